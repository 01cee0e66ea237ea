/-  -/
import Derived.Deep.AppendLies
import Derived.Deep.RegionLaw
import Derived.Deep.RegionHeld3
import Derived.Test.YtdmhkhnnomdkcaaGreatDoorJo2
import Derived.Test.YtdmhkhnnomdkcaaGreatDoorJo14
set_option linter.unusedVariables false
set_option linter.unusedSimpArgs false
/- fetterlockref1.limbs. Conditions: at most 100000 digits. -/
namespace Go.Proofs.YtdmhkhnnomdkcaaGreatDoor
open Go.RowKit NumB
set_option linter.unusedVariables false
set_option linter.unusedSimpArgs false

/-- An append onto a row that the call owns, as a step of a region that draws. -/
theorem step_push {P : Program} {ops : Array Oper} {o : Oper} {a : Act} {K : Act → World → Prop} {Q : Exit → Act → World → Prop} {E : Prop} (w : World) (hgd : o.guard = none) (s x : Operand) (t : TypeId)
    (ho : o.op = .call { callee := .builtin .append, args := #[s, x], argTypes := #[t, t] })
    (k : IntKind) (T : TypeId) (bytes : Nat) (ht : P.underlying t = some (.slice T)) (hinfo : (P.info? T).map (fun i => (i.zero, i.size, i.bytes)) = some (some (.int k 0), 1, bytes)) (hb8 : bytes ≤ 8)
    (B : Nat) (v : Value) (xs ys : List Nat) (hs : a.eval s = v) (hx : a.eval x = .slice (some ⟨w.heap.size, 0, none⟩) ys.length ys.length) (hy : 0 < ys.length) (hown : OwnV k T w B v xs) (hn : xs.length + ys.length ≤ 1000000) (hB : B ≤ w.heap.size) (C : Array Value) (hC : C = (cellsN k ys).toArray)
    (h : ∀ v' w', OwnV k T w' B v' (xs ++ ys) → Below B w w' → K (a.put o.dst v') w') : if Region.wanted o (yielded ops a.tmps) = true then Oper.wp P o a (w.alloc (.cells C T)) K Q else E := by
  subst hC
  obtain ⟨i0, hi0, hz0, hz1, hz2⟩ := info_parts hinfo
  refine step_append_lies _ hgd s x t ho B T i0 (.int k 0) 1 bytes ht hi0 hz0 hz1 hz2 rfl (by decide) v xs.length (cellsN k xs) hs (hown.alloc _) ⟨w.heap.size, 0, none⟩ ys.length ys.length (cellsN k ys) hx (by rw [cellsN_len]; omega) news_block cellsN_one hy (by unfold maxLen; omega) ?_ (by simp; omega) _ rfl ?_
  · have : (xs.length + ys.length) * bytes ≤ 1000000 * 8 := Nat.mul_le_mul hn hb8
    omega
  · intro g cap w' h1 h2 _ _
    refine h _ w' ?_ (((Below.refl B w).alloc hB _).grown h2 (by simp; omega) (fun g hg => hown.blk g hg))
    unfold OwnV
    rw [List.length_append, ← cellsN_append]
    exact h1

/-- Two digits make a limb. -/
theorem or_pair (p q : Nat) (hp : p < 65536) (hq : q < 65536) : bits .or .u32 (p : Int) ((q : Int) * 65536) = ((p + q * 65536 : Nat) : Int) := by
  have h := or_u32 p (q * 65536) (by omega) (by omega)
  have e : p ||| q * 65536 = p + q * 65536 := by
    rw [Nat.or_comm, show (65536 : Nat) = 2 ^ 16 from rfl, ← Nat.shiftLeft_eq, ← Nat.shiftLeft_add_eq_or_of_lt (by omega), Nat.shiftLeft_eq]; omega
  rw [e] at h
  rw [← h]
  congr 1
theorem pair_drop {xs : List Nat} {j p q : Nat} (hj : j < xs.length) (hp : xs.getD j 0 = p) (hq : xs.getD (j + 1) 0 = q) : val W16 (xs.drop j) = p + q * 65536 + 4294967296 * val W16 (xs.drop (j + 2)) := by
  have e1 : xs.drop j = p :: xs.drop (j + 1) := by rw [List.drop_eq_getElem_cons hj, ← getD_lt hj, hp]
  rw [e1, val_cons]
  have : W16 = 65536 := rfl
  rcases Nat.lt_or_ge (j + 1) xs.length with h | h
  · have e2 : xs.drop (j + 1) = q :: xs.drop (j + 2) := by rw [List.drop_eq_getElem_cons h, ← getD_lt h, hq]
    rw [e2, val_cons, this]; omega
  · have e3 : q = 0 := by rw [← hq, List.getD_eq_getElem?_getD, List.getElem?_eq_none h]; rfl
    rw [List.drop_eq_nil_of_le h, List.drop_eq_nil_of_le (by omega), val_nil, e3]; omega
theorem pair_step {out : List Nat} {c c' l x : Nat} (hc : c = l + 4294967296 * c') (hl : l < 4294967296) (h0 : c ≠ 0) (h : out ++ digs W32 c = digs W32 x) : (out ++ [l]) ++ digs W32 c' = digs W32 x := by
  rw [← h, digs_step W32_gt h0, List.append_assoc]
  have : W32 = 4294967296 := rfl
  have e1 : c % W32 = l := by rw [this]; omega
  have e2 : c / W32 = c' := by rw [this]; omega
  rw [e1, e2]; rfl
theorem drop_pos {x j : Nat} (hj : j < (digs W16 x).length) : val W16 ((digs W16 x).drop j) ≠ 0 := by
  intro h
  have h1 := val_split W16 (digs W16 x) j
  rw [h, Nat.mul_zero, Nat.add_zero, val_digs W16_gt] at h1
  have h2 := val_take_lt (ok_digs W16_gt x) (Nat.le_of_lt hj)
  rw [← h1] at h2
  have := digs_len_le W16_gt h2
  omega

set_option maxRecDepth 100000 in
set_option maxHeartbeats 3200000 in
theorem rlimbs_any (x : Nat) (va : Value) (w : World) (ha : Nat16 w va x) (hx : (digs W16 x).length ≤ 100000) :
    Calls Tryz.prog 40 #[va] w fun e w' => ∃ v, e = .returned v ∧ Nat32 w' v x ∧ Below w.heap.size w w' := by
  have HA := Lib.hid ha
  have HP := Lib.hid (fun j (h : j < (digs W16 x).length) => drop_pos h)
  obtain ⟨A, c, rfl, hc, hm, hr⟩ := ha
  have HX := Lib.hid (And.intro (val_digs W16_gt x) (ok_digs W16_gt x))
  generalize hxs : digs W16 x = xs at *
  have HSL : Hid (Sl .i64 w (.slice A xs.length c) xs) := by have := HA.out; unfold Nat16 at this; rw [hxs] at this; exact this
  clear HA hxs
  generalize hn : xs.length = n at *
  have HN := Lib.hid hn
  have HR := Lib.hid hr
  clear hn hr
  unfold maxLen at hm
  go_enter Tryz.func40, Tryz.ntmps40
  go_wp2
  go_loopg [3, 4] n (fun gk s3 s4 wr => ∃ (j : Nat) (out : List Nat), s4 = .int .i64 (j : Int) ∧ gk = n - j ∧ j ≤ n + 1 ∧ Hid (out.length ≤ j) ∧ Hid (OwnV .u32 35 wr w.heap.size s3 out ∧ out ++ digs W32 (val W16 (xs.drop j)) = digs W32 x ∧ Below w.heap.size w wr))
  case atStart => exact ⟨0, [], rfl, by omega, by omega, by unfold Hid; simp, OwnV.nil_ _, by rw [List.drop_zero, HX.out.1]; rfl, Below.refl _ _⟩
  case round =>
    obtain ⟨j, out, rfl, rfl, hj, HOL, HQ⟩ := hrel
    by_cases h0 : j < n
    · obtain ⟨b, o, p, rfl, hb, hpe, hcell⟩ := (HR.out.below HQ.out.2.2).at_ (i := j) (by omega)
      obtain ⟨q, hqe⟩ : ∃ q, xs.getD (j + 1) 0 = q := ⟨_, rfl⟩
      have hpb : p < 65536 := by rw [← hpe]; exact HX.out.2.getD (by decide) _
      have hqb : q < 65536 := by rw [← hqe]; exact HX.out.2.getD (by decide) _
      have HPE := Lib.hid hpe
      have HQE := Lib.hid hqe
      have hor := or_pair p q hpb hqb
      obtain ⟨l, hl, hlb, HL⟩ : ∃ l : Nat, (p + q * 65536 : Nat) = l ∧ l < 4294967296 ∧ Hid (l = p + q * 65536) := ⟨_, rfl, by omega, rfl⟩
      rw [hl] at hor
      have HS := Lib.hid (HSL.out.to HQ.out.2.2)
      have HLEN : Hid (out.length + [l].length ≤ 1000000) := by have := HOL.out; unfold Hid; simp; omega
      obtain ⟨j1, hj1, HJ1⟩ : ∃ j1 : Nat, (j : Int) + 1 = (j1 : Int) ∧ Hid (j1 = j + 1) := ⟨j + 1, by omega, rfl⟩
      have hj1b : j1 < 200000 := by have := HJ1.out; omega
      have HD : Hid (Calls Tryz.prog 62 #[.slice (some ⟨b, o, none⟩) n c, .int .i64 (j1 : Int)] wr.drew fun e w' => e = .returned (.int .i64 (q : Int)) ∧ wr.drew = w') := rdigit_eq xs _ j1 q wr.drew (HS.out.to (Below.refl _ _).drew) (by omega) (by rw [HJ1.out]; exact hqe)
      have HOW := Lib.hid (HQ.out.1.to (Below.refl wr.heap.size wr).drew)
      clear hpe hqe hl
      have hw1 : IntKind.i64.wrap (j1 : Int) = (j1 : Int) := by rw [IntKind.wrap_i64]; omega
      have hw2 : IntKind.u32.wrap (p : Int) = (p : Int) := by rw [IntKind.wrap_u32]; omega
      have hw3 : IntKind.u32.wrap (q : Int) = (q : Int) := by rw [IntKind.wrap_u32]; omega
      have hw4 : IntKind.u32.wrap ((q : Int) * 65536) = (q : Int) * 65536 := by rw [IntKind.wrap_u32]; omega
      go_wp2_with fail
      go_region_law (first
        | (refine step_push _ rfl (.tmp 11) (.tmp 24) 22 rfl .u32 35 4 Tryz.underlying22 info_u32 (by decide) w.heap.size _ out [l] (by rfl) (by rfl) (by simp) HOW.out HLEN.out HQ.out.2.2.size _ rfl ?_; intro v1 w1 hown1 hb1)
        | (go_simp; go_at_call 62; refine HD.out.mono ?_; rintro e w' ⟨rfl, rfl⟩))
      all_goals
        have HW1 := Lib.hid hown1
        have HB1 := Lib.hid ((HQ.out.2.2.drew).trans hb1)
        clear hown1 hb1
        go_wp2
        go_roundg (n - (j + 2))
        case measure => omega
        case rel =>
          refine ⟨j + 2, out ++ [l], by go_num, rfl, by omega, ?_, HW1.out, ?_, HB1.out⟩
          · have := HOL.out; unfold Hid; simp; omega
          · refine pair_step (c := val W16 (xs.drop j)) ?_ hlb (HP.out j h0) HQ.out.2.1
            rw [HL.out]; exact pair_drop (by rw [HN.out]; exact h0) HPE.out HQE.out
    · have hd : xs.drop j = [] := List.drop_eq_nil_of_le (by rw [HN.out]; omega)
      go_wp2
      go_ret
      obtain ⟨h1, h2, h3⟩ := HQ.out
      rw [hd, val_nil, digs_zero, List.append_nil] at h2
      subst h2
      exact ⟨_, rfl, h1.sl, h3⟩
end Go.Proofs.YtdmhkhnnomdkcaaGreatDoor
/- A region that draws its order, by an invariant: each operation is shown once, whatever came before it. Conditions: none. -/
namespace Go.Proofs.YtdmhkhnnomdkcaaGreatDoor
open Go Go.RowKit
set_option linter.unusedVariables false
set_option linter.unusedSimpArgs false

section
variable {P : Program} {ops : Array Oper} {Q : Exit → Act → World → Prop} {md : Region.Mode} {S : World → Prop}

/-- The step of one operation under an invariant. -/
def StepOk (P : Program) (md : Region.Mode) (ops : Array Oper) (Q : Exit → Act → World → Prop) (Inv : (Nat → Bool) → Act → World → Prop) (i : Nat) (o : Oper) : Prop :=
  ∀ (L : Nat → Bool) (a : Act) (w : World), Inv L a w → L i = false → (∀ e ∈ o.after, Region.binds md e = true → L e.on = true) →
    ∀ K : Act → World → Prop, Shut (∀ a' w', Inv (fun j => j == i || L j) a' w' → K a' w') → if Region.wanted o (yielded ops a.tmps) = true then Oper.wp P o a w K Q else K (a.put o.dst undef) w

/-- The steps of all operations that have not come up yet. -/
def Steps (P : Program) (md : Region.Mode) (ops : Array Oper) (Q : Exit → Act → World → Prop) (Inv : (Nat → Bool) → Act → World → Prop) (rs : List Nat) : Prop :=
  ∀ i ∈ rs, ∀ o, ops[i]? = some o → StepOk P md ops Q Inv i o
theorem Steps.nil {Inv : (Nat → Bool) → Act → World → Prop} : Steps P md ops Q Inv [] := fun _ h => by cases h
theorem Steps.cons {Inv : (Nat → Bool) → Act → World → Prop} {i : Nat} {o : Oper} {rs : List Nat} (ho : ops[i]? = some o) (h : StepOk P md ops Q Inv i o) (hs : Steps P md ops Q Inv rs) : Steps P md ops Q Inv (i :: rs) := fun j hj o' ho' => by
  rcases List.mem_cons.1 hj with rfl | hj
  · rw [ho] at ho'; cases ho'; exact h
  · exact hs j hj o' ho'

/-- How many have not come up. -/
def leftN (n : Nat) (listed : Array Bool) : Nat := ((List.range n).filter fun i => !listed.getD i false).length

theorem getD_setB (listed : Array Bool) (i j : Nat) (hi : i < listed.size) : (listed.setIfInBounds i true).getD j false = (j == i || listed.getD j false) := by
  by_cases h : j = i
  · subst h; simp [hi]
  · simp [Array.getElem?_setIfInBounds_ne (Ne.symm h), h]

theorem filter_lt {p q : Nat → Bool} : ∀ {l : List Nat} {i : Nat}, i ∈ l → q i = false → p i = true → (∀ j, q j = true → p j = true) → (l.filter q).length < (l.filter p).length
  | x :: l, i, hi, hq, hp, hle => by
    have hmono : ∀ l : List Nat, (l.filter q).length ≤ (l.filter p).length := fun l => by
      induction l with
      | nil => simp
      | cons y l ih =>
        simp only [List.filter_cons]
        by_cases h1 : q y = true
        · simp [h1, hle y h1]; exact ih
        · by_cases h2 : p y = true
          · simp [h1, h2]; omega
          · simp [h1, h2]; exact ih
    rcases List.mem_cons.1 hi with rfl | hi
    · have := hmono l
      simp [List.filter_cons, hq, hp]; omega
    · have ih := filter_lt hi hq hp hle
      simp only [List.filter_cons]
      by_cases h1 : q x = true
      · simp [h1, hle x h1]; exact ih
      · by_cases h2 : p x = true
        · simp [h1, h2]; omega
        · simp [h1, h2]; exact ih

/-- Every operation waits only for earlier ones. -/
def earlier (md : Region.Mode) (ops : Array Oper) : Bool := (List.range ops.size).all fun i => ((ops[i]?).map fun o => o.after.all fun e => !Region.binds md e || decide (e.on < i)).getD true

theorem all_of_ready {listed : Array Bool} (he : earlier md ops = true) (hsz : listed.size = ops.size) (hr : Region.ready md ops listed = []) : ∀ i, i < ops.size → listed.getD i false = true := by
  intro i
  induction i using Nat.strongRecOn with
  | _ i ih =>
    intro hi
    rcases hb : listed.getD i false with _ | _
    · exfalso
      have hmem : i ∈ Region.ready md ops listed := by
        refine mem_ready.2 ⟨?_, ops[i], by simp [hi], fun e hee hbd => ?_⟩
        · have : i < listed.size := by omega
          simp [this] at hb ⊢; exact hb
        · have h1 := List.all_eq_true.1 he i (List.mem_range.2 hi)
          simp only [hi, Array.getElem?_eq_getElem, Option.map_some, Option.getD_some] at h1
          have h2 := Array.all_eq_true'.1 h1 e hee
          have h3 : e.on < i := by simpa [hbd] using h2
          exact ih e.on h3 (by omega)
      rw [hr] at hmem
      cases hmem
    · rfl

theorem wpAnyH_inv (rs : List Nat) (Inv : (Nat → Bool) → Act → World → Prop) (hS : ∀ L a w, Inv L a w → S w)
    (he : earlier md ops = true) (hsteps : Steps P md ops Q Inv rs) (hdone : ∀ L a w, Inv L a w → (∀ i, i < ops.size → L i = true) → Q .normal a w) :
    ∀ (fuel : Nat) (listed : Array Bool) (a : Act) (w : World), listed.size = ops.size → (∀ i, i < ops.size → listed.getD i false = false → i ∈ rs) → leftN ops.size listed ≤ fuel → Inv (fun j => listed.getD j false) a w → wpAnyH P md ops Q S fuel listed a w := by
  intro fuel
  induction fuel with
  | zero =>
    intro listed a w hsz hrs hl hI
    have hall : ∀ i, i < ops.size → listed.getD i false = true := fun i hi => by
      rcases hb : listed.getD i false with _ | _
      · exfalso
        have : i ∈ (List.range ops.size).filter fun i => !listed.getD i false := List.mem_filter.2 ⟨List.mem_range.2 hi, by rw [hb]; rfl⟩
        have := List.length_pos_of_mem this
        unfold leftN at hl
        omega
      · rfl
    have hr : Region.ready md ops listed = [] := by
      refine List.eq_nil_iff_forall_not_mem.2 fun i hi => ?_
      obtain ⟨h1, o, ho, _⟩ := mem_ready.1 hi
      have hlt : i < ops.size := by
        rcases Nat.lt_or_ge i ops.size with h | h
        · exact h
        · rw [Array.getElem?_eq_none h] at ho; cases ho
      have h2 := hall i hlt
      have h3 : i < listed.size := by omega
      simp [h3] at h1 h2
      rw [h1] at h2; cases h2
    exact ⟨hr, hdone _ a w hI hall⟩
  | succ fuel ih =>
    intro listed a w hsz hrs hl hI
    refine ⟨fun hr => hdone _ a w hI (all_of_ready he hsz hr), fun i hi => ?_⟩
    obtain ⟨h1, o, ho, hdep⟩ := mem_ready.1 hi
    have hlt : i < ops.size := by
      rcases Nat.lt_or_ge i ops.size with h | h
      · exact h
      · rw [Array.getElem?_eq_none h] at ho; cases ho
    have hlf : listed.getD i false = false := by
      have h3 : i < listed.size := by omega
      simp [h3] at h1 ⊢; exact h1
    have hmem := hrs i hlt hlf
    have hfun : (fun j => (listed.setIfInBounds i true).getD j false) = fun j => j == i || listed.getD j false := funext fun j => getD_setB listed i j (by omega)
    refine wpOp_step ho (fun K hK => hsteps i hmem o ho (fun j => listed.getD j false) a w hI hlf hdep K ?_)
    intro a' w' hI'
    refine hK a' w' ⟨hS _ _ _ hI', ih _ a' w' (by simp [hsz]) (fun j hj hjf => hrs j hj ?_) ?_ (by rw [hfun]; exact hI')⟩
    · rw [getD_setB listed i j (by omega)] at hjf
      simp only [Bool.or_eq_false_iff] at hjf
      exact hjf.2
    · have : leftN ops.size (listed.setIfInBounds i true) < leftN ops.size listed := by
        unfold leftN
        refine filter_lt (i := i) (List.mem_range.2 hlt) ?_ ?_ ?_
        · rw [getD_setB listed i i (by omega)]; simp
        · rw [hlf]; rfl
        · intro j hj
          rw [getD_setB listed i j (by omega)] at hj
          simp only [Bool.not_or, Bool.and_eq_true] at hj
          exact hj.2
      omega

/-- The same, the invariant told by the frame at the beginning. -/
theorem wpAnyH_inv0 (rs : List Nat) (Inv : Act → (Nat → Bool) → Act → World → Prop) {fuel : Nat} {listed : Array Bool} {a0 : Act} {w : World} (hsz : listed.size = ops.size) (hrs : ((List.range ops.size).all fun i => listed.getD i false || rs.contains i) = true) (hf : leftN ops.size listed ≤ fuel) (he : earlier md ops = true)
    (hS : ∀ L a w, Inv a0 L a w → S w) (hi : Inv a0 (fun j => listed.getD j false) a0 w) (hsteps : Steps P md ops Q (Inv a0) rs) (hdone : ∀ L a w, Inv a0 L a w → (∀ i, i < ops.size → L i = true) → Q .normal a w) :
    wpAnyH P md ops Q S fuel listed a0 w :=
  wpAnyH_inv rs (Inv a0) hS he hsteps hdone fuel listed a0 w hsz (fun i hi hf => by
    have := List.all_eq_true.1 hrs i (List.mem_range.2 hi)
    rw [hf] at this
    simpa using this) hf hi

/-- The list of those that have not come up, by reckoning. -/
theorem rs_ok {rs : List Nat} {listed : Array Bool} {n : Nat} (h : ((List.range n).all fun i => listed.getD i false || rs.contains i) = true) : ∀ i, i < n → listed.getD i false = false → i ∈ rs := fun i hi hf => by
  have := List.all_eq_true.1 h i (List.mem_range.2 hi)
  rw [hf] at this
  simpa using this
end
end Go.Proofs.YtdmhkhnnomdkcaaGreatDoor
