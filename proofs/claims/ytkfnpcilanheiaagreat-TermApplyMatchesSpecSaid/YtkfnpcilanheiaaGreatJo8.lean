/-  -/
import Derived.Deep.RegionHeld3
import Derived.Test.YtkfnpcilanheiaaGreatJo1
import Derived.Test.YtkfnpcilanheiaaGreatJo2
import Derived.Test.YtkfnpcilanheiaaGreatJo7
set_option linter.unusedVariables false
set_option linter.unusedSimpArgs false
/- A region that draws its order, by an invariant: each operation is shown once, whatever came before it. Conditions: none. -/
namespace Go.Proofs.YtkfnpcilanheiaaGreat
open Go Go.RowKit
set_option linter.unusedVariables false
set_option linter.unusedSimpArgs false

section
variable {P : Program} {ops : Array Oper} {Q : Exit → Act → World → Prop} {md : Region.Mode} {S : World → Prop}

/-- The step of one operation under an invariant. -/
def StepOk (P : Program) (md : Region.Mode) (ops : Array Oper) (Q : Exit → Act → World → Prop) (Inv : (Nat → Bool) → Act → World → Prop) (i : Nat) (o : Oper) : Prop :=
  ∀ (L : Nat → Bool) (a : Act) (w : World), Inv L a w → L i = false → (∀ e ∈ o.after, Region.binds md e = true → L e.on = true) →
    ∀ K : Act → World → Prop, Shut (∀ a' w', Inv (fun j => j == i || L j) a' w' → K a' w') → if Region.wanted o (yielded ops a.tmps) = true then Oper.wp P o a w K Q else K (a.put o.dst undef) w

/-- The steps of all operations that have not come up yet. -/
def Steps (P : Program) (md : Region.Mode) (ops : Array Oper) (Q : Exit → Act → World → Prop) (Inv : (Nat → Bool) → Act → World → Prop) (rs : List Nat) : Prop :=
  ∀ i ∈ rs, ∀ o, ops[i]? = some o → StepOk P md ops Q Inv i o
theorem Steps.nil {Inv : (Nat → Bool) → Act → World → Prop} : Steps P md ops Q Inv [] := fun _ h => by cases h
theorem Steps.cons {Inv : (Nat → Bool) → Act → World → Prop} {i : Nat} {o : Oper} {rs : List Nat} (ho : ops[i]? = some o) (h : StepOk P md ops Q Inv i o) (hs : Steps P md ops Q Inv rs) : Steps P md ops Q Inv (i :: rs) := fun j hj o' ho' => by
  rcases List.mem_cons.1 hj with rfl | hj
  · rw [ho] at ho'; cases ho'; exact h
  · exact hs j hj o' ho'

/-- How many have not come up. -/
def leftN (n : Nat) (listed : Array Bool) : Nat := ((List.range n).filter fun i => !listed.getD i false).length

theorem getD_setB (listed : Array Bool) (i j : Nat) (hi : i < listed.size) : (listed.setIfInBounds i true).getD j false = (j == i || listed.getD j false) := by
  by_cases h : j = i
  · subst h; simp [hi]
  · simp [Array.getElem?_setIfInBounds_ne (Ne.symm h), h]

theorem filter_lt {p q : Nat → Bool} : ∀ {l : List Nat} {i : Nat}, i ∈ l → q i = false → p i = true → (∀ j, q j = true → p j = true) → (l.filter q).length < (l.filter p).length
  | x :: l, i, hi, hq, hp, hle => by
    have hmono : ∀ l : List Nat, (l.filter q).length ≤ (l.filter p).length := fun l => by
      induction l with
      | nil => simp
      | cons y l ih =>
        simp only [List.filter_cons]
        by_cases h1 : q y = true
        · simp [h1, hle y h1]; exact ih
        · by_cases h2 : p y = true
          · simp [h1, h2]; omega
          · simp [h1, h2]; exact ih
    rcases List.mem_cons.1 hi with rfl | hi
    · have := hmono l
      simp [List.filter_cons, hq, hp]; omega
    · have ih := filter_lt hi hq hp hle
      simp only [List.filter_cons]
      by_cases h1 : q x = true
      · simp [h1, hle x h1]; exact ih
      · by_cases h2 : p x = true
        · simp [h1, h2]; omega
        · simp [h1, h2]; exact ih

/-- Every operation waits only for earlier ones. -/
def earlier (md : Region.Mode) (ops : Array Oper) : Bool := (List.range ops.size).all fun i => ((ops[i]?).map fun o => o.after.all fun e => !Region.binds md e || decide (e.on < i)).getD true

theorem all_of_ready {listed : Array Bool} (he : earlier md ops = true) (hsz : listed.size = ops.size) (hr : Region.ready md ops listed = []) : ∀ i, i < ops.size → listed.getD i false = true := by
  intro i
  induction i using Nat.strongRecOn with
  | _ i ih =>
    intro hi
    rcases hb : listed.getD i false with _ | _
    · exfalso
      have hmem : i ∈ Region.ready md ops listed := by
        refine mem_ready.2 ⟨?_, ops[i], by simp [hi], fun e hee hbd => ?_⟩
        · have : i < listed.size := by omega
          simp [this] at hb ⊢; exact hb
        · have h1 := List.all_eq_true.1 he i (List.mem_range.2 hi)
          simp only [hi, Array.getElem?_eq_getElem, Option.map_some, Option.getD_some] at h1
          have h2 := Array.all_eq_true'.1 h1 e hee
          have h3 : e.on < i := by simpa [hbd] using h2
          exact ih e.on h3 (by omega)
      rw [hr] at hmem
      cases hmem
    · rfl

theorem wpAnyH_inv (rs : List Nat) (Inv : (Nat → Bool) → Act → World → Prop) (hS : ∀ L a w, Inv L a w → S w)
    (he : earlier md ops = true) (hsteps : Steps P md ops Q Inv rs) (hdone : ∀ L a w, Inv L a w → (∀ i, i < ops.size → L i = true) → Q .normal a w) :
    ∀ (fuel : Nat) (listed : Array Bool) (a : Act) (w : World), listed.size = ops.size → (∀ i, i < ops.size → listed.getD i false = false → i ∈ rs) → leftN ops.size listed ≤ fuel → Inv (fun j => listed.getD j false) a w → wpAnyH P md ops Q S fuel listed a w := by
  intro fuel
  induction fuel with
  | zero =>
    intro listed a w hsz hrs hl hI
    have hall : ∀ i, i < ops.size → listed.getD i false = true := fun i hi => by
      rcases hb : listed.getD i false with _ | _
      · exfalso
        have : i ∈ (List.range ops.size).filter fun i => !listed.getD i false := List.mem_filter.2 ⟨List.mem_range.2 hi, by rw [hb]; rfl⟩
        have := List.length_pos_of_mem this
        unfold leftN at hl
        omega
      · rfl
    have hr : Region.ready md ops listed = [] := by
      refine List.eq_nil_iff_forall_not_mem.2 fun i hi => ?_
      obtain ⟨h1, o, ho, _⟩ := mem_ready.1 hi
      have hlt : i < ops.size := by
        rcases Nat.lt_or_ge i ops.size with h | h
        · exact h
        · rw [Array.getElem?_eq_none h] at ho; cases ho
      have h2 := hall i hlt
      have h3 : i < listed.size := by omega
      simp [h3] at h1 h2
      rw [h1] at h2; cases h2
    exact ⟨hr, hdone _ a w hI hall⟩
  | succ fuel ih =>
    intro listed a w hsz hrs hl hI
    refine ⟨fun hr => hdone _ a w hI (all_of_ready he hsz hr), fun i hi => ?_⟩
    obtain ⟨h1, o, ho, hdep⟩ := mem_ready.1 hi
    have hlt : i < ops.size := by
      rcases Nat.lt_or_ge i ops.size with h | h
      · exact h
      · rw [Array.getElem?_eq_none h] at ho; cases ho
    have hlf : listed.getD i false = false := by
      have h3 : i < listed.size := by omega
      simp [h3] at h1 ⊢; exact h1
    have hmem := hrs i hlt hlf
    have hfun : (fun j => (listed.setIfInBounds i true).getD j false) = fun j => j == i || listed.getD j false := funext fun j => getD_setB listed i j (by omega)
    refine wpOp_step ho (fun K hK => hsteps i hmem o ho (fun j => listed.getD j false) a w hI hlf hdep K ?_)
    intro a' w' hI'
    refine hK a' w' ⟨hS _ _ _ hI', ih _ a' w' (by simp [hsz]) (fun j hj hjf => hrs j hj ?_) ?_ (by rw [hfun]; exact hI')⟩
    · rw [getD_setB listed i j (by omega)] at hjf
      simp only [Bool.or_eq_false_iff] at hjf
      exact hjf.2
    · have : leftN ops.size (listed.setIfInBounds i true) < leftN ops.size listed := by
        unfold leftN
        refine filter_lt (i := i) (List.mem_range.2 hlt) ?_ ?_ ?_
        · rw [getD_setB listed i i (by omega)]; simp
        · rw [hlf]; rfl
        · intro j hj
          rw [getD_setB listed i j (by omega)] at hj
          simp only [Bool.not_or, Bool.and_eq_true] at hj
          exact hj.2
      omega

/-- The same, the invariant told by the frame at the beginning. -/
theorem wpAnyH_inv0 (rs : List Nat) (Inv : Act → (Nat → Bool) → Act → World → Prop) {fuel : Nat} {listed : Array Bool} {a0 : Act} {w : World} (hsz : listed.size = ops.size) (hrs : ((List.range ops.size).all fun i => listed.getD i false || rs.contains i) = true) (hf : leftN ops.size listed ≤ fuel) (he : earlier md ops = true)
    (hS : ∀ L a w, Inv a0 L a w → S w) (hi : Inv a0 (fun j => listed.getD j false) a0 w) (hsteps : Steps P md ops Q (Inv a0) rs) (hdone : ∀ L a w, Inv a0 L a w → (∀ i, i < ops.size → L i = true) → Q .normal a w) :
    wpAnyH P md ops Q S fuel listed a0 w :=
  wpAnyH_inv rs (Inv a0) hS he hsteps hdone fuel listed a0 w hsz (fun i hi hf => by
    have := List.all_eq_true.1 hrs i (List.mem_range.2 hi)
    rw [hf] at this
    simpa using this) hf hi

end
end Go.Proofs.YtkfnpcilanheiaaGreat
/- term.Clone: what holds within its region that draws, loads and stores the same cells. -/
namespace Go.Proofs.YtkfnpcilanheiaaGreat
open Go.RowKit NumB
set_option linter.unusedVariables false
set_option linter.unusedSimpArgs false

theorem row_to {w w' : World} {B n size : Nat} {e : TypeId} {v : Value} {xs : List Value} (hr : w.ownsRow B e size v n xs) (hb : Below w.heap.size w w') : w'.ownsRow B e size v n xs := by
  obtain ⟨h1, h2 | ⟨g, cap, cur, rfl, h3, h4, h5⟩⟩ := hr
  · exact ⟨h1, .inl h2⟩
  · refine ⟨h1, .inr ⟨g, cap, cur, rfl, h3, ?_, h5⟩⟩
    have hg : g < w.heap.size := by
      rcases Nat.lt_or_ge g w.heap.size with h | h
      · exact h
      · rw [Array.getElem?_eq_none h] at h4; cases h4
    exact (hb.block g hg).trans h4
theorem row_set {w : World} {B n size T i : Nat} {e : TypeId} {v u : Value} {xs : List Value} (hr : w.ownsRow B e size v n xs) (hT : T < B) : (w.setCell ⟨T, i, none⟩ u).ownsRow B e size v n xs := by
  obtain ⟨h1, h2 | ⟨g, cap, cur, rfl, h3, h4, h5⟩⟩ := hr
  · exact ⟨h1, .inl h2⟩
  · exact ⟨h1, .inr ⟨g, cap, cur, rfl, h3, (Below.heap_setCell w ⟨T, i, none⟩ u g (by show g ≠ T; omega)).trans h4, h5⟩⟩
theorem row_slice {w : World} {B n size : Nat} {e : TypeId} {v : Value} {xs : List Value} (hr : w.ownsRow B e size v n xs) : ∃ A c, v = .slice A n c := by
  rcases hr.2 with ⟨h, h0⟩ | ⟨g, cap, cur, h, _⟩
  · subst h0; exact ⟨none, 0, h⟩
  · exact ⟨_, cap, h⟩

/-- What holds within the region: T is the block of the argument. -/
def CloInv (W : World) (T : Nat) (c0 c1 c2 c3 a b c6 : Value) (xs ys : List Nat) (L : Nat → Bool) (s8 s9 s12 s13 s14 s15 s16 s17 : Value) (W' : World) : Prop :=
  (Kept (fun k => k = T) W W' ∧ T < W.heap.size) ∧ Blk W' T 27 #[c0, c1, c2, c3, if L 10 then s9 else a, if L 13 then s13 else b, c6] ∧
  (L 2 = true → s8 = a) ∧ (L 6 = true → s12 = b) ∧ (L 3 = true → OwnV .u32 89 W' W.heap.size s9 xs) ∧ (L 7 = true → OwnV .u32 89 W' W.heap.size s13 ys) ∧
  (L 8 = true → s14 = .pointer (some ⟨T, 3, none⟩)) ∧ (L 9 = true → s15 = .pointer (some ⟨T, 4, none⟩)) ∧ (L 11 = true → s16 = .pointer (some ⟨T, 3, none⟩)) ∧ (L 12 = true → s17 = .pointer (some ⟨T, 5, none⟩)) ∧
  (L 10 = true → L 2 = true ∧ L 3 = true) ∧ (L 13 = true → L 6 = true ∧ L 7 = true)
section
variable {W W' W2 : World} {T : Nat} {c0 c1 c2 c3 a b c6 : Value} {xs ys : List Nat} {L : Nat → Bool} {s8 s9 s12 s13 s14 s15 s16 s17 : Value}
theorem CloInv.call3 (h : CloInv W T c0 c1 c2 c3 a b c6 xs ys L s8 s9 s12 s13 s14 s15 s16 s17 W') (hL : L 3 = false) (hb : Below W'.heap.size W' W2) {v : Value} (hv : OwnV .u32 89 W2 W.heap.size v xs) : CloInv W T c0 c1 c2 c3 a b c6 xs ys (fun j => j == 3 || L j) s8 v s12 s13 s14 s15 s16 s17 W2 := by
  obtain ⟨h1, h2, h3, h4, h5, h6, h7, h8, h9, h10, h11, h12⟩ := h
  have n10 : L 10 = false := by cases hh : L 10 with
    | false => rfl
    | true => have := (h11 hh).2; rw [hL] at this; cases this
  rw [n10] at h2
  refine ⟨⟨h1.1.trans (Kept.of_below hb), h1.2⟩, ?_, h3, h4, fun _ => hv, fun h => row_to (h6 h) hb, h7, h8, h9, h10, fun h => absurd (n10.symm.trans h) (by simp), h12⟩
  show Blk W2 _ _ #[c0, c1, c2, c3, if (false || L 10) then v else a, if (false || L 13) then s13 else b, c6]
  rw [Bool.false_or, Bool.false_or, n10]
  exact h2.to hb
theorem CloInv.call7 (h : CloInv W T c0 c1 c2 c3 a b c6 xs ys L s8 s9 s12 s13 s14 s15 s16 s17 W') (hL : L 7 = false) (hb : Below W'.heap.size W' W2) {v : Value} (hv : OwnV .u32 89 W2 W.heap.size v ys) : CloInv W T c0 c1 c2 c3 a b c6 xs ys (fun j => j == 7 || L j) s8 s9 s12 v s14 s15 s16 s17 W2 := by
  obtain ⟨h1, h2, h3, h4, h5, h6, h7, h8, h9, h10, h11, h12⟩ := h
  have n13 : L 13 = false := by cases hh : L 13 with
    | false => rfl
    | true => have := (h12 hh).2; rw [hL] at this; cases this
  rw [n13] at h2
  refine ⟨⟨h1.1.trans (Kept.of_below hb), h1.2⟩, ?_, h3, h4, fun h => row_to (h5 h) hb, fun _ => hv, h7, h8, h9, h10, h11, fun h => absurd (n13.symm.trans h) (by simp)⟩
  show Blk W2 _ _ #[c0, c1, c2, c3, if (false || L 10) then s9 else a, if (false || L 13) then v else b, c6]
  rw [Bool.false_or, Bool.false_or, n13]
  exact h2.to hb
theorem CloInv.store10 (h : CloInv W T c0 c1 c2 c3 a b c6 xs ys L s8 s9 s12 s13 s14 s15 s16 s17 W') (hL2 : L 2 = true) (hL3 : L 3 = true) : CloInv W T c0 c1 c2 c3 a b c6 xs ys (fun j => j == 10 || L j) s8 s9 s12 s13 s14 s15 s16 s17 (W'.setCell ⟨T, 4, none⟩ s9) := by
  obtain ⟨h1, h2, h3, h4, h5, h6, h7, h8, h9, h10, h11, h12⟩ := h
  refine ⟨⟨h1.1.trans (Kept.setCell W' ⟨T, 4, none⟩ _), h1.2⟩, ?_, h3, h4, fun h => row_set (h5 h) h1.2, fun h => row_set (h6 h) h1.2, h7, h8, h9, h10, fun _ => ⟨hL2, hL3⟩, h12⟩
  have := h2.set_ 4 s9
  simpa using this
theorem CloInv.store13 (h : CloInv W T c0 c1 c2 c3 a b c6 xs ys L s8 s9 s12 s13 s14 s15 s16 s17 W') (hL6 : L 6 = true) (hL7 : L 7 = true) : CloInv W T c0 c1 c2 c3 a b c6 xs ys (fun j => j == 13 || L j) s8 s9 s12 s13 s14 s15 s16 s17 (W'.setCell ⟨T, 5, none⟩ s13) := by
  obtain ⟨h1, h2, h3, h4, h5, h6, h7, h8, h9, h10, h11, h12⟩ := h
  refine ⟨⟨h1.1.trans (Kept.setCell W' ⟨T, 5, none⟩ _), h1.2⟩, ?_, h3, h4, fun h => row_set (h5 h) h1.2, fun h => row_set (h6 h) h1.2, h7, h8, h9, h10, h11, fun _ => ⟨hL6, hL7⟩⟩
  have := h2.set_ 5 s13
  simpa using this
theorem CloInv.load2 (h : CloInv W T c0 c1 c2 c3 a b c6 xs ys L s8 s9 s12 s13 s14 s15 s16 s17 W') : CloInv W T c0 c1 c2 c3 a b c6 xs ys (fun j => j == 2 || L j) a s9 s12 s13 s14 s15 s16 s17 W' := by
  obtain ⟨h1, h2, h3, h4, h5, h6, h7, h8, h9, h10, h11, h12⟩ := h
  exact ⟨h1, h2, fun _ => rfl, h4, h5, h6, h7, h8, h9, h10, fun h => ⟨rfl, (h11 h).2⟩, h12⟩
theorem CloInv.load6 (h : CloInv W T c0 c1 c2 c3 a b c6 xs ys L s8 s9 s12 s13 s14 s15 s16 s17 W') : CloInv W T c0 c1 c2 c3 a b c6 xs ys (fun j => j == 6 || L j) s8 s9 b s13 s14 s15 s16 s17 W' := by
  obtain ⟨h1, h2, h3, h4, h5, h6, h7, h8, h9, h10, h11, h12⟩ := h
  exact ⟨h1, h2, h3, fun _ => rfl, h5, h6, h7, h8, h9, h10, h11, fun h => ⟨rfl, (h12 h).2⟩⟩
theorem CloInv.cell4 (h : CloInv W T c0 c1 c2 c3 a b c6 xs ys L s8 s9 s12 s13 s14 s15 s16 s17 W') (hL : L 2 = false) : W'.cell? ⟨T, 4, none⟩ = some a := by
  obtain ⟨h1, h2, h3, h4, h5, h6, h7, h8, h9, h10, h11, h12⟩ := h
  have n10 : L 10 = false := by cases hh : L 10 with
    | false => rfl
    | true => have := (h11 hh).1; rw [hL] at this; cases this
  rw [n10] at h2
  exact h2.cell 4
theorem CloInv.cell5 (h : CloInv W T c0 c1 c2 c3 a b c6 xs ys L s8 s9 s12 s13 s14 s15 s16 s17 W') (hL : L 6 = false) : W'.cell? ⟨T, 5, none⟩ = some b := by
  obtain ⟨h1, h2, h3, h4, h5, h6, h7, h8, h9, h10, h11, h12⟩ := h
  have n13 : L 13 = false := by cases hh : L 13 with
    | false => rfl
    | true => have := (h12 hh).1; rw [hL] at this; cases this
  rw [n13] at h2
  exact h2.cell 5
theorem CloInv.addr8 (h : CloInv W T c0 c1 c2 c3 a b c6 xs ys L s8 s9 s12 s13 s14 s15 s16 s17 W') : CloInv W T c0 c1 c2 c3 a b c6 xs ys (fun j => j == 8 || L j) s8 s9 s12 s13 (.pointer (some ⟨T, 3, none⟩)) s15 s16 s17 W' := by
  obtain ⟨h1, h2, h3, h4, h5, h6, h7, h8, h9, h10, h11, h12⟩ := h
  exact ⟨h1, h2, h3, h4, h5, h6, fun _ => rfl, h8, h9, h10, h11, h12⟩
theorem CloInv.addr9 (h : CloInv W T c0 c1 c2 c3 a b c6 xs ys L s8 s9 s12 s13 s14 s15 s16 s17 W') : CloInv W T c0 c1 c2 c3 a b c6 xs ys (fun j => j == 9 || L j) s8 s9 s12 s13 s14 (.pointer (some ⟨T, 4, none⟩)) s16 s17 W' := by
  obtain ⟨h1, h2, h3, h4, h5, h6, h7, h8, h9, h10, h11, h12⟩ := h
  exact ⟨h1, h2, h3, h4, h5, h6, h7, fun _ => rfl, h9, h10, h11, h12⟩
theorem CloInv.addr11 (h : CloInv W T c0 c1 c2 c3 a b c6 xs ys L s8 s9 s12 s13 s14 s15 s16 s17 W') : CloInv W T c0 c1 c2 c3 a b c6 xs ys (fun j => j == 11 || L j) s8 s9 s12 s13 s14 s15 (.pointer (some ⟨T, 3, none⟩)) s17 W' := by
  obtain ⟨h1, h2, h3, h4, h5, h6, h7, h8, h9, h10, h11, h12⟩ := h
  exact ⟨h1, h2, h3, h4, h5, h6, h7, h8, fun _ => rfl, h10, h11, h12⟩
theorem CloInv.addr12 (h : CloInv W T c0 c1 c2 c3 a b c6 xs ys L s8 s9 s12 s13 s14 s15 s16 s17 W') : CloInv W T c0 c1 c2 c3 a b c6 xs ys (fun j => j == 12 || L j) s8 s9 s12 s13 s14 s15 s16 (.pointer (some ⟨T, 5, none⟩)) W' := by
  obtain ⟨h1, h2, h3, h4, h5, h6, h7, h8, h9, h10, h11, h12⟩ := h
  exact ⟨h1, h2, h3, h4, h5, h6, h7, h8, h9, fun _ => rfl, h11, h12⟩
theorem CloInv.done (h : CloInv W T c0 c1 c2 c3 a b c6 xs ys L s8 s9 s12 s13 s14 s15 s16 s17 W') (hall : ∀ i, i < 14 → L i = true) : Kept (fun k => k = T) W W' ∧ Blk W' T 27 #[c0, c1, c2, c3, s9, s13, c6] ∧ OwnV .u32 89 W' W.heap.size s9 xs ∧ OwnV .u32 89 W' W.heap.size s13 ys := by
  obtain ⟨h1, h2, h3, h4, h5, h6, h7, h8, h9, h10, h11, h12⟩ := h
  rw [hall 10 (by omega), hall 13 (by omega)] at h2
  exact ⟨h1.1, h2, h5 (hall 3 (by omega)), h6 (hall 7 (by omega))⟩
end
end Go.Proofs.YtkfnpcilanheiaaGreat
