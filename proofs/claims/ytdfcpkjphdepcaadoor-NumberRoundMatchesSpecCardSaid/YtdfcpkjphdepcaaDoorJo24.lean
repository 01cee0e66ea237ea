/- fetterlockref1.Of: a number as a fraction of naturals in base 2^16. Conditions: at most 100000 limbs. A region that draws its order, by an invariant: each operation is shown once, whatever came before it. Conditions: none. -/
import Derived.Deep.RegionHeld3
import Derived.Test.YtdfcpkjphdepcaaDoorJo2
import Derived.Test.YtdfcpkjphdepcaaDoorJo21
import Derived.Test.YtdfcpkjphdepcaaDoorJo22
import Derived.Test.YtdfcpkjphdepcaaDoorJo23
set_option linter.unusedVariables false
set_option linter.unusedSimpArgs false
namespace Go.Proofs.YtdfcpkjphdepcaaDoor
open Go.RowKit NumB
set_option linter.unusedVariables false
set_option linter.unusedSimpArgs false

/-- A fraction of the reference's. -/
def RV (w : World) (v : Value) (neg : Bool) (x y : Nat) : Prop := ∃ A B, v = .agg #[.bool neg, A, B] ∧ Nat16 w A x ∧ Nat16 w B y
theorem RV.to {w w' : World} {v : Value} {neg : Bool} {x y : Nat} (h : RV w v neg x y) (hb : Below w.heap.size w w') : RV w' v neg x y := by
  obtain ⟨A, B, e, h1, h2⟩ := h
  exact ⟨A, B, e, h1.to hb, h2.to hb⟩
theorem Nat16.form {w : World} {v : Value} {x : Nat} (h : Nat16 w v x) : ∃ A n c, v = .slice A n c ∧ n = (digs W16 x).length := by
  obtain ⟨A, c, e, _⟩ := h
  exact ⟨A, _, c, e, rfl⟩
theorem RV.form {w : World} {v : Value} {neg : Bool} {x y : Nat} (h : RV w v neg x y) : ∃ A n c B m d, v = .agg #[.bool neg, .slice A n c, .slice B m d] ∧ n = (digs W16 x).length ∧ m = (digs W16 y).length := by
  obtain ⟨A, B, rfl, h1, h2⟩ := h
  obtain ⟨A1, n, c, rfl, e1⟩ := h1.form
  obtain ⟨B1, m, d, rfl, e2⟩ := h2.form
  exact ⟨_, _, _, _, _, _, rfl, e1, e2⟩
theorem RV.parts {w : World} {s neg : Bool} {A B : Value} {x y : Nat} (h : RV w (.agg #[.bool s, A, B]) neg x y) : s = neg ∧ Nat16 w A x ∧ Nat16 w B y := by
  obtain ⟨A', B', e, h1, h2⟩ := h
  simp only [Value.agg.injEq, Array.mk.injEq, List.cons.injEq, Value.bool.injEq, and_true] at e
  obtain ⟨rfl, rfl, rfl⟩ := e
  exact ⟨rfl, h1, h2⟩
theorem Nat16.put3 {w : World} {v : Value} {x g : Nat} {t : TypeId} {neg : Bool} {A A' : Option Addr} {n m ca cb : Nat} (h : Nat16 w v x) (hg : Blk w g t #[.bool neg, .slice A n ca, .slice A' m cb]) (a b c : Value) : Nat16 (put3 w g a b c) v x :=
  Sl.boxed h hg noInts_num (Nat.le_of_eq (put3_size w g a b c).symm) (put3_far w g a b c)
theorem RV.put3 {w : World} {v : Value} {neg s : Bool} {x y g : Nat} {t : TypeId} {A A' : Option Addr} {n m ca cb : Nat} (h : RV w v neg x y) (hg : Blk w g t #[.bool s, .slice A n ca, .slice A' m cb]) (a b c : Value) : RV (put3 w g a b c) v neg x y := by
  obtain ⟨va, vb, rfl, h1, h2⟩ := h
  exact ⟨va, vb, rfl, h1.put3 hg a b c, h2.put3 hg a b c⟩
def RVPost (w : World) (neg : Bool) (x y : Nat) (e : Ending) (w' : World) : Prop := ∃ v, e = .returned v ∧ RV w' v neg x y ∧ Below w.heap.size w w'

theorem blk2 (w : World) (t u : TypeId) (a b : Array Value) : Blk ((w.alloc (.cells a t)).alloc (.cells b u)) w.heap.size t a ∧ Blk ((w.alloc (.cells a t)).alloc (.cells b u)) (w.heap.size + 1) u b := by
  refine ⟨(Blk.new w t a).alloc _, ?_⟩
  have := Blk.new (w.alloc (.cells a t)) u b
  simpa using this
theorem below_two (w : World) (o1 o2 : Obj) : Below w.heap.size w ((w.alloc o1).alloc o2) := (below_one w o1).alloc (by simp) o2

set_option maxRecDepth 100000 in
set_option maxHeartbeats 6400000 in
theorem rof_any (a : LN) (v : Value) (w : World) (h : GV w v a) (hl1 : a.num.length ≤ 100000) (hl2 : a.den.length ≤ 100000) : Calls Tryd.prog 36 #[v] w (RVPost w a.neg a.x a.y) := by
  obtain ⟨A, B, rfl, ha, hb, ox, oy⟩ := h
  have HN1 : Hid (∀ (o1 o2 : Obj), Calls Tryd.prog 48 #[A] ((w.alloc o1).alloc o2).drew (RPost ((w.alloc o1).alloc o2).drew a.x)) := fun o1 o2 => natOf_sl a.num A _ (ha.to (below_two w o1 o2).drew) ox hl1
  have HN2 : Hid (∀ (o1 o2 : Obj) (W : World), Below ((w.alloc o1).alloc o2).drew.heap.size ((w.alloc o1).alloc o2).drew W → Calls Tryd.prog 48 #[B] W (RPost W a.y)) := fun o1 o2 W hW => natOf_sl a.den B _ ((hb.to (below_two w o1 o2).drew).to hW) oy hl2
  have HB0 : Hid (∀ o1 o2 : Obj, Below w.heap.size w ((w.alloc o1).alloc o2).drew) := fun o1 o2 => (below_two w o1 o2).drew
  obtain ⟨A, ca, rfl, _⟩ := ha
  obtain ⟨A', cb, rfl, _⟩ := hb
  generalize a.num.length = n at *
  generalize a.den.length = m at *
  generalize a.neg = neg at *
  generalize a.x = x at *
  generalize a.y = y at *
  clear ox oy hl1 hl2
  have HBK := Lib.hid (blk2 w 24 60 #[.bool neg, .slice A n ca, .slice A' m cb] #[.bool false, .slice none 0 0, .slice none 0 0])
  have hk : ∀ W1 W' : World, Below W1.heap.size W1 W' → (W1.cell? ⟨w.heap.size, 0, none⟩ = some (.bool neg) ∧ W1.cell? ⟨w.heap.size, 1, none⟩ = some (.slice A n ca) ∧ W1.cell? ⟨w.heap.size, 2, none⟩ = some (.slice A' m cb) ∧ w.heap.size + 1 < W1.heap.size) → (W'.cell? ⟨w.heap.size, 0, none⟩ = some (.bool neg) ∧ W'.cell? ⟨w.heap.size, 1, none⟩ = some (.slice A n ca) ∧ W'.cell? ⟨w.heap.size, 2, none⟩ = some (.slice A' m cb) ∧ w.heap.size + 1 < W'.heap.size) :=
    fun W1 W' h1 ⟨h3, h4, h5, h2⟩ => ⟨(h1.cell (p := ⟨w.heap.size, 0, none⟩) (by show w.heap.size < _; omega)).trans h3, (h1.cell (p := ⟨w.heap.size, 1, none⟩) (by show w.heap.size < _; omega)).trans h4, (h1.cell (p := ⟨w.heap.size, 2, none⟩) (by show w.heap.size < _; omega)).trans h5, Nat.lt_of_lt_of_le h2 h1.size⟩
  have HK := Lib.hid hk
  clear hk
  go_enter Tryd.func36, Tryd.ntmps36
  go_wp2_with fail
  go_region_held3 (fun w' => w'.cell? ⟨w.heap.size, 0, none⟩ = some (.bool neg) ∧ w'.cell? ⟨w.heap.size, 1, none⟩ = some (.slice A n ca) ∧ w'.cell? ⟨w.heap.size, 2, none⟩ = some (.slice A' m cb) ∧ w.heap.size + 1 < w'.heap.size)
    (first | go_keep | (refine HK.out _ _ (by assumption) ?_; go_keep))
    (first
      | (go_at_call 48; ((with_reducible refine (HN1.out _ _).mono ?_)); rintro e w1 ⟨v1, rfl, hn1, hb1⟩)
      | (go_at_call 48; ((with_reducible refine (HN2.out _ _ _ (by exact hb1)).mono ?_)); rintro e w2 ⟨v2, rfl, hn2, hb2⟩; obtain ⟨C1, _, d1, rfl, rfl⟩ := hn1.form; obtain ⟨C2, _, d2, rfl, rfl⟩ := hn2.form; have hblk := (HBK.out.2.drew.to hb1).to hb2; have hc0 := hblk.cell 0; have hc1 := hblk.cell 1; have hc2 := hblk.cell 2; have hf0 := hblk.frozen 0; have hf1 := hblk.frozen 1; have hf2 := hblk.frozen 2; simp only [List.getElem?_toArray, List.getElem?_cons_zero, List.getElem?_cons_succ] at hc0 hc1 hc2))
  all_goals
    go_wp2_with fail
    refine bodyPost_ret (v := .agg #[.bool neg, .slice C1 (digs W16 x).length d1, .slice C2 (digs W16 y).length d2]) (by simp [results, Tryd.results36, go_sem, hc0, hc1, hc2]) rfl ⟨_, rfl, ?_, ?_⟩
    · exact RV.put3 (w := w2) ⟨_, _, rfl, hn1.to hb2, hn2⟩ hblk _ _ _
    · exact put3_below (((HB0.out _ _).trans (hb1.mono (HB0.out _ _).size)).trans (hb2.mono (Nat.le_trans (HB0.out _ _).size hb1.size))) (by omega) _ _ _
end Go.Proofs.YtdfcpkjphdepcaaDoor
namespace Go.Proofs.YtdfcpkjphdepcaaDoor
open Go Go.RowKit
set_option linter.unusedVariables false
set_option linter.unusedSimpArgs false

section
variable {P : Program} {ops : Array Oper} {Q : Exit → Act → World → Prop} {md : Region.Mode} {S : World → Prop}

/-- The step of one operation under an invariant. -/
def StepOk (P : Program) (md : Region.Mode) (ops : Array Oper) (Q : Exit → Act → World → Prop) (Inv : (Nat → Bool) → Act → World → Prop) (i : Nat) (o : Oper) : Prop :=
  ∀ (L : Nat → Bool) (a : Act) (w : World), Inv L a w → L i = false → (∀ e ∈ o.after, Region.binds md e = true → L e.on = true) →
    ∀ K : Act → World → Prop, Shut (∀ a' w', Inv (fun j => j == i || L j) a' w' → K a' w') → if Region.wanted o (yielded ops a.tmps) = true then Oper.wp P o a w K Q else K (a.put o.dst undef) w

/-- The steps of all operations that have not come up yet. -/
def Steps (P : Program) (md : Region.Mode) (ops : Array Oper) (Q : Exit → Act → World → Prop) (Inv : (Nat → Bool) → Act → World → Prop) (rs : List Nat) : Prop :=
  ∀ i ∈ rs, ∀ o, ops[i]? = some o → StepOk P md ops Q Inv i o
theorem Steps.nil {Inv : (Nat → Bool) → Act → World → Prop} : Steps P md ops Q Inv [] := fun _ h => by cases h
theorem Steps.cons {Inv : (Nat → Bool) → Act → World → Prop} {i : Nat} {o : Oper} {rs : List Nat} (ho : ops[i]? = some o) (h : StepOk P md ops Q Inv i o) (hs : Steps P md ops Q Inv rs) : Steps P md ops Q Inv (i :: rs) := fun j hj o' ho' => by
  rcases List.mem_cons.1 hj with rfl | hj
  · rw [ho] at ho'; cases ho'; exact h
  · exact hs j hj o' ho'

/-- How many have not come up. -/
def leftN (n : Nat) (listed : Array Bool) : Nat := ((List.range n).filter fun i => !listed.getD i false).length

theorem getD_setB (listed : Array Bool) (i j : Nat) (hi : i < listed.size) : (listed.setIfInBounds i true).getD j false = (j == i || listed.getD j false) := by
  by_cases h : j = i
  · subst h; simp [hi]
  · simp [Array.getElem?_setIfInBounds_ne (Ne.symm h), h]

theorem filter_lt {p q : Nat → Bool} : ∀ {l : List Nat} {i : Nat}, i ∈ l → q i = false → p i = true → (∀ j, q j = true → p j = true) → (l.filter q).length < (l.filter p).length
  | x :: l, i, hi, hq, hp, hle => by
    have hmono : ∀ l : List Nat, (l.filter q).length ≤ (l.filter p).length := fun l => by
      induction l with
      | nil => simp
      | cons y l ih =>
        simp only [List.filter_cons]
        by_cases h1 : q y = true
        · simp [h1, hle y h1]; exact ih
        · by_cases h2 : p y = true
          · simp [h1, h2]; omega
          · simp [h1, h2]; exact ih
    rcases List.mem_cons.1 hi with rfl | hi
    · have := hmono l
      simp [List.filter_cons, hq, hp]; omega
    · have ih := filter_lt hi hq hp hle
      simp only [List.filter_cons]
      by_cases h1 : q x = true
      · simp [h1, hle x h1]; exact ih
      · by_cases h2 : p x = true
        · simp [h1, h2]; omega
        · simp [h1, h2]; exact ih

/-- Every operation waits only for earlier ones. -/
def earlier (ops : Array Oper) : Bool := (List.range ops.size).all fun i => ((ops[i]?).map fun o => o.after.all fun e => decide (e.on < i)).getD true

theorem all_of_ready {listed : Array Bool} (he : earlier ops = true) (hsz : listed.size = ops.size) (hr : Region.ready md ops listed = []) : ∀ i, i < ops.size → listed.getD i false = true := by
  intro i
  induction i using Nat.strongRecOn with
  | _ i ih =>
    intro hi
    rcases hb : listed.getD i false with _ | _
    · exfalso
      have hmem : i ∈ Region.ready md ops listed := by
        refine mem_ready.2 ⟨?_, ops[i], by simp [hi], fun e hee hbd => ?_⟩
        · have : i < listed.size := by omega
          simp [this] at hb ⊢; exact hb
        · have h1 := List.all_eq_true.1 he i (List.mem_range.2 hi)
          simp only [hi, Array.getElem?_eq_getElem, Option.map_some, Option.getD_some] at h1
          have h2 := Array.all_eq_true'.1 h1 e hee
          have h3 : e.on < i := by simpa using h2
          exact ih e.on h3 (by omega)
      rw [hr] at hmem
      cases hmem
    · rfl

theorem wpAnyH_inv (rs : List Nat) (Inv : (Nat → Bool) → Act → World → Prop) (hS : ∀ L a w, Inv L a w → S w)
    (he : earlier ops = true) (hsteps : Steps P md ops Q Inv rs) (hdone : ∀ L a w, Inv L a w → (∀ i, i < ops.size → L i = true) → Q .normal a w) :
    ∀ (fuel : Nat) (listed : Array Bool) (a : Act) (w : World), listed.size = ops.size → (∀ i, i < ops.size → listed.getD i false = false → i ∈ rs) → leftN ops.size listed ≤ fuel → Inv (fun j => listed.getD j false) a w → wpAnyH P md ops Q S fuel listed a w := by
  intro fuel
  induction fuel with
  | zero =>
    intro listed a w hsz hrs hl hI
    have hall : ∀ i, i < ops.size → listed.getD i false = true := fun i hi => by
      rcases hb : listed.getD i false with _ | _
      · exfalso
        have : i ∈ (List.range ops.size).filter fun i => !listed.getD i false := List.mem_filter.2 ⟨List.mem_range.2 hi, by rw [hb]; rfl⟩
        have := List.length_pos_of_mem this
        unfold leftN at hl
        omega
      · rfl
    have hr : Region.ready md ops listed = [] := by
      refine List.eq_nil_iff_forall_not_mem.2 fun i hi => ?_
      obtain ⟨h1, o, ho, _⟩ := mem_ready.1 hi
      have hlt : i < ops.size := by
        rcases Nat.lt_or_ge i ops.size with h | h
        · exact h
        · rw [Array.getElem?_eq_none h] at ho; cases ho
      have h2 := hall i hlt
      have h3 : i < listed.size := by omega
      simp [h3] at h1 h2
      rw [h1] at h2; cases h2
    exact ⟨hr, hdone _ a w hI hall⟩
  | succ fuel ih =>
    intro listed a w hsz hrs hl hI
    refine ⟨fun hr => hdone _ a w hI (all_of_ready he hsz hr), fun i hi => ?_⟩
    obtain ⟨h1, o, ho, hdep⟩ := mem_ready.1 hi
    have hlt : i < ops.size := by
      rcases Nat.lt_or_ge i ops.size with h | h
      · exact h
      · rw [Array.getElem?_eq_none h] at ho; cases ho
    have hlf : listed.getD i false = false := by
      have h3 : i < listed.size := by omega
      simp [h3] at h1 ⊢; exact h1
    have hmem := hrs i hlt hlf
    have hfun : (fun j => (listed.setIfInBounds i true).getD j false) = fun j => j == i || listed.getD j false := funext fun j => getD_setB listed i j (by omega)
    refine wpOp_step ho (fun K hK => hsteps i hmem o ho (fun j => listed.getD j false) a w hI hlf hdep K ?_)
    intro a' w' hI'
    refine hK a' w' ⟨hS _ _ _ hI', ih _ a' w' (by simp [hsz]) (fun j hj hjf => hrs j hj ?_) ?_ (by rw [hfun]; exact hI')⟩
    · rw [getD_setB listed i j (by omega)] at hjf
      simp only [Bool.or_eq_false_iff] at hjf
      exact hjf.2
    · have : leftN ops.size (listed.setIfInBounds i true) < leftN ops.size listed := by
        unfold leftN
        refine filter_lt (i := i) (List.mem_range.2 hlt) ?_ ?_ ?_
        · rw [getD_setB listed i i (by omega)]; simp
        · rw [hlf]; rfl
        · intro j hj
          rw [getD_setB listed i j (by omega)] at hj
          simp only [Bool.not_or, Bool.and_eq_true] at hj
          exact hj.2
      omega

/-- The same, the invariant told by the frame at the beginning. -/
theorem wpAnyH_inv0 (rs : List Nat) (Inv : Act → (Nat → Bool) → Act → World → Prop) {fuel : Nat} {listed : Array Bool} {a0 : Act} {w : World} (hsz : listed.size = ops.size) (hrs : ((List.range ops.size).all fun i => listed.getD i false || rs.contains i) = true) (hf : leftN ops.size listed ≤ fuel) (he : earlier ops = true)
    (hS : ∀ L a w, Inv a0 L a w → S w) (hi : Inv a0 (fun j => listed.getD j false) a0 w) (hsteps : Steps P md ops Q (Inv a0) rs) (hdone : ∀ L a w, Inv a0 L a w → (∀ i, i < ops.size → L i = true) → Q .normal a w) :
    wpAnyH P md ops Q S fuel listed a0 w :=
  wpAnyH_inv rs (Inv a0) hS he hsteps hdone fuel listed a0 w hsz (fun i hi hf => by
    have := List.all_eq_true.1 hrs i (List.mem_range.2 hi)
    rw [hf] at this
    simpa using this) hf hi

/-- The list of those that have not come up, by reckoning. -/
theorem rs_ok {rs : List Nat} {listed : Array Bool} {n : Nat} (h : ((List.range n).all fun i => listed.getD i false || rs.contains i) = true) : ∀ i, i < n → listed.getD i false = false → i ∈ rs := fun i hi hf => by
  have := List.all_eq_true.1 h i (List.mem_range.2 hi)
  rw [hf] at this
  simpa using this
end
end Go.Proofs.YtdfcpkjphdepcaaDoor
