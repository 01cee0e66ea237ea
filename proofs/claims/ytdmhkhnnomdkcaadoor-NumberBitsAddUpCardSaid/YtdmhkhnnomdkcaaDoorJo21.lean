/-  -/
import Derived.Deep.CutBlock
import Derived.Deep.RegionHeld3
import Derived.Test.YtdmhkhnnomdkcaaDoorJo2
import Derived.Test.YtdmhkhnnomdkcaaDoorJo12
import Derived.Test.YtdmhkhnnomdkcaaDoorJo15
import Derived.Test.YtdmhkhnnomdkcaaDoorJo16
import Derived.Test.YtdmhkhnnomdkcaaDoorJo17
import Derived.Test.YtdmhkhnnomdkcaaDoorJo20
set_option linter.unusedVariables false
set_option linter.unusedSimpArgs false
/- fetterlockref1.ShlNat. Conditions: at most 100000 digits and bits. -/
namespace Go.Proofs.YtdmhkhnnomdkcaaDoor
open Go.RowKit NumB
set_option linter.unusedVariables false
set_option linter.unusedSimpArgs false

theorem or_low_i64 (p s c : Nat) (hp : p < 65536) (hs : s < 16) (hc : c < 2 ^ s) : bits .or .i64 ((p * 2 ^ s : Nat) : Int) (c : Int) = ((p * 2 ^ s + c : Nat) : Int) ∧ p * 2 ^ s + c < 4294967296 := by
  have h1 : (2 : Nat) ^ s ≤ 2 ^ 15 := Nat.pow_le_pow_right (by omega) (by omega)
  have h2 : p * 2 ^ s ≤ 65535 * 2 ^ 15 := Nat.mul_le_mul (by omega) h1
  have e : p * 2 ^ s ||| c = p * 2 ^ s + c := by
    rw [← Nat.shiftLeft_eq, ← Nat.shiftLeft_add_eq_or_of_lt hc]
  refine ⟨?_, by omega⟩
  show IntKind.i64.wrap ((BitVec.ofInt 64 ((p * 2 ^ s : Nat) : Int) ||| BitVec.ofInt 64 (c : Int)).toNat : Int) = _
  have e1 : (BitVec.ofInt 64 ((p * 2 ^ s : Nat) : Int)).toNat = p * 2 ^ s := by
    rw [BitVec.ofInt_natCast, BitVec.toNat_ofNat]; exact Nat.mod_eq_of_lt (by omega)
  have e2 : (BitVec.ofInt 64 (c : Int)).toNat = c := by
    rw [BitVec.ofInt_natCast, BitVec.toNat_ofNat]; exact Nat.mod_eq_of_lt (by omega)
  rw [BitVec.toNat_or, e1, e2, e, IntKind.wrap_i64]
  omega
theorem rshl_facts (p s c : Nat) (hp : p < 65536) (hs : s < 16) (hc : c < 2 ^ s) : ∃ y t lo hi : Nat, IntKind.i64.wrap ((p : Int) * 2 ^ s) = (y : Int) ∧ bits .or .i64 (y : Int) (c : Int) = (t : Int) ∧ (t : Int) % 65536 = (lo : Int) ∧ (t : Int) / 65536 = (hi : Int) ∧ t < 4294967296 ∧ lo < 65536 ∧ hi < 2 ^ s ∧ p * 2 ^ s + c = lo + 65536 * hi := by
  obtain ⟨h1, h2⟩ := or_low_i64 p s c hp hs hc
  refine ⟨p * 2 ^ s, p * 2 ^ s + c, (p * 2 ^ s + c) % 65536, (p * 2 ^ s + c) / 65536, ?_, h1, by omega, by omega, h2, by omega, ?_, by omega⟩
  · rw [← pow32, ← Int.natCast_mul]
    generalize p * 2 ^ s = y at *
    rw [IntKind.wrap_i64]
    omega
  · rw [Nat.div_lt_iff_lt_mul (by omega)]
    have h3 : (p + 1) * 2 ^ s ≤ 65536 * 2 ^ s := Nat.mul_le_mul_right _ (by omega)
    rw [Nat.add_mul, Nat.one_mul, Nat.mul_comm 65536] at h3
    omega
theorem rshl_step {xs out : List Nat} {j k s c p lo hi : Nat} (hl : out.length = k + j) (hx : xs.getD j 0 = p) (he : p * 2 ^ s + c = lo + 65536 * hi)
    (hv : val W16 out + W16 ^ (k + j) * c = 2 ^ s * W16 ^ k * val W16 (xs.take j)) :
    val W16 (out ++ [lo]) + W16 ^ (k + (j + 1)) * hi = 2 ^ s * W16 ^ k * val W16 (xs.take (j + 1)) := by
  rw [val_snoc, hl, val_take_succ, hx, ← Nat.add_assoc, Nat.pow_succ, Nat.mul_assoc, Nat.add_assoc, ← Nat.mul_add, show lo + W16 * hi = lo + 65536 * hi from rfl, ← he, Nat.mul_add, Nat.mul_add (2 ^ s * W16 ^ k), ← hv]
  have : W16 ^ (k + j) * (p * 2 ^ s) = 2 ^ s * W16 ^ k * (W16 ^ j * p) := by
    rw [Nat.pow_add]; simp only [Nat.mul_comm, Nat.mul_left_comm, Nat.mul_assoc]
  omega

end Go.Proofs.YtdmhkhnnomdkcaaDoor
/- fetterlockref1.GcdNat. Conditions: at most 50000 digits. -/
namespace Go.Proofs.YtdmhkhnnomdkcaaDoor
open Go.RowKit NumB
set_option linter.unusedVariables false
set_option linter.unusedSimpArgs false

theorem gcd_even_odd (p q : Nat) (hp : p % 2 = 0) (hq : q % 2 = 1) : Nat.gcd (p / 2) q = Nat.gcd p q := by
  have hc : Nat.Coprime 2 q := by
    show Nat.gcd 2 q = 1
    rw [Nat.gcd_rec, hq]; rfl
  have e : p = 2 * (p / 2) := by omega
  have h := Nat.Coprime.gcd_mul_left_cancel (p / 2) hc
  rw [← e] at h
  exact h.symm
theorem gcd_odd_even (p q : Nat) (hp : p % 2 = 1) (hq : q % 2 = 0) : Nat.gcd p (q / 2) = Nat.gcd p q := by
  rw [Nat.gcd_comm, gcd_even_odd q p hq hp, Nat.gcd_comm]
theorem gcd_both_even (p q t g : Nat) (hp : p % 2 = 0) (hq : q % 2 = 0) (h : 2 ^ t * Nat.gcd p q = g) : 2 ^ (t + 1) * Nat.gcd (p / 2) (q / 2) = g := by
  have e1 : p = 2 * (p / 2) := by omega
  have e2 : q = 2 * (q / 2) := by omega
  rw [e1, e2, Nat.gcd_mul_left, ← Nat.mul_assoc, ← Nat.pow_succ] at h
  exact h

theorem half_len {x : Nat} {l : Nat} (h : (digs W16 x).length ≤ l) : (digs W16 (x / 2)).length ≤ l := Nat.le_trans (digs_len_mono W16_gt (Nat.div_le_self _ _)) h

/-- Two slices of digits that read as p and q, both short. -/
def TwoN (w : World) (s0 s1 : Value) (p q : Nat) : Prop := Nat16 w s0 p ∧ Nat16 w s1 q ∧ (digs W16 p).length ≤ 50000 ∧ (digs W16 q).length ≤ 50000

theorem nat16_len {w : World} {v : Value} {x : Nat} (h : Nat16 w v x) (hl : (digs W16 x).length ≤ 50000) : ∃ A n c, v = .slice A n c ∧ n ≤ 50000 ∧ (0 < n ↔ 0 < x) := by
  obtain ⟨A, c, rfl, _⟩ := h
  refine ⟨A, _, c, rfl, hl, ?_⟩
  constructor
  · intro h0
    rcases Nat.eq_zero_or_pos x with h1 | h1
    · subst h1; rw [digs_zero] at h0; exact absurd h0 (by simp)
    · exact h1
  · intro h0
    rcases Nat.eq_zero_or_pos (digs W16 x).length with h1 | h1
    · exact absurd ((digs_nil W16_gt).1 (List.eq_nil_of_length_eq_zero h1)) (by omega)
    · exact h1

theorem twos_le {x t p N : Nat} (hx : (digs W16 x).length ≤ N) (hp : 0 < p) (h : 2 ^ t * p ≤ x) : t ≤ 16 * N := by
  have h1 : 2 ^ t * 1 ≤ 2 ^ t * p := Nat.mul_le_mul_left _ hp
  have h2 := digs_lt (n := x) W16_gt
  have h3 : W16 ^ (digs W16 x).length ≤ W16 ^ N := Nat.pow_le_pow_right (by decide) hx
  have h4 : W16 ^ N = 2 ^ (16 * N) := by rw [show W16 = 2 ^ 16 from rfl, ← Nat.pow_mul]
  have h5 : 2 ^ t < 2 ^ (16 * N) := by rw [← h4]; omega
  exact Nat.le_of_lt ((Nat.pow_lt_pow_iff_right (by omega)).1 h5)

end Go.Proofs.YtdmhkhnnomdkcaaDoor
/- fetterlockref1.Fault: too many limbs. -/
namespace Go.Proofs.YtdmhkhnnomdkcaaDoor
open Go.RowKit NumB
set_option linter.unusedVariables false
set_option linter.unusedSimpArgs false

end Go.Proofs.YtdmhkhnnomdkcaaDoor
/- fetterlockref1.Fault: a list that ends with a zero, or an empty denominator. -/
namespace Go.Proofs.YtdmhkhnnomdkcaaDoor
open Go.RowKit NumB
set_option linter.unusedVariables false
set_option linter.unusedSimpArgs false

theorem lastB_pos {xs : List Nat} {k : Nat} (hn : xs.length = k + 1) : lastB xs = decide (xs.getD k 0 = 0) := by
  unfold lastB
  rw [hn]
  exact decide_eq_decide.2 ⟨fun h => h.2, fun h => ⟨by omega, h⟩⟩
theorem lastB_nil {xs : List Nat} (hn : xs.length = 0) : lastB xs = false := decide_eq_false (by omega)

end Go.Proofs.YtdmhkhnnomdkcaaDoor
/- fetterlockref1.Fault at lists without a last zero. -/
namespace Go.Proofs.YtdmhkhnnomdkcaaDoor
open Go.RowKit NumB
set_option linter.unusedVariables false
set_option linter.unusedSimpArgs false

theorem digs_one16 : digs W16 1 = [1] := digs_eq W16_gt (Ok.cons (by decide) Ok.nil) (by simp [Top]) (by simp)
theorem one16 (w : World) : Nat16 (w.alloc (.cells #[.int .i64 1] 3)) (.slice (some ⟨w.heap.size, 0, none⟩) 1 1) 1 := by
  unfold Nat16
  rw [digs_one16]
  refine ⟨_, 1, rfl, by decide, by decide, rfl, fun _ => ⟨w.heap.size, 0, rfl, by simp, fun i hi => ?_⟩⟩
  obtain rfl : i = 0 := by simpa using hi
  rw [cell_of_row _ w.heap.size _ #[.int .i64 1] 3 (0, 0) (heap_alloc_new w _)]
  rfl

theorem checkN_gcd {neg : Bool} {x y : Nat} (hx : x ≠ 0) : checkN neg x y = if Nat.gcd x y = 1 then 0 else 2 := by
  unfold checkN
  rw [if_neg hx]
  by_cases h : Nat.gcd x y = 1
  · rw [if_pos h, if_pos (.inr (.inr h))]
  · rw [if_neg h, if_neg]
    rintro (rfl | rfl | h3)
    · exact h (Nat.gcd_one_right _)
    · exact h (Nat.gcd_one_left _)
    · exact h h3

theorem digs16_val_le {xs : List Nat} (ho : Ok W32 xs) (hl : xs.length ≤ 128) : (digs W16 (val W32 xs)).length ≤ 256 := by
  refine digs_len_le W16_gt (Nat.lt_of_lt_of_le (val_lt ho) ?_)
  have h : W32 = W16 ^ 2 := by decide
  rw [h, ← Nat.pow_mul]
  exact Nat.pow_le_pow_right (by decide) (by omega)

end Go.Proofs.YtdmhkhnnomdkcaaDoor
/- fetterlockref1.Of: a number as a fraction of naturals in base 2^16. Conditions: at most 100000 limbs. -/
namespace Go.Proofs.YtdmhkhnnomdkcaaDoor
open Go.RowKit NumB
set_option linter.unusedVariables false
set_option linter.unusedSimpArgs false

/-- A fraction of the reference's. -/
def RV (w : World) (v : Value) (neg : Bool) (x y : Nat) : Prop := ∃ A B, v = .agg #[.bool neg, A, B] ∧ Nat16 w A x ∧ Nat16 w B y
theorem RV.to {w w' : World} {v : Value} {neg : Bool} {x y : Nat} (h : RV w v neg x y) (hb : Below w.heap.size w w') : RV w' v neg x y := by
  obtain ⟨A, B, e, h1, h2⟩ := h
  exact ⟨A, B, e, h1.to hb, h2.to hb⟩
theorem Nat16.form {w : World} {v : Value} {x : Nat} (h : Nat16 w v x) : ∃ A n c, v = .slice A n c ∧ n = (digs W16 x).length := by
  obtain ⟨A, c, e, _⟩ := h
  exact ⟨A, _, c, e, rfl⟩
theorem RV.form {w : World} {v : Value} {neg : Bool} {x y : Nat} (h : RV w v neg x y) : ∃ A n c B m d, v = .agg #[.bool neg, .slice A n c, .slice B m d] ∧ n = (digs W16 x).length ∧ m = (digs W16 y).length := by
  obtain ⟨A, B, rfl, h1, h2⟩ := h
  obtain ⟨A1, n, c, rfl, e1⟩ := h1.form
  obtain ⟨B1, m, d, rfl, e2⟩ := h2.form
  exact ⟨_, _, _, _, _, _, rfl, e1, e2⟩
theorem RV.parts {w : World} {s neg : Bool} {A B : Value} {x y : Nat} (h : RV w (.agg #[.bool s, A, B]) neg x y) : s = neg ∧ Nat16 w A x ∧ Nat16 w B y := by
  obtain ⟨A', B', e, h1, h2⟩ := h
  simp only [Value.agg.injEq, Array.mk.injEq, List.cons.injEq, Value.bool.injEq, and_true] at e
  obtain ⟨rfl, rfl, rfl⟩ := e
  exact ⟨rfl, h1, h2⟩
theorem Nat16.put3 {w : World} {v : Value} {x g : Nat} {t : TypeId} {neg : Bool} {A A' : Option Addr} {n m ca cb : Nat} (h : Nat16 w v x) (hg : Blk w g t #[.bool neg, .slice A n ca, .slice A' m cb]) (a b c : Value) : Nat16 (put3 w g a b c) v x :=
  Sl.boxed h hg noInts_num (Nat.le_of_eq (put3_size w g a b c).symm) (put3_far w g a b c)
theorem RV.put3 {w : World} {v : Value} {neg s : Bool} {x y g : Nat} {t : TypeId} {A A' : Option Addr} {n m ca cb : Nat} (h : RV w v neg x y) (hg : Blk w g t #[.bool s, .slice A n ca, .slice A' m cb]) (a b c : Value) : RV (put3 w g a b c) v neg x y := by
  obtain ⟨va, vb, rfl, h1, h2⟩ := h
  exact ⟨va, vb, rfl, h1.put3 hg a b c, h2.put3 hg a b c⟩
def RVPost (w : World) (neg : Bool) (x y : Nat) (e : Ending) (w' : World) : Prop := ∃ v, e = .returned v ∧ RV w' v neg x y ∧ Below w.heap.size w w'

theorem blk2 (w : World) (t u : TypeId) (a b : Array Value) : Blk ((w.alloc (.cells a t)).alloc (.cells b u)) w.heap.size t a ∧ Blk ((w.alloc (.cells a t)).alloc (.cells b u)) (w.heap.size + 1) u b := by
  refine ⟨(Blk.new w t a).alloc _, ?_⟩
  have := Blk.new (w.alloc (.cells a t)) u b
  simpa using this
theorem below_two (w : World) (o1 o2 : Obj) : Below w.heap.size w ((w.alloc o1).alloc o2) := (below_one w o1).alloc (by simp) o2

end Go.Proofs.YtdmhkhnnomdkcaaDoor
/- A region that draws its order, by an invariant: each operation is shown once, whatever came before it. Conditions: none. -/
namespace Go.Proofs.YtdmhkhnnomdkcaaDoor
open Go Go.RowKit
set_option linter.unusedVariables false
set_option linter.unusedSimpArgs false

section
variable {P : Program} {ops : Array Oper} {Q : Exit → Act → World → Prop} {md : Region.Mode} {S : World → Prop}

/-- The step of one operation under an invariant. -/
def StepOk (P : Program) (md : Region.Mode) (ops : Array Oper) (Q : Exit → Act → World → Prop) (Inv : (Nat → Bool) → Act → World → Prop) (i : Nat) (o : Oper) : Prop :=
  ∀ (L : Nat → Bool) (a : Act) (w : World), Inv L a w → L i = false → (∀ e ∈ o.after, Region.binds md e = true → L e.on = true) →
    ∀ K : Act → World → Prop, Shut (∀ a' w', Inv (fun j => j == i || L j) a' w' → K a' w') → if Region.wanted o (yielded ops a.tmps) = true then Oper.wp P o a w K Q else K (a.put o.dst undef) w

/-- The steps of all operations that have not come up yet. -/
def Steps (P : Program) (md : Region.Mode) (ops : Array Oper) (Q : Exit → Act → World → Prop) (Inv : (Nat → Bool) → Act → World → Prop) (rs : List Nat) : Prop :=
  ∀ i ∈ rs, ∀ o, ops[i]? = some o → StepOk P md ops Q Inv i o
theorem Steps.nil {Inv : (Nat → Bool) → Act → World → Prop} : Steps P md ops Q Inv [] := fun _ h => by cases h
theorem Steps.cons {Inv : (Nat → Bool) → Act → World → Prop} {i : Nat} {o : Oper} {rs : List Nat} (ho : ops[i]? = some o) (h : StepOk P md ops Q Inv i o) (hs : Steps P md ops Q Inv rs) : Steps P md ops Q Inv (i :: rs) := fun j hj o' ho' => by
  rcases List.mem_cons.1 hj with rfl | hj
  · rw [ho] at ho'; cases ho'; exact h
  · exact hs j hj o' ho'

/-- How many have not come up. -/
def leftN (n : Nat) (listed : Array Bool) : Nat := ((List.range n).filter fun i => !listed.getD i false).length

theorem getD_setB (listed : Array Bool) (i j : Nat) (hi : i < listed.size) : (listed.setIfInBounds i true).getD j false = (j == i || listed.getD j false) := by
  by_cases h : j = i
  · subst h; simp [hi]
  · simp [Array.getElem?_setIfInBounds_ne (Ne.symm h), h]

theorem filter_lt {p q : Nat → Bool} : ∀ {l : List Nat} {i : Nat}, i ∈ l → q i = false → p i = true → (∀ j, q j = true → p j = true) → (l.filter q).length < (l.filter p).length
  | x :: l, i, hi, hq, hp, hle => by
    have hmono : ∀ l : List Nat, (l.filter q).length ≤ (l.filter p).length := fun l => by
      induction l with
      | nil => simp
      | cons y l ih =>
        simp only [List.filter_cons]
        by_cases h1 : q y = true
        · simp [h1, hle y h1]; exact ih
        · by_cases h2 : p y = true
          · simp [h1, h2]; omega
          · simp [h1, h2]; exact ih
    rcases List.mem_cons.1 hi with rfl | hi
    · have := hmono l
      simp [List.filter_cons, hq, hp]; omega
    · have ih := filter_lt hi hq hp hle
      simp only [List.filter_cons]
      by_cases h1 : q x = true
      · simp [h1, hle x h1]; exact ih
      · by_cases h2 : p x = true
        · simp [h1, h2]; omega
        · simp [h1, h2]; exact ih

/-- Every operation waits only for earlier ones. -/
def earlier (md : Region.Mode) (ops : Array Oper) : Bool := (List.range ops.size).all fun i => ((ops[i]?).map fun o => o.after.all fun e => !Region.binds md e || decide (e.on < i)).getD true

theorem all_of_ready {listed : Array Bool} (he : earlier md ops = true) (hsz : listed.size = ops.size) (hr : Region.ready md ops listed = []) : ∀ i, i < ops.size → listed.getD i false = true := by
  intro i
  induction i using Nat.strongRecOn with
  | _ i ih =>
    intro hi
    rcases hb : listed.getD i false with _ | _
    · exfalso
      have hmem : i ∈ Region.ready md ops listed := by
        refine mem_ready.2 ⟨?_, ops[i], by simp [hi], fun e hee hbd => ?_⟩
        · have : i < listed.size := by omega
          simp [this] at hb ⊢; exact hb
        · have h1 := List.all_eq_true.1 he i (List.mem_range.2 hi)
          simp only [hi, Array.getElem?_eq_getElem, Option.map_some, Option.getD_some] at h1
          have h2 := Array.all_eq_true'.1 h1 e hee
          have h3 : e.on < i := by simpa [hbd] using h2
          exact ih e.on h3 (by omega)
      rw [hr] at hmem
      cases hmem
    · rfl

theorem wpAnyH_inv (rs : List Nat) (Inv : (Nat → Bool) → Act → World → Prop) (hS : ∀ L a w, Inv L a w → S w)
    (he : earlier md ops = true) (hsteps : Steps P md ops Q Inv rs) (hdone : ∀ L a w, Inv L a w → (∀ i, i < ops.size → L i = true) → Q .normal a w) :
    ∀ (fuel : Nat) (listed : Array Bool) (a : Act) (w : World), listed.size = ops.size → (∀ i, i < ops.size → listed.getD i false = false → i ∈ rs) → leftN ops.size listed ≤ fuel → Inv (fun j => listed.getD j false) a w → wpAnyH P md ops Q S fuel listed a w := by
  intro fuel
  induction fuel with
  | zero =>
    intro listed a w hsz hrs hl hI
    have hall : ∀ i, i < ops.size → listed.getD i false = true := fun i hi => by
      rcases hb : listed.getD i false with _ | _
      · exfalso
        have : i ∈ (List.range ops.size).filter fun i => !listed.getD i false := List.mem_filter.2 ⟨List.mem_range.2 hi, by rw [hb]; rfl⟩
        have := List.length_pos_of_mem this
        unfold leftN at hl
        omega
      · rfl
    have hr : Region.ready md ops listed = [] := by
      refine List.eq_nil_iff_forall_not_mem.2 fun i hi => ?_
      obtain ⟨h1, o, ho, _⟩ := mem_ready.1 hi
      have hlt : i < ops.size := by
        rcases Nat.lt_or_ge i ops.size with h | h
        · exact h
        · rw [Array.getElem?_eq_none h] at ho; cases ho
      have h2 := hall i hlt
      have h3 : i < listed.size := by omega
      simp [h3] at h1 h2
      rw [h1] at h2; cases h2
    exact ⟨hr, hdone _ a w hI hall⟩
  | succ fuel ih =>
    intro listed a w hsz hrs hl hI
    refine ⟨fun hr => hdone _ a w hI (all_of_ready he hsz hr), fun i hi => ?_⟩
    obtain ⟨h1, o, ho, hdep⟩ := mem_ready.1 hi
    have hlt : i < ops.size := by
      rcases Nat.lt_or_ge i ops.size with h | h
      · exact h
      · rw [Array.getElem?_eq_none h] at ho; cases ho
    have hlf : listed.getD i false = false := by
      have h3 : i < listed.size := by omega
      simp [h3] at h1 ⊢; exact h1
    have hmem := hrs i hlt hlf
    have hfun : (fun j => (listed.setIfInBounds i true).getD j false) = fun j => j == i || listed.getD j false := funext fun j => getD_setB listed i j (by omega)
    refine wpOp_step ho (fun K hK => hsteps i hmem o ho (fun j => listed.getD j false) a w hI hlf hdep K ?_)
    intro a' w' hI'
    refine hK a' w' ⟨hS _ _ _ hI', ih _ a' w' (by simp [hsz]) (fun j hj hjf => hrs j hj ?_) ?_ (by rw [hfun]; exact hI')⟩
    · rw [getD_setB listed i j (by omega)] at hjf
      simp only [Bool.or_eq_false_iff] at hjf
      exact hjf.2
    · have : leftN ops.size (listed.setIfInBounds i true) < leftN ops.size listed := by
        unfold leftN
        refine filter_lt (i := i) (List.mem_range.2 hlt) ?_ ?_ ?_
        · rw [getD_setB listed i i (by omega)]; simp
        · rw [hlf]; rfl
        · intro j hj
          rw [getD_setB listed i j (by omega)] at hj
          simp only [Bool.not_or, Bool.and_eq_true] at hj
          exact hj.2
      omega

/-- The same, the invariant told by the frame at the beginning. -/
theorem wpAnyH_inv0 (rs : List Nat) (Inv : Act → (Nat → Bool) → Act → World → Prop) {fuel : Nat} {listed : Array Bool} {a0 : Act} {w : World} (hsz : listed.size = ops.size) (hrs : ((List.range ops.size).all fun i => listed.getD i false || rs.contains i) = true) (hf : leftN ops.size listed ≤ fuel) (he : earlier md ops = true)
    (hS : ∀ L a w, Inv a0 L a w → S w) (hi : Inv a0 (fun j => listed.getD j false) a0 w) (hsteps : Steps P md ops Q (Inv a0) rs) (hdone : ∀ L a w, Inv a0 L a w → (∀ i, i < ops.size → L i = true) → Q .normal a w) :
    wpAnyH P md ops Q S fuel listed a0 w :=
  wpAnyH_inv rs (Inv a0) hS he hsteps hdone fuel listed a0 w hsz (fun i hi hf => by
    have := List.all_eq_true.1 hrs i (List.mem_range.2 hi)
    rw [hf] at this
    simpa using this) hf hi

/-- The list of those that have not come up, by reckoning. -/
theorem rs_ok {rs : List Nat} {listed : Array Bool} {n : Nat} (h : ((List.range n).all fun i => listed.getD i false || rs.contains i) = true) : ∀ i, i < n → listed.getD i false = false → i ∈ rs := fun i hi hf => by
  have := List.all_eq_true.1 h i (List.mem_range.2 hi)
  rw [hf] at this
  simpa using this
end
end Go.Proofs.YtdmhkhnnomdkcaaDoor
/- fetterlockref1.Made. Conditions: at most 100000 digits. -/
namespace Go.Proofs.YtdmhkhnnomdkcaaDoor
open Go.RowKit NumB
set_option linter.unusedVariables false
set_option linter.unusedSimpArgs false

theorem Blk.put3_at {w : World} {g : Nat} {t : TypeId} {p q r : Value} (h : Blk w g t #[p, q, r]) (a b c : Value) : Blk (Go.Proofs.YtdmhkhnnomdkcaaDoor.put3 w g a b c) g t #[a, b, c] := by
  have := ((h.set_ 0 a).set_ 1 b).set_ 2 c
  unfold Go.Proofs.YtdmhkhnnomdkcaaDoor.put3
  simpa using this
theorem Blk.put3_far {w : World} {g k : Nat} {t : TypeId} {cs : Array Value} (h : Blk w k t cs) (hk : k ≠ g) (a b c : Value) : Blk (Go.Proofs.YtdmhkhnnomdkcaaDoor.put3 w g a b c) k t cs :=
  ((h.far (p := ⟨g, 0, none⟩) hk a).far (p := ⟨g, 1, none⟩) hk b).far (p := ⟨g, 2, none⟩) hk c
def numZ : Array Value := #[.bool false, .slice none 0 0, .slice none 0 0]

end Go.Proofs.YtdmhkhnnomdkcaaDoor
/- fetterlockref1.Made, with the answer as a plain function. -/
namespace Go.Proofs.YtdmhkhnnomdkcaaDoor
open Go.RowKit NumB
set_option linter.unusedVariables false
set_option linter.unusedSimpArgs false

theorem GV.putM {w : World} {v : Value} {a : LN} {g : Nat} {t : TypeId} {s : Bool} {A A' : Option Addr} {n m ca cb : Nat} (h : GV w v a) (hg : Blk w g t #[.bool s, .slice A n ca, .slice A' m cb]) (x y z : Value) : GV (Go.Proofs.YtdmhkhnnomdkcaaDoor.put3 w g x y z) v a := by
  obtain ⟨p, q, e, h1, h2, h3⟩ := h
  exact ⟨p, q, e, Sl.boxed h1 hg noInts_num (Nat.le_of_eq (put3_size w g x y z).symm) (put3_far w g x y z), Sl.boxed h2 hg noInts_num (Nat.le_of_eq (put3_size w g x y z).symm) (put3_far w g x y z), h3⟩
end Go.Proofs.YtdmhkhnnomdkcaaDoor
