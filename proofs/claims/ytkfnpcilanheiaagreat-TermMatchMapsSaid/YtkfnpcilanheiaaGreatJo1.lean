/- Plain facts on lists of digits in a base: values, canonical lists. No program. And 2 more texts. -/
import Derived.Test.YtkfnpcilanheiaaGreatProg
import Derived.WalkKit
import Derived.WalkSpells
import Derived.Below
import Derived.Laws.OwnMore
import Derived.Deep.Draws
import Derived.Lib.Hide
import Derived.Deep.LoopGhost
import Derived.Deep.QuietTactic
import Derived.BigQuiet
import Derived.Deep.DeepCutAuto
import Derived.RegionTactic
import Derived.WalkLawsBesides
import Derived.IntWalk
import Derived.Outline
import Derived.Maps.AppendAt
import Derived.Lib.SliceRun
import Derived.Laws.BitsAllLaws
import Derived.Laws.BitsLemmas
import Derived.Test.YtkfnpcilanheiaaGreatRows
import Derived.ProofKit
import Derived.OpenShut
import Derived.Lib.SmallJoins
import Derived.Deep.DeepHandedRow
import Derived.Lay
set_option linter.unusedVariables false
set_option linter.unusedSimpArgs false
set_option maxRecDepth 100000
namespace Go.Proofs.YtkfnpcilanheiaaGreat.NumB
def val (B : Nat) : List Nat → Nat
  | [] => 0
  | d :: ds => d + B * val B ds
def Ok (B : Nat) (l : List Nat) : Prop := ∀ d ∈ l, d < B
def Top (l : List Nat) : Prop := l.getLast? ≠ some 0
@[simp] theorem val_nil (B : Nat) : val B [] = 0 := rfl
@[simp] theorem val_cons (B d : Nat) (ds : List Nat) : val B (d :: ds) = d + B * val B ds := rfl
theorem val_append (B : Nat) (a b : List Nat) : val B (a ++ b) = val B a + B ^ a.length * val B b := by
  induction a with
  | nil => simp
  | cons d ds ih =>
    simp only [List.cons_append, val_cons, ih, List.length_cons, Nat.pow_succ]
    rw [Nat.mul_add, Nat.add_assoc, Nat.mul_comm (B ^ ds.length) B, Nat.mul_assoc]
theorem getD_lt {l : List Nat} {k : Nat} (h : k < l.length) : l.getD k 0 = l[k] := by
  rw [List.getD_eq_getElem?_getD, List.getElem?_eq_getElem h]; rfl
theorem getD_ge {l : List Nat} {k : Nat} (h : l.length ≤ k) : l.getD k 0 = 0 := by
  rw [List.getD_eq_getElem?_getD, List.getElem?_eq_none h]; rfl
theorem Ok.nil {B : Nat} : Ok B [] := fun _ h => by cases h
theorem Ok.cons {B d : Nat} {l : List Nat} (h : d < B) (hl : Ok B l) : Ok B (d :: l) := by
  intro x hx
  rcases List.mem_cons.1 hx with rfl | hx
  · exact h
  · exact hl x hx
theorem Ok.head {B d : Nat} {l : List Nat} (h : Ok B (d :: l)) : d < B := h d (by simp)
theorem Ok.tail {B d : Nat} {l : List Nat} (h : Ok B (d :: l)) : Ok B l := fun x hx => h x (by simp [hx])
theorem Ok.append {B : Nat} {a b : List Nat} (ha : Ok B a) (hb : Ok B b) : Ok B (a ++ b) := by
  intro x hx
  rcases List.mem_append.1 hx with h | h
  · exact ha x h
  · exact hb x h
theorem Ok.take {B : Nat} {l : List Nat} (h : Ok B l) (k : Nat) : Ok B (l.take k) := fun x hx => h x (List.mem_of_mem_take hx)
theorem Ok.drop {B : Nat} {l : List Nat} (h : Ok B l) (k : Nat) : Ok B (l.drop k) := fun x hx => h x (List.mem_of_mem_drop hx)
theorem Ok.getD {B : Nat} {l : List Nat} (h : Ok B l) (hB : 0 < B) (k : Nat) : l.getD k 0 < B := by
  rcases Nat.lt_or_ge k l.length with hk | hk
  · rw [getD_lt hk]; exact h _ (List.getElem_mem hk)
  · rw [getD_ge hk]; exact hB
theorem val_lt {B : Nat} {l : List Nat} (h : Ok B l) : val B l < B ^ l.length := by
  induction l with
  | nil => simp
  | cons d ds ih =>
    have h1 := h.head
    have h2 := ih h.tail
    rw [val_cons, List.length_cons, Nat.pow_succ, Nat.mul_comm (B ^ ds.length) B]
    have h3 : B * (val B ds + 1) ≤ B * B ^ ds.length := Nat.mul_le_mul_left _ h2
    rw [Nat.mul_add] at h3
    omega
theorem Top.tail {d : Nat} {l : List Nat} (h : Top (d :: l)) : Top l := by
  unfold Top at *
  cases l with
  | nil => simp
  | cons e l => simpa [List.getLast?_cons_cons] using h
theorem val_pos {B : Nat} (hB : 0 < B) {l : List Nat} (ht : Top l) (hn : l ≠ []) : 0 < val B l := by
  induction l with
  | nil => exact absurd rfl hn
  | cons d ds ih =>
    rw [val_cons]
    cases ds with
    | nil =>
      have : d ≠ 0 := by intro e; subst e; exact ht (by simp)
      simp; omega
    | cons e es =>
      have := ih ht.tail (by simp)
      have := Nat.mul_pos hB this
      omega
theorem val_ge {B : Nat} (hB : 0 < B) {l : List Nat} (ht : Top l) (hn : l ≠ []) : B ^ (l.length - 1) ≤ val B l := by
  induction l with
  | nil => exact absurd rfl hn
  | cons d ds ih =>
    cases ds with
    | nil => have := val_pos hB ht (by simp); simp only [List.length_cons, List.length_nil, Nat.zero_add, Nat.sub_self, Nat.pow_zero]; omega
    | cons e es =>
      have := ih ht.tail (by simp)
      rw [val_cons]
      simp only [List.length_cons, Nat.add_sub_cancel] at this ⊢
      rw [Nat.pow_succ, Nat.mul_comm (B ^ es.length) B]
      have := Nat.mul_le_mul_left B this
      omega
theorem canon_inj {B : Nat} (hB : 0 < B) : ∀ {a b : List Nat}, Ok B a → Ok B b → Top a → Top b → val B a = val B b → a = b := by
  intro a
  induction a with
  | nil =>
    intro b _ _ _ tb h
    cases b with
    | nil => rfl
    | cons e es => have := val_pos hB tb (by simp); simp only [val_nil] at h; omega
  | cons d ds ih =>
    intro b oa ob ta tb h
    cases b with
    | nil => have := val_pos hB ta (by simp); simp only [val_nil] at h; omega
    | cons e es =>
      have h1 := oa.head
      have h2 := ob.head
      simp only [val_cons] at h
      have hm : (d + B * val B ds) % B = (e + B * val B es) % B := by rw [h]
      have hd : (d + B * val B ds) / B = (e + B * val B es) / B := by rw [h]
      rw [Nat.add_mul_mod_self_left, Nat.add_mul_mod_self_left, Nat.mod_eq_of_lt h1, Nat.mod_eq_of_lt h2] at hm
      rw [Nat.add_mul_div_left _ _ hB, Nat.add_mul_div_left _ _ hB, Nat.div_eq_of_lt h1, Nat.div_eq_of_lt h2] at hd
      have := ih oa.tail ob.tail ta.tail tb.tail (by omega)
      rw [hm, this]
def digs (B n : Nat) : List Nat := if _h : n = 0 ∨ B ≤ 1 then [] else (n % B) :: digs B (n / B)
termination_by n
decreasing_by exact Nat.div_lt_self (by omega) (by omega)
theorem digs_zero (B : Nat) : digs B 0 = [] := by rw [digs]; simp
theorem digs_step {B n : Nat} (hB : 1 < B) (hn : n ≠ 0) : digs B n = (n % B) :: digs B (n / B) := by
  rw [digs]; rw [dif_neg (by omega)]
theorem val_digs {B : Nat} (hB : 1 < B) (n : Nat) : val B (digs B n) = n := by
  induction n using Nat.strongRecOn with
  | _ n ih =>
    by_cases hn : n = 0
    · subst hn; rw [digs_zero]; rfl
    · rw [digs_step hB hn, val_cons, ih _ (Nat.div_lt_self (by omega) hB), Nat.mod_add_div]
theorem ok_digs {B : Nat} (hB : 1 < B) (n : Nat) : Ok B (digs B n) := by
  induction n using Nat.strongRecOn with
  | _ n ih =>
    by_cases hn : n = 0
    · subst hn; rw [digs_zero]; exact Ok.nil
    · rw [digs_step hB hn]; exact Ok.cons (Nat.mod_lt _ (by omega)) (ih _ (Nat.div_lt_self (by omega) hB))
theorem top_digs {B : Nat} (hB : 1 < B) (n : Nat) : Top (digs B n) := by
  induction n using Nat.strongRecOn with
  | _ n ih =>
    by_cases hn : n = 0
    · subst hn; rw [digs_zero]; simp [Top]
    · rw [digs_step hB hn]
      by_cases h0 : n / B = 0
      · rw [h0, digs_zero]
        have : n < B := by
          rcases Nat.lt_or_ge n B with h | h
          · exact h
          · have := Nat.div_pos h (by omega); omega
        rw [Nat.mod_eq_of_lt this]
        simp [Top, hn]
      · have := ih _ (Nat.div_lt_self (by omega) hB)
        rw [digs_step hB h0] at this ⊢
        unfold Top at *
        simpa [List.getLast?_cons_cons] using this
theorem digs_val {B : Nat} (hB : 1 < B) {l : List Nat} (ho : Ok B l) (ht : Top l) : digs B (val B l) = l :=
  canon_inj (by omega) (ok_digs hB _) ho (top_digs hB _) ht (val_digs hB _)
theorem digs_eq {B n : Nat} (hB : 1 < B) {l : List Nat} (ho : Ok B l) (ht : Top l) (hv : val B l = n) : digs B n = l := by
  subst hv; exact digs_val hB ho ht
theorem digs_nil {B n : Nat} (hB : 1 < B) : digs B n = [] ↔ n = 0 := by
  constructor
  · intro h
    by_cases hn : n = 0
    · exact hn
    · rw [digs_step hB hn] at h; cases h
  · rintro rfl; exact digs_zero B
theorem digs_len_le {B n k : Nat} (hB : 1 < B) (h : n < B ^ k) : (digs B n).length ≤ k := by
  rcases Nat.lt_or_ge k (digs B n).length with hk | hk
  · have h1 := val_ge (B := B) (by omega) (top_digs hB n) (by intro e; rw [e] at hk; simp at hk)
    rw [val_digs hB] at h1
    have : B ^ k ≤ B ^ ((digs B n).length - 1) := Nat.pow_le_pow_right (by omega) (by omega)
    omega
  · exact hk
theorem digs_lt {B n : Nat} (hB : 1 < B) : n < B ^ (digs B n).length := by
  have := val_lt (ok_digs hB n)
  rwa [val_digs hB] at this
theorem digs_ge {B n : Nat} (hB : 1 < B) (hn : n ≠ 0) : B ^ ((digs B n).length - 1) ≤ n := by
  have := val_ge (B := B) (by omega) (top_digs hB n) (by rw [Ne, digs_nil hB]; exact hn)
  rwa [val_digs hB] at this
theorem digs_len_mono {B a b : Nat} (hB : 1 < B) (h : a ≤ b) : (digs B a).length ≤ (digs B b).length :=
  digs_len_le hB (Nat.lt_of_le_of_lt h (digs_lt hB))
theorem digs_len_gt {B n k : Nat} (hB : 1 < B) : k < (digs B n).length ↔ B ^ k ≤ n := by
  constructor
  · intro h
    have hn : n ≠ 0 := by rintro rfl; rw [digs_zero] at h; simp at h
    exact Nat.le_trans (Nat.pow_le_pow_right (by omega) (by omega)) (digs_ge hB hn)
  · intro h
    rcases Nat.lt_or_ge k (digs B n).length with hk | hk
    · exact hk
    · have := digs_lt (n := n) hB
      have := Nat.pow_le_pow_right (n := B) (by omega) hk
      omega
theorem val_take_succ (B : Nat) (xs : List Nat) (j : Nat) : val B (xs.take (j + 1)) = val B (xs.take j) + B ^ j * xs.getD j 0 := by
  rcases Nat.lt_or_ge j xs.length with h | h
  · rw [List.take_succ_eq_append_getElem h, val_append, List.length_take, Nat.min_eq_left (by omega), getD_lt h]
    simp
  · rw [List.take_of_length_le (by omega), List.take_of_length_le h, getD_ge h]
    simp
theorem val_take_all (B : Nat) (xs : List Nat) {j : Nat} (h : xs.length ≤ j) : val B (xs.take j) = val B xs := by rw [List.take_of_length_le h]
theorem take_set_lt (l : List Nat) (i j x : Nat) (h : j ≤ i) : (l.set i x).take j = l.take j := by
  rw [List.take_set, List.set_eq_of_length_le (by rw [List.length_take]; omega)]
theorem getD_set_self (l : List Nat) (i x : Nat) (h : i < l.length) : (l.set i x).getD i 0 = x := by
  rw [getD_lt (by simpa using h)]; simp
theorem getD_set_ne (l : List Nat) (i j x : Nat) (h : i ≠ j) : (l.set i x).getD j 0 = l.getD j 0 := by
  rw [List.getD_eq_getElem?_getD, List.getD_eq_getElem?_getD, List.getElem?_set_ne h]
theorem Ok.set {B : Nat} {l : List Nat} (h : Ok B l) {i x : Nat} (hx : x < B) : Ok B (l.set i x) := by
  intro y hy
  rcases List.mem_or_eq_of_mem_set hy with h1 | h1
  · exact h y h1
  · omega
theorem ok_replicate {B n : Nat} (hB : 0 < B) : Ok B (List.replicate n 0) := by
  intro y hy
  rw [List.mem_replicate] at hy
  omega
theorem val_replicate (B n : Nat) : val B (List.replicate n 0) = 0 := by
  induction n with
  | zero => rfl
  | succ n ih => rw [List.replicate_succ, val_cons, ih]; simp
theorem getD_replicate (n i : Nat) : (List.replicate n 0).getD i 0 = 0 := by
  rcases Nat.lt_or_ge i n with h | h
  · rw [getD_lt (by simpa using h)]; simp
  · exact getD_ge (by simpa using h)
theorem val_append_zeros (B n : Nat) (l : List Nat) : val B (l ++ List.replicate n 0) = val B l := by
  rw [val_append, val_replicate]; simp
theorem mod_div_step (P B s : Nat) : P * (s % B) + (P * B) * (s / B) = P * s := by
  rw [Nat.mul_assoc, ← Nat.mul_add, Nat.mod_add_div]
theorem add_step {V Va Vb P B c a b : Nat} (h : V + P * c = Va + Vb) :
    (V + P * ((c + a + b) % B)) + (P * B) * ((c + a + b) / B) = (Va + P * a) + (Vb + P * b) := by
  have := mod_div_step P B (c + a + b)
  rw [Nat.mul_add, Nat.mul_add] at this
  omega
theorem top_of_last {l : List Nat} (h : l = [] ∨ l.getD (l.length - 1) 0 ≠ 0) : Top l := by
  unfold Top
  rcases h with rfl | h
  · simp
  · intro e
    rw [List.getLast?_eq_getElem?] at e
    rw [List.getD_eq_getElem?_getD, e] at h
    exact h rfl
theorem val_split (B : Nat) (xs : List Nat) (j : Nat) : val B xs = val B (xs.take j) + B ^ j * val B (xs.drop j) := by
  rcases Nat.lt_or_ge j xs.length with h | h
  · have := val_append B (xs.take j) (xs.drop j)
    rw [List.take_append_drop, List.length_take, Nat.min_eq_left (by omega)] at this
    exact this
  · rw [List.take_of_length_le h, List.drop_eq_nil_of_le h]; simp
theorem drop_cons (xs : List Nat) (j : Nat) (h : j < xs.length) : xs.drop j = xs.getD j 0 :: xs.drop (j + 1) := by
  rw [List.drop_eq_getElem_cons h, getD_lt h]
theorem val_drop_step (B : Nat) (xs : List Nat) (j : Nat) : val B (xs.drop j) = xs.getD j 0 + B * val B (xs.drop (j + 1)) := by
  rcases Nat.lt_or_ge j xs.length with h | h
  · rw [drop_cons xs j h, val_cons]
  · rw [List.drop_eq_nil_of_le h, List.drop_eq_nil_of_le (by omega), getD_ge h]; simp
theorem val_take_lt {B : Nat} {xs : List Nat} (ho : Ok B xs) {j : Nat} (h : j ≤ xs.length) : val B (xs.take j) < B ^ j := by
  have := val_lt (ho.take j)
  rwa [List.length_take, Nat.min_eq_left h] at this
theorem val_take_lt' {B : Nat} (hB : 0 < B) {xs : List Nat} (ho : Ok B xs) (j : Nat) : val B (xs.take j) < B ^ j := by
  have h := val_lt (ho.take j)
  exact Nat.lt_of_lt_of_le h (Nat.pow_le_pow_right hB (List.length_take_le _ _))
def cmpI (x y : Nat) : Int := if x < y then -1 else if y < x then 1 else 0
theorem cmpI_lt {x y : Nat} (h : x < y) : cmpI x y = -1 := by unfold cmpI; rw [if_pos h]
theorem cmpI_gt {x y : Nat} (h : y < x) : cmpI x y = 1 := by unfold cmpI; rw [if_neg (by omega), if_pos h]
theorem cmpI_eq {x y : Nat} (h : x = y) : cmpI x y = 0 := by unfold cmpI; rw [if_neg (by omega), if_neg (by omega)]
theorem cmpI_bd (x y : Nat) : -1 ≤ cmpI x y ∧ cmpI x y ≤ 1 := by unfold cmpI; split <;> (try split) <;> omega
theorem cmpI_zero {x y : Nat} : cmpI x y = 0 ↔ x = y := by
  unfold cmpI; split <;> (try split) <;> constructor <;> intro h <;> first | omega | (exfalso; omega)
theorem cmpI_neg {x y : Nat} : cmpI x y < 0 ↔ x < y := by
  unfold cmpI; split <;> (try split) <;> constructor <;> intro h <;> first | omega | (exfalso; omega)
theorem cmpI_nonneg {x y : Nat} : 0 ≤ cmpI x y ↔ y ≤ x := by
  unfold cmpI; split <;> (try split) <;> constructor <;> intro h <;> first | omega | (exfalso; omega)
theorem val_lt_of_digit {B : Nat} {xs ys : List Nat} (hx : Ok B xs) {j : Nat} (hj : j < xs.length) (hd : val B (xs.drop (j + 1)) = val B (ys.drop (j + 1))) (hlt : xs.getD j 0 < ys.getD j 0) : val B xs < val B ys := by
  rw [val_split B xs j, val_split B ys j, val_drop_step B xs j, val_drop_step B ys j, hd]
  have h1 := val_take_lt hx (j := j) (by omega)
  have h2 : B ^ j * (xs.getD j 0 + B * val B (ys.drop (j + 1)) + 1) ≤ B ^ j * (ys.getD j 0 + B * val B (ys.drop (j + 1))) := Nat.mul_le_mul_left _ (by omega)
  rw [Nat.mul_add _ _ 1, Nat.mul_one] at h2
  omega
theorem val_lt_of_digit' {B : Nat} (hB : 0 < B) {xs ys : List Nat} (hx : Ok B xs) {j : Nat} (hd : val B (xs.drop (j + 1)) = val B (ys.drop (j + 1))) (hlt : xs.getD j 0 < ys.getD j 0) : val B xs < val B ys := by
  rw [val_split B xs j, val_split B ys j, val_drop_step B xs j, val_drop_step B ys j, hd]
  have h1 := val_take_lt' hB hx j
  have h2 : B ^ j * (xs.getD j 0 + B * val B (ys.drop (j + 1)) + 1) ≤ B ^ j * (ys.getD j 0 + B * val B (ys.drop (j + 1))) := Nat.mul_le_mul_left _ (by omega)
  rw [Nat.mul_add _ _ 1, Nat.mul_one] at h2
  omega
theorem val_lt_of_len {B : Nat} (hB : 0 < B) {xs ys : List Nat} (hx : Ok B xs) (hy : Top ys) (h : xs.length < ys.length) : val B xs < val B ys := by
  have h1 := val_lt hx
  have h2 := val_ge hB hy (by intro e; rw [e] at h; simp at h)
  have h3 : B ^ xs.length ≤ B ^ (ys.length - 1) := Nat.pow_le_pow_right hB (by omega)
  omega
end Go.Proofs.YtkfnpcilanheiaaGreat.NumB
namespace Go.Proofs.YtkfnpcilanheiaaGreat
open Go.RowKit NumB
def Rd (k : IntKind) (w : World) (B : Nat) (A : Option Addr) (n : Nat) (xs : List Nat) : Prop :=
  xs.length = n ∧ (0 < n → ∃ b o, A = some ⟨b, o, none⟩ ∧ b < B ∧ ∀ i, i < n → w.cell? ⟨b, o + i, none⟩ = some (.int k ((xs.getD i 0 : Nat) : Int)))
section
variable {k : IntKind} {w w' : World} {B B' n : Nat} {A : Option Addr} {xs : List Nat}
theorem Rd.len (h : Rd k w B A n xs) : xs.length = n := h.1
theorem Rd.none_ : Rd k w B A 0 [] := ⟨rfl, fun h => absurd h (by omega)⟩
theorem Rd.keep (h : Rd k w B A n xs) (hk : ∀ p : Addr, p.block < B → w'.cell? p = w.cell? p) : Rd k w' B A n xs :=
  ⟨h.1, fun hn => by
    obtain ⟨b, o, e, hb, hc⟩ := h.2 hn
    exact ⟨b, o, e, hb, fun i hi => (hk _ hb).trans (hc i hi)⟩⟩
theorem Rd.more (h : Rd k w B A n xs) (hB : B ≤ B') : Rd k w B' A n xs :=
  ⟨h.1, fun hn => by
    obtain ⟨b, o, e, hb, hc⟩ := h.2 hn
    exact ⟨b, o, e, by omega, hc⟩⟩
theorem Rd.below (h : Rd k w B A n xs) (hb : Below B w w') : Rd k w' B A n xs := h.keep fun _ hp => hb.cell hp
theorem Rd.to (h : Rd k w w.heap.size A n xs) (hb : Below w.heap.size w w') : Rd k w' w'.heap.size A n xs := (h.below hb).more hb.size
theorem Rd.take (h : Rd k w B A n xs) {m : Nat} (hm : m ≤ n) : Rd k w B A m (xs.take m) := by
  refine ⟨by rw [List.length_take, h.1]; omega, fun hn => ?_⟩
  obtain ⟨b, o, e, hb, hc⟩ := h.2 (by omega)
  refine ⟨b, o, e, hb, fun i hi => ?_⟩
  rw [hc i (by omega)]
  simp [List.getD_eq_getElem?_getD, hi]
end
def Sl (k : IntKind) (w : World) (v : Value) (xs : List Nat) : Prop :=
  ∃ A c, v = .slice A xs.length c ∧ xs.length ≤ c ∧ c ≤ maxLen ∧ Rd k w w.heap.size A xs.length xs
theorem Sl.to {k : IntKind} {w w' : World} {v : Value} {xs : List Nat} (h : Sl k w v xs) (hb : Below w.heap.size w w') : Sl k w' v xs := by
  obtain ⟨A, c, e, h1, h2, h3⟩ := h
  exact ⟨A, c, e, h1, h2, h3.to hb⟩
def W32 : Nat := 4294967296
def W16 : Nat := 65536
theorem W32_gt : 1 < W32 := by decide
theorem W16_gt : 1 < W16 := by decide
def Nat32 (w : World) (v : Value) (x : Nat) : Prop := Sl .u32 w v (digs W32 x)
def Nat16 (w : World) (v : Value) (x : Nat) : Prop := Sl .i64 w v (digs W16 x)
theorem Rd.at_ {k : IntKind} {w : World} {B n i : Nat} {A : Option Addr} {xs : List Nat} (h : Rd k w B A n xs) (hi : i < n) :
    ∃ b o x, A = some ⟨b, o, none⟩ ∧ b < B ∧ xs.getD i 0 = x ∧ w.cell? ⟨b, o + i, none⟩ = some (.int k (x : Int)) := by
  obtain ⟨b, o, e, hb, hc⟩ := h.2 (by omega)
  exact ⟨b, o, _, e, hb, rfl, hc i hi⟩
def cellsN (k : IntKind) (xs : List Nat) : List Value := xs.map fun (x : Nat) => Value.int k (x : Int)
theorem cellsN_get {k : IntKind} {xs : List Nat} {i : Nat} (h : i < xs.length) : (cellsN k xs)[i]? = some (.int k ((xs.getD i 0 : Nat) : Int)) := by
  rw [cellsN, List.getElem?_map, List.getElem?_eq_getElem h, getD_lt h]; rfl
theorem cellsN_len {k : IntKind} {xs : List Nat} : (cellsN k xs).length = xs.length := by simp [cellsN]
theorem cellsN_set {k : IntKind} {xs : List Nat} {i x : Nat} : (cellsN k xs).set i (.int k (x : Int)) = cellsN k (xs.set i x) := by simp [cellsN, List.map_set]
theorem cellsN_append {k : IntKind} {xs ys : List Nat} : cellsN k xs ++ cellsN k ys = cellsN k (xs ++ ys) := by simp [cellsN]
theorem cellsN_zeros {k : IntKind} {n : Nat} : (madeCells #[Value.int k 0] n).toList = cellsN k (List.replicate n 0) := by
  rw [toList_madeCells_one]; simp [cellsN]
theorem cellsN_one {k : IntKind} {xs : List Nat} : ∀ u ∈ cellsN k xs, u.oneCell' = true := by
  intro u hu
  obtain ⟨x, _, rfl⟩ := List.mem_map.1 hu
  rfl
def Own (k : IntKind) (T : TypeId) (w : World) (B g n c : Nat) (xs : List Nat) : Prop :=
  xs.length = n ∧ w.ownsRow B T 1 (.slice (some ⟨g, 0, none⟩) n c) n (cellsN k xs)
section
variable {k : IntKind} {T : TypeId} {w w' : World} {B g n c : Nat} {xs : List Nat}
theorem Own.cell (h : Own k T w B g n c xs) {i : Nat} (hi : i < n) : w.cell? ⟨g, i, none⟩ = some (.int k ((xs.getD i 0 : Nat) : Int)) := by
  rw [h.2.cellAt i (by omega), cellsN_get (by rw [h.1]; exact hi)]
theorem Own.frozen (h : Own k T w B g n c xs) (i : Nat) : w.frozen? ⟨g, i, none⟩ = false := h.2.frozenAt i
theorem Own.lt (h : Own k T w B g n c xs) : B ≤ g ∧ g < w.heap.size := h.2.lt g rfl
theorem Own.cap (h : Own k T w B g n c xs) : n ≤ c ∧ c ≤ maxLen := by
  rcases h.2.2 with ⟨h', _⟩ | ⟨g', cap', cur, h', _, _, h1, h2, _⟩
  · simp at h'
  · simp only [Value.slice.injEq, Option.some.injEq, Addr.mk.injEq, and_true, true_and] at h'
    obtain ⟨_, rfl⟩ := h'
    exact ⟨h1, h2⟩
theorem Own.stored (h : Own k T w B g n c xs) (i x : Nat) : Own k T (w.setCell ⟨g, i, none⟩ (.int k (x : Int))) B g n c (xs.set i x) := by
  refine ⟨by simpa using h.1, ?_⟩
  rw [← cellsN_set]
  exact (h.2.stored i _).1
theorem Own.block (h : Own k T w B g n c xs) (he : w'.heap[g]? = w.heap[g]?) : Own k T w' B g n c xs := by
  refine ⟨h.1, h.2.1, ?_⟩
  rcases h.2.2 with h' | ⟨g', cap', cur, h', hb, hh, r⟩
  · exact .inl h'
  · simp only [Value.slice.injEq, Option.some.injEq, Addr.mk.injEq, and_true, true_and] at h'
    obtain ⟨rfl, rfl⟩ := h'
    exact .inr ⟨g, c, cur, rfl, hb, he.trans hh, r⟩
theorem Own.to (h : Own k T w B g n c xs) (hb : Below w.heap.size w w') : Own k T w' B g n c xs := h.block (hb.block g h.lt.2)
theorem Own.drewN (h : Own k T w B g n c xs) (m : Nat) : Own k T (w.drewN m) B g n c xs := h
theorem Own.drew (h : Own k T w B g n c xs) : Own k T w.drew B g n c xs := h
theorem Own.alloc (h : Own k T w B g n c xs) (o : Obj) : Own k T (w.alloc o) B g n c xs := h.block (Below.heap_alloc w o g h.lt.2)
theorem Own.far (h : Own k T w B g n c xs) {p : Addr} (hp : g ≠ p.block) (u : Value) : Own k T (w.setCell p u) B g n c xs := h.block (Below.heap_setCell w p u g hp)
theorem Own.rd (h : Own k T w B g n c xs) : Rd k w w.heap.size (some ⟨g, 0, none⟩) n xs :=
  ⟨h.1, fun _ => ⟨g, 0, rfl, h.lt.2, fun i hi => by rw [Nat.zero_add]; exact h.cell hi⟩⟩
theorem Own.made (h : w.ownsRow B T 1 (.slice (some ⟨g, 0, none⟩) n n) n (madeCells (Value.int k 0).cells (n * 1)).toList) : Own k T w B g n n (List.replicate n 0) :=
  ⟨by simp, by rw [Nat.mul_one] at h; rw [← cellsN_zeros]; exact h⟩
end
theorem Sl.of_rd {k : IntKind} {w : World} {A : Option Addr} {n c m : Nat} {xs ys : List Nat} (h : Rd k w w.heap.size A n xs) (hm : m ≤ n) (hc : n ≤ c) (hx : c ≤ maxLen) (e : xs.take m = ys) : Sl k w (.slice A m c) ys := by
  subst e
  have hl : (xs.take m).length = m := by rw [List.length_take, h.1]; omega
  exact ⟨A, c, by rw [hl], by omega, hx, by rw [hl]; exact h.take hm⟩
theorem below_drewN {B : Nat} {a w : World} (h : Below B a w) (n : Nat) : Below B a (w.drewN n) := ⟨h.os, h.tape, h.output, h.size, h.block⟩
theorem below_undrew {B : Nat} {w w' : World} (h : Below B w.drew w') : Below B w w' := ⟨h.os, h.tape, h.output, h.size, h.block⟩
theorem below_undrewN {B n : Nat} {w w' : World} (h : Below B (w.drewN n) w') : Below B w w' := ⟨h.os, h.tape, h.output, h.size, h.block⟩
theorem below_of_drewN {B : Nat} {w : World} (n : Nat) : Below B w (w.drewN n) := below_drewN (Below.refl _ _) n
theorem or_shift (a b : Nat) (hb : b < 4294967296) : a * 4294967296 ||| b = a * 4294967296 + b := by
  have := Nat.shiftLeft_add_eq_or_of_lt (a := a) (i := 32) (b := b) hb
  rw [Nat.shiftLeft_eq] at this
  exact this.symm
theorem castW (a b : Nat) : ((a * 4294967296 + b : Nat) : Int) = (a : Int) * 4294967296 + b := by omega
theorem toNatW (a : Nat) : ((a : Int) * 4294967296).toNat = a * 4294967296 := by omega
theorem u64_or_shift (a b : Nat) (ha : a < 4294967296) (hb : b < 4294967296) : bits .or .u64 ((a : Int) * 4294967296) (b : Int) = (a : Int) * 4294967296 + b :=
  (u64_or _ _ (by omega) (by omega) (by omega) (by omega)).trans (by rw [toNatW, Int.toNat_natCast, or_shift a b hb]; exact castW a b)
theorem u64_or_shift' (a b : Nat) (ha : a < 4294967296) (hb : b < 4294967296) : bits .or .u64 (b : Int) ((a : Int) * 4294967296) = (a : Int) * 4294967296 + b :=
  (u64_or _ _ (by omega) (by omega) (by omega) (by omega)).trans (by rw [toNatW, Int.toNat_natCast, Nat.or_comm, or_shift a b hb]; exact castW a b)
def OwnV (k : IntKind) (T : TypeId) (w : World) (B : Nat) (v : Value) (xs : List Nat) : Prop := w.ownsRow B T 1 v xs.length (cellsN k xs)
section
variable {k : IntKind} {T : TypeId} {w w' : World} {B : Nat} {v : Value} {xs : List Nat}
theorem OwnV.nil_ (w : World) : OwnV k T w B (.slice none 0 0) [] := World.ownsRow_nil _ _ _ _
theorem OwnV.form (h : OwnV k T w B v xs) : (v = .slice none 0 0 ∧ xs = []) ∨ ∃ g c, v = .slice (some ⟨g, 0, none⟩) xs.length c ∧ Own k T w B g xs.length c xs := by
  rcases h.2 with ⟨h1, h2⟩ | ⟨g, cap, cur, rfl, r⟩
  · exact .inl ⟨h1, List.eq_nil_of_length_eq_zero h2⟩
  · exact .inr ⟨g, cap, rfl, rfl, h⟩
theorem Own.sl {g n c : Nat} (h : Own k T w B g n c xs) : Sl k w (.slice (some ⟨g, 0, none⟩) n c) xs := by
  have hl := h.1
  subst hl
  exact ⟨_, c, rfl, h.cap.1, h.cap.2, h.rd⟩
theorem OwnV.sl (h : OwnV k T w B v xs) : Sl k w v xs := by
  rcases h.form with ⟨rfl, rfl⟩ | ⟨g, c, rfl, ho⟩
  · exact ⟨none, 0, rfl, Nat.le_refl _, Nat.zero_le _, Rd.none_⟩
  · exact ho.sl
theorem OwnV.to (h : OwnV k T w B v xs) (hb : Below w.heap.size w w') : OwnV k T w' B v xs := by
  rcases h.form with ⟨rfl, rfl⟩ | ⟨g, c, rfl, ho⟩
  · exact OwnV.nil_ _
  · exact (ho.to hb).2
theorem OwnV.alloc (h : OwnV k T w B v xs) (o : Obj) : OwnV k T (w.alloc o) B v xs := World.ownsRow.alloc h o
theorem OwnV.blk (h : OwnV k T w B v xs) : ∀ g, v.ownBlock = some g → B ≤ g := fun g hg => (World.ownsRow.lt h g hg).1
end
theorem rd_news {k : IntKind} {w : World} {B n : Nat} {ad : Addr} {xs : List Nat} (h : Rd k w B (some ad) n xs) : ∀ j u, (cellsN k xs)[j]? = some u → w.cell? (ad.add j) = some u := by
  intro j u hu
  have hj : j < xs.length := by
    rcases Nat.lt_or_ge j xs.length with h1 | h1
    · exact h1
    · rw [List.getElem?_eq_none (by rw [cellsN_len]; exact h1)] at hu; cases hu
  obtain ⟨b, o, e, _, hc⟩ := h.2 (by have := h.1; omega)
  injection e with e
  subst e
  rw [cellsN_get hj] at hu
  injection hu with hu
  subst hu
  have : (⟨b, o, none⟩ : Addr).add j = ⟨b, o + j, none⟩ := by unfold Addr.add; split <;> simp_all
  rw [this]
  exact hc j (by have := h.1; omega)
end Go.Proofs.YtkfnpcilanheiaaGreat
namespace Go.Proofs.YtkfnpcilanheiaaGreat
open Go.ChangeShapes Go.WideShapes Go.ChangeAt Go.RowKit Go.Joins NumB
theorem own : ownKnob Tryz.prog.godebug = none := by kernel_rfl
theorem laidOut : laidOutB Tryz.prog = true := by kernel_rfl
theorem below_trodAll {H : Type} {enc : TypeId × Value → H} {P : Program} (hl : laidOutB P = true) {W W' : World} (hb : Below W.heap.size W W') :
    ∀ {ts : List TypeId} {vs : List Value} {ds : List (DataW H)} {ps : List MemPlace}, (∀ t ∈ ts, P.readableRec t = true ∧ t < P.types.size) → DataW.TrodAll enc P W 0 (fun _ => true) true ts vs ds ps → (∀ x ∈ ps, x.block < W.heap.size) →
      DataW.TrodAll enc P W' 0 (fun b => decide (b < W.heap.size)) true ts vs ds ps
  | [], [], [], _, _, h, _ => h
  | t :: _, _ :: _, _ :: _, _, hT, ⟨p, q, h1, h2, e⟩, hs => ⟨p, q, Below.trod hl (hT t (by simp)).1 (hT t (by simp)).2 h1 hb (fun x hx => hs x (by rw [e]; exact List.mem_append_left _ hx)), below_trodAll hl hb (fun u hu => hT u (by simp [hu])) h2 (fun x hx => hs x (by rw [e]; exact List.mem_append_right _ hx)), e⟩
theorem post_law {H : Type} {enc : TypeId × Value → H} {f : Func} {s : ChangeSpec} {W W' : World} {args : Array Value} {ds : List (DataW H)} {before : List MemPlace} (hvars : s.vars = [])
    (hW : DataW.Whole enc Tryz.prog f.params.toList s.vars false W args.toList ds [] before)
    (hA : DataW.TrodAll enc Tryz.prog W 0 (fun _ => true) true f.params.toList args.toList ds before)
    (hT : ∀ t ∈ f.params.toList, Tryz.prog.readableRec t = true ∧ t < Tryz.prog.types.size)
    (hres : f.resultTypes = #[4]) (hfn : s.fn H ds = { results := [.lit (.bool true)], args := ds })
    (hb : Below W.heap.size W W') : s.post enc Tryz.prog f false true false false W args (.bool true) W' := by
  have hlt : ∀ p ∈ before, p.block < W.heap.size := fun p hp => hW.lt p hp
  have e : s.fn H (ds ++ []) = { results := [.lit (.bool true)], args := ds } := by rw [List.append_nil]; exact hfn
  refine ⟨ds, [], before, [], before, [], hW, ?_, ?_, ?_, hb.frame _, fun h => by cases h⟩
  · rw [e, hres]; exact trodAll_mk1 (shut_bool Tryz.underlying4 _)
  · rw [e]; exact below_trodAll laidOut hb hT hA hlt
  · rw [e, hvars]; exact rfl
theorem open_limbs {H : Type} {enc : TypeId × Value → H} {W : World} {n : Nat} {v : Value} {y : DataW H × List MemPlace}
    (h : DataW.trod enc Tryz.prog W 0 (fun _ => true) true n 22 [v] = some y) : ∃ xs : List Nat, Sl .u32 W v xs ∧ Ok W32 xs := by
  rcases open_ints Tryz.underlying22 Tryz.underlying89 (by kernel_rfl) h with ⟨hcs, hx⟩ | ⟨a, len, cap, zs, hcs, _, hl, hm, hz, hx, hcell, hwz⟩
  · simp only [List.cons.injEq, and_true] at hcs
    subst hcs
    exact ⟨[], (OwnV.nil_ (B := 0) (T := 0) W).sl, Ok.nil⟩
  · simp only [List.cons.injEq, and_true] at hcs
    subst hcs
    simp only [if_true] at hz
    have hwf : ∀ z ∈ zs, 0 ≤ z ∧ z < 4294967296 := fun z hzm => by
      have := bounds_u32 (hwz z hzm)
      omega
    have hget : ∀ i, i < zs.length → ((zs.map Int.toNat).getD i 0 : Int) = zs.getD i 0 := fun i hi => by
      rw [List.getD_eq_getElem?_getD, List.getD_eq_getElem?_getD, List.getElem?_map, List.getElem?_eq_getElem hi]
      have := hwf _ (List.getElem_mem hi)
      simp only [Option.map_some, Option.getD_some]
      omega
    refine ⟨(zs.map Int.toNat).take len, ?_, ?_⟩
    · refine Sl.of_rd (n := cap) (xs := zs.map Int.toNat) ?_ hl (Nat.le_refl _) hm rfl
      refine ⟨by simp [hz], fun hn => ?_⟩
      obtain ⟨b, off, rfl, hc⟩ := ints_at hcell (by omega)
      refine ⟨b, off, rfl, ?_, fun i hi => ?_⟩
      · have := hc 0 (by omega)
        rcases Nat.lt_or_ge b W.heap.size with h1 | h1
        · exact h1
        · simp [World.cell?, Array.getElem?_eq_none h1] at this
      · rw [hc i (by omega), hget i (by omega)]
    · intro x hx
      obtain ⟨z, hzm, rfl⟩ := List.mem_map.1 (List.mem_of_mem_take hx)
      have := hwf z hzm
      show z.toNat < 4294967296
      omega
end Go.Proofs.YtkfnpcilanheiaaGreat
