/-  -/
set_option linter.unusedVariables false
set_option linter.unusedSimpArgs false
/- Plain facts on lists of digits in a base: values, canonical lists. No program. -/
namespace Go.Proofs.Ytkamkaehlofgpaa.NumB

/-- The value of a list of digits, least significant first. -/
def val (B : Nat) : List Nat → Nat
  | [] => 0
  | d :: ds => d + B * val B ds

/-- All digits are below the base. -/
def Ok (B : Nat) (l : List Nat) : Prop := ∀ d ∈ l, d < B

/-- No last digit 0. -/
def Top (l : List Nat) : Prop := l.getLast? ≠ some 0

@[simp] theorem val_nil (B : Nat) : val B [] = 0 := rfl
@[simp] theorem val_cons (B d : Nat) (ds : List Nat) : val B (d :: ds) = d + B * val B ds := rfl

theorem val_append (B : Nat) (a b : List Nat) : val B (a ++ b) = val B a + B ^ a.length * val B b := by
  induction a with
  | nil => simp
  | cons d ds ih =>
    simp only [List.cons_append, val_cons, ih, List.length_cons, Nat.pow_succ]
    rw [Nat.mul_add, Nat.add_assoc, Nat.mul_comm (B ^ ds.length) B, Nat.mul_assoc]

theorem getD_lt {l : List Nat} {k : Nat} (h : k < l.length) : l.getD k 0 = l[k] := by
  rw [List.getD_eq_getElem?_getD, List.getElem?_eq_getElem h]; rfl
theorem getD_ge {l : List Nat} {k : Nat} (h : l.length ≤ k) : l.getD k 0 = 0 := by
  rw [List.getD_eq_getElem?_getD, List.getElem?_eq_none h]; rfl

theorem Ok.nil {B : Nat} : Ok B [] := fun _ h => by cases h
theorem Ok.cons {B d : Nat} {l : List Nat} (h : d < B) (hl : Ok B l) : Ok B (d :: l) := by
  intro x hx
  rcases List.mem_cons.1 hx with rfl | hx
  · exact h
  · exact hl x hx
theorem Ok.head {B d : Nat} {l : List Nat} (h : Ok B (d :: l)) : d < B := h d (by simp)
theorem Ok.tail {B d : Nat} {l : List Nat} (h : Ok B (d :: l)) : Ok B l := fun x hx => h x (by simp [hx])
theorem Ok.append {B : Nat} {a b : List Nat} (ha : Ok B a) (hb : Ok B b) : Ok B (a ++ b) := by
  intro x hx
  rcases List.mem_append.1 hx with h | h
  · exact ha x h
  · exact hb x h
theorem Ok.take {B : Nat} {l : List Nat} (h : Ok B l) (k : Nat) : Ok B (l.take k) := fun x hx => h x (List.mem_of_mem_take hx)
theorem Ok.drop {B : Nat} {l : List Nat} (h : Ok B l) (k : Nat) : Ok B (l.drop k) := fun x hx => h x (List.mem_of_mem_drop hx)
theorem Ok.getD {B : Nat} {l : List Nat} (h : Ok B l) (hB : 0 < B) (k : Nat) : l.getD k 0 < B := by
  rcases Nat.lt_or_ge k l.length with hk | hk
  · rw [getD_lt hk]; exact h _ (List.getElem_mem hk)
  · rw [getD_ge hk]; exact hB

theorem val_lt {B : Nat} {l : List Nat} (h : Ok B l) : val B l < B ^ l.length := by
  induction l with
  | nil => simp
  | cons d ds ih =>
    have h1 := h.head
    have h2 := ih h.tail
    rw [val_cons, List.length_cons, Nat.pow_succ, Nat.mul_comm (B ^ ds.length) B]
    have h3 : B * (val B ds + 1) ≤ B * B ^ ds.length := Nat.mul_le_mul_left _ h2
    rw [Nat.mul_add] at h3
    omega

theorem Top.tail {d : Nat} {l : List Nat} (h : Top (d :: l)) : Top l := by
  unfold Top at *
  cases l with
  | nil => simp
  | cons e l => simpa [List.getLast?_cons_cons] using h

theorem val_pos {B : Nat} (hB : 0 < B) {l : List Nat} (ht : Top l) (hn : l ≠ []) : 0 < val B l := by
  induction l with
  | nil => exact absurd rfl hn
  | cons d ds ih =>
    rw [val_cons]
    cases ds with
    | nil =>
      have : d ≠ 0 := by intro e; subst e; exact ht (by simp)
      simp; omega
    | cons e es =>
      have := ih ht.tail (by simp)
      have := Nat.mul_pos hB this
      omega

theorem val_ge {B : Nat} (hB : 0 < B) {l : List Nat} (ht : Top l) (hn : l ≠ []) : B ^ (l.length - 1) ≤ val B l := by
  induction l with
  | nil => exact absurd rfl hn
  | cons d ds ih =>
    cases ds with
    | nil => have := val_pos hB ht (by simp); simp only [List.length_cons, List.length_nil, Nat.zero_add, Nat.sub_self, Nat.pow_zero]; omega
    | cons e es =>
      have := ih ht.tail (by simp)
      rw [val_cons]
      simp only [List.length_cons, Nat.add_sub_cancel] at this ⊢
      rw [Nat.pow_succ, Nat.mul_comm (B ^ es.length) B]
      have := Nat.mul_le_mul_left B this
      omega

theorem canon_inj {B : Nat} (hB : 0 < B) : ∀ {a b : List Nat}, Ok B a → Ok B b → Top a → Top b → val B a = val B b → a = b := by
  intro a
  induction a with
  | nil =>
    intro b _ _ _ tb h
    cases b with
    | nil => rfl
    | cons e es => have := val_pos hB tb (by simp); simp only [val_nil] at h; omega
  | cons d ds ih =>
    intro b oa ob ta tb h
    cases b with
    | nil => have := val_pos hB ta (by simp); simp only [val_nil] at h; omega
    | cons e es =>
      have h1 := oa.head
      have h2 := ob.head
      simp only [val_cons] at h
      have hm : (d + B * val B ds) % B = (e + B * val B es) % B := by rw [h]
      have hd : (d + B * val B ds) / B = (e + B * val B es) / B := by rw [h]
      rw [Nat.add_mul_mod_self_left, Nat.add_mul_mod_self_left, Nat.mod_eq_of_lt h1, Nat.mod_eq_of_lt h2] at hm
      rw [Nat.add_mul_div_left _ _ hB, Nat.add_mul_div_left _ _ hB, Nat.div_eq_of_lt h1, Nat.div_eq_of_lt h2] at hd
      have := ih oa.tail ob.tail ta.tail tb.tail (by omega)
      rw [hm, this]

/-- The canonical digits of a number. -/
def digs (B n : Nat) : List Nat := if _h : n = 0 ∨ B ≤ 1 then [] else (n % B) :: digs B (n / B)
termination_by n
decreasing_by exact Nat.div_lt_self (by omega) (by omega)

theorem digs_zero (B : Nat) : digs B 0 = [] := by rw [digs]; simp
theorem digs_step {B n : Nat} (hB : 1 < B) (hn : n ≠ 0) : digs B n = (n % B) :: digs B (n / B) := by
  rw [digs]; rw [dif_neg (by omega)]
theorem val_digs {B : Nat} (hB : 1 < B) (n : Nat) : val B (digs B n) = n := by
  induction n using Nat.strongRecOn with
  | _ n ih =>
    by_cases hn : n = 0
    · subst hn; rw [digs_zero]; rfl
    · rw [digs_step hB hn, val_cons, ih _ (Nat.div_lt_self (by omega) hB), Nat.mod_add_div]
theorem ok_digs {B : Nat} (hB : 1 < B) (n : Nat) : Ok B (digs B n) := by
  induction n using Nat.strongRecOn with
  | _ n ih =>
    by_cases hn : n = 0
    · subst hn; rw [digs_zero]; exact Ok.nil
    · rw [digs_step hB hn]; exact Ok.cons (Nat.mod_lt _ (by omega)) (ih _ (Nat.div_lt_self (by omega) hB))
theorem top_digs {B : Nat} (hB : 1 < B) (n : Nat) : Top (digs B n) := by
  induction n using Nat.strongRecOn with
  | _ n ih =>
    by_cases hn : n = 0
    · subst hn; rw [digs_zero]; simp [Top]
    · rw [digs_step hB hn]
      by_cases h0 : n / B = 0
      · rw [h0, digs_zero]
        have : n < B := by
          rcases Nat.lt_or_ge n B with h | h
          · exact h
          · have := Nat.div_pos h (by omega); omega
        rw [Nat.mod_eq_of_lt this]
        simp [Top, hn]
      · have := ih _ (Nat.div_lt_self (by omega) hB)
        rw [digs_step hB h0] at this ⊢
        unfold Top at *
        simpa [List.getLast?_cons_cons] using this
theorem digs_val {B : Nat} (hB : 1 < B) {l : List Nat} (ho : Ok B l) (ht : Top l) : digs B (val B l) = l :=
  canon_inj (by omega) (ok_digs hB _) ho (top_digs hB _) ht (val_digs hB _)
theorem digs_eq {B n : Nat} (hB : 1 < B) {l : List Nat} (ho : Ok B l) (ht : Top l) (hv : val B l = n) : digs B n = l := by
  subst hv; exact digs_val hB ho ht
theorem digs_nil {B n : Nat} (hB : 1 < B) : digs B n = [] ↔ n = 0 := by
  constructor
  · intro h
    by_cases hn : n = 0
    · exact hn
    · rw [digs_step hB hn] at h; cases h
  · rintro rfl; exact digs_zero B
theorem digs_inj {B a b : Nat} (hB : 1 < B) (h : digs B a = digs B b) : a = b := by
  rw [← val_digs hB a, h, val_digs hB b]
theorem digs_len_le {B n k : Nat} (hB : 1 < B) (h : n < B ^ k) : (digs B n).length ≤ k := by
  rcases Nat.lt_or_ge k (digs B n).length with hk | hk
  · have h1 := val_ge (B := B) (by omega) (top_digs hB n) (by intro e; rw [e] at hk; simp at hk)
    rw [val_digs hB] at h1
    have : B ^ k ≤ B ^ ((digs B n).length - 1) := Nat.pow_le_pow_right (by omega) (by omega)
    omega
  · exact hk
theorem digs_lt {B n : Nat} (hB : 1 < B) : n < B ^ (digs B n).length := by
  have := val_lt (ok_digs hB n)
  rwa [val_digs hB] at this
theorem digs_ge {B n : Nat} (hB : 1 < B) (hn : n ≠ 0) : B ^ ((digs B n).length - 1) ≤ n := by
  have := val_ge (B := B) (by omega) (top_digs hB n) (by rw [Ne, digs_nil hB]; exact hn)
  rwa [val_digs hB] at this
theorem digs_len_mono {B a b : Nat} (hB : 1 < B) (h : a ≤ b) : (digs B a).length ≤ (digs B b).length :=
  digs_len_le hB (Nat.lt_of_le_of_lt h (digs_lt hB))
theorem digs_len_gt {B n k : Nat} (hB : 1 < B) : k < (digs B n).length ↔ B ^ k ≤ n := by
  constructor
  · intro h
    have hn : n ≠ 0 := by rintro rfl; rw [digs_zero] at h; simp at h
    exact Nat.le_trans (Nat.pow_le_pow_right (by omega) (by omega)) (digs_ge hB hn)
  · intro h
    rcases Nat.lt_or_ge k (digs B n).length with hk | hk
    · exact hk
    · have := digs_lt (n := n) hB
      have := Nat.pow_le_pow_right (n := B) (by omega) hk
      omega

theorem digs_take {B : Nat} (hB : 1 < B) {l : List Nat} (ho : Ok B l) (ht : Top l) {n : Nat} (hv : val B l = n) : l = digs B n := (digs_eq hB ho ht hv).symm

theorem val_take_succ (B : Nat) (xs : List Nat) (j : Nat) : val B (xs.take (j + 1)) = val B (xs.take j) + B ^ j * xs.getD j 0 := by
  rcases Nat.lt_or_ge j xs.length with h | h
  · rw [List.take_succ_eq_append_getElem h, val_append, List.length_take, Nat.min_eq_left (by omega), getD_lt h]
    simp
  · rw [List.take_of_length_le (by omega), List.take_of_length_le h, getD_ge h]
    simp
theorem val_take_all (B : Nat) (xs : List Nat) {j : Nat} (h : xs.length ≤ j) : val B (xs.take j) = val B xs := by rw [List.take_of_length_le h]
theorem take_set_lt (l : List Nat) (i j x : Nat) (h : j ≤ i) : (l.set i x).take j = l.take j := by
  rw [List.take_set, List.set_eq_of_length_le (by rw [List.length_take]; omega)]
theorem getD_set_self (l : List Nat) (i x : Nat) (h : i < l.length) : (l.set i x).getD i 0 = x := by
  rw [getD_lt (by simpa using h)]; simp
theorem getD_set_ne (l : List Nat) (i j x : Nat) (h : i ≠ j) : (l.set i x).getD j 0 = l.getD j 0 := by
  rw [List.getD_eq_getElem?_getD, List.getD_eq_getElem?_getD, List.getElem?_set_ne h]
theorem Ok.set {B : Nat} {l : List Nat} (h : Ok B l) {i x : Nat} (hx : x < B) : Ok B (l.set i x) := by
  intro y hy
  rcases List.mem_or_eq_of_mem_set hy with h1 | h1
  · exact h y h1
  · omega
theorem ok_replicate {B n : Nat} (hB : 0 < B) : Ok B (List.replicate n 0) := by
  intro y hy
  rw [List.mem_replicate] at hy
  omega
theorem val_replicate (B n : Nat) : val B (List.replicate n 0) = 0 := by
  induction n with
  | zero => rfl
  | succ n ih => rw [List.replicate_succ, val_cons, ih]; simp
theorem getD_replicate (n i : Nat) : (List.replicate n 0).getD i 0 = 0 := by
  rcases Nat.lt_or_ge i n with h | h
  · rw [getD_lt (by simpa using h)]; simp
  · exact getD_ge (by simpa using h)
theorem val_append_zeros (B n : Nat) (l : List Nat) : val B (l ++ List.replicate n 0) = val B l := by
  rw [val_append, val_replicate]; simp
theorem mod_div_step (P B s : Nat) : P * (s % B) + (P * B) * (s / B) = P * s := by
  rw [Nat.mul_assoc, ← Nat.mul_add, Nat.mod_add_div]
theorem add_step {V Va Vb P B c a b : Nat} (h : V + P * c = Va + Vb) :
    (V + P * ((c + a + b) % B)) + (P * B) * ((c + a + b) / B) = (Va + P * a) + (Vb + P * b) := by
  have := mod_div_step P B (c + a + b)
  rw [Nat.mul_add, Nat.mul_add] at this
  omega
theorem top_of_last {l : List Nat} (h : l = [] ∨ l.getD (l.length - 1) 0 ≠ 0) : Top l := by
  unfold Top
  rcases h with rfl | h
  · simp
  · intro e
    rw [List.getLast?_eq_getElem?] at e
    rw [List.getD_eq_getElem?_getD, e] at h
    exact h rfl

theorem val_split (B : Nat) (xs : List Nat) (j : Nat) : val B xs = val B (xs.take j) + B ^ j * val B (xs.drop j) := by
  rcases Nat.lt_or_ge j xs.length with h | h
  · have := val_append B (xs.take j) (xs.drop j)
    rw [List.take_append_drop, List.length_take, Nat.min_eq_left (by omega)] at this
    exact this
  · rw [List.take_of_length_le h, List.drop_eq_nil_of_le h]; simp
theorem drop_cons (xs : List Nat) (j : Nat) (h : j < xs.length) : xs.drop j = xs.getD j 0 :: xs.drop (j + 1) := by
  rw [List.drop_eq_getElem_cons h, getD_lt h]
theorem val_drop_step (B : Nat) (xs : List Nat) (j : Nat) : val B (xs.drop j) = xs.getD j 0 + B * val B (xs.drop (j + 1)) := by
  rcases Nat.lt_or_ge j xs.length with h | h
  · rw [drop_cons xs j h, val_cons]
  · rw [List.drop_eq_nil_of_le h, List.drop_eq_nil_of_le (by omega), getD_ge h]; simp
theorem val_take_lt {B : Nat} {xs : List Nat} (ho : Ok B xs) {j : Nat} (h : j ≤ xs.length) : val B (xs.take j) < B ^ j := by
  have := val_lt (ho.take j)
  rwa [List.length_take, Nat.min_eq_left h] at this

theorem val_take_lt' {B : Nat} (hB : 0 < B) {xs : List Nat} (ho : Ok B xs) (j : Nat) : val B (xs.take j) < B ^ j := by
  have h := val_lt (ho.take j)
  exact Nat.lt_of_lt_of_le h (Nat.pow_le_pow_right hB (List.length_take_le _ _))

/-- Comparison as Go's functions answer it. -/
def cmpI (x y : Nat) : Int := if x < y then -1 else if y < x then 1 else 0
theorem cmpI_lt {x y : Nat} (h : x < y) : cmpI x y = -1 := by unfold cmpI; rw [if_pos h]
theorem cmpI_gt {x y : Nat} (h : y < x) : cmpI x y = 1 := by unfold cmpI; rw [if_neg (by omega), if_pos h]
theorem cmpI_eq {x y : Nat} (h : x = y) : cmpI x y = 0 := by unfold cmpI; rw [if_neg (by omega), if_neg (by omega)]
theorem cmpI_bd (x y : Nat) : -1 ≤ cmpI x y ∧ cmpI x y ≤ 1 := by unfold cmpI; split <;> (try split) <;> omega
theorem cmpI_zero {x y : Nat} : cmpI x y = 0 ↔ x = y := by
  unfold cmpI; split <;> (try split) <;> constructor <;> intro h <;> first | omega | (exfalso; omega)
theorem cmpI_neg {x y : Nat} : cmpI x y < 0 ↔ x < y := by
  unfold cmpI; split <;> (try split) <;> constructor <;> intro h <;> first | omega | (exfalso; omega)
theorem cmpI_nonneg {x y : Nat} : 0 ≤ cmpI x y ↔ y ≤ x := by
  unfold cmpI; split <;> (try split) <;> constructor <;> intro h <;> first | omega | (exfalso; omega)

/-- The first digit from above that differs decides. -/
theorem val_lt_of_digit {B : Nat} {xs ys : List Nat} (hx : Ok B xs) {j : Nat} (hj : j < xs.length) (hd : val B (xs.drop (j + 1)) = val B (ys.drop (j + 1))) (hlt : xs.getD j 0 < ys.getD j 0) : val B xs < val B ys := by
  rw [val_split B xs j, val_split B ys j, val_drop_step B xs j, val_drop_step B ys j, hd]
  have h1 := val_take_lt hx (j := j) (by omega)
  have h2 : B ^ j * (xs.getD j 0 + B * val B (ys.drop (j + 1)) + 1) ≤ B ^ j * (ys.getD j 0 + B * val B (ys.drop (j + 1))) := Nat.mul_le_mul_left _ (by omega)
  rw [Nat.mul_add _ _ 1, Nat.mul_one] at h2
  omega
theorem val_lt_of_digit' {B : Nat} (hB : 0 < B) {xs ys : List Nat} (hx : Ok B xs) {j : Nat} (hd : val B (xs.drop (j + 1)) = val B (ys.drop (j + 1))) (hlt : xs.getD j 0 < ys.getD j 0) : val B xs < val B ys := by
  rw [val_split B xs j, val_split B ys j, val_drop_step B xs j, val_drop_step B ys j, hd]
  have h1 := val_take_lt' hB hx j
  have h2 : B ^ j * (xs.getD j 0 + B * val B (ys.drop (j + 1)) + 1) ≤ B ^ j * (ys.getD j 0 + B * val B (ys.drop (j + 1))) := Nat.mul_le_mul_left _ (by omega)
  rw [Nat.mul_add _ _ 1, Nat.mul_one] at h2
  omega
theorem val_lt_of_len {B : Nat} (hB : 0 < B) {xs ys : List Nat} (hx : Ok B xs) (hy : Top ys) (h : xs.length < ys.length) : val B xs < val B ys := by
  have h1 := val_lt hx
  have h2 := val_ge hB hy (by intro e; rw [e] at h; simp at h)
  have h3 : B ^ xs.length ≤ B ^ (ys.length - 1) := Nat.pow_le_pow_right hB (by omega)
  omega

end Go.Proofs.Ytkamkaehlofgpaa.NumB
