/-  -/
import Derived.Test.YtdmhkhnnomdkcaaDoorJo1
import Derived.Test.YtdmhkhnnomdkcaaDoorJo10
import Derived.Test.YtdmhkhnnomdkcaaDoorJo11
import Derived.Test.YtdmhkhnnomdkcaaDoorJo13
set_option linter.unusedVariables false
set_option linter.unusedSimpArgs false
/- nat.Power. Conditions: at most 128 limbs, not 0; an exponent of at most 5000; a limit of 128 limbs. -/
namespace Go.Proofs.YtdmhkhnnomdkcaaDoor
open Go.RowKit NumB
set_option linter.unusedVariables false
set_option linter.unusedSimpArgs false

/-- Does the power have at most 128 limbs. -/
def powOk (x n : Nat) : Bool := decide ((digs W32 (x ^ n)).length ≤ 128)
/-- What nat.Power answers. -/
def PowPost (w : World) (x n : Nat) (e : Ending) (w' : World) : Prop := ∃ v, e = .returned (.tuple #[v, .bool (powOk x n)]) ∧ (powOk x n = true → Nat32 w' v (x ^ n)) ∧ Below w.heap.size w w'
theorem pow_bit (n j : Nat) (hn : n ≤ 5000) : bits .and .i64 ((n : Int) / 2 ^ j) 1 = ((n / 2 ^ j % 2 : Nat) : Int) := by
  have e : (n : Int) / 2 ^ j = ((n / 2 ^ j : Nat) : Int) := by rw [Int.natCast_ediv, Int.natCast_pow]; rfl
  rw [e]
  exact and_one_i64 _ (by have : n / 2 ^ j ≤ n := Nat.div_le_self _ _; omega)
theorem powOk_no {x n p : Nat} (h : p ≤ x ^ n) (hp : ¬ (digs W32 p).length ≤ 128) : powOk x n = false := by
  unfold powOk
  rw [decide_eq_false_iff_not]
  intro h2
  exact hp (Nat.le_trans (digs_len_mono W32_gt h) h2)

set_option maxRecDepth 100000 in
set_option maxHeartbeats 3200000 in
theorem npow_any (x n : Nat) (v : Value) (w : World) (h : Nat32 w v x) (hx : (digs W32 x).length ≤ 128) (hx0 : 0 < x) (hn : n ≤ 5000) :
    Calls Tryd.prog 24 #[v, .int .i64 (n : Int), .int .i64 128] w (PowPost w x n) := by
  have HA := Lib.hid h
  have HX := Lib.hid (And.intro hx hx0)
  have HH : Hid (∀ j, x ^ (n / 2 ^ j) = x ^ (n / 2 ^ (j + 1)) * x ^ (n / 2 ^ (j + 1)) * (if n / 2 ^ j % 2 = 1 then x else 1)) := fun j => pow_half x n j
  have HP : Hid (∀ j, x ^ (n / 2 ^ j) ≤ x ^ n) := fun j => pow_part hx0
  have HB : Hid (∀ j, bits .and .i64 ((n : Int) / 2 ^ j) 1 = ((n / 2 ^ j % 2 : Nat) : Int)) := fun j => pow_bit n j hn
  have HOK : Hid (∀ p, p ≤ x ^ n → ¬ (digs W32 p).length ≤ 128 → powOk x n = false) := fun p h1 h2 => powOk_no h1 h2
  have HYES : Hid ((digs W32 (x ^ n)).length ≤ 128 → powOk x n = true) := fun h => decide_eq_true h
  obtain ⟨l, hl, hlb, HL⟩ : ∃ l, blen n = l ∧ l ≤ 13 ∧ Hid (n < 2 ^ l) := ⟨_, rfl, blen_le (by omega), blen_lt n⟩
  have HLEN : Hid (∀ W : World, Calls Tryd.prog 36 #[.int .u64 (n : Int)] W fun e w' => e = .returned (.int .i64 (l : Int)) ∧ w' = W) := fun W => by
    have := Tryd.bits_Len (n : Int) W (by omega) (by omega)
    rw [Int.toNat_natCast, bitLen_eq (by omega), hl] at this
    exact this
  have HXV : Hid (∀ W W' : World, True) := fun _ _ => trivial
  clear h hx hx0 hl HXV
  go_enter Tryd.func24, Tryd.ntmps24
  go_wp2_with fail
  refine (HLEN.out _).mono ?_
  rintro e w1 ⟨rfl, rfl⟩
  go_wp2_with fail
  go_loopg [8, 9] l (fun gk s8 s9 wr => s9 = .int .i64 ((gk : Int) - 1) ∧ gk ≤ l ∧ Hid (Nat32 wr s8 (x ^ (n / 2 ^ gk)) ∧ (digs W32 (x ^ (n / 2 ^ gk))).length ≤ 128) ∧ Hid (Below w.heap.size w wr))
  case atStart =>
    have e : n / 2 ^ l = 0 := Nat.div_eq_of_lt HL.out
    refine ⟨rfl, Nat.le_refl _, ⟨?_, ?_⟩, below_one _ _⟩
    · rw [e, Nat.pow_zero]; exact one32' _ _ rfl
    · rw [e, Nat.pow_zero, digs_one32]; decide
  case round =>
    obtain ⟨rfl, hgk, HN, HBW⟩ := hrel
    rcases gk with _ | j
    · have HT : Hid (powOk x n = true ∧ Nat32 wr u8 (x ^ n)) := by
        have h := HN.out
        rw [Nat.pow_zero, Nat.div_one] at h
        exact ⟨HYES.out h.2, h.1⟩
      clear HN
      go_wp2
      go_ret2
      exact ⟨u8, by rw [HT.out.1]; rfl, fun _ => HT.out.2, HBW.out⟩
    · have hj : ((j + 1 : Nat) : Int) - 1 = (j : Int) := by omega
      rw [hj]
      have hjb : j < 13 := by omega
      have HHJ := Lib.hid (HH.out j)
      have HPJ := Lib.hid (HP.out j)
      have hand := HB.out j
      have hb2 : n / 2 ^ j % 2 = 0 ∨ n / 2 ^ j % 2 = 1 := by omega
      obtain ⟨q, HQ⟩ : ∃ q, Hid (x ^ (n / 2 ^ j) = q) := ⟨_, rfl⟩
      have HND : Hid (x ^ (n / 2 ^ j) = q → (digs W32 q).length ≤ 128 → ∀ (W : World) (u : Value), Nat32 W u q → Nat32 W u (x ^ (n / 2 ^ j)) ∧ (digs W32 (x ^ (n / 2 ^ j))).length ≤ 128) := fun h h1 W u h2 => by rw [h]; exact ⟨h2, h1⟩
      rw [HQ.out] at HHJ HPJ
      generalize x ^ (n / 2 ^ (j + 1)) = p at *
      have HMU : Hid (∀ (W : World) (u : Value), Nat32 W u p → Calls Tryd.prog 27 #[u, u] W (NPost W (p * p))) := fun W u h1 => mul_any p p u u W h1 h1 (by have := HN.out.2; omega) (by have := HN.out.2; omega)
      have HPP : Hid ((digs W32 (p * p)).length ≤ 256) := Nat.le_trans (digs_len_mul _ _) (by have := HN.out.2; omega)
      have HMX : Hid (∀ (W : World) (u v : Value), Nat32 W u (p * p) → Nat32 W v x → Calls Tryd.prog 27 #[u, v] W (NPost W (p * p * x))) := fun W u v h1 h2 => mul_any _ _ u v W h1 h2 (by have := HPP.out; omega) (by have := HX.out.1; omega)
      have HPX : Hid ((digs W32 (p * p * x)).length ≤ 384) := Nat.le_trans (digs_len_mul _ _) (by have := HPP.out; have := HX.out.1; omega)
      rcases hb2 with hb2 | hb2
      · rw [hb2] at hand HHJ
        have HE : Hid (q = p * p) := by have := HHJ.out; rw [if_neg (by decide), Nat.mul_one] at this; exact this
        clear hb2 HHJ
        go_wp2_with fail
        refine (HMU.out _ _ (by exact HN.out.1)).mono ?_
        rintro e w2 ⟨v2, rfl, hn2, hb⟩
        obtain ⟨A2, n2, c2, rfl, hl2⟩ := hn2.form
        have HN2 : Hid (Nat32 w2 (.slice A2 n2 c2) q) := by unfold Hid; rw [HE.out]; exact hn2
        have hl3 : n2 = (digs W32 q).length := by rw [HE.out]; exact hl2
        have HB2 : Hid (Below w.heap.size w w2) := HBW.out.trans (hb.mono HBW.out.size)
        have hlm : n2 ≤ 256 := by rw [hl2]; exact HPP.out
        clear hn2 hb hl2
        by_cases hfit : n2 ≤ 128
        · have HF : Hid ((digs W32 q).length ≤ 128) := by rw [← hl3]; exact hfit
          clear hl3
          go_wp2
          go_roundg j
          case measure => exact Nat.lt_succ_self _
          case rel => exact ⟨rfl, by omega, HND.out HQ.out HF.out _ _ HN2.out, HB2.out⟩
        · have HF : Hid (powOk x n = false) := HOK.out q HPJ.out (by rw [← hl3]; exact hfit)
          clear hl3
          go_wp2
          go_ret2
          exact ⟨.slice none 0 0, by rw [HF.out]; rfl, (fun h => by rw [HF.out] at h; cases h), HB2.out⟩
      · rw [hb2] at hand HHJ
        have HE : Hid (q = p * p * x) := by have := HHJ.out; rw [if_pos rfl] at this; exact this
        clear hb2 HHJ
        go_wp2_with fail
        refine (HMU.out _ _ (by exact HN.out.1)).mono ?_
        rintro e w2 ⟨v2, rfl, hn2, hb⟩
        have HN2 := Lib.hid hn2
        have HB2 : Hid (Below w.heap.size w w2) := HBW.out.trans (hb.mono HBW.out.size)
        clear hn2 hb
        go_wp2_with fail
        refine (HMX.out _ _ _ (by exact HN2.out) (by exact HA.out.to HB2.out)).mono ?_
        rintro e w3 ⟨v3, rfl, hn3, hb⟩
        obtain ⟨A2, n2, c2, rfl, hl2⟩ := hn3.form
        have HN3 : Hid (Nat32 w3 (.slice A2 n2 c2) q) := by unfold Hid; rw [HE.out]; exact hn3
        have hl3 : n2 = (digs W32 q).length := by rw [HE.out]; exact hl2
        have HB3 : Hid (Below w.heap.size w w3) := HB2.out.trans (hb.mono HB2.out.size)
        have hlm : n2 ≤ 384 := by rw [hl2]; exact HPX.out
        clear hn3 hb hl2
        by_cases hfit : n2 ≤ 128
        · have HF : Hid ((digs W32 q).length ≤ 128) := by rw [← hl3]; exact hfit
          clear hl3
          go_wp2
          go_roundg j
          case measure => exact Nat.lt_succ_self _
          case rel => exact ⟨rfl, by omega, HND.out HQ.out HF.out _ _ HN3.out, HB3.out⟩
        · have HF : Hid (powOk x n = false) := HOK.out q HPJ.out (by rw [← hl3]; exact hfit)
          clear hl3
          go_wp2
          go_ret2
          exact ⟨.slice none 0 0, by rw [HF.out]; rfl, (fun h => by rw [HF.out] at h; cases h), HB3.out⟩
end Go.Proofs.YtdmhkhnnomdkcaaDoor
/- Decimal texts: plain facts. No program. -/
namespace Go.Proofs.YtdmhkhnnomdkcaaDoor.NumB

/-- The value of decimal digits, most significant first. -/
def dval (l : List UInt8) : Nat := l.foldl (fun a c => a * 10 + (c.toNat - 48)) 0
def isDig (c : UInt8) : Bool := decide (48 ≤ c.toNat ∧ c.toNat ≤ 57)
def allDig (l : List UInt8) : Bool := l.all isDig
/-- Digits alone, at least one. -/
def digitsB (l : List UInt8) : Bool := !l.isEmpty && allDig l

theorem foldl_dval (l : List UInt8) (a : Nat) : l.foldl (fun a c => a * 10 + (c.toNat - 48)) a = a * 10 ^ l.length + dval l := by
  induction l generalizing a with
  | nil => simp [dval]
  | cons c l ih =>
    unfold dval
    rw [List.foldl_cons, List.foldl_cons, ih, ih (0 * 10 + (c.toNat - 48)), List.length_cons, Nat.pow_succ, Nat.zero_mul, Nat.zero_add, Nat.add_mul, Nat.mul_assoc, Nat.mul_comm 10]
    omega
theorem dval_append (l m : List UInt8) : dval (l ++ m) = dval l * 10 ^ m.length + dval m := by
  have : dval (l ++ m) = m.foldl (fun a c => a * 10 + (c.toNat - 48)) (dval l) := by unfold dval; rw [List.foldl_append]
  rw [this, foldl_dval]
theorem dval_nil : dval [] = 0 := rfl
theorem dval_lt {l : List UInt8} (h : allDig l = true) : dval l < 10 ^ l.length := by
  induction l with
  | nil => simp [dval]
  | cons c l ih =>
    simp only [allDig, List.all_cons, Bool.and_eq_true] at h
    have h1 := ih h.2
    have h2 : c.toNat ≤ 57 := (of_decide_eq_true h.1).2
    have e : dval (c :: l) = dval [c] * 10 ^ l.length + dval l := dval_append [c] l
    have e1 : dval [c] = c.toNat - 48 := by simp [dval]
    rw [e, e1, List.length_cons, Nat.pow_succ]
    have h3 : (c.toNat - 48) * 10 ^ l.length ≤ 9 * 10 ^ l.length := Nat.mul_le_mul_right _ (by omega)
    omega
theorem allDig_take {l : List UInt8} (h : allDig l = true) (n : Nat) : allDig (l.take n) = true := List.all_eq_true.2 fun x hx => List.all_eq_true.1 h x (List.mem_of_mem_take hx)
theorem allDig_drop {l : List UInt8} (h : allDig l = true) (n : Nat) : allDig (l.drop n) = true := List.all_eq_true.2 fun x hx => List.all_eq_true.1 h x (List.mem_of_mem_drop hx)
theorem dval_take_succ {l : List UInt8} {i : Nat} (h : i < l.length) : dval (l.take (i + 1)) = dval (l.take i) * 10 + (l[i].toNat - 48) := by
  rw [List.take_succ_eq_append_getElem h, dval_append]
  simp [dval]
theorem dval_split (l : List UInt8) (n : Nat) (a : Nat) (h : n ≤ l.length) : (a * 10 ^ n + dval (l.take n)) * 10 ^ (l.length - n) + dval (l.drop n) = a * 10 ^ l.length + dval l := by
  have e : dval l = dval (l.take n) * 10 ^ (l.length - n) + dval (l.drop n) := by
    conv => lhs; rw [← List.take_append_drop n l]
    rw [dval_append, List.length_drop]
  have e2 : 10 ^ l.length = 10 ^ n * 10 ^ (l.length - n) := by rw [← Nat.pow_add]; congr 1; omega
  rw [e, e2, Nat.add_mul, Nat.mul_assoc, Nat.add_assoc]

/-- The decimal digits of a number, most significant first, as bytes; none for 0. -/
def decL (x : Nat) : List UInt8 := ((digs 10 x).map fun d => (48 + d).toUInt8).reverse
/-- Its text. -/
def dec (x : Nat) : List UInt8 := if x = 0 then [48] else decL x

/-- Nine digits of a number below 10^9, most significant first. -/
def pad9 (g : Nat) : List Nat := (List.range 9).map fun k => g / 10 ^ (8 - k) % 10
theorem pad9_len (g : Nat) : (pad9 g).length = 9 := by simp [pad9]
theorem pad9_get {g k : Nat} (h : k < 9) : (pad9 g).getD k 0 = g / 10 ^ (8 - k) % 10 := by
  rw [getD_lt (by rw [pad9_len]; exact h)]; simp [pad9]
theorem pad9_ok (g : Nat) : Ok 10 (pad9 g) := by
  intro d hd
  obtain ⟨k, _, rfl⟩ := List.mem_map.1 hd
  exact Nat.mod_lt _ (by decide)
theorem pad9_val {g : Nat} (h : g < 1000000000) : val 10 (pad9 g).reverse = g := by
  simp [pad9, List.range, List.range.loop]
  omega

theorem flat_ok {l : List Nat} : Ok 10 (l.flatMap pad9) := by
  intro d hd
  obtain ⟨g, _, h⟩ := List.mem_flatMap.1 hd
  exact pad9_ok g d h
theorem flat_val {l : List Nat} (h : Ok 1000000000 l) : val 10 (l.reverse.flatMap pad9).reverse = val 1000000000 l := by
  induction l with
  | nil => rfl
  | cons g l ih =>
    rw [List.reverse_cons, List.flatMap_append, List.reverse_append, val_append, ih h.tail]
    simp only [List.flatMap_cons, List.flatMap_nil, List.append_nil]
    rw [pad9_val h.head, List.length_reverse, pad9_len, val_cons]

/-- Without leading zeros. -/
theorem strip_eq {l : List Nat} {x : Nat} (ho : Ok 10 l) (hv : val 10 l.reverse = x) : l.dropWhile (· == 0) = (digs 10 x).reverse := by
  have key : ∀ l : List Nat, Ok 10 l → (l.dropWhile (· == 0)) = (digs 10 (val 10 l.reverse)).reverse := by
    intro l
    induction l with
    | nil => intro _; simp [digs_zero]
    | cons d l ih =>
      intro ho
      rw [List.dropWhile_cons]
      by_cases hd : d = 0
      · subst hd
        simp only [beq_self_eq_true, if_true]
        rw [ih ho.tail]
        congr 2
        rw [List.reverse_cons, val_append]
        simp
      · rw [if_neg (by simpa using hd)]
        have : digs 10 (val 10 (d :: l).reverse) = (d :: l).reverse := by
          refine digs_val (by decide) (fun x hx => ho x (List.mem_reverse.1 hx)) ?_
          unfold Top
          rw [List.getLast?_reverse]
          simp [hd]
        rw [this, List.reverse_reverse]
  rw [← hv]
  exact key l ho
theorem decL_eq (x : Nat) : decL x = ((digs 10 x).reverse).map fun d => (48 + d).toUInt8 := by unfold decL; rw [List.map_reverse]
theorem groups_dec {x : Nat} : ((((digs 1000000000 x).reverse).flatMap pad9).dropWhile (· == 0)).map (fun d => (48 + d).toUInt8) = decL x := by
  rw [decL_eq, strip_eq flat_ok (flat_val (ok_digs (by decide) x)), val_digs (by decide)]
theorem decL_ne {x : Nat} (h : x ≠ 0) : decL x ≠ [] := by
  unfold decL
  intro e
  have := congrArg List.length e
  simp at this
  exact h ((digs_nil (B := 10) (by decide)).1 this)
theorem dec_eleven : dec 11 = [49, 49] := by
  have : digs 10 11 = [1, 1] := digs_eq (by decide) (Ok.cons (by decide) (Ok.cons (by decide) Ok.nil)) (by simp [Top]) (by simp)
  simp [dec, decL, this]
theorem dec_two : dec 2 = [50] := by
  have : digs 10 2 = [2] := digs_eq (by decide) (Ok.cons (by decide) Ok.nil) (by simp [Top]) (by simp)
  simp [dec, decL, this]
end Go.Proofs.YtdmhkhnnomdkcaaDoor.NumB
/- nat.DivSmall once more: where its quotient lies; append of numbers, what else it leaves. -/
namespace Go.Proofs.YtdmhkhnnomdkcaaDoor
open Go.RowKit NumB
set_option linter.unusedVariables false
set_option linter.unusedSimpArgs false

set_option maxRecDepth 100000 in
set_option maxHeartbeats 400000 in
theorem divSmall_own (xs : List Nat) (A : Option Addr) (n c d : Nat) (w : World) (hr : Rd .u32 w w.heap.size A n xs) (ho : Ok W32 xs) (hc : n ≤ c) (hm : c ≤ maxLen) (hn : n ≤ 1000000) (hd : 0 < d) (hd2 : d < 4294967296) :
    Calls Tryd.prog 45 #[.slice A n c, .int .u32 (d : Int)] w fun e w' => ∃ m c' : Nat, e = .returned (.tuple #[.slice (some ⟨w.heap.size, 0, none⟩) m c', .int .u32 ((val W32 xs % d : Nat) : Int)]) ∧ Nat32 w' (.slice (some ⟨w.heap.size, 0, none⟩) m c') (val W32 xs / d) ∧ Below w.heap.size w w' := by
  unfold maxLen at hm
  have HR := Lib.hid hr
  clear hr
  have HO := Lib.hid ho
  clear ho
  obtain ⟨i0, hi0, hz0, hz1, hz2⟩ := info_parts info_u32
  have HI := Lib.hid hi0
  have HZ0 := Lib.hid hz0
  have HZ1 := Lib.hid hz1
  have HZ2 := Lib.hid hz2
  clear hi0 hz0 hz1 hz2
  go_enter Tryd.func45, Tryd.ntmps45
  go_wp2_with (at_make; refine wpList_make_full _ rfl _ _ 22 rfl w.heap.size 35 i0 (.int .u32 0) 1 Tryd.underlying22 HI.out HZ0.out HZ1.out .i64 .i64 _ _ n rfl rfl rfl rfl (by rw [HZ2.out]; omega) (by unfold maxLen; omega) (Nat.le_refl _) ?_; intro w1 hown1 hg1)
  have HOW := Lib.hid (Own.made hown1)
  have HB := Lib.hid ((Below.refl w.heap.size w).grown hg1 (Nat.le_refl _) (by simp))
  clear hown1 hg1
  go_loopg [7, 8] (n + 1) (fun g r i wr => ∃ (j : Nat) (rest : Nat) (out : List Nat), g = j + 1 ∧ j ≤ n ∧ i = .int .i64 ((j : Int) - 1) ∧ r = .int .u64 (rest : Int) ∧ rest < d ∧ Hid (Own .u32 35 wr w.heap.size w.heap.size n n out) ∧ Hid (Below w.heap.size w wr) ∧ Hid (val W32 (xs.drop j) = d * val W32 (out.drop j) + rest) ∧ Hid (Ok W32 out))
  case atStart => exact ⟨n, 0, _, rfl, Nat.le_refl _, rfl, rfl, hd, HOW.out, HB.out, by rw [← HR.out.1, List.drop_length, List.drop_eq_nil_of_le (by simp)]; rfl, ok_replicate (by decide)⟩
  case round =>
    obtain ⟨j, rest, out, rfl, hj, rfl, rfl, hrest, HOw, HBw, HV, HOo⟩ := hrel
    by_cases h0 : 0 < j
    · obtain ⟨b, o, x, rfl, hb, hxe, hcell⟩ := (HR.out.below HBw.out).at_ (i := j - 1) (by omega)
      have hx : x < 4294967296 := by rw [← hxe]; exact HO.out.getD (by decide) _
      have HX := Lib.hid hxe
      clear hxe
      obtain ⟨y, hy⟩ : ∃ y : Nat, wr.cell? ⟨w.heap.size, j - 1, none⟩ = some (.int .u32 (y : Int)) := ⟨_, HOw.out.cell (by omega)⟩
      have hf := HOw.out.frozen (j - 1)
      have hor := u64_or_shift rest x (by omega) hx
      obtain ⟨q, r, hq, hr', hqb, hrd, he⟩ := div_facts rest x d hrest hd2 hx
      have HE := Lib.hid he
      clear he
      go_wp2
      go_roundg j
      case measure => omega
      case rel =>
        refine ⟨j - 1, r, out.set (j - 1) q, by omega, by omega, ?_, congrArg (Value.int .u64) hr', hrd, (HOw.out.stored _ _), HBw.out.setCell (Nat.le_refl _) _, ?_, HOo.out.set hqb⟩
        · congr 1; omega
        · exact divSmall_step h0 (by rw [HOw.out.1]; exact hj) HX.out (by rw [HR.out.1]; exact hj) HV.out HE.out
    · obtain rfl : j = 0 := by omega
      go_wp2_with (go_at_call 15; refine (trim_any out _ n n _ _ HOw.out.rd HOo.out (Nat.le_refl _) (by unfold maxLen; omega)).mono ?_; rintro e w' ⟨m, rfl, hm', ht, rfl⟩)
      go_ret2
      have hv := HV.out
      rw [List.drop_zero, List.drop_zero] at hv
      have e1 : val W32 xs / d = val W32 out := by rw [hv, Nat.mul_add_div hd, Nat.div_eq_of_lt hrest, Nat.add_zero]
      have e2 : val W32 xs % d = rest := by rw [hv, Nat.mul_add_mod, Nat.mod_eq_of_lt hrest]
      rw [e1, e2]
      exact ⟨_, _, rfl, Sl.of_rd HOw.out.rd hm' (Nat.le_refl _) (by unfold maxLen; omega) ht, HBw.out⟩


theorem divSmall_own_nat (x d : Nat) (va : Value) (w : World) (ha : Nat32 w va x) (hn : (digs W32 x).length ≤ 1000000) (hd : 0 < d) (hd2 : d < 4294967296) :
    Calls Tryd.prog 45 #[va, .int .u32 (d : Int)] w fun e w' => ∃ m c' : Nat, e = .returned (.tuple #[.slice (some ⟨w.heap.size, 0, none⟩) m c', .int .u32 ((x % d : Nat) : Int)]) ∧ Nat32 w' (.slice (some ⟨w.heap.size, 0, none⟩) m c') (x / d) ∧ Below w.heap.size w w' := by
  obtain ⟨A, c, rfl, hc, hm, hr⟩ := ha
  have h := divSmall_own (digs W32 x) A _ c d w hr (ok_digs W32_gt x) hc hm hn hd hd2
  rw [val_digs W32_gt] at h
  exact h

theorem wpList_pushG {P : Program} {ops : Array Oper} {rest : List Oper} {o : Oper} {a : Act} {Q : Exit → Act → World → Prop} (w : World) (hgd : o.guard = none) (s x : Operand) (t : TypeId)
    (ho : o.op = .call { callee := .builtin .append, args := #[s, x], argTypes := #[t, t] })
    (k : IntKind) (T : TypeId) (bytes : Nat) (ht : P.underlying t = some (.slice T)) (hinfo : (P.info? T).map (fun i => (i.zero, i.size, i.bytes)) = some (some (.int k 0), 1, bytes)) (hb8 : bytes ≤ 8)
    (B : Nat) (v : Value) (xs ys : List Nat) (hs : a.eval s = v) (hx : a.eval x = .slice (some ⟨w.heap.size, 0, none⟩) ys.length ys.length) (hown : OwnV k T w B v xs) (hn : xs.length + ys.length ≤ 1000000) (hB : B ≤ w.heap.size) (C : Array Value) (hC : C = (cellsN k ys).toArray)
    (h : ∀ v' w', OwnV k T w' B v' (xs ++ ys) → Below B w w' → (w.alloc (.cells C T)).grownBy w' v.ownBlock → wpList P ops Q rest (a.put o.dst v') w') : wpList P ops Q (o :: rest) a (w.alloc (.cells C T)) := by
  subst hC
  obtain ⟨i0, hi0, hz0, hz1, hz2⟩ := info_parts hinfo
  refine wpList_append_own_at _ hgd s x t ho B T i0 (.int k 0) 1 bytes ht hi0 hz0 hz1 hz2 rfl (by decide) v xs.length (cellsN k xs) hs (hown.alloc _) ⟨w.heap.size, 0, none⟩ ys.length ys.length (cellsN k ys) hx (by rw [cellsN_len]; omega) news_block cellsN_one (by unfold maxLen; omega) ?_ (by simp; omega) ?_
  · have : (xs.length + ys.length) * bytes ≤ 1000000 * 8 := Nat.mul_le_mul hn hb8
    omega
  · intro v' w' h1 h2 _ _
    refine h v' w' ?_ (((Below.refl B w).alloc hB _).grown h2 (by simp; omega) (fun g hg => hown.blk g hg)) h2
    unfold OwnV
    rw [List.length_append, ← cellsN_append]
    exact h1

/-- append of another slice. -/
theorem wpList_joinG {P : Program} {ops : Array Oper} {rest : List Oper} {o : Oper} {a : Act} {Q : Exit → Act → World → Prop} (w : World) (hgd : o.guard = none) (s x : Operand) (t : TypeId)
    (ho : o.op = .call { callee := .builtin .append, args := #[s, x], argTypes := #[t, t] })
    (k : IntKind) (T : TypeId) (bytes : Nat) (ht : P.underlying t = some (.slice T)) (hinfo : (P.info? T).map (fun i => (i.zero, i.size, i.bytes)) = some (some (.int k 0), 1, bytes)) (hb8 : bytes ≤ 8)
    (B : Nat) (v : Value) (xs ys : List Nat) (ad : Addr) (c m : Nat) (hm : ys.length = m) (hs : a.eval s = v) (hx : a.eval x = .slice (some ad) m c) (hr : Rd k w w.heap.size (some ad) m ys) (hown : OwnV k T w B v xs) (hn : xs.length + ys.length ≤ 1000000) (hB : B ≤ w.heap.size)
    (h : ∀ v' w', OwnV k T w' B v' (xs ++ ys) → w.grownBy w' v.ownBlock → wpList P ops Q rest (a.put o.dst v') w') : wpList P ops Q (o :: rest) a w := by
  subst hm
  obtain ⟨i0, hi0, hz0, hz1, hz2⟩ := info_parts hinfo
  refine wpList_append_own_at _ hgd s x t ho B T i0 (.int k 0) 1 bytes ht hi0 hz0 hz1 hz2 rfl (by decide) v xs.length (cellsN k xs) hs hown ad ys.length c (cellsN k ys) hx (by rw [cellsN_len]; omega) (rd_news hr) cellsN_one (by unfold maxLen; omega) ?_ hB ?_
  · have : (xs.length + ys.length) * bytes ≤ 1000000 * 8 := Nat.mul_le_mul hn hb8
    omega
  · intro v' w' h1 h2 _ _
    refine h v' w' ?_ h2
    unfold OwnV
    rw [List.length_append, ← cellsN_append]
    exact h1

/-- A slice whose block has not turned. -/
theorem Sl.blk {k : IntKind} {w w' : World} {g o n c : Nat} {xs : List Nat} (h : Sl k w (.slice (some ⟨g, o, none⟩) n c) xs) (hb : w'.heap[g]? = w.heap[g]?) (hs : w.heap.size ≤ w'.heap.size) : Sl k w' (.slice (some ⟨g, o, none⟩) n c) xs := by
  obtain ⟨A, c', e, h1, h2, h3, h4⟩ := h
  simp only [Value.slice.injEq] at e
  obtain ⟨rfl, rfl, rfl⟩ := e
  refine ⟨_, _, rfl, h1, h2, h3, fun hn => ?_⟩
  obtain ⟨b, o', e2, hbl, hc⟩ := h4 hn
  injection e2 with e2
  injection e2 with e3 e4
  subst e3 e4
  exact ⟨g, o, rfl, Nat.lt_of_lt_of_le hbl hs, fun i hi => (World.cell?_of_block hb).trans (hc i hi)⟩
theorem ownV_lt {k : IntKind} {T : TypeId} {w : World} {B : Nat} {v : Value} {xs : List Nat} (h : OwnV k T w B v xs) : ∀ g, v.ownBlock = some g → g < w.heap.size := fun g hg => (World.ownsRow.lt h g hg).2
end Go.Proofs.YtdmhkhnnomdkcaaDoor
