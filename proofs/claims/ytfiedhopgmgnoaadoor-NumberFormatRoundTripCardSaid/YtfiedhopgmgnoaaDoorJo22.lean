/- Decimal texts: plain facts. No program. nat.FromDecimal: digits alone. Conditions: at most 10000 bytes. -/
import Derived.Lib.SliceRun
import Derived.Test.YtfiedhopgmgnoaaDoorJo1
import Derived.Test.YtfiedhopgmgnoaaDoorJo16
import Derived.Test.YtfiedhopgmgnoaaDoorJo18
set_option linter.unusedVariables false
set_option linter.unusedSimpArgs false
namespace Go.Proofs.YtfiedhopgmgnoaaDoor.NumB

/-- The value of decimal digits, most significant first. -/
def dval (l : List UInt8) : Nat := l.foldl (fun a c => a * 10 + (c.toNat - 48)) 0
def isDig (c : UInt8) : Bool := decide (48 ≤ c.toNat ∧ c.toNat ≤ 57)
def allDig (l : List UInt8) : Bool := l.all isDig
/-- Digits alone, at least one. -/
def digitsB (l : List UInt8) : Bool := !l.isEmpty && allDig l

theorem foldl_dval (l : List UInt8) (a : Nat) : l.foldl (fun a c => a * 10 + (c.toNat - 48)) a = a * 10 ^ l.length + dval l := by
  induction l generalizing a with
  | nil => simp [dval]
  | cons c l ih =>
    unfold dval
    rw [List.foldl_cons, List.foldl_cons, ih, ih (0 * 10 + (c.toNat - 48)), List.length_cons, Nat.pow_succ, Nat.zero_mul, Nat.zero_add, Nat.add_mul, Nat.mul_assoc, Nat.mul_comm 10]
    omega
theorem dval_append (l m : List UInt8) : dval (l ++ m) = dval l * 10 ^ m.length + dval m := by
  have : dval (l ++ m) = m.foldl (fun a c => a * 10 + (c.toNat - 48)) (dval l) := by unfold dval; rw [List.foldl_append]
  rw [this, foldl_dval]
theorem dval_nil : dval [] = 0 := rfl
theorem dval_lt {l : List UInt8} (h : allDig l = true) : dval l < 10 ^ l.length := by
  induction l with
  | nil => simp [dval]
  | cons c l ih =>
    simp only [allDig, List.all_cons, Bool.and_eq_true] at h
    have h1 := ih h.2
    have h2 : c.toNat ≤ 57 := (of_decide_eq_true h.1).2
    have e : dval (c :: l) = dval [c] * 10 ^ l.length + dval l := dval_append [c] l
    have e1 : dval [c] = c.toNat - 48 := by simp [dval]
    rw [e, e1, List.length_cons, Nat.pow_succ]
    have h3 : (c.toNat - 48) * 10 ^ l.length ≤ 9 * 10 ^ l.length := Nat.mul_le_mul_right _ (by omega)
    omega
theorem allDig_take {l : List UInt8} (h : allDig l = true) (n : Nat) : allDig (l.take n) = true := List.all_eq_true.2 fun x hx => List.all_eq_true.1 h x (List.mem_of_mem_take hx)
theorem allDig_drop {l : List UInt8} (h : allDig l = true) (n : Nat) : allDig (l.drop n) = true := List.all_eq_true.2 fun x hx => List.all_eq_true.1 h x (List.mem_of_mem_drop hx)
theorem dval_take_succ {l : List UInt8} {i : Nat} (h : i < l.length) : dval (l.take (i + 1)) = dval (l.take i) * 10 + (l[i].toNat - 48) := by
  rw [List.take_succ_eq_append_getElem h, dval_append]
  simp [dval]
theorem dval_split (l : List UInt8) (n : Nat) (a : Nat) (h : n ≤ l.length) : (a * 10 ^ n + dval (l.take n)) * 10 ^ (l.length - n) + dval (l.drop n) = a * 10 ^ l.length + dval l := by
  have e : dval l = dval (l.take n) * 10 ^ (l.length - n) + dval (l.drop n) := by
    conv => lhs; rw [← List.take_append_drop n l]
    rw [dval_append, List.length_drop]
  have e2 : 10 ^ l.length = 10 ^ n * 10 ^ (l.length - n) := by rw [← Nat.pow_add]; congr 1; omega
  rw [e, e2, Nat.add_mul, Nat.mul_assoc, Nat.add_assoc]

/-- The decimal digits of a number, most significant first, as bytes; none for 0. -/
def decL (x : Nat) : List UInt8 := ((digs 10 x).map fun d => (48 + d).toUInt8).reverse
/-- Its text. -/
def dec (x : Nat) : List UInt8 := if x = 0 then [48] else decL x

/-- Nine digits of a number below 10^9, most significant first. -/
def pad9 (g : Nat) : List Nat := (List.range 9).map fun k => g / 10 ^ (8 - k) % 10
theorem pad9_len (g : Nat) : (pad9 g).length = 9 := by simp [pad9]
theorem pad9_get {g k : Nat} (h : k < 9) : (pad9 g).getD k 0 = g / 10 ^ (8 - k) % 10 := by
  rw [getD_lt (by rw [pad9_len]; exact h)]; simp [pad9]
theorem pad9_ok (g : Nat) : Ok 10 (pad9 g) := by
  intro d hd
  obtain ⟨k, _, rfl⟩ := List.mem_map.1 hd
  exact Nat.mod_lt _ (by decide)
theorem pad9_val {g : Nat} (h : g < 1000000000) : val 10 (pad9 g).reverse = g := by
  simp [pad9, List.range, List.range.loop]
  omega

theorem flat_ok {l : List Nat} : Ok 10 (l.flatMap pad9) := by
  intro d hd
  obtain ⟨g, _, h⟩ := List.mem_flatMap.1 hd
  exact pad9_ok g d h
theorem flat_val {l : List Nat} (h : Ok 1000000000 l) : val 10 (l.reverse.flatMap pad9).reverse = val 1000000000 l := by
  induction l with
  | nil => rfl
  | cons g l ih =>
    rw [List.reverse_cons, List.flatMap_append, List.reverse_append, val_append, ih h.tail]
    simp only [List.flatMap_cons, List.flatMap_nil, List.append_nil]
    rw [pad9_val h.head, List.length_reverse, pad9_len, val_cons]

/-- Without leading zeros. -/
theorem strip_eq {l : List Nat} {x : Nat} (ho : Ok 10 l) (hv : val 10 l.reverse = x) : l.dropWhile (· == 0) = (digs 10 x).reverse := by
  have key : ∀ l : List Nat, Ok 10 l → (l.dropWhile (· == 0)) = (digs 10 (val 10 l.reverse)).reverse := by
    intro l
    induction l with
    | nil => intro _; simp [digs_zero]
    | cons d l ih =>
      intro ho
      rw [List.dropWhile_cons]
      by_cases hd : d = 0
      · subst hd
        simp only [beq_self_eq_true, if_true]
        rw [ih ho.tail]
        congr 2
        rw [List.reverse_cons, val_append]
        simp
      · rw [if_neg (by simpa using hd)]
        have : digs 10 (val 10 (d :: l).reverse) = (d :: l).reverse := by
          refine digs_val (by decide) (fun x hx => ho x (List.mem_reverse.1 hx)) ?_
          unfold Top
          rw [List.getLast?_reverse]
          simp [hd]
        rw [this, List.reverse_reverse]
  rw [← hv]
  exact key l ho
theorem decL_eq (x : Nat) : decL x = ((digs 10 x).reverse).map fun d => (48 + d).toUInt8 := by unfold decL; rw [List.map_reverse]
theorem groups_dec {x : Nat} : ((((digs 1000000000 x).reverse).flatMap pad9).dropWhile (· == 0)).map (fun d => (48 + d).toUInt8) = decL x := by
  rw [decL_eq, strip_eq flat_ok (flat_val (ok_digs (by decide) x)), val_digs (by decide)]
theorem decL_ne {x : Nat} (h : x ≠ 0) : decL x ≠ [] := by
  unfold decL
  intro e
  have := congrArg List.length e
  simp at this
  exact h ((digs_nil (B := 10) (by decide)).1 this)
theorem dec_eleven : dec 11 = [49, 49] := by
  have : digs 10 11 = [1, 1] := digs_eq (by decide) (Ok.cons (by decide) (Ok.cons (by decide) Ok.nil)) (by simp [Top]) (by simp)
  simp [dec, decL, this]
theorem dec_two : dec 2 = [50] := by
  have : digs 10 2 = [2] := digs_eq (by decide) (Ok.cons (by decide) Ok.nil) (by simp [Top]) (by simp)
  simp [dec, decL, this]
end Go.Proofs.YtfiedhopgmgnoaaDoor.NumB
namespace Go.Proofs.YtfiedhopgmgnoaaDoor
open Go.RowKit NumB
set_option linter.unusedVariables false
set_option linter.unusedSimpArgs false

theorem digs32_dec {x n : Nat} (h : x < 10 ^ n) : (digs W32 x).length ≤ n := digs_len_le W32_gt (Nat.lt_of_lt_of_le h (Nat.pow_le_pow_left (by decide) n))

theorem dig_at {t : ByteArray} (h : allDig t.data.toList = true) {i : Nat} (hi : i < t.size) : 48 ≤ t[i].toNat ∧ t[i].toNat ≤ 57 := by
  have hm : t[i] ∈ t.data.toList := by show t.data[i] ∈ t.data.toList; exact Array.getElem_mem_toList _
  exact of_decide_eq_true (List.all_eq_true.1 h _ hm)
theorem dval_at {t : ByteArray} {i c : Nat} (hi : i < t.size) (hc : t[i].toNat = c) : dval (t.data.toList.take (i + 1)) = dval (t.data.toList.take i) * 10 + (c - 48) := by
  rw [← hc]
  exact dval_take_succ (by simpa using hi)
theorem dval_take_lt {t : ByteArray} (h : allDig t.data.toList = true) {i : Nat} (hi : i ≤ 9) : dval (t.data.toList.take i) < 1000000000 := by
  refine Nat.lt_of_lt_of_le (dval_lt (allDig_take h i)) (Nat.le_trans (Nat.pow_le_pow_right (by decide) (Nat.le_trans (List.length_take_le _ _) hi)) (by decide))
theorem ten_le {i : Nat} (h : i ≤ 9) : 10 ^ i ≤ 1000000000 := Nat.le_trans (Nat.pow_le_pow_right (by decide) h) (by decide)
theorem small32 {x : Nat} (h : x ≤ 1000000000) : (digs W32 x).length ≤ 1 := digs_len_le W32_gt (by unfold W32; omega)

/-- What is left to be read, and what has been read. -/
def FD (w wr : World) (D : Nat) (t : ByteArray) (v : Value) : Prop := allDig t.data.toList = true ∧ ∃ a : Nat, Nat32 wr v a ∧ a * 10 ^ t.size + dval t.data.toList = D ∧ Below w.heap.size w wr

set_option maxRecDepth 100000 in
set_option maxHeartbeats 6400000 in
theorem fromDec_any (s : ByteArray) (w : World) (hs : s.size ≤ 10000) (hd : allDig s.data.toList = true) :
    Calls Tryd.prog 35 #[.string s] w (NPost w (dval s.data.toList)) := by
  have HDL : Hid (∀ a, a ≤ dval s.data.toList → (digs W32 a).length ≤ 10000) := fun a ha => Nat.le_trans (digs32_dec (Nat.lt_of_le_of_lt ha (dval_lt hd))) (by have := Lib.size_eq s; omega)
  have H0 := Lib.hid hd
  clear hd
  generalize hD : dval s.data.toList = D at *
  have HD := Lib.hid hD
  clear hD
  go_enter Tryd.func35, Tryd.ntmps35
  go_wp2
  go_loopg [0, 3, 4, 5, 6, 7] s.size (fun gk s0 s3 s4 s5 s6 s7 wr => ∃ t : ByteArray, s0 = .string t ∧ t.size = gk ∧ gk ≤ 10000 ∧ Hid (FD w wr D t s3))
  case atStart => exact ⟨s, rfl, rfl, hs, H0.out, 0, nat32_zero _, by rw [HD.out]; omega, Below.refl _ _⟩
  case round =>
    obtain ⟨t, rfl, htk, hk, HF⟩ := hrel
    have HTK := Lib.hid htk
    by_cases h0 : 0 < gk
    · obtain ⟨n, hn, hn1, hn9, hngk⟩ : ∃ n : Nat, ((gk : Int) - 1) % 9 + 1 = (n : Int) ∧ 1 ≤ n ∧ n ≤ 9 ∧ n ≤ gk := ⟨(gk - 1) % 9 + 1, by omega, by omega, by omega, by omega⟩
      go_wp2
      clear hn
      go_loopg [17, 5, 6, 7] n (fun gj s17 s5 s6 s7 wq => ∃ i p q : Nat, gj + i = n ∧ s17 = .int .i64 (i : Int) ∧ s5 = .int .u64 (p : Int) ∧ s6 = .int .u64 (q : Int) ∧ p < 1000000000 ∧ q ≤ 1000000000 ∧ Hid (p = dval (t.data.toList.take i) ∧ q = 10 ^ i) ∧ wr = wq)
      case atStart => exact ⟨0, 0, 1, by omega, rfl, rfl, rfl, by omega, by omega, ⟨rfl, rfl⟩, rfl⟩
      case round =>
        obtain ⟨i, p, q, hgj, rfl, rfl, rfl, hp, hq, HPQ, rfl⟩ := hrel
        by_cases hi : i < n
        · have hit : i < t.size := by omega
          obtain ⟨c, hc⟩ : ∃ c : Nat, t[i].toNat = c := ⟨_, rfl⟩
          have hdig : 48 ≤ c ∧ c ≤ 57 := by rw [← hc]; exact dig_at HF.out.1 hit
          have HE := Lib.hid (dval_at hit hc)
          go_wp2
          go_roundg (gk - 1)
          case measure => omega
          case rel =>
            have e1 : p * 10 + (c - 48) = dval (t.data.toList.take (i + 1)) := by rw [HE.out, ← HPQ.out.1]
            have e2 : q * 10 = 10 ^ (i + 1) := by rw [HPQ.out.2, Nat.pow_succ]
            exact ⟨i + 1, p * 10 + (c - 48), q * 10, by omega, by go_num, congrArg (Value.int .u64) (by omega), by go_num, by rw [e1]; exact dval_take_lt HF.out.1 (by omega), by rw [e2]; exact ten_le (by omega), ⟨e1, e2⟩, rfl⟩
        · obtain rfl : i = n := by omega
          obtain ⟨a, ha, hae, hab⟩ := HF.out.2
          have HA := Lib.hid ha
          have HAB := Lib.hid hab
          have hle : a ≤ D := by rw [← hae]; exact Nat.le_trans (Nat.le_mul_of_pos_right _ (Nat.pow_pos (by decide))) (Nat.le_add_right _ _)
          have HAL := Lib.hid (HDL.out a hle)
          have HAE := Lib.hid hae
          have HQL := Lib.hid (small32 hq)
          have HPL := Lib.hid (small32 (Nat.le_of_lt hp))
          clear ha hae hab hle
          go_wp2_with fail
          refine (of_any q _ (by omega)).mono ?_
          rintro e w1 ⟨v1, rfl, hn1, hb1⟩
          have HN1 := Lib.hid hn1
          have HB1 := Lib.hid hb1
          clear hn1 hb1
          go_wp2_with fail
          refine (mul_any a q _ _ _ (by exact HA.out.to HB1.out) (by exact HN1.out) (Nat.le_trans HAL.out (by omega)) (Nat.le_trans HQL.out (by omega))).mono ?_
          rintro e w2 ⟨v2, rfl, hn2, hb2⟩
          have HN2 := Lib.hid hn2
          have HB2 := Lib.hid (HB1.out.trans (hb2.mono HB1.out.size))
          clear hn2 hb2
          go_wp2_with fail
          refine (of_any p _ (by omega)).mono ?_
          rintro e w3 ⟨v3, rfl, hn3, hb3⟩
          have HN3 := Lib.hid hn3
          have HN4 := Lib.hid (HN2.out.to hb3)
          have HB3 := Lib.hid (HB2.out.trans (hb3.mono HB2.out.size))
          clear hn3 hb3
          go_wp2_with fail
          refine (plus_any (a * q) p _ _ _ (by exact HN4.out) (by exact HN3.out) (Nat.le_trans (digs_len_mul a q) (by have := HAL.out; have := HQL.out; omega)) (Nat.le_trans HPL.out (by omega))).mono ?_
          rintro e w4 ⟨v4, rfl, hn4, hb4⟩
          have HN5 := Lib.hid hn4
          have HB4 := Lib.hid (HB3.out.trans (hb4.mono HB3.out.size))
          clear hn4 hb4
          go_wp2
          go_roundg (t.size - i)
          case measure => omega
          case rel =>
            rw [← htk]
            have hdr : (t.extract i t.size).data.toList = t.data.toList.drop i := Lib.extract_to_end t i
            have hsz : (t.extract i t.size).size = t.size - i := by rw [Lib.size_eq, hdr, List.length_drop, ← Lib.size_eq]
            have hlen : t.data.toList.length = t.size := (Lib.size_eq t).symm
            refine ⟨_, rfl, hsz, by omega, ?_, a * q + p, HN5.out, ?_, HAB.out.trans (HB4.out.mono HAB.out.size)⟩
            · rw [hdr]; exact allDig_drop HF.out.1 _
            · rw [hdr, hsz, HPQ.out.1, HPQ.out.2, ← hlen, dval_split _ _ _ (by omega), hlen]; exact HAE.out
    · obtain rfl : gk = 0 := by omega
      go_wp2
      go_ret
      obtain ⟨a, ha, hae, hab⟩ := HF.out.2
      have h1 : t.data.toList = [] := List.eq_nil_of_length_eq_zero (by have := Lib.size_eq t; omega)
      rw [h1, htk, Nat.pow_zero, Nat.mul_one, dval_nil, Nat.add_zero] at hae
      subst hae
      exact ⟨_, rfl, ha, hab⟩
end Go.Proofs.YtfiedhopgmgnoaaDoor
