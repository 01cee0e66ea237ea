/-  -/
import Derived.Deep.RegionHeld3
import Derived.Lib.SliceRun
import Derived.Test.YtdmhkhnnomdkcaaDoorShelf
import Derived.Shelf.Strings.SlTrimAscii
import Derived.Test.YtdmhkhnnomdkcaaDoorJo2
import Derived.Test.YtdmhkhnnomdkcaaDoorJo9
import Derived.Test.YtdmhkhnnomdkcaaDoorJo10
import Derived.Test.YtdmhkhnnomdkcaaDoorJo13
import Derived.Test.YtdmhkhnnomdkcaaDoorJo14
import Derived.Test.YtdmhkhnnomdkcaaDoorJo17
set_option linter.unusedVariables false
set_option linter.unusedSimpArgs false
/- fetterlocklaw1.sameLimbs, same. -/
namespace Go.Proofs.YtdmhkhnnomdkcaaDoor
open Go.RowKit NumB
set_option linter.unusedVariables false
set_option linter.unusedSimpArgs false

def eqB (xs ys : List Nat) : Bool := decide (xs = ys)
theorem eqB_true {xs ys : List Nat} (h : xs = ys) : eqB xs ys = true := decide_eq_true h
theorem eqB_false {xs ys : List Nat} (h : xs ≠ ys) : eqB xs ys = false := decide_eq_false h

theorem take_step {xs ys : List Nat} {j : Nat} (h1 : j < xs.length) (h2 : j < ys.length) (h : xs.take j = ys.take j) (he : xs.getD j 0 = ys.getD j 0) : xs.take (j + 1) = ys.take (j + 1) := by
  rw [List.take_succ_eq_append_getElem h1, List.take_succ_eq_append_getElem h2, h, ← getD_lt h1, ← getD_lt h2, he]

set_option maxRecDepth 100000 in
set_option maxHeartbeats 1600000 in
theorem sameLimbs_any (xs ys : List Nat) (va vb : Value) (w : World) (ha : Sl .u32 w va xs) (hb : Sl .u32 w vb ys) :
    Calls Tryd.prog 21 #[va, vb] w fun e w' => e = .returned (.bool (eqB xs ys)) ∧ ∃ m, w' = w.drewN m := by
  obtain ⟨A, ca, rfl, hca, hma, hra⟩ := ha
  obtain ⟨A', cb, rfl, hcb, hmb, hrb⟩ := hb
  unfold maxLen at hma hmb
  generalize hn : xs.length = n at *
  generalize hm : ys.length = m at *
  by_cases hne : n = m
  · subst hne
    have HL := Lib.hid (And.intro hn hm)
    have HA := Lib.hid hra
    have HB := Lib.hid hrb
    clear hn hm hra hrb
    have hb1 : ((n : Int) != (n : Int)) = false := by simp
    go_enter Tryd.func21, Tryd.ntmps21
    go_wp2
    go_loopg [5] n (fun g i wr => ∃ j m : Nat, g + j = n ∧ i = .int .i64 (j : Int) ∧ Hid (xs.take j = ys.take j) ∧ Hid (wr = w.drewN m))
    case atStart => exact ⟨0, 0, by omega, rfl, rfl, rfl⟩
    case round =>
      obtain ⟨j, dr, hgj, rfl, HV, HW⟩ := hrel
      obtain rfl := HW.out
      by_cases h0 : j < n
      · obtain ⟨b, o, p, rfl, hb, hpe, hcp⟩ := HA.out.at_ (i := j) h0
        obtain ⟨b', o', q, rfl, hb', hqe, hcq⟩ := HB.out.at_ (i := j) h0
        have HP : Hid (xs.getD j 0 = p ∧ ys.getD j 0 = q) := ⟨hpe, hqe⟩
        clear hpe hqe
        have hi0 : (0 : Int) ≤ (j : Int) := by omega
        have hi1 : (j : Int) < (n : Int) := by omega
        by_cases hpq : p = q
        · subst hpq
          have hbn : ((p : Int) != (p : Int)) = false := by simp
          go_wp2
          go_quiet (fail)
          go_wp2
          go_roundg (gk - 1)
          case measure => omega
          case rel => exact ⟨j + 1, _, by omega, by go_num, take_step (by rw [HL.out.1]; exact h0) (by rw [HL.out.2]; exact h0) HV.out (HP.out.1.trans HP.out.2.symm), rfl⟩
        · have hbn : ((p : Int) != (q : Int)) = true := by rw [bne_iff_ne]; omega
          have E : Hid (eqB xs ys = false) := eqB_false (by rintro rfl; exact hpq (HP.out.1.symm.trans HP.out.2))
          clear hpq
          go_wp2
          go_quiet (fail)
          go_wp2
          go_ret
          rw [E.out]
          exact ⟨rfl, _, by rw [World.drewN_drewN]⟩
      · obtain rfl : j = n := by omega
        have E : Hid (eqB xs ys = true) := eqB_true (by have h := HV.out; rwa [List.take_of_length_le (by rw [HL.out.1]; exact Nat.le_refl _), List.take_of_length_le (by rw [HL.out.2]; exact Nat.le_refl _)] at h)
        go_wp2
        go_ret
        rw [E.out]
        exact ⟨rfl, dr, rfl⟩
  · have hb1 : ((n : Int) != (m : Int)) = true := by rw [bne_iff_ne]; omega
    have E : Hid (eqB xs ys = false) := eqB_false (by rintro rfl; omega)
    clear hn hm hne hra hrb
    go_enter Tryd.func21, Tryd.ntmps21
    go_wp2
    go_ret
    rw [E.out]
    exact ⟨rfl, 0, rfl⟩

/-- Two numbers are the same. -/
def sameB (a b : LN) : Bool := (a.neg == b.neg) && (eqB a.num b.num && eqB a.den b.den)
theorem sameB_true {a b : LN} (h : a = b) : sameB a b = true := by
  subst h
  unfold sameB
  rw [eqB_true rfl, eqB_true rfl]
  simp
end Go.Proofs.YtdmhkhnnomdkcaaDoor
/- nat.FromDecimal: digits alone. Conditions: at most 10000 bytes. -/
namespace Go.Proofs.YtdmhkhnnomdkcaaDoor
open Go.RowKit NumB
set_option linter.unusedVariables false
set_option linter.unusedSimpArgs false

theorem digs32_dec {x n : Nat} (h : x < 10 ^ n) : (digs W32 x).length ≤ n := digs_len_le W32_gt (Nat.lt_of_lt_of_le h (Nat.pow_le_pow_left (by decide) n))

theorem dig_at {t : ByteArray} (h : allDig t.data.toList = true) {i : Nat} (hi : i < t.size) : 48 ≤ t[i].toNat ∧ t[i].toNat ≤ 57 := by
  have hm : t[i] ∈ t.data.toList := by show t.data[i] ∈ t.data.toList; exact Array.getElem_mem_toList _
  exact of_decide_eq_true (List.all_eq_true.1 h _ hm)
theorem dval_at {t : ByteArray} {i c : Nat} (hi : i < t.size) (hc : t[i].toNat = c) : dval (t.data.toList.take (i + 1)) = dval (t.data.toList.take i) * 10 + (c - 48) := by
  rw [← hc]
  exact dval_take_succ (by simpa using hi)
theorem dval_take_lt {t : ByteArray} (h : allDig t.data.toList = true) {i : Nat} (hi : i ≤ 9) : dval (t.data.toList.take i) < 1000000000 := by
  refine Nat.lt_of_lt_of_le (dval_lt (allDig_take h i)) (Nat.le_trans (Nat.pow_le_pow_right (by decide) (Nat.le_trans (List.length_take_le _ _) hi)) (by decide))
theorem ten_le {i : Nat} (h : i ≤ 9) : 10 ^ i ≤ 1000000000 := Nat.le_trans (Nat.pow_le_pow_right (by decide) h) (by decide)
theorem small32 {x : Nat} (h : x ≤ 1000000000) : (digs W32 x).length ≤ 1 := digs_len_le W32_gt (by unfold W32; omega)

/-- What is left to be read, and what has been read. -/
def FD (w wr : World) (D : Nat) (t : ByteArray) (v : Value) : Prop := allDig t.data.toList = true ∧ ∃ a : Nat, Nat32 wr v a ∧ a * 10 ^ t.size + dval t.data.toList = D ∧ Below w.heap.size w wr

set_option maxRecDepth 100000 in
set_option maxHeartbeats 6400000 in
theorem fromDec_any (s : ByteArray) (w : World) (hs : s.size ≤ 10000) (hd : allDig s.data.toList = true) :
    Calls Tryd.prog 31 #[.string s] w (NPost w (dval s.data.toList)) := by
  have HDL : Hid (∀ a, a ≤ dval s.data.toList → (digs W32 a).length ≤ 10000) := fun a ha => Nat.le_trans (digs32_dec (Nat.lt_of_le_of_lt ha (dval_lt hd))) (by have := Lib.size_eq s; omega)
  have H0 := Lib.hid hd
  clear hd
  generalize hD : dval s.data.toList = D at *
  have HD := Lib.hid hD
  clear hD
  go_enter Tryd.func31, Tryd.ntmps31
  go_wp2
  go_loopg [0, 3, 4, 5, 6, 7] s.size (fun gk s0 s3 s4 s5 s6 s7 wr => ∃ t : ByteArray, s0 = .string t ∧ t.size = gk ∧ gk ≤ 10000 ∧ Hid (FD w wr D t s3))
  case atStart => exact ⟨s, rfl, rfl, hs, H0.out, 0, nat32_zero _, by rw [HD.out]; omega, Below.refl _ _⟩
  case round =>
    obtain ⟨t, rfl, htk, hk, HF⟩ := hrel
    have HTK := Lib.hid htk
    by_cases h0 : 0 < gk
    · obtain ⟨n, hn, hn1, hn9, hngk⟩ : ∃ n : Nat, ((gk : Int) - 1) % 9 + 1 = (n : Int) ∧ 1 ≤ n ∧ n ≤ 9 ∧ n ≤ gk := ⟨(gk - 1) % 9 + 1, by omega, by omega, by omega, by omega⟩
      go_wp2
      clear hn
      go_loopg [17, 5, 6, 7] n (fun gj s17 s5 s6 s7 wq => ∃ i p q : Nat, gj + i = n ∧ s17 = .int .i64 (i : Int) ∧ s5 = .int .u64 (p : Int) ∧ s6 = .int .u64 (q : Int) ∧ p < 1000000000 ∧ q ≤ 1000000000 ∧ Hid (p = dval (t.data.toList.take i) ∧ q = 10 ^ i) ∧ wr = wq)
      case atStart => exact ⟨0, 0, 1, by omega, rfl, rfl, rfl, by omega, by omega, ⟨rfl, rfl⟩, rfl⟩
      case round =>
        obtain ⟨i, p, q, hgj, rfl, rfl, rfl, hp, hq, HPQ, rfl⟩ := hrel
        by_cases hi : i < n
        · have hit : i < t.size := by omega
          obtain ⟨c, hc⟩ : ∃ c : Nat, t[i].toNat = c := ⟨_, rfl⟩
          have hdig : 48 ≤ c ∧ c ≤ 57 := by rw [← hc]; exact dig_at HF.out.1 hit
          have HE := Lib.hid (dval_at hit hc)
          go_wp2
          go_roundg (gk - 1)
          case measure => omega
          case rel =>
            have e1 : p * 10 + (c - 48) = dval (t.data.toList.take (i + 1)) := by rw [HE.out, ← HPQ.out.1]
            have e2 : q * 10 = 10 ^ (i + 1) := by rw [HPQ.out.2, Nat.pow_succ]
            exact ⟨i + 1, p * 10 + (c - 48), q * 10, by omega, by go_num, congrArg (Value.int .u64) (by omega), by go_num, by rw [e1]; exact dval_take_lt HF.out.1 (by omega), by rw [e2]; exact ten_le (by omega), ⟨e1, e2⟩, rfl⟩
        · obtain rfl : i = n := by omega
          obtain ⟨a, ha, hae, hab⟩ := HF.out.2
          have HA := Lib.hid ha
          have HAB := Lib.hid hab
          have hle : a ≤ D := by rw [← hae]; exact Nat.le_trans (Nat.le_mul_of_pos_right _ (Nat.pow_pos (by decide))) (Nat.le_add_right _ _)
          have HAL := Lib.hid (HDL.out a hle)
          have HAE := Lib.hid hae
          have HQL := Lib.hid (small32 hq)
          have HPL := Lib.hid (small32 (Nat.le_of_lt hp))
          clear ha hae hab hle
          go_wp2_with fail
          refine (of_any q _ (by omega)).mono ?_
          rintro e w1 ⟨v1, rfl, hn1, hb1⟩
          have HN1 := Lib.hid hn1
          have HB1 := Lib.hid hb1
          clear hn1 hb1
          go_wp2_with fail
          refine (mul_any a q _ _ _ (by exact HA.out.to HB1.out) (by exact HN1.out) (Nat.le_trans HAL.out (by omega)) (Nat.le_trans HQL.out (by omega))).mono ?_
          rintro e w2 ⟨v2, rfl, hn2, hb2⟩
          have HN2 := Lib.hid hn2
          have HB2 := Lib.hid (HB1.out.trans (hb2.mono HB1.out.size))
          clear hn2 hb2
          go_wp2_with fail
          refine (of_any p _ (by omega)).mono ?_
          rintro e w3 ⟨v3, rfl, hn3, hb3⟩
          have HN3 := Lib.hid hn3
          have HN4 := Lib.hid (HN2.out.to hb3)
          have HB3 := Lib.hid (HB2.out.trans (hb3.mono HB2.out.size))
          clear hn3 hb3
          go_wp2_with fail
          refine (plus_any (a * q) p _ _ _ (by exact HN4.out) (by exact HN3.out) (Nat.le_trans (digs_len_mul a q) (by have := HAL.out; have := HQL.out; omega)) (Nat.le_trans HPL.out (by omega))).mono ?_
          rintro e w4 ⟨v4, rfl, hn4, hb4⟩
          have HN5 := Lib.hid hn4
          have HB4 := Lib.hid (HB3.out.trans (hb4.mono HB3.out.size))
          clear hn4 hb4
          go_wp2
          go_roundg (t.size - i)
          case measure => omega
          case rel =>
            rw [← htk]
            have hdr : (t.extract i t.size).data.toList = t.data.toList.drop i := Lib.extract_to_end t i
            have hsz : (t.extract i t.size).size = t.size - i := by rw [Lib.size_eq, hdr, List.length_drop, ← Lib.size_eq]
            have hlen : t.data.toList.length = t.size := (Lib.size_eq t).symm
            refine ⟨_, rfl, hsz, by omega, ?_, a * q + p, HN5.out, ?_, HAB.out.trans (HB4.out.mono HAB.out.size)⟩
            · rw [hdr]; exact allDig_drop HF.out.1 _
            · rw [hdr, hsz, HPQ.out.1, HPQ.out.2, ← hlen, dval_split _ _ _ (by omega), hlen]; exact HAE.out
    · obtain rfl : gk = 0 := by omega
      go_wp2
      go_ret
      obtain ⟨a, ha, hae, hab⟩ := HF.out.2
      have h1 : t.data.toList = [] := List.eq_nil_of_length_eq_zero (by have := Lib.size_eq t; omega)
      rw [h1, htk, Nat.pow_zero, Nat.mul_one, dval_nil, Nat.add_zero] at hae
      subst hae
      exact ⟨_, rfl, ha, hab⟩
end Go.Proofs.YtdmhkhnnomdkcaaDoor
/- number.digits. -/
namespace Go.Proofs.YtdmhkhnnomdkcaaDoor
open Go.RowKit NumB
set_option linter.unusedVariables false
set_option linter.unusedSimpArgs false

def cut10 : ByteArray := ⟨#[48, 49, 50, 51, 52, 53, 54, 55, 56, 57]⟩
theorem in_cut (c : UInt8) : cut10.data.toList.contains c = isDig c := by
  have h : ∀ n : Fin 256, cut10.data.toList.contains (UInt8.ofNat n.val) = isDig (UInt8.ofNat n.val) := by decide +kernel
  have := h ⟨c.toNat, c.toNat_lt⟩
  simpa using this
theorem dropWhile_nil {p : UInt8 → Bool} {l : List UInt8} : l.dropWhile p = [] ↔ ∀ x ∈ l, p x = true := by
  induction l with
  | nil => simp
  | cons c l ih =>
    rw [List.dropWhile_cons]
    cases h : p c with
    | true => simp [h, ih]
    | false => simp [h]
theorem trim_digits (l : List UInt8) : (Lib.trimS l cut10.data.toList).isEmpty = allDig l := by
  have e : (cut10.data.toList.contains · : UInt8 → Bool) = isDig := funext in_cut
  unfold Lib.trimS Lib.trimLeftS Lib.trimRightS
  rw [e]
  cases h : allDig l with
  | true =>
    have : l.reverse.dropWhile isDig = [] := by
      rw [dropWhile_nil]
      intro x hx
      exact List.all_eq_true.1 h x (List.mem_reverse.1 hx)
    rw [this]; rfl
  | false =>
    obtain ⟨x, hx, hn⟩ := List.all_eq_false.1 h
    cases hd : ((l.reverse.dropWhile isDig).reverse.dropWhile isDig).isEmpty with
    | false => rfl
    | true =>
      exfalso
      have h1 : (l.reverse.dropWhile isDig).reverse.dropWhile isDig = [] := List.isEmpty_iff.1 hd
      rw [dropWhile_nil] at h1
      have h2 : l.reverse.dropWhile isDig = [] := by
        cases hc : l.reverse.dropWhile isDig with
        | nil => rfl
        | cons y r =>
          have h3 := List.head?_dropWhile_not isDig l.reverse
          rw [hc] at h3
          simp only [List.head?_cons] at h3
          have h4 := h1 y (by rw [hc]; simp)
          rw [h4] at h3
          exact absurd h3 (by simp)
      rw [dropWhile_nil] at h2
      exact hn (h2 x (List.mem_reverse.2 hx))

set_option maxRecDepth 100000 in
set_option maxHeartbeats 1600000 in
theorem digits_any (s : ByteArray) (w : World) (hs : s.size ≤ 1000000) :
    Calls Tryd.prog 30 #[.string s] w fun e w' => e = .returned (.bool (digitsB s.data.toList)) ∧ Below w.heap.size w w' := by
  have hcon := Any.strings_Trim_laid Tryd.lays160 (by kernel_rfl) s cut10 w (by omega) (by decide) (ascii_of_all (by decide))
  have HC := Lib.hid hcon
  clear hcon
  by_cases h0 : s.data.toList = []
  · have E : Hid (digitsB s.data.toList = false) := by unfold Hid digitsB; rw [h0]; rfl
    have h1 : s.toList.isEmpty = true := by rw [Lib.toList_data, h0]; rfl
    have h2 : s.toList = [] := by rw [Lib.toList_data, h0]
    clear h0 HC
    go_enter Tryd.func30, Tryd.ntmps30
    go_wp2_with fail
    go_ret
    rw [E.out]
    exact ⟨rfl, Below.refl _ _⟩
  · have h1 : s.toList.isEmpty = false := by rw [Lib.toList_data]; cases h : s.data.toList with | nil => exact absurd h h0 | cons _ _ => rfl
    have E : Hid (digitsB s.data.toList = allDig s.data.toList) := by unfold Hid digitsB; cases h : s.data.toList with | nil => exact absurd h h0 | cons _ _ => rfl
    have HT := Lib.hid (trim_digits s.data.toList)
    generalize Lib.trimS s.data.toList cut10.data.toList = r at *
    clear h0
    go_enter Tryd.func30, Tryd.ntmps30
    go_wp2_with fail
    refine HC.out.mono ?_
    rintro e w1 ⟨rfl, hb1⟩
    have HB := Lib.hid hb1
    clear hb1 HC
    cases r with
    | nil =>
      have h3 : (⟨([] : List UInt8).toArray⟩ : ByteArray).toList.isEmpty = true := by rw [Lib.toList_data]; rfl
      go_wp2_with fail
      go_ret
      rw [E.out, ← HT.out]
      exact ⟨rfl, HB.out⟩
    | cons c r =>
      have h3 : (⟨(c :: r).toArray⟩ : ByteArray).toList.isEmpty = false := by rw [Lib.toList_data]; rfl
      go_wp2_with fail
      go_ret
      rw [E.out, ← HT.out]
      exact ⟨rfl, HB.out⟩
end Go.Proofs.YtdmhkhnnomdkcaaDoor
/- strings.Cut at a separator of one byte. -/
namespace Go.Proofs.YtdmhkhnnomdkcaaDoor
open Go.RowKit NumB
set_option linter.unusedVariables false
set_option linter.unusedSimpArgs false

/-- What stands before and behind the first c. -/
def cutB (l : List UInt8) (c : UInt8) : List UInt8 × List UInt8 × Bool :=
  if 0 ≤ Lib.indexByte l c then (l.take (Lib.indexByte l c).toNat, l.drop ((Lib.indexByte l c).toNat + 1), true) else (l, [], false)

theorem ba_eq {s : ByteArray} {l : List UInt8} (h : s.data.toList = l) : s = ⟨l.toArray⟩ := by subst h; cases s; simp
theorem extract_head (s : ByteArray) (k : Nat) : (s.extract 0 k).data.toList = s.data.toList.take k := by rw [Lib.extract_data]; simp
theorem indexByte_lt (l : List UInt8) (c : UInt8) : -1 ≤ Lib.indexByte l c ∧ Lib.indexByte l c < l.length := by
  induction l with
  | nil => simp [Lib.indexByte]
  | cons b l ih =>
    unfold Lib.indexByte
    split
    · simp
    · split
      · simp; omega
      · rename_i h; simp at h; simp; omega

set_option maxRecDepth 1000000 in
set_option maxHeartbeats 3200000 in
theorem index1_any (s : ByteArray) (c : UInt8) (w : World) :
    Calls Tryd.prog 56 #[.string s, .string ⟨#[c]⟩] w fun e w' => e = .returned (.int .i64 (Lib.indexByte s.data.toList c)) ∧ w = w' := by
  have hci := Tryd.stringslite_IndexByte s (c.toNat : Int) w
  rw [show ((c.toNat : Int)).toNat.toUInt8 = c by simp] at hci
  have HC := Lib.hid hci
  clear hci
  by_cases hs : s.data.toList = [c]
  · have E : Hid (Lib.indexByte s.data.toList c = 0) := by unfold Hid; rw [hs]; simp [Lib.indexByte]
    have hq : ([c] == s.toList) = true := by rw [Lib.toList_data, hs]; simp
    clear HC hs
    go_enter Tryd.func56, Tryd.ntmps56
    go_wp2_with fail
    go_ret
    rw [E.out]
    exact ⟨rfl, rfl⟩
  · have hq : ([c] == s.toList) = false := by rw [Lib.toList_data]; exact beq_eq_false_iff_ne.2 (fun e => hs e.symm)
    generalize hz : Lib.indexByte s.data.toList c = z at *
    clear hs hz
    go_enter Tryd.func56, Tryd.ntmps56
    go_wp2_with fail
    refine HC.out.mono ?_
    rintro e w1 ⟨rfl, rfl⟩
    go_wp2_with fail
    go_ret
    exact ⟨rfl, rfl⟩

set_option maxRecDepth 100000 in
set_option maxHeartbeats 1600000 in
theorem cutL_any (s : ByteArray) (c : UInt8) (w : World) (hs : s.size ≤ 1000000) :
    Calls Tryd.prog 41 #[.string s, .string ⟨#[c]⟩] w fun e w' => e = .returned (.tuple #[.string ⟨(cutB s.data.toList c).1.toArray⟩, .string ⟨(cutB s.data.toList c).2.1.toArray⟩, .bool (cutB s.data.toList c).2.2]) ∧ ∃ n, w' = w.drewN n := by
  have HI := Lib.hid (index1_any s c w)
  have hb := indexByte_lt s.data.toList c
  have hsz := Lib.size_eq s
  generalize hz : Lib.indexByte s.data.toList c = z at *
  have HZ := Lib.hid hz
  by_cases h0 : 0 ≤ z
  · obtain ⟨k, rfl⟩ := Int.eq_ofNat_of_zero_le h0
    have E : Hid (cutB s.data.toList c = (s.data.toList.take k, s.data.toList.drop (k + 1), true)) := by unfold Hid cutB; rw [HZ.out, if_pos h0]; rfl
    have hk : k < s.size := by omega
    have hk1 : IntKind.i64.wrap ((k : Int) + 1) = (k : Int) + 1 := by rw [IntKind.wrap_i64]; omega
    have hk2 : (k : Int) ≤ (s.size : Int) := by omega
    have hk3 : (k : Int) + 1 ≤ (s.size : Int) := by omega
    have hk4 : (0 : Int) ≤ (k : Int) := by omega
    have hk5 : (0 : Int) ≤ (k : Int) + 1 := by omega
    have hk6 : ((k : Int) + 1).toNat = k + 1 := by omega
    clear hb hz hsz h0
    go_enter Tryd.func41, Tryd.ntmps41
    go_wp2_with fail
    refine HI.out.mono ?_
    rintro e w1 ⟨rfl, rfl⟩
    go_wp2_with fail
    go_quiet (fail)
    go_wp2_with fail
    go_ret3
    rw [E.out]
    refine ⟨?_, _, rfl⟩
    show Ending.returned (.tuple #[.string (s.extract 0 k), .string (s.extract (k + 1) s.size), .bool true]) = _
    rw [ba_eq (extract_head s k), ba_eq (Lib.extract_to_end s (k + 1))]
  · have E : Hid (cutB s.data.toList c = (s.data.toList, [], false)) := by unfold Hid cutB; rw [HZ.out, if_neg h0]
    have h1 : z < 0 := by omega
    clear hb hz hsz h0
    go_enter Tryd.func41, Tryd.ntmps41
    go_wp2_with fail
    refine HI.out.mono ?_
    rintro e w1 ⟨rfl, rfl⟩
    go_wp2_with fail
    go_ret3
    rw [E.out]
    exact ⟨rfl, 0, rfl⟩
theorem cut_any (s : ByteArray) (c : UInt8) (w : World) (hs : s.size ≤ 1000000) :
    Calls Tryd.prog 29 #[.string s, .string ⟨#[c]⟩] w fun e w' => e = .returned (.tuple #[.string ⟨(cutB s.data.toList c).1.toArray⟩, .string ⟨(cutB s.data.toList c).2.1.toArray⟩, .bool (cutB s.data.toList c).2.2]) ∧ ∃ n, w' = w.drewN n := by
  have HC := Lib.hid (cutL_any s c w hs)
  generalize (cutB s.data.toList c).1 = a at *
  generalize (cutB s.data.toList c).2.1 = b at *
  generalize (cutB s.data.toList c).2.2 = d at *
  go_enter Tryd.func29, Tryd.ntmps29
  go_wp2_with fail
  refine HC.out.mono ?_
  rintro e w1 ⟨rfl, n, rfl⟩
  go_wp2_with fail
  go_ret3
  exact ⟨rfl, n, rfl⟩
end Go.Proofs.YtdmhkhnnomdkcaaDoor
