/-  -/
import Derived.Laws.BytesArg
import Derived.Deep.RegionHeld3
import Derived.Lib.SliceRun
import Derived.Test.YtkamkaehlofgpaaGreatShelf
import Derived.Shelf.Strings.SlTrimAscii
import Derived.Test.YtkamkaehlofgpaaGreatJo1
import Derived.Test.YtkamkaehlofgpaaGreatJo2
import Derived.Test.YtkamkaehlofgpaaGreatJo10
import Derived.Test.YtkamkaehlofgpaaGreatJo11
import Derived.Test.YtkamkaehlofgpaaGreatJo12
import Derived.Test.YtkamkaehlofgpaaGreatJo15
import Derived.Test.YtkamkaehlofgpaaGreatJo16
import Derived.Test.YtkamkaehlofgpaaGreatJo21
import Derived.Test.YtkamkaehlofgpaaGreatJo43
set_option linter.unusedVariables false
set_option linter.unusedSimpArgs false
/- A slice of terms as a list; a valid term is small. -/
namespace Go.Proofs.YtkamkaehlofgpaaGreat
open Go.RowKit NumB
set_option linter.unusedVariables false
set_option linter.unusedSimpArgs false

theorem err0_node {k v : Int} {s : ByteArray} {n : LN} {args : List Tm} (h : (Tm.mk k v s n args).err0 = 0) : nodeE k v s n.neg n.num.length n.den.length n.err args.length = 0 ∧ errL args = 0 := by
  rw [Tm.err0] at h
  by_cases h1 : nodeE k v s n.neg n.num.length n.den.length n.err args.length = 0
  · rw [if_pos h1] at h; exact ⟨h1, h⟩
  · rw [if_neg h1] at h; exact absurd h h1
theorem errL_get {l : List Tm} (h : errL l = 0) {j : Nat} (hj : j < l.length) : (l[j]).err0 = 0 := by
  induction l generalizing j with
  | nil => cases hj
  | cons x l ih =>
    rw [errL] at h
    by_cases h1 : x.err0 = 0
    · rw [if_pos h1] at h
      cases j with
      | zero => exact h1
      | succ j => exact ih h (by simpa using hj)
    · rw [if_neg h1] at h; exact absurd h h1
theorem zeroB_len {ng : Bool} {a b : Nat} (h : zeroB ng a b = true) : ng = false ∧ a = 0 ∧ b = 0 := by
  unfold zeroB at h
  simp at h
  exact h
/-- What a valid node has. -/
theorem node_parts {k v : Int} {s : ByteArray} {ng : Bool} {a b : Nat} {er : Int} {na : Nat} (h : nodeE k v s ng a b er na = 0) : (k = 2 ∧ v = 0 ∧ s.size = 0 ∧ er = 0 ∧ na = 0) ∨ (k ≠ 2 ∧ ng = false ∧ a = 0 ∧ b = 0 ∧ ((k = 1 ∧ 0 ≤ v ∧ v ≤ 1073741824 ∧ s.size = 0 ∧ na = 0) ∨ (k = 3 ∧ v = 0 ∧ s.size ≤ 255 ∧ na = 0) ∨ (k = 4 ∧ v = 0 ∧ s.size ≤ 4000 ∧ na = 0) ∨ (k = 5 ∧ v = 0 ∧ s.size ≤ 255 ∧ 1 ≤ na ∧ na ≤ 32))) := by
  unfold nodeE at h
  by_cases h1 : k = 1
  · rw [if_pos h1] at h
    by_cases h2 : 0 ≤ v ∧ v ≤ 1073741824 ∧ s.toList = [] ∧ zeroB ng a b = true ∧ na = 0
    · have hz := zeroB_len h2.2.2.2.1
      exact .inr ⟨by omega, hz.1, hz.2.1, hz.2.2, .inl ⟨h1, h2.1, h2.2.1, size_of_toList h2.2.2.1, h2.2.2.2.2⟩⟩
    · rw [if_neg h2] at h; cases h
  · rw [if_neg h1] at h
    by_cases h2 : k = 2
    · rw [if_pos h2] at h
      by_cases h3 : v = 0 ∧ s.toList = [] ∧ na = 0 ∧ er = 0
      · exact .inl ⟨h2, h3.1, size_of_toList h3.2.1, h3.2.2.2, h3.2.2.1⟩
      · rw [if_neg h3] at h; cases h
    · rw [if_neg h2] at h
      by_cases h3 : k = 3
      · rw [if_pos h3] at h
        by_cases h6 : v = 0 ∧ zeroB ng a b = true ∧ na = 0
        · rw [if_pos h6] at h
          have hz := zeroB_len h6.2.1
          by_cases h7 : 255 < s.size
          · rw [if_pos h7] at h; cases h
          · exact .inr ⟨h2, hz.1, hz.2.1, hz.2.2, .inr (.inl ⟨h3, h6.1, by omega, h6.2.2⟩)⟩
        · rw [if_neg h6] at h; cases h
      · rw [if_neg h3] at h
        by_cases h4 : k = 4
        · rw [if_pos h4] at h
          by_cases h6 : v = 0 ∧ zeroB ng a b = true ∧ na = 0
          · rw [if_pos h6] at h
            have hz := zeroB_len h6.2.1
            by_cases h7 : 4000 < s.size
            · rw [if_pos h7] at h; cases h
            · exact .inr ⟨h2, hz.1, hz.2.1, hz.2.2, .inr (.inr (.inl ⟨h4, h6.1, by omega, h6.2.2⟩))⟩
          · rw [if_neg h6] at h; cases h
        · rw [if_neg h4] at h
          by_cases h5 : k = 5
          · rw [if_pos h5] at h
            by_cases h6 : v = 0 ∧ zeroB ng a b = true ∧ 1 ≤ na ∧ na ≤ 32
            · rw [if_pos h6] at h
              have hz := zeroB_len h6.2.1
              by_cases h7 : 255 < s.size
              · rw [if_pos h7] at h; cases h
              · exact .inr ⟨h2, hz.1, hz.2.1, hz.2.2, .inr (.inr (.inr ⟨h5, h6.1, by omega, h6.2.2.1, h6.2.2.2⟩))⟩
            · rw [if_neg h6] at h; cases h
          · rw [if_neg h5] at h; cases h
theorem smL_of {l : List Tm} (h : ∀ i (hi : i < l.length), (l[i]).sm) : smL l := by
  induction l with
  | nil => rw [smL]; trivial
  | cons x l ih => rw [smL]; exact ⟨h 0 (by simp), ih fun i hi => h (i + 1) (Nat.succ_lt_succ hi)⟩
/-- A valid term is small. -/
theorem TC.sm {w : World} {t : Tm} {cs : List Value} (h : TC w t cs) : t.err0 = 0 → t.sm := by
  induction h with
  | mk k v s n args A B Ar cap cs hk hv hs hA hB hn hcap hm hr ha ih =>
    intro he
    obtain ⟨h1, h2⟩ := err0_node he
    have h3 := smL_of fun i hi => ih i hi (errL_get h2 hi)
    rw [Tm.sm]
    rcases node_parts h1 with ⟨_, _, _, h4, h5⟩ | ⟨_, _, h4, h5, h6⟩
    · have := LN.good hn h4
      exact ⟨by omega, by omega, by omega, h3⟩
    · exact ⟨by omega, by omega, by omega, h3⟩
theorem check_err0 {t : Tm} (h : t.check = 0) : t.count ≤ 10000 ∧ t.err0 = 0 := by
  unfold Tm.check at h
  by_cases hn : 10000 < t.count
  · rw [if_pos hn] at h; omega
  · rw [if_neg hn] at h; exact ⟨by omega, h⟩

/-- A slice that reads as a list of terms. -/
def TL (w : World) (v : Value) (ts : List Tm) : Prop := ∃ (Ar : Option Addr) (cap : Nat) (cs : Nat → List Value), v = .slice Ar ts.length cap ∧ ts.length ≤ cap ∧ cap ≤ maxLen ∧
  (0 < ts.length → ∃ b o, Ar = some ⟨b, o, none⟩ ∧ b < w.heap.size ∧ ∀ i, i < ts.length → ∀ j, j < 7 → w.cell? ⟨b, o + i * 7 + j, none⟩ = (cs i)[j]?) ∧ ∀ i (h : i < ts.length), TC w ts[i] (cs i)
theorem TL.to {w w' : World} {v : Value} {ts : List Tm} (h : TL w v ts) (hb : Below w.heap.size w w') : TL w' v ts := by
  obtain ⟨Ar, cap, cs, e, h1, h2, h3, h4⟩ := h
  refine ⟨Ar, cap, cs, e, h1, h2, fun h0 => ?_, fun i hi => (h4 i hi).to hb⟩
  obtain ⟨b, o, e, hlt, hc⟩ := h3 h0
  exact ⟨b, o, e, Nat.lt_of_lt_of_le hlt hb.size, fun i hi j hj => (hb.cell (p := ⟨b, o + i * 7 + j, none⟩) hlt).trans (hc i hi j hj)⟩
end Go.Proofs.YtkamkaehlofgpaaGreat
/- Decimal texts: plain facts. No program. -/
namespace Go.Proofs.YtkamkaehlofgpaaGreat.NumB

/-- The value of decimal digits, most significant first. -/
def dval (l : List UInt8) : Nat := l.foldl (fun a c => a * 10 + (c.toNat - 48)) 0
def isDig (c : UInt8) : Bool := decide (48 ≤ c.toNat ∧ c.toNat ≤ 57)
def allDig (l : List UInt8) : Bool := l.all isDig
/-- Digits alone, at least one. -/
def digitsB (l : List UInt8) : Bool := !l.isEmpty && allDig l

theorem foldl_dval (l : List UInt8) (a : Nat) : l.foldl (fun a c => a * 10 + (c.toNat - 48)) a = a * 10 ^ l.length + dval l := by
  induction l generalizing a with
  | nil => simp [dval]
  | cons c l ih =>
    unfold dval
    rw [List.foldl_cons, List.foldl_cons, ih, ih (0 * 10 + (c.toNat - 48)), List.length_cons, Nat.pow_succ, Nat.zero_mul, Nat.zero_add, Nat.add_mul, Nat.mul_assoc, Nat.mul_comm 10]
    omega
theorem dval_append (l m : List UInt8) : dval (l ++ m) = dval l * 10 ^ m.length + dval m := by
  have : dval (l ++ m) = m.foldl (fun a c => a * 10 + (c.toNat - 48)) (dval l) := by unfold dval; rw [List.foldl_append]
  rw [this, foldl_dval]
theorem dval_nil : dval [] = 0 := rfl
theorem dval_lt {l : List UInt8} (h : allDig l = true) : dval l < 10 ^ l.length := by
  induction l with
  | nil => simp [dval]
  | cons c l ih =>
    simp only [allDig, List.all_cons, Bool.and_eq_true] at h
    have h1 := ih h.2
    have h2 : c.toNat ≤ 57 := (of_decide_eq_true h.1).2
    have e : dval (c :: l) = dval [c] * 10 ^ l.length + dval l := dval_append [c] l
    have e1 : dval [c] = c.toNat - 48 := by simp [dval]
    rw [e, e1, List.length_cons, Nat.pow_succ]
    have h3 : (c.toNat - 48) * 10 ^ l.length ≤ 9 * 10 ^ l.length := Nat.mul_le_mul_right _ (by omega)
    omega
theorem allDig_take {l : List UInt8} (h : allDig l = true) (n : Nat) : allDig (l.take n) = true := List.all_eq_true.2 fun x hx => List.all_eq_true.1 h x (List.mem_of_mem_take hx)
theorem allDig_drop {l : List UInt8} (h : allDig l = true) (n : Nat) : allDig (l.drop n) = true := List.all_eq_true.2 fun x hx => List.all_eq_true.1 h x (List.mem_of_mem_drop hx)
theorem dval_take_succ {l : List UInt8} {i : Nat} (h : i < l.length) : dval (l.take (i + 1)) = dval (l.take i) * 10 + (l[i].toNat - 48) := by
  rw [List.take_succ_eq_append_getElem h, dval_append]
  simp [dval]
theorem dval_split (l : List UInt8) (n : Nat) (a : Nat) (h : n ≤ l.length) : (a * 10 ^ n + dval (l.take n)) * 10 ^ (l.length - n) + dval (l.drop n) = a * 10 ^ l.length + dval l := by
  have e : dval l = dval (l.take n) * 10 ^ (l.length - n) + dval (l.drop n) := by
    conv => lhs; rw [← List.take_append_drop n l]
    rw [dval_append, List.length_drop]
  have e2 : 10 ^ l.length = 10 ^ n * 10 ^ (l.length - n) := by rw [← Nat.pow_add]; congr 1; omega
  rw [e, e2, Nat.add_mul, Nat.mul_assoc, Nat.add_assoc]

/-- The decimal digits of a number, most significant first, as bytes; none for 0. -/
def decL (x : Nat) : List UInt8 := ((digs 10 x).map fun d => (48 + d).toUInt8).reverse
/-- Its text. -/
def dec (x : Nat) : List UInt8 := if x = 0 then [48] else decL x

/-- Nine digits of a number below 10^9, most significant first. -/
def pad9 (g : Nat) : List Nat := (List.range 9).map fun k => g / 10 ^ (8 - k) % 10
theorem pad9_len (g : Nat) : (pad9 g).length = 9 := by simp [pad9]
theorem pad9_get {g k : Nat} (h : k < 9) : (pad9 g).getD k 0 = g / 10 ^ (8 - k) % 10 := by
  rw [getD_lt (by rw [pad9_len]; exact h)]; simp [pad9]
theorem pad9_ok (g : Nat) : Ok 10 (pad9 g) := by
  intro d hd
  obtain ⟨k, _, rfl⟩ := List.mem_map.1 hd
  exact Nat.mod_lt _ (by decide)
theorem pad9_val {g : Nat} (h : g < 1000000000) : val 10 (pad9 g).reverse = g := by
  simp [pad9, List.range, List.range.loop]
  omega

theorem flat_ok {l : List Nat} : Ok 10 (l.flatMap pad9) := by
  intro d hd
  obtain ⟨g, _, h⟩ := List.mem_flatMap.1 hd
  exact pad9_ok g d h
theorem flat_val {l : List Nat} (h : Ok 1000000000 l) : val 10 (l.reverse.flatMap pad9).reverse = val 1000000000 l := by
  induction l with
  | nil => rfl
  | cons g l ih =>
    rw [List.reverse_cons, List.flatMap_append, List.reverse_append, val_append, ih h.tail]
    simp only [List.flatMap_cons, List.flatMap_nil, List.append_nil]
    rw [pad9_val h.head, List.length_reverse, pad9_len, val_cons]

/-- Without leading zeros. -/
theorem strip_eq {l : List Nat} {x : Nat} (ho : Ok 10 l) (hv : val 10 l.reverse = x) : l.dropWhile (· == 0) = (digs 10 x).reverse := by
  have key : ∀ l : List Nat, Ok 10 l → (l.dropWhile (· == 0)) = (digs 10 (val 10 l.reverse)).reverse := by
    intro l
    induction l with
    | nil => intro _; simp [digs_zero]
    | cons d l ih =>
      intro ho
      rw [List.dropWhile_cons]
      by_cases hd : d = 0
      · subst hd
        simp only [beq_self_eq_true, if_true]
        rw [ih ho.tail]
        congr 2
        rw [List.reverse_cons, val_append]
        simp
      · rw [if_neg (by simpa using hd)]
        have : digs 10 (val 10 (d :: l).reverse) = (d :: l).reverse := by
          refine digs_val (by decide) (fun x hx => ho x (List.mem_reverse.1 hx)) ?_
          unfold Top
          rw [List.getLast?_reverse]
          simp [hd]
        rw [this, List.reverse_reverse]
  rw [← hv]
  exact key l ho
theorem decL_eq (x : Nat) : decL x = ((digs 10 x).reverse).map fun d => (48 + d).toUInt8 := by unfold decL; rw [List.map_reverse]
theorem groups_dec {x : Nat} : ((((digs 1000000000 x).reverse).flatMap pad9).dropWhile (· == 0)).map (fun d => (48 + d).toUInt8) = decL x := by
  rw [decL_eq, strip_eq flat_ok (flat_val (ok_digs (by decide) x)), val_digs (by decide)]
theorem decL_ne {x : Nat} (h : x ≠ 0) : decL x ≠ [] := by
  unfold decL
  intro e
  have := congrArg List.length e
  simp at this
  exact h ((digs_nil (B := 10) (by decide)).1 this)
theorem dec_eleven : dec 11 = [49, 49] := by
  have : digs 10 11 = [1, 1] := digs_eq (by decide) (Ok.cons (by decide) (Ok.cons (by decide) Ok.nil)) (by simp [Top]) (by simp)
  simp [dec, decL, this]
theorem dec_two : dec 2 = [50] := by
  have : digs 10 2 = [2] := digs_eq (by decide) (Ok.cons (by decide) Ok.nil) (by simp [Top]) (by simp)
  simp [dec, decL, this]
end Go.Proofs.YtkamkaehlofgpaaGreat.NumB
/- nat.DivSmall once more: where its quotient lies; append of numbers, what else it leaves. -/
namespace Go.Proofs.YtkamkaehlofgpaaGreat
open Go.RowKit NumB
set_option linter.unusedVariables false
set_option linter.unusedSimpArgs false

set_option maxRecDepth 100000 in
set_option maxHeartbeats 400000 in
theorem divSmall_own (xs : List Nat) (A : Option Addr) (n c d : Nat) (w : World) (hr : Rd .u32 w w.heap.size A n xs) (ho : Ok W32 xs) (hc : n ≤ c) (hm : c ≤ maxLen) (hn : n ≤ 1000000) (hd : 0 < d) (hd2 : d < 4294967296) :
    Calls Tryz.prog 153 #[.slice A n c, .int .u32 (d : Int)] w fun e w' => ∃ m c' : Nat, e = .returned (.tuple #[.slice (some ⟨w.heap.size, 0, none⟩) m c', .int .u32 ((val W32 xs % d : Nat) : Int)]) ∧ Nat32 w' (.slice (some ⟨w.heap.size, 0, none⟩) m c') (val W32 xs / d) ∧ Below w.heap.size w w' := by
  unfold maxLen at hm
  have HR := Lib.hid hr
  clear hr
  have HO := Lib.hid ho
  clear ho
  obtain ⟨i0, hi0, hz0, hz1, hz2⟩ := info_parts info_u32
  have HI := Lib.hid hi0
  have HZ0 := Lib.hid hz0
  have HZ1 := Lib.hid hz1
  have HZ2 := Lib.hid hz2
  clear hi0 hz0 hz1 hz2
  go_enter Tryz.func153, Tryz.ntmps153
  go_wp2_with (at_make; refine wpList_make_full _ rfl _ _ 22 rfl w.heap.size 101 i0 (.int .u32 0) 1 Tryz.underlying22 HI.out HZ0.out HZ1.out .i64 .i64 _ _ n rfl rfl rfl rfl (by rw [HZ2.out]; omega) (by unfold maxLen; omega) (Nat.le_refl _) ?_; intro w1 hown1 hg1)
  have HOW := Lib.hid (Own.made hown1)
  have HB := Lib.hid ((Below.refl w.heap.size w).grown hg1 (Nat.le_refl _) (by simp))
  clear hown1 hg1
  go_loopg [7, 8] (n + 1) (fun g r i wr => ∃ (j : Nat) (rest : Nat) (out : List Nat), g = j + 1 ∧ j ≤ n ∧ i = .int .i64 ((j : Int) - 1) ∧ r = .int .u64 (rest : Int) ∧ rest < d ∧ Hid (Own .u32 101 wr w.heap.size w.heap.size n n out) ∧ Hid (Below w.heap.size w wr) ∧ Hid (val W32 (xs.drop j) = d * val W32 (out.drop j) + rest) ∧ Hid (Ok W32 out))
  case atStart => exact ⟨n, 0, _, rfl, Nat.le_refl _, rfl, rfl, hd, HOW.out, HB.out, by rw [← HR.out.1, List.drop_length, List.drop_eq_nil_of_le (by simp)]; rfl, ok_replicate (by decide)⟩
  case round =>
    obtain ⟨j, rest, out, rfl, hj, rfl, rfl, hrest, HOw, HBw, HV, HOo⟩ := hrel
    by_cases h0 : 0 < j
    · obtain ⟨b, o, x, rfl, hb, hxe, hcell⟩ := (HR.out.below HBw.out).at_ (i := j - 1) (by omega)
      have hx : x < 4294967296 := by rw [← hxe]; exact HO.out.getD (by decide) _
      have HX := Lib.hid hxe
      clear hxe
      obtain ⟨y, hy⟩ : ∃ y : Nat, wr.cell? ⟨w.heap.size, j - 1, none⟩ = some (.int .u32 (y : Int)) := ⟨_, HOw.out.cell (by omega)⟩
      have hf := HOw.out.frozen (j - 1)
      have hor := u64_or_shift rest x (by omega) hx
      obtain ⟨q, r, hq, hr', hqb, hrd, he⟩ := div_facts rest x d hrest hd2 hx
      have HE := Lib.hid he
      clear he
      go_wp2
      go_roundg j
      case measure => omega
      case rel =>
        refine ⟨j - 1, r, out.set (j - 1) q, by omega, by omega, ?_, congrArg (Value.int .u64) hr', hrd, (HOw.out.stored _ _), HBw.out.setCell (Nat.le_refl _) _, ?_, HOo.out.set hqb⟩
        · congr 1; omega
        · exact divSmall_step h0 (by rw [HOw.out.1]; exact hj) HX.out (by rw [HR.out.1]; exact hj) HV.out HE.out
    · obtain rfl : j = 0 := by omega
      go_wp2_with (go_at_call 119; refine (trim_any out _ n n _ _ HOw.out.rd HOo.out (Nat.le_refl _) (by unfold maxLen; omega)).mono ?_; rintro e w' ⟨m, rfl, hm', ht, rfl⟩)
      go_ret2
      have hv := HV.out
      rw [List.drop_zero, List.drop_zero] at hv
      have e1 : val W32 xs / d = val W32 out := by rw [hv, Nat.mul_add_div hd, Nat.div_eq_of_lt hrest, Nat.add_zero]
      have e2 : val W32 xs % d = rest := by rw [hv, Nat.mul_add_mod, Nat.mod_eq_of_lt hrest]
      rw [e1, e2]
      exact ⟨_, _, rfl, Sl.of_rd HOw.out.rd hm' (Nat.le_refl _) (by unfold maxLen; omega) ht, HBw.out⟩


theorem divSmall_own_nat (x d : Nat) (va : Value) (w : World) (ha : Nat32 w va x) (hn : (digs W32 x).length ≤ 1000000) (hd : 0 < d) (hd2 : d < 4294967296) :
    Calls Tryz.prog 153 #[va, .int .u32 (d : Int)] w fun e w' => ∃ m c' : Nat, e = .returned (.tuple #[.slice (some ⟨w.heap.size, 0, none⟩) m c', .int .u32 ((x % d : Nat) : Int)]) ∧ Nat32 w' (.slice (some ⟨w.heap.size, 0, none⟩) m c') (x / d) ∧ Below w.heap.size w w' := by
  obtain ⟨A, c, rfl, hc, hm, hr⟩ := ha
  have h := divSmall_own (digs W32 x) A _ c d w hr (ok_digs W32_gt x) hc hm hn hd hd2
  rw [val_digs W32_gt] at h
  exact h

theorem wpList_pushG {P : Program} {ops : Array Oper} {rest : List Oper} {o : Oper} {a : Act} {Q : Exit → Act → World → Prop} (w : World) (hgd : o.guard = none) (s x : Operand) (t : TypeId)
    (ho : o.op = .call { callee := .builtin .append, args := #[s, x], argTypes := #[t, t] })
    (k : IntKind) (T : TypeId) (bytes : Nat) (ht : P.underlying t = some (.slice T)) (hinfo : (P.info? T).map (fun i => (i.zero, i.size, i.bytes)) = some (some (.int k 0), 1, bytes)) (hb8 : bytes ≤ 8)
    (B : Nat) (v : Value) (xs ys : List Nat) (hs : a.eval s = v) (hx : a.eval x = .slice (some ⟨w.heap.size, 0, none⟩) ys.length ys.length) (hown : OwnV k T w B v xs) (hn : xs.length + ys.length ≤ 1000000) (hB : B ≤ w.heap.size) (C : Array Value) (hC : C = (cellsN k ys).toArray)
    (h : ∀ v' w', OwnV k T w' B v' (xs ++ ys) → Below B w w' → (w.alloc (.cells C T)).grownBy w' v.ownBlock → wpList P ops Q rest (a.put o.dst v') w') : wpList P ops Q (o :: rest) a (w.alloc (.cells C T)) := by
  subst hC
  obtain ⟨i0, hi0, hz0, hz1, hz2⟩ := info_parts hinfo
  refine wpList_append_own_at _ hgd s x t ho B T i0 (.int k 0) 1 bytes ht hi0 hz0 hz1 hz2 rfl (by decide) v xs.length (cellsN k xs) hs (hown.alloc _) ⟨w.heap.size, 0, none⟩ ys.length ys.length (cellsN k ys) hx (by rw [cellsN_len]; omega) news_block cellsN_one (by unfold maxLen; omega) ?_ (by simp; omega) ?_
  · have : (xs.length + ys.length) * bytes ≤ 1000000 * 8 := Nat.mul_le_mul hn hb8
    omega
  · intro v' w' h1 h2 _ _
    refine h v' w' ?_ (((Below.refl B w).alloc hB _).grown h2 (by simp; omega) (fun g hg => hown.blk g hg)) h2
    unfold OwnV
    rw [List.length_append, ← cellsN_append]
    exact h1

/-- append of another slice. -/
theorem wpList_joinG {P : Program} {ops : Array Oper} {rest : List Oper} {o : Oper} {a : Act} {Q : Exit → Act → World → Prop} (w : World) (hgd : o.guard = none) (s x : Operand) (t : TypeId)
    (ho : o.op = .call { callee := .builtin .append, args := #[s, x], argTypes := #[t, t] })
    (k : IntKind) (T : TypeId) (bytes : Nat) (ht : P.underlying t = some (.slice T)) (hinfo : (P.info? T).map (fun i => (i.zero, i.size, i.bytes)) = some (some (.int k 0), 1, bytes)) (hb8 : bytes ≤ 8)
    (B : Nat) (v : Value) (xs ys : List Nat) (ad : Addr) (c m : Nat) (hm : ys.length = m) (hs : a.eval s = v) (hx : a.eval x = .slice (some ad) m c) (hr : Rd k w w.heap.size (some ad) m ys) (hown : OwnV k T w B v xs) (hn : xs.length + ys.length ≤ 1000000) (hB : B ≤ w.heap.size)
    (h : ∀ v' w', OwnV k T w' B v' (xs ++ ys) → w.grownBy w' v.ownBlock → wpList P ops Q rest (a.put o.dst v') w') : wpList P ops Q (o :: rest) a w := by
  subst hm
  obtain ⟨i0, hi0, hz0, hz1, hz2⟩ := info_parts hinfo
  refine wpList_append_own_at _ hgd s x t ho B T i0 (.int k 0) 1 bytes ht hi0 hz0 hz1 hz2 rfl (by decide) v xs.length (cellsN k xs) hs hown ad ys.length c (cellsN k ys) hx (by rw [cellsN_len]; omega) (rd_news hr) cellsN_one (by unfold maxLen; omega) ?_ hB ?_
  · have : (xs.length + ys.length) * bytes ≤ 1000000 * 8 := Nat.mul_le_mul hn hb8
    omega
  · intro v' w' h1 h2 _ _
    refine h v' w' ?_ h2
    unfold OwnV
    rw [List.length_append, ← cellsN_append]
    exact h1

/-- A slice whose block has not turned. -/
theorem Sl.blk {k : IntKind} {w w' : World} {g o n c : Nat} {xs : List Nat} (h : Sl k w (.slice (some ⟨g, o, none⟩) n c) xs) (hb : w'.heap[g]? = w.heap[g]?) (hs : w.heap.size ≤ w'.heap.size) : Sl k w' (.slice (some ⟨g, o, none⟩) n c) xs := by
  obtain ⟨A, c', e, h1, h2, h3, h4⟩ := h
  simp only [Value.slice.injEq] at e
  obtain ⟨rfl, rfl, rfl⟩ := e
  refine ⟨_, _, rfl, h1, h2, h3, fun hn => ?_⟩
  obtain ⟨b, o', e2, hbl, hc⟩ := h4 hn
  injection e2 with e2
  injection e2 with e3 e4
  subst e3 e4
  exact ⟨g, o, rfl, Nat.lt_of_lt_of_le hbl hs, fun i hi => (World.cell?_of_block hb).trans (hc i hi)⟩
theorem ownV_lt {k : IntKind} {T : TypeId} {w : World} {B : Nat} {v : Value} {xs : List Nat} (h : OwnV k T w B v xs) : ∀ g, v.ownBlock = some g → g < w.heap.size := fun g hg => (World.ownsRow.lt h g hg).2
end Go.Proofs.YtkamkaehlofgpaaGreat
/- nat.Decimal. Conditions: at most 10000 limbs. -/
namespace Go.Proofs.YtkamkaehlofgpaaGreat
open Go.RowKit NumB
set_option linter.unusedVariables false
set_option linter.unusedSimpArgs false

def G9 : Nat := 1000000000
theorem G9_gt : 1 < G9 := by decide
theorem info_u8 : (Tryz.prog.info? 5).map (fun i => (i.zero, i.size, i.bytes)) = some (some (.int .u8 0), 1, 1) := by kernel_rfl

theorem digs9_len {x n : Nat} (h : (digs W32 x).length ≤ n) : (digs G9 x).length ≤ 2 * n := by
  refine digs_len_le G9_gt (Nat.lt_of_lt_of_le (digs_lt W32_gt) ?_)
  rw [Nat.pow_mul]
  exact Nat.le_trans (Nat.pow_le_pow_right (by decide) h) (Nat.pow_le_pow_left (by decide) n)
theorem digs9_step {gs : List Nat} {c x : Nat} (hc : c ≠ 0) (h : gs ++ digs G9 c = digs G9 x) : (gs ++ [c % G9]) ++ digs G9 (c / G9) = digs G9 x := by
  rw [← h, digs_step G9_gt hc, List.append_assoc]; rfl
theorem part_len {gs l m : List Nat} (h : gs ++ l = m) : gs.length ≤ m.length := by rw [← h]; simp

/-- The bytes of the groups from j on. -/
def gout (gs : List Nat) (j : Nat) : List Nat := ((gs.drop j).reverse.flatMap pad9).map (48 + ·)
theorem gout_step {gs : List Nat} {j : Nat} (h : j < gs.length) : gout gs (j + 1) ++ (pad9 (gs.getD j 0)).map (48 + ·) = gout gs j := by
  unfold gout
  rw [List.drop_eq_getElem_cons h, List.reverse_cons, List.flatMap_append, List.map_append, getD_lt h]
  simp
theorem gout_end {gs : List Nat} : gout gs gs.length = [] := by unfold gout; simp
theorem gout_len (gs : List Nat) (j : Nat) : (gout gs j).length = 9 * (gs.length - j) := by
  have key : ∀ l : List Nat, (l.flatMap pad9).length = 9 * l.length := by
    intro l
    induction l with
    | nil => rfl
    | cons a r ih => rw [List.flatMap_cons, List.length_append, pad9_len, ih, List.length_cons]; omega
  unfold gout
  rw [List.length_map, key, List.length_reverse, List.length_drop]

theorem div_ten {g e : Nat} (h : e ≤ 8) : g / 10 ^ e / 10 = g / 10 ^ (e + 1) := by rw [Nat.div_div_eq_div_mul, Nat.pow_succ]
theorem part_eq {part : List Nat} {g : Nat} (hl : part.length = 9) (h : ∀ k, k < 9 → part.getD k 0 = 48 + g / 10 ^ (8 - k) % 10) : part = (pad9 g).map (48 + ·) := by
  refine List.ext_getElem (by rw [hl, List.length_map, pad9_len]) fun k h1 h2 => ?_
  have := h k (by omega)
  rw [getD_lt h1] at this
  rw [this, List.getElem_map, ← pad9_get (g := g) (k := k) (by omega), getD_lt (by rw [pad9_len]; omega)]

theorem gout_dec (x : Nat) : ((gout (digs G9 x) 0).dropWhile (· == 48)).map (fun d => d.toUInt8) = decL x := by
  have h : ∀ l : List Nat, ((l.map (48 + ·)).dropWhile (· == 48)).map (fun d => d.toUInt8) = ((l.dropWhile (· == 0)).map (fun d => (48 + d).toUInt8)) := by
    intro l
    induction l with
    | nil => rfl
    | cons d l ih =>
      rw [List.map_cons, List.dropWhile_cons, List.dropWhile_cons]
      by_cases hd : d = 0
      · subst hd; simpa using ih
      · rw [if_neg (by simp; omega), if_neg (by simpa using hd)]; simp
  unfold gout
  rw [List.drop_zero, h]
  exact groups_dec
theorem gout_byte {gs : List Nat} {j : Nat} : ∀ d ∈ gout gs j, d < 256 := by
  intro d hd
  obtain ⟨e, he, rfl⟩ := List.mem_map.1 hd
  have := flat_ok e he
  omega
theorem getD_map_ofNat (l : List Nat) (i : Nat) (h : i < l.length) : (l.map Int.ofNat).getD i 0 = ((l.getD i 0 : Nat) : Int) := by
  rw [List.getD_eq_getElem?_getD, List.getElem?_map, List.getElem?_eq_getElem h, getD_lt h]; rfl
theorem getD_drop (l : List Nat) (k i : Nat) : (l.drop k).getD i 0 = l.getD (k + i) 0 := by
  rw [List.getD_eq_getElem?_getD, List.getD_eq_getElem?_getD, List.getElem?_drop]

/-- A row of limbs and a row of bytes are different blocks. -/
theorem own_ne {w : World} {B B' g n c : Nat} {gs out : List Nat} {v : Value} (h : Own .u32 101 w B g n c gs) (hv : OwnV .u8 5 w B' v out) : some g ≠ v.ownBlock := by
  intro e
  rcases hv.2 with ⟨rfl, _⟩ | ⟨g', cap, cur, rfl, _, hh, _⟩
  · simp [Value.ownBlock] at e
  · have e1 : g = g' := by simpa [Value.ownBlock] using e
    subst e1
    rcases h.2.2 with ⟨h', _⟩ | ⟨g2, cap2, cur2, h', _, hh2, _⟩
    · simp at h'
    · simp only [Value.slice.injEq, Option.some.injEq, Addr.mk.injEq, and_true] at h'
      obtain ⟨rfl, _⟩ := h'
      rw [hh] at hh2
      injection hh2 with hh2
      injection hh2 with _ ht
      exact absurd ht (by decide)

end Go.Proofs.YtkamkaehlofgpaaGreat
/- How long the digits in base 2^16 are. -/
namespace Go.Proofs.YtkamkaehlofgpaaGreat
open Go.RowKit NumB
theorem len_pos16 {x n : Nat} (h : n = (digs W16 x).length) : 0 < n ↔ 0 < x := by
  subst h
  constructor
  · intro h
    rcases Nat.eq_zero_or_pos x with h4 | h4
    · subst h4; rw [digs_zero] at h; exact absurd h (by simp)
    · exact h4
  · intro h
    exact List.length_pos_iff.2 fun h4 => by have := (digs_nil W16_gt).1 h4; omega
end Go.Proofs.YtkamkaehlofgpaaGreat
/- fetterlockref1.Decimal. Conditions: at most 10000 digits. -/
namespace Go.Proofs.YtkamkaehlofgpaaGreat
open Go.RowKit NumB
set_option linter.unusedVariables false
set_option linter.unusedSimpArgs false

theorem rdiv_step {xs out : List Nat} {j x d rest q r : Nat} (hj : 0 < j) (hl : j ≤ out.length) (hx : xs.getD (j - 1) 0 = x) (hjx : j ≤ xs.length) (hv : val W16 (xs.drop j) = d * val W16 (out.drop j) + rest)
    (he : rest * 65536 + x = d * q + r) : val W16 (xs.drop (j - 1)) = d * val W16 ((out.set (j - 1) q).drop (j - 1)) + r := by
  have e1 : xs.drop (j - 1) = x :: xs.drop j := by
    rw [List.drop_eq_getElem_cons (by omega), ← getD_lt (by omega), hx, Nat.sub_add_cancel hj]
  have e2 : (out.set (j - 1) q).drop (j - 1) = q :: out.drop j := by
    rw [List.drop_eq_getElem_cons (by simp; omega), Nat.sub_add_cancel hj]
    simp [List.drop_set]
    omega
  rw [e1, e2, val_cons, val_cons, hv]
  have : W16 = 65536 := rfl
  rw [this, Nat.mul_add, Nat.mul_add, Nat.mul_left_comm]
  omega
def ten : Nat := 10
theorem ten_gt : 1 < ten := by decide
/-- The digits so far, as bytes. -/
def dgs (x : Nat) : List Nat := (digs ten x).map (48 + ·)
theorem dgs_step {ds : List Nat} {c x : Nat} (hc : c ≠ 0) (h : ds ++ dgs c = dgs x) : (ds ++ [48 + c % 10]) ++ dgs (c / 10) = dgs x := by
  rw [← h]
  have : dgs c = (48 + c % 10) :: dgs (c / 10) := by
    unfold dgs
    rw [digs_step ten_gt hc]; rfl
  rw [this, List.append_assoc]; rfl
theorem dgs_len {x n : Nat} (h : (digs W16 x).length ≤ n) : (dgs x).length ≤ 5 * n := by
  unfold dgs
  rw [List.length_map]
  refine digs_len_le ten_gt (Nat.lt_of_lt_of_le (digs_lt W16_gt) ?_)
  rw [Nat.pow_mul]
  exact Nat.le_trans (Nat.pow_le_pow_right (by decide) h) (Nat.pow_le_pow_left (by decide) n)
theorem dgs_text (x : Nat) : ((dgs x).reverse).map (fun d => d.toUInt8) = decL x := by
  unfold dgs decL ten
  rw [← List.map_reverse, ← List.map_reverse, List.map_map]; rfl
theorem rev_step {ds out : List Nat} {j L c : Nat} (hL : ds.length = L) (ho : out.length = L) (hj : j < L) (hc : ds.getD j 0 = c) (h : out.drop (L - j) = (ds.take j).reverse) : (out.set (L - 1 - j) c).drop (L - (j + 1)) = (ds.take (j + 1)).reverse := by
  have e : L - (j + 1) = L - 1 - j := by omega
  rw [e, List.drop_eq_getElem_cons (by simp; omega), List.take_succ_eq_append_getElem (by omega), List.reverse_append, ← h]
  have e2 : L - 1 - j + 1 = L - j := by omega
  rw [e2]
  simp [List.drop_set]
  constructor
  · rw [← hc, getD_lt (by omega)]
  · omega

set_option maxRecDepth 100000 in
set_option maxHeartbeats 6400000 in
theorem rdecimal_pos (x : Nat) (va : Value) (w : World) (ha : Nat16 w va x) (hx : (digs W16 x).length ≤ 10000) (hx0 : 0 < x) :
    Calls Tryz.prog 121 #[va] w fun e w' => e = .returned (.string ⟨(decL x).toArray⟩) ∧ Below w.heap.size w w' := by
  have HA := Lib.hid ha
  have HLD := Lib.hid (dgs_len hx)
  have HLX := Lib.hid hx
  have HX0 := Lib.hid hx0
  obtain ⟨A, c, rfl, _⟩ := ha
  obtain ⟨n, hn⟩ : ∃ n, (digs W16 x).length = n := ⟨_, rfl⟩
  rw [hn] at HA ⊢
  have hn0 : ((n : Int) == 0) = false := beq_eq_false_iff_ne.2 (by have := (len_pos16 hn.symm).2 hx0; omega)
  clear hx0 hn
  go_enter Tryz.func121, Tryz.ntmps121
  go_wp2
  go_loopg [0, 3, 4, 5, 6, 7] x (fun gk s0 s3 s4 s5 s6 s7 wr => ∃ ds : List Nat, Hid (Nat16 wr s0 gk ∧ OwnV .u8 5 wr w.heap.size s3 ds ∧ ds ++ dgs gk = dgs x ∧ gk ≤ x ∧ Below w.heap.size w wr))
  case atStart => exact ⟨[], HA.out, OwnV.nil_ _, rfl, Nat.le_refl _, Below.refl _ _⟩
  case round =>
    obtain ⟨ds, HR⟩ := hrel
    obtain ⟨A0, c0, hu0, hc0, hm0, hr0⟩ := id HR.out.1
    have hl0 : (digs W16 gk).length = (digs W16 gk).length := rfl
    have hlb : (digs W16 gk).length ≤ 10000 := Nat.le_trans (digs_len_mono W16_gt HR.out.2.2.2.1) HLX.out
    have hpz := len_pos16 (x := gk) rfl
    have HX := Lib.hid (And.intro (val_digs W16_gt gk) (ok_digs W16_gt gk))
    generalize digs W16 gk = xs at *
    generalize hn2 : xs.length = n0 at *
    have HN0 := Lib.hid hn2
    have HR0 := Lib.hid hr0
    subst hu0
    clear hl0 hn2 hr0
    unfold maxLen at hm0
    by_cases h0 : gk = 0
    · subst h0
      obtain rfl : n0 = 0 := by omega
      have hds : ds = dgs x := by have := HR.out.2.2.1; unfold dgs at this; rw [digs_zero, List.map_nil, List.append_nil] at this; exact this
      have hdl : 0 < ds.length := by
        rw [hds]
        refine List.length_pos_iff.2 fun h => ?_
        unfold dgs at h
        have h1 := List.map_eq_nil_iff.1 h
        have := (digs_nil ten_gt).1 h1
        have := HX0.out
        omega
      obtain ⟨g3, c3, hv3, HO3⟩ : ∃ g3 c3, u3 = .slice (some ⟨g3, 0, none⟩) ds.length c3 ∧ Hid (Own .u8 5 wr w.heap.size g3 ds.length c3 ds) := by
        rcases HR.out.2.1.form with ⟨_, h⟩ | ⟨g, c, h, ho⟩
        · rw [h] at hdl; exact absurd hdl (by simp)
        · exact ⟨g, c, h, ho⟩
      subst hv3
      have hLb : ds.length ≤ 50000 := by rw [hds]; exact HLD.out
      have HDT : Hid (ds.reverse.map (fun d => d.toUInt8) = decL x) := by unfold Hid; rw [hds]; exact dgs_text x
      have HBW := Lib.hid HR.out.2.2.2.2
      generalize hm : ds.length = L at *
      have HM := Lib.hid hm
      obtain ⟨i0, hi0, hz0, hz1, hz2⟩ := info_parts info_u8
      have HI := Lib.hid hi0
      have HZ0 := Lib.hid hz0
      have HZ1 := Lib.hid hz1
      have HZ2 := Lib.hid hz2
      clear hi0 hz0 hz1 hz2 hds hm HR hpz
      go_wp2_with (at_make; refine wpList_make_full _ rfl _ _ 96 rfl wr.heap.size 5 i0 (.int .u8 0) 1 Tryz.underlying96 HI.out HZ0.out HZ1.out .i64 .i64 _ _ L rfl rfl rfl rfl (by rw [HZ2.out]; omega) (by unfold maxLen; omega) (Nat.le_refl _) ?_; intro w1 hown1 hg1)
      have HOP := Lib.hid (Own.made hown1)
      have HB1 := Lib.hid ((Below.refl wr.heap.size wr).grown hg1 (Nat.le_refl _) (by simp))
      clear hown1 hg1
      obtain ⟨wo, hwo⟩ : ∃ wo : World, wo = wr := ⟨_, rfl⟩
      subst hwo
      have hgo := HO3.out.lt.2
      go_loopg [54, 9, 10] L (fun gj s54 s9 s10 wq => ∃ (j : Nat) (out : List Nat), gj + j = L ∧ s54 = .int .i64 (j : Int) ∧ Hid (Own .u8 5 wq wo.heap.size wo.heap.size L L out) ∧ Hid (out.drop (L - j) = (ds.take j).reverse) ∧ Hid (Below wo.heap.size wo wq))
      case atStart => exact ⟨0, _, by omega, rfl, HOP.out, by unfold Hid; rw [List.drop_eq_nil_of_le (by simp)]; rfl, HB1.out⟩
      case round =>
        obtain ⟨j, out, hgj, rfl, HO, HE, HBQ⟩ := hrel
        clear HOP HB1
        by_cases hj : j < L
        · obtain ⟨p, hpe⟩ : ∃ p, ds.getD j 0 = p := ⟨_, rfl⟩
          have hcell : wr.cell? ⟨g3, j, none⟩ = some (.int .u8 (p : Int)) := by rw [← hpe]; exact (HO3.out.to HBQ.out).cell hj
          have HP := Lib.hid hpe
          obtain ⟨y, hy⟩ : ∃ y : Nat, wr.cell? ⟨wo.heap.size, L - 1 - j, none⟩ = some (.int .u8 (y : Int)) := ⟨_, HO.out.cell (by omega)⟩
          have hf := HO.out.frozen (L - 1 - j)
          have hix : ((L : Int) - 1 - (j : Int)) = ((L - 1 - j : Nat) : Int) := by omega
          have hix2 : L - 1 - j < L := by omega
          clear hpe
          go_wp2
          go_roundg (gk - 1)
          case measure => omega
          case rel => exact ⟨j + 1, out.set (L - 1 - j) p, by omega, by go_num, HO.out.stored _ _, rev_step HM.out HO.out.1 hj HP.out HE.out, HBQ.out.setCell (Nat.le_refl _) _⟩
        · obtain rfl : j = L := by omega
          have hout : out = ds.reverse := by
            have h := HE.out
            rw [Nat.sub_self, List.drop_zero, List.take_of_length_le (by rw [HM.out]; exact Nat.le_refl _)] at h
            exact h
          have hcv := fun cap => run_convert_bytes_arg (P := Tryz.prog) wr 96 5 Tryz.underlying96 Tryz.underlying5 wo.heap.size 0 j cap (out.map Int.ofNat) (by rw [List.length_map, HO.out.1]) (fun i hi => by
            rw [Nat.zero_add, HO.out.cell hi, getD_map_ofNat _ _ (by rw [HO.out.1]; exact hi)]) 9 Tryz.underlying9
          have hstr : strOfNums (out.map Int.ofNat) = ⟨(decL x).toArray⟩ := by
            unfold strOfNums
            rw [← HDT.out, hout, List.map_map]
            rfl
          have hcv2 : ∀ cap, (convert 96 9 (.slice (some ⟨wo.heap.size, 0, none⟩) j cap)).run Tryz.prog wr = .ok (.string ⟨(decL x).toArray⟩) wr := fun cap => by rw [hcv cap, hstr]
          clear hcv hstr hout
          go_wp2
          go_ret
          exact ⟨rfl, HBW.out.trans (HBQ.out.mono HBW.out.size)⟩
    · have hnp : 0 < n0 := hpz.2 (by omega)
      have HG0 := Lib.hid h0
      obtain ⟨i0, hi0, hz0, hz1, hz2⟩ := info_parts info_i64
      have HI := Lib.hid hi0
      have HZ0 := Lib.hid hz0
      have HZ1 := Lib.hid hz1
      have HZ2 := Lib.hid hz2
      clear hi0 hz0 hz1 hz2 h0 hpz
      go_wp2_with (at_make; refine wpList_make_full _ rfl _ _ 92 rfl wr.heap.size 3 i0 (.int .i64 0) 1 Tryz.underlying92 HI.out HZ0.out HZ1.out .i64 .i64 _ _ n0 rfl rfl rfl rfl (by rw [HZ2.out]; omega) (by unfold maxLen; omega) (Nat.le_refl _) ?_; intro w1 hown1 hg1)
      have HOP := Lib.hid (Own.made hown1)
      have HB1 := Lib.hid ((Below.refl wr.heap.size wr).grown hg1 (Nat.le_refl _) (by simp))
      clear hown1 hg1
      obtain ⟨wo, hwo⟩ : ∃ wo : World, wo = wr := ⟨_, rfl⟩
      subst hwo
      obtain ⟨cur, hcur⟩ : ∃ cur : Nat, cur = gk := ⟨_, rfl⟩
      subst hcur
      go_loopg [4, 6, 7] (n0 + 1) (fun gj s4 s6 s7 wq => ∃ (j rest : Nat) (out : List Nat), gj = j + 1 ∧ j ≤ n0 ∧ s6 = .int .i64 ((j : Int) - 1) ∧ s4 = .int .i64 (rest : Int) ∧ rest < 10 ∧ Hid (Own .i64 3 wq wo.heap.size wo.heap.size n0 n0 out) ∧ Hid (Below wo.heap.size wo wq) ∧ Hid (val W16 (xs.drop j) = 10 * val W16 (out.drop j) + rest) ∧ Hid (Ok W16 out))
      case atStart => exact ⟨n0, 0, _, rfl, Nat.le_refl _, rfl, rfl, by omega, HOP.out, HB1.out, by unfold Hid; rw [← HN0.out, List.drop_length, List.drop_eq_nil_of_le (by simp)]; rfl, ok_replicate (by decide)⟩
      case round =>
        obtain ⟨j, rest, out, rfl, hj, rfl, rfl, hrest, HO, HBQ, HV, HOo⟩ := hrel
        clear HOP HB1
        by_cases h0 : 0 < j
        · obtain ⟨b, o, y, rfl, hb, hye, hcell⟩ := (HR0.out.below HBQ.out).at_ (i := j - 1) (by omega)
          have hyb : y < 65536 := by rw [← hye]; exact HX.out.2.getD (by decide) _
          have HY := Lib.hid hye
          clear hye
          obtain ⟨z, hz⟩ : ∃ z : Nat, wr.cell? ⟨wo.heap.size, j - 1, none⟩ = some (.int .i64 (z : Int)) := ⟨_, HO.out.cell (by omega)⟩
          have hf := HO.out.frozen (j - 1)
          obtain ⟨q, r, hq, hr', hqb, hrd, HEE⟩ : ∃ q r : Nat, ((rest : Int) * 65536 + (y : Int)) / 10 = (q : Int) ∧ ((rest : Int) * 65536 + (y : Int)) % 10 = (r : Int) ∧ q < 65536 ∧ r < 10 ∧ Hid (rest * 65536 + y = 10 * q + r) :=
            ⟨(rest * 65536 + y) / 10, (rest * 65536 + y) % 10, by omega, by omega, by omega, by omega, by unfold Hid; omega⟩
          go_wp2
          go_roundg j
          case measure => omega
          case rel => exact ⟨j - 1, r, out.set (j - 1) q, by omega, by omega, by congr 1; omega, congrArg (Value.int .i64) hr', hrd, HO.out.stored _ _, HBQ.out.setCell (Nat.le_refl _) _, rdiv_step h0 (by rw [HO.out.1]; exact hj) HY.out (by rw [HN0.out]; exact hj) HV.out HEE.out, HOo.out.set hqb⟩
        · obtain rfl : j = 0 := by omega
          have hv := HV.out
          rw [List.drop_zero, List.drop_zero, HX.out.1] at hv
          have HQV : Hid (cur / 10 = val W16 out ∧ cur % 10 = rest) := ⟨by omega, by omega⟩
          have HDS := Lib.hid (HR.out.2.1.to HBQ.out)
          have HDL := Lib.hid (ownV_lt HR.out.2.1)
          have HBW := Lib.hid (HR.out.2.2.2.2.trans (HBQ.out.mono HR.out.2.2.2.2.size))
          obtain ⟨bt, hbt, hbtb, HBT⟩ : ∃ bt : Nat, (48 : Int) + (rest : Int) = (bt : Int) ∧ bt < 58 ∧ Hid (bt = 48 + rest) := ⟨48 + rest, by omega, by omega, rfl⟩
          have HLEN : Hid (ds.length + [bt].length ≤ 1000000) := by have := part_len HR.out.2.2.1; have := HLD.out; unfold Hid; simp; omega
          clear hv
          go_wp2_with (at_builtin; go_must (refine wpList_pushG wr rfl _ _ 96 rfl .u8 5 1 Tryz.underlying96 info_u8 (by decide) w.heap.size _ ds [bt] (by rfl) (by rfl) HDS.out HLEN.out HBW.out.size _ rfl ?_); intro v2 w2 hown2 hb2 hg2)
          have hsl : Sl .i64 w2 (.slice (some ⟨wo.heap.size, 0, none⟩) n0 n0) out := by
            have h1 := HO.out.sl.to (below_one wr (.cells #[.int .u8 (bt : Int)] 5))
            refine Sl.blk h1 (hg2.block _ ?_ ?_) hg2.size
            · have := HO.out.lt.2; simp; omega
            · intro e; have := HDL.out _ e.symm; omega
          refine (rtrim_any out _ _ hsl HOo.out).mono ?_
          rintro e w3 ⟨v3, rfl, hn3, rfl⟩
          rw [← HQV.out.1] at hn3
          have HN3 := Lib.hid hn3
          have HW2 := Lib.hid hown2
          have HBB := Lib.hid hb2
          clear hn3 hown2 hb2 hg2 hsl
          go_wp2
          go_roundg (cur / 10)
          case measure => have := HG0.out; omega
          case rel =>
            refine ⟨ds ++ [bt], HN3.out, HW2.out, ?_, Nat.le_trans (Nat.div_le_self _ _) HR.out.2.2.2.1, HBW.out.trans HBB.out⟩
            rw [HBT.out, ← HQV.out.2]; exact dgs_step HG0.out HR.out.2.2.1
set_option maxRecDepth 100000 in
theorem rdecimal_any (x : Nat) (va : Value) (w : World) (ha : Nat16 w va x) (hx : (digs W16 x).length ≤ 10000) :
    Calls Tryz.prog 121 #[va] w fun e w' => e = .returned (.string ⟨(dec x).toArray⟩) ∧ Below w.heap.size w w' := by
  rcases Nat.eq_zero_or_pos x with h0 | h0
  · subst h0
    obtain ⟨A, c, rfl, _⟩ := ha
    rw [digs_zero]
    clear hx
    have hb0 : (((0 : Nat) : Int) == 0) = true := rfl
    have E : Hid (dec 0 = [48]) := rfl
    go_enter Tryz.func121, Tryz.ntmps121
    go_wp2
    go_ret
    rw [E.out]
    exact ⟨rfl, Below.refl _ _⟩
  · unfold dec
    rw [if_neg (by omega)]
    exact rdecimal_pos x va w ha hx h0
end Go.Proofs.YtkamkaehlofgpaaGreat
/- fetterlocklaw1.sameLimbs, same. -/
namespace Go.Proofs.YtkamkaehlofgpaaGreat
open Go.RowKit NumB
set_option linter.unusedVariables false
set_option linter.unusedSimpArgs false

def eqB (xs ys : List Nat) : Bool := decide (xs = ys)
theorem eqB_true {xs ys : List Nat} (h : xs = ys) : eqB xs ys = true := decide_eq_true h
theorem eqB_false {xs ys : List Nat} (h : xs ≠ ys) : eqB xs ys = false := decide_eq_false h

theorem take_step {xs ys : List Nat} {j : Nat} (h1 : j < xs.length) (h2 : j < ys.length) (h : xs.take j = ys.take j) (he : xs.getD j 0 = ys.getD j 0) : xs.take (j + 1) = ys.take (j + 1) := by
  rw [List.take_succ_eq_append_getElem h1, List.take_succ_eq_append_getElem h2, h, ← getD_lt h1, ← getD_lt h2, he]

/-- Two numbers are the same. -/
def sameB (a b : LN) : Bool := (a.neg == b.neg) && (eqB a.num b.num && eqB a.den b.den)
theorem sameB_true {a b : LN} (h : a = b) : sameB a b = true := by
  subst h
  unfold sameB
  rw [eqB_true rfl, eqB_true rfl]
  simp
end Go.Proofs.YtkamkaehlofgpaaGreat
/- nat.FromDecimal: digits alone. Conditions: at most 10000 bytes. -/
namespace Go.Proofs.YtkamkaehlofgpaaGreat
open Go.RowKit NumB
set_option linter.unusedVariables false
set_option linter.unusedSimpArgs false

theorem digs32_dec {x n : Nat} (h : x < 10 ^ n) : (digs W32 x).length ≤ n := digs_len_le W32_gt (Nat.lt_of_lt_of_le h (Nat.pow_le_pow_left (by decide) n))

theorem dig_at {t : ByteArray} (h : allDig t.data.toList = true) {i : Nat} (hi : i < t.size) : 48 ≤ t[i].toNat ∧ t[i].toNat ≤ 57 := by
  have hm : t[i] ∈ t.data.toList := by show t.data[i] ∈ t.data.toList; exact Array.getElem_mem_toList _
  exact of_decide_eq_true (List.all_eq_true.1 h _ hm)
theorem dval_at {t : ByteArray} {i c : Nat} (hi : i < t.size) (hc : t[i].toNat = c) : dval (t.data.toList.take (i + 1)) = dval (t.data.toList.take i) * 10 + (c - 48) := by
  rw [← hc]
  exact dval_take_succ (by simpa using hi)
theorem dval_take_lt {t : ByteArray} (h : allDig t.data.toList = true) {i : Nat} (hi : i ≤ 9) : dval (t.data.toList.take i) < 1000000000 := by
  refine Nat.lt_of_lt_of_le (dval_lt (allDig_take h i)) (Nat.le_trans (Nat.pow_le_pow_right (by decide) (Nat.le_trans (List.length_take_le _ _) hi)) (by decide))
theorem ten_le {i : Nat} (h : i ≤ 9) : 10 ^ i ≤ 1000000000 := Nat.le_trans (Nat.pow_le_pow_right (by decide) h) (by decide)
theorem small32 {x : Nat} (h : x ≤ 1000000000) : (digs W32 x).length ≤ 1 := digs_len_le W32_gt (by unfold W32; omega)

/-- What is left to be read, and what has been read. -/
def FD (w wr : World) (D : Nat) (t : ByteArray) (v : Value) : Prop := allDig t.data.toList = true ∧ ∃ a : Nat, Nat32 wr v a ∧ a * 10 ^ t.size + dval t.data.toList = D ∧ Below w.heap.size w wr

end Go.Proofs.YtkamkaehlofgpaaGreat
/- number.digits. -/
namespace Go.Proofs.YtkamkaehlofgpaaGreat
open Go.RowKit NumB
set_option linter.unusedVariables false
set_option linter.unusedSimpArgs false

def cut10 : ByteArray := ⟨#[48, 49, 50, 51, 52, 53, 54, 55, 56, 57]⟩
theorem in_cut (c : UInt8) : cut10.data.toList.contains c = isDig c := by
  have h : ∀ n : Fin 256, cut10.data.toList.contains (UInt8.ofNat n.val) = isDig (UInt8.ofNat n.val) := by decide +kernel
  have := h ⟨c.toNat, c.toNat_lt⟩
  simpa using this
theorem dropWhile_nil {p : UInt8 → Bool} {l : List UInt8} : l.dropWhile p = [] ↔ ∀ x ∈ l, p x = true := by
  induction l with
  | nil => simp
  | cons c l ih =>
    rw [List.dropWhile_cons]
    cases h : p c with
    | true => simp [h, ih]
    | false => simp [h]
theorem trim_digits (l : List UInt8) : (Lib.trimS l cut10.data.toList).isEmpty = allDig l := by
  have e : (cut10.data.toList.contains · : UInt8 → Bool) = isDig := funext in_cut
  unfold Lib.trimS Lib.trimLeftS Lib.trimRightS
  rw [e]
  cases h : allDig l with
  | true =>
    have : l.reverse.dropWhile isDig = [] := by
      rw [dropWhile_nil]
      intro x hx
      exact List.all_eq_true.1 h x (List.mem_reverse.1 hx)
    rw [this]; rfl
  | false =>
    obtain ⟨x, hx, hn⟩ := List.all_eq_false.1 h
    cases hd : ((l.reverse.dropWhile isDig).reverse.dropWhile isDig).isEmpty with
    | false => rfl
    | true =>
      exfalso
      have h1 : (l.reverse.dropWhile isDig).reverse.dropWhile isDig = [] := List.isEmpty_iff.1 hd
      rw [dropWhile_nil] at h1
      have h2 : l.reverse.dropWhile isDig = [] := by
        cases hc : l.reverse.dropWhile isDig with
        | nil => rfl
        | cons y r =>
          have h3 := List.head?_dropWhile_not isDig l.reverse
          rw [hc] at h3
          simp only [List.head?_cons] at h3
          have h4 := h1 y (by rw [hc]; simp)
          rw [h4] at h3
          exact absurd h3 (by simp)
      rw [dropWhile_nil] at h2
      exact hn (h2 x (List.mem_reverse.2 hx))

end Go.Proofs.YtkamkaehlofgpaaGreat
/- strings.Cut at a separator of one byte. -/
namespace Go.Proofs.YtkamkaehlofgpaaGreat
open Go.RowKit NumB
set_option linter.unusedVariables false
set_option linter.unusedSimpArgs false

/-- What stands before and behind the first c. -/
def cutB (l : List UInt8) (c : UInt8) : List UInt8 × List UInt8 × Bool :=
  if 0 ≤ Lib.indexByte l c then (l.take (Lib.indexByte l c).toNat, l.drop ((Lib.indexByte l c).toNat + 1), true) else (l, [], false)

theorem ba_eq {s : ByteArray} {l : List UInt8} (h : s.data.toList = l) : s = ⟨l.toArray⟩ := by subst h; cases s; simp
theorem extract_head (s : ByteArray) (k : Nat) : (s.extract 0 k).data.toList = s.data.toList.take k := by rw [Lib.extract_data]; simp
theorem indexByte_lt (l : List UInt8) (c : UInt8) : -1 ≤ Lib.indexByte l c ∧ Lib.indexByte l c < l.length := by
  induction l with
  | nil => simp [Lib.indexByte]
  | cons b l ih =>
    unfold Lib.indexByte
    split
    · simp
    · split
      · simp; omega
      · rename_i h; simp at h; simp; omega

end Go.Proofs.YtkamkaehlofgpaaGreat
/- number.Parse, at any text. -/
namespace Go.Proofs.YtkamkaehlofgpaaGreat
open Go.RowKit NumB
set_option linter.unusedVariables false
set_option linter.unusedSimpArgs false

/-- The parts of a text: the sign, the text before and behind the r, whether there is one. -/
def pNeg (l : List UInt8) : Bool := Lib.hasPrefix l [45]
def pCut (l : List UInt8) : List UInt8 × List UInt8 × Bool := cutB (Lib.trimPrefix l [45]) 114
def pDen (l : List UInt8) : Nat := if (pCut l).2.2 then dval (pCut l).2.1 else 1
/-- The error of a text. -/
def parseErr (l : List UInt8) : Int :=
  if 2500 < l.length then 3 else if digitsB (pCut l).1 = false ∨ ((pCut l).2.2 = true ∧ digitsB (pCut l).2.1 = false) then 6 else if pDen l = 0 then 10 else 0

theorem trimPrefix_len (l p : List UInt8) : (Lib.trimPrefix l p).length ≤ l.length := by
  unfold Lib.trimPrefix
  split
  · rw [List.length_drop]; omega
  · exact Nat.le_refl _
theorem cutB_len (l : List UInt8) (c : UInt8) : (cutB l c).1.length ≤ l.length ∧ (cutB l c).2.1.length ≤ l.length := by
  unfold cutB
  split
  · exact ⟨List.length_take_le' _ _, by rw [List.length_drop]; omega⟩
  · exact ⟨Nat.le_refl _, by simp⟩
theorem size_mk (l : List UInt8) : (⟨l.toArray⟩ : ByteArray).size = l.length := by rw [Lib.size_eq]

def ParsePost (w : World) (l : List UInt8) : Ending → World → Prop :=
  OpPost w (parseErr l) (pNeg l && decide (0 < dval (pCut l).1)) (dval (pCut l).1 / Nat.gcd (dval (pCut l).1) (pDen l)) (pDen l / Nat.gcd (dval (pCut l).1) (pDen l))

end Go.Proofs.YtkamkaehlofgpaaGreat
/- number.Format, at any number. -/
namespace Go.Proofs.YtkamkaehlofgpaaGreat
open Go.RowKit NumB
set_option linter.unusedVariables false
set_option linter.unusedSimpArgs false

/-- The text of a number. -/
def fmtL (neg : Bool) (x y : Nat) : List UInt8 := (if neg then [45] else []) ++ dec x ++ (if y = 1 then [] else 114 :: dec y)

def FmtPost (w : World) (err : Int) (l : List UInt8) (e : Ending) (w' : World) : Prop :=
  e = .returned (.tuple #[.string ⟨(if err = 0 then l else []).toArray⟩, .int .i64 err]) ∧ Below w.heap.size w w'

theorem digs10_len {x n : Nat} (h : (digs W32 x).length ≤ n) : (digs 10 x).length ≤ 10 * n := by
  refine digs_len_le (by decide) (Nat.lt_of_lt_of_le (digs_lt W32_gt) ?_)
  rw [Nat.pow_mul]
  exact Nat.le_trans (Nat.pow_le_pow_right (by decide) h) (Nat.pow_le_pow_left (by decide) n)
theorem dec_len {x : Nat} (h : (digs W32 x).length ≤ 128) : (dec x).length ≤ 1300 := by
  have h1 := digs10_len h
  unfold dec
  split
  · simp
  · unfold decL; rw [List.length_reverse, List.length_map]; omega

end Go.Proofs.YtkamkaehlofgpaaGreat
/- fetterlocklaw1.counted: a small sum, from text to text. -/
namespace Go.Proofs.YtkamkaehlofgpaaGreat
open Go.RowKit NumB
set_option linter.unusedVariables false
set_option linter.unusedSimpArgs false

/-- A canonical number in lowest terms has no fault. -/
theorem checkL_good {neg : Bool} {x y : Nat} (hx : (digs W32 x).length ≤ 128) (hy : (digs W32 y).length ≤ 128) (hy0 : 0 < y) (hg : Nat.gcd x y = 1) (hs : x = 0 → neg = false) : checkL neg (digs W32 x) (digs W32 y) = 0 := by
  have last : ∀ z, lastB (digs W32 z) = false := fun z => by
    unfold lastB
    refine decide_eq_false fun h => ?_
    have ht := top_digs W32_gt z
    apply ht
    rw [List.getLast?_eq_getElem?]
    have h2 := h.2
    rw [List.getD_eq_getElem?_getD, List.getElem?_eq_getElem (by omega)] at h2
    rw [List.getElem?_eq_getElem (by omega)]
    simpa using h2
  unfold checkL
  rw [if_neg (by omega), if_neg, val_digs W32_gt, val_digs W32_gt]
  · unfold checkN
    by_cases h0 : x = 0
    · rw [if_pos h0, if_pos ⟨hs h0, by rw [h0, Nat.gcd_zero_left] at hg; exact hg⟩]
    · rw [if_neg h0, if_pos (.inr (.inr hg))]
  · rintro (h | h | h)
    · rw [last] at h; cases h
    · rw [last] at h; cases h
    · exact absurd ((digs_nil W32_gt).1 (List.eq_nil_of_length_eq_zero h)) (by omega)

theorem small128 {x : Nat} (h : x ≤ 1000) : (digs W32 x).length ≤ 128 := Nat.le_trans (small32 (by omega)) (by omega)

/-- A number without an error. -/
def RawPostT (w : World) (neg : Bool) (x y : Nat) (e : Ending) (w' : World) : Prop := ∃ v, e = .returned (.tuple #[v, .int .i64 0]) ∧ NumV w' v neg x y ∧ Below w.heap.size w w'
theorem rawPostT_of {w w' : World} {sg neg : Bool} {x y a b : Nat} {e : Ending} (hab : a ≤ 1000 ∧ b ≤ 1000) (hq : sg = neg ∧ x = a ∧ y = b) (h : OpPost w 0 sg x y e w') : RawPostT w neg a b e w' := by
  obtain ⟨rfl, rfl, rfl⟩ := hq
  rcases h with ⟨h, _⟩ | ⟨_, ⟨_, v, he, hn, hb⟩ | ⟨hf, _⟩⟩
  · exact absurd rfl h
  · exact ⟨v, he, hn, hb⟩
  · exact absurd (decide_eq_true (⟨small128 hab.1, small128 hab.2⟩ : _ ∧ _)) (by unfold fitB at hf; rw [hf]; simp)

theorem two_of {w : World} {na nb : Bool} {A1 A2 A3 A4 : Value} {xa ya xb yb : Nat} (h1 : NumV w (.agg #[.bool na, A1, A2]) na xa ya) (h2 : NumV w (.agg #[.bool nb, A3, A4]) nb xb yb) : Two w na nb A1 A2 A3 A4 (digs W32 xa) (digs W32 ya) (digs W32 xb) (digs W32 yb) :=
  ⟨h1.parts.2.1, h1.parts.2.2, h2.parts.2.1, h2.parts.2.2⟩
theorem fmt_eleven : fmtL false 11 2 = [49, 49, 114, 50] := by
  unfold fmtL
  rw [dec_eleven, dec_two]
  rfl

def tA : ByteArray := ⟨#[45, 48, 54, 114, 52]⟩
def tB : ByteArray := ⟨#[55]⟩

end Go.Proofs.YtkamkaehlofgpaaGreat
/- The field laws, of the plain functions. -/
namespace Go.Proofs.YtkamkaehlofgpaaGreat
open Go.RowKit NumB
set_option linter.unusedVariables false
set_option linter.unusedSimpArgs false

def LN.q (a : LN) : Rat := RatB.q a.neg a.x a.y
def mulS (a b : LN) : LN × Int := fracS (err2 a.err b.err) (a.neg != b.neg) (a.x * b.x) (a.y * b.y)
def subS (a b : LN) : LN × Int := fracS (err2 a.err b.err) (sumN a.neg (a.x * b.y) (b.neg != true) (b.x * a.y)).1 (sumN a.neg (a.x * b.y) (b.neg != true) (b.x * a.y)).2 (a.y * b.y)
def divS (a b : LN) : LN × Int := if err2 a.err b.err = 0 then (if b.num.length = 0 then (zeroL, 10) else fracS 0 (a.neg != b.neg) (a.x * b.y) (a.y * b.x)) else (zeroL, err2 a.err b.err)

theorem sumN_sg (na nb : Bool) (x y : Nat) : RatB.sg (sumN na x nb y).1 (sumN na x nb y).2 = RatB.sg na x + RatB.sg nb y := by
  unfold sumN
  by_cases h : na = nb
  · subst h; rw [if_pos rfl]; unfold RatB.sg; cases na <;> simp <;> omega
  · rw [if_neg h]
    by_cases h2 : y ≤ x
    · rw [if_pos h2]; unfold RatB.sg; cases na <;> cases nb <;> simp at h ⊢ <;> omega
    · rw [if_neg h2]; unfold RatB.sg; cases na <;> cases nb <;> simp at h ⊢ <;> omega

theorem opS_err {er : Int} {s : Bool} {x y : Nat} (h : (opS er s x y).2 = 0) : er = 0 := by
  unfold opS at h
  by_cases he : er = 0
  · exact he
  · rw [if_neg he] at h; exact h
theorem fracS_ok {s : Bool} {n d : Nat} (hd : 0 < d) (h : (fracS 0 s n d).2 = 0) : (fracS 0 s n d).1.ok ∧ (fracS 0 s n d).1.err = 0 ∧ (fracS 0 s n d).1.q = mkRat (RatB.sg s n) d := by
  have hc := RatB.canon_norm (neg := s) (n := n) hd
  have hq := RatB.q_norm (neg := s) (n := n) hd
  unfold fracS opS at *
  rw [if_pos rfl] at h ⊢
  generalize (s && decide (0 < n)) = s' at *
  generalize n / Nat.gcd n d = x' at *
  generalize d / Nat.gcd n d = y' at *
  cases hf : fitB x' y' with
  | false => rw [hf] at h; simp at h
  | true =>
    have hf2 := of_decide_eq_true (show decide _ = true from hf)
    simp only [if_true]
    refine ⟨⟨ok_digs W32_gt _, ok_digs W32_gt _⟩, checkL_good hf2.1 hf2.2 hc.1 hc.2.1 hc.2.2, ?_⟩
    unfold LN.q LN.x LN.y
    rw [val_digs W32_gt, val_digs W32_gt]
    exact hq
theorem fracS_eq {s : Bool} {n d : Nat} {c : LN} (hd : 0 < d) (hc : c.ok) (he : c.err = 0) (h : mkRat (RatB.sg s n) d = c.q) : fracS 0 s n d = (c, 0) := by
  obtain ⟨g1, g2, g3, g4, g5⟩ := LN.good hc he
  have hcn := RatB.canon_norm (neg := s) (n := n) hd
  have hq := RatB.q_norm (neg := s) (n := n) hd
  rw [h] at hq
  obtain ⟨e1, e2, e3⟩ := RatB.q_inj hcn g5 hq
  unfold fracS opS
  rw [if_pos rfl, e1, e2, e3, if_pos, g1, g2]
  exact decide_eq_true ⟨by rw [g1]; exact g3, by rw [g2]; exact g4⟩

theorem addS_ok {a b : LN} (ha : a.ok) (hb : b.ok) (h : (addS a b).2 = 0) : a.err = 0 ∧ b.err = 0 ∧ (addS a b).1.ok ∧ (addS a b).1.err = 0 ∧ (addS a b).1.q = a.q + b.q := by
  have he := opS_err h
  obtain ⟨e1, e2⟩ := err2_zero.1 he
  have ga := (LN.good ha e1).2.2.2.2
  have gb := (LN.good hb e2).2.2.2.2
  unfold addS at *
  rw [he] at h ⊢
  obtain ⟨f1, f2, f3⟩ := fracS_ok (Nat.mul_pos ga.1 gb.1) h
  refine ⟨e1, e2, f1, f2, f3.trans ?_⟩
  rw [sumN_sg, RatB.q_add ga.1 gb.1]; rfl
theorem mulS_ok {a b : LN} (ha : a.ok) (hb : b.ok) (h : (mulS a b).2 = 0) : a.err = 0 ∧ b.err = 0 ∧ (mulS a b).1.ok ∧ (mulS a b).1.err = 0 ∧ (mulS a b).1.q = a.q * b.q := by
  have he := opS_err h
  obtain ⟨e1, e2⟩ := err2_zero.1 he
  have ga := (LN.good ha e1).2.2.2.2
  have gb := (LN.good hb e2).2.2.2.2
  unfold mulS at *
  rw [he] at h ⊢
  obtain ⟨f1, f2, f3⟩ := fracS_ok (Nat.mul_pos ga.1 gb.1) h
  refine ⟨e1, e2, f1, f2, f3.trans ?_⟩
  rw [RatB.q_mul]; rfl
theorem addS_eq {a b c : LN} (ha : a.ok) (hb : b.ok) (hc : c.ok) (ea : a.err = 0) (eb : b.err = 0) (ec : c.err = 0) (h : a.q + b.q = c.q) : addS a b = (c, 0) := by
  have ga := (LN.good ha ea).2.2.2.2
  have gb := (LN.good hb eb).2.2.2.2
  unfold addS
  rw [err2_zero.2 ⟨ea, eb⟩]
  refine fracS_eq (Nat.mul_pos ga.1 gb.1) hc ec ?_
  rw [sumN_sg, RatB.q_add ga.1 gb.1, ← h]; rfl
theorem subS_eq {a b c : LN} (ha : a.ok) (hb : b.ok) (hc : c.ok) (ea : a.err = 0) (eb : b.err = 0) (ec : c.err = 0) (h : a.q - b.q = c.q) : subS a b = (c, 0) := by
  have ga := (LN.good ha ea).2.2.2.2
  have gb := (LN.good hb eb).2.2.2.2
  unfold subS
  rw [err2_zero.2 ⟨ea, eb⟩]
  refine fracS_eq (Nat.mul_pos ga.1 gb.1) hc ec ?_
  rw [sumN_sg, RatB.q_add ga.1 gb.1, ← h, show (b.neg != true) = !b.neg by cases b.neg <;> rfl, RatB.q_neg, Rat.sub_eq_add_neg]; rfl
theorem divS_eq {a b c : LN} (ha : a.ok) (hb : b.ok) (hc : c.ok) (ea : a.err = 0) (eb : b.err = 0) (ec : c.err = 0) (hn : b.num.length ≠ 0) (h : c.q * b.q = a.q) : divS a b = (c, 0) := by
  obtain ⟨_, _, _, _, ga⟩ := LN.good ha ea
  obtain ⟨g1, _, _, _, gb⟩ := LN.good hb eb
  have hx : 0 < b.x := by
    rcases Nat.eq_zero_or_pos b.x with h0 | h0
    · rw [h0, digs_zero] at g1; exact absurd (by rw [← g1]; rfl) hn
    · exact h0
  unfold divS
  rw [if_pos (err2_zero.2 ⟨ea, eb⟩), if_neg hn]
  refine fracS_eq (Nat.mul_pos ga.1 hx) hc ec ?_
  have e1 : mkRat (RatB.sg (a.neg != b.neg) (a.x * b.y)) (a.y * b.x) = RatB.q a.neg a.x a.y * RatB.q b.neg b.y b.x := RatB.q_mul
  have e2 := RatB.q_inv (n := b.neg) hx gb.1
  rw [e1]
  have e3 : RatB.q a.neg a.x a.y = c.q * RatB.q b.neg b.x b.y := h.symm
  rw [e3, Rat.mul_assoc, Rat.mul_comm (RatB.q b.neg b.x b.y), e2, Rat.mul_one]

/-- What the law asks. -/
theorem field_law {a b c : LN} (ha : a.ok) (hb : b.ok) (hc : c.ok) (h1 : (addS a b).2 = 0) (h2 : (mulS (addS a b).1 c).2 = 0) (h3 : (mulS a c).2 = 0) (h4 : (mulS b c).2 = 0) :
    addS (mulS a c).1 (mulS b c).1 = ((mulS (addS a b).1 c).1, 0) ∧ subS (addS a b).1 b = (a, 0) ∧ c.err = 0 ∧ (c.num.length ≠ 0 → divS (mulS a c).1 c = (a, 0)) := by
  obtain ⟨a1, a2, a3, a4, a5⟩ := addS_ok ha hb h1
  obtain ⟨b1, b2, b3, b4, b5⟩ := mulS_ok a3 hc h2
  obtain ⟨c1, c2, c3, c4, c5⟩ := mulS_ok ha hc h3
  obtain ⟨d1, d2, d3, d4, d5⟩ := mulS_ok hb hc h4
  refine ⟨addS_eq c3 d3 b3 c4 d4 b4 ?_, subS_eq a3 hb ha a4 a2 a1 ?_, b2, fun hn => divS_eq c3 hc ha c4 b2 a1 hn c5.symm⟩
  · rw [c5, d5, b5, a5, Rat.add_mul]
  · rw [a5]; grind
end Go.Proofs.YtkamkaehlofgpaaGreat
