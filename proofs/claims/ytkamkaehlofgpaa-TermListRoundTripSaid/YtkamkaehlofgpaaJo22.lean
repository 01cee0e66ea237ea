/-  -/
import Derived.Test.YtkamkaehlofgpaaJo1
import Derived.Test.YtkamkaehlofgpaaJo10
import Derived.Test.YtkamkaehlofgpaaJo15
import Derived.Test.YtkamkaehlofgpaaJo17
import Derived.Test.YtkamkaehlofgpaaJo21
set_option linter.unusedVariables false
set_option linter.unusedSimpArgs false
/- fetterlockref2.Size, fetterlockref2.Fault. -/
namespace Go.Proofs.Ytkamkaehlofgpaa
open Go.RowKit NumB
set_option linter.unusedVariables false
set_option linter.unusedSimpArgs false

set_option maxRecDepth 100000 in
theorem rsize_any {w : World} {t : Tm} {cs : List Value} (h : TC w t cs) (W : World) (hW : Below w.heap.size w W) :
    Calls Try.prog 9 #[.agg cs.toArray] W fun e W' => e = .returned (.int .i64 ((min t.count 1000000 : Nat) : Int)) ∧ Below W.heap.size W W' := by
  have HS : Hid (∀ W', Below w.heap.size w W' → Calls Try.prog 19 #[.agg cs.toArray, .int .i64 0] W' fun e w' => e = .returned (.int .i64 ((min t.count 1000000 : Nat) : Int)) ∧ Below W'.heap.size W' w') := fun W' hb => by
    have := sized_any h W' 0 hb (by omega)
    rw [Nat.zero_add] at this
    exact this
  have HW := Lib.hid hW
  obtain ⟨k, v, s, ng, A1, n1, c1, B1, m1, d1, Ar, l, cap, hcs⟩ := h.form
  subst hcs
  obtain ⟨z, HZ⟩ : ∃ z, Hid (min t.count 1000000 = z) := ⟨_, rfl⟩
  rw [HZ.out] at HS ⊢
  clear h hW HZ
  have HBA := Lib.hid (below_one W (.cells #[.int .i64 k, .int .i64 v, .string s, .bool ng, .slice A1 n1 c1, .slice B1 m1 d1, .slice Ar l cap] 27))
  go_enter Try.func9, Try.ntmps9
  go_wp2_with fail
  first
    | (refine (HS.out _ (by exact HW.out.trans (HBA.out.mono HW.out.size))).mono ?_
       rintro e w1 ⟨rfl, hb1⟩
       go_wp2_with fail
       go_ret
       exact ⟨rfl, HBA.out.trans (hb1.mono HBA.out.size)⟩)
    | (refine (HS.out _ HW.out).mono ?_
       rintro e w1 ⟨rfl, hb1⟩
       go_wp2_with fail
       go_ret
       exact ⟨rfl, hb1⟩)

set_option maxRecDepth 100000 in
set_option maxHeartbeats 3200000 in
theorem tmFault_any {w : World} {t : Tm} {cs : List Value} (h : TC w t cs) (W : World) (hW : Below w.heap.size w W) :
    Calls Try.prog 4 #[.agg cs.toArray] W fun e W' => e = .returned (.int .i64 t.check) ∧ Below W.heap.size W W' := by
  have HS : Hid (∀ W', Below w.heap.size w W' → Calls Try.prog 9 #[.agg cs.toArray] W' fun e w' => e = .returned (.int .i64 ((min t.count 1000000 : Nat) : Int)) ∧ Below W'.heap.size W' w') := fun W' hb => rsize_any h W' hb
  have HN : Hid (∀ W', Below w.heap.size w W' → Calls Try.prog 10 #[.agg cs.toArray] W' fun e w' => e = .returned (.int .i64 t.err0) ∧ Below W'.heap.size W' w') := fun W' hb => nodeFault_any h W' hb
  have HC : Hid (t.check = if 10000 < t.count then 3 else t.err0) := rfl
  have HW := Lib.hid hW
  obtain ⟨k, v, s, ng, A1, n1, c1, B1, m1, d1, Ar, l, cap, hcs⟩ := h.form
  subst hcs
  generalize t.check = tc at *
  generalize t.err0 = te at *
  obtain ⟨z, HZ, hzn⟩ : ∃ z : Nat, Hid (min t.count 1000000 = z) ∧ (10000 < z ↔ 10000 < t.count) := ⟨_, rfl, by omega⟩
  rw [HZ.out] at HS
  generalize t.count = n at *
  clear h hW HZ
  have HBA := Lib.hid (below_one W (.cells #[.int .i64 k, .int .i64 v, .string s, .bool ng, .slice A1 n1 c1, .slice B1 m1 d1, .slice Ar l cap] 27))
  have HKA := Lib.hid (Blk.new W 27 #[.int .i64 k, .int .i64 v, .string s, .bool ng, .slice A1 n1 c1, .slice B1 m1 d1, .slice Ar l cap])
  go_enter Try.func4, Try.ntmps4
  go_wp2_with fail
  refine (HS.out _ (by exact HW.out.trans (HBA.out.mono HW.out.size))).mono ?_
  rintro e w1 ⟨rfl, hb1⟩
  have HB1 := Lib.hid (HBA.out.trans (hb1.mono HBA.out.size))
  have hk := HKA.out.to hb1
  have c0 := hk.cell 0
  have c1' := hk.cell 1
  have c2 := hk.cell 2
  have c3 := hk.cell 3
  have c4 := hk.cell 4
  have c5 := hk.cell 5
  have c6 := hk.cell 6
  simp only [List.getElem?_toArray, List.getElem?_cons_zero, List.getElem?_cons_succ] at c0 c1' c2 c3 c4 c5 c6
  clear hb1 hk
  by_cases hn : 10000 < z
  · have HR : Hid (tc = 3) := by unfold Hid; rw [HC.out, if_pos (hzn.1 hn)]
    clear hzn
    go_wp2_with fail
    go_ret
    rw [HR.out]
    exact ⟨rfl, HB1.out⟩
  · have HR : Hid (tc = te) := by unfold Hid; rw [HC.out, if_neg (fun h => hn (hzn.2 h))]
    clear hzn
    go_wp2_with fail
    refine (HN.out _ (by exact HW.out.trans (HB1.out.mono HW.out.size))).mono ?_
    rintro e w2 ⟨rfl, hb2⟩
    go_wp2_with fail
    go_ret
    rw [HR.out]
    exact ⟨rfl, HB1.out.trans (hb2.mono HB1.out.size)⟩
end Go.Proofs.Ytkamkaehlofgpaa
/- A slice of terms as a list; a valid term is small. -/
namespace Go.Proofs.Ytkamkaehlofgpaa
open Go.RowKit NumB
set_option linter.unusedVariables false
set_option linter.unusedSimpArgs false

theorem err0_node {k v : Int} {s : ByteArray} {n : LN} {args : List Tm} (h : (Tm.mk k v s n args).err0 = 0) : nodeE k v s n.neg n.num.length n.den.length n.err args.length = 0 ∧ errL args = 0 := by
  rw [Tm.err0] at h
  by_cases h1 : nodeE k v s n.neg n.num.length n.den.length n.err args.length = 0
  · rw [if_pos h1] at h; exact ⟨h1, h⟩
  · rw [if_neg h1] at h; exact absurd h h1
theorem errL_get {l : List Tm} (h : errL l = 0) {j : Nat} (hj : j < l.length) : (l[j]).err0 = 0 := by
  induction l generalizing j with
  | nil => cases hj
  | cons x l ih =>
    rw [errL] at h
    by_cases h1 : x.err0 = 0
    · rw [if_pos h1] at h
      cases j with
      | zero => exact h1
      | succ j => exact ih h (by simpa using hj)
    · rw [if_neg h1] at h; exact absurd h h1
theorem zeroB_len {ng : Bool} {a b : Nat} (h : zeroB ng a b = true) : ng = false ∧ a = 0 ∧ b = 0 := by
  unfold zeroB at h
  simp at h
  exact h
/-- What a valid node has. -/
theorem node_parts {k v : Int} {s : ByteArray} {ng : Bool} {a b : Nat} {er : Int} {na : Nat} (h : nodeE k v s ng a b er na = 0) : (k = 2 ∧ v = 0 ∧ s.size = 0 ∧ er = 0 ∧ na = 0) ∨ (k ≠ 2 ∧ ng = false ∧ a = 0 ∧ b = 0 ∧ ((k = 1 ∧ 0 ≤ v ∧ v ≤ 1073741824 ∧ s.size = 0 ∧ na = 0) ∨ (k = 3 ∧ v = 0 ∧ s.size ≤ 255 ∧ na = 0) ∨ (k = 4 ∧ v = 0 ∧ s.size ≤ 4000 ∧ na = 0) ∨ (k = 5 ∧ v = 0 ∧ s.size ≤ 255 ∧ 1 ≤ na ∧ na ≤ 32))) := by
  unfold nodeE at h
  by_cases h1 : k = 1
  · rw [if_pos h1] at h
    by_cases h2 : 0 ≤ v ∧ v ≤ 1073741824 ∧ s.toList = [] ∧ zeroB ng a b = true ∧ na = 0
    · have hz := zeroB_len h2.2.2.2.1
      exact .inr ⟨by omega, hz.1, hz.2.1, hz.2.2, .inl ⟨h1, h2.1, h2.2.1, size_of_toList h2.2.2.1, h2.2.2.2.2⟩⟩
    · rw [if_neg h2] at h; cases h
  · rw [if_neg h1] at h
    by_cases h2 : k = 2
    · rw [if_pos h2] at h
      by_cases h3 : v = 0 ∧ s.toList = [] ∧ na = 0 ∧ er = 0
      · exact .inl ⟨h2, h3.1, size_of_toList h3.2.1, h3.2.2.2, h3.2.2.1⟩
      · rw [if_neg h3] at h; cases h
    · rw [if_neg h2] at h
      by_cases h3 : k = 3
      · rw [if_pos h3] at h
        by_cases h6 : v = 0 ∧ zeroB ng a b = true ∧ na = 0
        · rw [if_pos h6] at h
          have hz := zeroB_len h6.2.1
          by_cases h7 : 255 < s.size
          · rw [if_pos h7] at h; cases h
          · exact .inr ⟨h2, hz.1, hz.2.1, hz.2.2, .inr (.inl ⟨h3, h6.1, by omega, h6.2.2⟩)⟩
        · rw [if_neg h6] at h; cases h
      · rw [if_neg h3] at h
        by_cases h4 : k = 4
        · rw [if_pos h4] at h
          by_cases h6 : v = 0 ∧ zeroB ng a b = true ∧ na = 0
          · rw [if_pos h6] at h
            have hz := zeroB_len h6.2.1
            by_cases h7 : 4000 < s.size
            · rw [if_pos h7] at h; cases h
            · exact .inr ⟨h2, hz.1, hz.2.1, hz.2.2, .inr (.inr (.inl ⟨h4, h6.1, by omega, h6.2.2⟩))⟩
          · rw [if_neg h6] at h; cases h
        · rw [if_neg h4] at h
          by_cases h5 : k = 5
          · rw [if_pos h5] at h
            by_cases h6 : v = 0 ∧ zeroB ng a b = true ∧ 1 ≤ na ∧ na ≤ 32
            · rw [if_pos h6] at h
              have hz := zeroB_len h6.2.1
              by_cases h7 : 255 < s.size
              · rw [if_pos h7] at h; cases h
              · exact .inr ⟨h2, hz.1, hz.2.1, hz.2.2, .inr (.inr (.inr ⟨h5, h6.1, by omega, h6.2.2.1, h6.2.2.2⟩))⟩
            · rw [if_neg h6] at h; cases h
          · rw [if_neg h5] at h; cases h
theorem smL_of {l : List Tm} (h : ∀ i (hi : i < l.length), (l[i]).sm) : smL l := by
  induction l with
  | nil => rw [smL]; trivial
  | cons x l ih => rw [smL]; exact ⟨h 0 (by simp), ih fun i hi => h (i + 1) (Nat.succ_lt_succ hi)⟩
/-- A valid term is small. -/
theorem TC.sm {w : World} {t : Tm} {cs : List Value} (h : TC w t cs) : t.err0 = 0 → t.sm := by
  induction h with
  | mk k v s n args A B Ar cap cs hk hv hs hA hB hn hcap hm hr ha ih =>
    intro he
    obtain ⟨h1, h2⟩ := err0_node he
    have h3 := smL_of fun i hi => ih i hi (errL_get h2 hi)
    rw [Tm.sm]
    rcases node_parts h1 with ⟨_, _, _, h4, h5⟩ | ⟨_, _, h4, h5, h6⟩
    · have := LN.good hn h4
      exact ⟨by omega, by omega, by omega, h3⟩
    · exact ⟨by omega, by omega, by omega, h3⟩
theorem check_err0 {t : Tm} (h : t.check = 0) : t.count ≤ 10000 ∧ t.err0 = 0 := by
  unfold Tm.check at h
  by_cases hn : 10000 < t.count
  · rw [if_pos hn] at h; omega
  · rw [if_neg hn] at h; exact ⟨by omega, h⟩

/-- A slice that reads as a list of terms. -/
def TL (w : World) (v : Value) (ts : List Tm) : Prop := ∃ (Ar : Option Addr) (cap : Nat) (cs : Nat → List Value), v = .slice Ar ts.length cap ∧ ts.length ≤ cap ∧ cap ≤ maxLen ∧
  (0 < ts.length → ∃ b o, Ar = some ⟨b, o, none⟩ ∧ b < w.heap.size ∧ ∀ i, i < ts.length → ∀ j, j < 7 → w.cell? ⟨b, o + i * 7 + j, none⟩ = (cs i)[j]?) ∧ ∀ i (h : i < ts.length), TC w ts[i] (cs i)
theorem TL.to {w w' : World} {v : Value} {ts : List Tm} (h : TL w v ts) (hb : Below w.heap.size w w') : TL w' v ts := by
  obtain ⟨Ar, cap, cs, e, h1, h2, h3, h4⟩ := h
  refine ⟨Ar, cap, cs, e, h1, h2, fun h0 => ?_, fun i hi => (h4 i hi).to hb⟩
  obtain ⟨b, o, e, hlt, hc⟩ := h3 h0
  exact ⟨b, o, e, Nat.lt_of_lt_of_le hlt hb.size, fun i hi j hj => (hb.cell (p := ⟨b, o + i * 7 + j, none⟩) hlt).trans (hc i hi j hj)⟩
end Go.Proofs.Ytkamkaehlofgpaa
/- Decimal texts: plain facts. No program. -/
namespace Go.Proofs.Ytkamkaehlofgpaa.NumB

/-- The value of decimal digits, most significant first. -/
def dval (l : List UInt8) : Nat := l.foldl (fun a c => a * 10 + (c.toNat - 48)) 0
def isDig (c : UInt8) : Bool := decide (48 ≤ c.toNat ∧ c.toNat ≤ 57)
def allDig (l : List UInt8) : Bool := l.all isDig
/-- Digits alone, at least one. -/
def digitsB (l : List UInt8) : Bool := !l.isEmpty && allDig l

theorem foldl_dval (l : List UInt8) (a : Nat) : l.foldl (fun a c => a * 10 + (c.toNat - 48)) a = a * 10 ^ l.length + dval l := by
  induction l generalizing a with
  | nil => simp [dval]
  | cons c l ih =>
    unfold dval
    rw [List.foldl_cons, List.foldl_cons, ih, ih (0 * 10 + (c.toNat - 48)), List.length_cons, Nat.pow_succ, Nat.zero_mul, Nat.zero_add, Nat.add_mul, Nat.mul_assoc, Nat.mul_comm 10]
    omega
theorem dval_append (l m : List UInt8) : dval (l ++ m) = dval l * 10 ^ m.length + dval m := by
  have : dval (l ++ m) = m.foldl (fun a c => a * 10 + (c.toNat - 48)) (dval l) := by unfold dval; rw [List.foldl_append]
  rw [this, foldl_dval]
theorem dval_nil : dval [] = 0 := rfl
theorem dval_lt {l : List UInt8} (h : allDig l = true) : dval l < 10 ^ l.length := by
  induction l with
  | nil => simp [dval]
  | cons c l ih =>
    simp only [allDig, List.all_cons, Bool.and_eq_true] at h
    have h1 := ih h.2
    have h2 : c.toNat ≤ 57 := (of_decide_eq_true h.1).2
    have e : dval (c :: l) = dval [c] * 10 ^ l.length + dval l := dval_append [c] l
    have e1 : dval [c] = c.toNat - 48 := by simp [dval]
    rw [e, e1, List.length_cons, Nat.pow_succ]
    have h3 : (c.toNat - 48) * 10 ^ l.length ≤ 9 * 10 ^ l.length := Nat.mul_le_mul_right _ (by omega)
    omega
theorem allDig_take {l : List UInt8} (h : allDig l = true) (n : Nat) : allDig (l.take n) = true := List.all_eq_true.2 fun x hx => List.all_eq_true.1 h x (List.mem_of_mem_take hx)
theorem allDig_drop {l : List UInt8} (h : allDig l = true) (n : Nat) : allDig (l.drop n) = true := List.all_eq_true.2 fun x hx => List.all_eq_true.1 h x (List.mem_of_mem_drop hx)
theorem dval_take_succ {l : List UInt8} {i : Nat} (h : i < l.length) : dval (l.take (i + 1)) = dval (l.take i) * 10 + (l[i].toNat - 48) := by
  rw [List.take_succ_eq_append_getElem h, dval_append]
  simp [dval]
theorem dval_split (l : List UInt8) (n : Nat) (a : Nat) (h : n ≤ l.length) : (a * 10 ^ n + dval (l.take n)) * 10 ^ (l.length - n) + dval (l.drop n) = a * 10 ^ l.length + dval l := by
  have e : dval l = dval (l.take n) * 10 ^ (l.length - n) + dval (l.drop n) := by
    conv => lhs; rw [← List.take_append_drop n l]
    rw [dval_append, List.length_drop]
  have e2 : 10 ^ l.length = 10 ^ n * 10 ^ (l.length - n) := by rw [← Nat.pow_add]; congr 1; omega
  rw [e, e2, Nat.add_mul, Nat.mul_assoc, Nat.add_assoc]

/-- The decimal digits of a number, most significant first, as bytes; none for 0. -/
def decL (x : Nat) : List UInt8 := ((digs 10 x).map fun d => (48 + d).toUInt8).reverse
/-- Its text. -/
def dec (x : Nat) : List UInt8 := if x = 0 then [48] else decL x

/-- Nine digits of a number below 10^9, most significant first. -/
def pad9 (g : Nat) : List Nat := (List.range 9).map fun k => g / 10 ^ (8 - k) % 10
theorem pad9_len (g : Nat) : (pad9 g).length = 9 := by simp [pad9]
theorem pad9_get {g k : Nat} (h : k < 9) : (pad9 g).getD k 0 = g / 10 ^ (8 - k) % 10 := by
  rw [getD_lt (by rw [pad9_len]; exact h)]; simp [pad9]
theorem pad9_ok (g : Nat) : Ok 10 (pad9 g) := by
  intro d hd
  obtain ⟨k, _, rfl⟩ := List.mem_map.1 hd
  exact Nat.mod_lt _ (by decide)
theorem pad9_val {g : Nat} (h : g < 1000000000) : val 10 (pad9 g).reverse = g := by
  simp [pad9, List.range, List.range.loop]
  omega

theorem flat_ok {l : List Nat} : Ok 10 (l.flatMap pad9) := by
  intro d hd
  obtain ⟨g, _, h⟩ := List.mem_flatMap.1 hd
  exact pad9_ok g d h
theorem flat_val {l : List Nat} (h : Ok 1000000000 l) : val 10 (l.reverse.flatMap pad9).reverse = val 1000000000 l := by
  induction l with
  | nil => rfl
  | cons g l ih =>
    rw [List.reverse_cons, List.flatMap_append, List.reverse_append, val_append, ih h.tail]
    simp only [List.flatMap_cons, List.flatMap_nil, List.append_nil]
    rw [pad9_val h.head, List.length_reverse, pad9_len, val_cons]

/-- Without leading zeros. -/
theorem strip_eq {l : List Nat} {x : Nat} (ho : Ok 10 l) (hv : val 10 l.reverse = x) : l.dropWhile (· == 0) = (digs 10 x).reverse := by
  have key : ∀ l : List Nat, Ok 10 l → (l.dropWhile (· == 0)) = (digs 10 (val 10 l.reverse)).reverse := by
    intro l
    induction l with
    | nil => intro _; simp [digs_zero]
    | cons d l ih =>
      intro ho
      rw [List.dropWhile_cons]
      by_cases hd : d = 0
      · subst hd
        simp only [beq_self_eq_true, if_true]
        rw [ih ho.tail]
        congr 2
        rw [List.reverse_cons, val_append]
        simp
      · rw [if_neg (by simpa using hd)]
        have : digs 10 (val 10 (d :: l).reverse) = (d :: l).reverse := by
          refine digs_val (by decide) (fun x hx => ho x (List.mem_reverse.1 hx)) ?_
          unfold Top
          rw [List.getLast?_reverse]
          simp [hd]
        rw [this, List.reverse_reverse]
  rw [← hv]
  exact key l ho
theorem decL_eq (x : Nat) : decL x = ((digs 10 x).reverse).map fun d => (48 + d).toUInt8 := by unfold decL; rw [List.map_reverse]
theorem groups_dec {x : Nat} : ((((digs 1000000000 x).reverse).flatMap pad9).dropWhile (· == 0)).map (fun d => (48 + d).toUInt8) = decL x := by
  rw [decL_eq, strip_eq flat_ok (flat_val (ok_digs (by decide) x)), val_digs (by decide)]
theorem decL_ne {x : Nat} (h : x ≠ 0) : decL x ≠ [] := by
  unfold decL
  intro e
  have := congrArg List.length e
  simp at this
  exact h ((digs_nil (B := 10) (by decide)).1 this)
theorem dec_eleven : dec 11 = [49, 49] := by
  have : digs 10 11 = [1, 1] := digs_eq (by decide) (Ok.cons (by decide) (Ok.cons (by decide) Ok.nil)) (by simp [Top]) (by simp)
  simp [dec, decL, this]
theorem dec_two : dec 2 = [50] := by
  have : digs 10 2 = [2] := digs_eq (by decide) (Ok.cons (by decide) Ok.nil) (by simp [Top]) (by simp)
  simp [dec, decL, this]
end Go.Proofs.Ytkamkaehlofgpaa.NumB
/- nat.DivSmall once more: where its quotient lies; append of numbers, what else it leaves. -/
namespace Go.Proofs.Ytkamkaehlofgpaa
open Go.RowKit NumB
set_option linter.unusedVariables false
set_option linter.unusedSimpArgs false

set_option maxRecDepth 100000 in
set_option maxHeartbeats 400000 in
theorem divSmall_own (xs : List Nat) (A : Option Addr) (n c d : Nat) (w : World) (hr : Rd .u32 w w.heap.size A n xs) (ho : Ok W32 xs) (hc : n ≤ c) (hm : c ≤ maxLen) (hn : n ≤ 1000000) (hd : 0 < d) (hd2 : d < 4294967296) :
    Calls Try.prog 89 #[.slice A n c, .int .u32 (d : Int)] w fun e w' => ∃ m c' : Nat, e = .returned (.tuple #[.slice (some ⟨w.heap.size, 0, none⟩) m c', .int .u32 ((val W32 xs % d : Nat) : Int)]) ∧ Nat32 w' (.slice (some ⟨w.heap.size, 0, none⟩) m c') (val W32 xs / d) ∧ Below w.heap.size w w' := by
  unfold maxLen at hm
  have HR := Lib.hid hr
  clear hr
  have HO := Lib.hid ho
  clear ho
  obtain ⟨i0, hi0, hz0, hz1, hz2⟩ := info_parts info_u32
  have HI := Lib.hid hi0
  have HZ0 := Lib.hid hz0
  have HZ1 := Lib.hid hz1
  have HZ2 := Lib.hid hz2
  clear hi0 hz0 hz1 hz2
  go_enter Try.func89, Try.ntmps89
  go_wp2_with (at_make; refine wpList_make_full _ rfl _ _ 23 rfl w.heap.size 61 i0 (.int .u32 0) 1 Try.underlying23 HI.out HZ0.out HZ1.out .i64 .i64 _ _ n rfl rfl rfl rfl (by rw [HZ2.out]; omega) (by unfold maxLen; omega) (Nat.le_refl _) ?_; intro w1 hown1 hg1)
  have HOW := Lib.hid (Own.made hown1)
  have HB := Lib.hid ((Below.refl w.heap.size w).grown hg1 (Nat.le_refl _) (by simp))
  clear hown1 hg1
  go_loopg [7, 8] (n + 1) (fun g r i wr => ∃ (j : Nat) (rest : Nat) (out : List Nat), g = j + 1 ∧ j ≤ n ∧ i = .int .i64 ((j : Int) - 1) ∧ r = .int .u64 (rest : Int) ∧ rest < d ∧ Hid (Own .u32 61 wr w.heap.size w.heap.size n n out) ∧ Hid (Below w.heap.size w wr) ∧ Hid (val W32 (xs.drop j) = d * val W32 (out.drop j) + rest) ∧ Hid (Ok W32 out))
  case atStart => exact ⟨n, 0, _, rfl, Nat.le_refl _, rfl, rfl, hd, HOW.out, HB.out, by rw [← HR.out.1, List.drop_length, List.drop_eq_nil_of_le (by simp)]; rfl, ok_replicate (by decide)⟩
  case round =>
    obtain ⟨j, rest, out, rfl, hj, rfl, rfl, hrest, HOw, HBw, HV, HOo⟩ := hrel
    by_cases h0 : 0 < j
    · obtain ⟨b, o, x, rfl, hb, hxe, hcell⟩ := (HR.out.below HBw.out).at_ (i := j - 1) (by omega)
      have hx : x < 4294967296 := by rw [← hxe]; exact HO.out.getD (by decide) _
      have HX := Lib.hid hxe
      clear hxe
      obtain ⟨y, hy⟩ : ∃ y : Nat, wr.cell? ⟨w.heap.size, j - 1, none⟩ = some (.int .u32 (y : Int)) := ⟨_, HOw.out.cell (by omega)⟩
      have hf := HOw.out.frozen (j - 1)
      have hor := u64_or_shift rest x (by omega) hx
      obtain ⟨q, r, hq, hr', hqb, hrd, he⟩ := div_facts rest x d hrest hd2 hx
      have HE := Lib.hid he
      clear he
      go_wp2
      go_roundg j
      case measure => omega
      case rel =>
        refine ⟨j - 1, r, out.set (j - 1) q, by omega, by omega, ?_, congrArg (Value.int .u64) hr', hrd, (HOw.out.stored _ _), HBw.out.setCell (Nat.le_refl _) _, ?_, HOo.out.set hqb⟩
        · congr 1; omega
        · exact divSmall_step h0 (by rw [HOw.out.1]; exact hj) HX.out (by rw [HR.out.1]; exact hj) HV.out HE.out
    · obtain rfl : j = 0 := by omega
      go_wp2_with (go_at_call 95; refine (trim_any out _ n n _ _ HOw.out.rd HOo.out (Nat.le_refl _) (by unfold maxLen; omega)).mono ?_; rintro e w' ⟨m, rfl, hm', ht, rfl⟩)
      go_ret2
      have hv := HV.out
      rw [List.drop_zero, List.drop_zero] at hv
      have e1 : val W32 xs / d = val W32 out := by rw [hv, Nat.mul_add_div hd, Nat.div_eq_of_lt hrest, Nat.add_zero]
      have e2 : val W32 xs % d = rest := by rw [hv, Nat.mul_add_mod, Nat.mod_eq_of_lt hrest]
      rw [e1, e2]
      exact ⟨_, _, rfl, Sl.of_rd HOw.out.rd hm' (Nat.le_refl _) (by unfold maxLen; omega) ht, HBw.out⟩


theorem divSmall_own_nat (x d : Nat) (va : Value) (w : World) (ha : Nat32 w va x) (hn : (digs W32 x).length ≤ 1000000) (hd : 0 < d) (hd2 : d < 4294967296) :
    Calls Try.prog 89 #[va, .int .u32 (d : Int)] w fun e w' => ∃ m c' : Nat, e = .returned (.tuple #[.slice (some ⟨w.heap.size, 0, none⟩) m c', .int .u32 ((x % d : Nat) : Int)]) ∧ Nat32 w' (.slice (some ⟨w.heap.size, 0, none⟩) m c') (x / d) ∧ Below w.heap.size w w' := by
  obtain ⟨A, c, rfl, hc, hm, hr⟩ := ha
  have h := divSmall_own (digs W32 x) A _ c d w hr (ok_digs W32_gt x) hc hm hn hd hd2
  rw [val_digs W32_gt] at h
  exact h

theorem wpList_pushG {P : Program} {ops : Array Oper} {rest : List Oper} {o : Oper} {a : Act} {Q : Exit → Act → World → Prop} (w : World) (hgd : o.guard = none) (s x : Operand) (t : TypeId)
    (ho : o.op = .call { callee := .builtin .append, args := #[s, x], argTypes := #[t, t] })
    (k : IntKind) (T : TypeId) (bytes : Nat) (ht : P.underlying t = some (.slice T)) (hinfo : (P.info? T).map (fun i => (i.zero, i.size, i.bytes)) = some (some (.int k 0), 1, bytes)) (hb8 : bytes ≤ 8)
    (B : Nat) (v : Value) (xs ys : List Nat) (hs : a.eval s = v) (hx : a.eval x = .slice (some ⟨w.heap.size, 0, none⟩) ys.length ys.length) (hown : OwnV k T w B v xs) (hn : xs.length + ys.length ≤ 1000000) (hB : B ≤ w.heap.size) (C : Array Value) (hC : C = (cellsN k ys).toArray)
    (h : ∀ v' w', OwnV k T w' B v' (xs ++ ys) → Below B w w' → (w.alloc (.cells C T)).grownBy w' v.ownBlock → wpList P ops Q rest (a.put o.dst v') w') : wpList P ops Q (o :: rest) a (w.alloc (.cells C T)) := by
  subst hC
  obtain ⟨i0, hi0, hz0, hz1, hz2⟩ := info_parts hinfo
  refine wpList_append_own_at _ hgd s x t ho B T i0 (.int k 0) 1 bytes ht hi0 hz0 hz1 hz2 rfl (by decide) v xs.length (cellsN k xs) hs (hown.alloc _) ⟨w.heap.size, 0, none⟩ ys.length ys.length (cellsN k ys) hx (by rw [cellsN_len]; omega) news_block cellsN_one (by unfold maxLen; omega) ?_ (by simp; omega) ?_
  · have : (xs.length + ys.length) * bytes ≤ 1000000 * 8 := Nat.mul_le_mul hn hb8
    omega
  · intro v' w' h1 h2 _ _
    refine h v' w' ?_ (((Below.refl B w).alloc hB _).grown h2 (by simp; omega) (fun g hg => hown.blk g hg)) h2
    unfold OwnV
    rw [List.length_append, ← cellsN_append]
    exact h1

/-- append of another slice. -/
theorem wpList_joinG {P : Program} {ops : Array Oper} {rest : List Oper} {o : Oper} {a : Act} {Q : Exit → Act → World → Prop} (w : World) (hgd : o.guard = none) (s x : Operand) (t : TypeId)
    (ho : o.op = .call { callee := .builtin .append, args := #[s, x], argTypes := #[t, t] })
    (k : IntKind) (T : TypeId) (bytes : Nat) (ht : P.underlying t = some (.slice T)) (hinfo : (P.info? T).map (fun i => (i.zero, i.size, i.bytes)) = some (some (.int k 0), 1, bytes)) (hb8 : bytes ≤ 8)
    (B : Nat) (v : Value) (xs ys : List Nat) (ad : Addr) (c m : Nat) (hm : ys.length = m) (hs : a.eval s = v) (hx : a.eval x = .slice (some ad) m c) (hr : Rd k w w.heap.size (some ad) m ys) (hown : OwnV k T w B v xs) (hn : xs.length + ys.length ≤ 1000000) (hB : B ≤ w.heap.size)
    (h : ∀ v' w', OwnV k T w' B v' (xs ++ ys) → w.grownBy w' v.ownBlock → wpList P ops Q rest (a.put o.dst v') w') : wpList P ops Q (o :: rest) a w := by
  subst hm
  obtain ⟨i0, hi0, hz0, hz1, hz2⟩ := info_parts hinfo
  refine wpList_append_own_at _ hgd s x t ho B T i0 (.int k 0) 1 bytes ht hi0 hz0 hz1 hz2 rfl (by decide) v xs.length (cellsN k xs) hs hown ad ys.length c (cellsN k ys) hx (by rw [cellsN_len]; omega) (rd_news hr) cellsN_one (by unfold maxLen; omega) ?_ hB ?_
  · have : (xs.length + ys.length) * bytes ≤ 1000000 * 8 := Nat.mul_le_mul hn hb8
    omega
  · intro v' w' h1 h2 _ _
    refine h v' w' ?_ h2
    unfold OwnV
    rw [List.length_append, ← cellsN_append]
    exact h1

/-- A slice whose block has not turned. -/
theorem Sl.blk {k : IntKind} {w w' : World} {g o n c : Nat} {xs : List Nat} (h : Sl k w (.slice (some ⟨g, o, none⟩) n c) xs) (hb : w'.heap[g]? = w.heap[g]?) (hs : w.heap.size ≤ w'.heap.size) : Sl k w' (.slice (some ⟨g, o, none⟩) n c) xs := by
  obtain ⟨A, c', e, h1, h2, h3, h4⟩ := h
  simp only [Value.slice.injEq] at e
  obtain ⟨rfl, rfl, rfl⟩ := e
  refine ⟨_, _, rfl, h1, h2, h3, fun hn => ?_⟩
  obtain ⟨b, o', e2, hbl, hc⟩ := h4 hn
  injection e2 with e2
  injection e2 with e3 e4
  subst e3 e4
  exact ⟨g, o, rfl, Nat.lt_of_lt_of_le hbl hs, fun i hi => (World.cell?_of_block hb).trans (hc i hi)⟩
theorem ownV_lt {k : IntKind} {T : TypeId} {w : World} {B : Nat} {v : Value} {xs : List Nat} (h : OwnV k T w B v xs) : ∀ g, v.ownBlock = some g → g < w.heap.size := fun g hg => (World.ownsRow.lt h g hg).2
end Go.Proofs.Ytkamkaehlofgpaa
