/-  -/
import Derived.Test.YtdmhkhnnomdkcaaGreatDoorJo1
import Derived.Test.YtdmhkhnnomdkcaaGreatDoorJo2
set_option linter.unusedVariables false
set_option linter.unusedSimpArgs false
/- Decimal texts: plain facts. No program. -/
namespace Go.Proofs.YtdmhkhnnomdkcaaGreatDoor.NumB

/-- The value of decimal digits, most significant first. -/
def dval (l : List UInt8) : Nat := l.foldl (fun a c => a * 10 + (c.toNat - 48)) 0
def isDig (c : UInt8) : Bool := decide (48 ≤ c.toNat ∧ c.toNat ≤ 57)
def allDig (l : List UInt8) : Bool := l.all isDig
/-- Digits alone, at least one. -/
def digitsB (l : List UInt8) : Bool := !l.isEmpty && allDig l

theorem foldl_dval (l : List UInt8) (a : Nat) : l.foldl (fun a c => a * 10 + (c.toNat - 48)) a = a * 10 ^ l.length + dval l := by
  induction l generalizing a with
  | nil => simp [dval]
  | cons c l ih =>
    unfold dval
    rw [List.foldl_cons, List.foldl_cons, ih, ih (0 * 10 + (c.toNat - 48)), List.length_cons, Nat.pow_succ, Nat.zero_mul, Nat.zero_add, Nat.add_mul, Nat.mul_assoc, Nat.mul_comm 10]
    omega
theorem dval_append (l m : List UInt8) : dval (l ++ m) = dval l * 10 ^ m.length + dval m := by
  have : dval (l ++ m) = m.foldl (fun a c => a * 10 + (c.toNat - 48)) (dval l) := by unfold dval; rw [List.foldl_append]
  rw [this, foldl_dval]
theorem dval_nil : dval [] = 0 := rfl
theorem dval_lt {l : List UInt8} (h : allDig l = true) : dval l < 10 ^ l.length := by
  induction l with
  | nil => simp [dval]
  | cons c l ih =>
    simp only [allDig, List.all_cons, Bool.and_eq_true] at h
    have h1 := ih h.2
    have h2 : c.toNat ≤ 57 := (of_decide_eq_true h.1).2
    have e : dval (c :: l) = dval [c] * 10 ^ l.length + dval l := dval_append [c] l
    have e1 : dval [c] = c.toNat - 48 := by simp [dval]
    rw [e, e1, List.length_cons, Nat.pow_succ]
    have h3 : (c.toNat - 48) * 10 ^ l.length ≤ 9 * 10 ^ l.length := Nat.mul_le_mul_right _ (by omega)
    omega
theorem allDig_take {l : List UInt8} (h : allDig l = true) (n : Nat) : allDig (l.take n) = true := List.all_eq_true.2 fun x hx => List.all_eq_true.1 h x (List.mem_of_mem_take hx)
theorem allDig_drop {l : List UInt8} (h : allDig l = true) (n : Nat) : allDig (l.drop n) = true := List.all_eq_true.2 fun x hx => List.all_eq_true.1 h x (List.mem_of_mem_drop hx)
theorem dval_take_succ {l : List UInt8} {i : Nat} (h : i < l.length) : dval (l.take (i + 1)) = dval (l.take i) * 10 + (l[i].toNat - 48) := by
  rw [List.take_succ_eq_append_getElem h, dval_append]
  simp [dval]
theorem dval_split (l : List UInt8) (n : Nat) (a : Nat) (h : n ≤ l.length) : (a * 10 ^ n + dval (l.take n)) * 10 ^ (l.length - n) + dval (l.drop n) = a * 10 ^ l.length + dval l := by
  have e : dval l = dval (l.take n) * 10 ^ (l.length - n) + dval (l.drop n) := by
    conv => lhs; rw [← List.take_append_drop n l]
    rw [dval_append, List.length_drop]
  have e2 : 10 ^ l.length = 10 ^ n * 10 ^ (l.length - n) := by rw [← Nat.pow_add]; congr 1; omega
  rw [e, e2, Nat.add_mul, Nat.mul_assoc, Nat.add_assoc]

/-- The decimal digits of a number, most significant first, as bytes; none for 0. -/
def decL (x : Nat) : List UInt8 := ((digs 10 x).map fun d => (48 + d).toUInt8).reverse
/-- Its text. -/
def dec (x : Nat) : List UInt8 := if x = 0 then [48] else decL x

/-- Nine digits of a number below 10^9, most significant first. -/
def pad9 (g : Nat) : List Nat := (List.range 9).map fun k => g / 10 ^ (8 - k) % 10
theorem pad9_len (g : Nat) : (pad9 g).length = 9 := by simp [pad9]
theorem pad9_get {g k : Nat} (h : k < 9) : (pad9 g).getD k 0 = g / 10 ^ (8 - k) % 10 := by
  rw [getD_lt (by rw [pad9_len]; exact h)]; simp [pad9]
theorem pad9_ok (g : Nat) : Ok 10 (pad9 g) := by
  intro d hd
  obtain ⟨k, _, rfl⟩ := List.mem_map.1 hd
  exact Nat.mod_lt _ (by decide)
theorem pad9_val {g : Nat} (h : g < 1000000000) : val 10 (pad9 g).reverse = g := by
  simp [pad9, List.range, List.range.loop]
  omega

theorem flat_ok {l : List Nat} : Ok 10 (l.flatMap pad9) := by
  intro d hd
  obtain ⟨g, _, h⟩ := List.mem_flatMap.1 hd
  exact pad9_ok g d h
theorem flat_val {l : List Nat} (h : Ok 1000000000 l) : val 10 (l.reverse.flatMap pad9).reverse = val 1000000000 l := by
  induction l with
  | nil => rfl
  | cons g l ih =>
    rw [List.reverse_cons, List.flatMap_append, List.reverse_append, val_append, ih h.tail]
    simp only [List.flatMap_cons, List.flatMap_nil, List.append_nil]
    rw [pad9_val h.head, List.length_reverse, pad9_len, val_cons]

/-- Without leading zeros. -/
theorem strip_eq {l : List Nat} {x : Nat} (ho : Ok 10 l) (hv : val 10 l.reverse = x) : l.dropWhile (· == 0) = (digs 10 x).reverse := by
  have key : ∀ l : List Nat, Ok 10 l → (l.dropWhile (· == 0)) = (digs 10 (val 10 l.reverse)).reverse := by
    intro l
    induction l with
    | nil => intro _; simp [digs_zero]
    | cons d l ih =>
      intro ho
      rw [List.dropWhile_cons]
      by_cases hd : d = 0
      · subst hd
        simp only [beq_self_eq_true, if_true]
        rw [ih ho.tail]
        congr 2
        rw [List.reverse_cons, val_append]
        simp
      · rw [if_neg (by simpa using hd)]
        have : digs 10 (val 10 (d :: l).reverse) = (d :: l).reverse := by
          refine digs_val (by decide) (fun x hx => ho x (List.mem_reverse.1 hx)) ?_
          unfold Top
          rw [List.getLast?_reverse]
          simp [hd]
        rw [this, List.reverse_reverse]
  rw [← hv]
  exact key l ho
theorem decL_eq (x : Nat) : decL x = ((digs 10 x).reverse).map fun d => (48 + d).toUInt8 := by unfold decL; rw [List.map_reverse]
theorem groups_dec {x : Nat} : ((((digs 1000000000 x).reverse).flatMap pad9).dropWhile (· == 0)).map (fun d => (48 + d).toUInt8) = decL x := by
  rw [decL_eq, strip_eq flat_ok (flat_val (ok_digs (by decide) x)), val_digs (by decide)]
theorem decL_ne {x : Nat} (h : x ≠ 0) : decL x ≠ [] := by
  unfold decL
  intro e
  have := congrArg List.length e
  simp at this
  exact h ((digs_nil (B := 10) (by decide)).1 this)
theorem dec_eleven : dec 11 = [49, 49] := by
  have : digs 10 11 = [1, 1] := digs_eq (by decide) (Ok.cons (by decide) (Ok.cons (by decide) Ok.nil)) (by simp [Top]) (by simp)
  simp [dec, decL, this]
theorem dec_two : dec 2 = [50] := by
  have : digs 10 2 = [2] := digs_eq (by decide) (Ok.cons (by decide) Ok.nil) (by simp [Top]) (by simp)
  simp [dec, decL, this]
end Go.Proofs.YtdmhkhnnomdkcaaGreatDoor.NumB
/- nat.Trim: the limbs without last zeros. Conditions: none. -/
namespace Go.Proofs.YtdmhkhnnomdkcaaGreatDoor
open Go.RowKit NumB

theorem trim_end {xs : List Nat} {g : Nat} (ho : Ok W32 xs) (hg : g ≤ xs.length) (hv : val W32 (xs.take g) = val W32 xs) (hl : g = 0 ∨ xs.getD (g - 1) 0 ≠ 0) : xs.take g = digs W32 (val W32 xs) := by
  refine (digs_eq W32_gt (ho.take g) (top_of_last ?_) hv).symm
  have hlen : (xs.take g).length = g := by rw [List.length_take]; omega
  rcases hl with rfl | hl
  · left; rfl
  · rcases Nat.eq_zero_or_pos g with rfl | h0
    · left; rfl
    · right
      rw [hlen, List.getD_eq_getElem?_getD, List.getElem?_take, if_pos (by omega), ← List.getD_eq_getElem?_getD]
      exact hl

set_option maxHeartbeats 400000 in
theorem trim_any (xs : List Nat) (A : Option Addr) (n c : Nat) (w : World) (B : Nat) (hr : Rd .u32 w B A n xs) (ho : Ok W32 xs) (hc : n ≤ c) (hm : c ≤ maxLen) :
    Calls Tryz.prog 12 #[.slice A n c] w fun e w' => ∃ m, e = .returned (.slice A m c) ∧ m ≤ n ∧ xs.take m = digs W32 (val W32 xs) ∧ w = w' := by
  unfold maxLen at hm
  have HL := Lib.hid hr.1
  have HR := Lib.hid hr.2
  clear hr
  have HO := Lib.hid ho
  clear ho
  go_enter Tryz.func12, Tryz.ntmps12
  go_wp2
  go_loopg [0] n (fun g v wr => g ≤ n ∧ v = .slice A g c ∧ Hid (val W32 (xs.take g) = val W32 xs) ∧ w = wr)
  case atStart => exact ⟨Nat.le_refl _, rfl, by rw [← HL.out, List.take_length]; rfl, rfl⟩
  case round =>
    obtain ⟨hg, rfl, HV, rfl⟩ := hrel
    by_cases h0 : 0 < gk
    · obtain ⟨b, o, rfl, hb, hcell⟩ := HR.out (by omega)
      have hx := hcell (gk - 1) (by omega)
      clear hcell
      generalize hxe : xs.getD (gk - 1) 0 = x at hx
      have HX := Lib.hid hxe
      clear hxe
      by_cases hz : x = 0
      · subst hz
        go_wp2
        go_roundg (gk - 1)
        case measure => omega
        case rel =>
          refine ⟨by omega, rfl, ?_, rfl⟩
          have h := val_take_succ W32 xs (gk - 1)
          rw [show gk - 1 + 1 = gk from by omega, HX.out, Nat.mul_zero, Nat.add_zero] at h
          exact h.symm.trans HV.out
      · have HZ := Lib.hid hz
        have hne : ((x : Int) == 0) = false := beq_eq_false_iff_ne.2 (by omega)
        clear hz
        go_wp2
        go_ret
        exact ⟨gk, rfl, hg, trim_end HO.out (by rw [HL.out]; exact hg) HV.out (.inr (by rw [HX.out]; exact HZ.out)), rfl⟩
    · go_wp2
      go_ret
      exact ⟨gk, rfl, hg, trim_end HO.out (by rw [HL.out]; exact hg) HV.out (.inl (by omega)), rfl⟩
end Go.Proofs.YtdmhkhnnomdkcaaGreatDoor
/- nat.DivSmall: quotient and remainder by a limb. Conditions: at most a million limbs. -/
namespace Go.Proofs.YtdmhkhnnomdkcaaGreatDoor
open Go.RowKit NumB
set_option linter.unusedVariables false
set_option linter.unusedSimpArgs false

theorem div_facts (rest x d : Nat) (hr : rest < d) (hd2 : d < 4294967296) (hx : x < 4294967296) :
    ∃ q r : Nat, (((rest : Int) * 4294967296 + x) / (d : Int) = (q : Int)) ∧ (((rest : Int) * 4294967296 + x) % (d : Int) = (r : Int)) ∧ q < 4294967296 ∧ r < d ∧ rest * 4294967296 + x = d * q + r := by
  refine ⟨(rest * 4294967296 + x) / d, (rest * 4294967296 + x) % d, ?_, ?_, ?_, Nat.mod_lt _ (by omega), (Nat.div_add_mod _ _).symm⟩
  · rw [Int.natCast_ediv, castW]
  · rw [Int.natCast_emod, castW]
  · rw [Nat.div_lt_iff_lt_mul (by omega)]
    have : (rest + 1) * 4294967296 ≤ d * 4294967296 := Nat.mul_le_mul_right _ (by omega)
    omega

theorem divSmall_step {xs out : List Nat} {j x d rest q r : Nat} (hj : 0 < j) (hl : j ≤ out.length) (hx : xs.getD (j - 1) 0 = x) (hjx : j ≤ xs.length) (hv : val W32 (xs.drop j) = d * val W32 (out.drop j) + rest)
    (he : rest * 4294967296 + x = d * q + r) : val W32 (xs.drop (j - 1)) = d * val W32 ((out.set (j - 1) q).drop (j - 1)) + r := by
  have e1 : xs.drop (j - 1) = x :: xs.drop j := by
    rw [List.drop_eq_getElem_cons (by omega), ← getD_lt (by omega), hx, Nat.sub_add_cancel hj]
  have e2 : (out.set (j - 1) q).drop (j - 1) = q :: out.drop j := by
    rw [List.drop_eq_getElem_cons (by simp; omega), Nat.sub_add_cancel hj]
    simp [List.drop_set]
    omega
  rw [e1, e2, val_cons, val_cons, hv]
  have : W32 = 4294967296 := rfl
  rw [this, Nat.mul_add, Nat.mul_add, Nat.mul_left_comm]
  omega

theorem info_u32 : (Tryz.prog.info? 35).map (fun i => (i.zero, i.size, i.bytes)) = some (some (.int .u32 0), 1, 4) := by kernel_rfl

set_option maxRecDepth 100000 in
set_option maxHeartbeats 400000 in
theorem divSmall_any (xs : List Nat) (A : Option Addr) (n c d : Nat) (w : World) (hr : Rd .u32 w w.heap.size A n xs) (ho : Ok W32 xs) (hc : n ≤ c) (hm : c ≤ maxLen) (hn : n ≤ 1000000) (hd : 0 < d) (hd2 : d < 4294967296) :
    Calls Tryz.prog 73 #[.slice A n c, .int .u32 (d : Int)] w fun e w' => ∃ v, e = .returned (.tuple #[v, .int .u32 ((val W32 xs % d : Nat) : Int)]) ∧ Nat32 w' v (val W32 xs / d) ∧ Below w.heap.size w w' := by
  unfold maxLen at hm
  have HR := Lib.hid hr
  clear hr
  have HO := Lib.hid ho
  clear ho
  obtain ⟨i0, hi0, hz0, hz1, hz2⟩ := info_parts info_u32
  have HI := Lib.hid hi0
  have HZ0 := Lib.hid hz0
  have HZ1 := Lib.hid hz1
  have HZ2 := Lib.hid hz2
  clear hi0 hz0 hz1 hz2
  go_enter Tryz.func73, Tryz.ntmps73
  go_wp2_with (at_make; refine wpList_make_full _ rfl _ _ 22 rfl w.heap.size 35 i0 (.int .u32 0) 1 Tryz.underlying22 HI.out HZ0.out HZ1.out .i64 .i64 _ _ n rfl rfl rfl rfl (by rw [HZ2.out]; omega) (by unfold maxLen; omega) (Nat.le_refl _) ?_; intro w1 hown1 hg1)
  have HOW := Lib.hid (Own.made hown1)
  have HB := Lib.hid ((Below.refl w.heap.size w).grown hg1 (Nat.le_refl _) (by simp))
  clear hown1 hg1
  go_loopg [7, 8] (n + 1) (fun g r i wr => ∃ (j : Nat) (rest : Nat) (out : List Nat), g = j + 1 ∧ j ≤ n ∧ i = .int .i64 ((j : Int) - 1) ∧ r = .int .u64 (rest : Int) ∧ rest < d ∧ Hid (Own .u32 35 wr w.heap.size w.heap.size n n out) ∧ Hid (Below w.heap.size w wr) ∧ Hid (val W32 (xs.drop j) = d * val W32 (out.drop j) + rest) ∧ Hid (Ok W32 out))
  case atStart => exact ⟨n, 0, _, rfl, Nat.le_refl _, rfl, rfl, hd, HOW.out, HB.out, by rw [← HR.out.1, List.drop_length, List.drop_eq_nil_of_le (by simp)]; rfl, ok_replicate (by decide)⟩
  case round =>
    obtain ⟨j, rest, out, rfl, hj, rfl, rfl, hrest, HOw, HBw, HV, HOo⟩ := hrel
    by_cases h0 : 0 < j
    · obtain ⟨b, o, x, rfl, hb, hxe, hcell⟩ := (HR.out.below HBw.out).at_ (i := j - 1) (by omega)
      have hx : x < 4294967296 := by rw [← hxe]; exact HO.out.getD (by decide) _
      have HX := Lib.hid hxe
      clear hxe
      obtain ⟨y, hy⟩ : ∃ y : Nat, wr.cell? ⟨w.heap.size, j - 1, none⟩ = some (.int .u32 (y : Int)) := ⟨_, HOw.out.cell (by omega)⟩
      have hf := HOw.out.frozen (j - 1)
      have hor := u64_or_shift rest x (by omega) hx
      obtain ⟨q, r, hq, hr', hqb, hrd, he⟩ := div_facts rest x d hrest hd2 hx
      have HE := Lib.hid he
      clear he
      go_wp2
      go_roundg j
      case measure => omega
      case rel =>
        refine ⟨j - 1, r, out.set (j - 1) q, by omega, by omega, ?_, congrArg (Value.int .u64) hr', hrd, (HOw.out.stored _ _), HBw.out.setCell (Nat.le_refl _) _, ?_, HOo.out.set hqb⟩
        · congr 1; omega
        · exact divSmall_step h0 (by rw [HOw.out.1]; exact hj) HX.out (by rw [HR.out.1]; exact hj) HV.out HE.out
    · obtain rfl : j = 0 := by omega
      go_wp2_with (go_at_call 12; refine (trim_any out _ n n _ _ HOw.out.rd HOo.out (Nat.le_refl _) (by unfold maxLen; omega)).mono ?_; rintro e w' ⟨m, rfl, hm', ht, rfl⟩)
      go_ret2
      have hv := HV.out
      rw [List.drop_zero, List.drop_zero] at hv
      have e1 : val W32 xs / d = val W32 out := by rw [hv, Nat.mul_add_div hd, Nat.div_eq_of_lt hrest, Nat.add_zero]
      have e2 : val W32 xs % d = rest := by rw [hv, Nat.mul_add_mod, Nat.mod_eq_of_lt hrest]
      rw [e1, e2]
      exact ⟨_, rfl, Sl.of_rd HOw.out.rd hm' (Nat.le_refl _) (by unfold maxLen; omega) ht, HBw.out⟩

theorem divSmall_nat (x d : Nat) (va : Value) (w : World) (ha : Nat32 w va x) (hn : (digs W32 x).length ≤ 1000000) (hd : 0 < d) (hd2 : d < 4294967296) :
    Calls Tryz.prog 73 #[va, .int .u32 (d : Int)] w fun e w' => ∃ v, e = .returned (.tuple #[v, .int .u32 ((x % d : Nat) : Int)]) ∧ Nat32 w' v (x / d) ∧ Below w.heap.size w w' := by
  obtain ⟨A, c, rfl, hc, hm, hr⟩ := ha
  have h := divSmall_any (digs W32 x) A _ c d w hr (ok_digs W32_gt x) hc hm hn hd hd2
  rw [val_digs W32_gt] at h
  exact h
end Go.Proofs.YtdmhkhnnomdkcaaGreatDoor
/- slices.Clone at []uint32: a copy that the call owns. Conditions: at most a million limbs. -/
namespace Go.Proofs.YtdmhkhnnomdkcaaGreatDoor
open Go.RowKit NumB
set_option linter.unusedVariables false
set_option linter.unusedSimpArgs false

set_option maxRecDepth 100000 in
set_option maxHeartbeats 400000 in
theorem clone_any (xs : List Nat) (va : Value) (w : World) (ha : Sl .u32 w va xs) (hn : xs.length ≤ 1000000) :
    Calls Tryz.prog 75 #[va] w fun e w' => ∃ v, e = .returned v ∧ OwnV .u32 35 w' w.heap.size v xs ∧ Below w.heap.size w w' := by
  obtain ⟨A, c, rfl, hc, hm, hr⟩ := ha
  unfold maxLen at hm
  have heq := fun W => Lib.run_eql_slice_nil (P := Tryz.prog) W 22 35 A xs.length c 0 0 Tryz.underlying22
  rcases A with _ | ad
  · have hx : xs = [] := by
      rcases Nat.eq_zero_or_pos xs.length with h | h
      · exact List.eq_nil_of_length_eq_zero h
      · obtain ⟨_, _, e, _⟩ := hr.2 h; cases e
    subst hx
    clear hr hn heq
    have heq := fun W => Lib.run_eql_slice_nil (P := Tryz.prog) W 22 35 none 0 c 0 0 Tryz.underlying22
    have hc0 : (0 : Nat) ≤ c := hc
    clear hc
    show Calls _ _ #[.slice none 0 c] _ _
    go_enter Tryz.func75, Tryz.ntmps75
    go_wp2
    go_ret
    exact ⟨_, rfl, OwnV.nil_ _, Below.refl _ _⟩
  · obtain ⟨i0, hi0, hz0, hz1, hz2⟩ := info_parts info_u32
    have HI := Lib.hid hi0
    have HZ0 := Lib.hid hz0
    have HZ1 := Lib.hid hz1
    have HZ2 := Lib.hid hz2
    clear hi0 hz0 hz1 hz2
    have HR := Lib.hid hr
    clear hr
    generalize hxl : xs.length = n at *
    have HL := Lib.hid hxl
    clear hxl
    go_enter Tryz.func75, Tryz.ntmps75
    go_wp2_with (at_builtin; refine wpList_append_own_at _ rfl _ _ 22 rfl w.heap.size 35 i0 (.int .u32 0) 1 4 Tryz.underlying22 HI.out HZ0.out HZ1.out HZ2.out rfl (by decide) (.slice (some ⟨w.heap.size, 0, none⟩) 0 0) 0 [] rfl (World.ownsRow_lit w #[] 0 (Nat.le_refl _) (by unfold maxLen; omega) rfl) ad n c (cellsN .u32 xs) rfl (by rw [cellsN_len, HL.out]; omega) (rd_news ((HR.out.below ((Below.refl _ _).alloc (Nat.le_refl _) _)))) cellsN_one (by unfold maxLen; omega) (by omega) (by simp) ?_; intro v1 w1 hown1 hg1 hnil1 hat1)
    go_ret
    refine ⟨v1, rfl, ?_, ?_⟩
    · unfold OwnV; rw [HL.out]; simpa using hown1
    · exact ((Below.refl _ _).alloc (Nat.le_refl _) _).grown hg1 (by simp) (fun k hk => by simp [Value.ownBlock] at hk; omega)
end Go.Proofs.YtdmhkhnnomdkcaaGreatDoor
/- append of some numbers to a slice of the call's own, as a law for the walk. Conditions: at most a million numbers. -/
namespace Go.Proofs.YtdmhkhnnomdkcaaGreatDoor
open Go.RowKit NumB
set_option linter.unusedVariables false
set_option linter.unusedSimpArgs false

theorem news_block {w : World} {k : IntKind} {T : TypeId} {ys : List Nat} : ∀ j u, (cellsN k ys)[j]? = some u → (w.alloc (.cells (cellsN k ys).toArray T)).cell? ((⟨w.heap.size, 0, none⟩ : Addr).add j) = some u := by
  intro j u hu
  have : (⟨w.heap.size, 0, none⟩ : Addr).add j = ⟨w.heap.size, j, none⟩ := by unfold Addr.add; split <;> simp_all
  rw [this, cell_of_row _ w.heap.size j (cellsN k ys).toArray T (0, 0) (heap_alloc_new w _)]
  simpa using hu

theorem wpList_push {P : Program} {ops : Array Oper} {rest : List Oper} {o : Oper} {a : Act} {Q : Exit → Act → World → Prop} (w : World) (hgd : o.guard = none) (s x : Operand) (t : TypeId)
    (ho : o.op = .call { callee := .builtin .append, args := #[s, x], argTypes := #[t, t] })
    (k : IntKind) (T : TypeId) (bytes : Nat) (ht : P.underlying t = some (.slice T)) (hinfo : (P.info? T).map (fun i => (i.zero, i.size, i.bytes)) = some (some (.int k 0), 1, bytes)) (hb8 : bytes ≤ 8)
    (B : Nat) (v : Value) (xs ys : List Nat) (hs : a.eval s = v) (hx : a.eval x = .slice (some ⟨w.heap.size, 0, none⟩) ys.length ys.length) (hown : OwnV k T w B v xs) (hn : xs.length + ys.length ≤ 1000000) (hB : B ≤ w.heap.size) (C : Array Value) (hC : C = (cellsN k ys).toArray)
    (h : ∀ v' w', OwnV k T w' B v' (xs ++ ys) → Below B w w' → wpList P ops Q rest (a.put o.dst v') w') : wpList P ops Q (o :: rest) a (w.alloc (.cells C T)) := by
  subst hC
  obtain ⟨i0, hi0, hz0, hz1, hz2⟩ := info_parts hinfo
  refine wpList_append_own_at _ hgd s x t ho B T i0 (.int k 0) 1 bytes ht hi0 hz0 hz1 hz2 rfl (by decide) v xs.length (cellsN k xs) hs (hown.alloc _) ⟨w.heap.size, 0, none⟩ ys.length ys.length (cellsN k ys) hx (by rw [cellsN_len]; omega) news_block cellsN_one (by unfold maxLen; omega) ?_ (by simp; omega) ?_
  · have : (xs.length + ys.length) * bytes ≤ 1000000 * 8 := Nat.mul_le_mul hn hb8
    omega
  · intro v' w' h1 h2 _ _
    refine h v' w' ?_ (((Below.refl B w).alloc hB _).grown h2 (by simp; omega) (fun g hg => hown.blk g hg))
    unfold OwnV
    rw [List.length_append, ← cellsN_append]
    exact h1

end Go.Proofs.YtdmhkhnnomdkcaaGreatDoor
/- nat.Of: a number of 64 bits as limbs. Conditions: none. -/
namespace Go.Proofs.YtdmhkhnnomdkcaaGreatDoor
open Go.RowKit NumB
set_option linter.unusedVariables false
set_option linter.unusedSimpArgs false

theorem own_two (w : World) (p q : Nat) : Own .u32 35 (w.alloc (.cells #[.int .u32 (p : Int), .int .u32 (q : Int)] 35)) w.heap.size w.heap.size 2 2 [p, q] :=
  ⟨rfl, World.ownsRow_lit w #[.int .u32 (p : Int), .int .u32 (q : Int)] 2 (Nat.le_refl _) (by unfold maxLen; omega) rfl⟩

theorem of_cast (x : Nat) : (x : Int) % 4294967296 = ((x % 4294967296 : Nat) : Int) ∧ (x : Int) / 4294967296 = ((x / 4294967296 : Nat) : Int) := by omega

set_option maxRecDepth 100000 in
set_option maxHeartbeats 400000 in
theorem of_any (x : Nat) (w : World) (hx : x < 18446744073709551616) :
    Calls Tryz.prog 69 #[.int .u64 (x : Int)] w fun e w' => ∃ v, e = .returned v ∧ Nat32 w' v x ∧ Below w.heap.size w w' := by
  have hp : x % 4294967296 < 4294967296 := by omega
  have hq : x / 4294967296 < 4294967296 := by omega
  have HV : Hid (val W32 [x % 4294967296, x / 4294967296] = x) := by
    show x % 4294967296 + 4294967296 * (x / 4294967296 + 4294967296 * 0) = x
    omega
  go_enter Tryz.func69, Tryz.ntmps69
  go_wp2_with fail
  rw [(of_cast x).1, (of_cast x).2]
  generalize x % 4294967296 = p at *
  generalize x / 4294967296 = q at *
  refine (trim_any [p, q] _ 2 2 _ _ (own_two w p q).rd (Ok.cons hp (Ok.cons hq Ok.nil)) (Nat.le_refl _) (by unfold maxLen; omega)).mono ?_
  rintro e w' ⟨m, rfl, hm, ht, rfl⟩
  rw [HV.out] at ht
  have HT := Lib.hid ht
  clear ht
  go_wp2
  go_ret
  exact ⟨_, rfl, Sl.of_rd (own_two w p q).rd hm (Nat.le_refl _) (by unfold maxLen; omega) HT.out, (Below.refl _ _).alloc (Nat.le_refl _) _⟩
end Go.Proofs.YtdmhkhnnomdkcaaGreatDoor
