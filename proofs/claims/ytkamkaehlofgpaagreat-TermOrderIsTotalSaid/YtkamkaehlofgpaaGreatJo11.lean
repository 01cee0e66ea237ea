/-  -/
import Derived.Test.YtkamkaehlofgpaaGreatJo9
import Derived.Test.YtkamkaehlofgpaaGreatJo10
set_option linter.unusedVariables false
set_option linter.unusedSimpArgs false
/- number.check: the first error of a list of numbers. -/
namespace Go.Proofs.YtkamkaehlofgpaaGreat
open Go.RowKit NumB
set_option linter.unusedVariables false
set_option linter.unusedSimpArgs false

/-- The first of n answers from j on that is not 0. -/
def errsFrom (c : Nat → Int) : Nat → Nat → Int
  | _, 0 => 0
  | j, n + 1 => if c j = 0 then errsFrom c (j + 1) n else c j

/-- A row of k numbers in the block b from o on. -/
def Nums (w : World) (b o k : Nat) (ng : Nat → Bool) (xs ys : Nat → List Nat) : Prop :=
  b < w.heap.size ∧ ∀ i, i < k → ∃ va vb, w.cell? ⟨b, o + i * 3, none⟩ = some (.bool (ng i)) ∧ w.cell? ⟨b, o + i * 3 + 1, none⟩ = some va ∧ w.cell? ⟨b, o + i * 3 + 2, none⟩ = some vb ∧ Sl .u32 w va (xs i) ∧ Sl .u32 w vb (ys i) ∧ Ok W32 (xs i) ∧ Ok W32 (ys i)

set_option maxRecDepth 100000 in
set_option maxHeartbeats 3200000 in
theorem checks_any (b o k cap : Nat) (ng : Nat → Bool) (xs ys : Nat → List Nat) (w : World) (hk : k ≤ 1000) (hN : Nums w b o k ng xs ys) :
    Calls Tryz.prog 61 #[.slice (some ⟨b, o, none⟩) k cap] w fun e w' => e = .returned (.int .i64 (errsFrom (fun i => checkL (ng i) (xs i) (ys i)) 0 k)) ∧ Below w.heap.size w w' := by
  have HN := Lib.hid hN
  clear hN
  have HC : Hid (∀ (i : Nat) (va vb : Value) (W : World), Sl .u32 W va (xs i) → Sl .u32 W vb (ys i) → Ok W32 (xs i) → Ok W32 (ys i) → Calls Tryz.prog 90 #[.agg #[.bool (ng i), va, vb]] W fun e w' => e = .returned (.int .i64 (checkL (ng i) (xs i) (ys i))) ∧ Below W.heap.size W w') :=
    fun i va vb W h1 h2 h3 h4 => check_any (ng i) (xs i) (ys i) va vb W h1 h2 h3 h4
  generalize hc : (fun i => checkL (ng i) (xs i) (ys i)) = c
  have HC2 : Hid (∀ i, checkL (ng i) (xs i) (ys i) = c i) := fun i => by rw [← hc]
  clear hc
  have HD : Hid (∀ (i : Nat) (va vb : Value) (W : World), Sl .u32 W va (xs i) → Sl .u32 W vb (ys i) → Ok W32 (xs i) → Ok W32 (ys i) → Calls Tryz.prog 90 #[.agg #[.bool (ng i), va, vb]] W fun e w' => e = .returned (.int .i64 (c i)) ∧ Below W.heap.size W w') :=
    fun i va vb W h1 h2 h3 h4 => by rw [← HC2.out i]; exact HC.out i va vb W h1 h2 h3 h4
  clear HC HC2
  go_enter Tryz.func61, Tryz.ntmps61
  go_wp2
  go_loopg [8, 4, 5] k (fun gk si s4 s5 wr => ∃ j : Nat, gk + j = k ∧ si = .int .i64 (j : Int) ∧ Hid (errsFrom c j gk = errsFrom c 0 k) ∧ Hid (Below w.heap.size w wr))
  case atStart => exact ⟨0, by omega, rfl, rfl, Below.refl _ _⟩
  case round =>
    obtain ⟨j, hgj, rfl, HE, HB⟩ := hrel
    by_cases hj : j < k
    · obtain ⟨n, rfl⟩ : ∃ n, gk = n + 1 := ⟨gk - 1, by omega⟩
      obtain ⟨va, vb, h0, h1, h2, h3, h4, h5, h6⟩ := HN.out.2 j hj
      have hbl := HN.out.1
      have hc0 : wr.cell? ⟨b, o + j * 3, none⟩ = some (.bool (ng j)) := (HB.out.cell (p := ⟨b, _, none⟩) hbl).trans h0
      have hc1 : wr.cell? ⟨b, o + j * 3 + 1, none⟩ = some va := (HB.out.cell (p := ⟨b, _, none⟩) hbl).trans h1
      have hc2 : wr.cell? ⟨b, o + j * 3 + 2, none⟩ = some vb := (HB.out.cell (p := ⟨b, _, none⟩) hbl).trans h2
      obtain ⟨A, ca, hva, r1⟩ := id h3
      obtain ⟨A', cb, hvb, r2⟩ := id h4
      have HS1 := Lib.hid (h3.to HB.out)
      have HS2 := Lib.hid (h4.to HB.out)
      have HOK := Lib.hid (And.intro h5 h6)
      subst hva hvb
      clear h0 h1 h2 h3 h4 h5 h6 r1 r2
      generalize (xs j).length = n1 at *
      generalize (ys j).length = n2 at *
      by_cases hz : c j = 0
      · have hz1 : (c j != 0) = false := by rw [hz]; rfl
        have HZ := Lib.hid hz
        clear hz
        go_wp2_with (go_at_call 90; go_must (refine (HD.out j _ _ _ (by exact HS1.out.to (below_one _ _)) (by exact HS2.out.to (below_one _ _)) HOK.out.1 HOK.out.2).mono ?_); rintro e w1 ⟨rfl, hb1⟩)
        go_roundg n
        case measure => omega
        case rel => exact ⟨j + 1, by omega, by go_num, by unfold Hid; rw [← HE.out, errsFrom, if_pos HZ.out], (HB.out.alloc HB.out.size _).trans (hb1.mono (Nat.le_trans HB.out.size (below_one _ _).size))⟩
      · have hz1 : (c j != 0) = true := by rw [bne_iff_ne]; exact hz
        have HZ := Lib.hid hz
        clear hz
        go_wp2_with (go_at_call 90; go_must (refine (HD.out j _ _ _ (by exact HS1.out.to (below_one _ _)) (by exact HS2.out.to (below_one _ _)) HOK.out.1 HOK.out.2).mono ?_); rintro e w1 ⟨rfl, hb1⟩)
        go_ret
        exact ⟨by rw [← HE.out, errsFrom, if_neg HZ.out]; rfl, (HB.out.alloc HB.out.size _).trans (hb1.mono (Nat.le_trans HB.out.size (below_one _ _).size))⟩
    · obtain rfl : j = k := by omega
      obtain rfl : gk = 0 := by omega
      clear hgj hj
      go_wp2
      go_ret
      exact ⟨by rw [← HE.out]; rfl, HB.out⟩

/-- Two numbers, one after the other. -/
theorem checks_two (b cap : Nat) (na nb : Bool) (xa ya xb yb : List Nat) (A1 A2 A3 A4 : Value) (w : World) (t : TypeId) (hg : Blk w b t #[.bool na, A1, A2, .bool nb, A3, A4])
    (h1 : Sl .u32 w A1 xa) (h2 : Sl .u32 w A2 ya) (h3 : Sl .u32 w A3 xb) (h4 : Sl .u32 w A4 yb) (o1 : Ok W32 xa) (o2 : Ok W32 ya) (o3 : Ok W32 xb) (o4 : Ok W32 yb) :
    Calls Tryz.prog 61 #[.slice (some ⟨b, 0, none⟩) 2 cap] w fun e w' => e = .returned (.int .i64 (if checkL na xa ya = 0 then checkL nb xb yb else checkL na xa ya)) ∧ Below w.heap.size w w' := by
  have hN : Nums w b 0 2 (fun i => if i = 0 then na else nb) (fun i => if i = 0 then xa else xb) (fun i => if i = 0 then ya else yb) := by
    refine ⟨hg.lt, fun i hi => ?_⟩
    rcases i with _ | _ | i
    · exact ⟨A1, A2, hg.cell 0, hg.cell 1, hg.cell 2, h1, h2, o1, o2⟩
    · exact ⟨A3, A4, hg.cell 3, hg.cell 4, hg.cell 5, h3, h4, o3, o4⟩
    · omega
  refine (checks_any b 0 2 cap _ _ _ w (by omega) hN).mono fun e w' ⟨he, hb⟩ => ⟨he.trans ?_, hb⟩
  have e : errsFrom (fun i => checkL (if i = 0 then na else nb) (if i = 0 then xa else xb) (if i = 0 then ya else yb)) 0 2 = if checkL na xa ya = 0 then checkL nb xb yb else checkL na xa ya := by
    show (if checkL na xa ya = 0 then (if checkL nb xb yb = 0 then 0 else checkL nb xb yb) else checkL na xa ya) = _
    split
    · split <;> simp_all
    · rfl
  rw [e]
/-- One number. -/
theorem checks_one (b cap : Nat) (na : Bool) (xa ya : List Nat) (A1 A2 : Value) (w : World) (t : TypeId) (hg : Blk w b t #[.bool na, A1, A2])
    (h1 : Sl .u32 w A1 xa) (h2 : Sl .u32 w A2 ya) (o1 : Ok W32 xa) (o2 : Ok W32 ya) :
    Calls Tryz.prog 61 #[.slice (some ⟨b, 0, none⟩) 1 cap] w fun e w' => e = .returned (.int .i64 (checkL na xa ya)) ∧ Below w.heap.size w w' := by
  have hN : Nums w b 0 1 (fun i => na) (fun i => xa) (fun i => ya) := by
    refine ⟨hg.lt, fun i hi => ?_⟩
    obtain rfl : i = 0 := by omega
    exact ⟨A1, A2, hg.cell 0, hg.cell 1, hg.cell 2, h1, h2, o1, o2⟩
  refine (checks_any b 0 1 cap _ _ _ w (by omega) hN).mono fun e w' ⟨he, hb⟩ => ⟨he.trans ?_, hb⟩
  have e : errsFrom (fun i => checkL na xa ya) 0 1 = checkL na xa ya := by
    show (if checkL na xa ya = 0 then 0 else checkL na xa ya) = _
    split <;> simp_all
  rw [e]
end Go.Proofs.YtkamkaehlofgpaaGreat
/- nat.plus: the sum of two numbers. Conditions: at most 100000 limbs. -/
namespace Go.Proofs.YtkamkaehlofgpaaGreat
open Go.RowKit NumB
set_option linter.unusedVariables false
set_option linter.unusedSimpArgs false

theorem plus_cell (ca p q : Nat) : ((ca : Int) + (p : Int) + (q : Int)) % 4294967296 = (((ca + p + q) % 4294967296 : Nat) : Int) ∧ ((ca : Int) + (p : Int) + (q : Int)) / 4294967296 = (((ca + p + q) / 4294967296 : Nat) : Int) := by omega
theorem plus_cell1 (ca p : Nat) : ((ca : Int) + (p : Int)) % 4294967296 = (((ca + p + 0) % 4294967296 : Nat) : Int) ∧ ((ca : Int) + (p : Int)) / 4294967296 = (((ca + p + 0) / 4294967296 : Nat) : Int) := by omega

theorem plus_list {xs ys out : List Nat} {j ca p q : Nat} (hj : j < out.length) (hp : xs.getD j 0 = p) (hq : ys.getD j 0 = q)
    (he : val W32 (out.take j) + W32 ^ j * ca = val W32 (xs.take j) + val W32 (ys.take j)) :
    val W32 ((out.set j ((ca + p + q) % 4294967296)).take (j + 1)) + W32 ^ (j + 1) * ((ca + p + q) / 4294967296) = val W32 (xs.take (j + 1)) + val W32 (ys.take (j + 1)) := by
  rw [val_take_succ, val_take_succ, val_take_succ, take_set_lt _ _ _ _ (Nat.le_refl _), getD_set_self _ _ _ hj, hp, hq, Nat.pow_succ]
  exact add_step he

theorem plus_end {xs ys out : List Nat} {n ca x y : Nat} (hx : val W32 xs = x) (hy : val W32 ys = y) (ox : Ok W32 xs) (oy : Ok W32 ys) (hl : xs.length = n) (hm : ys.length ≤ n) (ho : out.length = n + 1)
    (he : val W32 (out.take (n + 1)) + W32 ^ (n + 1) * ca = val W32 (xs.take (n + 1)) + val W32 (ys.take (n + 1))) : val W32 out = x + y := by
  rw [val_take_all W32 out (by omega), val_take_all W32 xs (by omega), val_take_all W32 ys (by omega), hx, hy] at he
  have h1 := val_lt ox
  have h2 := val_lt oy
  rw [hx, hl] at h1
  rw [hy] at h2
  have h3 : W32 ^ ys.length ≤ W32 ^ n := Nat.pow_le_pow_right (by decide) hm
  rcases Nat.eq_zero_or_pos ca with h0 | h0
  · rw [h0, Nat.mul_zero, Nat.add_zero] at he
    exact he
  · exfalso
    have h4 : W32 ^ (n + 1) * 1 ≤ W32 ^ (n + 1) * ca := Nat.mul_le_mul_left _ h0
    have h5 : W32 ^ (n + 1) = W32 ^ n * W32 := Nat.pow_succ _ _
    have h6 : W32 ^ n * 2 ≤ W32 ^ n * W32 := Nat.mul_le_mul_left _ (by decide)
    omega

/-- The summands, the longer one first. -/
def PlusIn (w : World) (s0 s1 : Value) (t : Nat) : Prop := ∃ (A0 B0 : Option Addr) (n m c d x y : Nat) (xs ys : List Nat), s0 = .slice A0 n c ∧ s1 = .slice B0 m d ∧ m ≤ n ∧ n ≤ 100000 ∧ n ≤ c ∧ m ≤ d ∧ c ≤ maxLen ∧ d ≤ maxLen ∧ Rd .u32 w w.heap.size A0 n xs ∧ Rd .u32 w w.heap.size B0 m ys ∧ val W32 xs = x ∧ val W32 ys = y ∧ Ok W32 xs ∧ Ok W32 ys ∧ x + y = t

theorem size_u32' : (Tryz.prog.info? 101).map (·.size) = some 1 := by kernel_rfl

end Go.Proofs.YtkamkaehlofgpaaGreat
/- nat.Add: the sum of several numbers. Conditions: the sum has at most 100000 limbs. -/
namespace Go.Proofs.YtkamkaehlofgpaaGreat
open Go.RowKit NumB
set_option linter.unusedVariables false
set_option linter.unusedSimpArgs false

theorem sum_take_succ (ns : List Nat) (j : Nat) (h : j < ns.length) : (ns.take (j + 1)).sum = (ns.take j).sum + ns.getD j 0 := by
  rw [List.take_succ_eq_append_getElem h, List.sum_append, getD_lt h]; simp
theorem sum_take_le (ns : List Nat) (j : Nat) : (ns.take j).sum ≤ ns.sum := by
  have h := congrArg List.sum (List.take_append_drop j ns)
  rw [List.sum_append] at h
  omega
theorem getD_le_sum (ns : List Nat) (j : Nat) : ns.getD j 0 ≤ ns.sum := by
  rcases Nat.lt_or_ge j ns.length with h | h
  · have h1 := sum_take_succ ns j h
    have h2 := sum_take_le ns (j + 1)
    omega
  · rw [getD_ge h]; exact Nat.zero_le _

/-- A slice of slices, each of which reads as a number. -/
def Nats (w : World) (b o : Nat) (ns : List Nat) : Prop := b < w.heap.size ∧ ∀ i, i < ns.length → ∃ v, w.cell? ⟨b, o + i, none⟩ = some v ∧ Nat32 w v (ns.getD i 0)

end Go.Proofs.YtkamkaehlofgpaaGreat
/- nat.Sub: a difference that is not negative. Conditions: at most 100000 limbs. -/
namespace Go.Proofs.YtkamkaehlofgpaaGreat
open Go.RowKit NumB
set_option linter.unusedVariables false
set_option linter.unusedSimpArgs false

theorem sb_cell (p l b : Nat) (hp : p < 4294967296) (hl : l ≤ 1) (hb : b < 4294967296) :
    ∃ x c : Nat, IntKind.u64.wrap (IntKind.u64.wrap ((p : Int) - (l : Int)) - (b : Int)) % 4294967296 = (x : Int) ∧
      bits .and .u64 (IntKind.u64.wrap (IntKind.u64.wrap ((p : Int) - (l : Int)) - (b : Int)) / 4294967296) 1 = (c : Int) ∧ x < 4294967296 ∧ c ≤ 1 ∧ p + 4294967296 * c = x + b + l := by
  have e : IntKind.u64.wrap (IntKind.u64.wrap ((p : Int) - (l : Int)) - (b : Int)) = (((p + 18446744073709551616 - l - b) % 18446744073709551616 : Nat) : Int) := by
    rw [IntKind.wrap_u64, IntKind.wrap_u64]; omega
  rw [e]
  generalize hX : (p + 18446744073709551616 - l - b) % 18446744073709551616 = X
  refine ⟨X % 4294967296, X / 4294967296 % 2, (of_cast X).1, ?_, by omega, by omega, by omega⟩
  rw [(of_cast X).2, and_one_u64' _ (by omega)]
theorem sb_cell1 (p l : Nat) (hp : p < 4294967296) (hl : l ≤ 1) :
    ∃ x c : Nat, IntKind.u64.wrap ((p : Int) - (l : Int)) % 4294967296 = (x : Int) ∧
      bits .and .u64 (IntKind.u64.wrap ((p : Int) - (l : Int)) / 4294967296) 1 = (c : Int) ∧ x < 4294967296 ∧ c ≤ 1 ∧ p + 4294967296 * c = x + 0 + l := by
  have e : IntKind.u64.wrap ((p : Int) - (l : Int)) = (((p + 18446744073709551616 - l) % 18446744073709551616 : Nat) : Int) := by
    rw [IntKind.wrap_u64]; omega
  rw [e]
  generalize hX : (p + 18446744073709551616 - l) % 18446744073709551616 = X
  refine ⟨X % 4294967296, X / 4294967296 % 2, (of_cast X).1, ?_, by omega, by omega, by omega⟩
  rw [(of_cast X).2, and_one_u64' _ (by omega)]
theorem sub_list {xs ys out : List Nat} {j bo p q z c : Nat} (hj : j < out.length) (hp : xs.getD j 0 = p) (hq : ys.getD j 0 = q) (hz : p + 4294967296 * c = z + q + bo)
    (he : val W32 (xs.take j) + W32 ^ j * bo = val W32 (out.take j) + val W32 (ys.take j)) :
    val W32 (xs.take (j + 1)) + W32 ^ (j + 1) * c = val W32 ((out.set j z).take (j + 1)) + val W32 (ys.take (j + 1)) := by
  rw [val_take_succ, val_take_succ, val_take_succ, take_set_lt _ _ _ _ (Nat.le_refl _), getD_set_self _ _ _ hj, hp, hq, Nat.pow_succ, Nat.mul_assoc]
  have h1 : W32 ^ j * p + W32 ^ j * (W32 * c) = W32 ^ j * z + W32 ^ j * q + W32 ^ j * bo := by
    rw [← Nat.mul_add, show W32 * c = 4294967296 * c from rfl, hz, Nat.mul_add, Nat.mul_add]
  omega
theorem sub_end {xs ys out : List Nat} {n bo x y : Nat} (hx : val W32 xs = x) (hy : val W32 ys = y) (hl : xs.length = n) (hm : ys.length ≤ n) (ho : out.length = n) (ook : Ok W32 out) (hle : y ≤ x)
    (he : val W32 (xs.take n) + W32 ^ n * bo = val W32 (out.take n) + val W32 (ys.take n)) : val W32 out = x - y := by
  rw [val_take_all W32 out (by omega), val_take_all W32 xs (by omega), val_take_all W32 ys (by omega), hx, hy] at he
  have h1 := val_lt ook
  rw [ho] at h1
  rcases Nat.eq_zero_or_pos bo with h0 | h0
  · rw [h0, Nat.mul_zero, Nat.add_zero] at he
    omega
  · exfalso
    have h4 : W32 ^ n * 1 ≤ W32 ^ n * bo := Nat.mul_le_mul_left _ h0
    omega

end Go.Proofs.YtkamkaehlofgpaaGreat
/- nat.Mul: the product. Conditions: at most 50000 limbs. -/
namespace Go.Proofs.YtkamkaehlofgpaaGreat
open Go.RowKit NumB
set_option linter.unusedVariables false
set_option linter.unusedSimpArgs false

theorem mul_alg {V Vo Vy P Q x y o c B s : Nat} (hs : s = c + (x * y + o)) (hP : P = Q * B) (h : V + P * c = Vo + Q * x * Vy) (W : Nat) :
    (V + P * (s % W)) + (P * W) * (s / W) = (Vo + P * o) + Q * x * (Vy + B * y) := by
  have h1 := mod_div_step P W s
  have h2 : P * s = P * c + (P * (x * y) + P * o) := by rw [hs, Nat.mul_add, Nat.mul_add]
  have h3 : Q * x * (B * y) = P * (x * y) := by
    rw [hP]; simp only [Nat.mul_comm, Nat.mul_left_comm, Nat.mul_assoc]
  rw [Nat.mul_add (Q * x), h3]
  omega
theorem mul_inner {out o2 ys : List Nat} {i k c x y o s : Nat} (hlen : i + k < o2.length) (ho : out.getD (i + k) 0 = o) (hy : ys.getD k 0 = y) (hs : s = c + (x * y + o))
    (h : val W32 (o2.take (i + k)) + W32 ^ (i + k) * c = val W32 (out.take (i + k)) + W32 ^ i * x * val W32 (ys.take k)) :
    val W32 ((o2.set (i + k) (s % 4294967296)).take (i + (k + 1))) + W32 ^ (i + (k + 1)) * (s / 4294967296) = val W32 (out.take (i + (k + 1))) + W32 ^ i * x * val W32 (ys.take (k + 1)) := by
  rw [← Nat.add_assoc, val_take_succ, val_take_succ, val_take_succ, take_set_lt _ _ _ _ (Nat.le_refl _), getD_set_self _ _ _ hlen, ho, hy, Nat.pow_succ]
  exact mul_alg hs (Nat.pow_add _ _ _) h W32
theorem mul_outer {out o2 xs ys : List Nat} {i m c x Y : Nat} (hlen : i + m < o2.length) (hm : ys.length = m) (hY : val W32 ys = Y) (hx : xs.getD i 0 = x)
    (h : val W32 (o2.take (i + m)) + W32 ^ (i + m) * c = val W32 (out.take (i + m)) + W32 ^ i * x * val W32 (ys.take m)) (ho : val W32 (out.take (i + m)) = val W32 (xs.take i) * Y) :
    val W32 ((o2.set (i + m) c).take (i + 1 + m)) = val W32 (xs.take (i + 1)) * Y := by
  rw [show i + 1 + m = i + m + 1 from by omega, val_take_succ, val_take_succ, take_set_lt _ _ _ _ (Nat.le_refl _), getD_set_self _ _ _ hlen, h, ho, val_take_all W32 ys (by omega), hY, hx, Nat.add_mul]

set_option maxRecDepth 100000 in
set_option maxHeartbeats 3200000 in
theorem mul_any (x y : Nat) (va vb : Value) (w : World) (ha : Nat32 w va x) (hb : Nat32 w vb y) (hx : (digs W32 x).length ≤ 50000) (hy : (digs W32 y).length ≤ 50000) :
    Calls Tryz.prog 92 #[va, vb] w (NPost w (x * y)) := by
  obtain ⟨A, ca, rfl, hca, hma, hra⟩ := ha
  obtain ⟨A', cb, rfl, hcb, hmb, hrb⟩ := hb
  unfold maxLen at hma hmb
  have HX := Lib.hid (And.intro (And.intro (val_digs W32_gt x) (val_digs W32_gt y)) (And.intro (ok_digs W32_gt x) (ok_digs W32_gt y)))
  generalize digs W32 x = xs at *
  generalize digs W32 y = ys at *
  generalize hn : xs.length = n at *
  generalize hm : ys.length = m at *
  have HRA := Lib.hid hra
  have HRB := Lib.hid hrb
  clear hra hrb hn hm
  obtain ⟨i0, hi0, hz0, hz1, hz2⟩ := info_parts info_u32
  have HI := Lib.hid hi0
  have HZ0 := Lib.hid hz0
  have HZ1 := Lib.hid hz1
  have HZ2 := Lib.hid hz2
  clear hi0 hz0 hz1 hz2
  go_enter Tryz.func92, Tryz.ntmps92
  go_wp2_with (at_make; refine wpList_make_full _ rfl _ _ 22 rfl w.heap.size 101 i0 (.int .u32 0) 1 Tryz.underlying22 HI.out HZ0.out HZ1.out .i64 .i64 _ _ (n + m) rfl rfl (by omega) (by omega) (by rw [HZ2.out]; omega) (by unfold maxLen; omega) (Nat.le_refl _) ?_; intro w1 hown1 hg1)
  have HO1 := Lib.hid (Own.made hown1)
  have HB1 := Lib.hid ((Below.refl w.heap.size w).grown hg1 (Nat.le_refl _) (by simp))
  clear hown1 hg1
  go_loopg [19, 6, 7, 8, 9, 10] n (fun gk si s6 s7 s8 s9 s10 wr => ∃ (i : Nat) (out : List Nat), gk + i = n ∧ si = .int .i64 (i : Int) ∧ Hid (Own .u32 101 wr w.heap.size w.heap.size (n + m) (n + m) out) ∧ Hid (Ok W32 out) ∧ Hid (∀ q, i + m ≤ q → out.getD q 0 = 0) ∧ Hid (val W32 (out.take (i + m)) = val W32 (xs.take i) * y) ∧ Hid (Below w.heap.size w wr))
  case atStart => exact ⟨0, List.replicate (n + m) 0, by omega, rfl, HO1.out, ok_replicate (by decide), fun q _ => getD_replicate _ _, by unfold Hid; rw [List.take_replicate, val_replicate]; simp, HB1.out⟩
  case round =>
    obtain ⟨i, out, hgi, rfl, HO, HOK, HZ, HE, HB⟩ := hrel
    obtain ⟨wo, rfl⟩ : ∃ wo : World, wo = wr := ⟨_, rfl⟩
    by_cases hi : i < n
    · obtain ⟨b, o, p, rfl, hb, hpe, hcp⟩ := (HRA.out.below HB.out).at_ (i := i) hi
      have hpb : p < 4294967296 := by rw [← hpe]; exact HX.out.2.1.getD (by decide) _
      have HP := Lib.hid hpe
      clear hpe
      go_wp2_with fail
      clear hcp
      go_loopg [26, 8, 9, 10] m (fun gk2 sk s8 s9 s10 wr => ∃ (k c : Nat) (o2 : List Nat), gk2 + k = m ∧ sk = .int .i64 (k : Int) ∧ s8 = .int .u64 (c : Int) ∧ c < 4294967296 ∧ Hid (Own .u32 101 wr w.heap.size w.heap.size (n + m) (n + m) o2) ∧ Hid (Ok W32 o2) ∧ Hid (∀ q, i + k ≤ q → o2.getD q 0 = out.getD q 0) ∧ Hid (val W32 (o2.take (i + k)) + W32 ^ (i + k) * c = val W32 (out.take (i + k)) + W32 ^ i * p * val W32 (ys.take k)) ∧ Hid (Below w.heap.size w wr))
      case atStart => exact ⟨0, 0, out, by omega, rfl, rfl, by omega, HO.out, HOK.out, fun _ _ => rfl, by unfold Hid; simp, HB.out⟩
      case round =>
        obtain ⟨k, c, o2, hgk, rfl, rfl, hc, HO2, HOK2, HJ2, HE2, HB2⟩ := hrel
        by_cases hk : k < m
        · obtain ⟨b', o', q, rfl, hb', hqe, hcq⟩ := (HRB.out.below HB2.out).at_ (i := k) hk
          have hqb : q < 4294967296 := by rw [← hqe]; exact HX.out.2.2.getD (by decide) _
          have HQ := Lib.hid hqe
          clear hqe
          obtain ⟨r, hr⟩ : ∃ r, out.getD (i + k) 0 = r := ⟨_, rfl⟩
          have HR := Lib.hid hr
          have hrb : r < 4294967296 := by rw [← hr]; exact HOK.out.getD (by decide) _
          have hcr : wr.cell? ⟨w.heap.size, i + k, none⟩ = some (.int .u32 (r : Int)) := by rw [← hr, ← HJ2.out _ (Nat.le_refl _)]; exact HO2.out.cell (by omega)
          have hf := HO2.out.frozen (i + k)
          clear hr
          obtain ⟨pq, hpq⟩ : ∃ pq, pq = p * q := ⟨_, rfl⟩
          have HPQ := Lib.hid hpq
          have hpqb : pq ≤ 18446744065119617025 := by rw [hpq]; exact Nat.mul_le_mul (show p ≤ 4294967295 by omega) (show q ≤ 4294967295 by omega)
          have hpqi : (p : Int) * (q : Int) = (pq : Int) := by rw [hpq, Int.natCast_mul]
          clear hpq
          go_wp2
          go_roundg (gk - 1)
          case measure => omega
          case rel =>
            have el : ((c : Int) + ((pq : Int) + (r : Int))) % 4294967296 = (((c + (pq + r)) % 4294967296 : Nat) : Int) := by omega
            have eh : ((c : Int) + ((pq : Int) + (r : Int))) / 4294967296 = (((c + (pq + r)) / 4294967296 : Nat) : Int) := by omega
            rw [el, eh]
            refine ⟨k + 1, (c + (pq + r)) / 4294967296, o2.set (i + k) ((c + (pq + r)) % 4294967296), by omega, by go_num, rfl, by omega, HO2.out.stored _ _, HOK2.out.set (Nat.mod_lt _ (by decide)), ?_, mul_inner (by rw [HO2.out.1]; omega) HR.out HQ.out (by rw [HPQ.out]) HE2.out, HB2.out.setCell (Nat.le_refl _) _⟩
            intro q' hq'
            rw [NumB.getD_set_ne _ _ _ _ (by omega)]
            exact HJ2.out q' (by omega)
        · obtain rfl : k = m := by omega
          clear hgk hk
          obtain ⟨r, hcr⟩ : ∃ r : Nat, wr.cell? ⟨w.heap.size, i + k, none⟩ = some (.int .u32 (r : Int)) := ⟨_, HO2.out.cell (by omega)⟩
          have hf := HO2.out.frozen (i + k)
          go_wp2
          go_roundg (n - (i + 1))
          case measure => omega
          case rel =>
            refine ⟨i + 1, o2.set (i + k) c, by omega, by go_num, HO2.out.stored _ _, HOK2.out.set hc, ?_, mul_outer (by rw [HO2.out.1]; omega) HRB.out.1 HX.out.1.2 HP.out HE2.out HE.out, HB2.out.setCell (Nat.le_refl _) _⟩
            intro q' hq'
            rw [NumB.getD_set_ne _ _ _ _ (by omega), HJ2.out q' (by omega)]
            exact HZ.out q' (by omega)
    · obtain rfl : i = n := by omega
      clear hgi hi
      go_wp2_with (go_at_call 119; refine (trim_sl out _ _ HO.out.sl HOK.out).mono ?_; rintro e w' ⟨v', rfl, hn', rfl⟩)
      go_ret
      have he := HE.out
      rw [val_take_all W32 out (by rw [HO.out.1]; exact Nat.le_refl _), val_take_all W32 xs (by rw [HRA.out.1]; exact Nat.le_refl _), HX.out.1.1] at he
      rw [he] at hn'
      exact ⟨_, rfl, hn', HB.out⟩
end Go.Proofs.YtkamkaehlofgpaaGreat
