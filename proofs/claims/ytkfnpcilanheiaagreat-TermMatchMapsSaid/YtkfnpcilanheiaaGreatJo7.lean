/- nat.Mul: the product. Conditions: at most 50000 limbs. And 6 more texts. -/
import Derived.Deep.RegionHeld3
import Derived.Deep.Slices
import Derived.Test.YtkfnpcilanheiaaGreatJo1
import Derived.Test.YtkfnpcilanheiaaGreatJo6
set_option linter.unusedVariables false
set_option linter.unusedSimpArgs false
set_option maxRecDepth 100000
namespace Go.Proofs.YtkfnpcilanheiaaGreat
open Go.RowKit NumB
theorem mul_alg {V Vo Vy P Q x y o c B s : Nat} (hs : s = c + (x * y + o)) (hP : P = Q * B) (h : V + P * c = Vo + Q * x * Vy) (W : Nat) :
    (V + P * (s % W)) + (P * W) * (s / W) = (Vo + P * o) + Q * x * (Vy + B * y) := by
  have h1 := mod_div_step P W s
  have h2 : P * s = P * c + (P * (x * y) + P * o) := by rw [hs, Nat.mul_add, Nat.mul_add]
  have h3 : Q * x * (B * y) = P * (x * y) := by
    rw [hP]; simp only [Nat.mul_comm, Nat.mul_left_comm, Nat.mul_assoc]
  rw [Nat.mul_add (Q * x), h3]
  omega
theorem mul_inner {out o2 ys : List Nat} {i k c x y o s : Nat} (hlen : i + k < o2.length) (ho : out.getD (i + k) 0 = o) (hy : ys.getD k 0 = y) (hs : s = c + (x * y + o))
    (h : val W32 (o2.take (i + k)) + W32 ^ (i + k) * c = val W32 (out.take (i + k)) + W32 ^ i * x * val W32 (ys.take k)) :
    val W32 ((o2.set (i + k) (s % 4294967296)).take (i + (k + 1))) + W32 ^ (i + (k + 1)) * (s / 4294967296) = val W32 (out.take (i + (k + 1))) + W32 ^ i * x * val W32 (ys.take (k + 1)) := by
  rw [← Nat.add_assoc, val_take_succ, val_take_succ, val_take_succ, take_set_lt _ _ _ _ (Nat.le_refl _), getD_set_self _ _ _ hlen, ho, hy, Nat.pow_succ]
  exact mul_alg hs (Nat.pow_add _ _ _) h W32
theorem mul_outer {out o2 xs ys : List Nat} {i m c x Y : Nat} (hlen : i + m < o2.length) (hm : ys.length = m) (hY : val W32 ys = Y) (hx : xs.getD i 0 = x)
    (h : val W32 (o2.take (i + m)) + W32 ^ (i + m) * c = val W32 (out.take (i + m)) + W32 ^ i * x * val W32 (ys.take m)) (ho : val W32 (out.take (i + m)) = val W32 (xs.take i) * Y) :
    val W32 ((o2.set (i + m) c).take (i + 1 + m)) = val W32 (xs.take (i + 1)) * Y := by
  rw [show i + 1 + m = i + m + 1 from by omega, val_take_succ, val_take_succ, take_set_lt _ _ _ _ (Nat.le_refl _), getD_set_self _ _ _ hlen, h, ho, val_take_all W32 ys (by omega), hY, hx, Nat.add_mul]
set_option maxHeartbeats 3200000 in
theorem mul_any (x y : Nat) (va vb : Value) (w : World) (ha : Nat32 w va x) (hb : Nat32 w vb y) (hx : (digs W32 x).length ≤ 50000) (hy : (digs W32 y).length ≤ 50000) :
    Calls Tryz.prog 216 #[va, vb] w (NPost w (x * y)) := by
  obtain ⟨A, ca, rfl, hca, hma, hra⟩ := ha
  obtain ⟨A', cb, rfl, hcb, hmb, hrb⟩ := hb
  unfold maxLen at hma hmb
  have HX := Lib.hid (And.intro (And.intro (val_digs W32_gt x) (val_digs W32_gt y)) (And.intro (ok_digs W32_gt x) (ok_digs W32_gt y)))
  generalize digs W32 x = xs at *
  generalize digs W32 y = ys at *
  generalize hn : xs.length = n at *
  generalize hm : ys.length = m at *
  have HRA := Lib.hid hra
  have HRB := Lib.hid hrb
  clear hra hrb hn hm
  obtain ⟨i0, hi0, hz0, hz1, hz2⟩ := info_parts info_u32
  have HI := Lib.hid hi0
  have HZ0 := Lib.hid hz0
  have HZ1 := Lib.hid hz1
  have HZ2 := Lib.hid hz2
  clear hi0 hz0 hz1 hz2
  go_enter Tryz.func216, Tryz.ntmps216
  go_wp2_with (at_make; refine wpList_make_full _ rfl _ _ 22 rfl w.heap.size 89 i0 (.int .u32 0) 1 Tryz.underlying22 HI.out HZ0.out HZ1.out .i64 .i64 _ _ (n + m) rfl rfl (by omega) (by omega) (by rw [HZ2.out]; omega) (by unfold maxLen; omega) (Nat.le_refl _) ?_; intro w1 hown1 hg1)
  have HO1 := Lib.hid (Own.made hown1)
  have HB1 := Lib.hid ((Below.refl w.heap.size w).grown hg1 (Nat.le_refl _) (by simp))
  clear hown1 hg1
  go_loopg [19, 6, 7, 8, 9, 10] n (fun gk si s6 s7 s8 s9 s10 wr => ∃ (i : Nat) (out : List Nat), gk + i = n ∧ si = .int .i64 (i : Int) ∧ Hid (Own .u32 89 wr w.heap.size w.heap.size (n + m) (n + m) out) ∧ Hid (Ok W32 out) ∧ Hid (∀ q, i + m ≤ q → out.getD q 0 = 0) ∧ Hid (val W32 (out.take (i + m)) = val W32 (xs.take i) * y) ∧ Hid (Below w.heap.size w wr))
  case atStart => exact ⟨0, List.replicate (n + m) 0, by omega, rfl, HO1.out, ok_replicate (by decide), fun q _ => getD_replicate _ _, by unfold Hid; rw [List.take_replicate, val_replicate]; simp, HB1.out⟩
  case round =>
    obtain ⟨i, out, hgi, rfl, HO, HOK, HZ, HE, HB⟩ := hrel
    obtain ⟨wo, rfl⟩ : ∃ wo : World, wo = wr := ⟨_, rfl⟩
    by_cases hi : i < n
    · obtain ⟨b, o, p, rfl, hb, hpe, hcp⟩ := (HRA.out.below HB.out).at_ (i := i) hi
      have hpb : p < 4294967296 := by rw [← hpe]; exact HX.out.2.1.getD (by decide) _
      have HP := Lib.hid hpe
      clear hpe
      go_wp2_with fail
      clear hcp
      go_loopg [26, 8, 9, 10] m (fun gk2 sk s8 s9 s10 wr => ∃ (k c : Nat) (o2 : List Nat), gk2 + k = m ∧ sk = .int .i64 (k : Int) ∧ s8 = .int .u64 (c : Int) ∧ c < 4294967296 ∧ Hid (Own .u32 89 wr w.heap.size w.heap.size (n + m) (n + m) o2) ∧ Hid (Ok W32 o2) ∧ Hid (∀ q, i + k ≤ q → o2.getD q 0 = out.getD q 0) ∧ Hid (val W32 (o2.take (i + k)) + W32 ^ (i + k) * c = val W32 (out.take (i + k)) + W32 ^ i * p * val W32 (ys.take k)) ∧ Hid (Below w.heap.size w wr))
      case atStart => exact ⟨0, 0, out, by omega, rfl, rfl, by omega, HO.out, HOK.out, fun _ _ => rfl, by unfold Hid; simp, HB.out⟩
      case round =>
        obtain ⟨k, c, o2, hgk, rfl, rfl, hc, HO2, HOK2, HJ2, HE2, HB2⟩ := hrel
        by_cases hk : k < m
        · obtain ⟨b', o', q, rfl, hb', hqe, hcq⟩ := (HRB.out.below HB2.out).at_ (i := k) hk
          have hqb : q < 4294967296 := by rw [← hqe]; exact HX.out.2.2.getD (by decide) _
          have HQ := Lib.hid hqe
          clear hqe
          obtain ⟨r, hr⟩ : ∃ r, out.getD (i + k) 0 = r := ⟨_, rfl⟩
          have HR := Lib.hid hr
          have hrb : r < 4294967296 := by rw [← hr]; exact HOK.out.getD (by decide) _
          have hcr : wr.cell? ⟨w.heap.size, i + k, none⟩ = some (.int .u32 (r : Int)) := by rw [← hr, ← HJ2.out _ (Nat.le_refl _)]; exact HO2.out.cell (by omega)
          have hf := HO2.out.frozen (i + k)
          clear hr
          obtain ⟨pq, hpq⟩ : ∃ pq, pq = p * q := ⟨_, rfl⟩
          have HPQ := Lib.hid hpq
          have hpqb : pq ≤ 18446744065119617025 := by rw [hpq]; exact Nat.mul_le_mul (show p ≤ 4294967295 by omega) (show q ≤ 4294967295 by omega)
          have hpqi : (p : Int) * (q : Int) = (pq : Int) := by rw [hpq, Int.natCast_mul]
          clear hpq
          go_wp2
          go_roundg (gk - 1)
          case measure => omega
          case rel =>
            have el : ((c : Int) + ((pq : Int) + (r : Int))) % 4294967296 = (((c + (pq + r)) % 4294967296 : Nat) : Int) := by omega
            have eh : ((c : Int) + ((pq : Int) + (r : Int))) / 4294967296 = (((c + (pq + r)) / 4294967296 : Nat) : Int) := by omega
            rw [el, eh]
            refine ⟨k + 1, (c + (pq + r)) / 4294967296, o2.set (i + k) ((c + (pq + r)) % 4294967296), by omega, by go_num, rfl, by omega, HO2.out.stored _ _, HOK2.out.set (Nat.mod_lt _ (by decide)), ?_, mul_inner (by rw [HO2.out.1]; omega) HR.out HQ.out (by rw [HPQ.out]) HE2.out, HB2.out.setCell (Nat.le_refl _) _⟩
            intro q' hq'
            rw [NumB.getD_set_ne _ _ _ _ (by omega)]
            exact HJ2.out q' (by omega)
        · obtain rfl : k = m := by omega
          clear hgk hk
          obtain ⟨r, hcr⟩ : ∃ r : Nat, wr.cell? ⟨w.heap.size, i + k, none⟩ = some (.int .u32 (r : Int)) := ⟨_, HO2.out.cell (by omega)⟩
          have hf := HO2.out.frozen (i + k)
          go_wp2
          go_roundg (n - (i + 1))
          case measure => omega
          case rel =>
            refine ⟨i + 1, o2.set (i + k) c, by omega, by go_num, HO2.out.stored _ _, HOK2.out.set hc, ?_, mul_outer (by rw [HO2.out.1]; omega) HRB.out.1 HX.out.1.2 HP.out HE2.out HE.out, HB2.out.setCell (Nat.le_refl _) _⟩
            intro q' hq'
            rw [NumB.getD_set_ne _ _ _ _ (by omega), HJ2.out q' (by omega)]
            exact HZ.out q' (by omega)
    · obtain rfl : i = n := by omega
      clear hgi hi
      go_wp2_with (go_at_call 269; refine (trim_sl out _ _ HO.out.sl HOK.out).mono ?_; rintro e w' ⟨v', rfl, hn', rfl⟩)
      go_ret
      have he := HE.out
      rw [val_take_all W32 out (by rw [HO.out.1]; exact Nat.le_refl _), val_take_all W32 xs (by rw [HRA.out.1]; exact Nat.le_refl _), HX.out.1.1] at he
      rw [he] at hn'
      exact ⟨_, rfl, hn', HB.out⟩
def Box2 (w : World) (g : Nat) (na nb : Bool) (A1 A2 A3 A4 : Value) : Prop :=
  w.cell? ⟨g, 0, none⟩ = some (.bool na) ∧ w.cell? ⟨g, 1, none⟩ = some A1 ∧ w.cell? ⟨g, 2, none⟩ = some A2 ∧ w.cell? ⟨g + 1, 0, none⟩ = some (.bool nb) ∧ w.cell? ⟨g + 1, 1, none⟩ = some A3 ∧ w.cell? ⟨g + 1, 2, none⟩ = some A4 ∧ g + 2 < w.heap.size
theorem Box2.to {w w' : World} {g : Nat} {na nb : Bool} {A1 A2 A3 A4 : Value} (h : Box2 w g na nb A1 A2 A3 A4) (hb : Below w.heap.size w w') : Box2 w' g na nb A1 A2 A3 A4 := by
  obtain ⟨h0, h1, h2, h3, h4, h5, h6⟩ := h
  exact ⟨(hb.cell (p := ⟨g, 0, none⟩) (by show g < _; omega)).trans h0, (hb.cell (p := ⟨g, 1, none⟩) (by show g < _; omega)).trans h1, (hb.cell (p := ⟨g, 2, none⟩) (by show g < _; omega)).trans h2, (hb.cell (p := ⟨g + 1, 0, none⟩) (by show g + 1 < _; omega)).trans h3, (hb.cell (p := ⟨g + 1, 1, none⟩) (by show g + 1 < _; omega)).trans h4, (hb.cell (p := ⟨g + 1, 2, none⟩) (by show g + 1 < _; omega)).trans h5, Nat.lt_of_lt_of_le h6 hb.size⟩
theorem checkL_zero {neg : Bool} {xs ys : List Nat} (ox : Ok W32 xs) (oy : Ok W32 ys) (h : checkL neg xs ys = 0) :
    digs W32 (val W32 xs) = xs ∧ digs W32 (val W32 ys) = ys ∧ xs.length ≤ 128 ∧ ys.length ≤ 128 ∧ 0 < val W32 ys ∧ Nat.gcd (val W32 xs) (val W32 ys) = 1 ∧ (val W32 xs = 0 → neg = false) := by
  unfold checkL at h
  by_cases h1 : 128 < xs.length ∨ 128 < ys.length
  · rw [if_pos h1] at h; omega
  rw [if_neg h1] at h
  by_cases h2 : lastB xs = true ∨ lastB ys = true ∨ ys.length = 0
  · rw [if_pos h2] at h; omega
  rw [if_neg h2] at h
  have hlx : lastB xs = false := by cases h : lastB xs with | false => rfl | true => exact absurd (.inl h) h2
  have hly : lastB ys = false := by cases h : lastB ys with | false => rfl | true => exact absurd (.inr (.inl h)) h2
  have hy0 : ys ≠ [] := by rintro rfl; exact h2 (.inr (.inr rfl))
  have hvy := val_pos (B := W32) (by decide) (top_of_last hly) hy0
  refine ⟨digs_val W32_gt ox (top_of_last hlx), digs_val W32_gt oy (top_of_last hly), by omega, by omega, hvy, ?_, ?_⟩
  · unfold checkN at h
    by_cases hx : val W32 xs = 0
    · rw [if_pos hx] at h
      by_cases h3 : neg = false ∧ val W32 ys = 1
      · rw [hx, h3.2]; rfl
      · rw [if_neg h3] at h; omega
    · rw [if_neg hx] at h
      by_cases h3 : val W32 ys = 1 ∨ val W32 xs = 1 ∨ Nat.gcd (val W32 xs) (val W32 ys) = 1
      · rcases h3 with h3 | h3 | h3
        · rw [h3, Nat.gcd_one_right]
        · rw [h3, Nat.gcd_one_left]
        · exact h3
      · rw [if_neg h3] at h; omega
  · intro hx
    unfold checkN at h
    rw [if_pos hx] at h
    by_cases h3 : neg = false ∧ val W32 ys = 1
    · exact h3.1
    · rw [if_neg h3] at h; omega
def err2 (a b : Int) : Int := if a = 0 then b else a
theorem err2_zero {a b : Int} : err2 a b = 0 ↔ a = 0 ∧ b = 0 := by
  unfold err2; split <;> constructor <;> intro h <;> omega
theorem checkL_bd (neg : Bool) (xs ys : List Nat) : 0 ≤ checkL neg xs ys ∧ checkL neg xs ys ≤ 3 := by
  unfold checkL checkN
  split
  · omega
  · split
    · omega
    · split
      · split <;> omega
      · split <;> omega
theorem err2_bd {a b : Int} (ha : 0 ≤ a ∧ a ≤ 3) (hb : 0 ≤ b ∧ b ≤ 3) : 0 ≤ err2 a b ∧ err2 a b ≤ 3 := by unfold err2; split <;> omega
def Two (w : World) (na nb : Bool) (A1 A2 A3 A4 : Value) (xa ya xb yb : List Nat) : Prop := Sl .u32 w A1 xa ∧ Sl .u32 w A2 ya ∧ Sl .u32 w A3 xb ∧ Sl .u32 w A4 yb
theorem Two.to {w w' : World} {na nb : Bool} {A1 A2 A3 A4 : Value} {xa ya xb yb : List Nat} (h : Two w na nb A1 A2 A3 A4 xa ya xb yb) (hb : Below w.heap.size w w') : Two w' na nb A1 A2 A3 A4 xa ya xb yb := ⟨h.1.to hb, h.2.1.to hb, h.2.2.1.to hb, h.2.2.2.to hb⟩
theorem checks_two' {w : World} {na nb : Bool} {A1 A2 A3 A4 : Value} {xa ya xb yb : List Nat} (h : Two w na nb A1 A2 A3 A4 xa ya xb yb) (o1 : Ok W32 xa) (o2 : Ok W32 ya) (o3 : Ok W32 xb) (o4 : Ok W32 yb) (t : TypeId) (b cap : Nat) (hb : w.heap.size = b) :
    Calls Tryz.prog 190 #[.slice (some ⟨b, 0, none⟩) 2 cap] (w.alloc (.cells #[.bool na, A1, A2, .bool nb, A3, A4] t)) fun e w' => e = .returned (.int .i64 (err2 (checkL na xa ya) (checkL nb xb yb))) ∧ Below (w.alloc (.cells #[.bool na, A1, A2, .bool nb, A3, A4] t)).heap.size (w.alloc (.cells #[.bool na, A1, A2, .bool nb, A3, A4] t)) w' := by
  subst hb
  have h' := h.to (below_one w (.cells #[.bool na, A1, A2, .bool nb, A3, A4] t))
  exact checks_two w.heap.size cap na nb xa ya xb yb A1 A2 A3 A4 _ t (Blk.new _ _ _) h'.1 h'.2.1 h'.2.2.1 h'.2.2.2 o1 o2 o3 o4
end Go.Proofs.YtkfnpcilanheiaaGreat
namespace Go.Proofs.YtkfnpcilanheiaaGreat.RatB
def sg (neg : Bool) (x : Nat) : Int := if neg then -(x : Int) else (x : Int)
theorem sg_natAbs (neg : Bool) (x : Nat) : (sg neg x).natAbs = x := by unfold sg; cases neg <;> simp
def Canon (neg : Bool) (x y : Nat) : Prop := 0 < y ∧ Nat.gcd x y = 1 ∧ (x = 0 → neg = false)
def q (neg : Bool) (x y : Nat) : Rat := mkRat (sg neg x) y
theorem q_num {neg : Bool} {x y : Nat} (h : Canon neg x y) : (q neg x y).num = sg neg x ∧ (q neg x y).den = y := by
  have hc : (sg neg x).natAbs.Coprime y := by rw [sg_natAbs]; exact h.2.1
  have e := Rat.mk_eq_mkRat (sg neg x) y (Nat.pos_iff_ne_zero.1 h.1) hc
  unfold q
  rw [← e]
  exact ⟨rfl, rfl⟩
theorem q_inj {n1 n2 : Bool} {x1 x2 y1 y2 : Nat} (h1 : Canon n1 x1 y1) (h2 : Canon n2 x2 y2) (h : q n1 x1 y1 = q n2 x2 y2) : n1 = n2 ∧ x1 = x2 ∧ y1 = y2 := by
  have a := q_num h1
  have b := q_num h2
  rw [h] at a
  have e1 : sg n1 x1 = sg n2 x2 := a.1.symm.trans b.1
  have e2 : y1 = y2 := a.2.symm.trans b.2
  have e3 : x1 = x2 := by rw [← sg_natAbs n1 x1, e1, sg_natAbs]
  refine ⟨?_, e3, e2⟩
  subst e3
  rcases Nat.eq_zero_or_pos x1 with h0 | h0
  · rw [h1.2.2 h0, h2.2.2 h0]
  · cases n1 <;> cases n2 <;> simp [sg] at e1 <;> first | rfl | omega
end Go.Proofs.YtkfnpcilanheiaaGreat.RatB
namespace Go.Proofs.YtkfnpcilanheiaaGreat
open Go.RowKit NumB
structure LN where
  neg : Bool
  num : List Nat
  den : List Nat
def zeroL : LN := ⟨false, [], []⟩
def LN.ok (a : LN) : Prop := Ok W32 a.num ∧ Ok W32 a.den
def LN.err (a : LN) : Int := checkL a.neg a.num a.den
def LN.x (a : LN) : Nat := val W32 a.num
def LN.y (a : LN) : Nat := val W32 a.den
def GV (w : World) (v : Value) (a : LN) : Prop := ∃ A B, v = .agg #[.bool a.neg, A, B] ∧ Sl .u32 w A a.num ∧ Sl .u32 w B a.den ∧ a.ok
theorem GV.to {w w' : World} {v : Value} {a : LN} (h : GV w v a) (hb : Below w.heap.size w w') : GV w' v a := by
  obtain ⟨A, B, e, h1, h2, h3⟩ := h
  exact ⟨A, B, e, h1.to hb, h2.to hb, h3⟩
theorem GV.form {w : World} {v : Value} {a : LN} (h : GV w v a) : ∃ A n c B m d, v = .agg #[.bool a.neg, .slice A n c, .slice B m d] ∧ n = a.num.length ∧ m = a.den.length := by
  obtain ⟨A, B, rfl, ⟨A1, c1, rfl, _⟩, ⟨B1, d1, rfl, _⟩, _⟩ := h
  exact ⟨_, _, _, _, _, _, rfl, rfl, rfl⟩
theorem GV.ok {w : World} {v : Value} {a : LN} (h : GV w v a) : a.ok := by obtain ⟨_, _, _, _, _, h⟩ := h; exact h
theorem GV.zero (w : World) : GV w zeroNum zeroL := ⟨_, _, rfl, (OwnV.nil_ (B := 0) (T := 0) w).sl, (OwnV.nil_ (B := 0) (T := 0) w).sl, Ok.nil, Ok.nil⟩
theorem LN.good {a : LN} (ho : a.ok) (h : a.err = 0) : digs W32 a.x = a.num ∧ digs W32 a.y = a.den ∧ a.num.length ≤ 128 ∧ a.den.length ≤ 128 ∧ RatB.Canon a.neg a.x a.y := by
  obtain ⟨h1, h2, h3, h4, h5, h6, h7⟩ := checkL_zero ho.1 ho.2 h
  exact ⟨h1, h2, h3, h4, h5, h6, h7⟩
end Go.Proofs.YtkfnpcilanheiaaGreat
namespace Go.Proofs.YtkfnpcilanheiaaGreat
open Go.ChangeShapes Go.WideShapes Go.ChangeAt Go.RowKit Go.Joins Go.Deep NumB
inductive Tm where
  | mk (k v : Int) (s : ByteArray) (n : LN) (args : List Tm)
def i64ok (z : Int) : Prop := -9223372036854775808 ≤ z ∧ z ≤ 9223372036854775807
inductive TC (w : World) : Tm → List Value → Prop
  | mk (k v : Int) (s : ByteArray) (n : LN) (args : List Tm) (A B : Value) (Ar : Option Addr) (cap : Nat) (cs : Nat → List Value)
    (hk : i64ok k) (hv : i64ok v) (hs : s.size ≤ maxLen) (hA : Sl .u32 w A n.num) (hB : Sl .u32 w B n.den) (hn : n.ok)
    (hcap : args.length ≤ cap) (hm : cap ≤ maxLen)
    (hr : 0 < args.length → ∃ b o, Ar = some ⟨b, o, none⟩ ∧ b < w.heap.size ∧ ∀ i, i < args.length → ∀ j, j < 7 → w.cell? ⟨b, o + i * 7 + j, none⟩ = (cs i)[j]?)
    (ha : ∀ i (h : i < args.length), TC w args[i] (cs i)) :
    TC w (.mk k v s n args) [.int .i64 k, .int .i64 v, .string s, .bool n.neg, A, B, .slice Ar args.length cap]
theorem TC.to {w w' : World} {t : Tm} {cs : List Value} (h : TC w t cs) (hb : Below w.heap.size w w') : TC w' t cs := by
  induction h with
  | mk k v s n args A B Ar cap cs hk hv hs hA hB hn hcap hm hr ha ih =>
    refine .mk k v s n args A B Ar cap cs hk hv hs (hA.to hb) (hB.to hb) hn hcap hm (fun h0 => ?_) ih
    obtain ⟨b, o, e, hlt, hc⟩ := hr h0
    exact ⟨b, o, e, Nat.lt_of_lt_of_le hlt hb.size, fun i hi j hj => (hb.cell (p := ⟨b, o + i * 7 + j, none⟩) hlt).trans (hc i hi j hj)⟩
theorem TC.len {w : World} {t : Tm} {cs : List Value} (h : TC w t cs) : cs.length = 7 := by cases h; rfl
theorem choose_below {α : Type} [Inhabited α] {n : Nat} {p : Nat → α → Prop} (h : ∀ i, i < n → ∃ x, p i x) : ∃ f : Nat → α, ∀ i, i < n → p i (f i) := by
  refine ⟨fun i => if hi : i < n then Classical.choose (h i hi) else default, fun i hi => ?_⟩
  simp only [dif_pos hi]
  exact Classical.choose_spec (h i hi)
instance : Inhabited Tm := ⟨.mk 0 0 ⟨#[]⟩ ⟨false, [], []⟩ []⟩
theorem open_int_cells {H : Type} {enc : TypeId × Value → H} {P : Program} {W : World} {sp : Nat → Bool} {hd : Bool} {n : Nat} {t : TypeId} {c : Value} {y : DataW H × List MemPlace} (ht : P.underlying t = some (.int .i64)) (h : DataW.trod enc P W 0 sp hd n t [c] = some y) : ∃ z, c = .int .i64 z ∧ i64ok z := by
  cases n with
  | zero => cases h
  | succ n =>
    unfold DataW.trod at h
    rw [ht] at h
    cases c <;> simp at h
    rename_i k z
    obtain ⟨⟨rfl, hw⟩, _⟩ := h
    exact ⟨z, rfl, bounds_i64 hw⟩
theorem open_str_cells {H : Type} {enc : TypeId × Value → H} {P : Program} {W : World} {sp : Nat → Bool} {hd : Bool} {n : Nat} {t : TypeId} {c : Value} {y : DataW H × List MemPlace} (ht : P.underlying t = some .string) (h : DataW.trod enc P W 0 sp hd n t [c] = some y) : ∃ s, c = .string s ∧ s.size ≤ maxLen := by
  cases n with
  | zero => cases h
  | succ n =>
    unfold DataW.trod at h
    rw [ht] at h
    cases c <;> simp at h
    rename_i s
    exact ⟨s, rfl, h.1⟩
theorem open_tm {H : Type} {enc : TypeId × Value → H} {W : World} : ∀ (n : Nat) (cs : List Value) (y : DataW H × List MemPlace), DataW.trod enc Tryz.prog W 0 (fun _ => true) true n 27 cs = some y → ∃ t, TC W t cs := by
  intro n
  induction n using Nat.strongRecOn with
  | _ n ih =>
    intro cs y h
    obtain ⟨xs, k, hk, hxy, hl, hxl, hf⟩ := DataW.trod_struct Tryz.underlying27 h
    have hl7 : cs.length = 7 := hl
    match cs, hl7, xs, hxl with
    | [c0, c1, c2, c3, c4, c5, c6], _, [x0, x1, x2, x3, x4], _ =>
      have g0 : DataW.trod enc Tryz.prog W 0 (fun _ => true) true k 3 (List.take (Tryz.prog.cellsOf 3) (List.drop 0 [c0, c1, c2, c3, c4, c5, c6])) = some x0 := hf 0 _ rfl
      have g1 : DataW.trod enc Tryz.prog W 0 (fun _ => true) true k 3 (List.take (Tryz.prog.cellsOf 3) (List.drop 1 [c0, c1, c2, c3, c4, c5, c6])) = some x1 := hf 1 _ rfl
      have g2 : DataW.trod enc Tryz.prog W 0 (fun _ => true) true k 9 (List.take (Tryz.prog.cellsOf 9) (List.drop 2 [c0, c1, c2, c3, c4, c5, c6])) = some x2 := hf 2 _ rfl
      have g3 : DataW.trod enc Tryz.prog W 0 (fun _ => true) true k 24 (List.take (Tryz.prog.cellsOf 24) (List.drop 3 [c0, c1, c2, c3, c4, c5, c6])) = some x3 := hf 3 _ rfl
      have g4 : DataW.trod enc Tryz.prog W 0 (fun _ => true) true k 25 (List.take (Tryz.prog.cellsOf 25) (List.drop 6 [c0, c1, c2, c3, c4, c5, c6])) = some x4 := hf 4 _ rfl
      have k0 : Tryz.prog.cellsOf 3 = 1 := by kernel_rfl
      have k2 : Tryz.prog.cellsOf 9 = 1 := by kernel_rfl
      have k3 : Tryz.prog.cellsOf 24 = 3 := by kernel_rfl
      have k4 : Tryz.prog.cellsOf 25 = 1 := by kernel_rfl
      have k5 : Tryz.prog.cellsOf 27 = 7 := by kernel_rfl
      simp only [k0, k2, k3, k4, List.drop_zero, List.drop_succ_cons, List.take_succ_cons, List.take_zero] at g0 g1 g2 g3 g4
      obtain ⟨z0, e0, w0⟩ := open_int_cells Tryz.underlying3 g0
      obtain ⟨z1, e1, w1⟩ := open_int_cells Tryz.underlying3 g1
      obtain ⟨s, e2, w2⟩ := open_str_cells Tryz.underlying9 g2
      obtain ⟨ys, k', hk', hxy', hl', hxl', hf'⟩ := DataW.trod_struct Tryz.underlying24 g3
      match ys, hxl' with
      | [y0, y1, y2], _ =>
      have q0 : DataW.trod enc Tryz.prog W 0 (fun _ => true) true k' 4 (List.take (Tryz.prog.cellsOf 4) (List.drop 0 [c3, c4, c5])) = some y0 := hf' 0 _ rfl
      have q1 : DataW.trod enc Tryz.prog W 0 (fun _ => true) true k' 22 (List.take (Tryz.prog.cellsOf 22) (List.drop 1 [c3, c4, c5])) = some y1 := hf' 1 _ rfl
      have q2 : DataW.trod enc Tryz.prog W 0 (fun _ => true) true k' 22 (List.take (Tryz.prog.cellsOf 22) (List.drop 2 [c3, c4, c5])) = some y2 := hf' 2 _ rfl
      have k6 : Tryz.prog.cellsOf 4 = 1 := by kernel_rfl
      have k7 : Tryz.prog.cellsOf 22 = 1 := by kernel_rfl
      simp only [k6, k7, List.drop_zero, List.drop_succ_cons, List.take_succ_cons, List.take_zero] at q0 q1 q2
      obtain ⟨b, e3, _⟩ := DataW.trod_bool Tryz.underlying4 q0
      obtain ⟨us, hu, ou⟩ := open_limbs q1
      obtain ⟨vs, hv, ov⟩ := open_limbs q2
      simp only [List.cons.injEq, and_true] at e3
      subst e0 e1 e2 e3
      rcases DataW.trod_slice Tryz.underlying25 g4 with ⟨h6, _⟩ | ⟨a, len, cap, elems, rest, n', hn', h6, _, _, hlc, hcm, hel, hx, _, _⟩
      · simp only [List.cons.injEq, and_true] at h6
        subst h6
        exact ⟨.mk z0 z1 s ⟨b, us, vs⟩ [], .mk z0 z1 s ⟨b, us, vs⟩ [] c4 c5 none 0 (fun _ => []) w0 w1 w2 hu hv ⟨ou, ov⟩ (Nat.le_refl _) (by unfold maxLen; omega) (fun h => absurd h (by simp)) (fun i h => absurd h (by simp))⟩
      · simp only [List.cons.injEq, and_true] at h6
        subst h6
        rw [k5] at hx
        have hx2 : ∀ i, i < len → ∃ p : Tm × List Value, W.cells? 0 (a.add (i * 7)) 7 = some p.2 ∧ TC W p.1 p.2 := fun i hi => by
          have h1 := hx i hi
          rw [List.getElem?_eq_getElem (by omega)] at h1
          obtain ⟨cs', h2, h3⟩ := Option.bind_eq_some_iff.1 h1
          obtain ⟨t, ht⟩ := ih n' (by omega) cs' _ h3
          exact ⟨(t, cs'), h2, ht⟩
        obtain ⟨f, hf⟩ := choose_below hx2
        have hget : ∀ (i : Nat) (h : i < ((List.range len).map fun i => (f i).1).length), ((List.range len).map fun i => (f i).1)[i] = (f i).1 := fun i h => by simp
        have hlen : ((List.range len).map fun i => (f i).1).length = len := by simp
        have hmk := TC.mk (w := W) z0 z1 s ⟨b, us, vs⟩ ((List.range len).map fun i => (f i).1) c4 c5 (some a) cap (fun i => (f i).2) w0 w1 w2 hu hv ⟨ou, ov⟩ (by rw [hlen]; exact hlc) hcm (fun h0 => ?_) (fun i hi => ?_)
        · rw [hlen] at hmk
          exact ⟨_, hmk⟩
        · rw [hlen] at h0 ⊢
          obtain ⟨_, _, hc0⟩ := World.cells?_some (hf 0 h0).1
          obtain ⟨b', off, spot⟩ := a
          have hq := hc0 0 (by omega)
          rw [List.getElem?_eq_getElem (by rw [(hf 0 h0).2.len]; omega)] at hq
          have hspot : spot = none := by simpa [Addr.add] using World.cell?_spot hq
          subst hspot
          refine ⟨b', off, rfl, ?_, fun i hi j hj => ?_⟩
          · rcases Nat.lt_or_ge b' W.heap.size with h1 | h1
            · exact h1
            · simp [World.cell?, Addr.add, Array.getElem?_eq_none h1] at hq
          · obtain ⟨_, _, hci⟩ := World.cells?_some (hf i hi).1
            have := hci j hj
            rw [add_add] at this
            rw [← this, Go.WideShapes.add_plain, Nat.add_assoc]
        · rw [hget i hi]
          exact (hf i (by simpa using hi)).2
end Go.Proofs.YtkfnpcilanheiaaGreat
