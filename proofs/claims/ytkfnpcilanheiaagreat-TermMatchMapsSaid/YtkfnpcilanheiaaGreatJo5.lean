/- Plain facts for nat.DivMod: the normalized divisor, the loop over the digits (no program). And 3 more texts. -/
import Derived.Lib.ItoaNum
import Derived.Laws.CopyOwn
import Derived.Test.YtkfnpcilanheiaaGreatShelf
import Derived.Test.YtkfnpcilanheiaaGreatJo1
import Derived.Test.YtkfnpcilanheiaaGreatJo2
import Derived.Test.YtkfnpcilanheiaaGreatJo3
import Derived.Test.YtkfnpcilanheiaaGreatJo4
set_option linter.unusedVariables false
set_option linter.unusedSimpArgs false
set_option maxRecDepth 100000
namespace Go.Proofs.YtkfnpcilanheiaaGreat
open Go.RowKit NumB
theorem digs_len_eq {B X n : Nat} (hB : 1 < B) (hn : 1 ≤ n) (h1 : B ^ (n - 1) ≤ X) (h2 : X < B ^ n) : (digs B X).length = n := by
  have a := digs_len_le hB h2
  have b := (digs_len_gt (k := n - 1) (n := X) hB).2 h1
  omega
theorem digs_topdigit {B X : Nat} (hB : 1 < B) {n : Nat} (hn : 1 ≤ n) (hl : (digs B X).length = n) : (digs B X).getD (n - 1) 0 = X / B ^ (n - 1) := by
  have h1 := val_split B (digs B X) (n - 1)
  have h2 := val_drop_step B (digs B X) (n - 1)
  rw [List.drop_eq_nil_of_le (i := n - 1 + 1) (by omega), val_nil, Nat.mul_zero, Nat.add_zero] at h2
  have h3 := val_take_lt (ok_digs hB X) (j := n - 1) (by omega)
  rw [val_digs hB, h2] at h1
  have e : X / B ^ (n - 1) = (val B ((digs B X).take (n - 1)) + B ^ (n - 1) * (digs B X).getD (n - 1) 0) / B ^ (n - 1) := congrArg (fun z => z / B ^ (n - 1)) h1
  rw [e, Nat.add_mul_div_left _ _ (Nat.pow_pos (by omega)), Nat.div_eq_of_lt h3, Nat.zero_add]
theorem norm_facts {y n t b : Nat} (hn : 1 ≤ n) (hl : (digs W32 y).length = n) (ht : (digs W32 y).getD (n - 1) 0 = t) (hb : Lib.bitLen t = b) :
    1 ≤ b ∧ b ≤ 32 ∧ (digs W32 (y * 2 ^ (32 - b))).length = n ∧ 2147483648 ≤ (digs W32 (y * 2 ^ (32 - b))).getD (n - 1) 0 ∧ W32 ^ (n - 1) ≤ y := by
  have hy : y ≠ 0 := by rintro rfl; rw [digs_zero] at hl; simp at hl; omega
  have hge := digs_ge W32_gt hy
  rw [hl] at hge
  have htd := digs_topdigit W32_gt hn hl
  rw [ht] at htd
  have hW : W32 = 4294967296 := rfl
  have hP : 0 < W32 ^ (n - 1) := Nat.pow_pos (by decide)
  have ht1 : 1 ≤ t := by rw [htd]; exact Nat.div_pos hge hP
  have htb : t < 4294967296 := by rw [← ht]; exact (ok_digs W32_gt y).getD (by decide) _
  obtain ⟨b1, b2, b3⟩ := Lib.bitLenAux_bounds 64 t (by omega) (by omega)
  have hb' : Lib.bitLenAux 64 t = b := hb
  rw [hb'] at b1 b2 b3
  have hb32 : b ≤ 32 := by rw [← hb]; exact Lib.bitLen_le t 32 (by omega) (by omega)
  have hlo : t * W32 ^ (n - 1) ≤ y := by rw [htd]; exact Nat.div_mul_le_self _ _
  have hhi : y < (t + 1) * W32 ^ (n - 1) := by
    rw [htd, Nat.add_mul, Nat.one_mul, Nat.mul_comm]
    have := Nat.div_add_mod y (W32 ^ (n - 1))
    have := Nat.mod_lt y hP
    omega
  have e1 : (2 : Nat) ^ b * 2 ^ (32 - b) = W32 := by rw [← Nat.pow_add, Nat.add_sub_cancel' hb32]; rfl
  have e2 : (2 : Nat) ^ (b - 1) * 2 ^ (32 - b) = 2147483648 := by rw [← Nat.pow_add, show b - 1 + (32 - b) = 31 from by omega]
  have hV1 : 2147483648 * W32 ^ (n - 1) ≤ y * 2 ^ (32 - b) := by
    have h1 : 2 ^ (b - 1) * W32 ^ (n - 1) ≤ y := Nat.le_trans (Nat.mul_le_mul_right _ b2) hlo
    have h2 := Nat.mul_le_mul_right (2 ^ (32 - b)) h1
    rwa [Nat.mul_right_comm, e2] at h2
  have hV2 : y * 2 ^ (32 - b) < W32 ^ n := by
    have h1 : y < 2 ^ b * W32 ^ (n - 1) := Nat.lt_of_lt_of_le hhi (Nat.mul_le_mul_right _ b3)
    have h2 := Nat.mul_lt_mul_of_pos_right h1 (Nat.pow_pos (n := 32 - b) (show 0 < 2 by omega))
    rw [Nat.mul_right_comm, e1, Nat.mul_comm W32, ← Nat.pow_succ, show (n - 1).succ = n from by omega] at h2
    exact h2
  have hlen := digs_len_eq W32_gt hn (Nat.le_trans (Nat.le_mul_of_pos_left _ (by omega)) hV1) hV2
  refine ⟨b1, hb32, hlen, ?_, hge⟩
  rw [digs_topdigit W32_gt hn hlen, Nat.le_div_iff_mul_le hP]
  exact hV1
def DivInv (A V : Nat) (us qs : List Nat) (j : Nat) : Prop := A = val W32 us + V * (W32 ^ j * val W32 (qs.drop j)) ∧ val W32 (us.drop j) < V
theorem div_start {x y s la n : Nat} {us : List Nat} (hla : x < W32 ^ la) (hy : W32 ^ (n - 1) ≤ y) (hn : 1 ≤ n) (hnl : n ≤ la + 1) (hs : 0 < 2 ^ s) (hu : val W32 us = x * 2 ^ s) :
    DivInv (x * 2 ^ s) (y * 2 ^ s) us (List.replicate (la + 1 - n) 0) (la + 1 - n) := by
  refine ⟨?_, ?_⟩
  · rw [List.drop_replicate, val_replicate, Nat.mul_zero, Nat.mul_zero, Nat.add_zero, hu]
  · have h1 := val_split W32 us (la + 1 - n)
    rw [hu] at h1
    rcases Nat.lt_or_ge (val W32 (us.drop (la + 1 - n))) (y * 2 ^ s) with h | h
    · exact h
    · exfalso
      have h2 : W32 ^ (la + 1 - n) * (y * 2 ^ s) ≤ x * 2 ^ s := Nat.le_trans (Nat.mul_le_mul_left _ h) (by omega)
      have h3 : W32 ^ (la + 1 - n) * (W32 ^ (n - 1) * 2 ^ s) ≤ W32 ^ (la + 1 - n) * (y * 2 ^ s) := Nat.mul_le_mul_left _ (Nat.mul_le_mul_right _ hy)
      rw [← Nat.mul_assoc, ← Nat.pow_add, show la + 1 - n + (n - 1) = la from by omega] at h3
      have h4 := Nat.mul_lt_mul_of_pos_right hla hs
      omega
theorem div_cur {A V : Nat} {us qs : List Nat} {j n : Nat} (h : DivInv A V us qs (j + 1)) (ho : Ok W32 us) (hV : V ≤ W32 ^ n) (hjn : j + n + 1 ≤ us.length) :
    val W32 ((us.drop j).take (n + 1)) = val W32 (us.drop j) ∧ val W32 (us.drop j) < V * 4294967296 ∧ val W32 (us.drop (j + n + 1)) = 0 := by
  have h1 := val_drop_step W32 us j
  have h2 := ho.getD (by decide) j
  have hW : W32 = 4294967296 := rfl
  have h3 : val W32 (us.drop j) < V * 4294967296 := by
    have h4 : W32 * (val W32 (us.drop (j + 1)) + 1) ≤ W32 * V := Nat.mul_le_mul_left _ h.2
    rw [h1, Nat.mul_comm V, ← hW]
    rw [Nat.mul_add, Nat.mul_one] at h4
    omega
  have h5 := val_split W32 (us.drop j) (n + 1)
  rw [List.drop_drop, show j + (n + 1) = j + n + 1 from by omega] at h5
  have h6 : val W32 (us.drop (j + n + 1)) = 0 := by
    rcases Nat.eq_zero_or_pos (val W32 (us.drop (j + n + 1))) with h7 | h7
    · exact h7
    · exfalso
      have h8 : W32 ^ (n + 1) * 1 ≤ W32 ^ (n + 1) * val W32 (us.drop (j + n + 1)) := Nat.mul_le_mul_left _ h7
      have h9 : V * 4294967296 ≤ W32 ^ n * W32 := Nat.mul_le_mul_right _ hV
      rw [← Nat.pow_succ] at h9
      have e : W32 ^ n.succ = W32 ^ (n + 1) := rfl
      omega
  rw [h6, Nat.mul_zero, Nat.add_zero] at h5
  exact ⟨h5.symm, h3, h6⟩
theorem div_step {A V : Nat} {us qs cur' : List Nat} {j n : Nat} (h : DivInv A V us qs (j + 1)) (ho : Ok W32 us) (hV0 : 0 < V) (hV : V ≤ W32 ^ n) (hjn : j + n + 1 ≤ us.length) (hq : j < qs.length) (hl : cur'.length = n + 1)
    (hc : val W32 cur' = val W32 ((us.drop j).take (n + 1)) % V) :
    DivInv A V (us.take j ++ cur' ++ us.drop (j + n + 1)) (qs.set j (val W32 ((us.drop j).take (n + 1)) / V)) j := by
  obtain ⟨e1, e2, e3⟩ := div_cur h ho hV hjn
  rw [e1] at hc ⊢
  have hlt : (us.take j).length = j := by rw [List.length_take]; omega
  have hd : (us.take j ++ cur' ++ us.drop (j + n + 1)).drop j = cur' ++ us.drop (j + n + 1) := by
    rw [List.append_assoc, List.drop_append, hlt, Nat.sub_self, List.drop_zero, List.drop_of_length_le (by omega), List.nil_append]
  have hv : val W32 (cur' ++ us.drop (j + n + 1)) = val W32 (us.drop j) % V := by
    rw [val_append, e3, Nat.mul_zero, Nat.add_zero, hc]
  refine ⟨?_, ?_⟩
  · have hqd : (qs.set j (val W32 (us.drop j) / V)).drop j = val W32 (us.drop j) / V :: qs.drop (j + 1) := by
      rw [drop_cons _ _ (by simpa using hq), getD_set_self _ _ _ hq]
      congr 1
      rw [List.drop_set_of_lt (by omega)]
    rw [hqd, List.append_assoc, val_append, hv, hlt, val_cons]
    have h1 := h.1
    have h2 := val_split W32 us j
    have h3 := Nat.div_add_mod (val W32 (us.drop j)) V
    have h4 : W32 ^ j * val W32 (us.drop j) = V * (W32 ^ j * (val W32 (us.drop j) / V)) + W32 ^ j * (val W32 (us.drop j) % V) := by
      rw [Nat.mul_left_comm, ← Nat.mul_add, h3]
    have h5 : V * (W32 ^ j * (val W32 (us.drop j) / V + W32 * val W32 (qs.drop (j + 1)))) = V * (W32 ^ j * (val W32 (us.drop j) / V)) + V * (W32 ^ (j + 1) * val W32 (qs.drop (j + 1))) := by
      rw [Nat.mul_add, Nat.mul_add, Nat.pow_succ, Nat.mul_assoc]
    rw [h5]
    omega
  · rw [hd, hv]
    exact Nat.mod_lt _ hV0
theorem div_end {x y s : Nat} {us qs : List Nat} (hy : 0 < y) (h : DivInv (x * 2 ^ s) (y * 2 ^ s) us qs 0) : val W32 qs = x / y ∧ val W32 us / 2 ^ s = x % y := by
  obtain ⟨h1, h2⟩ := h
  rw [List.drop_zero] at h2
  rw [List.drop_zero, Nat.pow_zero, Nat.one_mul] at h1
  have hs : 0 < 2 ^ s := Nat.pow_pos (by omega)
  have e1 : x / y = val W32 qs := by
    have h3 : x * 2 ^ s / (y * 2 ^ s) = x / y := Nat.mul_div_mul_right _ _ hs
    rw [← h3, h1, Nat.add_mul_div_left _ _ (by omega), Nat.div_eq_of_lt h2, Nat.zero_add]
  refine ⟨e1.symm, ?_⟩
  have h4 : x * 2 ^ s % (y * 2 ^ s) = (x % y) * 2 ^ s := Nat.mul_mod_mul_right _ _ _
  have h5 : x * 2 ^ s % (y * 2 ^ s) = val W32 us := by rw [h1, Nat.add_mul_mod_self_left, Nat.mod_eq_of_lt h2]
  rw [← h5, h4, Nat.mul_div_cancel _ hs]
theorem Own.heap {k : IntKind} {T : TypeId} {w : World} {B g n : Nat} {xs : List Nat} (h : Own k T w B g n n xs) : w.heap[g]? = some (.cells (cellsN k xs).toArray T (0, 0)) := by
  rcases h.2.2 with ⟨h', _⟩ | ⟨g', cap', cur, h', hb, hh, h1, h2, h3, h4⟩
  · simp at h'
  · simp only [Value.slice.injEq, Option.some.injEq, Addr.mk.injEq, and_true, true_and] at h'
    obtain ⟨rfl, rfl⟩ := h'
    rw [hh]
    congr 2
    rw [List.take_of_length_le (by rw [Array.length_toList]; omega)] at h4
    rw [← h4]
theorem Own.of_heap {k : IntKind} {T : TypeId} {w : World} {B g n : Nat} {xs : List Nat} (h : w.heap[g]? = some (.cells (cellsN k xs).toArray T (0, 0))) (hl : xs.length = n) (hB : B ≤ g) (hm : n ≤ maxLen) : Own k T w B g n n xs := by
  refine ⟨hl, by rw [cellsN_len, hl, Nat.mul_one], .inr ⟨g, n, _, rfl, hB, h, Nat.le_refl _, hm, ?_, ?_⟩⟩
  · rw [List.size_toArray, cellsN_len, hl, Nat.mul_one]
  · rw [List.take_of_length_le (by rw [cellsN_len, hl, Nat.mul_one]; exact Nat.le_refl _)]
theorem splice_cells {k : IntKind} {xs ys : List Nat} : splice (cellsN k xs) 0 (cellsN k ys) = cellsN k (ys ++ xs.drop ys.length) := by
  unfold splice
  rw [List.take_zero, List.nil_append, Nat.zero_add, cellsN_len, ← cellsN_append]
  congr 1
  unfold cellsN
  rw [List.map_drop]
theorem wpList_copy_Own {P : Program} {w : World} {ops : Array Oper} {rest : List Oper} {o : Oper} {a : Act} {Q : Exit → Act → World → Prop} (hgd : o.guard = none) (d s : Operand) (dT sT : TypeId)
    (ho : o.op = .call { callee := .builtin .copy, args := #[d, s], argTypes := #[dT, sT] }) (elem : TypeId) (hu : P.underlying dT = some (.slice elem)) (hsz : (P.info? elem).map (·.size) = some 1)
    (k : IntKind) (T : TypeId) (B g n : Nat) (xs ys : List Nat) (A : Option Addr) (m c : Nat) (hd : a.eval d = .slice (some ⟨g, 0, none⟩) n n) (hs : a.eval s = .slice A m c)
    (hown : Own k T w B g n n xs) (hr : Rd k w w.heap.size A m ys) (hmn : m ≤ n)
    (h : ∀ w', Own k T w' B g n n (ys ++ xs.drop m) → Below g w w' → wpList P ops Q rest (a.put o.dst (goInt m)) w') : wpList P ops Q (o :: rest) a w := by
  have hl := hr.1
  refine wpList_copy_splice hgd d s dT sT ho elem hu hsz _ _ _ _ _ _ hd hs g 0 (cellsN k xs) T hown.heap (cellsN k ys) (by rw [cellsN_len, hl]; exact (Nat.min_eq_left hmn).symm) ?_ (by rw [cellsN_len, cellsN_len, hl, hown.1]; omega) cellsN_one g w (Below.refl _ _) (Nat.le_refl _) ?_
  · intro h0
    rw [cellsN_len, hl] at h0
    obtain ⟨b, o', e, _⟩ := hr.2 h0
    subst e
    exact ⟨rfl, _, rfl, rd_news hr⟩
  · intro w' hw' hb
    have e : (goInt (cellsN k ys).length) = goInt m := by rw [cellsN_len, hl]
    rw [e]
    refine h w' (Own.of_heap ?_ ?_ hown.lt.1 hown.cap.2) hb
    · have h1 := hw'.out
      rw [splice_cells, hl] at h1
      exact h1
    · rw [List.length_append, List.length_drop, hl, hown.1]; omega
theorem nat32_zero (w : World) : Nat32 w (.slice none 0 0) 0 := by
  unfold Nat32
  rw [digs_zero]
  exact (OwnV.nil_ (B := 0) (T := 0) w).sl
theorem size_u32 : (Tryz.prog.info? 89).map (·.size) = some 1 := by kernel_rfl
def DMPost (w : World) (q r : Nat) (e : Ending) (w' : World) : Prop := ∃ v u, e = .returned (.tuple #[v, u]) ∧ Nat32 w' v q ∧ Nat32 w' u r ∧ Below w.heap.size w w'
set_option maxHeartbeats 1600000 in
theorem divMod_small (x y : Nat) (va vb : Value) (w : World) (ha : Nat32 w va x) (hb : Nat32 w vb y) (hx : (digs W32 x).length ≤ 50000) (h : x < y) :
    Calls Tryz.prog 266 #[va, vb] w (DMPost w (x / y) (x % y)) := by
  have HA := Lib.hid ha
  have HB := Lib.hid hb
  have HC : Hid (cmpI x y = -1) := cmpI_lt h
  have HR : Hid (x / y = 0 ∧ x % y = x) := ⟨Nat.div_eq_of_lt h, Nat.mod_eq_of_lt h⟩
  clear ha hb h
  go_enter Tryz.func266, Tryz.ntmps266
  go_wp2_with fail
  refine (compare_any x y va vb _ HA.out HB.out).mono ?_
  rintro e w1 ⟨rfl, m, rfl⟩
  rw [HC.out]
  go_wp2_with (go_at_call 78; refine (clone_any (digs W32 x) _ _ (by exact HA.out) (by omega)).mono ?_; rintro e w2 ⟨v2, rfl, hown, hbel⟩)
  go_ret2
  rw [HR.out.1, HR.out.2]
  exact ⟨_, _, rfl, nat32_zero _, hown.sl, below_undrewN hbel⟩
set_option maxHeartbeats 1600000 in
theorem divMod_one (x y : Nat) (va vb : Value) (w : World) (ha : Nat32 w va x) (hb : Nat32 w vb y) (hx : (digs W32 x).length ≤ 50000) (hy0 : 0 < y) (h : y ≤ x) (h1 : (digs W32 y).length = 1) :
    Calls Tryz.prog 266 #[va, vb] w (DMPost w (x / y) (x % y)) := by
  have HA := Lib.hid ha
  have HB := Lib.hid hb
  have hc : 0 ≤ cmpI x y := cmpI_nonneg.2 h
  have hy : y < 4294967296 := by have := digs_lt (n := y) W32_gt; rw [h1, Nat.pow_one] at this; exact this
  have HY : Hid (digs W32 y = [y]) := digs_eq W32_gt (Ok.cons hy Ok.nil) (by simp [Top]; omega) (by simp)
  obtain ⟨A, c, rfl, hcb, hmb, hrb⟩ := hb
  rw [HY.out] at hrb hcb
  rw [h1]
  obtain ⟨b, o, p, rfl, hbl, hpe, hcell⟩ := hrb.at_ (i := 0) (by simp)
  rw [Nat.add_zero] at hcell
  have : p = y := by rw [← hpe]; rfl
  subst this
  clear ha hrb hpe h h1 hcb
  obtain ⟨cm, hcm⟩ : ∃ cm, cm = cmpI x p := ⟨_, rfl⟩
  have HCM := Lib.hid hcm
  rw [← hcm] at hc
  clear hcm
  go_enter Tryz.func266, Tryz.ntmps266
  go_wp2_with fail
  refine (compare_any x p va _ _ HA.out (by have h := HB.out; unfold Nat32 at *; rw [HY.out] at *; exact h)).mono ?_
  rintro e w1 ⟨rfl, m, rfl⟩
  rw [← HCM.out]
  go_wp2_with fail
  refine (divSmall_nat x p va _ (by exact HA.out) (by omega) hy0 hy).mono ?_
  rintro e w2 ⟨v2, rfl, hq, hbel⟩
  have hr1 : x % p < 4294967296 := by have := Nat.mod_lt x hy0; omega
  generalize hxp : x % p = r at *
  have HXP := Lib.hid hxp
  have HQ := Lib.hid hq
  have HBE := Lib.hid hbel
  clear hxp hq hbel
  go_wp2_with fail
  refine (of_any r _ (by omega)).mono ?_
  rintro e w3 ⟨v3, rfl, hr3, hb3⟩
  go_wp2
  go_ret2
  exact ⟨_, _, rfl, Sl.to HQ.out hb3, hr3, below_undrewN (HBE.out.trans (hb3.mono HBE.out.size))⟩
theorem split3 (us : List Nat) (i n : Nat) : us.take i ++ (us.drop i).take (n + 1) ++ us.drop (i + n + 1) = us := by
  rw [show i + n + 1 = i + (n + 1) from by omega, ← List.drop_drop, List.append_assoc, List.take_append_drop, List.take_append_drop]
theorem grown_below {B g : Nat} {a w w' : World} (h : Below B a w) (hg : w.grownBy w' (some g)) (hB : B ≤ w.heap.size) (hgB : B ≤ g) : Below B a w' :=
  h.grown hg hB (fun k hk => by injection hk with hk; omega)
set_option maxHeartbeats 3200000 in
theorem divMod_long (x y : Nat) (va vb : Value) (w : World) (ha : Nat32 w va x) (hb : Nat32 w vb y) (hx : (digs W32 x).length ≤ 50000) (h : y ≤ x) (n : Nat) (h1 : (digs W32 y).length = n) (hn2 : 2 ≤ n) :
    Calls Tryz.prog 266 #[va, vb] w (DMPost w (x / y) (x % y)) := by
  have HA := Lib.hid ha
  have HB := Lib.hid hb
  have hc : 0 ≤ cmpI x y := cmpI_nonneg.2 h
  have hnl : n ≤ (digs W32 x).length := by rw [← h1]; exact digs_len_mono W32_gt h
  obtain ⟨top, htop⟩ : ∃ top, (digs W32 y).getD (n - 1) 0 = top := ⟨_, rfl⟩
  have htb : top < 4294967296 := by rw [← htop]; exact (ok_digs W32_gt y).getD (by decide) _
  obtain ⟨bl, hbl⟩ : ∃ bl, Lib.bitLen top = bl := ⟨_, rfl⟩
  obtain ⟨n1, n2, n3, n4, n5⟩ := norm_facts (by omega) h1 htop hbl
  obtain ⟨A, c, rfl, hcb, hmb, hrb⟩ := hb
  obtain ⟨A0, c0, rfl, hca, hma, hra⟩ := ha
  rw [h1] at hrb hcb ⊢
  have hxl := digs_lt (n := x) W32_gt
  generalize hla : (digs W32 x).length = la at *
  obtain ⟨b, o, p, rfl, hbb, hpe, hcell⟩ := hrb.at_ (i := n - 1) (by omega)
  obtain rfl : p = top := by rw [← hpe, htop]
  have hlb : (Lib.bitLen ((p : Int)).toNat : Int) = (bl : Int) := by rw [Int.toNat_natCast, hbl]
  obtain ⟨s, hs⟩ : ∃ s, s = 32 - bl := ⟨_, rfl⟩
  rw [← hs] at n3 n4
  have hsi : (32 : Int) - (bl : Int) = (s : Int) := by omega
  have hs31 : s < 32 := by omega
  obtain ⟨cm, hcm⟩ : ∃ cm, cm = cmpI x y := ⟨_, rfl⟩
  have HCM := Lib.hid hcm
  rw [← hcm] at hc
  have HN : Hid ((digs W32 (y * 2 ^ s)).length = n ∧ 2147483648 ≤ (digs W32 (y * 2 ^ s)).getD (n - 1) 0 ∧ W32 ^ (n - 1) ≤ y) := ⟨n3, n4, n5⟩
  have HLB := Lib.hid (And.intro hlb hsi)
  have HXL := Lib.hid hxl
  have HB2 : Hid (Nat32 w (.slice (some ⟨b, o, none⟩) n c) y) := by
    have h := HB.out
    unfold Nat32 at *
    rw [h1] at h
    exact h
  have HA2 : Hid (Nat32 w (.slice A0 la c0) x) := HA.out
  have HLA := Lib.hid hla
  have HH1 := Lib.hid h1
  have hb1 : ((n : Int) == 1) = false := beq_eq_false_iff_ne.2 (by omega)
  unfold maxLen at hmb hma
  clear hcm hla h1 htop hbl hpe hxl n3 n4 n5 hrb hra hlb hsi hs n1 n2
  go_enter Tryz.func266, Tryz.ntmps266
  go_wp2_with fail
  refine (compare_any x y _ _ _ HA2.out HB2.out).mono ?_
  rintro e w1 ⟨rfl, m, rfl⟩
  rw [← HCM.out]
  go_wp2_with fail
  refine (Tryz.bits_LeadingZeros32 (p : Int) _ (by omega) (by omega)).mono ?_
  rintro e w1 ⟨rfl, rfl⟩
  rw [HLB.out.1, HLB.out.2]
  go_wp2_with fail
  refine (shl_any y s _ _ (by exact HB2.out) (by rw [HH1.out]; omega) (by omega)).mono ?_
  rintro e w1 ⟨vv, rfl, hvv, hbel1⟩
  have hbel1' := below_undrewN hbel1
  have HB1 := Lib.hid hbel1'
  obtain ⟨Av, cv, rfl, hcv, hmv, hrv⟩ := hvv
  rw [HN.out.1] at hrv hcv ⊢
  have HRV := Lib.hid hrv
  clear hrv hbel1 hbel1'
  obtain ⟨i0, hi0, hz0, hz1, hz2⟩ := info_parts info_u32
  have HI := Lib.hid hi0
  have HZ0 := Lib.hid hz0
  have HZ1 := Lib.hid hz1
  have HZ2 := Lib.hid hz2
  clear hi0 hz0 hz1 hz2
  obtain ⟨gu, hgu⟩ : ∃ gu, gu = w1.heap.size := ⟨_, rfl⟩
  have HGU := Lib.hid hgu
  go_wp2_with (at_make; refine wpList_make_full _ rfl _ _ 22 rfl w.heap.size 89 i0 (.int .u32 0) 1 Tryz.underlying22 HI.out HZ0.out HZ1.out .i64 .i64 _ _ (la + 1) rfl rfl (by omega) (by omega) (by rw [HZ2.out]; omega) (by unfold maxLen; omega) HB1.out.size ?_; intro w2 hown2 hg2)
  rw [← hgu] at hown2 ⊢
  have HO2 := Lib.hid (Own.made hown2)
  have HB2' := Lib.hid (HB1.out.grown hg2 HB1.out.size (by simp))
  have HBV2 : Hid (Below gu w1 w2) := (Below.refl gu w1).grown hg2 (by rw [hgu]; exact Nat.le_refl _) (by simp)
  have HGW : Hid (w.heap.size ≤ gu) := by rw [hgu]; exact HB1.out.size
  have HRV' : Hid (Rd .u32 w1 gu Av n (digs W32 (y * 2 ^ s))) := by rw [hgu]; exact HRV.out
  have HGL2 : Hid (gu < w2.heap.size) := HO2.out.lt.2
  clear hown2 hg2 hgu
  refine (shl_any x s _ _ (HA2.out.to HB2'.out) (by rw [HLA.out]; omega) (by omega)).mono ?_
  rintro e w3 ⟨v3, rfl, ⟨A3, c3, rfl, hc3, hm3, hr3⟩, hb3⟩
  have hl3 : (digs W32 (x * 2 ^ s)).length ≤ la + 1 := by
    refine digs_len_le W32_gt ?_
    have h2 : (2 : Nat) ^ s ≤ W32 := by rw [show W32 = 2 ^ 32 from rfl]; exact Nat.pow_le_pow_right (by omega) (by omega)
    have h3 := Nat.mul_lt_mul_of_pos_right HXL.out (Nat.pow_pos (n := s) (show 0 < 2 by omega))
    have h4 : W32 ^ la * 2 ^ s ≤ W32 ^ (la + 1) := by rw [Nat.pow_succ]; exact Nat.mul_le_mul_left _ h2
    omega
  generalize hl3e : (digs W32 (x * 2 ^ s)).length = l3 at *
  have HL3 := Lib.hid hl3e
  have HR3 := Lib.hid hr3
  have HB3 := Lib.hid hb3
  have HO3 : Hid (Own .u32 89 w3 w.heap.size gu (la + 1) (la + 1) (List.replicate (la + 1) 0)) := HO2.out.to hb3
  clear hl3e hr3 hb3
  unfold maxLen at hm3 hmv
  go_wp2_with (first
    | ((with_reducible refine wpList_copy_Own rfl (.tmp 48) (.tmp 51) 22 22 rfl 89 Tryz.underlying22 size_u32 .u32 89 w.heap.size gu (la + 1) (List.replicate (la + 1) 0) (digs W32 (x * 2 ^ s)) A3 l3 c3 rfl rfl HO3.out HR3.out hl3 ?_); intro w4 hown4 hb4)
    | (at_make; refine wpList_make_full _ rfl _ _ 22 rfl w.heap.size 89 i0 (.int .u32 0) 1 Tryz.underlying22 HI.out HZ0.out HZ1.out .i64 .i64 _ _ (la + 1 - n) rfl rfl (by omega) (by omega) (by rw [HZ2.out]; omega) (by unfold maxLen; omega) (Nat.le_trans HB2'.out.size (Nat.le_trans HB3.out.size hb4.size)) ?_; intro w5 hown5 hg5))
  obtain ⟨gq, hgq⟩ : ∃ gq, gq = w4.heap.size := ⟨_, rfl⟩
  rw [← hgq] at hown5 ⊢
  obtain ⟨us0, hus0⟩ : ∃ us0, us0 = digs W32 (x * 2 ^ s) ++ List.drop l3 (List.replicate (la + 1) 0) := ⟨_, rfl⟩
  rw [← hus0] at hown4
  have HU0 : Hid (val W32 us0 = x * 2 ^ s ∧ Ok W32 us0 ∧ us0.length = la + 1) := by
    subst hus0
    refine ⟨?_, (ok_digs W32_gt _).append ((ok_replicate (by decide)).drop _), ?_⟩
    · rw [List.drop_replicate, val_append_zeros, val_digs W32_gt]
    · rw [List.length_append, List.length_drop, List.length_replicate, HL3.out]; omega
  have HQ5 := Lib.hid (Own.made hown5)
  have HB4 : Hid (Below w.heap.size w w4) := ((HB2'.out.trans (HB3.out.mono HB2'.out.size)).trans (hb4.mono HGW.out))
  have HBV4 : Hid (Below gu w1 w4) := (HBV2.out.trans (HB3.out.mono (Nat.le_of_lt HGL2.out))).trans hb4
  have HB5 : Hid (Below w.heap.size w w5) := HB4.out.grown hg5 HB4.out.size (by simp)
  have HGUQ : Hid (gu < gq) := by rw [hgq]; exact Nat.lt_of_lt_of_le HGL2.out (Nat.le_trans HB3.out.size hb4.size)
  have HBV5 : Hid (Below gu w1 w5) := HBV4.out.grown hg5 (by rw [← hgq]; exact Nat.le_of_lt HGUQ.out) (by simp)
  have HU5 : Hid (Own .u32 89 w5 w.heap.size gu (la + 1) (la + 1) us0) := hown4.block (hg5.block gu hown4.lt.2 (by simp))
  have HWG : Hid (w.heap.size ≤ gq) := by rw [hgq]; exact HB4.out.size
  clear hown4 hown5 hg5 hb4 hgq hus0
  obtain ⟨mq, hmq⟩ : ∃ mq, mq = la + 1 - n := ⟨_, rfl⟩
  rw [← hmq] at HQ5 ⊢
  have HMQ := Lib.hid hmq
  have hmq1 : mq + n = la + 1 := by omega
  have HV0 : Hid (0 < y * 2 ^ s ∧ y * 2 ^ s ≤ W32 ^ n ∧ 0 < y) := by
    have h1 := digs_lt (n := y * 2 ^ s) W32_gt
    rw [HN.out.1] at h1
    have h2 : 0 < y := Nat.lt_of_lt_of_le (Nat.pow_pos (by decide)) HN.out.2.2
    exact ⟨Nat.mul_pos h2 (Nat.pow_pos (by omega)), Nat.le_of_lt h1, h2⟩
  have HINV : Hid (DivInv (x * 2 ^ s) (y * 2 ^ s) us0 (List.replicate mq 0) mq) := by
    rw [hmq]; exact div_start HXL.out HN.out.2.2 (by omega) (by omega) (Nat.pow_pos (by omega)) HU0.out.1
  clear hmq
  have HM1 := Lib.hid hmq1
  have hmq2 : mq + n ≤ la + 1 := by omega
  have hmq3 : la + 1 ≤ mq + n := by omega
  clear hmq1
  go_loopg [12] (mq + 1) (fun g si wr => ∃ (j : Nat) (us qs : List Nat), g = j + 1 ∧ j ≤ mq ∧ si = .int .i64 ((j : Int) - 1) ∧ Hid (Own .u32 89 wr w.heap.size gu (la + 1) (la + 1) us) ∧ Hid (Own .u32 89 wr w.heap.size gq mq mq qs) ∧ Hid (Ok W32 us ∧ Ok W32 qs) ∧ Hid (DivInv (x * 2 ^ s) (y * 2 ^ s) us qs j) ∧ Hid (Below w.heap.size w wr) ∧ Hid (Below gu w1 wr))
  case atStart => exact ⟨mq, us0, _, rfl, Nat.le_refl _, rfl, HU5.out, HQ5.out, ⟨HU0.out.2.1, ok_replicate (by decide)⟩, HINV.out, HB5.out, HBV5.out⟩
  case round =>
    obtain ⟨j, us, qs, rfl, hj, rfl, HU, HQ, HOK, HIN, HBW, HBV⟩ := hrel
    by_cases h0 : 0 < j
    · obtain ⟨i, rfl⟩ : ∃ i, j = i + 1 := ⟨j - 1, by omega⟩
      have hjc : ((i + 1 : Nat) : Int) - 1 = (i : Int) := by omega
      rw [hjc]
      clear hjc
      have hul : us.length = la + 1 := HU.out.1
      have hcl : ((us.drop i).take (n + 1)).length = n + 1 := by rw [List.length_take, List.length_drop]; omega
      have hcur := div_cur HIN.out HOK.out.1 HV0.out.2.1 (by omega : i + n + 1 ≤ us.length)
      have HKD : Hid (KD ((us.drop i).take (n + 1)) (digs W32 (y * 2 ^ s)) n _ _ _ _) := ⟨hcl, HN.out.1, (HOK.out.1.drop _).take _, ok_digs W32_gt _, hn2, rfl, rfl, rfl, rfl, HN.out.2.1, by rw [val_digs W32_gt, hcur.1]; exact hcur.2.1⟩
      have HCL := Lib.hid hcl
      have HUL := Lib.hid hul
      clear hcl hcur hul
      go_wp2_with fail
      rw [show i + n + 1 - i = n + 1 from by omega]
      refine (digit_any (us.take i) ((us.drop i).take (n + 1)) (us.drop (i + n + 1)) (digs W32 (y * 2 ^ s)) gu w.heap.size (la + 1) (la + 1) i n (la + 1 - i) cv Av wr (by rw [split3]; exact HU.out) (by rw [List.length_take, HUL.out]; omega) (HRV'.out.below HBV.out) _ _ _ _ HKD.out (by omega) (by omega) (by omega)).mono ?_
      rintro e w6 ⟨us', rfl, hown6, hl6, hok6, hv6, hg6⟩
      rw [val_digs W32_gt] at hv6 ⊢
      have HQ6 : Hid (Own .u32 89 w6 w.heap.size gq mq mq qs) := HQ.out.block (hg6.block gq HQ.out.lt.2 (fun e => by injection e with e; have := HGUQ.out; omega))
      have hqd : val W32 ((us.drop i).take (n + 1)) / (y * 2 ^ s) < 4294967296 := by have := HKD.out.div_lt; rw [val_digs W32_gt] at this; exact this
      generalize hqe : val W32 ((us.drop i).take (n + 1)) / (y * 2 ^ s) = qd at *
      have HQE := Lib.hid hqe
      have H6 : Hid (Own .u32 89 w6 w.heap.size gu (la + 1) (la + 1) (us.take i ++ us' ++ us.drop (i + n + 1)) ∧ us'.length = n + 1 ∧ Ok W32 us' ∧ val W32 us' = val W32 ((us.drop i).take (n + 1)) % (y * 2 ^ s) ∧ wr.grownBy w6 (some gu)) := ⟨hown6, hl6, hok6, hv6, hg6⟩
      obtain ⟨yq, hyq⟩ : ∃ yq : Nat, w6.cell? ⟨gq, i, none⟩ = some (.int .u32 (yq : Int)) := ⟨_, HQ6.out.cell (by omega)⟩
      have hfq := HQ6.out.frozen i
      clear hown6 hl6 hok6 hv6 hg6 hqe
      go_wp2
      go_roundg (i + 1)
      case measure => omega
      case rel =>
        obtain ⟨o1, o2, o3, o4, o5⟩ := H6.out
        refine ⟨i, us.take i ++ us' ++ us.drop (i + n + 1), qs.set i qd, rfl, by omega, rfl, o1.far (by show gu ≠ gq; have := HGUQ.out; omega) _, HQ6.out.stored _ _, ⟨((HOK.out.1.take _).append o3).append (HOK.out.1.drop _), HOK.out.2.set hqd⟩, ?_, (grown_below HBW.out o5 HBW.out.size HGW.out).setCell HWG.out _, (grown_below HBV.out o5 (Nat.le_of_lt HU.out.lt.2) (Nat.le_refl _)).setCell (Nat.le_of_lt HGUQ.out) _⟩
        have hs := div_step (cur' := us') HIN.out HOK.out.1 HV0.out.1 HV0.out.2.1 (by rw [HUL.out]; omega) (by rw [HQ.out.1]; omega) o2 o4
        rw [HQE.out] at hs
        exact hs
    · obtain rfl : j = 0 := by omega
      clear h0 hj
      have hend := div_end HV0.out.2.2 HIN.out
      have HEND := Lib.hid hend
      clear hend
      go_wp2_with fail
      refine (trim_sl us _ _ HU.out.sl HOK.out.1).mono ?_
      rintro e w7 ⟨v7, rfl, hn7, rfl⟩
      have hl7 : (digs W32 (val W32 us)).length ≤ 100000 := by
        have h1 := val_lt HOK.out.1
        rw [HU.out.1] at h1
        have := digs_len_le W32_gt h1
        omega
      have HN7 := Lib.hid hn7
      clear hn7
      go_wp2_with fail
      refine (shr_any (val W32 us) s _ _ HN7.out hl7 (by omega)).mono ?_
      rintro e w8 ⟨v8, rfl, hn8, hb8⟩
      rw [HEND.out.2] at hn8
      have HN8 := Lib.hid hn8
      have HB8 := Lib.hid hb8
      have HQ8 := Lib.hid (HQ.out.to hb8)
      clear hn8 hb8
      go_wp2_with fail
      refine (trim_sl qs _ _ HQ8.out.sl HOK.out.2).mono ?_
      rintro e w9 ⟨v9, rfl, hn9, rfl⟩
      rw [HEND.out.1] at hn9
      have HN9 := Lib.hid hn9
      clear hn9
      go_wp2
      go_ret2
      exact ⟨_, _, rfl, HN9.out, HN8.out, HBW.out.trans (HB8.out.mono HBW.out.size)⟩
theorem divMod_any (x y : Nat) (va vb : Value) (w : World) (ha : Nat32 w va x) (hb : Nat32 w vb y) (hx : (digs W32 x).length ≤ 50000) (hy : 0 < y) :
    Calls Tryz.prog 266 #[va, vb] w (DMPost w (x / y) (x % y)) := by
  rcases Nat.lt_or_ge x y with h | h
  · exact divMod_small x y va vb w ha hb hx h
  · have hl : 1 ≤ (digs W32 y).length := by
      rcases Nat.eq_zero_or_pos (digs W32 y).length with h0 | h0
      · exact absurd ((digs_nil W32_gt).1 (List.eq_nil_of_length_eq_zero h0)) (by omega)
      · exact h0
    by_cases h1 : (digs W32 y).length = 1
    · exact divMod_one x y va vb w ha hb hx hy h h1
    · exact divMod_long x y va vb w ha hb hx h _ rfl (by omega)
theorem Nat32.to {w w' : World} {v : Value} {x : Nat} (h : Nat32 w v x) (hb : Below w.heap.size w w') : Nat32 w' v x := Sl.to h hb
theorem gcd_step (p q : Nat) : Nat.gcd q (p % q) = Nat.gcd p q := by
  rw [Nat.gcd_comm q (p % q), ← Nat.gcd_rec, Nat.gcd_comm]
def NPost (w : World) (x : Nat) (e : Ending) (w' : World) : Prop := ∃ v, e = .returned v ∧ Nat32 w' v x ∧ Below w.heap.size w w'
set_option maxHeartbeats 1600000 in
theorem gcd_any (x y : Nat) (va vb : Value) (w : World) (ha : Nat32 w va x) (hb : Nat32 w vb y) (hx : (digs W32 x).length ≤ 50000) (hy : (digs W32 y).length ≤ 50000) :
    Calls Tryz.prog 224 #[va, vb] w (NPost w (Nat.gcd x y)) := by
  have HA := Lib.hid ha
  have HB := Lib.hid hb
  clear ha hb
  go_enter Tryz.func224, Tryz.ntmps224
  go_wp2
  go_loopg [0, 1, 5, 6] y (fun gk s0 s1 s5 s6 wr => ∃ p : Nat, Hid (Nat32 wr s0 p) ∧ Hid (Nat32 wr s1 gk) ∧ Hid (Nat.gcd p gk = Nat.gcd x y) ∧ Hid (Below w.heap.size w wr) ∧ (digs W32 p).length ≤ 50000 ∧ (digs W32 gk).length ≤ 50000)
  case atStart => exact ⟨x, HA.out, HB.out, rfl, Below.refl _ _, hx, hy⟩
  case round =>
    obtain ⟨p, HP, HQ, HG, HBe, hp, hq⟩ := hrel
    by_cases h0 : gk = 0
    · subst h0
      obtain ⟨A, c, hs1, hc, hm, hr⟩ := HQ.out
      rw [digs_zero] at hs1
      subst hs1
      clear hr hc
      go_wp2_with (go_at_call 78; refine (clone_any (digs W32 p) _ _ HP.out (by omega)).mono ?_; rintro e w2 ⟨v2, rfl, hown, hbel⟩)
      go_ret
      have hg := HG.out
      rw [Nat.gcd_zero_right] at hg
      exact ⟨_, rfl, by rw [← hg]; exact hown.sl, HBe.out.trans (hbel.mono HBe.out.size)⟩
    · obtain ⟨A, c, hs1, hc, hm, hr⟩ := HQ.out
      have hl : 0 < (digs W32 gk).length := by
        rcases Nat.eq_zero_or_pos (digs W32 gk).length with h1 | h1
        · exact absurd ((digs_nil W32_gt).1 (List.eq_nil_of_length_eq_zero h1)) h0
        · exact h1
      generalize hle : (digs W32 gk).length = l at hs1 hl hq
      subst hs1
      have HLE := Lib.hid hle
      clear hle hr hc
      go_wp2_with fail
      refine (divMod_any p gk _ _ _ HP.out HQ.out hp (by omega)).mono ?_
      rintro e w2 ⟨v2, u2, rfl, hv2, hu2, hb2⟩
      have HU2 := Lib.hid hu2
      have HB2 := Lib.hid hb2
      clear hv2 hu2 hb2
      go_wp2
      go_roundg (p % gk)
      case measure => exact Nat.mod_lt _ (by omega)
      case rel =>
        refine ⟨gk, HQ.out.to HB2.out, HU2.out, (gcd_step p gk).trans HG.out, HBe.out.trans (HB2.out.mono HBe.out.size), by rw [HLE.out]; exact hq, ?_⟩
        have := digs_len_mono (B := W32) W32_gt (Nat.le_of_lt (Nat.mod_lt p (show 0 < gk by omega)))
        rw [HLE.out] at this
        omega
end Go.Proofs.YtkfnpcilanheiaaGreat
