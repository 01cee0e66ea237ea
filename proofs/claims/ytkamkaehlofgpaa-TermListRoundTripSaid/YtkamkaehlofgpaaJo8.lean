/-  -/
import Derived.Lib.ItoaNum
import Derived.Laws.CopyOwn
import Derived.Test.YtkamkaehlofgpaaJo2
import Derived.Test.YtkamkaehlofgpaaJo3
import Derived.Test.YtkamkaehlofgpaaJo6
set_option linter.unusedVariables false
set_option linter.unusedSimpArgs false
/- Plain facts for nat.DivMod: the normalized divisor, the loop over the digits (no program). -/
namespace Go.Proofs.Ytkamkaehlofgpaa
open Go.RowKit NumB

theorem digs_len_eq {B X n : Nat} (hB : 1 < B) (hn : 1 ≤ n) (h1 : B ^ (n - 1) ≤ X) (h2 : X < B ^ n) : (digs B X).length = n := by
  have a := digs_len_le hB h2
  have b := (digs_len_gt (k := n - 1) (n := X) hB).2 h1
  omega
theorem digs_topdigit {B X : Nat} (hB : 1 < B) {n : Nat} (hn : 1 ≤ n) (hl : (digs B X).length = n) : (digs B X).getD (n - 1) 0 = X / B ^ (n - 1) := by
  have h1 := val_split B (digs B X) (n - 1)
  have h2 := val_drop_step B (digs B X) (n - 1)
  rw [List.drop_eq_nil_of_le (i := n - 1 + 1) (by omega), val_nil, Nat.mul_zero, Nat.add_zero] at h2
  have h3 := val_take_lt (ok_digs hB X) (j := n - 1) (by omega)
  rw [val_digs hB, h2] at h1
  have e : X / B ^ (n - 1) = (val B ((digs B X).take (n - 1)) + B ^ (n - 1) * (digs B X).getD (n - 1) 0) / B ^ (n - 1) := congrArg (fun z => z / B ^ (n - 1)) h1
  rw [e, Nat.add_mul_div_left _ _ (Nat.pow_pos (by omega)), Nat.div_eq_of_lt h3, Nat.zero_add]

/-- The divisor shifted so that its highest bit is set. -/
theorem norm_facts {y n t b : Nat} (hn : 1 ≤ n) (hl : (digs W32 y).length = n) (ht : (digs W32 y).getD (n - 1) 0 = t) (hb : Lib.bitLen t = b) :
    1 ≤ b ∧ b ≤ 32 ∧ (digs W32 (y * 2 ^ (32 - b))).length = n ∧ 2147483648 ≤ (digs W32 (y * 2 ^ (32 - b))).getD (n - 1) 0 ∧ W32 ^ (n - 1) ≤ y := by
  have hy : y ≠ 0 := by rintro rfl; rw [digs_zero] at hl; simp at hl; omega
  have hge := digs_ge W32_gt hy
  rw [hl] at hge
  have htd := digs_topdigit W32_gt hn hl
  rw [ht] at htd
  have hW : W32 = 4294967296 := rfl
  have hP : 0 < W32 ^ (n - 1) := Nat.pow_pos (by decide)
  have ht1 : 1 ≤ t := by rw [htd]; exact Nat.div_pos hge hP
  have htb : t < 4294967296 := by rw [← ht]; exact (ok_digs W32_gt y).getD (by decide) _
  obtain ⟨b1, b2, b3⟩ := Lib.bitLenAux_bounds 64 t (by omega) (by omega)
  have hb' : Lib.bitLenAux 64 t = b := hb
  rw [hb'] at b1 b2 b3
  have hb32 : b ≤ 32 := by rw [← hb]; exact Lib.bitLen_le t 32 (by omega) (by omega)
  have hlo : t * W32 ^ (n - 1) ≤ y := by rw [htd]; exact Nat.div_mul_le_self _ _
  have hhi : y < (t + 1) * W32 ^ (n - 1) := by
    rw [htd, Nat.add_mul, Nat.one_mul, Nat.mul_comm]
    have := Nat.div_add_mod y (W32 ^ (n - 1))
    have := Nat.mod_lt y hP
    omega
  have e1 : (2 : Nat) ^ b * 2 ^ (32 - b) = W32 := by rw [← Nat.pow_add, Nat.add_sub_cancel' hb32]; rfl
  have e2 : (2 : Nat) ^ (b - 1) * 2 ^ (32 - b) = 2147483648 := by rw [← Nat.pow_add, show b - 1 + (32 - b) = 31 from by omega]
  have hV1 : 2147483648 * W32 ^ (n - 1) ≤ y * 2 ^ (32 - b) := by
    have h1 : 2 ^ (b - 1) * W32 ^ (n - 1) ≤ y := Nat.le_trans (Nat.mul_le_mul_right _ b2) hlo
    have h2 := Nat.mul_le_mul_right (2 ^ (32 - b)) h1
    rwa [Nat.mul_right_comm, e2] at h2
  have hV2 : y * 2 ^ (32 - b) < W32 ^ n := by
    have h1 : y < 2 ^ b * W32 ^ (n - 1) := Nat.lt_of_lt_of_le hhi (Nat.mul_le_mul_right _ b3)
    have h2 := Nat.mul_lt_mul_of_pos_right h1 (Nat.pow_pos (n := 32 - b) (show 0 < 2 by omega))
    rw [Nat.mul_right_comm, e1, Nat.mul_comm W32, ← Nat.pow_succ, show (n - 1).succ = n from by omega] at h2
    exact h2
  have hlen := digs_len_eq W32_gt hn (Nat.le_trans (Nat.le_mul_of_pos_left _ (by omega)) hV1) hV2
  refine ⟨b1, hb32, hlen, ?_, hge⟩
  rw [digs_topdigit W32_gt hn hlen, Nat.le_div_iff_mul_le hP]
  exact hV1

/-- What holds ahead of the round for digit j - 1. -/
def DivInv (A V : Nat) (us qs : List Nat) (j : Nat) : Prop := A = val W32 us + V * (W32 ^ j * val W32 (qs.drop j)) ∧ val W32 (us.drop j) < V

theorem div_start {x y s la n : Nat} {us : List Nat} (hla : x < W32 ^ la) (hy : W32 ^ (n - 1) ≤ y) (hn : 1 ≤ n) (hnl : n ≤ la + 1) (hs : 0 < 2 ^ s) (hu : val W32 us = x * 2 ^ s) :
    DivInv (x * 2 ^ s) (y * 2 ^ s) us (List.replicate (la + 1 - n) 0) (la + 1 - n) := by
  refine ⟨?_, ?_⟩
  · rw [List.drop_replicate, val_replicate, Nat.mul_zero, Nat.mul_zero, Nat.add_zero, hu]
  · have h1 := val_split W32 us (la + 1 - n)
    rw [hu] at h1
    rcases Nat.lt_or_ge (val W32 (us.drop (la + 1 - n))) (y * 2 ^ s) with h | h
    · exact h
    · exfalso
      have h2 : W32 ^ (la + 1 - n) * (y * 2 ^ s) ≤ x * 2 ^ s := Nat.le_trans (Nat.mul_le_mul_left _ h) (by omega)
      have h3 : W32 ^ (la + 1 - n) * (W32 ^ (n - 1) * 2 ^ s) ≤ W32 ^ (la + 1 - n) * (y * 2 ^ s) := Nat.mul_le_mul_left _ (Nat.mul_le_mul_right _ hy)
      rw [← Nat.mul_assoc, ← Nat.pow_add, show la + 1 - n + (n - 1) = la from by omega] at h3
      have h4 := Nat.mul_lt_mul_of_pos_right hla hs
      omega

theorem div_cur {A V : Nat} {us qs : List Nat} {j n : Nat} (h : DivInv A V us qs (j + 1)) (ho : Ok W32 us) (hV : V ≤ W32 ^ n) (hjn : j + n + 1 ≤ us.length) :
    val W32 ((us.drop j).take (n + 1)) = val W32 (us.drop j) ∧ val W32 (us.drop j) < V * 4294967296 ∧ val W32 (us.drop (j + n + 1)) = 0 := by
  have h1 := val_drop_step W32 us j
  have h2 := ho.getD (by decide) j
  have hW : W32 = 4294967296 := rfl
  have h3 : val W32 (us.drop j) < V * 4294967296 := by
    have h4 : W32 * (val W32 (us.drop (j + 1)) + 1) ≤ W32 * V := Nat.mul_le_mul_left _ h.2
    rw [h1, Nat.mul_comm V, ← hW]
    rw [Nat.mul_add, Nat.mul_one] at h4
    omega
  have h5 := val_split W32 (us.drop j) (n + 1)
  rw [List.drop_drop, show j + (n + 1) = j + n + 1 from by omega] at h5
  have h6 : val W32 (us.drop (j + n + 1)) = 0 := by
    rcases Nat.eq_zero_or_pos (val W32 (us.drop (j + n + 1))) with h7 | h7
    · exact h7
    · exfalso
      have h8 : W32 ^ (n + 1) * 1 ≤ W32 ^ (n + 1) * val W32 (us.drop (j + n + 1)) := Nat.mul_le_mul_left _ h7
      have h9 : V * 4294967296 ≤ W32 ^ n * W32 := Nat.mul_le_mul_right _ hV
      rw [← Nat.pow_succ] at h9
      have e : W32 ^ n.succ = W32 ^ (n + 1) := rfl
      omega
  rw [h6, Nat.mul_zero, Nat.add_zero] at h5
  exact ⟨h5.symm, h3, h6⟩

theorem div_step {A V : Nat} {us qs cur' : List Nat} {j n : Nat} (h : DivInv A V us qs (j + 1)) (ho : Ok W32 us) (hV0 : 0 < V) (hV : V ≤ W32 ^ n) (hjn : j + n + 1 ≤ us.length) (hq : j < qs.length) (hl : cur'.length = n + 1)
    (hc : val W32 cur' = val W32 ((us.drop j).take (n + 1)) % V) :
    DivInv A V (us.take j ++ cur' ++ us.drop (j + n + 1)) (qs.set j (val W32 ((us.drop j).take (n + 1)) / V)) j := by
  obtain ⟨e1, e2, e3⟩ := div_cur h ho hV hjn
  rw [e1] at hc ⊢
  have hlt : (us.take j).length = j := by rw [List.length_take]; omega
  have hd : (us.take j ++ cur' ++ us.drop (j + n + 1)).drop j = cur' ++ us.drop (j + n + 1) := by
    rw [List.append_assoc, List.drop_append, hlt, Nat.sub_self, List.drop_zero, List.drop_of_length_le (by omega), List.nil_append]
  have hv : val W32 (cur' ++ us.drop (j + n + 1)) = val W32 (us.drop j) % V := by
    rw [val_append, e3, Nat.mul_zero, Nat.add_zero, hc]
  refine ⟨?_, ?_⟩
  · have hqd : (qs.set j (val W32 (us.drop j) / V)).drop j = val W32 (us.drop j) / V :: qs.drop (j + 1) := by
      rw [drop_cons _ _ (by simpa using hq), getD_set_self _ _ _ hq]
      congr 1
      rw [List.drop_set_of_lt (by omega)]
    rw [hqd, List.append_assoc, val_append, hv, hlt, val_cons]
    have h1 := h.1
    have h2 := val_split W32 us j
    have h3 := Nat.div_add_mod (val W32 (us.drop j)) V
    have h4 : W32 ^ j * val W32 (us.drop j) = V * (W32 ^ j * (val W32 (us.drop j) / V)) + W32 ^ j * (val W32 (us.drop j) % V) := by
      rw [Nat.mul_left_comm, ← Nat.mul_add, h3]
    have h5 : V * (W32 ^ j * (val W32 (us.drop j) / V + W32 * val W32 (qs.drop (j + 1)))) = V * (W32 ^ j * (val W32 (us.drop j) / V)) + V * (W32 ^ (j + 1) * val W32 (qs.drop (j + 1))) := by
      rw [Nat.mul_add, Nat.mul_add, Nat.pow_succ, Nat.mul_assoc]
    rw [h5]
    omega
  · rw [hd, hv]
    exact Nat.mod_lt _ hV0

theorem div_end {x y s : Nat} {us qs : List Nat} (hy : 0 < y) (h : DivInv (x * 2 ^ s) (y * 2 ^ s) us qs 0) : val W32 qs = x / y ∧ val W32 us / 2 ^ s = x % y := by
  obtain ⟨h1, h2⟩ := h
  rw [List.drop_zero] at h2
  rw [List.drop_zero, Nat.pow_zero, Nat.one_mul] at h1
  have hs : 0 < 2 ^ s := Nat.pow_pos (by omega)
  have e1 : x / y = val W32 qs := by
    have h3 : x * 2 ^ s / (y * 2 ^ s) = x / y := Nat.mul_div_mul_right _ _ hs
    rw [← h3, h1, Nat.add_mul_div_left _ _ (by omega), Nat.div_eq_of_lt h2, Nat.zero_add]
  refine ⟨e1.symm, ?_⟩
  have h4 : x * 2 ^ s % (y * 2 ^ s) = (x % y) * 2 ^ s := Nat.mul_mod_mul_right _ _ _
  have h5 : x * 2 ^ s % (y * 2 ^ s) = val W32 us := by rw [h1, Nat.add_mul_mod_self_left, Nat.mod_eq_of_lt h2]
  rw [← h5, h4, Nat.mul_div_cancel _ hs]

end Go.Proofs.Ytkamkaehlofgpaa
/- The built-in copy into a whole row of the call's own, as a law for the walk. Conditions: the source is not longer than the row. -/
namespace Go.Proofs.Ytkamkaehlofgpaa
open Go.RowKit NumB
set_option linter.unusedVariables false
set_option linter.unusedSimpArgs false

theorem Own.heap {k : IntKind} {T : TypeId} {w : World} {B g n : Nat} {xs : List Nat} (h : Own k T w B g n n xs) : w.heap[g]? = some (.cells (cellsN k xs).toArray T (0, 0)) := by
  rcases h.2.2 with ⟨h', _⟩ | ⟨g', cap', cur, h', hb, hh, h1, h2, h3, h4⟩
  · simp at h'
  · simp only [Value.slice.injEq, Option.some.injEq, Addr.mk.injEq, and_true, true_and] at h'
    obtain ⟨rfl, rfl⟩ := h'
    rw [hh]
    congr 2
    rw [List.take_of_length_le (by rw [Array.length_toList]; omega)] at h4
    rw [← h4]

theorem Own.of_heap {k : IntKind} {T : TypeId} {w : World} {B g n : Nat} {xs : List Nat} (h : w.heap[g]? = some (.cells (cellsN k xs).toArray T (0, 0))) (hl : xs.length = n) (hB : B ≤ g) (hm : n ≤ maxLen) : Own k T w B g n n xs := by
  refine ⟨hl, by rw [cellsN_len, hl, Nat.mul_one], .inr ⟨g, n, _, rfl, hB, h, Nat.le_refl _, hm, ?_, ?_⟩⟩
  · rw [List.size_toArray, cellsN_len, hl, Nat.mul_one]
  · rw [List.take_of_length_le (by rw [cellsN_len, hl, Nat.mul_one]; exact Nat.le_refl _)]

theorem splice_cells {k : IntKind} {xs ys : List Nat} : splice (cellsN k xs) 0 (cellsN k ys) = cellsN k (ys ++ xs.drop ys.length) := by
  unfold splice
  rw [List.take_zero, List.nil_append, Nat.zero_add, cellsN_len, ← cellsN_append]
  congr 1
  unfold cellsN
  rw [List.map_drop]

theorem wpList_copy_Own {P : Program} {w : World} {ops : Array Oper} {rest : List Oper} {o : Oper} {a : Act} {Q : Exit → Act → World → Prop} (hgd : o.guard = none) (d s : Operand) (dT sT : TypeId)
    (ho : o.op = .call { callee := .builtin .copy, args := #[d, s], argTypes := #[dT, sT] }) (elem : TypeId) (hu : P.underlying dT = some (.slice elem)) (hsz : (P.info? elem).map (·.size) = some 1)
    (k : IntKind) (T : TypeId) (B g n : Nat) (xs ys : List Nat) (A : Option Addr) (m c : Nat) (hd : a.eval d = .slice (some ⟨g, 0, none⟩) n n) (hs : a.eval s = .slice A m c)
    (hown : Own k T w B g n n xs) (hr : Rd k w w.heap.size A m ys) (hmn : m ≤ n)
    (h : ∀ w', Own k T w' B g n n (ys ++ xs.drop m) → Below g w w' → wpList P ops Q rest (a.put o.dst (goInt m)) w') : wpList P ops Q (o :: rest) a w := by
  have hl := hr.1
  refine wpList_copy_splice hgd d s dT sT ho elem hu hsz _ _ _ _ _ _ hd hs g 0 (cellsN k xs) T hown.heap (cellsN k ys) (by rw [cellsN_len, hl]; exact (Nat.min_eq_left hmn).symm) ?_ (by rw [cellsN_len, cellsN_len, hl, hown.1]; omega) cellsN_one g w (Below.refl _ _) (Nat.le_refl _) ?_
  · intro h0
    rw [cellsN_len, hl] at h0
    obtain ⟨b, o', e, _⟩ := hr.2 h0
    subst e
    exact ⟨rfl, _, rfl, rd_news hr⟩
  · intro w' hw' hb
    have e : (goInt (cellsN k ys).length) = goInt m := by rw [cellsN_len, hl]
    rw [e]
    refine h w' (Own.of_heap ?_ ?_ hown.lt.1 hown.cap.2) hb
    · have h1 := hw'.out
      rw [splice_cells, hl] at h1
      exact h1
    · rw [List.length_append, List.length_drop, hl, hown.1]; omega

end Go.Proofs.Ytkamkaehlofgpaa
