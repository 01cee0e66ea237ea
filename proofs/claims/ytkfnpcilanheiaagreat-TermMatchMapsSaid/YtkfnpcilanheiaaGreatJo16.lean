/- fetterlockref2.Size, fetterlockref2.Fault. And 14 more texts. -/
import Derived.Laws.BytesArg
import Derived.Deep.RegionHeld3
import Derived.Lib.SliceRun
import Derived.Test.YtkfnpcilanheiaaGreatShelf
import Derived.Shelf.Strings.SlTrimAscii
import Derived.Test.YtkfnpcilanheiaaGreatJo1
import Derived.Test.YtkfnpcilanheiaaGreatJo6
import Derived.Test.YtkfnpcilanheiaaGreatJo7
import Derived.Test.YtkfnpcilanheiaaGreatJo10
import Derived.Test.YtkfnpcilanheiaaGreatJo11
import Derived.Test.YtkfnpcilanheiaaGreatJo12
import Derived.Test.YtkfnpcilanheiaaGreatJo15
set_option linter.unusedVariables false
set_option linter.unusedSimpArgs false
set_option maxRecDepth 100000
namespace Go.Proofs.YtkfnpcilanheiaaGreat
open Go.RowKit NumB
theorem rsize_any {w : World} {t : Tm} {cs : List Value} (h : TC w t cs) (W : World) (hW : Below w.heap.size w W) :
    Calls Tryz.prog 74 #[.agg cs.toArray] W fun e W' => e = .returned (.int .i64 ((min t.count 1000000 : Nat) : Int)) ∧ Below W.heap.size W W' := by
  have HS : Hid (∀ W', Below w.heap.size w W' → Calls Tryz.prog 124 #[.agg cs.toArray, .int .i64 0] W' fun e w' => e = .returned (.int .i64 ((min t.count 1000000 : Nat) : Int)) ∧ Below W'.heap.size W' w') := fun W' hb => by
    have := sized_any h W' 0 hb (by omega)
    rw [Nat.zero_add] at this
    exact this
  have HW := Lib.hid hW
  obtain ⟨k, v, s, ng, A1, n1, c1, B1, m1, d1, Ar, l, cap, hcs⟩ := h.form
  subst hcs
  obtain ⟨z, HZ⟩ : ∃ z, Hid (min t.count 1000000 = z) := ⟨_, rfl⟩
  rw [HZ.out] at HS ⊢
  clear h hW HZ
  have HBA := Lib.hid (below_one W (.cells #[.int .i64 k, .int .i64 v, .string s, .bool ng, .slice A1 n1 c1, .slice B1 m1 d1, .slice Ar l cap] 27))
  go_enter Tryz.func74, Tryz.ntmps74
  go_wp2_with fail
  first
    | (refine (HS.out _ (by exact HW.out.trans (HBA.out.mono HW.out.size))).mono ?_
       rintro e w1 ⟨rfl, hb1⟩
       go_wp2_with fail
       go_ret
       exact ⟨rfl, HBA.out.trans (hb1.mono HBA.out.size)⟩)
    | (refine (HS.out _ HW.out).mono ?_
       rintro e w1 ⟨rfl, hb1⟩
       go_wp2_with fail
       go_ret
       exact ⟨rfl, hb1⟩)
set_option maxHeartbeats 3200000 in
theorem tmFault_any {w : World} {t : Tm} {cs : List Value} (h : TC w t cs) (W : World) (hW : Below w.heap.size w W) :
    Calls Tryz.prog 33 #[.agg cs.toArray] W fun e W' => e = .returned (.int .i64 t.check) ∧ Below W.heap.size W W' := by
  have HS : Hid (∀ W', Below w.heap.size w W' → Calls Tryz.prog 74 #[.agg cs.toArray] W' fun e w' => e = .returned (.int .i64 ((min t.count 1000000 : Nat) : Int)) ∧ Below W'.heap.size W' w') := fun W' hb => rsize_any h W' hb
  have HN : Hid (∀ W', Below w.heap.size w W' → Calls Tryz.prog 79 #[.agg cs.toArray] W' fun e w' => e = .returned (.int .i64 t.err0) ∧ Below W'.heap.size W' w') := fun W' hb => nodeFault_any h W' hb
  have HC : Hid (t.check = if 10000 < t.count then 3 else t.err0) := rfl
  have HW := Lib.hid hW
  obtain ⟨k, v, s, ng, A1, n1, c1, B1, m1, d1, Ar, l, cap, hcs⟩ := h.form
  subst hcs
  generalize t.check = tc at *
  generalize t.err0 = te at *
  obtain ⟨z, HZ, hzn⟩ : ∃ z : Nat, Hid (min t.count 1000000 = z) ∧ (10000 < z ↔ 10000 < t.count) := ⟨_, rfl, by omega⟩
  rw [HZ.out] at HS
  generalize t.count = n at *
  clear h hW HZ
  have HBA := Lib.hid (below_one W (.cells #[.int .i64 k, .int .i64 v, .string s, .bool ng, .slice A1 n1 c1, .slice B1 m1 d1, .slice Ar l cap] 27))
  have HKA := Lib.hid (Blk.new W 27 #[.int .i64 k, .int .i64 v, .string s, .bool ng, .slice A1 n1 c1, .slice B1 m1 d1, .slice Ar l cap])
  go_enter Tryz.func33, Tryz.ntmps33
  go_wp2_with fail
  refine (HS.out _ (by exact HW.out.trans (HBA.out.mono HW.out.size))).mono ?_
  rintro e w1 ⟨rfl, hb1⟩
  have HB1 := Lib.hid (HBA.out.trans (hb1.mono HBA.out.size))
  have hk := HKA.out.to hb1
  have c0 := hk.cell 0
  have c1' := hk.cell 1
  have c2 := hk.cell 2
  have c3 := hk.cell 3
  have c4 := hk.cell 4
  have c5 := hk.cell 5
  have c6 := hk.cell 6
  simp only [List.getElem?_toArray, List.getElem?_cons_zero, List.getElem?_cons_succ] at c0 c1' c2 c3 c4 c5 c6
  clear hb1 hk
  by_cases hn : 10000 < z
  · have HR : Hid (tc = 3) := by unfold Hid; rw [HC.out, if_pos (hzn.1 hn)]
    clear hzn
    go_wp2_with fail
    go_ret
    rw [HR.out]
    exact ⟨rfl, HB1.out⟩
  · have HR : Hid (tc = te) := by unfold Hid; rw [HC.out, if_neg (fun h => hn (hzn.2 h))]
    clear hzn
    go_wp2_with fail
    refine (HN.out _ (by exact HW.out.trans (HB1.out.mono HW.out.size))).mono ?_
    rintro e w2 ⟨rfl, hb2⟩
    go_wp2_with fail
    go_ret
    rw [HR.out]
    exact ⟨rfl, HB1.out.trans (hb2.mono HB1.out.size)⟩
theorem err0_node {k v : Int} {s : ByteArray} {n : LN} {args : List Tm} (h : (Tm.mk k v s n args).err0 = 0) : nodeE k v s n.neg n.num.length n.den.length n.err args.length = 0 ∧ errL args = 0 := by
  rw [Tm.err0] at h
  by_cases h1 : nodeE k v s n.neg n.num.length n.den.length n.err args.length = 0
  · rw [if_pos h1] at h; exact ⟨h1, h⟩
  · rw [if_neg h1] at h; exact absurd h h1
theorem errL_get {l : List Tm} (h : errL l = 0) {j : Nat} (hj : j < l.length) : (l[j]).err0 = 0 := by
  induction l generalizing j with
  | nil => cases hj
  | cons x l ih =>
    rw [errL] at h
    by_cases h1 : x.err0 = 0
    · rw [if_pos h1] at h
      cases j with
      | zero => exact h1
      | succ j => exact ih h (by simpa using hj)
    · rw [if_neg h1] at h; exact absurd h h1
theorem zeroB_len {ng : Bool} {a b : Nat} (h : zeroB ng a b = true) : ng = false ∧ a = 0 ∧ b = 0 := by
  unfold zeroB at h
  simp at h
  exact h
theorem node_parts {k v : Int} {s : ByteArray} {ng : Bool} {a b : Nat} {er : Int} {na : Nat} (h : nodeE k v s ng a b er na = 0) : (k = 2 ∧ v = 0 ∧ s.size = 0 ∧ er = 0 ∧ na = 0) ∨ (k ≠ 2 ∧ ng = false ∧ a = 0 ∧ b = 0 ∧ ((k = 1 ∧ 0 ≤ v ∧ v ≤ 1073741824 ∧ s.size = 0 ∧ na = 0) ∨ (k = 3 ∧ v = 0 ∧ s.size ≤ 255 ∧ na = 0) ∨ (k = 4 ∧ v = 0 ∧ s.size ≤ 4000 ∧ na = 0) ∨ (k = 5 ∧ v = 0 ∧ s.size ≤ 255 ∧ 1 ≤ na ∧ na ≤ 32))) := by
  unfold nodeE at h
  by_cases h1 : k = 1
  · rw [if_pos h1] at h
    by_cases h2 : 0 ≤ v ∧ v ≤ 1073741824 ∧ s.toList = [] ∧ zeroB ng a b = true ∧ na = 0
    · have hz := zeroB_len h2.2.2.2.1
      exact .inr ⟨by omega, hz.1, hz.2.1, hz.2.2, .inl ⟨h1, h2.1, h2.2.1, size_of_toList h2.2.2.1, h2.2.2.2.2⟩⟩
    · rw [if_neg h2] at h; cases h
  · rw [if_neg h1] at h
    by_cases h2 : k = 2
    · rw [if_pos h2] at h
      by_cases h3 : v = 0 ∧ s.toList = [] ∧ na = 0 ∧ er = 0
      · exact .inl ⟨h2, h3.1, size_of_toList h3.2.1, h3.2.2.2, h3.2.2.1⟩
      · rw [if_neg h3] at h; cases h
    · rw [if_neg h2] at h
      by_cases h3 : k = 3
      · rw [if_pos h3] at h
        by_cases h6 : v = 0 ∧ zeroB ng a b = true ∧ na = 0
        · rw [if_pos h6] at h
          have hz := zeroB_len h6.2.1
          by_cases h7 : 255 < s.size
          · rw [if_pos h7] at h; cases h
          · exact .inr ⟨h2, hz.1, hz.2.1, hz.2.2, .inr (.inl ⟨h3, h6.1, by omega, h6.2.2⟩)⟩
        · rw [if_neg h6] at h; cases h
      · rw [if_neg h3] at h
        by_cases h4 : k = 4
        · rw [if_pos h4] at h
          by_cases h6 : v = 0 ∧ zeroB ng a b = true ∧ na = 0
          · rw [if_pos h6] at h
            have hz := zeroB_len h6.2.1
            by_cases h7 : 4000 < s.size
            · rw [if_pos h7] at h; cases h
            · exact .inr ⟨h2, hz.1, hz.2.1, hz.2.2, .inr (.inr (.inl ⟨h4, h6.1, by omega, h6.2.2⟩))⟩
          · rw [if_neg h6] at h; cases h
        · rw [if_neg h4] at h
          by_cases h5 : k = 5
          · rw [if_pos h5] at h
            by_cases h6 : v = 0 ∧ zeroB ng a b = true ∧ 1 ≤ na ∧ na ≤ 32
            · rw [if_pos h6] at h
              have hz := zeroB_len h6.2.1
              by_cases h7 : 255 < s.size
              · rw [if_pos h7] at h; cases h
              · exact .inr ⟨h2, hz.1, hz.2.1, hz.2.2, .inr (.inr (.inr ⟨h5, h6.1, by omega, h6.2.2.1, h6.2.2.2⟩))⟩
            · rw [if_neg h6] at h; cases h
          · rw [if_neg h5] at h; cases h
theorem smL_of {l : List Tm} (h : ∀ i (hi : i < l.length), (l[i]).sm) : smL l := by
  induction l with
  | nil => rw [smL]; trivial
  | cons x l ih => rw [smL]; exact ⟨h 0 (by simp), ih fun i hi => h (i + 1) (Nat.succ_lt_succ hi)⟩
theorem TC.sm {w : World} {t : Tm} {cs : List Value} (h : TC w t cs) : t.err0 = 0 → t.sm := by
  induction h with
  | mk k v s n args A B Ar cap cs hk hv hs hA hB hn hcap hm hr ha ih =>
    intro he
    obtain ⟨h1, h2⟩ := err0_node he
    have h3 := smL_of fun i hi => ih i hi (errL_get h2 hi)
    rw [Tm.sm]
    rcases node_parts h1 with ⟨_, _, _, h4, h5⟩ | ⟨_, _, h4, h5, h6⟩
    · have := LN.good hn h4
      exact ⟨by omega, by omega, by omega, h3⟩
    · exact ⟨by omega, by omega, by omega, h3⟩
theorem check_err0 {t : Tm} (h : t.check = 0) : t.count ≤ 10000 ∧ t.err0 = 0 := by
  unfold Tm.check at h
  by_cases hn : 10000 < t.count
  · rw [if_pos hn] at h; omega
  · rw [if_neg hn] at h; exact ⟨by omega, h⟩
def TL (w : World) (v : Value) (ts : List Tm) : Prop := ∃ (Ar : Option Addr) (cap : Nat) (cs : Nat → List Value), v = .slice Ar ts.length cap ∧ ts.length ≤ cap ∧ cap ≤ maxLen ∧
  (0 < ts.length → ∃ b o, Ar = some ⟨b, o, none⟩ ∧ b < w.heap.size ∧ ∀ i, i < ts.length → ∀ j, j < 7 → w.cell? ⟨b, o + i * 7 + j, none⟩ = (cs i)[j]?) ∧ ∀ i (h : i < ts.length), TC w ts[i] (cs i)
theorem TL.to {w w' : World} {v : Value} {ts : List Tm} (h : TL w v ts) (hb : Below w.heap.size w w') : TL w' v ts := by
  obtain ⟨Ar, cap, cs, e, h1, h2, h3, h4⟩ := h
  refine ⟨Ar, cap, cs, e, h1, h2, fun h0 => ?_, fun i hi => (h4 i hi).to hb⟩
  obtain ⟨b, o, e, hlt, hc⟩ := h3 h0
  exact ⟨b, o, e, Nat.lt_of_lt_of_le hlt hb.size, fun i hi j hj => (hb.cell (p := ⟨b, o + i * 7 + j, none⟩) hlt).trans (hc i hi j hj)⟩
end Go.Proofs.YtkfnpcilanheiaaGreat
namespace Go.Proofs.YtkfnpcilanheiaaGreat.NumB
def decL (x : Nat) : List UInt8 := ((digs 10 x).map fun d => (48 + d).toUInt8).reverse
def dec (x : Nat) : List UInt8 := if x = 0 then [48] else decL x
end Go.Proofs.YtkfnpcilanheiaaGreat.NumB
namespace Go.Proofs.YtkfnpcilanheiaaGreat
open Go.RowKit NumB
theorem wpList_pushG {P : Program} {ops : Array Oper} {rest : List Oper} {o : Oper} {a : Act} {Q : Exit → Act → World → Prop} (w : World) (hgd : o.guard = none) (s x : Operand) (t : TypeId)
    (ho : o.op = .call { callee := .builtin .append, args := #[s, x], argTypes := #[t, t] })
    (k : IntKind) (T : TypeId) (bytes : Nat) (ht : P.underlying t = some (.slice T)) (hinfo : (P.info? T).map (fun i => (i.zero, i.size, i.bytes)) = some (some (.int k 0), 1, bytes)) (hb8 : bytes ≤ 8)
    (B : Nat) (v : Value) (xs ys : List Nat) (hs : a.eval s = v) (hx : a.eval x = .slice (some ⟨w.heap.size, 0, none⟩) ys.length ys.length) (hown : OwnV k T w B v xs) (hn : xs.length + ys.length ≤ 1000000) (hB : B ≤ w.heap.size) (C : Array Value) (hC : C = (cellsN k ys).toArray)
    (h : ∀ v' w', OwnV k T w' B v' (xs ++ ys) → Below B w w' → (w.alloc (.cells C T)).grownBy w' v.ownBlock → wpList P ops Q rest (a.put o.dst v') w') : wpList P ops Q (o :: rest) a (w.alloc (.cells C T)) := by
  subst hC
  obtain ⟨i0, hi0, hz0, hz1, hz2⟩ := info_parts hinfo
  refine wpList_append_own_at _ hgd s x t ho B T i0 (.int k 0) 1 bytes ht hi0 hz0 hz1 hz2 rfl (by decide) v xs.length (cellsN k xs) hs (hown.alloc _) ⟨w.heap.size, 0, none⟩ ys.length ys.length (cellsN k ys) hx (by rw [cellsN_len]; omega) news_block cellsN_one (by unfold maxLen; omega) ?_ (by simp; omega) ?_
  · have : (xs.length + ys.length) * bytes ≤ 1000000 * 8 := Nat.mul_le_mul hn hb8
    omega
  · intro v' w' h1 h2 _ _
    refine h v' w' ?_ (((Below.refl B w).alloc hB _).grown h2 (by simp; omega) (fun g hg => hown.blk g hg)) h2
    unfold OwnV
    rw [List.length_append, ← cellsN_append]
    exact h1
theorem Sl.blk {k : IntKind} {w w' : World} {g o n c : Nat} {xs : List Nat} (h : Sl k w (.slice (some ⟨g, o, none⟩) n c) xs) (hb : w'.heap[g]? = w.heap[g]?) (hs : w.heap.size ≤ w'.heap.size) : Sl k w' (.slice (some ⟨g, o, none⟩) n c) xs := by
  obtain ⟨A, c', e, h1, h2, h3, h4⟩ := h
  simp only [Value.slice.injEq] at e
  obtain ⟨rfl, rfl, rfl⟩ := e
  refine ⟨_, _, rfl, h1, h2, h3, fun hn => ?_⟩
  obtain ⟨b, o', e2, hbl, hc⟩ := h4 hn
  injection e2 with e2
  injection e2 with e3 e4
  subst e3 e4
  exact ⟨g, o, rfl, Nat.lt_of_lt_of_le hbl hs, fun i hi => (World.cell?_of_block hb).trans (hc i hi)⟩
theorem ownV_lt {k : IntKind} {T : TypeId} {w : World} {B : Nat} {v : Value} {xs : List Nat} (h : OwnV k T w B v xs) : ∀ g, v.ownBlock = some g → g < w.heap.size := fun g hg => (World.ownsRow.lt h g hg).2
theorem info_u8 : (Tryz.prog.info? 5).map (fun i => (i.zero, i.size, i.bytes)) = some (some (.int .u8 0), 1, 1) := by kernel_rfl
theorem part_len {gs l m : List Nat} (h : gs ++ l = m) : gs.length ≤ m.length := by rw [← h]; simp
theorem getD_map_ofNat (l : List Nat) (i : Nat) (h : i < l.length) : (l.map Int.ofNat).getD i 0 = ((l.getD i 0 : Nat) : Int) := by
  rw [List.getD_eq_getElem?_getD, List.getElem?_map, List.getElem?_eq_getElem h, getD_lt h]; rfl
theorem len_pos16 {x n : Nat} (h : n = (digs W16 x).length) : 0 < n ↔ 0 < x := by
  subst h
  constructor
  · intro h
    rcases Nat.eq_zero_or_pos x with h4 | h4
    · subst h4; rw [digs_zero] at h; exact absurd h (by simp)
    · exact h4
  · intro h
    exact List.length_pos_iff.2 fun h4 => by have := (digs_nil W16_gt).1 h4; omega
theorem rdiv_step {xs out : List Nat} {j x d rest q r : Nat} (hj : 0 < j) (hl : j ≤ out.length) (hx : xs.getD (j - 1) 0 = x) (hjx : j ≤ xs.length) (hv : val W16 (xs.drop j) = d * val W16 (out.drop j) + rest)
    (he : rest * 65536 + x = d * q + r) : val W16 (xs.drop (j - 1)) = d * val W16 ((out.set (j - 1) q).drop (j - 1)) + r := by
  have e1 : xs.drop (j - 1) = x :: xs.drop j := by
    rw [List.drop_eq_getElem_cons (by omega), ← getD_lt (by omega), hx, Nat.sub_add_cancel hj]
  have e2 : (out.set (j - 1) q).drop (j - 1) = q :: out.drop j := by
    rw [List.drop_eq_getElem_cons (by simp; omega), Nat.sub_add_cancel hj]
    simp [List.drop_set]
    omega
  rw [e1, e2, val_cons, val_cons, hv]
  have : W16 = 65536 := rfl
  rw [this, Nat.mul_add, Nat.mul_add, Nat.mul_left_comm]
  omega
def ten : Nat := 10
theorem ten_gt : 1 < ten := by decide
def dgs (x : Nat) : List Nat := (digs ten x).map (48 + ·)
theorem dgs_step {ds : List Nat} {c x : Nat} (hc : c ≠ 0) (h : ds ++ dgs c = dgs x) : (ds ++ [48 + c % 10]) ++ dgs (c / 10) = dgs x := by
  rw [← h]
  have : dgs c = (48 + c % 10) :: dgs (c / 10) := by
    unfold dgs
    rw [digs_step ten_gt hc]; rfl
  rw [this, List.append_assoc]; rfl
theorem dgs_len {x n : Nat} (h : (digs W16 x).length ≤ n) : (dgs x).length ≤ 5 * n := by
  unfold dgs
  rw [List.length_map]
  refine digs_len_le ten_gt (Nat.lt_of_lt_of_le (digs_lt W16_gt) ?_)
  rw [Nat.pow_mul]
  exact Nat.le_trans (Nat.pow_le_pow_right (by decide) h) (Nat.pow_le_pow_left (by decide) n)
theorem dgs_text (x : Nat) : ((dgs x).reverse).map (fun d => d.toUInt8) = decL x := by
  unfold dgs decL ten
  rw [← List.map_reverse, ← List.map_reverse, List.map_map]; rfl
theorem rev_step {ds out : List Nat} {j L c : Nat} (hL : ds.length = L) (ho : out.length = L) (hj : j < L) (hc : ds.getD j 0 = c) (h : out.drop (L - j) = (ds.take j).reverse) : (out.set (L - 1 - j) c).drop (L - (j + 1)) = (ds.take (j + 1)).reverse := by
  have e : L - (j + 1) = L - 1 - j := by omega
  rw [e, List.drop_eq_getElem_cons (by simp; omega), List.take_succ_eq_append_getElem (by omega), List.reverse_append, ← h]
  have e2 : L - 1 - j + 1 = L - j := by omega
  rw [e2]
  simp [List.drop_set]
  constructor
  · rw [← hc, getD_lt (by omega)]
  · omega
set_option maxHeartbeats 6400000 in
theorem rdecimal_pos (x : Nat) (va : Value) (w : World) (ha : Nat16 w va x) (hx : (digs W16 x).length ≤ 10000) (hx0 : 0 < x) :
    Calls Tryz.prog 57 #[va] w fun e w' => e = .returned (.string ⟨(decL x).toArray⟩) ∧ Below w.heap.size w w' := by
  have HA := Lib.hid ha
  have HLD := Lib.hid (dgs_len hx)
  have HLX := Lib.hid hx
  have HX0 := Lib.hid hx0
  obtain ⟨A, c, rfl, _⟩ := ha
  obtain ⟨n, hn⟩ : ∃ n, (digs W16 x).length = n := ⟨_, rfl⟩
  rw [hn] at HA ⊢
  have hn0 : ((n : Int) == 0) = false := beq_eq_false_iff_ne.2 (by have := (len_pos16 hn.symm).2 hx0; omega)
  clear hx0 hn
  go_enter Tryz.func57, Tryz.ntmps57
  go_wp2
  go_loopg [0, 3, 4, 5, 6, 7] x (fun gk s0 s3 s4 s5 s6 s7 wr => ∃ ds : List Nat, Hid (Nat16 wr s0 gk ∧ OwnV .u8 5 wr w.heap.size s3 ds ∧ ds ++ dgs gk = dgs x ∧ gk ≤ x ∧ Below w.heap.size w wr))
  case atStart => exact ⟨[], HA.out, OwnV.nil_ _, rfl, Nat.le_refl _, Below.refl _ _⟩
  case round =>
    obtain ⟨ds, HR⟩ := hrel
    obtain ⟨A0, c0, hu0, hc0, hm0, hr0⟩ := id HR.out.1
    have hl0 : (digs W16 gk).length = (digs W16 gk).length := rfl
    have hlb : (digs W16 gk).length ≤ 10000 := Nat.le_trans (digs_len_mono W16_gt HR.out.2.2.2.1) HLX.out
    have hpz := len_pos16 (x := gk) rfl
    have HX := Lib.hid (And.intro (val_digs W16_gt gk) (ok_digs W16_gt gk))
    generalize digs W16 gk = xs at *
    generalize hn2 : xs.length = n0 at *
    have HN0 := Lib.hid hn2
    have HR0 := Lib.hid hr0
    subst hu0
    clear hl0 hn2 hr0
    unfold maxLen at hm0
    by_cases h0 : gk = 0
    · subst h0
      obtain rfl : n0 = 0 := by omega
      have hds : ds = dgs x := by have := HR.out.2.2.1; unfold dgs at this; rw [digs_zero, List.map_nil, List.append_nil] at this; exact this
      have hdl : 0 < ds.length := by
        rw [hds]
        refine List.length_pos_iff.2 fun h => ?_
        unfold dgs at h
        have h1 := List.map_eq_nil_iff.1 h
        have := (digs_nil ten_gt).1 h1
        have := HX0.out
        omega
      obtain ⟨g3, c3, hv3, HO3⟩ : ∃ g3 c3, u3 = .slice (some ⟨g3, 0, none⟩) ds.length c3 ∧ Hid (Own .u8 5 wr w.heap.size g3 ds.length c3 ds) := by
        rcases HR.out.2.1.form with ⟨_, h⟩ | ⟨g, c, h, ho⟩
        · rw [h] at hdl; exact absurd hdl (by simp)
        · exact ⟨g, c, h, ho⟩
      subst hv3
      have hLb : ds.length ≤ 50000 := by rw [hds]; exact HLD.out
      have HDT : Hid (ds.reverse.map (fun d => d.toUInt8) = decL x) := by unfold Hid; rw [hds]; exact dgs_text x
      have HBW := Lib.hid HR.out.2.2.2.2
      generalize hm : ds.length = L at *
      have HM := Lib.hid hm
      obtain ⟨i0, hi0, hz0, hz1, hz2⟩ := info_parts info_u8
      have HI := Lib.hid hi0
      have HZ0 := Lib.hid hz0
      have HZ1 := Lib.hid hz1
      have HZ2 := Lib.hid hz2
      clear hi0 hz0 hz1 hz2 hds hm HR hpz
      go_wp2_with (at_make; refine wpList_make_full _ rfl _ _ 109 rfl wr.heap.size 5 i0 (.int .u8 0) 1 Tryz.underlying109 HI.out HZ0.out HZ1.out .i64 .i64 _ _ L rfl rfl rfl rfl (by rw [HZ2.out]; omega) (by unfold maxLen; omega) (Nat.le_refl _) ?_; intro w1 hown1 hg1)
      have HOP := Lib.hid (Own.made hown1)
      have HB1 := Lib.hid ((Below.refl wr.heap.size wr).grown hg1 (Nat.le_refl _) (by simp))
      clear hown1 hg1
      obtain ⟨wo, hwo⟩ : ∃ wo : World, wo = wr := ⟨_, rfl⟩
      subst hwo
      have hgo := HO3.out.lt.2
      go_loopg [54, 9, 10] L (fun gj s54 s9 s10 wq => ∃ (j : Nat) (out : List Nat), gj + j = L ∧ s54 = .int .i64 (j : Int) ∧ Hid (Own .u8 5 wq wo.heap.size wo.heap.size L L out) ∧ Hid (out.drop (L - j) = (ds.take j).reverse) ∧ Hid (Below wo.heap.size wo wq))
      case atStart => exact ⟨0, _, by omega, rfl, HOP.out, by unfold Hid; rw [List.drop_eq_nil_of_le (by simp)]; rfl, HB1.out⟩
      case round =>
        obtain ⟨j, out, hgj, rfl, HO, HE, HBQ⟩ := hrel
        clear HOP HB1
        by_cases hj : j < L
        · obtain ⟨p, hpe⟩ : ∃ p, ds.getD j 0 = p := ⟨_, rfl⟩
          have hcell : wr.cell? ⟨g3, j, none⟩ = some (.int .u8 (p : Int)) := by rw [← hpe]; exact (HO3.out.to HBQ.out).cell hj
          have HP := Lib.hid hpe
          obtain ⟨y, hy⟩ : ∃ y : Nat, wr.cell? ⟨wo.heap.size, L - 1 - j, none⟩ = some (.int .u8 (y : Int)) := ⟨_, HO.out.cell (by omega)⟩
          have hf := HO.out.frozen (L - 1 - j)
          have hix : ((L : Int) - 1 - (j : Int)) = ((L - 1 - j : Nat) : Int) := by omega
          have hix2 : L - 1 - j < L := by omega
          clear hpe
          go_wp2
          go_roundg (gk - 1)
          case measure => omega
          case rel => exact ⟨j + 1, out.set (L - 1 - j) p, by omega, by go_num, HO.out.stored _ _, rev_step HM.out HO.out.1 hj HP.out HE.out, HBQ.out.setCell (Nat.le_refl _) _⟩
        · obtain rfl : j = L := by omega
          have hout : out = ds.reverse := by
            have h := HE.out
            rw [Nat.sub_self, List.drop_zero, List.take_of_length_le (by rw [HM.out]; exact Nat.le_refl _)] at h
            exact h
          have hcv := fun cap => run_convert_bytes_arg (P := Tryz.prog) wr 109 5 Tryz.underlying109 Tryz.underlying5 wo.heap.size 0 j cap (out.map Int.ofNat) (by rw [List.length_map, HO.out.1]) (fun i hi => by
            rw [Nat.zero_add, HO.out.cell hi, getD_map_ofNat _ _ (by rw [HO.out.1]; exact hi)]) 9 Tryz.underlying9
          have hstr : strOfNums (out.map Int.ofNat) = ⟨(decL x).toArray⟩ := by
            unfold strOfNums
            rw [← HDT.out, hout, List.map_map]
            rfl
          have hcv2 : ∀ cap, (convert 109 9 (.slice (some ⟨wo.heap.size, 0, none⟩) j cap)).run Tryz.prog wr = .ok (.string ⟨(decL x).toArray⟩) wr := fun cap => by rw [hcv cap, hstr]
          clear hcv hstr hout
          go_wp2
          go_ret
          exact ⟨rfl, HBW.out.trans (HBQ.out.mono HBW.out.size)⟩
    · have hnp : 0 < n0 := hpz.2 (by omega)
      have HG0 := Lib.hid h0
      obtain ⟨i0, hi0, hz0, hz1, hz2⟩ := info_parts info_i64
      have HI := Lib.hid hi0
      have HZ0 := Lib.hid hz0
      have HZ1 := Lib.hid hz1
      have HZ2 := Lib.hid hz2
      clear hi0 hz0 hz1 hz2 h0 hpz
      go_wp2_with (at_make; refine wpList_make_full _ rfl _ _ 44 rfl wr.heap.size 3 i0 (.int .i64 0) 1 Tryz.underlying44 HI.out HZ0.out HZ1.out .i64 .i64 _ _ n0 rfl rfl rfl rfl (by rw [HZ2.out]; omega) (by unfold maxLen; omega) (Nat.le_refl _) ?_; intro w1 hown1 hg1)
      have HOP := Lib.hid (Own.made hown1)
      have HB1 := Lib.hid ((Below.refl wr.heap.size wr).grown hg1 (Nat.le_refl _) (by simp))
      clear hown1 hg1
      obtain ⟨wo, hwo⟩ : ∃ wo : World, wo = wr := ⟨_, rfl⟩
      subst hwo
      obtain ⟨cur, hcur⟩ : ∃ cur : Nat, cur = gk := ⟨_, rfl⟩
      subst hcur
      go_loopg [4, 6, 7] (n0 + 1) (fun gj s4 s6 s7 wq => ∃ (j rest : Nat) (out : List Nat), gj = j + 1 ∧ j ≤ n0 ∧ s6 = .int .i64 ((j : Int) - 1) ∧ s4 = .int .i64 (rest : Int) ∧ rest < 10 ∧ Hid (Own .i64 3 wq wo.heap.size wo.heap.size n0 n0 out) ∧ Hid (Below wo.heap.size wo wq) ∧ Hid (val W16 (xs.drop j) = 10 * val W16 (out.drop j) + rest) ∧ Hid (Ok W16 out))
      case atStart => exact ⟨n0, 0, _, rfl, Nat.le_refl _, rfl, rfl, by omega, HOP.out, HB1.out, by unfold Hid; rw [← HN0.out, List.drop_length, List.drop_eq_nil_of_le (by simp)]; rfl, ok_replicate (by decide)⟩
      case round =>
        obtain ⟨j, rest, out, rfl, hj, rfl, rfl, hrest, HO, HBQ, HV, HOo⟩ := hrel
        clear HOP HB1
        by_cases h0 : 0 < j
        · obtain ⟨b, o, y, rfl, hb, hye, hcell⟩ := (HR0.out.below HBQ.out).at_ (i := j - 1) (by omega)
          have hyb : y < 65536 := by rw [← hye]; exact HX.out.2.getD (by decide) _
          have HY := Lib.hid hye
          clear hye
          obtain ⟨z, hz⟩ : ∃ z : Nat, wr.cell? ⟨wo.heap.size, j - 1, none⟩ = some (.int .i64 (z : Int)) := ⟨_, HO.out.cell (by omega)⟩
          have hf := HO.out.frozen (j - 1)
          obtain ⟨q, r, hq, hr', hqb, hrd, HEE⟩ : ∃ q r : Nat, ((rest : Int) * 65536 + (y : Int)) / 10 = (q : Int) ∧ ((rest : Int) * 65536 + (y : Int)) % 10 = (r : Int) ∧ q < 65536 ∧ r < 10 ∧ Hid (rest * 65536 + y = 10 * q + r) :=
            ⟨(rest * 65536 + y) / 10, (rest * 65536 + y) % 10, by omega, by omega, by omega, by omega, by unfold Hid; omega⟩
          go_wp2
          go_roundg j
          case measure => omega
          case rel => exact ⟨j - 1, r, out.set (j - 1) q, by omega, by omega, by congr 1; omega, congrArg (Value.int .i64) hr', hrd, HO.out.stored _ _, HBQ.out.setCell (Nat.le_refl _) _, rdiv_step h0 (by rw [HO.out.1]; exact hj) HY.out (by rw [HN0.out]; exact hj) HV.out HEE.out, HOo.out.set hqb⟩
        · obtain rfl : j = 0 := by omega
          have hv := HV.out
          rw [List.drop_zero, List.drop_zero, HX.out.1] at hv
          have HQV : Hid (cur / 10 = val W16 out ∧ cur % 10 = rest) := ⟨by omega, by omega⟩
          have HDS := Lib.hid (HR.out.2.1.to HBQ.out)
          have HDL := Lib.hid (ownV_lt HR.out.2.1)
          have HBW := Lib.hid (HR.out.2.2.2.2.trans (HBQ.out.mono HR.out.2.2.2.2.size))
          obtain ⟨bt, hbt, hbtb, HBT⟩ : ∃ bt : Nat, (48 : Int) + (rest : Int) = (bt : Int) ∧ bt < 58 ∧ Hid (bt = 48 + rest) := ⟨48 + rest, by omega, by omega, rfl⟩
          have HLEN : Hid (ds.length + [bt].length ≤ 1000000) := by have := part_len HR.out.2.2.1; have := HLD.out; unfold Hid; simp; omega
          clear hv
          go_wp2_with (at_builtin; go_must (refine wpList_pushG wr rfl _ _ 109 rfl .u8 5 1 Tryz.underlying109 info_u8 (by decide) w.heap.size _ ds [bt] (by rfl) (by rfl) HDS.out HLEN.out HBW.out.size _ rfl ?_); intro v2 w2 hown2 hb2 hg2)
          have hsl : Sl .i64 w2 (.slice (some ⟨wo.heap.size, 0, none⟩) n0 n0) out := by
            have h1 := HO.out.sl.to (below_one wr (.cells #[.int .u8 (bt : Int)] 5))
            refine Sl.blk h1 (hg2.block _ ?_ ?_) hg2.size
            · have := HO.out.lt.2; simp; omega
            · intro e; have := HDL.out _ e.symm; omega
          refine (rtrim_any out _ _ hsl HOo.out).mono ?_
          rintro e w3 ⟨v3, rfl, hn3, rfl⟩
          rw [← HQV.out.1] at hn3
          have HN3 := Lib.hid hn3
          have HW2 := Lib.hid hown2
          have HBB := Lib.hid hb2
          clear hn3 hown2 hb2 hg2 hsl
          go_wp2
          go_roundg (cur / 10)
          case measure => have := HG0.out; omega
          case rel =>
            refine ⟨ds ++ [bt], HN3.out, HW2.out, ?_, Nat.le_trans (Nat.div_le_self _ _) HR.out.2.2.2.1, HBW.out.trans HBB.out⟩
            rw [HBT.out, ← HQV.out.2]; exact dgs_step HG0.out HR.out.2.2.1
theorem rdecimal_any (x : Nat) (va : Value) (w : World) (ha : Nat16 w va x) (hx : (digs W16 x).length ≤ 10000) :
    Calls Tryz.prog 57 #[va] w fun e w' => e = .returned (.string ⟨(dec x).toArray⟩) ∧ Below w.heap.size w w' := by
  rcases Nat.eq_zero_or_pos x with h0 | h0
  · subst h0
    obtain ⟨A, c, rfl, _⟩ := ha
    rw [digs_zero]
    clear hx
    have hb0 : (((0 : Nat) : Int) == 0) = true := rfl
    have E : Hid (dec 0 = [48]) := rfl
    go_enter Tryz.func57, Tryz.ntmps57
    go_wp2
    go_ret
    rw [E.out]
    exact ⟨rfl, Below.refl _ _⟩
  · unfold dec
    rw [if_neg (by omega)]
    exact rdecimal_pos x va w ha hx h0
def eqB (xs ys : List Nat) : Bool := decide (xs = ys)
theorem eqB_true {xs ys : List Nat} (h : xs = ys) : eqB xs ys = true := decide_eq_true h
theorem eqB_false {xs ys : List Nat} (h : xs ≠ ys) : eqB xs ys = false := decide_eq_false h
theorem take_step {xs ys : List Nat} {j : Nat} (h1 : j < xs.length) (h2 : j < ys.length) (h : xs.take j = ys.take j) (he : xs.getD j 0 = ys.getD j 0) : xs.take (j + 1) = ys.take (j + 1) := by
  rw [List.take_succ_eq_append_getElem h1, List.take_succ_eq_append_getElem h2, h, ← getD_lt h1, ← getD_lt h2, he]
def sameB (a b : LN) : Bool := (a.neg == b.neg) && (eqB a.num b.num && eqB a.den b.den)
def fmtL (neg : Bool) (x y : Nat) : List UInt8 := (if neg then [45] else []) ++ dec x ++ (if y = 1 then [] else 114 :: dec y)
def tA : ByteArray := ⟨#[45, 48, 54, 114, 52]⟩
def tB : ByteArray := ⟨#[55]⟩
def LN.q (a : LN) : Rat := RatB.q a.neg a.x a.y
end Go.Proofs.YtkfnpcilanheiaaGreat
