/-  -/
import Derived.Deep.AppendLies
import Derived.Deep.RegionLaw
import Derived.Deep.RegionHeld3
import Derived.Test.YtdmhkhnnomdkcaaDoorJo13
import Derived.Test.YtdmhkhnnomdkcaaDoorJo15
set_option linter.unusedVariables false
set_option linter.unusedSimpArgs false
/- fetterlockref1.limbs. Conditions: at most 100000 digits. -/
namespace Go.Proofs.YtdmhkhnnomdkcaaDoor
open Go.RowKit NumB
set_option linter.unusedVariables false
set_option linter.unusedSimpArgs false

/-- An append onto a row that the call owns, as a step of a region that draws. -/
theorem step_push {P : Program} {ops : Array Oper} {o : Oper} {a : Act} {K : Act → World → Prop} {Q : Exit → Act → World → Prop} {E : Prop} (w : World) (hgd : o.guard = none) (s x : Operand) (t : TypeId)
    (ho : o.op = .call { callee := .builtin .append, args := #[s, x], argTypes := #[t, t] })
    (k : IntKind) (T : TypeId) (bytes : Nat) (ht : P.underlying t = some (.slice T)) (hinfo : (P.info? T).map (fun i => (i.zero, i.size, i.bytes)) = some (some (.int k 0), 1, bytes)) (hb8 : bytes ≤ 8)
    (B : Nat) (v : Value) (xs ys : List Nat) (hs : a.eval s = v) (hx : a.eval x = .slice (some ⟨w.heap.size, 0, none⟩) ys.length ys.length) (hy : 0 < ys.length) (hown : OwnV k T w B v xs) (hn : xs.length + ys.length ≤ 1000000) (hB : B ≤ w.heap.size) (C : Array Value) (hC : C = (cellsN k ys).toArray)
    (h : ∀ v' w', OwnV k T w' B v' (xs ++ ys) → Below B w w' → K (a.put o.dst v') w') : if Region.wanted o (yielded ops a.tmps) = true then Oper.wp P o a (w.alloc (.cells C T)) K Q else E := by
  subst hC
  obtain ⟨i0, hi0, hz0, hz1, hz2⟩ := info_parts hinfo
  refine step_append_lies _ hgd s x t ho B T i0 (.int k 0) 1 bytes ht hi0 hz0 hz1 hz2 rfl (by decide) v xs.length (cellsN k xs) hs (hown.alloc _) ⟨w.heap.size, 0, none⟩ ys.length ys.length (cellsN k ys) hx (by rw [cellsN_len]; omega) news_block cellsN_one hy (by unfold maxLen; omega) ?_ (by simp; omega) _ rfl ?_
  · have : (xs.length + ys.length) * bytes ≤ 1000000 * 8 := Nat.mul_le_mul hn hb8
    omega
  · intro g cap w' h1 h2 _ _
    refine h _ w' ?_ (((Below.refl B w).alloc hB _).grown h2 (by simp; omega) (fun g hg => hown.blk g hg))
    unfold OwnV
    rw [List.length_append, ← cellsN_append]
    exact h1

/-- Two digits make a limb. -/
theorem or_pair (p q : Nat) (hp : p < 65536) (hq : q < 65536) : bits .or .u32 (p : Int) ((q : Int) * 65536) = ((p + q * 65536 : Nat) : Int) := by
  have h := or_u32 p (q * 65536) (by omega) (by omega)
  have e : p ||| q * 65536 = p + q * 65536 := by
    rw [Nat.or_comm, show (65536 : Nat) = 2 ^ 16 from rfl, ← Nat.shiftLeft_eq, ← Nat.shiftLeft_add_eq_or_of_lt (by omega), Nat.shiftLeft_eq]; omega
  rw [e] at h
  rw [← h]
  congr 1
theorem pair_drop {xs : List Nat} {j p q : Nat} (hj : j < xs.length) (hp : xs.getD j 0 = p) (hq : xs.getD (j + 1) 0 = q) : val W16 (xs.drop j) = p + q * 65536 + 4294967296 * val W16 (xs.drop (j + 2)) := by
  have e1 : xs.drop j = p :: xs.drop (j + 1) := by rw [List.drop_eq_getElem_cons hj, ← getD_lt hj, hp]
  rw [e1, val_cons]
  have : W16 = 65536 := rfl
  rcases Nat.lt_or_ge (j + 1) xs.length with h | h
  · have e2 : xs.drop (j + 1) = q :: xs.drop (j + 2) := by rw [List.drop_eq_getElem_cons h, ← getD_lt h, hq]
    rw [e2, val_cons, this]; omega
  · have e3 : q = 0 := by rw [← hq, List.getD_eq_getElem?_getD, List.getElem?_eq_none h]; rfl
    rw [List.drop_eq_nil_of_le h, List.drop_eq_nil_of_le (by omega), val_nil, e3]; omega
theorem pair_step {out : List Nat} {c c' l x : Nat} (hc : c = l + 4294967296 * c') (hl : l < 4294967296) (h0 : c ≠ 0) (h : out ++ digs W32 c = digs W32 x) : (out ++ [l]) ++ digs W32 c' = digs W32 x := by
  rw [← h, digs_step W32_gt h0, List.append_assoc]
  have : W32 = 4294967296 := rfl
  have e1 : c % W32 = l := by rw [this]; omega
  have e2 : c / W32 = c' := by rw [this]; omega
  rw [e1, e2]; rfl
theorem drop_pos {x j : Nat} (hj : j < (digs W16 x).length) : val W16 ((digs W16 x).drop j) ≠ 0 := by
  intro h
  have h1 := val_split W16 (digs W16 x) j
  rw [h, Nat.mul_zero, Nat.add_zero, val_digs W16_gt] at h1
  have h2 := val_take_lt (ok_digs W16_gt x) (Nat.le_of_lt hj)
  rw [← h1] at h2
  have := digs_len_le W16_gt h2
  omega

end Go.Proofs.YtdmhkhnnomdkcaaDoor
/- number.add. Conditions: at most 10000 limbs. -/
namespace Go.Proofs.YtdmhkhnnomdkcaaDoor
open Go.RowKit NumB
set_option linter.unusedVariables false
set_option linter.unusedSimpArgs false

/-- The cells of three blocks of numbers, the third new. -/
def Box2 (w : World) (g : Nat) (na nb : Bool) (A1 A2 A3 A4 : Value) : Prop :=
  w.cell? ⟨g, 0, none⟩ = some (.bool na) ∧ w.cell? ⟨g, 1, none⟩ = some A1 ∧ w.cell? ⟨g, 2, none⟩ = some A2 ∧ w.cell? ⟨g + 1, 0, none⟩ = some (.bool nb) ∧ w.cell? ⟨g + 1, 1, none⟩ = some A3 ∧ w.cell? ⟨g + 1, 2, none⟩ = some A4 ∧ g + 2 < w.heap.size

theorem Box2.to {w w' : World} {g : Nat} {na nb : Bool} {A1 A2 A3 A4 : Value} (h : Box2 w g na nb A1 A2 A3 A4) (hb : Below w.heap.size w w') : Box2 w' g na nb A1 A2 A3 A4 := by
  obtain ⟨h0, h1, h2, h3, h4, h5, h6⟩ := h
  exact ⟨(hb.cell (p := ⟨g, 0, none⟩) (by show g < _; omega)).trans h0, (hb.cell (p := ⟨g, 1, none⟩) (by show g < _; omega)).trans h1, (hb.cell (p := ⟨g, 2, none⟩) (by show g < _; omega)).trans h2, (hb.cell (p := ⟨g + 1, 0, none⟩) (by show g + 1 < _; omega)).trans h3, (hb.cell (p := ⟨g + 1, 1, none⟩) (by show g + 1 < _; omega)).trans h4, (hb.cell (p := ⟨g + 1, 2, none⟩) (by show g + 1 < _; omega)).trans h5, Nat.lt_of_lt_of_le h6 hb.size⟩

theorem below_three (w : World) (o1 o2 o3 : Obj) : Below w.heap.size w (((w.alloc o1).alloc o2).alloc o3) := (((Below.refl _ _).alloc (Nat.le_refl _) o1).alloc (by simp) o2).alloc (by simp; omega) o3

set_option maxRecDepth 100000 in
set_option maxHeartbeats 6400000 in
theorem plusNum_any (na nb minus : Bool) (xa ya xb yb : Nat) (A1 A2 A3 A4 : Value) (w : World) (h1 : Nat32 w A1 xa) (h2 : Nat32 w A2 ya) (h3 : Nat32 w A3 xb) (h4 : Nat32 w A4 yb)
    (l1 : (digs W32 xa).length ≤ 10000) (l2 : (digs W32 ya).length ≤ 10000) (l3 : (digs W32 xb).length ≤ 10000) (l4 : (digs W32 yb).length ≤ 10000) (hya : 0 < ya) (hyb : 0 < yb)
    (s : Bool) (n d : Nat) (hsn : sumN na (xa * yb) (nb != minus) (xb * ya) = (s, n)) (hd : ya * yb = d) :
    Calls Tryd.prog 20 #[.agg #[.bool na, A1, A2], .agg #[.bool nb, A3, A4], .bool minus] w (FitPost w (s && decide (0 < n)) (n / Nat.gcd n d) (d / Nat.gcd n d)) := by
  obtain ⟨B1, n1, c1, rfl, e1⟩ := h1.form
  obtain ⟨B2, n2, c2, rfl, e2⟩ := h2.form
  obtain ⟨B3, n3, c3, rfl, e3⟩ := h3.form
  obtain ⟨B4, n4, c4, rfl, e4⟩ := h4.form
  clear e1 e2 e3 e4
  have HN : ∀ o1 o2 o3 : Obj, Hid (Nat32 (((w.alloc o1).alloc o2).alloc o3).drew (.slice B1 n1 c1) xa ∧ Nat32 (((w.alloc o1).alloc o2).alloc o3).drew (.slice B2 n2 c2) ya ∧ Nat32 (((w.alloc o1).alloc o2).alloc o3).drew (.slice B3 n3 c3) xb ∧ Nat32 (((w.alloc o1).alloc o2).alloc o3).drew (.slice B4 n4 c4) yb) :=
    fun o1 o2 o3 => ⟨h1.to (below_three w o1 o2 o3).drew, h2.to (below_three w o1 o2 o3).drew, h3.to (below_three w o1 o2 o3).drew, h4.to (below_three w o1 o2 o3).drew⟩
  have HL : Hid (((digs W32 xa).length ≤ 50000 ∧ (digs W32 ya).length ≤ 50000) ∧ ((digs W32 xb).length ≤ 50000 ∧ (digs W32 yb).length ≤ 50000)) := ⟨⟨by omega, by omega⟩, by omega, by omega⟩
  have m1 := digs_len_mul xa yb
  have m2 := digs_len_mul xb ya
  have m3 := digs_len_mul ya yb
  have HM : Hid ((digs W32 (xa * yb)).length ≤ 50000 ∧ (digs W32 (xb * ya)).length ≤ 50000 ∧ (digs W32 d).length ≤ 50000) := ⟨by omega, by omega, by rw [← hd]; omega⟩
  have HSL : Hid ((digs W32 n).length ≤ 50000) := by
    have := sumN_len (na := na) (nb := (nb != minus)) (x := xa * yb) (y := xb * ya) (n := 20000) (by omega) (by omega)
    rw [hsn] at this
    unfold Hid; exact Nat.le_trans this (by omega)
  have HD0 : Hid (0 < d) := by unfold Hid; rw [← hd]; exact Nat.mul_pos hya hyb
  have HD := Lib.hid hd
  have HSN := Lib.hid hsn
  have HMD := Lib.hid (fun (u v : Value) (W : World) (a1 : Nat32 W u n) (a2 : Nat32 W v d) => made_any s n d u v W a1 a2 HD0.out HSL.out HM.out.2.2)
  clear h1 h2 h3 h4 l1 l2 l3 l4 hya hyb m1 m2 m3 hd hsn
  generalize (s && decide (0 < n)) = sg at *
  generalize n / Nat.gcd n d = x' at *
  generalize d / Nat.gcd n d = y' at *
  have hkeep : ∀ W1 W' : World, Below W1.heap.size W1 W' → (W1.cell? ⟨w.heap.size, 0, none⟩ = some (.bool na) ∧ W1.cell? ⟨w.heap.size, 1, none⟩ = some (.slice B1 n1 c1) ∧ W1.cell? ⟨w.heap.size, 2, none⟩ = some (.slice B2 n2 c2) ∧ W1.cell? ⟨w.heap.size + 1, 0, none⟩ = some (.bool nb) ∧ W1.cell? ⟨w.heap.size + 1, 1, none⟩ = some (.slice B3 n3 c3) ∧ W1.cell? ⟨w.heap.size + 1, 2, none⟩ = some (.slice B4 n4 c4) ∧ w.heap.size + 2 < W1.heap.size) → (W'.cell? ⟨w.heap.size, 0, none⟩ = some (.bool na) ∧ W'.cell? ⟨w.heap.size, 1, none⟩ = some (.slice B1 n1 c1) ∧ W'.cell? ⟨w.heap.size, 2, none⟩ = some (.slice B2 n2 c2) ∧ W'.cell? ⟨w.heap.size + 1, 0, none⟩ = some (.bool nb) ∧ W'.cell? ⟨w.heap.size + 1, 1, none⟩ = some (.slice B3 n3 c3) ∧ W'.cell? ⟨w.heap.size + 1, 2, none⟩ = some (.slice B4 n4 c4) ∧ w.heap.size + 2 < W'.heap.size) := fun W1 W' h1 h2 => Box2.to (w := W1) (w' := W') (g := w.heap.size) h2 h1
  have HK := Lib.hid hkeep
  clear hkeep
  have HSU : Hid (∀ (u v : Value) (W : World), Nat32 W u (xa * yb) → Nat32 W v (xb * ya) → Calls Tryd.prog 34 #[.bool na, u, .bool (!(nb == minus)), v] W (SumPost W (s, n))) := fun u v W a1 a2 => by rw [← HSN.out]; exact sum_any na (nb != minus) _ _ u v W a1 a2 HM.out.1 HM.out.2.1
  go_enter Tryd.func20, Tryd.ntmps20
  go_wp2
  go_region_held3 (fun w' => w'.cell? ⟨w.heap.size, 0, none⟩ = some (.bool na) ∧ w'.cell? ⟨w.heap.size, 1, none⟩ = some (.slice B1 n1 c1) ∧ w'.cell? ⟨w.heap.size, 2, none⟩ = some (.slice B2 n2 c2) ∧ w'.cell? ⟨w.heap.size + 1, 0, none⟩ = some (.bool nb) ∧ w'.cell? ⟨w.heap.size + 1, 1, none⟩ = some (.slice B3 n3 c3) ∧ w'.cell? ⟨w.heap.size + 1, 2, none⟩ = some (.slice B4 n4 c4) ∧ w.heap.size + 2 < w'.heap.size)
    (first | go_keep | (refine HK.out _ _ (by assumption) ?_; go_keep))
    (first
      | (go_at_call 27; ((with_reducible refine (mul_any xa yb (.slice B1 n1 c1) (.slice B4 n4 c4) _ (by exact (HN _ _ _).out.1) (by exact (HN _ _ _).out.2.2.2) HL.out.1.1 HL.out.2.2).mono ?_)); rintro e w1 ⟨v1, rfl, hn1, hb1⟩)
      | (go_at_call 27; ((with_reducible refine (mul_any xb ya (.slice B3 n3 c3) (.slice B2 n2 c2) _ (by exact (HN _ _ _).out.2.2.1.to hb1) (by exact (HN _ _ _).out.2.1.to hb1) HL.out.2.1 HL.out.1.2).mono ?_)); rintro e w2 ⟨v2, rfl, hn2, hb2⟩)
      | (go_at_call 34; ((with_reducible refine (HSU.out _ _ _ (by exact hn1.to hb2) (by exact hn2)).mono ?_)); rintro e w3 ⟨v3, rfl, hn3, hb3⟩))
  have HB3 : Hid (∀ W0 : World, Below W0.heap.size W0 w1 → Below W0.heap.size W0 w3) := fun W0 h => (h.trans (hb2.mono h.size)).trans (hb3.mono (Nat.le_trans h.size hb2.size))
  have HB03 := Lib.hid (HB3.out _ hb1)
  have HN3 := Lib.hid hn3
  clear hn1 hn2 hn3 hb1 hb2 hb3 HB3 HK HSU HSN
  have HBL : Hid (Below w.heap.size w w3) := (below_three w _ _ _).drew.trans (HB03.out.mono (below_three w _ _ _).drew.size)
  have hblk : Blk w3 (w.heap.size + 1 + 1) 24 #[.bool false, .slice none 0 0, .slice none 0 0] := Blk.to (w := World.drew _) (Blk.drew (by have := Blk.new ((w.alloc (.cells #[.bool na, .slice B1 n1 c1, .slice B2 n2 c2] 24)).alloc (.cells #[.bool nb, .slice B3 n3 c3, .slice B4 n4 c4] 24)) 24 #[.bool false, .slice none 0 0, .slice none 0 0]; simpa using this)) HB03.out
  have hca : w3.cell? ⟨w.heap.size, 2, none⟩ = some (.slice B2 n2 c2) := ((((Blk.new w 24 #[.bool na, .slice B1 n1 c1, .slice B2 n2 c2]).alloc _).alloc _).drew.to HB03.out).cell 2
  have hcb : w3.cell? ⟨w.heap.size + 1, 2, none⟩ = some (.slice B4 n4 c4) := by
    have h : Blk ((w.alloc (.cells #[.bool na, .slice B1 n1 c1, .slice B2 n2 c2] 24)).alloc (.cells #[.bool nb, .slice B3 n3 c3, .slice B4 n4 c4] 24)) (w.heap.size + 1) 24 #[.bool nb, .slice B3 n3 c3, .slice B4 n4 c4] := by have := Blk.new (w.alloc (.cells #[.bool na, .slice B1 n1 c1, .slice B2 n2 c2] 24)) 24 #[.bool nb, .slice B3 n3 c3, .slice B4 n4 c4]; simpa using this
    exact ((h.alloc _).drew.to HB03.out).cell 2
  have HN2 := Lib.hid ((HN _ _ _).out.2.1.to HB03.out)
  have HN4 := Lib.hid ((HN _ _ _).out.2.2.2.to HB03.out)
  have HBK := Lib.hid hblk
  clear hblk HN
  go_wp2_with fail
  refine (mul_any ya yb _ _ _ (by exact HN2.out) (by exact HN4.out) HL.out.1.2 HL.out.2.2).mono ?_
  rintro e w4 ⟨v4, rfl, hn4, hb4⟩
  have HN5 := Lib.hid hn4
  rw [HD.out] at HN5
  have HB4 := Lib.hid hb4
  clear hn4 hb4
  go_wp2_with fail
  refine (HMD.out _ _ _ (by exact HN3.out.to HB4.out) (by exact HN5.out)).mono ?_
  rintro e w5 (⟨hf, v5, rfl, hn5, hb5⟩ | ⟨hf, rfl, hb5⟩)
  · have hblk := (HBK.out.to HB4.out).to hb5
    have HBE : Hid (Below w.heap.size w w5) := (HBL.out.trans (HB4.out.mono HBL.out.size)).trans (hb5.mono (Nat.le_trans HBL.out.size HB4.out.size))
    have HN6 := Lib.hid hn5
    have HF := Lib.hid hf
    have hc0 := hblk.cell 0
    have hc1 := hblk.cell 1
    have hc2 := hblk.cell 2
    have hf0 := hblk.frozen 0
    have hf1 := hblk.frozen 1
    have hf2 := hblk.frozen 2
    have HBLK := Lib.hid hblk
    clear hblk hn5 hb5 hf HB4 hca hcb
    simp only [List.getElem?_toArray, List.getElem?_cons_zero, List.getElem?_cons_succ] at hc0 hc1 hc2
    obtain ⟨A, n, c, A', m, d, rfl, hl1, hl2⟩ := HN6.out.form
    clear hl1 hl2
    go_wp2
    refine bodyPost_ret (v := .tuple #[.agg #[.bool sg, .slice A n c, .slice A' m d], .int .i64 0]) (by rw [results_cell_tmp rfl]; go_simp) rfl (.inl ⟨HF.out, _, rfl, ?_, ?_⟩)
    · exact HN6.out.put3 HBLK.out _ _ _
    · exact put3_below HBE.out (by omega) _ _ _
  · have hblk := (HBK.out.to HB4.out).to hb5
    have HBE : Hid (Below w.heap.size w w5) := (HBL.out.trans (HB4.out.mono HBL.out.size)).trans (hb5.mono (Nat.le_trans HBL.out.size HB4.out.size))
    have HF := Lib.hid hf
    have hc0 := hblk.cell 0
    have hc1 := hblk.cell 1
    have hc2 := hblk.cell 2
    have hf0 := hblk.frozen 0
    have hf1 := hblk.frozen 1
    have hf2 := hblk.frozen 2
    clear hblk hb5 hf HB4 hca hcb
    simp only [List.getElem?_toArray, List.getElem?_cons_zero, List.getElem?_cons_succ] at hc0 hc1 hc2
    unfold zeroNum
    go_wp2
    refine bodyPost_ret (v := .tuple #[zeroNum, .int .i64 3]) (by rw [results_cell_tmp rfl]; go_simp; rfl) rfl (.inr ⟨HF.out, rfl, ?_⟩)
    exact put3_below HBE.out (by omega) _ _ _
end Go.Proofs.YtdmhkhnnomdkcaaDoor
