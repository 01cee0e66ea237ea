/-  -/
import Derived.Deep.RegionHeld3
import Derived.Test.YtkamkaehlofgpaaJo49
set_option linter.unusedVariables false
set_option linter.unusedSimpArgs false
/- term.List: a list of clones of terms, with a clone of the rest. -/
namespace Go.Proofs.Ytkamkaehlofgpaa
open Go.RowKit NumB
set_option linter.unusedVariables false
set_option linter.unusedSimpArgs false

theorem Kept.undrew {p : Nat → Prop} {a b : World} (h : Kept p a.drew b) : Kept p a b := ⟨h.os, h.tape, h.output, h.size, h.block⟩
theorem blk_2nd (w : World) (o : Obj) {T : TypeId} (cs : Array Value) : Blk ((w.alloc o).alloc (.cells cs T)) (w.heap.size + 1) T cs := by
  have h := Blk.new (w.alloc o) T cs
  rwa [show (w.alloc o).heap.size = w.heap.size + 1 by simp] at h
theorem stepL_on {c : Prop} [Decidable c] {A B : Prop} (hc : c) (h : A) : if c then A else B := by rw [if_pos hc]; exact h
theorem Steps.genL {P : Program} {ops : Array Oper} {md : Region.Mode} {Q : Exit → Act → World → Prop} {Inv : (Nat → Bool) → Act → World → Prop} {rs : List Nat} (h : ∀ Q, Steps P md ops Q Inv rs) : Steps P md ops Q Inv rs := h Q

set_option maxRecDepth 100000 in
set_option maxHeartbeats 6400000 in
theorem list_any {w : World} {ts : List Tm} {lv : Value} (h : TL w lv ts) (hn : (ts.length : Int) ≤ 2000000000000) {r : Tm} {cr : List Value} (hr : TC w r cr) (hs : ∀ i (h : i < ts.length), (ts[i]).sm) (hrs : r.sm) (W : World) (hW : Below w.heap.size w W) :
    Calls Try.prog 7 #[lv, .agg cr.toArray] W fun e w' => ∃ cs', e = .returned (.agg cs'.toArray) ∧ TC w' (listT ts r) cs' ∧ Below W.heap.size W w' := by
  have HCR : Hid (∀ W', Below w.heap.size w W' → Calls Try.prog 17 #[.agg cr.toArray] W' fun e w' => ∃ cs', e = .returned (.agg cs'.toArray) ∧ TCF (W'.heap.size + 1) w' r cs' ∧ Below W'.heap.size W' w') := fun W' hb => clone_tm hr hrs W' hb
  obtain ⟨Ar, cap, cs, rfl, hcap, hm, hrow, ha⟩ := h
  have HCE : Hid (∀ i (h : i < ts.length) W', Below w.heap.size w W' → Calls Try.prog 17 #[.agg (cs i).toArray] W' fun e w' => ∃ cs', e = .returned (.agg cs'.toArray) ∧ TCF (W'.heap.size + 1) w' ts[i] cs' ∧ Below W'.heap.size W' w') := fun i h W' hb => clone_tm (ha i h) (hs i h) W' hb
  obtain ⟨k0, v0, st0, ng0, A0, n0, c0, B0, m0, d0, X0, l0, e0, hf⟩ := hr.form
  subst hf
  have HR := Lib.hid hrow
  have HA := Lib.hid ha
  have HWB := Lib.hid hW
  unfold maxLen at hm
  obtain ⟨n, hl⟩ : ∃ n, ts.length = n := ⟨_, rfl⟩
  rw [hl] at hcap hn ⊢
  have HL := Lib.hid hl
  clear hl hrow ha hs hrs hr hW
  have HB0 : Hid (Below W.heap.size W ((W.alloc (.cells #[.int .i64 k0, .int .i64 v0, .string st0, .bool ng0, .slice A0 n0 c0, .slice B0 m0 d0, .slice X0 l0 e0] 27)).alloc (.cells #[.int .i64 0, .int .i64 0, .string ⟨#[]⟩, .bool false, .slice none 0 0, .slice none 0 0, .slice none 0 0] 27))) := below_pair W _ _
  have HK0 : Hid (Blk ((W.alloc (.cells #[.int .i64 k0, .int .i64 v0, .string st0, .bool ng0, .slice A0 n0 c0, .slice B0 m0 d0, .slice X0 l0 e0] 27)).alloc (.cells #[.int .i64 0, .int .i64 0, .string ⟨#[]⟩, .bool false, .slice none 0 0, .slice none 0 0, .slice none 0 0] 27)) (W.heap.size + 1) 27 #[.int .i64 0, .int .i64 0, .string ⟨#[]⟩, .bool false, .slice none 0 0, .slice none 0 0, .slice none 0 0]) := blk_2nd W _ _
  go_enter Try.func7, Try.ntmps7
  go_wp2_with fail
  refine (HCR.out _ (by exact HWB.out.trans (HB0.out.mono HWB.out.size))).mono ?_
  rintro e w1 ⟨cs1, rfl, ht1, hb1⟩
  obtain ⟨k1, v1, st1, ng1, A1, n1, c1, B1, m1, d1, X1, l1, e1, hf1⟩ := ht1.tc.form
  subst hf1
  have HB1 : Hid (Below W.heap.size W w1) := HB0.out.trans (hb1.mono HB0.out.size)
  have HK1 := Lib.hid (HK0.out.to hb1)
  have HT1 := Lib.hid (TCP.of_tcf ht1)
  have HT2 := Lib.hid (TCP.of_tc ht1.tc)
  clear ht1 hb1 HB0 HK0
  go_wp2_with fail
  obtain ⟨O, hO⟩ : ∃ O, w1.heap.size = O := ⟨_, rfl⟩
  have HO := Lib.hid hO
  have HOW : Hid (W.heap.size + 1 < O) := by have := HK1.out.lt; show _ < _; omega
  have HKO : Hid (Blk (w1.alloc (.cells #[.int .i64 k1, .int .i64 v1, .string st1, .bool ng1, .slice A1 n1 c1, .slice B1 m1 d1, .slice X1 l1 e1] 27)) O 27 #[.int .i64 k1, .int .i64 v1, .string st1, .bool ng1, .slice A1 n1 c1, .slice B1 m1 d1, .slice X1 l1 e1]) := by rw [← hO]; exact Blk.new w1 _ _
  have HTO : Hid (TCP (fun b => W.heap.size + 1 < b ∧ b ≠ O) (w1.alloc (.cells #[.int .i64 k1, .int .i64 v1, .string st1, .bool ng1, .slice A1 n1 c1, .slice B1 m1 d1, .slice X1 l1 e1] 27)) r [.int .i64 k1, .int .i64 v1, .string st1, .bool ng1, .slice A1 n1 c1, .slice B1 m1 d1, .slice X1 l1 e1]) := ((HT1.out.mono (q := fun b => W.heap.size + 1 < b ∧ b ≠ O) fun b hb hlt => ⟨by simp at hb; omega, by omega⟩)).onto (below_one w1 _)
  have HBO : Hid (Below W.heap.size W (w1.alloc (.cells #[.int .i64 k1, .int .i64 v1, .string st1, .bool ng1, .slice A1 n1 c1, .slice B1 m1 d1, .slice X1 l1 e1] 27))) := HB1.out.trans ((below_one w1 _).mono HB1.out.size)
  have HRO : Hid (Blk (w1.alloc (.cells #[.int .i64 k1, .int .i64 v1, .string st1, .bool ng1, .slice A1 n1 c1, .slice B1 m1 d1, .slice X1 l1 e1] 27)) (W.heap.size + 1) 27 #[.int .i64 0, .int .i64 0, .string ⟨#[]⟩, .bool false, .slice none 0 0, .slice none 0 0, .slice none 0 0]) := HK1.out.to (below_one w1 _)
  clear HB1 HK1 HT1 HT2
  try simp only [hO]
  clear hO
  go_loopg [6] n (fun gk s6 wr => ∃ (k6 v6 : Int) (st6 : ByteArray) (ng6 : Bool) (A6 : Option Addr) (n6 c6 : Nat) (B6 : Option Addr) (m6 d6 : Nat) (X6 : Option Addr) (l6 e6 : Nat) (z : Int), gk ≤ n ∧ s6 = .int .i64 z ∧ z = (gk : Int) - 1 ∧ Hid (TCP (fun b => W.heap.size + 1 < b ∧ b ≠ O) wr (listT (ts.drop gk) r) [.int .i64 k6, .int .i64 v6, .string st6, .bool ng6, .slice A6 n6 c6, .slice B6 m6 d6, .slice X6 l6 e6]) ∧ Hid (Blk wr O 27 #[.int .i64 k6, .int .i64 v6, .string st6, .bool ng6, .slice A6 n6 c6, .slice B6 m6 d6, .slice X6 l6 e6]) ∧ Hid (Below W.heap.size W wr) ∧ Hid (Blk wr (W.heap.size + 1) 27 #[.int .i64 0, .int .i64 0, .string ⟨#[]⟩, .bool false, .slice none 0 0, .slice none 0 0, .slice none 0 0]))
  case atStart =>
    refine ⟨k1, v1, st1, ng1, A1, n1, c1, B1, m1, d1, X1, l1, e1, _, Nat.le_refl _, rfl, rfl, ?_, HKO.out, HBO.out, HRO.out⟩
    rw [← HL.out, listT_nil]
    exact HTO.out
  case round =>
    clear HKO HTO HBO HRO
    obtain ⟨k6, v6, st6, ng6, A6, n6, c6, B6, m6, d6, X6, l6, e6, z, hgn, rfl, hz, HT, HK, HB, HRS⟩ := hrel
    rcases Nat.eq_zero_or_pos gk with hg0 | hgp
    · subst hg0
      have hz1 : ¬ 0 ≤ z := by omega
      have hz2 : z < 0 := by omega
      clear hz
      have t0 := HK.out.cell 0
      have t1 := HK.out.cell 1
      have t2 := HK.out.cell 2
      have t3 := HK.out.cell 3
      have t4 := HK.out.cell 4
      have t5 := HK.out.cell 5
      have t6 := HK.out.cell 6
      simp only [List.getElem?_toArray, List.getElem?_cons_zero, List.getElem?_cons_succ] at t0 t1 t2 t3 t4 t5 t6
      have r0 := HRS.out.cell 0
      have r1 := HRS.out.cell 1
      have r2 := HRS.out.cell 2
      have r3 := HRS.out.cell 3
      have r4 := HRS.out.cell 4
      have r5 := HRS.out.cell 5
      have r6 := HRS.out.cell 6
      simp only [List.getElem?_toArray, List.getElem?_cons_zero, List.getElem?_cons_succ] at r0 r1 r2 r3 r4 r5 r6
      have z0 := HRS.out.frozen 0
      have z1 := HRS.out.frozen 1
      have z2 := HRS.out.frozen 2
      have z3 := HRS.out.frozen 3
      have z4 := HRS.out.frozen 4
      have z5 := HRS.out.frozen 5
      have z6 := HRS.out.frozen 6
      go_wp2_with fail
      refine bodyPost_ret (v := .agg #[.int .i64 k6, .int .i64 v6, .string st6, .bool ng6, .slice A6 n6 c6, .slice B6 m6 d6, .slice X6 l6 e6]) (by rw [results_cellT rfl]; go_simp) rfl ?_
      refine ⟨[.int .i64 k6, .int .i64 v6, .string st6, .bool ng6, .slice A6 n6 c6, .slice B6 m6 d6, .slice X6 l6 e6], rfl, (HT.out.to (by simp) fun b hb _ => ?_).tc, ((((((HB.out.setCell (Nat.le_succ _) _).setCell (Nat.le_succ _) _).setCell (Nat.le_succ _) _).setCell (Nat.le_succ _) _).setCell (Nat.le_succ _) _).setCell (Nat.le_succ _) _).setCell (Nat.le_succ _) _⟩
      have hbr : b ≠ W.heap.size + 1 := by omega
      repeat rw [Below.heap_setCell _ _ _ b hbr]
    · obtain ⟨j, rfl⟩ : ∃ j, gk = j + 1 := ⟨gk - 1, by omega⟩
      have hzj : z = (j : Int) := by omega
      subst hzj
      have hj : j < n := by omega
      have hja : j < ts.length := by rw [HL.out]; exact hj
      have HBW := HWB.out.trans (HB.out.mono HWB.out.size)
      obtain ⟨b, o, k5, v5, st5, ng5, A5, n5, c5, B5, m5, d5, X5, l5, e5, hAr, hcs, hlt, y0, y1, y2, y3, y4, y5, y6⟩ := arg_cells HR.out HA.out HBW hja
      subst hAr
      have HCALL := Lib.hid (HCE.out j hja)
      rw [hcs] at HCALL
      have hbO : b ≠ O := by have := HWB.out.size; have := HOW.out; omega
      have HSE : Hid (∀ W', Kept (fun k => k = O) wr W' → W'.cell? ⟨b, o + j * 7, none⟩ = some (.int .i64 k5) ∧ W'.cell? ⟨b, o + j * 7 + 1, none⟩ = some (.int .i64 v5) ∧ W'.cell? ⟨b, o + j * 7 + 2, none⟩ = some (.string st5) ∧ W'.cell? ⟨b, o + j * 7 + 3, none⟩ = some (.bool ng5) ∧ W'.cell? ⟨b, o + j * 7 + 4, none⟩ = some (.slice A5 n5 c5) ∧ W'.cell? ⟨b, o + j * 7 + 5, none⟩ = some (.slice B5 m5 d5) ∧ W'.cell? ⟨b, o + j * 7 + 6, none⟩ = some (.slice X5 l5 e5)) := fun W' hk =>
        ⟨(World.cell?_of_block (a := ⟨b, o + j * 7, none⟩) (hk.block b (Nat.lt_of_lt_of_le hlt HBW.size) hbO)).trans y0, (World.cell?_of_block (a := ⟨b, o + j * 7 + 1, none⟩) (hk.block b (Nat.lt_of_lt_of_le hlt HBW.size) hbO)).trans y1, (World.cell?_of_block (a := ⟨b, o + j * 7 + 2, none⟩) (hk.block b (Nat.lt_of_lt_of_le hlt HBW.size) hbO)).trans y2, (World.cell?_of_block (a := ⟨b, o + j * 7 + 3, none⟩) (hk.block b (Nat.lt_of_lt_of_le hlt HBW.size) hbO)).trans y3, (World.cell?_of_block (a := ⟨b, o + j * 7 + 4, none⟩) (hk.block b (Nat.lt_of_lt_of_le hlt HBW.size) hbO)).trans y4, (World.cell?_of_block (a := ⟨b, o + j * 7 + 5, none⟩) (hk.block b (Nat.lt_of_lt_of_le hlt HBW.size) hbO)).trans y5, (World.cell?_of_block (a := ⟨b, o + j * 7 + 6, none⟩) (hk.block b (Nat.lt_of_lt_of_le hlt HBW.size) hbO)).trans y6⟩
      have HWK : Hid (∀ W', Kept (fun k => k = O) wr W' → Below w.heap.size w W') := fun W' hk => HWB.out.trans ((HB.out.trans (hk.below HB.out.size fun k hk => by have := HOW.out; omega)).mono HWB.out.size)
      have HIN := Lib.hid (LInv.init (L := fun i => decide (i < 4)) (x := ts[j]) (s20 := u20) (s21 := u21) (s22 := u22) (s23 := u23) HT.out.drew HK.out.drew (fun i hi => by simp; omega))
      have HOWR : Hid (O < wr.heap.size) := HK.out.lt
      clear hcs hlt hbO HCE HR HA hz hgn HIN
      go_wp2_with fail
      refine wp_region_held_drew (S := fun w' => w'.cell? ⟨b, o + j * 7, none⟩ = some (.int .i64 k5) ∧ w'.cell? ⟨b, o + j * 7 + 1, none⟩ = some (.int .i64 v5) ∧ w'.cell? ⟨b, o + j * 7 + 2, none⟩ = some (.string st5) ∧ w'.cell? ⟨b, o + j * 7 + 3, none⟩ = some (.bool ng5) ∧ w'.cell? ⟨b, o + j * 7 + 4, none⟩ = some (.slice A5 n5 c5) ∧ w'.cell? ⟨b, o + j * 7 + 5, none⟩ = some (.slice B5 m5 d5) ∧ w'.cell? ⟨b, o + j * 7 + 6, none⟩ = some (.slice X5 l5 e5)) (by kernel_rfl) ⟨y0, y1, y2, y3, y4, y5, y6⟩ (fun hHeld => ?_)
      clear y0 y1 y2 y3 y4 y5 y6
      (refine wpAnyH_take (i := 0) (v := ?_) rfl (by kernel_rfl) (by kernel_rfl) (by kernel_rfl) (fun _ _ _ h => h) (Or.inl ⟨by kernel_rfl, ?_⟩) (by assumption) ?_; rotate_left; ((intro w hSw; (try dsimp only at hSw); go_simp) <;> (with_reducible rfl)); (try (simp only [Act.put, List.setIfInBounds_toArray, List.set_cons_succ, List.set_cons_zero, List.getElem_toArray, List.getElem_cons_succ, List.getElem_cons_zero])))
      (refine wpAnyH_take (i := 1) (v := ?_) rfl (by kernel_rfl) (by kernel_rfl) (by kernel_rfl) (fun _ _ _ h => h) (Or.inl ⟨by kernel_rfl, ?_⟩) (by assumption) ?_; rotate_left; ((intro w hSw; (try dsimp only at hSw); go_simp) <;> (with_reducible rfl)); (try (simp only [Act.put, List.setIfInBounds_toArray, List.set_cons_succ, List.set_cons_zero, List.getElem_toArray, List.getElem_cons_succ, List.getElem_cons_zero])))
      (refine wpAnyH_take (i := 2) (v := ?_) rfl (by kernel_rfl) (by kernel_rfl) (by kernel_rfl) (fun _ _ _ h => h) (Or.inl ⟨by kernel_rfl, ?_⟩) (by assumption) ?_; rotate_left; ((intro w hSw; (try dsimp only at hSw); go_simp) <;> (with_reducible rfl)); (try (simp only [Act.put, List.setIfInBounds_toArray, List.set_cons_succ, List.set_cons_zero, List.getElem_toArray, List.getElem_cons_succ, List.getElem_cons_zero])))
      (refine wpAnyH_take (i := 3) (v := ?_) rfl (by kernel_rfl) (by kernel_rfl) (by kernel_rfl) (fun _ _ _ h => h) (Or.inl ⟨by kernel_rfl, ?_⟩) (by assumption) ?_; rotate_left; ((intro w hSw; (try dsimp only at hSw); obtain ⟨q0, q1, q2, q3, q4, q5, q6⟩ := hSw; go_simp) <;> (with_reducible rfl)); (try (simp only [Act.put, List.setIfInBounds_toArray, List.set_cons_succ, List.set_cons_zero, List.getElem_toArray, List.getElem_cons_succ, List.getElem_cons_zero])))
      refine wpAnyH_inv0 [4, 5, 6, 7, 8] (fun a0 L aa W' => ∃ s20 s21 s22 s23, aa = ((((a0.put (some 20) s20).put (some 21) s21).put (some 22) s22).put (some 23) s23) ∧ LInv wr.drew (W.heap.size + 1) O ts[j] (listT (ts.drop (j + 1)) r) (.int .i64 k6) (.int .i64 v6) (.string st6) (.bool ng6) (.slice A6 n6 c6) (.slice B6 m6 d6) (.slice X6 l6 e6) L s20 s21 s22 s23 W') (by kernel_rfl) (by kernel_rfl) (Nat.le_of_ble_eq_true (by kernel_rfl)) (by kernel_rfl) ?hS ?init ?steps ?done
      case hS =>
        rintro L aa W' ⟨s20, s21, s22, s23, -, hI⟩
        exact HSE.out W' hI.1.undrew
      case init =>
        refine ⟨u20, u21, u22, u23, (by simp only [Act.put, List.setIfInBounds_toArray, List.set_cons_succ, List.set_cons_zero]), LInv.init HT.out.drew HK.out.drew (fun i hi => ?_)⟩
        rcases (show i = 4 ∨ i = 5 ∨ i = 6 ∨ i = 7 ∨ i = 8 ∨ 9 ≤ i by omega) with rfl | rfl | rfl | rfl | rfl | h9
        all_goals first | rfl | (simp [Array.getD, h9]; omega)
      case steps =>
        refine Steps.genL (fun Q => ?_)
        refine (Steps.cons (i := 4) rfl ?_ (Steps.cons (i := 5) rfl ?_ (Steps.cons (i := 6) rfl ?_ (Steps.cons (i := 7) rfl ?_ (Steps.cons (i := 8) rfl ?_ Steps.nil)))))
        · intro L aa W' hII hL hdep K hK
          obtain ⟨s20, s21, s22, s23, haa, hI⟩ := hII
          subst haa
          simp only [Act.put, List.setIfInBounds_toArray, List.set_cons_succ, List.set_cons_zero]
          have HI := Lib.hid hI
          have HLL := Lib.hid hL
          clear hI hL hdep
          go_simp
          refine (HCALL.out _ (by exact HWK.out _ HI.out.1.undrew)).mono ?_
          rintro e w2 ⟨cs7, rfl, ht7, hb7⟩
          obtain ⟨k7, v7, st7, ng7, A7, n7, c7, B7, m7, d7, X7, l7, e7, hf7⟩ := ht7.tc.form
          subst hf7
          exact hK.out _ _ ⟨_, s21, s22, s23, (by simp only [Act.put, List.setIfInBounds_toArray, List.set_cons_succ, List.set_cons_zero]), HI.out.call4 HLL.out HOW.out (Nat.lt_of_lt_of_le HOWR.out HI.out.1.size) hb7 ht7⟩
        · intro L aa W' hII hL hdep K hK
          obtain ⟨s20, s21, s22, s23, haa, hI⟩ := hII
          subst haa
          simp only [Act.put, List.setIfInBounds_toArray, List.set_cons_succ, List.set_cons_zero]
          have h8 := hI.not8 (.inl hL)
          have hblk := hI.2.2.1 h8
          have hc0 := hblk.cell 0
          have hc1 := hblk.cell 1
          have hc2 := hblk.cell 2
          have hc3 := hblk.cell 3
          have hc4 := hblk.cell 4
          have hc5 := hblk.cell 5
          have hc6 := hblk.cell 6
          simp only [List.getElem?_toArray, List.getElem?_cons_zero, List.getElem?_cons_succ] at hc0 hc1 hc2 hc3 hc4 hc5 hc6
          have HI := Lib.hid hI
          clear hI hL hdep h8 hblk
          go_simp
          exact hK.out _ _ ⟨s20, _, s22, s23, (by simp only [Act.put, List.setIfInBounds_toArray, List.set_cons_succ, List.set_cons_zero]), HI.out.load5⟩
        · intro L aa W' hII hL hdep K hK
          obtain ⟨s20, s21, s22, s23, haa, hI⟩ := hII
          subst haa
          simp only [Act.put, List.setIfInBounds_toArray, List.set_cons_succ, List.set_cons_zero]
          have hd : L 4 = true ∧ L 5 = true := by simp [Region.binds] at hdep; simp [hdep]
          obtain ⟨k7, v7, st7, ng7, A7, n7, c7, B7, m7, d7, X7, l7, e7, rfl, hx⟩ := hI.2.2.2.1 hd.1
          obtain rfl := hI.2.2.2.2.1 hd.2
          have HI := Lib.hid hI
          have HLL := Lib.hid hL
          have HD := Lib.hid hd
          have HX := Lib.hid hx
          clear hI hL hdep hd hx
          go_simp
          exact hK.out _ _ ⟨_, _, _, s23, (by simp only [Act.put, List.setIfInBounds_toArray, List.set_cons_succ, List.set_cons_zero]), HI.out.build6 HLL.out HD.out.2 HOW.out (Nat.lt_of_lt_of_le HOWR.out HI.out.1.size) HX.out⟩
        · intro L aa W' hII hL hdep K hK
          obtain ⟨s20, s21, s22, s23, haa, hI⟩ := hII
          subst haa
          simp only [Act.put, List.setIfInBounds_toArray, List.set_cons_succ, List.set_cons_zero]
          have hd : L 6 = true := by simp [Region.binds] at hdep; simp [hdep]
          obtain ⟨_, g, rfl, _⟩ := hI.2.2.2.2.2.1 hd
          have HI := Lib.hid hI
          have HD := Lib.hid hd
          clear hI hL hdep hd
          go_simp
          refine hK.out _ _ ?_
          exact ⟨s20, s21, _, .agg #[.int .i64 5, .int .i64 0, .string ⟨#[46]⟩, .bool false, .slice none 0 0, .slice none 0 0, .slice (some ⟨g, 0, none⟩) 2 2], (by simp only [Act.put, List.setIfInBounds_toArray, List.set_cons_succ, List.set_cons_zero]), HI.out.build7 HD.out⟩
        · intro L aa W' hII hL hdep K hK
          obtain ⟨s20, s21, s22, s23, haa, hI⟩ := hII
          subst haa
          simp only [Act.put, List.setIfInBounds_toArray, List.set_cons_succ, List.set_cons_zero]
          have hd : L 7 = true := by simp [Region.binds] at hdep; simp [hdep]
          obtain ⟨h6, rfl⟩ := hI.2.2.2.2.2.2.1 hd
          obtain ⟨_, g, rfl, _⟩ := hI.2.2.2.2.2.1 h6
          have hblk := hI.2.2.1 hL
          have hc0 := hblk.cell 0
          have hc1 := hblk.cell 1
          have hc2 := hblk.cell 2
          have hc3 := hblk.cell 3
          have hc4 := hblk.cell 4
          have hc5 := hblk.cell 5
          have hc6 := hblk.cell 6
          simp only [List.getElem?_toArray, List.getElem?_cons_zero, List.getElem?_cons_succ] at hc0 hc1 hc2 hc3 hc4 hc5 hc6
          have hz0 := hblk.frozen 0
          have hz1 := hblk.frozen 1
          have hz2 := hblk.frozen 2
          have hz3 := hblk.frozen 3
          have hz4 := hblk.frozen 4
          have hz5 := hblk.frozen 5
          have hz6 := hblk.frozen 6
          have HI := Lib.hid hI
          have HLL := Lib.hid hL
          have HD := Lib.hid hd
          clear hI hL hdep hd hblk h6
          go_simp
          refine hK.out _ _ ?_
          exact ⟨s20, s21, _, .agg #[.int .i64 5, .int .i64 0, .string ⟨#[46]⟩, .bool false, .slice none 0 0, .slice none 0 0, .slice (some ⟨g, 0, none⟩) 2 2], (by simp only [Act.put, List.setIfInBounds_toArray, List.set_cons_succ, List.set_cons_zero]), HI.out.store8 HLL.out HD.out⟩
      case done =>
        rintro L a W1 ⟨s20, s21, s22, s23, rfl, hI⟩ hall
        simp only [Act.put, List.setIfInBounds_toArray, List.set_cons_succ, List.set_cons_zero]
        obtain ⟨hk, g, rfl, ht, hblk⟩ := hI.done hall
        have HT1 := Lib.hid ht
        have HK1 := Lib.hid hblk
        have HKK : Hid (Kept (fun k => k = O) wr W1) := hk.undrew
        clear hI hall hHeld ht hblk hk
        go_wp2_with fail
        go_roundg j
        case measure => omega
        case rel =>
          refine ⟨5, 0, ⟨#[46]⟩, false, none, 0, 0, none, 0, 0, some ⟨g, 0, none⟩, 2, 2, (j : Int) - 1, by omega, by go_num, by omega, ?_, HK1.out, ?_, ?_⟩
          · rw [listT_drop ts r hja]; exact HT1.out
          · exact HB.out.trans (HKK.out.below HB.out.size fun k hk => by have := HOW.out; omega)
          · exact HKK.out.blk HRS.out (by have := HOW.out; omega)
end Go.Proofs.Ytkamkaehlofgpaa
