/-  -/
import Derived.Deep.RegionHeld3
import Derived.Test.YtdmhkhnnomdkcaaDoorJo14
import Derived.Test.YtdmhkhnnomdkcaaDoorJo21
import Derived.Test.YtdmhkhnnomdkcaaDoorJo23
import Derived.Test.YtdmhkhnnomdkcaaDoorJo24
set_option linter.unusedVariables false
set_option linter.unusedSimpArgs false
/- number.Power, at any two numbers. -/
namespace Go.Proofs.YtdmhkhnnomdkcaaDoor
open Go.RowKit NumB
set_option linter.unusedVariables false
set_option linter.unusedSimpArgs false

theorem opS_11 : opS 0 false 1 1 = (⟨false, digs W32 1, digs W32 1⟩, 0) := by
  have h : fitB 1 1 = true := decide_eq_true ⟨by rw [digs_one32]; decide, by rw [digs_one32]; decide⟩
  unfold opS
  rw [if_pos rfl, if_pos h]
def oddB (n : Nat) : Bool := decide (n % 2 = 1)
/-- What Power answers, for integers as exponents. -/
def powI (a b : LN) : LN × Int := if b.x = 0 then opS 0 false 1 1 else if a.x = 0 ∧ b.neg = true then (zeroL, 10) else if a.x = 0 ∨ (a.x = 1 ∧ a.y = 1) then opS 0 (a.neg && oddB b.x) a.x a.y else if 4096 < b.x then (zeroL, 3) else if powOk a.x b.x && powOk a.y b.x then opS 0 (a.neg && oddB b.x) (if b.neg then a.y ^ b.x else a.x ^ b.x) (if b.neg then a.x ^ b.x else a.y ^ b.x) else (zeroL, 3)
/-- What Power answers. -/
def powS (a b : LN) : LN × Int := if err2 a.err b.err = 0 then (if b.y = 1 then powI a b else (zeroL, 7)) else (zeroL, err2 a.err b.err)
theorem fracS_co {s : Bool} {n d : Nat} (h : Nat.gcd n d = 1) : fracS 0 s n d = opS 0 (s && decide (0 < n)) n d := by unfold fracS; rw [h, Nat.div_one, Nat.div_one]
theorem and_one_u32 (x : Nat) (hx : x < 4294967296) : bits .and .u32 (x : Int) 1 = ((x % 2 : Nat) : Int) := by
  have h := u32_and (x : Int) 1 (by omega) (by omega) (by omega) (by omega)
  rw [Int.toNat_natCast, show (1 : Int).toNat = 1 from rfl, Nat.and_one_is_mod] at h
  exact h
theorem digs_low {x : Nat} (h : 0 < (digs W32 x).length) : (digs W32 x).getD 0 0 % 2 = x % 2 := by
  have h0 : x ≠ 0 := by intro e; subst e; rw [digs_zero] at h; cases h
  rw [digs_step W32_gt h0]
  show x % 4294967296 % 2 = x % 2
  omega

set_option maxRecDepth 1000000 in
set_option maxHeartbeats 51200000 in
theorem powerNum_S (a b : LN) (va vb : Value) (w : World) (ga : GV w va a) (gb : GV w vb b) : Calls Tryd.prog 9 #[va, vb] w (SPost w (powS a b)) := by
  have GA := Lib.hid ga
  have GB := Lib.hid gb
  have HOK := Lib.hid (And.intro ga.ok gb.ok)
  obtain ⟨B1, m1, d1, B2, m2, d2, rfl, hq1, hq2⟩ := ga.form
  clear hq1 hq2
  obtain ⟨B3, m3, d3, B4, m4, d4, rfl, hq1, hq2⟩ := gb.form
  have HM3 := Lib.hid hq1
  clear hq1 hq2 ga gb
  have HBK := Lib.hid (blk_3 w 24 24 24 #[.bool a.neg, .slice B1 m1 d1, .slice B2 m2 d2] #[.bool b.neg, .slice B3 m3 d3, .slice B4 m4 d4] #[.bool false, .slice none 0 0, .slice none 0 0])
  have HI : Hid (∀ (W : World) (g cap : Nat) (t : TypeId), Blk W g t #[.bool a.neg, .slice B1 m1 d1, .slice B2 m2 d2, .bool b.neg, .slice B3 m3 d3, .slice B4 m4 d4] → GV W (.agg #[.bool a.neg, .slice B1 m1 d1, .slice B2 m2 d2]) a → GV W (.agg #[.bool b.neg, .slice B3 m3 d3, .slice B4 m4 d4]) b → Calls Tryd.prog 19 #[.slice (some ⟨g, 0, none⟩) 2 cap] W fun e w' => e = .returned (.int .i64 (err2 a.err b.err)) ∧ Below W.heap.size W w') := fun W g cap t h1 h2 h3 => checks_two g cap a.neg b.neg a.num a.den b.num b.den _ _ _ _ W t h1 h2.parts.2.1 h2.parts.2.2.1 h3.parts.2.1 h3.parts.2.2.1 h2.parts.2.2.2.1 h2.parts.2.2.2.2 h3.parts.2.2.2.1 h3.parts.2.2.2.2
  have hbd : 0 ≤ err2 a.err b.err ∧ err2 a.err b.err ≤ 3 := err2_bd (checkL_bd _ _ _) (checkL_bd _ _ _)
  by_cases e0 : err2 a.err b.err = 0
  rotate_left
  · have b0 : (err2 a.err b.err != 0) = true := by rw [bne_iff_ne]; exact e0
    have HRE : Hid (powS a b = (zeroL, err2 a.err b.err)) := by unfold Hid powS; rw [if_neg e0]
    generalize powS a b = r at *
    generalize err2 a.err b.err = z at *
    clear e0
    go_enter Tryd.func9, Tryd.ntmps9
    go_wp2_with fail
    refine (HI.out _ _ _ _ (by exact blk_4 w _ _ _ _ _) (by exact GA.out.to (below_4 w _ _ _ _)) (by exact GB.out.to (below_4 w _ _ _ _))).mono ?_
    rintro e w1 ⟨rfl, hb⟩
    have KA := Lib.hid ((HBK.out.1.alloc _).to hb)
    have KB := Lib.hid ((HBK.out.2.1.alloc _).to hb)
    have KC := Lib.hid ((HBK.out.2.2.alloc _).to hb)
    have HBE : Hid (Below w.heap.size w w1) := (below_4 w _ _ _ _).trans (hb.mono (below_4 w _ _ _ _).size)
    have GA := Lib.hid (GA.out.to HBE.out)
    have GB := Lib.hid (GB.out.to HBE.out)
    clear hb HI HBK
    have kc0 := KC.out.cell 0
    have kc1 := KC.out.cell 1
    have kc2 := KC.out.cell 2
    simp only [List.getElem?_toArray, List.getElem?_cons_zero, List.getElem?_cons_succ] at kc0 kc1 kc2
    have fzkc0 := KC.out.frozen 0
    have fzkc1 := KC.out.frozen 1
    have fzkc2 := KC.out.frozen 2
    go_wp2_with fail
    refine bodyPost_ret (v := .tuple #[zeroNum, .int .i64 z]) (by rw [results_cell_tmp rfl]; go_simp; rfl) rfl ?_
    rw [HRE.out]
    exact ⟨_, rfl, GV.zero _, put3_below HBE.out (by omega) _ _ _⟩
  rw [e0] at HI
  obtain ⟨ea, eb⟩ := err2_zero.1 e0
  obtain ⟨p1, p2, p3, p4, hca⟩ := LN.good HOK.out.1 ea
  obtain ⟨q1, q2, q3, q4, hcb⟩ := LN.good HOK.out.2 eb
  have HX : Hid (∀ W, GV W (.agg #[.bool a.neg, .slice B1 m1 d1, .slice B2 m2 d2]) a → Nat32 W (.slice B1 m1 d1) a.x ∧ Nat32 W (.slice B2 m2 d2) a.y) := fun W h => by unfold Nat32; rw [p1, p2]; exact ⟨h.parts.2.1, h.parts.2.2.1⟩
  have HY : Hid (∀ W, GV W (.agg #[.bool b.neg, .slice B3 m3 d3, .slice B4 m4 d4]) b → Nat32 W (.slice B3 m3 d3) b.x ∧ Nat32 W (.slice B4 m4 d4) b.y) := fun W h => by unfold Nat32; rw [q1, q2]; exact ⟨h.parts.2.1, h.parts.2.2.1⟩
  have HL : Hid ((digs W32 a.x).length ≤ 128 ∧ (digs W32 a.y).length ≤ 128 ∧ 0 < a.y) := ⟨by rw [p1]; exact p3, by rw [p2]; exact p4, hca.1⟩
  have HM3D : Hid (m3 = (digs W32 b.x).length) := by unfold Hid; rw [q1]; exact HM3.out
  have HCO : Hid (Nat.gcd a.x a.y = 1 ∧ (a.x = 0 → a.neg = false) ∧ (a.x = 0 → a.y = 1)) := ⟨hca.2.1, hca.2.2, fun h => by have := hca.2.1; rw [h, Nat.gcd_zero_left] at this; exact this⟩
  have HONE : Hid (∀ (W : World) (v : Value) (x : Nat), Nat32 W v x → Calls Tryd.prog 22 #[v] W fun e w' => e = .returned (.bool (oneB x)) ∧ Below W.heap.size W w') := fun W v x h => (isOne_any x v W h).mono fun e w' ⟨h1, h2⟩ => ⟨h1, h2 ▸ Below.refl _ _⟩
  have HMD : Hid (∀ (sg : Bool) (n d : Nat) (W : World) (u v : Value), Nat32 W u n → Nat32 W v d → 0 < d → (digs W32 n).length ≤ 128 → (digs W32 d).length ≤ 128 → Nat.gcd n d = 1 → Calls Tryd.prog 23 #[.bool sg, u, v] W (SPost W (opS 0 (sg && decide (0 < n)) n d))) := fun sg n d W u v h1 h2 h3 h4 h5 h6 => by
    rw [← fracS_co h6]
    exact (made_any sg n d u v W h1 h2 h3 (by omega) (by omega)).mono fun _ _ h => FitPost.toS h
  by_cases hby : b.y = 1
  rotate_left
  · have HRE : Hid (powS a b = (zeroL, 7)) := by unfold Hid powS; rw [if_pos e0, if_neg hby]
    have HO := Lib.hid (fun (W : World) (h : Nat32 W (.slice B4 m4 d4) b.y) => HONE.out W _ _ h)
    rw [oneB_false hby] at HO
    generalize powS a b = r at *
    clear e0 ea eb p1 p2 p3 p4 hca q1 q2 q3 q4 hcb hbd hby
    go_enter Tryd.func9, Tryd.ntmps9
    go_wp2_with fail
    refine (HI.out _ _ _ _ (by exact blk_4 w _ _ _ _ _) (by exact GA.out.to (below_4 w _ _ _ _)) (by exact GB.out.to (below_4 w _ _ _ _))).mono ?_
    rintro e w1 ⟨rfl, hb⟩
    have KA := Lib.hid ((HBK.out.1.alloc _).to hb)
    have KB := Lib.hid ((HBK.out.2.1.alloc _).to hb)
    have KC := Lib.hid ((HBK.out.2.2.alloc _).to hb)
    have HBE : Hid (Below w.heap.size w w1) := (below_4 w _ _ _ _).trans (hb.mono (below_4 w _ _ _ _).size)
    have GA := Lib.hid (GA.out.to HBE.out)
    have GB := Lib.hid (GB.out.to HBE.out)
    clear hb HI HBK
    have kb0 := KB.out.cell 0
    have kb1 := KB.out.cell 1
    have kb2 := KB.out.cell 2
    simp only [List.getElem?_toArray, List.getElem?_cons_zero, List.getElem?_cons_succ] at kb0 kb1 kb2
    go_wp2_with fail
    refine (HO.out _ (by exact (HY.out _ GB.out).2)).mono ?_
    rintro e w2 ⟨rfl, hb⟩
    clear kb0 kb1 kb2
    have KA := Lib.hid (KA.out.to hb)
    have KB := Lib.hid (KB.out.to hb)
    have KC := Lib.hid (KC.out.to hb)
    have GA := Lib.hid (GA.out.to hb)
    have GB := Lib.hid (GB.out.to hb)
    have HBE : Hid (Below w.heap.size w w2) := HBE.out.trans ((hb).mono HBE.out.size)
    clear hb
    have kc0 := KC.out.cell 0
    have kc1 := KC.out.cell 1
    have kc2 := KC.out.cell 2
    simp only [List.getElem?_toArray, List.getElem?_cons_zero, List.getElem?_cons_succ] at kc0 kc1 kc2
    have fzkc0 := KC.out.frozen 0
    have fzkc1 := KC.out.frozen 1
    have fzkc2 := KC.out.frozen 2
    go_wp2_with fail
    refine bodyPost_ret (v := .tuple #[zeroNum, .int .i64 7]) (by rw [results_cell_tmp rfl]; go_simp; rfl) rfl ?_
    rw [HRE.out]
    exact ⟨_, rfl, GV.zero _, put3_below HBE.out (by omega) _ _ _⟩
  have HRI : Hid (powS a b = powI a b) := by unfold Hid powS; rw [if_pos e0, if_pos hby]
  have HO := Lib.hid (fun (W : World) (h : Nat32 W (.slice B4 m4 d4) b.y) => HONE.out W _ _ h)
  rw [oneB_true hby] at HO
  clear e0 ea eb p1 p2 p3 p4 hca q1 q2 q3 q4 hcb hbd hby
  by_cases hbx : b.x = 0
  · have HRE : Hid (powS a b = opS 0 false 1 1) := by unfold Hid; rw [HRI.out]; unfold powI; rw [if_pos hbx]
    have HFI : Hid (∀ W : World, Calls Tryd.prog 10 #[.int .i64 1] W fun e w' => ∃ v, e = .returned v ∧ GV w' v (powS a b).1 ∧ Below W.heap.size W w') := fun W => (fromInt_pos 1 W (by omega)).mono fun e w' ⟨v, h1, h2, h3⟩ => ⟨v, h1, by rw [HRE.out, opS_11]; exact GV.of_num h2, h3⟩
    have HR2 : Hid ((powS a b).2 = 0) := by rw [HRE.out, opS_11]; rfl
    obtain rfl : m3 = 0 := by rw [HM3D.out, hbx, digs_zero]; rfl
    generalize powS a b = r at *
    clear hbx
    go_enter Tryd.func9, Tryd.ntmps9
    go_wp2_with fail
    refine (HI.out _ _ _ _ (by exact blk_4 w _ _ _ _ _) (by exact GA.out.to (below_4 w _ _ _ _)) (by exact GB.out.to (below_4 w _ _ _ _))).mono ?_
    rintro e w1 ⟨rfl, hb⟩
    have KA := Lib.hid ((HBK.out.1.alloc _).to hb)
    have KB := Lib.hid ((HBK.out.2.1.alloc _).to hb)
    have KC := Lib.hid ((HBK.out.2.2.alloc _).to hb)
    have HBE : Hid (Below w.heap.size w w1) := (below_4 w _ _ _ _).trans (hb.mono (below_4 w _ _ _ _).size)
    have GA := Lib.hid (GA.out.to HBE.out)
    have GB := Lib.hid (GB.out.to HBE.out)
    clear hb HI HBK
    have ka0 := KA.out.cell 0
    have ka1 := KA.out.cell 1
    have ka2 := KA.out.cell 2
    have kb0 := KB.out.cell 0
    have kb1 := KB.out.cell 1
    have kb2 := KB.out.cell 2
    simp only [List.getElem?_toArray, List.getElem?_cons_zero, List.getElem?_cons_succ] at ka0 ka1 ka2 kb0 kb1 kb2
    go_wp2_with fail
    refine (HO.out _ (by exact (HY.out _ GB.out).2)).mono ?_
    rintro e w2 ⟨rfl, hb⟩
    clear ka0 ka1 ka2 kb0 kb1 kb2
    have KA := Lib.hid (KA.out.to hb)
    have KB := Lib.hid (KB.out.to hb)
    have KC := Lib.hid (KC.out.to hb)
    have GA := Lib.hid (GA.out.to hb)
    have GB := Lib.hid (GB.out.to hb)
    have HBE : Hid (Below w.heap.size w w2) := HBE.out.trans ((hb).mono HBE.out.size)
    clear hb
    have kb0 := KB.out.cell 0
    have kb1 := KB.out.cell 1
    have kb2 := KB.out.cell 2
    simp only [List.getElem?_toArray, List.getElem?_cons_zero, List.getElem?_cons_succ] at kb0 kb1 kb2
    go_wp2_with fail
    refine (HFI.out _).mono ?_
    rintro e w3 ⟨v, rfl, hg, hb⟩
    clear kb0 kb1 kb2
    have KA := Lib.hid (KA.out.to hb)
    have KB := Lib.hid (KB.out.to hb)
    have KC := Lib.hid (KC.out.to hb)
    have GA := Lib.hid (GA.out.to hb)
    have GB := Lib.hid (GB.out.to hb)
    have HBE : Hid (Below w.heap.size w w3) := HBE.out.trans ((hb).mono HBE.out.size)
    clear hb
    obtain ⟨Az, nz, cz, Bz, mz, dz, rfl, hq1, hq2⟩ := hg.form
    have Gz := Lib.hid hg
    clear hq1 hq2 hg
    have kc0 := KC.out.cell 0
    have kc1 := KC.out.cell 1
    have kc2 := KC.out.cell 2
    simp only [List.getElem?_toArray, List.getElem?_cons_zero, List.getElem?_cons_succ] at kc0 kc1 kc2
    have fzkc0 := KC.out.frozen 0
    have fzkc1 := KC.out.frozen 1
    have fzkc2 := KC.out.frozen 2
    go_wp2_with fail
    refine bodyPost_ret (v := .tuple #[.agg #[.bool r.1.neg, .slice Az nz cz, .slice Bz mz dz], .int .i64 0]) (by rw [results_cell_tmp rfl]; go_simp) rfl ?_
    exact ⟨_, by rw [HR2.out], Gz.out.put3 KC.out _ _ _, put3_below HBE.out (by omega) _ _ _⟩
  have hm30 : 0 < m3 := (len_pos32 HM3D.out).2 (Nat.pos_of_ne_zero hbx)
  have hm3b : ((m3 : Int) == 0) = false := beq_eq_false_iff_ne.2 (by omega)
  obtain ⟨b9, o9, p9, hB3, hp9, hev, hbig, HC9⟩ : ∃ b9 o9 p9 : Nat, B3 = some ⟨b9, o9, none⟩ ∧ p9 < 4294967296 ∧ p9 % 2 = b.x % 2 ∧ (m3 = 1 → p9 = b.x) ∧ Hid (∀ W, GV W (.agg #[.bool b.neg, .slice B3 m3 d3, .slice B4 m4 d4]) b → W.cell? ⟨b9, o9, none⟩ = some (.int .u32 (p9 : Int))) := by
    obtain ⟨A9, c9, e9, _, _, hr9⟩ := HY.out _ GB.out |>.1
    rw [← HM3D.out] at hr9 e9
    simp only [Value.slice.injEq] at e9
    obtain ⟨rfl, -, rfl⟩ := e9
    obtain ⟨b9, o9, p9, hB, hb9, hpe9, hcell9⟩ := hr9.at_ (i := 0) (by omega)
    refine ⟨b9, o9, p9, hB, by rw [← hpe9]; exact (ok_digs W32_gt b.x).getD (by decide) _, by rw [← hpe9]; exact digs_low (by rw [← HM3D.out]; exact hm30), fun h => by rw [← hpe9]; exact (digs_single (by rw [← HM3D.out]; exact h)).1, fun W h => ?_⟩
    obtain ⟨A8, c8, e8, _, _, hr8⟩ := (HY.out W h).1
    rw [← HM3D.out] at hr8 e8
    simp only [Value.slice.injEq] at e8
    obtain ⟨rfl, -, rfl⟩ := e8
    obtain ⟨b8, o8, p8, hB8, hb8, hpe8, hcell8⟩ := hr8.at_ (i := 0) (by omega)
    rw [hB] at hB8
    simp only [Option.some.injEq, Addr.mk.injEq, and_true] at hB8
    obtain ⟨rfl, rfl⟩ := hB8
    rw [hpe9] at hpe8
    subst hpe8
    rw [Nat.add_zero] at hcell8
    exact hcell8
  subst hB3
  obtain ⟨zo, hzo, hod⟩ : ∃ zo : Int, bits .and .u32 (p9 : Int) 1 = zo ∧ (zo == 1) = oddB b.x := ⟨_, rfl, by
    rw [and_one_u32 p9 hp9, hev]
    unfold oddB
    rw [Bool.eq_iff_iff, beq_iff_eq, decide_eq_true_iff]
    omega⟩
  have HEV := Lib.hid (And.intro hev hbig)
  obtain ⟨od, HOD⟩ : ∃ od, Hid (oddB b.x = od) := ⟨_, rfl⟩
  rw [HOD.out] at hod
  clear hev hbig
  by_cases hzero : a.x = 0 ∧ b.neg = true
  · have HRE : Hid (powS a b = (zeroL, 10)) := by unfold Hid; rw [HRI.out]; unfold powI; rw [if_neg hbx, if_pos hzero]
    obtain rfl : m1 = 0 := by have := (HX.out _ GA.out).1; obtain ⟨A8, c8, e8, _⟩ := this; rw [hzero.1, digs_zero] at e8; simp at e8; exact e8.2.1
    have HBN := Lib.hid hzero.2
    generalize powS a b = r at *
    clear hbx hzero
    go_enter Tryd.func9, Tryd.ntmps9
    go_wp2_with fail
    refine (HI.out _ _ _ _ (by exact blk_4 w _ _ _ _ _) (by exact GA.out.to (below_4 w _ _ _ _)) (by exact GB.out.to (below_4 w _ _ _ _))).mono ?_
    rintro e w1 ⟨rfl, hb⟩
    have KA := Lib.hid ((HBK.out.1.alloc _).to hb)
    have KB := Lib.hid ((HBK.out.2.1.alloc _).to hb)
    have KC := Lib.hid ((HBK.out.2.2.alloc _).to hb)
    have HBE : Hid (Below w.heap.size w w1) := (below_4 w _ _ _ _).trans (hb.mono (below_4 w _ _ _ _).size)
    have GA := Lib.hid (GA.out.to HBE.out)
    have GB := Lib.hid (GB.out.to HBE.out)
    clear hb HI HBK
    have ka0 := KA.out.cell 0
    have ka1 := KA.out.cell 1
    have ka2 := KA.out.cell 2
    have kb0 := KB.out.cell 0
    have kb1 := KB.out.cell 1
    have kb2 := KB.out.cell 2
    simp only [List.getElem?_toArray, List.getElem?_cons_zero, List.getElem?_cons_succ] at ka0 ka1 ka2 kb0 kb1 kb2
    go_wp2_with fail
    refine (HO.out _ (by exact (HY.out _ GB.out).2)).mono ?_
    rintro e w2 ⟨rfl, hb⟩
    clear ka0 ka1 ka2 kb0 kb1 kb2
    have KA := Lib.hid (KA.out.to hb)
    have KB := Lib.hid (KB.out.to hb)
    have KC := Lib.hid (KC.out.to hb)
    have GA := Lib.hid (GA.out.to hb)
    have GB := Lib.hid (GB.out.to hb)
    have HBE : Hid (Below w.heap.size w w2) := HBE.out.trans ((hb).mono HBE.out.size)
    clear hb
    have ka0 := KA.out.cell 0
    have ka1 := KA.out.cell 1
    have ka2 := KA.out.cell 2
    have kb0 := KB.out.cell 0
    have kb1 := KB.out.cell 1
    have kb2 := KB.out.cell 2
    simp only [List.getElem?_toArray, List.getElem?_cons_zero, List.getElem?_cons_succ] at ka0 ka1 ka2 kb0 kb1 kb2
    rw [HBN.out] at kb0
    have hc9 := HC9.out _ GB.out
    have kc0 := KC.out.cell 0
    have kc1 := KC.out.cell 1
    have kc2 := KC.out.cell 2
    simp only [List.getElem?_toArray, List.getElem?_cons_zero, List.getElem?_cons_succ] at kc0 kc1 kc2
    have fzkc0 := KC.out.frozen 0
    have fzkc1 := KC.out.frozen 1
    have fzkc2 := KC.out.frozen 2
    go_wp2_with fail
    refine bodyPost_ret (v := .tuple #[zeroNum, .int .i64 10]) (by rw [results_cell_tmp rfl]; go_simp; rfl) rfl ?_
    rw [HRE.out]
    exact ⟨_, rfl, GV.zero _, put3_below HBE.out (by omega) _ _ _⟩
  by_cases hax : a.x = 0
  · have hbn : b.neg = false := by
      cases h : b.neg with
      | false => rfl
      | true => exact absurd ⟨hax, h⟩ hzero
    have HNA := Lib.hid (HCO.out.2.1 hax)
    have HRE : Hid (powS a b = opS 0 (false && decide (0 < a.x)) a.x a.y) := by unfold Hid; rw [HRI.out]; unfold powI; rw [if_neg hbx, if_neg hzero, if_pos (Or.inl hax), HNA.out]; simp
    have HMZ : Hid (∀ (W : World) (u v : Value), Nat32 W u a.x → Nat32 W v a.y → Calls Tryd.prog 23 #[.bool false, u, v] W (SPost W (powS a b))) := fun W u v h1 h2 => by
      rw [HRE.out]
      exact HMD.out false a.x a.y W u v h1 h2 HL.out.2.2 HL.out.1 HL.out.2.1 HCO.out.1
    obtain rfl : m1 = 0 := by have := (HX.out _ GA.out).1; obtain ⟨A8, c8, e8, _⟩ := this; rw [hax, digs_zero] at e8; simp at e8; exact e8.2.1
    have HBN := Lib.hid hbn
    generalize powS a b = r at *
    clear hbx hzero hax hbn
    go_enter Tryd.func9, Tryd.ntmps9
    go_wp2_with fail
    refine (HI.out _ _ _ _ (by exact blk_4 w _ _ _ _ _) (by exact GA.out.to (below_4 w _ _ _ _)) (by exact GB.out.to (below_4 w _ _ _ _))).mono ?_
    rintro e w1 ⟨rfl, hb⟩
    have KA := Lib.hid ((HBK.out.1.alloc _).to hb)
    have KB := Lib.hid ((HBK.out.2.1.alloc _).to hb)
    have KC := Lib.hid ((HBK.out.2.2.alloc _).to hb)
    have HBE : Hid (Below w.heap.size w w1) := (below_4 w _ _ _ _).trans (hb.mono (below_4 w _ _ _ _).size)
    have GA := Lib.hid (GA.out.to HBE.out)
    have GB := Lib.hid (GB.out.to HBE.out)
    clear hb HI HBK
    have ka0 := KA.out.cell 0
    have ka1 := KA.out.cell 1
    have ka2 := KA.out.cell 2
    have kb0 := KB.out.cell 0
    have kb1 := KB.out.cell 1
    have kb2 := KB.out.cell 2
    simp only [List.getElem?_toArray, List.getElem?_cons_zero, List.getElem?_cons_succ] at ka0 ka1 ka2 kb0 kb1 kb2
    go_wp2_with fail
    refine (HO.out _ (by exact (HY.out _ GB.out).2)).mono ?_
    rintro e w2 ⟨rfl, hb⟩
    clear ka0 ka1 ka2 kb0 kb1 kb2
    have KA := Lib.hid (KA.out.to hb)
    have KB := Lib.hid (KB.out.to hb)
    have KC := Lib.hid (KC.out.to hb)
    have GA := Lib.hid (GA.out.to hb)
    have GB := Lib.hid (GB.out.to hb)
    have HBE : Hid (Below w.heap.size w w2) := HBE.out.trans ((hb).mono HBE.out.size)
    clear hb
    have ka0 := KA.out.cell 0
    have ka1 := KA.out.cell 1
    have ka2 := KA.out.cell 2
    have kb0 := KB.out.cell 0
    have kb1 := KB.out.cell 1
    have kb2 := KB.out.cell 2
    simp only [List.getElem?_toArray, List.getElem?_cons_zero, List.getElem?_cons_succ] at ka0 ka1 ka2 kb0 kb1 kb2
    rw [HBN.out] at kb0
    rw [HNA.out] at ka0
    have hc9 := HC9.out _ GB.out
    go_wp2_with fail
    refine (HMZ.out _ _ _ (by exact (HX.out _ GA.out).1) (by exact (HX.out _ GA.out).2)).mono ?_
    rintro e w3 ⟨v, rfl, hg, hb⟩
    clear ka0 ka1 ka2 kb0 kb1 kb2 hc9
    have KA := Lib.hid (KA.out.to hb)
    have KB := Lib.hid (KB.out.to hb)
    have KC := Lib.hid (KC.out.to hb)
    have GA := Lib.hid (GA.out.to hb)
    have GB := Lib.hid (GB.out.to hb)
    have HBE : Hid (Below w.heap.size w w3) := HBE.out.trans ((hb).mono HBE.out.size)
    clear hb
    obtain ⟨Az, nz, cz, Bz, mz, dz, rfl, hq1, hq2⟩ := hg.form
    have Gz := Lib.hid hg
    clear hq1 hq2 hg
    have kc0 := KC.out.cell 0
    have kc1 := KC.out.cell 1
    have kc2 := KC.out.cell 2
    simp only [List.getElem?_toArray, List.getElem?_cons_zero, List.getElem?_cons_succ] at kc0 kc1 kc2
    have fzkc0 := KC.out.frozen 0
    have fzkc1 := KC.out.frozen 1
    have fzkc2 := KC.out.frozen 2
    go_wp2_with fail
    refine bodyPost_ret (v := .tuple #[.agg #[.bool r.1.neg, .slice Az nz cz, .slice Bz mz dz], .int .i64 r.2]) (by rw [results_cell_tmp rfl]; go_simp) rfl ?_
    exact ⟨_, rfl, Gz.out.put3 KC.out _ _ _, put3_below HBE.out (by omega) _ _ _⟩
  have hm10 : 0 < m1 := by
    obtain ⟨A8, c8, e8, _⟩ := (HX.out _ GA.out).1
    simp only [Value.slice.injEq] at e8
    rw [e8.2.1]
    exact (len_pos32 rfl).2 (Nat.pos_of_ne_zero hax)
  have hm1b : ((m1 : Int) == 0) = false := beq_eq_false_iff_ne.2 (by omega)
  have HAX := Lib.hid (Nat.pos_of_ne_zero hax)
  by_cases hone : a.x = 1 ∧ a.y = 1
  · have HN1 := Lib.hid (fun (W : World) (v : Value) (h : Nat32 W v a.x) => HONE.out W v a.x h)
    have HN2 := Lib.hid (fun (W : World) (v : Value) (h : Nat32 W v a.y) => HONE.out W v a.y h)
    rw [oneB_true hone.1] at HN1
    rw [oneB_true hone.2] at HN2
    have HRE : Hid (powS a b = opS 0 ((a.neg && oddB b.x) && decide (0 < a.x)) a.x a.y) := by unfold Hid; rw [HRI.out]; unfold powI; rw [if_neg hbx, if_neg hzero, if_pos (Or.inr hone), hone.1]; simp
    have HMZ : Hid (∀ (W : World) (u v : Value), Nat32 W u a.x → Nat32 W v a.y → Calls Tryd.prog 23 #[.bool (a.neg && oddB b.x), u, v] W (SPost W (powS a b))) := fun W u v h1 h2 => by
      rw [HRE.out]
      exact HMD.out _ a.x a.y W u v h1 h2 HL.out.2.2 HL.out.1 HL.out.2.1 HCO.out.1
    rw [HOD.out] at HMZ
    generalize powS a b = r at *
    clear hbx hzero hax hone
    obtain ⟨na, HNA⟩ : ∃ na, Hid (a.neg = na) := ⟨_, rfl⟩
    rw [HNA.out] at HMZ
    cases na
    · go_enter Tryd.func9, Tryd.ntmps9
      go_wp2_with fail
      refine (HI.out _ _ _ _ (by exact blk_4 w _ _ _ _ _) (by exact GA.out.to (below_4 w _ _ _ _)) (by exact GB.out.to (below_4 w _ _ _ _))).mono ?_
      rintro e w1 ⟨rfl, hb⟩
      have KA := Lib.hid ((HBK.out.1.alloc _).to hb)
      have KB := Lib.hid ((HBK.out.2.1.alloc _).to hb)
      have KC := Lib.hid ((HBK.out.2.2.alloc _).to hb)
      have HBE : Hid (Below w.heap.size w w1) := (below_4 w _ _ _ _).trans (hb.mono (below_4 w _ _ _ _).size)
      have GA := Lib.hid (GA.out.to HBE.out)
      have GB := Lib.hid (GB.out.to HBE.out)
      clear hb HI HBK
      have ka0 := KA.out.cell 0
      have ka1 := KA.out.cell 1
      have ka2 := KA.out.cell 2
      have kb0 := KB.out.cell 0
      have kb1 := KB.out.cell 1
      have kb2 := KB.out.cell 2
      simp only [List.getElem?_toArray, List.getElem?_cons_zero, List.getElem?_cons_succ] at ka0 ka1 ka2 kb0 kb1 kb2
      go_wp2_with fail
      refine (HO.out _ (by exact (HY.out _ GB.out).2)).mono ?_
      rintro e w2 ⟨rfl, hb⟩
      clear ka0 ka1 ka2 kb0 kb1 kb2
      have KA := Lib.hid (KA.out.to hb)
      have KB := Lib.hid (KB.out.to hb)
      have KC := Lib.hid (KC.out.to hb)
      have GA := Lib.hid (GA.out.to hb)
      have GB := Lib.hid (GB.out.to hb)
      have HBE : Hid (Below w.heap.size w w2) := HBE.out.trans ((hb).mono HBE.out.size)
      clear hb
      have HMY : Hid (∀ (W : World) (u v : Value), Nat32 W u a.x → Nat32 W v a.y → Calls Tryd.prog 23 #[.bool false, u, v] W (SPost W r)) := HMZ.out
      have ka0 := KA.out.cell 0
      have ka1 := KA.out.cell 1
      have ka2 := KA.out.cell 2
      have kb0 := KB.out.cell 0
      have kb1 := KB.out.cell 1
      have kb2 := KB.out.cell 2
      simp only [List.getElem?_toArray, List.getElem?_cons_zero, List.getElem?_cons_succ] at ka0 ka1 ka2 kb0 kb1 kb2
      have hc9 := HC9.out _ GB.out
      go_wp2_with fail
      refine (HN1.out _ _ (by exact (HX.out _ GA.out).1)).mono ?_
      rintro e w3 ⟨rfl, hb⟩
      clear ka0 ka1 ka2 kb0 kb1 kb2 hc9
      have KA := Lib.hid (KA.out.to hb)
      have KB := Lib.hid (KB.out.to hb)
      have KC := Lib.hid (KC.out.to hb)
      have GA := Lib.hid (GA.out.to hb)
      have GB := Lib.hid (GB.out.to hb)
      have HBE : Hid (Below w.heap.size w w3) := HBE.out.trans ((hb).mono HBE.out.size)
      clear hb
      have ka0 := KA.out.cell 0
      have ka1 := KA.out.cell 1
      have ka2 := KA.out.cell 2
      have kb0 := KB.out.cell 0
      have kb1 := KB.out.cell 1
      have kb2 := KB.out.cell 2
      simp only [List.getElem?_toArray, List.getElem?_cons_zero, List.getElem?_cons_succ] at ka0 ka1 ka2 kb0 kb1 kb2
      go_wp2_with fail
      refine (HN2.out _ _ (by exact (HX.out _ GA.out).2)).mono ?_
      rintro e w4 ⟨rfl, hb⟩
      clear ka0 ka1 ka2 kb0 kb1 kb2
      have KA := Lib.hid (KA.out.to hb)
      have KB := Lib.hid (KB.out.to hb)
      have KC := Lib.hid (KC.out.to hb)
      have GA := Lib.hid (GA.out.to hb)
      have GB := Lib.hid (GB.out.to hb)
      have HBE : Hid (Below w.heap.size w w4) := HBE.out.trans ((hb).mono HBE.out.size)
      clear hb
      have ka0 := KA.out.cell 0
      have ka1 := KA.out.cell 1
      have ka2 := KA.out.cell 2
      have kb0 := KB.out.cell 0
      have kb1 := KB.out.cell 1
      have kb2 := KB.out.cell 2
      simp only [List.getElem?_toArray, List.getElem?_cons_zero, List.getElem?_cons_succ] at ka0 ka1 ka2 kb0 kb1 kb2
      rw [HNA.out] at ka0
      go_wp2_with fail
      refine (HMY.out _ _ _ (by exact (HX.out _ GA.out).1) (by exact (HX.out _ GA.out).2)).mono ?_
      rintro e w5 ⟨v, rfl, hg, hb⟩
      clear ka0 ka1 ka2 kb0 kb1 kb2
      have KA := Lib.hid (KA.out.to hb)
      have KB := Lib.hid (KB.out.to hb)
      have KC := Lib.hid (KC.out.to hb)
      have GA := Lib.hid (GA.out.to hb)
      have GB := Lib.hid (GB.out.to hb)
      have HBE : Hid (Below w.heap.size w w5) := HBE.out.trans ((hb).mono HBE.out.size)
      clear hb
      obtain ⟨Az, nz, cz, Bz, mz, dz, rfl, hq1, hq2⟩ := hg.form
      have Gz := Lib.hid hg
      clear hq1 hq2 hg
      have kc0 := KC.out.cell 0
      have kc1 := KC.out.cell 1
      have kc2 := KC.out.cell 2
      simp only [List.getElem?_toArray, List.getElem?_cons_zero, List.getElem?_cons_succ] at kc0 kc1 kc2
      have fzkc0 := KC.out.frozen 0
      have fzkc1 := KC.out.frozen 1
      have fzkc2 := KC.out.frozen 2
      go_wp2_with fail
      refine bodyPost_ret (v := .tuple #[.agg #[.bool r.1.neg, .slice Az nz cz, .slice Bz mz dz], .int .i64 r.2]) (by rw [results_cell_tmp rfl]; go_simp) rfl ?_
      exact ⟨_, rfl, Gz.out.put3 KC.out _ _ _, put3_below HBE.out (by omega) _ _ _⟩
    · go_enter Tryd.func9, Tryd.ntmps9
      go_wp2_with fail
      refine (HI.out _ _ _ _ (by exact blk_4 w _ _ _ _ _) (by exact GA.out.to (below_4 w _ _ _ _)) (by exact GB.out.to (below_4 w _ _ _ _))).mono ?_
      rintro e w1 ⟨rfl, hb⟩
      have KA := Lib.hid ((HBK.out.1.alloc _).to hb)
      have KB := Lib.hid ((HBK.out.2.1.alloc _).to hb)
      have KC := Lib.hid ((HBK.out.2.2.alloc _).to hb)
      have HBE : Hid (Below w.heap.size w w1) := (below_4 w _ _ _ _).trans (hb.mono (below_4 w _ _ _ _).size)
      have GA := Lib.hid (GA.out.to HBE.out)
      have GB := Lib.hid (GB.out.to HBE.out)
      clear hb HI HBK
      have ka0 := KA.out.cell 0
      have ka1 := KA.out.cell 1
      have ka2 := KA.out.cell 2
      have kb0 := KB.out.cell 0
      have kb1 := KB.out.cell 1
      have kb2 := KB.out.cell 2
      simp only [List.getElem?_toArray, List.getElem?_cons_zero, List.getElem?_cons_succ] at ka0 ka1 ka2 kb0 kb1 kb2
      go_wp2_with fail
      refine (HO.out _ (by exact (HY.out _ GB.out).2)).mono ?_
      rintro e w2 ⟨rfl, hb⟩
      clear ka0 ka1 ka2 kb0 kb1 kb2
      have KA := Lib.hid (KA.out.to hb)
      have KB := Lib.hid (KB.out.to hb)
      have KC := Lib.hid (KC.out.to hb)
      have GA := Lib.hid (GA.out.to hb)
      have GB := Lib.hid (GB.out.to hb)
      have HBE : Hid (Below w.heap.size w w2) := HBE.out.trans ((hb).mono HBE.out.size)
      clear hb
      have HMY : Hid (∀ (W : World) (u v : Value), Nat32 W u a.x → Nat32 W v a.y → Calls Tryd.prog 23 #[.bool od, u, v] W (SPost W r)) := HMZ.out
      have ka0 := KA.out.cell 0
      have ka1 := KA.out.cell 1
      have ka2 := KA.out.cell 2
      have kb0 := KB.out.cell 0
      have kb1 := KB.out.cell 1
      have kb2 := KB.out.cell 2
      simp only [List.getElem?_toArray, List.getElem?_cons_zero, List.getElem?_cons_succ] at ka0 ka1 ka2 kb0 kb1 kb2
      have hc9 := HC9.out _ GB.out
      go_wp2_with fail
      refine (HN1.out _ _ (by exact (HX.out _ GA.out).1)).mono ?_
      rintro e w3 ⟨rfl, hb⟩
      clear ka0 ka1 ka2 kb0 kb1 kb2 hc9
      have KA := Lib.hid (KA.out.to hb)
      have KB := Lib.hid (KB.out.to hb)
      have KC := Lib.hid (KC.out.to hb)
      have GA := Lib.hid (GA.out.to hb)
      have GB := Lib.hid (GB.out.to hb)
      have HBE : Hid (Below w.heap.size w w3) := HBE.out.trans ((hb).mono HBE.out.size)
      clear hb
      have ka0 := KA.out.cell 0
      have ka1 := KA.out.cell 1
      have ka2 := KA.out.cell 2
      have kb0 := KB.out.cell 0
      have kb1 := KB.out.cell 1
      have kb2 := KB.out.cell 2
      simp only [List.getElem?_toArray, List.getElem?_cons_zero, List.getElem?_cons_succ] at ka0 ka1 ka2 kb0 kb1 kb2
      go_wp2_with fail
      refine (HN2.out _ _ (by exact (HX.out _ GA.out).2)).mono ?_
      rintro e w4 ⟨rfl, hb⟩
      clear ka0 ka1 ka2 kb0 kb1 kb2
      have KA := Lib.hid (KA.out.to hb)
      have KB := Lib.hid (KB.out.to hb)
      have KC := Lib.hid (KC.out.to hb)
      have GA := Lib.hid (GA.out.to hb)
      have GB := Lib.hid (GB.out.to hb)
      have HBE : Hid (Below w.heap.size w w4) := HBE.out.trans ((hb).mono HBE.out.size)
      clear hb
      have ka0 := KA.out.cell 0
      have ka1 := KA.out.cell 1
      have ka2 := KA.out.cell 2
      have kb0 := KB.out.cell 0
      have kb1 := KB.out.cell 1
      have kb2 := KB.out.cell 2
      simp only [List.getElem?_toArray, List.getElem?_cons_zero, List.getElem?_cons_succ] at ka0 ka1 ka2 kb0 kb1 kb2
      rw [HNA.out] at ka0
      go_wp2_with fail
      refine (HMY.out _ _ _ (by exact (HX.out _ GA.out).1) (by exact (HX.out _ GA.out).2)).mono ?_
      rintro e w5 ⟨v, rfl, hg, hb⟩
      clear ka0 ka1 ka2 kb0 kb1 kb2
      have KA := Lib.hid (KA.out.to hb)
      have KB := Lib.hid (KB.out.to hb)
      have KC := Lib.hid (KC.out.to hb)
      have GA := Lib.hid (GA.out.to hb)
      have GB := Lib.hid (GB.out.to hb)
      have HBE : Hid (Below w.heap.size w w5) := HBE.out.trans ((hb).mono HBE.out.size)
      clear hb
      obtain ⟨Az, nz, cz, Bz, mz, dz, rfl, hq1, hq2⟩ := hg.form
      have Gz := Lib.hid hg
      clear hq1 hq2 hg
      have kc0 := KC.out.cell 0
      have kc1 := KC.out.cell 1
      have kc2 := KC.out.cell 2
      simp only [List.getElem?_toArray, List.getElem?_cons_zero, List.getElem?_cons_succ] at kc0 kc1 kc2
      have fzkc0 := KC.out.frozen 0
      have fzkc1 := KC.out.frozen 1
      have fzkc2 := KC.out.frozen 2
      go_wp2_with fail
      refine bodyPost_ret (v := .tuple #[.agg #[.bool r.1.neg, .slice Az nz cz, .slice Bz mz dz], .int .i64 r.2]) (by rw [results_cell_tmp rfl]; go_simp) rfl ?_
      exact ⟨_, rfl, Gz.out.put3 KC.out _ _ _, put3_below HBE.out (by omega) _ _ _⟩
  have hsel : (oneB a.x = false) ∨ (oneB a.x = true ∧ oneB a.y = false) := by
    by_cases h1 : a.x = 1
    · exact .inr ⟨oneB_true h1, oneB_false (fun h2 => hone ⟨h1, h2⟩)⟩
    · exact .inl (oneB_false h1)
  have HN1 := Lib.hid (fun (W : World) (v : Value) (h : Nat32 W v a.x) => HONE.out W v a.x h)
  have HN2 := Lib.hid (fun (W : World) (v : Value) (h : Nat32 W v a.y) => HONE.out W v a.y h)
  have HR5 : Hid (powS a b = if 4096 < b.x then (zeroL, 3) else if powOk a.x b.x && powOk a.y b.x then opS 0 (a.neg && oddB b.x) (if b.neg then a.y ^ b.x else a.x ^ b.x) (if b.neg then a.x ^ b.x else a.y ^ b.x) else (zeroL, 3)) := by
    unfold Hid; rw [HRI.out]; unfold powI; rw [if_neg hbx, if_neg hzero, if_neg (fun h => h.elim hax hone)]
  by_cases hlim : 4096 < b.x
  · have HRE : Hid (powS a b = (zeroL, 3)) := by rw [HR5.out, if_pos hlim]; rfl
    have hm : 1 < m3 ∨ (m3 = 1 ∧ 4096 < p9) := by
      by_cases h : m3 = 1
      · exact .inr ⟨h, by have := HEV.out.2 h; omega⟩
      · exact .inl (by omega)
    generalize powS a b = r at *
    clear hbx hzero hax hone hlim hm30 hm10
    generalize oneB a.x = o1 at *
    generalize oneB a.y = o2 at *
    rcases hsel with rfl | ⟨rfl, rfl⟩
    · rcases hm with hm | ⟨rfl, hmp⟩
      all_goals
        go_enter Tryd.func9, Tryd.ntmps9
        go_wp2_with fail
        refine (HI.out _ _ _ _ (by exact blk_4 w _ _ _ _ _) (by exact GA.out.to (below_4 w _ _ _ _)) (by exact GB.out.to (below_4 w _ _ _ _))).mono ?_
        rintro e w1 ⟨rfl, hb⟩
        have KA := Lib.hid ((HBK.out.1.alloc _).to hb)
        have KB := Lib.hid ((HBK.out.2.1.alloc _).to hb)
        have KC := Lib.hid ((HBK.out.2.2.alloc _).to hb)
        have HBE : Hid (Below w.heap.size w w1) := (below_4 w _ _ _ _).trans (hb.mono (below_4 w _ _ _ _).size)
        have GA := Lib.hid (GA.out.to HBE.out)
        have GB := Lib.hid (GB.out.to HBE.out)
        clear hb HI HBK
        have ka0 := KA.out.cell 0
        have ka1 := KA.out.cell 1
        have ka2 := KA.out.cell 2
        have kb0 := KB.out.cell 0
        have kb1 := KB.out.cell 1
        have kb2 := KB.out.cell 2
        simp only [List.getElem?_toArray, List.getElem?_cons_zero, List.getElem?_cons_succ] at ka0 ka1 ka2 kb0 kb1 kb2
        go_wp2_with fail
        refine (HO.out _ (by exact (HY.out _ GB.out).2)).mono ?_
        rintro e w2 ⟨rfl, hb⟩
        clear ka0 ka1 ka2 kb0 kb1 kb2
        have KA := Lib.hid (KA.out.to hb)
        have KB := Lib.hid (KB.out.to hb)
        have KC := Lib.hid (KC.out.to hb)
        have GA := Lib.hid (GA.out.to hb)
        have GB := Lib.hid (GB.out.to hb)
        have HBE : Hid (Below w.heap.size w w2) := HBE.out.trans ((hb).mono HBE.out.size)
        clear hb
        have ka0 := KA.out.cell 0
        have ka1 := KA.out.cell 1
        have ka2 := KA.out.cell 2
        have kb0 := KB.out.cell 0
        have kb1 := KB.out.cell 1
        have kb2 := KB.out.cell 2
        simp only [List.getElem?_toArray, List.getElem?_cons_zero, List.getElem?_cons_succ] at ka0 ka1 ka2 kb0 kb1 kb2
        have hc9 := HC9.out _ GB.out
        go_wp2_with fail
        refine (HN1.out _ _ (by exact (HX.out _ GA.out).1)).mono ?_
        rintro e w3 ⟨rfl, hb⟩
        clear ka0 ka1 ka2 kb0 kb1 kb2 hc9
        have KA := Lib.hid (KA.out.to hb)
        have KB := Lib.hid (KB.out.to hb)
        have KC := Lib.hid (KC.out.to hb)
        have GA := Lib.hid (GA.out.to hb)
        have GB := Lib.hid (GB.out.to hb)
        have HBE : Hid (Below w.heap.size w w3) := HBE.out.trans ((hb).mono HBE.out.size)
        clear hb
        have ka0 := KA.out.cell 0
        have ka1 := KA.out.cell 1
        have ka2 := KA.out.cell 2
        have kb0 := KB.out.cell 0
        have kb1 := KB.out.cell 1
        have kb2 := KB.out.cell 2
        simp only [List.getElem?_toArray, List.getElem?_cons_zero, List.getElem?_cons_succ] at ka0 ka1 ka2 kb0 kb1 kb2
        have hc9 := HC9.out _ GB.out
        have kc0 := KC.out.cell 0
        have kc1 := KC.out.cell 1
        have kc2 := KC.out.cell 2
        simp only [List.getElem?_toArray, List.getElem?_cons_zero, List.getElem?_cons_succ] at kc0 kc1 kc2
        have fzkc0 := KC.out.frozen 0
        have fzkc1 := KC.out.frozen 1
        have fzkc2 := KC.out.frozen 2
        go_wp2_with fail
        refine bodyPost_ret (v := .tuple #[zeroNum, .int .i64 3]) (by rw [results_cell_tmp rfl]; go_simp; rfl) rfl ?_
        rw [HRE.out]
        exact ⟨_, rfl, GV.zero _, put3_below HBE.out (by omega) _ _ _⟩
    · rcases hm with hm | ⟨rfl, hmp⟩
      all_goals
        go_enter Tryd.func9, Tryd.ntmps9
        go_wp2_with fail
        refine (HI.out _ _ _ _ (by exact blk_4 w _ _ _ _ _) (by exact GA.out.to (below_4 w _ _ _ _)) (by exact GB.out.to (below_4 w _ _ _ _))).mono ?_
        rintro e w1 ⟨rfl, hb⟩
        have KA := Lib.hid ((HBK.out.1.alloc _).to hb)
        have KB := Lib.hid ((HBK.out.2.1.alloc _).to hb)
        have KC := Lib.hid ((HBK.out.2.2.alloc _).to hb)
        have HBE : Hid (Below w.heap.size w w1) := (below_4 w _ _ _ _).trans (hb.mono (below_4 w _ _ _ _).size)
        have GA := Lib.hid (GA.out.to HBE.out)
        have GB := Lib.hid (GB.out.to HBE.out)
        clear hb HI HBK
        have ka0 := KA.out.cell 0
        have ka1 := KA.out.cell 1
        have ka2 := KA.out.cell 2
        have kb0 := KB.out.cell 0
        have kb1 := KB.out.cell 1
        have kb2 := KB.out.cell 2
        simp only [List.getElem?_toArray, List.getElem?_cons_zero, List.getElem?_cons_succ] at ka0 ka1 ka2 kb0 kb1 kb2
        go_wp2_with fail
        refine (HO.out _ (by exact (HY.out _ GB.out).2)).mono ?_
        rintro e w2 ⟨rfl, hb⟩
        clear ka0 ka1 ka2 kb0 kb1 kb2
        have KA := Lib.hid (KA.out.to hb)
        have KB := Lib.hid (KB.out.to hb)
        have KC := Lib.hid (KC.out.to hb)
        have GA := Lib.hid (GA.out.to hb)
        have GB := Lib.hid (GB.out.to hb)
        have HBE : Hid (Below w.heap.size w w2) := HBE.out.trans ((hb).mono HBE.out.size)
        clear hb
        have ka0 := KA.out.cell 0
        have ka1 := KA.out.cell 1
        have ka2 := KA.out.cell 2
        have kb0 := KB.out.cell 0
        have kb1 := KB.out.cell 1
        have kb2 := KB.out.cell 2
        simp only [List.getElem?_toArray, List.getElem?_cons_zero, List.getElem?_cons_succ] at ka0 ka1 ka2 kb0 kb1 kb2
        have hc9 := HC9.out _ GB.out
        go_wp2_with fail
        refine (HN1.out _ _ (by exact (HX.out _ GA.out).1)).mono ?_
        rintro e w3 ⟨rfl, hb⟩
        clear ka0 ka1 ka2 kb0 kb1 kb2 hc9
        have KA := Lib.hid (KA.out.to hb)
        have KB := Lib.hid (KB.out.to hb)
        have KC := Lib.hid (KC.out.to hb)
        have GA := Lib.hid (GA.out.to hb)
        have GB := Lib.hid (GB.out.to hb)
        have HBE : Hid (Below w.heap.size w w3) := HBE.out.trans ((hb).mono HBE.out.size)
        clear hb
        have ka0 := KA.out.cell 0
        have ka1 := KA.out.cell 1
        have ka2 := KA.out.cell 2
        have kb0 := KB.out.cell 0
        have kb1 := KB.out.cell 1
        have kb2 := KB.out.cell 2
        simp only [List.getElem?_toArray, List.getElem?_cons_zero, List.getElem?_cons_succ] at ka0 ka1 ka2 kb0 kb1 kb2
        go_wp2_with fail
        refine (HN2.out _ _ (by exact (HX.out _ GA.out).2)).mono ?_
        rintro e w4 ⟨rfl, hb⟩
        clear ka0 ka1 ka2 kb0 kb1 kb2
        have KA := Lib.hid (KA.out.to hb)
        have KB := Lib.hid (KB.out.to hb)
        have KC := Lib.hid (KC.out.to hb)
        have GA := Lib.hid (GA.out.to hb)
        have GB := Lib.hid (GB.out.to hb)
        have HBE : Hid (Below w.heap.size w w4) := HBE.out.trans ((hb).mono HBE.out.size)
        clear hb
        have ka0 := KA.out.cell 0
        have ka1 := KA.out.cell 1
        have ka2 := KA.out.cell 2
        have kb0 := KB.out.cell 0
        have kb1 := KB.out.cell 1
        have kb2 := KB.out.cell 2
        simp only [List.getElem?_toArray, List.getElem?_cons_zero, List.getElem?_cons_succ] at ka0 ka1 ka2 kb0 kb1 kb2
        have hc9 := HC9.out _ GB.out
        have kc0 := KC.out.cell 0
        have kc1 := KC.out.cell 1
        have kc2 := KC.out.cell 2
        simp only [List.getElem?_toArray, List.getElem?_cons_zero, List.getElem?_cons_succ] at kc0 kc1 kc2
        have fzkc0 := KC.out.frozen 0
        have fzkc1 := KC.out.frozen 1
        have fzkc2 := KC.out.frozen 2
        go_wp2_with fail
        refine bodyPost_ret (v := .tuple #[zeroNum, .int .i64 3]) (by rw [results_cell_tmp rfl]; go_simp; rfl) rfl ?_
        rw [HRE.out]
        exact ⟨_, rfl, GV.zero _, put3_below HBE.out (by omega) _ _ _⟩
  have hm31 : m3 = 1 := by
    rcases Nat.lt_or_ge 1 m3 with h | h
    · have := digs_many (x := b.x) (by rw [← HM3D.out]; exact h)
      omega
    · omega
  have hp9l : p9 ≤ 4096 := by rw [HEV.out.2 hm31]; omega
  have HPE := Lib.hid (HEV.out.2 hm31)
  rw [if_neg hlim] at HR5
  have HP1 : Hid (∀ (W : World) (u : Value), Nat32 W u a.x → Calls Tryd.prog 24 #[u, .int .i64 (p9 : Int), .int .i64 128] W (PowPost W a.x b.x)) := fun W u h => by rw [HPE.out]; exact npow_any a.x b.x u W h HL.out.1 HAX.out (by omega)
  have HP2 : Hid (∀ (W : World) (u : Value), Nat32 W u a.y → Calls Tryd.prog 24 #[u, .int .i64 (p9 : Int), .int .i64 128] W (PowPost W a.y b.x)) := fun W u h => by rw [HPE.out]; exact npow_any a.y b.x u W h HL.out.2.1 HL.out.2.2 (by omega)
  have HMP : Hid (powOk a.x b.x = true → powOk a.y b.x = true → ∀ (W : World) (u v : Value), Nat32 W u (if b.neg then a.y ^ b.x else a.x ^ b.x) → Nat32 W v (if b.neg then a.x ^ b.x else a.y ^ b.x) → Calls Tryd.prog 23 #[.bool (a.neg && oddB b.x), u, v] W (SPost W (powS a b))) := fun h1 h2 W u v hu hv => by
    have l1 := of_decide_eq_true (show decide _ = true from h1)
    have l2 := of_decide_eq_true (show decide _ = true from h2)
    have g1 : 0 < a.x ^ b.x := Nat.pow_pos HAX.out
    have g2 : 0 < a.y ^ b.x := Nat.pow_pos HL.out.2.2
    rw [HR5.out, h1, h2, Bool.true_and, if_pos rfl]
    cases hb : b.neg with
    | true =>
      rw [hb] at hu hv
      have := HMD.out (a.neg && oddB b.x) (a.y ^ b.x) (a.x ^ b.x) W u v hu hv g1 l2 l1 (by rw [Nat.gcd_comm]; exact pow_gcd HCO.out.1 _ _)
      simpa [g2] using this
    | false =>
      rw [hb] at hu hv
      have := HMD.out (a.neg && oddB b.x) (a.x ^ b.x) (a.y ^ b.x) W u v hu hv g2 l1 l2 (pow_gcd HCO.out.1 _ _)
      simpa [g1] using this
  have HR3 : Hid ((powOk a.x b.x && powOk a.y b.x) = false → powS a b = (zeroL, 3)) := fun h => by rw [HR5.out, h]; rfl
  rw [HOD.out] at HMP
  unfold PowPost at HP1 HP2
  clear HR5 HRI hbx hzero hax hone hlim hm30 hm10 HEV
  generalize powS a b = r at *
  generalize a.x ^ b.x = px at *
  generalize a.y ^ b.x = py at *
  generalize powOk a.x b.x = k1 at *
  generalize powOk a.y b.x = k2 at *
  generalize oneB a.x = o1 at *
  generalize oneB a.y = o2 at *
  obtain ⟨na, HNA⟩ : ∃ na, Hid (a.neg = na) := ⟨_, rfl⟩
  obtain ⟨nb, HNB⟩ : ∃ nb, Hid (b.neg = nb) := ⟨_, rfl⟩
  rw [HNA.out, HNB.out] at HMP
  subst hm31
  have HB9 : Hid (∀ W, GV W (.agg #[.bool b.neg, .slice (some ⟨b9, o9, none⟩) 1 d3, .slice B4 m4 d4]) b → b9 < W.heap.size) := fun W h => by
    have hx : HC9.out W h = HC9.out W h := rfl
    obtain ⟨A8, c8, e8, _, _, hr8⟩ := (HY.out W h).1
    rw [← HM3D.out] at hr8 e8
    simp only [Value.slice.injEq] at e8
    obtain ⟨e81, -, rfl⟩ := e8
    obtain ⟨b8, o8, e9, hb8, _⟩ := hr8.2 (by omega)
    rw [← e81] at e9
    simp only [Option.some.injEq, Addr.mk.injEq, and_true] at e9
    rw [e9.1]; exact hb8
  rcases hsel with rfl | ⟨rfl, rfl⟩
  · go_enter Tryd.func9, Tryd.ntmps9
    go_wp2_with fail
    refine (HI.out _ _ _ _ (by exact blk_4 w _ _ _ _ _) (by exact GA.out.to (below_4 w _ _ _ _)) (by exact GB.out.to (below_4 w _ _ _ _))).mono ?_
    rintro e w1 ⟨rfl, hb⟩
    have KA := Lib.hid ((HBK.out.1.alloc _).to hb)
    have KB := Lib.hid ((HBK.out.2.1.alloc _).to hb)
    have KC := Lib.hid ((HBK.out.2.2.alloc _).to hb)
    have HBE : Hid (Below w.heap.size w w1) := (below_4 w _ _ _ _).trans (hb.mono (below_4 w _ _ _ _).size)
    have GA := Lib.hid (GA.out.to HBE.out)
    have GB := Lib.hid (GB.out.to HBE.out)
    clear hb HI HBK
    have ka0 := KA.out.cell 0
    have ka1 := KA.out.cell 1
    have ka2 := KA.out.cell 2
    have kb0 := KB.out.cell 0
    have kb1 := KB.out.cell 1
    have kb2 := KB.out.cell 2
    simp only [List.getElem?_toArray, List.getElem?_cons_zero, List.getElem?_cons_succ] at ka0 ka1 ka2 kb0 kb1 kb2
    go_wp2_with fail
    refine (HO.out _ (by exact (HY.out _ GB.out).2)).mono ?_
    rintro e w2 ⟨rfl, hb⟩
    clear ka0 ka1 ka2 kb0 kb1 kb2
    have KA := Lib.hid (KA.out.to hb)
    have KB := Lib.hid (KB.out.to hb)
    have KC := Lib.hid (KC.out.to hb)
    have GA := Lib.hid (GA.out.to hb)
    have GB := Lib.hid (GB.out.to hb)
    have HBE : Hid (Below w.heap.size w w2) := HBE.out.trans ((hb).mono HBE.out.size)
    clear hb
    have ka0 := KA.out.cell 0
    have ka1 := KA.out.cell 1
    have ka2 := KA.out.cell 2
    have kb0 := KB.out.cell 0
    have kb1 := KB.out.cell 1
    have kb2 := KB.out.cell 2
    simp only [List.getElem?_toArray, List.getElem?_cons_zero, List.getElem?_cons_succ] at ka0 ka1 ka2 kb0 kb1 kb2
    have hc9 := HC9.out _ GB.out
    go_wp2_with fail
    refine (HN1.out _ _ (by exact (HX.out _ GA.out).1)).mono ?_
    rintro e w3 ⟨rfl, hb⟩
    clear ka0 ka1 ka2 kb0 kb1 kb2 hc9
    have KA := Lib.hid (KA.out.to hb)
    have KB := Lib.hid (KB.out.to hb)
    have KC := Lib.hid (KC.out.to hb)
    have GA := Lib.hid (GA.out.to hb)
    have GB := Lib.hid (GB.out.to hb)
    have HBE : Hid (Below w.heap.size w w3) := HBE.out.trans ((hb).mono HBE.out.size)
    clear hb
    have ka0 := KA.out.cell 0
    have ka1 := KA.out.cell 1
    have ka2 := KA.out.cell 2
    have kb0 := KB.out.cell 0
    have kb1 := KB.out.cell 1
    have kb2 := KB.out.cell 2
    simp only [List.getElem?_toArray, List.getElem?_cons_zero, List.getElem?_cons_succ] at ka0 ka1 ka2 kb0 kb1 kb2
    have hc9 := HC9.out _ GB.out
    have hlt1 := KB.out.lt
    have hlt2 : b9 < (w3).heap.size := HB9.out _ GB.out
    have hwp : IntKind.i64.wrap (p9 : Int) = (p9 : Int) := by rw [IntKind.wrap_i64]; omega
    have HS1 : Hid (w3.cell? ⟨w.heap.size, 1, none⟩ = some (.slice B1 m1 d1) ∧ w3.cell? ⟨w.heap.size + 1, 1, none⟩ = some (.slice (some ⟨b9, o9, none⟩) 1 d3) ∧ w3.cell? ⟨b9, o9, none⟩ = some (.int .u32 (p9 : Int)) ∧ (w.heap.size + 1 < w3.heap.size ∧ b9 < w3.heap.size)) := ⟨ka1, kb1, hc9, hlt1, hlt2⟩
    have HKW : Hid (∀ W' : World, Below (w3).heap.size (w3) W' → (W'.cell? ⟨w.heap.size, 1, none⟩ = some (.slice B1 m1 d1) ∧ W'.cell? ⟨w.heap.size + 1, 1, none⟩ = some (.slice (some ⟨b9, o9, none⟩) 1 d3) ∧ W'.cell? ⟨b9, o9, none⟩ = some (.int .u32 (p9 : Int)) ∧ (w.heap.size + 1 < W'.heap.size ∧ b9 < W'.heap.size))) := fun W' h => ⟨(h.cell (p := ⟨w.heap.size, 1, none⟩) (Nat.lt_of_succ_lt HS1.out.2.2.2.1)).trans HS1.out.1, (h.cell (p := ⟨w.heap.size + 1, 1, none⟩) HS1.out.2.2.2.1).trans HS1.out.2.1, (h.cell (p := ⟨b9, o9, none⟩) HS1.out.2.2.2.2).trans HS1.out.2.2.1, Nat.lt_of_lt_of_le HS1.out.2.2.2.1 h.size, Nat.lt_of_lt_of_le HS1.out.2.2.2.2 h.size⟩
    have GAD : Hid (GV (w3).drew (.agg #[.bool a.neg, .slice B1 m1 d1, .slice B2 m2 d2]) a) := GA.out.to (Below.refl _ _).drew
    go_wp2_with fail
    go_region_held3 (fun w' => w'.cell? ⟨w.heap.size, 1, none⟩ = some (.slice B1 m1 d1) ∧ w'.cell? ⟨w.heap.size + 1, 1, none⟩ = some (.slice (some ⟨b9, o9, none⟩) 1 d3) ∧ w'.cell? ⟨b9, o9, none⟩ = some (.int .u32 (p9 : Int)) ∧ (w.heap.size + 1 < w'.heap.size ∧ b9 < w'.heap.size))
      (first | (with_reducible exact HKW.out _ (Hid.out (by assumption))) | (go_keep; done))
      (first
        | (go_at_call 24; ((with_reducible refine (HP1.out _ _ (by exact (HX.out _ GAD.out).1)).mono ?_)); rintro e y1 ⟨v1, rfl, hn1, hb1⟩; have HD1 : Hid (Below (w3).heap.size (w3) y1) := (Below.refl _ _).drew.trans hb1))
    have hb := HD1.out
    have N1 := Lib.hid hn1
    clear hn1 hb1 HS1 HKW GAD HD1 hlt1 hlt2 hwp
    clear ka0 ka1 ka2 kb0 kb1 kb2 hc9
    have KA := Lib.hid (KA.out.to hb)
    have KB := Lib.hid (KB.out.to hb)
    have KC := Lib.hid (KC.out.to hb)
    have GA := Lib.hid (GA.out.to hb)
    have GB := Lib.hid (GB.out.to hb)
    have HBE : Hid (Below w.heap.size w y1) := HBE.out.trans (hb.mono HBE.out.size)
    have N1C : Hid (k1 = true → ∀ W, Below y1.heap.size y1 W → Nat32 W v1 px) := fun h W hW => (N1.out h).to hW
    clear hb
    have ka0 := KA.out.cell 0
    have ka1 := KA.out.cell 1
    have ka2 := KA.out.cell 2
    have kb0 := KB.out.cell 0
    have kb1 := KB.out.cell 1
    have kb2 := KB.out.cell 2
    simp only [List.getElem?_toArray, List.getElem?_cons_zero, List.getElem?_cons_succ] at ka0 ka1 ka2 kb0 kb1 kb2
    have hc9 := HC9.out _ GB.out
    have hlt1 := KB.out.lt
    have hlt2 : b9 < (y1).heap.size := HB9.out _ GB.out
    have hwp : IntKind.i64.wrap (p9 : Int) = (p9 : Int) := by rw [IntKind.wrap_i64]; omega
    have HS1 : Hid (y1.cell? ⟨w.heap.size, 2, none⟩ = some (.slice B2 m2 d2) ∧ y1.cell? ⟨w.heap.size + 1, 1, none⟩ = some (.slice (some ⟨b9, o9, none⟩) 1 d3) ∧ y1.cell? ⟨b9, o9, none⟩ = some (.int .u32 (p9 : Int)) ∧ (w.heap.size + 1 < y1.heap.size ∧ b9 < y1.heap.size)) := ⟨ka2, kb1, hc9, hlt1, hlt2⟩
    have HKW : Hid (∀ W' : World, Below (y1).heap.size (y1) W' → (W'.cell? ⟨w.heap.size, 2, none⟩ = some (.slice B2 m2 d2) ∧ W'.cell? ⟨w.heap.size + 1, 1, none⟩ = some (.slice (some ⟨b9, o9, none⟩) 1 d3) ∧ W'.cell? ⟨b9, o9, none⟩ = some (.int .u32 (p9 : Int)) ∧ (w.heap.size + 1 < W'.heap.size ∧ b9 < W'.heap.size))) := fun W' h => ⟨(h.cell (p := ⟨w.heap.size, 2, none⟩) (Nat.lt_of_succ_lt HS1.out.2.2.2.1)).trans HS1.out.1, (h.cell (p := ⟨w.heap.size + 1, 1, none⟩) HS1.out.2.2.2.1).trans HS1.out.2.1, (h.cell (p := ⟨b9, o9, none⟩) HS1.out.2.2.2.2).trans HS1.out.2.2.1, Nat.lt_of_lt_of_le HS1.out.2.2.2.1 h.size, Nat.lt_of_lt_of_le HS1.out.2.2.2.2 h.size⟩
    have GAD : Hid (GV (y1).drew (.agg #[.bool a.neg, .slice B1 m1 d1, .slice B2 m2 d2]) a) := GA.out.to (Below.refl _ _).drew
    go_wp2_with fail
    go_region_held3 (fun w' => w'.cell? ⟨w.heap.size, 2, none⟩ = some (.slice B2 m2 d2) ∧ w'.cell? ⟨w.heap.size + 1, 1, none⟩ = some (.slice (some ⟨b9, o9, none⟩) 1 d3) ∧ w'.cell? ⟨b9, o9, none⟩ = some (.int .u32 (p9 : Int)) ∧ (w.heap.size + 1 < w'.heap.size ∧ b9 < w'.heap.size))
      (first | (with_reducible exact HKW.out _ (Hid.out (by assumption))) | (go_keep; done))
      (first
        | (go_at_call 24; ((with_reducible refine (HP2.out _ _ (by exact (HX.out _ GAD.out).2)).mono ?_)); rintro e y2 ⟨v2, rfl, hn2, hb2⟩; have HD2 : Hid (Below (y1).heap.size (y1) y2) := (Below.refl _ _).drew.trans hb2))
    have hb := HD2.out
    have N2 := Lib.hid hn2
    clear hn2 hb2 HS1 HKW GAD HD2 hlt1 hlt2 hwp
    clear ka0 ka1 ka2 kb0 kb1 kb2 hc9
    have KA := Lib.hid (KA.out.to hb)
    have KB := Lib.hid (KB.out.to hb)
    have KC := Lib.hid (KC.out.to hb)
    have GA := Lib.hid (GA.out.to hb)
    have GB := Lib.hid (GB.out.to hb)
    have HBE : Hid (Below w.heap.size w y2) := HBE.out.trans (hb.mono HBE.out.size)
    have N1C : Hid (k1 = true → ∀ W, Below y2.heap.size y2 W → Nat32 W v1 px) := fun h W hW => N1C.out h W (hb.trans (hW.mono hb.size))
    clear hb
    by_cases hk : (k1 && k2) = true
    rotate_left
    · have hkf : (k1 && k2) = false := by simpa using hk
      have HRE := Lib.hid (HR3.out hkf)
      have hkc : k1 = false ∨ (k1 = true ∧ k2 = false) := by cases k1 <;> cases k2 <;> simp at hkf ⊢
      clear hk hkf HMP N1C N1 N2
      rcases hkc with rfl | ⟨rfl, rfl⟩
      all_goals
        have kc0 := KC.out.cell 0
        have kc1 := KC.out.cell 1
        have kc2 := KC.out.cell 2
        simp only [List.getElem?_toArray, List.getElem?_cons_zero, List.getElem?_cons_succ] at kc0 kc1 kc2
        have fzkc0 := KC.out.frozen 0
        have fzkc1 := KC.out.frozen 1
        have fzkc2 := KC.out.frozen 2
        go_wp2_with fail
        refine bodyPost_ret (v := .tuple #[zeroNum, .int .i64 3]) (by rw [results_cell_tmp rfl]; go_simp; rfl) rfl ?_
        rw [HRE.out]
        exact ⟨_, rfl, GV.zero _, put3_below HBE.out (by omega) _ _ _⟩
    · obtain ⟨rfl, rfl⟩ : k1 = true ∧ k2 = true := by simpa using hk
      have HMQ := Lib.hid (HMP.out rfl rfl)
      have M1 : Hid (Nat32 y2 v1 px) := N1C.out rfl _ (Below.refl _ _)
      have M2 : Hid (Nat32 y2 v2 py) := N2.out rfl
      clear hk HMP N1C N1 N2 HR3
      cases nb
      · cases na
        · have HMY : Hid (∀ (W : World) (u v : Value), Nat32 W u px → Nat32 W v py → Calls Tryd.prog 23 #[.bool false, u, v] W (SPost W r)) := HMQ.out
          have ka0 := KA.out.cell 0
          have ka1 := KA.out.cell 1
          have ka2 := KA.out.cell 2
          have kb0 := KB.out.cell 0
          have kb1 := KB.out.cell 1
          have kb2 := KB.out.cell 2
          simp only [List.getElem?_toArray, List.getElem?_cons_zero, List.getElem?_cons_succ] at ka0 ka1 ka2 kb0 kb1 kb2
          rw [HNA.out] at ka0
          rw [HNB.out] at kb0
          go_wp2_with fail
          refine (HMY.out _ _ _ (by exact M1.out) (by exact M2.out)).mono ?_
          rintro e w4 ⟨v, rfl, hg, hb⟩
          clear ka0 ka1 ka2 kb0 kb1 kb2
          have KA := Lib.hid (KA.out.to hb)
          have KB := Lib.hid (KB.out.to hb)
          have KC := Lib.hid (KC.out.to hb)
          have GA := Lib.hid (GA.out.to hb)
          have GB := Lib.hid (GB.out.to hb)
          have HBE : Hid (Below w.heap.size w w4) := HBE.out.trans ((hb).mono HBE.out.size)
          clear hb
          obtain ⟨Az, nz, cz, Bz, mz, dz, rfl, hq1, hq2⟩ := hg.form
          have Gz := Lib.hid hg
          clear hq1 hq2 hg
          have kc0 := KC.out.cell 0
          have kc1 := KC.out.cell 1
          have kc2 := KC.out.cell 2
          simp only [List.getElem?_toArray, List.getElem?_cons_zero, List.getElem?_cons_succ] at kc0 kc1 kc2
          have fzkc0 := KC.out.frozen 0
          have fzkc1 := KC.out.frozen 1
          have fzkc2 := KC.out.frozen 2
          go_wp2_with fail
          refine bodyPost_ret (v := .tuple #[.agg #[.bool r.1.neg, .slice Az nz cz, .slice Bz mz dz], .int .i64 r.2]) (by rw [results_cell_tmp rfl]; go_simp) rfl ?_
          exact ⟨_, rfl, Gz.out.put3 KC.out _ _ _, put3_below HBE.out (by omega) _ _ _⟩
        · have HMY : Hid (∀ (W : World) (u v : Value), Nat32 W u px → Nat32 W v py → Calls Tryd.prog 23 #[.bool od, u, v] W (SPost W r)) := HMQ.out
          have ka0 := KA.out.cell 0
          have ka1 := KA.out.cell 1
          have ka2 := KA.out.cell 2
          have kb0 := KB.out.cell 0
          have kb1 := KB.out.cell 1
          have kb2 := KB.out.cell 2
          simp only [List.getElem?_toArray, List.getElem?_cons_zero, List.getElem?_cons_succ] at ka0 ka1 ka2 kb0 kb1 kb2
          rw [HNA.out] at ka0
          rw [HNB.out] at kb0
          go_wp2_with fail
          refine (HMY.out _ _ _ (by exact M1.out) (by exact M2.out)).mono ?_
          rintro e w4 ⟨v, rfl, hg, hb⟩
          clear ka0 ka1 ka2 kb0 kb1 kb2
          have KA := Lib.hid (KA.out.to hb)
          have KB := Lib.hid (KB.out.to hb)
          have KC := Lib.hid (KC.out.to hb)
          have GA := Lib.hid (GA.out.to hb)
          have GB := Lib.hid (GB.out.to hb)
          have HBE : Hid (Below w.heap.size w w4) := HBE.out.trans ((hb).mono HBE.out.size)
          clear hb
          obtain ⟨Az, nz, cz, Bz, mz, dz, rfl, hq1, hq2⟩ := hg.form
          have Gz := Lib.hid hg
          clear hq1 hq2 hg
          have kc0 := KC.out.cell 0
          have kc1 := KC.out.cell 1
          have kc2 := KC.out.cell 2
          simp only [List.getElem?_toArray, List.getElem?_cons_zero, List.getElem?_cons_succ] at kc0 kc1 kc2
          have fzkc0 := KC.out.frozen 0
          have fzkc1 := KC.out.frozen 1
          have fzkc2 := KC.out.frozen 2
          go_wp2_with fail
          refine bodyPost_ret (v := .tuple #[.agg #[.bool r.1.neg, .slice Az nz cz, .slice Bz mz dz], .int .i64 r.2]) (by rw [results_cell_tmp rfl]; go_simp) rfl ?_
          exact ⟨_, rfl, Gz.out.put3 KC.out _ _ _, put3_below HBE.out (by omega) _ _ _⟩
      · cases na
        · have HMY : Hid (∀ (W : World) (u v : Value), Nat32 W u py → Nat32 W v px → Calls Tryd.prog 23 #[.bool false, u, v] W (SPost W r)) := HMQ.out
          have ka0 := KA.out.cell 0
          have ka1 := KA.out.cell 1
          have ka2 := KA.out.cell 2
          have kb0 := KB.out.cell 0
          have kb1 := KB.out.cell 1
          have kb2 := KB.out.cell 2
          simp only [List.getElem?_toArray, List.getElem?_cons_zero, List.getElem?_cons_succ] at ka0 ka1 ka2 kb0 kb1 kb2
          rw [HNA.out] at ka0
          rw [HNB.out] at kb0
          go_wp2_with fail
          refine (HMY.out _ _ _ (by exact M2.out) (by exact M1.out)).mono ?_
          rintro e w4 ⟨v, rfl, hg, hb⟩
          clear ka0 ka1 ka2 kb0 kb1 kb2
          have KA := Lib.hid (KA.out.to hb)
          have KB := Lib.hid (KB.out.to hb)
          have KC := Lib.hid (KC.out.to hb)
          have GA := Lib.hid (GA.out.to hb)
          have GB := Lib.hid (GB.out.to hb)
          have HBE : Hid (Below w.heap.size w w4) := HBE.out.trans ((hb).mono HBE.out.size)
          clear hb
          obtain ⟨Az, nz, cz, Bz, mz, dz, rfl, hq1, hq2⟩ := hg.form
          have Gz := Lib.hid hg
          clear hq1 hq2 hg
          have kc0 := KC.out.cell 0
          have kc1 := KC.out.cell 1
          have kc2 := KC.out.cell 2
          simp only [List.getElem?_toArray, List.getElem?_cons_zero, List.getElem?_cons_succ] at kc0 kc1 kc2
          have fzkc0 := KC.out.frozen 0
          have fzkc1 := KC.out.frozen 1
          have fzkc2 := KC.out.frozen 2
          go_wp2_with fail
          refine bodyPost_ret (v := .tuple #[.agg #[.bool r.1.neg, .slice Az nz cz, .slice Bz mz dz], .int .i64 r.2]) (by rw [results_cell_tmp rfl]; go_simp) rfl ?_
          exact ⟨_, rfl, Gz.out.put3 KC.out _ _ _, put3_below HBE.out (by omega) _ _ _⟩
        · have HMY : Hid (∀ (W : World) (u v : Value), Nat32 W u py → Nat32 W v px → Calls Tryd.prog 23 #[.bool od, u, v] W (SPost W r)) := HMQ.out
          have ka0 := KA.out.cell 0
          have ka1 := KA.out.cell 1
          have ka2 := KA.out.cell 2
          have kb0 := KB.out.cell 0
          have kb1 := KB.out.cell 1
          have kb2 := KB.out.cell 2
          simp only [List.getElem?_toArray, List.getElem?_cons_zero, List.getElem?_cons_succ] at ka0 ka1 ka2 kb0 kb1 kb2
          rw [HNA.out] at ka0
          rw [HNB.out] at kb0
          go_wp2_with fail
          refine (HMY.out _ _ _ (by exact M2.out) (by exact M1.out)).mono ?_
          rintro e w4 ⟨v, rfl, hg, hb⟩
          clear ka0 ka1 ka2 kb0 kb1 kb2
          have KA := Lib.hid (KA.out.to hb)
          have KB := Lib.hid (KB.out.to hb)
          have KC := Lib.hid (KC.out.to hb)
          have GA := Lib.hid (GA.out.to hb)
          have GB := Lib.hid (GB.out.to hb)
          have HBE : Hid (Below w.heap.size w w4) := HBE.out.trans ((hb).mono HBE.out.size)
          clear hb
          obtain ⟨Az, nz, cz, Bz, mz, dz, rfl, hq1, hq2⟩ := hg.form
          have Gz := Lib.hid hg
          clear hq1 hq2 hg
          have kc0 := KC.out.cell 0
          have kc1 := KC.out.cell 1
          have kc2 := KC.out.cell 2
          simp only [List.getElem?_toArray, List.getElem?_cons_zero, List.getElem?_cons_succ] at kc0 kc1 kc2
          have fzkc0 := KC.out.frozen 0
          have fzkc1 := KC.out.frozen 1
          have fzkc2 := KC.out.frozen 2
          go_wp2_with fail
          refine bodyPost_ret (v := .tuple #[.agg #[.bool r.1.neg, .slice Az nz cz, .slice Bz mz dz], .int .i64 r.2]) (by rw [results_cell_tmp rfl]; go_simp) rfl ?_
          exact ⟨_, rfl, Gz.out.put3 KC.out _ _ _, put3_below HBE.out (by omega) _ _ _⟩
  · go_enter Tryd.func9, Tryd.ntmps9
    go_wp2_with fail
    refine (HI.out _ _ _ _ (by exact blk_4 w _ _ _ _ _) (by exact GA.out.to (below_4 w _ _ _ _)) (by exact GB.out.to (below_4 w _ _ _ _))).mono ?_
    rintro e w1 ⟨rfl, hb⟩
    have KA := Lib.hid ((HBK.out.1.alloc _).to hb)
    have KB := Lib.hid ((HBK.out.2.1.alloc _).to hb)
    have KC := Lib.hid ((HBK.out.2.2.alloc _).to hb)
    have HBE : Hid (Below w.heap.size w w1) := (below_4 w _ _ _ _).trans (hb.mono (below_4 w _ _ _ _).size)
    have GA := Lib.hid (GA.out.to HBE.out)
    have GB := Lib.hid (GB.out.to HBE.out)
    clear hb HI HBK
    have ka0 := KA.out.cell 0
    have ka1 := KA.out.cell 1
    have ka2 := KA.out.cell 2
    have kb0 := KB.out.cell 0
    have kb1 := KB.out.cell 1
    have kb2 := KB.out.cell 2
    simp only [List.getElem?_toArray, List.getElem?_cons_zero, List.getElem?_cons_succ] at ka0 ka1 ka2 kb0 kb1 kb2
    go_wp2_with fail
    refine (HO.out _ (by exact (HY.out _ GB.out).2)).mono ?_
    rintro e w2 ⟨rfl, hb⟩
    clear ka0 ka1 ka2 kb0 kb1 kb2
    have KA := Lib.hid (KA.out.to hb)
    have KB := Lib.hid (KB.out.to hb)
    have KC := Lib.hid (KC.out.to hb)
    have GA := Lib.hid (GA.out.to hb)
    have GB := Lib.hid (GB.out.to hb)
    have HBE : Hid (Below w.heap.size w w2) := HBE.out.trans ((hb).mono HBE.out.size)
    clear hb
    have ka0 := KA.out.cell 0
    have ka1 := KA.out.cell 1
    have ka2 := KA.out.cell 2
    have kb0 := KB.out.cell 0
    have kb1 := KB.out.cell 1
    have kb2 := KB.out.cell 2
    simp only [List.getElem?_toArray, List.getElem?_cons_zero, List.getElem?_cons_succ] at ka0 ka1 ka2 kb0 kb1 kb2
    have hc9 := HC9.out _ GB.out
    go_wp2_with fail
    refine (HN1.out _ _ (by exact (HX.out _ GA.out).1)).mono ?_
    rintro e w3 ⟨rfl, hb⟩
    clear ka0 ka1 ka2 kb0 kb1 kb2 hc9
    have KA := Lib.hid (KA.out.to hb)
    have KB := Lib.hid (KB.out.to hb)
    have KC := Lib.hid (KC.out.to hb)
    have GA := Lib.hid (GA.out.to hb)
    have GB := Lib.hid (GB.out.to hb)
    have HBE : Hid (Below w.heap.size w w3) := HBE.out.trans ((hb).mono HBE.out.size)
    clear hb
    have ka0 := KA.out.cell 0
    have ka1 := KA.out.cell 1
    have ka2 := KA.out.cell 2
    have kb0 := KB.out.cell 0
    have kb1 := KB.out.cell 1
    have kb2 := KB.out.cell 2
    simp only [List.getElem?_toArray, List.getElem?_cons_zero, List.getElem?_cons_succ] at ka0 ka1 ka2 kb0 kb1 kb2
    go_wp2_with fail
    refine (HN2.out _ _ (by exact (HX.out _ GA.out).2)).mono ?_
    rintro e w4 ⟨rfl, hb⟩
    clear ka0 ka1 ka2 kb0 kb1 kb2
    have KA := Lib.hid (KA.out.to hb)
    have KB := Lib.hid (KB.out.to hb)
    have KC := Lib.hid (KC.out.to hb)
    have GA := Lib.hid (GA.out.to hb)
    have GB := Lib.hid (GB.out.to hb)
    have HBE : Hid (Below w.heap.size w w4) := HBE.out.trans ((hb).mono HBE.out.size)
    clear hb
    have ka0 := KA.out.cell 0
    have ka1 := KA.out.cell 1
    have ka2 := KA.out.cell 2
    have kb0 := KB.out.cell 0
    have kb1 := KB.out.cell 1
    have kb2 := KB.out.cell 2
    simp only [List.getElem?_toArray, List.getElem?_cons_zero, List.getElem?_cons_succ] at ka0 ka1 ka2 kb0 kb1 kb2
    have hc9 := HC9.out _ GB.out
    have hlt1 := KB.out.lt
    have hlt2 : b9 < (w4).heap.size := HB9.out _ GB.out
    have hwp : IntKind.i64.wrap (p9 : Int) = (p9 : Int) := by rw [IntKind.wrap_i64]; omega
    have HS1 : Hid (w4.cell? ⟨w.heap.size, 1, none⟩ = some (.slice B1 m1 d1) ∧ w4.cell? ⟨w.heap.size + 1, 1, none⟩ = some (.slice (some ⟨b9, o9, none⟩) 1 d3) ∧ w4.cell? ⟨b9, o9, none⟩ = some (.int .u32 (p9 : Int)) ∧ (w.heap.size + 1 < w4.heap.size ∧ b9 < w4.heap.size)) := ⟨ka1, kb1, hc9, hlt1, hlt2⟩
    have HKW : Hid (∀ W' : World, Below (w4).heap.size (w4) W' → (W'.cell? ⟨w.heap.size, 1, none⟩ = some (.slice B1 m1 d1) ∧ W'.cell? ⟨w.heap.size + 1, 1, none⟩ = some (.slice (some ⟨b9, o9, none⟩) 1 d3) ∧ W'.cell? ⟨b9, o9, none⟩ = some (.int .u32 (p9 : Int)) ∧ (w.heap.size + 1 < W'.heap.size ∧ b9 < W'.heap.size))) := fun W' h => ⟨(h.cell (p := ⟨w.heap.size, 1, none⟩) (Nat.lt_of_succ_lt HS1.out.2.2.2.1)).trans HS1.out.1, (h.cell (p := ⟨w.heap.size + 1, 1, none⟩) HS1.out.2.2.2.1).trans HS1.out.2.1, (h.cell (p := ⟨b9, o9, none⟩) HS1.out.2.2.2.2).trans HS1.out.2.2.1, Nat.lt_of_lt_of_le HS1.out.2.2.2.1 h.size, Nat.lt_of_lt_of_le HS1.out.2.2.2.2 h.size⟩
    have GAD : Hid (GV (w4).drew (.agg #[.bool a.neg, .slice B1 m1 d1, .slice B2 m2 d2]) a) := GA.out.to (Below.refl _ _).drew
    go_wp2_with fail
    go_region_held3 (fun w' => w'.cell? ⟨w.heap.size, 1, none⟩ = some (.slice B1 m1 d1) ∧ w'.cell? ⟨w.heap.size + 1, 1, none⟩ = some (.slice (some ⟨b9, o9, none⟩) 1 d3) ∧ w'.cell? ⟨b9, o9, none⟩ = some (.int .u32 (p9 : Int)) ∧ (w.heap.size + 1 < w'.heap.size ∧ b9 < w'.heap.size))
      (first | (with_reducible exact HKW.out _ (Hid.out (by assumption))) | (go_keep; done))
      (first
        | (go_at_call 24; ((with_reducible refine (HP1.out _ _ (by exact (HX.out _ GAD.out).1)).mono ?_)); rintro e y1 ⟨v1, rfl, hn1, hb1⟩; have HD1 : Hid (Below (w4).heap.size (w4) y1) := (Below.refl _ _).drew.trans hb1))
    have hb := HD1.out
    have N1 := Lib.hid hn1
    clear hn1 hb1 HS1 HKW GAD HD1 hlt1 hlt2 hwp
    clear ka0 ka1 ka2 kb0 kb1 kb2 hc9
    have KA := Lib.hid (KA.out.to hb)
    have KB := Lib.hid (KB.out.to hb)
    have KC := Lib.hid (KC.out.to hb)
    have GA := Lib.hid (GA.out.to hb)
    have GB := Lib.hid (GB.out.to hb)
    have HBE : Hid (Below w.heap.size w y1) := HBE.out.trans (hb.mono HBE.out.size)
    have N1C : Hid (k1 = true → ∀ W, Below y1.heap.size y1 W → Nat32 W v1 px) := fun h W hW => (N1.out h).to hW
    clear hb
    have ka0 := KA.out.cell 0
    have ka1 := KA.out.cell 1
    have ka2 := KA.out.cell 2
    have kb0 := KB.out.cell 0
    have kb1 := KB.out.cell 1
    have kb2 := KB.out.cell 2
    simp only [List.getElem?_toArray, List.getElem?_cons_zero, List.getElem?_cons_succ] at ka0 ka1 ka2 kb0 kb1 kb2
    have hc9 := HC9.out _ GB.out
    have hlt1 := KB.out.lt
    have hlt2 : b9 < (y1).heap.size := HB9.out _ GB.out
    have hwp : IntKind.i64.wrap (p9 : Int) = (p9 : Int) := by rw [IntKind.wrap_i64]; omega
    have HS1 : Hid (y1.cell? ⟨w.heap.size, 2, none⟩ = some (.slice B2 m2 d2) ∧ y1.cell? ⟨w.heap.size + 1, 1, none⟩ = some (.slice (some ⟨b9, o9, none⟩) 1 d3) ∧ y1.cell? ⟨b9, o9, none⟩ = some (.int .u32 (p9 : Int)) ∧ (w.heap.size + 1 < y1.heap.size ∧ b9 < y1.heap.size)) := ⟨ka2, kb1, hc9, hlt1, hlt2⟩
    have HKW : Hid (∀ W' : World, Below (y1).heap.size (y1) W' → (W'.cell? ⟨w.heap.size, 2, none⟩ = some (.slice B2 m2 d2) ∧ W'.cell? ⟨w.heap.size + 1, 1, none⟩ = some (.slice (some ⟨b9, o9, none⟩) 1 d3) ∧ W'.cell? ⟨b9, o9, none⟩ = some (.int .u32 (p9 : Int)) ∧ (w.heap.size + 1 < W'.heap.size ∧ b9 < W'.heap.size))) := fun W' h => ⟨(h.cell (p := ⟨w.heap.size, 2, none⟩) (Nat.lt_of_succ_lt HS1.out.2.2.2.1)).trans HS1.out.1, (h.cell (p := ⟨w.heap.size + 1, 1, none⟩) HS1.out.2.2.2.1).trans HS1.out.2.1, (h.cell (p := ⟨b9, o9, none⟩) HS1.out.2.2.2.2).trans HS1.out.2.2.1, Nat.lt_of_lt_of_le HS1.out.2.2.2.1 h.size, Nat.lt_of_lt_of_le HS1.out.2.2.2.2 h.size⟩
    have GAD : Hid (GV (y1).drew (.agg #[.bool a.neg, .slice B1 m1 d1, .slice B2 m2 d2]) a) := GA.out.to (Below.refl _ _).drew
    go_wp2_with fail
    go_region_held3 (fun w' => w'.cell? ⟨w.heap.size, 2, none⟩ = some (.slice B2 m2 d2) ∧ w'.cell? ⟨w.heap.size + 1, 1, none⟩ = some (.slice (some ⟨b9, o9, none⟩) 1 d3) ∧ w'.cell? ⟨b9, o9, none⟩ = some (.int .u32 (p9 : Int)) ∧ (w.heap.size + 1 < w'.heap.size ∧ b9 < w'.heap.size))
      (first | (with_reducible exact HKW.out _ (Hid.out (by assumption))) | (go_keep; done))
      (first
        | (go_at_call 24; ((with_reducible refine (HP2.out _ _ (by exact (HX.out _ GAD.out).2)).mono ?_)); rintro e y2 ⟨v2, rfl, hn2, hb2⟩; have HD2 : Hid (Below (y1).heap.size (y1) y2) := (Below.refl _ _).drew.trans hb2))
    have hb := HD2.out
    have N2 := Lib.hid hn2
    clear hn2 hb2 HS1 HKW GAD HD2 hlt1 hlt2 hwp
    clear ka0 ka1 ka2 kb0 kb1 kb2 hc9
    have KA := Lib.hid (KA.out.to hb)
    have KB := Lib.hid (KB.out.to hb)
    have KC := Lib.hid (KC.out.to hb)
    have GA := Lib.hid (GA.out.to hb)
    have GB := Lib.hid (GB.out.to hb)
    have HBE : Hid (Below w.heap.size w y2) := HBE.out.trans (hb.mono HBE.out.size)
    have N1C : Hid (k1 = true → ∀ W, Below y2.heap.size y2 W → Nat32 W v1 px) := fun h W hW => N1C.out h W (hb.trans (hW.mono hb.size))
    clear hb
    by_cases hk : (k1 && k2) = true
    rotate_left
    · have hkf : (k1 && k2) = false := by simpa using hk
      have HRE := Lib.hid (HR3.out hkf)
      have hkc : k1 = false ∨ (k1 = true ∧ k2 = false) := by cases k1 <;> cases k2 <;> simp at hkf ⊢
      clear hk hkf HMP N1C N1 N2
      rcases hkc with rfl | ⟨rfl, rfl⟩
      all_goals
        have kc0 := KC.out.cell 0
        have kc1 := KC.out.cell 1
        have kc2 := KC.out.cell 2
        simp only [List.getElem?_toArray, List.getElem?_cons_zero, List.getElem?_cons_succ] at kc0 kc1 kc2
        have fzkc0 := KC.out.frozen 0
        have fzkc1 := KC.out.frozen 1
        have fzkc2 := KC.out.frozen 2
        go_wp2_with fail
        refine bodyPost_ret (v := .tuple #[zeroNum, .int .i64 3]) (by rw [results_cell_tmp rfl]; go_simp; rfl) rfl ?_
        rw [HRE.out]
        exact ⟨_, rfl, GV.zero _, put3_below HBE.out (by omega) _ _ _⟩
    · obtain ⟨rfl, rfl⟩ : k1 = true ∧ k2 = true := by simpa using hk
      have HMQ := Lib.hid (HMP.out rfl rfl)
      have M1 : Hid (Nat32 y2 v1 px) := N1C.out rfl _ (Below.refl _ _)
      have M2 : Hid (Nat32 y2 v2 py) := N2.out rfl
      clear hk HMP N1C N1 N2 HR3
      cases nb
      · cases na
        · have HMY : Hid (∀ (W : World) (u v : Value), Nat32 W u px → Nat32 W v py → Calls Tryd.prog 23 #[.bool false, u, v] W (SPost W r)) := HMQ.out
          have ka0 := KA.out.cell 0
          have ka1 := KA.out.cell 1
          have ka2 := KA.out.cell 2
          have kb0 := KB.out.cell 0
          have kb1 := KB.out.cell 1
          have kb2 := KB.out.cell 2
          simp only [List.getElem?_toArray, List.getElem?_cons_zero, List.getElem?_cons_succ] at ka0 ka1 ka2 kb0 kb1 kb2
          rw [HNA.out] at ka0
          rw [HNB.out] at kb0
          go_wp2_with fail
          refine (HMY.out _ _ _ (by exact M1.out) (by exact M2.out)).mono ?_
          rintro e w5 ⟨v, rfl, hg, hb⟩
          clear ka0 ka1 ka2 kb0 kb1 kb2
          have KA := Lib.hid (KA.out.to hb)
          have KB := Lib.hid (KB.out.to hb)
          have KC := Lib.hid (KC.out.to hb)
          have GA := Lib.hid (GA.out.to hb)
          have GB := Lib.hid (GB.out.to hb)
          have HBE : Hid (Below w.heap.size w w5) := HBE.out.trans ((hb).mono HBE.out.size)
          clear hb
          obtain ⟨Az, nz, cz, Bz, mz, dz, rfl, hq1, hq2⟩ := hg.form
          have Gz := Lib.hid hg
          clear hq1 hq2 hg
          have kc0 := KC.out.cell 0
          have kc1 := KC.out.cell 1
          have kc2 := KC.out.cell 2
          simp only [List.getElem?_toArray, List.getElem?_cons_zero, List.getElem?_cons_succ] at kc0 kc1 kc2
          have fzkc0 := KC.out.frozen 0
          have fzkc1 := KC.out.frozen 1
          have fzkc2 := KC.out.frozen 2
          go_wp2_with fail
          refine bodyPost_ret (v := .tuple #[.agg #[.bool r.1.neg, .slice Az nz cz, .slice Bz mz dz], .int .i64 r.2]) (by rw [results_cell_tmp rfl]; go_simp) rfl ?_
          exact ⟨_, rfl, Gz.out.put3 KC.out _ _ _, put3_below HBE.out (by omega) _ _ _⟩
        · have HMY : Hid (∀ (W : World) (u v : Value), Nat32 W u px → Nat32 W v py → Calls Tryd.prog 23 #[.bool od, u, v] W (SPost W r)) := HMQ.out
          have ka0 := KA.out.cell 0
          have ka1 := KA.out.cell 1
          have ka2 := KA.out.cell 2
          have kb0 := KB.out.cell 0
          have kb1 := KB.out.cell 1
          have kb2 := KB.out.cell 2
          simp only [List.getElem?_toArray, List.getElem?_cons_zero, List.getElem?_cons_succ] at ka0 ka1 ka2 kb0 kb1 kb2
          rw [HNA.out] at ka0
          rw [HNB.out] at kb0
          go_wp2_with fail
          refine (HMY.out _ _ _ (by exact M1.out) (by exact M2.out)).mono ?_
          rintro e w5 ⟨v, rfl, hg, hb⟩
          clear ka0 ka1 ka2 kb0 kb1 kb2
          have KA := Lib.hid (KA.out.to hb)
          have KB := Lib.hid (KB.out.to hb)
          have KC := Lib.hid (KC.out.to hb)
          have GA := Lib.hid (GA.out.to hb)
          have GB := Lib.hid (GB.out.to hb)
          have HBE : Hid (Below w.heap.size w w5) := HBE.out.trans ((hb).mono HBE.out.size)
          clear hb
          obtain ⟨Az, nz, cz, Bz, mz, dz, rfl, hq1, hq2⟩ := hg.form
          have Gz := Lib.hid hg
          clear hq1 hq2 hg
          have kc0 := KC.out.cell 0
          have kc1 := KC.out.cell 1
          have kc2 := KC.out.cell 2
          simp only [List.getElem?_toArray, List.getElem?_cons_zero, List.getElem?_cons_succ] at kc0 kc1 kc2
          have fzkc0 := KC.out.frozen 0
          have fzkc1 := KC.out.frozen 1
          have fzkc2 := KC.out.frozen 2
          go_wp2_with fail
          refine bodyPost_ret (v := .tuple #[.agg #[.bool r.1.neg, .slice Az nz cz, .slice Bz mz dz], .int .i64 r.2]) (by rw [results_cell_tmp rfl]; go_simp) rfl ?_
          exact ⟨_, rfl, Gz.out.put3 KC.out _ _ _, put3_below HBE.out (by omega) _ _ _⟩
      · cases na
        · have HMY : Hid (∀ (W : World) (u v : Value), Nat32 W u py → Nat32 W v px → Calls Tryd.prog 23 #[.bool false, u, v] W (SPost W r)) := HMQ.out
          have ka0 := KA.out.cell 0
          have ka1 := KA.out.cell 1
          have ka2 := KA.out.cell 2
          have kb0 := KB.out.cell 0
          have kb1 := KB.out.cell 1
          have kb2 := KB.out.cell 2
          simp only [List.getElem?_toArray, List.getElem?_cons_zero, List.getElem?_cons_succ] at ka0 ka1 ka2 kb0 kb1 kb2
          rw [HNA.out] at ka0
          rw [HNB.out] at kb0
          go_wp2_with fail
          refine (HMY.out _ _ _ (by exact M2.out) (by exact M1.out)).mono ?_
          rintro e w5 ⟨v, rfl, hg, hb⟩
          clear ka0 ka1 ka2 kb0 kb1 kb2
          have KA := Lib.hid (KA.out.to hb)
          have KB := Lib.hid (KB.out.to hb)
          have KC := Lib.hid (KC.out.to hb)
          have GA := Lib.hid (GA.out.to hb)
          have GB := Lib.hid (GB.out.to hb)
          have HBE : Hid (Below w.heap.size w w5) := HBE.out.trans ((hb).mono HBE.out.size)
          clear hb
          obtain ⟨Az, nz, cz, Bz, mz, dz, rfl, hq1, hq2⟩ := hg.form
          have Gz := Lib.hid hg
          clear hq1 hq2 hg
          have kc0 := KC.out.cell 0
          have kc1 := KC.out.cell 1
          have kc2 := KC.out.cell 2
          simp only [List.getElem?_toArray, List.getElem?_cons_zero, List.getElem?_cons_succ] at kc0 kc1 kc2
          have fzkc0 := KC.out.frozen 0
          have fzkc1 := KC.out.frozen 1
          have fzkc2 := KC.out.frozen 2
          go_wp2_with fail
          refine bodyPost_ret (v := .tuple #[.agg #[.bool r.1.neg, .slice Az nz cz, .slice Bz mz dz], .int .i64 r.2]) (by rw [results_cell_tmp rfl]; go_simp) rfl ?_
          exact ⟨_, rfl, Gz.out.put3 KC.out _ _ _, put3_below HBE.out (by omega) _ _ _⟩
        · have HMY : Hid (∀ (W : World) (u v : Value), Nat32 W u py → Nat32 W v px → Calls Tryd.prog 23 #[.bool od, u, v] W (SPost W r)) := HMQ.out
          have ka0 := KA.out.cell 0
          have ka1 := KA.out.cell 1
          have ka2 := KA.out.cell 2
          have kb0 := KB.out.cell 0
          have kb1 := KB.out.cell 1
          have kb2 := KB.out.cell 2
          simp only [List.getElem?_toArray, List.getElem?_cons_zero, List.getElem?_cons_succ] at ka0 ka1 ka2 kb0 kb1 kb2
          rw [HNA.out] at ka0
          rw [HNB.out] at kb0
          go_wp2_with fail
          refine (HMY.out _ _ _ (by exact M2.out) (by exact M1.out)).mono ?_
          rintro e w5 ⟨v, rfl, hg, hb⟩
          clear ka0 ka1 ka2 kb0 kb1 kb2
          have KA := Lib.hid (KA.out.to hb)
          have KB := Lib.hid (KB.out.to hb)
          have KC := Lib.hid (KC.out.to hb)
          have GA := Lib.hid (GA.out.to hb)
          have GB := Lib.hid (GB.out.to hb)
          have HBE : Hid (Below w.heap.size w w5) := HBE.out.trans ((hb).mono HBE.out.size)
          clear hb
          obtain ⟨Az, nz, cz, Bz, mz, dz, rfl, hq1, hq2⟩ := hg.form
          have Gz := Lib.hid hg
          clear hq1 hq2 hg
          have kc0 := KC.out.cell 0
          have kc1 := KC.out.cell 1
          have kc2 := KC.out.cell 2
          simp only [List.getElem?_toArray, List.getElem?_cons_zero, List.getElem?_cons_succ] at kc0 kc1 kc2
          have fzkc0 := KC.out.frozen 0
          have fzkc1 := KC.out.frozen 1
          have fzkc2 := KC.out.frozen 2
          go_wp2_with fail
          refine bodyPost_ret (v := .tuple #[.agg #[.bool r.1.neg, .slice Az nz cz, .slice Bz mz dz], .int .i64 r.2]) (by rw [results_cell_tmp rfl]; go_simp) rfl ?_
          exact ⟨_, rfl, Gz.out.put3 KC.out _ _ _, put3_below HBE.out (by omega) _ _ _⟩
end Go.Proofs.YtdmhkhnnomdkcaaDoor
