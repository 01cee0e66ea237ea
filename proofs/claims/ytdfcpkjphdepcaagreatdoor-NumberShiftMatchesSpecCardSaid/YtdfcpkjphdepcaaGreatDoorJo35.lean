/- number.Shift, number.Length, at any numbers. Quotients, rounded: plain facts. No program. -/
import Derived.Deep.RegionHeld3
import Derived.Deep.DeepCutAuto
import Derived.Test.YtdfcpkjphdepcaaGreatDoorJo4
import Derived.Test.YtdfcpkjphdepcaaGreatDoorJo5
import Derived.Test.YtdfcpkjphdepcaaGreatDoorJo17
import Derived.Test.YtdfcpkjphdepcaaGreatDoorJo18
import Derived.Test.YtdfcpkjphdepcaaGreatDoorJo30
import Derived.Test.YtdfcpkjphdepcaaGreatDoorJo33
import Derived.Test.YtdfcpkjphdepcaaGreatDoorJo34
set_option linter.unusedVariables false
set_option linter.unusedSimpArgs false
namespace Go.Proofs.YtdfcpkjphdepcaaGreatDoor
open Go.RowKit NumB
set_option linter.unusedVariables false
set_option linter.unusedSimpArgs false

/-- Shifted to the right, rounded away from 0 where told. -/
def shrUp (up : Bool) (x k : Nat) : Nat := x / 2 ^ k + (if up && !exactB x k then 1 else 0)
theorem shrUp_yes {x k : Nat} (h : exactB x k = false) : shrUp true x k = x / 2 ^ k + 1 := by unfold shrUp; rw [h]; rfl
theorem shrUp_ex {up : Bool} {x k : Nat} (h : exactB x k = true) : shrUp up x k = x / 2 ^ k := by unfold shrUp; rw [h]; simp
theorem shrUp_no {x k : Nat} : shrUp false x k = x / 2 ^ k := by unfold shrUp; simp
theorem shrUp_le (up : Bool) (x k : Nat) : shrUp up x k ≤ x / 2 ^ k + 1 := by unfold shrUp; split <;> omega
/-- What Shift answers. -/
def shiftS (a b : LN) : LN × Int := if intErr2 a b = 0 then (if b.neg then fracS 0 a.neg (shrUp a.neg a.x (min 4097 b.x)) 1 else fracS 0 a.neg (a.x * 2 ^ (min 4097 b.x)) 1) else (zeroL, intErr2 a b)
theorem digs_single {x : Nat} (h : (digs W32 x).length = 1) : (digs W32 x).getD 0 0 = x ∧ x < 4294967296 := by
  have h1 := digs_lt (n := x) W32_gt
  rw [h, Nat.pow_one] at h1
  have h2 : x < 4294967296 := h1
  have h0 : x ≠ 0 := by intro e; subst e; rw [digs_zero] at h; cases h
  rw [digs_step W32_gt h0]
  exact ⟨Nat.mod_eq_of_lt h1, h2⟩
theorem digs_many {x : Nat} (h : 2 ≤ (digs W32 x).length) : 4294967296 ≤ x := by
  have h1 := (digs_len_gt (n := x) (k := 1) W32_gt).1 (by omega)
  rw [Nat.pow_one] at h1
  exact h1

set_option maxRecDepth 1000000 in
set_option maxHeartbeats 12800000 in
theorem shiftNum_S (a b : LN) (va vb : Value) (w : World) (ga : GV w va a) (gb : GV w vb b) : Calls Tryz.prog 6 #[va, vb] w (SPost w (shiftS a b)) := by
  have GA := Lib.hid ga
  have GB := Lib.hid gb
  have HOK := Lib.hid (And.intro ga.ok gb.ok)
  obtain ⟨B1, m1, d1, B2, m2, d2, rfl, hq1, hq2⟩ := ga.form
  clear hq1 hq2
  obtain ⟨B3, m3, d3, B4, m4, d4, rfl, hq1, hq2⟩ := gb.form
  have HM3 := Lib.hid hq1
  clear hq1 hq2 ga gb
  have HBK := Lib.hid (blk_3 w 24 24 24 #[.bool a.neg, .slice B1 m1 d1, .slice B2 m2 d2] #[.bool b.neg, .slice B3 m3 d3, .slice B4 m4 d4] #[.bool false, .slice none 0 0, .slice none 0 0])
  have HI : Hid (∀ (W : World) (g cap : Nat) (t : TypeId), Blk W g t #[.bool a.neg, .slice B1 m1 d1, .slice B2 m2 d2, .bool b.neg, .slice B3 m3 d3, .slice B4 m4 d4] → GV W (.agg #[.bool a.neg, .slice B1 m1 d1, .slice B2 m2 d2]) a → GV W (.agg #[.bool b.neg, .slice B3 m3 d3, .slice B4 m4 d4]) b → Calls Tryz.prog 18 #[.slice (some ⟨g, 0, none⟩) 2 cap] W fun e w' => e = .returned (.int .i64 (intErr2 a b)) ∧ Below W.heap.size W w') := fun W g cap t h1 h2 h3 => integers_two a b g cap _ _ _ _ W t h1 h2 h3
  have hbd := intErr2_bd a b
  by_cases e0 : intErr2 a b = 0
  rotate_left
  · have b0 : (intErr2 a b != 0) = true := by rw [bne_iff_ne]; exact e0
    have HRE : Hid (shiftS a b = (zeroL, intErr2 a b)) := by unfold Hid shiftS; rw [if_neg e0]
    generalize shiftS a b = r at *
    generalize intErr2 a b = z at *
    clear e0
    go_enter Tryz.func6, Tryz.ntmps6
    go_wp2_with fail
    refine (HI.out _ _ _ _ (by exact blk_4 w _ _ _ _ _) (by exact GA.out.to (below_4 w _ _ _ _)) (by exact GB.out.to (below_4 w _ _ _ _))).mono ?_
    rintro e w1 ⟨rfl, hb⟩
    have KA := Lib.hid ((HBK.out.1.alloc _).to hb)
    have KB := Lib.hid ((HBK.out.2.1.alloc _).to hb)
    have KC := Lib.hid ((HBK.out.2.2.alloc _).to hb)
    have HBE : Hid (Below w.heap.size w w1) := (below_4 w _ _ _ _).trans (hb.mono (below_4 w _ _ _ _).size)
    have GA := Lib.hid (GA.out.to HBE.out)
    have GB := Lib.hid (GB.out.to HBE.out)
    clear hb HI HBK
    have kc0 := KC.out.cell 0
    have kc1 := KC.out.cell 1
    have kc2 := KC.out.cell 2
    simp only [List.getElem?_toArray, List.getElem?_cons_zero, List.getElem?_cons_succ] at kc0 kc1 kc2
    have fzkc0 := KC.out.frozen 0
    have fzkc1 := KC.out.frozen 1
    have fzkc2 := KC.out.frozen 2
    go_wp2_with fail
    refine bodyPost_ret (v := .tuple #[zeroNum, .int .i64 z]) (by rw [results_cell_tmp rfl]; go_simp; rfl) rfl ?_
    rw [HRE.out]
    exact ⟨_, rfl, GV.zero _, put3_below HBE.out (by omega) _ _ _⟩
  rw [e0] at HI
  obtain ⟨⟨ea, eb⟩, ya, yb⟩ := intErr2_zero.1 e0
  obtain ⟨p1, p2, p3, p4, hca⟩ := LN.good HOK.out.1 ea
  obtain ⟨q1, q2, q3, q4, hcb⟩ := LN.good HOK.out.2 eb
  have HX : Hid (∀ W, GV W (.agg #[.bool a.neg, .slice B1 m1 d1, .slice B2 m2 d2]) a → Nat32 W (.slice B1 m1 d1) a.x) := fun W h => by unfold Nat32; rw [p1]; exact h.parts.2.1
  have HY : Hid (∀ W, GV W (.agg #[.bool b.neg, .slice B3 m3 d3, .slice B4 m4 d4]) b → Nat32 W (.slice B3 m3 d3) b.x) := fun W h => by unfold Nat32; rw [q1]; exact h.parts.2.1
  have HL : Hid ((digs W32 a.x).length ≤ 128 ∧ (digs W32 b.x).length ≤ 128) := ⟨by rw [p1]; exact p3, by rw [q1]; exact q3⟩
  have HMD : Hid (m3 = (digs W32 b.x).length) := by unfold Hid; rw [q1]; exact HM3.out
  obtain ⟨k, hk, hkb⟩ : ∃ k, min 4097 b.x = k ∧ k ≤ 4097 := ⟨_, rfl, by omega⟩
  have HKE := Lib.hid hk
  have hl1 : (digs W32 (a.x * 2 ^ k)).length ≤ 400 := Nat.le_trans (digs_len_mul _ _) (by have := HL.out.1; have := pow_lenG (k := k) (m := 200) (by omega); omega)
  have hl2 : (digs W32 (shrUp a.neg a.x k)).length ≤ 200 := Nat.le_trans (digs_len_mono W32_gt (shrUp_le _ _ _)) (Nat.le_trans (digs_len_add (n := 128) (Nat.le_trans (digs_len_mono W32_gt (Nat.div_le_self _ _)) HL.out.1) (by rw [digs_one32]; decide)) (by omega))
  have HSL : Hid (∀ (W : World) (u : Value), Nat32 W u a.x → Calls Tryz.prog 20 #[u, .int .i64 (k : Int)] W (NPost W (a.x * 2 ^ k))) := fun W u h => shl_any a.x k u W h (by have := HL.out.1; omega) (by omega)
  have HSR : Hid (∀ (W : World) (u : Value), Nat32 W u a.x → Calls Tryz.prog 21 #[u, .int .i64 (k : Int)] W fun e w' => ∃ v, e = .returned (.tuple #[v, .bool (exactB a.x k)]) ∧ Nat32 w' v (a.x / 2 ^ k) ∧ Below W.heap.size W w') := fun W u h => shr_any a.x k u W h (by have := HL.out.1; omega) (by omega)
  have HW1 : Hid (b.neg = false → ∀ (W : World) (u : Value), Nat32 W u (a.x * 2 ^ k) → Calls Tryz.prog 19 #[.bool a.neg, u] W (SPost W (shiftS a b))) := fun hn W u h => by
    have e : shiftS a b = fracS 0 a.neg (a.x * 2 ^ k) 1 := by unfold shiftS; rw [if_pos e0, hn, hk]; rfl
    rw [e]
    exact whole_S a.neg _ u W h (by omega)
  have HW2 : Hid (b.neg = true → ∀ (W : World) (u : Value), Nat32 W u (shrUp a.neg a.x k) → Calls Tryz.prog 19 #[.bool a.neg, u] W (SPost W (shiftS a b))) := fun hn W u h => by
    have e : shiftS a b = fracS 0 a.neg (shrUp a.neg a.x k) 1 := by unfold shiftS; rw [if_pos e0, hn, hk]; rfl
    rw [e]
    exact whole_S a.neg _ u W h (by omega)
  have HSU : Hid ((exactB a.x k = true → shrUp a.neg a.x k = a.x / 2 ^ k) ∧ (a.neg = false → shrUp a.neg a.x k = a.x / 2 ^ k) ∧ (a.neg = true → exactB a.x k = false → shrUp a.neg a.x k = a.x / 2 ^ k + 1)) := ⟨shrUp_ex, fun h => by rw [h]; exact shrUp_no, fun h1 h2 => by rw [h1]; exact shrUp_yes h2⟩
  have HSE : Hid ((digs W32 [a.x / 2 ^ k, 1].sum).length ≤ 100000) := Nat.le_trans (by simpa using digs_len_add (n := 128) (Nat.le_trans (digs_len_mono W32_gt (Nat.div_le_self a.x (2 ^ k))) HL.out.1) (by rw [digs_one32]; decide)) (by omega)
  generalize shiftS a b = r at *
  generalize shrUp a.neg a.x k = su at *
  generalize a.x / 2 ^ k = sq at *
  generalize a.x * 2 ^ k = sl at *
  generalize exactB a.x k = ex at *
  clear e0 ea eb ya yb p1 p2 p3 p4 hca q1 q2 q3 q4 hcb hbd hk hl1 hl2
  go_enter Tryz.func6, Tryz.ntmps6
  go_wp2_with fail
  refine (HI.out _ _ _ _ (by exact blk_4 w _ _ _ _ _) (by exact GA.out.to (below_4 w _ _ _ _)) (by exact GB.out.to (below_4 w _ _ _ _))).mono ?_
  rintro e w1 ⟨rfl, hb⟩
  have KA := Lib.hid ((HBK.out.1.alloc _).to hb)
  have KB := Lib.hid ((HBK.out.2.1.alloc _).to hb)
  have KC := Lib.hid ((HBK.out.2.2.alloc _).to hb)
  have HBE : Hid (Below w.heap.size w w1) := (below_4 w _ _ _ _).trans (hb.mono (below_4 w _ _ _ _).size)
  have GA := Lib.hid (GA.out.to HBE.out)
  have GB := Lib.hid (GB.out.to HBE.out)
  clear hb HI HBK
  have kb0 := KB.out.cell 0
  have kb1 := KB.out.cell 1
  have kb2 := KB.out.cell 2
  simp only [List.getElem?_toArray, List.getElem?_cons_zero, List.getElem?_cons_succ] at kb0 kb1 kb2
  go_upto_if 21 with fail
  go_cut [7] (fun s7 wx => s7 = .int .i64 (k : Int) ∧ w1 = wx)
  case first =>
    have hc3 : m3 = 0 ∨ m3 = 1 ∨ 2 ≤ m3 := by omega
    rcases hc3 with rfl | rfl | hc3
    · have HK0 : Hid (k = 0) := by
        have h1 : ¬ 0 < b.x := fun h => absurd ((len_pos32 HMD.out).2 h) (by omega)
        have := HKE.out
        unfold Hid; omega
      go_wp2
      go_meet
      case rel => exact ⟨by rw [HK0.out]; rfl, rfl⟩
    · obtain ⟨h1, h2⟩ := digs_single HMD.out.symm
      obtain ⟨A9, c9, e9, _, _, hr9⟩ := HY.out _ GB.out
      rw [← HMD.out] at hr9 e9
      simp only [Value.slice.injEq] at e9
      obtain ⟨rfl, -, rfl⟩ := e9
      obtain ⟨b9, o9, p9, rfl, hb9, hpe9, hcell9⟩ := hr9.at_ (i := 0) (by omega)
      rw [Nat.add_zero] at hcell9
      rw [h1] at hpe9
      have hpb : p9 < 4294967296 := by rw [← hpe9]; exact h2
      have HKP : Hid (k = min 4097 p9) := by rw [← hpe9]; exact HKE.out.symm
      clear h1 h2 hr9 hpe9
      by_cases hp : p9 ≤ 4097
      · have HKQ : Hid (k = p9) := by have := HKP.out; unfold Hid; omega
        go_wp2
        go_meet
        case rel => exact ⟨congrArg (Value.int .i64) (by have := HKQ.out; omega), rfl⟩
      · have HKQ : Hid (k = 4097) := by have := HKP.out; unfold Hid; omega
        go_wp2
        go_meet
        case rel => exact ⟨congrArg (Value.int .i64) (by have := HKQ.out; omega), rfl⟩
    · have HKQ : Hid (k = 4097) := by
        have h1 := digs_many (x := b.x) (by rw [← HMD.out]; exact hc3)
        have := HKE.out
        unfold Hid; omega
      have hm30 : ((m3 : Int) == 0) = false := beq_eq_false_iff_ne.2 (by omega)
      have hm31 : ((m3 : Int) == 1) = false := beq_eq_false_iff_ne.2 (by omega)
      go_wp2
      go_meet
      case rel => exact ⟨congrArg (Value.int .i64) (by have := HKQ.out; omega), rfl⟩
  case rest =>
    obtain ⟨rfl, rfl⟩ := hcut
    by_cases hbn : b.neg = true
    rotate_left
    · have hbf : b.neg = false := by simpa using hbn
      have HWH := Lib.hid (HW1.out hbf)
      rw [hbf] at kb0
      clear hbn hbf
      have hlt := KA.out.lt
      have hlt2 := KC.out.lt
      have hne1 : (w.heap.size = w.heap.size + 1 + 1) = False := eq_false (by omega)
      have hne2 : (w.heap.size + 1 + 1 = w.heap.size) = False := eq_false (by omega)
      have ka0 := KA.out.cell 0
      have ka1 := KA.out.cell 1
      simp only [List.getElem?_toArray, List.getElem?_cons_zero, List.getElem?_cons_succ] at ka0 ka1
      have GAD := Lib.hid (GA.out.to (w' := w1.drew) (Below.refl _ _).drew)
      have KCD := Lib.hid KC.out.drew
      have HBD : Hid (Below w.heap.size w w1.drew) := HBE.out.drew
      have HK : Hid (∀ W1 W' : World, Below W1.heap.size W1 W' → (W1.cell? ⟨w.heap.size, 0, none⟩ = some (.bool a.neg) ∧ W1.cell? ⟨w.heap.size, 1, none⟩ = some (.slice B1 m1 d1) ∧ w.heap.size < W1.heap.size) → (W'.cell? ⟨w.heap.size, 0, none⟩ = some (.bool a.neg) ∧ W'.cell? ⟨w.heap.size, 1, none⟩ = some (.slice B1 m1 d1) ∧ w.heap.size < W'.heap.size)) := fun W1 W' h1 ⟨a0, a1, a3⟩ => ⟨(h1.cell (p := ⟨w.heap.size, 0, none⟩) a3).trans a0, (h1.cell (p := ⟨w.heap.size, 1, none⟩) a3).trans a1, Nat.lt_of_lt_of_le a3 h1.size⟩
      go_wp2_with fail
      go_region_held3 (fun w' => w'.cell? ⟨w.heap.size, 0, none⟩ = some (.bool a.neg) ∧ w'.cell? ⟨w.heap.size, 1, none⟩ = some (.slice B1 m1 d1) ∧ w.heap.size < w'.heap.size)
        (first | go_keep | (refine HK.out _ _ (by assumption) ?_; go_keep))
        (first
          | (go_at_call 20; ((with_reducible refine (HSL.out _ _ (by exact HX.out _ GAD.out)).mono ?_)); rintro e y1 ⟨v1, rfl, hn1, hb1⟩)
          | (go_at_call 19; ((with_reducible refine (HWH.out _ _ (by exact hn1)).mono ?_)); rintro e y2 ⟨v2, rfl, hg, hb2⟩; have hblk := (KCD.out.to hb1).to hb2; obtain ⟨C1, q1, r1, C2, q2, r2, rfl, hq1, hq2⟩ := hg.form; clear hq1 hq2; have cc0 := hblk.cell 0; have cc1 := hblk.cell 1; have cc2 := hblk.cell 2; simp only [List.getElem?_toArray, List.getElem?_cons_zero, List.getElem?_cons_succ] at cc0 cc1 cc2; have fc0 := hblk.frozen 0; have fc1 := hblk.frozen 1; have fc2 := hblk.frozen 2))
      all_goals
        go_wp2_with fail
        refine bodyPost_ret (v := .tuple #[.agg #[.bool r.1.neg, .slice C1 q1 r1, .slice C2 q2 r2], .int .i64 r.2]) (by rw [results_cell_tmp rfl]; go_simp) rfl ?_
        exact ⟨_, rfl, hg.putM hblk _ _ _, put3_below ((HBD.out.trans (hb1.mono HBD.out.size)).trans (hb2.mono (Nat.le_trans HBD.out.size hb1.size))) (by omega) _ _ _⟩
    · have HWH := Lib.hid (HW2.out hbn)
      rw [hbn] at kb0
      clear hbn
      have ka0 := KA.out.cell 0
      have ka1 := KA.out.cell 1
      have ka2 := KA.out.cell 2
      simp only [List.getElem?_toArray, List.getElem?_cons_zero, List.getElem?_cons_succ] at ka0 ka1 ka2
      go_wp2_with fail
      refine (HSR.out _ _ (by exact HX.out _ GA.out)).mono ?_
      rintro e w2 ⟨v2, rfl, hn2, hb⟩
      clear ka0 ka1 ka2 kb0 kb1 kb2
      have KA := Lib.hid (KA.out.to hb)
      have KB := Lib.hid (KB.out.to hb)
      have KC := Lib.hid (KC.out.to hb)
      have GA := Lib.hid (GA.out.to hb)
      have GB := Lib.hid (GB.out.to hb)
      have HBE : Hid (Below w.heap.size w w2) := HBE.out.trans ((hb).mono HBE.out.size)
      clear hb
      have N2 := Lib.hid hn2
      clear hn2
      by_cases hup : a.neg = true ∧ ex = false
      rotate_left
      · have HSQ : Hid (su = sq) := by
          by_cases he : ex = true
          · exact HSU.out.1 he
          · exact HSU.out.2.1 (by
              have he' : ex = false := by simpa using he
              by_cases h : a.neg = true
              · exact absurd ⟨h, he'⟩ hup
              · simpa using h)
        have N3 : Hid (Nat32 w2 v2 su) := by unfold Hid; rw [HSQ.out]; exact N2.out
        have hcc : a.neg = false ∨ (a.neg = true ∧ ex = true) := by
          by_cases h : a.neg = true
          · right; refine ⟨h, ?_⟩
            cases hx : ex with
            | true => rfl
            | false => exact absurd ⟨h, hx⟩ hup
          · left; simpa using h
        clear hup HSQ HSU
        generalize hne : a.neg = ng at *
        rcases hcc with rfl | ⟨rfl, rfl⟩
        all_goals
          clear hne
          have ka0 := KA.out.cell 0
          have ka1 := KA.out.cell 1
          have ka2 := KA.out.cell 2
          simp only [List.getElem?_toArray, List.getElem?_cons_zero, List.getElem?_cons_succ] at ka0 ka1 ka2
          go_wp2_with fail
          refine (HWH.out _ _ (by exact N3.out)).mono ?_
          rintro e w3 ⟨v3, rfl, hg, hb⟩
          clear ka0 ka1 ka2
          have KA := Lib.hid (KA.out.to hb)
          have KB := Lib.hid (KB.out.to hb)
          have KC := Lib.hid (KC.out.to hb)
          have GA := Lib.hid (GA.out.to hb)
          have GB := Lib.hid (GB.out.to hb)
          have N3 := Lib.hid (N3.out.to hb)
          have HBE : Hid (Below w.heap.size w w3) := HBE.out.trans ((hb).mono HBE.out.size)
          clear hb
          obtain ⟨Az, nz, cz, Bz, mz, dz, rfl, hq1, hq2⟩ := hg.form
          have Gz := Lib.hid hg
          clear hq1 hq2 hg
          have kc0 := KC.out.cell 0
          have kc1 := KC.out.cell 1
          have kc2 := KC.out.cell 2
          simp only [List.getElem?_toArray, List.getElem?_cons_zero, List.getElem?_cons_succ] at kc0 kc1 kc2
          have fzkc0 := KC.out.frozen 0
          have fzkc1 := KC.out.frozen 1
          have fzkc2 := KC.out.frozen 2
          go_wp2_with fail
          refine bodyPost_ret (v := .tuple #[.agg #[.bool r.1.neg, .slice Az nz cz, .slice Bz mz dz], .int .i64 r.2]) (by rw [results_cell_tmp rfl]; go_simp) rfl ?_
          exact ⟨_, rfl, Gz.out.put3 KC.out _ _ _, put3_below HBE.out (by omega) _ _ _⟩
      · obtain ⟨hn, rfl⟩ := hup
        have HSQ := Lib.hid (HSU.out.2.2 hn rfl)
        obtain ⟨A9, n9, c9, rfl, hn9⟩ := N2.out.form
        generalize hne : a.neg = ng at *
        subst hn
        clear hn9 HSU hne
        have ka0 := KA.out.cell 0
        have ka1 := KA.out.cell 1
        have ka2 := KA.out.cell 2
        simp only [List.getElem?_toArray, List.getElem?_cons_zero, List.getElem?_cons_succ] at ka0 ka1 ka2
        go_wp2_with fail
        refine (add_any [sq, 1] _ 0 2 2 _ rfl (by exact nats_two' (by simp) (N2.out.to (below_one _ _)) (one32' _ _ rfl) _) HSE.out (by omega)).mono ?_
        rintro e w3 ⟨v3, rfl, hn3, hb⟩
        clear ka0 ka1 ka2
        have hb : Below (w2).heap.size w2 w3 := ((below_one w2 _).trans (((Below.refl _ _).alloc (Nat.le_refl _) _).mono (by simp))).trans (hb.mono ((below_one w2 _).trans (((Below.refl _ _).alloc (Nat.le_refl _) _).mono (by simp))).size)
        have KA := Lib.hid (KA.out.to hb)
        have KB := Lib.hid (KB.out.to hb)
        have KC := Lib.hid (KC.out.to hb)
        have GA := Lib.hid (GA.out.to hb)
        have GB := Lib.hid (GB.out.to hb)
        have N2 := Lib.hid (N2.out.to hb)
        have HBE : Hid (Below w.heap.size w w3) := HBE.out.trans ((hb).mono HBE.out.size)
        clear hb
        have hn3 : Nat32 w3 v3 su := by rw [HSQ.out]; simpa using hn3
        have N3 := Lib.hid hn3
        clear hn3
        have ka0 := KA.out.cell 0
        have ka1 := KA.out.cell 1
        have ka2 := KA.out.cell 2
        simp only [List.getElem?_toArray, List.getElem?_cons_zero, List.getElem?_cons_succ] at ka0 ka1 ka2
        go_wp2_with fail
        refine (HWH.out _ _ (by exact N3.out)).mono ?_
        rintro e w4 ⟨v3, rfl, hg, hb⟩
        clear ka0 ka1 ka2
        have KA := Lib.hid (KA.out.to hb)
        have KB := Lib.hid (KB.out.to hb)
        have KC := Lib.hid (KC.out.to hb)
        have GA := Lib.hid (GA.out.to hb)
        have GB := Lib.hid (GB.out.to hb)
        have N2 := Lib.hid (N2.out.to hb)
        have N3 := Lib.hid (N3.out.to hb)
        have HBE : Hid (Below w.heap.size w w4) := HBE.out.trans ((hb).mono HBE.out.size)
        clear hb
        obtain ⟨Az, nz, cz, Bz, mz, dz, rfl, hq1, hq2⟩ := hg.form
        have Gz := Lib.hid hg
        clear hq1 hq2 hg
        have kc0 := KC.out.cell 0
        have kc1 := KC.out.cell 1
        have kc2 := KC.out.cell 2
        simp only [List.getElem?_toArray, List.getElem?_cons_zero, List.getElem?_cons_succ] at kc0 kc1 kc2
        have fzkc0 := KC.out.frozen 0
        have fzkc1 := KC.out.frozen 1
        have fzkc2 := KC.out.frozen 2
        go_wp2_with fail
        refine bodyPost_ret (v := .tuple #[.agg #[.bool r.1.neg, .slice Az nz cz, .slice Bz mz dz], .int .i64 r.2]) (by rw [results_cell_tmp rfl]; go_simp) rfl ?_
        exact ⟨_, rfl, Gz.out.put3 KC.out _ _ _, put3_below HBE.out (by omega) _ _ _⟩

set_option maxRecDepth 100000 in
set_option maxHeartbeats 3200000 in
theorem lengthNum_S (a : LN) (va : Value) (w : World) (ga : GV w va a) : Calls Tryz.prog 9 #[va] w fun e w' => e = .returned (.tuple #[.int .i64 (if intErr a = 0 then (blen a.x : Int) else 0), .int .i64 (intErr a)]) ∧ Below w.heap.size w w' := by
  have HO := Lib.hid ga.ok
  obtain ⟨B1, m1, d1, B2, m2, d2, rfl, hq1, hq2⟩ := ga.form
  clear hq1 hq2
  have KA := Lib.hid (Blk.new w 24 #[.bool a.neg, .slice B1 m1 d1, .slice B2 m2 d2])
  have GA := Lib.hid (ga.to (below_one w (.cells #[.bool a.neg, .slice B1 m1 d1, .slice B2 m2 d2] 24)))
  have HBE := Lib.hid (below_one w (.cells #[.bool a.neg, .slice B1 m1 d1, .slice B2 m2 d2] 24))
  have HB2 : Hid (∀ (o : Obj) (t : TypeId) (c : Array Value), Blk ((w.alloc o).alloc (.cells c t)) (w.heap.size + 1) t c) := fun o t c => by have := Blk.new (w.alloc o) t c; simpa using this
  have HI : Hid (∀ (W : World) (g cap : Nat) (t : TypeId), Blk W g t #[.bool a.neg, .slice B1 m1 d1, .slice B2 m2 d2] → GV W (.agg #[.bool a.neg, .slice B1 m1 d1, .slice B2 m2 d2]) a → Calls Tryz.prog 18 #[.slice (some ⟨g, 0, none⟩) 1 cap] W fun e w' => e = .returned (.int .i64 (intErr a)) ∧ Below W.heap.size W w') := fun W g cap t h1 h2 => integers_one a g cap _ _ W t h1 h2
  have hib := intErr_bd a
  clear ga
  by_cases e0 : intErr a = 0
  · obtain ⟨ea, ya⟩ := intErr_zero.1 e0
    obtain ⟨p1, p2, p3, p4, hcan⟩ := LN.good HO.out ea
    have HX : Hid (∀ W, GV W (.agg #[.bool a.neg, .slice B1 m1 d1, .slice B2 m2 d2]) a → Nat32 W (.slice B1 m1 d1) a.x) := fun W h => by unfold Nat32; rw [p1]; exact h.parts.2.1
    have HLN : Hid (∀ (W : World), Nat32 W (.slice B1 m1 d1) a.x → Calls Tryz.prog 37 #[.slice B1 m1 d1] W fun e w' => e = .returned (.int .i64 (blen a.x : Int)) ∧ w' = W) := fun W hW => len_any a.x _ W hW (by rw [p1]; omega)
    rw [if_pos e0]
    rw [e0] at HI ⊢
    generalize blen a.x = l at *
    clear e0 ea ya p1 p2 p3 p4 hcan hib
    go_enter Tryz.func9, Tryz.ntmps9
    go_wp2_with fail
    refine (HI.out _ _ _ _ (by exact HB2.out _ _ _) (by exact GA.out.to (below_one _ _))).mono ?_
    rintro e w1 ⟨rfl, hb⟩
    have hb : Below (w.alloc (.cells #[.bool a.neg, .slice B1 m1 d1, .slice B2 m2 d2] 24)).heap.size (w.alloc (.cells #[.bool a.neg, .slice B1 m1 d1, .slice B2 m2 d2] 24)) w1 := (below_one _ _).trans (hb.mono (below_one _ _).size)
    have KA := Lib.hid (KA.out.to hb)
    have GA := Lib.hid (GA.out.to hb)
    have HBE : Hid (Below w.heap.size w w1) := HBE.out.trans (hb.mono HBE.out.size)
    clear hb
    have ka1 := KA.out.cell 1
    simp only [List.getElem?_toArray, List.getElem?_cons_zero, List.getElem?_cons_succ] at ka1
    go_wp2_with fail
    refine (HLN.out _ (by exact HX.out _ GA.out)).mono ?_
    rintro e w2 ⟨rfl, rfl⟩
    go_wp2
    go_ret2
    exact ⟨rfl, HBE.out⟩
  · have b0 : (intErr a != 0) = true := by rw [bne_iff_ne]; exact e0
    rw [if_neg e0]
    generalize intErr a = z at *
    clear e0
    go_enter Tryz.func9, Tryz.ntmps9
    go_wp2_with fail
    refine (HI.out _ _ _ _ (by exact HB2.out _ _ _) (by exact GA.out.to (below_one _ _))).mono ?_
    rintro e w1 ⟨rfl, hb⟩
    have HBB : Hid (Below w.heap.size w w1) := HBE.out.trans (((below_one _ _).trans (hb.mono (below_one _ _).size)).mono HBE.out.size)
    clear hb
    go_wp2
    go_ret2
    exact ⟨rfl, HBB.out⟩
end Go.Proofs.YtdfcpkjphdepcaaGreatDoor
namespace Go.Proofs.YtdfcpkjphdepcaaGreatDoor
set_option linter.unusedVariables false

/-- A quotient, rounded away from 0 where told and where something is left. -/
def flo (up : Bool) (x y : Nat) : Nat := x / y + (if up && decide (0 < x % y) then 1 else 0)
theorem flo_true {x y : Nat} (h : 0 < x % y) : flo true x y = x / y + 1 := by unfold flo; simp [h]
theorem flo_rest {up : Bool} {x y : Nat} (h : x % y = 0) : flo up x y = x / y := by unfold flo; simp [h]
theorem flo_false {x y : Nat} : flo false x y = x / y := by unfold flo; simp
end Go.Proofs.YtdfcpkjphdepcaaGreatDoor
