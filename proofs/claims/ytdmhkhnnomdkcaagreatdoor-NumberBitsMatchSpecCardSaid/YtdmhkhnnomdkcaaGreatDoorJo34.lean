/-  -/
import Derived.Deep.RegionHeld3
import Derived.Test.YtdmhkhnnomdkcaaGreatDoorJo14
import Derived.Test.YtdmhkhnnomdkcaaGreatDoorJo15
import Derived.Test.YtdmhkhnnomdkcaaGreatDoorJo26
import Derived.Test.YtdmhkhnnomdkcaaGreatDoorJo28
import Derived.Test.YtdmhkhnnomdkcaaGreatDoorJo30
import Derived.Test.YtdmhkhnnomdkcaaGreatDoorJo32
import Derived.Test.YtdmhkhnnomdkcaaGreatDoorJo33
set_option linter.unusedVariables false
set_option linter.unusedSimpArgs false
/- fetterlockref1.bits: bit by bit. Conditions: integers of at most 256 digits; a negative one is not 0. -/
namespace Go.Proofs.YtdmhkhnnomdkcaaGreatDoor
open Go.RowKit NumB
set_option linter.unusedVariables false
set_option linter.unusedSimpArgs false

/-- The answer's sign and absolute value. -/
def rbM (o : Nat) (na nb : Bool) (p q : Nat) : Nat := bmag o na nb p q + if bop o na nb then 1 else 0
theorem digs_pred {p n : Nat} (h : (digs W16 p).length ≤ n) : (digs W16 (p - 1)).length ≤ n := Nat.le_trans (digs_len_mono W16_gt (Nat.sub_le _ _)) h
theorem lt_digs16 {x n : Nat} (h : (digs W16 x).length ≤ n) : x < 2 ^ (16 * n) := by
  have := digs_lt W16_gt (n := x)
  rw [Nat.pow_mul]
  exact Nat.lt_of_lt_of_le this (Nat.pow_le_pow_right (by decide) h)

set_option maxRecDepth 100000 in
set_option maxHeartbeats 12800000 in
theorem rbits_tt (o : Nat) (ho : o < 3) (p q : Nat) (va vb : Value) (w : World) (ha : RV w va true p 1) (hb : RV w vb true q 1) (hp : (digs W16 p).length ≤ 256) (hq : (digs W16 q).length ≤ 256) (hna : 0 < p) (hnb : 0 < q) :
    Calls Tryz.prog 27 #[.int .u8 (opc o), va, vb] w (RVPost w (bop o true true && decide (0 < rbM o true true p q)) (rbM o true true p q) 1) := by
  have RA := Lib.hid ha
  have RB := Lib.hid hb
  obtain ⟨A1, n1, c1, A2, n2, c2, rfl, hz1, hz2⟩ := ha.form
  obtain ⟨B1, m1, d1, B2, m2, d2, rfl, hz3, hz4⟩ := hb.form
  have HBO : Hid (∀ (x y : Bool) (W : World), Calls Tryz.prog 51 #[.int .u8 (opc o), .bool x, .bool y] W fun e w' => e = .returned (.bool (bop o x y)) ∧ W = w') := fun x y W => both_any o ho x y W
  have HSA : Hid (∀ (W : World) (v : Value), Nat16 W (.slice A1 n1 c1) p → Nat16 W v 1 → Calls Tryz.prog 44 #[.slice A1 n1 c1, v] W (RPost W (p - 1))) := fun W v h1 h2 => rsub_any p 1 _ v W h1 h2 (by omega) hna
  have HSB : Hid (∀ (W : World) (v : Value), Nat16 W (.slice B1 m1 d1) q → Nat16 W v 1 → Calls Tryz.prog 44 #[.slice B1 m1 d1, v] W (RPost W (q - 1))) := fun W v h1 h2 => rsub_any q 1 _ v W h1 h2 (by omega) hnb
  have HAD : Hid (∀ (n : Nat) (W : World) (u v : Value), (digs W16 n).length ≤ 1000 → Nat16 W u n → Nat16 W v 1 → Calls Tryz.prog 43 #[u, v] W (RPost W (n + 1))) := fun n W u v hn h1 h2 => radd_any n 1 u v W h1 h2 (by omega) (by rw [digs_one16]; decide)
  have HWK : Hid (∀ (s : Bool) (n : Nat) (W : World) (v : Value), Nat16 W v n → Calls Tryz.prog 23 #[.bool s, v] W (RVPost W (s && decide (0 < n)) n 1)) := fun s n W v h => rwhole_any s n v W h
  have HBK := Lib.hid (blk2 w 43 43 #[.bool true, .slice A1 n1 c1, .slice A2 n2 c2] #[.bool true, .slice B1 m1 d1, .slice B2 m2 d2])
  have KA := Lib.hid (HBK.out.1.alloc (.cells #[.bool false, .slice none 0 0, .slice none 0 0] 43))
  have KB := Lib.hid (HBK.out.2.alloc (.cells #[.bool false, .slice none 0 0, .slice none 0 0] 43))
  have KC := Lib.hid ((blk_3 w 43 43 43 #[.bool true, .slice A1 n1 c1, .slice A2 n2 c2] #[.bool true, .slice B1 m1 d1, .slice B2 m2 d2] #[.bool false, .slice none 0 0, .slice none 0 0]).2.2)
  have HBE := Lib.hid (below_3 w (.cells #[.bool true, .slice A1 n1 c1, .slice A2 n2 c2] 43) (.cells #[.bool true, .slice B1 m1 d1, .slice B2 m2 d2] 43) (.cells #[.bool false, .slice none 0 0, .slice none 0 0] 43))
  have RA := Lib.hid (RA.out.to HBE.out)
  have RB := Lib.hid (RB.out.to HBE.out)
  have hx : (digs W16 (p - 1)).length ≤ 256 := digs_pred hp
  have hy : (digs W16 (q - 1)).length ≤ 256 := digs_pred hq
  have HM : Hid (rbM o true true p q = Nat.bitwise (bfun o true true) (p - 1) (q - 1) + if bop o true true then 1 else 0) := rfl
  generalize rbM o true true p q = mm at *
  have HN1 := Lib.hid hz1
  have HN3 := Lib.hid hz3
  clear HBK ha hb hp hq hz2 hz4 hz1 hz3 hna hnb
  obtain ⟨sg, HSG⟩ : ∃ sg, Hid (bop o true true = sg) := ⟨_, rfl⟩
  rw [HSG.out]
  obtain ⟨sx, HSX⟩ : ∃ sx, Hid ((sg && decide (0 < mm)) = sx) := ⟨_, rfl⟩
  rw [HSX.out]
  go_enter Tryz.func27, Tryz.ntmps27
  have ka0 := KA.out.cell 0
  have ka1 := KA.out.cell 1
  have kb0 := KB.out.cell 0
  have kb1 := KB.out.cell 1
  simp only [List.getElem?_toArray, List.getElem?_cons_zero, List.getElem?_cons_succ] at ka0 ka1 kb0 kb1
  go_wp2_with fail
  go_region
  have NA := Lib.hid RA.out.parts.2.1
  have NB := Lib.hid RB.out.parts.2.1
  clear RA RB
  go_wp2_with fail
  refine (HSA.out _ _ (by first | exact NA.out.to (below_one _ _) | exact NA.out.to (below_one _ _).drew) (by first | exact one16' _ _ (by first | rfl | simp) | exact (one16' _ _ (by first | rfl | simp)).to (Below.refl _ _).drew)).mono ?_
  rintro e w1 ⟨vx, rfl, hn, hb⟩
  have HB1 : Below (World.heap (((w.alloc (.cells #[.bool true, .slice A1 n1 c1, .slice A2 n2 c2] 43)).alloc (.cells #[.bool true, .slice B1 m1 d1, .slice B2 m2 d2] 43)).alloc (.cells #[.bool false, .slice none 0 0, .slice none 0 0] 43))).size (((w.alloc (.cells #[.bool true, .slice A1 n1 c1, .slice A2 n2 c2] 43)).alloc (.cells #[.bool true, .slice B1 m1 d1, .slice B2 m2 d2] 43)).alloc (.cells #[.bool false, .slice none 0 0, .slice none 0 0] 43)) w1 := by first | exact (below_one _ _).trans (hb.mono (below_one _ _).size) | exact (below_one _ _).drew.trans (hb.mono (below_one _ _).drew.size)
  have KA := Lib.hid (KA.out.to HB1)
  have KB := Lib.hid (KB.out.to HB1)
  have KC := Lib.hid (KC.out.to HB1)
  have NA := Lib.hid (NA.out.to HB1)
  have NB := Lib.hid (NB.out.to HB1)
  have HBE := Lib.hid (HBE.out.trans (HB1.mono HBE.out.size))
  have Nx := Lib.hid hn
  clear hn hb HB1 ka0 ka1 kb0 kb1
  have ka0 := KA.out.cell 0
  have ka1 := KA.out.cell 1
  have kb0 := KB.out.cell 0
  have kb1 := KB.out.cell 1
  simp only [List.getElem?_toArray, List.getElem?_cons_zero, List.getElem?_cons_succ] at ka0 ka1 kb0 kb1
  go_wp2_with fail
  refine (HSB.out _ _ (by first | exact NB.out.to (below_one _ _) | exact NB.out.to (below_one _ _).drew) (by first | exact one16' _ _ (by first | rfl | simp) | exact (one16' _ _ (by first | rfl | simp)).to (Below.refl _ _).drew)).mono ?_
  rintro e w2 ⟨vy, rfl, hn, hb⟩
  have HB1 : Below (World.heap w1).size w1 w2 := by first | exact (below_one _ _).trans (hb.mono (below_one _ _).size) | exact (below_one _ _).drew.trans (hb.mono (below_one _ _).drew.size)
  have KA := Lib.hid (KA.out.to HB1)
  have KB := Lib.hid (KB.out.to HB1)
  have KC := Lib.hid (KC.out.to HB1)
  have NA := Lib.hid (NA.out.to HB1)
  have NB := Lib.hid (NB.out.to HB1)
  have HBE := Lib.hid (HBE.out.trans (HB1.mono HBE.out.size))
  have Nx := Lib.hid (Nx.out.to HB1)
  have Ny := Lib.hid hn
  clear hn hb HB1 ka0 ka1 kb0 kb1
  have ka0 := KA.out.cell 0
  have ka1 := KA.out.cell 1
  have kb0 := KB.out.cell 0
  have kb1 := KB.out.cell 1
  simp only [List.getElem?_toArray, List.getElem?_cons_zero, List.getElem?_cons_succ] at ka0 ka1 kb0 kb1
  obtain ⟨Ax, nx, cx, rfl, hz1⟩ := Nx.out.form
  obtain ⟨Ay, ny, cy, rfl, hz3⟩ := Ny.out.form
  obtain ⟨N, hN⟩ : ∃ N : Nat, N = max nx ny := ⟨_, rfl⟩
  have hNb : N ≤ 256 := by omega
  have hmx : max (nx : Int) (ny : Int) = (N : Int) := by omega
  have HXB : Hid (p - 1 < 2 ^ (16 * N)) := lt_digs16 (by omega)
  have HYB : Hid (q - 1 < 2 ^ (16 * N)) := lt_digs16 (by omega)
  clear hz1 hz3 hx hy hN
  obtain ⟨M, HMM⟩ : ∃ M, Hid (Nat.bitwise (bfun o true true) (p - 1) (q - 1) = M) := ⟨_, rfl⟩
  have HML : Hid (M < 2 ^ (16 * N)) := by rw [← HMM.out]; exact Nat.bitwise_lt_two_pow HXB.out HYB.out
  have HM2 : Hid (mm = M + if sg then 1 else 0) := by rw [← HMM.out, ← HSG.out]; exact HM.out
  have HBIT : Hid (∀ i : Nat, (bop o (decide ((p - 1) / 2 ^ i % 2 = 1) != true) (decide ((q - 1) / 2 ^ i % 2 = 1) != true) != sg) = M.testBit i) := fun i => by rw [← HMM.out, ← HSG.out]; exact bmag_bit2
  clear HM
  obtain ⟨i0, hi0, hz0, hz1, hz2⟩ := info_parts info_i64
  have HI := Lib.hid hi0
  have HZ0 := Lib.hid hz0
  have HZ1 := Lib.hid hz1
  have HZ2 := Lib.hid hz2
  clear hi0 hz0 hz1 hz2
  have HB1 : Hid (∀ (W : World), Calls Tryz.prog 51 #[.int .u8 (opc o), .bool true, .bool true] W fun e w' => e = .returned (.bool sg) ∧ W = w') := fun W => by rw [← HSG.out]; exact HBO.out _ _ W
  go_wp2_with fail
  refine (HB1.out _).mono ?_
  rintro e w5 ⟨rfl, rfl⟩
  clear ka0 ka1 kb0 kb1
  go_wp2_with (at_make; refine wpList_make_full _ rfl _ _ 41 rfl w2.heap.size 3 i0 (.int .i64 0) 1 Tryz.underlying41 HI.out HZ0.out HZ1.out .i64 .i64 _ _ N rfl rfl (by omega) (by omega) (by rw [HZ2.out]; omega) (by unfold maxLen; omega) (Nat.le_refl _) ?_; intro w6 hown1 hg1)
  have HO6 := Lib.hid (Own.made hown1)
  have HB6 := Lib.hid ((Below.refl w2.heap.size w2).grown hg1 (Nat.le_refl _) (by simp))
  have HX := Lib.hid Nx.out
  have HY := Lib.hid Ny.out
  clear hown1 hg1 Nx Ny NA NB
  go_loopg [12] (16 * N) (fun gk s12 wr => ∃ (j : Nat) (out : List Nat), gk + j = 16 * N ∧ s12 = .int .i64 (j : Int) ∧ Hid (Own .i64 3 wr w2.heap.size w2.heap.size N N out) ∧ Hid (Below w2.heap.size w2 wr) ∧ Hid (val W16 out = M % 2 ^ j) ∧ Hid (Ok W16 out))
  case atStart => exact ⟨0, List.replicate N 0, by omega, rfl, HO6.out, HB6.out, by unfold Hid; rw [val_replicate, Nat.pow_zero, Nat.mod_one], ok_replicate (by decide)⟩
  case round =>
    obtain ⟨j, out, hgj, rfl, HO, HB, HV, HOK⟩ := hrel
    by_cases hj : j < 16 * N
    · obtain ⟨k, s, hk, hs, hs16, HKS⟩ : ∃ k s : Nat, (j : Int) / 16 = (k : Int) ∧ (j : Int) % 16 = (s : Int) ∧ s < 16 ∧ Hid (j / 16 = k ∧ j % 16 = s) := ⟨j / 16, j % 16, by omega, by omega, by omega, rfl, rfl⟩
      have hkn : k < N := by have := HKS.out.1; omega
      have hjw : IntKind.i64.wrap (16 * (N : Int)) = 16 * (N : Int) := by rw [IntKind.wrap_i64]; omega
      obtain ⟨d, HDE⟩ : ∃ d, Hid (out.getD k 0 = d) := ⟨_, rfl⟩
      have hd : d < 2 ^ s := by rw [← HDE.out]; exact limb_lt (by rw [HV.out]; exact Nat.mod_lt _ (Nat.pow_pos (by omega))) HKS.out.1 HKS.out.2
      obtain ⟨pw, dp, hpw, hpw2, hpwb, HPW⟩ : ∃ pw dp : Nat, IntKind.i64.wrap ((2 : Int) ^ s) = (pw : Int) ∧ bits .or .i64 (d : Int) (pw : Int) = (dp : Int) ∧ dp < 65536 ∧ Hid (dp = d + 2 ^ s) := by
        have h3 : (2 : Nat) ^ s ≤ 2 ^ 15 := Nat.pow_le_pow_right (by omega) (by omega)
        refine ⟨2 ^ s, d + 2 ^ s, ?_, ?_, by omega, rfl⟩
        · rw [← pow32]
          generalize (2 : Nat) ^ s = gg at *
          rw [IntKind.wrap_i64]; omega
        · rw [or_i64 _ _ (by omega) (by omega), or_bit2 hd]
      have hcell : wr.cell? ⟨w2.heap.size, k, none⟩ = some (.int .i64 (d : Int)) := by rw [← HDE.out]; exact HO.out.cell hkn
      have hfr := HO.out.frozen k
      obtain ⟨tb, hbit, HTB⟩ : ∃ tb, (bop o (decide ((p - 1) / 2 ^ j % 2 = 1) != true) (decide ((q - 1) / 2 ^ j % 2 = 1) != true) != sg) = tb ∧ Hid (M.testBit j = tb) := ⟨_, HBIT.out j, rfl⟩
      have hb1 := Nat.mod_two_eq_zero_or_one ((p - 1) / 2 ^ j)
      have hb2 := Nat.mod_two_eq_zero_or_one ((q - 1) / 2 ^ j)
      have KA := KA.out.to HB.out
      have KB := KB.out.to HB.out
      have ka0 := KA.cell 0
      have kb0 := KB.cell 0
      simp only [List.getElem?_toArray, List.getElem?_cons_zero, List.getElem?_cons_succ] at ka0 kb0
      clear KA KB
      have HCX : Hid (Calls Tryz.prog 45 #[.slice Ax nx cx, .int .i64 (j : Int)] wr.drew fun e w' => e = .returned (.int .i64 ((((p - 1) / 2 ^ j % 2 : Nat)) : Int)) ∧ wr.drew = w') := rbit_any _ j _ wr.drew (HX.out.to HB.out.drew) (by omega)
      have HCY : Hid (Calls Tryz.prog 45 #[.slice Ay ny cy, .int .i64 (j : Int)] wr.drew fun e w' => e = .returned (.int .i64 ((((q - 1) / 2 ^ j % 2 : Nat)) : Int)) ∧ wr.drew = w') := rbit_any _ j _ wr.drew (HY.out.to HB.out.drew) (by omega)
      have hdpos : d < 65536 := by have := HPW.out; omega
      clear hd
      rcases hb1 with hb1 | hb1
      · rcases hb2 with hb2 | hb2
        ·
          rw [hb1] at HCX hbit
          rw [hb2] at HCY hbit
          obtain ⟨z, HZ⟩ : ∃ z, Hid (bop o true true = z) := ⟨_, rfl⟩
          have HB2 : Hid (∀ (W : World), Calls Tryz.prog 51 #[.int .u8 (opc o), .bool true, .bool true] W fun e w' => e = .returned (.bool z) ∧ W = w') := fun W => by rw [← HZ.out]; exact HBO.out _ _ W
          have hz : (!(z == sg)) = tb := by rw [← HZ.out]; exact hbit
          clear hbit hb1 hb2
          cases tb with
          | true =>
            go_wp2_with fail
            go_region_held3 (fun w' => w'.cell? ⟨w.heap.size, 0, none⟩ = some (.bool true) ∧ w'.cell? ⟨w.heap.size + 1, 0, none⟩ = some (.bool true))
              (go_keep)
              (first
                | (go_at_call 45; ((with_reducible refine HCX.out.mono ?_)); rintro e y1 ⟨rfl, rfl⟩)
                | (go_at_call 45; ((with_reducible refine HCY.out.mono ?_)); rintro e y2 ⟨rfl, rfl⟩)
                | (go_at_call 51; ((with_reducible refine (HB2.out _).mono ?_)); rintro e y3 ⟨rfl, rfl⟩))
            all_goals go_wp2_with fail
            all_goals go_region
            all_goals go_wp2_with fail
            all_goals go_roundg (gk - 1)
            all_goals (first | (show _ < _; omega) | skip)
            all_goals
              refine ⟨j + 1, out.set k dp, by omega, by go_num, (HO.out.stored k dp).drew, (HB.out.setCell (p := ⟨w2.heap.size, k, none⟩) (Nat.le_refl _) _).drew.drew, ?_, HOK.out.set hpwb⟩
              unfold Hid
              rw [mod_bit, HTB.out, HPW.out, ← HDE.out, set_bit2 (by rw [HO.out.1]; exact hkn) HKS.out.1 HKS.out.2, HV.out]
              rfl
          | false =>
            go_wp2_with fail
            go_region_held3 (fun w' => w'.cell? ⟨w.heap.size, 0, none⟩ = some (.bool true) ∧ w'.cell? ⟨w.heap.size + 1, 0, none⟩ = some (.bool true))
              (go_keep)
              (first
                | (go_at_call 45; ((with_reducible refine HCX.out.mono ?_)); rintro e y1 ⟨rfl, rfl⟩)
                | (go_at_call 45; ((with_reducible refine HCY.out.mono ?_)); rintro e y2 ⟨rfl, rfl⟩)
                | (go_at_call 51; ((with_reducible refine (HB2.out _).mono ?_)); rintro e y3 ⟨rfl, rfl⟩))
            all_goals go_wp2_with fail
            all_goals go_roundg (gk - 1)
            all_goals (first | (show _ < _; omega) | skip)
            all_goals
              refine ⟨j + 1, out, by omega, by go_num, HO.out.drew, HB.out.drew, ?_, HOK.out⟩
              unfold Hid
              rw [mod_bit, HTB.out, HV.out]
              rfl
        ·
          rw [hb1] at HCX hbit
          rw [hb2] at HCY hbit
          obtain ⟨z, HZ⟩ : ∃ z, Hid (bop o true false = z) := ⟨_, rfl⟩
          have HB2 : Hid (∀ (W : World), Calls Tryz.prog 51 #[.int .u8 (opc o), .bool true, .bool false] W fun e w' => e = .returned (.bool z) ∧ W = w') := fun W => by rw [← HZ.out]; exact HBO.out _ _ W
          have hz : (!(z == sg)) = tb := by rw [← HZ.out]; exact hbit
          clear hbit hb1 hb2
          cases tb with
          | true =>
            go_wp2_with fail
            go_region_held3 (fun w' => w'.cell? ⟨w.heap.size, 0, none⟩ = some (.bool true) ∧ w'.cell? ⟨w.heap.size + 1, 0, none⟩ = some (.bool true))
              (go_keep)
              (first
                | (go_at_call 45; ((with_reducible refine HCX.out.mono ?_)); rintro e y1 ⟨rfl, rfl⟩)
                | (go_at_call 45; ((with_reducible refine HCY.out.mono ?_)); rintro e y2 ⟨rfl, rfl⟩)
                | (go_at_call 51; ((with_reducible refine (HB2.out _).mono ?_)); rintro e y3 ⟨rfl, rfl⟩))
            all_goals go_wp2_with fail
            all_goals go_region
            all_goals go_wp2_with fail
            all_goals go_roundg (gk - 1)
            all_goals (first | (show _ < _; omega) | skip)
            all_goals
              refine ⟨j + 1, out.set k dp, by omega, by go_num, (HO.out.stored k dp).drew, (HB.out.setCell (p := ⟨w2.heap.size, k, none⟩) (Nat.le_refl _) _).drew.drew, ?_, HOK.out.set hpwb⟩
              unfold Hid
              rw [mod_bit, HTB.out, HPW.out, ← HDE.out, set_bit2 (by rw [HO.out.1]; exact hkn) HKS.out.1 HKS.out.2, HV.out]
              rfl
          | false =>
            go_wp2_with fail
            go_region_held3 (fun w' => w'.cell? ⟨w.heap.size, 0, none⟩ = some (.bool true) ∧ w'.cell? ⟨w.heap.size + 1, 0, none⟩ = some (.bool true))
              (go_keep)
              (first
                | (go_at_call 45; ((with_reducible refine HCX.out.mono ?_)); rintro e y1 ⟨rfl, rfl⟩)
                | (go_at_call 45; ((with_reducible refine HCY.out.mono ?_)); rintro e y2 ⟨rfl, rfl⟩)
                | (go_at_call 51; ((with_reducible refine (HB2.out _).mono ?_)); rintro e y3 ⟨rfl, rfl⟩))
            all_goals go_wp2_with fail
            all_goals go_roundg (gk - 1)
            all_goals (first | (show _ < _; omega) | skip)
            all_goals
              refine ⟨j + 1, out, by omega, by go_num, HO.out.drew, HB.out.drew, ?_, HOK.out⟩
              unfold Hid
              rw [mod_bit, HTB.out, HV.out]
              rfl
      · rcases hb2 with hb2 | hb2
        ·
          rw [hb1] at HCX hbit
          rw [hb2] at HCY hbit
          obtain ⟨z, HZ⟩ : ∃ z, Hid (bop o false true = z) := ⟨_, rfl⟩
          have HB2 : Hid (∀ (W : World), Calls Tryz.prog 51 #[.int .u8 (opc o), .bool false, .bool true] W fun e w' => e = .returned (.bool z) ∧ W = w') := fun W => by rw [← HZ.out]; exact HBO.out _ _ W
          have hz : (!(z == sg)) = tb := by rw [← HZ.out]; exact hbit
          clear hbit hb1 hb2
          cases tb with
          | true =>
            go_wp2_with fail
            go_region_held3 (fun w' => w'.cell? ⟨w.heap.size, 0, none⟩ = some (.bool true) ∧ w'.cell? ⟨w.heap.size + 1, 0, none⟩ = some (.bool true))
              (go_keep)
              (first
                | (go_at_call 45; ((with_reducible refine HCX.out.mono ?_)); rintro e y1 ⟨rfl, rfl⟩)
                | (go_at_call 45; ((with_reducible refine HCY.out.mono ?_)); rintro e y2 ⟨rfl, rfl⟩)
                | (go_at_call 51; ((with_reducible refine (HB2.out _).mono ?_)); rintro e y3 ⟨rfl, rfl⟩))
            all_goals go_wp2_with fail
            all_goals go_region
            all_goals go_wp2_with fail
            all_goals go_roundg (gk - 1)
            all_goals (first | (show _ < _; omega) | skip)
            all_goals
              refine ⟨j + 1, out.set k dp, by omega, by go_num, (HO.out.stored k dp).drew, (HB.out.setCell (p := ⟨w2.heap.size, k, none⟩) (Nat.le_refl _) _).drew.drew, ?_, HOK.out.set hpwb⟩
              unfold Hid
              rw [mod_bit, HTB.out, HPW.out, ← HDE.out, set_bit2 (by rw [HO.out.1]; exact hkn) HKS.out.1 HKS.out.2, HV.out]
              rfl
          | false =>
            go_wp2_with fail
            go_region_held3 (fun w' => w'.cell? ⟨w.heap.size, 0, none⟩ = some (.bool true) ∧ w'.cell? ⟨w.heap.size + 1, 0, none⟩ = some (.bool true))
              (go_keep)
              (first
                | (go_at_call 45; ((with_reducible refine HCX.out.mono ?_)); rintro e y1 ⟨rfl, rfl⟩)
                | (go_at_call 45; ((with_reducible refine HCY.out.mono ?_)); rintro e y2 ⟨rfl, rfl⟩)
                | (go_at_call 51; ((with_reducible refine (HB2.out _).mono ?_)); rintro e y3 ⟨rfl, rfl⟩))
            all_goals go_wp2_with fail
            all_goals go_roundg (gk - 1)
            all_goals (first | (show _ < _; omega) | skip)
            all_goals
              refine ⟨j + 1, out, by omega, by go_num, HO.out.drew, HB.out.drew, ?_, HOK.out⟩
              unfold Hid
              rw [mod_bit, HTB.out, HV.out]
              rfl
        ·
          rw [hb1] at HCX hbit
          rw [hb2] at HCY hbit
          obtain ⟨z, HZ⟩ : ∃ z, Hid (bop o false false = z) := ⟨_, rfl⟩
          have HB2 : Hid (∀ (W : World), Calls Tryz.prog 51 #[.int .u8 (opc o), .bool false, .bool false] W fun e w' => e = .returned (.bool z) ∧ W = w') := fun W => by rw [← HZ.out]; exact HBO.out _ _ W
          have hz : (!(z == sg)) = tb := by rw [← HZ.out]; exact hbit
          clear hbit hb1 hb2
          cases tb with
          | true =>
            go_wp2_with fail
            go_region_held3 (fun w' => w'.cell? ⟨w.heap.size, 0, none⟩ = some (.bool true) ∧ w'.cell? ⟨w.heap.size + 1, 0, none⟩ = some (.bool true))
              (go_keep)
              (first
                | (go_at_call 45; ((with_reducible refine HCX.out.mono ?_)); rintro e y1 ⟨rfl, rfl⟩)
                | (go_at_call 45; ((with_reducible refine HCY.out.mono ?_)); rintro e y2 ⟨rfl, rfl⟩)
                | (go_at_call 51; ((with_reducible refine (HB2.out _).mono ?_)); rintro e y3 ⟨rfl, rfl⟩))
            all_goals go_wp2_with fail
            all_goals go_region
            all_goals go_wp2_with fail
            all_goals go_roundg (gk - 1)
            all_goals (first | (show _ < _; omega) | skip)
            all_goals
              refine ⟨j + 1, out.set k dp, by omega, by go_num, (HO.out.stored k dp).drew, (HB.out.setCell (p := ⟨w2.heap.size, k, none⟩) (Nat.le_refl _) _).drew.drew, ?_, HOK.out.set hpwb⟩
              unfold Hid
              rw [mod_bit, HTB.out, HPW.out, ← HDE.out, set_bit2 (by rw [HO.out.1]; exact hkn) HKS.out.1 HKS.out.2, HV.out]
              rfl
          | false =>
            go_wp2_with fail
            go_region_held3 (fun w' => w'.cell? ⟨w.heap.size, 0, none⟩ = some (.bool true) ∧ w'.cell? ⟨w.heap.size + 1, 0, none⟩ = some (.bool true))
              (go_keep)
              (first
                | (go_at_call 45; ((with_reducible refine HCX.out.mono ?_)); rintro e y1 ⟨rfl, rfl⟩)
                | (go_at_call 45; ((with_reducible refine HCY.out.mono ?_)); rintro e y2 ⟨rfl, rfl⟩)
                | (go_at_call 51; ((with_reducible refine (HB2.out _).mono ?_)); rintro e y3 ⟨rfl, rfl⟩))
            all_goals go_wp2_with fail
            all_goals go_roundg (gk - 1)
            all_goals (first | (show _ < _; omega) | skip)
            all_goals
              refine ⟨j + 1, out, by omega, by go_num, HO.out.drew, HB.out.drew, ?_, HOK.out⟩
              unfold Hid
              rw [mod_bit, HTB.out, HV.out]
              rfl
    · obtain rfl : j = 16 * N := by omega
      have HVM : Hid (val W16 out = M) := by unfold Hid; rw [HV.out, Nat.mod_eq_of_lt HML.out]
      have KC := Lib.hid (KC.out.to HB.out)
      have HBE : Hid (Below w.heap.size w wr) := HBE.out.trans (HB.out.mono HBE.out.size)
      have hMd : (digs W16 M).length ≤ 1000 := Nat.le_trans (digs_len_le (k := N) W16_gt (by rw [show W16 = 2 ^ 16 from rfl, ← Nat.pow_mul]; exact HML.out)) (by omega)
      have HTR : Hid (∀ (W : World), Sl .i64 W (.slice (some ⟨w2.heap.size, 0, none⟩) N N) out → Calls Tryz.prog 52 #[.slice (some ⟨w2.heap.size, 0, none⟩) N N] W fun e w' => ∃ v', e = .returned v' ∧ Nat16 W v' M ∧ W = w') := fun W h => by
        have := rtrim_any out _ W h HOK.out
        rw [HVM.out] at this
        exact this
      have HSL : Hid (Sl .i64 wr (.slice (some ⟨w2.heap.size, 0, none⟩) N N) out) := by have h := HO.out.sl; exact h
      have hjw : IntKind.i64.wrap (16 * (N : Int)) = 16 * (N : Int) := by rw [IntKind.wrap_i64]; omega
      have HMD := Lib.hid hMd
      clear hMd hj hgj HX HY
      cases sg with
      | false =>
        have HWM : Hid (∀ (W : World) (v : Value), Nat16 W v M → Calls Tryz.prog 23 #[.bool false, v] W (RVPost W sx mm 1)) := fun W v h => by
          rw [← HSX.out]
          have e : mm = M := HM2.out
          rw [e]
          exact HWK.out false M W v h
        go_wp2_with fail
        refine (HTR.out _ HSL.out).mono ?_
        rintro e w7 ⟨v7, rfl, hn7, rfl⟩
        go_wp2_with fail
        refine (HWM.out _ _ hn7).mono ?_
        rintro e w9 ⟨v9, rfl, hr3, hb3⟩
        have KB3 := Lib.hid (KC.out.to hb3)
        have HBE3 : Hid (Below w.heap.size w w9) := HBE.out.trans (hb3.mono HBE.out.size)
        have R3 := Lib.hid hr3
        obtain ⟨C1, q1, r1, C2, q2, r2, rfl, hz1, hz2⟩ := hr3.form
        clear hb3 hr3 hz1 hz2
        have cc0 := KB3.out.cell 0
        have cc1 := KB3.out.cell 1
        have cc2 := KB3.out.cell 2
        simp only [List.getElem?_toArray, List.getElem?_cons_zero, List.getElem?_cons_succ] at cc0 cc1 cc2
        have fc0 := KB3.out.frozen 0
        have fc1 := KB3.out.frozen 1
        have fc2 := KB3.out.frozen 2
        go_wp2_with fail
        refine bodyPost_ret (v := .agg #[.bool sx, .slice C1 q1 r1, .slice C2 q2 r2]) (by rw [results_cellA rfl]; go_simp) rfl ?_
        exact ⟨_, rfl, R3.out.put3 KB3.out _ _ _, put3_below HBE3.out (by omega) _ _ _⟩
      | true =>
        have HWM : Hid (∀ (W : World) (v : Value), Nat16 W v (M + 1) → Calls Tryz.prog 23 #[.bool true, v] W (RVPost W sx mm 1)) := fun W v h => by
          rw [← HSX.out]
          have e : mm = M + 1 := HM2.out
          rw [e]
          exact HWK.out true (M + 1) W v h
        go_wp2_with fail
        refine (HTR.out _ HSL.out).mono ?_
        rintro e w7 ⟨v7, rfl, hn7, rfl⟩
        go_wp2_with fail
        refine (HAD.out M _ _ _ HMD.out (by exact hn7.to (below_one _ _)) (by exact one16' _ _ rfl)).mono ?_
        rintro e w8 ⟨v8, rfl, hn8, hb8⟩
        have HB8 := (below_one _ _).trans (hb8.mono (below_one _ _).size)
        have KC := Lib.hid (KC.out.to HB8)
        have HBE : Hid (Below w.heap.size w w8) := HBE.out.trans (HB8.mono HBE.out.size)
        clear hb8 HB8
        go_wp2_with fail
        refine (HWM.out _ _ hn8).mono ?_
        rintro e w9 ⟨v9, rfl, hr3, hb3⟩
        have KB3 := Lib.hid (KC.out.to hb3)
        have HBE3 : Hid (Below w.heap.size w w9) := HBE.out.trans (hb3.mono HBE.out.size)
        have R3 := Lib.hid hr3
        obtain ⟨C1, q1, r1, C2, q2, r2, rfl, hz1, hz2⟩ := hr3.form
        clear hb3 hr3 hz1 hz2
        have cc0 := KB3.out.cell 0
        have cc1 := KB3.out.cell 1
        have cc2 := KB3.out.cell 2
        simp only [List.getElem?_toArray, List.getElem?_cons_zero, List.getElem?_cons_succ] at cc0 cc1 cc2
        have fc0 := KB3.out.frozen 0
        have fc1 := KB3.out.frozen 1
        have fc2 := KB3.out.frozen 2
        go_wp2_with fail
        refine bodyPost_ret (v := .agg #[.bool sx, .slice C1 q1 r1, .slice C2 q2 r2]) (by rw [results_cellA rfl]; go_simp) rfl ?_
        exact ⟨_, rfl, R3.out.put3 KB3.out _ _ _, put3_below HBE3.out (by omega) _ _ _⟩

set_option maxRecDepth 100000 in
set_option maxHeartbeats 12800000 in
theorem rbits_tf (o : Nat) (ho : o < 3) (p q : Nat) (va vb : Value) (w : World) (ha : RV w va true p 1) (hb : RV w vb false q 1) (hp : (digs W16 p).length ≤ 256) (hq : (digs W16 q).length ≤ 256) (hna : 0 < p) :
    Calls Tryz.prog 27 #[.int .u8 (opc o), va, vb] w (RVPost w (bop o true false && decide (0 < rbM o true false p q)) (rbM o true false p q) 1) := by
  have RA := Lib.hid ha
  have RB := Lib.hid hb
  obtain ⟨A1, n1, c1, A2, n2, c2, rfl, hz1, hz2⟩ := ha.form
  obtain ⟨B1, m1, d1, B2, m2, d2, rfl, hz3, hz4⟩ := hb.form
  have HBO : Hid (∀ (x y : Bool) (W : World), Calls Tryz.prog 51 #[.int .u8 (opc o), .bool x, .bool y] W fun e w' => e = .returned (.bool (bop o x y)) ∧ W = w') := fun x y W => both_any o ho x y W
  have HSA : Hid (∀ (W : World) (v : Value), Nat16 W (.slice A1 n1 c1) p → Nat16 W v 1 → Calls Tryz.prog 44 #[.slice A1 n1 c1, v] W (RPost W (p - 1))) := fun W v h1 h2 => rsub_any p 1 _ v W h1 h2 (by omega) hna
  have HAD : Hid (∀ (n : Nat) (W : World) (u v : Value), (digs W16 n).length ≤ 1000 → Nat16 W u n → Nat16 W v 1 → Calls Tryz.prog 43 #[u, v] W (RPost W (n + 1))) := fun n W u v hn h1 h2 => radd_any n 1 u v W h1 h2 (by omega) (by rw [digs_one16]; decide)
  have HWK : Hid (∀ (s : Bool) (n : Nat) (W : World) (v : Value), Nat16 W v n → Calls Tryz.prog 23 #[.bool s, v] W (RVPost W (s && decide (0 < n)) n 1)) := fun s n W v h => rwhole_any s n v W h
  have HBK := Lib.hid (blk2 w 43 43 #[.bool true, .slice A1 n1 c1, .slice A2 n2 c2] #[.bool false, .slice B1 m1 d1, .slice B2 m2 d2])
  have KA := Lib.hid (HBK.out.1.alloc (.cells #[.bool false, .slice none 0 0, .slice none 0 0] 43))
  have KB := Lib.hid (HBK.out.2.alloc (.cells #[.bool false, .slice none 0 0, .slice none 0 0] 43))
  have KC := Lib.hid ((blk_3 w 43 43 43 #[.bool true, .slice A1 n1 c1, .slice A2 n2 c2] #[.bool false, .slice B1 m1 d1, .slice B2 m2 d2] #[.bool false, .slice none 0 0, .slice none 0 0]).2.2)
  have HBE := Lib.hid (below_3 w (.cells #[.bool true, .slice A1 n1 c1, .slice A2 n2 c2] 43) (.cells #[.bool false, .slice B1 m1 d1, .slice B2 m2 d2] 43) (.cells #[.bool false, .slice none 0 0, .slice none 0 0] 43))
  have RA := Lib.hid (RA.out.to HBE.out)
  have RB := Lib.hid (RB.out.to HBE.out)
  have hx : (digs W16 (p - 1)).length ≤ 256 := digs_pred hp
  have hy : (digs W16 (q)).length ≤ 256 := hq
  have HM : Hid (rbM o true false p q = Nat.bitwise (bfun o true false) (p - 1) (q) + if bop o true false then 1 else 0) := rfl
  generalize rbM o true false p q = mm at *
  have HN1 := Lib.hid hz1
  have HN3 := Lib.hid hz3
  clear HBK ha hb hp hq hz2 hz4 hz1 hz3 hna
  obtain ⟨sg, HSG⟩ : ∃ sg, Hid (bop o true false = sg) := ⟨_, rfl⟩
  rw [HSG.out]
  obtain ⟨sx, HSX⟩ : ∃ sx, Hid ((sg && decide (0 < mm)) = sx) := ⟨_, rfl⟩
  rw [HSX.out]
  go_enter Tryz.func27, Tryz.ntmps27
  have ka0 := KA.out.cell 0
  have ka1 := KA.out.cell 1
  have kb0 := KB.out.cell 0
  have kb1 := KB.out.cell 1
  simp only [List.getElem?_toArray, List.getElem?_cons_zero, List.getElem?_cons_succ] at ka0 ka1 kb0 kb1
  go_wp2_with fail
  go_region
  have NA := Lib.hid RA.out.parts.2.1
  have NB := Lib.hid RB.out.parts.2.1
  clear RA RB
  go_wp2_with fail
  refine (HSA.out _ _ (by first | exact NA.out.to (below_one _ _) | exact NA.out.to (below_one _ _).drew) (by first | exact one16' _ _ (by first | rfl | simp) | exact (one16' _ _ (by first | rfl | simp)).to (Below.refl _ _).drew)).mono ?_
  rintro e w1 ⟨vx, rfl, hn, hb⟩
  have HB1 : Below (World.heap (((w.alloc (.cells #[.bool true, .slice A1 n1 c1, .slice A2 n2 c2] 43)).alloc (.cells #[.bool false, .slice B1 m1 d1, .slice B2 m2 d2] 43)).alloc (.cells #[.bool false, .slice none 0 0, .slice none 0 0] 43))).size (((w.alloc (.cells #[.bool true, .slice A1 n1 c1, .slice A2 n2 c2] 43)).alloc (.cells #[.bool false, .slice B1 m1 d1, .slice B2 m2 d2] 43)).alloc (.cells #[.bool false, .slice none 0 0, .slice none 0 0] 43)) w1 := by first | exact (below_one _ _).trans (hb.mono (below_one _ _).size) | exact (below_one _ _).drew.trans (hb.mono (below_one _ _).drew.size)
  have KA := Lib.hid (KA.out.to HB1)
  have KB := Lib.hid (KB.out.to HB1)
  have KC := Lib.hid (KC.out.to HB1)
  have NA := Lib.hid (NA.out.to HB1)
  have NB := Lib.hid (NB.out.to HB1)
  have HBE := Lib.hid (HBE.out.trans (HB1.mono HBE.out.size))
  have Nx := Lib.hid hn
  clear hn hb HB1 ka0 ka1 kb0 kb1
  have ka0 := KA.out.cell 0
  have ka1 := KA.out.cell 1
  have kb0 := KB.out.cell 0
  have kb1 := KB.out.cell 1
  simp only [List.getElem?_toArray, List.getElem?_cons_zero, List.getElem?_cons_succ] at ka0 ka1 kb0 kb1
  have Ny := NB
  obtain ⟨Ax, nx, cx, rfl, hz1⟩ := Nx.out.form
  have hz3 := HN3.out
  obtain ⟨N, hN⟩ : ∃ N : Nat, N = max nx m1 := ⟨_, rfl⟩
  have hNb : N ≤ 256 := by omega
  have hmx : max (nx : Int) (m1 : Int) = (N : Int) := by omega
  have HXB : Hid (p - 1 < 2 ^ (16 * N)) := lt_digs16 (by omega)
  have HYB : Hid (q < 2 ^ (16 * N)) := lt_digs16 (by omega)
  clear hz1 hz3 hx hy hN
  obtain ⟨M, HMM⟩ : ∃ M, Hid (Nat.bitwise (bfun o true false) (p - 1) (q) = M) := ⟨_, rfl⟩
  have HML : Hid (M < 2 ^ (16 * N)) := by rw [← HMM.out]; exact Nat.bitwise_lt_two_pow HXB.out HYB.out
  have HM2 : Hid (mm = M + if sg then 1 else 0) := by rw [← HMM.out, ← HSG.out]; exact HM.out
  have HBIT : Hid (∀ i : Nat, (bop o (decide ((p - 1) / 2 ^ i % 2 = 1) != true) (decide ((q) / 2 ^ i % 2 = 1) != false) != sg) = M.testBit i) := fun i => by rw [← HMM.out, ← HSG.out]; exact bmag_bit2
  clear HM
  obtain ⟨i0, hi0, hz0, hz1, hz2⟩ := info_parts info_i64
  have HI := Lib.hid hi0
  have HZ0 := Lib.hid hz0
  have HZ1 := Lib.hid hz1
  have HZ2 := Lib.hid hz2
  clear hi0 hz0 hz1 hz2
  have HB1 : Hid (∀ (W : World), Calls Tryz.prog 51 #[.int .u8 (opc o), .bool true, .bool false] W fun e w' => e = .returned (.bool sg) ∧ W = w') := fun W => by rw [← HSG.out]; exact HBO.out _ _ W
  go_wp2_with fail
  refine (HB1.out _).mono ?_
  rintro e w5 ⟨rfl, rfl⟩
  clear ka0 ka1 kb0 kb1
  go_wp2_with (at_make; refine wpList_make_full _ rfl _ _ 41 rfl w1.heap.size 3 i0 (.int .i64 0) 1 Tryz.underlying41 HI.out HZ0.out HZ1.out .i64 .i64 _ _ N rfl rfl (by omega) (by omega) (by rw [HZ2.out]; omega) (by unfold maxLen; omega) (Nat.le_refl _) ?_; intro w6 hown1 hg1)
  have HO6 := Lib.hid (Own.made hown1)
  have HB6 := Lib.hid ((Below.refl w1.heap.size w1).grown hg1 (Nat.le_refl _) (by simp))
  have HX := Lib.hid Nx.out
  have HY := Lib.hid Ny.out
  clear hown1 hg1 Nx Ny NA NB
  go_loopg [12] (16 * N) (fun gk s12 wr => ∃ (j : Nat) (out : List Nat), gk + j = 16 * N ∧ s12 = .int .i64 (j : Int) ∧ Hid (Own .i64 3 wr w1.heap.size w1.heap.size N N out) ∧ Hid (Below w1.heap.size w1 wr) ∧ Hid (val W16 out = M % 2 ^ j) ∧ Hid (Ok W16 out))
  case atStart => exact ⟨0, List.replicate N 0, by omega, rfl, HO6.out, HB6.out, by unfold Hid; rw [val_replicate, Nat.pow_zero, Nat.mod_one], ok_replicate (by decide)⟩
  case round =>
    obtain ⟨j, out, hgj, rfl, HO, HB, HV, HOK⟩ := hrel
    by_cases hj : j < 16 * N
    · obtain ⟨k, s, hk, hs, hs16, HKS⟩ : ∃ k s : Nat, (j : Int) / 16 = (k : Int) ∧ (j : Int) % 16 = (s : Int) ∧ s < 16 ∧ Hid (j / 16 = k ∧ j % 16 = s) := ⟨j / 16, j % 16, by omega, by omega, by omega, rfl, rfl⟩
      have hkn : k < N := by have := HKS.out.1; omega
      have hjw : IntKind.i64.wrap (16 * (N : Int)) = 16 * (N : Int) := by rw [IntKind.wrap_i64]; omega
      obtain ⟨d, HDE⟩ : ∃ d, Hid (out.getD k 0 = d) := ⟨_, rfl⟩
      have hd : d < 2 ^ s := by rw [← HDE.out]; exact limb_lt (by rw [HV.out]; exact Nat.mod_lt _ (Nat.pow_pos (by omega))) HKS.out.1 HKS.out.2
      obtain ⟨pw, dp, hpw, hpw2, hpwb, HPW⟩ : ∃ pw dp : Nat, IntKind.i64.wrap ((2 : Int) ^ s) = (pw : Int) ∧ bits .or .i64 (d : Int) (pw : Int) = (dp : Int) ∧ dp < 65536 ∧ Hid (dp = d + 2 ^ s) := by
        have h3 : (2 : Nat) ^ s ≤ 2 ^ 15 := Nat.pow_le_pow_right (by omega) (by omega)
        refine ⟨2 ^ s, d + 2 ^ s, ?_, ?_, by omega, rfl⟩
        · rw [← pow32]
          generalize (2 : Nat) ^ s = gg at *
          rw [IntKind.wrap_i64]; omega
        · rw [or_i64 _ _ (by omega) (by omega), or_bit2 hd]
      have hcell : wr.cell? ⟨w1.heap.size, k, none⟩ = some (.int .i64 (d : Int)) := by rw [← HDE.out]; exact HO.out.cell hkn
      have hfr := HO.out.frozen k
      obtain ⟨tb, hbit, HTB⟩ : ∃ tb, (bop o (decide ((p - 1) / 2 ^ j % 2 = 1) != true) (decide ((q) / 2 ^ j % 2 = 1) != false) != sg) = tb ∧ Hid (M.testBit j = tb) := ⟨_, HBIT.out j, rfl⟩
      have hb1 := Nat.mod_two_eq_zero_or_one ((p - 1) / 2 ^ j)
      have hb2 := Nat.mod_two_eq_zero_or_one ((q) / 2 ^ j)
      have KA := KA.out.to HB.out
      have KB := KB.out.to HB.out
      have ka0 := KA.cell 0
      have kb0 := KB.cell 0
      simp only [List.getElem?_toArray, List.getElem?_cons_zero, List.getElem?_cons_succ] at ka0 kb0
      clear KA KB
      have HCX : Hid (Calls Tryz.prog 45 #[.slice Ax nx cx, .int .i64 (j : Int)] wr.drew fun e w' => e = .returned (.int .i64 ((((p - 1) / 2 ^ j % 2 : Nat)) : Int)) ∧ wr.drew = w') := rbit_any _ j _ wr.drew (HX.out.to HB.out.drew) (by omega)
      have HCY : Hid (Calls Tryz.prog 45 #[.slice B1 m1 d1, .int .i64 (j : Int)] wr.drew fun e w' => e = .returned (.int .i64 ((((q) / 2 ^ j % 2 : Nat)) : Int)) ∧ wr.drew = w') := rbit_any _ j _ wr.drew (HY.out.to HB.out.drew) (by omega)
      have hdpos : d < 65536 := by have := HPW.out; omega
      clear hd
      rcases hb1 with hb1 | hb1
      · rcases hb2 with hb2 | hb2
        ·
          rw [hb1] at HCX hbit
          rw [hb2] at HCY hbit
          obtain ⟨z, HZ⟩ : ∃ z, Hid (bop o true false = z) := ⟨_, rfl⟩
          have HB2 : Hid (∀ (W : World), Calls Tryz.prog 51 #[.int .u8 (opc o), .bool true, .bool false] W fun e w' => e = .returned (.bool z) ∧ W = w') := fun W => by rw [← HZ.out]; exact HBO.out _ _ W
          have hz : (!(z == sg)) = tb := by rw [← HZ.out]; exact hbit
          clear hbit hb1 hb2
          cases tb with
          | true =>
            go_wp2_with fail
            go_region_held3 (fun w' => w'.cell? ⟨w.heap.size, 0, none⟩ = some (.bool true) ∧ w'.cell? ⟨w.heap.size + 1, 0, none⟩ = some (.bool false))
              (go_keep)
              (first
                | (go_at_call 45; ((with_reducible refine HCX.out.mono ?_)); rintro e y1 ⟨rfl, rfl⟩)
                | (go_at_call 45; ((with_reducible refine HCY.out.mono ?_)); rintro e y2 ⟨rfl, rfl⟩)
                | (go_at_call 51; ((with_reducible refine (HB2.out _).mono ?_)); rintro e y3 ⟨rfl, rfl⟩))
            all_goals go_wp2_with fail
            all_goals go_region
            all_goals go_wp2_with fail
            all_goals go_roundg (gk - 1)
            all_goals (first | (show _ < _; omega) | skip)
            all_goals
              refine ⟨j + 1, out.set k dp, by omega, by go_num, (HO.out.stored k dp).drew, (HB.out.setCell (p := ⟨w1.heap.size, k, none⟩) (Nat.le_refl _) _).drew.drew, ?_, HOK.out.set hpwb⟩
              unfold Hid
              rw [mod_bit, HTB.out, HPW.out, ← HDE.out, set_bit2 (by rw [HO.out.1]; exact hkn) HKS.out.1 HKS.out.2, HV.out]
              rfl
          | false =>
            go_wp2_with fail
            go_region_held3 (fun w' => w'.cell? ⟨w.heap.size, 0, none⟩ = some (.bool true) ∧ w'.cell? ⟨w.heap.size + 1, 0, none⟩ = some (.bool false))
              (go_keep)
              (first
                | (go_at_call 45; ((with_reducible refine HCX.out.mono ?_)); rintro e y1 ⟨rfl, rfl⟩)
                | (go_at_call 45; ((with_reducible refine HCY.out.mono ?_)); rintro e y2 ⟨rfl, rfl⟩)
                | (go_at_call 51; ((with_reducible refine (HB2.out _).mono ?_)); rintro e y3 ⟨rfl, rfl⟩))
            all_goals go_wp2_with fail
            all_goals go_roundg (gk - 1)
            all_goals (first | (show _ < _; omega) | skip)
            all_goals
              refine ⟨j + 1, out, by omega, by go_num, HO.out.drew, HB.out.drew, ?_, HOK.out⟩
              unfold Hid
              rw [mod_bit, HTB.out, HV.out]
              rfl
        ·
          rw [hb1] at HCX hbit
          rw [hb2] at HCY hbit
          obtain ⟨z, HZ⟩ : ∃ z, Hid (bop o true true = z) := ⟨_, rfl⟩
          have HB2 : Hid (∀ (W : World), Calls Tryz.prog 51 #[.int .u8 (opc o), .bool true, .bool true] W fun e w' => e = .returned (.bool z) ∧ W = w') := fun W => by rw [← HZ.out]; exact HBO.out _ _ W
          have hz : (!(z == sg)) = tb := by rw [← HZ.out]; exact hbit
          clear hbit hb1 hb2
          cases tb with
          | true =>
            go_wp2_with fail
            go_region_held3 (fun w' => w'.cell? ⟨w.heap.size, 0, none⟩ = some (.bool true) ∧ w'.cell? ⟨w.heap.size + 1, 0, none⟩ = some (.bool false))
              (go_keep)
              (first
                | (go_at_call 45; ((with_reducible refine HCX.out.mono ?_)); rintro e y1 ⟨rfl, rfl⟩)
                | (go_at_call 45; ((with_reducible refine HCY.out.mono ?_)); rintro e y2 ⟨rfl, rfl⟩)
                | (go_at_call 51; ((with_reducible refine (HB2.out _).mono ?_)); rintro e y3 ⟨rfl, rfl⟩))
            all_goals go_wp2_with fail
            all_goals go_region
            all_goals go_wp2_with fail
            all_goals go_roundg (gk - 1)
            all_goals (first | (show _ < _; omega) | skip)
            all_goals
              refine ⟨j + 1, out.set k dp, by omega, by go_num, (HO.out.stored k dp).drew, (HB.out.setCell (p := ⟨w1.heap.size, k, none⟩) (Nat.le_refl _) _).drew.drew, ?_, HOK.out.set hpwb⟩
              unfold Hid
              rw [mod_bit, HTB.out, HPW.out, ← HDE.out, set_bit2 (by rw [HO.out.1]; exact hkn) HKS.out.1 HKS.out.2, HV.out]
              rfl
          | false =>
            go_wp2_with fail
            go_region_held3 (fun w' => w'.cell? ⟨w.heap.size, 0, none⟩ = some (.bool true) ∧ w'.cell? ⟨w.heap.size + 1, 0, none⟩ = some (.bool false))
              (go_keep)
              (first
                | (go_at_call 45; ((with_reducible refine HCX.out.mono ?_)); rintro e y1 ⟨rfl, rfl⟩)
                | (go_at_call 45; ((with_reducible refine HCY.out.mono ?_)); rintro e y2 ⟨rfl, rfl⟩)
                | (go_at_call 51; ((with_reducible refine (HB2.out _).mono ?_)); rintro e y3 ⟨rfl, rfl⟩))
            all_goals go_wp2_with fail
            all_goals go_roundg (gk - 1)
            all_goals (first | (show _ < _; omega) | skip)
            all_goals
              refine ⟨j + 1, out, by omega, by go_num, HO.out.drew, HB.out.drew, ?_, HOK.out⟩
              unfold Hid
              rw [mod_bit, HTB.out, HV.out]
              rfl
      · rcases hb2 with hb2 | hb2
        ·
          rw [hb1] at HCX hbit
          rw [hb2] at HCY hbit
          obtain ⟨z, HZ⟩ : ∃ z, Hid (bop o false false = z) := ⟨_, rfl⟩
          have HB2 : Hid (∀ (W : World), Calls Tryz.prog 51 #[.int .u8 (opc o), .bool false, .bool false] W fun e w' => e = .returned (.bool z) ∧ W = w') := fun W => by rw [← HZ.out]; exact HBO.out _ _ W
          have hz : (!(z == sg)) = tb := by rw [← HZ.out]; exact hbit
          clear hbit hb1 hb2
          cases tb with
          | true =>
            go_wp2_with fail
            go_region_held3 (fun w' => w'.cell? ⟨w.heap.size, 0, none⟩ = some (.bool true) ∧ w'.cell? ⟨w.heap.size + 1, 0, none⟩ = some (.bool false))
              (go_keep)
              (first
                | (go_at_call 45; ((with_reducible refine HCX.out.mono ?_)); rintro e y1 ⟨rfl, rfl⟩)
                | (go_at_call 45; ((with_reducible refine HCY.out.mono ?_)); rintro e y2 ⟨rfl, rfl⟩)
                | (go_at_call 51; ((with_reducible refine (HB2.out _).mono ?_)); rintro e y3 ⟨rfl, rfl⟩))
            all_goals go_wp2_with fail
            all_goals go_region
            all_goals go_wp2_with fail
            all_goals go_roundg (gk - 1)
            all_goals (first | (show _ < _; omega) | skip)
            all_goals
              refine ⟨j + 1, out.set k dp, by omega, by go_num, (HO.out.stored k dp).drew, (HB.out.setCell (p := ⟨w1.heap.size, k, none⟩) (Nat.le_refl _) _).drew.drew, ?_, HOK.out.set hpwb⟩
              unfold Hid
              rw [mod_bit, HTB.out, HPW.out, ← HDE.out, set_bit2 (by rw [HO.out.1]; exact hkn) HKS.out.1 HKS.out.2, HV.out]
              rfl
          | false =>
            go_wp2_with fail
            go_region_held3 (fun w' => w'.cell? ⟨w.heap.size, 0, none⟩ = some (.bool true) ∧ w'.cell? ⟨w.heap.size + 1, 0, none⟩ = some (.bool false))
              (go_keep)
              (first
                | (go_at_call 45; ((with_reducible refine HCX.out.mono ?_)); rintro e y1 ⟨rfl, rfl⟩)
                | (go_at_call 45; ((with_reducible refine HCY.out.mono ?_)); rintro e y2 ⟨rfl, rfl⟩)
                | (go_at_call 51; ((with_reducible refine (HB2.out _).mono ?_)); rintro e y3 ⟨rfl, rfl⟩))
            all_goals go_wp2_with fail
            all_goals go_roundg (gk - 1)
            all_goals (first | (show _ < _; omega) | skip)
            all_goals
              refine ⟨j + 1, out, by omega, by go_num, HO.out.drew, HB.out.drew, ?_, HOK.out⟩
              unfold Hid
              rw [mod_bit, HTB.out, HV.out]
              rfl
        ·
          rw [hb1] at HCX hbit
          rw [hb2] at HCY hbit
          obtain ⟨z, HZ⟩ : ∃ z, Hid (bop o false true = z) := ⟨_, rfl⟩
          have HB2 : Hid (∀ (W : World), Calls Tryz.prog 51 #[.int .u8 (opc o), .bool false, .bool true] W fun e w' => e = .returned (.bool z) ∧ W = w') := fun W => by rw [← HZ.out]; exact HBO.out _ _ W
          have hz : (!(z == sg)) = tb := by rw [← HZ.out]; exact hbit
          clear hbit hb1 hb2
          cases tb with
          | true =>
            go_wp2_with fail
            go_region_held3 (fun w' => w'.cell? ⟨w.heap.size, 0, none⟩ = some (.bool true) ∧ w'.cell? ⟨w.heap.size + 1, 0, none⟩ = some (.bool false))
              (go_keep)
              (first
                | (go_at_call 45; ((with_reducible refine HCX.out.mono ?_)); rintro e y1 ⟨rfl, rfl⟩)
                | (go_at_call 45; ((with_reducible refine HCY.out.mono ?_)); rintro e y2 ⟨rfl, rfl⟩)
                | (go_at_call 51; ((with_reducible refine (HB2.out _).mono ?_)); rintro e y3 ⟨rfl, rfl⟩))
            all_goals go_wp2_with fail
            all_goals go_region
            all_goals go_wp2_with fail
            all_goals go_roundg (gk - 1)
            all_goals (first | (show _ < _; omega) | skip)
            all_goals
              refine ⟨j + 1, out.set k dp, by omega, by go_num, (HO.out.stored k dp).drew, (HB.out.setCell (p := ⟨w1.heap.size, k, none⟩) (Nat.le_refl _) _).drew.drew, ?_, HOK.out.set hpwb⟩
              unfold Hid
              rw [mod_bit, HTB.out, HPW.out, ← HDE.out, set_bit2 (by rw [HO.out.1]; exact hkn) HKS.out.1 HKS.out.2, HV.out]
              rfl
          | false =>
            go_wp2_with fail
            go_region_held3 (fun w' => w'.cell? ⟨w.heap.size, 0, none⟩ = some (.bool true) ∧ w'.cell? ⟨w.heap.size + 1, 0, none⟩ = some (.bool false))
              (go_keep)
              (first
                | (go_at_call 45; ((with_reducible refine HCX.out.mono ?_)); rintro e y1 ⟨rfl, rfl⟩)
                | (go_at_call 45; ((with_reducible refine HCY.out.mono ?_)); rintro e y2 ⟨rfl, rfl⟩)
                | (go_at_call 51; ((with_reducible refine (HB2.out _).mono ?_)); rintro e y3 ⟨rfl, rfl⟩))
            all_goals go_wp2_with fail
            all_goals go_roundg (gk - 1)
            all_goals (first | (show _ < _; omega) | skip)
            all_goals
              refine ⟨j + 1, out, by omega, by go_num, HO.out.drew, HB.out.drew, ?_, HOK.out⟩
              unfold Hid
              rw [mod_bit, HTB.out, HV.out]
              rfl
    · obtain rfl : j = 16 * N := by omega
      have HVM : Hid (val W16 out = M) := by unfold Hid; rw [HV.out, Nat.mod_eq_of_lt HML.out]
      have KC := Lib.hid (KC.out.to HB.out)
      have HBE : Hid (Below w.heap.size w wr) := HBE.out.trans (HB.out.mono HBE.out.size)
      have hMd : (digs W16 M).length ≤ 1000 := Nat.le_trans (digs_len_le (k := N) W16_gt (by rw [show W16 = 2 ^ 16 from rfl, ← Nat.pow_mul]; exact HML.out)) (by omega)
      have HTR : Hid (∀ (W : World), Sl .i64 W (.slice (some ⟨w1.heap.size, 0, none⟩) N N) out → Calls Tryz.prog 52 #[.slice (some ⟨w1.heap.size, 0, none⟩) N N] W fun e w' => ∃ v', e = .returned v' ∧ Nat16 W v' M ∧ W = w') := fun W h => by
        have := rtrim_any out _ W h HOK.out
        rw [HVM.out] at this
        exact this
      have HSL : Hid (Sl .i64 wr (.slice (some ⟨w1.heap.size, 0, none⟩) N N) out) := by have h := HO.out.sl; exact h
      have hjw : IntKind.i64.wrap (16 * (N : Int)) = 16 * (N : Int) := by rw [IntKind.wrap_i64]; omega
      have HMD := Lib.hid hMd
      clear hMd hj hgj HX HY
      cases sg with
      | false =>
        have HWM : Hid (∀ (W : World) (v : Value), Nat16 W v M → Calls Tryz.prog 23 #[.bool false, v] W (RVPost W sx mm 1)) := fun W v h => by
          rw [← HSX.out]
          have e : mm = M := HM2.out
          rw [e]
          exact HWK.out false M W v h
        go_wp2_with fail
        refine (HTR.out _ HSL.out).mono ?_
        rintro e w7 ⟨v7, rfl, hn7, rfl⟩
        go_wp2_with fail
        refine (HWM.out _ _ hn7).mono ?_
        rintro e w9 ⟨v9, rfl, hr3, hb3⟩
        have KB3 := Lib.hid (KC.out.to hb3)
        have HBE3 : Hid (Below w.heap.size w w9) := HBE.out.trans (hb3.mono HBE.out.size)
        have R3 := Lib.hid hr3
        obtain ⟨C1, q1, r1, C2, q2, r2, rfl, hz1, hz2⟩ := hr3.form
        clear hb3 hr3 hz1 hz2
        have cc0 := KB3.out.cell 0
        have cc1 := KB3.out.cell 1
        have cc2 := KB3.out.cell 2
        simp only [List.getElem?_toArray, List.getElem?_cons_zero, List.getElem?_cons_succ] at cc0 cc1 cc2
        have fc0 := KB3.out.frozen 0
        have fc1 := KB3.out.frozen 1
        have fc2 := KB3.out.frozen 2
        go_wp2_with fail
        refine bodyPost_ret (v := .agg #[.bool sx, .slice C1 q1 r1, .slice C2 q2 r2]) (by rw [results_cellA rfl]; go_simp) rfl ?_
        exact ⟨_, rfl, R3.out.put3 KB3.out _ _ _, put3_below HBE3.out (by omega) _ _ _⟩
      | true =>
        have HWM : Hid (∀ (W : World) (v : Value), Nat16 W v (M + 1) → Calls Tryz.prog 23 #[.bool true, v] W (RVPost W sx mm 1)) := fun W v h => by
          rw [← HSX.out]
          have e : mm = M + 1 := HM2.out
          rw [e]
          exact HWK.out true (M + 1) W v h
        go_wp2_with fail
        refine (HTR.out _ HSL.out).mono ?_
        rintro e w7 ⟨v7, rfl, hn7, rfl⟩
        go_wp2_with fail
        refine (HAD.out M _ _ _ HMD.out (by exact hn7.to (below_one _ _)) (by exact one16' _ _ rfl)).mono ?_
        rintro e w8 ⟨v8, rfl, hn8, hb8⟩
        have HB8 := (below_one _ _).trans (hb8.mono (below_one _ _).size)
        have KC := Lib.hid (KC.out.to HB8)
        have HBE : Hid (Below w.heap.size w w8) := HBE.out.trans (HB8.mono HBE.out.size)
        clear hb8 HB8
        go_wp2_with fail
        refine (HWM.out _ _ hn8).mono ?_
        rintro e w9 ⟨v9, rfl, hr3, hb3⟩
        have KB3 := Lib.hid (KC.out.to hb3)
        have HBE3 : Hid (Below w.heap.size w w9) := HBE.out.trans (hb3.mono HBE.out.size)
        have R3 := Lib.hid hr3
        obtain ⟨C1, q1, r1, C2, q2, r2, rfl, hz1, hz2⟩ := hr3.form
        clear hb3 hr3 hz1 hz2
        have cc0 := KB3.out.cell 0
        have cc1 := KB3.out.cell 1
        have cc2 := KB3.out.cell 2
        simp only [List.getElem?_toArray, List.getElem?_cons_zero, List.getElem?_cons_succ] at cc0 cc1 cc2
        have fc0 := KB3.out.frozen 0
        have fc1 := KB3.out.frozen 1
        have fc2 := KB3.out.frozen 2
        go_wp2_with fail
        refine bodyPost_ret (v := .agg #[.bool sx, .slice C1 q1 r1, .slice C2 q2 r2]) (by rw [results_cellA rfl]; go_simp) rfl ?_
        exact ⟨_, rfl, R3.out.put3 KB3.out _ _ _, put3_below HBE3.out (by omega) _ _ _⟩

set_option maxRecDepth 100000 in
set_option maxHeartbeats 12800000 in
theorem rbits_ft (o : Nat) (ho : o < 3) (p q : Nat) (va vb : Value) (w : World) (ha : RV w va false p 1) (hb : RV w vb true q 1) (hp : (digs W16 p).length ≤ 256) (hq : (digs W16 q).length ≤ 256) (hnb : 0 < q) :
    Calls Tryz.prog 27 #[.int .u8 (opc o), va, vb] w (RVPost w (bop o false true && decide (0 < rbM o false true p q)) (rbM o false true p q) 1) := by
  have RA := Lib.hid ha
  have RB := Lib.hid hb
  obtain ⟨A1, n1, c1, A2, n2, c2, rfl, hz1, hz2⟩ := ha.form
  obtain ⟨B1, m1, d1, B2, m2, d2, rfl, hz3, hz4⟩ := hb.form
  have HBO : Hid (∀ (x y : Bool) (W : World), Calls Tryz.prog 51 #[.int .u8 (opc o), .bool x, .bool y] W fun e w' => e = .returned (.bool (bop o x y)) ∧ W = w') := fun x y W => both_any o ho x y W
  have HSB : Hid (∀ (W : World) (v : Value), Nat16 W (.slice B1 m1 d1) q → Nat16 W v 1 → Calls Tryz.prog 44 #[.slice B1 m1 d1, v] W (RPost W (q - 1))) := fun W v h1 h2 => rsub_any q 1 _ v W h1 h2 (by omega) hnb
  have HAD : Hid (∀ (n : Nat) (W : World) (u v : Value), (digs W16 n).length ≤ 1000 → Nat16 W u n → Nat16 W v 1 → Calls Tryz.prog 43 #[u, v] W (RPost W (n + 1))) := fun n W u v hn h1 h2 => radd_any n 1 u v W h1 h2 (by omega) (by rw [digs_one16]; decide)
  have HWK : Hid (∀ (s : Bool) (n : Nat) (W : World) (v : Value), Nat16 W v n → Calls Tryz.prog 23 #[.bool s, v] W (RVPost W (s && decide (0 < n)) n 1)) := fun s n W v h => rwhole_any s n v W h
  have HBK := Lib.hid (blk2 w 43 43 #[.bool false, .slice A1 n1 c1, .slice A2 n2 c2] #[.bool true, .slice B1 m1 d1, .slice B2 m2 d2])
  have KA := Lib.hid (HBK.out.1.alloc (.cells #[.bool false, .slice none 0 0, .slice none 0 0] 43))
  have KB := Lib.hid (HBK.out.2.alloc (.cells #[.bool false, .slice none 0 0, .slice none 0 0] 43))
  have KC := Lib.hid ((blk_3 w 43 43 43 #[.bool false, .slice A1 n1 c1, .slice A2 n2 c2] #[.bool true, .slice B1 m1 d1, .slice B2 m2 d2] #[.bool false, .slice none 0 0, .slice none 0 0]).2.2)
  have HBE := Lib.hid (below_3 w (.cells #[.bool false, .slice A1 n1 c1, .slice A2 n2 c2] 43) (.cells #[.bool true, .slice B1 m1 d1, .slice B2 m2 d2] 43) (.cells #[.bool false, .slice none 0 0, .slice none 0 0] 43))
  have RA := Lib.hid (RA.out.to HBE.out)
  have RB := Lib.hid (RB.out.to HBE.out)
  have hx : (digs W16 (p)).length ≤ 256 := hp
  have hy : (digs W16 (q - 1)).length ≤ 256 := digs_pred hq
  have HM : Hid (rbM o false true p q = Nat.bitwise (bfun o false true) (p) (q - 1) + if bop o false true then 1 else 0) := rfl
  generalize rbM o false true p q = mm at *
  have HN1 := Lib.hid hz1
  have HN3 := Lib.hid hz3
  clear HBK ha hb hp hq hz2 hz4 hz1 hz3 hnb
  obtain ⟨sg, HSG⟩ : ∃ sg, Hid (bop o false true = sg) := ⟨_, rfl⟩
  rw [HSG.out]
  obtain ⟨sx, HSX⟩ : ∃ sx, Hid ((sg && decide (0 < mm)) = sx) := ⟨_, rfl⟩
  rw [HSX.out]
  go_enter Tryz.func27, Tryz.ntmps27
  have ka0 := KA.out.cell 0
  have ka1 := KA.out.cell 1
  have kb0 := KB.out.cell 0
  have kb1 := KB.out.cell 1
  simp only [List.getElem?_toArray, List.getElem?_cons_zero, List.getElem?_cons_succ] at ka0 ka1 kb0 kb1
  go_wp2_with fail
  go_region
  have NA := Lib.hid RA.out.parts.2.1
  have NB := Lib.hid RB.out.parts.2.1
  clear RA RB
  have Nx := NA
  go_wp2_with fail
  refine (HSB.out _ _ (by first | exact NB.out.to (below_one _ _) | exact NB.out.to (below_one _ _).drew) (by first | exact one16' _ _ (by first | rfl | simp) | exact (one16' _ _ (by first | rfl | simp)).to (Below.refl _ _).drew)).mono ?_
  rintro e w2 ⟨vy, rfl, hn, hb⟩
  have HB1 : Below (World.heap (((w.alloc (.cells #[.bool false, .slice A1 n1 c1, .slice A2 n2 c2] 43)).alloc (.cells #[.bool true, .slice B1 m1 d1, .slice B2 m2 d2] 43)).alloc (.cells #[.bool false, .slice none 0 0, .slice none 0 0] 43))).size (((w.alloc (.cells #[.bool false, .slice A1 n1 c1, .slice A2 n2 c2] 43)).alloc (.cells #[.bool true, .slice B1 m1 d1, .slice B2 m2 d2] 43)).alloc (.cells #[.bool false, .slice none 0 0, .slice none 0 0] 43)) w2 := by first | exact (below_one _ _).trans (hb.mono (below_one _ _).size) | exact (below_one _ _).drew.trans (hb.mono (below_one _ _).drew.size)
  have KA := Lib.hid (KA.out.to HB1)
  have KB := Lib.hid (KB.out.to HB1)
  have KC := Lib.hid (KC.out.to HB1)
  have NA := Lib.hid (NA.out.to HB1)
  have NB := Lib.hid (NB.out.to HB1)
  have HBE := Lib.hid (HBE.out.trans (HB1.mono HBE.out.size))
  have Nx := Lib.hid (Nx.out.to HB1)
  have Ny := Lib.hid hn
  clear hn hb HB1 ka0 ka1 kb0 kb1
  have ka0 := KA.out.cell 0
  have ka1 := KA.out.cell 1
  have kb0 := KB.out.cell 0
  have kb1 := KB.out.cell 1
  simp only [List.getElem?_toArray, List.getElem?_cons_zero, List.getElem?_cons_succ] at ka0 ka1 kb0 kb1
  have hz1 := HN1.out
  obtain ⟨Ay, ny, cy, rfl, hz3⟩ := Ny.out.form
  obtain ⟨N, hN⟩ : ∃ N : Nat, N = max n1 ny := ⟨_, rfl⟩
  have hNb : N ≤ 256 := by omega
  have hmx : max (n1 : Int) (ny : Int) = (N : Int) := by omega
  have HXB : Hid (p < 2 ^ (16 * N)) := lt_digs16 (by omega)
  have HYB : Hid (q - 1 < 2 ^ (16 * N)) := lt_digs16 (by omega)
  clear hz1 hz3 hx hy hN
  obtain ⟨M, HMM⟩ : ∃ M, Hid (Nat.bitwise (bfun o false true) (p) (q - 1) = M) := ⟨_, rfl⟩
  have HML : Hid (M < 2 ^ (16 * N)) := by rw [← HMM.out]; exact Nat.bitwise_lt_two_pow HXB.out HYB.out
  have HM2 : Hid (mm = M + if sg then 1 else 0) := by rw [← HMM.out, ← HSG.out]; exact HM.out
  have HBIT : Hid (∀ i : Nat, (bop o (decide ((p) / 2 ^ i % 2 = 1) != false) (decide ((q - 1) / 2 ^ i % 2 = 1) != true) != sg) = M.testBit i) := fun i => by rw [← HMM.out, ← HSG.out]; exact bmag_bit2
  clear HM
  obtain ⟨i0, hi0, hz0, hz1, hz2⟩ := info_parts info_i64
  have HI := Lib.hid hi0
  have HZ0 := Lib.hid hz0
  have HZ1 := Lib.hid hz1
  have HZ2 := Lib.hid hz2
  clear hi0 hz0 hz1 hz2
  have HB1 : Hid (∀ (W : World), Calls Tryz.prog 51 #[.int .u8 (opc o), .bool false, .bool true] W fun e w' => e = .returned (.bool sg) ∧ W = w') := fun W => by rw [← HSG.out]; exact HBO.out _ _ W
  go_wp2_with fail
  refine (HB1.out _).mono ?_
  rintro e w5 ⟨rfl, rfl⟩
  clear ka0 ka1 kb0 kb1
  go_wp2_with (at_make; refine wpList_make_full _ rfl _ _ 41 rfl w2.heap.size 3 i0 (.int .i64 0) 1 Tryz.underlying41 HI.out HZ0.out HZ1.out .i64 .i64 _ _ N rfl rfl (by omega) (by omega) (by rw [HZ2.out]; omega) (by unfold maxLen; omega) (Nat.le_refl _) ?_; intro w6 hown1 hg1)
  have HO6 := Lib.hid (Own.made hown1)
  have HB6 := Lib.hid ((Below.refl w2.heap.size w2).grown hg1 (Nat.le_refl _) (by simp))
  have HX := Lib.hid Nx.out
  have HY := Lib.hid Ny.out
  clear hown1 hg1 Nx Ny NA NB
  go_loopg [12] (16 * N) (fun gk s12 wr => ∃ (j : Nat) (out : List Nat), gk + j = 16 * N ∧ s12 = .int .i64 (j : Int) ∧ Hid (Own .i64 3 wr w2.heap.size w2.heap.size N N out) ∧ Hid (Below w2.heap.size w2 wr) ∧ Hid (val W16 out = M % 2 ^ j) ∧ Hid (Ok W16 out))
  case atStart => exact ⟨0, List.replicate N 0, by omega, rfl, HO6.out, HB6.out, by unfold Hid; rw [val_replicate, Nat.pow_zero, Nat.mod_one], ok_replicate (by decide)⟩
  case round =>
    obtain ⟨j, out, hgj, rfl, HO, HB, HV, HOK⟩ := hrel
    by_cases hj : j < 16 * N
    · obtain ⟨k, s, hk, hs, hs16, HKS⟩ : ∃ k s : Nat, (j : Int) / 16 = (k : Int) ∧ (j : Int) % 16 = (s : Int) ∧ s < 16 ∧ Hid (j / 16 = k ∧ j % 16 = s) := ⟨j / 16, j % 16, by omega, by omega, by omega, rfl, rfl⟩
      have hkn : k < N := by have := HKS.out.1; omega
      have hjw : IntKind.i64.wrap (16 * (N : Int)) = 16 * (N : Int) := by rw [IntKind.wrap_i64]; omega
      obtain ⟨d, HDE⟩ : ∃ d, Hid (out.getD k 0 = d) := ⟨_, rfl⟩
      have hd : d < 2 ^ s := by rw [← HDE.out]; exact limb_lt (by rw [HV.out]; exact Nat.mod_lt _ (Nat.pow_pos (by omega))) HKS.out.1 HKS.out.2
      obtain ⟨pw, dp, hpw, hpw2, hpwb, HPW⟩ : ∃ pw dp : Nat, IntKind.i64.wrap ((2 : Int) ^ s) = (pw : Int) ∧ bits .or .i64 (d : Int) (pw : Int) = (dp : Int) ∧ dp < 65536 ∧ Hid (dp = d + 2 ^ s) := by
        have h3 : (2 : Nat) ^ s ≤ 2 ^ 15 := Nat.pow_le_pow_right (by omega) (by omega)
        refine ⟨2 ^ s, d + 2 ^ s, ?_, ?_, by omega, rfl⟩
        · rw [← pow32]
          generalize (2 : Nat) ^ s = gg at *
          rw [IntKind.wrap_i64]; omega
        · rw [or_i64 _ _ (by omega) (by omega), or_bit2 hd]
      have hcell : wr.cell? ⟨w2.heap.size, k, none⟩ = some (.int .i64 (d : Int)) := by rw [← HDE.out]; exact HO.out.cell hkn
      have hfr := HO.out.frozen k
      obtain ⟨tb, hbit, HTB⟩ : ∃ tb, (bop o (decide ((p) / 2 ^ j % 2 = 1) != false) (decide ((q - 1) / 2 ^ j % 2 = 1) != true) != sg) = tb ∧ Hid (M.testBit j = tb) := ⟨_, HBIT.out j, rfl⟩
      have hb1 := Nat.mod_two_eq_zero_or_one ((p) / 2 ^ j)
      have hb2 := Nat.mod_two_eq_zero_or_one ((q - 1) / 2 ^ j)
      have KA := KA.out.to HB.out
      have KB := KB.out.to HB.out
      have ka0 := KA.cell 0
      have kb0 := KB.cell 0
      simp only [List.getElem?_toArray, List.getElem?_cons_zero, List.getElem?_cons_succ] at ka0 kb0
      clear KA KB
      have HCX : Hid (Calls Tryz.prog 45 #[.slice A1 n1 c1, .int .i64 (j : Int)] wr.drew fun e w' => e = .returned (.int .i64 ((((p) / 2 ^ j % 2 : Nat)) : Int)) ∧ wr.drew = w') := rbit_any _ j _ wr.drew (HX.out.to HB.out.drew) (by omega)
      have HCY : Hid (Calls Tryz.prog 45 #[.slice Ay ny cy, .int .i64 (j : Int)] wr.drew fun e w' => e = .returned (.int .i64 ((((q - 1) / 2 ^ j % 2 : Nat)) : Int)) ∧ wr.drew = w') := rbit_any _ j _ wr.drew (HY.out.to HB.out.drew) (by omega)
      have hdpos : d < 65536 := by have := HPW.out; omega
      clear hd
      rcases hb1 with hb1 | hb1
      · rcases hb2 with hb2 | hb2
        ·
          rw [hb1] at HCX hbit
          rw [hb2] at HCY hbit
          obtain ⟨z, HZ⟩ : ∃ z, Hid (bop o false true = z) := ⟨_, rfl⟩
          have HB2 : Hid (∀ (W : World), Calls Tryz.prog 51 #[.int .u8 (opc o), .bool false, .bool true] W fun e w' => e = .returned (.bool z) ∧ W = w') := fun W => by rw [← HZ.out]; exact HBO.out _ _ W
          have hz : (!(z == sg)) = tb := by rw [← HZ.out]; exact hbit
          clear hbit hb1 hb2
          cases tb with
          | true =>
            go_wp2_with fail
            go_region_held3 (fun w' => w'.cell? ⟨w.heap.size, 0, none⟩ = some (.bool false) ∧ w'.cell? ⟨w.heap.size + 1, 0, none⟩ = some (.bool true))
              (go_keep)
              (first
                | (go_at_call 45; ((with_reducible refine HCX.out.mono ?_)); rintro e y1 ⟨rfl, rfl⟩)
                | (go_at_call 45; ((with_reducible refine HCY.out.mono ?_)); rintro e y2 ⟨rfl, rfl⟩)
                | (go_at_call 51; ((with_reducible refine (HB2.out _).mono ?_)); rintro e y3 ⟨rfl, rfl⟩))
            all_goals go_wp2_with fail
            all_goals go_region
            all_goals go_wp2_with fail
            all_goals go_roundg (gk - 1)
            all_goals (first | (show _ < _; omega) | skip)
            all_goals
              refine ⟨j + 1, out.set k dp, by omega, by go_num, (HO.out.stored k dp).drew, (HB.out.setCell (p := ⟨w2.heap.size, k, none⟩) (Nat.le_refl _) _).drew.drew, ?_, HOK.out.set hpwb⟩
              unfold Hid
              rw [mod_bit, HTB.out, HPW.out, ← HDE.out, set_bit2 (by rw [HO.out.1]; exact hkn) HKS.out.1 HKS.out.2, HV.out]
              rfl
          | false =>
            go_wp2_with fail
            go_region_held3 (fun w' => w'.cell? ⟨w.heap.size, 0, none⟩ = some (.bool false) ∧ w'.cell? ⟨w.heap.size + 1, 0, none⟩ = some (.bool true))
              (go_keep)
              (first
                | (go_at_call 45; ((with_reducible refine HCX.out.mono ?_)); rintro e y1 ⟨rfl, rfl⟩)
                | (go_at_call 45; ((with_reducible refine HCY.out.mono ?_)); rintro e y2 ⟨rfl, rfl⟩)
                | (go_at_call 51; ((with_reducible refine (HB2.out _).mono ?_)); rintro e y3 ⟨rfl, rfl⟩))
            all_goals go_wp2_with fail
            all_goals go_roundg (gk - 1)
            all_goals (first | (show _ < _; omega) | skip)
            all_goals
              refine ⟨j + 1, out, by omega, by go_num, HO.out.drew, HB.out.drew, ?_, HOK.out⟩
              unfold Hid
              rw [mod_bit, HTB.out, HV.out]
              rfl
        ·
          rw [hb1] at HCX hbit
          rw [hb2] at HCY hbit
          obtain ⟨z, HZ⟩ : ∃ z, Hid (bop o false false = z) := ⟨_, rfl⟩
          have HB2 : Hid (∀ (W : World), Calls Tryz.prog 51 #[.int .u8 (opc o), .bool false, .bool false] W fun e w' => e = .returned (.bool z) ∧ W = w') := fun W => by rw [← HZ.out]; exact HBO.out _ _ W
          have hz : (!(z == sg)) = tb := by rw [← HZ.out]; exact hbit
          clear hbit hb1 hb2
          cases tb with
          | true =>
            go_wp2_with fail
            go_region_held3 (fun w' => w'.cell? ⟨w.heap.size, 0, none⟩ = some (.bool false) ∧ w'.cell? ⟨w.heap.size + 1, 0, none⟩ = some (.bool true))
              (go_keep)
              (first
                | (go_at_call 45; ((with_reducible refine HCX.out.mono ?_)); rintro e y1 ⟨rfl, rfl⟩)
                | (go_at_call 45; ((with_reducible refine HCY.out.mono ?_)); rintro e y2 ⟨rfl, rfl⟩)
                | (go_at_call 51; ((with_reducible refine (HB2.out _).mono ?_)); rintro e y3 ⟨rfl, rfl⟩))
            all_goals go_wp2_with fail
            all_goals go_region
            all_goals go_wp2_with fail
            all_goals go_roundg (gk - 1)
            all_goals (first | (show _ < _; omega) | skip)
            all_goals
              refine ⟨j + 1, out.set k dp, by omega, by go_num, (HO.out.stored k dp).drew, (HB.out.setCell (p := ⟨w2.heap.size, k, none⟩) (Nat.le_refl _) _).drew.drew, ?_, HOK.out.set hpwb⟩
              unfold Hid
              rw [mod_bit, HTB.out, HPW.out, ← HDE.out, set_bit2 (by rw [HO.out.1]; exact hkn) HKS.out.1 HKS.out.2, HV.out]
              rfl
          | false =>
            go_wp2_with fail
            go_region_held3 (fun w' => w'.cell? ⟨w.heap.size, 0, none⟩ = some (.bool false) ∧ w'.cell? ⟨w.heap.size + 1, 0, none⟩ = some (.bool true))
              (go_keep)
              (first
                | (go_at_call 45; ((with_reducible refine HCX.out.mono ?_)); rintro e y1 ⟨rfl, rfl⟩)
                | (go_at_call 45; ((with_reducible refine HCY.out.mono ?_)); rintro e y2 ⟨rfl, rfl⟩)
                | (go_at_call 51; ((with_reducible refine (HB2.out _).mono ?_)); rintro e y3 ⟨rfl, rfl⟩))
            all_goals go_wp2_with fail
            all_goals go_roundg (gk - 1)
            all_goals (first | (show _ < _; omega) | skip)
            all_goals
              refine ⟨j + 1, out, by omega, by go_num, HO.out.drew, HB.out.drew, ?_, HOK.out⟩
              unfold Hid
              rw [mod_bit, HTB.out, HV.out]
              rfl
      · rcases hb2 with hb2 | hb2
        ·
          rw [hb1] at HCX hbit
          rw [hb2] at HCY hbit
          obtain ⟨z, HZ⟩ : ∃ z, Hid (bop o true true = z) := ⟨_, rfl⟩
          have HB2 : Hid (∀ (W : World), Calls Tryz.prog 51 #[.int .u8 (opc o), .bool true, .bool true] W fun e w' => e = .returned (.bool z) ∧ W = w') := fun W => by rw [← HZ.out]; exact HBO.out _ _ W
          have hz : (!(z == sg)) = tb := by rw [← HZ.out]; exact hbit
          clear hbit hb1 hb2
          cases tb with
          | true =>
            go_wp2_with fail
            go_region_held3 (fun w' => w'.cell? ⟨w.heap.size, 0, none⟩ = some (.bool false) ∧ w'.cell? ⟨w.heap.size + 1, 0, none⟩ = some (.bool true))
              (go_keep)
              (first
                | (go_at_call 45; ((with_reducible refine HCX.out.mono ?_)); rintro e y1 ⟨rfl, rfl⟩)
                | (go_at_call 45; ((with_reducible refine HCY.out.mono ?_)); rintro e y2 ⟨rfl, rfl⟩)
                | (go_at_call 51; ((with_reducible refine (HB2.out _).mono ?_)); rintro e y3 ⟨rfl, rfl⟩))
            all_goals go_wp2_with fail
            all_goals go_region
            all_goals go_wp2_with fail
            all_goals go_roundg (gk - 1)
            all_goals (first | (show _ < _; omega) | skip)
            all_goals
              refine ⟨j + 1, out.set k dp, by omega, by go_num, (HO.out.stored k dp).drew, (HB.out.setCell (p := ⟨w2.heap.size, k, none⟩) (Nat.le_refl _) _).drew.drew, ?_, HOK.out.set hpwb⟩
              unfold Hid
              rw [mod_bit, HTB.out, HPW.out, ← HDE.out, set_bit2 (by rw [HO.out.1]; exact hkn) HKS.out.1 HKS.out.2, HV.out]
              rfl
          | false =>
            go_wp2_with fail
            go_region_held3 (fun w' => w'.cell? ⟨w.heap.size, 0, none⟩ = some (.bool false) ∧ w'.cell? ⟨w.heap.size + 1, 0, none⟩ = some (.bool true))
              (go_keep)
              (first
                | (go_at_call 45; ((with_reducible refine HCX.out.mono ?_)); rintro e y1 ⟨rfl, rfl⟩)
                | (go_at_call 45; ((with_reducible refine HCY.out.mono ?_)); rintro e y2 ⟨rfl, rfl⟩)
                | (go_at_call 51; ((with_reducible refine (HB2.out _).mono ?_)); rintro e y3 ⟨rfl, rfl⟩))
            all_goals go_wp2_with fail
            all_goals go_roundg (gk - 1)
            all_goals (first | (show _ < _; omega) | skip)
            all_goals
              refine ⟨j + 1, out, by omega, by go_num, HO.out.drew, HB.out.drew, ?_, HOK.out⟩
              unfold Hid
              rw [mod_bit, HTB.out, HV.out]
              rfl
        ·
          rw [hb1] at HCX hbit
          rw [hb2] at HCY hbit
          obtain ⟨z, HZ⟩ : ∃ z, Hid (bop o true false = z) := ⟨_, rfl⟩
          have HB2 : Hid (∀ (W : World), Calls Tryz.prog 51 #[.int .u8 (opc o), .bool true, .bool false] W fun e w' => e = .returned (.bool z) ∧ W = w') := fun W => by rw [← HZ.out]; exact HBO.out _ _ W
          have hz : (!(z == sg)) = tb := by rw [← HZ.out]; exact hbit
          clear hbit hb1 hb2
          cases tb with
          | true =>
            go_wp2_with fail
            go_region_held3 (fun w' => w'.cell? ⟨w.heap.size, 0, none⟩ = some (.bool false) ∧ w'.cell? ⟨w.heap.size + 1, 0, none⟩ = some (.bool true))
              (go_keep)
              (first
                | (go_at_call 45; ((with_reducible refine HCX.out.mono ?_)); rintro e y1 ⟨rfl, rfl⟩)
                | (go_at_call 45; ((with_reducible refine HCY.out.mono ?_)); rintro e y2 ⟨rfl, rfl⟩)
                | (go_at_call 51; ((with_reducible refine (HB2.out _).mono ?_)); rintro e y3 ⟨rfl, rfl⟩))
            all_goals go_wp2_with fail
            all_goals go_region
            all_goals go_wp2_with fail
            all_goals go_roundg (gk - 1)
            all_goals (first | (show _ < _; omega) | skip)
            all_goals
              refine ⟨j + 1, out.set k dp, by omega, by go_num, (HO.out.stored k dp).drew, (HB.out.setCell (p := ⟨w2.heap.size, k, none⟩) (Nat.le_refl _) _).drew.drew, ?_, HOK.out.set hpwb⟩
              unfold Hid
              rw [mod_bit, HTB.out, HPW.out, ← HDE.out, set_bit2 (by rw [HO.out.1]; exact hkn) HKS.out.1 HKS.out.2, HV.out]
              rfl
          | false =>
            go_wp2_with fail
            go_region_held3 (fun w' => w'.cell? ⟨w.heap.size, 0, none⟩ = some (.bool false) ∧ w'.cell? ⟨w.heap.size + 1, 0, none⟩ = some (.bool true))
              (go_keep)
              (first
                | (go_at_call 45; ((with_reducible refine HCX.out.mono ?_)); rintro e y1 ⟨rfl, rfl⟩)
                | (go_at_call 45; ((with_reducible refine HCY.out.mono ?_)); rintro e y2 ⟨rfl, rfl⟩)
                | (go_at_call 51; ((with_reducible refine (HB2.out _).mono ?_)); rintro e y3 ⟨rfl, rfl⟩))
            all_goals go_wp2_with fail
            all_goals go_roundg (gk - 1)
            all_goals (first | (show _ < _; omega) | skip)
            all_goals
              refine ⟨j + 1, out, by omega, by go_num, HO.out.drew, HB.out.drew, ?_, HOK.out⟩
              unfold Hid
              rw [mod_bit, HTB.out, HV.out]
              rfl
    · obtain rfl : j = 16 * N := by omega
      have HVM : Hid (val W16 out = M) := by unfold Hid; rw [HV.out, Nat.mod_eq_of_lt HML.out]
      have KC := Lib.hid (KC.out.to HB.out)
      have HBE : Hid (Below w.heap.size w wr) := HBE.out.trans (HB.out.mono HBE.out.size)
      have hMd : (digs W16 M).length ≤ 1000 := Nat.le_trans (digs_len_le (k := N) W16_gt (by rw [show W16 = 2 ^ 16 from rfl, ← Nat.pow_mul]; exact HML.out)) (by omega)
      have HTR : Hid (∀ (W : World), Sl .i64 W (.slice (some ⟨w2.heap.size, 0, none⟩) N N) out → Calls Tryz.prog 52 #[.slice (some ⟨w2.heap.size, 0, none⟩) N N] W fun e w' => ∃ v', e = .returned v' ∧ Nat16 W v' M ∧ W = w') := fun W h => by
        have := rtrim_any out _ W h HOK.out
        rw [HVM.out] at this
        exact this
      have HSL : Hid (Sl .i64 wr (.slice (some ⟨w2.heap.size, 0, none⟩) N N) out) := by have h := HO.out.sl; exact h
      have hjw : IntKind.i64.wrap (16 * (N : Int)) = 16 * (N : Int) := by rw [IntKind.wrap_i64]; omega
      have HMD := Lib.hid hMd
      clear hMd hj hgj HX HY
      cases sg with
      | false =>
        have HWM : Hid (∀ (W : World) (v : Value), Nat16 W v M → Calls Tryz.prog 23 #[.bool false, v] W (RVPost W sx mm 1)) := fun W v h => by
          rw [← HSX.out]
          have e : mm = M := HM2.out
          rw [e]
          exact HWK.out false M W v h
        go_wp2_with fail
        refine (HTR.out _ HSL.out).mono ?_
        rintro e w7 ⟨v7, rfl, hn7, rfl⟩
        go_wp2_with fail
        refine (HWM.out _ _ hn7).mono ?_
        rintro e w9 ⟨v9, rfl, hr3, hb3⟩
        have KB3 := Lib.hid (KC.out.to hb3)
        have HBE3 : Hid (Below w.heap.size w w9) := HBE.out.trans (hb3.mono HBE.out.size)
        have R3 := Lib.hid hr3
        obtain ⟨C1, q1, r1, C2, q2, r2, rfl, hz1, hz2⟩ := hr3.form
        clear hb3 hr3 hz1 hz2
        have cc0 := KB3.out.cell 0
        have cc1 := KB3.out.cell 1
        have cc2 := KB3.out.cell 2
        simp only [List.getElem?_toArray, List.getElem?_cons_zero, List.getElem?_cons_succ] at cc0 cc1 cc2
        have fc0 := KB3.out.frozen 0
        have fc1 := KB3.out.frozen 1
        have fc2 := KB3.out.frozen 2
        go_wp2_with fail
        refine bodyPost_ret (v := .agg #[.bool sx, .slice C1 q1 r1, .slice C2 q2 r2]) (by rw [results_cellA rfl]; go_simp) rfl ?_
        exact ⟨_, rfl, R3.out.put3 KB3.out _ _ _, put3_below HBE3.out (by omega) _ _ _⟩
      | true =>
        have HWM : Hid (∀ (W : World) (v : Value), Nat16 W v (M + 1) → Calls Tryz.prog 23 #[.bool true, v] W (RVPost W sx mm 1)) := fun W v h => by
          rw [← HSX.out]
          have e : mm = M + 1 := HM2.out
          rw [e]
          exact HWK.out true (M + 1) W v h
        go_wp2_with fail
        refine (HTR.out _ HSL.out).mono ?_
        rintro e w7 ⟨v7, rfl, hn7, rfl⟩
        go_wp2_with fail
        refine (HAD.out M _ _ _ HMD.out (by exact hn7.to (below_one _ _)) (by exact one16' _ _ rfl)).mono ?_
        rintro e w8 ⟨v8, rfl, hn8, hb8⟩
        have HB8 := (below_one _ _).trans (hb8.mono (below_one _ _).size)
        have KC := Lib.hid (KC.out.to HB8)
        have HBE : Hid (Below w.heap.size w w8) := HBE.out.trans (HB8.mono HBE.out.size)
        clear hb8 HB8
        go_wp2_with fail
        refine (HWM.out _ _ hn8).mono ?_
        rintro e w9 ⟨v9, rfl, hr3, hb3⟩
        have KB3 := Lib.hid (KC.out.to hb3)
        have HBE3 : Hid (Below w.heap.size w w9) := HBE.out.trans (hb3.mono HBE.out.size)
        have R3 := Lib.hid hr3
        obtain ⟨C1, q1, r1, C2, q2, r2, rfl, hz1, hz2⟩ := hr3.form
        clear hb3 hr3 hz1 hz2
        have cc0 := KB3.out.cell 0
        have cc1 := KB3.out.cell 1
        have cc2 := KB3.out.cell 2
        simp only [List.getElem?_toArray, List.getElem?_cons_zero, List.getElem?_cons_succ] at cc0 cc1 cc2
        have fc0 := KB3.out.frozen 0
        have fc1 := KB3.out.frozen 1
        have fc2 := KB3.out.frozen 2
        go_wp2_with fail
        refine bodyPost_ret (v := .agg #[.bool sx, .slice C1 q1 r1, .slice C2 q2 r2]) (by rw [results_cellA rfl]; go_simp) rfl ?_
        exact ⟨_, rfl, R3.out.put3 KB3.out _ _ _, put3_below HBE3.out (by omega) _ _ _⟩

set_option maxRecDepth 100000 in
set_option maxHeartbeats 12800000 in
theorem rbits_ff (o : Nat) (ho : o < 3) (p q : Nat) (va vb : Value) (w : World) (ha : RV w va false p 1) (hb : RV w vb false q 1) (hp : (digs W16 p).length ≤ 256) (hq : (digs W16 q).length ≤ 256) :
    Calls Tryz.prog 27 #[.int .u8 (opc o), va, vb] w (RVPost w (bop o false false && decide (0 < rbM o false false p q)) (rbM o false false p q) 1) := by
  have RA := Lib.hid ha
  have RB := Lib.hid hb
  obtain ⟨A1, n1, c1, A2, n2, c2, rfl, hz1, hz2⟩ := ha.form
  obtain ⟨B1, m1, d1, B2, m2, d2, rfl, hz3, hz4⟩ := hb.form
  have HBO : Hid (∀ (x y : Bool) (W : World), Calls Tryz.prog 51 #[.int .u8 (opc o), .bool x, .bool y] W fun e w' => e = .returned (.bool (bop o x y)) ∧ W = w') := fun x y W => both_any o ho x y W
  have HAD : Hid (∀ (n : Nat) (W : World) (u v : Value), (digs W16 n).length ≤ 1000 → Nat16 W u n → Nat16 W v 1 → Calls Tryz.prog 43 #[u, v] W (RPost W (n + 1))) := fun n W u v hn h1 h2 => radd_any n 1 u v W h1 h2 (by omega) (by rw [digs_one16]; decide)
  have HWK : Hid (∀ (s : Bool) (n : Nat) (W : World) (v : Value), Nat16 W v n → Calls Tryz.prog 23 #[.bool s, v] W (RVPost W (s && decide (0 < n)) n 1)) := fun s n W v h => rwhole_any s n v W h
  have HBK := Lib.hid (blk2 w 43 43 #[.bool false, .slice A1 n1 c1, .slice A2 n2 c2] #[.bool false, .slice B1 m1 d1, .slice B2 m2 d2])
  have KA := Lib.hid (HBK.out.1.alloc (.cells #[.bool false, .slice none 0 0, .slice none 0 0] 43))
  have KB := Lib.hid (HBK.out.2.alloc (.cells #[.bool false, .slice none 0 0, .slice none 0 0] 43))
  have KC := Lib.hid ((blk_3 w 43 43 43 #[.bool false, .slice A1 n1 c1, .slice A2 n2 c2] #[.bool false, .slice B1 m1 d1, .slice B2 m2 d2] #[.bool false, .slice none 0 0, .slice none 0 0]).2.2)
  have HBE := Lib.hid (below_3 w (.cells #[.bool false, .slice A1 n1 c1, .slice A2 n2 c2] 43) (.cells #[.bool false, .slice B1 m1 d1, .slice B2 m2 d2] 43) (.cells #[.bool false, .slice none 0 0, .slice none 0 0] 43))
  have RA := Lib.hid (RA.out.to HBE.out)
  have RB := Lib.hid (RB.out.to HBE.out)
  have hx : (digs W16 (p)).length ≤ 256 := hp
  have hy : (digs W16 (q)).length ≤ 256 := hq
  have HM : Hid (rbM o false false p q = Nat.bitwise (bfun o false false) (p) (q) + if bop o false false then 1 else 0) := rfl
  generalize rbM o false false p q = mm at *
  have HN1 := Lib.hid hz1
  have HN3 := Lib.hid hz3
  clear HBK ha hb hp hq hz2 hz4 hz1 hz3
  obtain ⟨sg, HSG⟩ : ∃ sg, Hid (bop o false false = sg) := ⟨_, rfl⟩
  rw [HSG.out]
  obtain ⟨sx, HSX⟩ : ∃ sx, Hid ((sg && decide (0 < mm)) = sx) := ⟨_, rfl⟩
  rw [HSX.out]
  go_enter Tryz.func27, Tryz.ntmps27
  have ka0 := KA.out.cell 0
  have ka1 := KA.out.cell 1
  have kb0 := KB.out.cell 0
  have kb1 := KB.out.cell 1
  simp only [List.getElem?_toArray, List.getElem?_cons_zero, List.getElem?_cons_succ] at ka0 ka1 kb0 kb1
  go_wp2_with fail
  go_region
  have NA := Lib.hid RA.out.parts.2.1
  have NB := Lib.hid RB.out.parts.2.1
  clear RA RB
  have Nx := NA
  have Ny := NB
  have hz1 := HN1.out
  have hz3 := HN3.out
  have KA := Lib.hid KA.out.drew
  have KB := Lib.hid KB.out.drew
  have KC := Lib.hid KC.out.drew
  have HBE := Lib.hid HBE.out.drew
  have Nx := Lib.hid (Nx.out.to (Below.refl _ _).drew)
  have Ny := Lib.hid (Ny.out.to (Below.refl _ _).drew)
  obtain ⟨N, hN⟩ : ∃ N : Nat, N = max n1 m1 := ⟨_, rfl⟩
  have hNb : N ≤ 256 := by omega
  have hmx : max (n1 : Int) (m1 : Int) = (N : Int) := by omega
  have HXB : Hid (p < 2 ^ (16 * N)) := lt_digs16 (by omega)
  have HYB : Hid (q < 2 ^ (16 * N)) := lt_digs16 (by omega)
  clear hz1 hz3 hx hy hN
  obtain ⟨M, HMM⟩ : ∃ M, Hid (Nat.bitwise (bfun o false false) (p) (q) = M) := ⟨_, rfl⟩
  have HML : Hid (M < 2 ^ (16 * N)) := by rw [← HMM.out]; exact Nat.bitwise_lt_two_pow HXB.out HYB.out
  have HM2 : Hid (mm = M + if sg then 1 else 0) := by rw [← HMM.out, ← HSG.out]; exact HM.out
  have HBIT : Hid (∀ i : Nat, (bop o (decide ((p) / 2 ^ i % 2 = 1) != false) (decide ((q) / 2 ^ i % 2 = 1) != false) != sg) = M.testBit i) := fun i => by rw [← HMM.out, ← HSG.out]; exact bmag_bit2
  clear HM
  obtain ⟨i0, hi0, hz0, hz1, hz2⟩ := info_parts info_i64
  have HI := Lib.hid hi0
  have HZ0 := Lib.hid hz0
  have HZ1 := Lib.hid hz1
  have HZ2 := Lib.hid hz2
  clear hi0 hz0 hz1 hz2
  have HB1 : Hid (∀ (W : World), Calls Tryz.prog 51 #[.int .u8 (opc o), .bool false, .bool false] W fun e w' => e = .returned (.bool sg) ∧ W = w') := fun W => by rw [← HSG.out]; exact HBO.out _ _ W
  go_wp2_with fail
  generalize (((w.alloc (.cells #[.bool false, .slice A1 n1 c1, .slice A2 n2 c2] 43)).alloc (.cells #[.bool false, .slice B1 m1 d1, .slice B2 m2 d2] 43)).alloc (.cells #[.bool false, .slice none 0 0, .slice none 0 0] 43)).drew = w1 at *
  refine (HB1.out _).mono ?_
  rintro e w5 ⟨rfl, rfl⟩
  clear ka0 ka1 kb0 kb1
  go_wp2_with (at_make; refine wpList_make_full _ rfl _ _ 41 rfl w1.heap.size 3 i0 (.int .i64 0) 1 Tryz.underlying41 HI.out HZ0.out HZ1.out .i64 .i64 _ _ N rfl rfl (by omega) (by omega) (by rw [HZ2.out]; omega) (by unfold maxLen; omega) (Nat.le_refl _) ?_; intro w6 hown1 hg1)
  have HO6 := Lib.hid (Own.made hown1)
  have HB6 := Lib.hid ((Below.refl w1.heap.size w1).grown hg1 (Nat.le_refl _) (by simp))
  have HX := Lib.hid Nx.out
  have HY := Lib.hid Ny.out
  clear hown1 hg1 Nx Ny NA NB
  go_loopg [12] (16 * N) (fun gk s12 wr => ∃ (j : Nat) (out : List Nat), gk + j = 16 * N ∧ s12 = .int .i64 (j : Int) ∧ Hid (Own .i64 3 wr w1.heap.size w1.heap.size N N out) ∧ Hid (Below w1.heap.size w1 wr) ∧ Hid (val W16 out = M % 2 ^ j) ∧ Hid (Ok W16 out))
  case atStart => exact ⟨0, List.replicate N 0, by omega, rfl, HO6.out, HB6.out, by unfold Hid; rw [val_replicate, Nat.pow_zero, Nat.mod_one], ok_replicate (by decide)⟩
  case round =>
    obtain ⟨j, out, hgj, rfl, HO, HB, HV, HOK⟩ := hrel
    by_cases hj : j < 16 * N
    · obtain ⟨k, s, hk, hs, hs16, HKS⟩ : ∃ k s : Nat, (j : Int) / 16 = (k : Int) ∧ (j : Int) % 16 = (s : Int) ∧ s < 16 ∧ Hid (j / 16 = k ∧ j % 16 = s) := ⟨j / 16, j % 16, by omega, by omega, by omega, rfl, rfl⟩
      have hkn : k < N := by have := HKS.out.1; omega
      have hjw : IntKind.i64.wrap (16 * (N : Int)) = 16 * (N : Int) := by rw [IntKind.wrap_i64]; omega
      obtain ⟨d, HDE⟩ : ∃ d, Hid (out.getD k 0 = d) := ⟨_, rfl⟩
      have hd : d < 2 ^ s := by rw [← HDE.out]; exact limb_lt (by rw [HV.out]; exact Nat.mod_lt _ (Nat.pow_pos (by omega))) HKS.out.1 HKS.out.2
      obtain ⟨pw, dp, hpw, hpw2, hpwb, HPW⟩ : ∃ pw dp : Nat, IntKind.i64.wrap ((2 : Int) ^ s) = (pw : Int) ∧ bits .or .i64 (d : Int) (pw : Int) = (dp : Int) ∧ dp < 65536 ∧ Hid (dp = d + 2 ^ s) := by
        have h3 : (2 : Nat) ^ s ≤ 2 ^ 15 := Nat.pow_le_pow_right (by omega) (by omega)
        refine ⟨2 ^ s, d + 2 ^ s, ?_, ?_, by omega, rfl⟩
        · rw [← pow32]
          generalize (2 : Nat) ^ s = gg at *
          rw [IntKind.wrap_i64]; omega
        · rw [or_i64 _ _ (by omega) (by omega), or_bit2 hd]
      have hcell : wr.cell? ⟨w1.heap.size, k, none⟩ = some (.int .i64 (d : Int)) := by rw [← HDE.out]; exact HO.out.cell hkn
      have hfr := HO.out.frozen k
      obtain ⟨tb, hbit, HTB⟩ : ∃ tb, (bop o (decide ((p) / 2 ^ j % 2 = 1) != false) (decide ((q) / 2 ^ j % 2 = 1) != false) != sg) = tb ∧ Hid (M.testBit j = tb) := ⟨_, HBIT.out j, rfl⟩
      have hb1 := Nat.mod_two_eq_zero_or_one ((p) / 2 ^ j)
      have hb2 := Nat.mod_two_eq_zero_or_one ((q) / 2 ^ j)
      have KA := KA.out.to HB.out
      have KB := KB.out.to HB.out
      have ka0 := KA.cell 0
      have kb0 := KB.cell 0
      simp only [List.getElem?_toArray, List.getElem?_cons_zero, List.getElem?_cons_succ] at ka0 kb0
      clear KA KB
      have HCX : Hid (Calls Tryz.prog 45 #[.slice A1 n1 c1, .int .i64 (j : Int)] wr.drew fun e w' => e = .returned (.int .i64 ((((p) / 2 ^ j % 2 : Nat)) : Int)) ∧ wr.drew = w') := rbit_any _ j _ wr.drew (HX.out.to HB.out.drew) (by omega)
      have HCY : Hid (Calls Tryz.prog 45 #[.slice B1 m1 d1, .int .i64 (j : Int)] wr.drew fun e w' => e = .returned (.int .i64 ((((q) / 2 ^ j % 2 : Nat)) : Int)) ∧ wr.drew = w') := rbit_any _ j _ wr.drew (HY.out.to HB.out.drew) (by omega)
      have hdpos : d < 65536 := by have := HPW.out; omega
      clear hd
      rcases hb1 with hb1 | hb1
      · rcases hb2 with hb2 | hb2
        ·
          rw [hb1] at HCX hbit
          rw [hb2] at HCY hbit
          obtain ⟨z, HZ⟩ : ∃ z, Hid (bop o false false = z) := ⟨_, rfl⟩
          have HB2 : Hid (∀ (W : World), Calls Tryz.prog 51 #[.int .u8 (opc o), .bool false, .bool false] W fun e w' => e = .returned (.bool z) ∧ W = w') := fun W => by rw [← HZ.out]; exact HBO.out _ _ W
          have hz : (!(z == sg)) = tb := by rw [← HZ.out]; exact hbit
          clear hbit hb1 hb2
          cases tb with
          | true =>
            go_wp2_with fail
            go_region_held3 (fun w' => w'.cell? ⟨w.heap.size, 0, none⟩ = some (.bool false) ∧ w'.cell? ⟨w.heap.size + 1, 0, none⟩ = some (.bool false))
              (go_keep)
              (first
                | (go_at_call 45; ((with_reducible refine HCX.out.mono ?_)); rintro e y1 ⟨rfl, rfl⟩)
                | (go_at_call 45; ((with_reducible refine HCY.out.mono ?_)); rintro e y2 ⟨rfl, rfl⟩)
                | (go_at_call 51; ((with_reducible refine (HB2.out _).mono ?_)); rintro e y3 ⟨rfl, rfl⟩))
            all_goals go_wp2_with fail
            all_goals go_region
            all_goals go_wp2_with fail
            all_goals go_roundg (gk - 1)
            all_goals (first | (show _ < _; omega) | skip)
            all_goals
              refine ⟨j + 1, out.set k dp, by omega, by go_num, (HO.out.stored k dp).drew, (HB.out.setCell (p := ⟨w1.heap.size, k, none⟩) (Nat.le_refl _) _).drew.drew, ?_, HOK.out.set hpwb⟩
              unfold Hid
              rw [mod_bit, HTB.out, HPW.out, ← HDE.out, set_bit2 (by rw [HO.out.1]; exact hkn) HKS.out.1 HKS.out.2, HV.out]
              rfl
          | false =>
            go_wp2_with fail
            go_region_held3 (fun w' => w'.cell? ⟨w.heap.size, 0, none⟩ = some (.bool false) ∧ w'.cell? ⟨w.heap.size + 1, 0, none⟩ = some (.bool false))
              (go_keep)
              (first
                | (go_at_call 45; ((with_reducible refine HCX.out.mono ?_)); rintro e y1 ⟨rfl, rfl⟩)
                | (go_at_call 45; ((with_reducible refine HCY.out.mono ?_)); rintro e y2 ⟨rfl, rfl⟩)
                | (go_at_call 51; ((with_reducible refine (HB2.out _).mono ?_)); rintro e y3 ⟨rfl, rfl⟩))
            all_goals go_wp2_with fail
            all_goals go_roundg (gk - 1)
            all_goals (first | (show _ < _; omega) | skip)
            all_goals
              refine ⟨j + 1, out, by omega, by go_num, HO.out.drew, HB.out.drew, ?_, HOK.out⟩
              unfold Hid
              rw [mod_bit, HTB.out, HV.out]
              rfl
        ·
          rw [hb1] at HCX hbit
          rw [hb2] at HCY hbit
          obtain ⟨z, HZ⟩ : ∃ z, Hid (bop o false true = z) := ⟨_, rfl⟩
          have HB2 : Hid (∀ (W : World), Calls Tryz.prog 51 #[.int .u8 (opc o), .bool false, .bool true] W fun e w' => e = .returned (.bool z) ∧ W = w') := fun W => by rw [← HZ.out]; exact HBO.out _ _ W
          have hz : (!(z == sg)) = tb := by rw [← HZ.out]; exact hbit
          clear hbit hb1 hb2
          cases tb with
          | true =>
            go_wp2_with fail
            go_region_held3 (fun w' => w'.cell? ⟨w.heap.size, 0, none⟩ = some (.bool false) ∧ w'.cell? ⟨w.heap.size + 1, 0, none⟩ = some (.bool false))
              (go_keep)
              (first
                | (go_at_call 45; ((with_reducible refine HCX.out.mono ?_)); rintro e y1 ⟨rfl, rfl⟩)
                | (go_at_call 45; ((with_reducible refine HCY.out.mono ?_)); rintro e y2 ⟨rfl, rfl⟩)
                | (go_at_call 51; ((with_reducible refine (HB2.out _).mono ?_)); rintro e y3 ⟨rfl, rfl⟩))
            all_goals go_wp2_with fail
            all_goals go_region
            all_goals go_wp2_with fail
            all_goals go_roundg (gk - 1)
            all_goals (first | (show _ < _; omega) | skip)
            all_goals
              refine ⟨j + 1, out.set k dp, by omega, by go_num, (HO.out.stored k dp).drew, (HB.out.setCell (p := ⟨w1.heap.size, k, none⟩) (Nat.le_refl _) _).drew.drew, ?_, HOK.out.set hpwb⟩
              unfold Hid
              rw [mod_bit, HTB.out, HPW.out, ← HDE.out, set_bit2 (by rw [HO.out.1]; exact hkn) HKS.out.1 HKS.out.2, HV.out]
              rfl
          | false =>
            go_wp2_with fail
            go_region_held3 (fun w' => w'.cell? ⟨w.heap.size, 0, none⟩ = some (.bool false) ∧ w'.cell? ⟨w.heap.size + 1, 0, none⟩ = some (.bool false))
              (go_keep)
              (first
                | (go_at_call 45; ((with_reducible refine HCX.out.mono ?_)); rintro e y1 ⟨rfl, rfl⟩)
                | (go_at_call 45; ((with_reducible refine HCY.out.mono ?_)); rintro e y2 ⟨rfl, rfl⟩)
                | (go_at_call 51; ((with_reducible refine (HB2.out _).mono ?_)); rintro e y3 ⟨rfl, rfl⟩))
            all_goals go_wp2_with fail
            all_goals go_roundg (gk - 1)
            all_goals (first | (show _ < _; omega) | skip)
            all_goals
              refine ⟨j + 1, out, by omega, by go_num, HO.out.drew, HB.out.drew, ?_, HOK.out⟩
              unfold Hid
              rw [mod_bit, HTB.out, HV.out]
              rfl
      · rcases hb2 with hb2 | hb2
        ·
          rw [hb1] at HCX hbit
          rw [hb2] at HCY hbit
          obtain ⟨z, HZ⟩ : ∃ z, Hid (bop o true false = z) := ⟨_, rfl⟩
          have HB2 : Hid (∀ (W : World), Calls Tryz.prog 51 #[.int .u8 (opc o), .bool true, .bool false] W fun e w' => e = .returned (.bool z) ∧ W = w') := fun W => by rw [← HZ.out]; exact HBO.out _ _ W
          have hz : (!(z == sg)) = tb := by rw [← HZ.out]; exact hbit
          clear hbit hb1 hb2
          cases tb with
          | true =>
            go_wp2_with fail
            go_region_held3 (fun w' => w'.cell? ⟨w.heap.size, 0, none⟩ = some (.bool false) ∧ w'.cell? ⟨w.heap.size + 1, 0, none⟩ = some (.bool false))
              (go_keep)
              (first
                | (go_at_call 45; ((with_reducible refine HCX.out.mono ?_)); rintro e y1 ⟨rfl, rfl⟩)
                | (go_at_call 45; ((with_reducible refine HCY.out.mono ?_)); rintro e y2 ⟨rfl, rfl⟩)
                | (go_at_call 51; ((with_reducible refine (HB2.out _).mono ?_)); rintro e y3 ⟨rfl, rfl⟩))
            all_goals go_wp2_with fail
            all_goals go_region
            all_goals go_wp2_with fail
            all_goals go_roundg (gk - 1)
            all_goals (first | (show _ < _; omega) | skip)
            all_goals
              refine ⟨j + 1, out.set k dp, by omega, by go_num, (HO.out.stored k dp).drew, (HB.out.setCell (p := ⟨w1.heap.size, k, none⟩) (Nat.le_refl _) _).drew.drew, ?_, HOK.out.set hpwb⟩
              unfold Hid
              rw [mod_bit, HTB.out, HPW.out, ← HDE.out, set_bit2 (by rw [HO.out.1]; exact hkn) HKS.out.1 HKS.out.2, HV.out]
              rfl
          | false =>
            go_wp2_with fail
            go_region_held3 (fun w' => w'.cell? ⟨w.heap.size, 0, none⟩ = some (.bool false) ∧ w'.cell? ⟨w.heap.size + 1, 0, none⟩ = some (.bool false))
              (go_keep)
              (first
                | (go_at_call 45; ((with_reducible refine HCX.out.mono ?_)); rintro e y1 ⟨rfl, rfl⟩)
                | (go_at_call 45; ((with_reducible refine HCY.out.mono ?_)); rintro e y2 ⟨rfl, rfl⟩)
                | (go_at_call 51; ((with_reducible refine (HB2.out _).mono ?_)); rintro e y3 ⟨rfl, rfl⟩))
            all_goals go_wp2_with fail
            all_goals go_roundg (gk - 1)
            all_goals (first | (show _ < _; omega) | skip)
            all_goals
              refine ⟨j + 1, out, by omega, by go_num, HO.out.drew, HB.out.drew, ?_, HOK.out⟩
              unfold Hid
              rw [mod_bit, HTB.out, HV.out]
              rfl
        ·
          rw [hb1] at HCX hbit
          rw [hb2] at HCY hbit
          obtain ⟨z, HZ⟩ : ∃ z, Hid (bop o true true = z) := ⟨_, rfl⟩
          have HB2 : Hid (∀ (W : World), Calls Tryz.prog 51 #[.int .u8 (opc o), .bool true, .bool true] W fun e w' => e = .returned (.bool z) ∧ W = w') := fun W => by rw [← HZ.out]; exact HBO.out _ _ W
          have hz : (!(z == sg)) = tb := by rw [← HZ.out]; exact hbit
          clear hbit hb1 hb2
          cases tb with
          | true =>
            go_wp2_with fail
            go_region_held3 (fun w' => w'.cell? ⟨w.heap.size, 0, none⟩ = some (.bool false) ∧ w'.cell? ⟨w.heap.size + 1, 0, none⟩ = some (.bool false))
              (go_keep)
              (first
                | (go_at_call 45; ((with_reducible refine HCX.out.mono ?_)); rintro e y1 ⟨rfl, rfl⟩)
                | (go_at_call 45; ((with_reducible refine HCY.out.mono ?_)); rintro e y2 ⟨rfl, rfl⟩)
                | (go_at_call 51; ((with_reducible refine (HB2.out _).mono ?_)); rintro e y3 ⟨rfl, rfl⟩))
            all_goals go_wp2_with fail
            all_goals go_region
            all_goals go_wp2_with fail
            all_goals go_roundg (gk - 1)
            all_goals (first | (show _ < _; omega) | skip)
            all_goals
              refine ⟨j + 1, out.set k dp, by omega, by go_num, (HO.out.stored k dp).drew, (HB.out.setCell (p := ⟨w1.heap.size, k, none⟩) (Nat.le_refl _) _).drew.drew, ?_, HOK.out.set hpwb⟩
              unfold Hid
              rw [mod_bit, HTB.out, HPW.out, ← HDE.out, set_bit2 (by rw [HO.out.1]; exact hkn) HKS.out.1 HKS.out.2, HV.out]
              rfl
          | false =>
            go_wp2_with fail
            go_region_held3 (fun w' => w'.cell? ⟨w.heap.size, 0, none⟩ = some (.bool false) ∧ w'.cell? ⟨w.heap.size + 1, 0, none⟩ = some (.bool false))
              (go_keep)
              (first
                | (go_at_call 45; ((with_reducible refine HCX.out.mono ?_)); rintro e y1 ⟨rfl, rfl⟩)
                | (go_at_call 45; ((with_reducible refine HCY.out.mono ?_)); rintro e y2 ⟨rfl, rfl⟩)
                | (go_at_call 51; ((with_reducible refine (HB2.out _).mono ?_)); rintro e y3 ⟨rfl, rfl⟩))
            all_goals go_wp2_with fail
            all_goals go_roundg (gk - 1)
            all_goals (first | (show _ < _; omega) | skip)
            all_goals
              refine ⟨j + 1, out, by omega, by go_num, HO.out.drew, HB.out.drew, ?_, HOK.out⟩
              unfold Hid
              rw [mod_bit, HTB.out, HV.out]
              rfl
    · obtain rfl : j = 16 * N := by omega
      have HVM : Hid (val W16 out = M) := by unfold Hid; rw [HV.out, Nat.mod_eq_of_lt HML.out]
      have KC := Lib.hid (KC.out.to HB.out)
      have HBE : Hid (Below w.heap.size w wr) := HBE.out.trans (HB.out.mono HBE.out.size)
      have hMd : (digs W16 M).length ≤ 1000 := Nat.le_trans (digs_len_le (k := N) W16_gt (by rw [show W16 = 2 ^ 16 from rfl, ← Nat.pow_mul]; exact HML.out)) (by omega)
      have HTR : Hid (∀ (W : World), Sl .i64 W (.slice (some ⟨w1.heap.size, 0, none⟩) N N) out → Calls Tryz.prog 52 #[.slice (some ⟨w1.heap.size, 0, none⟩) N N] W fun e w' => ∃ v', e = .returned v' ∧ Nat16 W v' M ∧ W = w') := fun W h => by
        have := rtrim_any out _ W h HOK.out
        rw [HVM.out] at this
        exact this
      have HSL : Hid (Sl .i64 wr (.slice (some ⟨w1.heap.size, 0, none⟩) N N) out) := by have h := HO.out.sl; exact h
      have hjw : IntKind.i64.wrap (16 * (N : Int)) = 16 * (N : Int) := by rw [IntKind.wrap_i64]; omega
      have HMD := Lib.hid hMd
      clear hMd hj hgj HX HY
      cases sg with
      | false =>
        have HWM : Hid (∀ (W : World) (v : Value), Nat16 W v M → Calls Tryz.prog 23 #[.bool false, v] W (RVPost W sx mm 1)) := fun W v h => by
          rw [← HSX.out]
          have e : mm = M := HM2.out
          rw [e]
          exact HWK.out false M W v h
        go_wp2_with fail
        refine (HTR.out _ HSL.out).mono ?_
        rintro e w7 ⟨v7, rfl, hn7, rfl⟩
        go_wp2_with fail
        refine (HWM.out _ _ hn7).mono ?_
        rintro e w9 ⟨v9, rfl, hr3, hb3⟩
        have KB3 := Lib.hid (KC.out.to hb3)
        have HBE3 : Hid (Below w.heap.size w w9) := HBE.out.trans (hb3.mono HBE.out.size)
        have R3 := Lib.hid hr3
        obtain ⟨C1, q1, r1, C2, q2, r2, rfl, hz1, hz2⟩ := hr3.form
        clear hb3 hr3 hz1 hz2
        have cc0 := KB3.out.cell 0
        have cc1 := KB3.out.cell 1
        have cc2 := KB3.out.cell 2
        simp only [List.getElem?_toArray, List.getElem?_cons_zero, List.getElem?_cons_succ] at cc0 cc1 cc2
        have fc0 := KB3.out.frozen 0
        have fc1 := KB3.out.frozen 1
        have fc2 := KB3.out.frozen 2
        go_wp2_with fail
        refine bodyPost_ret (v := .agg #[.bool sx, .slice C1 q1 r1, .slice C2 q2 r2]) (by rw [results_cellA rfl]; go_simp) rfl ?_
        exact ⟨_, rfl, R3.out.put3 KB3.out _ _ _, put3_below HBE3.out (by omega) _ _ _⟩
      | true =>
        have HWM : Hid (∀ (W : World) (v : Value), Nat16 W v (M + 1) → Calls Tryz.prog 23 #[.bool true, v] W (RVPost W sx mm 1)) := fun W v h => by
          rw [← HSX.out]
          have e : mm = M + 1 := HM2.out
          rw [e]
          exact HWK.out true (M + 1) W v h
        go_wp2_with fail
        refine (HTR.out _ HSL.out).mono ?_
        rintro e w7 ⟨v7, rfl, hn7, rfl⟩
        go_wp2_with fail
        refine (HAD.out M _ _ _ HMD.out (by exact hn7.to (below_one _ _)) (by exact one16' _ _ rfl)).mono ?_
        rintro e w8 ⟨v8, rfl, hn8, hb8⟩
        have HB8 := (below_one _ _).trans (hb8.mono (below_one _ _).size)
        have KC := Lib.hid (KC.out.to HB8)
        have HBE : Hid (Below w.heap.size w w8) := HBE.out.trans (HB8.mono HBE.out.size)
        clear hb8 HB8
        go_wp2_with fail
        refine (HWM.out _ _ hn8).mono ?_
        rintro e w9 ⟨v9, rfl, hr3, hb3⟩
        have KB3 := Lib.hid (KC.out.to hb3)
        have HBE3 : Hid (Below w.heap.size w w9) := HBE.out.trans (hb3.mono HBE.out.size)
        have R3 := Lib.hid hr3
        obtain ⟨C1, q1, r1, C2, q2, r2, rfl, hz1, hz2⟩ := hr3.form
        clear hb3 hr3 hz1 hz2
        have cc0 := KB3.out.cell 0
        have cc1 := KB3.out.cell 1
        have cc2 := KB3.out.cell 2
        simp only [List.getElem?_toArray, List.getElem?_cons_zero, List.getElem?_cons_succ] at cc0 cc1 cc2
        have fc0 := KB3.out.frozen 0
        have fc1 := KB3.out.frozen 1
        have fc2 := KB3.out.frozen 2
        go_wp2_with fail
        refine bodyPost_ret (v := .agg #[.bool sx, .slice C1 q1 r1, .slice C2 q2 r2]) (by rw [results_cellA rfl]; go_simp) rfl ?_
        exact ⟨_, rfl, R3.out.put3 KB3.out _ _ _, put3_below HBE3.out (by omega) _ _ _⟩

/-- For any signs. -/
theorem rbits_any (o : Nat) (ho : o < 3) (na nb : Bool) (p q : Nat) (va vb : Value) (w : World) (ha : RV w va na p 1) (hb : RV w vb nb q 1) (hp : (digs W16 p).length ≤ 256) (hq : (digs W16 q).length ≤ 256) (hna : na = true → 0 < p) (hnb : nb = true → 0 < q) :
    Calls Tryz.prog 27 #[.int .u8 (opc o), va, vb] w (RVPost w (bop o na nb && decide (0 < rbM o na nb p q)) (rbM o na nb p q) 1) := by
  cases na with
  | true =>
    cases nb with
    | true => exact rbits_tt o ho p q va vb w ha hb hp hq (hna rfl) (hnb rfl)
    | false => exact rbits_tf o ho p q va vb w ha hb hp hq (hna rfl)
  | false =>
    cases nb with
    | true => exact rbits_ft o ho p q va vb w ha hb hp hq (hnb rfl)
    | false => exact rbits_ff o ho p q va vb w ha hb hp hq
end Go.Proofs.YtdmhkhnnomdkcaaGreatDoor
