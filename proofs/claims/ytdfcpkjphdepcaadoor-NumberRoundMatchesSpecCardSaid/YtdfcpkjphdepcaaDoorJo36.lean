/- number.Round at the mode Nearest. number.Sign; fetterlocklaw1.same. The frame of a law: arguments read again, the post where only new memory was made; a number that came in, opened. -/
import Derived.Test.YtdfcpkjphdepcaaDoorRows
import Derived.WalkKit
import Derived.ProofKit
import Derived.OpenShut
import Derived.Lib.SmallJoins
import Derived.Deep.DeepHandedRow
import Derived.Lay
import Derived.Test.YtdfcpkjphdepcaaDoorJo2
import Derived.Test.YtdfcpkjphdepcaaDoorJo21
import Derived.Test.YtdfcpkjphdepcaaDoorJo33
set_option linter.unusedVariables false
set_option linter.unusedSimpArgs false
namespace Go.Proofs.YtdfcpkjphdepcaaDoor
open Go.RowKit NumB
set_option linter.unusedVariables false
set_option linter.unusedSimpArgs false

def numZ4 : Array Value := #[.bool false, .slice none 0 0, .slice none 0 0]
theorem nats_three {w : World} {A B C : Value} {x y z : Nat} (ha : Nat32 w A x) (hb : Nat32 w B y) (hc : Nat32 w C z) (t : TypeId) : Nats (w.alloc (.cells #[A, B, C] t)) w.heap.size 0 [x, y, z] := by
  refine ⟨by simp, fun i hi => ?_⟩
  have hk := Blk.new w t #[A, B, C]
  rcases i with _ | _ | _ | i
  · exact ⟨A, hk.cell 0, ha.to (below_one _ _)⟩
  · exact ⟨B, hk.cell 1, hb.to (below_one _ _)⟩
  · exact ⟨C, hk.cell 2, hc.to (below_one _ _)⟩
  · simp at hi; omega
theorem nats_three' {w : World} {A B C : Value} {x y z g : Nat} (hg : w.heap.size = g) (ha : Nat32 w A x) (hb : Nat32 w B y) (hc : Nat32 w C z) (t : TypeId) : Nats (w.alloc (.cells #[A, B, C] t)) g 0 [x, y, z] := by subst hg; exact nats_three ha hb hc t
theorem Nats.to {w w' : World} {b o : Nat} {ns : List Nat} (h : Nats w b o ns) (hb : Below w.heap.size w w') : Nats w' b o ns :=
  ⟨Nat.lt_of_lt_of_le h.1 hb.size, fun i hi => by
    obtain ⟨v, h1, h2⟩ := h.2 i hi
    exact ⟨v, (hb.cell (p := ⟨b, o + i, none⟩) h.1).trans h1, h2.to hb⟩⟩

set_option maxRecDepth 1000000 in
set_option maxHeartbeats 12800000 in
theorem round4_S (a : LN) (va : Value) (w : World) (ga : GV w va a) : Calls Tryd.prog 17 #[va, .int .i64 4] w (SPost w (roundS 4 a)) := by
  have HO := Lib.hid ga.ok
  have hbd : 0 ≤ a.err ∧ a.err ≤ 3 := checkL_bd _ _ _
  have HCK := Lib.hid (fun (W : World) (u : Value) (h : GV W u a) => check_S a u W h)
  obtain ⟨B1, m1, d1, B2, m2, d2, rfl, hq1, hq2⟩ := ga.form
  clear hq1 hq2
  have KA := Lib.hid ((blk2 w 24 24 #[.bool a.neg, .slice B1 m1 d1, .slice B2 m2 d2] #[.bool false, .slice none 0 0, .slice none 0 0]).1)
  have KC := Lib.hid ((blk2 w 24 24 #[.bool a.neg, .slice B1 m1 d1, .slice B2 m2 d2] #[.bool false, .slice none 0 0, .slice none 0 0]).2)
  have GA := Lib.hid (ga.to (below_two w (.cells #[.bool a.neg, .slice B1 m1 d1, .slice B2 m2 d2] 24) (.cells #[.bool false, .slice none 0 0, .slice none 0 0] 24)))
  have HBE := Lib.hid (below_two w (.cells #[.bool a.neg, .slice B1 m1 d1, .slice B2 m2 d2] 24) (.cells #[.bool false, .slice none 0 0, .slice none 0 0] 24))
  clear ga
  by_cases e0 : a.err = 0
  rotate_left
  · have b0 : (a.err != 0) = true := by rw [bne_iff_ne]; exact e0
    have HRE : Hid (roundS 4 a = (zeroL, a.err)) := by unfold Hid roundS; rw [if_neg e0]
    generalize roundS 4 a = r at *
    generalize a.err = z at *
    clear e0
    go_enter Tryd.func17, Tryd.ntmps17
    go_wp2_with fail
    refine (HCK.out _ _ (by exact GA.out)).mono ?_
    rintro e w1 ⟨rfl, hb⟩
    have KA := Lib.hid (KA.out.to hb)
    have KC := Lib.hid (KC.out.to hb)
    have GA := Lib.hid (GA.out.to hb)
    have HBE : Hid (Below w.heap.size w w1) := HBE.out.trans ((hb).mono HBE.out.size)
    clear hb
    have kc0 := KC.out.cell 0
    have kc1 := KC.out.cell 1
    have kc2 := KC.out.cell 2
    simp only [List.getElem?_toArray, List.getElem?_cons_zero, List.getElem?_cons_succ] at kc0 kc1 kc2
    have fzkc0 := KC.out.frozen 0
    have fzkc1 := KC.out.frozen 1
    have fzkc2 := KC.out.frozen 2
    go_wp2_with fail
    refine bodyPost_ret (v := .tuple #[zeroNum, .int .i64 z]) (by rw [results_cell_tmp rfl]; go_simp; rfl) rfl ?_
    rw [HRE.out]
    exact ⟨_, rfl, GV.zero _, put3_below HBE.out (by omega) _ _ _⟩
  obtain ⟨p1, p2, p3, p4, hcan⟩ := LN.good HO.out e0
  have HX : Hid (∀ W, GV W (.agg #[.bool a.neg, .slice B1 m1 d1, .slice B2 m2 d2]) a → Nat32 W (.slice B1 m1 d1) a.x ∧ Nat32 W (.slice B2 m2 d2) a.y) := fun W h => by unfold Nat32; rw [p1, p2]; exact ⟨h.parts.2.1, h.parts.2.2.1⟩
  have HL : Hid ((digs W32 a.x).length ≤ 128 ∧ (digs W32 a.y).length ≤ 128 ∧ 0 < a.y) := ⟨by rw [p1]; exact p3, by rw [p2]; exact p4, hcan.1⟩
  have HRE : Hid (roundS 4 a = fracS 0 a.neg (rnd 4 a) 1) := by unfold Hid roundS; rw [if_pos e0, if_pos (by decide)]
  have HWH : Hid (∀ (W : World) (u : Value), Nat32 W u (rnd 4 a) → Calls Tryd.prog 21 #[.bool a.neg, u] W (SPost W (roundS 4 a))) := fun W u h => by
    rw [HRE.out]
    exact whole_S a.neg _ u W h (Nat.le_trans (rnd_len HL.out.2.2 HL.out.1 HL.out.2.1) (by omega))
  have hl1 : (digs W32 (a.x + a.x + a.y)).length ≤ 130 := digs_len_add (n := 129) (digs_len_add HL.out.1 HL.out.1) (by have := HL.out; omega)
  have hl2 : (digs W32 (a.y + a.y)).length ≤ 129 := digs_len_add HL.out.2.1 HL.out.2.1
  have HFL : Hid (∀ (W : World) (u v : Value), Nat32 W u (a.x + a.x + a.y) → Nat32 W v (a.y + a.y) → Calls Tryd.prog 46 #[.bool false, u, v, .bool false] W fun e w' => ∃ v, e = .returned v ∧ Nat32 w' v (rnd 4 a) ∧ Below W.heap.size W w') := fun W u v h1 h2 => by
    have := floored_any false false (a.x + a.x + a.y) (a.y + a.y) u v W h1 h2 (by omega) (by have := HL.out; omega)
    rw [show flo (false && false) (a.x + a.x + a.y) (a.y + a.y) = rnd 4 a by unfold rnd; rw [if_neg (by decide), if_neg (by decide), if_neg (by decide), Bool.and_false, flo_false]] at this
    exact this
  have HA3 : Hid (∀ (W : World) (b : Nat), Nats W b 0 [a.x, a.x, a.y] → Calls Tryd.prog 47 #[.slice (some ⟨b, 0, none⟩) 3 3] W (NPost W (a.x + a.x + a.y))) := fun W b h => by
    have e : [a.x, a.x, a.y].sum = a.x + a.x + a.y := by simp; omega
    have := add_any [a.x, a.x, a.y] b 0 3 3 W rfl h (by rw [e]; omega) (by omega)
    rw [e] at this
    exact this
  have HA2 : Hid (∀ (W : World) (b : Nat), Nats W b 0 [a.y, a.y] → Calls Tryd.prog 47 #[.slice (some ⟨b, 0, none⟩) 2 2] W (NPost W (a.y + a.y))) := fun W b h => by
    have e : [a.y, a.y].sum = a.y + a.y := by simp
    have := add_any [a.y, a.y] b 0 2 2 W rfl h (by rw [e]; omega) (by omega)
    rw [e] at this
    exact this
  rw [e0] at HCK
  generalize roundS 4 a = r at *
  generalize rnd 4 a = q at *
  clear e0 p1 p2 p3 p4 hcan hbd HRE HO hl1 hl2
  go_enter Tryd.func17, Tryd.ntmps17
  go_wp2_with fail
  refine (HCK.out _ _ (by exact GA.out)).mono ?_
  rintro e w1 ⟨rfl, hb⟩
  have KA := Lib.hid (KA.out.to hb)
  have KC := Lib.hid (KC.out.to hb)
  have GA := Lib.hid (GA.out.to hb)
  have HBE : Hid (Below w.heap.size w w1) := HBE.out.trans ((hb).mono HBE.out.size)
  clear hb
  have hlt := KA.out.lt
  have hlt2 := KC.out.lt
  have ka0 := KA.out.cell 0
  have ka1 := KA.out.cell 1
  have ka2 := KA.out.cell 2
  simp only [List.getElem?_toArray, List.getElem?_cons_zero, List.getElem?_cons_succ] at ka0 ka1 ka2
  have GX := Lib.hid (HX.out _ GA.out)
  have HK : Hid (∀ W1 W' : World, Below W1.heap.size W1 W' → (W1.cell? ⟨w.heap.size, 0, none⟩ = some (.bool a.neg) ∧ W1.cell? ⟨w.heap.size, 1, none⟩ = some (.slice B1 m1 d1) ∧ W1.cell? ⟨w.heap.size, 2, none⟩ = some (.slice B2 m2 d2) ∧ w.heap.size < W1.heap.size) → (W'.cell? ⟨w.heap.size, 0, none⟩ = some (.bool a.neg) ∧ W'.cell? ⟨w.heap.size, 1, none⟩ = some (.slice B1 m1 d1) ∧ W'.cell? ⟨w.heap.size, 2, none⟩ = some (.slice B2 m2 d2) ∧ w.heap.size < W'.heap.size)) := fun W1 W' h1 ⟨a0, a1, a2, a3⟩ => ⟨(h1.cell (p := ⟨w.heap.size, 0, none⟩) a3).trans a0, (h1.cell (p := ⟨w.heap.size, 1, none⟩) a3).trans a1, (h1.cell (p := ⟨w.heap.size, 2, none⟩) a3).trans a2, Nat.lt_of_lt_of_le a3 h1.size⟩
  have HKA : Hid (∀ (W1 : World) (o : Obj), (W1.cell? ⟨w.heap.size, 0, none⟩ = some (.bool a.neg) ∧ W1.cell? ⟨w.heap.size, 1, none⟩ = some (.slice B1 m1 d1) ∧ W1.cell? ⟨w.heap.size, 2, none⟩ = some (.slice B2 m2 d2) ∧ w.heap.size < W1.heap.size) → ((W1.alloc o).cell? ⟨w.heap.size, 0, none⟩ = some (.bool a.neg) ∧ (W1.alloc o).cell? ⟨w.heap.size, 1, none⟩ = some (.slice B1 m1 d1) ∧ (W1.alloc o).cell? ⟨w.heap.size, 2, none⟩ = some (.slice B2 m2 d2) ∧ w.heap.size < (W1.alloc o).heap.size)) := fun W1 o h => HK.out W1 _ (below_one W1 o) h
  have HKB : Hid (∀ (W1 : World) (o : Obj), (W1.cell? ⟨w.heap.size, 0, none⟩ = some (.bool a.neg) ∧ W1.cell? ⟨w.heap.size, 1, none⟩ = some (.slice B1 m1 d1) ∧ W1.cell? ⟨w.heap.size, 2, none⟩ = some (.slice B2 m2 d2) ∧ w.heap.size < W1.heap.size) → ((W1.alloc o).drew.cell? ⟨w.heap.size, 0, none⟩ = some (.bool a.neg) ∧ (W1.alloc o).drew.cell? ⟨w.heap.size, 1, none⟩ = some (.slice B1 m1 d1) ∧ (W1.alloc o).drew.cell? ⟨w.heap.size, 2, none⟩ = some (.slice B2 m2 d2) ∧ w.heap.size < (W1.alloc o).drew.heap.size)) := fun W1 o h => HKA.out W1 o h
  have HKC : Hid (∀ (W1 : World) (o o2 : Obj), (W1.cell? ⟨w.heap.size, 0, none⟩ = some (.bool a.neg) ∧ W1.cell? ⟨w.heap.size, 1, none⟩ = some (.slice B1 m1 d1) ∧ W1.cell? ⟨w.heap.size, 2, none⟩ = some (.slice B2 m2 d2) ∧ w.heap.size < W1.heap.size) → (((W1.alloc o).alloc o2).drew.cell? ⟨w.heap.size, 0, none⟩ = some (.bool a.neg) ∧ ((W1.alloc o).alloc o2).drew.cell? ⟨w.heap.size, 1, none⟩ = some (.slice B1 m1 d1) ∧ ((W1.alloc o).alloc o2).drew.cell? ⟨w.heap.size, 2, none⟩ = some (.slice B2 m2 d2) ∧ w.heap.size < ((W1.alloc o).alloc o2).drew.heap.size)) := fun W1 o o2 h => HKA.out _ o2 (HKA.out W1 o h)
  have P1 : Hid (∀ t : TypeId, Nats (w1.alloc (.cells #[.slice B1 m1 d1, .slice B1 m1 d1, .slice B2 m2 d2] t)).drew w1.heap.size 0 [a.x, a.x, a.y]) := fun t => nats_three GX.out.1 GX.out.1 GX.out.2 t
  have P2 : Hid (∀ (t : TypeId) (o : Obj), Nats ((w1.alloc (.cells #[.slice B1 m1 d1, .slice B1 m1 d1, .slice B2 m2 d2] t)).alloc o).drew w1.heap.size 0 [a.x, a.x, a.y]) := fun t o => Nats.to (nats_three GX.out.1 GX.out.1 GX.out.2 t) (below_one _ o).drew
  have P3 : Hid (∀ (t : TypeId) (o : Obj), Nats ((w1.alloc o).alloc (.cells #[.slice B1 m1 d1, .slice B1 m1 d1, .slice B2 m2 d2] t)).drew (w1.heap.size + 1) 0 [a.x, a.x, a.y]) := fun t o => nats_three' (by simp) (GX.out.1.to (below_one _ o)) (GX.out.1.to (below_one _ o)) (GX.out.2.to (below_one _ o)) t
  have R2 : Hid (∀ (t : TypeId) (o : Obj), Nats ((w1.alloc o).alloc (.cells #[.slice B2 m2 d2, .slice B2 m2 d2] t)).drew (w1.heap.size + 1) 0 [a.y, a.y]) := fun t o => nats_two' (by simp) (GX.out.2.to (below_one _ o)) (GX.out.2.to (below_one _ o)) t
  have R3 : Hid (∀ (t : TypeId) (o : Obj), Nats ((w1.alloc (.cells #[.slice B2 m2 d2, .slice B2 m2 d2] t)).alloc o).drew w1.heap.size 0 [a.y, a.y]) := fun t o => Nats.to (nats_two GX.out.2 GX.out.2 t) (below_one _ o).drew
  have HS1 : Hid (w1.cell? ⟨w.heap.size, 0, none⟩ = some (.bool a.neg) ∧ w1.cell? ⟨w.heap.size, 1, none⟩ = some (.slice B1 m1 d1) ∧ w1.cell? ⟨w.heap.size, 2, none⟩ = some (.slice B2 m2 d2) ∧ w.heap.size < w1.heap.size) := ⟨ka0, ka1, ka2, hlt⟩
  have HKW : Hid (∀ W' : World, Below w1.heap.size w1 W' → (W'.cell? ⟨w.heap.size, 0, none⟩ = some (.bool a.neg) ∧ W'.cell? ⟨w.heap.size, 1, none⟩ = some (.slice B1 m1 d1) ∧ W'.cell? ⟨w.heap.size, 2, none⟩ = some (.slice B2 m2 d2) ∧ w.heap.size < W'.heap.size)) := fun W' h => HK.out w1 W' h HS1.out
  have KCW := KC
  have HBW := HBE
  clear KC HBE
  go_wp2_with fail
  go_region_held3 (fun w' => w'.cell? ⟨w.heap.size, 0, none⟩ = some (.bool a.neg) ∧ w'.cell? ⟨w.heap.size, 1, none⟩ = some (.slice B1 m1 d1) ∧ w'.cell? ⟨w.heap.size, 2, none⟩ = some (.slice B2 m2 d2) ∧ w.heap.size < w'.heap.size)
    (first | (with_reducible exact HKW.out _ (Hid.out (by assumption))) | (with_reducible exact HKB.out _ _ HS1.out) | (with_reducible exact HKC.out _ _ _ HS1.out) | (with_reducible exact HKA.out _ _ (HKW.out _ (Hid.out (by assumption)))) | (go_keep; done))
    (first
      | (go_at_call 47; ((with_reducible refine (HA3.out _ _ (by first | exact P1.out _ | exact P2.out _ _ | exact P3.out _ _)).mono ?_)); rintro e y1 ⟨v1, rfl, hn1, hb1⟩; have HB1 : Hid (Below w1.heap.size w1 y1) := by first | exact (below_one w1 _).trans ((below_undrew hb1).mono (below_one w1 _).size) | exact (below_two w1 _ _).trans ((below_undrew hb1).mono (below_two w1 _ _).size))
      | (go_at_call 47; ((with_reducible refine (HA2.out _ _ (by first | exact nats_two (GX.out.2.to HB1.out) (GX.out.2.to HB1.out) _ | exact Nats.to (R2.out _ _) hb1 | exact Nats.to (R3.out _ _) hb1)).mono ?_)); rintro e y2 ⟨v2, rfl, hn2, hb2⟩; have HB2 : Hid (Below y1.heap.size y1 y2) := (by first | exact hb2 | exact (below_one y1 _).trans (hb2.mono (below_one y1 _).size)); have HC2 : Hid (Below w1.heap.size w1 y2) := HB1.out.trans (HB2.out.mono HB1.out.size))
      | (go_at_call 46; ((with_reducible refine (HFL.out _ _ _ (by exact hn1.to HB2.out) (by exact hn2)).mono ?_)); rintro e y3 ⟨v3, rfl, hn3, hb3⟩; have HC3 : Hid (Below w1.heap.size w1 y3) := HC2.out.trans (hb3.mono HC2.out.size))
      | (go_at_call 21; ((with_reducible refine (HWH.out _ _ (by exact hn3)).mono ?_)); rintro e y4 ⟨v4, rfl, hg, hb4⟩; have HC4 : Hid (Below w1.heap.size w1 y4) := HC3.out.trans (hb4.mono HC3.out.size); have hblk := KCW.out.to HC4.out; obtain ⟨C1, q1, r1, C2, q2, r2, rfl, hq1, hq2⟩ := hg.form; clear hq1 hq2; have cc0 := hblk.cell 0; have cc1 := hblk.cell 1; have cc2 := hblk.cell 2; simp only [List.getElem?_toArray, List.getElem?_cons_zero, List.getElem?_cons_succ] at cc0 cc1 cc2; have fc0 := hblk.frozen 0; have fc1 := hblk.frozen 1; have fc2 := hblk.frozen 2))
  all_goals
    go_wp2_with fail
    refine bodyPost_ret (v := .tuple #[.agg #[.bool r.1.neg, .slice C1 q1 r1, .slice C2 q2 r2], .int .i64 r.2]) (by rw [results_cell_tmp rfl]; go_simp) rfl ?_
    exact ⟨_, rfl, hg.putM hblk _ _ _, put3_below (HBW.out.trans (HC4.out.mono HBW.out.size)) (by omega) _ _ _⟩
end Go.Proofs.YtdfcpkjphdepcaaDoor
namespace Go.Proofs.YtdfcpkjphdepcaaDoor
open Go.RowKit NumB
set_option linter.unusedVariables false
set_option linter.unusedSimpArgs false

/-- The sign of a valid number. -/
def signS (a : LN) : Int := if a.num.length = 0 then 0 else if a.neg then -1 else 1

set_option maxRecDepth 100000 in
set_option maxHeartbeats 3200000 in
theorem same_S (a b : LN) (va vb : Value) (w : World) (ha : GV w va a) (hb : GV w vb b) : Calls Tryd.prog 9 #[va, vb] w fun e w' => e = .returned (.bool (sameB a b)) ∧ Below w.heap.size w w' := by
  obtain ⟨A1, A2, rfl, h1, h2, _, _⟩ := ha
  obtain ⟨A3, A4, rfl, h3, h4, _, _⟩ := hb
  have HB2 : Hid (∀ o1 o2 : Obj, Below w.heap.size w ((w.alloc o1).alloc o2)) := fun o1 o2 => (below_one w o1).alloc (by simp) o2
  have HS1 : Hid (∀ (W : World), Below w.heap.size w W → Calls Tryd.prog 28 #[A1, A3] W fun e w' => e = .returned (.bool (eqB a.num b.num)) ∧ ∃ m, w' = W.drewN m) := fun W hW => sameLimbs_any a.num b.num A1 A3 W (h1.to hW) (h3.to hW)
  have HS2 : Hid (∀ (W : World), Below w.heap.size w W → Calls Tryd.prog 28 #[A2, A4] W fun e w' => e = .returned (.bool (eqB a.den b.den)) ∧ ∃ m, w' = W.drewN m) := fun W hW => sameLimbs_any a.den b.den A2 A4 W (h2.to hW) (h4.to hW)
  obtain ⟨B1, c1, rfl, _⟩ := h1
  obtain ⟨B2, c2, rfl, _⟩ := h2
  obtain ⟨B3, c3, rfl, _⟩ := h3
  obtain ⟨B4, c4, rfl, _⟩ := h4
  have HE : Hid (sameB a b = ((a.neg == b.neg) && (eqB a.num b.num && eqB a.den b.den))) := rfl
  generalize sameB a b = r at *
  generalize eqB a.num b.num = p at *
  generalize eqB a.den b.den = q at *
  generalize a.num.length = n1 at *
  generalize a.den.length = n2 at *
  generalize b.num.length = n3 at *
  generalize b.den.length = n4 at *
  generalize a.neg = na at *
  generalize b.neg = nb at *
  by_cases hn : na = nb
  · have hn1 : (na == nb) = true := by simp [hn]
    rw [hn1] at HE
    subst hn
    cases p with
    | true =>
      go_enter Tryd.func9, Tryd.ntmps9
      go_wp2_with fail
      refine (HS1.out _ (by exact HB2.out _ _)).mono ?_
      rintro e w1 ⟨rfl, k1, rfl⟩
      go_wp2_with fail
      refine (HS2.out _ (by exact below_drewN (HB2.out _ _) _)).mono ?_
      rintro e w1 ⟨rfl, k2, rfl⟩
      go_wp2_with fail
      go_ret
      rw [HE.out]
      exact ⟨by cases q <;> rfl, below_drewN (HB2.out _ _) _⟩
    | false =>
      go_enter Tryd.func9, Tryd.ntmps9
      go_wp2_with fail
      refine (HS1.out _ (by exact HB2.out _ _)).mono ?_
      rintro e w1 ⟨rfl, k1, rfl⟩
      go_wp2_with fail
      go_ret
      rw [HE.out]
      exact ⟨rfl, below_drewN (HB2.out _ _) _⟩
  · have hn1 : (na == nb) = false := by simp [hn]
    rw [hn1] at HE
    clear hn
    go_enter Tryd.func9, Tryd.ntmps9
    go_wp2_with fail
    go_ret
    rw [HE.out]
    exact ⟨rfl, HB2.out _ _⟩
end Go.Proofs.YtdfcpkjphdepcaaDoor
namespace Go.Proofs.YtdfcpkjphdepcaaDoor
open Go.ChangeShapes Go.WideShapes Go.ChangeAt Go.RowKit Go.Joins NumB
set_option linter.unusedVariables false
set_option linter.unusedSimpArgs false

theorem own : ownKnob Tryd.prog.godebug = none := by kernel_rfl
theorem laidOut : laidOutB Tryd.prog = true := by kernel_rfl

/-- The arguments read again where nothing old has turned. -/
theorem below_trodAll {H : Type} {enc : TypeId × Value → H} {P : Program} (hl : laidOutB P = true) {W W' : World} (hb : Below W.heap.size W W') :
    ∀ {ts : List TypeId} {vs : List Value} {ds : List (DataW H)} {ps : List MemPlace}, (∀ t ∈ ts, P.readableRec t = true ∧ t < P.types.size) → DataW.TrodAll enc P W 0 (fun _ => true) true ts vs ds ps → (∀ x ∈ ps, x.block < W.heap.size) →
      DataW.TrodAll enc P W' 0 (fun b => decide (b < W.heap.size)) true ts vs ds ps
  | [], [], [], _, _, h, _ => h
  | t :: _, _ :: _, _ :: _, _, hT, ⟨p, q, h1, h2, e⟩, hs => ⟨p, q, Below.trod hl (hT t (by simp)).1 (hT t (by simp)).2 h1 hb (fun x hx => hs x (by rw [e]; exact List.mem_append_left _ hx)), below_trodAll hl hb (fun u hu => hT u (by simp [hu])) h2 (fun x hx => hs x (by rw [e]; exact List.mem_append_right _ hx)), e⟩

/-- The post of a law: it answered true, and only new memory was made. -/
theorem post_law {H : Type} {enc : TypeId × Value → H} {f : Func} {s : ChangeSpec} {W W' : World} {args : Array Value} {ds : List (DataW H)} {before : List MemPlace} (hvars : s.vars = [])
    (hW : DataW.Whole enc Tryd.prog f.params.toList s.vars false W args.toList ds [] before)
    (hA : DataW.TrodAll enc Tryd.prog W 0 (fun _ => true) true f.params.toList args.toList ds before)
    (hT : ∀ t ∈ f.params.toList, Tryd.prog.readableRec t = true ∧ t < Tryd.prog.types.size)
    (hres : f.resultTypes = #[4]) (hfn : s.fn H ds = { results := [.lit (.bool true)], args := ds })
    (hb : Below W.heap.size W W') : s.post enc Tryd.prog f false true false false W args (.bool true) W' := by
  have hlt : ∀ p ∈ before, p.block < W.heap.size := fun p hp => hW.lt p hp
  have e : s.fn H (ds ++ []) = { results := [.lit (.bool true)], args := ds } := by rw [List.append_nil]; exact hfn
  refine ⟨ds, [], before, [], before, [], hW, ?_, ?_, ?_, hb.frame _, fun h => by cases h⟩
  · rw [e, hres]; exact trodAll_mk1 (shut_bool Tryd.underlying4 _)
  · rw [e]; exact below_trodAll laidOut hb hT hA hlt
  · rw [e, hvars]; exact rfl

set_option maxRecDepth 100000 in
/-- A slice of limbs that came in. -/
theorem open_limbs {H : Type} {enc : TypeId × Value → H} {W : World} {n : Nat} {v : Value} {y : DataW H × List MemPlace}
    (h : DataW.trod enc Tryd.prog W 0 (fun _ => true) true n 22 [v] = some y) : ∃ xs : List Nat, Sl .u32 W v xs ∧ Ok W32 xs := by
  rcases open_ints Tryd.underlying22 Tryd.underlying40 (by kernel_rfl) h with ⟨hcs, hx⟩ | ⟨a, len, cap, zs, hcs, _, hl, hm, hz, hx, hcell, hwz⟩
  · simp only [List.cons.injEq, and_true] at hcs
    subst hcs
    exact ⟨[], (OwnV.nil_ (B := 0) (T := 0) W).sl, Ok.nil⟩
  · simp only [List.cons.injEq, and_true] at hcs
    subst hcs
    simp only [if_true] at hz
    have hwf : ∀ z ∈ zs, 0 ≤ z ∧ z < 4294967296 := fun z hzm => by
      have := bounds_u32 (hwz z hzm)
      omega
    have hget : ∀ i, i < zs.length → ((zs.map Int.toNat).getD i 0 : Int) = zs.getD i 0 := fun i hi => by
      rw [List.getD_eq_getElem?_getD, List.getD_eq_getElem?_getD, List.getElem?_map, List.getElem?_eq_getElem hi]
      have := hwf _ (List.getElem_mem hi)
      simp only [Option.map_some, Option.getD_some]
      omega
    refine ⟨(zs.map Int.toNat).take len, ?_, ?_⟩
    · refine Sl.of_rd (n := cap) (xs := zs.map Int.toNat) ?_ hl (Nat.le_refl _) hm rfl
      refine ⟨by simp [hz], fun hn => ?_⟩
      obtain ⟨b, off, rfl, hc⟩ := ints_at hcell (by omega)
      refine ⟨b, off, rfl, ?_, fun i hi => ?_⟩
      · have := hc 0 (by omega)
        rcases Nat.lt_or_ge b W.heap.size with h1 | h1
        · exact h1
        · simp [World.cell?, Array.getElem?_eq_none h1] at this
      · rw [hc i (by omega), hget i (by omega)]
    · intro x hx
      obtain ⟨z, hzm, rfl⟩ := List.mem_map.1 (List.mem_of_mem_take hx)
      have := hwf z hzm
      show z.toNat < 4294967296
      omega

set_option maxRecDepth 100000 in
/-- A number that came in: a sign and two lists of limbs. -/
theorem open_number {H : Type} {enc : TypeId × Value → H} {W : World} {base : Nat} {v : Value} {d : DataW H} {p : List MemPlace}
    (hv : Value.okWide Tryd.prog W .any base 24 v) (h : DataW.Trod enc Tryd.prog W 0 (fun _ => true) true 24 v d p) :
    ∃ (neg : Bool) (va vb : Value) (xs ys : List Nat), v = .agg #[.bool neg, va, vb] ∧ Sl .u32 W va xs ∧ Sl .u32 W vb ys ∧ Ok W32 xs ∧ Ok W32 ys := by
  obtain ⟨c0, c1, c2, y0, y1, y2, m, rfl, _, _, h0, h1, h2⟩ := open_agg3 Tryd.underlying24 (by kernel_rfl) (by kernel_rfl) hv h
  obtain ⟨b, e0, _⟩ := DataW.trod_bool Tryd.underlying4 h0
  simp only [List.cons.injEq, and_true] at e0
  subst e0
  obtain ⟨xs, hx, ox⟩ := open_limbs h1
  obtain ⟨ys, hy, oy⟩ := open_limbs h2
  exact ⟨b, c1, c2, xs, ys, rfl, hx, hy, ox, oy⟩

end Go.Proofs.YtdfcpkjphdepcaaDoor
