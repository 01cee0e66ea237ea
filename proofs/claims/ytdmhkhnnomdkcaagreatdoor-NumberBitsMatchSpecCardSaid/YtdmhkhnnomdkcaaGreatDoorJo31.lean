/-  -/
import Derived.Test.YtdmhkhnnomdkcaaGreatDoorJo25
import Derived.Test.YtdmhkhnnomdkcaaGreatDoorJo30
set_option linter.unusedVariables false
set_option linter.unusedSimpArgs false
/- fetterlockref1.Made. Conditions: at most 100000 digits. -/
namespace Go.Proofs.YtdmhkhnnomdkcaaGreatDoor
open Go.RowKit NumB
set_option linter.unusedVariables false
set_option linter.unusedSimpArgs false

theorem Blk.put3_at {w : World} {g : Nat} {t : TypeId} {p q r : Value} (h : Blk w g t #[p, q, r]) (a b c : Value) : Blk (Go.Proofs.YtdmhkhnnomdkcaaGreatDoor.put3 w g a b c) g t #[a, b, c] := by
  have := ((h.set_ 0 a).set_ 1 b).set_ 2 c
  unfold Go.Proofs.YtdmhkhnnomdkcaaGreatDoor.put3
  simpa using this
theorem Blk.put3_far {w : World} {g k : Nat} {t : TypeId} {cs : Array Value} (h : Blk w k t cs) (hk : k ≠ g) (a b c : Value) : Blk (Go.Proofs.YtdmhkhnnomdkcaaGreatDoor.put3 w g a b c) k t cs :=
  ((h.far (p := ⟨g, 0, none⟩) hk a).far (p := ⟨g, 1, none⟩) hk b).far (p := ⟨g, 2, none⟩) hk c
def numZ : Array Value := #[.bool false, .slice none 0 0, .slice none 0 0]

/-- What holds within the region of Made: which operations have come up, and what they left. -/
def MadeInv (w : World) (neg : Bool) (A A' : Option Addr) (n m ca cb x y : Nat) (L : Nat → Bool) (s9 s12 s13 s4 : Value) (W : World) : Prop :=
  Below w.heap.size w W ∧ Blk W w.heap.size 43 #[.bool neg, .slice A n ca, .slice A' m cb] ∧ Blk W (w.heap.size + 1) 24 numZ ∧
  (L 4 = true → Nat32 W s9 x) ∧ (L 7 = true → Nat32 W s12 y) ∧ (L 8 = true → L 4 = true ∧ L 7 = true ∧ s13 = .agg #[.bool neg, s9, s12]) ∧
  (L 9 = true → ∃ g, s4 = .pointer (some ⟨g, 0, none⟩) ∧ w.heap.size + 1 < g ∧ (L 10 = false → Blk W g 24 numZ) ∧ (L 10 = true → Blk W g 24 #[.bool neg, s9, s12])) ∧ (L 10 = true → L 8 = true ∧ L 9 = true)

set_option maxRecDepth 100000 in
set_option maxHeartbeats 6400000 in
theorem rmade_any (neg : Bool) (x y : Nat) (v : Value) (w : World) (h : RV w v neg x y) (hl1 : (digs W16 x).length ≤ 100000) (hl2 : (digs W16 y).length ≤ 100000) : Calls Tryz.prog 18 #[v] w (FitPost w neg x y) := by
  obtain ⟨A, B, rfl, ha, hb⟩ := h
  have HN1 : Hid (∀ W : World, Below w.heap.size w W → Calls Tryz.prog 40 #[A] W fun e w' => ∃ v, e = .returned v ∧ Nat32 w' v x ∧ Below W.heap.size W w') := fun W hW => rlimbs_any x A _ (ha.to hW) hl1
  have HN2 : Hid (∀ W : World, Below w.heap.size w W → Calls Tryz.prog 40 #[B] W fun e w' => ∃ v, e = .returned v ∧ Nat32 w' v y ∧ Below W.heap.size W w') := fun W hW => rlimbs_any y B _ (hb.to hW) hl2
  obtain ⟨A, n, ca, rfl, hq1⟩ := ha.form
  obtain ⟨A', m, cb, rfl, hq2⟩ := hb.form
  clear hq1 hq2 ha hb hl1 hl2
  have HBK := Lib.hid (blk2 w 43 24 #[.bool neg, .slice A n ca, .slice A' m cb] #[.bool false, .slice none 0 0, .slice none 0 0])
  have HB0 : Hid (∀ o1 o2 : Obj, Below w.heap.size w ((w.alloc o1).alloc o2).drew) := fun o1 o2 => (below_two w o1 o2).drew
  go_enter Tryz.func18, Tryz.ntmps18
  go_wp2_with fail
  refine wp_region_held_drew (S := fun w' => w'.cell? ⟨w.heap.size, 0, none⟩ = some (.bool neg) ∧ w'.cell? ⟨w.heap.size, 1, none⟩ = some (.slice A n ca) ∧ w'.cell? ⟨w.heap.size, 2, none⟩ = some (.slice A' m cb)) (by kernel_rfl) ⟨HBK.out.1.drew.cell 0, HBK.out.1.drew.cell 1, HBK.out.1.drew.cell 2⟩ (fun hHeld => ?_)
  (refine wpAnyH_take (i := 0) (v := ?_) rfl (by kernel_rfl) (by kernel_rfl) (by kernel_rfl) (fun _ _ _ h => h) (Or.inl ⟨by kernel_rfl, ?_⟩) (by assumption) ?_; rotate_left; ((intro w hSw; (try dsimp only at hSw); go_simp) <;> (with_reducible rfl)); (try (simp only [Act.put, List.setIfInBounds_toArray, List.set_cons_succ, List.set_cons_zero, List.getElem_toArray, List.getElem_cons_succ, List.getElem_cons_zero])))
  (refine wpAnyH_take (i := 1) (v := ?_) rfl (by kernel_rfl) (by kernel_rfl) (by kernel_rfl) (fun _ _ _ h => h) (Or.inl ⟨by kernel_rfl, ?_⟩) (by assumption) ?_; rotate_left; ((intro w hSw; (try dsimp only at hSw); go_simp) <;> (with_reducible rfl)); (try (simp only [Act.put, List.setIfInBounds_toArray, List.set_cons_succ, List.set_cons_zero, List.getElem_toArray, List.getElem_cons_succ, List.getElem_cons_zero])))
  (refine wpAnyH_take (i := 2) (v := ?_) rfl (by kernel_rfl) (by kernel_rfl) (by kernel_rfl) (fun _ _ _ h => h) (Or.inl ⟨by kernel_rfl, ?_⟩) (by assumption) ?_; rotate_left; ((intro w hSw; (try dsimp only at hSw); go_simp) <;> (with_reducible rfl)); (try (simp only [Act.put, List.setIfInBounds_toArray, List.set_cons_succ, List.set_cons_zero, List.getElem_toArray, List.getElem_cons_succ, List.getElem_cons_zero])))
  (refine wpAnyH_take (i := 3) (v := ?_) rfl (by kernel_rfl) (by kernel_rfl) (by kernel_rfl) (fun _ _ _ h => h) (Or.inl ⟨by kernel_rfl, ?_⟩) (by assumption) ?_; rotate_left; ((intro w hSw; (try dsimp only at hSw); go_simp) <;> (with_reducible rfl)); (try (simp only [Act.put, List.setIfInBounds_toArray, List.set_cons_succ, List.set_cons_zero, List.getElem_toArray, List.getElem_cons_succ, List.getElem_cons_zero])))
  (refine wpAnyH_take (i := 5) (v := ?_) rfl (by kernel_rfl) (by kernel_rfl) (by kernel_rfl) (fun _ _ _ h => h) (Or.inl ⟨by kernel_rfl, ?_⟩) (by assumption) ?_; rotate_left; ((intro w hSw; (try dsimp only at hSw); go_simp) <;> (with_reducible rfl)); (try (simp only [Act.put, List.setIfInBounds_toArray, List.set_cons_succ, List.set_cons_zero, List.getElem_toArray, List.getElem_cons_succ, List.getElem_cons_zero])))
  (refine wpAnyH_take (i := 6) (v := ?_) rfl (by kernel_rfl) (by kernel_rfl) (by kernel_rfl) (fun _ _ _ h => h) (Or.inl ⟨by kernel_rfl, ?_⟩) (by assumption) ?_; rotate_left; ((intro w hSw; (try dsimp only at hSw); go_simp) <;> (with_reducible rfl)); (try (simp only [Act.put, List.setIfInBounds_toArray, List.set_cons_succ, List.set_cons_zero, List.getElem_toArray, List.getElem_cons_succ, List.getElem_cons_zero])))
  refine wpAnyH_inv0 [4, 7, 8, 9, 10] (fun a0 L a W => ∃ s9 s12 s13 s4, a = (((a0.put (some 9) s9).put (some 12) s12).put (some 13) s13).put (some 4) s4 ∧ MadeInv w neg A A' n m ca cb x y L s9 s12 s13 s4 W) (by kernel_rfl) (by kernel_rfl) (by decide) (by kernel_rfl) ?hS ?init ?steps ?done
  case hS =>
    rintro L a W ⟨s9, s12, s13, s4, -, _, h2, _⟩
    exact ⟨h2.cell 0, h2.cell 1, h2.cell 2⟩
  case init =>
    refine ⟨undef, undef, undef, undef, rfl, HB0.out _ _, HBK.out.1.drew, HBK.out.2.drew, ?_, ?_, ?_, ?_, ?_⟩ <;> (intro h; exact absurd h (by decide))
  case steps =>
    refine Steps.cons (i := 4) rfl ?_ (Steps.cons (i := 7) rfl ?_ (Steps.cons (i := 8) rfl ?_ (Steps.cons (i := 9) rfl ?_ (Steps.cons (i := 10) rfl ?_ Steps.nil))))
    · rintro L a W ⟨s9, s12, s13, s4, rfl, hI⟩ hL hdep K hK
      have HI := Lib.hid hI
      clear hI
      simp only [Act.put, List.setIfInBounds_toArray, List.set_cons_succ, List.set_cons_zero]
      go_simp
      refine (HN1.out _ (by exact HI.out.1)).mono ?_
      rintro e w1 ⟨v1, rfl, hn1, hb1⟩
      obtain ⟨h1, h2, h3, h4, h5, h6, h7, h8⟩ := HI.out
      have no8 : L 8 = true → False := fun h => by have := (h6 h).1; rw [hL] at this; cases this
      refine hK.out _ _ ⟨v1, s12, s13, s4, rfl, h1.trans (hb1.mono h1.size), h2.to hb1, h3.to hb1, fun _ => hn1, fun h => (h5 h).to hb1, fun h => (no8 h).elim, fun h => ?_, fun h => (no8 (h8 h).1).elim⟩
      obtain ⟨g, e1, e2, e3, e4⟩ := h7 h
      exact ⟨g, e1, e2, fun h => (e3 h).to hb1, fun h => (no8 (h8 h).1).elim⟩
    · rintro L a W ⟨s9, s12, s13, s4, rfl, hI⟩ hL hdep K hK
      have HI := Lib.hid hI
      clear hI
      simp only [Act.put, List.setIfInBounds_toArray, List.set_cons_succ, List.set_cons_zero]
      go_simp
      refine (HN2.out _ (by exact HI.out.1)).mono ?_
      rintro e w1 ⟨v1, rfl, hn1, hb1⟩
      obtain ⟨h1, h2, h3, h4, h5, h6, h7, h8⟩ := HI.out
      have no8 : L 8 = true → False := fun h => by have := (h6 h).2.1; rw [hL] at this; cases this
      refine hK.out _ _ ⟨s9, v1, s13, s4, rfl, h1.trans (hb1.mono h1.size), h2.to hb1, h3.to hb1, fun h => (h4 h).to hb1, fun _ => hn1, fun h => (no8 h).elim, fun h => ?_, fun h => (no8 (h8 h).1).elim⟩
      obtain ⟨g, e1, e2, e3, e4⟩ := h7 h
      exact ⟨g, e1, e2, fun h => (e3 h).to hb1, fun h => (no8 (h8 h).1).elim⟩
    · rintro L a W ⟨s9, s12, s13, s4, rfl, hI⟩ hL hdep K hK
      have HI := Lib.hid hI
      clear hI
      have hd : L 4 = true ∧ L 7 = true := by simp [Region.binds] at hdep; simp [hdep]
      clear hdep
      obtain ⟨A9, n9, c9, rfl, hz9⟩ := (HI.out.2.2.2.1 hd.1).form
      obtain ⟨A12, n12, c12, rfl, hz12⟩ := (HI.out.2.2.2.2.1 hd.2).form
      clear hz9 hz12
      have HD := Lib.hid hd
      have HL := Lib.hid hL
      clear hd hL
      simp only [Act.put, List.setIfInBounds_toArray, List.set_cons_succ, List.set_cons_zero]
      go_simp
      obtain ⟨h1, h2, h3, h4, h5, h6, h7, h8⟩ := HI.out
      have no10 : L 10 = true → False := fun h => by have := (h8 h).1; rw [HL.out] at this; cases this
      refine hK.out _ _ ⟨_, _, _, s4, rfl, h1, h2, h3, h4, h5, fun h => ⟨HD.out.1, HD.out.2, rfl⟩, h7, fun h => (no10 h).elim⟩
    · rintro L a W ⟨s9, s12, s13, s4, rfl, hI⟩ hL hdep K hK
      have HI := Lib.hid hI
      have HL := Lib.hid hL
      clear hI hL hdep
      simp only [Act.put, List.setIfInBounds_toArray, List.set_cons_succ, List.set_cons_zero]
      go_simp
      obtain ⟨h1, h2, h3, h4, h5, h6, h7, h8⟩ := HI.out
      have no10 : L 10 = true → False := fun h => by have := (h8 h).2; rw [HL.out] at this; cases this
      have hb1 := below_one W (.cells numZ 24)
      refine hK.out _ _ ⟨s9, s12, s13, _, rfl, h1.trans (hb1.mono h1.size), h2.to hb1, h3.to hb1, fun h => (h4 h).to hb1, fun h => (h5 h).to hb1, h6, fun h => ⟨_, rfl, ?_, fun _ => Blk.new _ _ _, fun h => (no10 h).elim⟩, fun h => (no10 h).elim⟩
      have := h3.lt
      omega
    · rintro L a W ⟨s9, s12, s13, s4, rfl, hI⟩ hL hdep K hK
      have HI := Lib.hid hI
      clear hI
      have hd : L 8 = true ∧ L 9 = true := by simp [Region.binds] at hdep; simp [hdep]
      clear hdep
      have HD := Lib.hid hd
      have HL := Lib.hid hL
      obtain ⟨hd4, hd7, rfl⟩ := HI.out.2.2.2.2.2.1 hd.1
      obtain ⟨A9, n9, c9, rfl, hz9⟩ := (HI.out.2.2.2.1 hd4).form
      obtain ⟨A12, n12, c12, rfl, hz12⟩ := (HI.out.2.2.2.2.1 hd7).form
      clear hz9 hz12
      obtain ⟨g, rfl, hg, hbz, -⟩ := HI.out.2.2.2.2.2.2.1 hd.2
      have HD4 := Lib.hid (And.intro hd4 hd7)
      have hblk := hbz hL
      have hc0 := hblk.cell 0
      have hc1 := hblk.cell 1
      have hc2 := hblk.cell 2
      have hf0 := hblk.frozen 0
      have hf1 := hblk.frozen 1
      have hf2 := hblk.frozen 2
      unfold numZ at hc0 hc1 hc2
      simp only [List.getElem?_toArray, List.getElem?_cons_zero, List.getElem?_cons_succ] at hc0 hc1 hc2
      have HBK2 := Lib.hid hblk
      clear hd hL hd4 hd7 hbz hblk
      simp only [Act.put, List.setIfInBounds_toArray, List.set_cons_succ, List.set_cons_zero]
      go_simp
      obtain ⟨h1, h2, h3, h4, h5, h6, h7, h8⟩ := HI.out
      refine hK.out _ (put3 W g _ _ _) ⟨_, _, _, _, rfl, put3_below h1 (by omega) _ _ _, h2.put3_far (by omega) _ _ _, h3.put3_far (by omega) _ _ _, fun h => (h4 h).put3 HBK2.out _ _ _, fun h => (h5 h).put3 HBK2.out _ _ _, h6, fun h => ⟨g, rfl, hg, fun h => absurd h (by simp), fun h => HBK2.out.put3_at _ _ _⟩, fun h => HD.out⟩
  case done =>
    rintro L a W ⟨s9, s12, s13, s4, rfl, hI⟩ hall
    have hL : ∀ i, i < 11 → L i = true := hall
    clear hall
    obtain ⟨h1, h2, h3, h4, h5, h6, h7, h8⟩ := hI
    obtain ⟨A9, n9, c9, rfl, hn9⟩ := (h4 (hL 4 (by omega))).form
    obtain ⟨A12, n12, c12, rfl, hn12⟩ := (h5 (hL 7 (by omega))).form
    obtain ⟨g, rfl, hg, -, hbg⟩ := h7 (hL 9 (by omega))
    have hblk := hbg (hL 10 (by omega))
    have HN9 := Lib.hid (h4 (hL 4 (by omega)))
    have HN12 := Lib.hid (h5 (hL 7 (by omega)))
    have HB := Lib.hid h1
    have HBR := Lib.hid h3
    have hc0 := hblk.cell 0
    have hc1 := hblk.cell 1
    have hc2 := hblk.cell 2
    have hr0 := h3.cell 0
    have hr1 := h3.cell 1
    have hr2 := h3.cell 2
    have hf0 := h3.frozen 0
    have hf1 := h3.frozen 1
    have hf2 := h3.frozen 2
    unfold numZ at hr0 hr1 hr2
    simp only [List.getElem?_toArray, List.getElem?_cons_zero, List.getElem?_cons_succ] at hc0 hc1 hc2 hr0 hr1 hr2
    have H9 := Lib.hid hn9
    have H12 := Lib.hid hn12
    clear h1 h2 h3 h4 h5 h6 h7 h8 hblk hbg hL hn9 hn12
    simp only [Act.put, List.setIfInBounds_toArray, List.set_cons_succ, List.set_cons_zero]
    by_cases hx : n9 ≤ 128
    · by_cases hy : n12 ≤ 128
      · have HF : Hid (fitB x y = true) := decide_eq_true ⟨H9.out ▸ hx, H12.out ▸ hy⟩
        go_wp2
        refine bodyPost_ret (v := .tuple #[.agg #[.bool neg, .slice A9 n9 c9, .slice A12 n12 c12], .int .i64 0]) (by rw [results_cell_tmp rfl]; go_simp) rfl (.inl ⟨HF.out, _, rfl, ?_, ?_⟩)
        · exact NumV.put3 (w := W) ⟨_, _, rfl, HN9.out, HN12.out⟩ HBR.out _ _ _
        · exact put3_below HB.out (Nat.le_succ _) _ _ _
      · have HF : Hid (fitB x y = false) := decide_eq_false (fun h => hy (H12.out ▸ h.2))
        have hy2 : 128 < n12 := by omega
        go_wp2
        refine bodyPost_ret (v := .tuple #[zeroNum, .int .i64 3]) (by rw [results_cell_tmp rfl]; go_simp; rfl) rfl (.inr ⟨HF.out, rfl, ?_⟩)
        exact put3_below HB.out (Nat.le_succ _) _ _ _
    · have HF : Hid (fitB x y = false) := decide_eq_false (fun h => hx (H9.out ▸ h.1))
      have hx2 : 128 < n9 := by omega
      go_wp2
      refine bodyPost_ret (v := .tuple #[zeroNum, .int .i64 3]) (by rw [results_cell_tmp rfl]; go_simp; rfl) rfl (.inr ⟨HF.out, rfl, ?_⟩)
      exact put3_below HB.out (Nat.le_succ _) _ _ _
end Go.Proofs.YtdmhkhnnomdkcaaGreatDoor
/- fetterlockref1.IsInt; Fault at any number. -/
namespace Go.Proofs.YtdmhkhnnomdkcaaGreatDoor
open Go.RowKit NumB
set_option linter.unusedVariables false
set_option linter.unusedSimpArgs false

theorem fault_S (a : LN) (v : Value) (w : World) (h : GV w v a) : Calls Tryz.prog 14 #[v] w fun e w' => e = .returned (.int .i64 a.err) ∧ Below w.heap.size w w' := by
  obtain ⟨A, B, rfl, ha, hb, ox, oy⟩ := h
  exact fault_any a.neg a.num a.den A B w ha hb ox oy
theorem LN.len16 {a : LN} (ho : a.ok) (h : a.err = 0) : (digs W16 a.x).length ≤ 256 ∧ (digs W16 a.y).length ≤ 256 := by
  obtain ⟨_, _, h3, h4, _⟩ := LN.good ho h
  exact ⟨digs16_val_le ho.1 h3, digs16_val_le ho.2 h4⟩

set_option maxRecDepth 100000 in
set_option maxHeartbeats 1600000 in
theorem risInt_any (neg : Bool) (x y : Nat) (v : Value) (w : World) (h : RV w v neg x y) (hy : (digs W16 y).length ≤ 1000000) :
    Calls Tryz.prog 17 #[v] w fun e w' => e = .returned (.bool (cmpI y 1 == 0)) ∧ Below w.heap.size w w' := by
  obtain ⟨A1, A2, rfl, h1, h2⟩ := h
  obtain ⟨B1, n1, c1, rfl, e1⟩ := h1.form
  obtain ⟨B2, n2, c2, rfl, e2⟩ := h2.form
  have HN := Lib.hid h2
  have HL := Lib.hid hy
  have HOne : ∀ o : Obj, Nat16 ((w.alloc o).alloc (.cells #[.int .i64 1] 3)) (.slice (some ⟨w.heap.size + 1, 0, none⟩) 1 1) 1 := fun o => by
    have h := one16 (w.alloc o)
    rw [show (w.alloc o).heap.size = w.heap.size + 1 from by simp] at h
    exact h
  clear h1 h2 e1 e2 hy
  go_enter Tryz.func17, Tryz.ntmps17
  go_wp2_with fail
  refine (rcmp_any y 1 _ _ _ (by exact HN.out.to (below_two w _ _)) (HOne _) HL.out (by rw [digs_one16]; decide)).mono ?_
  rintro e w1 ⟨rfl, rfl⟩
  go_wp2_with fail
  go_ret
  exact ⟨rfl, below_two w _ _⟩

theorem cmpI_one_true {y : Nat} (h : y = 1) : (cmpI y 1 == 0) = true := by subst h; decide
theorem cmpI_one_false {y : Nat} (h : y ≠ 1) : (cmpI y 1 == 0) = false := by
  rcases Nat.lt_trichotomy y 1 with h1 | h1 | h1
  · rw [cmpI_lt h1]; rfl
  · exact absurd h1 h
  · rw [cmpI_gt h1]; rfl
end Go.Proofs.YtdmhkhnnomdkcaaGreatDoor
