/- fetterlockref1.Made. Conditions: at most 100000 digits. fetterlockref1.Made, with the answer as a plain function. number.integers, at one number. number.ToInt, at any number. The canonical number of an integer: plain facts. -/
import Derived.Test.YtdfcpkjphdepcaaDoorJo13
import Derived.Test.YtdfcpkjphdepcaaDoorJo15
import Derived.Test.YtdfcpkjphdepcaaDoorJo17
import Derived.Test.YtdfcpkjphdepcaaDoorJo18
import Derived.Test.YtdfcpkjphdepcaaDoorJo21
import Derived.Test.YtdfcpkjphdepcaaDoorJo24
set_option linter.unusedVariables false
set_option linter.unusedSimpArgs false
namespace Go.Proofs.YtdfcpkjphdepcaaDoor
open Go.RowKit NumB
set_option linter.unusedVariables false
set_option linter.unusedSimpArgs false

theorem Blk.put3_at {w : World} {g : Nat} {t : TypeId} {p q r : Value} (h : Blk w g t #[p, q, r]) (a b c : Value) : Blk (Go.Proofs.YtdfcpkjphdepcaaDoor.put3 w g a b c) g t #[a, b, c] := by
  have := ((h.set_ 0 a).set_ 1 b).set_ 2 c
  unfold Go.Proofs.YtdfcpkjphdepcaaDoor.put3
  simpa using this
theorem Blk.put3_far {w : World} {g k : Nat} {t : TypeId} {cs : Array Value} (h : Blk w k t cs) (hk : k ≠ g) (a b c : Value) : Blk (Go.Proofs.YtdfcpkjphdepcaaDoor.put3 w g a b c) k t cs :=
  ((h.far (p := ⟨g, 0, none⟩) hk a).far (p := ⟨g, 1, none⟩) hk b).far (p := ⟨g, 2, none⟩) hk c
def numZ : Array Value := #[.bool false, .slice none 0 0, .slice none 0 0]

/-- What holds within the region of Made: which operations have come up, and what they left. -/
def MadeInv (w : World) (neg : Bool) (A A' : Option Addr) (n m ca cb x y : Nat) (L : Nat → Bool) (s9 s12 s13 s4 : Value) (W : World) : Prop :=
  Below w.heap.size w W ∧ Blk W w.heap.size 60 #[.bool neg, .slice A n ca, .slice A' m cb] ∧ Blk W (w.heap.size + 1) 24 numZ ∧
  (L 4 = true → Nat32 W s9 x) ∧ (L 7 = true → Nat32 W s12 y) ∧ (L 8 = true → L 4 = true ∧ L 7 = true ∧ s13 = .agg #[.bool neg, s9, s12]) ∧
  (L 9 = true → ∃ g, s4 = .pointer (some ⟨g, 0, none⟩) ∧ w.heap.size + 1 < g ∧ (L 10 = false → Blk W g 24 numZ) ∧ (L 10 = true → Blk W g 24 #[.bool neg, s9, s12])) ∧ (L 10 = true → L 8 = true ∧ L 9 = true)

set_option maxRecDepth 100000 in
set_option maxHeartbeats 6400000 in
theorem rmade_any (neg : Bool) (x y : Nat) (v : Value) (w : World) (h : RV w v neg x y) (hl1 : (digs W16 x).length ≤ 100000) (hl2 : (digs W16 y).length ≤ 100000) : Calls Tryd.prog 37 #[v] w (FitPost w neg x y) := by
  obtain ⟨A, B, rfl, ha, hb⟩ := h
  have HN1 : Hid (∀ W : World, Below w.heap.size w W → Calls Tryd.prog 63 #[A] W fun e w' => ∃ v, e = .returned v ∧ Nat32 w' v x ∧ Below W.heap.size W w') := fun W hW => rlimbs_any x A _ (ha.to hW) hl1
  have HN2 : Hid (∀ W : World, Below w.heap.size w W → Calls Tryd.prog 63 #[B] W fun e w' => ∃ v, e = .returned v ∧ Nat32 w' v y ∧ Below W.heap.size W w') := fun W hW => rlimbs_any y B _ (hb.to hW) hl2
  obtain ⟨A, n, ca, rfl, hq1⟩ := ha.form
  obtain ⟨A', m, cb, rfl, hq2⟩ := hb.form
  clear hq1 hq2 ha hb hl1 hl2
  have HBK := Lib.hid (blk2 w 60 24 #[.bool neg, .slice A n ca, .slice A' m cb] #[.bool false, .slice none 0 0, .slice none 0 0])
  have HB0 : Hid (∀ o1 o2 : Obj, Below w.heap.size w ((w.alloc o1).alloc o2).drew) := fun o1 o2 => (below_two w o1 o2).drew
  go_enter Tryd.func37, Tryd.ntmps37
  go_wp2_with fail
  refine wp_region_held_drew (S := fun w' => w'.cell? ⟨w.heap.size, 0, none⟩ = some (.bool neg) ∧ w'.cell? ⟨w.heap.size, 1, none⟩ = some (.slice A n ca) ∧ w'.cell? ⟨w.heap.size, 2, none⟩ = some (.slice A' m cb)) (by kernel_rfl) ⟨HBK.out.1.drew.cell 0, HBK.out.1.drew.cell 1, HBK.out.1.drew.cell 2⟩ (fun hHeld => ?_)
  (refine wpAnyH_take (i := 0) (v := ?_) rfl (by kernel_rfl) (by kernel_rfl) (by kernel_rfl) (fun _ _ _ h => h) (Or.inl ⟨by kernel_rfl, ?_⟩) (by assumption) ?_; rotate_left; ((intro w hSw; (try dsimp only at hSw); go_simp) <;> (with_reducible rfl)); (try (simp only [Act.put, List.setIfInBounds_toArray, List.set_cons_succ, List.set_cons_zero, List.getElem_toArray, List.getElem_cons_succ, List.getElem_cons_zero])))
  (refine wpAnyH_take (i := 1) (v := ?_) rfl (by kernel_rfl) (by kernel_rfl) (by kernel_rfl) (fun _ _ _ h => h) (Or.inl ⟨by kernel_rfl, ?_⟩) (by assumption) ?_; rotate_left; ((intro w hSw; (try dsimp only at hSw); go_simp) <;> (with_reducible rfl)); (try (simp only [Act.put, List.setIfInBounds_toArray, List.set_cons_succ, List.set_cons_zero, List.getElem_toArray, List.getElem_cons_succ, List.getElem_cons_zero])))
  (refine wpAnyH_take (i := 2) (v := ?_) rfl (by kernel_rfl) (by kernel_rfl) (by kernel_rfl) (fun _ _ _ h => h) (Or.inl ⟨by kernel_rfl, ?_⟩) (by assumption) ?_; rotate_left; ((intro w hSw; (try dsimp only at hSw); go_simp) <;> (with_reducible rfl)); (try (simp only [Act.put, List.setIfInBounds_toArray, List.set_cons_succ, List.set_cons_zero, List.getElem_toArray, List.getElem_cons_succ, List.getElem_cons_zero])))
  (refine wpAnyH_take (i := 3) (v := ?_) rfl (by kernel_rfl) (by kernel_rfl) (by kernel_rfl) (fun _ _ _ h => h) (Or.inl ⟨by kernel_rfl, ?_⟩) (by assumption) ?_; rotate_left; ((intro w hSw; (try dsimp only at hSw); go_simp) <;> (with_reducible rfl)); (try (simp only [Act.put, List.setIfInBounds_toArray, List.set_cons_succ, List.set_cons_zero, List.getElem_toArray, List.getElem_cons_succ, List.getElem_cons_zero])))
  (refine wpAnyH_take (i := 5) (v := ?_) rfl (by kernel_rfl) (by kernel_rfl) (by kernel_rfl) (fun _ _ _ h => h) (Or.inl ⟨by kernel_rfl, ?_⟩) (by assumption) ?_; rotate_left; ((intro w hSw; (try dsimp only at hSw); go_simp) <;> (with_reducible rfl)); (try (simp only [Act.put, List.setIfInBounds_toArray, List.set_cons_succ, List.set_cons_zero, List.getElem_toArray, List.getElem_cons_succ, List.getElem_cons_zero])))
  (refine wpAnyH_take (i := 6) (v := ?_) rfl (by kernel_rfl) (by kernel_rfl) (by kernel_rfl) (fun _ _ _ h => h) (Or.inl ⟨by kernel_rfl, ?_⟩) (by assumption) ?_; rotate_left; ((intro w hSw; (try dsimp only at hSw); go_simp) <;> (with_reducible rfl)); (try (simp only [Act.put, List.setIfInBounds_toArray, List.set_cons_succ, List.set_cons_zero, List.getElem_toArray, List.getElem_cons_succ, List.getElem_cons_zero])))
  refine wpAnyH_inv0 [4, 7, 8, 9, 10] (fun a0 L a W => ∃ s9 s12 s13 s4, a = (((a0.put (some 9) s9).put (some 12) s12).put (some 13) s13).put (some 4) s4 ∧ MadeInv w neg A A' n m ca cb x y L s9 s12 s13 s4 W) (by kernel_rfl) (by kernel_rfl) (by decide) (by kernel_rfl) ?hS ?init ?steps ?done
  case hS =>
    rintro L a W ⟨s9, s12, s13, s4, -, _, h2, _⟩
    exact ⟨h2.cell 0, h2.cell 1, h2.cell 2⟩
  case init =>
    refine ⟨undef, undef, undef, undef, rfl, HB0.out _ _, HBK.out.1.drew, HBK.out.2.drew, ?_, ?_, ?_, ?_, ?_⟩ <;> (intro h; exact absurd h (by decide))
  case steps =>
    refine Steps.cons (i := 4) rfl ?_ (Steps.cons (i := 7) rfl ?_ (Steps.cons (i := 8) rfl ?_ (Steps.cons (i := 9) rfl ?_ (Steps.cons (i := 10) rfl ?_ Steps.nil))))
    · rintro L a W ⟨s9, s12, s13, s4, rfl, hI⟩ hL hdep K hK
      have HI := Lib.hid hI
      clear hI
      simp only [Act.put, List.setIfInBounds_toArray, List.set_cons_succ, List.set_cons_zero]
      go_simp
      refine (HN1.out _ (by exact HI.out.1)).mono ?_
      rintro e w1 ⟨v1, rfl, hn1, hb1⟩
      obtain ⟨h1, h2, h3, h4, h5, h6, h7, h8⟩ := HI.out
      have no8 : L 8 = true → False := fun h => by have := (h6 h).1; rw [hL] at this; cases this
      refine hK.out _ _ ⟨v1, s12, s13, s4, rfl, h1.trans (hb1.mono h1.size), h2.to hb1, h3.to hb1, fun _ => hn1, fun h => (h5 h).to hb1, fun h => (no8 h).elim, fun h => ?_, fun h => (no8 (h8 h).1).elim⟩
      obtain ⟨g, e1, e2, e3, e4⟩ := h7 h
      exact ⟨g, e1, e2, fun h => (e3 h).to hb1, fun h => (no8 (h8 h).1).elim⟩
    · rintro L a W ⟨s9, s12, s13, s4, rfl, hI⟩ hL hdep K hK
      have HI := Lib.hid hI
      clear hI
      simp only [Act.put, List.setIfInBounds_toArray, List.set_cons_succ, List.set_cons_zero]
      go_simp
      refine (HN2.out _ (by exact HI.out.1)).mono ?_
      rintro e w1 ⟨v1, rfl, hn1, hb1⟩
      obtain ⟨h1, h2, h3, h4, h5, h6, h7, h8⟩ := HI.out
      have no8 : L 8 = true → False := fun h => by have := (h6 h).2.1; rw [hL] at this; cases this
      refine hK.out _ _ ⟨s9, v1, s13, s4, rfl, h1.trans (hb1.mono h1.size), h2.to hb1, h3.to hb1, fun h => (h4 h).to hb1, fun _ => hn1, fun h => (no8 h).elim, fun h => ?_, fun h => (no8 (h8 h).1).elim⟩
      obtain ⟨g, e1, e2, e3, e4⟩ := h7 h
      exact ⟨g, e1, e2, fun h => (e3 h).to hb1, fun h => (no8 (h8 h).1).elim⟩
    · rintro L a W ⟨s9, s12, s13, s4, rfl, hI⟩ hL hdep K hK
      have HI := Lib.hid hI
      clear hI
      have hd : L 4 = true ∧ L 7 = true := by simp [Region.binds] at hdep; simp [hdep]
      clear hdep
      obtain ⟨A9, n9, c9, rfl, hz9⟩ := (HI.out.2.2.2.1 hd.1).form
      obtain ⟨A12, n12, c12, rfl, hz12⟩ := (HI.out.2.2.2.2.1 hd.2).form
      clear hz9 hz12
      have HD := Lib.hid hd
      have HL := Lib.hid hL
      clear hd hL
      simp only [Act.put, List.setIfInBounds_toArray, List.set_cons_succ, List.set_cons_zero]
      go_simp
      obtain ⟨h1, h2, h3, h4, h5, h6, h7, h8⟩ := HI.out
      have no10 : L 10 = true → False := fun h => by have := (h8 h).1; rw [HL.out] at this; cases this
      refine hK.out _ _ ⟨_, _, _, s4, rfl, h1, h2, h3, h4, h5, fun h => ⟨HD.out.1, HD.out.2, rfl⟩, h7, fun h => (no10 h).elim⟩
    · rintro L a W ⟨s9, s12, s13, s4, rfl, hI⟩ hL hdep K hK
      have HI := Lib.hid hI
      have HL := Lib.hid hL
      clear hI hL hdep
      simp only [Act.put, List.setIfInBounds_toArray, List.set_cons_succ, List.set_cons_zero]
      go_simp
      obtain ⟨h1, h2, h3, h4, h5, h6, h7, h8⟩ := HI.out
      have no10 : L 10 = true → False := fun h => by have := (h8 h).2; rw [HL.out] at this; cases this
      have hb1 := below_one W (.cells numZ 24)
      refine hK.out _ _ ⟨s9, s12, s13, _, rfl, h1.trans (hb1.mono h1.size), h2.to hb1, h3.to hb1, fun h => (h4 h).to hb1, fun h => (h5 h).to hb1, h6, fun h => ⟨_, rfl, ?_, fun _ => Blk.new _ _ _, fun h => (no10 h).elim⟩, fun h => (no10 h).elim⟩
      have := h3.lt
      omega
    · rintro L a W ⟨s9, s12, s13, s4, rfl, hI⟩ hL hdep K hK
      have HI := Lib.hid hI
      clear hI
      have hd : L 8 = true ∧ L 9 = true := by simp [Region.binds] at hdep; simp [hdep]
      clear hdep
      have HD := Lib.hid hd
      have HL := Lib.hid hL
      obtain ⟨hd4, hd7, rfl⟩ := HI.out.2.2.2.2.2.1 hd.1
      obtain ⟨A9, n9, c9, rfl, hz9⟩ := (HI.out.2.2.2.1 hd4).form
      obtain ⟨A12, n12, c12, rfl, hz12⟩ := (HI.out.2.2.2.2.1 hd7).form
      clear hz9 hz12
      obtain ⟨g, rfl, hg, hbz, -⟩ := HI.out.2.2.2.2.2.2.1 hd.2
      have HD4 := Lib.hid (And.intro hd4 hd7)
      have hblk := hbz hL
      have hc0 := hblk.cell 0
      have hc1 := hblk.cell 1
      have hc2 := hblk.cell 2
      have hf0 := hblk.frozen 0
      have hf1 := hblk.frozen 1
      have hf2 := hblk.frozen 2
      unfold numZ at hc0 hc1 hc2
      simp only [List.getElem?_toArray, List.getElem?_cons_zero, List.getElem?_cons_succ] at hc0 hc1 hc2
      have HBK2 := Lib.hid hblk
      clear hd hL hd4 hd7 hbz hblk
      simp only [Act.put, List.setIfInBounds_toArray, List.set_cons_succ, List.set_cons_zero]
      go_simp
      obtain ⟨h1, h2, h3, h4, h5, h6, h7, h8⟩ := HI.out
      refine hK.out _ (put3 W g _ _ _) ⟨_, _, _, _, rfl, put3_below h1 (by omega) _ _ _, h2.put3_far (by omega) _ _ _, h3.put3_far (by omega) _ _ _, fun h => (h4 h).put3 HBK2.out _ _ _, fun h => (h5 h).put3 HBK2.out _ _ _, h6, fun h => ⟨g, rfl, hg, fun h => absurd h (by simp), fun h => HBK2.out.put3_at _ _ _⟩, fun h => HD.out⟩
  case done =>
    rintro L a W ⟨s9, s12, s13, s4, rfl, hI⟩ hall
    have hL : ∀ i, i < 11 → L i = true := hall
    clear hall
    obtain ⟨h1, h2, h3, h4, h5, h6, h7, h8⟩ := hI
    obtain ⟨A9, n9, c9, rfl, hn9⟩ := (h4 (hL 4 (by omega))).form
    obtain ⟨A12, n12, c12, rfl, hn12⟩ := (h5 (hL 7 (by omega))).form
    obtain ⟨g, rfl, hg, -, hbg⟩ := h7 (hL 9 (by omega))
    have hblk := hbg (hL 10 (by omega))
    have HN9 := Lib.hid (h4 (hL 4 (by omega)))
    have HN12 := Lib.hid (h5 (hL 7 (by omega)))
    have HB := Lib.hid h1
    have HBR := Lib.hid h3
    have hc0 := hblk.cell 0
    have hc1 := hblk.cell 1
    have hc2 := hblk.cell 2
    have hr0 := h3.cell 0
    have hr1 := h3.cell 1
    have hr2 := h3.cell 2
    have hf0 := h3.frozen 0
    have hf1 := h3.frozen 1
    have hf2 := h3.frozen 2
    unfold numZ at hr0 hr1 hr2
    simp only [List.getElem?_toArray, List.getElem?_cons_zero, List.getElem?_cons_succ] at hc0 hc1 hc2 hr0 hr1 hr2
    have H9 := Lib.hid hn9
    have H12 := Lib.hid hn12
    clear h1 h2 h3 h4 h5 h6 h7 h8 hblk hbg hL hn9 hn12
    simp only [Act.put, List.setIfInBounds_toArray, List.set_cons_succ, List.set_cons_zero]
    by_cases hx : n9 ≤ 128
    · by_cases hy : n12 ≤ 128
      · have HF : Hid (fitB x y = true) := decide_eq_true ⟨H9.out ▸ hx, H12.out ▸ hy⟩
        go_wp2
        refine bodyPost_ret (v := .tuple #[.agg #[.bool neg, .slice A9 n9 c9, .slice A12 n12 c12], .int .i64 0]) (by rw [results_cell_tmp rfl]; go_simp) rfl (.inl ⟨HF.out, _, rfl, ?_, ?_⟩)
        · exact NumV.put3 (w := W) ⟨_, _, rfl, HN9.out, HN12.out⟩ HBR.out _ _ _
        · exact put3_below HB.out (Nat.le_succ _) _ _ _
      · have HF : Hid (fitB x y = false) := decide_eq_false (fun h => hy (H12.out ▸ h.2))
        have hy2 : 128 < n12 := by omega
        go_wp2
        refine bodyPost_ret (v := .tuple #[zeroNum, .int .i64 3]) (by rw [results_cell_tmp rfl]; go_simp; rfl) rfl (.inr ⟨HF.out, rfl, ?_⟩)
        exact put3_below HB.out (Nat.le_succ _) _ _ _
    · have HF : Hid (fitB x y = false) := decide_eq_false (fun h => hx (H9.out ▸ h.1))
      have hx2 : 128 < n9 := by omega
      go_wp2
      refine bodyPost_ret (v := .tuple #[zeroNum, .int .i64 3]) (by rw [results_cell_tmp rfl]; go_simp; rfl) rfl (.inr ⟨HF.out, rfl, ?_⟩)
      exact put3_below HB.out (Nat.le_succ _) _ _ _
end Go.Proofs.YtdfcpkjphdepcaaDoor
namespace Go.Proofs.YtdfcpkjphdepcaaDoor
open Go.RowKit NumB
set_option linter.unusedVariables false
set_option linter.unusedSimpArgs false

theorem GV.putM {w : World} {v : Value} {a : LN} {g : Nat} {t : TypeId} {s : Bool} {A A' : Option Addr} {n m ca cb : Nat} (h : GV w v a) (hg : Blk w g t #[.bool s, .slice A n ca, .slice A' m cb]) (x y z : Value) : GV (Go.Proofs.YtdfcpkjphdepcaaDoor.put3 w g x y z) v a := by
  obtain ⟨p, q, e, h1, h2, h3⟩ := h
  exact ⟨p, q, e, Sl.boxed h1 hg noInts_num (Nat.le_of_eq (put3_size w g x y z).symm) (put3_far w g x y z), Sl.boxed h2 hg noInts_num (Nat.le_of_eq (put3_size w g x y z).symm) (put3_far w g x y z), h3⟩
theorem rmade_S2 (s : Bool) (x y : Nat) (v : Value) (w : World) (h : RV w v s x y) (hl1 : (digs W16 x).length ≤ 100000) (hl2 : (digs W16 y).length ≤ 100000) : Calls Tryd.prog 37 #[v] w (SPost w (opS 0 s x y)) := (rmade_any s x y v w h hl1 hl2).mono fun _ _ h => FitPost.toS h
end Go.Proofs.YtdfcpkjphdepcaaDoor
namespace Go.Proofs.YtdfcpkjphdepcaaDoor
open Go.RowKit NumB
set_option linter.unusedVariables false
set_option linter.unusedSimpArgs false

/-- What integers answers at one number. -/
def intErr (a : LN) : Int := if a.err = 0 then (if a.y = 1 then 0 else 7) else a.err

set_option maxRecDepth 100000 in
set_option maxHeartbeats 3200000 in
theorem integers_one (a : LN) (b cap : Nat) (A1 A2 : Value) (w : World) (t : TypeId) (hg : Blk w b t #[.bool a.neg, A1, A2]) (h : GV w (.agg #[.bool a.neg, A1, A2]) a) :
    Calls Tryd.prog 19 #[.slice (some ⟨b, 0, none⟩) 1 cap] w fun e w' => e = .returned (.int .i64 (intErr a)) ∧ Below w.heap.size w w' := by
  obtain ⟨_, g1, g2, gok⟩ := h.parts
  have HC : Hid (Calls Tryd.prog 26 #[.slice (some ⟨b, 0, none⟩) 1 cap] w fun e w' => e = .returned (.int .i64 a.err) ∧ Below w.heap.size w w') := checks_one b cap a.neg a.num a.den A1 A2 w t hg g1 g2 gok.1 gok.2
  have HBK := Lib.hid hg
  have hbd : 0 ≤ a.err ∧ a.err ≤ 3 := checkL_bd _ _ _
  obtain ⟨B1, n1, d1, B2, n2, d2, he, hq1, hq2⟩ := h.form
  clear hq1 hq2
  simp only [Value.agg.injEq, Array.mk.injEq, List.cons.injEq, and_true, true_and] at he
  obtain ⟨rfl, rfl⟩ := he
  by_cases e0 : a.err = 0
  · have HY : Hid (Nat32 w (.slice B2 n2 d2) a.y) := by
      have h2 := (LN.good gok e0).2.1
      unfold Hid Nat32
      rw [h2]; exact g2
    have HI : Hid (intErr a = if a.y = 1 then 0 else 7) := by unfold Hid intErr; rw [if_pos e0]
    rw [e0] at HC
    generalize intErr a = r at *
    generalize a.y = y at *
    generalize a.neg = ng at *
    clear h g1 g2 gok hg hbd e0
    go_enter Tryd.func19, Tryd.ntmps19
    go_wp2_with fail
    refine HC.out.mono ?_
    rintro e w1 ⟨rfl, hb1⟩
    have HB1 := Lib.hid hb1
    clear hb1
    go_wp2_with fail
    go_loopg [13, 5] 1 (fun gk s13 s5 wr => ∃ j : Nat, gk + j = 1 ∧ s13 = .int .i64 (j : Int) ∧ Hid (0 < j → y = 1) ∧ Hid (Below w.heap.size w wr))
    case atStart => exact ⟨0, by omega, rfl, by unfold Hid; omega, HB1.out⟩
    case round =>
      obtain ⟨j, hgj, rfl, HE, HB⟩ := hrel
      by_cases hj : j = 0
      · subst hj
        obtain rfl : gk = 1 := by omega
        have hk := HBK.out.to HB.out
        have c0 := hk.cell 0
        have c1 := hk.cell 1
        have c2 := hk.cell 2
        simp only [List.getElem?_toArray, List.getElem?_cons_zero, List.getElem?_cons_succ] at c0 c1 c2
        clear hk hgj
        by_cases hy : y = 1
        · have HO := Lib.hid (oneB_true hy)
          have HY1 := Lib.hid hy
          clear hy
          go_wp2_with fail
          refine (isOne_any y _ _ (by exact (HY.out.to HB.out).to (below_one _ _))).mono ?_
          rintro e w3 ⟨he, rfl⟩
          rw [HO.out] at he
          subst he
          go_wp2_with fail
          go_roundg 0
          case measure => omega
          case rel => exact ⟨1, by omega, by go_num, fun _ => HY1.out, HB.out.alloc HB.out.size _⟩
        · have HO := Lib.hid (oneB_false hy)
          have HY1 := Lib.hid hy
          clear hy
          go_wp2_with fail
          refine (isOne_any y _ _ (by exact (HY.out.to HB.out).to (below_one _ _))).mono ?_
          rintro e w3 ⟨he, rfl⟩
          rw [HO.out] at he
          subst he
          go_wp2_with fail
          go_ret
          rw [HI.out, if_neg HY1.out]
          exact ⟨rfl, HB.out.alloc HB.out.size _⟩
      · obtain rfl : j = 1 := by omega
        obtain rfl : gk = 0 := by omega
        have HY1 := Lib.hid (HE.out (by omega))
        clear hgj hj
        go_wp2_with fail
        go_ret
        rw [HI.out, if_pos HY1.out]
        exact ⟨rfl, HB.out⟩
  · have b0 : (a.err != 0) = true := by rw [bne_iff_ne]; exact e0
    have HI : Hid (intErr a = a.err) := by unfold Hid intErr; rw [if_neg e0]
    generalize intErr a = r at *
    generalize a.err = z at *
    clear h g1 g2 gok hg e0
    go_enter Tryd.func19, Tryd.ntmps19
    go_wp2_with fail
    refine HC.out.mono ?_
    rintro e w1 ⟨rfl, hb1⟩
    have HB1 := Lib.hid hb1
    clear hb1
    go_wp2_with fail
    go_ret
    rw [HI.out]
    exact ⟨rfl, HB1.out⟩
end Go.Proofs.YtdfcpkjphdepcaaDoor
namespace Go.Proofs.YtdfcpkjphdepcaaDoor
open Go.RowKit NumB
set_option linter.unusedVariables false
set_option linter.unusedSimpArgs false

/-- What ToInt answers. -/
def toIntS (a : LN) : Int × Int := if intErr a = 0 then (if a.neg then (if a.x ≤ 9223372036854775808 then (-(a.x : Int), 0) else (0, 3)) else (if a.x ≤ 9223372036854775807 then ((a.x : Int), 0) else (0, 3))) else (0, intErr a)
theorem intErr_zero {a : LN} : intErr a = 0 ↔ a.err = 0 ∧ a.y = 1 := by
  unfold intErr
  by_cases h : a.err = 0
  · by_cases h2 : a.y = 1
    · simp [h, h2]
    · simp [h, h2]
  · simp [h]
theorem intErr_bd (a : LN) : 0 ≤ intErr a ∧ intErr a ≤ 7 := by
  have h : 0 ≤ a.err ∧ a.err ≤ 3 := checkL_bd _ _ _
  unfold intErr
  split
  · split <;> omega
  · omega
theorem val_two {xs : List Nat} (h : xs.length ≤ 2) : val W32 xs = xs.getD 0 0 + 4294967296 * xs.getD 1 0 := by
  rcases xs with _ | ⟨a, _ | ⟨b, _ | ⟨c, l⟩⟩⟩
  · rfl
  · simp
  · simp [W32]
  · simp at h
theorem or_zero_u64 (p : Nat) (hp : p < 4294967296) : bits .or .u64 0 (p : Int) = (p : Int) := by
  have h := u64_or 0 (p : Int) (by omega) (by omega) (by omega) (by omega)
  rw [h]; simp

end Go.Proofs.YtdfcpkjphdepcaaDoor
namespace Go.Proofs.YtdfcpkjphdepcaaDoor
open Go.RowKit NumB
set_option linter.unusedVariables false
set_option linter.unusedSimpArgs false

/-- The canonical number of an integer. -/
def intL (s : Bool) (k : Nat) : LN := ⟨s && decide (0 < k), digs W32 k, digs W32 1⟩
theorem fracS_int {s : Bool} {k : Nat} (h : fitB k 1 = true) : fracS 0 s k 1 = (intL s k, 0) := by
  unfold fracS opS
  rw [Nat.gcd_one_right, Nat.div_one, Nat.div_one, if_pos rfl, h, if_pos rfl]
  rfl
theorem fit_64 {k : Nat} (h : k < 18446744073709551616) : fitB k 1 = true := decide_eq_true ⟨Nat.le_trans (digs_len_le (k := 2) W32_gt (by unfold W32; omega)) (by omega), by rw [digs_one32]; decide⟩
theorem intL_fit {s : Bool} {k : Nat} (h : fitB k 1 = true) : (intL s k).ok ∧ (intL s k).err = 0 := by
  have h1 := fracS_ok (s := s) (n := k) (d := 1) (by omega) (by rw [fracS_int h])
  rw [fracS_int h] at h1
  exact ⟨h1.1, h1.2.1⟩
theorem intL_ok (s : Bool) {k : Nat} (h : k < 18446744073709551616) : (intL s k).ok ∧ (intL s k).err = 0 := intL_fit (fit_64 h)
theorem intL_x (s : Bool) (k : Nat) : (intL s k).x = k := val_digs W32_gt k
theorem intL_y (s : Bool) (k : Nat) : (intL s k).y = 1 := val_digs W32_gt 1
theorem intL_int {s : Bool} {k : Nat} (h : k < 18446744073709551616) : intErr (intL s k) = 0 := intErr_zero.2 ⟨(intL_ok s h).2, intL_y s k⟩
theorem toIntS_pos {k : Nat} (h : k ≤ 9223372036854775807) : toIntS (intL false k) = ((k : Int), 0) := by
  unfold toIntS
  rw [if_pos (intL_int (by omega)), intL_x, show (intL false k).neg = false from rfl]
  simp [h]
theorem toIntS_neg {k : Nat} (h0 : 0 < k) (h : k ≤ 9223372036854775808) : toIntS (intL true k) = (-(k : Int), 0) := by
  unfold toIntS
  rw [if_pos (intL_int (by omega)), intL_x, show (intL true k).neg = true from by simp [intL, h0]]
  simp [h]
end Go.Proofs.YtdfcpkjphdepcaaDoor
