/-  -/
import Derived.Deep.AppendLies
import Derived.Test.YtkamkaehlofgpaaJo50
set_option linter.unusedVariables false
set_option linter.unusedSimpArgs false
/- term.Elements: the elements of a list, and the rest. -/
namespace Go.Proofs.Ytkamkaehlofgpaa
open Go.RowKit NumB
set_option linter.unusedVariables false
set_option linter.unusedSimpArgs false

theorem results_tmp_cellT {fn : Func} {p u : Tmp} {ty : TypeId} (h : fn.results = #[.tmp u, .cell p ty]) (tmps : Array Value) (P : Program) (w : World) :
    (results fn tmps).run P w = ((asAddr (tmps.getD p undef)).run P w).andThen fun a w₁ => ((loadVar ty a).run P w₁).andThen fun x w₂ => .ok (.tuple #[tmps.getD u undef, x]) w₂ := by
  simp only [results, h]
  simp [Sem.run_bind, Result.andThen, Sem.run_pure]
/-- A row of elements, as a slice of terms. -/
theorem elems_done {P : Nat → Prop} {w : World} {B n : Nat} {ov : Value} {xs : List Value} {ts : List Tm} {vals : Nat → List Value} (hr : w.ownsRow B 27 7 ov n xs) (hl : ts.length = n) (hx : ∀ i, i < n → ∀ q, q < 7 → xs[i * 7 + q]? = (vals i)[q]?) (ht : ∀ i (h : i < ts.length), TCP P w ts[i] (vals i)) : TL w ov ts := by
  obtain ⟨h1, h2 | ⟨g, cap, cur, e, h3, h4, h5⟩⟩ := hr
  · obtain ⟨rfl, e⟩ := h2
    subst e
    obtain rfl : ts = [] := by cases ts with
      | nil => rfl
      | cons x l => simp at hl
    exact ⟨none, 0, fun _ => [], rfl, Nat.le_refl _, by unfold maxLen; omega, fun h => absurd h (by simp), fun i h => absurd h (by simp)⟩
  · subst e
    have hr : w.ownsRow B 27 7 (.slice (some ⟨g, 0, none⟩) n cap) n xs := ⟨h1, .inr ⟨g, cap, cur, rfl, h3, h4, h5⟩⟩
    have hlt : g < w.heap.size := (Go.World.ownsRow.lt hr g rfl).2
    refine ⟨some ⟨g, 0, none⟩, cap, vals, by rw [hl], ?_, ?_, fun h0 => ⟨g, 0, rfl, hlt, fun i hi j hj => ?_⟩, fun i h => (ht i h).tc⟩
    · rw [hl]; exact h5.1
    · exact h5.2.1
    · rw [Nat.zero_add, ← hx i (by omega) j hj]
      exact hr.cellAt (i * 7 + j) (by omega)

theorem grow_tcp {R g : Nat} {u : Value} {w w' : World} {t : Tm} {cs : List Value} (h : TCP (fun b => R < b ∧ some b ≠ u.ownBlock) w t cs) (hg : w.grownBy w' u.ownBlock) (hat : u.ownBlock = some g ∨ g = w.heap.size) : TCP (fun b => R < b ∧ some b ≠ some g) w' t cs := by
  have h1 : TCP (fun b => (R < b ∧ some b ≠ u.ownBlock) ∧ some b ≠ some g) w t cs := h.mono fun b hb hlt => ⟨hb, by
    rcases hat with e | e
    · rw [← e]; exact hb.2
    · intro e2; simp at e2; omega⟩
  exact (h1.to hg.size fun b hb hlt => hg.block b hlt hb.1.2).mono fun b hb _ => ⟨hb.1.1, hb.2⟩
/-- Not a list cell. -/
def Tm.rest : Tm → Prop
  | .mk k _ s _ args => ¬ (k = 5 ∧ s.toList = [46] ∧ args.length = 2)

set_option maxRecDepth 100000 in
set_option maxHeartbeats 6400000 in
theorem elements_any {w : World} {ts : List Tm} {r : Tm} {cs : List Value} (h : TC w (listT ts r) cs) (hnr : r.rest) (hn : (ts.length : Int) * 112 ≤ 140737488355328) (hs : ∀ i (h : i < ts.length), (ts[i]).sm) (hrs : r.sm) (W : World) (hW : Below w.heap.size w W) :
    Calls Try.prog 6 #[.agg cs.toArray] W fun e w' => ∃ mv cr, e = .returned (.tuple #[mv, .agg cr.toArray]) ∧ TL w' mv ts ∧ TC w' r cr ∧ Below W.heap.size W w' := by
  have HCE : Hid (∀ i (h : i < ts.length) cx, TC w ts[i] cx → ∀ W', Below w.heap.size w W' → Calls Try.prog 17 #[.agg cx.toArray] W' fun e w' => ∃ cs', e = .returned (.agg cs'.toArray) ∧ TCF (W'.heap.size + 1) w' ts[i] cs' ∧ Below W'.heap.size W' w') := fun i h cx hx W' hb => clone_tm hx (hs i h) W' hb
  have HCQ : Hid (∀ cx, TC w r cx → ∀ W', Below w.heap.size w W' → Calls Try.prog 17 #[.agg cx.toArray] W' fun e w' => ∃ cs', e = .returned (.agg cs'.toArray) ∧ TCF (W'.heap.size + 1) w' r cs' ∧ Below W'.heap.size W' w') := fun cx hx W' hb => clone_tm hx hrs W' hb
  obtain ⟨k0, v0, st0, ng0, A0, n0, c0, B0, m0, d0, X0, l0, e0, hf⟩ := h.form
  subst hf
  have H0 := Lib.hid h
  have HWB := Lib.hid hW
  have HNR := Lib.hid hnr
  obtain ⟨n, hl⟩ : ∃ n, ts.length = n := ⟨_, rfl⟩
  rw [hl] at hn
  have HL := Lib.hid hl
  clear hl h hs hrs hW hnr
  have HB0 : Hid (Below W.heap.size W ((W.alloc (.cells #[.int .i64 k0, .int .i64 v0, .string st0, .bool ng0, .slice A0 n0 c0, .slice B0 m0 d0, .slice X0 l0 e0] 27)).alloc (.cells #[.int .i64 0, .int .i64 0, .string ⟨#[]⟩, .bool false, .slice none 0 0, .slice none 0 0, .slice none 0 0] 27))) := below_pair W _ _
  have HK0 : Hid (Blk ((W.alloc (.cells #[.int .i64 k0, .int .i64 v0, .string st0, .bool ng0, .slice A0 n0 c0, .slice B0 m0 d0, .slice X0 l0 e0] 27)).alloc (.cells #[.int .i64 0, .int .i64 0, .string ⟨#[]⟩, .bool false, .slice none 0 0, .slice none 0 0, .slice none 0 0] 27)) (W.heap.size + 1) 27 #[.int .i64 0, .int .i64 0, .string ⟨#[]⟩, .bool false, .slice none 0 0, .slice none 0 0, .slice none 0 0]) := blk_2nd W _ _
  have HT0 : Hid (Blk ((W.alloc (.cells #[.int .i64 k0, .int .i64 v0, .string st0, .bool ng0, .slice A0 n0 c0, .slice B0 m0 d0, .slice X0 l0 e0] 27)).alloc (.cells #[.int .i64 0, .int .i64 0, .string ⟨#[]⟩, .bool false, .slice none 0 0, .slice none 0 0, .slice none 0 0] 27)) W.heap.size 27 #[.int .i64 k0, .int .i64 v0, .string st0, .bool ng0, .slice A0 n0 c0, .slice B0 m0 d0, .slice X0 l0 e0]) := (Blk.new W _ _).alloc _
  obtain ⟨i0, hi0, hz0, hz1, hz2⟩ := info_parts info_term
  have HI0 := Lib.hid hi0
  have HZ0 := Lib.hid hz0
  have HZ1 := Lib.hid hz1
  have HZ2 := Lib.hid hz2
  clear hi0 hz0 hz1 hz2
  go_enter Try.func6, Try.ntmps6
  go_wp2_with fail
  go_loopg [4] n (fun gk s4 wr => ∃ (k6 v6 : Int) (st6 : ByteArray) (ng6 : Bool) (A6 : Option Addr) (n6 c6 : Nat) (B6 : Option Addr) (m6 d6 : Nat) (X6 : Option Addr) (l6 e6 : Nat) (j : Nat) (ov : Value) (xs : List Value) (vals : Nat → List Value), gk + j = n ∧ s4 = ov ∧ Hid (TC w (listT (ts.drop j) r) [.int .i64 k6, .int .i64 v6, .string st6, .bool ng6, .slice A6 n6 c6, .slice B6 m6 d6, .slice X6 l6 e6]) ∧ Hid (Blk wr W.heap.size 27 #[.int .i64 k6, .int .i64 v6, .string st6, .bool ng6, .slice A6 n6 c6, .slice B6 m6 d6, .slice X6 l6 e6]) ∧ Hid (Below W.heap.size W wr) ∧ Hid (Blk wr (W.heap.size + 1) 27 #[.int .i64 0, .int .i64 0, .string ⟨#[]⟩, .bool false, .slice none 0 0, .slice none 0 0, .slice none 0 0]) ∧ Hid (wr.ownsRow (W.heap.size + 2) 27 7 ov j xs) ∧ Hid (∀ i, i < j → ∀ q, q < 7 → xs[i * 7 + q]? = (vals i)[q]?) ∧ Hid (∀ i (h : i < ts.length), i < j → TCP (fun b => W.heap.size + 1 < b ∧ some b ≠ ov.ownBlock) wr ts[i] (vals i)))
  case atStart =>
    exact ⟨k0, v0, st0, ng0, A0, n0, c0, B0, m0, d0, X0, l0, e0, 0, _, [], fun _ => [], by omega, rfl, by rw [List.drop_zero]; exact H0.out, HT0.out, HB0.out, HK0.out, World.ownsRow_nil _ _ _ _, fun i hi => absurd hi (by omega), fun i _ hi => absurd hi (by omega)⟩
  case round =>
    clear HB0 HK0 HT0 H0
    obtain ⟨k6, v6, st6, ng6, A6, n6, c6, B6, m6, d6, X6, l6, e6, j, ov, xs, vals, hgj, rfl, HT, HK, HB, HRS, HOWN, HXS, HV⟩ := hrel
    have y0 := HK.out.cell 0
    have y1 := HK.out.cell 1
    have y2 := HK.out.cell 2
    have y3 := HK.out.cell 3
    have y4 := HK.out.cell 4
    have y5 := HK.out.cell 5
    have y6 := HK.out.cell 6
    simp only [List.getElem?_toArray, List.getElem?_cons_zero, List.getElem?_cons_succ] at y0 y1 y2 y3 y4 y5 y6
    by_cases hj : j < n
    · have hja : j < ts.length := by rw [HL.out]; exact hj
      have HTC : TC w (.cell ts[j] (listT (ts.drop (j + 1)) r)) [.int .i64 k6, .int .i64 v6, .string st6, .bool ng6, .slice A6 n6 c6, .slice B6 m6 d6, .slice X6 l6 e6] := by rw [← listT_drop ts r hja]; exact HT.out
      obtain ⟨rfl, rfl, rfl, he2, hem, b, o, cx, cr, rfl, hlt, hcx, hcr, hax, har⟩ := HTC.cell_inv
      obtain ⟨k5, v5, st5, ng5, A5, n5, c5, B5, m5, d5, X5, l5, e5, hf5⟩ := hcx.form
      obtain ⟨k7, v7, st7, ng7, A7, n7, c7, B7, m7, d7, X7, l7, e7, hf7⟩ := hcr.form
      subst hf5 hf7
      have HBW := HWB.out.trans (HB.out.mono HWB.out.size)
      have HEX : Hid (∀ (W' : World), Below w.heap.size w W' → W'.cell? ⟨b, o, none⟩ = some (.int .i64 k5) ∧ W'.cell? ⟨b, o + 1, none⟩ = some (.int .i64 v5) ∧ W'.cell? ⟨b, o + 2, none⟩ = some (.string st5) ∧ W'.cell? ⟨b, o + 3, none⟩ = some (.bool ng5) ∧ W'.cell? ⟨b, o + 4, none⟩ = some (.slice A5 n5 c5) ∧ W'.cell? ⟨b, o + 5, none⟩ = some (.slice B5 m5 d5) ∧ W'.cell? ⟨b, o + 6, none⟩ = some (.slice X5 l5 e5)) := fun W' hb => ⟨(hb.cell (p := ⟨b, o, none⟩) hlt).trans (hax 0 (by omega)), (hb.cell (p := ⟨b, o + 1, none⟩) hlt).trans (hax 1 (by omega)), (hb.cell (p := ⟨b, o + 2, none⟩) hlt).trans (hax 2 (by omega)), (hb.cell (p := ⟨b, o + 3, none⟩) hlt).trans (hax 3 (by omega)), (hb.cell (p := ⟨b, o + 4, none⟩) hlt).trans (hax 4 (by omega)), (hb.cell (p := ⟨b, o + 5, none⟩) hlt).trans (hax 5 (by omega)), (hb.cell (p := ⟨b, o + 6, none⟩) hlt).trans (hax 6 (by omega))⟩
      have HER : Hid (∀ (W' : World), Below w.heap.size w W' → W'.cell? ⟨b, o + 7, none⟩ = some (.int .i64 k7) ∧ W'.cell? ⟨b, o + 7 + 1, none⟩ = some (.int .i64 v7) ∧ W'.cell? ⟨b, o + 7 + 2, none⟩ = some (.string st7) ∧ W'.cell? ⟨b, o + 7 + 3, none⟩ = some (.bool ng7) ∧ W'.cell? ⟨b, o + 7 + 4, none⟩ = some (.slice A7 n7 c7) ∧ W'.cell? ⟨b, o + 7 + 5, none⟩ = some (.slice B7 m7 d7) ∧ W'.cell? ⟨b, o + 7 + 6, none⟩ = some (.slice X7 l7 e7)) := fun W' hb => ⟨(hb.cell (p := ⟨b, o + 7, none⟩) hlt).trans (har 0 (by omega)), (hb.cell (p := ⟨b, o + 7 + 1, none⟩) hlt).trans (har 1 (by omega)), (hb.cell (p := ⟨b, o + 7 + 2, none⟩) hlt).trans (har 2 (by omega)), (hb.cell (p := ⟨b, o + 7 + 3, none⟩) hlt).trans (har 3 (by omega)), (hb.cell (p := ⟨b, o + 7 + 4, none⟩) hlt).trans (har 4 (by omega)), (hb.cell (p := ⟨b, o + 7 + 5, none⟩) hlt).trans (har 5 (by omega)), (hb.cell (p := ⟨b, o + 7 + 6, none⟩) hlt).trans (har 6 (by omega))⟩
      have HCALL := Lib.hid (HCE.out j hja _ hcx)
      have HCRR := Lib.hid hcr
      unfold maxLen at hem
      obtain ⟨x0, x1, x2, x3, x4, x5, x6⟩ := HEX.out wr HBW
      clear hax har hcx hcr HTC HEX
      go_wp2_with fail
      refine (HCALL.out wr HBW).mono ?_
      rintro e w3 ⟨cs8, rfl, ht8, hb8⟩
      obtain ⟨k8, v8, st8, ng8, A8, n8, c8, B8, m8, d8, X8, l8, e8, hf8⟩ := ht8.tc.form
      subst hf8
      have HB8 := Lib.hid (hb8.trans ((below_one w3 (.cells #[.int .i64 k8, .int .i64 v8, .string st8, .bool ng8, .slice A8 n8 c8, .slice B8 m8 d8, .slice X8 l8 e8] 27)).mono hb8.size))
      have HRW := Lib.hid (row_to HOWN.out HB8.out)
      have HNEWS := Lib.hid (World.news_of_block (Blk.new w3 27 #[.int .i64 k8, .int .i64 v8, .string st8, .bool ng8, .slice A8 n8 c8, .slice B8 m8 d8, .slice X8 l8 e8]))
      have HONE : Hid (∀ u ∈ [(Value.int .i64 k8), (Value.int .i64 v8), (Value.string st8), (Value.bool ng8), (Value.slice A8 n8 c8), (Value.slice B8 m8 d8), (Value.slice X8 l8 e8)], u.oneCell' = true) := fun u hu => by
        simp only [List.mem_cons, List.not_mem_nil, or_false] at hu
        rcases hu with rfl | rfl | rfl | rfl | rfl | rfl | rfl <;> rfl
      have HOLT : Hid (∀ k, u4.ownBlock = some k → W.heap.size + 2 ≤ k ∧ k < wr.heap.size) := Go.World.ownsRow.lt HOWN.out
      have HTA : Hid (∀ i (h : i < ts.length), i < j + 1 → TCP (fun b => W.heap.size + 1 < b ∧ some b ≠ u4.ownBlock) (w3.alloc (.cells #[.int .i64 k8, .int .i64 v8, .string st8, .bool ng8, .slice A8 n8 c8, .slice B8 m8 d8, .slice X8 l8 e8] 27)) ts[i] (if i = j then [.int .i64 k8, .int .i64 v8, .string st8, .bool ng8, .slice A8 n8 c8, .slice B8 m8 d8, .slice X8 l8 e8] else vals i)) := fun i h hi => by
        by_cases hij : i = j
        · subst hij
          rw [if_pos rfl]
          exact ((TCP.of_tcf ht8).mono (q := (fun b => W.heap.size + 1 < b ∧ some b ≠ u4.ownBlock)) fun b hb _ => ⟨by have := HRS.out.lt; have hb' : wr.heap.size + 1 ≤ b := hb; omega, fun e => by have := (HOLT.out b e.symm).2; have hb' : wr.heap.size + 1 ≤ b := hb; omega⟩).onto (below_one w3 _)
        · rw [if_neg hij]
          exact (HV.out i h (by omega)).onto HB8.out
      have HBA : Hid (Below W.heap.size W (w3.alloc (.cells #[.int .i64 k8, .int .i64 v8, .string st8, .bool ng8, .slice A8 n8 c8, .slice B8 m8 d8, .slice X8 l8 e8] 27))) := HB.out.trans (HB8.out.mono HB.out.size)
      have HKEEP : Hid (∀ w4, (w3.alloc (.cells #[.int .i64 k8, .int .i64 v8, .string st8, .bool ng8, .slice A8 n8 c8, .slice B8 m8 d8, .slice X8 l8 e8] 27)).grownBy w4 u4.ownBlock → (Blk w4 W.heap.size 27 #[.int .i64 5, .int .i64 v6, .string ⟨#[46]⟩, .bool ng6, .slice A6 n6 c6, .slice B6 m6 d6, .slice (some ⟨b, o, none⟩) 2 e6] ∧ Blk w4 (W.heap.size + 1) 27 #[.int .i64 0, .int .i64 0, .string ⟨#[]⟩, .bool false, .slice none 0 0, .slice none 0 0, .slice none 0 0]) ∧ Below W.heap.size W w4 ∧ Below w.heap.size w w4) := fun w4 hg => by
        have hk : ∀ k, k < W.heap.size + 2 → some k ≠ u4.ownBlock := fun k hk e => by have := (HOLT.out k e.symm).1; omega
        have hb4 := HBA.out.grown hg HBA.out.size (fun k hk => by have := (HOLT.out k hk).1; omega)
        exact ⟨⟨(hg.block _ (HK.out.to HB8.out).lt (hk _ (by omega))).trans (HK.out.to HB8.out), (hg.block _ (HRS.out.to HB8.out).lt (hk _ (by omega))).trans (HRS.out.to HB8.out)⟩, hb4, HWB.out.trans (hb4.mono HWB.out.size)⟩
      have hjn : (j : Int) < n := by omega
      clear ht8 hb8 HCALL x0 x1 x2 x3 x4 x5 x6 y0 y1 y2 y3 y4 y5 y6
      go_wp2_with (at_builtin; go_must (refine wpList_append_lies _ rfl _ _ 22 rfl (W.heap.size + 2) 27 i0 (.agg zt.toArray) 7 112 Try.underlying22 HI0.out HZ0.out HZ1.out HZ2.out rfl (by decide) u4 j xs rfl HRW.out ⟨w3.heap.size, 0, none⟩ 1 1 [.int .i64 k8, .int .i64 v8, .string st8, .bool ng8, .slice A8 n8 c8, .slice B8 m8 d8, .slice X8 l8 e8] rfl rfl HNEWS.out HONE.out (by decide) (by unfold maxLen; omega) (by omega) (by have := HB8.out.size; have := HRS.out.lt; omega) _ rfl ?_); intro g cap w4 hown hgrow hat hlt4; have HOW4 := Lib.hid hown; have HGR := Lib.hid hgrow; have HAT := Lib.hid hat; have HK4 := Lib.hid (HKEEP.out w4 hgrow); clear hown hgrow hat hlt4; have t0 := HK4.out.1.1.cell 0; have t1 := HK4.out.1.1.cell 1; have t2 := HK4.out.1.1.cell 2; have t3 := HK4.out.1.1.cell 3; have t4 := HK4.out.1.1.cell 4; have t5 := HK4.out.1.1.cell 5; have t6 := HK4.out.1.1.cell 6; simp only [List.getElem?_toArray, List.getElem?_cons_zero, List.getElem?_cons_succ] at t0 t1 t2 t3 t4 t5 t6; have z0 := HK4.out.1.1.frozen 0; have z1 := HK4.out.1.1.frozen 1; have z2 := HK4.out.1.1.frozen 2; have z3 := HK4.out.1.1.frozen 3; have z4 := HK4.out.1.1.frozen 4; have z5 := HK4.out.1.1.frozen 5; have z6 := HK4.out.1.1.frozen 6; obtain ⟨x0, x1, x2, x3, x4, x5, x6⟩ := HER.out w4 HK4.out.2.2)
      go_roundg (gk - 1)
      case measure => omega
      case rel =>
        have hSB : ∀ b, b ≠ W.heap.size → ((((((((w4.setCell ⟨W.heap.size, 0, none⟩ (.int .i64 k7)).setCell ⟨W.heap.size, 1, none⟩ (.int .i64 v7)).setCell ⟨W.heap.size, 2, none⟩ (.string st7)).setCell ⟨W.heap.size, 3, none⟩ (.bool ng7)).setCell ⟨W.heap.size, 4, none⟩ (.slice A7 n7 c7)).setCell ⟨W.heap.size, 5, none⟩ (.slice B7 m7 d7)).setCell ⟨W.heap.size, 6, none⟩ (.slice X7 l7 e7))).heap[b]? = w4.heap[b]? := fun b hb => by
          repeat rw [Below.heap_setCell _ _ _ b hb]
        refine ⟨k7, v7, st7, ng7, A7, n7, c7, B7, m7, d7, X7, l7, e7, j + 1, .slice (some ⟨g, 0, none⟩) (j + 1) cap, xs ++ [.int .i64 k8, .int .i64 v8, .string st8, .bool ng8, .slice A8 n8 c8, .slice B8 m8 d8, .slice X8 l8 e8], fun i => if i = j then [.int .i64 k8, .int .i64 v8, .string st8, .bool ng8, .slice A8 n8 c8, .slice B8 m8 d8, .slice X8 l8 e8] else vals i, by omega, rfl, HCRR.out, ?_, ((((((HK4.out.2.1.setCell (Nat.le_refl _) _).setCell (Nat.le_refl _) _).setCell (Nat.le_refl _) _).setCell (Nat.le_refl _) _).setCell (Nat.le_refl _) _).setCell (Nat.le_refl _) _).setCell (Nat.le_refl _) _, ?_, ?_, fun i hi q hq => ?_, fun i h hi => ?_⟩
        · have := ((((((HK4.out.1.1.set_ 0 (.int .i64 k7)).set_ 1 (.int .i64 v7)).set_ 2 (.string st7)).set_ 3 (.bool ng7)).set_ 4 (.slice A7 n7 c7)).set_ 5 (.slice B7 m7 d7)).set_ 6 (.slice X7 l7 e7)
          simp only [List.setIfInBounds_toArray, List.set_cons_zero, List.set_cons_succ] at this
          exact this
        · exact (hSB _ (by omega)).trans HK4.out.1.2
        · exact row_set (row_set (row_set (row_set (row_set (row_set (row_set HOW4.out (by omega)) (by omega)) (by omega)) (by omega)) (by omega)) (by omega)) (by omega)
        · have hxl : xs.length = j * 7 := HRW.out.1
          by_cases hij : i = j
          · subst hij
            dsimp only
            rw [if_pos rfl, List.getElem?_append_right (by omega)]
            congr 1
            omega
          · dsimp only
            rw [if_neg hij, List.getElem?_append_left (by omega)]
            exact HXS.out i (by omega) q hq
        · exact (grow_tcp (HTA.out i h hi) HGR.out HAT.out).to (by simp) fun b hb _ => hSB b (by have := hb.1; omega)
    · obtain rfl : n = j := by omega
      have HTR : TC w r [.int .i64 k6, .int .i64 v6, .string st6, .bool ng6, .slice A6 n6 c6, .slice B6 m6 d6, .slice X6 l6 e6] := by rw [← listT_nil ts r, HL.out]; exact HT.out
      have HCR := Lib.hid (HCQ.out _ HTR)
      have hrest : ¬ (k6 = 5 ∧ st6.toList = [46] ∧ l6 = 2) := by
        have := HNR.out
        cases HTR
        exact this
      clear HTR HCE HCQ
      by_cases hk5 : k6 = 5
      · subst hk5
        by_cases hs : st6.toList = [46]
        · have hl2 : ((l6 : Int) == 2) = false := beq_eq_false_iff_ne.2 fun e => hrest ⟨rfl, hs, by omega⟩
          have hs1 : (st6.toList == [46]) = true := by rw [hs]; rfl
          have hs2 : (st6.toList == (⟨#[46]⟩ : ByteArray).toList) = true := by rw [hs, Lib.toList_data]; rfl
          clear hrest hs
          go_wp2_with fail
          refine (HCR.out _ (by exact HWB.out.trans (HB.out.mono HWB.out.size))).mono ?_
          rintro e w5 ⟨cs7, rfl, ht7, hb7⟩
          obtain ⟨k7, v7, st7, ng7, A7, n7, c7, B7, m7, d7, X7, l7, e7, hf7⟩ := ht7.tc.form
          subst hf7
          have HR5 := Lib.hid (HRS.out.to hb7)
          have HB5 : Hid (Below W.heap.size W w5) := HB.out.trans (hb7.mono HB.out.size)
          have HO5 := Lib.hid (row_to HOWN.out hb7)
          have HT7 := Lib.hid ((TCP.of_tcf ht7).mono (q := fun b => W.heap.size + 1 < b) (fun b hb _ => by have := HB.out.size; have := HRS.out.lt; have hb' : wr.heap.size + 1 ≤ b := hb; show W.heap.size + 1 < b; omega))
          have HV5 : Hid (∀ i (h : i < ts.length), i < n → TCP (fun b => W.heap.size + 1 < b ∧ some b ≠ u4.ownBlock) w5 ts[i] (vals i)) := fun i h hi => (HV.out i h (by omega)).onto hb7
          clear ht7 hb7 y0 y1 y2 y3 y4 y5 y6
          have r0 := HR5.out.cell 0
          have r1 := HR5.out.cell 1
          have r2 := HR5.out.cell 2
          have r3 := HR5.out.cell 3
          have r4 := HR5.out.cell 4
          have r5 := HR5.out.cell 5
          have r6 := HR5.out.cell 6
          simp only [List.getElem?_toArray, List.getElem?_cons_zero, List.getElem?_cons_succ] at r0 r1 r2 r3 r4 r5 r6
          have z0 := HR5.out.frozen 0
          have z1 := HR5.out.frozen 1
          have z2 := HR5.out.frozen 2
          have z3 := HR5.out.frozen 3
          have z4 := HR5.out.frozen 4
          have z5 := HR5.out.frozen 5
          have z6 := HR5.out.frozen 6
          go_wp2_with fail
          refine bodyPost_ret (v := .tuple #[u4, .agg #[.int .i64 k7, .int .i64 v7, .string st7, .bool ng7, .slice A7 n7 c7, .slice B7 m7 d7, .slice X7 l7 e7]]) (by rw [results_tmp_cellT rfl]; go_simp) rfl ?_
          have hne : ∀ b : Nat, W.heap.size + 1 < b → b ≠ W.heap.size + 1 := fun b hb => by omega
          refine ⟨u4, [.int .i64 k7, .int .i64 v7, .string st7, .bool ng7, .slice A7 n7 c7, .slice B7 m7 d7, .slice X7 l7 e7], rfl, ?_, (HT7.out.to (by simp) fun b hb _ => ?_).tc, ((((((HB5.out.setCell (Nat.le_succ _) _).setCell (Nat.le_succ _) _).setCell (Nat.le_succ _) _).setCell (Nat.le_succ _) _).setCell (Nat.le_succ _) _).setCell (Nat.le_succ _) _).setCell (Nat.le_succ _) _⟩
          · refine elems_done (P := (fun b => W.heap.size + 1 < b ∧ some b ≠ u4.ownBlock)) (row_set (row_set (row_set (row_set (row_set (row_set (row_set HO5.out (by omega)) (by omega)) (by omega)) (by omega)) (by omega)) (by omega)) (by omega)) HL.out HXS.out fun i h => ((HV5.out i h (by rw [← HL.out]; exact h)).to (by simp) fun b hb _ => ?_)
            have hbr := hne b hb.1
            repeat rw [Below.heap_setCell _ _ _ b hbr]
          · have hbr := hne b hb
            repeat rw [Below.heap_setCell _ _ _ b hbr]
        · have hs1 : (st6.toList == [46]) = false := beq_eq_false_iff_ne.2 hs
          have hs2 : (st6.toList == (⟨#[46]⟩ : ByteArray).toList) = false := by rw [Lib.toList_data ⟨#[46]⟩]; exact beq_eq_false_iff_ne.2 hs
          clear hrest hs
          go_wp2_with fail
          refine (HCR.out _ (by exact HWB.out.trans (HB.out.mono HWB.out.size))).mono ?_
          rintro e w5 ⟨cs7, rfl, ht7, hb7⟩
          obtain ⟨k7, v7, st7, ng7, A7, n7, c7, B7, m7, d7, X7, l7, e7, hf7⟩ := ht7.tc.form
          subst hf7
          have HR5 := Lib.hid (HRS.out.to hb7)
          have HB5 : Hid (Below W.heap.size W w5) := HB.out.trans (hb7.mono HB.out.size)
          have HO5 := Lib.hid (row_to HOWN.out hb7)
          have HT7 := Lib.hid ((TCP.of_tcf ht7).mono (q := fun b => W.heap.size + 1 < b) (fun b hb _ => by have := HB.out.size; have := HRS.out.lt; have hb' : wr.heap.size + 1 ≤ b := hb; show W.heap.size + 1 < b; omega))
          have HV5 : Hid (∀ i (h : i < ts.length), i < n → TCP (fun b => W.heap.size + 1 < b ∧ some b ≠ u4.ownBlock) w5 ts[i] (vals i)) := fun i h hi => (HV.out i h (by omega)).onto hb7
          clear ht7 hb7 y0 y1 y2 y3 y4 y5 y6
          have r0 := HR5.out.cell 0
          have r1 := HR5.out.cell 1
          have r2 := HR5.out.cell 2
          have r3 := HR5.out.cell 3
          have r4 := HR5.out.cell 4
          have r5 := HR5.out.cell 5
          have r6 := HR5.out.cell 6
          simp only [List.getElem?_toArray, List.getElem?_cons_zero, List.getElem?_cons_succ] at r0 r1 r2 r3 r4 r5 r6
          have z0 := HR5.out.frozen 0
          have z1 := HR5.out.frozen 1
          have z2 := HR5.out.frozen 2
          have z3 := HR5.out.frozen 3
          have z4 := HR5.out.frozen 4
          have z5 := HR5.out.frozen 5
          have z6 := HR5.out.frozen 6
          go_wp2_with fail
          refine bodyPost_ret (v := .tuple #[u4, .agg #[.int .i64 k7, .int .i64 v7, .string st7, .bool ng7, .slice A7 n7 c7, .slice B7 m7 d7, .slice X7 l7 e7]]) (by rw [results_tmp_cellT rfl]; go_simp) rfl ?_
          have hne : ∀ b : Nat, W.heap.size + 1 < b → b ≠ W.heap.size + 1 := fun b hb => by omega
          refine ⟨u4, [.int .i64 k7, .int .i64 v7, .string st7, .bool ng7, .slice A7 n7 c7, .slice B7 m7 d7, .slice X7 l7 e7], rfl, ?_, (HT7.out.to (by simp) fun b hb _ => ?_).tc, ((((((HB5.out.setCell (Nat.le_succ _) _).setCell (Nat.le_succ _) _).setCell (Nat.le_succ _) _).setCell (Nat.le_succ _) _).setCell (Nat.le_succ _) _).setCell (Nat.le_succ _) _).setCell (Nat.le_succ _) _⟩
          · refine elems_done (P := (fun b => W.heap.size + 1 < b ∧ some b ≠ u4.ownBlock)) (row_set (row_set (row_set (row_set (row_set (row_set (row_set HO5.out (by omega)) (by omega)) (by omega)) (by omega)) (by omega)) (by omega)) (by omega)) HL.out HXS.out fun i h => ((HV5.out i h (by rw [← HL.out]; exact h)).to (by simp) fun b hb _ => ?_)
            have hbr := hne b hb.1
            repeat rw [Below.heap_setCell _ _ _ b hbr]
          · have hbr := hne b hb
            repeat rw [Below.heap_setCell _ _ _ b hbr]
      · have hk1 : (k6 == 5) = false := beq_eq_false_iff_ne.2 hk5
        clear hrest hk5
        go_wp2_with fail
        refine (HCR.out _ (by exact HWB.out.trans (HB.out.mono HWB.out.size))).mono ?_
        rintro e w5 ⟨cs7, rfl, ht7, hb7⟩
        obtain ⟨k7, v7, st7, ng7, A7, n7, c7, B7, m7, d7, X7, l7, e7, hf7⟩ := ht7.tc.form
        subst hf7
        have HR5 := Lib.hid (HRS.out.to hb7)
        have HB5 : Hid (Below W.heap.size W w5) := HB.out.trans (hb7.mono HB.out.size)
        have HO5 := Lib.hid (row_to HOWN.out hb7)
        have HT7 := Lib.hid ((TCP.of_tcf ht7).mono (q := fun b => W.heap.size + 1 < b) (fun b hb _ => by have := HB.out.size; have := HRS.out.lt; have hb' : wr.heap.size + 1 ≤ b := hb; show W.heap.size + 1 < b; omega))
        have HV5 : Hid (∀ i (h : i < ts.length), i < n → TCP (fun b => W.heap.size + 1 < b ∧ some b ≠ u4.ownBlock) w5 ts[i] (vals i)) := fun i h hi => (HV.out i h (by omega)).onto hb7
        clear ht7 hb7 y0 y1 y2 y3 y4 y5 y6
        have r0 := HR5.out.cell 0
        have r1 := HR5.out.cell 1
        have r2 := HR5.out.cell 2
        have r3 := HR5.out.cell 3
        have r4 := HR5.out.cell 4
        have r5 := HR5.out.cell 5
        have r6 := HR5.out.cell 6
        simp only [List.getElem?_toArray, List.getElem?_cons_zero, List.getElem?_cons_succ] at r0 r1 r2 r3 r4 r5 r6
        have z0 := HR5.out.frozen 0
        have z1 := HR5.out.frozen 1
        have z2 := HR5.out.frozen 2
        have z3 := HR5.out.frozen 3
        have z4 := HR5.out.frozen 4
        have z5 := HR5.out.frozen 5
        have z6 := HR5.out.frozen 6
        go_wp2_with fail
        refine bodyPost_ret (v := .tuple #[u4, .agg #[.int .i64 k7, .int .i64 v7, .string st7, .bool ng7, .slice A7 n7 c7, .slice B7 m7 d7, .slice X7 l7 e7]]) (by rw [results_tmp_cellT rfl]; go_simp) rfl ?_
        have hne : ∀ b : Nat, W.heap.size + 1 < b → b ≠ W.heap.size + 1 := fun b hb => by omega
        refine ⟨u4, [.int .i64 k7, .int .i64 v7, .string st7, .bool ng7, .slice A7 n7 c7, .slice B7 m7 d7, .slice X7 l7 e7], rfl, ?_, (HT7.out.to (by simp) fun b hb _ => ?_).tc, ((((((HB5.out.setCell (Nat.le_succ _) _).setCell (Nat.le_succ _) _).setCell (Nat.le_succ _) _).setCell (Nat.le_succ _) _).setCell (Nat.le_succ _) _).setCell (Nat.le_succ _) _).setCell (Nat.le_succ _) _⟩
        · refine elems_done (P := (fun b => W.heap.size + 1 < b ∧ some b ≠ u4.ownBlock)) (row_set (row_set (row_set (row_set (row_set (row_set (row_set HO5.out (by omega)) (by omega)) (by omega)) (by omega)) (by omega)) (by omega)) (by omega)) HL.out HXS.out fun i h => ((HV5.out i h (by rw [← HL.out]; exact h)).to (by simp) fun b hb _ => ?_)
          have hbr := hne b hb.1
          repeat rw [Below.heap_setCell _ _ _ b hbr]
        · have hbr := hne b hb
          repeat rw [Below.heap_setCell _ _ _ b hbr]
end Go.Proofs.Ytkamkaehlofgpaa
