/- Bindings sorted by their variables. And 2 more texts. -/
import Derived.Shelf.SlSortCmp.NoneTotal
import Derived.Test.YtkfnpcilanheiaaGreatJo16
import Derived.Test.YtkfnpcilanheiaaGreatJo22
import Derived.Test.YtkfnpcilanheiaaGreatJo25
import Derived.Test.YtkfnpcilanheiaaGreatJo27
import Derived.Test.YtkfnpcilanheiaaGreatJo29
set_option linter.unusedVariables false
set_option linter.unusedSimpArgs false
set_option maxRecDepth 100000
namespace Go.Proofs.YtkfnpcilanheiaaGreat
open Go.Shelf Go.RowKit Go.Lib Go.Sort NumB
structure Bnd where
  x : Int
  k : Int
  v : Int
  s : ByteArray
  ng : Bool
  A : Option Addr
  n : Nat
  c : Nat
  B : Option Addr
  m : Nat
  d : Nat
  X : Option Addr
  l : Nat
  e : Nat
instance : Inhabited Bnd := ⟨⟨0, 0, 0, ⟨#[]⟩, false, none, 0, 0, none, 0, 0, none, 0, 0⟩⟩
def Bnd.cs (b : Bnd) : List Value := [.int .i64 b.k, .int .i64 b.v, .string b.s, .bool b.ng, .slice b.A b.n b.c, .slice b.B b.m b.d, .slice b.X b.l b.e]
def Bnd.enc (b : Bnd) : List Value := .int .i64 b.x :: b.cs
def bcmp (a b : Bnd) : Int := icmp a.x b.x
theorem bcmp_lt (a b : Bnd) : ltOf bcmp a b = decide (a.x < b.x) := by
  unfold ltOf bcmp
  by_cases h : a.x < b.x
  · simp [h, icmp_lt]
  · simp [h, icmp_lt]
theorem bcmp_swo : SWO (ltOf bcmp) where
  irrefl x := by rw [bcmp_lt]; simp
  trans x y z h1 h2 := by rw [bcmp_lt] at *; simp at *; omega
  ntrans x y z h1 h2 := by rw [bcmp_lt] at *; simp at *; omega
theorem sortCmp_any (x y : Bnd) (W : World) : Calls Tryz.prog 90 #[.agg x.enc.toArray, .agg y.enc.toArray] W fun e w' => e = .returned (.int .i64 (bcmp x y)) ∧ ∃ q os', w' = grow (W.drewN q) os' := by
  have HC : Hid (∀ W, Calls Tryz.prog 29 #[.int .i64 x.x, .int .i64 y.x] W fun e w' => e = .returned (.int .i64 (bcmp x y)) ∧ w' = W) := fun W => cmpInt_any x.x y.x W
  generalize bcmp x y = r at *
  obtain ⟨x0, x1, x2, x3, x4, x5, x6, x7, x8, x9, x10, x11, x12, x13⟩ := x
  obtain ⟨y0, y1, y2, y3, y4, y5, y6, y7, y8, y9, y10, y11, y12, y13⟩ := y
  unfold Bnd.enc Bnd.cs
  dsimp only at HC ⊢
  go_enter Tryz.func90, Tryz.ntmps90
  go_wp2_with fail
  refine (HC.out _).mono ?_
  rintro e w1 ⟨rfl, rfl⟩
  go_wp2_with fail
  go_ret
  exact ⟨rfl, 0, _, by rw [alloc_eq_grow, alloc_eq_grow, grow_grow]; rfl⟩
theorem heap_sortedK {α : Type} [Inhabited α] (enc : α → List Value) (k : Nat) (w : World) (g n : Nat) (d : Array α) (os : Array Obj) : w.grownBy (sortWorldK enc k w g 0 n d os) (some g) := by
  unfold sortWorldK
  refine ⟨rfl, rfl, rfl, by simp [putRowK, putRow, mapBlock, ahead], fun i hi hne => ?_⟩
  rw [heap_grow_old _ _ (by simpa [putRowK, putRow, mapBlock, ahead] using hi)]
  have : g ≠ i := fun e => hne (by rw [e])
  simp [putRowK, putRow, mapBlock, ahead, Array.getElem?_modify, this]
theorem sortB_any (g cap : Nat) (ds : List Bnd) (w : World) (hH : HoldsK Bnd.enc 8 w g 0 ds.toArray) (hg : g < w.heap.size) (hsz : ds.length < 4611686018427387904) :
    Calls Tryz.prog 89 #[.slice (some ⟨g, 0, none⟩) ds.length cap, .func (.func 90) #[] #[]] w fun e w' => e = .returned (.tuple #[]) ∧ ∃ es : List Bnd, es.Perm ds ∧ es.Pairwise (fun a b => ¬ b.x < a.x) ∧ w.grownBy w' (some g) ∧ ∀ i (h : i < es.length) q, q < 8 → w'.cell? ⟨g, i * 8 + q, none⟩ = (es[i]).enc[q]? := by
  have h := AnyQ.slices_SortFunc Tryz.sortB 8 Tryz.isAgg51 Tryz.sizeOf51 Bnd.enc (fun _ => rfl) (fun x v hv => by
    simp only [Bnd.enc, Bnd.cs, List.mem_cons, List.not_mem_nil, or_false] at hv
    rcases hv with rfl | rfl | rfl | rfl | rfl | rfl | rfl | rfl <;> rfl) bcmp bcmp_swo 90 #[] g 0 cap ds.toArray w (enters_of Tryz.func90 (by kernel_rfl) rfl) (fun _ _ _ _ x y => sortCmp_any x y _) hH hg (by simpa using hsz)
  have h2 : Calls Tryz.prog 89 #[.slice (some ⟨g, 0, none⟩) ds.length cap, .func (.func 90) #[] #[]] w _ := h
  refine h2.mono ?_
  rintro e w' ⟨rfl, d', n, os, ⟨hs, _, hp⟩, hso, rfl⟩
  have hs' : d'.size = ds.length := by simpa using hs
  refine ⟨rfl, d'.toList, ?_, ?_, heap_sortedK _ _ _ _ _ _ _, fun i hi q hq => ?_⟩
  · simpa [Array.extract_eq_self_of_le, hs'] using hp
  · rw [List.pairwise_iff_getElem]
    intro i j hi hj hij
    have := hso i j (Nat.zero_le _) hij (by simpa [hs'] using hj)
    rw [bcmp_lt, getElem!_pos d' i (by simpa using hi), getElem!_pos d' j (by simpa using hj)] at this
    simpa using this
  · have hk := holdsK_sortWorldK Bnd.enc 8 w g 0 n ds.toArray d' os hg hH (by simpa using hs')
    have := hk.cell (i := i) (c := q) (by simpa using hi) hq
    have e1 := this.1
    simp only [Nat.zero_add] at e1
    rw [e1]
    have hl : q < ((d'[i]!).enc).length := hq
    rw [getElem!_pos d' i (by simpa using hi)] at hl ⊢
    rw [getElem!_pos _ q hl]
    simp [List.getElem?_eq_getElem hl]
end Go.Proofs.YtkfnpcilanheiaaGreat
namespace Go.Proofs.YtkfnpcilanheiaaGreat
open Go.RowKit NumB
set_option maxHeartbeats 6400000 in
theorem rfind_any {w : World} {bs : List (Int × Tm)} {bv : Value} (h : BL w bv bs) (v : Int) (hv : i64ok v) (W : World) (hW : Below w.heap.size w W) :
    Calls Tryz.prog 80 #[bv, .int .i64 v] W fun e W' => ∃ cx, e = .returned (.tuple #[.agg cx.toArray, .bool (fnd bs v).isSome]) ∧ TCP (fun b => b < w.heap.size) W' ((fnd bs v).getD (.var v)) cx ∧ Below W.heap.size W W' := by
  have HVV : Hid (TC w (.var v) [.int .i64 1, .int .i64 v, .string ⟨#[]⟩, .bool false, .slice none 0 0, .slice none 0 0, .slice none 0 0]) := TC.var v hv w
  obtain ⟨Ar, cap, cs, rfl, hcap, hm, hrow, ha⟩ := h
  have HR := Lib.hid hrow
  have HA := Lib.hid ha
  have HWB := Lib.hid hW
  unfold maxLen at hm
  obtain ⟨n, hl⟩ : ∃ n, bs.length = n := ⟨_, rfl⟩
  rw [hl] at hcap ⊢
  have HL := Lib.hid hl
  clear hl hrow ha hW hv
  have HB0 : Hid (Below W.heap.size W (W.alloc (.cells #[.int .i64 0, .int .i64 0, .string ⟨#[]⟩, .bool false, .slice none 0 0, .slice none 0 0, .slice none 0 0] 27))) := below_one W _
  have HK0 : Hid (Blk (W.alloc (.cells #[.int .i64 0, .int .i64 0, .string ⟨#[]⟩, .bool false, .slice none 0 0, .slice none 0 0, .slice none 0 0] 27)) W.heap.size 27 #[.int .i64 0, .int .i64 0, .string ⟨#[]⟩, .bool false, .slice none 0 0, .slice none 0 0, .slice none 0 0]) := Blk.new W _ _
  go_enter Tryz.func80, Tryz.ntmps80
  go_wp2_with fail
  go_loopg [10] n (fun gk s10 wr => ∃ j : Nat, gk + j = n ∧ s10 = .int .i64 (j : Int) ∧ Hid (∀ q (hq : q < bs.length), q < j → (bs[q]).1 ≠ v) ∧ Hid (Below W.heap.size W wr) ∧ Hid (Blk wr W.heap.size 27 #[.int .i64 0, .int .i64 0, .string ⟨#[]⟩, .bool false, .slice none 0 0, .slice none 0 0, .slice none 0 0]))
  case atStart => exact ⟨0, by omega, rfl, fun q _ h => absurd h (by omega), HB0.out, HK0.out⟩
  case round =>
    clear HB0 HK0
    obtain ⟨j, hgj, rfl, HN, HB, HK⟩ := hrel
    have z0 := HK.out.frozen 0
    have z1 := HK.out.frozen 1
    have z2 := HK.out.frozen 2
    have z3 := HK.out.frozen 3
    have z4 := HK.out.frozen 4
    have z5 := HK.out.frozen 5
    have z6 := HK.out.frozen 6
    have r0 := HK.out.cell 0
    have r1 := HK.out.cell 1
    have r2 := HK.out.cell 2
    have r3 := HK.out.cell 3
    have r4 := HK.out.cell 4
    have r5 := HK.out.cell 5
    have r6 := HK.out.cell 6
    simp only [List.getElem?_toArray, List.getElem?_cons_zero, List.getElem?_cons_succ] at r0 r1 r2 r3 r4 r5 r6
    by_cases hj : j < n
    · have hja : j < bs.length := by rw [HL.out]; exact hj
      have HBW := HWB.out.trans (HB.out.mono HWB.out.size)
      obtain ⟨b, o, k, v0, s, ng, A1, n1, c1, B1, m1, d1, Xr, xl, xc, hAr, htc, hlt, y0, y1, y2, y3, y4, y5, y6, y7⟩ := bind_cells HR.out HA.out HBW hja
      subst hAr
      have HT := Lib.hid htc
      have HX1 : Hid ((bs[j]).1 = v → fnd bs v = some (bs[j]).2) := fun hx => by
        unfold fnd
        have h1 : bs.find? (fun p => p.1 == v) = some bs[j] := by
          rw [List.find?_eq_some_iff_getElem]
          refine ⟨by simpa using hx, j, hja, rfl, fun q hq => ?_⟩
          have := HN.out q (by omega) hq
          simpa using this
        rw [h1]
        rfl
      have HX2 : Hid ((bs[j]).1 ≠ v → ∀ q (hq : q < bs.length), q < j + 1 → (bs[q]).1 ≠ v) := fun hx q hq hl => by
        by_cases e : q = j
        · subst e; exact hx
        · exact HN.out q hq (by omega)
      generalize (bs[j]).1 = x at *
      clear htc HBW hlt
      have HK8 := Lib.hid (HK.out.to (below_one wr (.cells #[.int .i64 x, .int .i64 k, .int .i64 v0, .string s, .bool ng, .slice A1 n1 c1, .slice B1 m1 d1, .slice Xr xl xc] 51)))
      have HB8 : Hid (Below W.heap.size W (wr.alloc (.cells #[.int .i64 x, .int .i64 k, .int .i64 v0, .string s, .bool ng, .slice A1 n1 c1, .slice B1 m1 d1, .slice Xr xl xc] 51))) := HB.out.trans ((below_one wr _).mono HB.out.size)
      by_cases hx : x = v
      · subst hx
        have hc : (x == x) = true := by simp
        have HF := Lib.hid (HX1.out rfl)
        clear HX1 HX2 HN
        have z0 := HK8.out.frozen 0
        have z1 := HK8.out.frozen 1
        have z2 := HK8.out.frozen 2
        have z3 := HK8.out.frozen 3
        have z4 := HK8.out.frozen 4
        have z5 := HK8.out.frozen 5
        have z6 := HK8.out.frozen 6
        have r0 := HK8.out.cell 0
        have r1 := HK8.out.cell 1
        have r2 := HK8.out.cell 2
        have r3 := HK8.out.cell 3
        have r4 := HK8.out.cell 4
        have r5 := HK8.out.cell 5
        have r6 := HK8.out.cell 6
        simp only [List.getElem?_toArray, List.getElem?_cons_zero, List.getElem?_cons_succ] at r0 r1 r2 r3 r4 r5 r6
        go_wp2_with fail
        refine bodyPost_ret (v := .tuple #[.agg #[.int .i64 k, .int .i64 v0, .string s, .bool ng, .slice A1 n1 c1, .slice B1 m1 d1, .slice Xr xl xc], .bool true]) (by rw [results_cell_tmp rfl]; go_simp) rfl ?_
        refine ⟨[.int .i64 k, .int .i64 v0, .string s, .bool ng, .slice A1 n1 c1, .slice B1 m1 d1, .slice Xr xl xc], (by rw [HF.out]; rfl), ?_, (((((((HB8.out.setCell (Nat.le_refl _) _).setCell (Nat.le_refl _) _).setCell (Nat.le_refl _) _).setCell (Nat.le_refl _) _).setCell (Nat.le_refl _) _).setCell (Nat.le_refl _) _).setCell (Nat.le_refl _) _)⟩
        rw [HF.out]
        exact ((TCP.of_tc HT.out).onto (HWB.out.trans ((((((((HB8.out.setCell (Nat.le_refl _) _).setCell (Nat.le_refl _) _).setCell (Nat.le_refl _) _).setCell (Nat.le_refl _) _).setCell (Nat.le_refl _) _).setCell (Nat.le_refl _) _).setCell (Nat.le_refl _) _).mono HWB.out.size)))
      · have hc : (x == v) = false := beq_eq_false_iff_ne.2 hx
        have HN2 := Lib.hid (HX2.out (by first | exact hx | trivial))
        clear HX1 HX2 HN hx
        go_wp2_with fail
        go_roundg (gk - 1)
        case measure => omega
        case rel => exact ⟨j + 1, by omega, by go_num, HN2.out, HB8.out, HK8.out⟩
    · obtain rfl : n = j := by omega
      have HF : Hid (fnd bs v = none) := fnd_none fun q hq => HN.out q hq (by rw [← HL.out]; exact hq)
      clear HN
      go_wp2_with fail
      refine bodyPost_ret (v := .tuple #[.agg #[.int .i64 1, .int .i64 v, .string ⟨#[]⟩, .bool false, .slice none 0 0, .slice none 0 0, .slice none 0 0], .bool false]) (by rw [results_cell_tmp rfl]; go_simp) rfl ?_
      refine ⟨[.int .i64 1, .int .i64 v, .string ⟨#[]⟩, .bool false, .slice none 0 0, .slice none 0 0, .slice none 0 0], (by rw [HF.out]; rfl), ?_, (((((((HB.out.setCell (Nat.le_refl _) _).setCell (Nat.le_refl _) _).setCell (Nat.le_refl _) _).setCell (Nat.le_refl _) _).setCell (Nat.le_refl _) _).setCell (Nat.le_refl _) _).setCell (Nat.le_refl _) _)⟩
      rw [HF.out]
      exact ((TCP.of_tc HVV.out).onto (HWB.out.trans ((((((((HB.out.setCell (Nat.le_refl _) _).setCell (Nat.le_refl _) _).setCell (Nat.le_refl _) _).setCell (Nat.le_refl _) _).setCell (Nat.le_refl _) _).setCell (Nat.le_refl _) _).setCell (Nat.le_refl _) _).mono HWB.out.size)))
theorem grow_tcp2 {R : Nat → Prop} {g : Nat} {u : Value} {w w' : World} {t : Tm} {cs : List Value} (h : TCP (fun b => R b ∧ some b ≠ u.ownBlock) w t cs) (hg : w.grownBy w' u.ownBlock) (hat : u.ownBlock = some g ∨ g = w.heap.size) : TCP (fun b => R b ∧ some b ≠ some g) w' t cs := by
  have h1 : TCP (fun b => (R b ∧ some b ≠ u.ownBlock) ∧ some b ≠ some g) w t cs := h.mono fun b hb hlt => ⟨hb, by
    rcases hat with e | e
    · rw [← e]; exact hb.2
    · intro e2; simp at e2; omega⟩
  exact (h1.to hg.size fun b hb hlt => hg.block b hlt hb.1.2).mono fun b hb _ => ⟨hb.1.1, hb.2⟩
end Go.Proofs.YtkfnpcilanheiaaGreat
