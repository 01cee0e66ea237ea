/- term.size: the number of nodes, up to a limit. And 3 more texts. -/
import Derived.Maps.AppendAt
import Derived.Deep.RegionHeld3
import Derived.Test.YtkfnpcilanheiaaGreatJo1
import Derived.Test.YtkfnpcilanheiaaGreatJo6
import Derived.Test.YtkfnpcilanheiaaGreatJo7
set_option linter.unusedVariables false
set_option linter.unusedSimpArgs false
set_option maxRecDepth 100000
namespace Go.Proofs.YtkfnpcilanheiaaGreat
open Go.RowKit NumB
mutual
def Tm.count : Tm → Nat
  | .mk _ _ _ _ args => 1 + countL args
def countL : List Tm → Nat
  | [] => 0
  | t :: l => t.count + countL l
end
theorem countL_snoc (l : List Tm) (t : Tm) : countL (l ++ [t]) = countL l + t.count := by
  induction l with
  | nil => simp [countL]
  | cons x l ih => simp only [List.cons_append, countL, ih]; omega
theorem take_succ_get {α : Type} (l : List α) {j : Nat} (hj : j < l.length) : l.take (j + 1) = l.take j ++ [l[j]] := by rw [List.take_succ_eq_append_getElem hj]
theorem countL_take (l : List Tm) {j : Nat} (hj : j < l.length) : countL (l.take (j + 1)) = countL (l.take j) + (l[j]).count := by rw [take_succ_get l hj, countL_snoc]
theorem countL_le (l : List Tm) (j : Nat) : countL (l.take j) ≤ countL l := by
  induction l generalizing j with
  | nil => simp [countL]
  | cons x l ih =>
    cases j with
    | zero => simp [countL]
    | succ j => simp only [List.take_succ_cons, countL]; have := ih j; omega
theorem seven {cs : List Value} (h : cs.length = 7) : ∃ c0 c1 c2 c3 c4 c5 c6, cs = [c0, c1, c2, c3, c4, c5, c6] := by
  match cs, h with
  | [c0, c1, c2, c3, c4, c5, c6], _ => exact ⟨c0, c1, c2, c3, c4, c5, c6, rfl⟩
theorem TC.form {w : World} {t : Tm} {cs : List Value} (h : TC w t cs) : ∃ k v s b A1 n1 c1 B1 m1 d1 Ar l cap, cs = [.int .i64 k, .int .i64 v, .string s, .bool b, .slice A1 n1 c1, .slice B1 m1 d1, .slice Ar l cap] := by
  cases h with
  | mk k v s n args A B Ar cap cs hk hv hs hA hB hn hcap hm hr ha =>
    obtain ⟨A1, c1, rfl, _⟩ := hA
    obtain ⟨B1, d1, rfl, _⟩ := hB
    exact ⟨k, v, s, n.neg, A1, _, c1, B1, _, d1, Ar, _, cap, rfl⟩
theorem arg_cells {w W : World} {args : List Tm} {Ar : Option Addr} {cs : Nat → List Value} (hr : 0 < args.length → ∃ b o, Ar = some ⟨b, o, none⟩ ∧ b < w.heap.size ∧ ∀ i, i < args.length → ∀ j, j < 7 → w.cell? ⟨b, o + i * 7 + j, none⟩ = (cs i)[j]?)
    (ha : ∀ i (h : i < args.length), TC w args[i] (cs i)) (hb : Below w.heap.size w W) {j : Nat} (hj : j < args.length) :
    ∃ b o k v s ng A1 n1 c1 B1 m1 d1 Xr l cap, Ar = some ⟨b, o, none⟩ ∧ cs j = [.int .i64 k, .int .i64 v, .string s, .bool ng, .slice A1 n1 c1, .slice B1 m1 d1, .slice Xr l cap] ∧ b < w.heap.size ∧
      W.cell? ⟨b, o + j * 7, none⟩ = some (.int .i64 k) ∧ W.cell? ⟨b, o + j * 7 + 1, none⟩ = some (.int .i64 v) ∧ W.cell? ⟨b, o + j * 7 + 2, none⟩ = some (.string s) ∧ W.cell? ⟨b, o + j * 7 + 3, none⟩ = some (.bool ng) ∧
      W.cell? ⟨b, o + j * 7 + 4, none⟩ = some (.slice A1 n1 c1) ∧ W.cell? ⟨b, o + j * 7 + 5, none⟩ = some (.slice B1 m1 d1) ∧ W.cell? ⟨b, o + j * 7 + 6, none⟩ = some (.slice Xr l cap) := by
  obtain ⟨b, o, e, hlt, hc⟩ := hr (by omega)
  obtain ⟨k, v, s, ng, A1, n1, c1, B1, m1, d1, Xr, l, cap, hf⟩ := (ha j hj).form
  have h := fun q (hq : q < 7) => (hb.cell (p := ⟨b, o + j * 7 + q, none⟩) hlt).trans (hc j hj q hq)
  rw [hf] at h
  exact ⟨b, o, k, v, s, ng, A1, n1, c1, B1, m1, d1, Xr, l, cap, e, hf, hlt, h 0 (by omega), h 1 (by omega), h 2 (by omega), h 3 (by omega), h 4 (by omega), h 5 (by omega), h 6 (by omega)⟩
set_option maxHeartbeats 3200000 in
theorem size_any {w : World} {t : Tm} {cs : List Value} (h : TC w t cs) : ∀ (W : World) (most : Nat), Below w.heap.size w W → most ≤ 1000000 →
    Calls Tryz.prog 75 #[.agg cs.toArray, .int .i64 (most : Int)] W fun e W' => e = .returned (.int .i64 ((min t.count (most + 1) : Nat) : Int)) ∧ Below W.heap.size W W' := by
  induction h with
  | mk k v s n args A B Ar cap cs hk hv hs hA hB hn hcap hm hr ha ih =>
    intro W most hW hmost
    have HR := Lib.hid hr
    have HA := Lib.hid ha
    have IH := Lib.hid ih
    have HCT : Hid ((Tm.mk k v s n args).count = 1 + countL args) := rfl
    unfold maxLen at hm
    have HWB := Lib.hid hW
    generalize (Tm.mk k v s n args).count = ct at *
    generalize n.neg = ng at *
    obtain ⟨A1, q1, rfl, _⟩ := hA
    obtain ⟨B1, q2, rfl, _⟩ := hB
    generalize n.num.length = m1 at *
    generalize n.den.length = m2 at *
    clear hr ha ih hn hk hv hs hW
    obtain ⟨l, hl⟩ : ∃ l, args.length = l := ⟨_, rfl⟩
    rw [hl] at hcap ⊢
    have HL := Lib.hid hl
    clear hl
    have HBA := Lib.hid (below_one W (.cells #[.int .i64 k, .int .i64 v, .string s, .bool ng, .slice A1 m1 q1, .slice B1 m2 q2, .slice Ar l cap] 27))
    go_enter Tryz.func75, Tryz.ntmps75
    go_wp2_with fail
    go_loopg [5, 11] l (fun gk s5 s11 wr => ∃ j c : Nat, gk + j = l ∧ s11 = .int .i64 (j : Int) ∧ s5 = .int .i64 (c : Int) ∧ c ≤ most + 1 ∧ Hid (c = min (1 + countL (args.take j)) (most + 1)) ∧ Hid (Below W.heap.size W wr))
    case atStart => exact ⟨0, 1, by omega, rfl, rfl, by omega, by unfold Hid; rw [List.take_zero]; simp only [countL]; omega, HBA.out⟩
    case round =>
      obtain ⟨j, c, hgj, rfl, rfl, hcm, HC, HB⟩ := hrel
      by_cases hj : j < l
      · have hja : j < args.length := by rw [HL.out]; exact hj
        have HBW := HWB.out.trans (HB.out.mono HWB.out.size)
        obtain ⟨b, o, k', v', s', ng', A2, n2, c2, B2, m3, d2, Xr, xl, xc, hAr, hcs, hlt, e0, e1, e2, e3, e4, e5, e6⟩ := arg_cells HR.out HA.out HBW hja
        subst hAr
        by_cases hc : most < c
        · go_wp2_with fail
          go_ret
          have h1 := countL_le args j
          have h2 := HC.out
          have h3 := HCT.out
          refine ⟨?_, HB.out.alloc HB.out.size _⟩
          have e : min ct (most + 1) = most + 1 := by omega
          rw [e]; rfl
        · have hsub : ((most : Int) - (c : Int)) = ((most - c : Nat) : Int) := by omega
          have HCALL : Hid (∀ W', Below wr.heap.size wr W' → Calls Tryz.prog 75 #[.agg #[.int .i64 k', .int .i64 v', .string s', .bool ng', .slice A2 n2 c2, .slice B2 m3 d2, .slice Xr xl xc], .int .i64 ((most : Int) - (c : Int))] W' fun e w' => e = .returned (.int .i64 ((min (args[j]).count (most - c + 1) : Nat) : Int)) ∧ Below W'.heap.size W' w') := fun W' hb => by
            have := IH.out j hja W' (most - c) (HBW.trans (hb.mono HBW.size)) (by omega)
            rw [hcs] at this
            rw [hsub]
            exact this
          clear hsub
          go_wp2_with fail
          refine (HCALL.out _ (by exact below_one _ _)).mono ?_
          rintro e w3 ⟨rfl, hb⟩
          have HB3 := Lib.hid (HB.out.trans (((below_one wr (.cells #[.int .i64 k', .int .i64 v', .string s', .bool ng', .slice A2 n2 c2, .slice B2 m3 d2, .slice Xr xl xc] 27)).trans (hb.mono (below_one wr _).size)).mono HB.out.size))
          have h1 := countL_take args hja
          generalize (args[j]).count = cj at *
          have h2 := HC.out
          obtain ⟨z, hz, HZ⟩ : ∃ z : Nat, (min cj (most - c + 1) : Nat) = z ∧ Hid (c + z = min (1 + countL (args.take (j + 1))) (most + 1)) ∧ c + z ≤ most + 1 := ⟨_, rfl, by show _ = _; rw [h1]; omega, by omega⟩
          have hzb := HZ.2
          have HZ := HZ.1
          rw [hz]
          clear hz h1 h2 hb e0 e1 e2 e3 e4 e5 e6 HCALL
          go_wp2_with fail
          go_roundg (gk - 1)
          case measure => omega
          case rel => exact ⟨j + 1, c + z, by omega, by go_num, by go_num, hzb, HZ, HB3.out⟩
      · obtain rfl : j = l := by omega
        have h2 := HC.out
        rw [List.take_of_length_le (by rw [HL.out]; exact Nat.le_refl _), ← HCT.out] at h2
        have hmin : min (c : Int) ((most : Int) + 1) = (c : Int) := by omega
        subst h2
        go_wp2_with fail
        go_ret
        exact ⟨rfl, HB.out⟩
theorem results_cellT {fn : Func} {p : Tmp} {ty : TypeId} (h : fn.results = #[.cell p ty]) (tmps : Array Value) (P : Program) (w : World) :
    (results fn tmps).run P w = ((asAddr (tmps.getD p undef)).run P w).andThen fun a w₁ => (loadVar ty a).run P w₁ := by
  simp only [results, h]
  simp [Sem.run_bind, Result.andThen]
theorem below_pair (w : World) (o1 o2 : Obj) : Below w.heap.size w ((w.alloc o1).alloc o2) := (below_one w o1).alloc (by simp) o2
theorem heapNew_any (w : World) : Calls Tryz.prog 65 #[] w fun e w' => e = .returned (.pointer (some ⟨w.heap.size, 0, none⟩)) ∧ w' = w.alloc (.cells #[.slice none 0 0, .slice none 0 0, .slice none 0 0] 141) := by
  go_enter Tryz.func65, Tryz.ntmps65
  go_wp2_with fail
  go_ret
  exact ⟨rfl, rfl⟩
theorem termNew_any (w : World) : Calls Tryz.prog 42 #[] w fun e w' => e = .returned (.pointer (some ⟨w.heap.size + 1, 0, none⟩)) ∧ w' = (w.alloc (.cells #[.slice none 0 0, .slice none 0 0, .slice none 0 0] 141)).alloc (.cells #[.pointer (some ⟨w.heap.size, 0, none⟩)] 115) := by
  go_enter Tryz.func42, Tryz.ntmps42
  go_wp2_with fail
  refine (heapNew_any _).mono ?_
  rintro e w1 ⟨rfl, rfl⟩
  go_wp2_with fail
  go_ret
  exact ⟨rfl, rfl⟩
theorem heapVar_any (v : Int) (w : World) : Calls Tryz.prog 39 #[.int .i64 v] w fun e w' => e = .returned (.agg #[.int .i64 1, .int .i64 v, .string ⟨#[]⟩, .bool false, .slice none 0 0, .slice none 0 0, .slice none 0 0]) ∧ Below w.heap.size w w' := by
  go_enter Tryz.func39, Tryz.ntmps39
  go_wp2_with fail
  refine bodyPost_ret (v := .agg #[.int .i64 1, .int .i64 v, .string ⟨#[]⟩, .bool false, .slice none 0 0, .slice none 0 0, .slice none 0 0]) (by rw [results_cellT rfl]; go_simp) rfl ?_
  exact ⟨rfl, below_one w _⟩
theorem lawF_any (s : ByteArray) (Ar : Option Addr) (l cap : Nat) (w : World) : Calls Tryz.prog 45 #[.string s, .slice Ar l cap] w fun e w' => e = .returned (.agg #[.int .i64 5, .int .i64 0, .string s, .bool false, .slice none 0 0, .slice none 0 0, .slice Ar l cap]) ∧ Below w.heap.size w w' := by
  go_enter Tryz.func45, Tryz.ntmps45
  go_wp2_with fail
  refine bodyPost_ret (v := .agg #[.int .i64 5, .int .i64 0, .string s, .bool false, .slice none 0 0, .slice none 0 0, .slice Ar l cap]) (by rw [results_cellT rfl]; go_simp) rfl ?_
  exact ⟨rfl, below_one w _⟩
theorem heapLen_any (h : Nat) (A B C : Option Addr) (n c n2 c2 n3 c3 : Nat) (w : World) (hk : Blk w h 141 #[.slice A n c, .slice B n2 c2, .slice C n3 c3]) : Calls Tryz.prog 86 #[.pointer (some ⟨h, 0, none⟩)] w fun e w' => e = .returned (.int .i64 (n : Int)) ∧ w' = w := by
  have c0 := hk.cell 0
  simp only [List.getElem?_toArray, List.getElem?_cons_zero, List.getElem?_cons_succ] at c0
  go_enter Tryz.func86, Tryz.ntmps86
  go_wp2_with fail
  go_ret
  exact ⟨rfl, rfl⟩
theorem count_any (g h : Nat) (A B C : Option Addr) (n c n2 c2 n3 c3 : Nat) (w : World) (hs : Blk w g 115 #[.pointer (some ⟨h, 0, none⟩)]) (hk : Blk w h 141 #[.slice A n c, .slice B n2 c2, .slice C n3 c3]) : Calls Tryz.prog 47 #[.pointer (some ⟨g, 0, none⟩)] w fun e w' => e = .returned (.int .i64 (n : Int)) ∧ w' = w := by
  have c0 := hs.cell 0
  simp only [List.getElem?_toArray, List.getElem?_cons_zero, List.getElem?_cons_succ] at c0
  have HL := Lib.hid (heapLen_any h A B C n c n2 c2 n3 c3 w hk)
  clear hk hs
  go_enter Tryz.func47, Tryz.ntmps47
  go_wp2_with fail
  refine HL.out.mono ?_
  rintro e w1 ⟨rfl, rfl⟩
  go_wp2_with fail
  go_ret
  exact ⟨rfl, rfl⟩
def zc : List Value := [.bool false, .int .i64 0, .int .i64 0, .string ⟨#[]⟩, .bool false, .slice none 0 0, .slice none 0 0, .slice none 0 0, .slice none 0 0]
def HeapS (w : World) (B h : Nat) (A : Option Addr) (n c : Nat) (tv : Value) (xs : List Value) : Prop :=
  Blk w h 141 #[.slice A n c, tv, .slice none 0 0] ∧ B ≤ h ∧ w.ownsRow B 144 9 (.slice A n c) n xs
structure Kept (p : Nat → Prop) (w w' : World) : Prop where
  os : w'.os = w.os
  tape : w'.tape = w.tape
  output : w'.output = w.output
  size : w.heap.size ≤ w'.heap.size
  block : ∀ k, k < w.heap.size → ¬ p k → w'.heap[k]? = w.heap[k]?
theorem Kept.refl (p : Nat → Prop) (w : World) : Kept p w w := ⟨rfl, rfl, rfl, Nat.le_refl _, fun _ _ _ => rfl⟩
theorem Kept.trans {p : Nat → Prop} {a b c : World} (h : Kept p a b) (k : Kept p b c) : Kept p a c :=
  ⟨k.os.trans h.os, k.tape.trans h.tape, k.output.trans h.output, Nat.le_trans h.size k.size, fun i hi hp => (k.block i (Nat.lt_of_lt_of_le hi h.size) hp).trans (h.block i hi hp)⟩
theorem Kept.mono {p q : Nat → Prop} {a b : World} (h : Kept p a b) (hpq : ∀ k, p k → q k) : Kept q a b := ⟨h.os, h.tape, h.output, h.size, fun i hi hq => h.block i hi fun hp => hq (hpq i hp)⟩
theorem Kept.of_below {p : Nat → Prop} {a b : World} (h : Below a.heap.size a b) : Kept p a b := ⟨h.os, h.tape, h.output, h.size, fun i hi _ => h.block i hi⟩
theorem Kept.below {p : Nat → Prop} {a b : World} {B : Nat} (h : Kept p a b) (hB : B ≤ a.heap.size) (hp : ∀ k, p k → B ≤ k) : Below B a b := ⟨h.os, h.tape, h.output, h.size, fun i hi => h.block i (Nat.lt_of_lt_of_le hi hB) fun q => by have := hp i q; omega⟩
theorem Kept.alloc (p : Nat → Prop) (w : World) (o : Obj) : Kept p w (w.alloc o) := Kept.of_below (below_one w o)
theorem Kept.drew {p : Nat → Prop} {a b : World} (h : Kept p a b) : Kept p a b.drew := ⟨h.os, h.tape, h.output, h.size, h.block⟩
theorem Kept.grown {w w' : World} {row : Option Nat} (h : w.grownBy w' row) : Kept (fun k => some k = row) w w' := ⟨h.os, h.tape, h.output, h.size, fun k hk hp => h.block k hk hp⟩
theorem Kept.setCell (w : World) (a : Addr) (u : Value) : Kept (fun k => k = a.block) w (w.setCell a u) := by
  have h := (Below.refl 0 w).setCell (p := a) (Nat.zero_le _) u
  exact ⟨h.os, h.tape, h.output, h.size, fun k _ hp => Below.heap_setCell w a u k hp⟩
theorem Kept.blk {p : Nat → Prop} {w w' : World} {g : Nat} {t : TypeId} {cs : Array Value} (h : Kept p w w') (hk : Blk w g t cs) (hp : ¬ p g) : Blk w' g t cs := (h.block g hk.lt hp).trans hk
theorem Kept.row {p : Nat → Prop} {w w' : World} {B n size : Nat} {e : TypeId} {v : Value} {xs : List Value} (h : Kept p w w') (hr : w.ownsRow B e size v n xs) (hp : ∀ g, v.ownBlock = some g → ¬ p g) : w'.ownsRow B e size v n xs := by
  obtain ⟨h1, h2 | ⟨g, cap, cur, rfl, h3, h4, h5⟩⟩ := hr
  · exact ⟨h1, .inl h2⟩
  · refine ⟨h1, .inr ⟨g, cap, cur, rfl, h3, ?_, h5⟩⟩
    have hg : g < w.heap.size := by
      rcases Nat.lt_or_ge g w.heap.size with h | h
      · exact h
      · rw [Array.getElem?_eq_none h] at h4; cases h4
    exact (h.block g hg (hp g rfl)).trans h4
theorem own_block_some {A : Option Addr} {n c k : Nat} (h : (Value.slice A n c).ownBlock = some k) : ∃ a, A = some a ∧ k = a.block := by
  cases A with
  | none => cases h
  | some a => exact ⟨a, rfl, by simpa [Value.ownBlock] using h.symm⟩
theorem row_ne {w : World} {B n c m h size : Nat} {A : Option Addr} {t e : TypeId} {cs : Array Value} {xs : List Value} (hk : Blk w h t cs) (hr : w.ownsRow B e size (.slice A n c) m xs) (hte : t ≠ e) : ¬ ∃ a, A = some a ∧ h = a.block := by
  rintro ⟨a, rfl, rfl⟩
  rcases hr.2 with ⟨h1, _⟩ | ⟨g, cap, cur, h1, _, h2, _⟩
  · cases h1
  · simp only [Value.slice.injEq, Option.some.injEq] at h1
    obtain ⟨rfl, _, _⟩ := h1
    have h3 : w.heap[g]? = some (.cells cs t (0, 0)) := hk
    rw [h2] at h3
    simp at h3
    exact hte h3.2.symm
theorem info_cell : (Tryz.prog.info? 144).map (fun i => (i.zero, i.size, i.bytes)) = some (some (.agg zc.toArray), 9, 144) := by kernel_rfl
set_option maxHeartbeats 3200000 in
theorem newVar_any (B h : Nat) (A : Option Addr) (n c : Nat) (tv : Value) (xs : List Value) (w : World) (hn : n ≤ 1000) (hS : HeapS w B h A n c tv xs) :
    Calls Tryz.prog 66 #[.pointer (some ⟨h, 0, none⟩)] w fun e w' => ∃ A' c', e = .returned (.int .i64 (n : Int)) ∧ HeapS w' B h A' (n + 1) c' tv (xs ++ zc) ∧ Kept (fun k => k = h ∨ ∃ a, A = some a ∧ k = a.block) w w' := by
  obtain ⟨hk, hB, hrow⟩ := hS
  have c0 := hk.cell 0
  simp only [List.getElem?_toArray, List.getElem?_cons_zero, List.getElem?_cons_succ] at c0
  have HK := Lib.hid hk
  have HROW := Lib.hid hrow
  have hlt := hk.lt
  have fz := hk.frozen 0
  have HNE : Hid (¬ ∃ a, A = some a ∧ h = a.block) := row_ne hk hrow (by decide)
  clear hk hrow
  obtain ⟨i0, hi0, hz0, hz1, hz2⟩ := info_parts info_cell
  have HI := Lib.hid hi0
  have HZ0 := Lib.hid hz0
  have HZ1 := Lib.hid hz1
  have HZ2 := Lib.hid hz2
  clear hi0 hz0 hz1 hz2
  have HNEW : Hid (∀ j u, zc[j]? = some u → (w.alloc (.cells zc.toArray 144)).cell? ((⟨w.heap.size, 0, none⟩ : Addr).add j) = some u) := fun j u hj => by
    have := (Blk.new w 144 zc.toArray).cell j
    rw [Go.WideShapes.add_plain, Nat.zero_add, this]
    simpa using hj
  go_enter Tryz.func66, Tryz.ntmps66
  go_wp2_with (at_builtin; refine wpList_append_own_at _ rfl _ _ 137 rfl B 144 i0 (.agg zc.toArray) 9 144 Tryz.underlying137 HI.out HZ0.out HZ1.out HZ2.out rfl (by decide) (.slice A n c) n xs rfl (HROW.out.alloc _) ⟨w.heap.size, 0, none⟩ 1 1 zc rfl rfl HNEW.out (by decide) (by unfold maxLen; omega) (by omega) (by simp; omega) ?_; intro v1 w1 hown1 hg1 hz1 hb1; obtain ⟨g1, q1, rfl⟩ := Joins.ownsRow_form hown1 (by omega); have HOW := Lib.hid hown1; have HKP : Hid (Kept (fun k => ∃ a, A = some a ∧ k = a.block) w w1) := (Kept.alloc _ w _).trans ((Kept.grown hg1).mono fun k hk => own_block_some hk.symm); have HK1 := Lib.hid (HKP.out.blk HK.out HNE.out); have fz1 := HK1.out.frozen 0; have d0 := HK1.out.cell 0; simp only [List.getElem?_toArray, List.getElem?_cons_zero, List.getElem?_cons_succ] at d0; clear hown1 hg1 hz1 hb1)
  go_ret
  have hne1 := row_ne HK1.out HOW.out (by decide)
  refine ⟨some ⟨g1, 0, none⟩, q1, rfl, ⟨?_, hB, ?_⟩, ?_⟩
  · have := HK1.out.set_ 0 (.slice (some ⟨g1, 0, none⟩) (n + 1) q1)
    simpa using this
  · refine (Kept.setCell w1 ⟨h, 0, none⟩ _).row HOW.out fun g hg => ?_
    obtain ⟨a, ha, hb⟩ := own_block_some hg
    intro he
    exact hne1 ⟨a, ha, he.symm.trans hb⟩
  · exact (HKP.out.mono fun k hk => .inr hk).trans ((Kept.setCell w1 ⟨h, 0, none⟩ _).mono fun k hk => .inl hk)
theorem Kept.setNew {p : Nat → Prop} {w w' : World} (h : Kept p w w') {a : Addr} (ha : w.heap.size ≤ a.block) (u : Value) : Kept p w (w'.setCell a u) := by
  have k := Kept.setCell w' a u
  exact ⟨k.os.trans h.os, k.tape.trans h.tape, k.output.trans h.output, Nat.le_trans h.size k.size, fun i hi hp => (k.block i (Nat.lt_of_lt_of_le hi h.size) (by show ¬ i = a.block; omega)).trans (h.block i hi hp)⟩
theorem HeapS.kept {p : Nat → Prop} {w w' : World} {B h n c : Nat} {A : Option Addr} {tv : Value} {xs : List Value} (hS : HeapS w B h A n c tv xs) (hk : Kept p w w') (h1 : ¬ p h) (h2 : ∀ a, A = some a → ¬ p a.block) : HeapS w' B h A n c tv xs :=
  ⟨hk.blk hS.1 h1, hS.2.1, hk.row hS.2.2 fun g hg => by obtain ⟨a, ha, hb⟩ := own_block_some hg; rw [hb]; exact h2 a ha⟩
theorem HeapS.row_lt {w : World} {B h n c : Nat} {A : Option Addr} {tv : Value} {xs : List Value} (hS : HeapS w B h A n c tv xs) {a : Addr} (ha : A = some a) : a.block < w.heap.size ∧ B ≤ a.block := by
  subst ha
  rcases hS.2.2.2 with ⟨h1, _⟩ | ⟨g, cap, cur, h1, h2, h3, _⟩
  · cases h1
  · simp only [Value.slice.injEq, Option.some.injEq] at h1
    obtain ⟨rfl, _, _⟩ := h1
    refine ⟨?_, h2⟩
    rcases Nat.lt_or_ge g w.heap.size with h | h
    · exact h
    · rw [Array.getElem?_eq_none h] at h3; cases h3
def zt : List Value := [.int .i64 0, .int .i64 0, .string ⟨#[]⟩, .bool false, .slice none 0 0, .slice none 0 0, .slice none 0 0]
def vt (n : Int) : List Value := [.int .i64 1, .int .i64 n, .string ⟨#[]⟩, .bool false, .slice none 0 0, .slice none 0 0, .slice none 0 0]
set_option maxHeartbeats 3200000 in
theorem fresh_any (B g h : Nat) (A : Option Addr) (n c : Nat) (tv : Value) (xs : List Value) (w : World) (hn : n ≤ 1000) (hs : Blk w g 115 #[.pointer (some ⟨h, 0, none⟩)]) (hS : HeapS w B h A n c tv xs) :
    Calls Tryz.prog 43 #[.pointer (some ⟨g, 0, none⟩)] w fun e w' => ∃ A' c', e = .returned (.agg (vt n).toArray) ∧ HeapS w' B h A' (n + 1) c' tv (xs ++ zc) ∧ Kept (fun k => k = h ∨ ∃ a, A = some a ∧ k = a.block) w w' := by
  have c0 := (hs.alloc (.cells zt.toArray 27)).cell 0
  simp only [List.getElem?_toArray, List.getElem?_cons_zero, List.getElem?_cons_succ] at c0
  unfold zt at c0
  have hlh := hS.1.lt
  have hS1 : HeapS (w.alloc (.cells zt.toArray 27)) B h A n c tv xs := hS.kept (Kept.alloc (fun _ => False) w _) (fun h => h) (fun _ _ h => h)
  have HN := Lib.hid (newVar_any B h A n c tv xs _ hn hS1)
  have HRL : Hid (∀ a, A = some a → a.block < w.heap.size) := fun a ha => (hS.row_lt ha).1
  have KR := Lib.hid (Blk.new w 27 zt.toArray)
  clear hs hS hS1
  go_enter Tryz.func43, Tryz.ntmps43
  go_wp2_with fail
  refine HN.out.mono ?_
  rintro e w1 ⟨A', c', rfl, hS', hk'⟩
  have KR := Lib.hid (hk'.blk KR.out (fun hp => by
    rcases hp with hp | ⟨a, ha, hp⟩
    · omega
    · have := HRL.out a ha; omega))
  have HS := Lib.hid hS'
  have HK : Hid (Kept (fun k => k = h ∨ ∃ a, A = some a ∧ k = a.block) w w1) := (Kept.alloc _ w _).trans hk'
  clear hS' hk' c0
  go_wp2_with fail
  refine (heapVar_any (n : Int) w1).mono ?_
  rintro e w2 ⟨rfl, hb⟩
  have KR := Lib.hid (KR.out.to hb)
  have HS := Lib.hid (HS.out.kept (p := fun _ => False) (Kept.of_below hb) (fun h => h) (fun _ _ h => h))
  have HK : Hid (Kept (fun k => k = h ∨ ∃ a, A = some a ∧ k = a.block) w w2) := HK.out.trans (Kept.of_below hb)
  clear hb
  have kr := KR.out
  unfold zt at kr
  have r0 := kr.cell 0
  have r1 := kr.cell 1
  have r2 := kr.cell 2
  have r3 := kr.cell 3
  have r4 := kr.cell 4
  have r5 := kr.cell 5
  have r6 := kr.cell 6
  simp only [List.getElem?_toArray, List.getElem?_cons_zero, List.getElem?_cons_succ] at r0 r1 r2 r3 r4 r5 r6
  have z0 := kr.frozen 0
  have z1 := kr.frozen 1
  have z2 := kr.frozen 2
  have z3 := kr.frozen 3
  have z4 := kr.frozen 4
  have z5 := kr.frozen 5
  have z6 := kr.frozen 6
  clear kr
  go_wp2_with fail
  refine bodyPost_ret (v := .agg (vt n).toArray) (by rw [results_cellT rfl]; unfold vt; go_simp) rfl ?_
  have hne := row_ne KR.out HS.out.2.2 (by decide)
  have far : ∀ (i : Nat) (u : Value) (W : World), HeapS W B h A' (n + 1) c' tv (xs ++ zc) → HeapS (W.setCell ⟨w.heap.size, i, none⟩ u) B h A' (n + 1) c' tv (xs ++ zc) := fun i u W hW => hW.kept (Kept.setCell W _ u) (by show ¬ h = w.heap.size; omega) (fun a ha hp => hne ⟨a, ha, hp.symm⟩)
  exact ⟨A', c', rfl, far _ _ _ (far _ _ _ (far _ _ _ (far _ _ _ (far _ _ _ (far _ _ _ (far _ _ _ HS.out)))))), (((((((HK.out.setNew (Nat.le_refl _) _).setNew (Nat.le_refl _) _).setNew (Nat.le_refl _) _).setNew (Nat.le_refl _) _).setNew (Nat.le_refl _) _).setNew (Nat.le_refl _) _).setNew (Nat.le_refl _) _)⟩
end Go.Proofs.YtkfnpcilanheiaaGreat
namespace Go.Proofs.YtkfnpcilanheiaaGreat
open Go Go.RowKit
section
variable {P : Program} {ops : Array Oper} {Q : Exit → Act → World → Prop} {md : Region.Mode} {S : World → Prop}
def StepOk (P : Program) (md : Region.Mode) (ops : Array Oper) (Q : Exit → Act → World → Prop) (Inv : (Nat → Bool) → Act → World → Prop) (i : Nat) (o : Oper) : Prop :=
  ∀ (L : Nat → Bool) (a : Act) (w : World), Inv L a w → L i = false → (∀ e ∈ o.after, Region.binds md e = true → L e.on = true) →
    ∀ K : Act → World → Prop, Shut (∀ a' w', Inv (fun j => j == i || L j) a' w' → K a' w') → if Region.wanted o (yielded ops a.tmps) = true then Oper.wp P o a w K Q else K (a.put o.dst undef) w
def Steps (P : Program) (md : Region.Mode) (ops : Array Oper) (Q : Exit → Act → World → Prop) (Inv : (Nat → Bool) → Act → World → Prop) (rs : List Nat) : Prop :=
  ∀ i ∈ rs, ∀ o, ops[i]? = some o → StepOk P md ops Q Inv i o
theorem Steps.nil {Inv : (Nat → Bool) → Act → World → Prop} : Steps P md ops Q Inv [] := fun _ h => by cases h
theorem Steps.cons {Inv : (Nat → Bool) → Act → World → Prop} {i : Nat} {o : Oper} {rs : List Nat} (ho : ops[i]? = some o) (h : StepOk P md ops Q Inv i o) (hs : Steps P md ops Q Inv rs) : Steps P md ops Q Inv (i :: rs) := fun j hj o' ho' => by
  rcases List.mem_cons.1 hj with rfl | hj
  · rw [ho] at ho'; cases ho'; exact h
  · exact hs j hj o' ho'
def leftN (n : Nat) (listed : Array Bool) : Nat := ((List.range n).filter fun i => !listed.getD i false).length
theorem getD_setB (listed : Array Bool) (i j : Nat) (hi : i < listed.size) : (listed.setIfInBounds i true).getD j false = (j == i || listed.getD j false) := by
  by_cases h : j = i
  · subst h; simp [hi]
  · simp [Array.getElem?_setIfInBounds_ne (Ne.symm h), h]
theorem filter_lt {p q : Nat → Bool} : ∀ {l : List Nat} {i : Nat}, i ∈ l → q i = false → p i = true → (∀ j, q j = true → p j = true) → (l.filter q).length < (l.filter p).length
  | x :: l, i, hi, hq, hp, hle => by
    have hmono : ∀ l : List Nat, (l.filter q).length ≤ (l.filter p).length := fun l => by
      induction l with
      | nil => simp
      | cons y l ih =>
        simp only [List.filter_cons]
        by_cases h1 : q y = true
        · simp [h1, hle y h1]; exact ih
        · by_cases h2 : p y = true
          · simp [h1, h2]; omega
          · simp [h1, h2]; exact ih
    rcases List.mem_cons.1 hi with rfl | hi
    · have := hmono l
      simp [List.filter_cons, hq, hp]; omega
    · have ih := filter_lt hi hq hp hle
      simp only [List.filter_cons]
      by_cases h1 : q x = true
      · simp [h1, hle x h1]; exact ih
      · by_cases h2 : p x = true
        · simp [h1, h2]; omega
        · simp [h1, h2]; exact ih
def earlier (md : Region.Mode) (ops : Array Oper) : Bool := (List.range ops.size).all fun i => ((ops[i]?).map fun o => o.after.all fun e => !Region.binds md e || decide (e.on < i)).getD true
theorem all_of_ready {listed : Array Bool} (he : earlier md ops = true) (hsz : listed.size = ops.size) (hr : Region.ready md ops listed = []) : ∀ i, i < ops.size → listed.getD i false = true := by
  intro i
  induction i using Nat.strongRecOn with
  | _ i ih =>
    intro hi
    rcases hb : listed.getD i false with _ | _
    · exfalso
      have hmem : i ∈ Region.ready md ops listed := by
        refine mem_ready.2 ⟨?_, ops[i], by simp [hi], fun e hee hbd => ?_⟩
        · have : i < listed.size := by omega
          simp [this] at hb ⊢; exact hb
        · have h1 := List.all_eq_true.1 he i (List.mem_range.2 hi)
          simp only [hi, Array.getElem?_eq_getElem, Option.map_some, Option.getD_some] at h1
          have h2 := Array.all_eq_true'.1 h1 e hee
          have h3 : e.on < i := by simpa [hbd] using h2
          exact ih e.on h3 (by omega)
      rw [hr] at hmem
      cases hmem
    · rfl
theorem wpAnyH_inv (rs : List Nat) (Inv : (Nat → Bool) → Act → World → Prop) (hS : ∀ L a w, Inv L a w → S w)
    (he : earlier md ops = true) (hsteps : Steps P md ops Q Inv rs) (hdone : ∀ L a w, Inv L a w → (∀ i, i < ops.size → L i = true) → Q .normal a w) :
    ∀ (fuel : Nat) (listed : Array Bool) (a : Act) (w : World), listed.size = ops.size → (∀ i, i < ops.size → listed.getD i false = false → i ∈ rs) → leftN ops.size listed ≤ fuel → Inv (fun j => listed.getD j false) a w → wpAnyH P md ops Q S fuel listed a w := by
  intro fuel
  induction fuel with
  | zero =>
    intro listed a w hsz hrs hl hI
    have hall : ∀ i, i < ops.size → listed.getD i false = true := fun i hi => by
      rcases hb : listed.getD i false with _ | _
      · exfalso
        have : i ∈ (List.range ops.size).filter fun i => !listed.getD i false := List.mem_filter.2 ⟨List.mem_range.2 hi, by rw [hb]; rfl⟩
        have := List.length_pos_of_mem this
        unfold leftN at hl
        omega
      · rfl
    have hr : Region.ready md ops listed = [] := by
      refine List.eq_nil_iff_forall_not_mem.2 fun i hi => ?_
      obtain ⟨h1, o, ho, _⟩ := mem_ready.1 hi
      have hlt : i < ops.size := by
        rcases Nat.lt_or_ge i ops.size with h | h
        · exact h
        · rw [Array.getElem?_eq_none h] at ho; cases ho
      have h2 := hall i hlt
      have h3 : i < listed.size := by omega
      simp [h3] at h1 h2
      rw [h1] at h2; cases h2
    exact ⟨hr, hdone _ a w hI hall⟩
  | succ fuel ih =>
    intro listed a w hsz hrs hl hI
    refine ⟨fun hr => hdone _ a w hI (all_of_ready he hsz hr), fun i hi => ?_⟩
    obtain ⟨h1, o, ho, hdep⟩ := mem_ready.1 hi
    have hlt : i < ops.size := by
      rcases Nat.lt_or_ge i ops.size with h | h
      · exact h
      · rw [Array.getElem?_eq_none h] at ho; cases ho
    have hlf : listed.getD i false = false := by
      have h3 : i < listed.size := by omega
      simp [h3] at h1 ⊢; exact h1
    have hmem := hrs i hlt hlf
    have hfun : (fun j => (listed.setIfInBounds i true).getD j false) = fun j => j == i || listed.getD j false := funext fun j => getD_setB listed i j (by omega)
    refine wpOp_step ho (fun K hK => hsteps i hmem o ho (fun j => listed.getD j false) a w hI hlf hdep K ?_)
    intro a' w' hI'
    refine hK a' w' ⟨hS _ _ _ hI', ih _ a' w' (by simp [hsz]) (fun j hj hjf => hrs j hj ?_) ?_ (by rw [hfun]; exact hI')⟩
    · rw [getD_setB listed i j (by omega)] at hjf
      simp only [Bool.or_eq_false_iff] at hjf
      exact hjf.2
    · have : leftN ops.size (listed.setIfInBounds i true) < leftN ops.size listed := by
        unfold leftN
        refine filter_lt (i := i) (List.mem_range.2 hlt) ?_ ?_ ?_
        · rw [getD_setB listed i i (by omega)]; simp
        · rw [hlf]; rfl
        · intro j hj
          rw [getD_setB listed i j (by omega)] at hj
          simp only [Bool.not_or, Bool.and_eq_true] at hj
          exact hj.2
      omega
theorem wpAnyH_inv0 (rs : List Nat) (Inv : Act → (Nat → Bool) → Act → World → Prop) {fuel : Nat} {listed : Array Bool} {a0 : Act} {w : World} (hsz : listed.size = ops.size) (hrs : ((List.range ops.size).all fun i => listed.getD i false || rs.contains i) = true) (hf : leftN ops.size listed ≤ fuel) (he : earlier md ops = true)
    (hS : ∀ L a w, Inv a0 L a w → S w) (hi : Inv a0 (fun j => listed.getD j false) a0 w) (hsteps : Steps P md ops Q (Inv a0) rs) (hdone : ∀ L a w, Inv a0 L a w → (∀ i, i < ops.size → L i = true) → Q .normal a w) :
    wpAnyH P md ops Q S fuel listed a0 w :=
  wpAnyH_inv rs (Inv a0) hS he hsteps hdone fuel listed a0 w hsz (fun i hi hf => by
    have := List.all_eq_true.1 hrs i (List.mem_range.2 hi)
    rw [hf] at this
    simpa using this) hf hi
end
end Go.Proofs.YtkfnpcilanheiaaGreat
