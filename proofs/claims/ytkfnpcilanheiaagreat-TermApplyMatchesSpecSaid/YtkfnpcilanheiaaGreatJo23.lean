/-  -/
import Derived.Deep.RegionHeld3
import Derived.Deep.RegionLaw
import Derived.Deep.AppendLies
import Derived.BigQuiet
import Derived.Deep.QuietTactic
import Derived.Test.YtkfnpcilanheiaaGreatJo7
import Derived.Test.YtkfnpcilanheiaaGreatJo18
import Derived.Test.YtkfnpcilanheiaaGreatJo22
set_option linter.unusedVariables false
set_option linter.unusedSimpArgs false
/- term.Free's closure: the variables in order. -/
namespace Go.Proofs.YtkfnpcilanheiaaGreat
open Go.RowKit NumB
set_option linter.unusedVariables false
set_option linter.unusedSimpArgs false

mutual
/-- The variables of a term behind those of a list. -/
def Tm.free : Tm → List Int → List Int
  | .mk k v _ _ args, l => freeL args (if k = 1 ∧ v ∉ l then l ++ [v] else l)
def freeL : List Tm → List Int → List Int
  | [], l => l
  | t :: ts, l => freeL ts (t.free l)
end
theorem freeL_snoc (ts : List Tm) (t : Tm) : ∀ l, freeL (ts ++ [t]) l = t.free (freeL ts l) := by
  induction ts with
  | nil => intro l; simp [freeL]
  | cons x ts ih => intro l; simp [freeL, ih]
theorem freeL_take (args : List Tm) {j : Nat} (hj : j < args.length) (l : List Int) : freeL (args.take (j + 1)) l = (args[j]).free (freeL (args.take j) l) := by
  rw [List.take_succ_eq_append_getElem hj, freeL_snoc]
theorem free_len_aux : ∀ (n : Nat) (t : Tm), t.count ≤ n → ∀ l, (t.free l).length ≤ l.length + t.count := by
  intro n
  induction n with
  | zero => intro t ht; cases t; simp [Tm.count] at ht
  | succ n ih =>
    intro t ht l
    cases t with
    | mk k v s nn args =>
      rw [Tm.count] at ht ⊢
      rw [Tm.free]
      have key : ∀ (ts : List Tm), countL ts ≤ n → ∀ l, (freeL ts l).length ≤ l.length + countL ts := by
        intro ts
        induction ts with
        | nil => intro _ l; simp [freeL, countL]
        | cons x ts ihh =>
          intro h l
          rw [countL] at h ⊢
          rw [freeL]
          have h1 := ih x (by omega) l
          have h2 := ihh (by omega) (x.free l)
          omega
      have h1 := key args (by omega) (if k = 1 ∧ v ∉ l then l ++ [v] else l)
      by_cases hk : k = 1 ∧ v ∉ l
      · rw [if_pos hk] at h1 ⊢
        simp at h1; omega
      · rw [if_neg hk] at h1 ⊢
        omega
theorem free_len (t : Tm) (l : List Int) : (t.free l).length ≤ l.length + t.count := free_len_aux _ t (Nat.le_refl _) l
theorem freeL_len (ts : List Tm) : ∀ l, (freeL ts l).length ≤ l.length + countL ts := by
  induction ts with
  | nil => intro l; simp [freeL, countL]
  | cons x ts ih =>
    intro l
    rw [freeL, countL]
    have h1 := free_len x l
    have h2 := ih (x.free l)
    omega

/-- The set of a list of ints. -/
def setF (l : List Int) : Int → Option Value := fun j => if j ∈ l then some (.bool true) else none
def ints (l : List Int) : List Value := l.map (fun i => .int .i64 i)
/-- What the closure holds: the boxes of seen, out, visit. -/
structure FV (B bs bo bv ms : Nat) (l : List Int) (W : World) : Prop where
  h1 : Blk W bs 111 #[.map (some ms)]
  h2 : ∃ ov, Blk W bo 43 #[ov] ∧ W.ownsRow B 3 1 ov l.length (ints l)
  h3 : Blk W bv 112 #[.func (.func 82) #[] #[.pointer (some ⟨bs, 0, none⟩), .pointer (some ⟨bo, 0, none⟩), .pointer (some ⟨bv, 0, none⟩)]]
  h4 : ∃ n, MapI W ms n (setF l)
  le : B ≤ bo ∧ B ≤ ms
theorem FV.below {B bs bo bv ms : Nat} {l : List Int} {W W' : World} (g : FV B bs bo bv ms l W) (hb : Below W.heap.size W W') : FV B bs bo bv ms l W' := by
  obtain ⟨ov, h2, h3⟩ := g.h2
  obtain ⟨n, h4⟩ := g.h4
  exact ⟨g.h1.to hb, ⟨ov, h2.to hb, row_frT (ts := []) h3 (FrT.of_below hb) (by simp)⟩, g.h3.to hb, ⟨n, h4.keep (hb.block _ (heap_lt h4.is.choose_spec.choose_spec))⟩, g.le⟩

theorem MapI.frT {ts : List (Option TypeId)} {w w' : World} {b n : Nat} {f : Int → Option Value} (h : MapI w b n f) (hF : FrT ts w w') (h0 : none ∉ ts) : MapI w' b n f := by
  obtain ⟨es, c, h1, r⟩ := h
  exact ⟨es, c, hF _ _ h1 (NotT.map h0), r⟩
theorem info_int : (Tryz.prog.info? 3).map (fun i => (i.zero, i.size, i.bytes)) = some (some (.int .i64 0), 1, 8) := by kernel_rfl
theorem FV.dom {B bs bo bv ms : Nat} {l : List Int} {W : World} (g : FV B bs bo bv ms l W) (v : Int) : (Instr.lookup 111 (.map (some ms)) (.int .i64 v) false).run Tryz.prog W = .ok (.bool (decide (v ∈ l))) W := by
  obtain ⟨n, h⟩ := g.h4
  have := (mapI_look (w := W) (et := 4) (mt := 111) (by kernel_rfl) (z := .bool false) (Tryz.zeroValue4 W) h v).2
  rw [this]
  unfold setF
  by_cases hv : v ∈ l <;> simp [hv]
/-- A variable is put into the set. -/
theorem FV.put {B bs bo bv ms : Nat} {l : List Int} {W : World} (g : FV B bs bo bv ms l W) (v : Int) : ∃ z, (Instr.mapUpdate 111 (.map (some ms)) (.int .i64 v) (.bool true)).run Tryz.prog W = .ok () z ∧ (∃ n, MapI z ms n (setF (l ++ [v]))) ∧ FrT [none] W z ∧ Below B W z := by
  obtain ⟨n, h⟩ := g.h4
  obtain ⟨z, h1, h2, h3⟩ := mapI_put (w := W) (et := 4) (mt := 111) (by kernel_rfl) h v (.bool true)
  refine ⟨z, h1, ⟨n + 1, ?_⟩, (FrT.refl _ W).kept h3 fun k e o ho hno => ?_, h3.below ?_ fun k e => ?_⟩
  · have : (fun j => if j = v then some (Value.bool true) else setF l j) = setF (l ++ [v]) := by
      funext j
      unfold setF
      by_cases hj : j = v
      · subst hj; simp
      · simp [hj]
    rw [this] at h2
    exact h2
  · obtain ⟨es, cl, hm⟩ := h.is
    have e : k = ms := e
    subst e
    rw [hm] at ho
    exact hno.2 (by simp) _ _ (Option.some.inj ho).symm
  · have := heap_lt h.is.choose_spec.choose_spec
    exact Nat.le_of_lt (Nat.lt_of_le_of_lt g.le.2 this)
  · have e : k = ms := e
    subst e; exact g.le.2

set_option maxRecDepth 100000 in
set_option maxHeartbeats 3200000 in
theorem free_visit (B bs bo bv ms : Nat) {w : World} (hBw : w.heap.size ≤ B) {t : Tm} {cs : List Value} (h : TC w t cs) : ∀ (ls : List Int), ls.length + t.count ≤ 1000000 → ∀ (W : World), Below w.heap.size w W → B ≤ W.heap.size → FV B bs bo bv ms ls W →
    Calls Tryz.prog 82 #[.agg cs.toArray, .pointer (some ⟨bs, 0, none⟩), .pointer (some ⟨bo, 0, none⟩), .pointer (some ⟨bv, 0, none⟩)] W fun e W' => e = .returned (.tuple #[]) ∧ FV B bs bo bv ms (t.free ls) W' ∧ FrT [none, some 3, some 43] W W' ∧ Below B W W' := by
  induction h with
  | mk k v s n args A C Ar cap cs hk hv hs hA hB hn hcap hm hr ha ih =>
    intro ls hcn W hW hBW hF
    have HR := Lib.hid hr
    have HA := Lib.hid ha
    have IH := Lib.hid ih
    have HCT : Hid ((Tm.mk k v s n args).count = 1 + countL args) := rfl
    have HFE : Hid ((Tm.mk k v s n args).free ls = freeL args (if k = 1 ∧ v ∉ ls then ls ++ [v] else ls)) := rfl
    have HCN := Lib.hid hcn
    unfold maxLen at hm
    have HWB := Lib.hid hW
    have HBS := Lib.hid hBW
    have HF0 := Lib.hid hF
    generalize (Tm.mk k v s n args).count = ct at *
    generalize (Tm.mk k v s n args).free ls = fe at *
    generalize n.neg = ng at *
    obtain ⟨A1, q1, rfl, _⟩ := hA
    obtain ⟨B1, q2, rfl, _⟩ := hB
    generalize n.num.length = m1 at *
    generalize n.den.length = m2 at *
    clear hr ha ih hn hk hs hW hcn hBW hF
    have HV := Lib.hid hv
    clear hv
    obtain ⟨l, hl⟩ : ∃ l, args.length = l := ⟨_, rfl⟩
    rw [hl] at hcap ⊢
    have HL := Lib.hid hl
    clear hl
    have HBA : Hid (Below W.heap.size W (W.alloc (.cells #[.int .i64 k, .int .i64 v, .string s, .bool ng, .slice A1 m1 q1, .slice B1 m2 q2, .slice Ar l cap] 27))) := below_one W _
    have HT1 : Hid (Blk (W.alloc (.cells #[.int .i64 k, .int .i64 v, .string s, .bool ng, .slice A1 m1 q1, .slice B1 m2 q2, .slice Ar l cap] 27)) W.heap.size 27 #[.int .i64 k, .int .i64 v, .string s, .bool ng, .slice A1 m1 q1, .slice B1 m2 q2, .slice Ar l cap]) := Blk.new W _ _
    by_cases hk1 : k = 1
    · have hkb : (k == 1) = true := by simp [hk1]
      have HK1 := Lib.hid hk1
      clear hk1
      have HF1 := Lib.hid (HF0.out.below HBA.out)
      have s1 := HF1.out.h1.cell 0
      have t0 := HT1.out.cell 0
      have t1 := HT1.out.cell 1
      have t6 := HT1.out.cell 6
      have lk := HF1.out.dom v
      simp only [List.getElem?_toArray, List.getElem?_cons_zero, List.getElem?_cons_succ] at s1 t0 t1 t6
      by_cases hm : v ∈ ls
      · have hd : decide (v ∈ ls) = true := by simp [hm]
        rw [hd] at lk
        have HE : Hid (fe = freeL args ls) := by
          have h := HFE.out
          rw [if_neg (fun q => q.2 hm)] at h
          exact h
        have HLS : Hid (ls.length + 1 + countL args ≤ 1000000) := by have := HCN.out; have := HCT.out; show _ ≤ _; omega
        have HY : Hid (FV B bs bo bv ms ls (W.alloc (.cells #[.int .i64 k, .int .i64 v, .string s, .bool ng, .slice A1 m1 q1, .slice B1 m2 q2, .slice Ar l cap] 27)) ∧ FrT [none, some 3, some 43] W (W.alloc (.cells #[.int .i64 k, .int .i64 v, .string s, .bool ng, .slice A1 m1 q1, .slice B1 m2 q2, .slice Ar l cap] 27)) ∧ Below B W (W.alloc (.cells #[.int .i64 k, .int .i64 v, .string s, .bool ng, .slice A1 m1 q1, .slice B1 m2 q2, .slice Ar l cap] 27)) ∧ B ≤ (W.alloc (.cells #[.int .i64 k, .int .i64 v, .string s, .bool ng, .slice A1 m1 q1, .slice B1 m2 q2, .slice Ar l cap] 27)).heap.size) := ⟨HF1.out, FrT.of_below HBA.out, HBA.out.mono HBS.out, Nat.le_trans HBS.out HBA.out.size⟩
        clear hd hm HF0 HFE HCN HCT
        go_enter Tryz.func82, Tryz.ntmps82
        go_wp2_with fail
        clear s1 t0 t1 t6 lk HF1 HBA HT1
        generalize (W.alloc (.cells #[.int .i64 k, .int .i64 v, .string s, .bool ng, .slice A1 m1 q1, .slice B1 m2 q2, .slice Ar l cap] 27)) = y at HY ⊢
        go_loopg [28] l (fun gk s28 wr => ∃ j : Nat, gk + j = l ∧ s28 = .int .i64 (j : Int) ∧ Hid (FV B bs bo bv ms (freeL (args.take j) (ls)) wr ∧ FrT [none, some 3, some 43] W wr ∧ Below B W wr ∧ B ≤ wr.heap.size))
        case atStart => exact ⟨0, by omega, rfl, by rw [List.take_zero]; exact HY⟩
        case round =>
          clear HY
          obtain ⟨j, hgj, rfl, HJ⟩ := hrel
          by_cases hj : j < l
          · have hja : j < args.length := by rw [HL.out]; exact hj
            have HBW : Below w.heap.size w wr := HWB.out.trans (HJ.out.2.2.1.mono hBw)
            obtain ⟨b, o, k', v', s', ng', A2, n2, c2, B2, m3, d2, Xr, xl, xc, hAr, hcs, hlt, e0, e1, e2, e3, e4, e5, e6⟩ := arg_cells HR.out HA.out HBW hja
            subst hAr
            have h1 := countL_take args hja
            have h5 := countL_le args (j + 1)
            have h6 := freeL_len (args.take j) (ls)
            have h7 := HLS.out
            have HCALL : Hid (∀ W', Below wr.heap.size wr W' → Calls Tryz.prog 82 #[.agg #[.int .i64 k', .int .i64 v', .string s', .bool ng', .slice A2 n2 c2, .slice B2 m3 d2, .slice Xr xl xc], .pointer (some ⟨bs, 0, none⟩), .pointer (some ⟨bo, 0, none⟩), .pointer (some ⟨bv, 0, none⟩)] W' fun e w' => e = .returned (.tuple #[]) ∧ Hid (FV B bs bo bv ms (freeL (args.take (j + 1)) (ls)) w' ∧ FrT [none, some 3, some 43] W w' ∧ Below B W w' ∧ B ≤ w'.heap.size)) := fun W' hb => by
              have hbB : Below B wr W' := hb.mono HJ.out.2.2.2
              have := IH.out j hja (freeL (args.take j) (ls)) (by omega) W' (HBW.trans (hb.mono HBW.size)) (Nat.le_trans HJ.out.2.2.2 hb.size) (HJ.out.1.below hb)
              rw [hcs] at this
              refine this.mono ?_
              rintro e w' ⟨rfl, q1, q2, q3⟩
              rw [freeL_take args hja]
              exact ⟨rfl, q1, (HJ.out.2.1.trans (FrT.of_below hb)).trans q2, (HJ.out.2.2.1.trans hbB).trans q3, Nat.le_trans (Nat.le_trans HJ.out.2.2.2 hb.size) q3.size⟩
            have hv3 := (HJ.out.1.below (below_one wr (.cells #[.int .i64 k', .int .i64 v', .string s', .bool ng', .slice A2 n2 c2, .slice B2 m3 d2, .slice Xr xl xc] 27))).h3.cell 0
            simp only [List.getElem?_toArray, List.getElem?_cons_zero, List.getElem?_cons_succ] at hv3
            clear h1 h5 h6 h7
            go_wp2_with fail
            refine (HCALL.out _ (by exact below_one _ _)).mono ?_
            rintro e w3 ⟨rfl, HJ3⟩
            clear e0 e1 e2 e3 e4 e5 e6 HCALL hv3
            go_wp2_with fail
            go_roundg (gk - 1)
            case measure => omega
            case rel => exact ⟨j + 1, by omega, by go_num, HJ3⟩
          · obtain rfl : j = l := by omega
            have h2 := HJ.out
            rw [List.take_of_length_le (by rw [HL.out]; exact Nat.le_refl _)] at h2
            have HE2 := HE.out
            subst HE2
            have HJ2 := Lib.hid h2
            clear h2 HJ
            go_wp2_with fail
            unfold bodyPost
            refine ⟨rfl, .tuple #[], ?_, rfl, HJ2.out.1, HJ2.out.2.1, HJ2.out.2.2.1⟩
            first | (simp [results, Tryz.f82]; done) | (unfold results; rfl) | kernel_rfl
      · have hd : decide (v ∈ ls) = false := by simp [hm]
        rw [hd] at lk
        have HE : Hid (fe = freeL args (ls ++ [v])) := by
          have h := HFE.out
          rw [if_pos ⟨HK1.out, hm⟩] at h
          exact h
        have HLS : Hid ((ls ++ [v]).length + countL args ≤ 1000000) := by have := HCN.out; have := HCT.out; show _ ≤ _; simp; omega
        have HLN : Hid (ls.length + 1 ≤ 1000000) := by have := HCN.out; have := HCT.out; show _ ≤ _; omega
        obtain ⟨z, hz, hmz, hfz, hbz⟩ := HF1.out.put v
        have HMZ := Lib.hid hmz
        have HFZ := Lib.hid hfz
        have HBZ := Lib.hid hbz
        obtain ⟨ov, hbo, hrow⟩ := HF1.out.h2
        have HBO := Lib.hid (hbo.frT hfz (by decide))
        have HRW := Lib.hid (row_frT hrow hfz (by decide))
        have HTZ := Lib.hid (HT1.out.frT hfz (by decide))
        have o0 := HBO.out.cell 0
        have fo := HBO.out.frozen 0
        have tz1 := HTZ.out.cell 1
        have tz6 := HTZ.out.cell 6
        simp only [List.getElem?_toArray, List.getElem?_cons_zero, List.getElem?_cons_succ] at o0 tz1 tz6
        clear hd hm HF0 HFE HCN HCT hmz hfz hbz hbo hrow t6
        obtain ⟨i0, hi0, hz0, hz1, hz2⟩ := info_parts info_int
        have HI := Lib.hid hi0
        have HZ0 := Lib.hid hz0
        have HZ1 := Lib.hid hz1
        have HZ2 := Lib.hid hz2
        clear hi0 hz0 hz1 hz2
        have HNEW : Hid (∀ j u, [Value.int .i64 v][j]? = some u → (z.alloc (.cells #[.int .i64 v] 3)).cell? ((⟨z.heap.size, 0, none⟩ : Addr).add j) = some u) := fun j u hj => by
          have := (Blk.new z 3 #[.int .i64 v]).cell j
          rw [Go.WideShapes.add_plain, Nat.zero_add, this]
          simpa using hj
        have HSZ : Hid (B ≤ (z.alloc (.cells #[.int .i64 v] 3)).heap.size) := Nat.le_trans (Nat.le_trans HBS.out HBA.out.size) (Nat.le_trans HBZ.out.size (by simp))
        go_enter Tryz.func82, Tryz.ntmps82
        go_wp2_with (at_builtin; refine wpList_append_own_at _ rfl _ _ 43 rfl B 3 i0 (.int .i64 0) 1 8 Tryz.underlying43 HI.out HZ0.out HZ1.out HZ2.out rfl (by decide) ov ls.length (ints ls) rfl (HRW.out.alloc _) ⟨z.heap.size, 0, none⟩ 1 1 [.int .i64 v] rfl rfl HNEW.out (by intro u hu; simp at hu; subst hu; rfl) (by have := HLN.out; unfold maxLen; omega) (by have := HLN.out; omega) HSZ.out ?_; intro v1 w1 hown1 hg1 hz1' hb1'; clear hz1' hb1'; obtain ⟨g1, qq1, rfl⟩ := Joins.ownsRow_form hown1 (by omega); have HOW := Lib.hid hown1; have HF2 : Hid (FrT [some 3] z w1) := (FrT.of_below (below_one z _)).grown hg1 (fun k hk => by (obtain ⟨cs, f, hc⟩ := Lib.ownsRow_kind (HRW.out.alloc (.cells #[.int .i64 v] 3)) k hk; exact ⟨cs, _, f, hc, by decide⟩)); have HB2 : Hid (Below B z w1) := ((Below.refl B z).alloc (Nat.le_trans (Nat.le_trans HBS.out HBA.out.size) HBZ.out.size) _).grown hg1 HSZ.out (fun k hk => ((HRW.out.alloc (.cells #[.int .i64 v] 3)).lt k hk).1); clear hown1 hg1 o0 fo tz1 tz6; have HBO1 := Lib.hid (HBO.out.frT HF2.out (by decide)); have HTW := Lib.hid (HTZ.out.frT HF2.out (by decide)); have p0 := HBO1.out.cell 0; have pf := HBO1.out.frozen 0; have HF3 : Hid (FrT [some 43] w1 (w1.setCell ⟨bo, 0, none⟩ (.slice (some ⟨g1, 0, none⟩) (ls.length + 1) qq1))) := (FrT.refl _ _).setCell (p := ⟨bo, 0, none⟩) HBO1.out (by decide) _; have HTX := Lib.hid (HTW.out.frT HF3.out (by decide)); have tx6 := HTX.out.cell 6; simp only [List.getElem?_toArray, List.getElem?_cons_zero, List.getElem?_cons_succ] at p0 tx6)
        have HY : Hid (FV B bs bo bv ms (ls ++ [v]) (w1.setCell ⟨bo, 0, none⟩ (.slice (some ⟨g1, 0, none⟩) (ls.length + 1) qq1)) ∧ FrT [none, some 3, some 43] W (w1.setCell ⟨bo, 0, none⟩ (.slice (some ⟨g1, 0, none⟩) (ls.length + 1) qq1)) ∧ Below B W (w1.setCell ⟨bo, 0, none⟩ (.slice (some ⟨g1, 0, none⟩) (ls.length + 1) qq1)) ∧ B ≤ (w1.setCell ⟨bo, 0, none⟩ (.slice (some ⟨g1, 0, none⟩) (ls.length + 1) qq1)).heap.size) := by
          have f1 := HFZ.out.mono (ts' := [none, some 3, some 43]) (by decide)
          have f2 := HF2.out.mono (ts' := [none, some 3, some 43]) (by decide)
          have f3 := HF3.out.mono (ts' := [none, some 3, some 43]) (by decide)
          have hfr := (((FrT.of_below (ts := [none, some 3, some 43]) HBA.out).trans f1).trans f2).trans f3
          have hbl : Below B W (w1.setCell ⟨bo, 0, none⟩ (.slice (some ⟨g1, 0, none⟩) (ls.length + 1) qq1)) := (((HBA.out.mono HBS.out).trans HBZ.out).trans HB2.out).setCell (p := ⟨bo, 0, none⟩) HF1.out.le.1 _
          refine ⟨⟨((HF1.out.h1.frT f1 (by decide)).frT f2 (by decide)).frT f3 (by decide), ⟨.slice (some ⟨g1, 0, none⟩) (ls.length + 1) qq1, ?_, ?_⟩, ((HF1.out.h3.frT f1 (by decide)).frT f2 (by decide)).frT f3 (by decide), ?_, HF1.out.le⟩, hfr, hbl, Nat.le_trans HBS.out hbl.size⟩
          · have := HBO1.out.set_ 0 (.slice (some ⟨g1, 0, none⟩) (ls.length + 1) qq1)
            simpa using this
          · have := row_frT HOW.out HF3.out (by decide)
            rw [List.length_append]
            unfold ints at this ⊢
            rw [List.map_append]
            exact this
          · obtain ⟨n, h⟩ := HMZ.out
            exact ⟨n, (h.frT HF2.out (by decide)).frT HF3.out (by decide)⟩
        clear tx6 p0 pf HF1 HBA HT1 HMZ HFZ HBZ HBO HRW HTZ HI HZ0 HZ1 HZ2 HNEW HSZ HOW HF2 HB2 HBO1 HTW HF3 HTX hz lk s1 t0 t1
        generalize World.setCell _ _ _ = y at HY ⊢
        go_loopg [28] l (fun gk s28 wr => ∃ j : Nat, gk + j = l ∧ s28 = .int .i64 (j : Int) ∧ Hid (FV B bs bo bv ms (freeL (args.take j) (ls ++ [v])) wr ∧ FrT [none, some 3, some 43] W wr ∧ Below B W wr ∧ B ≤ wr.heap.size))
        case atStart => exact ⟨0, by omega, rfl, by rw [List.take_zero]; exact HY⟩
        case round =>
          clear HY
          obtain ⟨j, hgj, rfl, HJ⟩ := hrel
          by_cases hj : j < l
          · have hja : j < args.length := by rw [HL.out]; exact hj
            have HBW : Below w.heap.size w wr := HWB.out.trans (HJ.out.2.2.1.mono hBw)
            obtain ⟨b, o, k', v', s', ng', A2, n2, c2, B2, m3, d2, Xr, xl, xc, hAr, hcs, hlt, e0, e1, e2, e3, e4, e5, e6⟩ := arg_cells HR.out HA.out HBW hja
            subst hAr
            have h1 := countL_take args hja
            have h5 := countL_le args (j + 1)
            have h6 := freeL_len (args.take j) (ls ++ [v])
            have h7 := HLS.out
            have HCALL : Hid (∀ W', Below wr.heap.size wr W' → Calls Tryz.prog 82 #[.agg #[.int .i64 k', .int .i64 v', .string s', .bool ng', .slice A2 n2 c2, .slice B2 m3 d2, .slice Xr xl xc], .pointer (some ⟨bs, 0, none⟩), .pointer (some ⟨bo, 0, none⟩), .pointer (some ⟨bv, 0, none⟩)] W' fun e w' => e = .returned (.tuple #[]) ∧ Hid (FV B bs bo bv ms (freeL (args.take (j + 1)) (ls ++ [v])) w' ∧ FrT [none, some 3, some 43] W w' ∧ Below B W w' ∧ B ≤ w'.heap.size)) := fun W' hb => by
              have hbB : Below B wr W' := hb.mono HJ.out.2.2.2
              have := IH.out j hja (freeL (args.take j) (ls ++ [v])) (by omega) W' (HBW.trans (hb.mono HBW.size)) (Nat.le_trans HJ.out.2.2.2 hb.size) (HJ.out.1.below hb)
              rw [hcs] at this
              refine this.mono ?_
              rintro e w' ⟨rfl, q1, q2, q3⟩
              rw [freeL_take args hja]
              exact ⟨rfl, q1, (HJ.out.2.1.trans (FrT.of_below hb)).trans q2, (HJ.out.2.2.1.trans hbB).trans q3, Nat.le_trans (Nat.le_trans HJ.out.2.2.2 hb.size) q3.size⟩
            have hv3 := (HJ.out.1.below (below_one wr (.cells #[.int .i64 k', .int .i64 v', .string s', .bool ng', .slice A2 n2 c2, .slice B2 m3 d2, .slice Xr xl xc] 27))).h3.cell 0
            simp only [List.getElem?_toArray, List.getElem?_cons_zero, List.getElem?_cons_succ] at hv3
            clear h1 h5 h6 h7
            go_wp2_with fail
            refine (HCALL.out _ (by exact below_one _ _)).mono ?_
            rintro e w3 ⟨rfl, HJ3⟩
            clear e0 e1 e2 e3 e4 e5 e6 HCALL hv3
            go_wp2_with fail
            go_roundg (gk - 1)
            case measure => omega
            case rel => exact ⟨j + 1, by omega, by go_num, HJ3⟩
          · obtain rfl : j = l := by omega
            have h2 := HJ.out
            rw [List.take_of_length_le (by rw [HL.out]; exact Nat.le_refl _)] at h2
            have HE2 := HE.out
            subst HE2
            have HJ2 := Lib.hid h2
            clear h2 HJ
            go_wp2_with fail
            unfold bodyPost
            refine ⟨rfl, .tuple #[], ?_, rfl, HJ2.out.1, HJ2.out.2.1, HJ2.out.2.2.1⟩
            first | (simp [results, Tryz.f82]; done) | (unfold results; rfl) | kernel_rfl
    · have hkb : (k == 1) = false := beq_eq_false_iff_ne.2 hk1
      have HE : Hid (fe = freeL args ls) := by
        have h := HFE.out
        rw [if_neg (fun q => hk1 q.1)] at h
        exact h
      have HLS : Hid (ls.length + 1 + countL args ≤ 1000000) := by have := HCN.out; have := HCT.out; show _ ≤ _; omega
      have HY : Hid (FV B bs bo bv ms ls (W.alloc (.cells #[.int .i64 k, .int .i64 v, .string s, .bool ng, .slice A1 m1 q1, .slice B1 m2 q2, .slice Ar l cap] 27)) ∧ FrT [none, some 3, some 43] W (W.alloc (.cells #[.int .i64 k, .int .i64 v, .string s, .bool ng, .slice A1 m1 q1, .slice B1 m2 q2, .slice Ar l cap] 27)) ∧ Below B W (W.alloc (.cells #[.int .i64 k, .int .i64 v, .string s, .bool ng, .slice A1 m1 q1, .slice B1 m2 q2, .slice Ar l cap] 27)) ∧ B ≤ (W.alloc (.cells #[.int .i64 k, .int .i64 v, .string s, .bool ng, .slice A1 m1 q1, .slice B1 m2 q2, .slice Ar l cap] 27)).heap.size) := ⟨HF0.out.below HBA.out, FrT.of_below HBA.out, HBA.out.mono HBS.out, Nat.le_trans HBS.out HBA.out.size⟩
      clear hk1 HF0 HFE HCN HCT
      go_enter Tryz.func82, Tryz.ntmps82
      go_wp2_with fail
      clear HBA HT1
      generalize (W.alloc (.cells #[.int .i64 k, .int .i64 v, .string s, .bool ng, .slice A1 m1 q1, .slice B1 m2 q2, .slice Ar l cap] 27)) = y at HY ⊢
      go_loopg [28] l (fun gk s28 wr => ∃ j : Nat, gk + j = l ∧ s28 = .int .i64 (j : Int) ∧ Hid (FV B bs bo bv ms (freeL (args.take j) (ls)) wr ∧ FrT [none, some 3, some 43] W wr ∧ Below B W wr ∧ B ≤ wr.heap.size))
      case atStart => exact ⟨0, by omega, rfl, by rw [List.take_zero]; exact HY⟩
      case round =>
        clear HY
        obtain ⟨j, hgj, rfl, HJ⟩ := hrel
        by_cases hj : j < l
        · have hja : j < args.length := by rw [HL.out]; exact hj
          have HBW : Below w.heap.size w wr := HWB.out.trans (HJ.out.2.2.1.mono hBw)
          obtain ⟨b, o, k', v', s', ng', A2, n2, c2, B2, m3, d2, Xr, xl, xc, hAr, hcs, hlt, e0, e1, e2, e3, e4, e5, e6⟩ := arg_cells HR.out HA.out HBW hja
          subst hAr
          have h1 := countL_take args hja
          have h5 := countL_le args (j + 1)
          have h6 := freeL_len (args.take j) (ls)
          have h7 := HLS.out
          have HCALL : Hid (∀ W', Below wr.heap.size wr W' → Calls Tryz.prog 82 #[.agg #[.int .i64 k', .int .i64 v', .string s', .bool ng', .slice A2 n2 c2, .slice B2 m3 d2, .slice Xr xl xc], .pointer (some ⟨bs, 0, none⟩), .pointer (some ⟨bo, 0, none⟩), .pointer (some ⟨bv, 0, none⟩)] W' fun e w' => e = .returned (.tuple #[]) ∧ Hid (FV B bs bo bv ms (freeL (args.take (j + 1)) (ls)) w' ∧ FrT [none, some 3, some 43] W w' ∧ Below B W w' ∧ B ≤ w'.heap.size)) := fun W' hb => by
            have hbB : Below B wr W' := hb.mono HJ.out.2.2.2
            have := IH.out j hja (freeL (args.take j) (ls)) (by omega) W' (HBW.trans (hb.mono HBW.size)) (Nat.le_trans HJ.out.2.2.2 hb.size) (HJ.out.1.below hb)
            rw [hcs] at this
            refine this.mono ?_
            rintro e w' ⟨rfl, q1, q2, q3⟩
            rw [freeL_take args hja]
            exact ⟨rfl, q1, (HJ.out.2.1.trans (FrT.of_below hb)).trans q2, (HJ.out.2.2.1.trans hbB).trans q3, Nat.le_trans (Nat.le_trans HJ.out.2.2.2 hb.size) q3.size⟩
          have hv3 := (HJ.out.1.below (below_one wr (.cells #[.int .i64 k', .int .i64 v', .string s', .bool ng', .slice A2 n2 c2, .slice B2 m3 d2, .slice Xr xl xc] 27))).h3.cell 0
          simp only [List.getElem?_toArray, List.getElem?_cons_zero, List.getElem?_cons_succ] at hv3
          clear h1 h5 h6 h7
          go_wp2_with fail
          refine (HCALL.out _ (by exact below_one _ _)).mono ?_
          rintro e w3 ⟨rfl, HJ3⟩
          clear e0 e1 e2 e3 e4 e5 e6 HCALL hv3
          go_wp2_with fail
          go_roundg (gk - 1)
          case measure => omega
          case rel => exact ⟨j + 1, by omega, by go_num, HJ3⟩
        · obtain rfl : j = l := by omega
          have h2 := HJ.out
          rw [List.take_of_length_le (by rw [HL.out]; exact Nat.le_refl _)] at h2
          have HE2 := HE.out
          subst HE2
          have HJ2 := Lib.hid h2
          clear h2 HJ
          go_wp2_with fail
          unfold bodyPost
          refine ⟨rfl, .tuple #[], ?_, rfl, HJ2.out.1, HJ2.out.2.1, HJ2.out.2.2.1⟩
          first | (simp [results, Tryz.f82]; done) | (unfold results; rfl) | kernel_rfl
end Go.Proofs.YtkfnpcilanheiaaGreat
