/-  -/
import Derived.Deep.RegionHeld3
import Derived.WideLaws
import Derived.Test.YtkamkaehlofgpaaJo12
import Derived.Test.YtkamkaehlofgpaaJo22
import Derived.Test.YtkamkaehlofgpaaJo27
import Derived.Test.YtkamkaehlofgpaaJo28
set_option linter.unusedVariables false
set_option linter.unusedSimpArgs false
/- Lists as terms: their trees, their cells; a slice of terms that came in, opened. -/
namespace Go.Proofs.Ytkamkaehlofgpaa
open Go.ChangeShapes Go.WideShapes Go.ChangeAt Go.RowKit Go.Joins Go.Deep NumB
set_option linter.unusedVariables false
set_option linter.unusedSimpArgs false

/-- A list cell. -/
def Tm.cell (x r : Tm) : Tm := .mk 5 0 ⟨#[46]⟩ ⟨false, [], []⟩ [x, r]
/-- The list of terms with a rest. -/
def listT : List Tm → Tm → Tm
  | [], r => r
  | x :: l, r => .cell x (listT l r)
theorem listT_drop (ts : List Tm) (r : Tm) {j : Nat} (hj : j < ts.length) : listT (ts.drop j) r = .cell ts[j] (listT (ts.drop (j + 1)) r) := by
  rw [List.drop_eq_getElem_cons hj, listT]
theorem listT_nil (ts : List Tm) (r : Tm) : listT (ts.drop ts.length) r = r := by rw [List.drop_length, listT]
/-- The cells of a list cell. -/
def ccell (b : Nat) : List Value := [.int .i64 5, .int .i64 0, .string ⟨#[46]⟩, .bool false, .slice none 0 0, .slice none 0 0, .slice (some ⟨b, 0, none⟩) 2 2]
theorem TC.cell {W : World} {b : Nat} {x r : Tm} {k0 v0 k1 v1 : Int} {s0 s1 : ByteArray} {n0 n1 : Bool} {p0 p1 p2 q0 q1 q2 : Value}
    (h : Blk W b 27 #[.int .i64 k0, .int .i64 v0, .string s0, .bool n0, p0, p1, p2, .int .i64 k1, .int .i64 v1, .string s1, .bool n1, q0, q1, q2])
    (hx : TC W x [.int .i64 k0, .int .i64 v0, .string s0, .bool n0, p0, p1, p2]) (hr : TC W r [.int .i64 k1, .int .i64 v1, .string s1, .bool n1, q0, q1, q2]) :
    TC W (.cell x r) (ccell b) :=
  .mk 5 0 ⟨#[46]⟩ ⟨false, [], []⟩ [x, r] (.slice none 0 0) (.slice none 0 0) (some ⟨b, 0, none⟩) 2 (fun i => if i = 0 then [.int .i64 k0, .int .i64 v0, .string s0, .bool n0, p0, p1, p2] else [.int .i64 k1, .int .i64 v1, .string s1, .bool n1, q0, q1, q2]) ⟨by decide, by decide⟩ ⟨by decide, by decide⟩ (by decide) (slk_nil W _) (slk_nil W _) ⟨Ok.nil, Ok.nil⟩ (Nat.le_refl _) (by decide)
    (fun _ => ⟨b, 0, rfl, h.lt, fun i hi j hj => by
      have hi : i < 2 := hi
      rw [h.cell]
      have h01 : i = 0 ∨ i = 1 := by omega
      have h07 : j = 0 ∨ j = 1 ∨ j = 2 ∨ j = 3 ∨ j = 4 ∨ j = 5 ∨ j = 6 := by omega
      rcases h01 with rfl | rfl <;> rcases h07 with rfl | rfl | rfl | rfl | rfl | rfl | rfl <;> rfl⟩)
    (fun i hi => by
      have hi : i < 2 := hi
      have : i = 0 ∨ i = 1 := by omega
      rcases this with rfl | rfl
      · exact hx
      · exact hr)
/-- What a list cell's row tells. -/
theorem TC.cell_inv {W : World} {x r : Tm} {k v : Int} {s : ByteArray} {ng : Bool} {A B Ar : Option Addr} {n c m d l e : Nat} (h : TC W (.cell x r) [.int .i64 k, .int .i64 v, .string s, .bool ng, .slice A n c, .slice B m d, .slice Ar l e]) :
    k = 5 ∧ s = ⟨#[46]⟩ ∧ l = 2 ∧ 2 ≤ e ∧ e ≤ maxLen ∧ ∃ b o cx cr, Ar = some ⟨b, o, none⟩ ∧ b < W.heap.size ∧ TC W x cx ∧ TC W r cr ∧ (∀ j, j < 7 → W.cell? ⟨b, o + j, none⟩ = cx[j]?) ∧ (∀ j, j < 7 → W.cell? ⟨b, o + 7 + j, none⟩ = cr[j]?) := by
  generalize ht : Tm.cell x r = t at h
  cases h with
  | mk k v s n args A B Ar cap cs hk hv hs hA hB hn hcap hm hr ha =>
    unfold Tm.cell at ht
    cases ht
    obtain ⟨b, o, e, hb, hc⟩ := hr (by simp)
    refine ⟨rfl, rfl, rfl, hcap, hm, b, o, cs 0, cs 1, e, hb, ha 0 (by simp), ha 1 (by simp), fun j hj => ?_, fun j hj => ?_⟩
    · have := hc 0 (by simp) j hj
      rwa [Nat.zero_mul, Nat.add_zero] at this
    · have := hc 1 (by simp) j hj
      rwa [Nat.one_mul] at this

set_option maxRecDepth 100000 in
/-- A slice that came in, its elements opened one by one. -/
theorem open_rows {H : Type} {enc : TypeId × Value → H} {W : World} {α : Type} [Inhabited α] (E ST K : Nat) (hu : Try.prog.underlying ST = some (.slice E)) (hK : Try.prog.cellsOf E = K) (hK0 : 0 < K)
    (R : α → List Value → Prop) (hlen : ∀ t cs, R t cs → cs.length = K) (hopen : ∀ n cs y, DataW.trod enc Try.prog W 0 (fun _ => true) true n E cs = some y → ∃ t, R t cs)
    {n : Nat} {v : Value} {y : DataW H × List MemPlace} (h : DataW.trod enc Try.prog W 0 (fun _ => true) true n ST [v] = some y) :
    ∃ (ts : List α) (Ar : Option Addr) (cap : Nat) (cs : Nat → List Value), v = .slice Ar ts.length cap ∧ ts.length ≤ cap ∧ cap ≤ maxLen ∧
      (0 < ts.length → ∃ b o, Ar = some ⟨b, o, none⟩ ∧ b < W.heap.size ∧ ∀ i, i < ts.length → ∀ j, j < K → W.cell? ⟨b, o + i * K + j, none⟩ = (cs i)[j]?) ∧ (∀ i (h : i < ts.length), R ts[i] (cs i)) ∧
      ((y.1 = .nil ∧ ts.length = 0) ∨ ∃ es rs, y.1 = .slice es rs ∧ es.length = ts.length) := by
  rcases DataW.trod_slice hu h with ⟨h6, hy⟩ | ⟨a, len, cap, elems, rest, n', hn', h6, hy, _, hlc, hcm, hel, hx, _, _⟩
  · simp only [List.cons.injEq, and_true] at h6
    subst h6
    exact ⟨[], none, 0, fun _ => [], rfl, Nat.le_refl _, by unfold maxLen; omega, fun h => absurd h (by simp), fun i h => absurd h (by simp), .inl ⟨by rw [hy], rfl⟩⟩
  · simp only [List.cons.injEq, and_true] at h6
    subst h6
    rw [hK] at hx
    have hx2 : ∀ i, i < len → ∃ p : α × List Value, W.cells? 0 (a.add (i * K)) K = some p.2 ∧ R p.1 p.2 := fun i hi => by
      have h1 := hx i hi
      rw [List.getElem?_eq_getElem (by omega)] at h1
      obtain ⟨cs', h2, h3⟩ := Option.bind_eq_some_iff.1 h1
      obtain ⟨t, ht⟩ := hopen n' cs' _ h3
      exact ⟨(t, cs'), h2, ht⟩
    obtain ⟨f, hf⟩ := choose_below hx2
    have hget : ∀ (i : Nat) (h : i < ((List.range len).map fun i => (f i).1).length), ((List.range len).map fun i => (f i).1)[i] = (f i).1 := fun i h => by simp
    have hll : ((List.range len).map fun i => (f i).1).length = len := by simp
    refine ⟨(List.range len).map fun i => (f i).1, some a, cap, fun i => (f i).2, by rw [hll], by rw [hll]; exact hlc, hcm, fun h0 => ?_, fun i hi => ?_, .inr ⟨_, _, by rw [hy], by rw [hll, List.length_map]; exact hel⟩⟩
    · rw [hll] at h0 ⊢
      obtain ⟨_, _, hc0⟩ := World.cells?_some (hf 0 h0).1
      obtain ⟨b', off, spot⟩ := a
      have hq := hc0 0 (by omega)
      rw [List.getElem?_eq_getElem (by rw [hlen _ _ (hf 0 h0).2]; omega)] at hq
      have hspot : spot = none := by simpa [Addr.add] using World.cell?_spot hq
      subst hspot
      refine ⟨b', off, rfl, ?_, fun i hi j hj => ?_⟩
      · rcases Nat.lt_or_ge b' W.heap.size with h1 | h1
        · exact h1
        · simp [World.cell?, Addr.add, Array.getElem?_eq_none h1] at hq
      · obtain ⟨_, _, hci⟩ := World.cells?_some (hf i hi).1
        have := hci j hj
        rw [add_add] at this
        rw [← this, Go.WideShapes.add_plain, Nat.add_assoc]
    · rw [hget i hi]
      exact (hf i (by simpa using hi)).2

/-- What a slice's weight says about its length. -/
theorem weight_len {H : Type} {ST E B n : Nat} {T : List TypeId} {d : DataW H} {D : List (DataW H)} (hu : Try.prog.underlying ST = some (.slice E)) (hB : Try.prog.bytesOf E = B)
    (h : (DataW.weightsEach Try.prog (ST :: T) (d :: D)).all (· ≤ reachBytes) = true) (hd : (d = .nil ∧ n = 0) ∨ ∃ es rs, d = .slice es rs ∧ es.length = n) : n * B ≤ 140737488351232 := by
  rcases hd with ⟨_, rfl⟩ | ⟨es, rs, rfl, rfl⟩
  · omega
  · rw [DataW.weightsEach, DataW.weights, hu] at h
    simp only [List.cons_append, List.all_cons, Bool.and_eq_true, decide_eq_true_eq, hB] at h
    have h1 := h.1
    unfold reachBytes at h1
    have h2 : es.length * B ≤ (es.length + rs.length) * B := Nat.mul_le_mul_right _ (by omega)
    omega

set_option maxRecDepth 100000 in
theorem open_terms {H : Type} {enc : TypeId × Value → H} {W : World} {v : Value} {d : DataW H} {p : List MemPlace} {base : Nat}
    (hv : Value.okWide Try.prog W .any base 22 v) (h : DataW.Trod enc Try.prog W 0 (fun _ => true) true 22 v d p) : ∃ ts, TL W v ts ∧ ((d = .nil ∧ ts.length = 0) ∨ ∃ es rs, d = .slice es rs ∧ es.length = ts.length) := by
  obtain ⟨a, len, cap, rfl⟩ := okWide_slice Try.underlying22 hv
  obtain ⟨fuel, hf⟩ := h
  obtain ⟨ts, Ar, cap', cs, h1, h2, h3, h4, h5, h6⟩ := open_rows 27 22 7 Try.underlying22 (by kernel_rfl) (by omega) (TC W) (fun t cs h => h.len) (fun n cs y h => open_tm n cs y h) hf
  exact ⟨ts, ⟨Ar, cap', cs, h1, h2, h3, h4, h5⟩, h6⟩
end Go.Proofs.Ytkamkaehlofgpaa
/- TermListRoundTrip: its card, out of its walk. -/
namespace Go.Proofs.Ytkamkaehlofgpaa.LawTmList
open Go.ChangeShapes Go.WideShapes Go.ChangeAt Go.RowKit NumB
set_option linter.unusedVariables false
set_option linter.unusedSimpArgs false

/-- What the walk says. -/
def Walk : Prop := ∀ (t0 : List Tm) (v0 : Value) (t1 : Tm) (c1 : List Value) (w : World), TL w v0 t0 → t0.length * 112 ≤ 140737488351232 → TC w t1 c1 →
  Calls Try.prog 3 #[v0, .agg c1.toArray] w fun e w' => e = .returned (.bool true) ∧ Below w.heap.size w w'

set_option maxRecDepth 100000 in
theorem contract (hwalk : Walk) (H : Type) (enc : TypeId × Value → H) (W : World) (base : Nat) (args : Array Value) (ds gs : List (DataW H)) (before : List MemPlace)
    (hval : ∀ (j : Nat) t v, Try.f3.params[j]? = some t → args[j]? = some v → Value.okWide Try.prog W .any base t v)
    (hW : DataW.Whole enc Try.prog Try.f3.params.toList Rows.termListRoundTripSpec.vars false W args.toList ds gs before) (TT : List TypeId) (hwt : (DataW.weightsEach Try.prog (Try.f3.params.toList ++ TT) (ds ++ gs)).all (· ≤ reachBytes) = true) :
    Calls Try.prog 3 args W fun e W' => ∃ v, e = .returned v ∧ Rows.termListRoundTripSpec.post enc Try.prog Try.f3 false true false false W args v W' := by
  have hW' := hW
  obtain ⟨p, q, hA0, hV, rfl, hfz, hnd⟩ := hW
  have hA : DataW.TrodAll enc Try.prog W 0 (fun _ => true) true Try.f3.params.toList args.toList ds p := hA0
  have hA1 := hA
  clear hA0
  rw [Try.params3] at hA hval hwt
  obtain ⟨v0, vs0, d0, ds0, p0, q0, hargs, rfl, rfl, h0, r0⟩ := trodAll_cons hA
  obtain ⟨v1, vs1, d1, ds1, p1, q1, rfl, rfl, rfl, h1, r1⟩ := trodAll_cons r0
  obtain ⟨rfl, rfl, rfl⟩ := trodAll_nil r1
  obtain rfl : args = #[v0, v1] := by cases args; simp_all
  obtain ⟨rfl, rfl⟩ := trodVars_none hV
  obtain ⟨t0, hx0, hd0⟩ := open_terms (hval 0 22 v0 rfl rfl) h0
  have hw0 := weight_len Try.underlying22 (B := 112) (by kernel_rfl) hwt hd0
  obtain ⟨t1, c1, rfl, hx1⟩ := open_term (hval 1 27 v1 rfl rfl) h1
  simp only [List.append_nil] at hW' hA1
  refine (hwalk t0 _ t1 c1 W hx0 hw0 hx1).mono fun e W' ⟨he, hb⟩ => ?_
  subst he
  refine ⟨_, rfl, post_law rfl hW' hA1 ?_ rfl rfl hb⟩
  rw [Try.params3]
  intro t ht
  have hm : t ∈ [22, 27] := by simpa using ht
  have hall : ([22, 27].all fun u => Try.prog.readableRec u && decide (u < Try.prog.types.size)) = true := by kernel_rfl
  have := List.all_eq_true.1 hall t hm
  simp only [Bool.and_eq_true, decide_eq_true_eq] at this
  exact this

def wit : Array Value := #[.slice none 0 0, .agg #[.int .i64 0, .int .i64 0, .string ⟨#[]⟩, .bool false, .slice none 0 0, .slice none 0 0, .slice none 0 0]]
set_option maxRecDepth 100000 in
theorem laid_met (os : Os) : laidMet Try.prog Rows.termListRoundTripRow.laid ((World.laidAll Try.prog os Rows.termListRoundTripRow.laid).forCall (fun _ _ => 0) ⟨#[], wit, []⟩).memory :=
  laidMet_laidAll wit (by kernel_rfl) (by kernel_rfl)
set_option maxRecDepth 100000 in
theorem reads (os : Os) {H : Type} (enc : TypeId × Value → H) : ∃ ds places, DataW.whole enc Try.prog ((World.laidAll Try.prog os Rows.termListRoundTripRow.laid).forCall (fun _ _ => 0) ⟨#[], wit, []⟩).memory Try.f3.params.toList Rows.termListRoundTripSpec.vars false wit.toList 8 = some (ds, [], places) :=
  ⟨[.nil, .agg [.lit (.int .i64 0), .lit (.int .i64 0), .lit (.string []), .agg [.lit (.bool false), .nil, .nil], .nil]], [], by kernel_rfl⟩

set_option maxRecDepth 100000 in
theorem lifted (hwalk : Walk) (os : Os) (started : os.Started) (H : Type) (enc : TypeId × Value → H) (F : Stop.Interp) :
    ReturnsInHanded {} Try.checked os 3 .any ((OpenSpec.ofChange Rows.termListRoundTripSpec).preRow enc Try.prog Try.f3 Rows.termListRoundTripRow.domain false Rows.termListRoundTripRow.laid) (((OpenSpec.ofChange Rows.termListRoundTripSpec).at F).post enc Try.prog Try.f3 false true false false) := by
  obtain ⟨ds, places, hx⟩ := reads os enc
  refine returnsInHanded_of_row (C := Try.checked) (s := OpenSpec.ofChange Rows.termListRoundTripSpec) own started (by kernel_rfl) Try.func3
    (witness_row_at (enc := enc) (C := Try.checked) false (World.laidAll Try.prog os Rows.termListRoundTripRow.laid) wit rfl (by kernel_rfl) (by kernel_rfl) (by kernel_rfl)
      (OpenSpec.preRow_of_cond 8 hx (by kernel_rfl) (fun k hk => by cases hk) (by kernel_rfl) (laid_met os))) ?_
  intro W base args ds gs before hval hW _ _ hwt hL _ _
  exact contract hwalk H enc W base args ds gs before hval hW _ hwt

set_option maxRecDepth 100000 in
theorem said (hwalk : Walk) : Rows.TermListRoundTripSaid :=
  OpenClaim.holds_of_cond 3 Try.f3 rfl rfl rfl rfl rfl rfl rfl ⟨rfl, rfl, rfl, rfl, rfl⟩ rfl rfl rfl rfl rfl (by kernel_rfl) Try.func3 (by kernel_rfl)
    (of_decide_eq_true (by kernel_rfl)) (by unfold Func.isWrapper; first | (rw [if_pos (by decide +kernel)]; kernel_rfl) | (rw [if_neg (by decide +kernel)]; exact ⟨rfl, rfl⟩))
    (fun os started H enc _ F => by rw [OpenClaim.pre_eq_preRow]; exact lifted hwalk os started H enc F)

end Go.Proofs.Ytkamkaehlofgpaa.LawTmList
/- (*heap.interner).name of a variable or an atom: some int; the interner stays one. -/
namespace Go.Proofs.Ytkamkaehlofgpaa
open Go.RowKit NumB
set_option linter.unusedVariables false
set_option linter.unusedSimpArgs false

set_option maxHeartbeats 3200000 in
set_option maxRecDepth 100000 in
theorem name_leaf (p m1 m2 n : Nat) (k v : Int) (s : ByteArray) (ng : Bool) (A1 : Option Addr) (n1 c1 : Nat) (B1 : Option Addr) (q1 d1 : Nat) (X : Option Addr) (xl xc : Nat) (hk : k = 1 ∨ k = 3) (hv : i64ok v) (hs : s.size ≤ 1000) (w : World) (h : NameS w p m1 m2 n) (hn : n ≤ 1000) :
    Calls Try.prog 73 #[.pointer (some ⟨p, 0, none⟩), .agg #[.int .i64 k, .int .i64 v, .string s, .bool ng, .slice A1 n1 c1, .slice B1 q1 d1, .slice X xl xc]] w fun e w' => ∃ i, e = .returned (.int .i64 i) ∧ i64ok i ∧ NameS w' p m1 m2 (n + 1) ∧ Kept (KN m1 m2) w w' := by
  have HN := Lib.hid h
  have HV := Lib.hid hv
  have HK := Lib.hid hk
  have HBT := Lib.hid (Blk.new w 27 #[.int .i64 k, .int .i64 v, .string s, .bool ng, .slice A1 n1 c1, .slice B1 q1 d1, .slice X xl xc])
  have HB0 := Lib.hid (BD.new (w.alloc (.cells #[.int .i64 k, .int .i64 v, .string s, .bool ng, .slice A1 n1 c1, .slice B1 q1 d1, .slice X xl xc] 27)))
  rw [show (w.alloc (.cells #[.int .i64 k, .int .i64 v, .string s, .bool ng, .slice A1 n1 c1, .slice B1 q1 d1, .slice X xl xc] 27)).heap.size = w.heap.size + 1 by simp] at HB0
  have HW0 : Hid (Below w.heap.size w ((w.alloc (.cells #[.int .i64 k, .int .i64 v, .string s, .bool ng, .slice A1 n1 c1, .slice B1 q1 d1, .slice X xl xc] 27)).alloc (.cells #[.pointer none, .slice none 0 0] 129))) := below_pair w _ _
  have k5 : (k == 5) = false := beq_eq_false_iff_ne.2 (by omega)
  have k2 : (k == 2) = false := beq_eq_false_iff_ne.2 (by omega)
  have HK8 : Hid (0 ≤ k % 256 ∧ k % 256 ≤ 255) := ⟨by omega, by omega⟩
  clear h hv hk
  go_enter Try.func73, Try.ntmps73
  go_wp2_with fail
  have HT0 := Lib.hid (HBT.out.alloc (.cells #[.pointer none, .slice none 0 0] 129))
  refine (writeByte_any (w.heap.size + 1) (w.heap.size + 1) 0 _ _ HB0.out HK8.out.1 HK8.out.2 (by omega) (by simp)).mono ?_
  rintro e y1 ⟨rfl, hd, hb, ho⟩
  have HD1 := Lib.hid hd
  have HN1 := Lib.hid ((HN.out.below HW0.out).others ho HB0.out)
  have HT1 := Lib.hid (HT0.out.others (by decide) (by decide) ho HB0.out)
  have HW1 : Hid (w.heap.size + 1 ≤ y1.heap.size ∧ Kept (KN m1 m2) w y1) := ⟨Nat.le_trans (by simp) hb.size, (Kept.of_below HW0.out).thenB hb (by omega)⟩
  clear hd hb ho
  have t0 := HT1.out.cell 0
  have t1 := HT1.out.cell 1
  have t2 := HT1.out.cell 2
  simp only [List.getElem?_toArray, List.getElem?_cons_zero, List.getElem?_cons_succ] at t0 t1 t2
  rcases HK.out with rfl | rfl
  · go_wp2_with fail
    refine (put_any (w.heap.size + 1) (w.heap.size + 1) 1 v HV.out y1 HD1.out (by omega) HW1.out.1).mono ?_
    rintro e y2 ⟨rfl, hd, hb, ho⟩
    have HD2 := Lib.hid (hd.le (by omega : _ ≤ 2000))
    have HN2 := Lib.hid (HN1.out.others ho HD1.out)
    have HT2 := Lib.hid (HT1.out.others (by decide) (by decide) ho HD1.out)
    have HW2 : Hid (w.heap.size + 1 ≤ y2.heap.size ∧ Kept (KN m1 m2) w y2) := ⟨Nat.le_trans HW1.out.1 hb.size, HW1.out.2.thenB hb (by omega)⟩
    clear hd hb ho t0 t1 t2
    go_wp2_with fail
    have hS2 : y2.drew.cell? ⟨p, 0, none⟩ = some (.map (some m1)) ∧ y2.drew.cell? ⟨p, 1, none⟩ = some (.map (some m2)) := HN2.out.drew.nsc
    have HSTR := Lib.hid (str_form (w := w) HD2.out.drew HN2.out.drew HT2.out.drew HW2.out.1 HW2.out.2.drew (by omega))
    go_region_held3 (fun w' => w'.cell? ⟨p, 0, none⟩ = some (.map (some m1)) ∧ w'.cell? ⟨p, 1, none⟩ = some (.map (some m2)))
      (first | assumption | (go_keep; done))
      (first
        | (go_at_call 80; (with_reducible refine HSTR.out.mono ?_); rintro e y3 ⟨s3, i3, ok3, rfl, hi3, hl3, HD3, HN3, HT3, HW3, hS3⟩))
    clear hS2 HSTR hl3 hS3
    have t0 := HT3.out.cell 0
    simp only [List.getElem?_toArray, List.getElem?_cons_zero, List.getElem?_cons_succ] at t0
    cases ok3 with
    | true =>
      go_wp2_with fail
      go_ret
      exact ⟨i3, rfl, hi3.out, HN3.out.mono (by omega), HW3.out.2⟩
    | false =>
      obtain ⟨es, cl, hm, hms⟩ := HN3.out.len
      obtain ⟨e0, e1⟩ := HN3.out.nsc
      have hlen : (Builtin.len_ #[124] 3 #[.map (some m2)]).run Try.prog y3 = .ok (.int .i64 (es.size : Int)) y3 := run_len_map y3 _ _ m2 es cl (by kernel_rfl) hm
      go_wp2_with fail
      have HI4 : Hid (i64ok (es.size : Int)) := ⟨by omega, by omega⟩
      have hS4 : y3.drew.cell? ⟨p, 0, none⟩ = some (.map (some m1)) ∧ y3.drew.cell? ⟨p, 1, none⟩ = some (.map (some m2)) := HN3.out.drew.nsc
      have HSTR := Lib.hid (str_put (w := w) HD3.out.drew HN3.out.drew HT3.out.drew HW3.out.1 HW3.out.2.drew (by omega) HI4.out)
      clear hm hms e0 e1 t0 hlen
      go_region_held3 (fun w' => w'.cell? ⟨p, 0, none⟩ = some (.map (some m1)) ∧ w'.cell? ⟨p, 1, none⟩ = some (.map (some m2)))
        (first | assumption | (go_keep; done))
        (first
          | (go_at_call 80; (with_reducible refine HSTR.out.mono ?_); rintro e y5 ⟨s5, y4, rfl, hl5, HD4, HN4, HT4, HW4, hS5, hS6⟩))
      clear hS4 HSTR hl5 hS5 hS6
      have t0 := HT4.out.cell 0
      simp only [List.getElem?_toArray, List.getElem?_cons_zero, List.getElem?_cons_succ] at t0
      go_wp2_with fail
      go_ret
      exact ⟨_, rfl, HI4.out, HN4.out.mono (by omega), HW4.out.2⟩
  · go_wp2_with fail
    refine (writeString_any (w.heap.size + 1) (w.heap.size + 1) 1 s y1 HD1.out (by omega) (by omega) HW1.out.1).mono ?_
    rintro e y2 ⟨rfl, hd, hb, ho⟩
    have HD2 := Lib.hid (hd.le (by omega : _ ≤ 2000))
    have HN2 := Lib.hid (HN1.out.others ho HD1.out)
    have HT2 := Lib.hid (HT1.out.others (by decide) (by decide) ho HD1.out)
    have HW2 : Hid (w.heap.size + 1 ≤ y2.heap.size ∧ Kept (KN m1 m2) w y2) := ⟨Nat.le_trans HW1.out.1 hb.size, HW1.out.2.thenB hb (by omega)⟩
    clear hd hb ho t0 t1 t2
    go_wp2_with fail
    have hS2 : y2.drew.cell? ⟨p, 0, none⟩ = some (.map (some m1)) ∧ y2.drew.cell? ⟨p, 1, none⟩ = some (.map (some m2)) := HN2.out.drew.nsc
    have HSTR := Lib.hid (str_form (w := w) HD2.out.drew HN2.out.drew HT2.out.drew HW2.out.1 HW2.out.2.drew (by omega))
    go_region_held3 (fun w' => w'.cell? ⟨p, 0, none⟩ = some (.map (some m1)) ∧ w'.cell? ⟨p, 1, none⟩ = some (.map (some m2)))
      (first | assumption | (go_keep; done))
      (first
        | (go_at_call 80; (with_reducible refine HSTR.out.mono ?_); rintro e y3 ⟨s3, i3, ok3, rfl, hi3, hl3, HD3, HN3, HT3, HW3, hS3⟩))
    clear hS2 HSTR hl3 hS3
    have t0 := HT3.out.cell 0
    simp only [List.getElem?_toArray, List.getElem?_cons_zero, List.getElem?_cons_succ] at t0
    cases ok3 with
    | true =>
      go_wp2_with fail
      go_ret
      exact ⟨i3, rfl, hi3.out, HN3.out.mono (by omega), HW3.out.2⟩
    | false =>
      obtain ⟨es, cl, hm, hms⟩ := HN3.out.len
      obtain ⟨e0, e1⟩ := HN3.out.nsc
      have hlen : (Builtin.len_ #[124] 3 #[.map (some m2)]).run Try.prog y3 = .ok (.int .i64 (es.size : Int)) y3 := run_len_map y3 _ _ m2 es cl (by kernel_rfl) hm
      go_wp2_with fail
      have HI4 : Hid (i64ok (es.size : Int)) := ⟨by omega, by omega⟩
      have hS4 : y3.drew.cell? ⟨p, 0, none⟩ = some (.map (some m1)) ∧ y3.drew.cell? ⟨p, 1, none⟩ = some (.map (some m2)) := HN3.out.drew.nsc
      have HSTR := Lib.hid (str_put (w := w) HD3.out.drew HN3.out.drew HT3.out.drew HW3.out.1 HW3.out.2.drew (by omega) HI4.out)
      clear hm hms e0 e1 t0 hlen
      go_region_held3 (fun w' => w'.cell? ⟨p, 0, none⟩ = some (.map (some m1)) ∧ w'.cell? ⟨p, 1, none⟩ = some (.map (some m2)))
        (first | assumption | (go_keep; done))
        (first
          | (go_at_call 80; (with_reducible refine HSTR.out.mono ?_); rintro e y5 ⟨s5, y4, rfl, hl5, HD4, HN4, HT4, HW4, hS5, hS6⟩))
      clear hS4 HSTR hl5 hS5 hS6
      have t0 := HT4.out.cell 0
      simp only [List.getElem?_toArray, List.getElem?_cons_zero, List.getElem?_cons_succ] at t0
      go_wp2_with fail
      go_ret
      exact ⟨_, rfl, HI4.out, HN4.out.mono (by omega), HW4.out.2⟩
end Go.Proofs.Ytkamkaehlofgpaa
