/- term.sorted: the bindings of a map, in order, in new memory. -/
import Derived.Deep.AppendLies
import Derived.Test.YtkfnpcilanheiaaGreatJo30
set_option linter.unusedVariables false
set_option linter.unusedSimpArgs false
set_option maxRecDepth 100000
namespace Go.Proofs.YtkfnpcilanheiaaGreat
open Go.RowKit NumB
theorem inc_ext : ∀ {a b : List Int}, a.Pairwise (· < ·) → b.Pairwise (· < ·) → (∀ v, v ∈ a ↔ v ∈ b) → a = b
  | [], [], _, _, _ => rfl
  | [], y :: b, _, _, h => absurd ((h y).2 (by simp)) (by simp)
  | x :: a, [], _, _, h => absurd ((h x).1 (by simp)) (by simp)
  | x :: a, y :: b, ha, hb, h => by
    rw [List.pairwise_cons] at ha hb
    have e : x = y := by
      have h1 := (h x).1 (by simp)
      have h2 := (h y).2 (by simp)
      rw [List.mem_cons] at h1 h2
      rcases h1 with h1 | h1
      · exact h1
      · rcases h2 with h2 | h2
        · exact h2.symm
        · have := hb.1 x h1; have := ha.1 y h2; omega
    subst e
    rw [inc_ext ha.2 hb.2 fun v => ?_]
    have h3 := h v
    rw [List.mem_cons, List.mem_cons] at h3
    constructor
    · intro hv
      rcases h3.1 (.inr hv) with rfl | h4
      · have := ha.1 v hv; omega
      · exact h4
    · intro hv
      rcases h3.2 (.inr hv) with rfl | h4
      · have := hb.1 v hv; omega
      · exact h4
theorem Incr.pair {bs : List (Int × Tm)} (h : Incr bs) : (bs.map (·.1)).Pairwise (· < ·) := by
  rw [List.pairwise_iff_getElem]
  intro i j hi hj hij
  simp only [List.length_map] at hi hj
  simpa using h i j hi hj hij
theorem sorted_keys {bs : List (Int × Tm)} {gs : List (Bnd × Tm)} {es : List Bnd} (hi : Incr bs) (hp : es.Perm (gs.map (·.1))) (hs : es.Pairwise (fun a b => ¬ b.x < a.x)) (hd : gs.Pairwise (fun a b => a.1.x ≠ b.1.x)) (hm : ∀ v, (∃ p ∈ gs, p.1.x = v) ↔ v ∈ bs.map (·.1)) : es.map (·.x) = bs.map (·.1) := by
  refine inc_ext ?_ hi.pair fun v => ?_
  · have hd2 : (gs.map (·.1)).Pairwise (fun a b => a.x ≠ b.x) := by rw [List.pairwise_map]; exact hd
    have hd3 : es.Pairwise (fun a b => a.x ≠ b.x) := (hp.pairwise_iff (fun {a b} h => fun e => h e.symm)).2 hd2
    rw [List.pairwise_map]
    exact (hs.and hd3).imp fun {a b} h => by have := h.1; have := h.2; omega
  · rw [← hm]
    constructor
    · intro h
      obtain ⟨b, hb, rfl⟩ := List.mem_map.1 h
      obtain ⟨p, hp2, rfl⟩ := List.mem_map.1 (hp.subset hb)
      exact ⟨p, hp2, rfl⟩
    · rintro ⟨p, hp2, rfl⟩
      exact List.mem_map.2 ⟨p.1, hp.symm.subset (List.mem_map.2 ⟨p, hp2, rfl⟩), rfl⟩
def Came (bs : List (Int × Tm)) (left : Lit → Bool) (gs : List (Bnd × Tm)) : Prop :=
  (∀ p ∈ gs, fnd bs p.1.x = some p.2 ∧ i64ok p.1.x ∧ left (.int .i64 p.1.x) = false) ∧ gs.Pairwise (fun a b => a.1.x ≠ b.1.x) ∧ ∀ v, v ∈ bs.map (·.1) → left (.int .i64 v) = true ∨ ∃ p ∈ gs, p.1.x = v
theorem fnd_key {bs : List (Int × Tm)} {v : Int} {t : Tm} (h : fnd bs v = some t) : v ∈ bs.map (·.1) := by
  unfold fnd at h
  rw [Option.map_eq_some_iff] at h
  obtain ⟨p, hp, rfl⟩ := h
  have h1 := List.find?_some hp
  simp only [beq_iff_eq] at h1
  exact List.mem_map.2 ⟨p, List.mem_of_find?_eq_some hp, h1⟩
theorem Came.add {bs : List (Int × Tm)} {left : Lit → Bool} {gs : List (Bnd × Tm)} (h : Came bs left gs) {p : Bnd × Tm} (hf : fnd bs p.1.x = some p.2) (hx : i64ok p.1.x) (hl : left (.int .i64 p.1.x) = true) : Came bs (fun z => left z && !z.sameKey (.int .i64 p.1.x)) (gs ++ [p]) := by
  refine ⟨fun q hq => ?_, ?_, fun v hv => ?_⟩
  · rcases List.mem_append.1 hq with hq | hq
    · have := h.1 q hq
      exact ⟨this.1, this.2.1, by simp [this.2.2]⟩
    · rw [List.mem_singleton] at hq
      subst hq
      exact ⟨hf, hx, by simp [Lit.sameKey]⟩
  · rw [List.pairwise_append]
    refine ⟨h.2.1, by simp, fun a ha b hb => ?_⟩
    rw [List.mem_singleton] at hb
    subst hb
    intro e
    have := (h.1 a ha).2.2
    rw [e, hl] at this
    cases this
  · by_cases e : v = p.1.x
    · subst e
      exact .inr ⟨p, by simp, rfl⟩
    · rcases h.2.2 v hv with h1 | ⟨q, hq, h1⟩
      · exact .inl (by simp [h1, Lit.sameKey, e])
      · exact .inr ⟨q, by simp [hq], h1⟩
theorem Zip2.keys {w : World} {zs : List (Int × List Value)} {bs : List (Int × Tm)} (h : Zip2 w zs bs) : ∀ v, v ∈ bs.map (·.1) → Maps.has (DataW.map (zs.map encZ)) (.int .i64 v) = true := by
  induction h with
  | nil => intro v hv; simp at hv
  | @cons v' cx' t' zs bs hv' h' hr ih =>
    intro v hv
    rw [Maps.has_eq]
    by_cases e : v = v'
    · subst e; simp [encZ, Lit.sameKey]
    · have := ih v (by simpa [e] using hv)
      rw [Maps.has_eq] at this
      simp only [List.map_cons, List.any_cons, this, Bool.or_true]
theorem TCP.grown {R : Nat → Prop} {w w' : World} {row : Option Nat} {t : Tm} {cs : List Value} (h : TCP R w t cs) (hg : w.grownBy w' row) (hr : ∀ b, R b → some b ≠ row) : TCP R w' t cs := h.to hg.size fun b hb hlt => hg.block b hlt (hr b hb)
theorem grown_of {w w' : World} (h : Below w.heap.size w w') : w.grownBy w' none := ⟨h.os, h.tape, h.output, h.size, fun i hi _ => h.block i hi⟩
theorem info_bind : (Tryz.prog.info? 51).map (fun i => (i.zero, i.size, i.bytes)) = some (some (.agg (Value.int .i64 0 :: zt).toArray), 8, 120) := by kernel_rfl
set_option maxHeartbeats 12800000 in
theorem tsorted_any {w : World} (ms : Nat) {bs : List (Int × Tm)} (hi : Incr bs) (hvd : Vld bs) (hlen : bs.length ≤ 1000000) (W : World) (hW : Below w.heap.size w W) (hM : MapT w W ms bs) :
    Calls Tryz.prog 50 #[.map (some ms)] W fun e W' => ∃ ov, e = .returned ov ∧ BL W' ov bs ∧ Below W.heap.size W W' := by
  obtain ⟨zs, hown, hz⟩ := hM
  have HCL : Hid (∀ x cx, TC w x cx → x.err0 = 0 → ∀ W', Below w.heap.size w W' → Calls Tryz.prog 53 #[.agg cx.toArray] W' fun e w' => ∃ cs', e = .returned (.agg cs'.toArray) ∧ TCF (W'.heap.size + 1) w' x cs' ∧ Below W'.heap.size W' w') := fun x cx hx he W' hb => clone_tm hx (hx.sm he) W' hb
  have HZ := Lib.hid hz
  have HI := Lib.hid hi
  have HVD := Lib.hid hvd
  have HWB := Lib.hid hW
  have HMS := Lib.hid hown.lt
  obtain ⟨i0, hi0, hz0, hz1, hz2⟩ := info_parts info_bind
  have HI0 := Lib.hid hi0
  have HZ0 := Lib.hid hz0
  have HZ1 := Lib.hid hz1
  have HZ2 := Lib.hid hz2
  have HLE := Lib.hid hz.len
  clear hi0 hz0 hz1 hz2 hz hi hvd hW
  go_enter Tryz.func50, Tryz.ntmps50
  go_wp2_with (first
    | (at_range; refine wpList_range_own _ rfl _ 75 rfl 3 27 (Maps.int_keyed Tryz.underlying3) Tryz.underlying75 RdV ms bs.length _ rfl hown ?_; intro w0 hrg0 hg0 hs0)
    | go_in)
  have HB0 : Hid (Below W.heap.size W w0) := ⟨hg0.os, hg0.tape, hg0.output, hg0.size, fun i hi => hg0.block i hi (by simp)⟩
  have HS0 : Hid (w0.heap.size = W.heap.size + 1) := hs0
  clear hg0 hs0 hown
  go_frame
  go_loopw [3] (fun v wr => ∃ (left : Lit → Bool) (cnt : Nat) (gs : List (Bnd × Tm)) (xs : List Value), wr.ranges Tryz.prog 3 RdV ms W.heap.size bs.length (.map (zs.map encZ)) left cnt ∧ Hid (wr.ownsRow (W.heap.size + 1) 51 8 v gs.length xs) ∧ Hid (∀ i (h : i < gs.length) q, q < 8 → xs[i * 8 + q]? = (gs[i]).1.enc[q]?) ∧ Hid (∀ i (h : i < gs.length), TCP (fun b => W.heap.size + 1 ≤ b ∧ some b ≠ v.ownBlock) wr (gs[i]).2 (gs[i]).1.cs) ∧ Hid (Came bs left gs) ∧ Hid (gs.length + cnt ≤ bs.length) ∧ Hid (Below W.heap.size W wr) ∧ Hid (W.heap.size + 1 ≤ wr.heap.size))
    (fun _ wr => wr.rangeLeft ms W.heap.size)
  case atStart =>
    exact ⟨_, _, [], [], hrg0, World.ownsRow_nil _ _ _ _, fun i h => absurd h (by simp), fun i h => absurd h (by simp), ⟨fun p hp => (by cases hp), List.Pairwise.nil, fun v hv => .inl (HZ.out.keys v hv)⟩, by show _ ≤ _; rw [Maps.size_eq]; simp [HLE.out], HB0.out, Nat.le_of_eq HS0.out.symm⟩
  case round =>
    clear HB0 HS0
    obtain ⟨left, cnt, gs, xs, hrg, HOWN, HXS, HTS, HG, HLN, HB, HSZ⟩ := hrel
    have HMES := Lib.hid hrg.left_eq
    have HRNE := Lib.hid hrg.ne
    go_wp2_with (first
      | (at_next; refine wpList_next_ranges _ rfl _ rfl 3 (Maps.int_keyed Tryz.underlying3) RdV (Value.int .i64) id (fun key kl h => (by obtain ⟨x, e, _⟩ := Maps.keyOf_int_inv Tryz.underlying3 h; exact ⟨x, e⟩)) (fun v y _ => ⟨v, rfl⟩) ms W.heap.size bs.length _ _ _ rfl hrg ?_ ?_)
      | go_in)
    · intro hc0 hl0
      have HKEY : Hid (∀ v, (∃ p ∈ gs, p.1.x = v) ↔ v ∈ bs.map (·.1)) := fun v => ⟨fun ⟨p, hp, e⟩ => e ▸ fnd_key (HG.out.1 p hp).1, fun hv => by
        rcases HG.out.2.2 v hv with h | h
        · rw [hl0] at h; cases h
        · exact h⟩
      have HFND : Hid (∀ p ∈ gs, fnd bs p.1.x = some p.2 ∧ i64ok p.1.x) := fun p hp => ⟨(HG.out.1 p hp).1, (HG.out.1 p hp).2.1⟩
      have HDIS := Lib.hid HG.out.2.1
      have HLE2 : Hid (gs.length ≤ 1000000) := by have := HLN.out; show _ ≤ _; omega
      clear hrg HG HLN HMES HRNE hc0 hl0
      rcases HOWN.out.2 with ⟨hv0, h0⟩ | ⟨g, cap, cur, hv, hbase, hb, h3, h4, h5, h6⟩
      · subst hv0
        have hg0 : gs = [] := List.eq_nil_of_length_eq_zero h0
        have HBN : Hid (bs = []) := by
          show _ = _
          cases bs with
          | nil => rfl
          | cons b r =>
            obtain ⟨p, hp, _⟩ := (HKEY.out b.1).2 (by simp)
            rw [hg0] at hp
            cases hp
        have HNIL := Lib.hid (fun w' => AnyF.slices_SortFunc_none { Tryz.sortB with } none 0 (.func (.func 90) #[] #[]) w')
        go_wp2_with (go_at_call 89; refine (HNIL.out _).mono ?_; rintro e w' ⟨rfl, rfl⟩)
        go_ret
        rw [HBN.out]
        exact ⟨_, rfl, ⟨none, 0, fun _ => [], rfl, Nat.le_refl _, by unfold maxLen; omega, fun h => absurd h (by simp), fun i h => absurd h (by simp)⟩, HB.out⟩
      · subst hv
        have HROW := HOWN.out
        have hglt := (Go.World.ownsRow.lt HROW g rfl).2
        have hHK : Go.Sort.HoldsK Bnd.enc 8 wr g 0 (gs.map (·.1)).toArray := by
          intro j hj
          have hj8 : j < gs.length * 8 := by simpa using hj
          have h1 := HXS.out (j / 8) (by omega) (j % 8) (by omega)
          have e1 : j / 8 * 8 + j % 8 = j := by omega
          rw [e1] at h1
          refine ⟨?_, HROW.frozenAt _⟩
          have h2 := HROW.cellAt j hj8
          rw [Nat.zero_add, h2, h1, Go.Sort.get_flatK _ _ _ _ (by simpa using hj8)]
          have hq : j / 8 < (gs.map (·.1)).toArray.size := by simp; omega
          have hl : j % 8 < (((gs.map (·.1)).toArray[j / 8]!).enc).length := Nat.mod_lt _ (by omega)
          rw [getElem!_pos (gs.map (·.1)).toArray (j / 8) hq] at hl ⊢
          rw [getElem!_pos (((gs.map (·.1)).toArray[j / 8]'hq).enc) (j % 8) hl]
          simp only [List.getElem_toArray, List.getElem_map, id] at hl ⊢
          exact List.getElem?_eq_getElem hl
        have hsort := Lib.hid (sortB_any g cap (gs.map (·.1)) wr hHK hglt (by have := HLE2.out; simp; omega))
        have HSORT : Hid (Calls Tryz.prog 89 #[.slice (some ⟨g, 0, none⟩) gs.length cap, .func (.func 90) #[] #[]] wr fun e w' => e = .returned (.tuple #[]) ∧ Hid (∃ es : List Bnd, es.Perm (gs.map (·.1)) ∧ es.Pairwise (fun a b => ¬ b.x < a.x) ∧ wr.grownBy w' (some g) ∧ ∀ i (h : i < es.length) q, q < 8 → w'.cell? ⟨g, i * 8 + q, none⟩ = (es[i]).enc[q]?)) := by
          have := hsort.out
          rw [List.length_map] at this
          exact this
        have HCAP : Hid (gs.length ≤ cap ∧ cap ≤ maxLen ∧ W.heap.size + 1 ≤ g) := ⟨h3, h4, hbase⟩
        clear hsort hHK hb h3 h4 h5 h6 hbase HROW HOWN HXS cur
        go_wp2_with (go_at_call 89; refine HSORT.out.mono ?_; rintro e w' ⟨rfl, HQ⟩)
        go_ret
        obtain ⟨es, hp, hso, hgr, hcell⟩ := HQ.out
        have hso : es.Pairwise (fun a b => ¬ b.x < a.x) := hso.imp fun {a b} h => by omega
        have hkeys := sorted_keys HI.out hp hso HDIS.out HKEY.out
        have hl1 : es.length = bs.length := by have := congrArg List.length hkeys; simpa using this
        have hl2 : gs.length = bs.length := by rw [← hl1, hp.length_eq, List.length_map]
        have hbel : Below W.heap.size W w' := HB.out.grown hgr HB.out.size (fun k hk => by cases hk; have := HCAP.out.2.2; omega)
        refine ⟨.slice (some ⟨g, 0, none⟩) gs.length cap, rfl, ⟨some ⟨g, 0, none⟩, cap, fun i => if h : i < es.length then (es[i]).enc else [], by rw [hl2], by rw [← hl2]; exact HCAP.out.1, HCAP.out.2.1, fun h0 => ⟨g, 0, rfl, Nat.lt_of_lt_of_le hglt hgr.size, fun i hi j hj => ?_⟩, fun i h => ?_⟩, hbel⟩
        · have hie : i < es.length := by omega
          dsimp only
          rw [dif_pos hie, Nat.zero_add]
          exact hcell i hie j hj
        · have hie : i < es.length := by omega
          dsimp only
          rw [dif_pos hie]
          have hk : (es[i]).x = (bs[i]).1 := by
            have h1 : (es.map (·.x))[i]? = (bs.map (·.1))[i]? := by rw [hkeys]
            simpa [hie, h] using h1
          obtain ⟨p, hpm, hpe⟩ := List.mem_map.1 (hp.subset (List.getElem_mem hie))
          obtain ⟨q, hq, hqe⟩ := List.getElem_of_mem hpm
          have hf := HFND.out p hpm
          rw [hpe, hk, fnd_some HI.out h rfl] at hf
          have ht : (bs[i]).2 = p.2 := Option.some.inj hf.1
          have htc := HTS.out q hq
          rw [hqe] at htc
          refine ⟨(es[i]).cs, ?_, hf.2, ?_⟩
          · rw [← hk]; rfl
          · rw [ht, ← hpe]
            exact (htc.to hgr.size fun b hb hlt => hgr.block b hlt fun e => hb.2 (by rw [e]; rfl)).tc
    · intro x c kl ya yp w1 cnt1 hkey hlk hR hat hrg1 hlt hg1 hs1 hen
      obtain ⟨x', hx', hkl, hwf⟩ := Maps.keyOf_int_inv Tryz.underlying3 hkey
      cases hx'
      subst hkl
      have hy : ya = .held c := by
        have := Option.some.inj hR
        simp only [Prod.mk.injEq] at this
        exact this.1.symm
      subst hy
      have hx64 : i64ok x := bounds_i64 hwf
      rcases HZ.out.at x with ⟨_, h2⟩ | ⟨t, cx, hf, htc, h3⟩
      · have := (h2 .nil).symm.trans (hat .nil)
        cases this
      have hc : c = .agg cx.toArray := by
        have := (h3 .nil).symm.trans (hat .nil)
        simp only [DataW.held.injEq] at this
        exact this.symm
      subst hc
      obtain ⟨k7, v7, st7, ng7, A7, n7, c7, B7, m7, d7, X7, l7, e7, hf7⟩ := htc.form
      subst hf7
      have HF := Lib.hid hf
      have HX := Lib.hid hx64
      have HCALL := Lib.hid (HCL.out t _ htc (HVD.out x t hf))
      have HLK := Lib.hid hlk
      have HLT := Lib.hid hlt
      have HB1 : Hid (Below W.heap.size W w1) := ⟨hg1.os.trans HB.out.os, hg1.tape.trans HB.out.tape, hg1.output.trans HB.out.output, Nat.le_trans HB.out.size hg1.size, fun i hi => (hg1.block i (Nat.lt_of_lt_of_le hi HB.out.size) (by simp; omega)).trans (HB.out.block i hi)⟩
      have HSZ1 : Hid (W.heap.size + 1 ≤ w1.heap.size) := Nat.le_trans HSZ.out hg1.size
      have HOWN1 : Hid (w1.ownsRow (W.heap.size + 1) 51 8 u3 gs.length xs) := HOWN.out.kept hg1 (by
        cases hob : u3.ownBlock with
        | none => exact .inl rfl
        | some g => exact .inr fun e => by have := (Go.World.ownsRow.lt HOWN.out g hob).1; simp at e; omega)
      have HTS1 : Hid (∀ i (h : i < gs.length), TCP (fun b => W.heap.size + 1 ≤ b ∧ some b ≠ u3.ownBlock) w1 (gs[i]).2 (gs[i]).1.cs) := fun i h => (HTS.out i h).grown hg1 fun b hb => by have := hb.1; simp; omega
      clear hf htc h3 hat hkey hwf hR hx64 hlk hlt HB HSZ HOWN HTS hrg hg1 hs1
      have HRG1 := Lib.hid hrg1
      clear hrg1
      go_wp2_with fail
      refine (HCALL.out _ (by exact HWB.out.trans ((HB1.out.trans ((below_one w1 _).mono HB1.out.size)).mono HWB.out.size))).mono ?_
      rintro e w8 ⟨cs8, rfl, ht8, hb8⟩
      obtain ⟨k8, v8, st8, ng8, A8, n8, c8, B8, m8, d8, X8, l8, e8, hf8⟩ := ht8.tc.form
      subst hf8
      have HB8 : Hid (Below w1.heap.size w1 (w8.alloc (.cells #[.int .i64 x, .int .i64 k8, .int .i64 v8, .string st8, .bool ng8, .slice A8 n8 c8, .slice B8 m8 d8, .slice X8 l8 e8] 51))) := ((below_one w1 (.cells #[.int .i64 k7, .int .i64 v7, .string st7, .bool ng7, .slice A7 n7 c7, .slice B7 m7 d7, .slice X7 l7 e7] 27)).trans (hb8.mono (below_one w1 _).size)).trans ((below_one w8 _).mono (Nat.le_trans (below_one w1 (.cells #[.int .i64 k7, .int .i64 v7, .string st7, .bool ng7, .slice A7 n7 c7, .slice B7 m7 d7, .slice X7 l7 e7] 27)).size hb8.size))
      have HRW := Lib.hid (row_to HOWN1.out HB8.out)
      have HNEWS := Lib.hid (World.news_of_block (Blk.new w8 51 #[.int .i64 x, .int .i64 k8, .int .i64 v8, .string st8, .bool ng8, .slice A8 n8 c8, .slice B8 m8 d8, .slice X8 l8 e8]))
      have HONE : Hid (∀ u ∈ [(Value.int .i64 x), (Value.int .i64 k8), (Value.int .i64 v8), (Value.string st8), (Value.bool ng8), (Value.slice A8 n8 c8), (Value.slice B8 m8 d8), (Value.slice X8 l8 e8)], u.oneCell' = true) := fun u hu => by
        simp only [List.mem_cons, List.not_mem_nil, or_false] at hu
        rcases hu with rfl | rfl | rfl | rfl | rfl | rfl | rfl | rfl <;> rfl
      have HOLT : Hid (∀ k, u3.ownBlock = some k → W.heap.size + 1 ≤ k ∧ k < w1.heap.size) := Go.World.ownsRow.lt HOWN1.out
      have HT8 : Hid (TCP (fun b => W.heap.size + 1 ≤ b ∧ some b ≠ u3.ownBlock) (w8.alloc (.cells #[.int .i64 x, .int .i64 k8, .int .i64 v8, .string st8, .bool ng8, .slice A8 n8 c8, .slice B8 m8 d8, .slice X8 l8 e8] 51)) t [.int .i64 k8, .int .i64 v8, .string st8, .bool ng8, .slice A8 n8 c8, .slice B8 m8 d8, .slice X8 l8 e8]) := ((TCP.of_tcf ht8).mono (q := (fun b => W.heap.size + 1 ≤ b ∧ some b ≠ u3.ownBlock)) fun b hb _ => by
        have hb' : (w1.alloc (.cells #[.int .i64 k7, .int .i64 v7, .string st7, .bool ng7, .slice A7 n7 c7, .slice B7 m7 d7, .slice X7 l7 e7] 27)).heap.size + 1 ≤ b := hb
        have hq : w1.heap.size + 1 + 1 ≤ b := by simpa using hb'
        have := HSZ1.out
        exact ⟨by omega, fun e => by have := (HOLT.out b e.symm).2; omega⟩).onto (below_one w8 _)
      have HTA : Hid (∀ i (h : i < gs.length), TCP (fun b => W.heap.size + 1 ≤ b ∧ some b ≠ u3.ownBlock) (w8.alloc (.cells #[.int .i64 x, .int .i64 k8, .int .i64 v8, .string st8, .bool ng8, .slice A8 n8 c8, .slice B8 m8 d8, .slice X8 l8 e8] 51)) (gs[i]).2 (gs[i]).1.cs) := fun i h => (HTS1.out i h).onto HB8.out
      have HRG8 := Lib.hid (HRG1.out.kept (grown_of HB8.out) (by simp) (by simp))
      have HBA : Hid (Below W.heap.size W (w8.alloc (.cells #[.int .i64 x, .int .i64 k8, .int .i64 v8, .string st8, .bool ng8, .slice A8 n8 c8, .slice B8 m8 d8, .slice X8 l8 e8] 51))) := HB1.out.trans (HB8.out.mono HB1.out.size)
      have HKEEP : Hid (∀ w4, (w8.alloc (.cells #[.int .i64 x, .int .i64 k8, .int .i64 v8, .string st8, .bool ng8, .slice A8 n8 c8, .slice B8 m8 d8, .slice X8 l8 e8] 51)).grownBy w4 u3.ownBlock → w4.ranges Tryz.prog 3 RdV ms W.heap.size bs.length (.map (zs.map encZ)) (fun z => left z && !z.sameKey (.int .i64 x)) cnt1 ∧ Below W.heap.size W w4) := fun w4 hg => ⟨HRG8.out.kept hg (fun e => by have := (HOLT.out ms e.symm).1; have := HMS.out; omega) (fun e => by have := (HOLT.out _ e.symm).1; omega), HBA.out.grown hg HBA.out.size (fun k hk => by have := (HOLT.out k hk).1; omega)⟩
      have hgl : gs.length ≤ 1000000 := by have := HLN.out; omega
      have HSZ8 : Hid (W.heap.size + 1 ≤ (w8.alloc (.cells #[.int .i64 x, .int .i64 k8, .int .i64 v8, .string st8, .bool ng8, .slice A8 n8 c8, .slice B8 m8 d8, .slice X8 l8 e8] 51)).heap.size) := Nat.le_trans HSZ1.out HB8.out.size
      clear ht8 hb8 HCALL hen
      go_wp2_with (at_builtin; go_must (refine wpList_append_lies _ rfl _ _ 28 rfl (W.heap.size + 1) 51 i0 (.agg (Value.int .i64 0 :: zt).toArray) 8 120 Tryz.underlying28 HI0.out HZ0.out HZ1.out HZ2.out rfl (by decide) u3 gs.length xs rfl HRW.out ⟨w8.heap.size, 0, none⟩ 1 1 [.int .i64 x, .int .i64 k8, .int .i64 v8, .string st8, .bool ng8, .slice A8 n8 c8, .slice B8 m8 d8, .slice X8 l8 e8] rfl rfl HNEWS.out HONE.out (by decide) (by unfold maxLen; omega) (by omega) (by exact HSZ8.out) _ rfl ?_); intro g cap4 w4 hown hgrow hat hlt4; have HOW4 := Lib.hid hown; have HGR := Lib.hid hgrow; have HAT := Lib.hid hat; have HK4 := Lib.hid (HKEEP.out w4 hgrow); clear hown hgrow hat hlt4)
      go_roundw
      case measure => rw [HK4.out.1.left_eq, HMES.out]; exact HLT.out
      case rel =>
        refine ⟨_, cnt1, gs ++ [((⟨x, k8, v8, st8, ng8, A8, n8, c8, B8, m8, d8, X8, l8, e8⟩ : Bnd), t)], xs ++ [(Value.int .i64 x), (Value.int .i64 k8), (Value.int .i64 v8), (Value.string st8), (Value.bool ng8), (Value.slice A8 n8 c8), (Value.slice B8 m8 d8), (Value.slice X8 l8 e8)], HK4.out.1, by rw [List.length_append]; exact HOW4.out, fun i h q hq => ?_, fun i h => ?_, HG.out.add (p := ((⟨x, k8, v8, st8, ng8, A8, n8, c8, B8, m8, d8, X8, l8, e8⟩ : Bnd), t)) HF.out HX.out HLK.out, by have := HLN.out; have := HLT.out; show _ ≤ _; simp; omega, HK4.out.2, Nat.le_trans HSZ8.out HGR.out.size⟩
        · have hxl : xs.length = gs.length * 8 := HRW.out.1
          rw [List.length_append, List.length_singleton] at h
          by_cases hij : i = gs.length
          · subst hij
            rw [List.getElem?_append_right (by omega), List.getElem_append_right (Nat.le_refl _)]
            simp only [Nat.sub_self, List.getElem_cons_zero]
            show _ = ([.int .i64 x, .int .i64 k8, .int .i64 v8, .string st8, .bool ng8, .slice A8 n8 c8, .slice B8 m8 d8, .slice X8 l8 e8] : List Value)[q]?
            congr 1
            omega
          · rw [List.getElem?_append_left (by omega), List.getElem_append_left (by omega)]
            exact HXS.out i (by omega) q hq
        · rw [List.length_append, List.length_singleton] at h
          by_cases hij : i = gs.length
          · subst hij
            rw [List.getElem_append_right (Nat.le_refl _)]
            simp only [Nat.sub_self, List.getElem_cons_zero]
            exact grow_tcp2 HT8.out HGR.out HAT.out
          · rw [List.getElem_append_left (by omega)]
            exact grow_tcp2 (HTA.out i (by omega)) HGR.out HAT.out
end Go.Proofs.YtkfnpcilanheiaaGreat
