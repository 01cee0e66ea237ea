/- term.replace: variables replaced by what a function tells, in new memory. -/
import Derived.Deep.RegionHeld3
import Derived.Test.YtkfnpcilanheiaaGreatJo10
import Derived.Test.YtkfnpcilanheiaaGreatJo16
set_option linter.unusedVariables false
set_option linter.unusedSimpArgs false
set_option maxRecDepth 100000
namespace Go.Proofs.YtkfnpcilanheiaaGreat
open Go.RowKit NumB
mutual
def Tm.repl (f : Int → Option Tm) : Tm → Tm
  | .mk k v s n args => if k = 1 then (match f v with | some x => x | none => .mk k v s n (replL f args)) else .mk k v s n (replL f args)
def replL (f : Int → Option Tm) : List Tm → List Tm
  | [] => []
  | t :: l => t.repl f :: replL f l
end
theorem replL_len (f : Int → Option Tm) (l : List Tm) : (replL f l).length = l.length := by
  induction l with
  | nil => rw [replL]
  | cons t l ih => rw [replL, List.length_cons, List.length_cons, ih]
theorem replL_get (f : Int → Option Tm) {l : List Tm} {i : Nat} (h : i < l.length) (h' : i < (replL f l).length) : (replL f l)[i] = (l[i]).repl f := by
  induction l generalizing i with
  | nil => cases h
  | cons t l ih =>
    cases i with
    | zero => simp only [replL, List.getElem_cons_zero]
    | succ i =>
      simp only [replL, List.getElem_cons_succ]
      exact ih (by simpa using h) _
set_option maxHeartbeats 12800000 in
theorem replace_tm {w : World} (fby : FuncId) (bc : Nat) (hen : ∀ args w, (callFunc fby args).run Tryz.prog w = .ok (.enter fby args) w) (f : Int → Option Tm) (hsf : ∀ v x, f v = some x → x.sm) (hby : ∀ v W, Below w.heap.size w W → Calls Tryz.prog fby #[.int .i64 v, .pointer (some ⟨bc, 0, none⟩)] W fun e W' => ∃ cx tx, e = .returned (.tuple #[.agg cx.toArray, .bool (f v).isSome]) ∧ TC W' tx cx ∧ (∀ x, f v = some x → tx = x) ∧ Below W.heap.size W W')
    {t : Tm} {cs : List Value} (h : TC w t cs) : t.sm → ∀ (W : World), Below w.heap.size w W →
    Calls Tryz.prog 32 #[.agg cs.toArray, .func (.func fby) #[] #[.pointer (some ⟨bc, 0, none⟩)]] W fun e W' => ∃ cs', e = .returned (.agg cs'.toArray) ∧ TCF (W.heap.size + 1) W' (t.repl f) cs' ∧ Below W.heap.size W W' := by
  have HBY := Lib.hid hby
  have HSF := Lib.hid hsf
  have HEN := Lib.hid hen
  clear hby hsf hen
  induction h with
  | mk k v s n args A B Ar cap cs hk hv hs hA hB hn hcap hm hr ha ih =>
    intro hsm W hW
    rw [Tm.sm] at hsm
    obtain ⟨rs, hrs⟩ : ∃ rs, replL f args = rs := ⟨_, rfl⟩
    have hrl : rs.length = args.length := by rw [← hrs]; exact replL_len f args
    have hrg : ∀ i (h : i < args.length) (h' : i < rs.length), rs[i] = (args[i]).repl f := fun i h h' => by subst hrs; exact replL_get f h h'
    have HCA : Hid (∀ W', Below w.heap.size w W' → Calls Tryz.prog 78 #[A] W' fun e w' => ∃ v, e = .returned v ∧ OwnV .u32 89 w' W'.heap.size v n.num ∧ Below W'.heap.size W' w') := fun W' hb => clone_any n.num A W' (hA.to hb) hsm.1
    have HCB : Hid (∀ W', Below w.heap.size w W' → Calls Tryz.prog 78 #[B] W' fun e w' => ∃ v, e = .returned v ∧ OwnV .u32 89 w' W'.heap.size v n.den ∧ Below W'.heap.size W' w') := fun W' hb => clone_any n.den B W' (hB.to hb) hsm.2.1
    have HMK : Hid (∀ (A' C' : Value) (Ar' : Option Addr) (cap' : Nat) (cs' : Nat → List Value) (B' : Nat) (W' : World), OwnV .u32 89 W' B' A' n.num → OwnV .u32 89 W' B' C' n.den → rs.length ≤ cap' → cap' ≤ maxLen → (0 < rs.length → ∃ b o, Ar' = some ⟨b, o, none⟩ ∧ B' ≤ b ∧ b < W'.heap.size ∧ (∃ arr, Blk W' b 27 arr) ∧ ∀ i, i < rs.length → ∀ j, j < 7 → W'.cell? ⟨b, o + i * 7 + j, none⟩ = (cs' i)[j]?) → (∀ i (h : i < rs.length), TCF B' W' rs[i] (cs' i)) → TCF B' W' (.mk k v s n rs) [.int .i64 k, .int .i64 v, .string s, .bool n.neg, A', C', .slice Ar' rs.length cap']) := fun A' C' Ar' cap' cs' B' W' h1 h2 h3 h4 h5 h6 => .mk k v s n rs A' C' Ar' cap' cs' hk hv hs h1 h2 hn h3 h4 h5 h6
    have IH : Hid (∀ i (h : i < args.length) (h' : i < rs.length) (W : World), Below w.heap.size w W → Calls Tryz.prog 32 #[.agg (cs i).toArray, .func (.func fby) #[] #[.pointer (some ⟨bc, 0, none⟩)]] W fun e W' => ∃ cs', e = .returned (.agg cs'.toArray) ∧ TCF (W.heap.size + 1) W' rs[i] cs' ∧ Below W.heap.size W W') := fun i h h' W hb => by
      rw [hrg i h h']
      exact ih i h (smL_get hsm.2.2.2 h) W hb
    have HRP : Hid ((k = 1 → ∀ x, f v = some x → (Tm.mk k v s n args).repl f = x) ∧ (k = 1 → f v = none → (Tm.mk k v s n args).repl f = .mk k v s n rs) ∧ (k ≠ 1 → (Tm.mk k v s n args).repl f = .mk k v s n rs)) := by
      refine ⟨fun h x hx => ?_, fun h hx => ?_, fun h => ?_⟩
      · rw [Tm.repl, if_pos h, hx]
      · rw [Tm.repl, if_pos h, hx, hrs]
      · rw [Tm.repl, if_neg h, hrs]
    generalize (Tm.mk k v s n args).repl f = rt at *
    have hlb := hsm.2.2.1
    have HR := Lib.hid hr
    have HA := Lib.hid ha
    have HWB := Lib.hid hW
    obtain ⟨A1, q1, rfl, _⟩ := hA
    obtain ⟨B1, q2, rfl, _⟩ := hB
    unfold maxLen at hm
    clear ih hr ha hsm hW hk hv hs hrg hrs
    generalize hnx : n.num = xs at *
    generalize hny : n.den = ys at *
    generalize hnz : n.neg = ng at *
    clear hnx hny hnz hn
    generalize xs.length = m1 at *
    generalize ys.length = m2 at *
    obtain ⟨l, hl⟩ : ∃ l, args.length = l := ⟨_, rfl⟩
    rw [hl] at hcap hlb hrl ⊢
    have HL := Lib.hid hl
    have HLR := Lib.hid hrl
    clear hl hrl
    obtain ⟨i0, hi0, hz0, hz1, hz2⟩ := info_parts info_term
    have HI0 := Lib.hid hi0
    have HZ0 := Lib.hid hz0
    have HZ1 := Lib.hid hz1
    have HZ2 := Lib.hid hz2
    clear hi0 hz0 hz1 hz2
    have HKA5 : Hid (Blk ((W.alloc (.cells #[.int .i64 k, .int .i64 v, .string s, .bool ng, .slice A1 m1 q1, .slice B1 m2 q2, .slice Ar l cap] 27)).alloc (.cells #[.int .i64 0, .int .i64 0, .string ⟨#[]⟩, .bool false, .slice none 0 0, .slice none 0 0, .slice none 0 0] 27)) W.heap.size 27 #[.int .i64 k, .int .i64 v, .string s, .bool ng, .slice A1 m1 q1, .slice B1 m2 q2, .slice Ar l cap]) := (Blk.new W 27 #[.int .i64 k, .int .i64 v, .string s, .bool ng, .slice A1 m1 q1, .slice B1 m2 q2, .slice Ar l cap]).alloc _
    have HB5 : Hid (Below W.heap.size W ((W.alloc (.cells #[.int .i64 k, .int .i64 v, .string s, .bool ng, .slice A1 m1 q1, .slice B1 m2 q2, .slice Ar l cap] 27)).alloc (.cells #[.int .i64 0, .int .i64 0, .string ⟨#[]⟩, .bool false, .slice none 0 0, .slice none 0 0, .slice none 0 0] 27))) := (below_one W (.cells #[.int .i64 k, .int .i64 v, .string s, .bool ng, .slice A1 m1 q1, .slice B1 m2 q2, .slice Ar l cap] 27)).alloc (by simp) (.cells #[.int .i64 0, .int .i64 0, .string ⟨#[]⟩, .bool false, .slice none 0 0, .slice none 0 0, .slice none 0 0] 27)
    have HKR5 : Hid (Blk ((W.alloc (.cells #[.int .i64 k, .int .i64 v, .string s, .bool ng, .slice A1 m1 q1, .slice B1 m2 q2, .slice Ar l cap] 27)).alloc (.cells #[.int .i64 0, .int .i64 0, .string ⟨#[]⟩, .bool false, .slice none 0 0, .slice none 0 0, .slice none 0 0] 27)) (W.heap.size + 1) 27 #[.int .i64 0, .int .i64 0, .string ⟨#[]⟩, .bool false, .slice none 0 0, .slice none 0 0, .slice none 0 0]) := by
      have h := Blk.new (W.alloc (.cells #[.int .i64 k, .int .i64 v, .string s, .bool ng, .slice A1 m1 q1, .slice B1 m2 q2, .slice Ar l cap] 27)) 27 #[.int .i64 0, .int .i64 0, .string ⟨#[]⟩, .bool false, .slice none 0 0, .slice none 0 0, .slice none 0 0]
      rw [show (W.alloc (.cells #[.int .i64 k, .int .i64 v, .string s, .bool ng, .slice A1 m1 q1, .slice B1 m2 q2, .slice Ar l cap] 27)).heap.size = W.heap.size + 1 by simp] at h
      exact h
    go_enter Tryz.func32, Tryz.ntmps32
    by_cases hk1 : k = 1
    · have hkb : (k == 1) = true := by simp [hk1]
      have HK1E := Lib.hid hk1
      clear hk1
      have hen := HEN.out
      have HBV := Lib.hid (HBY.out v)
      cases hfv : f v with
      | some x =>
        rw [hfv] at HBV
        simp only [Option.isSome_some] at HBV
        go_wp2_with fail
        refine (HBV.out _ (by exact HWB.out.trans (HB5.out.mono HWB.out.size))).mono ?_
        rintro e w1 ⟨cx, tx, rfl, htx, hx, hb1⟩
        obtain rfl := hx x rfl
        obtain ⟨k7, v7, s7, n7, A7, a7, c7, B7, b7, d7, X7, x7, e7, hf7⟩ := htx.form
        subst hf7
        have HCX := Lib.hid (fun W' hb => clone_tm htx (HSF.out v _ hfv) W' hb)
        have HB1 : Hid (Below W.heap.size W w1) := HB5.out.trans (hb1.mono HB5.out.size)
        have HK1 := Lib.hid (HKR5.out.to hb1)
        obtain rfl := HRP.out.1 HK1E.out _ hfv
        clear htx hx hb1 hen HBV HB5 HKA5 HKR5 HMK IH HCA HCB HRP hfv HK1E
        go_wp2_with fail
        refine (HCX.out _ (by exact below_one w1 _)).mono ?_
        rintro e w2 ⟨cs8, rfl, ht8, hb8⟩
        obtain ⟨k8, v8, s8, n8, A8, a8, c8, B8, b8, d8, X8, x8, e8, hf8⟩ := ht8.tc.form
        subst hf8
        have HB2 : Hid (Below W.heap.size W w2) := HB1.out.trans (((below_one w1 _).trans (hb8.mono (below_one w1 _).size)).mono HB1.out.size)
        have HK2 := Lib.hid ((HK1.out.to (below_one w1 _)).to hb8)
        have HT8 := Lib.hid (ht8.mono (B' := W.heap.size + 2) (by have := HK1.out.lt; simp; omega))
        clear ht8 hb8 HCX HB1 HK1
        have r0 := HK2.out.cell 0
        have r1 := HK2.out.cell 1
        have r2 := HK2.out.cell 2
        have r3 := HK2.out.cell 3
        have r4 := HK2.out.cell 4
        have r5 := HK2.out.cell 5
        have r6 := HK2.out.cell 6
        simp only [List.getElem?_toArray, List.getElem?_cons_zero, List.getElem?_cons_succ] at r0 r1 r2 r3 r4 r5 r6
        have z0 := HK2.out.frozen 0
        have z1 := HK2.out.frozen 1
        have z2 := HK2.out.frozen 2
        have z3 := HK2.out.frozen 3
        have z4 := HK2.out.frozen 4
        have z5 := HK2.out.frozen 5
        have z6 := HK2.out.frozen 6
        go_wp2_with fail
        refine bodyPost_ret (v := .agg #[.int .i64 k8, .int .i64 v8, .string s8, .bool n8, .slice A8 a8 c8, .slice B8 b8 d8, .slice X8 x8 e8]) (by rw [results_cellT rfl]; go_simp) rfl ?_
        refine ⟨[.int .i64 k8, .int .i64 v8, .string s8, .bool n8, .slice A8 a8 c8, .slice B8 b8 d8, .slice X8 x8 e8], rfl, (HT8.out.to (by simp) fun b hb _ => ?_).mono (Nat.le_succ _), ((((((HB2.out.setCell (Nat.le_succ _) _).setCell (Nat.le_succ _) _).setCell (Nat.le_succ _) _).setCell (Nat.le_succ _) _).setCell (Nat.le_succ _) _).setCell (Nat.le_succ _) _).setCell (Nat.le_succ _) _⟩
        have hbr : b ≠ W.heap.size + 1 := by omega
        repeat rw [Below.heap_setCell _ _ _ b hbr]
      | none =>
        rw [hfv] at HBV
        simp only [Option.isSome_none] at HBV
        go_wp2_with fail
        refine (HBV.out _ (by exact HWB.out.trans (HB5.out.mono HWB.out.size))).mono ?_
        rintro e w1 ⟨cx, tx, rfl, htx, hx, hb1⟩
        obtain ⟨k7, v7, s7, n7, A7, a7, c7, B7, b7, d7, X7, x7, e7, hf7⟩ := htx.form
        subst hf7
        have HB1 : Hid (Below W.heap.size W (w1.alloc (.cells #[.int .i64 k7, .int .i64 v7, .string s7, .bool n7, .slice A7 a7 c7, .slice B7 b7 d7, .slice X7 x7 e7] 27))) := HB5.out.trans ((hb1.trans ((below_one w1 _).mono hb1.size)).mono HB5.out.size)
        have HKA1 := Lib.hid ((HKA5.out.to hb1).to (below_one w1 (.cells #[.int .i64 k7, .int .i64 v7, .string s7, .bool n7, .slice A7 a7 c7, .slice B7 b7 d7, .slice X7 x7 e7] 27)))
        have HKR1 := Lib.hid ((HKR5.out.to hb1).to (below_one w1 (.cells #[.int .i64 k7, .int .i64 v7, .string s7, .bool n7, .slice A7 a7 c7, .slice B7 b7 d7, .slice X7 x7 e7] 27)))
        obtain rfl := HRP.out.2.1 HK1E.out hfv
        clear htx hx hb1 hen HBV HB5 HKA5 HKR5 HRP hfv HK1E HBY
        go_wp2_with fail
        generalize (w1.alloc (.cells #[.int .i64 k7, .int .i64 v7, .string s7, .bool n7, .slice A7 a7 c7, .slice B7 b7 d7, .slice X7 x7 e7] 27)) = W5 at *
        have HKA : Hid (Blk W5.drew W.heap.size 27 #[.int .i64 k, .int .i64 v, .string s, .bool ng, .slice A1 m1 q1, .slice B1 m2 q2, .slice Ar l cap]) := HKA1.out.drew
        have HT0 : Hid (W.heap.size < W5.drew.heap.size) := HKA.out.lt
        have HB0 : Hid (Below W.heap.size W W5.drew) := HB1.out.drew
        have HKR : Hid (Blk W5.drew (W.heap.size + 1) 27 #[.int .i64 0, .int .i64 0, .string ⟨#[]⟩, .bool false, .slice none 0 0, .slice none 0 0, .slice none 0 0]) := HKR1.out.drew
        have HWK : Hid (∀ W', Kept (fun k => k = W.heap.size) W5.drew W' → Below w.heap.size w W') := fun W' hk => HWB.out.trans ((HB0.out.trans (hk.below HB0.out.size fun k hk => by omega)).mono HWB.out.size)
        clear HKA1 HKR1 HB1
        refine wp_region_held_drew (S := fun _ => True) (by kernel_rfl) trivial (fun hHeld => ?_)
        (refine wpAnyH_take (i := 0) (v := ?_) rfl (by kernel_rfl) (by kernel_rfl) (by kernel_rfl) (fun _ _ _ h => h) (Or.inl ⟨by kernel_rfl, ?_⟩) (by assumption) ?_; rotate_left; ((intro w hSw; (try dsimp only at hSw); go_simp) <;> (with_reducible rfl)); (try (simp only [Act.put, List.setIfInBounds_toArray, List.set_cons_succ, List.set_cons_zero, List.getElem_toArray, List.getElem_cons_succ, List.getElem_cons_zero])))
        (refine wpAnyH_take (i := 1) (v := ?_) rfl (by kernel_rfl) (by kernel_rfl) (by kernel_rfl) (fun _ _ _ h => h) (Or.inl ⟨by kernel_rfl, ?_⟩) (by assumption) ?_; rotate_left; ((intro w hSw; (try dsimp only at hSw); go_simp) <;> (with_reducible rfl)); (try (simp only [Act.put, List.setIfInBounds_toArray, List.set_cons_succ, List.set_cons_zero, List.getElem_toArray, List.getElem_cons_succ, List.getElem_cons_zero])))
        (refine wpAnyH_take (i := 4) (v := ?_) rfl (by kernel_rfl) (by kernel_rfl) (by kernel_rfl) (fun _ _ _ h => h) (Or.inl ⟨by kernel_rfl, ?_⟩) (by assumption) ?_; rotate_left; ((intro w hSw; (try dsimp only at hSw); go_simp) <;> (with_reducible rfl)); (try (simp only [Act.put, List.setIfInBounds_toArray, List.set_cons_succ, List.set_cons_zero, List.getElem_toArray, List.getElem_cons_succ, List.getElem_cons_zero])))
        (refine wpAnyH_take (i := 5) (v := ?_) rfl (by kernel_rfl) (by kernel_rfl) (by kernel_rfl) (fun _ _ _ h => h) (Or.inl ⟨by kernel_rfl, ?_⟩) (by assumption) ?_; rotate_left; ((intro w hSw; (try dsimp only at hSw); go_simp) <;> (with_reducible rfl)); (try (simp only [Act.put, List.setIfInBounds_toArray, List.set_cons_succ, List.set_cons_zero, List.getElem_toArray, List.getElem_cons_succ, List.getElem_cons_zero])))
        refine wpAnyH_inv0 [2, 3, 6, 7, 8, 9, 10, 11, 12, 13] (fun aa L a W' => ∃ s8 s9 s12 s13 s14 s15 s16 s17, a = ((((((((aa.put (some 25) s8).put (some 26) s9).put (some 29) s12).put (some 30) s13).put (some 31) s14).put (some 32) s15).put (some 33) s16).put (some 34) s17) ∧ CloInv W5.drew W.heap.size (.int .i64 k) (.int .i64 v) (.string s) (.bool ng) (.slice A1 m1 q1) (.slice B1 m2 q2) (.slice Ar l cap) xs ys L s8 s9 s12 s13 s14 s15 s16 s17 W') (by kernel_rfl) (by kernel_rfl) (by decide) (by kernel_rfl) ?hS ?init ?steps ?done
        case hS => exact fun _ _ _ _ => trivial
        case init =>
          refine ⟨undef, undef, undef, undef, undef, undef, undef, undef, (by simp only [Act.put, List.setIfInBounds_toArray, List.set_cons_succ, List.set_cons_zero]), ⟨Kept.refl _ _, HT0.out⟩, HKA.out, ?_, ?_, ?_, ?_, ?_, ?_, ?_, ?_, ?_, ?_⟩ <;> (intro h; exact absurd h (by decide))
        case steps =>
          refine Steps.cons (i := 2) rfl ?_ (Steps.cons (i := 3) rfl ?_ (Steps.cons (i := 6) rfl ?_ (Steps.cons (i := 7) rfl ?_ (Steps.cons (i := 8) rfl ?_ (Steps.cons (i := 9) rfl ?_ (Steps.cons (i := 10) rfl ?_ (Steps.cons (i := 11) rfl ?_ (Steps.cons (i := 12) rfl ?_ (Steps.cons (i := 13) rfl ?_ Steps.nil)))))))))
          · rintro L a W' ⟨s8, s9, s12, s13, s14, s15, s16, s17, rfl, hI⟩ hL hdep K hK
            have HI := Lib.hid hI
            have HL := Lib.hid hL
            clear hI
            simp only [Act.put, List.setIfInBounds_toArray, List.set_cons_succ, List.set_cons_zero]
            clear hL hdep
            have c4 := HI.out.cell4 HL.out
            go_simp
            exact hK.out _ _ ⟨.slice A1 m1 q1, s9, s12, s13, s14, s15, s16, s17, (by simp only [Act.put, List.setIfInBounds_toArray, List.set_cons_succ, List.set_cons_zero]), HI.out.load2⟩
          · rintro L a W' ⟨s8, s9, s12, s13, s14, s15, s16, s17, rfl, hI⟩ hL hdep K hK
            have HI := Lib.hid hI
            have HL := Lib.hid hL
            clear hI
            simp only [Act.put, List.setIfInBounds_toArray, List.set_cons_succ, List.set_cons_zero]
            have hd : L 2 = true := by simp [Region.binds] at hdep; simp [hdep]
            have HD := Lib.hid hd
            clear hd hL hdep
            obtain rfl := HI.out.2.2.1 HD.out
            go_simp
            refine (HCA.out _ (by exact HWK.out _ HI.out.1.1)).mono ?_
            rintro e w1 ⟨v1, rfl, hv1, hb1⟩
            have hT := HI.out.1.1.size
            exact hK.out _ _ ⟨.slice A1 m1 q1, v1, s12, s13, s14, s15, s16, s17, (by simp only [Act.put, List.setIfInBounds_toArray, List.set_cons_succ, List.set_cons_zero]), HI.out.call3 HL.out hb1 (Joins.ownsRow_le hv1 hT)⟩
          · rintro L a W' ⟨s8, s9, s12, s13, s14, s15, s16, s17, rfl, hI⟩ hL hdep K hK
            have HI := Lib.hid hI
            have HL := Lib.hid hL
            clear hI
            simp only [Act.put, List.setIfInBounds_toArray, List.set_cons_succ, List.set_cons_zero]
            clear hL hdep
            have c5 := HI.out.cell5 HL.out
            go_simp
            exact hK.out _ _ ⟨s8, s9, .slice B1 m2 q2, s13, s14, s15, s16, s17, (by simp only [Act.put, List.setIfInBounds_toArray, List.set_cons_succ, List.set_cons_zero]), HI.out.load6⟩
          · rintro L a W' ⟨s8, s9, s12, s13, s14, s15, s16, s17, rfl, hI⟩ hL hdep K hK
            have HI := Lib.hid hI
            have HL := Lib.hid hL
            clear hI
            simp only [Act.put, List.setIfInBounds_toArray, List.set_cons_succ, List.set_cons_zero]
            have hd : L 6 = true := by simp [Region.binds] at hdep; simp [hdep]
            have HD := Lib.hid hd
            clear hd hL hdep
            obtain rfl := HI.out.2.2.2.1 HD.out
            go_simp
            refine (HCB.out _ (by exact HWK.out _ HI.out.1.1)).mono ?_
            rintro e w1 ⟨v1, rfl, hv1, hb1⟩
            have hT := HI.out.1.1.size
            exact hK.out _ _ ⟨s8, s9, .slice B1 m2 q2, v1, s14, s15, s16, s17, (by simp only [Act.put, List.setIfInBounds_toArray, List.set_cons_succ, List.set_cons_zero]), HI.out.call7 HL.out hb1 (Joins.ownsRow_le hv1 hT)⟩
          · rintro L a W' ⟨s8, s9, s12, s13, s14, s15, s16, s17, rfl, hI⟩ hL hdep K hK
            have HI := Lib.hid hI
            have HL := Lib.hid hL
            clear hI
            simp only [Act.put, List.setIfInBounds_toArray, List.set_cons_succ, List.set_cons_zero]
            clear hL hdep
            go_simp
            exact hK.out _ _ ⟨s8, s9, s12, s13, .pointer (some ⟨W.heap.size, 3, none⟩), s15, s16, s17, (by simp only [Act.put, List.setIfInBounds_toArray, List.set_cons_succ, List.set_cons_zero]), HI.out.addr8⟩
          · rintro L a W' ⟨s8, s9, s12, s13, s14, s15, s16, s17, rfl, hI⟩ hL hdep K hK
            have HI := Lib.hid hI
            have HL := Lib.hid hL
            clear hI
            simp only [Act.put, List.setIfInBounds_toArray, List.set_cons_succ, List.set_cons_zero]
            have hd : L 8 = true := by simp [Region.binds] at hdep; simp [hdep]
            have HD := Lib.hid hd
            clear hd hL hdep
            obtain rfl := HI.out.2.2.2.2.2.2.1 HD.out
            go_simp
            exact hK.out _ _ ⟨s8, s9, s12, s13, .pointer (some ⟨W.heap.size, 3, none⟩), .pointer (some ⟨W.heap.size, 4, none⟩), s16, s17, (by simp only [Act.put, List.setIfInBounds_toArray, List.set_cons_succ, List.set_cons_zero]), HI.out.addr9⟩
          · rintro L a W' ⟨s8, s9, s12, s13, s14, s15, s16, s17, rfl, hI⟩ hL hdep K hK
            have HI := Lib.hid hI
            have HL := Lib.hid hL
            clear hI
            simp only [Act.put, List.setIfInBounds_toArray, List.set_cons_succ, List.set_cons_zero]
            have hd : L 9 = true ∧ L 3 = true ∧ L 2 = true := by simp [Region.binds] at hdep; simp [hdep]
            have HD := Lib.hid hd
            clear hd hL hdep
            obtain rfl := HI.out.2.2.2.2.2.2.2.1 HD.out.1
            obtain ⟨A9, c9, rfl⟩ := row_slice (HI.out.2.2.2.2.1 HD.out.2.1)
            have f4 := HI.out.2.1.frozen 4
            have hT := HI.out.2.1.lt
            have k4 := HI.out.2.1.cell 4
            simp only [List.getElem?_toArray, List.getElem?_cons_zero, List.getElem?_cons_succ] at k4
            go_simp
            exact hK.out _ _ ⟨s8, .slice A9 xs.length c9, s12, s13, s14, .pointer (some ⟨W.heap.size, 4, none⟩), s16, s17, (by simp only [Act.put, List.setIfInBounds_toArray, List.set_cons_succ, List.set_cons_zero]), HI.out.store10 HD.out.2.2 HD.out.2.1⟩
          · rintro L a W' ⟨s8, s9, s12, s13, s14, s15, s16, s17, rfl, hI⟩ hL hdep K hK
            have HI := Lib.hid hI
            have HL := Lib.hid hL
            clear hI
            simp only [Act.put, List.setIfInBounds_toArray, List.set_cons_succ, List.set_cons_zero]
            clear hL hdep
            go_simp
            exact hK.out _ _ ⟨s8, s9, s12, s13, s14, s15, .pointer (some ⟨W.heap.size, 3, none⟩), s17, (by simp only [Act.put, List.setIfInBounds_toArray, List.set_cons_succ, List.set_cons_zero]), HI.out.addr11⟩
          · rintro L a W' ⟨s8, s9, s12, s13, s14, s15, s16, s17, rfl, hI⟩ hL hdep K hK
            have HI := Lib.hid hI
            have HL := Lib.hid hL
            clear hI
            simp only [Act.put, List.setIfInBounds_toArray, List.set_cons_succ, List.set_cons_zero]
            have hd : L 11 = true := by simp [Region.binds] at hdep; simp [hdep]
            have HD := Lib.hid hd
            clear hd hL hdep
            obtain rfl := HI.out.2.2.2.2.2.2.2.2.1 HD.out
            go_simp
            exact hK.out _ _ ⟨s8, s9, s12, s13, s14, s15, .pointer (some ⟨W.heap.size, 3, none⟩), .pointer (some ⟨W.heap.size, 5, none⟩), (by simp only [Act.put, List.setIfInBounds_toArray, List.set_cons_succ, List.set_cons_zero]), HI.out.addr12⟩
          · rintro L a W' ⟨s8, s9, s12, s13, s14, s15, s16, s17, rfl, hI⟩ hL hdep K hK
            have HI := Lib.hid hI
            have HL := Lib.hid hL
            clear hI
            simp only [Act.put, List.setIfInBounds_toArray, List.set_cons_succ, List.set_cons_zero]
            have hd : L 12 = true ∧ L 7 = true ∧ L 6 = true := by simp [Region.binds] at hdep; simp [hdep]
            have HD := Lib.hid hd
            clear hd hL hdep
            obtain rfl := HI.out.2.2.2.2.2.2.2.2.2.1 HD.out.1
            obtain ⟨A9, c9, rfl⟩ := row_slice (HI.out.2.2.2.2.2.1 HD.out.2.1)
            have f5 := HI.out.2.1.frozen 5
            have hT := HI.out.2.1.lt
            have k5 := HI.out.2.1.cell 5
            simp only [List.getElem?_toArray, List.getElem?_cons_zero, List.getElem?_cons_succ] at k5
            go_simp
            exact hK.out _ _ ⟨s8, s9, s12, .slice A9 ys.length c9, s14, s15, s16, .pointer (some ⟨W.heap.size, 5, none⟩), (by simp only [Act.put, List.setIfInBounds_toArray, List.set_cons_succ, List.set_cons_zero]), HI.out.store13 HD.out.2.2 HD.out.2.1⟩
        case done =>
          rintro L a W1 ⟨s8, s9, s12, s13, s14, s15, s16, s17, rfl, hI⟩ hall
          simp only [Act.put, List.setIfInBounds_toArray, List.set_cons_succ, List.set_cons_zero]
          obtain ⟨hk1, hkT, ho9, ho13⟩ := hI.done hall
          obtain ⟨A9, c9, rfl⟩ := row_slice ho9
          obtain ⟨A13, c13, rfl⟩ := row_slice ho13
          have KR := Lib.hid (hk1.blk HKR.out (by omega))
          have KT := Lib.hid hkT
          have HK1 := Lib.hid hk1
          have O9 := Lib.hid ho9
          have O13 := Lib.hid ho13
          have HB1 : Hid (Below W.heap.size W W1) := HB0.out.trans (hk1.below HB0.out.size fun k hk => by omega)
          clear hI hall hHeld hk1 hkT ho9 ho13
          have t0 := KT.out.cell 0
          have t1 := KT.out.cell 1
          have t2 := KT.out.cell 2
          have t3 := KT.out.cell 3
          have t4 := KT.out.cell 4
          have t5 := KT.out.cell 5
          have t6 := KT.out.cell 6
          simp only [List.getElem?_toArray, List.getElem?_cons_zero, List.getElem?_cons_succ] at t0 t1 t2 t3 t4 t5 t6
          have y6 := KT.out.frozen 6
          have r0 := KR.out.cell 0
          have r1 := KR.out.cell 1
          have r2 := KR.out.cell 2
          have r3 := KR.out.cell 3
          have r4 := KR.out.cell 4
          have r5 := KR.out.cell 5
          have r6 := KR.out.cell 6
          simp only [List.getElem?_toArray, List.getElem?_cons_zero, List.getElem?_cons_succ] at r0 r1 r2 r3 r4 r5 r6
          have z0 := KR.out.frozen 0
          have z1 := KR.out.frozen 1
          have z2 := KR.out.frozen 2
          have z3 := KR.out.frozen 3
          have z4 := KR.out.frozen 4
          have z5 := KR.out.frozen 5
          have z6 := KR.out.frozen 6
          have hW2 : W.heap.size + 1 < (W5.drew).heap.size := HKR.out.lt
          have HN2 := Lib.hid hW2
          clear hW2
          by_cases hl0 : l = 0
          · subst hl0
            go_wp2_with fail
            refine bodyPost_ret (v := .agg #[.int .i64 k, .int .i64 v, .string s, .bool ng, .slice A9 xs.length c9, .slice A13 ys.length c13, .slice none 0 0]) (by rw [results_cellT rfl]; go_simp) rfl ?_
            have far : ∀ (Wx : World) (g i : Nat) (u v' : Value) (n' : Nat) (zs : List Value), g ≤ W.heap.size + 1 → Wx.ownsRow W5.drew.heap.size 89 1 v' n' zs → (Wx.setCell ⟨g, i, none⟩ u).ownsRow W5.drew.heap.size 89 1 v' n' zs := fun Wx g i u v' n' zs hg hr => row_set hr (by have := HN2.out; omega)
            have hle : W.heap.size + 1 ≤ W5.drew.heap.size := by have := HN2.out; omega
            have hz := fun (Wf : World) (h9 : OwnV .u32 89 Wf (W.heap.size + 1) (.slice A9 xs.length c9) xs) (h13 : OwnV .u32 89 Wf (W.heap.size + 1) (.slice A13 ys.length c13) ys) => HMK.out (.slice A9 xs.length c9) (.slice A13 ys.length c13) none 0 (fun _ => []) (W.heap.size + 1) Wf h9 h13 (by rw [HLR.out]; exact Nat.le_refl _) (by unfold maxLen; omega) (fun h => absurd h (by rw [HLR.out]; omega)) (fun i h => absurd h (by rw [HLR.out]; omega))
            simp only [HLR.out] at hz
            refine ⟨_, rfl, hz _ (Joins.ownsRow_le (far _ _ _ _ _ _ _ (Nat.le_refl _) (far _ _ _ _ _ _ _ (Nat.le_refl _) (far _ _ _ _ _ _ _ (Nat.le_refl _) (far _ _ _ _ _ _ _ (Nat.le_refl _) (far _ _ _ _ _ _ _ (Nat.le_refl _) (far _ _ _ _ _ _ _ (Nat.le_refl _) (far _ _ _ _ _ _ _ (Nat.le_refl _) (far _ _ _ _ _ _ _ (Nat.le_succ _) O9.out)))))))) hle) (Joins.ownsRow_le (far _ _ _ _ _ _ _ (Nat.le_refl _) (far _ _ _ _ _ _ _ (Nat.le_refl _) (far _ _ _ _ _ _ _ (Nat.le_refl _) (far _ _ _ _ _ _ _ (Nat.le_refl _) (far _ _ _ _ _ _ _ (Nat.le_refl _) (far _ _ _ _ _ _ _ (Nat.le_refl _) (far _ _ _ _ _ _ _ (Nat.le_refl _) (far _ _ _ _ _ _ _ (Nat.le_succ _) O13.out)))))))) hle), ?_⟩
            exact (((((((HB1.out.setCell (Nat.le_refl _) _).setCell (Nat.le_succ _) _).setCell (Nat.le_succ _) _).setCell (Nat.le_succ _) _).setCell (Nat.le_succ _) _).setCell (Nat.le_succ _) _).setCell (Nat.le_succ _) _).setCell (Nat.le_succ _) _
          · have hl1 : ((l : Int) == 0) = false := beq_eq_false_iff_ne.2 (by omega)
            clear r0 r1 r2 r3 r4 r5 r6 z0 z1 z2 z3 z4 z5 z6
            go_wp2_with (at_make; refine wpList_make_full _ rfl _ _ 25 rfl W1.heap.size 27 i0 (.agg zt.toArray) 7 Tryz.underlying25 HI0.out HZ0.out HZ1.out .i64 .i64 _ _ l rfl rfl (by omega) (by omega) (by rw [HZ2.out]; omega) (by unfold maxLen; omega) (Nat.le_refl _) ?_; intro w2 hown2 hg2; have HB2 : Hid (Below W1.heap.size W1 w2) := (Below.refl _ _).grown hg2 (Nat.le_refl _) (by simp); have KT2 := Lib.hid (KT.out.to HB2.out); have d6 := KT2.out.cell 6; simp only [List.getElem?_toArray, List.getElem?_cons_zero, List.getElem?_cons_succ] at d6; have HARR := Lib.hid (row_blk hown2); clear hown2 hg2)
            have HWW : Hid (Below w.heap.size w W1) := HWK.out _ HK1.out
            go_loopg [48] l (fun gk s48 wr => ∃ (j : Nat) (arr : Array Value) (vals : Nat → List Value), gk + j = l ∧ s48 = .int .i64 (j : Int) ∧ Hid (Blk wr W1.heap.size 27 arr) ∧ arr.size = l * 7 ∧ Hid (Below W1.heap.size W1 wr) ∧ Hid (∀ i, i < j → ∀ q, q < 7 → arr[i * 7 + q]? = (vals i)[q]?) ∧ Hid (∀ i (h : i < rs.length), i < j → TCF (W1.heap.size + 1) wr rs[i] (vals i)))
            case atStart =>
              obtain ⟨arr, h1, h2⟩ := HARR.out
              exact ⟨0, arr, fun _ => [], by omega, rfl, h1, h2, HB2.out, fun i hi => absurd hi (by omega), fun i _ hi => absurd hi (by omega)⟩
            case round =>
              obtain ⟨j, arr, vals, hgj, rfl, HG, hsz, HB, HV, HT⟩ := hrel
              by_cases hj : j < l
              · have hja : j < args.length := by rw [HL.out]; exact hj
                have HBW := HWW.out.trans (HB.out.mono HWW.out.size)
                obtain ⟨b, o, k', v', s', ng', A2, n2, c2, B2, m3, d2, Xr, xl, xc, hAr, hcs, hlt, e0, e1, e2, e3, e4, e5, e6⟩ := arg_cells HR.out HA.out HBW hja
                subst hAr
                have hjr : j < rs.length := by rw [HLR.out]; exact hj
                have HCALL := IH.out j hja hjr (wr.alloc (.cells #[.int .i64 k', .int .i64 v', .string s', .bool ng', .slice A2 n2 c2, .slice B2 m3 d2, .slice Xr xl xc] 27)) (HBW.trans ((below_one wr (.cells #[.int .i64 k', .int .i64 v', .string s', .bool ng', .slice A2 n2 c2, .slice B2 m3 d2, .slice Xr xl xc] 27)).mono HBW.size))
                rw [hcs] at HCALL
                have HCALL := Lib.hid HCALL
                go_wp2_with fail
                refine HCALL.out.mono ?_
                rintro e w3 ⟨cs5, rfl, ht5, hb5⟩
                obtain ⟨k5, v5, s5, ng5, A5, n5, c5, B5, m5, d5, X5, l5, xc5, hf5⟩ := ht5.tc.form
                subst hf5
                have HA3 := Lib.hid ((below_one wr (.cells #[.int .i64 k', .int .i64 v', .string s', .bool ng', .slice A2 n2 c2, .slice B2 m3 d2, .slice Xr xl xc] 27)).trans (hb5.mono (below_one wr (.cells #[.int .i64 k', .int .i64 v', .string s', .bool ng', .slice A2 n2 c2, .slice B2 m3 d2, .slice Xr xl xc] 27)).size))
                have HB3 := Lib.hid (HB.out.trans (HA3.out.mono HB.out.size))
                have HG3 := Lib.hid (HG.out.to HA3.out)
                have H5 : Hid (TCF (W1.heap.size + 1) w3 rs[j] _) := ht5.mono (by have := HB.out.size; simp; omega)
                clear ht5 hb5 HCALL e0 e1 e2 e3 e4 e5 e6 hcs
                obtain ⟨x0, hx0⟩ : ∃ x, w3.cell? ⟨W1.heap.size, j * 7, none⟩ = some x := ⟨arr[j * 7]'(by omega), by rw [HG3.out.cell]; exact Array.getElem?_eq_getElem (by omega)⟩
                have fx0 := HG3.out.frozen (j * 7)
                obtain ⟨x1, hx1⟩ : ∃ x, w3.cell? ⟨W1.heap.size, j * 7 + 1, none⟩ = some x := ⟨arr[j * 7 + 1]'(by omega), by rw [HG3.out.cell]; exact Array.getElem?_eq_getElem (by omega)⟩
                have fx1 := HG3.out.frozen (j * 7 + 1)
                obtain ⟨x2, hx2⟩ : ∃ x, w3.cell? ⟨W1.heap.size, j * 7 + 2, none⟩ = some x := ⟨arr[j * 7 + 2]'(by omega), by rw [HG3.out.cell]; exact Array.getElem?_eq_getElem (by omega)⟩
                have fx2 := HG3.out.frozen (j * 7 + 2)
                obtain ⟨x3, hx3⟩ : ∃ x, w3.cell? ⟨W1.heap.size, j * 7 + 3, none⟩ = some x := ⟨arr[j * 7 + 3]'(by omega), by rw [HG3.out.cell]; exact Array.getElem?_eq_getElem (by omega)⟩
                have fx3 := HG3.out.frozen (j * 7 + 3)
                obtain ⟨x4, hx4⟩ : ∃ x, w3.cell? ⟨W1.heap.size, j * 7 + 4, none⟩ = some x := ⟨arr[j * 7 + 4]'(by omega), by rw [HG3.out.cell]; exact Array.getElem?_eq_getElem (by omega)⟩
                have fx4 := HG3.out.frozen (j * 7 + 4)
                obtain ⟨x5, hx5⟩ : ∃ x, w3.cell? ⟨W1.heap.size, j * 7 + 5, none⟩ = some x := ⟨arr[j * 7 + 5]'(by omega), by rw [HG3.out.cell]; exact Array.getElem?_eq_getElem (by omega)⟩
                have fx5 := HG3.out.frozen (j * 7 + 5)
                obtain ⟨x6, hx6⟩ : ∃ x, w3.cell? ⟨W1.heap.size, j * 7 + 6, none⟩ = some x := ⟨arr[j * 7 + 6]'(by omega), by rw [HG3.out.cell]; exact Array.getElem?_eq_getElem (by omega)⟩
                have fx6 := HG3.out.frozen (j * 7 + 6)
                go_wp2_with fail
                go_roundg (gk - 1)
                case measure => omega
                case rel =>
                  have keep : ∀ (t : Tm) (c : List Value), TCF (W1.heap.size + 1) w3 t c → TCF (W1.heap.size + 1) (((((((w3.setCell ⟨W1.heap.size, j * 7, none⟩ (.int .i64 k5)).setCell ⟨W1.heap.size, j * 7 + 1, none⟩ (.int .i64 v5)).setCell ⟨W1.heap.size, j * 7 + 2, none⟩ (.string s5)).setCell ⟨W1.heap.size, j * 7 + 3, none⟩ (.bool ng5)).setCell ⟨W1.heap.size, j * 7 + 4, none⟩ (.slice A5 n5 c5)).setCell ⟨W1.heap.size, j * 7 + 5, none⟩ (.slice B5 m5 d5)).setCell ⟨W1.heap.size, j * 7 + 6, none⟩ (.slice X5 l5 xc5)) t c := fun t c ht => ht.to (by simp) (fun b hb _ => (Below.heap_setCell _ ⟨W1.heap.size, j * 7 + 6, none⟩ _ b (show b ≠ W1.heap.size by omega)).trans ((Below.heap_setCell _ ⟨W1.heap.size, j * 7 + 5, none⟩ _ b (show b ≠ W1.heap.size by omega)).trans ((Below.heap_setCell _ ⟨W1.heap.size, j * 7 + 4, none⟩ _ b (show b ≠ W1.heap.size by omega)).trans ((Below.heap_setCell _ ⟨W1.heap.size, j * 7 + 3, none⟩ _ b (show b ≠ W1.heap.size by omega)).trans ((Below.heap_setCell _ ⟨W1.heap.size, j * 7 + 2, none⟩ _ b (show b ≠ W1.heap.size by omega)).trans ((Below.heap_setCell _ ⟨W1.heap.size, j * 7 + 1, none⟩ _ b (show b ≠ W1.heap.size by omega)).trans ((Below.heap_setCell _ ⟨W1.heap.size, j * 7, none⟩ _ b (show b ≠ W1.heap.size by omega)).trans (rfl))))))))
                  refine ⟨j + 1, (((((((arr.setIfInBounds (j * 7) (.int .i64 k5)).setIfInBounds (j * 7 + 1) (.int .i64 v5)).setIfInBounds (j * 7 + 2) (.string s5)).setIfInBounds (j * 7 + 3) (.bool ng5)).setIfInBounds (j * 7 + 4) (.slice A5 n5 c5)).setIfInBounds (j * 7 + 5) (.slice B5 m5 d5)).setIfInBounds (j * 7 + 6) (.slice X5 l5 xc5)), fun i => if i = j then [.int .i64 k5, .int .i64 v5, .string s5, .bool ng5, .slice A5 n5 c5, .slice B5 m5 d5, .slice X5 l5 xc5] else vals i, by omega, by go_num, (((((((HG3.out.set_ (j * 7) (.int .i64 k5)).set_ (j * 7 + 1) (.int .i64 v5)).set_ (j * 7 + 2) (.string s5)).set_ (j * 7 + 3) (.bool ng5)).set_ (j * 7 + 4) (.slice A5 n5 c5)).set_ (j * 7 + 5) (.slice B5 m5 d5)).set_ (j * 7 + 6) (.slice X5 l5 xc5)), by simp; omega, (((((((HB3.out.setCell (Nat.le_refl _) _).setCell (Nat.le_refl _) _).setCell (Nat.le_refl _) _).setCell (Nat.le_refl _) _).setCell (Nat.le_refl _) _).setCell (Nat.le_refl _) _).setCell (Nat.le_refl _) _), fun i hi q hq => ?_, fun i h hi => ?_⟩
                  · by_cases hij : i = j
                    · subst hij
                      have h7 : q = 0 ∨ q = 1 ∨ q = 2 ∨ q = 3 ∨ q = 4 ∨ q = 5 ∨ q = 6 := by omega
                      rcases h7 with rfl | rfl | rfl | rfl | rfl | rfl | rfl <;> simp [Array.getElem?_setIfInBounds] <;> omega
                    · have hi2 : i < j := by omega
                      dsimp only
                      rw [if_neg hij, ← HV.out i hi2 q hq]
                      simp only [Array.getElem?_setIfInBounds]
                      repeat rw [if_neg (by omega)]
                  · by_cases hij : i = j
                    · subst hij
                      dsimp only
                      rw [if_pos rfl]
                      exact keep _ _ H5.out
                    · dsimp only
                      rw [if_neg hij]
                      exact keep _ _ ((HT.out i h (by omega)).to HA3.out.size (fun b _ hb => HA3.out.block b hb))
              · have hjl : j = l := by omega
                have KTr := KT.out.to HB.out
                have KRr := KR.out.to HB.out
                have d0q := KTr.cell 0
                have d1q := KTr.cell 1
                have d2q := KTr.cell 2
                have d3q := KTr.cell 3
                have d4q := KTr.cell 4
                have d5q := KTr.cell 5
                have d6q := KTr.cell 6
                simp only [List.getElem?_toArray, List.getElem?_cons_zero, List.getElem?_cons_succ] at d0q d1q d2q d3q d4q d5q d6q
                have y6q := KTr.frozen 6
                have r0 := KRr.cell 0
                have r1 := KRr.cell 1
                have r2 := KRr.cell 2
                have r3 := KRr.cell 3
                have r4 := KRr.cell 4
                have r5 := KRr.cell 5
                have r6 := KRr.cell 6
                simp only [List.getElem?_toArray, List.getElem?_cons_zero, List.getElem?_cons_succ] at r0 r1 r2 r3 r4 r5 r6
                have z0 := KRr.frozen 0
                have z1 := KRr.frozen 1
                have z2 := KRr.frozen 2
                have z3 := KRr.frozen 3
                have z4 := KRr.frozen 4
                have z5 := KRr.frozen 5
                have z6 := KRr.frozen 6
                have hs1 := HK1.out.size
                have hs2 := HB.out.size
                have hs3 := HN2.out
                have HG0 := HG.out.lt
                clear KTr KRr t0 t1 t2 t3 t4 t5 t6
                go_wp2_with fail
                refine bodyPost_ret (v := .agg #[.int .i64 k, .int .i64 v, .string s, .bool ng, .slice A9 xs.length c9, .slice A13 ys.length c13, .slice (some ⟨W1.heap.size, 0, none⟩) l l]) (by rw [results_cellT rfl]; go_simp) rfl ?_
                have far : ∀ (Wx : World) (g i : Nat) (u v' : Value) (n' : Nat) (zs : List Value), g ≤ W.heap.size + 1 → Wx.ownsRow W5.drew.heap.size 89 1 v' n' zs → (Wx.setCell ⟨g, i, none⟩ u).ownsRow W5.drew.heap.size 89 1 v' n' zs := fun Wx g i u v' n' zs hg hr => row_set hr (by omega)
                have hle : W.heap.size + 1 ≤ W5.drew.heap.size := by omega
                have hWf : ∀ b, W.heap.size + 1 < b → ((((((((wr.setCell ⟨W.heap.size, 6, none⟩ (.slice (some ⟨W1.heap.size, 0, none⟩) l l)).setCell ⟨W.heap.size + 1, 0, none⟩ (.int .i64 k)).setCell ⟨W.heap.size + 1, 1, none⟩ (.int .i64 v)).setCell ⟨W.heap.size + 1, 2, none⟩ (.string s)).setCell ⟨W.heap.size + 1, 3, none⟩ (.bool ng)).setCell ⟨W.heap.size + 1, 4, none⟩ (.slice A9 xs.length c9)).setCell ⟨W.heap.size + 1, 5, none⟩ (.slice A13 ys.length c13)).setCell ⟨W.heap.size + 1, 6, none⟩ (.slice (some ⟨W1.heap.size, 0, none⟩) l l)).heap[b]? = wr.heap[b]? := fun b hb => (Below.heap_setCell _ ⟨W.heap.size + 1, 6, none⟩ _ b (show b ≠ W.heap.size + 1 by omega)).trans ((Below.heap_setCell _ ⟨W.heap.size + 1, 5, none⟩ _ b (show b ≠ W.heap.size + 1 by omega)).trans ((Below.heap_setCell _ ⟨W.heap.size + 1, 4, none⟩ _ b (show b ≠ W.heap.size + 1 by omega)).trans ((Below.heap_setCell _ ⟨W.heap.size + 1, 3, none⟩ _ b (show b ≠ W.heap.size + 1 by omega)).trans ((Below.heap_setCell _ ⟨W.heap.size + 1, 2, none⟩ _ b (show b ≠ W.heap.size + 1 by omega)).trans ((Below.heap_setCell _ ⟨W.heap.size + 1, 1, none⟩ _ b (show b ≠ W.heap.size + 1 by omega)).trans ((Below.heap_setCell _ ⟨W.heap.size + 1, 0, none⟩ _ b (show b ≠ W.heap.size + 1 by omega)).trans ((Below.heap_setCell _ ⟨W.heap.size, 6, none⟩ _ b (show b ≠ W.heap.size by omega)).trans rfl)))))))
                have hz := HMK.out (.slice A9 xs.length c9) (.slice A13 ys.length c13) (some ⟨W1.heap.size, 0, none⟩) l vals (W.heap.size + 1) ((((((((wr.setCell ⟨W.heap.size, 6, none⟩ (.slice (some ⟨W1.heap.size, 0, none⟩) l l)).setCell ⟨W.heap.size + 1, 0, none⟩ (.int .i64 k)).setCell ⟨W.heap.size + 1, 1, none⟩ (.int .i64 v)).setCell ⟨W.heap.size + 1, 2, none⟩ (.string s)).setCell ⟨W.heap.size + 1, 3, none⟩ (.bool ng)).setCell ⟨W.heap.size + 1, 4, none⟩ (.slice A9 xs.length c9)).setCell ⟨W.heap.size + 1, 5, none⟩ (.slice A13 ys.length c13)).setCell ⟨W.heap.size + 1, 6, none⟩ (.slice (some ⟨W1.heap.size, 0, none⟩) l l)) (Joins.ownsRow_le (far _ _ _ _ _ _ _ (Nat.le_refl _) (far _ _ _ _ _ _ _ (Nat.le_refl _) (far _ _ _ _ _ _ _ (Nat.le_refl _) (far _ _ _ _ _ _ _ (Nat.le_refl _) (far _ _ _ _ _ _ _ (Nat.le_refl _) (far _ _ _ _ _ _ _ (Nat.le_refl _) (far _ _ _ _ _ _ _ (Nat.le_refl _) (far _ _ _ _ _ _ _ (Nat.le_succ _) (row_to O9.out HB.out))))))))) hle) (Joins.ownsRow_le (far _ _ _ _ _ _ _ (Nat.le_refl _) (far _ _ _ _ _ _ _ (Nat.le_refl _) (far _ _ _ _ _ _ _ (Nat.le_refl _) (far _ _ _ _ _ _ _ (Nat.le_refl _) (far _ _ _ _ _ _ _ (Nat.le_refl _) (far _ _ _ _ _ _ _ (Nat.le_refl _) (far _ _ _ _ _ _ _ (Nat.le_refl _) (far _ _ _ _ _ _ _ (Nat.le_succ _) (row_to O13.out HB.out))))))))) hle) (by rw [HLR.out]; exact Nat.le_refl _) (by unfold maxLen; omega) (fun _ => ⟨W1.heap.size, 0, rfl, by omega, by simp; omega, ⟨arr, (hWf W1.heap.size (by omega)).trans HG.out⟩, fun i hi q hq => by rw [Nat.zero_add]; exact (World.cell?_of_block (a := ⟨W1.heap.size, i * 7 + q, none⟩) (hWf W1.heap.size (by omega))).trans ((HG.out.cell _).trans (HV.out i (by rw [HLR.out] at hi; omega) q hq))⟩) (fun i h => ((HT.out i h (by rw [HLR.out] at h; omega)).to (by simp) (fun b hb _ => hWf b (by omega))).mono (by omega))
                rw [HLR.out] at hz
                refine ⟨_, rfl, hz, ?_⟩
                have HBR : Below W.heap.size W wr := HB1.out.trans (HB.out.mono HB1.out.size)
                exact (((((((HBR.setCell (Nat.le_refl _) _).setCell (Nat.le_succ _) _).setCell (Nat.le_succ _) _).setCell (Nat.le_succ _) _).setCell (Nat.le_succ _) _).setCell (Nat.le_succ _) _).setCell (Nat.le_succ _) _).setCell (Nat.le_succ _) _
    · have hkb : (k == 1) = false := beq_eq_false_iff_ne.2 hk1
      obtain rfl := HRP.out.2.2 hk1
      have HB1 := HB5
      have HKA1 := HKA5
      have HKR1 := HKR5
      clear HB5 HKA5 HKR5 HRP hk1 HBY
      go_wp2_with fail
      generalize ((W.alloc (.cells #[.int .i64 k, .int .i64 v, .string s, .bool ng, .slice A1 m1 q1, .slice B1 m2 q2, .slice Ar l cap] 27)).alloc (.cells #[.int .i64 0, .int .i64 0, .string ⟨#[]⟩, .bool false, .slice none 0 0, .slice none 0 0, .slice none 0 0] 27)) = W5 at *
      have HKA : Hid (Blk W5.drew W.heap.size 27 #[.int .i64 k, .int .i64 v, .string s, .bool ng, .slice A1 m1 q1, .slice B1 m2 q2, .slice Ar l cap]) := HKA1.out.drew
      have HT0 : Hid (W.heap.size < W5.drew.heap.size) := HKA.out.lt
      have HB0 : Hid (Below W.heap.size W W5.drew) := HB1.out.drew
      have HKR : Hid (Blk W5.drew (W.heap.size + 1) 27 #[.int .i64 0, .int .i64 0, .string ⟨#[]⟩, .bool false, .slice none 0 0, .slice none 0 0, .slice none 0 0]) := HKR1.out.drew
      have HWK : Hid (∀ W', Kept (fun k => k = W.heap.size) W5.drew W' → Below w.heap.size w W') := fun W' hk => HWB.out.trans ((HB0.out.trans (hk.below HB0.out.size fun k hk => by omega)).mono HWB.out.size)
      clear HKA1 HKR1 HB1
      refine wp_region_held_drew (S := fun _ => True) (by kernel_rfl) trivial (fun hHeld => ?_)
      (refine wpAnyH_take (i := 0) (v := ?_) rfl (by kernel_rfl) (by kernel_rfl) (by kernel_rfl) (fun _ _ _ h => h) (Or.inl ⟨by kernel_rfl, ?_⟩) (by assumption) ?_; rotate_left; ((intro w hSw; (try dsimp only at hSw); go_simp) <;> (with_reducible rfl)); (try (simp only [Act.put, List.setIfInBounds_toArray, List.set_cons_succ, List.set_cons_zero, List.getElem_toArray, List.getElem_cons_succ, List.getElem_cons_zero])))
      (refine wpAnyH_take (i := 1) (v := ?_) rfl (by kernel_rfl) (by kernel_rfl) (by kernel_rfl) (fun _ _ _ h => h) (Or.inl ⟨by kernel_rfl, ?_⟩) (by assumption) ?_; rotate_left; ((intro w hSw; (try dsimp only at hSw); go_simp) <;> (with_reducible rfl)); (try (simp only [Act.put, List.setIfInBounds_toArray, List.set_cons_succ, List.set_cons_zero, List.getElem_toArray, List.getElem_cons_succ, List.getElem_cons_zero])))
      (refine wpAnyH_take (i := 4) (v := ?_) rfl (by kernel_rfl) (by kernel_rfl) (by kernel_rfl) (fun _ _ _ h => h) (Or.inl ⟨by kernel_rfl, ?_⟩) (by assumption) ?_; rotate_left; ((intro w hSw; (try dsimp only at hSw); go_simp) <;> (with_reducible rfl)); (try (simp only [Act.put, List.setIfInBounds_toArray, List.set_cons_succ, List.set_cons_zero, List.getElem_toArray, List.getElem_cons_succ, List.getElem_cons_zero])))
      (refine wpAnyH_take (i := 5) (v := ?_) rfl (by kernel_rfl) (by kernel_rfl) (by kernel_rfl) (fun _ _ _ h => h) (Or.inl ⟨by kernel_rfl, ?_⟩) (by assumption) ?_; rotate_left; ((intro w hSw; (try dsimp only at hSw); go_simp) <;> (with_reducible rfl)); (try (simp only [Act.put, List.setIfInBounds_toArray, List.set_cons_succ, List.set_cons_zero, List.getElem_toArray, List.getElem_cons_succ, List.getElem_cons_zero])))
      refine wpAnyH_inv0 [2, 3, 6, 7, 8, 9, 10, 11, 12, 13] (fun aa L a W' => ∃ s8 s9 s12 s13 s14 s15 s16 s17, a = ((((((((aa.put (some 25) s8).put (some 26) s9).put (some 29) s12).put (some 30) s13).put (some 31) s14).put (some 32) s15).put (some 33) s16).put (some 34) s17) ∧ CloInv W5.drew W.heap.size (.int .i64 k) (.int .i64 v) (.string s) (.bool ng) (.slice A1 m1 q1) (.slice B1 m2 q2) (.slice Ar l cap) xs ys L s8 s9 s12 s13 s14 s15 s16 s17 W') (by kernel_rfl) (by kernel_rfl) (by decide) (by kernel_rfl) ?hS ?init ?steps ?done
      case hS => exact fun _ _ _ _ => trivial
      case init =>
        refine ⟨undef, undef, undef, undef, undef, undef, undef, undef, (by simp only [Act.put, List.setIfInBounds_toArray, List.set_cons_succ, List.set_cons_zero]), ⟨Kept.refl _ _, HT0.out⟩, HKA.out, ?_, ?_, ?_, ?_, ?_, ?_, ?_, ?_, ?_, ?_⟩ <;> (intro h; exact absurd h (by decide))
      case steps =>
        refine Steps.cons (i := 2) rfl ?_ (Steps.cons (i := 3) rfl ?_ (Steps.cons (i := 6) rfl ?_ (Steps.cons (i := 7) rfl ?_ (Steps.cons (i := 8) rfl ?_ (Steps.cons (i := 9) rfl ?_ (Steps.cons (i := 10) rfl ?_ (Steps.cons (i := 11) rfl ?_ (Steps.cons (i := 12) rfl ?_ (Steps.cons (i := 13) rfl ?_ Steps.nil)))))))))
        · rintro L a W' ⟨s8, s9, s12, s13, s14, s15, s16, s17, rfl, hI⟩ hL hdep K hK
          have HI := Lib.hid hI
          have HL := Lib.hid hL
          clear hI
          simp only [Act.put, List.setIfInBounds_toArray, List.set_cons_succ, List.set_cons_zero]
          clear hL hdep
          have c4 := HI.out.cell4 HL.out
          go_simp
          exact hK.out _ _ ⟨.slice A1 m1 q1, s9, s12, s13, s14, s15, s16, s17, (by simp only [Act.put, List.setIfInBounds_toArray, List.set_cons_succ, List.set_cons_zero]), HI.out.load2⟩
        · rintro L a W' ⟨s8, s9, s12, s13, s14, s15, s16, s17, rfl, hI⟩ hL hdep K hK
          have HI := Lib.hid hI
          have HL := Lib.hid hL
          clear hI
          simp only [Act.put, List.setIfInBounds_toArray, List.set_cons_succ, List.set_cons_zero]
          have hd : L 2 = true := by simp [Region.binds] at hdep; simp [hdep]
          have HD := Lib.hid hd
          clear hd hL hdep
          obtain rfl := HI.out.2.2.1 HD.out
          go_simp
          refine (HCA.out _ (by exact HWK.out _ HI.out.1.1)).mono ?_
          rintro e w1 ⟨v1, rfl, hv1, hb1⟩
          have hT := HI.out.1.1.size
          exact hK.out _ _ ⟨.slice A1 m1 q1, v1, s12, s13, s14, s15, s16, s17, (by simp only [Act.put, List.setIfInBounds_toArray, List.set_cons_succ, List.set_cons_zero]), HI.out.call3 HL.out hb1 (Joins.ownsRow_le hv1 hT)⟩
        · rintro L a W' ⟨s8, s9, s12, s13, s14, s15, s16, s17, rfl, hI⟩ hL hdep K hK
          have HI := Lib.hid hI
          have HL := Lib.hid hL
          clear hI
          simp only [Act.put, List.setIfInBounds_toArray, List.set_cons_succ, List.set_cons_zero]
          clear hL hdep
          have c5 := HI.out.cell5 HL.out
          go_simp
          exact hK.out _ _ ⟨s8, s9, .slice B1 m2 q2, s13, s14, s15, s16, s17, (by simp only [Act.put, List.setIfInBounds_toArray, List.set_cons_succ, List.set_cons_zero]), HI.out.load6⟩
        · rintro L a W' ⟨s8, s9, s12, s13, s14, s15, s16, s17, rfl, hI⟩ hL hdep K hK
          have HI := Lib.hid hI
          have HL := Lib.hid hL
          clear hI
          simp only [Act.put, List.setIfInBounds_toArray, List.set_cons_succ, List.set_cons_zero]
          have hd : L 6 = true := by simp [Region.binds] at hdep; simp [hdep]
          have HD := Lib.hid hd
          clear hd hL hdep
          obtain rfl := HI.out.2.2.2.1 HD.out
          go_simp
          refine (HCB.out _ (by exact HWK.out _ HI.out.1.1)).mono ?_
          rintro e w1 ⟨v1, rfl, hv1, hb1⟩
          have hT := HI.out.1.1.size
          exact hK.out _ _ ⟨s8, s9, .slice B1 m2 q2, v1, s14, s15, s16, s17, (by simp only [Act.put, List.setIfInBounds_toArray, List.set_cons_succ, List.set_cons_zero]), HI.out.call7 HL.out hb1 (Joins.ownsRow_le hv1 hT)⟩
        · rintro L a W' ⟨s8, s9, s12, s13, s14, s15, s16, s17, rfl, hI⟩ hL hdep K hK
          have HI := Lib.hid hI
          have HL := Lib.hid hL
          clear hI
          simp only [Act.put, List.setIfInBounds_toArray, List.set_cons_succ, List.set_cons_zero]
          clear hL hdep
          go_simp
          exact hK.out _ _ ⟨s8, s9, s12, s13, .pointer (some ⟨W.heap.size, 3, none⟩), s15, s16, s17, (by simp only [Act.put, List.setIfInBounds_toArray, List.set_cons_succ, List.set_cons_zero]), HI.out.addr8⟩
        · rintro L a W' ⟨s8, s9, s12, s13, s14, s15, s16, s17, rfl, hI⟩ hL hdep K hK
          have HI := Lib.hid hI
          have HL := Lib.hid hL
          clear hI
          simp only [Act.put, List.setIfInBounds_toArray, List.set_cons_succ, List.set_cons_zero]
          have hd : L 8 = true := by simp [Region.binds] at hdep; simp [hdep]
          have HD := Lib.hid hd
          clear hd hL hdep
          obtain rfl := HI.out.2.2.2.2.2.2.1 HD.out
          go_simp
          exact hK.out _ _ ⟨s8, s9, s12, s13, .pointer (some ⟨W.heap.size, 3, none⟩), .pointer (some ⟨W.heap.size, 4, none⟩), s16, s17, (by simp only [Act.put, List.setIfInBounds_toArray, List.set_cons_succ, List.set_cons_zero]), HI.out.addr9⟩
        · rintro L a W' ⟨s8, s9, s12, s13, s14, s15, s16, s17, rfl, hI⟩ hL hdep K hK
          have HI := Lib.hid hI
          have HL := Lib.hid hL
          clear hI
          simp only [Act.put, List.setIfInBounds_toArray, List.set_cons_succ, List.set_cons_zero]
          have hd : L 9 = true ∧ L 3 = true ∧ L 2 = true := by simp [Region.binds] at hdep; simp [hdep]
          have HD := Lib.hid hd
          clear hd hL hdep
          obtain rfl := HI.out.2.2.2.2.2.2.2.1 HD.out.1
          obtain ⟨A9, c9, rfl⟩ := row_slice (HI.out.2.2.2.2.1 HD.out.2.1)
          have f4 := HI.out.2.1.frozen 4
          have hT := HI.out.2.1.lt
          have k4 := HI.out.2.1.cell 4
          simp only [List.getElem?_toArray, List.getElem?_cons_zero, List.getElem?_cons_succ] at k4
          go_simp
          exact hK.out _ _ ⟨s8, .slice A9 xs.length c9, s12, s13, s14, .pointer (some ⟨W.heap.size, 4, none⟩), s16, s17, (by simp only [Act.put, List.setIfInBounds_toArray, List.set_cons_succ, List.set_cons_zero]), HI.out.store10 HD.out.2.2 HD.out.2.1⟩
        · rintro L a W' ⟨s8, s9, s12, s13, s14, s15, s16, s17, rfl, hI⟩ hL hdep K hK
          have HI := Lib.hid hI
          have HL := Lib.hid hL
          clear hI
          simp only [Act.put, List.setIfInBounds_toArray, List.set_cons_succ, List.set_cons_zero]
          clear hL hdep
          go_simp
          exact hK.out _ _ ⟨s8, s9, s12, s13, s14, s15, .pointer (some ⟨W.heap.size, 3, none⟩), s17, (by simp only [Act.put, List.setIfInBounds_toArray, List.set_cons_succ, List.set_cons_zero]), HI.out.addr11⟩
        · rintro L a W' ⟨s8, s9, s12, s13, s14, s15, s16, s17, rfl, hI⟩ hL hdep K hK
          have HI := Lib.hid hI
          have HL := Lib.hid hL
          clear hI
          simp only [Act.put, List.setIfInBounds_toArray, List.set_cons_succ, List.set_cons_zero]
          have hd : L 11 = true := by simp [Region.binds] at hdep; simp [hdep]
          have HD := Lib.hid hd
          clear hd hL hdep
          obtain rfl := HI.out.2.2.2.2.2.2.2.2.1 HD.out
          go_simp
          exact hK.out _ _ ⟨s8, s9, s12, s13, s14, s15, .pointer (some ⟨W.heap.size, 3, none⟩), .pointer (some ⟨W.heap.size, 5, none⟩), (by simp only [Act.put, List.setIfInBounds_toArray, List.set_cons_succ, List.set_cons_zero]), HI.out.addr12⟩
        · rintro L a W' ⟨s8, s9, s12, s13, s14, s15, s16, s17, rfl, hI⟩ hL hdep K hK
          have HI := Lib.hid hI
          have HL := Lib.hid hL
          clear hI
          simp only [Act.put, List.setIfInBounds_toArray, List.set_cons_succ, List.set_cons_zero]
          have hd : L 12 = true ∧ L 7 = true ∧ L 6 = true := by simp [Region.binds] at hdep; simp [hdep]
          have HD := Lib.hid hd
          clear hd hL hdep
          obtain rfl := HI.out.2.2.2.2.2.2.2.2.2.1 HD.out.1
          obtain ⟨A9, c9, rfl⟩ := row_slice (HI.out.2.2.2.2.2.1 HD.out.2.1)
          have f5 := HI.out.2.1.frozen 5
          have hT := HI.out.2.1.lt
          have k5 := HI.out.2.1.cell 5
          simp only [List.getElem?_toArray, List.getElem?_cons_zero, List.getElem?_cons_succ] at k5
          go_simp
          exact hK.out _ _ ⟨s8, s9, s12, .slice A9 ys.length c9, s14, s15, s16, .pointer (some ⟨W.heap.size, 5, none⟩), (by simp only [Act.put, List.setIfInBounds_toArray, List.set_cons_succ, List.set_cons_zero]), HI.out.store13 HD.out.2.2 HD.out.2.1⟩
      case done =>
        rintro L a W1 ⟨s8, s9, s12, s13, s14, s15, s16, s17, rfl, hI⟩ hall
        simp only [Act.put, List.setIfInBounds_toArray, List.set_cons_succ, List.set_cons_zero]
        obtain ⟨hk1, hkT, ho9, ho13⟩ := hI.done hall
        obtain ⟨A9, c9, rfl⟩ := row_slice ho9
        obtain ⟨A13, c13, rfl⟩ := row_slice ho13
        have KR := Lib.hid (hk1.blk HKR.out (by omega))
        have KT := Lib.hid hkT
        have HK1 := Lib.hid hk1
        have O9 := Lib.hid ho9
        have O13 := Lib.hid ho13
        have HB1 : Hid (Below W.heap.size W W1) := HB0.out.trans (hk1.below HB0.out.size fun k hk => by omega)
        clear hI hall hHeld hk1 hkT ho9 ho13
        have t0 := KT.out.cell 0
        have t1 := KT.out.cell 1
        have t2 := KT.out.cell 2
        have t3 := KT.out.cell 3
        have t4 := KT.out.cell 4
        have t5 := KT.out.cell 5
        have t6 := KT.out.cell 6
        simp only [List.getElem?_toArray, List.getElem?_cons_zero, List.getElem?_cons_succ] at t0 t1 t2 t3 t4 t5 t6
        have y6 := KT.out.frozen 6
        have r0 := KR.out.cell 0
        have r1 := KR.out.cell 1
        have r2 := KR.out.cell 2
        have r3 := KR.out.cell 3
        have r4 := KR.out.cell 4
        have r5 := KR.out.cell 5
        have r6 := KR.out.cell 6
        simp only [List.getElem?_toArray, List.getElem?_cons_zero, List.getElem?_cons_succ] at r0 r1 r2 r3 r4 r5 r6
        have z0 := KR.out.frozen 0
        have z1 := KR.out.frozen 1
        have z2 := KR.out.frozen 2
        have z3 := KR.out.frozen 3
        have z4 := KR.out.frozen 4
        have z5 := KR.out.frozen 5
        have z6 := KR.out.frozen 6
        have hW2 : W.heap.size + 1 < (W5.drew).heap.size := HKR.out.lt
        have HN2 := Lib.hid hW2
        clear hW2
        by_cases hl0 : l = 0
        · subst hl0
          go_wp2_with fail
          refine bodyPost_ret (v := .agg #[.int .i64 k, .int .i64 v, .string s, .bool ng, .slice A9 xs.length c9, .slice A13 ys.length c13, .slice none 0 0]) (by rw [results_cellT rfl]; go_simp) rfl ?_
          have far : ∀ (Wx : World) (g i : Nat) (u v' : Value) (n' : Nat) (zs : List Value), g ≤ W.heap.size + 1 → Wx.ownsRow W5.drew.heap.size 89 1 v' n' zs → (Wx.setCell ⟨g, i, none⟩ u).ownsRow W5.drew.heap.size 89 1 v' n' zs := fun Wx g i u v' n' zs hg hr => row_set hr (by have := HN2.out; omega)
          have hle : W.heap.size + 1 ≤ W5.drew.heap.size := by have := HN2.out; omega
          have hz := fun (Wf : World) (h9 : OwnV .u32 89 Wf (W.heap.size + 1) (.slice A9 xs.length c9) xs) (h13 : OwnV .u32 89 Wf (W.heap.size + 1) (.slice A13 ys.length c13) ys) => HMK.out (.slice A9 xs.length c9) (.slice A13 ys.length c13) none 0 (fun _ => []) (W.heap.size + 1) Wf h9 h13 (by rw [HLR.out]; exact Nat.le_refl _) (by unfold maxLen; omega) (fun h => absurd h (by rw [HLR.out]; omega)) (fun i h => absurd h (by rw [HLR.out]; omega))
          simp only [HLR.out] at hz
          refine ⟨_, rfl, hz _ (Joins.ownsRow_le (far _ _ _ _ _ _ _ (Nat.le_refl _) (far _ _ _ _ _ _ _ (Nat.le_refl _) (far _ _ _ _ _ _ _ (Nat.le_refl _) (far _ _ _ _ _ _ _ (Nat.le_refl _) (far _ _ _ _ _ _ _ (Nat.le_refl _) (far _ _ _ _ _ _ _ (Nat.le_refl _) (far _ _ _ _ _ _ _ (Nat.le_refl _) (far _ _ _ _ _ _ _ (Nat.le_succ _) O9.out)))))))) hle) (Joins.ownsRow_le (far _ _ _ _ _ _ _ (Nat.le_refl _) (far _ _ _ _ _ _ _ (Nat.le_refl _) (far _ _ _ _ _ _ _ (Nat.le_refl _) (far _ _ _ _ _ _ _ (Nat.le_refl _) (far _ _ _ _ _ _ _ (Nat.le_refl _) (far _ _ _ _ _ _ _ (Nat.le_refl _) (far _ _ _ _ _ _ _ (Nat.le_refl _) (far _ _ _ _ _ _ _ (Nat.le_succ _) O13.out)))))))) hle), ?_⟩
          exact (((((((HB1.out.setCell (Nat.le_refl _) _).setCell (Nat.le_succ _) _).setCell (Nat.le_succ _) _).setCell (Nat.le_succ _) _).setCell (Nat.le_succ _) _).setCell (Nat.le_succ _) _).setCell (Nat.le_succ _) _).setCell (Nat.le_succ _) _
        · have hl1 : ((l : Int) == 0) = false := beq_eq_false_iff_ne.2 (by omega)
          clear r0 r1 r2 r3 r4 r5 r6 z0 z1 z2 z3 z4 z5 z6
          go_wp2_with (at_make; refine wpList_make_full _ rfl _ _ 25 rfl W1.heap.size 27 i0 (.agg zt.toArray) 7 Tryz.underlying25 HI0.out HZ0.out HZ1.out .i64 .i64 _ _ l rfl rfl (by omega) (by omega) (by rw [HZ2.out]; omega) (by unfold maxLen; omega) (Nat.le_refl _) ?_; intro w2 hown2 hg2; have HB2 : Hid (Below W1.heap.size W1 w2) := (Below.refl _ _).grown hg2 (Nat.le_refl _) (by simp); have KT2 := Lib.hid (KT.out.to HB2.out); have d6 := KT2.out.cell 6; simp only [List.getElem?_toArray, List.getElem?_cons_zero, List.getElem?_cons_succ] at d6; have HARR := Lib.hid (row_blk hown2); clear hown2 hg2)
          have HWW : Hid (Below w.heap.size w W1) := HWK.out _ HK1.out
          go_loopg [48] l (fun gk s48 wr => ∃ (j : Nat) (arr : Array Value) (vals : Nat → List Value), gk + j = l ∧ s48 = .int .i64 (j : Int) ∧ Hid (Blk wr W1.heap.size 27 arr) ∧ arr.size = l * 7 ∧ Hid (Below W1.heap.size W1 wr) ∧ Hid (∀ i, i < j → ∀ q, q < 7 → arr[i * 7 + q]? = (vals i)[q]?) ∧ Hid (∀ i (h : i < rs.length), i < j → TCF (W1.heap.size + 1) wr rs[i] (vals i)))
          case atStart =>
            obtain ⟨arr, h1, h2⟩ := HARR.out
            exact ⟨0, arr, fun _ => [], by omega, rfl, h1, h2, HB2.out, fun i hi => absurd hi (by omega), fun i _ hi => absurd hi (by omega)⟩
          case round =>
            obtain ⟨j, arr, vals, hgj, rfl, HG, hsz, HB, HV, HT⟩ := hrel
            by_cases hj : j < l
            · have hja : j < args.length := by rw [HL.out]; exact hj
              have HBW := HWW.out.trans (HB.out.mono HWW.out.size)
              obtain ⟨b, o, k', v', s', ng', A2, n2, c2, B2, m3, d2, Xr, xl, xc, hAr, hcs, hlt, e0, e1, e2, e3, e4, e5, e6⟩ := arg_cells HR.out HA.out HBW hja
              subst hAr
              have hjr : j < rs.length := by rw [HLR.out]; exact hj
              have HCALL := IH.out j hja hjr (wr.alloc (.cells #[.int .i64 k', .int .i64 v', .string s', .bool ng', .slice A2 n2 c2, .slice B2 m3 d2, .slice Xr xl xc] 27)) (HBW.trans ((below_one wr (.cells #[.int .i64 k', .int .i64 v', .string s', .bool ng', .slice A2 n2 c2, .slice B2 m3 d2, .slice Xr xl xc] 27)).mono HBW.size))
              rw [hcs] at HCALL
              have HCALL := Lib.hid HCALL
              go_wp2_with fail
              refine HCALL.out.mono ?_
              rintro e w3 ⟨cs5, rfl, ht5, hb5⟩
              obtain ⟨k5, v5, s5, ng5, A5, n5, c5, B5, m5, d5, X5, l5, xc5, hf5⟩ := ht5.tc.form
              subst hf5
              have HA3 := Lib.hid ((below_one wr (.cells #[.int .i64 k', .int .i64 v', .string s', .bool ng', .slice A2 n2 c2, .slice B2 m3 d2, .slice Xr xl xc] 27)).trans (hb5.mono (below_one wr (.cells #[.int .i64 k', .int .i64 v', .string s', .bool ng', .slice A2 n2 c2, .slice B2 m3 d2, .slice Xr xl xc] 27)).size))
              have HB3 := Lib.hid (HB.out.trans (HA3.out.mono HB.out.size))
              have HG3 := Lib.hid (HG.out.to HA3.out)
              have H5 : Hid (TCF (W1.heap.size + 1) w3 rs[j] _) := ht5.mono (by have := HB.out.size; simp; omega)
              clear ht5 hb5 HCALL e0 e1 e2 e3 e4 e5 e6 hcs
              obtain ⟨x0, hx0⟩ : ∃ x, w3.cell? ⟨W1.heap.size, j * 7, none⟩ = some x := ⟨arr[j * 7]'(by omega), by rw [HG3.out.cell]; exact Array.getElem?_eq_getElem (by omega)⟩
              have fx0 := HG3.out.frozen (j * 7)
              obtain ⟨x1, hx1⟩ : ∃ x, w3.cell? ⟨W1.heap.size, j * 7 + 1, none⟩ = some x := ⟨arr[j * 7 + 1]'(by omega), by rw [HG3.out.cell]; exact Array.getElem?_eq_getElem (by omega)⟩
              have fx1 := HG3.out.frozen (j * 7 + 1)
              obtain ⟨x2, hx2⟩ : ∃ x, w3.cell? ⟨W1.heap.size, j * 7 + 2, none⟩ = some x := ⟨arr[j * 7 + 2]'(by omega), by rw [HG3.out.cell]; exact Array.getElem?_eq_getElem (by omega)⟩
              have fx2 := HG3.out.frozen (j * 7 + 2)
              obtain ⟨x3, hx3⟩ : ∃ x, w3.cell? ⟨W1.heap.size, j * 7 + 3, none⟩ = some x := ⟨arr[j * 7 + 3]'(by omega), by rw [HG3.out.cell]; exact Array.getElem?_eq_getElem (by omega)⟩
              have fx3 := HG3.out.frozen (j * 7 + 3)
              obtain ⟨x4, hx4⟩ : ∃ x, w3.cell? ⟨W1.heap.size, j * 7 + 4, none⟩ = some x := ⟨arr[j * 7 + 4]'(by omega), by rw [HG3.out.cell]; exact Array.getElem?_eq_getElem (by omega)⟩
              have fx4 := HG3.out.frozen (j * 7 + 4)
              obtain ⟨x5, hx5⟩ : ∃ x, w3.cell? ⟨W1.heap.size, j * 7 + 5, none⟩ = some x := ⟨arr[j * 7 + 5]'(by omega), by rw [HG3.out.cell]; exact Array.getElem?_eq_getElem (by omega)⟩
              have fx5 := HG3.out.frozen (j * 7 + 5)
              obtain ⟨x6, hx6⟩ : ∃ x, w3.cell? ⟨W1.heap.size, j * 7 + 6, none⟩ = some x := ⟨arr[j * 7 + 6]'(by omega), by rw [HG3.out.cell]; exact Array.getElem?_eq_getElem (by omega)⟩
              have fx6 := HG3.out.frozen (j * 7 + 6)
              go_wp2_with fail
              go_roundg (gk - 1)
              case measure => omega
              case rel =>
                have keep : ∀ (t : Tm) (c : List Value), TCF (W1.heap.size + 1) w3 t c → TCF (W1.heap.size + 1) (((((((w3.setCell ⟨W1.heap.size, j * 7, none⟩ (.int .i64 k5)).setCell ⟨W1.heap.size, j * 7 + 1, none⟩ (.int .i64 v5)).setCell ⟨W1.heap.size, j * 7 + 2, none⟩ (.string s5)).setCell ⟨W1.heap.size, j * 7 + 3, none⟩ (.bool ng5)).setCell ⟨W1.heap.size, j * 7 + 4, none⟩ (.slice A5 n5 c5)).setCell ⟨W1.heap.size, j * 7 + 5, none⟩ (.slice B5 m5 d5)).setCell ⟨W1.heap.size, j * 7 + 6, none⟩ (.slice X5 l5 xc5)) t c := fun t c ht => ht.to (by simp) (fun b hb _ => (Below.heap_setCell _ ⟨W1.heap.size, j * 7 + 6, none⟩ _ b (show b ≠ W1.heap.size by omega)).trans ((Below.heap_setCell _ ⟨W1.heap.size, j * 7 + 5, none⟩ _ b (show b ≠ W1.heap.size by omega)).trans ((Below.heap_setCell _ ⟨W1.heap.size, j * 7 + 4, none⟩ _ b (show b ≠ W1.heap.size by omega)).trans ((Below.heap_setCell _ ⟨W1.heap.size, j * 7 + 3, none⟩ _ b (show b ≠ W1.heap.size by omega)).trans ((Below.heap_setCell _ ⟨W1.heap.size, j * 7 + 2, none⟩ _ b (show b ≠ W1.heap.size by omega)).trans ((Below.heap_setCell _ ⟨W1.heap.size, j * 7 + 1, none⟩ _ b (show b ≠ W1.heap.size by omega)).trans ((Below.heap_setCell _ ⟨W1.heap.size, j * 7, none⟩ _ b (show b ≠ W1.heap.size by omega)).trans (rfl))))))))
                refine ⟨j + 1, (((((((arr.setIfInBounds (j * 7) (.int .i64 k5)).setIfInBounds (j * 7 + 1) (.int .i64 v5)).setIfInBounds (j * 7 + 2) (.string s5)).setIfInBounds (j * 7 + 3) (.bool ng5)).setIfInBounds (j * 7 + 4) (.slice A5 n5 c5)).setIfInBounds (j * 7 + 5) (.slice B5 m5 d5)).setIfInBounds (j * 7 + 6) (.slice X5 l5 xc5)), fun i => if i = j then [.int .i64 k5, .int .i64 v5, .string s5, .bool ng5, .slice A5 n5 c5, .slice B5 m5 d5, .slice X5 l5 xc5] else vals i, by omega, by go_num, (((((((HG3.out.set_ (j * 7) (.int .i64 k5)).set_ (j * 7 + 1) (.int .i64 v5)).set_ (j * 7 + 2) (.string s5)).set_ (j * 7 + 3) (.bool ng5)).set_ (j * 7 + 4) (.slice A5 n5 c5)).set_ (j * 7 + 5) (.slice B5 m5 d5)).set_ (j * 7 + 6) (.slice X5 l5 xc5)), by simp; omega, (((((((HB3.out.setCell (Nat.le_refl _) _).setCell (Nat.le_refl _) _).setCell (Nat.le_refl _) _).setCell (Nat.le_refl _) _).setCell (Nat.le_refl _) _).setCell (Nat.le_refl _) _).setCell (Nat.le_refl _) _), fun i hi q hq => ?_, fun i h hi => ?_⟩
                · by_cases hij : i = j
                  · subst hij
                    have h7 : q = 0 ∨ q = 1 ∨ q = 2 ∨ q = 3 ∨ q = 4 ∨ q = 5 ∨ q = 6 := by omega
                    rcases h7 with rfl | rfl | rfl | rfl | rfl | rfl | rfl <;> simp [Array.getElem?_setIfInBounds] <;> omega
                  · have hi2 : i < j := by omega
                    dsimp only
                    rw [if_neg hij, ← HV.out i hi2 q hq]
                    simp only [Array.getElem?_setIfInBounds]
                    repeat rw [if_neg (by omega)]
                · by_cases hij : i = j
                  · subst hij
                    dsimp only
                    rw [if_pos rfl]
                    exact keep _ _ H5.out
                  · dsimp only
                    rw [if_neg hij]
                    exact keep _ _ ((HT.out i h (by omega)).to HA3.out.size (fun b _ hb => HA3.out.block b hb))
            · have hjl : j = l := by omega
              have KTr := KT.out.to HB.out
              have KRr := KR.out.to HB.out
              have d0q := KTr.cell 0
              have d1q := KTr.cell 1
              have d2q := KTr.cell 2
              have d3q := KTr.cell 3
              have d4q := KTr.cell 4
              have d5q := KTr.cell 5
              have d6q := KTr.cell 6
              simp only [List.getElem?_toArray, List.getElem?_cons_zero, List.getElem?_cons_succ] at d0q d1q d2q d3q d4q d5q d6q
              have y6q := KTr.frozen 6
              have r0 := KRr.cell 0
              have r1 := KRr.cell 1
              have r2 := KRr.cell 2
              have r3 := KRr.cell 3
              have r4 := KRr.cell 4
              have r5 := KRr.cell 5
              have r6 := KRr.cell 6
              simp only [List.getElem?_toArray, List.getElem?_cons_zero, List.getElem?_cons_succ] at r0 r1 r2 r3 r4 r5 r6
              have z0 := KRr.frozen 0
              have z1 := KRr.frozen 1
              have z2 := KRr.frozen 2
              have z3 := KRr.frozen 3
              have z4 := KRr.frozen 4
              have z5 := KRr.frozen 5
              have z6 := KRr.frozen 6
              have hs1 := HK1.out.size
              have hs2 := HB.out.size
              have hs3 := HN2.out
              have HG0 := HG.out.lt
              clear KTr KRr t0 t1 t2 t3 t4 t5 t6
              go_wp2_with fail
              refine bodyPost_ret (v := .agg #[.int .i64 k, .int .i64 v, .string s, .bool ng, .slice A9 xs.length c9, .slice A13 ys.length c13, .slice (some ⟨W1.heap.size, 0, none⟩) l l]) (by rw [results_cellT rfl]; go_simp) rfl ?_
              have far : ∀ (Wx : World) (g i : Nat) (u v' : Value) (n' : Nat) (zs : List Value), g ≤ W.heap.size + 1 → Wx.ownsRow W5.drew.heap.size 89 1 v' n' zs → (Wx.setCell ⟨g, i, none⟩ u).ownsRow W5.drew.heap.size 89 1 v' n' zs := fun Wx g i u v' n' zs hg hr => row_set hr (by omega)
              have hle : W.heap.size + 1 ≤ W5.drew.heap.size := by omega
              have hWf : ∀ b, W.heap.size + 1 < b → ((((((((wr.setCell ⟨W.heap.size, 6, none⟩ (.slice (some ⟨W1.heap.size, 0, none⟩) l l)).setCell ⟨W.heap.size + 1, 0, none⟩ (.int .i64 k)).setCell ⟨W.heap.size + 1, 1, none⟩ (.int .i64 v)).setCell ⟨W.heap.size + 1, 2, none⟩ (.string s)).setCell ⟨W.heap.size + 1, 3, none⟩ (.bool ng)).setCell ⟨W.heap.size + 1, 4, none⟩ (.slice A9 xs.length c9)).setCell ⟨W.heap.size + 1, 5, none⟩ (.slice A13 ys.length c13)).setCell ⟨W.heap.size + 1, 6, none⟩ (.slice (some ⟨W1.heap.size, 0, none⟩) l l)).heap[b]? = wr.heap[b]? := fun b hb => (Below.heap_setCell _ ⟨W.heap.size + 1, 6, none⟩ _ b (show b ≠ W.heap.size + 1 by omega)).trans ((Below.heap_setCell _ ⟨W.heap.size + 1, 5, none⟩ _ b (show b ≠ W.heap.size + 1 by omega)).trans ((Below.heap_setCell _ ⟨W.heap.size + 1, 4, none⟩ _ b (show b ≠ W.heap.size + 1 by omega)).trans ((Below.heap_setCell _ ⟨W.heap.size + 1, 3, none⟩ _ b (show b ≠ W.heap.size + 1 by omega)).trans ((Below.heap_setCell _ ⟨W.heap.size + 1, 2, none⟩ _ b (show b ≠ W.heap.size + 1 by omega)).trans ((Below.heap_setCell _ ⟨W.heap.size + 1, 1, none⟩ _ b (show b ≠ W.heap.size + 1 by omega)).trans ((Below.heap_setCell _ ⟨W.heap.size + 1, 0, none⟩ _ b (show b ≠ W.heap.size + 1 by omega)).trans ((Below.heap_setCell _ ⟨W.heap.size, 6, none⟩ _ b (show b ≠ W.heap.size by omega)).trans rfl)))))))
              have hz := HMK.out (.slice A9 xs.length c9) (.slice A13 ys.length c13) (some ⟨W1.heap.size, 0, none⟩) l vals (W.heap.size + 1) ((((((((wr.setCell ⟨W.heap.size, 6, none⟩ (.slice (some ⟨W1.heap.size, 0, none⟩) l l)).setCell ⟨W.heap.size + 1, 0, none⟩ (.int .i64 k)).setCell ⟨W.heap.size + 1, 1, none⟩ (.int .i64 v)).setCell ⟨W.heap.size + 1, 2, none⟩ (.string s)).setCell ⟨W.heap.size + 1, 3, none⟩ (.bool ng)).setCell ⟨W.heap.size + 1, 4, none⟩ (.slice A9 xs.length c9)).setCell ⟨W.heap.size + 1, 5, none⟩ (.slice A13 ys.length c13)).setCell ⟨W.heap.size + 1, 6, none⟩ (.slice (some ⟨W1.heap.size, 0, none⟩) l l)) (Joins.ownsRow_le (far _ _ _ _ _ _ _ (Nat.le_refl _) (far _ _ _ _ _ _ _ (Nat.le_refl _) (far _ _ _ _ _ _ _ (Nat.le_refl _) (far _ _ _ _ _ _ _ (Nat.le_refl _) (far _ _ _ _ _ _ _ (Nat.le_refl _) (far _ _ _ _ _ _ _ (Nat.le_refl _) (far _ _ _ _ _ _ _ (Nat.le_refl _) (far _ _ _ _ _ _ _ (Nat.le_succ _) (row_to O9.out HB.out))))))))) hle) (Joins.ownsRow_le (far _ _ _ _ _ _ _ (Nat.le_refl _) (far _ _ _ _ _ _ _ (Nat.le_refl _) (far _ _ _ _ _ _ _ (Nat.le_refl _) (far _ _ _ _ _ _ _ (Nat.le_refl _) (far _ _ _ _ _ _ _ (Nat.le_refl _) (far _ _ _ _ _ _ _ (Nat.le_refl _) (far _ _ _ _ _ _ _ (Nat.le_refl _) (far _ _ _ _ _ _ _ (Nat.le_succ _) (row_to O13.out HB.out))))))))) hle) (by rw [HLR.out]; exact Nat.le_refl _) (by unfold maxLen; omega) (fun _ => ⟨W1.heap.size, 0, rfl, by omega, by simp; omega, ⟨arr, (hWf W1.heap.size (by omega)).trans HG.out⟩, fun i hi q hq => by rw [Nat.zero_add]; exact (World.cell?_of_block (a := ⟨W1.heap.size, i * 7 + q, none⟩) (hWf W1.heap.size (by omega))).trans ((HG.out.cell _).trans (HV.out i (by rw [HLR.out] at hi; omega) q hq))⟩) (fun i h => ((HT.out i h (by rw [HLR.out] at h; omega)).to (by simp) (fun b hb _ => hWf b (by omega))).mono (by omega))
              rw [HLR.out] at hz
              refine ⟨_, rfl, hz, ?_⟩
              have HBR : Below W.heap.size W wr := HB1.out.trans (HB.out.mono HB1.out.size)
              exact (((((((HBR.setCell (Nat.le_refl _) _).setCell (Nat.le_succ _) _).setCell (Nat.le_succ _) _).setCell (Nat.le_succ _) _).setCell (Nat.le_succ _) _).setCell (Nat.le_succ _) _).setCell (Nat.le_succ _) _).setCell (Nat.le_succ _) _
end Go.Proofs.YtkfnpcilanheiaaGreat
