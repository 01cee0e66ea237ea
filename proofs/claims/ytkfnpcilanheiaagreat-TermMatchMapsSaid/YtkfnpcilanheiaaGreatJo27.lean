/- slices.Equal at limbs; heap.SameNumber. And 1 more texts. -/
import Derived.Test.YtkfnpcilanheiaaGreatJo16
import Derived.Test.YtkfnpcilanheiaaGreatJo22
import Derived.Test.YtkfnpcilanheiaaGreatJo25
import Derived.Test.YtkfnpcilanheiaaGreatJo26
set_option linter.unusedVariables false
set_option linter.unusedSimpArgs false
set_option maxRecDepth 100000
namespace Go.Proofs.YtkfnpcilanheiaaGreat
open Go.RowKit NumB
set_option maxHeartbeats 1600000 in
theorem equal_any (xs ys : List Nat) (va vb : Value) (w : World) (ha : Sl .u32 w va xs) (hb : Sl .u32 w vb ys) :
    Calls Tryz.prog 134 #[va, vb] w fun e w' => e = .returned (.bool (eqB xs ys)) ∧ ∃ m, w' = w.drewN m := by
  obtain ⟨A, ca, rfl, hca, hma, hra⟩ := ha
  obtain ⟨A', cb, rfl, hcb, hmb, hrb⟩ := hb
  unfold maxLen at hma hmb
  generalize hn : xs.length = n at *
  generalize hm : ys.length = m at *
  by_cases hne : n = m
  · subst hne
    have HL := Lib.hid (And.intro hn hm)
    have HA := Lib.hid hra
    have HB := Lib.hid hrb
    clear hn hm hra hrb
    have hb1 : ((n : Int) != (n : Int)) = false := by simp
    go_enter Tryz.func134, Tryz.ntmps134
    go_wp2
    go_loopg [13] n (fun g i wr => ∃ j m : Nat, g + j = n ∧ i = .int .i64 (j : Int) ∧ Hid (xs.take j = ys.take j) ∧ Hid (wr = w.drewN m))
    case atStart => exact ⟨0, 0, by omega, rfl, rfl, rfl⟩
    case round =>
      obtain ⟨j, dr, hgj, rfl, HV, HW⟩ := hrel
      obtain rfl := HW.out
      by_cases h0 : j < n
      · obtain ⟨b, o, p, rfl, hb, hpe, hcp⟩ := HA.out.at_ (i := j) h0
        obtain ⟨b', o', q, rfl, hb', hqe, hcq⟩ := HB.out.at_ (i := j) h0
        have HP : Hid (xs.getD j 0 = p ∧ ys.getD j 0 = q) := ⟨hpe, hqe⟩
        clear hpe hqe
        have hi0 : (0 : Int) ≤ (j : Int) := by omega
        have hi1 : (j : Int) < (n : Int) := by omega
        by_cases hpq : p = q
        · subst hpq
          have hbn : ((p : Int) != (p : Int)) = false := by simp
          go_wp2
          go_quiet (fail)
          go_wp2
          go_roundg (gk - 1)
          case measure => omega
          case rel => exact ⟨j + 1, _, by omega, by go_num, take_step (by rw [HL.out.1]; exact h0) (by rw [HL.out.2]; exact h0) HV.out (HP.out.1.trans HP.out.2.symm), rfl⟩
        · have hbn : ((p : Int) != (q : Int)) = true := by rw [bne_iff_ne]; omega
          have E : Hid (eqB xs ys = false) := eqB_false (by rintro rfl; exact hpq (HP.out.1.symm.trans HP.out.2))
          clear hpq
          go_wp2
          go_quiet (fail)
          go_wp2
          go_ret
          rw [E.out]
          exact ⟨rfl, _, by rw [World.drewN_drewN]⟩
      · obtain rfl : j = n := by omega
        have E : Hid (eqB xs ys = true) := eqB_true (by have h := HV.out; rwa [List.take_of_length_le (by rw [HL.out.1]; exact Nat.le_refl _), List.take_of_length_le (by rw [HL.out.2]; exact Nat.le_refl _)] at h)
        go_wp2
        go_ret
        rw [E.out]
        exact ⟨rfl, dr, rfl⟩
  · have hb1 : ((n : Int) != (m : Int)) = true := by rw [bne_iff_ne]; omega
    have E : Hid (eqB xs ys = false) := eqB_false (by rintro rfl; omega)
    clear hn hm hne hra hrb
    go_enter Tryz.func134, Tryz.ntmps134
    go_wp2
    go_ret
    rw [E.out]
    exact ⟨rfl, 0, rfl⟩
theorem sameB_iff (a b : LN) : sameB a b = true ↔ a = b := by
  unfold sameB eqB
  cases a; cases b
  simp
set_option maxHeartbeats 1600000 in
theorem sameNumber_any (a b : LN) (A B A' B' : Value) {w : World} (h1 : Sl .u32 w A a.num) (h2 : Sl .u32 w B a.den) (h3 : Sl .u32 w A' b.num) (h4 : Sl .u32 w B' b.den) (W : World) (hW : Below w.heap.size w W) :
    Calls Tryz.prog 88 #[.agg #[.bool a.neg, A, B], .agg #[.bool b.neg, A', B']] W fun e w' => e = .returned (.bool (sameB a b)) ∧ Below W.heap.size W w' := by
  have HN : Hid (∀ W', Below w.heap.size w W' → Calls Tryz.prog 134 #[A, A'] W' fun e w' => e = .returned (.bool (eqB a.num b.num)) ∧ Below W'.heap.size W' w') := fun W' hb => (equal_any a.num b.num A A' W' (h1.to hb) (h3.to hb)).mono fun e w' q => ⟨q.1, by obtain ⟨m, rfl⟩ := q.2; exact below_drewN (Below.refl _ _) _⟩
  have HD : Hid (∀ W', Below w.heap.size w W' → Calls Tryz.prog 134 #[B, B'] W' fun e w' => e = .returned (.bool (eqB a.den b.den)) ∧ Below W'.heap.size W' w') := fun W' hb => (equal_any a.den b.den B B' W' (h2.to hb) (h4.to hb)).mono fun e w' q => ⟨q.1, by obtain ⟨m, rfl⟩ := q.2; exact below_drewN (Below.refl _ _) _⟩
  have HWB := Lib.hid hW
  have HS : Hid (sameB a b = ((a.neg == b.neg) && (eqB a.num b.num && eqB a.den b.den))) := rfl
  obtain ⟨A1, n1, rfl, _⟩ := h1
  obtain ⟨B1, m1, rfl, _⟩ := h2
  obtain ⟨A2, n2, rfl, _⟩ := h3
  obtain ⟨B2, m2, rfl, _⟩ := h4
  generalize sameB a b = sb at *
  generalize eqB a.num b.num = e1 at *
  generalize eqB a.den b.den = e2 at *
  generalize a.num.length = l1 at *
  generalize a.den.length = l2 at *
  generalize b.num.length = l3 at *
  generalize b.den.length = l4 at *
  generalize a.neg = ng1 at *
  generalize b.neg = ng2 at *
  have HB0 : Hid (Below W.heap.size W ((W.alloc (.cells #[.bool ng1, .slice A1 l1 n1, .slice B1 l2 m1] 24)).alloc (.cells #[.bool ng2, .slice A2 l3 n2, .slice B2 l4 m2] 24))) := below_pair W _ _
  have HK0 : Hid (Blk ((W.alloc (.cells #[.bool ng1, .slice A1 l1 n1, .slice B1 l2 m1] 24)).alloc (.cells #[.bool ng2, .slice A2 l3 n2, .slice B2 l4 m2] 24)) W.heap.size 24 #[.bool ng1, .slice A1 l1 n1, .slice B1 l2 m1]) := (Blk.new W _ _).alloc _
  have HK1 : Hid (Blk ((W.alloc (.cells #[.bool ng1, .slice A1 l1 n1, .slice B1 l2 m1] 24)).alloc (.cells #[.bool ng2, .slice A2 l3 n2, .slice B2 l4 m2] 24)) (W.heap.size + 1) 24 #[.bool ng2, .slice A2 l3 n2, .slice B2 l4 m2]) := blk_2nd W _ _
  clear hW
  go_enter Tryz.func88, Tryz.ntmps88
  by_cases hng : ng1 = ng2
  · have hb : (ng1 == ng2) = true := by simp [hng]
    have HS1 : Hid (sb = (e1 && e2)) := by have := HS.out; rw [hb] at this; show _ = _; simpa using this
    clear HS hng
    go_wp2_with fail
    refine (HN.out _ (by exact HWB.out.trans (HB0.out.mono HWB.out.size))).mono ?_
    rintro e w1 ⟨rfl, hb1⟩
    have HB1 : Hid (Below W.heap.size W w1) := HB0.out.trans (hb1.mono HB0.out.size)
    have k2 := (HK0.out.to hb1).cell 2
    have k3 := (HK1.out.to hb1).cell 2
    simp only [List.getElem?_toArray, List.getElem?_cons_zero, List.getElem?_cons_succ] at k2 k3
    clear hb1 HB0 HK0 HK1 HN
    cases e1 with
    | true =>
      have HS2 : Hid (sb = e2) := by have := HS1.out; show _ = _; simpa using this
      clear HS1
      go_wp2_with fail
      refine (HD.out _ (by exact HWB.out.trans (HB1.out.mono HWB.out.size))).mono ?_
      rintro e w2 ⟨rfl, hb2⟩
      have HB2 : Hid (Below W.heap.size W w2) := HB1.out.trans (hb2.mono HB1.out.size)
      clear hb2 HB1 k2 k3
      obtain rfl := HS2.out
      go_wp2_with fail
      go_ret
      exact ⟨rfl, HB2.out⟩
    | false =>
      have HS2 : Hid (sb = false) := by have := HS1.out; show _ = _; simpa using this
      clear HS1
      obtain rfl := HS2.out
      go_wp2_with fail
      go_ret
      exact ⟨rfl, HB1.out⟩
  · have hb : (ng1 == ng2) = false := beq_eq_false_iff_ne.2 hng
    have HS1 : Hid (sb = false) := by have := HS.out; rw [hb] at this; show _ = _; simpa using this
    obtain rfl := HS1.out
    clear HS hng HS1
    go_wp2_with fail
    go_ret
    exact ⟨rfl, HB0.out⟩
def Tm.hd : Tm → Tm → Bool
  | .mk k _ s n args, .mk k' _ s' n' args' => decide (k = k' ∧ s.toList = s'.toList ∧ args.length = args'.length ∧ (k = 2 → sameB n n' = true))
def Tm.args : Tm → List Tm
  | .mk _ _ _ _ args => args
mutual
def Tm.mat : Tm → Tm → List (Int × Tm) → Option (List (Int × Tm))
  | .mk k v s n args, t, bs => if k = 1 then (match fnd bs v with | none => some (insK (v, t) bs) | some x => if x.cmp t = 0 then some bs else none) else if (Tm.mk k v s n args).hd t = true then matL args t.args bs else none
def matL : List Tm → List Tm → List (Int × Tm) → Option (List (Int × Tm))
  | p :: ps, t :: ts, bs => match p.mat t bs with | some b => matL ps ts b | none => none
  | _, _, bs => some bs
end
theorem matL_at {ps ts : List Tm} {j : Nat} (hp : j < ps.length) (ht : j < ts.length) (bs : List (Int × Tm)) : matL (ps.drop j) (ts.drop j) bs = match (ps[j]).mat ts[j] bs with | some b => matL (ps.drop (j + 1)) (ts.drop (j + 1)) b | none => none := by
  rw [List.drop_eq_getElem_cons hp, List.drop_eq_getElem_cons ht, matL]
theorem matL_end {ps ts : List Tm} {j : Nat} (hp : ps.length ≤ j) (bs : List (Int × Tm)) : matL (ps.drop j) (ts.drop j) bs = some bs := by
  rw [List.drop_eq_nil_of_le hp]
  cases ts.drop j <;> rfl
theorem fnd_ins {bs : List (Int × Tm)} {v : Int} (h : fnd bs v = none) (t : Tm) (u : Int) : fnd (insK (v, t) bs) u = if u = v then some t else fnd bs u := by
  induction bs with
  | nil =>
    by_cases e : v = u
    · subst e; simp [insK, fnd]
    · have e' : ¬ u = v := fun q => e q.symm
      simp [insK, fnd, e, e']
  | cons y r ih =>
    have e1 : ¬ y.1 = v := fun q => by simp [fnd, q] at h
    have h2 : fnd r v = none := by simpa [fnd, e1] using h
    have ih := ih h2
    rw [insK]
    split
    · by_cases e : v = u
      · subst e; simp [fnd]
      · have e' : ¬ u = v := fun q => e q.symm
        simp [fnd, e, e']
    · by_cases e : y.1 = u
      · subst e
        simp [fnd, e1]
      · have e2 : fnd (y :: insK (v, t) r) u = fnd (insK (v, t) r) u := by simp [fnd, e]
        have e3 : fnd (y :: r) u = fnd r u := by simp [fnd, e]
        rw [e2, e3, ih]
def Vld (bs : List (Int × Tm)) : Prop := ∀ v x, fnd bs v = some x → x.err0 = 0
theorem Vld.nil : Vld [] := fun v x h => by simp [fnd] at h
theorem Vld.ins {bs : List (Int × Tm)} (h : Vld bs) {v : Int} (hn : fnd bs v = none) {t : Tm} (ht : t.err0 = 0) : Vld (insK (v, t) bs) := fun u x hx => by
  rw [fnd_ins hn] at hx
  by_cases e : u = v
  · rw [if_pos e] at hx; cases hx; exact ht
  · rw [if_neg e] at hx; exact h u x hx
end Go.Proofs.YtkfnpcilanheiaaGreat
