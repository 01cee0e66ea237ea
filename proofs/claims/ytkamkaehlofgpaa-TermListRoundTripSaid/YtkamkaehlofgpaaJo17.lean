/-  -/
import Derived.Test.YtkamkaehlofgpaaJo3
import Derived.Test.YtkamkaehlofgpaaJo9
import Derived.Test.YtkamkaehlofgpaaJo16
set_option linter.unusedVariables false
set_option linter.unusedSimpArgs false
/- term.nodes, term.Check. -/
namespace Go.Proofs.Ytkamkaehlofgpaa
open Go.RowKit NumB
set_option linter.unusedVariables false
set_option linter.unusedSimpArgs false

mutual
/-- The first error in preorder. -/
def Tm.err0 : Tm → Int
  | .mk k v s n args => if nodeE k v s n.neg n.num.length n.den.length n.err args.length = 0 then errL args else nodeE k v s n.neg n.num.length n.den.length n.err args.length
def errL : List Tm → Int
  | [] => 0
  | t :: l => if t.err0 = 0 then errL l else t.err0
end
theorem errL_snoc (l : List Tm) (t : Tm) : errL (l ++ [t]) = if errL l = 0 then t.err0 else errL l := by
  induction l with
  | nil => simp [errL]; omega
  | cons x l ih =>
    simp only [List.cons_append, errL, ih]
    by_cases h : x.err0 = 0 <;> simp [h]
theorem errL_take (l : List Tm) {j : Nat} (hj : j < l.length) (h : errL (l.take j) = 0) : errL (l.take (j + 1)) = (l[j]).err0 := by rw [take_succ_get l hj, errL_snoc, if_pos h]
theorem errL_stop (l : List Tm) {j : Nat} (hj : j < l.length) (h : errL (l.take j) = 0) (hne : (l[j]).err0 ≠ 0) : errL l = (l[j]).err0 := by
  have h1 := errL_take l hj h
  have : ∀ (k : Nat), errL (l.take (j + 1 + k)) = (l[j]).err0 := fun k => by
    induction k with
    | zero => exact h1
    | succ k ih =>
      by_cases hk : j + 1 + k < l.length
      · rw [← Nat.add_assoc, take_succ_get l hk, errL_snoc, ih, if_neg hne]
      · rw [List.take_of_length_le (by omega)] at ih ⊢
        exact ih
  have h2 := this l.length
  rwa [List.take_of_length_le (by omega)] at h2
theorem nodeE_bd (k v : Int) (s : ByteArray) (ng : Bool) (l1 l2 : Nat) (er : Int) (na : Nat) : 0 ≤ nodeE k v s ng l1 l2 er na ∧ nodeE k v s ng l1 l2 er na ≤ 3 := by
  unfold nodeE
  repeat' split
  all_goals omega
mutual
theorem Tm.err0_bd : (t : Tm) → 0 ≤ t.err0 ∧ t.err0 ≤ 3
  | .mk k v s n args => by
    have h1 := nodeE_bd k v s n.neg n.num.length n.den.length n.err args.length
    have h2 := errL_bd args
    unfold Tm.err0
    split <;> assumption
theorem errL_bd : (l : List Tm) → 0 ≤ errL l ∧ errL l ≤ 3
  | [] => by simp [errL]
  | t :: l => by
    have h1 := Tm.err0_bd t
    have h2 := errL_bd l
    unfold errL
    split <;> assumption
end

set_option maxRecDepth 100000 in
set_option maxHeartbeats 3200000 in
theorem nodes_any {w : World} {t : Tm} {cs : List Value} (h : TC w t cs) : ∀ (W : World), Below w.heap.size w W →
    Calls Try.prog 66 #[.agg cs.toArray] W fun e W' => e = .returned (.int .i64 t.err0) ∧ Below W.heap.size W W' := by
  induction h with
  | mk k v s n args A B Ar cap cs hk hv hs hA hB hn hcap hm hr ha ih =>
    intro W hW
    have HND : Hid (∀ W' : World, Below w.heap.size w W' → Calls Try.prog 75 #[.agg #[.int .i64 k, .int .i64 v, .string s, .bool n.neg, A, B, .slice Ar args.length cap]] W' fun e w' => e = .returned (.int .i64 (nodeE k v s n.neg n.num.length n.den.length n.err args.length)) ∧ Below W'.heap.size W' w') := fun W' hb => node_any ((TC.mk k v s n args A B Ar cap cs hk hv hs hA hB hn hcap hm hr ha).to hb)
    have HR := Lib.hid hr
    have HA := Lib.hid ha
    have IH := Lib.hid ih
    have HE0 : Hid ((Tm.mk k v s n args).err0 = if nodeE k v s n.neg n.num.length n.den.length n.err args.length = 0 then errL args else nodeE k v s n.neg n.num.length n.den.length n.err args.length) := by unfold Hid; rw [Tm.err0]
    have hnb := nodeE_bd k v s n.neg n.num.length n.den.length n.err args.length
    unfold maxLen at hm
    have HWB := Lib.hid hW
    obtain ⟨A1, q1, rfl, _⟩ := hA
    obtain ⟨B1, q2, rfl, _⟩ := hB
    generalize (Tm.mk k v s n args).err0 = e0 at *
    generalize nodeE k v s n.neg n.num.length n.den.length n.err args.length = ne at *
    generalize n.neg = ng at *
    generalize n.num.length = m1 at *
    generalize n.den.length = m2 at *
    clear hr ha ih hn hk hv hs hW
    obtain ⟨l, hl⟩ : ∃ l, args.length = l := ⟨_, rfl⟩
    rw [hl] at hcap HND ⊢
    have HL := Lib.hid hl
    clear hl
    have HBA := Lib.hid (below_one W (.cells #[.int .i64 k, .int .i64 v, .string s, .bool ng, .slice A1 m1 q1, .slice B1 m2 q2, .slice Ar l cap] 27))
    have HKA := Lib.hid (Blk.new W 27 #[.int .i64 k, .int .i64 v, .string s, .bool ng, .slice A1 m1 q1, .slice B1 m2 q2, .slice Ar l cap])
    go_enter Try.func66, Try.ntmps66
    go_wp2_with fail
    refine (HND.out _ (by exact HWB.out.trans (HBA.out.mono HWB.out.size))).mono ?_
    rintro e w1 ⟨rfl, hb1⟩
    have HB1 := Lib.hid (HBA.out.trans (hb1.mono HBA.out.size))
    have c6 := (HKA.out.to hb1).cell 6
    simp only [List.getElem?_toArray, List.getElem?_cons_zero, List.getElem?_cons_succ] at c6
    clear hb1
    by_cases hne : ne = 0
    rotate_left
    · have hz : (ne != 0) = true := by rw [bne_iff_ne]; exact hne
      have HR0 : Hid (e0 = ne) := by unfold Hid; rw [HE0.out, if_neg hne]
      go_wp2_with fail
      go_ret
      rw [HR0.out]
      exact ⟨rfl, HB1.out⟩
    have hz : (ne != 0) = false := by rw [hne]; rfl
    have HR0 : Hid (e0 = errL args) := by unfold Hid; rw [HE0.out, if_pos hne]
    clear hne hnb HE0
    go_wp2_with fail
    go_loopg [15] l (fun gk s15 wr => ∃ j : Nat, gk + j = l ∧ s15 = .int .i64 (j : Int) ∧ Hid (errL (args.take j) = 0) ∧ Hid (Below W.heap.size W wr))
    case atStart => exact ⟨0, by omega, rfl, by unfold Hid; rw [List.take_zero]; rfl, HB1.out⟩
    case round =>
      obtain ⟨j, hgj, rfl, HC, HB⟩ := hrel
      by_cases hj : j < l
      · have hja : j < args.length := by rw [HL.out]; exact hj
        have HBW := HWB.out.trans (HB.out.mono HWB.out.size)
        obtain ⟨b, o, k', v', s', ng', A2, n2, c2, B2, m3, d2, Xr, xl, xc, hAr, hcs, hlt, e0', e1, e2, e3, e4, e5, e6⟩ := arg_cells HR.out HA.out HBW hja
        subst hAr
        have HCALL : Hid (∀ W', Below wr.heap.size wr W' → Calls Try.prog 66 #[.agg #[.int .i64 k', .int .i64 v', .string s', .bool ng', .slice A2 n2 c2, .slice B2 m3 d2, .slice Xr xl xc]] W' fun e w' => e = .returned (.int .i64 (args[j]).err0) ∧ Below W'.heap.size W' w') := fun W' hb => by
          have := IH.out j hja W' (HBW.trans (hb.mono HBW.size))
          rw [hcs] at this
          exact this
        have hbd := Tm.err0_bd args[j]
        have HT := Lib.hid (fun h => errL_stop args hja HC.out h)
        have HN := Lib.hid (errL_take args hja HC.out)
        generalize (args[j]).err0 = ej at *
        go_wp2_with fail
        refine (HCALL.out _ (by exact below_one _ _)).mono ?_
        rintro e w3 ⟨rfl, hb⟩
        have HB3 := Lib.hid (HB.out.trans (((below_one wr (.cells #[.int .i64 k', .int .i64 v', .string s', .bool ng', .slice A2 n2 c2, .slice B2 m3 d2, .slice Xr xl xc] 27)).trans (hb.mono (below_one wr _).size)).mono HB.out.size))
        clear hb e0' e1 e2 e3 e4 e5 e6 HCALL
        by_cases he : ej = 0
        · have hz : (ej != 0) = false := by rw [he]; rfl
          have HN2 : Hid (errL (args.take (j + 1)) = 0) := by unfold Hid; rw [HN.out, he]
          go_wp2_with fail
          go_roundg (gk - 1)
          case measure => omega
          case rel => exact ⟨j + 1, by omega, by go_num, HN2, HB3.out⟩
        · have hz : (ej != 0) = true := by rw [bne_iff_ne]; exact he
          have HR1 : Hid (e0 = ej) := by unfold Hid; rw [HR0.out]; exact HT.out he
          go_wp2_with fail
          go_ret
          rw [HR1.out]
          exact ⟨rfl, HB3.out⟩
      · obtain rfl : j = l := by omega
        have HR1 : Hid (e0 = 0) := by unfold Hid; rw [HR0.out]; have h := HC.out; rw [List.take_of_length_le (by rw [HL.out]; exact Nat.le_refl _)] at h; exact h
        go_wp2_with fail
        go_ret
        rw [HR1.out]
        exact ⟨rfl, HB.out⟩

/-- What Check answers. -/
def Tm.check (t : Tm) : Int := if 10000 < t.count then 3 else t.err0
set_option maxRecDepth 100000 in
set_option maxHeartbeats 3200000 in
theorem tmCheck_any {w : World} {t : Tm} {cs : List Value} (h : TC w t cs) (W : World) (hW : Below w.heap.size w W) :
    Calls Try.prog 50 #[.agg cs.toArray] W fun e W' => e = .returned (.int .i64 t.check) ∧ Below W.heap.size W W' := by
  have HS : Hid (∀ W', Below w.heap.size w W' → Calls Try.prog 65 #[.agg cs.toArray, .int .i64 10000] W' fun e w' => e = .returned (.int .i64 ((min t.count 10001 : Nat) : Int)) ∧ Below W'.heap.size W' w') := fun W' hb => size_any h W' 10000 hb (by omega)
  have HN : Hid (∀ W', Below w.heap.size w W' → Calls Try.prog 66 #[.agg cs.toArray] W' fun e w' => e = .returned (.int .i64 t.err0) ∧ Below W'.heap.size W' w') := fun W' hb => nodes_any h W' hb
  have HC : Hid (t.check = if 10000 < t.count then 3 else t.err0) := rfl
  have HW := Lib.hid hW
  obtain ⟨k, v, s, ng, A1, n1, c1, B1, m1, d1, Ar, l, cap, hcs⟩ := h.form
  subst hcs
  generalize t.check = tc at *
  generalize t.err0 = te at *
  generalize t.count = n at *
  clear h hW
  have HBA := Lib.hid (below_one W (.cells #[.int .i64 k, .int .i64 v, .string s, .bool ng, .slice A1 n1 c1, .slice B1 m1 d1, .slice Ar l cap] 27))
  have HKA := Lib.hid (Blk.new W 27 #[.int .i64 k, .int .i64 v, .string s, .bool ng, .slice A1 n1 c1, .slice B1 m1 d1, .slice Ar l cap])
  go_enter Try.func50, Try.ntmps50
  go_wp2_with fail
  refine (HS.out _ (by exact HW.out.trans (HBA.out.mono HW.out.size))).mono ?_
  rintro e w1 ⟨rfl, hb1⟩
  have HB1 := Lib.hid (HBA.out.trans (hb1.mono HBA.out.size))
  have hk := HKA.out.to hb1
  have c0 := hk.cell 0
  have c1' := hk.cell 1
  have c2 := hk.cell 2
  have c3 := hk.cell 3
  have c4 := hk.cell 4
  have c5 := hk.cell 5
  have c6 := hk.cell 6
  simp only [List.getElem?_toArray, List.getElem?_cons_zero, List.getElem?_cons_succ] at c0 c1' c2 c3 c4 c5 c6
  clear hb1 hk
  obtain ⟨z, hz, hzn⟩ : ∃ z : Nat, (min n 10001 : Nat) = z ∧ (10000 < z ↔ 10000 < n) := ⟨_, rfl, by omega⟩
  rw [hz]
  clear hz
  by_cases hn : 10000 < z
  · have HR : Hid (tc = 3) := by unfold Hid; rw [HC.out, if_pos (hzn.1 hn)]
    clear hzn
    go_wp2_with fail
    go_ret
    rw [HR.out]
    exact ⟨rfl, HB1.out⟩
  · have HR : Hid (tc = te) := by unfold Hid; rw [HC.out, if_neg (fun h => hn (hzn.2 h))]
    clear hzn
    go_wp2_with fail
    refine (HN.out _ (by exact HW.out.trans (HB1.out.mono HW.out.size))).mono ?_
    rintro e w2 ⟨rfl, hb2⟩
    go_wp2_with fail
    go_ret
    rw [HR.out]
    exact ⟨rfl, HB1.out.trans (hb2.mono HB1.out.size)⟩
end Go.Proofs.Ytkamkaehlofgpaa
/- append of some numbers to a slice of the call's own, as a law for the walk. Conditions: at most a million numbers. -/
namespace Go.Proofs.Ytkamkaehlofgpaa
open Go.RowKit NumB
set_option linter.unusedVariables false
set_option linter.unusedSimpArgs false

theorem news_block {w : World} {k : IntKind} {T : TypeId} {ys : List Nat} : ∀ j u, (cellsN k ys)[j]? = some u → (w.alloc (.cells (cellsN k ys).toArray T)).cell? ((⟨w.heap.size, 0, none⟩ : Addr).add j) = some u := by
  intro j u hu
  have : (⟨w.heap.size, 0, none⟩ : Addr).add j = ⟨w.heap.size, j, none⟩ := by unfold Addr.add; split <;> simp_all
  rw [this, cell_of_row _ w.heap.size j (cellsN k ys).toArray T (0, 0) (heap_alloc_new w _)]
  simpa using hu

theorem wpList_push {P : Program} {ops : Array Oper} {rest : List Oper} {o : Oper} {a : Act} {Q : Exit → Act → World → Prop} (w : World) (hgd : o.guard = none) (s x : Operand) (t : TypeId)
    (ho : o.op = .call { callee := .builtin .append, args := #[s, x], argTypes := #[t, t] })
    (k : IntKind) (T : TypeId) (bytes : Nat) (ht : P.underlying t = some (.slice T)) (hinfo : (P.info? T).map (fun i => (i.zero, i.size, i.bytes)) = some (some (.int k 0), 1, bytes)) (hb8 : bytes ≤ 8)
    (B : Nat) (v : Value) (xs ys : List Nat) (hs : a.eval s = v) (hx : a.eval x = .slice (some ⟨w.heap.size, 0, none⟩) ys.length ys.length) (hown : OwnV k T w B v xs) (hn : xs.length + ys.length ≤ 1000000) (hB : B ≤ w.heap.size) (C : Array Value) (hC : C = (cellsN k ys).toArray)
    (h : ∀ v' w', OwnV k T w' B v' (xs ++ ys) → Below B w w' → wpList P ops Q rest (a.put o.dst v') w') : wpList P ops Q (o :: rest) a (w.alloc (.cells C T)) := by
  subst hC
  obtain ⟨i0, hi0, hz0, hz1, hz2⟩ := info_parts hinfo
  refine wpList_append_own_at _ hgd s x t ho B T i0 (.int k 0) 1 bytes ht hi0 hz0 hz1 hz2 rfl (by decide) v xs.length (cellsN k xs) hs (hown.alloc _) ⟨w.heap.size, 0, none⟩ ys.length ys.length (cellsN k ys) hx (by rw [cellsN_len]; omega) news_block cellsN_one (by unfold maxLen; omega) ?_ (by simp; omega) ?_
  · have : (xs.length + ys.length) * bytes ≤ 1000000 * 8 := Nat.mul_le_mul hn hb8
    omega
  · intro v' w' h1 h2 _ _
    refine h v' w' ?_ (((Below.refl B w).alloc hB _).grown h2 (by simp; omega) (fun g hg => hown.blk g hg))
    unfold OwnV
    rw [List.length_append, ← cellsN_append]
    exact h1

end Go.Proofs.Ytkamkaehlofgpaa
/- fetterlockref1: trim, digit, bit, natOf. Conditions: at most 100000 digits. -/
namespace Go.Proofs.Ytkamkaehlofgpaa
open Go.RowKit NumB
set_option linter.unusedVariables false
set_option linter.unusedSimpArgs false

theorem rtrim_end {xs : List Nat} {g : Nat} (ho : Ok W16 xs) (hg : g ≤ xs.length) (hv : val W16 (xs.take g) = val W16 xs) (hl : g = 0 ∨ xs.getD (g - 1) 0 ≠ 0) : xs.take g = digs W16 (val W16 xs) := by
  refine (digs_eq W16_gt (ho.take g) (NumB.top_of_last ?_) hv).symm
  have hlen : (xs.take g).length = g := by rw [List.length_take]; omega
  rcases hl with rfl | hl
  · left; rfl
  · rcases Nat.eq_zero_or_pos g with rfl | h0
    · left; rfl
    · right
      rw [hlen, List.getD_eq_getElem?_getD, List.getElem?_take, if_pos (by omega), ← List.getD_eq_getElem?_getD]
      exact hl

set_option maxRecDepth 100000 in
set_option maxHeartbeats 400000 in
theorem rtrim_any (xs : List Nat) (v : Value) (w : World) (h : Sl .i64 w v xs) (ho : Ok W16 xs) :
    Calls Try.prog 44 #[v] w fun e w' => ∃ v', e = .returned v' ∧ Nat16 w v' (val W16 xs) ∧ w = w' := by
  obtain ⟨A, c, rfl, hc, hm, hr⟩ := h
  have HM := Lib.hid hm
  unfold maxLen at hm
  generalize hn : xs.length = n at *
  have HL := Lib.hid hn
  have HR := Lib.hid hr
  clear hr hn
  have HO := Lib.hid ho
  clear ho
  go_enter Try.func44, Try.ntmps44
  go_wp2
  go_loopg [0] n (fun g v wr => g ≤ n ∧ v = .slice A g c ∧ Hid (val W16 (xs.take g) = val W16 xs) ∧ w = wr)
  case atStart => exact ⟨Nat.le_refl _, rfl, by rw [← HL.out, List.take_length]; rfl, rfl⟩
  case round =>
    obtain ⟨hg, rfl, HV, rfl⟩ := hrel
    by_cases h0 : 0 < gk
    · obtain ⟨b, o, x, rfl, hb, hxe, hx⟩ := HR.out.at_ (i := gk - 1) (by omega)
      have HX := Lib.hid hxe
      have hxb : x < 65536 := by rw [← hxe]; exact HO.out.getD (by decide) _
      clear hxe
      by_cases hz : x = 0
      · subst hz
        go_wp2
        go_roundg (gk - 1)
        case measure => omega
        case rel =>
          refine ⟨by omega, rfl, ?_, rfl⟩
          have h := val_take_succ W16 xs (gk - 1)
          rw [show gk - 1 + 1 = gk from by omega, HX.out, Nat.mul_zero, Nat.add_zero] at h
          exact h.symm.trans HV.out
      · have HZ := Lib.hid hz
        have hne : ((x : Int) == 0) = false := beq_eq_false_iff_ne.2 (by omega)
        clear hz
        go_wp2
        go_ret
        exact ⟨_, rfl, Sl.of_rd HR.out hg hc HM.out (rtrim_end HO.out (by rw [HL.out]; exact hg) HV.out (.inr (by rw [HX.out]; exact HZ.out))), rfl⟩
    · go_wp2
      go_ret
      exact ⟨_, rfl, Sl.of_rd HR.out hg hc HM.out (rtrim_end HO.out (by rw [HL.out]; exact hg) HV.out (.inl (by omega))), rfl⟩

theorem rdigit_any (xs : List Nat) (v : Value) (i : Nat) (w : World) (h : Sl .i64 w v xs) (hi : i < 9223372036854775807) :
    Calls Try.prog 45 #[v, .int .i64 (i : Int)] w fun e w' => e = .returned (.int .i64 ((xs.getD i 0 : Nat) : Int)) ∧ w = w' := by
  obtain ⟨A, c, rfl, hc, hm, hr⟩ := h
  unfold maxLen at hm
  generalize hn : xs.length = n at *
  have HL := Lib.hid hn
  clear hn
  by_cases hin : i < n
  · obtain ⟨b, o, x, rfl, hb, hxe, hx⟩ := hr.at_ hin
    rw [hxe]
    clear hr hxe
    go_enter Try.func45, Try.ntmps45
    go_wp2
    go_ret
    exact ⟨rfl, rfl⟩
  · rw [getD_ge (by rw [HL.out]; omega)]
    clear hr
    go_enter Try.func45, Try.ntmps45
    go_wp2
    go_ret
    exact ⟨rfl, rfl⟩

theorem and_one_i64 (y : Nat) (hy : y < 9223372036854775808) : bits .and .i64 (y : Int) 1 = ((y % 2 : Nat) : Int) := by
  have hx : y &&& 1 < 2 ^ 63 := Nat.and_lt_two_pow _ (by omega)
  show IntKind.i64.wrap ((BitVec.ofInt 64 (y : Int) &&& BitVec.ofInt 64 1).toNat : Int) = _
  have e : (BitVec.ofInt 64 (y : Int)).toNat = y := by
    rw [BitVec.ofInt_natCast, BitVec.toNat_ofNat]; exact Nat.mod_eq_of_lt (by omega)
  rw [BitVec.toNat_and, e, show (BitVec.ofInt 64 1).toNat = 1 from rfl, Nat.and_one_is_mod, IntKind.wrap_i64]
  omega

/-- The bit of a number in base 2^16 digits. -/
theorem bit_val (x i : Nat) : (digs W16 x).getD (i / 16) 0 / 2 ^ (i % 16) % 2 = x / 2 ^ i % 2 := by
  have h1 := val_split W16 (digs W16 x) (i / 16)
  have h2 := val_drop_step W16 (digs W16 x) (i / 16)
  rw [val_digs W16_gt, h2] at h1
  have hd : (digs W16 x).getD (i / 16) 0 = x / W16 ^ (i / 16) % W16 := by
    rcases Nat.lt_or_ge (i / 16) (digs W16 x).length with hl | hl
    · have h3 := val_take_lt (ok_digs W16_gt x) (j := i / 16) (by omega)
      have e : x / W16 ^ (i / 16) = (digs W16 x).getD (i / 16) 0 + W16 * val W16 ((digs W16 x).drop (i / 16 + 1)) := by
        have this : x / W16 ^ (i / 16) = (val W16 ((digs W16 x).take (i / 16)) + W16 ^ (i / 16) * ((digs W16 x).getD (i / 16) 0 + W16 * val W16 ((digs W16 x).drop (i / 16 + 1)))) / W16 ^ (i / 16) := congrArg (fun z => z / W16 ^ (i / 16)) h1
        rw [this, Nat.add_mul_div_left _ _ (Nat.pow_pos (by decide)), Nat.div_eq_of_lt h3, Nat.zero_add]
      rw [e, Nat.add_mul_mod_self_left, Nat.mod_eq_of_lt ((ok_digs W16_gt x).getD (by decide) _)]
    · rw [getD_ge hl]
      have h4 : x < W16 ^ (i / 16) := Nat.lt_of_lt_of_le (digs_lt W16_gt) (Nat.pow_le_pow_right (by decide) hl)
      rw [Nat.div_eq_of_lt h4]; rfl
  have e : x / 2 ^ i = x / W16 ^ (i / 16) / 2 ^ (i % 16) := by
    rw [Nat.div_div_eq_div_mul]
    congr 1
    rw [show W16 = 2 ^ 16 from rfl, ← Nat.pow_mul, ← Nat.pow_add]
    congr 1
    omega
  rw [hd, e]
  generalize x / W16 ^ (i / 16) = z
  have hm : i % 16 < 16 := Nat.mod_lt _ (by omega)
  generalize i % 16 = k at hm
  have e2 : W16 = 2 ^ k * (2 * 2 ^ (15 - k)) := by
    rw [← Nat.mul_assoc, Nat.mul_comm (2 ^ k) 2, ← Nat.pow_succ', ← Nat.pow_add, show k + 1 + (15 - k) = 16 from by omega]; rfl
  rw [e2, Nat.mod_mul_right_div_self, Nat.mod_mul_right_mod]

set_option maxRecDepth 100000 in
theorem rbit_any (x i : Nat) (v : Value) (w : World) (h : Nat16 w v x) (hi : i < 9223372036854775807) :
    Calls Try.prog 46 #[v, .int .i64 (i : Int)] w fun e w' => e = .returned (.int .i64 ((x / 2 ^ i % 2 : Nat) : Int)) ∧ w = w' := by
  have H := Lib.hid h
  have HB := Lib.hid (bit_val x i)
  have hd : (digs W16 x).getD (i / 16) 0 < 65536 := (ok_digs W16_gt x).getD (by decide) _
  obtain ⟨k, s, hk, hs, hs16, HN⟩ : ∃ k s : Nat, (i : Int) / 16 = (k : Int) ∧ (i : Int) % 16 = (s : Int) ∧ s < 16 ∧ Hid (i / 16 = k ∧ i % 16 = s) := ⟨i / 16, i % 16, by omega, by omega, by omega, rfl, rfl⟩
  clear h
  go_enter Try.func46, Try.ntmps46
  go_wp2_with fail
  refine (rdigit_any (digs W16 x) v k _ H.out (by have := HN.out.1; omega)).mono ?_
  rintro e w1 ⟨rfl, rfl⟩
  rw [HN.out.1] at hd
  obtain ⟨d, hde⟩ : ∃ d, (digs W16 x).getD k 0 = d := ⟨_, rfl⟩
  rw [hde] at hd ⊢
  have HD := Lib.hid hde
  have hand : bits .and .i64 ((d : Int) / 2 ^ s) 1 = ((d / 2 ^ s % 2 : Nat) : Int) := by
    have e : (d : Int) / 2 ^ s = ((d / 2 ^ s : Nat) : Int) := by rw [Int.natCast_ediv, Int.natCast_pow]; rfl
    rw [e]
    exact and_one_i64 _ (by have : d / 2 ^ s ≤ d := Nat.div_le_self _ _; omega)
  clear hde
  go_wp2
  go_ret
  refine ⟨ret_i ?_, rfl⟩
  have h := HB.out
  rw [HN.out.1, HN.out.2, HD.out] at h
  rw [← h, Int.natCast_emod, Int.natCast_ediv, Int.natCast_pow]; rfl

theorem info_i64 : (Try.prog.info? 3).map (fun i => (i.zero, i.size, i.bytes)) = some (some (.int .i64 0), 1, 8) := by kernel_rfl

theorem and_low16 (x : Nat) (hx : x < 4294967296) : bits .and .u32 (x : Int) 65535 = ((x % 65536 : Nat) : Int) := by
  have h := u32_and (x : Int) 65535 (by omega) (by omega) (by omega) (by omega)
  rw [Int.toNat_natCast, show (65535 : Int).toNat = 2 ^ 16 - 1 from rfl, Nat.and_two_pow_sub_one_eq_mod] at h
  exact h
theorem val_two16 (out : List Nat) (j lo hi x V : Nat) (hl : out.length = 2 * j) (hv : val W16 out = V) (hx : x = lo + 65536 * hi) : val W16 (out ++ [lo, hi]) = V + W32 ^ j * x := by
  rw [val_append, hv, hl, show W32 = W16 ^ 2 from rfl, Nat.pow_mul, hx]
  simp [W16]

/-- A post: one slice of base 2^16 digits that reads as a natural number. -/
def RPost (w : World) (x : Nat) (e : Ending) (w' : World) : Prop := ∃ v, e = .returned v ∧ Nat16 w' v x ∧ Below w.heap.size w w'

set_option maxRecDepth 100000 in
set_option maxHeartbeats 1600000 in
theorem natOf_sl (xs : List Nat) (va : Value) (w : World) (ha : Sl .u32 w va xs) (ho : Ok W32 xs) (hx : xs.length ≤ 100000) :
    Calls Try.prog 31 #[va] w (RPost w (val W32 xs)) := by
  obtain ⟨A, c, rfl, hc, hm, hr⟩ := ha
  unfold maxLen at hm
  generalize hn : xs.length = n at *
  have HL := Lib.hid hn
  have HR := Lib.hid hr
  have HO := Lib.hid ho
  clear hr hn ho
  go_enter Try.func31, Try.ntmps31
  go_wp2
  go_loopg [8, 3, 5] n (fun gk si so s5 wr => ∃ (j : Nat) (out : List Nat), gk + j = n ∧ si = .int .i64 (j : Int) ∧ Hid (OwnV .i64 3 wr w.heap.size so out) ∧ Hid (out.length = 2 * j ∧ Ok W16 out ∧ val W16 out = val W32 (xs.take j)) ∧ Hid (Below w.heap.size w wr))
  case atStart => exact ⟨0, [], by omega, rfl, OwnV.nil_ _, ⟨rfl, Ok.nil, rfl⟩, Below.refl _ _⟩
  case round =>
    obtain ⟨j, out, hgj, rfl, HS, HV, HB⟩ := hrel
    by_cases hj : j < n
    · obtain ⟨b, o, x, rfl, hb, hxe, hcell⟩ := (HR.out.below HB.out).at_ (i := j) hj
      have hxb : x < 4294967296 := by rw [← hxe]; exact HO.out.getD (by decide) _
      have HX := Lib.hid hxe
      obtain ⟨lo, hi, hand, hshr, hlo, hhi, HE⟩ : ∃ lo hi : Nat, bits .and .u32 (x : Int) 65535 = (lo : Int) ∧ (x : Int) / 65536 = (hi : Int) ∧ lo < 65536 ∧ hi < 65536 ∧ Hid (x = lo + 65536 * hi) :=
        ⟨x % 65536, x / 65536, and_low16 x hxb, by omega, by omega, by omega, by unfold Hid; omega⟩
      clear hxe
      have hlen : out.length + [lo, hi].length ≤ 1000000 := by have := HV.out.1; simp; omega
      have HLEN := Lib.hid hlen
      clear hlen
      go_wp2_with (at_builtin; go_must (refine wpList_push wr rfl _ _ 64 rfl .i64 3 8 Try.underlying64 info_i64 (by decide) w.heap.size _ out [lo, hi] (by rfl) (by rfl) HS.out HLEN.out HB.out.size _ rfl ?_); intro v1 w1 hown1 hb1)
      go_roundg (gk - 1)
      case measure => omega
      case rel =>
        obtain ⟨e1, e2, e3⟩ := HV.out
        refine ⟨j + 1, out ++ [lo, hi], by omega, by go_num, hown1, ⟨by simp; omega, e2.append (Ok.cons hlo (Ok.cons hhi Ok.nil)), ?_⟩, HB.out.trans hb1⟩
        rw [val_take_succ, HX.out]
        exact val_two16 out j lo hi x _ e1 e3 HE.out
    · obtain rfl : j = n := by omega
      clear hgj hj
      go_wp2_with (go_at_call 44; refine (rtrim_any out _ _ HS.out.sl HV.out.2.1).mono ?_; rintro e w' ⟨v', rfl, hn', rfl⟩)
      go_ret
      rw [HV.out.2.2, val_take_all W32 xs (by rw [HL.out]; exact Nat.le_refl _)] at hn'
      exact ⟨_, rfl, hn', HB.out⟩
end Go.Proofs.Ytkamkaehlofgpaa
