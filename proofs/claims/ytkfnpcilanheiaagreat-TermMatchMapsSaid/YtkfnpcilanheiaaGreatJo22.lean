/- The order of terms as a plain function; it is total on valid terms; it is 0 just where the texts are the same. And 2 more texts. -/
import Derived.Test.YtkfnpcilanheiaaGreatShelf
import Derived.Sort.Walk0
import Derived.Laws.ResultCell
import Derived.Test.YtkfnpcilanheiaaGreatJo20
import Derived.Test.YtkfnpcilanheiaaGreatJo21
set_option linter.unusedVariables false
set_option linter.unusedSimpArgs false
set_option maxRecDepth 100000
namespace Go.Proofs.YtkfnpcilanheiaaGreat
open Go.RowKit NumB
def icmp (a b : Int) : Int := if a < b then -1 else if b < a then 1 else 0
theorem icmp_zero (a b : Int) : icmp a b = 0 ↔ a = b := by unfold icmp; split <;> (try split) <;> omega
def lex (a b : Int) : Int := if a ≠ 0 then a else b
theorem lex_zero (a b : Int) : lex a b = 0 ↔ a = 0 ∧ b = 0 := by
  unfold lex
  split
  · omega
  · rename_i h; simp at h; simp [h]
def ucmp (x y : UInt8) : Int := icmp x.toNat y.toNat
theorem cmpB_cons (x y : UInt8) (a b : List UInt8) : Lib.compareBytes (x :: a) (y :: b) = lex (ucmp x y) (Lib.compareBytes a b) := by
  rw [Lib.compareBytes]
  simp only [UInt8.lt_iff_toNat_lt]
  unfold ucmp icmp lex
  by_cases h1 : x.toNat < y.toNat
  · have h2 : (x.toNat : Int) < y.toNat := by omega
    rw [if_pos h1, if_pos h2, if_pos (by decide)]
  · have h2 : ¬ (x.toNat : Int) < y.toNat := by omega
    rw [if_neg h1, if_neg h2]
    by_cases h3 : y.toNat < x.toNat
    · have h4 : (y.toNat : Int) < x.toNat := by omega
      rw [if_pos h3, if_pos h4, if_pos (by decide)]
    · have h4 : ¬ (y.toNat : Int) < x.toNat := by omega
      rw [if_neg h3, if_neg h4, if_neg (by decide)]
theorem ucmp_zero (x y : UInt8) : ucmp x y = 0 ↔ x = y := by
  unfold ucmp
  rw [icmp_zero]
  exact ⟨fun h => UInt8.toNat_inj.1 (by omega), fun h => by rw [h]⟩
theorem cmpB_zero : ∀ (a b : List UInt8), Lib.compareBytes a b = 0 ↔ a = b := by
  intro a
  induction a with
  | nil => intro b; cases b <;> simp [Lib.compareBytes]
  | cons x a ih =>
    intro b
    cases b with
    | nil => simp [Lib.compareBytes]
    | cons y b => rw [cmpB_cons, lex_zero, ucmp_zero, ih, List.cons.injEq]
mutual
def Tm.cmp : Tm → Tm → Int
  | .mk k v s n args, .mk k' v' s' n' args' => lex (icmp k k') (if k = 1 then icmp v v' else if k = 2 then cmpS n n' else lex (icmp args.length args'.length) (lex (Lib.compareBytes s.data.toList s'.data.toList) (cmpTs args args')))
def cmpTs : List Tm → List Tm → Int
  | t :: l, t' :: l' => lex (t.cmp t') (cmpTs l l')
  | _, _ => 0
end
mutual
def Tm.fine : Tm → Prop
  | .mk k v s n args => n.ok ∧ nodeE k v s n.neg n.num.length n.den.length n.err args.length = 0 ∧ fines args
def fines : List Tm → Prop
  | [] => True
  | t :: l => t.fine ∧ fines l
end
theorem fines_of {l : List Tm} (h : ∀ i (hi : i < l.length), (l[i]).fine) : fines l := by
  induction l with
  | nil => rw [fines]; trivial
  | cons x l ih => rw [fines]; exact ⟨h 0 (by simp), ih fun i hi => h (i + 1) (Nat.succ_lt_succ hi)⟩
theorem TC.fine {w : World} {t : Tm} {cs : List Value} (h : TC w t cs) : t.err0 = 0 → t.fine := by
  induction h with
  | mk k v s n args A B Ar cap cs hk hv hs hA hB hn hcap hm hr ha ih =>
    intro he
    obtain ⟨h1, h2⟩ := err0_node he
    rw [Tm.fine]
    exact ⟨hn, h1, fines_of fun i hi => ih i hi (errL_get h2 hi)⟩
theorem num_err {k v : Int} {s : ByteArray} {n : LN} {na : Nat} (h : nodeE k v s n.neg n.num.length n.den.length n.err na = 0) (hk : k = 2) : n.err = 0 := by
  rcases node_parts h with ⟨_, _, _, h, _⟩ | ⟨h, _⟩
  · exact h
  · exact absurd hk h
theorem cmpS_zero {a b : LN} (ha : a.ok) (hb : b.ok) (ea : a.err = 0) (eb : b.err = 0) : cmpS a b = 0 ↔ a = b := by
  rw [cmpS_rat ha hb ea eb, rcmp_zero]
  exact ⟨LN.q_eq ha hb ea eb, fun h => by rw [h]⟩
theorem nanInt_any (a : Int) (w : World) : Calls Tryz.prog 77 #[.int .i64 a] w fun e w' => e = .returned (.bool false) ∧ w' = w := by
  have h : (a != a) = false := by simp
  go_enter Tryz.func77, Tryz.ntmps77
  go_wp2_with fail
  go_ret
  exact ⟨rfl, rfl⟩
theorem nanStr_any (a : ByteArray) (w : World) : Calls Tryz.prog 192 #[.string a] w fun e w' => e = .returned (.bool false) ∧ w' = w := by
  go_enter Tryz.func192, Tryz.ntmps192
  go_wp2_with fail
  go_ret
  exact ⟨by simp, rfl⟩
theorem cmpInt_any (a b : Int) (w : World) : Calls Tryz.prog 29 #[.int .i64 a, .int .i64 b] w fun e w' => e = .returned (.int .i64 (icmp a b)) ∧ w' = w := by
  by_cases h1 : a < b
  · have E : Hid (icmp a b = -1) := by unfold Hid icmp; rw [if_pos h1]
    generalize icmp a b = r at *
    go_enter Tryz.func29, Tryz.ntmps29
    go_wp2_with fail
    refine (nanInt_any _ _).mono ?_
    rintro e w1 ⟨rfl, rfl⟩
    go_wp2_with fail
    refine (nanInt_any _ _).mono ?_
    rintro e w1 ⟨rfl, rfl⟩
    go_wp2_with fail
    obtain rfl := E.out
    go_ret
    exact ⟨rfl, rfl⟩
  · by_cases h2 : b < a
    · have E : Hid (icmp a b = 1) := by unfold Hid icmp; rw [if_neg h1, if_pos h2]
      generalize icmp a b = r at *
      go_enter Tryz.func29, Tryz.ntmps29
      go_wp2_with fail
      refine (nanInt_any _ _).mono ?_
      rintro e w1 ⟨rfl, rfl⟩
      go_wp2_with fail
      refine (nanInt_any _ _).mono ?_
      rintro e w1 ⟨rfl, rfl⟩
      go_wp2_with fail
      obtain rfl := E.out
      go_ret
      exact ⟨rfl, rfl⟩
    · have E : Hid (icmp a b = 0) := by unfold Hid icmp; rw [if_neg h1, if_neg h2]
      generalize icmp a b = r at *
      go_enter Tryz.func29, Tryz.ntmps29
      go_wp2_with fail
      refine (nanInt_any _ _).mono ?_
      rintro e w1 ⟨rfl, rfl⟩
      go_wp2_with fail
      refine (nanInt_any _ _).mono ?_
      rintro e w1 ⟨rfl, rfl⟩
      go_wp2_with fail
      obtain rfl := E.out
      go_ret
      exact ⟨rfl, rfl⟩
theorem cmpB_bd : ∀ (x y : List UInt8), Lib.compareBytes x y = -1 ∨ Lib.compareBytes x y = 0 ∨ Lib.compareBytes x y = 1
  | [], [] => by simp [Lib.compareBytes]
  | _ :: _, [] => by simp [Lib.compareBytes]
  | [], _ :: _ => by simp [Lib.compareBytes]
  | a :: x, b :: y => by
    rw [cmpB_cons]
    have h := cmpB_bd x y
    unfold lex ucmp icmp
    (repeat' split) <;> first | omega | exact h
theorem less_cmp : ∀ (x y : List UInt8), Op.bytesLess x y = decide (Lib.compareBytes x y = -1)
  | [], [] => by simp [Op.bytesLess, Lib.compareBytes]
  | _ :: _, [] => by simp [Op.bytesLess, Lib.compareBytes]
  | [], _ :: _ => by simp [Op.bytesLess, Lib.compareBytes]
  | a :: x, b :: y => by
    rw [Op.bytesLess, less_cmp x y, Lib.compareBytes]
    by_cases h1 : a < b
    · simp [h1]
    · by_cases h2 : b < a
      · have h3 : (a == b) = false := by
          rw [beq_eq_false_iff_ne]
          rintro rfl
          exact h1 h2
        simp [h1, h2, h3]
      · have h3 : a = b := UInt8.toNat_inj.1 (by rw [UInt8.lt_iff_toNat_lt] at h1 h2; omega)
        subst h3
        simp [h1]
theorem str_lt (a b : ByteArray) : Op.bytesLess a.toList b.toList = decide (Lib.compareBytes a.data.toList b.data.toList = -1) := by rw [Lib.toList_data, Lib.toList_data, less_cmp]
theorem str_eq (a b : ByteArray) : (a.toList == b.toList) = decide (Lib.compareBytes a.data.toList b.data.toList = 0) := by
  rw [Lib.toList_data, Lib.toList_data]
  rw [Bool.eq_iff_iff, beq_iff_eq, decide_eq_true_iff, cmpB_zero]
theorem cmpStr_any (a b : ByteArray) (w : World) : Calls Tryz.prog 133 #[.string a, .string b] w fun e w' => e = .returned (.int .i64 (Lib.compareBytes a.data.toList b.data.toList)) ∧ w' = w := by
  have h1 := str_lt a b
  have h2 := str_eq a b
  have hb := cmpB_bd a.data.toList b.data.toList
  generalize Lib.compareBytes a.data.toList b.data.toList = r at *
  rcases hb with rfl | rfl | rfl
  · simp only [decide_true] at h1
    clear h2
    go_enter Tryz.func133, Tryz.ntmps133
    go_wp2_with fail
    refine (nanStr_any _ _).mono ?_
    rintro e w1 ⟨rfl, rfl⟩
    go_wp2_with fail
    refine (nanStr_any _ _).mono ?_
    rintro e w1 ⟨rfl, rfl⟩
    go_wp2_with fail
    go_ret
    exact ⟨rfl, rfl⟩
  · have g1 : Op.bytesLess a.toList b.toList = false := by rw [h1]; decide
    have g2 : (a.toList == b.toList) = true := by rw [h2]; decide
    have h3 : (Op.bytesLess a.toList b.toList || (a.toList == b.toList)) = true := by rw [g1, g2]; rfl
    clear h1 h2
    go_enter Tryz.func133, Tryz.ntmps133
    go_wp2_with fail
    refine (nanStr_any _ _).mono ?_
    rintro e w1 ⟨rfl, rfl⟩
    go_wp2_with fail
    refine (nanStr_any _ _).mono ?_
    rintro e w1 ⟨rfl, rfl⟩
    go_wp2_with fail
    go_ret
    exact ⟨rfl, rfl⟩
  · have g1 : Op.bytesLess a.toList b.toList = false := by rw [h1]; decide
    have g2 : (a.toList == b.toList) = false := by rw [h2]; decide
    have h3 : (Op.bytesLess a.toList b.toList || (a.toList == b.toList)) = false := by rw [g1, g2]; rfl
    clear h1 h2
    go_enter Tryz.func133, Tryz.ntmps133
    go_wp2_with fail
    refine (nanStr_any _ _).mono ?_
    rintro e w1 ⟨rfl, rfl⟩
    go_wp2_with fail
    refine (nanStr_any _ _).mono ?_
    rintro e w1 ⟨rfl, rfl⟩
    go_wp2_with fail
    go_ret
    exact ⟨rfl, rfl⟩
theorem orInt_any (a b : Int) (g : Nat) (w : World) (hk : Blk w g 3 #[.int .i64 a, .int .i64 b]) : Calls Tryz.prog 132 #[.slice (some ⟨g, 0, none⟩) 2 2] w fun e w' => e = .returned (.int .i64 (lex a b)) ∧ w' = w := by
  have c0 := hk.cell 0
  have c1 := hk.cell 1
  simp only [List.getElem?_toArray, List.getElem?_cons_zero, List.getElem?_cons_succ] at c0 c1
  clear hk
  have HZ : Hid (∀ r : Int, r = lex a b ↔ r = if a ≠ 0 then a else b) := fun r => Iff.rfl
  generalize lex a b = r0 at *
  go_enter Tryz.func132, Tryz.ntmps132
  go_wp2_with fail
  go_loopg [8] 2 (fun gk s8 wr => ∃ j : Nat, gk + j = 2 ∧ s8 = .int .i64 (j : Int) ∧ Hid (wr = w ∧ (0 < j → a = 0) ∧ (1 < j → b = 0)))
  case atStart => exact ⟨0, by omega, rfl, rfl, by omega, by omega⟩
  case round =>
    obtain ⟨j, hgj, rfl, HJ⟩ := hrel
    obtain rfl := HJ.out.1
    rcases (by omega : j = 0 ∨ j = 1 ∨ j = 2) with rfl | rfl | rfl
    · by_cases ha : a = 0
      · have h0 : (a != 0) = false := by simp [ha]
        have HA := Lib.hid ha
        clear ha
        go_wp2_with fail
        go_roundg 1
        case measure => omega
        case rel => exact ⟨1, by omega, rfl, rfl, fun _ => HA.out, by omega⟩
      · have h0 : (a != 0) = true := by simp [ha]
        have HA := Lib.hid ha
        clear ha
        go_wp2_with fail
        obtain rfl := (HZ.out a).2 (by rw [if_pos HA.out])
        go_ret
        exact ⟨rfl, rfl⟩
    · have HA := Lib.hid (HJ.out.2.1 (by omega))
      by_cases hb : b = 0
      · have h0 : (b != 0) = false := by simp [hb]
        have HB := Lib.hid hb
        clear hb
        go_wp2_with fail
        go_roundg 0
        case measure => omega
        case rel => exact ⟨2, by omega, rfl, rfl, fun _ => HA.out, fun _ => HB.out⟩
      · have h0 : (b != 0) = true := by simp [hb]
        have HB := Lib.hid hb
        clear hb
        go_wp2_with fail
        obtain rfl := (HZ.out b).2 (by rw [if_neg (fun h => h HA.out)])
        go_ret
        exact ⟨rfl, rfl⟩
    · have HA := Lib.hid (HJ.out.2.1 (by omega))
      have HB := Lib.hid (HJ.out.2.2 (by omega))
      go_wp2_with fail
      obtain rfl := (HZ.out 0).2 (by rw [if_neg (fun h => h HA.out), HB.out])
      go_ret
      exact ⟨rfl, rfl⟩
theorem rsign_any (a : Int) (w : World) : Calls Tryz.prog 137 #[.int .i64 a] w fun e w' => e = .returned (.int .i64 (icmp a 0)) ∧ w' = w := by
  by_cases h1 : a < 0
  · have E : Hid (icmp a 0 = -1) := by unfold Hid icmp; rw [if_pos h1]
    generalize icmp a 0 = r at *
    go_enter Tryz.func137, Tryz.ntmps137
    go_wp2_with fail
    obtain rfl := E.out
    go_ret
    exact ⟨rfl, rfl⟩
  · by_cases h2 : 0 < a
    · have E : Hid (icmp a 0 = 1) := by unfold Hid icmp; rw [if_neg h1, if_pos h2]
      generalize icmp a 0 = r at *
      go_enter Tryz.func137, Tryz.ntmps137
      go_wp2_with fail
      obtain rfl := E.out
      go_ret
      exact ⟨rfl, rfl⟩
    · have E : Hid (icmp a 0 = 0) := by unfold Hid icmp; rw [if_neg h1, if_neg h2]
      generalize icmp a 0 = r at *
      go_enter Tryz.func137, Tryz.ntmps137
      go_wp2_with fail
      obtain rfl := E.out
      go_ret
      exact ⟨rfl, rfl⟩
theorem strCompare_any (a b : ByteArray) (w : World) : Calls Tryz.prog 139 #[.string a, .string b] w fun e w' => e = .returned (.int .i64 (Lib.compareBytes a.data.toList b.data.toList)) ∧ w' = w := Tryz.strings_Compare a b w
theorem apply11_any (x v k v0 : Int) (s : ByteArray) (ng : Bool) (A1 B1 Xr : Option Addr) (n1 c1 m1 d1 xl xc : Nat) (w : World) :
    Calls Tryz.prog 28 #[.agg #[.int .i64 x, .int .i64 k, .int .i64 v0, .string s, .bool ng, .slice A1 n1 c1, .slice B1 m1 d1, .slice Xr xl xc], .int .i64 v] w fun e w' => e = .returned (.int .i64 (icmp x v)) ∧ Below w.heap.size w w' := by
  have HC : Hid (∀ W, Calls Tryz.prog 29 #[.int .i64 x, .int .i64 v] W fun e w' => e = .returned (.int .i64 (icmp x v)) ∧ w' = W) := fun W => cmpInt_any x v W
  go_enter Tryz.func28, Tryz.ntmps28
  go_wp2_with fail
  refine (HC.out _).mono ?_
  rintro e w1 ⟨rfl, rfl⟩
  go_wp2_with fail
  go_ret
  exact ⟨rfl, below_one w _⟩
def fnd (bs : List (Int × Tm)) (v : Int) : Option Tm := (bs.find? fun p => p.1 == v).map (·.2)
def Incr (bs : List (Int × Tm)) : Prop := ∀ i j (hi : i < bs.length) (hj : j < bs.length), i < j → (bs[i]).1 < (bs[j]).1
theorem fnd_none {bs : List (Int × Tm)} {v : Int} (h : ∀ q (hq : q < bs.length), (bs[q]).1 ≠ v) : fnd bs v = none := by
  unfold fnd
  rw [List.find?_eq_none.2 fun p hp => ?_]
  · rfl
  · obtain ⟨q, hq, rfl⟩ := List.getElem_of_mem hp
    simpa using h q hq
theorem fnd_some {bs : List (Int × Tm)} {v : Int} {q : Nat} (hs : Incr bs) (hq : q < bs.length) (h : (bs[q]).1 = v) : fnd bs v = some (bs[q]).2 := by
  unfold fnd
  have h1 : bs.find? (fun p => p.1 == v) = some bs[q] := by
    rw [List.find?_eq_some_iff_getElem]
    refine ⟨by simpa using h, q, hq, rfl, fun j hj => ?_⟩
    have := hs j q (by omega) hq hj
    simp
    omega
  rw [h1]
  rfl
def Srch (bs : List (Int × Tm)) (v : Int) (i : Nat) (b : Bool) : Prop := (b = true ∧ ∃ hi : i < bs.length, (bs[i]).1 = v) ∨ (b = false ∧ ∀ q (hq : q < bs.length), (bs[q]).1 ≠ v)
theorem icmp_lt {a b : Int} : icmp a b < 0 ↔ a < b := by unfold icmp; (repeat' split) <;> omega
set_option maxHeartbeats 6400000 in
theorem bsearch_any {w : World} {bs : List (Int × Tm)} {bv : Value} (h : BL w bv bs) (hn : (bs.length : Int) * 120 ≤ 140737488351232) (hs : Incr bs) (v : Int) (W : World) (hW : Below w.heap.size w W) :
    Calls Tryz.prog 27 #[bv, .int .i64 v, .func (.func 28) #[] #[]] W fun e W' => ∃ (i : Nat) (b : Bool), e = .returned (.tuple #[.int .i64 (i : Int), .bool b]) ∧ Below W.heap.size W W' ∧ Srch bs v i b := by
  obtain ⟨Ar, cap, cs, rfl, hcap, hm, hrow, ha⟩ := h
  have HR := Lib.hid hrow
  have HA := Lib.hid ha
  have HWB := Lib.hid hW
  have HIN := Lib.hid hs
  have HC : Hid (∀ (x k v0 : Int) (s : ByteArray) (ng : Bool) (A1 B1 Xr : Option Addr) (n1 c1 m1 d1 xl xc : Nat) (W : World), Calls Tryz.prog 28 #[.agg #[.int .i64 x, .int .i64 k, .int .i64 v0, .string s, .bool ng, .slice A1 n1 c1, .slice B1 m1 d1, .slice Xr xl xc], .int .i64 v] W fun e w' => e = .returned (.int .i64 (icmp x v)) ∧ Below W.heap.size W w') := fun x k v0 s ng A1 B1 Xr n1 c1 m1 d1 xl xc W => apply11_any x v k v0 s ng A1 B1 Xr n1 c1 m1 d1 xl xc W
  unfold maxLen at hm
  obtain ⟨n, hl⟩ : ∃ n, bs.length = n := ⟨_, rfl⟩
  rw [hl] at hcap hn ⊢
  have HL := Lib.hid hl
  clear hl hrow ha hW hs
  go_enter Tryz.func27, Tryz.ntmps27
  go_wp2_with fail
  go_loopg [9, 10] n (fun gk s9 s10 wr => ∃ i j : Nat, s9 = .int .i64 (i : Int) ∧ s10 = .int .i64 (j : Int) ∧ gk + i = j ∧ j ≤ n ∧ Hid (∀ q (hq : q < bs.length), q < i → (bs[q]).1 < v) ∧ Hid (∀ q (hq : q < bs.length), j ≤ q → v ≤ (bs[q]).1) ∧ Hid (Below W.heap.size W wr))
  case atStart => exact ⟨0, n, rfl, rfl, by omega, Nat.le_refl _, fun q _ h => absurd h (by omega), fun q hq h => by have := HL.out; omega, Below.refl _ _⟩
  case round =>
    obtain ⟨i, j, rfl, rfl, hg, hjn, H1, H2, HB⟩ := hrel
    by_cases hij : i < j
    · have hmj : (i + j) / 2 < j := by omega
      have hmi : i ≤ (i + j) / 2 := by omega
      have hma : (i + j) / 2 < bs.length := by rw [HL.out]; omega
      have hmn : ((i : Int) + (j : Int)) / 2 < (n : Int) := by omega
      have hmz : 0 ≤ ((i : Int) + (j : Int)) / 2 := by omega
      obtain ⟨b, o, k, v0, s, ng, A1, n1, c1, B1, m1, d1, Xr, xl, xc, hAr, htc0, hlt, y0, y1, y2, y3, y4, y5, y6, y7⟩ := bind_cells HR.out HA.out (HWB.out.trans (HB.out.mono HWB.out.size)) hma
      subst hAr
      have HX1 : Hid ((bs[(i + j) / 2]).1 < v → ∀ q (hq : q < bs.length), q < (i + j) / 2 + 1 → (bs[q]).1 < v) := fun hx q hq hl => by
        by_cases e : q = (i + j) / 2
        · subst e; exact hx
        · have := HIN.out q ((i + j) / 2) hq hma (by omega)
          omega
      have HX2 : Hid (¬ (bs[(i + j) / 2]).1 < v → ∀ q (hq : q < bs.length), (i + j) / 2 ≤ q → v ≤ (bs[q]).1) := fun hx q hq hl => by
        by_cases e : q = (i + j) / 2
        · subst e; omega
        · have := HIN.out ((i + j) / 2) q hma hq (by omega)
          omega
      generalize (bs[(i + j) / 2]).1 = x at *
      have HJ := Lib.hid hmj
      have HI := Lib.hid hmi
      clear htc0 hma hlt hmj hmi
      go_wp2_with fail
      refine (HC.out _ _ _ _ _ _ _ _ _ _ _ _ _ _ _).mono ?_
      rintro e w1 ⟨rfl, hb1⟩
      have HB1 : Hid (Below W.heap.size W w1) := HB.out.trans (hb1.mono HB.out.size)
      clear hb1 y0 y1 y2 y3 y4 y5 y6 y7
      by_cases hx : x < v
      · have hc : icmp x v < 0 := icmp_lt.2 hx
        have H1' := Lib.hid (HX1.out hx)
        clear HX1 HX2 hx
        generalize icmp x v = cc at *
        go_wp2_with fail
        go_roundg (j - ((i + j) / 2 + 1))
        case measure => have := HJ.out; omega
        case rel => exact ⟨(i + j) / 2 + 1, j, by congr 1, rfl, by have := HJ.out; omega, hjn, H1'.out, H2.out, HB1.out⟩
      · have hc : ¬ icmp x v < 0 := fun h => hx (icmp_lt.1 h)
        have H2' := Lib.hid (HX2.out (by first | exact hx | omega))
        clear HX1 HX2 hx
        generalize icmp x v = cc at *
        go_wp2_with fail
        go_roundg ((i + j) / 2 - i)
        case measure => have := HJ.out; have := HI.out; omega
        case rel => exact ⟨i, (i + j) / 2, rfl, by congr 1, by have := HI.out; omega, by have := HJ.out; omega, H1.out, H2'.out, HB1.out⟩
    · obtain rfl : j = i := by omega
      by_cases hin : j < n
      · have hja : j < bs.length := by rw [HL.out]; exact hin
        obtain ⟨b, o, k, v0, s, ng, A1, n1, c1, B1, m1, d1, Xr, xl, xc, hAr, htc0, hlt, y0, y1, y2, y3, y4, y5, y6, y7⟩ := bind_cells HR.out HA.out (HWB.out.trans (HB.out.mono HWB.out.size)) hja
        subst hAr
        have HX1 : Hid ((bs[j]).1 = v → Srch bs v j true) := fun hx => .inl ⟨rfl, hja, hx⟩
        have HX2 : Hid ((bs[j]).1 ≠ v → Srch bs v j false) := fun hx => .inr ⟨rfl, fun q hq e => by
          rcases Nat.lt_trichotomy q j with h | h | h
          · have := H1.out q hq h; omega
          · subst h; exact hx e
          · have := HIN.out j q hja hq h
            have := H2.out j hja (Nat.le_refl _)
            omega⟩
        generalize (bs[j]).1 = x at *
        clear htc0 hja hlt
        go_wp2_with fail
        refine (HC.out _ _ _ _ _ _ _ _ _ _ _ _ _ _ _).mono ?_
        rintro e w1 ⟨rfl, hb1⟩
        have HB1 : Hid (Below W.heap.size W w1) := HB.out.trans (hb1.mono HB.out.size)
        clear hb1 y0 y1 y2 y3 y4 y5 y6 y7
        by_cases hx : x = v
        · have hc : (icmp x v == 0) = true := by rw [(icmp_zero x v).2 hx]; rfl
          have HS := Lib.hid (HX1.out hx)
          clear HX1 HX2 hx
          generalize icmp x v = cc at *
          go_wp2_with fail
          refine bodyPost_ret (v := .tuple #[.int .i64 (j : Int), .bool true]) (by rw [results_tmp2 rfl]; rfl) rfl ?_
          exact ⟨j, true, rfl, HB1.out, HS.out⟩
        · have hc : (icmp x v == 0) = false := beq_eq_false_iff_ne.2 fun e => hx ((icmp_zero x v).1 e)
          have HS := Lib.hid (HX2.out (by first | exact hx | omega))
          clear HX1 HX2 hx
          generalize icmp x v = cc at *
          go_wp2_with fail
          refine bodyPost_ret (v := .tuple #[.int .i64 (j : Int), .bool false]) (by rw [results_tmp2 rfl]; rfl) rfl ?_
          exact ⟨j, false, rfl, HB1.out, HS.out⟩
      · have HS : Hid (Srch bs v j false) := .inr ⟨rfl, fun q hq e => by have := HL.out; have := H1.out q hq (by omega); omega⟩
        go_wp2_with fail
        refine bodyPost_ret (v := .tuple #[.int .i64 (j : Int), .bool false]) (by rw [results_tmp2 rfl]; rfl) rfl ?_
        exact ⟨j, false, rfl, HB.out, HS.out⟩
set_option maxHeartbeats 6400000 in
theorem apply1_any {w : World} {bs : List (Int × Tm)} {bv : Value} (h : BL w bv bs) (hn : (bs.length : Int) * 120 ≤ 140737488351232) (hs : Incr bs) (bc : Nat) (hc : w.cell? ⟨bc, 0, none⟩ = some bv) (hlt : bc < w.heap.size) (v : Int) (W : World) (hW : Below w.heap.size w W) :
    Calls Tryz.prog 26 #[.int .i64 v, .pointer (some ⟨bc, 0, none⟩)] W fun e W' => ∃ cx tx, e = .returned (.tuple #[.agg cx.toArray, .bool (fnd bs v).isSome]) ∧ TC W' tx cx ∧ (∀ x, fnd bs v = some x → tx = x) ∧ Below W.heap.size W W' := by
  have HS : Hid (∀ W', Below w.heap.size w W' → Calls Tryz.prog 27 #[bv, .int .i64 v, .func (.func 28) #[] #[]] W' fun e w2 => ∃ (i : Nat) (b : Bool), e = .returned (.tuple #[.int .i64 (i : Int), .bool b]) ∧ Below W'.heap.size W' w2 ∧ Srch bs v i b) := fun W' hb => bsearch_any h hn hs v W' hb
  obtain ⟨Ar, cap, cs, rfl, hcap, hm, hrow, ha⟩ := h
  have HR := Lib.hid hrow
  have HA := Lib.hid ha
  have HWB := Lib.hid hW
  have HIN := Lib.hid hs
  have HCL : Hid (∀ W', Below w.heap.size w W' → W'.cell? ⟨bc, 0, none⟩ = some (.slice Ar bs.length cap)) := fun W' hb => (hb.cell (p := ⟨bc, 0, none⟩) hlt).trans hc
  unfold maxLen at hm
  obtain ⟨n, hl⟩ : ∃ n, bs.length = n := ⟨_, rfl⟩
  rw [hl] at hcap hn HS HCL
  have HL := Lib.hid hl
  clear hl hrow ha hW hs hc hlt
  have HB0 : Hid (Below W.heap.size W (W.alloc (.cells #[.int .i64 0, .int .i64 0, .string ⟨#[]⟩, .bool false, .slice none 0 0, .slice none 0 0, .slice none 0 0] 27))) := below_one W _
  have HK0 : Hid (Blk (W.alloc (.cells #[.int .i64 0, .int .i64 0, .string ⟨#[]⟩, .bool false, .slice none 0 0, .slice none 0 0, .slice none 0 0] 27)) W.heap.size 27 #[.int .i64 0, .int .i64 0, .string ⟨#[]⟩, .bool false, .slice none 0 0, .slice none 0 0, .slice none 0 0]) := Blk.new W _ _
  have y0 := HCL.out _ (HWB.out.trans (HB0.out.mono HWB.out.size))
  go_enter Tryz.func26, Tryz.ntmps26
  go_wp2_with fail
  refine (HS.out _ (by exact HWB.out.trans (HB0.out.mono HWB.out.size))).mono ?_
  rintro e w1 ⟨i, b, rfl, hb1, hsr⟩
  have HB1 : Hid (Below W.heap.size W w1) := HB0.out.trans (hb1.mono HB0.out.size)
  have HK1 := Lib.hid (HK0.out.to hb1)
  have HW1 := HWB.out.trans (HB1.out.mono HWB.out.size)
  clear HB0 HK0 hb1 y0
  have y0 := HCL.out _ HW1
  have r0 := HK1.out.cell 0
  have r1 := HK1.out.cell 1
  have r2 := HK1.out.cell 2
  have r3 := HK1.out.cell 3
  have r4 := HK1.out.cell 4
  have r5 := HK1.out.cell 5
  have r6 := HK1.out.cell 6
  simp only [List.getElem?_toArray, List.getElem?_cons_zero, List.getElem?_cons_succ] at r0 r1 r2 r3 r4 r5 r6
  have z0 := HK1.out.frozen 0
  have z1 := HK1.out.frozen 1
  have z2 := HK1.out.frozen 2
  have z3 := HK1.out.frozen 3
  have z4 := HK1.out.frozen 4
  have z5 := HK1.out.frozen 5
  have z6 := HK1.out.frozen 6
  rcases hsr with ⟨rfl, hi, hv⟩ | ⟨rfl, hv⟩
  · have hif := fnd_some HIN.out hi hv
    have hin : i < n := by rw [← HL.out]; exact hi
    obtain ⟨bb, o, k, v0, s, ng, A1, n1, c1, B1, m1, d1, Xr, xl, xc, hAr, htc, hlt, x0, x1, x2, x3, x4, x5, x6, x7⟩ := bind_cells HR.out HA.out HW1 hi
    subst hAr
    have HT := Lib.hid htc
    have HF := Lib.hid hif
    clear htc hif hlt hv x0 HW1
    go_wp2_with fail
    refine bodyPost_ret (v := .tuple #[.agg #[.int .i64 k, .int .i64 v0, .string s, .bool ng, .slice A1 n1 c1, .slice B1 m1 d1, .slice Xr xl xc], .bool true]) (by rw [results_cell_tmp rfl]; go_simp) rfl ?_
    refine ⟨[.int .i64 k, .int .i64 v0, .string s, .bool ng, .slice A1 n1 c1, .slice B1 m1 d1, .slice Xr xl xc], (bs[i]).2, (by rw [HF.out]; rfl), ?_, fun x hx => ?_, ((((((HB1.out.setCell (Nat.le_refl _) _).setCell (Nat.le_refl _) _).setCell (Nat.le_refl _) _).setCell (Nat.le_refl _) _).setCell (Nat.le_refl _) _).setCell (Nat.le_refl _) _).setCell (Nat.le_refl _) _⟩
    rotate_left
    · rw [HF.out] at hx; exact Option.some.inj hx
    · exact HT.out.to (HWB.out.trans ((((((((HB1.out.setCell (Nat.le_refl _) _).setCell (Nat.le_refl _) _).setCell (Nat.le_refl _) _).setCell (Nat.le_refl _) _).setCell (Nat.le_refl _) _).setCell (Nat.le_refl _) _).setCell (Nat.le_refl _) _).mono HWB.out.size))
  · have HF := Lib.hid (fnd_none hv)
    clear hv HW1
    go_wp2_with fail
    refine bodyPost_ret (v := .tuple #[.agg #[.int .i64 0, .int .i64 0, .string ⟨#[]⟩, .bool false, .slice none 0 0, .slice none 0 0, .slice none 0 0], .bool false]) (by rw [results_cell_tmp rfl]; go_simp) rfl ?_
    refine ⟨[.int .i64 0, .int .i64 0, .string ⟨#[]⟩, .bool false, .slice none 0 0, .slice none 0 0, .slice none 0 0], .mk 0 0 ⟨#[]⟩ ⟨false, [], []⟩ [], (by rw [HF.out]; rfl), ?_, fun x hx => (by rw [HF.out] at hx; cases hx), ?_⟩
    · exact .mk 0 0 ⟨#[]⟩ ⟨false, [], []⟩ [] (.slice none 0 0) (.slice none 0 0) none 0 (fun _ => []) ⟨by decide, by decide⟩ ⟨by decide, by decide⟩ (by decide) (slk_nil _ _) (slk_nil _ _) ⟨Ok.nil, Ok.nil⟩ (Nat.le_refl _) (by decide) (fun h => by simp at h) (fun i h => by simp at h)
    · exact ((((((HB1.out.setCell (Nat.le_refl _) _).setCell (Nat.le_refl _) _).setCell (Nat.le_refl _) _).setCell (Nat.le_refl _) _).setCell (Nat.le_refl _) _).setCell (Nat.le_refl _) _).setCell (Nat.le_refl _) _
end Go.Proofs.YtkfnpcilanheiaaGreat
