/-  -/
import Derived.Test.YtkfnpcilanheiaaGreatShelf
import Derived.Sort.Walk0
import Derived.Laws.ResultCell
import Derived.Test.YtkfnpcilanheiaaGreatJo19
set_option linter.unusedVariables false
set_option linter.unusedSimpArgs false
/- The order of terms as a plain function; it is total on valid terms; it is 0 just where the texts are the same. -/
namespace Go.Proofs.YtkfnpcilanheiaaGreat
open Go.RowKit NumB
set_option linter.unusedVariables false
set_option linter.unusedSimpArgs false

def icmp (a b : Int) : Int := if a < b then -1 else if b < a then 1 else 0
theorem icmp_zero (a b : Int) : icmp a b = 0 ↔ a = b := by unfold icmp; split <;> (try split) <;> omega
def lex (a b : Int) : Int := if a ≠ 0 then a else b
mutual
/-- The order of terms. -/
def Tm.cmp : Tm → Tm → Int
  | .mk k v s n args, .mk k' v' s' n' args' => lex (icmp k k') (if k = 1 then icmp v v' else if k = 2 then cmpS n n' else lex (icmp args.length args'.length) (lex (Lib.compareBytes s.data.toList s'.data.toList) (cmpTs args args')))
def cmpTs : List Tm → List Tm → Int
  | t :: l, t' :: l' => lex (t.cmp t') (cmpTs l l')
  | _, _ => 0
end


end Go.Proofs.YtkfnpcilanheiaaGreat
/- cmp.Compare at int and string, cmp.Or at two ints, the reference's sign. -/
namespace Go.Proofs.YtkfnpcilanheiaaGreat
open Go.RowKit NumB
set_option linter.unusedVariables false
set_option linter.unusedSimpArgs false

set_option maxRecDepth 100000 in
theorem nanInt_any (a : Int) (w : World) : Calls Tryz.prog 77 #[.int .i64 a] w fun e w' => e = .returned (.bool false) ∧ w' = w := by
  have h : (a != a) = false := by simp
  go_enter Tryz.func77, Tryz.ntmps77
  go_wp2_with fail
  go_ret
  exact ⟨rfl, rfl⟩
set_option maxRecDepth 100000 in
theorem cmpInt_any (a b : Int) (w : World) : Calls Tryz.prog 29 #[.int .i64 a, .int .i64 b] w fun e w' => e = .returned (.int .i64 (icmp a b)) ∧ w' = w := by
  by_cases h1 : a < b
  · have E : Hid (icmp a b = -1) := by unfold Hid icmp; rw [if_pos h1]
    generalize icmp a b = r at *
    go_enter Tryz.func29, Tryz.ntmps29
    go_wp2_with fail
    refine (nanInt_any _ _).mono ?_
    rintro e w1 ⟨rfl, rfl⟩
    go_wp2_with fail
    refine (nanInt_any _ _).mono ?_
    rintro e w1 ⟨rfl, rfl⟩
    go_wp2_with fail
    obtain rfl := E.out
    go_ret
    exact ⟨rfl, rfl⟩
  · by_cases h2 : b < a
    · have E : Hid (icmp a b = 1) := by unfold Hid icmp; rw [if_neg h1, if_pos h2]
      generalize icmp a b = r at *
      go_enter Tryz.func29, Tryz.ntmps29
      go_wp2_with fail
      refine (nanInt_any _ _).mono ?_
      rintro e w1 ⟨rfl, rfl⟩
      go_wp2_with fail
      refine (nanInt_any _ _).mono ?_
      rintro e w1 ⟨rfl, rfl⟩
      go_wp2_with fail
      obtain rfl := E.out
      go_ret
      exact ⟨rfl, rfl⟩
    · have E : Hid (icmp a b = 0) := by unfold Hid icmp; rw [if_neg h1, if_neg h2]
      generalize icmp a b = r at *
      go_enter Tryz.func29, Tryz.ntmps29
      go_wp2_with fail
      refine (nanInt_any _ _).mono ?_
      rintro e w1 ⟨rfl, rfl⟩
      go_wp2_with fail
      refine (nanInt_any _ _).mono ?_
      rintro e w1 ⟨rfl, rfl⟩
      go_wp2_with fail
      obtain rfl := E.out
      go_ret
      exact ⟨rfl, rfl⟩
end Go.Proofs.YtkfnpcilanheiaaGreat
/- The binary search in bindings; the function that term.Apply makes. -/
namespace Go.Proofs.YtkfnpcilanheiaaGreat
open Go.RowKit NumB
set_option linter.unusedVariables false
set_option linter.unusedSimpArgs false

set_option maxRecDepth 100000 in
theorem apply11_any (x v k v0 : Int) (s : ByteArray) (ng : Bool) (A1 B1 Xr : Option Addr) (n1 c1 m1 d1 xl xc : Nat) (w : World) :
    Calls Tryz.prog 28 #[.agg #[.int .i64 x, .int .i64 k, .int .i64 v0, .string s, .bool ng, .slice A1 n1 c1, .slice B1 m1 d1, .slice Xr xl xc], .int .i64 v] w fun e w' => e = .returned (.int .i64 (icmp x v)) ∧ Below w.heap.size w w' := by
  have HC : Hid (∀ W, Calls Tryz.prog 29 #[.int .i64 x, .int .i64 v] W fun e w' => e = .returned (.int .i64 (icmp x v)) ∧ w' = W) := fun W => cmpInt_any x v W
  go_enter Tryz.func28, Tryz.ntmps28
  go_wp2_with fail
  refine (HC.out _).mono ?_
  rintro e w1 ⟨rfl, rfl⟩
  go_wp2_with fail
  go_ret
  exact ⟨rfl, below_one w _⟩

/-- The term that bindings give a variable. -/
def fnd (bs : List (Int × Tm)) (v : Int) : Option Tm := (bs.find? fun p => p.1 == v).map (·.2)
def Incr (bs : List (Int × Tm)) : Prop := ∀ i j (hi : i < bs.length) (hj : j < bs.length), i < j → (bs[i]).1 < (bs[j]).1
theorem fnd_none {bs : List (Int × Tm)} {v : Int} (h : ∀ q (hq : q < bs.length), (bs[q]).1 ≠ v) : fnd bs v = none := by
  unfold fnd
  rw [List.find?_eq_none.2 fun p hp => ?_]
  · rfl
  · obtain ⟨q, hq, rfl⟩ := List.getElem_of_mem hp
    simpa using h q hq
theorem fnd_some {bs : List (Int × Tm)} {v : Int} {q : Nat} (hs : Incr bs) (hq : q < bs.length) (h : (bs[q]).1 = v) : fnd bs v = some (bs[q]).2 := by
  unfold fnd
  have h1 : bs.find? (fun p => p.1 == v) = some bs[q] := by
    rw [List.find?_eq_some_iff_getElem]
    refine ⟨by simpa using h, q, hq, rfl, fun j hj => ?_⟩
    have := hs j q (by omega) hq hj
    simp
    omega
  rw [h1]
  rfl
def Srch (bs : List (Int × Tm)) (v : Int) (i : Nat) (b : Bool) : Prop := (b = true ∧ ∃ hi : i < bs.length, (bs[i]).1 = v) ∨ (b = false ∧ ∀ q (hq : q < bs.length), (bs[q]).1 ≠ v)
theorem icmp_lt {a b : Int} : icmp a b < 0 ↔ a < b := by unfold icmp; (repeat' split) <;> omega

set_option maxRecDepth 100000 in
set_option maxHeartbeats 6400000 in
theorem bsearch_any {w : World} {bs : List (Int × Tm)} {bv : Value} (h : BL w bv bs) (hn : (bs.length : Int) * 120 ≤ 140737488351232) (hs : Incr bs) (v : Int) (W : World) (hW : Below w.heap.size w W) :
    Calls Tryz.prog 27 #[bv, .int .i64 v, .func (.func 28) #[] #[]] W fun e W' => ∃ (i : Nat) (b : Bool), e = .returned (.tuple #[.int .i64 (i : Int), .bool b]) ∧ Below W.heap.size W W' ∧ Srch bs v i b := by
  obtain ⟨Ar, cap, cs, rfl, hcap, hm, hrow, ha⟩ := h
  have HR := Lib.hid hrow
  have HA := Lib.hid ha
  have HWB := Lib.hid hW
  have HIN := Lib.hid hs
  have HC : Hid (∀ (x k v0 : Int) (s : ByteArray) (ng : Bool) (A1 B1 Xr : Option Addr) (n1 c1 m1 d1 xl xc : Nat) (W : World), Calls Tryz.prog 28 #[.agg #[.int .i64 x, .int .i64 k, .int .i64 v0, .string s, .bool ng, .slice A1 n1 c1, .slice B1 m1 d1, .slice Xr xl xc], .int .i64 v] W fun e w' => e = .returned (.int .i64 (icmp x v)) ∧ Below W.heap.size W w') := fun x k v0 s ng A1 B1 Xr n1 c1 m1 d1 xl xc W => apply11_any x v k v0 s ng A1 B1 Xr n1 c1 m1 d1 xl xc W
  unfold maxLen at hm
  obtain ⟨n, hl⟩ : ∃ n, bs.length = n := ⟨_, rfl⟩
  rw [hl] at hcap hn ⊢
  have HL := Lib.hid hl
  clear hl hrow ha hW hs
  go_enter Tryz.func27, Tryz.ntmps27
  go_wp2_with fail
  go_loopg [9, 10] n (fun gk s9 s10 wr => ∃ i j : Nat, s9 = .int .i64 (i : Int) ∧ s10 = .int .i64 (j : Int) ∧ gk + i = j ∧ j ≤ n ∧ Hid (∀ q (hq : q < bs.length), q < i → (bs[q]).1 < v) ∧ Hid (∀ q (hq : q < bs.length), j ≤ q → v ≤ (bs[q]).1) ∧ Hid (Below W.heap.size W wr))
  case atStart => exact ⟨0, n, rfl, rfl, by omega, Nat.le_refl _, fun q _ h => absurd h (by omega), fun q hq h => by have := HL.out; omega, Below.refl _ _⟩
  case round =>
    obtain ⟨i, j, rfl, rfl, hg, hjn, H1, H2, HB⟩ := hrel
    by_cases hij : i < j
    · have hmj : (i + j) / 2 < j := by omega
      have hmi : i ≤ (i + j) / 2 := by omega
      have hma : (i + j) / 2 < bs.length := by rw [HL.out]; omega
      have hmn : ((i : Int) + (j : Int)) / 2 < (n : Int) := by omega
      have hmz : 0 ≤ ((i : Int) + (j : Int)) / 2 := by omega
      obtain ⟨b, o, k, v0, s, ng, A1, n1, c1, B1, m1, d1, Xr, xl, xc, hAr, htc0, hlt, y0, y1, y2, y3, y4, y5, y6, y7⟩ := bind_cells HR.out HA.out (HWB.out.trans (HB.out.mono HWB.out.size)) hma
      subst hAr
      have HX1 : Hid ((bs[(i + j) / 2]).1 < v → ∀ q (hq : q < bs.length), q < (i + j) / 2 + 1 → (bs[q]).1 < v) := fun hx q hq hl => by
        by_cases e : q = (i + j) / 2
        · subst e; exact hx
        · have := HIN.out q ((i + j) / 2) hq hma (by omega)
          omega
      have HX2 : Hid (¬ (bs[(i + j) / 2]).1 < v → ∀ q (hq : q < bs.length), (i + j) / 2 ≤ q → v ≤ (bs[q]).1) := fun hx q hq hl => by
        by_cases e : q = (i + j) / 2
        · subst e; omega
        · have := HIN.out ((i + j) / 2) q hma hq (by omega)
          omega
      generalize (bs[(i + j) / 2]).1 = x at *
      have HJ := Lib.hid hmj
      have HI := Lib.hid hmi
      clear htc0 hma hlt hmj hmi
      go_wp2_with fail
      refine (HC.out _ _ _ _ _ _ _ _ _ _ _ _ _ _ _).mono ?_
      rintro e w1 ⟨rfl, hb1⟩
      have HB1 : Hid (Below W.heap.size W w1) := HB.out.trans (hb1.mono HB.out.size)
      clear hb1 y0 y1 y2 y3 y4 y5 y6 y7
      by_cases hx : x < v
      · have hc : icmp x v < 0 := icmp_lt.2 hx
        have H1' := Lib.hid (HX1.out hx)
        clear HX1 HX2 hx
        generalize icmp x v = cc at *
        go_wp2_with fail
        go_roundg (j - ((i + j) / 2 + 1))
        case measure => have := HJ.out; omega
        case rel => exact ⟨(i + j) / 2 + 1, j, by congr 1, rfl, by have := HJ.out; omega, hjn, H1'.out, H2.out, HB1.out⟩
      · have hc : ¬ icmp x v < 0 := fun h => hx (icmp_lt.1 h)
        have H2' := Lib.hid (HX2.out (by first | exact hx | omega))
        clear HX1 HX2 hx
        generalize icmp x v = cc at *
        go_wp2_with fail
        go_roundg ((i + j) / 2 - i)
        case measure => have := HJ.out; have := HI.out; omega
        case rel => exact ⟨i, (i + j) / 2, rfl, by congr 1, by have := HI.out; omega, by have := HJ.out; omega, H1.out, H2'.out, HB1.out⟩
    · obtain rfl : j = i := by omega
      by_cases hin : j < n
      · have hja : j < bs.length := by rw [HL.out]; exact hin
        obtain ⟨b, o, k, v0, s, ng, A1, n1, c1, B1, m1, d1, Xr, xl, xc, hAr, htc0, hlt, y0, y1, y2, y3, y4, y5, y6, y7⟩ := bind_cells HR.out HA.out (HWB.out.trans (HB.out.mono HWB.out.size)) hja
        subst hAr
        have HX1 : Hid ((bs[j]).1 = v → Srch bs v j true) := fun hx => .inl ⟨rfl, hja, hx⟩
        have HX2 : Hid ((bs[j]).1 ≠ v → Srch bs v j false) := fun hx => .inr ⟨rfl, fun q hq e => by
          rcases Nat.lt_trichotomy q j with h | h | h
          · have := H1.out q hq h; omega
          · subst h; exact hx e
          · have := HIN.out j q hja hq h
            have := H2.out j hja (Nat.le_refl _)
            omega⟩
        generalize (bs[j]).1 = x at *
        clear htc0 hja hlt
        go_wp2_with fail
        refine (HC.out _ _ _ _ _ _ _ _ _ _ _ _ _ _ _).mono ?_
        rintro e w1 ⟨rfl, hb1⟩
        have HB1 : Hid (Below W.heap.size W w1) := HB.out.trans (hb1.mono HB.out.size)
        clear hb1 y0 y1 y2 y3 y4 y5 y6 y7
        by_cases hx : x = v
        · have hc : (icmp x v == 0) = true := by rw [(icmp_zero x v).2 hx]; rfl
          have HS := Lib.hid (HX1.out hx)
          clear HX1 HX2 hx
          generalize icmp x v = cc at *
          go_wp2_with fail
          refine bodyPost_ret (v := .tuple #[.int .i64 (j : Int), .bool true]) (by rw [results_tmp2 rfl]; rfl) rfl ?_
          exact ⟨j, true, rfl, HB1.out, HS.out⟩
        · have hc : (icmp x v == 0) = false := beq_eq_false_iff_ne.2 fun e => hx ((icmp_zero x v).1 e)
          have HS := Lib.hid (HX2.out (by first | exact hx | omega))
          clear HX1 HX2 hx
          generalize icmp x v = cc at *
          go_wp2_with fail
          refine bodyPost_ret (v := .tuple #[.int .i64 (j : Int), .bool false]) (by rw [results_tmp2 rfl]; rfl) rfl ?_
          exact ⟨j, false, rfl, HB1.out, HS.out⟩
      · have HS : Hid (Srch bs v j false) := .inr ⟨rfl, fun q hq e => by have := HL.out; have := H1.out q hq (by omega); omega⟩
        go_wp2_with fail
        refine bodyPost_ret (v := .tuple #[.int .i64 (j : Int), .bool false]) (by rw [results_tmp2 rfl]; rfl) rfl ?_
        exact ⟨j, false, rfl, HB.out, HS.out⟩

set_option maxRecDepth 100000 in
set_option maxHeartbeats 6400000 in
/-- The function that term.Apply makes: the slice lies in the block that it captures. -/
theorem apply1_any {w : World} {bs : List (Int × Tm)} {bv : Value} (h : BL w bv bs) (hn : (bs.length : Int) * 120 ≤ 140737488351232) (hs : Incr bs) (bc : Nat) (hc : w.cell? ⟨bc, 0, none⟩ = some bv) (hlt : bc < w.heap.size) (v : Int) (W : World) (hW : Below w.heap.size w W) :
    Calls Tryz.prog 26 #[.int .i64 v, .pointer (some ⟨bc, 0, none⟩)] W fun e W' => ∃ cx tx, e = .returned (.tuple #[.agg cx.toArray, .bool (fnd bs v).isSome]) ∧ TC W' tx cx ∧ (∀ x, fnd bs v = some x → tx = x) ∧ Below W.heap.size W W' := by
  have HS : Hid (∀ W', Below w.heap.size w W' → Calls Tryz.prog 27 #[bv, .int .i64 v, .func (.func 28) #[] #[]] W' fun e w2 => ∃ (i : Nat) (b : Bool), e = .returned (.tuple #[.int .i64 (i : Int), .bool b]) ∧ Below W'.heap.size W' w2 ∧ Srch bs v i b) := fun W' hb => bsearch_any h hn hs v W' hb
  obtain ⟨Ar, cap, cs, rfl, hcap, hm, hrow, ha⟩ := h
  have HR := Lib.hid hrow
  have HA := Lib.hid ha
  have HWB := Lib.hid hW
  have HIN := Lib.hid hs
  have HCL : Hid (∀ W', Below w.heap.size w W' → W'.cell? ⟨bc, 0, none⟩ = some (.slice Ar bs.length cap)) := fun W' hb => (hb.cell (p := ⟨bc, 0, none⟩) hlt).trans hc
  unfold maxLen at hm
  obtain ⟨n, hl⟩ : ∃ n, bs.length = n := ⟨_, rfl⟩
  rw [hl] at hcap hn HS HCL
  have HL := Lib.hid hl
  clear hl hrow ha hW hs hc hlt
  have HB0 : Hid (Below W.heap.size W (W.alloc (.cells #[.int .i64 0, .int .i64 0, .string ⟨#[]⟩, .bool false, .slice none 0 0, .slice none 0 0, .slice none 0 0] 27))) := below_one W _
  have HK0 : Hid (Blk (W.alloc (.cells #[.int .i64 0, .int .i64 0, .string ⟨#[]⟩, .bool false, .slice none 0 0, .slice none 0 0, .slice none 0 0] 27)) W.heap.size 27 #[.int .i64 0, .int .i64 0, .string ⟨#[]⟩, .bool false, .slice none 0 0, .slice none 0 0, .slice none 0 0]) := Blk.new W _ _
  have y0 := HCL.out _ (HWB.out.trans (HB0.out.mono HWB.out.size))
  go_enter Tryz.func26, Tryz.ntmps26
  go_wp2_with fail
  refine (HS.out _ (by exact HWB.out.trans (HB0.out.mono HWB.out.size))).mono ?_
  rintro e w1 ⟨i, b, rfl, hb1, hsr⟩
  have HB1 : Hid (Below W.heap.size W w1) := HB0.out.trans (hb1.mono HB0.out.size)
  have HK1 := Lib.hid (HK0.out.to hb1)
  have HW1 := HWB.out.trans (HB1.out.mono HWB.out.size)
  clear HB0 HK0 hb1 y0
  have y0 := HCL.out _ HW1
  have r0 := HK1.out.cell 0
  have r1 := HK1.out.cell 1
  have r2 := HK1.out.cell 2
  have r3 := HK1.out.cell 3
  have r4 := HK1.out.cell 4
  have r5 := HK1.out.cell 5
  have r6 := HK1.out.cell 6
  simp only [List.getElem?_toArray, List.getElem?_cons_zero, List.getElem?_cons_succ] at r0 r1 r2 r3 r4 r5 r6
  have z0 := HK1.out.frozen 0
  have z1 := HK1.out.frozen 1
  have z2 := HK1.out.frozen 2
  have z3 := HK1.out.frozen 3
  have z4 := HK1.out.frozen 4
  have z5 := HK1.out.frozen 5
  have z6 := HK1.out.frozen 6
  rcases hsr with ⟨rfl, hi, hv⟩ | ⟨rfl, hv⟩
  · have hif := fnd_some HIN.out hi hv
    have hin : i < n := by rw [← HL.out]; exact hi
    obtain ⟨bb, o, k, v0, s, ng, A1, n1, c1, B1, m1, d1, Xr, xl, xc, hAr, htc, hlt, x0, x1, x2, x3, x4, x5, x6, x7⟩ := bind_cells HR.out HA.out HW1 hi
    subst hAr
    have HT := Lib.hid htc
    have HF := Lib.hid hif
    clear htc hif hlt hv x0 HW1
    go_wp2_with fail
    refine bodyPost_ret (v := .tuple #[.agg #[.int .i64 k, .int .i64 v0, .string s, .bool ng, .slice A1 n1 c1, .slice B1 m1 d1, .slice Xr xl xc], .bool true]) (by rw [results_cell_tmp rfl]; go_simp) rfl ?_
    refine ⟨[.int .i64 k, .int .i64 v0, .string s, .bool ng, .slice A1 n1 c1, .slice B1 m1 d1, .slice Xr xl xc], (bs[i]).2, (by rw [HF.out]; rfl), ?_, fun x hx => ?_, ((((((HB1.out.setCell (Nat.le_refl _) _).setCell (Nat.le_refl _) _).setCell (Nat.le_refl _) _).setCell (Nat.le_refl _) _).setCell (Nat.le_refl _) _).setCell (Nat.le_refl _) _).setCell (Nat.le_refl _) _⟩
    rotate_left
    · rw [HF.out] at hx; exact Option.some.inj hx
    · exact HT.out.to (HWB.out.trans ((((((((HB1.out.setCell (Nat.le_refl _) _).setCell (Nat.le_refl _) _).setCell (Nat.le_refl _) _).setCell (Nat.le_refl _) _).setCell (Nat.le_refl _) _).setCell (Nat.le_refl _) _).setCell (Nat.le_refl _) _).mono HWB.out.size))
  · have HF := Lib.hid (fnd_none hv)
    clear hv HW1
    go_wp2_with fail
    refine bodyPost_ret (v := .tuple #[.agg #[.int .i64 0, .int .i64 0, .string ⟨#[]⟩, .bool false, .slice none 0 0, .slice none 0 0, .slice none 0 0], .bool false]) (by rw [results_cell_tmp rfl]; go_simp) rfl ?_
    refine ⟨[.int .i64 0, .int .i64 0, .string ⟨#[]⟩, .bool false, .slice none 0 0, .slice none 0 0, .slice none 0 0], .mk 0 0 ⟨#[]⟩ ⟨false, [], []⟩ [], (by rw [HF.out]; rfl), ?_, fun x hx => (by rw [HF.out] at hx; cases hx), ?_⟩
    · exact .mk 0 0 ⟨#[]⟩ ⟨false, [], []⟩ [] (.slice none 0 0) (.slice none 0 0) none 0 (fun _ => []) ⟨by decide, by decide⟩ ⟨by decide, by decide⟩ (by decide) (slk_nil _ _) (slk_nil _ _) ⟨Ok.nil, Ok.nil⟩ (Nat.le_refl _) (by decide) (fun h => by simp at h) (fun i h => by simp at h)
    · exact ((((((HB1.out.setCell (Nat.le_refl _) _).setCell (Nat.le_refl _) _).setCell (Nat.le_refl _) _).setCell (Nat.le_refl _) _).setCell (Nat.le_refl _) _).setCell (Nat.le_refl _) _).setCell (Nat.le_refl _) _
end Go.Proofs.YtkfnpcilanheiaaGreat
