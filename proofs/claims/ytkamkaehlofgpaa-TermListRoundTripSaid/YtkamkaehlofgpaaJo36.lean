/-  -/
import Derived.Test.YtkamkaehlofgpaaJo12
import Derived.Test.YtkamkaehlofgpaaJo33
set_option linter.unusedVariables false
set_option linter.unusedSimpArgs false
/- (*heap.unifier).variables at the variables 0 and 1, both free. -/
namespace Go.Proofs.Ytkamkaehlofgpaa
open Go.RowKit NumB
set_option linter.unusedVariables false
set_option linter.unusedSimpArgs false

/-- The cells behind the first binding. -/
def xs1 : List Value := zc ++ [.bool true, .int .i64 1, .int .i64 0, .string ⟨#[]⟩, .bool false, .slice none 0 0, .slice none 0 0, .slice none 0 0, .slice none 0 0]
theorem xs1_is : put9 (zc ++ zc) 1 (.bool true) (.int .i64 1) (.int .i64 0) (.string ⟨#[]⟩) (.bool false) (.slice none 0 0) (.slice none 0 0) (.slice none 0 0) (.slice none 0 0) = xs1 := rfl

set_option maxHeartbeats 6400000 in
set_option maxRecDepth 100000 in
theorem variables_any (B h G c m U : Nat) (N M st tv : Value) (ys : List Value) (hm : m ≤ 1000) (w : World) (hB : B ≤ w.heap.size) (hS : HS w B h G c tv (zc ++ zc) m ys) (hU : US w U h N M st) :
    Calls Try.prog 52 #[.pointer (some ⟨U, 0, none⟩), .int .i64 0, .int .i64 1] w fun e w' => e = .returned (.bool true) ∧ (∃ tv' m' ys', m' ≤ m + 1 ∧ HS w' B h G c tv' xs1 m' ys') ∧ FrT [some 72, some 75, some 100] w w' ∧ Below B w w' := by
  have HB := Lib.hid hB
  have HS0 := Lib.hid hS
  have HU0 : Hid (Blk w U 84 #[.pointer (some ⟨h, 0, none⟩), .bool false, N, M, .slice none 0 0, st]) := hU
  have u0 := HU0.out.cell 0
  have b0 := HS0.out.blk.cell 0
  simp only [List.getElem?_toArray, List.getElem?_cons_zero, List.getElem?_cons_succ] at u0 b0
  have g8 : w.cell? ⟨G, 8, none⟩ = some (.slice none 0 0) := HS0.out.cell rfl
  have g17 : w.cell? ⟨G, 17, none⟩ = some (.slice none 0 0) := HS0.out.cell rfl
  have HFR : Hid (∀ W, Below w.heap.size w W → Calls Try.prog 53 #[.pointer (some ⟨U, 0, none⟩), .int .i64 1, .agg #[.int .i64 1, .int .i64 0, .string ⟨#[]⟩, .bool false, .slice none 0 0, .slice none 0 0, .slice none 0 0]] W fun e w' => e = .returned (.bool true) ∧ Hid ((∃ tv' m' ys', m' ≤ m + 1 ∧ HS w' B h G c tv' xs1 m' ys') ∧ FrT [some 72, some 75, some 100] w w' ∧ Below B w w')) := fun W hW => by
    refine (bind_any B h G c m U N M st tv (zc ++ zc) ys 1 (by omega) false 0 0 ⟨#[]⟩ false none 0 0 none 0 0 none 0 0 1 0 ⟨#[]⟩ false none 0 0 none 0 0 none 0 0 ?_ hm W (Nat.le_trans HB.out hW.size) (HS0.out.below hW) (HU0.out.to hW)).mono ?_
    · intro q u hq
      match q, hq with
      | 0, hq => exact hq
      | 1, hq => exact hq
      | 2, hq => exact hq
      | 3, hq => exact hq
      | 4, hq => exact hq
      | 5, hq => exact hq
      | 6, hq => exact hq
      | 7, hq => exact hq
      | 8, hq => exact hq
      | q + 9, hq => simp at hq
    · rintro e w' ⟨rfl, ⟨tv', h1⟩, h2, h3⟩
      rw [xs1_is] at h1
      exact ⟨rfl, ⟨tv', _, _, Nat.le_refl _, h1⟩, (FrT.of_below hW).trans h2, (hW.mono HB.out).trans h3⟩
  clear hB hS hU
  have hmn : min (0 : Int) 1 = 0 := by decide
  have hmx : max (0 : Int) 1 = 1 := by decide
  go_enter Try.func52, Try.ntmps52
  go_wp2_with fail
  refine (heapVar_any 0 w).mono ?_
  rintro e w1 ⟨rfl, hb⟩
  have HW1 := Lib.hid hb
  clear hb u0 b0 g8 g17
  go_wp2_with fail
  refine (HFR.out w1 HW1.out).mono ?_
  rintro e w2 ⟨rfl, HF⟩
  go_wp2_with fail
  go_ret
  exact ⟨rfl, HF.out⟩
end Go.Proofs.Ytkamkaehlofgpaa
/- (*heap.unifier).step at two free variables, and at a term and a free variable. -/
namespace Go.Proofs.Ytkamkaehlofgpaa
open Go.RowKit NumB
set_option linter.unusedVariables false
set_option linter.unusedSimpArgs false

/-- The cells behind the second binding. -/
def xs2 (k v : Int) (s : ByteArray) (n : Bool) (A B X : Value) : List Value := [.bool true, .int .i64 k, .int .i64 v, .string s, .bool n, A, B, X, .slice none 0 0] ++ [.bool true, .int .i64 1, .int .i64 0, .string ⟨#[]⟩, .bool false, .slice none 0 0, .slice none 0 0, .slice none 0 0, .slice none 0 0]
theorem xs2_is (k v : Int) (s : ByteArray) (n : Bool) (A B X : Value) : put9 xs1 0 (.bool true) (.int .i64 k) (.int .i64 v) (.string s) (.bool n) A B X (.slice none 0 0) = xs2 k v s n A B X := rfl

set_option maxHeartbeats 6400000 in
set_option maxRecDepth 100000 in
theorem step_vv (B h G c m U : Nat) (N M st tv : Value) (ys : List Value) (xs' : ByteArray) (xn : Bool) (xA : Option Addr) (xa xc : Nat) (xB : Option Addr) (xd xe : Nat) (xX : Option Addr) (xl xq : Nat) (zs : ByteArray) (zn : Bool) (zA : Option Addr) (za zc' : Nat) (zB : Option Addr) (zd ze : Nat) (zX : Option Addr) (zl zq : Nat) (hm : m ≤ 1000) (w : World) (hB : B ≤ w.heap.size) (hS : HS w B h G c tv (zc ++ zc) m ys) (hU : US w U h N M st) :
    Calls Try.prog 35 #[.pointer (some ⟨U, 0, none⟩), .agg #[.int .i64 1, .int .i64 0, .string xs', .bool xn, .slice xA xa xc, .slice xB xd xe, .slice xX xl xq], .agg #[.int .i64 1, .int .i64 1, .string zs, .bool zn, .slice zA za zc', .slice zB zd ze, .slice zX zl zq]] w fun e w' => e = .returned (.bool true) ∧ (∃ tv' m' ys', m' ≤ m + 1 ∧ HS w' B h G c tv' xs1 m' ys') ∧ FrT [some 72, some 75, some 100] w w' ∧ Below B w w' := by
  have HB := Lib.hid hB
  have HV : Hid (∀ W, Below w.heap.size w W → Calls Try.prog 52 #[.pointer (some ⟨U, 0, none⟩), .int .i64 0, .int .i64 1] W fun e w' => e = .returned (.bool true) ∧ Hid ((∃ tv' m' ys', m' ≤ m + 1 ∧ HS w' B h G c tv' xs1 m' ys') ∧ FrT [some 72, some 75, some 100] w w' ∧ Below B w w')) := fun W hW => by
    refine (variables_any B h G c m U N M st tv ys hm W (Nat.le_trans hB hW.size) (hS.below hW) (Blk.to hU hW)).mono ?_
    rintro e w' ⟨rfl, h1, h2, h3⟩
    exact ⟨rfl, h1, (FrT.of_below hW).trans h2, (hW.mono hB).trans h3⟩
  clear hB hS hU
  go_enter Try.func35, Try.ntmps35
  go_wp2_with fail
  refine (HV.out _ (below_pair w _ _)).mono ?_
  rintro e w1 ⟨rfl, HF⟩
  go_wp2_with fail
  go_ret
  exact ⟨rfl, HF.out⟩

set_option maxHeartbeats 6400000 in
set_option maxRecDepth 100000 in
theorem step_av (B h G c m U : Nat) (N M st tv : Value) (ys : List Value) (nk nv : Int) (ns : ByteArray) (nn : Bool) (nA : Option Addr) (na nc : Nat) (nB : Option Addr) (nd ne : Nat) (nX : Option Addr) (nl nz : Nat) (zs : ByteArray) (zn : Bool) (zA : Option Addr) (za zc' : Nat) (zB : Option Addr) (zd ze : Nat) (zX : Option Addr) (zl zq : Nat) (hnk : nk ≠ 1) (hm : m ≤ 1000) (w : World) (hB : B ≤ w.heap.size) (hS : HS w B h G c tv xs1 m ys) (hU : US w U h N M st) :
    Calls Try.prog 35 #[.pointer (some ⟨U, 0, none⟩), .agg #[.int .i64 nk, .int .i64 nv, .string ns, .bool nn, .slice nA na nc, .slice nB nd ne, .slice nX nl nz], .agg #[.int .i64 1, .int .i64 0, .string zs, .bool zn, .slice zA za zc', .slice zB zd ze, .slice zX zl zq]] w fun e w' => e = .returned (.bool true) ∧ (∃ tv' m' ys', m' ≤ m + 1 ∧ HS w' B h G c tv' (xs2 nk nv ns nn (.slice nA na nc) (.slice nB nd ne) (.slice nX nl nz)) m' ys') ∧ FrT [some 72, some 75, some 100] w w' ∧ Below B w w' := by
  have HB := Lib.hid hB
  have HV : Hid (∀ W, Below w.heap.size w W → Calls Try.prog 53 #[.pointer (some ⟨U, 0, none⟩), .int .i64 0, .agg #[.int .i64 nk, .int .i64 nv, .string ns, .bool nn, .slice nA na nc, .slice nB nd ne, .slice nX nl nz]] W fun e w' => e = .returned (.bool true) ∧ Hid ((∃ tv' m' ys', m' ≤ m + 1 ∧ HS w' B h G c tv' (xs2 nk nv ns nn (.slice nA na nc) (.slice nB nd ne) (.slice nX nl nz)) m' ys') ∧ FrT [some 72, some 75, some 100] w w' ∧ Below B w w')) := fun W hW => by
    refine (bind_any B h G c m U N M st tv xs1 ys 0 (by omega) false 0 0 ⟨#[]⟩ false none 0 0 none 0 0 none 0 0 nk nv ns nn nA na nc nB nd ne nX nl nz ?_ hm W (Nat.le_trans hB hW.size) (hS.below hW) (Blk.to hU hW)).mono ?_
    · intro q u hq
      match q, hq with
      | 0, hq => exact hq
      | 1, hq => exact hq
      | 2, hq => exact hq
      | 3, hq => exact hq
      | 4, hq => exact hq
      | 5, hq => exact hq
      | 6, hq => exact hq
      | 7, hq => exact hq
      | 8, hq => exact hq
      | q + 9, hq => simp at hq
    · rintro e w' ⟨rfl, ⟨tv', h1⟩, h2, h3⟩
      rw [xs2_is] at h1
      exact ⟨rfl, ⟨tv', _, _, Nat.le_refl _, h1⟩, (FrT.of_below hW).trans h2, (hW.mono hB).trans h3⟩
  clear hB hS hU
  go_enter Try.func35, Try.ntmps35
  go_wp2_with fail
  refine (HV.out _ (below_pair w _ _)).mono ?_
  rintro e w1 ⟨rfl, HF⟩
  go_wp2_with fail
  go_ret
  exact ⟨rfl, HF.out⟩
end Go.Proofs.Ytkamkaehlofgpaa
