/- (*heap.unifier).variables at the variables 0 and 1, both free. And 3 more texts. -/
import Derived.Test.YtkfnpcilanheiaaGreatJo8
import Derived.Test.YtkfnpcilanheiaaGreatJo39
import Derived.Test.YtkfnpcilanheiaaGreatJo40
set_option linter.unusedVariables false
set_option linter.unusedSimpArgs false
set_option maxRecDepth 100000
namespace Go.Proofs.YtkfnpcilanheiaaGreat
open Go.RowKit NumB
def xs1 : List Value := zc ++ [.bool true, .int .i64 1, .int .i64 0, .string ⟨#[]⟩, .bool false, .slice none 0 0, .slice none 0 0, .slice none 0 0, .slice none 0 0]
theorem xs1_is : put9 (zc ++ zc) 1 (.bool true) (.int .i64 1) (.int .i64 0) (.string ⟨#[]⟩) (.bool false) (.slice none 0 0) (.slice none 0 0) (.slice none 0 0) (.slice none 0 0) = xs1 := rfl
set_option maxHeartbeats 6400000 in
theorem variables_any (B h G c m U : Nat) (N M st tv : Value) (ys : List Value) (hm : m ≤ 1000) (w : World) (hB : B ≤ w.heap.size) (hS : HS w B h G c tv (zc ++ zc) m ys) (hU : US w U h N M st) :
    Calls Tryz.prog 180 #[.pointer (some ⟨U, 0, none⟩), .int .i64 0, .int .i64 1] w fun e w' => e = .returned (.bool true) ∧ (∃ tv' m' ys', m' ≤ m + 1 ∧ HS w' B h G c tv' xs1 m' ys') ∧ FrT [some 141, some 144, some 196] w w' ∧ Below B w w' := by
  have HB := Lib.hid hB
  have HS0 := Lib.hid hS
  have HU0 : Hid (Blk w U 152 #[.pointer (some ⟨h, 0, none⟩), .bool false, N, M, .slice none 0 0, st]) := hU
  have u0 := HU0.out.cell 0
  have b0 := HS0.out.blk.cell 0
  simp only [List.getElem?_toArray, List.getElem?_cons_zero, List.getElem?_cons_succ] at u0 b0
  have g8 : w.cell? ⟨G, 8, none⟩ = some (.slice none 0 0) := HS0.out.cell rfl
  have g17 : w.cell? ⟨G, 17, none⟩ = some (.slice none 0 0) := HS0.out.cell rfl
  have HFR : Hid (∀ W, Below w.heap.size w W → Calls Tryz.prog 181 #[.pointer (some ⟨U, 0, none⟩), .int .i64 1, .agg #[.int .i64 1, .int .i64 0, .string ⟨#[]⟩, .bool false, .slice none 0 0, .slice none 0 0, .slice none 0 0]] W fun e w' => e = .returned (.bool true) ∧ Hid ((∃ tv' m' ys', m' ≤ m + 1 ∧ HS w' B h G c tv' xs1 m' ys') ∧ FrT [some 141, some 144, some 196] w w' ∧ Below B w w')) := fun W hW => by
    refine (bind_any B h G c m U N M st tv (zc ++ zc) ys 1 (by omega) false 0 0 ⟨#[]⟩ false none 0 0 none 0 0 none 0 0 1 0 ⟨#[]⟩ false none 0 0 none 0 0 none 0 0 ?_ hm W (Nat.le_trans HB.out hW.size) (HS0.out.below hW) (HU0.out.to hW)).mono ?_
    · intro q u hq
      match q, hq with
      | 0, hq => exact hq
      | 1, hq => exact hq
      | 2, hq => exact hq
      | 3, hq => exact hq
      | 4, hq => exact hq
      | 5, hq => exact hq
      | 6, hq => exact hq
      | 7, hq => exact hq
      | 8, hq => exact hq
      | q + 9, hq => simp at hq
    · rintro e w' ⟨rfl, ⟨tv', h1⟩, h2, h3⟩
      rw [xs1_is] at h1
      exact ⟨rfl, ⟨tv', _, _, Nat.le_refl _, h1⟩, (FrT.of_below hW).trans h2, (hW.mono HB.out).trans h3⟩
  clear hB hS hU
  have hmn : min (0 : Int) 1 = 0 := by decide
  have hmx : max (0 : Int) 1 = 1 := by decide
  go_enter Tryz.func180, Tryz.ntmps180
  go_wp2_with fail
  refine (heapVar_any 0 w).mono ?_
  rintro e w1 ⟨rfl, hb⟩
  have HW1 := Lib.hid hb
  clear hb u0 b0 g8 g17
  go_wp2_with fail
  refine (HFR.out w1 HW1.out).mono ?_
  rintro e w2 ⟨rfl, HF⟩
  go_wp2_with fail
  go_ret
  exact ⟨rfl, HF.out⟩
def xs2 (k v : Int) (s : ByteArray) (n : Bool) (A B X : Value) : List Value := [.bool true, .int .i64 k, .int .i64 v, .string s, .bool n, A, B, X, .slice none 0 0] ++ [.bool true, .int .i64 1, .int .i64 0, .string ⟨#[]⟩, .bool false, .slice none 0 0, .slice none 0 0, .slice none 0 0, .slice none 0 0]
theorem xs2_is (k v : Int) (s : ByteArray) (n : Bool) (A B X : Value) : put9 xs1 0 (.bool true) (.int .i64 k) (.int .i64 v) (.string s) (.bool n) A B X (.slice none 0 0) = xs2 k v s n A B X := rfl
set_option maxHeartbeats 6400000 in
theorem step_vv (B h G c m U : Nat) (N M st tv : Value) (ys : List Value) (xs' : ByteArray) (xn : Bool) (xA : Option Addr) (xa xc : Nat) (xB : Option Addr) (xd xe : Nat) (xX : Option Addr) (xl xq : Nat) (zs : ByteArray) (zn : Bool) (zA : Option Addr) (za zc' : Nat) (zB : Option Addr) (zd ze : Nat) (zX : Option Addr) (zl zq : Nat) (hm : m ≤ 1000) (w : World) (hB : B ≤ w.heap.size) (hS : HS w B h G c tv (zc ++ zc) m ys) (hU : US w U h N M st) :
    Calls Tryz.prog 113 #[.pointer (some ⟨U, 0, none⟩), .agg #[.int .i64 1, .int .i64 0, .string xs', .bool xn, .slice xA xa xc, .slice xB xd xe, .slice xX xl xq], .agg #[.int .i64 1, .int .i64 1, .string zs, .bool zn, .slice zA za zc', .slice zB zd ze, .slice zX zl zq]] w fun e w' => e = .returned (.bool true) ∧ (∃ tv' m' ys', m' ≤ m + 1 ∧ HS w' B h G c tv' xs1 m' ys') ∧ FrT [some 141, some 144, some 196] w w' ∧ Below B w w' := by
  have HB := Lib.hid hB
  have HV : Hid (∀ W, Below w.heap.size w W → Calls Tryz.prog 180 #[.pointer (some ⟨U, 0, none⟩), .int .i64 0, .int .i64 1] W fun e w' => e = .returned (.bool true) ∧ Hid ((∃ tv' m' ys', m' ≤ m + 1 ∧ HS w' B h G c tv' xs1 m' ys') ∧ FrT [some 141, some 144, some 196] w w' ∧ Below B w w')) := fun W hW => by
    refine (variables_any B h G c m U N M st tv ys hm W (Nat.le_trans hB hW.size) (hS.below hW) (Blk.to hU hW)).mono ?_
    rintro e w' ⟨rfl, h1, h2, h3⟩
    exact ⟨rfl, h1, (FrT.of_below hW).trans h2, (hW.mono hB).trans h3⟩
  clear hB hS hU
  go_enter Tryz.func113, Tryz.ntmps113
  go_wp2_with fail
  refine (HV.out _ (below_pair w _ _)).mono ?_
  rintro e w1 ⟨rfl, HF⟩
  go_wp2_with fail
  go_ret
  exact ⟨rfl, HF.out⟩
set_option maxHeartbeats 6400000 in
theorem step_av (B h G c m U : Nat) (N M st tv : Value) (ys : List Value) (nk nv : Int) (ns : ByteArray) (nn : Bool) (nA : Option Addr) (na nc : Nat) (nB : Option Addr) (nd ne : Nat) (nX : Option Addr) (nl nz : Nat) (zs : ByteArray) (zn : Bool) (zA : Option Addr) (za zc' : Nat) (zB : Option Addr) (zd ze : Nat) (zX : Option Addr) (zl zq : Nat) (hnk : nk ≠ 1) (hm : m ≤ 1000) (w : World) (hB : B ≤ w.heap.size) (hS : HS w B h G c tv xs1 m ys) (hU : US w U h N M st) :
    Calls Tryz.prog 113 #[.pointer (some ⟨U, 0, none⟩), .agg #[.int .i64 nk, .int .i64 nv, .string ns, .bool nn, .slice nA na nc, .slice nB nd ne, .slice nX nl nz], .agg #[.int .i64 1, .int .i64 0, .string zs, .bool zn, .slice zA za zc', .slice zB zd ze, .slice zX zl zq]] w fun e w' => e = .returned (.bool true) ∧ (∃ tv' m' ys', m' ≤ m + 1 ∧ HS w' B h G c tv' (xs2 nk nv ns nn (.slice nA na nc) (.slice nB nd ne) (.slice nX nl nz)) m' ys') ∧ FrT [some 141, some 144, some 196] w w' ∧ Below B w w' := by
  have HB := Lib.hid hB
  have HV : Hid (∀ W, Below w.heap.size w W → Calls Tryz.prog 181 #[.pointer (some ⟨U, 0, none⟩), .int .i64 0, .agg #[.int .i64 nk, .int .i64 nv, .string ns, .bool nn, .slice nA na nc, .slice nB nd ne, .slice nX nl nz]] W fun e w' => e = .returned (.bool true) ∧ Hid ((∃ tv' m' ys', m' ≤ m + 1 ∧ HS w' B h G c tv' (xs2 nk nv ns nn (.slice nA na nc) (.slice nB nd ne) (.slice nX nl nz)) m' ys') ∧ FrT [some 141, some 144, some 196] w w' ∧ Below B w w')) := fun W hW => by
    refine (bind_any B h G c m U N M st tv xs1 ys 0 (by omega) false 0 0 ⟨#[]⟩ false none 0 0 none 0 0 none 0 0 nk nv ns nn nA na nc nB nd ne nX nl nz ?_ hm W (Nat.le_trans hB hW.size) (hS.below hW) (Blk.to hU hW)).mono ?_
    · intro q u hq
      match q, hq with
      | 0, hq => exact hq
      | 1, hq => exact hq
      | 2, hq => exact hq
      | 3, hq => exact hq
      | 4, hq => exact hq
      | 5, hq => exact hq
      | 6, hq => exact hq
      | 7, hq => exact hq
      | 8, hq => exact hq
      | q + 9, hq => simp at hq
    · rintro e w' ⟨rfl, ⟨tv', h1⟩, h2, h3⟩
      rw [xs2_is] at h1
      exact ⟨rfl, ⟨tv', _, _, Nat.le_refl _, h1⟩, (FrT.of_below hW).trans h2, (hW.mono hB).trans h3⟩
  clear hB hS hU
  go_enter Tryz.func113, Tryz.ntmps113
  go_wp2_with fail
  refine (HV.out _ (below_pair w _ _)).mono ?_
  rintro e w1 ⟨rfl, HF⟩
  go_wp2_with fail
  go_ret
  exact ⟨rfl, HF.out⟩
inductive Der (xs : List Value) : Nat → List Value → List Value → Prop
  | other (tk tv : Int) (ts : ByteArray) (tn : Bool) (tA : Option Addr) (ta tc : Nat) (tB : Option Addr) (td te : Nat) (tX : Option Addr) (tl tq : Nat) (h : tk ≠ 1) : Der xs 0 [(Value.int .i64 tk), (Value.int .i64 tv), (Value.string ts), (Value.bool tn), (Value.slice tA ta tc), (Value.slice tB td te), (Value.slice tX tl tq)] [(Value.int .i64 tk), (Value.int .i64 tv), (Value.string ts), (Value.bool tn), (Value.slice tA ta tc), (Value.slice tB td te), (Value.slice tX tl tq)]
  | free (i : Nat) (tk tv : Int) (ts : ByteArray) (tn : Bool) (tA : Option Addr) (ta tc : Nat) (tB : Option Addr) (td te : Nat) (tX : Option Addr) (tl tq : Nat) (hk : tk = 1) (hv : tv = (i : Int)) (hi : i < 2) (hx : xs[i * 9]? = some (.bool false)) : Der xs 0 [(Value.int .i64 tk), (Value.int .i64 tv), (Value.string ts), (Value.bool tn), (Value.slice tA ta tc), (Value.slice tB td te), (Value.slice tX tl tq)] [(Value.int .i64 tk), (Value.int .i64 tv), (Value.string ts), (Value.bool tn), (Value.slice tA ta tc), (Value.slice tB td te), (Value.slice tX tl tq)]
  | step (n i : Nat) (tk tv : Int) (ts : ByteArray) (tn : Bool) (tA : Option Addr) (ta tc : Nat) (tB : Option Addr) (td te : Nat) (tX : Option Addr) (tl tq : Nat) (pk pv : Int) (ps : ByteArray) (pn : Bool) (pA : Option Addr) (pa pc : Nat) (pB : Option Addr) (pd pe : Nat) (pX : Option Addr) (pl pq : Nat) (cs : List Value) (hk : tk = 1) (hv : tv = (i : Int)) (hi : i < 2) (hx : xs[i * 9]? = some (.bool true))
      (hp : ∀ q u, [(Value.int .i64 pk), (Value.int .i64 pv), (Value.string ps), (Value.bool pn), (Value.slice pA pa pc), (Value.slice pB pd pe), (Value.slice pX pl pq)][q]? = some u → xs[i * 9 + 1 + q]? = some u) (h : Der xs n [(Value.int .i64 pk), (Value.int .i64 pv), (Value.string ps), (Value.bool pn), (Value.slice pA pa pc), (Value.slice pB pd pe), (Value.slice pX pl pq)] cs) : Der xs (n + 1) [(Value.int .i64 tk), (Value.int .i64 tv), (Value.string ts), (Value.bool tn), (Value.slice tA ta tc), (Value.slice tB td te), (Value.slice tX tl tq)] cs
theorem Der.form {xs : List Value} {n : Nat} {a b : List Value} (h : Der xs n a b) : ∃ (rk rv : Int) (rs : ByteArray) (rn : Bool) (rA : Option Addr) (ra rc : Nat) (rB : Option Addr) (rd re : Nat) (rX : Option Addr) (rl rq : Nat), b = [(Value.int .i64 rk), (Value.int .i64 rv), (Value.string rs), (Value.bool rn), (Value.slice rA ra rc), (Value.slice rB rd re), (Value.slice rX rl rq)] := by
  induction h with
  | other => exact ⟨_, _, _, _, _, _, _, _, _, _, _, _, _, rfl⟩
  | free => exact ⟨_, _, _, _, _, _, _, _, _, _, _, _, _, rfl⟩
  | step _ _ _ _ _ _ _ _ _ _ _ _ _ _ _ _ _ _ _ _ _ _ _ _ _ _ _ _ _ _ _ _ _ _ _ ih => exact ih
theorem Der.inv {xs : List Value} {g : Nat} (pk pv : Int) (ps : ByteArray) (pn : Bool) (pA : Option Addr) (pa pc : Nat) (pB : Option Addr) (pd pe : Nat) (pX : Option Addr) (pl pq : Nat) {r : List Value} (h : Der xs g [(Value.int .i64 pk), (Value.int .i64 pv), (Value.string ps), (Value.bool pn), (Value.slice pA pa pc), (Value.slice pB pd pe), (Value.slice pX pl pq)] r) : (g = 0 ∧ pk ≠ 1 ∧ r = [(Value.int .i64 pk), (Value.int .i64 pv), (Value.string ps), (Value.bool pn), (Value.slice pA pa pc), (Value.slice pB pd pe), (Value.slice pX pl pq)]) ∨ (g = 0 ∧ ∃ i : Nat, pk = 1 ∧ pv = (i : Int) ∧ i < 2 ∧ xs[i * 9]? = some (.bool false) ∧ r = [(Value.int .i64 pk), (Value.int .i64 pv), (Value.string ps), (Value.bool pn), (Value.slice pA pa pc), (Value.slice pB pd pe), (Value.slice pX pl pq)]) ∨
    (∃ (n i : Nat) (fk fv : Int) (fs : ByteArray) (fn : Bool) (fA : Option Addr) (fa fc : Nat) (fB : Option Addr) (fd fe : Nat) (fX : Option Addr) (fl fq : Nat), g = n + 1 ∧ pk = 1 ∧ pv = (i : Int) ∧ i < 2 ∧ xs[i * 9]? = some (.bool true) ∧ (∀ q u, [(Value.int .i64 fk), (Value.int .i64 fv), (Value.string fs), (Value.bool fn), (Value.slice fA fa fc), (Value.slice fB fd fe), (Value.slice fX fl fq)][q]? = some u → xs[i * 9 + 1 + q]? = some u) ∧ Der xs n [(Value.int .i64 fk), (Value.int .i64 fv), (Value.string fs), (Value.bool fn), (Value.slice fA fa fc), (Value.slice fB fd fe), (Value.slice fX fl fq)] r) := by
  generalize hp : [(Value.int .i64 pk), (Value.int .i64 pv), (Value.string ps), (Value.bool pn), (Value.slice pA pa pc), (Value.slice pB pd pe), (Value.slice pX pl pq)] = a at h
  cases h with
  | other _ _ _ _ _ _ _ _ _ _ _ _ _ hk =>
    simp only [List.cons.injEq, Value.int.injEq, true_and] at hp
    exact .inl ⟨rfl, by rw [hp.1]; exact hk, by simp [hp]⟩
  | free i _ _ _ _ _ _ _ _ _ _ _ _ _ hk hv hi hx =>
    simp only [List.cons.injEq, Value.int.injEq, true_and] at hp
    exact .inr (.inl ⟨rfl, i, by rw [hp.1]; exact hk, by rw [hp.2.1]; exact hv, hi, hx, by simp [hp]⟩)
  | step n i _ _ _ _ _ _ _ _ _ _ _ _ _ fk fv fs fn fA fa fc fB fd fe fX fl fq _ hk hv hi hx hq hn =>
    simp only [List.cons.injEq, Value.int.injEq, true_and] at hp
    exact .inr (.inr ⟨n, i, fk, fv, fs, fn, fA, fa, fc, fB, fd, fe, fX, fl, fq, rfl, by rw [hp.1]; exact hk, by rw [hp.2.1]; exact hv, hi, hx, hq, hn⟩)
set_option maxHeartbeats 6400000 in
theorem deref_any (B h G c m : Nat) (tv0 : Value) (xs ys : List Value) (nst : Nat) (tk tv : Int) (ts : ByteArray) (tn : Bool) (tA : Option Addr) (ta tc : Nat) (tB : Option Addr) (td te : Nat) (tX : Option Addr) (tl tq : Nat) (rk rv : Int) (rs : ByteArray) (rn : Bool) (rA : Option Addr) (ra rc : Nat) (rB : Option Addr) (rd re : Nat) (rX : Option Addr) (rl rq : Nat) (w : World) (hD : Der xs nst [(Value.int .i64 tk), (Value.int .i64 tv), (Value.string ts), (Value.bool tn), (Value.slice tA ta tc), (Value.slice tB td te), (Value.slice tX tl tq)] [(Value.int .i64 rk), (Value.int .i64 rv), (Value.string rs), (Value.bool rn), (Value.slice rA ra rc), (Value.slice rB rd re), (Value.slice rX rl rq)]) (hS : HS w B h G c tv0 xs m ys) :
    Calls Tryz.prog 114 #[.pointer (some ⟨h, 0, none⟩), .agg #[(Value.int .i64 tk), (Value.int .i64 tv), (Value.string ts), (Value.bool tn), (Value.slice tA ta tc), (Value.slice tB td te), (Value.slice tX tl tq)]] w fun e w' => e = .returned (.agg #[(Value.int .i64 rk), (Value.int .i64 rv), (Value.string rs), (Value.bool rn), (Value.slice rA ra rc), (Value.slice rB rd re), (Value.slice rX rl rq)]) ∧ Below w.heap.size w w' := by
  have HS0 := Lib.hid hS
  have HDE := Lib.hid hD
  have HBT := Lib.hid (Blk.new w 27 #[(Value.int .i64 tk), (Value.int .i64 tv), (Value.string ts), (Value.bool tn), (Value.slice tA ta tc), (Value.slice tB td te), (Value.slice tX tl tq)])
  have HBR := Lib.hid (Blk.new (w.alloc (.cells #[(Value.int .i64 tk), (Value.int .i64 tv), (Value.string ts), (Value.bool tn), (Value.slice tA ta tc), (Value.slice tB td te), (Value.slice tX tl tq)] 27)) 27 zt.toArray)
  rw [show (w.alloc (.cells #[(Value.int .i64 tk), (Value.int .i64 tv), (Value.string ts), (Value.bool tn), (Value.slice tA ta tc), (Value.slice tB td te), (Value.slice tX tl tq)] 27)).heap.size = w.heap.size + 1 by simp] at HBR
  have HBW := Lib.hid (below_pair w (.cells #[(Value.int .i64 tk), (Value.int .i64 tv), (Value.string ts), (Value.bool tn), (Value.slice tA ta tc), (Value.slice tB td te), (Value.slice tX tl tq)] 27) (.cells zt.toArray 27))
  have HBT2 := Lib.hid (HBT.out.alloc (.cells zt.toArray 27))
  have HGT : Hid (¬ G = w.heap.size ∧ ¬ h = w.heap.size) := ⟨fun e => by have := (HS0.out.row.lt G rfl).2; omega, fun e => by have := HS0.out.blk.lt; omega⟩
  clear hD hS
  unfold zt at HBR HBW HBT2
  go_enter Tryz.func114, Tryz.ntmps114
  go_wp2_with fail
  go_loopg [5, 6] nst (fun gk s5 s6 wr => ∃ (pk pv : Int) (ps : ByteArray) (pn : Bool) (pA : Option Addr) (pa pc : Nat) (pB : Option Addr) (pd pe : Nat) (pX : Option Addr) (pl pq : Nat), Hid (Der xs gk [(Value.int .i64 pk), (Value.int .i64 pv), (Value.string ps), (Value.bool pn), (Value.slice pA pa pc), (Value.slice pB pd pe), (Value.slice pX pl pq)] [(Value.int .i64 rk), (Value.int .i64 rv), (Value.string rs), (Value.bool rn), (Value.slice rA ra rc), (Value.slice rB rd re), (Value.slice rX rl rq)]) ∧ Hid (Blk wr w.heap.size 27 #[(Value.int .i64 pk), (Value.int .i64 pv), (Value.string ps), (Value.bool pn), (Value.slice pA pa pc), (Value.slice pB pd pe), (Value.slice pX pl pq)]) ∧ Hid (Blk wr (w.heap.size + 1) 27 #[.int .i64 0, .int .i64 0, .string ⟨#[]⟩, .bool false, .slice none 0 0, .slice none 0 0, .slice none 0 0]) ∧ Hid (Below w.heap.size w wr))
  case atStart => exact ⟨_, _, _, _, _, _, _, _, _, _, _, _, _, HDE, HBT2, HBR, HBW⟩
  case round =>
    obtain ⟨pk, pv, ps, pn, pA, pa, pc, pB, pd, pe, pX, pl, pq, HDR, HT, HR, HW⟩ := hrel
    have HSR := Lib.hid (HS0.out.below HW.out)
    have t0 := HT.out.cell 0
    have t1 := HT.out.cell 1
    have b0 := HSR.out.blk.cell 0
    simp only [List.getElem?_toArray, List.getElem?_cons_zero, List.getElem?_cons_succ] at t0 t1 b0
    rcases HDR.out.inv with ⟨rfl, hk, hr⟩ | ⟨rfl, i, rfl, rfl, hi, hx, hr⟩ | ⟨n, i, fk, fv, fs, fn, fA, fa, fc, fB, fd, fe, fX, fl, fq, rfl, rfl, rfl, hi, hx, hp, hnext⟩
    · have hk1 : (pk == 1) = false := beq_eq_false_iff_ne.2 hk
      have HRR := Lib.hid hr
      clear hr
      have HWF : Hid (∀ (W : World) (v0 v1 v2 v3 v4 v5 v6 : Value), Below w.heap.size w W → Below w.heap.size w (((((((W.setCell ⟨w.heap.size + 1, 0, none⟩ v0).setCell ⟨w.heap.size + 1, 1, none⟩ v1).setCell ⟨w.heap.size + 1, 2, none⟩ v2).setCell ⟨w.heap.size + 1, 3, none⟩ v3).setCell ⟨w.heap.size + 1, 4, none⟩ v4).setCell ⟨w.heap.size + 1, 5, none⟩ v5).setCell ⟨w.heap.size + 1, 6, none⟩ v6)) := fun W v0 v1 v2 v3 v4 v5 v6 hw => (((((((hw.setCell (Nat.le_succ _) _).setCell (Nat.le_succ _) _).setCell (Nat.le_succ _) _).setCell (Nat.le_succ _) _).setCell (Nat.le_succ _) _).setCell (Nat.le_succ _) _).setCell (Nat.le_succ _) _)
      clear t0 t1
      have t0 := HT.out.cell 0
      have t1 := HT.out.cell 1
      have t2 := HT.out.cell 2
      have t3 := HT.out.cell 3
      have t4 := HT.out.cell 4
      have t5 := HT.out.cell 5
      have t6 := HT.out.cell 6
      have r0 := HR.out.cell 0
      have r1 := HR.out.cell 1
      have r2 := HR.out.cell 2
      have r3 := HR.out.cell 3
      have r4 := HR.out.cell 4
      have r5 := HR.out.cell 5
      have r6 := HR.out.cell 6
      simp only [List.getElem?_toArray, List.getElem?_cons_zero, List.getElem?_cons_succ] at t0 t1 t2 t3 t4 t5 t6 r0 r1 r2 r3 r4 r5 r6
      have z0 := HR.out.frozen 0
      have z1 := HR.out.frozen 1
      have z2 := HR.out.frozen 2
      have z3 := HR.out.frozen 3
      have z4 := HR.out.frozen 4
      have z5 := HR.out.frozen 5
      have z6 := HR.out.frozen 6
      go_wp2_with fail
      go_quiet (fail)
      go_wp2_with fail
      refine bodyPost_ret (v := .agg #[.int .i64 pk, .int .i64 pv, .string ps, .bool pn, .slice pA pa pc, .slice pB pd pe, .slice pX pl pq]) (by rw [results_cellT rfl]; go_simp) rfl ?_
      refine ⟨congrArg (fun l => Ending.returned (.agg (List.toArray l))) HRR.out.symm, ?_⟩
      refine HWF.out _ _ _ _ _ _ _ _ ?_
      exact below_drewN HW.out _
    · have g0 := HSR.out.cell hx
      have hi1 : (0 : Int) ≤ (i : Int) := by omega
      have hi2 : (i : Int) < ((2 : Nat) : Int) := by omega
      have hi3 : (i : Int) < 2 := by omega
      have HRR := Lib.hid hr
      clear hx hr
      have HWF : Hid (∀ (W : World) (v0 v1 v2 v3 v4 v5 v6 : Value), Below w.heap.size w W → Below w.heap.size w (((((((W.setCell ⟨w.heap.size + 1, 0, none⟩ v0).setCell ⟨w.heap.size + 1, 1, none⟩ v1).setCell ⟨w.heap.size + 1, 2, none⟩ v2).setCell ⟨w.heap.size + 1, 3, none⟩ v3).setCell ⟨w.heap.size + 1, 4, none⟩ v4).setCell ⟨w.heap.size + 1, 5, none⟩ v5).setCell ⟨w.heap.size + 1, 6, none⟩ v6)) := fun W v0 v1 v2 v3 v4 v5 v6 hw => (((((((hw.setCell (Nat.le_succ _) _).setCell (Nat.le_succ _) _).setCell (Nat.le_succ _) _).setCell (Nat.le_succ _) _).setCell (Nat.le_succ _) _).setCell (Nat.le_succ _) _).setCell (Nat.le_succ _) _)
      clear t0 t1
      have t0 := HT.out.cell 0
      have t1 := HT.out.cell 1
      have t2 := HT.out.cell 2
      have t3 := HT.out.cell 3
      have t4 := HT.out.cell 4
      have t5 := HT.out.cell 5
      have t6 := HT.out.cell 6
      have r0 := HR.out.cell 0
      have r1 := HR.out.cell 1
      have r2 := HR.out.cell 2
      have r3 := HR.out.cell 3
      have r4 := HR.out.cell 4
      have r5 := HR.out.cell 5
      have r6 := HR.out.cell 6
      simp only [List.getElem?_toArray, List.getElem?_cons_zero, List.getElem?_cons_succ] at t0 t1 t2 t3 t4 t5 t6 r0 r1 r2 r3 r4 r5 r6
      have z0 := HR.out.frozen 0
      have z1 := HR.out.frozen 1
      have z2 := HR.out.frozen 2
      have z3 := HR.out.frozen 3
      have z4 := HR.out.frozen 4
      have z5 := HR.out.frozen 5
      have z6 := HR.out.frozen 6
      go_wp2_with fail
      go_quiet (fail)
      go_wp2_with fail
      refine bodyPost_ret (v := .agg #[.int .i64 1, .int .i64 (i : Int), .string ps, .bool pn, .slice pA pa pc, .slice pB pd pe, .slice pX pl pq]) (by rw [results_cellT rfl]; go_simp) rfl ?_
      refine ⟨congrArg (fun l => Ending.returned (.agg (List.toArray l))) HRR.out.symm, ?_⟩
      refine HWF.out _ _ _ _ _ _ _ _ ?_
      exact below_drewN HW.out _
    · have g0 := HSR.out.cell hx
      have hi1 : (0 : Int) ≤ (i : Int) := by omega
      have hi2 : (i : Int) < ((2 : Nat) : Int) := by omega
      have hi3 : (i : Int) < 2 := by omega
      have HP : Hid (∀ q u, [(Value.int .i64 fk), (Value.int .i64 fv), (Value.string fs), (Value.bool fn), (Value.slice fA fa fc), (Value.slice fB fd fe), (Value.slice fX fl fq)][q]? = some u → xs[i * 9 + 1 + q]? = some u) := hp
      have HNX := Lib.hid hnext
      clear hx hp hnext
      go_wp2_with fail
      go_quiet (fail)
      go_wp2_with fail
      generalize hy0 : World.drewN wr _ = y0
      have HY : Hid (Below wr.heap.size wr y0) := by rw [← hy0]; exact below_drewN (Below.refl _ _) _
      have HTY := Lib.hid (HT.out.to HY.out)
      have HRY := Lib.hid (HR.out.to HY.out)
      have HWY := Lib.hid (HW.out.trans (HY.out.mono HW.out.size))
      have HSY := Lib.hid (HSR.out.below HY.out)
      clear hy0 t0 t1 b0 g0
      have t0 := HTY.out.cell 0
      have t1 := HTY.out.cell 1
      have t2 := HTY.out.cell 2
      have t3 := HTY.out.cell 3
      have t4 := HTY.out.cell 4
      have t5 := HTY.out.cell 5
      have t6 := HTY.out.cell 6
      have b0 := HSY.out.blk.cell 0
      simp only [List.getElem?_toArray, List.getElem?_cons_zero, List.getElem?_cons_succ] at t0 t1 t2 t3 t4 t5 t6 b0
      have z0 := HTY.out.frozen 0
      have z1 := HTY.out.frozen 1
      have z2 := HTY.out.frozen 2
      have z3 := HTY.out.frozen 3
      have z4 := HTY.out.frozen 4
      have z5 := HTY.out.frozen 5
      have z6 := HTY.out.frozen 6
      have g1 := HSY.out.cell (HP.out 0 _ rfl)
      have g2 := HSY.out.cell (HP.out 1 _ rfl)
      have g3 := HSY.out.cell (HP.out 2 _ rfl)
      have g4 := HSY.out.cell (HP.out 3 _ rfl)
      have g5 := HSY.out.cell (HP.out 4 _ rfl)
      have g6 := HSY.out.cell (HP.out 5 _ rfl)
      have g7 := HSY.out.cell (HP.out 6 _ rfl)
      simp only [Nat.add_assoc] at g1 g2 g3 g4 g5 g6 g7
      go_region
      all_goals
        go_wp2_with fail
        go_roundg n
        case measure => omega
        case rel =>
          have h7 := (((((((HTY.out.set_ 0 (.int .i64 fk)).set_ 1 (.int .i64 fv)).set_ 2 (.string fs)).set_ 3 (.bool fn)).set_ 4 (.slice fA fa fc)).set_ 5 (.slice fB fd fe)).set_ 6 (.slice fX fl fq)).drew
          simp only [List.setIfInBounds_toArray, List.set_cons_succ, List.set_cons_zero] at h7
          have h8 : Below w.heap.size w _ := (((((((HWY.out.setCell (p := ⟨w.heap.size, 0, none⟩) (Nat.le_refl _) (.int .i64 fk)).setCell (p := ⟨w.heap.size, 1, none⟩) (Nat.le_refl _) (.int .i64 fv)).setCell (p := ⟨w.heap.size, 2, none⟩) (Nat.le_refl _) (.string fs)).setCell (p := ⟨w.heap.size, 3, none⟩) (Nat.le_refl _) (.bool fn)).setCell (p := ⟨w.heap.size, 4, none⟩) (Nat.le_refl _) (.slice fA fa fc)).setCell (p := ⟨w.heap.size, 5, none⟩) (Nat.le_refl _) (.slice fB fd fe)).setCell (p := ⟨w.heap.size, 6, none⟩) (Nat.le_refl _) (.slice fX fl fq)).drew
          have h9 := ((((((((Kept.refl (fun k => k = w.heap.size) y0).trans (Kept.setCell _ ⟨w.heap.size, 0, none⟩ (.int .i64 fk))).trans (Kept.setCell _ ⟨w.heap.size, 1, none⟩ (.int .i64 fv))).trans (Kept.setCell _ ⟨w.heap.size, 2, none⟩ (.string fs))).trans (Kept.setCell _ ⟨w.heap.size, 3, none⟩ (.bool fn))).trans (Kept.setCell _ ⟨w.heap.size, 4, none⟩ (.slice fA fa fc))).trans (Kept.setCell _ ⟨w.heap.size, 5, none⟩ (.slice fB fd fe))).trans (Kept.setCell _ ⟨w.heap.size, 6, none⟩ (.slice fX fl fq))).drew
          exact ⟨fk, fv, fs, fn, fA, fa, fc, fB, fd, fe, fX, fl, fq, HNX, h7, h9.blk HRY.out (by show ¬ _ = _; omega), h8⟩
theorem forget_any (h : Nat) (A : Option Addr) (n c : Nat) (tv : Value) (w : World) (hk : Blk w h 141 #[.slice A n c, tv, .slice none 0 0]) : Calls Tryz.prog 116 #[.pointer (some ⟨h, 0, none⟩)] w fun e w' => e = .returned (.tuple #[]) ∧ w' = w.setCell ⟨h, 1, none⟩ (.slice none 0 0) := by
  have c1 := hk.cell 1
  have c2 := hk.cell 2
  have fz := hk.frozen 1
  simp only [List.getElem?_toArray, List.getElem?_cons_zero, List.getElem?_cons_succ] at c1 c2
  go_enter Tryz.func116, Tryz.ntmps116
  go_wp2_with fail
  unfold bodyPost
  refine ⟨rfl, .tuple #[], ?_, rfl, rfl⟩
  first | (simp [results, Tryz.f116]; done) | (unfold results; rfl) | kernel_rfl
end Go.Proofs.YtkfnpcilanheiaaGreat
