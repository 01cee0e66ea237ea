/- (*heap.unifier).bind of a free variable, without the occurs check. -/
import Derived.Test.YtkfnpcilanheiaaGreatJo39
set_option linter.unusedVariables false
set_option linter.unusedSimpArgs false
set_option maxRecDepth 100000
namespace Go.Proofs.YtkfnpcilanheiaaGreat
open Go.RowKit NumB
def US (w : World) (U h : Nat) (N M st : Value) : Prop := Blk w U 152 #[.pointer (some ⟨h, 0, none⟩), .bool false, N, M, .slice none 0 0, st]
set_option maxHeartbeats 6400000 in
theorem bind_any (B h G c m U : Nat) (N M st tv : Value) (xs ys : List Value) (vi : Nat) (hvi : vi < 2) (ob : Bool) (ok ov : Int) (os : ByteArray) (on : Bool) (oA : Option Addr) (oa oc : Nat) (oB : Option Addr) (od oe : Nat) (oX : Option Addr) (ol oq : Nat) (nk nv : Int) (ns : ByteArray) (nn : Bool) (nA : Option Addr) (na nc : Nat) (nB : Option Addr) (nd ne : Nat) (nX : Option Addr) (nl nz : Nat)
    (hold : ∀ q u, [(Value.bool ob), (Value.int .i64 ok), (Value.int .i64 ov), (Value.string os), (Value.bool on), (Value.slice oA oa oc), (Value.slice oB od oe), (Value.slice oX ol oq), (Value.slice none 0 0)][q]? = some u → xs[vi * 9 + q]? = some u) (hm : m ≤ 1000) (w : World) (hB : B ≤ w.heap.size) (hS : HS w B h G c tv xs m ys) (hU : US w U h N M st) :
    Calls Tryz.prog 181 #[.pointer (some ⟨U, 0, none⟩), .int .i64 (vi : Int), .agg #[.int .i64 nk, .int .i64 nv, .string ns, .bool nn, .slice nA na nc, .slice nB nd ne, .slice nX nl nz]] w fun e w' => e = .returned (.bool true) ∧ (∃ tv', HS w' B h G c tv' (put9 xs vi (.bool true) (.int .i64 nk) (.int .i64 nv) (.string ns) (.bool nn) (.slice nA na nc) (.slice nB nd ne) (.slice nX nl nz) (.slice none 0 0)) (m + 1) (ys ++ [Value.int .i64 (vi : Int), (Value.bool ob), (Value.int .i64 ok), (Value.int .i64 ov), (Value.string os), (Value.bool on), (Value.slice oA oa oc), (Value.slice oB od oe), (Value.slice oX ol oq), (Value.slice none 0 0)])) ∧ FrT [some 141, some 144, some 196] w w' ∧ Below B w w' := by
  have HB := Lib.hid hB
  have HS0 := Lib.hid hS
  have HU0 : Hid (Blk w U 152 #[.pointer (some ⟨h, 0, none⟩), .bool false, N, M, .slice none 0 0, st]) := hU
  have HOLD := Lib.hid hold
  have HBT := Lib.hid (Blk.new w 27 #[.int .i64 nk, .int .i64 nv, .string ns, .bool nn, .slice nA na nc, .slice nB nd ne, .slice nX nl nz])
  have HBW := Lib.hid (below_one w (.cells #[.int .i64 nk, .int .i64 nv, .string ns, .bool nn, .slice nA na nc, .slice nB nd ne, .slice nX nl nz] 27))
  have u0 := (HU0.out.to HBW.out).cell 0
  have u1 := (HU0.out.to HBW.out).cell 1
  have b0 := (HS0.out.below HBW.out).blk.cell 0
  simp only [List.getElem?_toArray, List.getElem?_cons_zero, List.getElem?_cons_succ] at u0 u1 b0
  have g8 : (w.alloc (.cells #[.int .i64 nk, .int .i64 nv, .string ns, .bool nn, .slice nA na nc, .slice nB nd ne, .slice nX nl nz] 27)).cell? ⟨G, vi * 9 + 8, none⟩ = some (.slice none 0 0) := (HS0.out.below HBW.out).cell (HOLD.out 8 _ rfl)
  have hi1 : (0 : Int) ≤ (vi : Int) := by omega
  have hi2 : (vi : Int) < ((2 : Nat) : Int) := by omega
  have hi3 : (vi : Int) < 2 := by omega
  clear hB hS hU hold
  go_enter Tryz.func181, Tryz.ntmps181
  go_wp2_with fail
  go_quiet (fail)
  go_wp2_with fail
  generalize hy0 : World.drewN _ _ = y0
  have HY : Hid (Below w.heap.size w y0) := by rw [← hy0]; exact below_drewN HBW.out _
  have HTY : Hid (Blk y0 w.heap.size 27 #[.int .i64 nk, .int .i64 nv, .string ns, .bool nn, .slice nA na nc, .slice nB nd ne, .slice nX nl nz]) := by rw [← hy0]; exact HBT.out
  clear hy0 u0 u1 b0 g8 HBT HBW
  have HSY := Lib.hid (HS0.out.below HY.out)
  have HUY := Lib.hid (HU0.out.to HY.out)
  have HSF : Hid (∀ (W : World), Blk W U 152 #[.pointer (some ⟨h, 0, none⟩), .bool false, N, M, .slice none 0 0, st] → Blk W w.heap.size 27 #[.int .i64 nk, .int .i64 nv, .string ns, .bool nn, .slice nA na nc, .slice nB nd ne, .slice nX nl nz] → W.cell? ⟨h, 0, none⟩ = some (.slice (some ⟨G, 0, none⟩) 2 c) → W.cell? ⟨G, vi * 9 + 8, none⟩ = some (.slice none 0 0) → (W.cell? ⟨U, 0, none⟩ = some (.pointer (some ⟨h, 0, none⟩)) ∧ W.cell? ⟨h, 0, none⟩ = some (.slice (some ⟨G, 0, none⟩) 2 c) ∧ W.cell? ⟨G, vi * 9 + 8, none⟩ = some (.slice none 0 0) ∧ W.cell? ⟨w.heap.size, 0, none⟩ = some (.int .i64 nk) ∧ W.cell? ⟨w.heap.size, 1, none⟩ = some (.int .i64 nv) ∧ W.cell? ⟨w.heap.size, 2, none⟩ = some (.string ns) ∧ W.cell? ⟨w.heap.size, 3, none⟩ = some (.bool nn) ∧ W.cell? ⟨w.heap.size, 4, none⟩ = some (.slice nA na nc) ∧ W.cell? ⟨w.heap.size, 5, none⟩ = some (.slice nB nd ne) ∧ W.cell? ⟨w.heap.size, 6, none⟩ = some (.slice nX nl nz))) := fun W h1 h2 h3 h4 => ⟨h1.cell 0, h3, h4, h2.cell 0, h2.cell 1, h2.cell 2, h2.cell 3, h2.cell 4, h2.cell 5, h2.cell 6⟩
  have HSET : Hid (Calls Tryz.prog 253 #[.pointer (some ⟨h, 0, none⟩), .int .i64 (vi : Int), .agg #[.bool true, .int .i64 nk, .int .i64 nv, .string ns, .bool nn, .slice nA na nc, .slice nB nd ne, .slice nX nl nz, .slice none 0 0]] y0.drew fun e w' => e = .returned (.tuple #[]) ∧ Hid ((∃ tv', HS w' B h G c tv' (put9 xs vi (.bool true) (.int .i64 nk) (.int .i64 nv) (.string ns) (.bool nn) (.slice nA na nc) (.slice nB nd ne) (.slice nX nl nz) (.slice none 0 0)) (m + 1) (ys ++ [Value.int .i64 (vi : Int), (Value.bool ob), (Value.int .i64 ok), (Value.int .i64 ov), (Value.string os), (Value.bool on), (Value.slice oA oa oc), (Value.slice oB od oe), (Value.slice oX ol oq), (Value.slice none 0 0)])) ∧ FrT [some 141, some 144, some 196] w w' ∧ Below B w w') ∧ (w'.cell? ⟨U, 0, none⟩ = some (.pointer (some ⟨h, 0, none⟩)) ∧ w'.cell? ⟨h, 0, none⟩ = some (.slice (some ⟨G, 0, none⟩) 2 c) ∧ w'.cell? ⟨G, vi * 9 + 8, none⟩ = some (.slice none 0 0) ∧ w'.cell? ⟨w.heap.size, 0, none⟩ = some (.int .i64 nk) ∧ w'.cell? ⟨w.heap.size, 1, none⟩ = some (.int .i64 nv) ∧ w'.cell? ⟨w.heap.size, 2, none⟩ = some (.string ns) ∧ w'.cell? ⟨w.heap.size, 3, none⟩ = some (.bool nn) ∧ w'.cell? ⟨w.heap.size, 4, none⟩ = some (.slice nA na nc) ∧ w'.cell? ⟨w.heap.size, 5, none⟩ = some (.slice nB nd ne) ∧ w'.cell? ⟨w.heap.size, 6, none⟩ = some (.slice nX nl nz))) := by
    refine (set_any B h G c m tv xs ys vi hvi ob ok ov os on oA oa oc oB od oe oX ol oq true nk nv ns nn nA na nc nB nd ne nX nl nz HOLD.out hm y0.drew (Nat.le_trans HB.out HY.out.size) HSY.out.drew).mono ?_
    rintro e w' ⟨rfl, ⟨tv', h1⟩, h2, h3⟩
    refine ⟨rfl, ⟨⟨tv', h1⟩, (FrT.of_below HY.out.drew).trans h2, (HY.out.drew.mono HB.out).trans h3⟩, HSF.out _ (HUY.out.drew.frT h2 (by decide)) (HTY.out.drew.frT h2 (by decide)) (h1.blk.cell 0) (h1.cell ?_)⟩
    have hl := HS0.out.row.1
    unfold put9
    have : vi = 0 ∨ vi = 1 := by omega
    rcases this with rfl | rfl <;> simp [hl]
  have hS1 := HSF.out y0.drew HUY.out.drew HTY.out.drew (HSY.out.drew.blk.cell 0) (HSY.out.drew.cell (HOLD.out 8 _ rfl))
  go_region_held3 (fun w' => w'.cell? ⟨U, 0, none⟩ = some (.pointer (some ⟨h, 0, none⟩)) ∧ w'.cell? ⟨h, 0, none⟩ = some (.slice (some ⟨G, 0, none⟩) 2 c) ∧ w'.cell? ⟨G, vi * 9 + 8, none⟩ = some (.slice none 0 0) ∧ w'.cell? ⟨w.heap.size, 0, none⟩ = some (.int .i64 nk) ∧ w'.cell? ⟨w.heap.size, 1, none⟩ = some (.int .i64 nv) ∧ w'.cell? ⟨w.heap.size, 2, none⟩ = some (.string ns) ∧ w'.cell? ⟨w.heap.size, 3, none⟩ = some (.bool nn) ∧ w'.cell? ⟨w.heap.size, 4, none⟩ = some (.slice nA na nc) ∧ w'.cell? ⟨w.heap.size, 5, none⟩ = some (.slice nB nd ne) ∧ w'.cell? ⟨w.heap.size, 6, none⟩ = some (.slice nX nl nz))
    (with_reducible assumption)
    (first
      | (go_at_call 253; (with_reducible refine HSET.out.mono ?_); rintro e y1 ⟨rfl, HF, hS2⟩))
  go_wp2_with fail
  go_ret
  exact ⟨rfl, HF.out⟩
end Go.Proofs.YtkfnpcilanheiaaGreat
