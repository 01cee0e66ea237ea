/-  -/
import Derived.Test.YtdmhkhnnomdkcaaGreatDoorProg
import Derived.WalkKit
import Derived.WalkSpells
import Derived.Below
import Derived.Laws.OwnMore
import Derived.Deep.Draws
import Derived.Lib.Hide
import Derived.Deep.LoopGhost
import Derived.Deep.QuietTactic
import Derived.BigQuiet
import Derived.Deep.DeepCutAuto
import Derived.RegionTactic
import Derived.WalkLawsBesides
import Derived.IntWalk
import Derived.Outline
import Derived.Maps.AppendAt
import Derived.Lib.SliceRun
import Derived.Laws.BitsAllLaws
import Derived.Laws.BitsLemmas
import Derived.Test.YtdmhkhnnomdkcaaGreatDoorJo1
set_option linter.unusedVariables false
set_option linter.unusedSimpArgs false
/- Readings of slices of integers as lists of natural numbers, and what keeps them. Conditions: none. -/
namespace Go.Proofs.YtdmhkhnnomdkcaaGreatDoor
open Go.RowKit NumB

/-- The slice with address A and length n reads as the list xs of numbers of kind k; it lies below block B. -/
def Rd (k : IntKind) (w : World) (B : Nat) (A : Option Addr) (n : Nat) (xs : List Nat) : Prop :=
  xs.length = n ∧ (0 < n → ∃ b o, A = some ⟨b, o, none⟩ ∧ b < B ∧ ∀ i, i < n → w.cell? ⟨b, o + i, none⟩ = some (.int k ((xs.getD i 0 : Nat) : Int)))

section
variable {k : IntKind} {w w' : World} {B B' n : Nat} {A : Option Addr} {xs : List Nat}

theorem Rd.len (h : Rd k w B A n xs) : xs.length = n := h.1
theorem Rd.none_ : Rd k w B A 0 [] := ⟨rfl, fun h => absurd h (by omega)⟩
theorem Rd.keep (h : Rd k w B A n xs) (hk : ∀ p : Addr, p.block < B → w'.cell? p = w.cell? p) : Rd k w' B A n xs :=
  ⟨h.1, fun hn => by
    obtain ⟨b, o, e, hb, hc⟩ := h.2 hn
    exact ⟨b, o, e, hb, fun i hi => (hk _ hb).trans (hc i hi)⟩⟩
theorem Rd.more (h : Rd k w B A n xs) (hB : B ≤ B') : Rd k w B' A n xs :=
  ⟨h.1, fun hn => by
    obtain ⟨b, o, e, hb, hc⟩ := h.2 hn
    exact ⟨b, o, e, by omega, hc⟩⟩
theorem Rd.below (h : Rd k w B A n xs) (hb : Below B w w') : Rd k w' B A n xs := h.keep fun _ hp => hb.cell hp
theorem Rd.to (h : Rd k w w.heap.size A n xs) (hb : Below w.heap.size w w') : Rd k w' w'.heap.size A n xs := (h.below hb).more hb.size
theorem Rd.take (h : Rd k w B A n xs) {m : Nat} (hm : m ≤ n) : Rd k w B A m (xs.take m) := by
  refine ⟨by rw [List.length_take, h.1]; omega, fun hn => ?_⟩
  obtain ⟨b, o, e, hb, hc⟩ := h.2 (by omega)
  refine ⟨b, o, e, hb, fun i hi => ?_⟩
  rw [hc i (by omega)]
  simp [List.getD_eq_getElem?_getD, hi]
end

/-- A whole slice value reads as a list of numbers. -/
def Sl (k : IntKind) (w : World) (v : Value) (xs : List Nat) : Prop :=
  ∃ A c, v = .slice A xs.length c ∧ xs.length ≤ c ∧ c ≤ maxLen ∧ Rd k w w.heap.size A xs.length xs

theorem Sl.to {k : IntKind} {w w' : World} {v : Value} {xs : List Nat} (h : Sl k w v xs) (hb : Below w.heap.size w w') : Sl k w' v xs := by
  obtain ⟨A, c, e, h1, h2, h3⟩ := h
  exact ⟨A, c, e, h1, h2, h3.to hb⟩

/-- 2^32 and 2^16, behind names. -/
def W32 : Nat := 4294967296
def W16 : Nat := 65536
theorem W32_gt : 1 < W32 := by decide
theorem W16_gt : 1 < W16 := by decide

/-- A slice of limbs that reads as a natural number, in canonical form. -/
def Nat32 (w : World) (v : Value) (x : Nat) : Prop := Sl .u32 w v (digs W32 x)
/-- A slice of base 2^16 digits (as ints) that reads as a natural number, in canonical form. -/
def Nat16 (w : World) (v : Value) (x : Nat) : Prop := Sl .i64 w v (digs W16 x)

/-- An element of a slice that reads as a list, with a name of its own. -/
theorem Rd.at_ {k : IntKind} {w : World} {B n i : Nat} {A : Option Addr} {xs : List Nat} (h : Rd k w B A n xs) (hi : i < n) :
    ∃ b o x, A = some ⟨b, o, none⟩ ∧ b < B ∧ xs.getD i 0 = x ∧ w.cell? ⟨b, o + i, none⟩ = some (.int k (x : Int)) := by
  obtain ⟨b, o, e, hb, hc⟩ := h.2 (by omega)
  exact ⟨b, o, _, e, hb, rfl, hc i hi⟩

/-- The cells of a list of numbers. -/
def cellsN (k : IntKind) (xs : List Nat) : List Value := xs.map fun (x : Nat) => Value.int k (x : Int)

theorem cellsN_get {k : IntKind} {xs : List Nat} {i : Nat} (h : i < xs.length) : (cellsN k xs)[i]? = some (.int k ((xs.getD i 0 : Nat) : Int)) := by
  rw [cellsN, List.getElem?_map, List.getElem?_eq_getElem h, getD_lt h]; rfl
theorem cellsN_len {k : IntKind} {xs : List Nat} : (cellsN k xs).length = xs.length := by simp [cellsN]
theorem cellsN_set {k : IntKind} {xs : List Nat} {i x : Nat} : (cellsN k xs).set i (.int k (x : Int)) = cellsN k (xs.set i x) := by simp [cellsN, List.map_set]
theorem cellsN_append {k : IntKind} {xs ys : List Nat} : cellsN k xs ++ cellsN k ys = cellsN k (xs ++ ys) := by simp [cellsN]
theorem cellsN_zeros {k : IntKind} {n : Nat} : (madeCells #[Value.int k 0] n).toList = cellsN k (List.replicate n 0) := by
  rw [toList_madeCells_one]; simp [cellsN]
theorem cellsN_one {k : IntKind} {xs : List Nat} : ∀ u ∈ cellsN k xs, u.oneCell' = true := by
  intro u hu
  obtain ⟨x, _, rfl⟩ := List.mem_map.1 hu
  rfl

/-- The call's own row of numbers, at the head of block g (from block B on): n numbers of a capacity c. -/
def Own (k : IntKind) (T : TypeId) (w : World) (B g n c : Nat) (xs : List Nat) : Prop :=
  xs.length = n ∧ w.ownsRow B T 1 (.slice (some ⟨g, 0, none⟩) n c) n (cellsN k xs)

section
variable {k : IntKind} {T : TypeId} {w w' : World} {B g n c : Nat} {xs : List Nat}
theorem Own.cell (h : Own k T w B g n c xs) {i : Nat} (hi : i < n) : w.cell? ⟨g, i, none⟩ = some (.int k ((xs.getD i 0 : Nat) : Int)) := by
  rw [h.2.cellAt i (by omega), cellsN_get (by rw [h.1]; exact hi)]
theorem Own.frozen (h : Own k T w B g n c xs) (i : Nat) : w.frozen? ⟨g, i, none⟩ = false := h.2.frozenAt i
theorem Own.lt (h : Own k T w B g n c xs) : B ≤ g ∧ g < w.heap.size := h.2.lt g rfl
theorem Own.cap (h : Own k T w B g n c xs) : n ≤ c ∧ c ≤ maxLen := by
  rcases h.2.2 with ⟨h', _⟩ | ⟨g', cap', cur, h', _, _, h1, h2, _⟩
  · simp at h'
  · simp only [Value.slice.injEq, Option.some.injEq, Addr.mk.injEq, and_true, true_and] at h'
    obtain ⟨_, rfl⟩ := h'
    exact ⟨h1, h2⟩
theorem Own.stored (h : Own k T w B g n c xs) (i x : Nat) : Own k T (w.setCell ⟨g, i, none⟩ (.int k (x : Int))) B g n c (xs.set i x) := by
  refine ⟨by simpa using h.1, ?_⟩
  rw [← cellsN_set]
  exact (h.2.stored i _).1
theorem Own.block (h : Own k T w B g n c xs) (he : w'.heap[g]? = w.heap[g]?) : Own k T w' B g n c xs := by
  refine ⟨h.1, h.2.1, ?_⟩
  rcases h.2.2 with h' | ⟨g', cap', cur, h', hb, hh, r⟩
  · exact .inl h'
  · simp only [Value.slice.injEq, Option.some.injEq, Addr.mk.injEq, and_true, true_and] at h'
    obtain ⟨rfl, rfl⟩ := h'
    exact .inr ⟨g, c, cur, rfl, hb, he.trans hh, r⟩
theorem Own.to (h : Own k T w B g n c xs) (hb : Below w.heap.size w w') : Own k T w' B g n c xs := h.block (hb.block g h.lt.2)
theorem Own.drewN (h : Own k T w B g n c xs) (m : Nat) : Own k T (w.drewN m) B g n c xs := h
theorem Own.drew (h : Own k T w B g n c xs) : Own k T w.drew B g n c xs := h
theorem Own.alloc (h : Own k T w B g n c xs) (o : Obj) : Own k T (w.alloc o) B g n c xs := h.block (Below.heap_alloc w o g h.lt.2)
theorem Own.far (h : Own k T w B g n c xs) {p : Addr} (hp : g ≠ p.block) (u : Value) : Own k T (w.setCell p u) B g n c xs := h.block (Below.heap_setCell w p u g hp)
theorem Own.rd (h : Own k T w B g n c xs) : Rd k w w.heap.size (some ⟨g, 0, none⟩) n xs :=
  ⟨h.1, fun _ => ⟨g, 0, rfl, h.lt.2, fun i hi => by rw [Nat.zero_add]; exact h.cell hi⟩⟩
theorem Own.made (h : w.ownsRow B T 1 (.slice (some ⟨g, 0, none⟩) n n) n (madeCells (Value.int k 0).cells (n * 1)).toList) : Own k T w B g n n (List.replicate n 0) :=
  ⟨by simp, by rw [Nat.mul_one] at h; rw [← cellsN_zeros]; exact h⟩
theorem Own.make (h : w.ownsRow B T 1 (.slice (some ⟨g, 0, none⟩) n c) n (cellsN k xs)) (hl : xs.length = n) : Own k T w B g n c xs := ⟨hl, h⟩
end

/-- A part of a row read as a slice value: from the whole row to its first m numbers. -/
theorem Sl.of_rd {k : IntKind} {w : World} {A : Option Addr} {n c m : Nat} {xs ys : List Nat} (h : Rd k w w.heap.size A n xs) (hm : m ≤ n) (hc : n ≤ c) (hx : c ≤ maxLen) (e : xs.take m = ys) : Sl k w (.slice A m c) ys := by
  subst e
  have hl : (xs.take m).length = m := by rw [List.length_take, h.1]; omega
  exact ⟨A, c, by rw [hl], by omega, hx, by rw [hl]; exact h.take hm⟩

theorem below_drewN {B : Nat} {a w : World} (h : Below B a w) (n : Nat) : Below B a (w.drewN n) := ⟨h.os, h.tape, h.output, h.size, h.block⟩
theorem below_undrew {B : Nat} {w w' : World} (h : Below B w.drew w') : Below B w w' := ⟨h.os, h.tape, h.output, h.size, h.block⟩
theorem below_undrewN {B n : Nat} {w w' : World} (h : Below B (w.drewN n) w') : Below B w w' := ⟨h.os, h.tape, h.output, h.size, h.block⟩
theorem below_of_drewN {B : Nat} {w : World} (n : Nat) : Below B w (w.drewN n) := below_drewN (Below.refl _ _) n

/-- Bits that do not meet: or is a sum. -/
theorem or_shift (a b : Nat) (hb : b < 4294967296) : a * 4294967296 ||| b = a * 4294967296 + b := by
  have := Nat.shiftLeft_add_eq_or_of_lt (a := a) (i := 32) (b := b) hb
  rw [Nat.shiftLeft_eq] at this
  exact this.symm
theorem castW (a b : Nat) : ((a * 4294967296 + b : Nat) : Int) = (a : Int) * 4294967296 + b := by omega
theorem toNatW (a : Nat) : ((a : Int) * 4294967296).toNat = a * 4294967296 := by omega
theorem u64_or_shift (a b : Nat) (ha : a < 4294967296) (hb : b < 4294967296) : bits .or .u64 ((a : Int) * 4294967296) (b : Int) = (a : Int) * 4294967296 + b :=
  (u64_or _ _ (by omega) (by omega) (by omega) (by omega)).trans (by rw [toNatW, Int.toNat_natCast, or_shift a b hb]; exact castW a b)
theorem u64_or_shift' (a b : Nat) (ha : a < 4294967296) (hb : b < 4294967296) : bits .or .u64 (b : Int) ((a : Int) * 4294967296) = (a : Int) * 4294967296 + b :=
  (u64_or _ _ (by omega) (by omega) (by omega) (by omega)).trans (by rw [toNatW, Int.toNat_natCast, Nat.or_comm, or_shift a b hb]; exact castW a b)

/-- A slice value (nil or not) that the call owns, from block B on. -/
def OwnV (k : IntKind) (T : TypeId) (w : World) (B : Nat) (v : Value) (xs : List Nat) : Prop := w.ownsRow B T 1 v xs.length (cellsN k xs)

section
variable {k : IntKind} {T : TypeId} {w w' : World} {B : Nat} {v : Value} {xs : List Nat}
theorem OwnV.nil_ (w : World) : OwnV k T w B (.slice none 0 0) [] := World.ownsRow_nil _ _ _ _
theorem OwnV.form (h : OwnV k T w B v xs) : (v = .slice none 0 0 ∧ xs = []) ∨ ∃ g c, v = .slice (some ⟨g, 0, none⟩) xs.length c ∧ Own k T w B g xs.length c xs := by
  rcases h.2 with ⟨h1, h2⟩ | ⟨g, cap, cur, rfl, r⟩
  · exact .inl ⟨h1, List.eq_nil_of_length_eq_zero h2⟩
  · exact .inr ⟨g, cap, rfl, rfl, h⟩
theorem Own.sl {g n c : Nat} (h : Own k T w B g n c xs) : Sl k w (.slice (some ⟨g, 0, none⟩) n c) xs := by
  have hl := h.1
  subst hl
  exact ⟨_, c, rfl, h.cap.1, h.cap.2, h.rd⟩
theorem OwnV.sl (h : OwnV k T w B v xs) : Sl k w v xs := by
  rcases h.form with ⟨rfl, rfl⟩ | ⟨g, c, rfl, ho⟩
  · exact ⟨none, 0, rfl, Nat.le_refl _, Nat.zero_le _, Rd.none_⟩
  · exact ho.sl
theorem OwnV.to (h : OwnV k T w B v xs) (hb : Below w.heap.size w w') : OwnV k T w' B v xs := by
  rcases h.form with ⟨rfl, rfl⟩ | ⟨g, c, rfl, ho⟩
  · exact OwnV.nil_ _
  · exact (ho.to hb).2
theorem OwnV.alloc (h : OwnV k T w B v xs) (o : Obj) : OwnV k T (w.alloc o) B v xs := World.ownsRow.alloc h o
theorem OwnV.blk (h : OwnV k T w B v xs) : ∀ g, v.ownBlock = some g → B ≤ g := fun g hg => (World.ownsRow.lt h g hg).1
end

/-- The numbers of a slice, as the laws on append ask for them. -/
theorem rd_news {k : IntKind} {w : World} {B n : Nat} {ad : Addr} {xs : List Nat} (h : Rd k w B (some ad) n xs) : ∀ j u, (cellsN k xs)[j]? = some u → w.cell? (ad.add j) = some u := by
  intro j u hu
  have hj : j < xs.length := by
    rcases Nat.lt_or_ge j xs.length with h1 | h1
    · exact h1
    · rw [List.getElem?_eq_none (by rw [cellsN_len]; exact h1)] at hu; cases hu
  obtain ⟨b, o, e, _, hc⟩ := h.2 (by have := h.1; omega)
  injection e with e
  subst e
  rw [cellsN_get hj] at hu
  injection hu with hu
  subst hu
  have : (⟨b, o, none⟩ : Addr).add j = ⟨b, o + j, none⟩ := by unfold Addr.add; split <;> simp_all
  rw [this]
  exact hc j (by have := h.1; omega)

end Go.Proofs.YtdmhkhnnomdkcaaGreatDoor
/- Binary digits of naturals, and division bit by bit: plain mathematics. -/
namespace Go.Proofs.YtdmhkhnnomdkcaaGreatDoor
open Go.RowKit NumB
set_option linter.unusedVariables false
set_option linter.unusedSimpArgs false

/-- The number of binary digits. -/
def blen (x : Nat) : Nat := if x = 0 then 0 else Nat.log2 x + 1
theorem blen_zero : blen 0 = 0 := rfl
theorem blen_eq {x k : Nat} (h1 : 2 ^ k ≤ x) (h2 : x < 2 ^ (k + 1)) : blen x = k + 1 := by
  have hx : x ≠ 0 := by have := Nat.pow_pos (n := k) (show 0 < 2 by omega); omega
  unfold blen
  rw [if_neg hx, (Nat.log2_eq_iff hx).2 ⟨h1, h2⟩]
theorem blen_bd {x : Nat} (hx : 0 < x) : ∃ k, blen x = k + 1 ∧ 2 ^ k ≤ x ∧ x < 2 ^ (k + 1) :=
  ⟨Nat.log2 x, by unfold blen; rw [if_neg (by omega)], (Nat.log2_eq_iff (by omega)).1 rfl⟩
theorem blen_lt (x : Nat) : x < 2 ^ blen x := by
  rcases Nat.eq_zero_or_pos x with h | h
  · subst h; exact Nat.pow_pos (by omega)
  · obtain ⟨k, e, _, h2⟩ := blen_bd h
    rw [e]; exact h2
theorem blen_le {x k : Nat} (h : x < 2 ^ k) : blen x ≤ k := by
  rcases Nat.eq_zero_or_pos x with h0 | h0
  · subst h0; exact Nat.zero_le _
  · obtain ⟨j, e, h1, _⟩ := blen_bd h0
    rw [e]
    have : 2 ^ j < 2 ^ k := Nat.lt_of_le_of_lt h1 h
    exact (Nat.pow_lt_pow_iff_right (by omega)).1 this
theorem blen_gt {x k : Nat} (h : 2 ^ k ≤ x) : k < blen x := by
  rcases Nat.lt_or_ge k (blen x) with h1 | h1
  · exact h1
  · have := Nat.lt_of_lt_of_le (blen_lt x) (Nat.pow_le_pow_right (by omega) h1)
    omega
theorem blen_step {x : Nat} (hx : 0 < x) : blen x = blen (x / 2) + 1 := by
  rcases Nat.lt_or_ge x 2 with h | h
  · obtain rfl : x = 1 := by omega
    rfl
  · obtain ⟨k, e, h1, h2⟩ := blen_bd (x := x / 2) (by omega)
    rw [e]
    refine blen_eq ?_ ?_
    · rw [Nat.pow_succ]; omega
    · rw [Nat.pow_succ]; omega
theorem blen_pos {x : Nat} : 0 < blen x ↔ 0 < x := by
  constructor
  · intro h
    rcases Nat.eq_zero_or_pos x with h0 | h0
    · subst h0; exact absurd h (by decide)
    · exact h0
  · intro h; rw [blen_step h]; omega
theorem blen_shift {k t l : Nat} (ht : 0 < t) (hl : l < 2 ^ k) : blen (l + 2 ^ k * t) = k + blen t := by
  obtain ⟨j, e, h1, h2⟩ := blen_bd ht
  rw [e, show k + (j + 1) = (k + j) + 1 from by omega]
  refine blen_eq ?_ ?_
  · rw [Nat.pow_add]
    exact Nat.le_trans (Nat.mul_le_mul_left _ h1) (Nat.le_add_left _ _)
  · rw [show k + j + 1 = k + (j + 1) from by omega, Nat.pow_add]
    have : 2 ^ k * (t + 1) ≤ 2 ^ k * 2 ^ (j + 1) := Nat.mul_le_mul_left _ h2
    rw [Nat.mul_add] at this
    omega
/-- The number of binary digits, by the highest digit in base 2^16. -/
theorem blen_top {x n t : Nat} (hn : (digs W16 x).length = n + 1) (ht : (digs W16 x).getD n 0 = t) : blen x = 16 * n + blen t := by
  have h1 := val_take_succ W16 (digs W16 x) n
  rw [val_take_all W16 _ (by omega), val_digs W16_gt, ht] at h1
  have h2 := val_take_lt (ok_digs W16_gt x) (j := n) (by omega)
  have ht0 : 0 < t := by
    rcases Nat.eq_zero_or_pos t with h | h
    · subst h
      have h3 := digs_ge W16_gt (n := x) (by intro h; subst h; rw [digs_zero] at hn; cases hn)
      rw [hn, Nat.add_sub_cancel] at h3
      omega
    · exact h
  have e : W16 ^ n = 2 ^ (16 * n) := by rw [Nat.pow_mul]; rfl
  rw [e] at h1 h2
  rw [h1]
  exact blen_shift ht0 h2
theorem blen_digs {x n : Nat} (h : (digs W16 x).length ≤ n) : blen x ≤ 16 * n := by
  refine blen_le (Nat.lt_of_lt_of_le (digs_lt W16_gt) ?_)
  rw [Nat.pow_mul]
  exact Nat.pow_le_pow_right (by decide) h

/-- One step of the division: the next bit comes in. -/
theorem div_bit {x y j b : Nat} (hy : 0 < y) (hb : x / 2 ^ j % 2 = b) : x / 2 ^ j = 2 * (x / 2 ^ (j + 1)) + b := by
  have e : x / 2 ^ (j + 1) = x / 2 ^ j / 2 := by rw [Nat.pow_succ, Nat.div_div_eq_div_mul]
  rw [e]; omega
theorem div_yes {X y r b X' : Nat} (hy : 0 < y) (hX : X' = 2 * X + b) (hb : b < 2) (hr : r = X % y) (h : y ≤ 2 * r + b) : X' % y = 2 * r + b - y ∧ X' / y = 2 * (X / y) + 1 := by
  have h0 := Nat.div_add_mod X y
  have h1 : r < y := by rw [hr]; exact Nat.mod_lt _ hy
  rw [← hr] at h0
  have e : X' = (2 * r + b - y) + y * (2 * (X / y) + 1) := by
    rw [hX, Nat.mul_add, Nat.mul_one, Nat.mul_left_comm]; omega
  rw [e]
  exact ⟨by rw [Nat.add_mul_mod_self_left, Nat.mod_eq_of_lt (by omega)], by rw [Nat.add_mul_div_left _ _ hy, Nat.div_eq_of_lt (by omega), Nat.zero_add]⟩
theorem div_no {X y r b X' : Nat} (hy : 0 < y) (hX : X' = 2 * X + b) (hb : b < 2) (hr : r = X % y) (h : 2 * r + b < y) : X' % y = 2 * r + b ∧ X' / y = 2 * (X / y) := by
  have h0 := Nat.div_add_mod X y
  rw [← hr] at h0
  have e : X' = (2 * r + b) + y * (2 * (X / y)) := by
    rw [hX, Nat.mul_left_comm]; omega
  rw [e]
  exact ⟨by rw [Nat.add_mul_mod_self_left, Nat.mod_eq_of_lt h], by rw [Nat.add_mul_div_left _ _ hy, Nat.div_eq_of_lt h, Nat.zero_add]⟩
/-- A digit whose low bits are 0. -/
theorem low_zero {out : List Nat} {j q d : Nat} (ho : Ok W16 out) (hv : val W16 out = 2 ^ (j + 1) * q) (hd : out.getD (j / 16) 0 = d) : ∃ e, d = e * 2 ^ (j % 16 + 1) := by
  have h1 := val_split W16 out (j / 16)
  rw [val_drop_step, hd] at h1
  have h2 := val_take_lt' (by decide) ho (j / 16)
  generalize val W16 (out.take (j / 16)) = V at h1 h2
  generalize val W16 (out.drop (j / 16 + 1)) = R at h1
  have e1 : 2 ^ (j + 1) = W16 ^ (j / 16) * 2 ^ (j % 16 + 1) := by
    rw [show W16 = 2 ^ 16 from rfl, ← Nat.pow_mul, ← Nat.pow_add]; congr 1; omega
  have hm : j % 16 < 16 := Nat.mod_lt _ (by omega)
  have e2 : W16 = 2 ^ (j % 16 + 1) * 2 ^ (15 - j % 16) := by
    rw [← Nat.pow_add, show j % 16 + 1 + (15 - j % 16) = 16 from by omega]; rfl
  rw [hv, e1, Nat.mul_assoc] at h1
  generalize W16 ^ (j / 16) = P at h1 h2
  have hP : 0 < P := by omega
  have h3 : (P * (2 ^ (j % 16 + 1) * q)) / P = (V + P * (d + W16 * R)) / P := by rw [h1]
  rw [Nat.mul_div_cancel_left _ hP, Nat.add_mul_div_left _ _ hP, Nat.div_eq_of_lt h2, Nat.zero_add, e2] at h3
  generalize 2 ^ (15 - j % 16) = T at h3
  generalize 2 ^ (j % 16 + 1) = U at *
  refine ⟨q - T * R, ?_⟩
  rw [Nat.sub_mul, Nat.mul_comm q U, Nat.mul_right_comm, Nat.mul_comm T U]
  omega
theorem or_bit {d s e : Nat} (hd : d = e * 2 ^ (s + 1)) : d ||| 2 ^ s = d + 2 ^ s := by
  rw [hd, ← Nat.shiftLeft_eq, ← Nat.shiftLeft_add_eq_or_of_lt (by rw [Nat.pow_succ]; have := Nat.pow_pos (n := s) (show 0 < 2 by omega); omega)]
theorem val_set {out : List Nat} {k d e : Nat} (hk : k < out.length) (hd : out.getD k 0 = d) : val W16 (out.set k (d + e)) = val W16 out + W16 ^ k * e := by
  have h1 := val_split W16 out (k + 1)
  have h2 := val_split W16 (out.set k (d + e)) (k + 1)
  rw [val_take_succ, take_set_lt _ _ _ _ (Nat.le_refl _), getD_set_self _ _ _ hk, List.drop_set_of_lt (by omega)] at h2
  rw [val_take_succ, hd] at h1
  rw [h1, h2, Nat.mul_add]; omega
theorem set_bit {out : List Nat} {j q d : Nat} (hk : j / 16 < out.length) (hv : val W16 out = 2 ^ (j + 1) * q) (hd : out.getD (j / 16) 0 = d) : val W16 (out.set (j / 16) (d + 2 ^ (j % 16))) = 2 ^ j * (2 * q + 1) := by
  rw [val_set hk hd, hv, show W16 = 2 ^ 16 from rfl, ← Nat.pow_mul, ← Nat.pow_add, show 16 * (j / 16) + j % 16 = j from by omega, Nat.pow_succ, Nat.mul_add, Nat.mul_one, Nat.mul_assoc]
theorem bit_lt16 {d s e : Nat} (hs : s < 16) (hd : d < 65536) (h : d = e * 2 ^ (s + 1)) : d + 2 ^ s < 65536 := by
  have h1 : (65536 : Nat) = 2 ^ (s + 1) * 2 ^ (15 - s) := by rw [← Nat.pow_add, show s + 1 + (15 - s) = 16 from by omega]
  have h2 : e < 2 ^ (15 - s) := by
    rcases Nat.lt_or_ge e (2 ^ (15 - s)) with h3 | h3
    · exact h3
    · have := Nat.mul_le_mul_left (2 ^ (s + 1)) h3
      rw [← h1, Nat.mul_comm, ← h] at this
      omega
  have h3 : (e + 1) * 2 ^ (s + 1) ≤ 2 ^ (15 - s) * 2 ^ (s + 1) := Nat.mul_le_mul_right _ h2
  rw [Nat.mul_comm (2 ^ (15 - s)), ← h1, Nat.add_mul, ← h, Nat.one_mul, Nat.pow_succ] at h3
  have := Nat.pow_pos (n := s) (show 0 < 2 by omega)
  omega
theorem or_i64 (a b : Nat) (ha : a < 4294967296) (hb : b < 4294967296) : bits .or .i64 (a : Int) (b : Int) = ((a ||| b : Nat) : Int) := by
  have hx : a ||| b < 2 ^ 63 := Nat.lt_trans (Nat.or_lt_two_pow (n := 32) (by omega) (by omega)) (by decide)
  show IntKind.i64.wrap ((BitVec.ofInt 64 (a : Int) ||| BitVec.ofInt 64 (b : Int)).toNat : Int) = _
  have e1 : (BitVec.ofInt 64 (a : Int)).toNat = a := by rw [BitVec.ofInt_natCast, BitVec.toNat_ofNat]; omega
  have e2 : (BitVec.ofInt 64 (b : Int)).toNat = b := by rw [BitVec.ofInt_natCast, BitVec.toNat_ofNat]; omega
  rw [BitVec.toNat_or, e1, e2, IntKind.wrap_i64]
  omega
end Go.Proofs.YtdmhkhnnomdkcaaGreatDoor
