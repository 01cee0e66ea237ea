/-  -/
import Derived.Test.YtdmhkhnnomdkcaaDoorProg
import Derived.WalkKit
import Derived.WalkSpells
import Derived.Below
import Derived.Laws.OwnMore
import Derived.Deep.Draws
import Derived.Lib.Hide
import Derived.Deep.LoopGhost
import Derived.Deep.QuietTactic
import Derived.BigQuiet
import Derived.Deep.DeepCutAuto
import Derived.RegionTactic
import Derived.WalkLawsBesides
import Derived.IntWalk
import Derived.Outline
import Derived.Maps.AppendAt
import Derived.Lib.SliceRun
import Derived.Laws.BitsAllLaws
import Derived.Laws.BitsLemmas
import Derived.Test.YtdmhkhnnomdkcaaDoorJo1
set_option linter.unusedVariables false
set_option linter.unusedSimpArgs false
/- Readings of slices of integers as lists of natural numbers, and what keeps them. Conditions: none. -/
namespace Go.Proofs.YtdmhkhnnomdkcaaDoor
open Go.RowKit NumB

/-- The slice with address A and length n reads as the list xs of numbers of kind k; it lies below block B. -/
def Rd (k : IntKind) (w : World) (B : Nat) (A : Option Addr) (n : Nat) (xs : List Nat) : Prop :=
  xs.length = n ∧ (0 < n → ∃ b o, A = some ⟨b, o, none⟩ ∧ b < B ∧ ∀ i, i < n → w.cell? ⟨b, o + i, none⟩ = some (.int k ((xs.getD i 0 : Nat) : Int)))

section
variable {k : IntKind} {w w' : World} {B B' n : Nat} {A : Option Addr} {xs : List Nat}

theorem Rd.len (h : Rd k w B A n xs) : xs.length = n := h.1
theorem Rd.none_ : Rd k w B A 0 [] := ⟨rfl, fun h => absurd h (by omega)⟩
theorem Rd.keep (h : Rd k w B A n xs) (hk : ∀ p : Addr, p.block < B → w'.cell? p = w.cell? p) : Rd k w' B A n xs :=
  ⟨h.1, fun hn => by
    obtain ⟨b, o, e, hb, hc⟩ := h.2 hn
    exact ⟨b, o, e, hb, fun i hi => (hk _ hb).trans (hc i hi)⟩⟩
theorem Rd.more (h : Rd k w B A n xs) (hB : B ≤ B') : Rd k w B' A n xs :=
  ⟨h.1, fun hn => by
    obtain ⟨b, o, e, hb, hc⟩ := h.2 hn
    exact ⟨b, o, e, by omega, hc⟩⟩
theorem Rd.below (h : Rd k w B A n xs) (hb : Below B w w') : Rd k w' B A n xs := h.keep fun _ hp => hb.cell hp
theorem Rd.to (h : Rd k w w.heap.size A n xs) (hb : Below w.heap.size w w') : Rd k w' w'.heap.size A n xs := (h.below hb).more hb.size
theorem Rd.take (h : Rd k w B A n xs) {m : Nat} (hm : m ≤ n) : Rd k w B A m (xs.take m) := by
  refine ⟨by rw [List.length_take, h.1]; omega, fun hn => ?_⟩
  obtain ⟨b, o, e, hb, hc⟩ := h.2 (by omega)
  refine ⟨b, o, e, hb, fun i hi => ?_⟩
  rw [hc i (by omega)]
  simp [List.getD_eq_getElem?_getD, hi]
end

/-- A whole slice value reads as a list of numbers. -/
def Sl (k : IntKind) (w : World) (v : Value) (xs : List Nat) : Prop :=
  ∃ A c, v = .slice A xs.length c ∧ xs.length ≤ c ∧ c ≤ maxLen ∧ Rd k w w.heap.size A xs.length xs

theorem Sl.to {k : IntKind} {w w' : World} {v : Value} {xs : List Nat} (h : Sl k w v xs) (hb : Below w.heap.size w w') : Sl k w' v xs := by
  obtain ⟨A, c, e, h1, h2, h3⟩ := h
  exact ⟨A, c, e, h1, h2, h3.to hb⟩

/-- 2^32 and 2^16, behind names. -/
def W32 : Nat := 4294967296
def W16 : Nat := 65536
theorem W32_gt : 1 < W32 := by decide
theorem W16_gt : 1 < W16 := by decide

/-- A slice of limbs that reads as a natural number, in canonical form. -/
def Nat32 (w : World) (v : Value) (x : Nat) : Prop := Sl .u32 w v (digs W32 x)
/-- A slice of base 2^16 digits (as ints) that reads as a natural number, in canonical form. -/
def Nat16 (w : World) (v : Value) (x : Nat) : Prop := Sl .i64 w v (digs W16 x)

/-- An element of a slice that reads as a list, with a name of its own. -/
theorem Rd.at_ {k : IntKind} {w : World} {B n i : Nat} {A : Option Addr} {xs : List Nat} (h : Rd k w B A n xs) (hi : i < n) :
    ∃ b o x, A = some ⟨b, o, none⟩ ∧ b < B ∧ xs.getD i 0 = x ∧ w.cell? ⟨b, o + i, none⟩ = some (.int k (x : Int)) := by
  obtain ⟨b, o, e, hb, hc⟩ := h.2 (by omega)
  exact ⟨b, o, _, e, hb, rfl, hc i hi⟩

/-- The cells of a list of numbers. -/
def cellsN (k : IntKind) (xs : List Nat) : List Value := xs.map fun (x : Nat) => Value.int k (x : Int)

theorem cellsN_get {k : IntKind} {xs : List Nat} {i : Nat} (h : i < xs.length) : (cellsN k xs)[i]? = some (.int k ((xs.getD i 0 : Nat) : Int)) := by
  rw [cellsN, List.getElem?_map, List.getElem?_eq_getElem h, getD_lt h]; rfl
theorem cellsN_len {k : IntKind} {xs : List Nat} : (cellsN k xs).length = xs.length := by simp [cellsN]
theorem cellsN_set {k : IntKind} {xs : List Nat} {i x : Nat} : (cellsN k xs).set i (.int k (x : Int)) = cellsN k (xs.set i x) := by simp [cellsN, List.map_set]
theorem cellsN_append {k : IntKind} {xs ys : List Nat} : cellsN k xs ++ cellsN k ys = cellsN k (xs ++ ys) := by simp [cellsN]
theorem cellsN_zeros {k : IntKind} {n : Nat} : (madeCells #[Value.int k 0] n).toList = cellsN k (List.replicate n 0) := by
  rw [toList_madeCells_one]; simp [cellsN]
theorem cellsN_one {k : IntKind} {xs : List Nat} : ∀ u ∈ cellsN k xs, u.oneCell' = true := by
  intro u hu
  obtain ⟨x, _, rfl⟩ := List.mem_map.1 hu
  rfl

/-- The call's own row of numbers, at the head of block g (from block B on): n numbers of a capacity c. -/
def Own (k : IntKind) (T : TypeId) (w : World) (B g n c : Nat) (xs : List Nat) : Prop :=
  xs.length = n ∧ w.ownsRow B T 1 (.slice (some ⟨g, 0, none⟩) n c) n (cellsN k xs)

section
variable {k : IntKind} {T : TypeId} {w w' : World} {B g n c : Nat} {xs : List Nat}
theorem Own.cell (h : Own k T w B g n c xs) {i : Nat} (hi : i < n) : w.cell? ⟨g, i, none⟩ = some (.int k ((xs.getD i 0 : Nat) : Int)) := by
  rw [h.2.cellAt i (by omega), cellsN_get (by rw [h.1]; exact hi)]
theorem Own.frozen (h : Own k T w B g n c xs) (i : Nat) : w.frozen? ⟨g, i, none⟩ = false := h.2.frozenAt i
theorem Own.lt (h : Own k T w B g n c xs) : B ≤ g ∧ g < w.heap.size := h.2.lt g rfl
theorem Own.cap (h : Own k T w B g n c xs) : n ≤ c ∧ c ≤ maxLen := by
  rcases h.2.2 with ⟨h', _⟩ | ⟨g', cap', cur, h', _, _, h1, h2, _⟩
  · simp at h'
  · simp only [Value.slice.injEq, Option.some.injEq, Addr.mk.injEq, and_true, true_and] at h'
    obtain ⟨_, rfl⟩ := h'
    exact ⟨h1, h2⟩
theorem Own.stored (h : Own k T w B g n c xs) (i x : Nat) : Own k T (w.setCell ⟨g, i, none⟩ (.int k (x : Int))) B g n c (xs.set i x) := by
  refine ⟨by simpa using h.1, ?_⟩
  rw [← cellsN_set]
  exact (h.2.stored i _).1
theorem Own.block (h : Own k T w B g n c xs) (he : w'.heap[g]? = w.heap[g]?) : Own k T w' B g n c xs := by
  refine ⟨h.1, h.2.1, ?_⟩
  rcases h.2.2 with h' | ⟨g', cap', cur, h', hb, hh, r⟩
  · exact .inl h'
  · simp only [Value.slice.injEq, Option.some.injEq, Addr.mk.injEq, and_true, true_and] at h'
    obtain ⟨rfl, rfl⟩ := h'
    exact .inr ⟨g, c, cur, rfl, hb, he.trans hh, r⟩
theorem Own.to (h : Own k T w B g n c xs) (hb : Below w.heap.size w w') : Own k T w' B g n c xs := h.block (hb.block g h.lt.2)
theorem Own.drewN (h : Own k T w B g n c xs) (m : Nat) : Own k T (w.drewN m) B g n c xs := h
theorem Own.drew (h : Own k T w B g n c xs) : Own k T w.drew B g n c xs := h
theorem Own.alloc (h : Own k T w B g n c xs) (o : Obj) : Own k T (w.alloc o) B g n c xs := h.block (Below.heap_alloc w o g h.lt.2)
theorem Own.far (h : Own k T w B g n c xs) {p : Addr} (hp : g ≠ p.block) (u : Value) : Own k T (w.setCell p u) B g n c xs := h.block (Below.heap_setCell w p u g hp)
theorem Own.rd (h : Own k T w B g n c xs) : Rd k w w.heap.size (some ⟨g, 0, none⟩) n xs :=
  ⟨h.1, fun _ => ⟨g, 0, rfl, h.lt.2, fun i hi => by rw [Nat.zero_add]; exact h.cell hi⟩⟩
theorem Own.made (h : w.ownsRow B T 1 (.slice (some ⟨g, 0, none⟩) n n) n (madeCells (Value.int k 0).cells (n * 1)).toList) : Own k T w B g n n (List.replicate n 0) :=
  ⟨by simp, by rw [Nat.mul_one] at h; rw [← cellsN_zeros]; exact h⟩
theorem Own.make (h : w.ownsRow B T 1 (.slice (some ⟨g, 0, none⟩) n c) n (cellsN k xs)) (hl : xs.length = n) : Own k T w B g n c xs := ⟨hl, h⟩
end

/-- A part of a row read as a slice value: from the whole row to its first m numbers. -/
theorem Sl.of_rd {k : IntKind} {w : World} {A : Option Addr} {n c m : Nat} {xs ys : List Nat} (h : Rd k w w.heap.size A n xs) (hm : m ≤ n) (hc : n ≤ c) (hx : c ≤ maxLen) (e : xs.take m = ys) : Sl k w (.slice A m c) ys := by
  subst e
  have hl : (xs.take m).length = m := by rw [List.length_take, h.1]; omega
  exact ⟨A, c, by rw [hl], by omega, hx, by rw [hl]; exact h.take hm⟩

theorem below_drewN {B : Nat} {a w : World} (h : Below B a w) (n : Nat) : Below B a (w.drewN n) := ⟨h.os, h.tape, h.output, h.size, h.block⟩
theorem below_undrew {B : Nat} {w w' : World} (h : Below B w.drew w') : Below B w w' := ⟨h.os, h.tape, h.output, h.size, h.block⟩
theorem below_undrewN {B n : Nat} {w w' : World} (h : Below B (w.drewN n) w') : Below B w w' := ⟨h.os, h.tape, h.output, h.size, h.block⟩
theorem below_of_drewN {B : Nat} {w : World} (n : Nat) : Below B w (w.drewN n) := below_drewN (Below.refl _ _) n

/-- Bits that do not meet: or is a sum. -/
theorem or_shift (a b : Nat) (hb : b < 4294967296) : a * 4294967296 ||| b = a * 4294967296 + b := by
  have := Nat.shiftLeft_add_eq_or_of_lt (a := a) (i := 32) (b := b) hb
  rw [Nat.shiftLeft_eq] at this
  exact this.symm
theorem castW (a b : Nat) : ((a * 4294967296 + b : Nat) : Int) = (a : Int) * 4294967296 + b := by omega
theorem toNatW (a : Nat) : ((a : Int) * 4294967296).toNat = a * 4294967296 := by omega
theorem u64_or_shift (a b : Nat) (ha : a < 4294967296) (hb : b < 4294967296) : bits .or .u64 ((a : Int) * 4294967296) (b : Int) = (a : Int) * 4294967296 + b :=
  (u64_or _ _ (by omega) (by omega) (by omega) (by omega)).trans (by rw [toNatW, Int.toNat_natCast, or_shift a b hb]; exact castW a b)
theorem u64_or_shift' (a b : Nat) (ha : a < 4294967296) (hb : b < 4294967296) : bits .or .u64 (b : Int) ((a : Int) * 4294967296) = (a : Int) * 4294967296 + b :=
  (u64_or _ _ (by omega) (by omega) (by omega) (by omega)).trans (by rw [toNatW, Int.toNat_natCast, Nat.or_comm, or_shift a b hb]; exact castW a b)

/-- A slice value (nil or not) that the call owns, from block B on. -/
def OwnV (k : IntKind) (T : TypeId) (w : World) (B : Nat) (v : Value) (xs : List Nat) : Prop := w.ownsRow B T 1 v xs.length (cellsN k xs)

section
variable {k : IntKind} {T : TypeId} {w w' : World} {B : Nat} {v : Value} {xs : List Nat}
theorem OwnV.nil_ (w : World) : OwnV k T w B (.slice none 0 0) [] := World.ownsRow_nil _ _ _ _
theorem OwnV.form (h : OwnV k T w B v xs) : (v = .slice none 0 0 ∧ xs = []) ∨ ∃ g c, v = .slice (some ⟨g, 0, none⟩) xs.length c ∧ Own k T w B g xs.length c xs := by
  rcases h.2 with ⟨h1, h2⟩ | ⟨g, cap, cur, rfl, r⟩
  · exact .inl ⟨h1, List.eq_nil_of_length_eq_zero h2⟩
  · exact .inr ⟨g, cap, rfl, rfl, h⟩
theorem Own.sl {g n c : Nat} (h : Own k T w B g n c xs) : Sl k w (.slice (some ⟨g, 0, none⟩) n c) xs := by
  have hl := h.1
  subst hl
  exact ⟨_, c, rfl, h.cap.1, h.cap.2, h.rd⟩
theorem OwnV.sl (h : OwnV k T w B v xs) : Sl k w v xs := by
  rcases h.form with ⟨rfl, rfl⟩ | ⟨g, c, rfl, ho⟩
  · exact ⟨none, 0, rfl, Nat.le_refl _, Nat.zero_le _, Rd.none_⟩
  · exact ho.sl
theorem OwnV.to (h : OwnV k T w B v xs) (hb : Below w.heap.size w w') : OwnV k T w' B v xs := by
  rcases h.form with ⟨rfl, rfl⟩ | ⟨g, c, rfl, ho⟩
  · exact OwnV.nil_ _
  · exact (ho.to hb).2
theorem OwnV.alloc (h : OwnV k T w B v xs) (o : Obj) : OwnV k T (w.alloc o) B v xs := World.ownsRow.alloc h o
theorem OwnV.blk (h : OwnV k T w B v xs) : ∀ g, v.ownBlock = some g → B ≤ g := fun g hg => (World.ownsRow.lt h g hg).1
end

/-- The numbers of a slice, as the laws on append ask for them. -/
theorem rd_news {k : IntKind} {w : World} {B n : Nat} {ad : Addr} {xs : List Nat} (h : Rd k w B (some ad) n xs) : ∀ j u, (cellsN k xs)[j]? = some u → w.cell? (ad.add j) = some u := by
  intro j u hu
  have hj : j < xs.length := by
    rcases Nat.lt_or_ge j xs.length with h1 | h1
    · exact h1
    · rw [List.getElem?_eq_none (by rw [cellsN_len]; exact h1)] at hu; cases hu
  obtain ⟨b, o, e, _, hc⟩ := h.2 (by have := h.1; omega)
  injection e with e
  subst e
  rw [cellsN_get hj] at hu
  injection hu with hu
  subst hu
  have : (⟨b, o, none⟩ : Addr).add j = ⟨b, o + j, none⟩ := by unfold Addr.add; split <;> simp_all
  rw [this]
  exact hc j (by have := h.1; omega)

end Go.Proofs.YtdmhkhnnomdkcaaDoor
/- nat.Trim: the limbs without last zeros. Conditions: none. -/
namespace Go.Proofs.YtdmhkhnnomdkcaaDoor
open Go.RowKit NumB

theorem trim_end {xs : List Nat} {g : Nat} (ho : Ok W32 xs) (hg : g ≤ xs.length) (hv : val W32 (xs.take g) = val W32 xs) (hl : g = 0 ∨ xs.getD (g - 1) 0 ≠ 0) : xs.take g = digs W32 (val W32 xs) := by
  refine (digs_eq W32_gt (ho.take g) (top_of_last ?_) hv).symm
  have hlen : (xs.take g).length = g := by rw [List.length_take]; omega
  rcases hl with rfl | hl
  · left; rfl
  · rcases Nat.eq_zero_or_pos g with rfl | h0
    · left; rfl
    · right
      rw [hlen, List.getD_eq_getElem?_getD, List.getElem?_take, if_pos (by omega), ← List.getD_eq_getElem?_getD]
      exact hl

set_option maxHeartbeats 400000 in
theorem trim_any (xs : List Nat) (A : Option Addr) (n c : Nat) (w : World) (B : Nat) (hr : Rd .u32 w B A n xs) (ho : Ok W32 xs) (hc : n ≤ c) (hm : c ≤ maxLen) :
    Calls Tryd.prog 15 #[.slice A n c] w fun e w' => ∃ m, e = .returned (.slice A m c) ∧ m ≤ n ∧ xs.take m = digs W32 (val W32 xs) ∧ w = w' := by
  unfold maxLen at hm
  have HL := Lib.hid hr.1
  have HR := Lib.hid hr.2
  clear hr
  have HO := Lib.hid ho
  clear ho
  go_enter Tryd.func15, Tryd.ntmps15
  go_wp2
  go_loopg [0] n (fun g v wr => g ≤ n ∧ v = .slice A g c ∧ Hid (val W32 (xs.take g) = val W32 xs) ∧ w = wr)
  case atStart => exact ⟨Nat.le_refl _, rfl, by rw [← HL.out, List.take_length]; rfl, rfl⟩
  case round =>
    obtain ⟨hg, rfl, HV, rfl⟩ := hrel
    by_cases h0 : 0 < gk
    · obtain ⟨b, o, rfl, hb, hcell⟩ := HR.out (by omega)
      have hx := hcell (gk - 1) (by omega)
      clear hcell
      generalize hxe : xs.getD (gk - 1) 0 = x at hx
      have HX := Lib.hid hxe
      clear hxe
      by_cases hz : x = 0
      · subst hz
        go_wp2
        go_roundg (gk - 1)
        case measure => omega
        case rel =>
          refine ⟨by omega, rfl, ?_, rfl⟩
          have h := val_take_succ W32 xs (gk - 1)
          rw [show gk - 1 + 1 = gk from by omega, HX.out, Nat.mul_zero, Nat.add_zero] at h
          exact h.symm.trans HV.out
      · have HZ := Lib.hid hz
        have hne : ((x : Int) == 0) = false := beq_eq_false_iff_ne.2 (by omega)
        clear hz
        go_wp2
        go_ret
        exact ⟨gk, rfl, hg, trim_end HO.out (by rw [HL.out]; exact hg) HV.out (.inr (by rw [HX.out]; exact HZ.out)), rfl⟩
    · go_wp2
      go_ret
      exact ⟨gk, rfl, hg, trim_end HO.out (by rw [HL.out]; exact hg) HV.out (.inl (by omega)), rfl⟩
end Go.Proofs.YtdmhkhnnomdkcaaDoor
/- nat.DivSmall: quotient and remainder by a limb. Conditions: at most a million limbs. -/
namespace Go.Proofs.YtdmhkhnnomdkcaaDoor
open Go.RowKit NumB
set_option linter.unusedVariables false
set_option linter.unusedSimpArgs false

theorem div_facts (rest x d : Nat) (hr : rest < d) (hd2 : d < 4294967296) (hx : x < 4294967296) :
    ∃ q r : Nat, (((rest : Int) * 4294967296 + x) / (d : Int) = (q : Int)) ∧ (((rest : Int) * 4294967296 + x) % (d : Int) = (r : Int)) ∧ q < 4294967296 ∧ r < d ∧ rest * 4294967296 + x = d * q + r := by
  refine ⟨(rest * 4294967296 + x) / d, (rest * 4294967296 + x) % d, ?_, ?_, ?_, Nat.mod_lt _ (by omega), (Nat.div_add_mod _ _).symm⟩
  · rw [Int.natCast_ediv, castW]
  · rw [Int.natCast_emod, castW]
  · rw [Nat.div_lt_iff_lt_mul (by omega)]
    have : (rest + 1) * 4294967296 ≤ d * 4294967296 := Nat.mul_le_mul_right _ (by omega)
    omega

theorem divSmall_step {xs out : List Nat} {j x d rest q r : Nat} (hj : 0 < j) (hl : j ≤ out.length) (hx : xs.getD (j - 1) 0 = x) (hjx : j ≤ xs.length) (hv : val W32 (xs.drop j) = d * val W32 (out.drop j) + rest)
    (he : rest * 4294967296 + x = d * q + r) : val W32 (xs.drop (j - 1)) = d * val W32 ((out.set (j - 1) q).drop (j - 1)) + r := by
  have e1 : xs.drop (j - 1) = x :: xs.drop j := by
    rw [List.drop_eq_getElem_cons (by omega), ← getD_lt (by omega), hx, Nat.sub_add_cancel hj]
  have e2 : (out.set (j - 1) q).drop (j - 1) = q :: out.drop j := by
    rw [List.drop_eq_getElem_cons (by simp; omega), Nat.sub_add_cancel hj]
    simp [List.drop_set]
    omega
  rw [e1, e2, val_cons, val_cons, hv]
  have : W32 = 4294967296 := rfl
  rw [this, Nat.mul_add, Nat.mul_add, Nat.mul_left_comm]
  omega

theorem info_u32 : (Tryd.prog.info? 35).map (fun i => (i.zero, i.size, i.bytes)) = some (some (.int .u32 0), 1, 4) := by kernel_rfl

set_option maxRecDepth 100000 in
set_option maxHeartbeats 400000 in
theorem divSmall_any (xs : List Nat) (A : Option Addr) (n c d : Nat) (w : World) (hr : Rd .u32 w w.heap.size A n xs) (ho : Ok W32 xs) (hc : n ≤ c) (hm : c ≤ maxLen) (hn : n ≤ 1000000) (hd : 0 < d) (hd2 : d < 4294967296) :
    Calls Tryd.prog 45 #[.slice A n c, .int .u32 (d : Int)] w fun e w' => ∃ v, e = .returned (.tuple #[v, .int .u32 ((val W32 xs % d : Nat) : Int)]) ∧ Nat32 w' v (val W32 xs / d) ∧ Below w.heap.size w w' := by
  unfold maxLen at hm
  have HR := Lib.hid hr
  clear hr
  have HO := Lib.hid ho
  clear ho
  obtain ⟨i0, hi0, hz0, hz1, hz2⟩ := info_parts info_u32
  have HI := Lib.hid hi0
  have HZ0 := Lib.hid hz0
  have HZ1 := Lib.hid hz1
  have HZ2 := Lib.hid hz2
  clear hi0 hz0 hz1 hz2
  go_enter Tryd.func45, Tryd.ntmps45
  go_wp2_with (at_make; refine wpList_make_full _ rfl _ _ 22 rfl w.heap.size 35 i0 (.int .u32 0) 1 Tryd.underlying22 HI.out HZ0.out HZ1.out .i64 .i64 _ _ n rfl rfl rfl rfl (by rw [HZ2.out]; omega) (by unfold maxLen; omega) (Nat.le_refl _) ?_; intro w1 hown1 hg1)
  have HOW := Lib.hid (Own.made hown1)
  have HB := Lib.hid ((Below.refl w.heap.size w).grown hg1 (Nat.le_refl _) (by simp))
  clear hown1 hg1
  go_loopg [7, 8] (n + 1) (fun g r i wr => ∃ (j : Nat) (rest : Nat) (out : List Nat), g = j + 1 ∧ j ≤ n ∧ i = .int .i64 ((j : Int) - 1) ∧ r = .int .u64 (rest : Int) ∧ rest < d ∧ Hid (Own .u32 35 wr w.heap.size w.heap.size n n out) ∧ Hid (Below w.heap.size w wr) ∧ Hid (val W32 (xs.drop j) = d * val W32 (out.drop j) + rest) ∧ Hid (Ok W32 out))
  case atStart => exact ⟨n, 0, _, rfl, Nat.le_refl _, rfl, rfl, hd, HOW.out, HB.out, by rw [← HR.out.1, List.drop_length, List.drop_eq_nil_of_le (by simp)]; rfl, ok_replicate (by decide)⟩
  case round =>
    obtain ⟨j, rest, out, rfl, hj, rfl, rfl, hrest, HOw, HBw, HV, HOo⟩ := hrel
    by_cases h0 : 0 < j
    · obtain ⟨b, o, x, rfl, hb, hxe, hcell⟩ := (HR.out.below HBw.out).at_ (i := j - 1) (by omega)
      have hx : x < 4294967296 := by rw [← hxe]; exact HO.out.getD (by decide) _
      have HX := Lib.hid hxe
      clear hxe
      obtain ⟨y, hy⟩ : ∃ y : Nat, wr.cell? ⟨w.heap.size, j - 1, none⟩ = some (.int .u32 (y : Int)) := ⟨_, HOw.out.cell (by omega)⟩
      have hf := HOw.out.frozen (j - 1)
      have hor := u64_or_shift rest x (by omega) hx
      obtain ⟨q, r, hq, hr', hqb, hrd, he⟩ := div_facts rest x d hrest hd2 hx
      have HE := Lib.hid he
      clear he
      go_wp2
      go_roundg j
      case measure => omega
      case rel =>
        refine ⟨j - 1, r, out.set (j - 1) q, by omega, by omega, ?_, congrArg (Value.int .u64) hr', hrd, (HOw.out.stored _ _), HBw.out.setCell (Nat.le_refl _) _, ?_, HOo.out.set hqb⟩
        · congr 1; omega
        · exact divSmall_step h0 (by rw [HOw.out.1]; exact hj) HX.out (by rw [HR.out.1]; exact hj) HV.out HE.out
    · obtain rfl : j = 0 := by omega
      go_wp2_with (go_at_call 15; refine (trim_any out _ n n _ _ HOw.out.rd HOo.out (Nat.le_refl _) (by unfold maxLen; omega)).mono ?_; rintro e w' ⟨m, rfl, hm', ht, rfl⟩)
      go_ret2
      have hv := HV.out
      rw [List.drop_zero, List.drop_zero] at hv
      have e1 : val W32 xs / d = val W32 out := by rw [hv, Nat.mul_add_div hd, Nat.div_eq_of_lt hrest, Nat.add_zero]
      have e2 : val W32 xs % d = rest := by rw [hv, Nat.mul_add_mod, Nat.mod_eq_of_lt hrest]
      rw [e1, e2]
      exact ⟨_, rfl, Sl.of_rd HOw.out.rd hm' (Nat.le_refl _) (by unfold maxLen; omega) ht, HBw.out⟩

theorem divSmall_nat (x d : Nat) (va : Value) (w : World) (ha : Nat32 w va x) (hn : (digs W32 x).length ≤ 1000000) (hd : 0 < d) (hd2 : d < 4294967296) :
    Calls Tryd.prog 45 #[va, .int .u32 (d : Int)] w fun e w' => ∃ v, e = .returned (.tuple #[v, .int .u32 ((x % d : Nat) : Int)]) ∧ Nat32 w' v (x / d) ∧ Below w.heap.size w w' := by
  obtain ⟨A, c, rfl, hc, hm, hr⟩ := ha
  have h := divSmall_any (digs W32 x) A _ c d w hr (ok_digs W32_gt x) hc hm hn hd hd2
  rw [val_digs W32_gt] at h
  exact h
end Go.Proofs.YtdmhkhnnomdkcaaDoor
/- slices.Clone at []uint32: a copy that the call owns. Conditions: at most a million limbs. -/
namespace Go.Proofs.YtdmhkhnnomdkcaaDoor
open Go.RowKit NumB
set_option linter.unusedVariables false
set_option linter.unusedSimpArgs false

set_option maxRecDepth 100000 in
set_option maxHeartbeats 400000 in
theorem clone_any (xs : List Nat) (va : Value) (w : World) (ha : Sl .u32 w va xs) (hn : xs.length ≤ 1000000) :
    Calls Tryd.prog 39 #[va] w fun e w' => ∃ v, e = .returned v ∧ OwnV .u32 35 w' w.heap.size v xs ∧ Below w.heap.size w w' := by
  obtain ⟨A, c, rfl, hc, hm, hr⟩ := ha
  unfold maxLen at hm
  have heq := fun W => Lib.run_eql_slice_nil (P := Tryd.prog) W 22 35 A xs.length c 0 0 Tryd.underlying22
  rcases A with _ | ad
  · have hx : xs = [] := by
      rcases Nat.eq_zero_or_pos xs.length with h | h
      · exact List.eq_nil_of_length_eq_zero h
      · obtain ⟨_, _, e, _⟩ := hr.2 h; cases e
    subst hx
    clear hr hn heq
    have heq := fun W => Lib.run_eql_slice_nil (P := Tryd.prog) W 22 35 none 0 c 0 0 Tryd.underlying22
    have hc0 : (0 : Nat) ≤ c := hc
    clear hc
    show Calls _ _ #[.slice none 0 c] _ _
    go_enter Tryd.func39, Tryd.ntmps39
    go_wp2
    go_ret
    exact ⟨_, rfl, OwnV.nil_ _, Below.refl _ _⟩
  · obtain ⟨i0, hi0, hz0, hz1, hz2⟩ := info_parts info_u32
    have HI := Lib.hid hi0
    have HZ0 := Lib.hid hz0
    have HZ1 := Lib.hid hz1
    have HZ2 := Lib.hid hz2
    clear hi0 hz0 hz1 hz2
    have HR := Lib.hid hr
    clear hr
    generalize hxl : xs.length = n at *
    have HL := Lib.hid hxl
    clear hxl
    go_enter Tryd.func39, Tryd.ntmps39
    go_wp2_with (at_builtin; refine wpList_append_own_at _ rfl _ _ 22 rfl w.heap.size 35 i0 (.int .u32 0) 1 4 Tryd.underlying22 HI.out HZ0.out HZ1.out HZ2.out rfl (by decide) (.slice (some ⟨w.heap.size, 0, none⟩) 0 0) 0 [] rfl (World.ownsRow_lit w #[] 0 (Nat.le_refl _) (by unfold maxLen; omega) rfl) ad n c (cellsN .u32 xs) rfl (by rw [cellsN_len, HL.out]; omega) (rd_news ((HR.out.below ((Below.refl _ _).alloc (Nat.le_refl _) _)))) cellsN_one (by unfold maxLen; omega) (by omega) (by simp) ?_; intro v1 w1 hown1 hg1 hnil1 hat1)
    go_ret
    refine ⟨v1, rfl, ?_, ?_⟩
    · unfold OwnV; rw [HL.out]; simpa using hown1
    · exact ((Below.refl _ _).alloc (Nat.le_refl _) _).grown hg1 (by simp) (fun k hk => by simp [Value.ownBlock] at hk; omega)
end Go.Proofs.YtdmhkhnnomdkcaaDoor
