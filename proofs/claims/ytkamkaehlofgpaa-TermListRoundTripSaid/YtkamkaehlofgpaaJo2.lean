/-  -/
import Derived.Test.YtkamkaehlofgpaaProg
import Derived.WalkKit
import Derived.WalkSpells
import Derived.Below
import Derived.Laws.OwnMore
import Derived.Deep.Draws
import Derived.Lib.Hide
import Derived.Deep.LoopGhost
import Derived.Deep.QuietTactic
import Derived.BigQuiet
import Derived.Deep.DeepCutAuto
import Derived.RegionTactic
import Derived.WalkLawsBesides
import Derived.IntWalk
import Derived.Outline
import Derived.Maps.AppendAt
import Derived.Lib.SliceRun
import Derived.Laws.BitsAllLaws
import Derived.Laws.BitsLemmas
import Derived.Test.YtkamkaehlofgpaaRows
import Derived.ProofKit
import Derived.OpenShut
import Derived.Lib.SmallJoins
import Derived.Deep.DeepHandedRow
import Derived.Lay
import Derived.Test.YtkamkaehlofgpaaJo1
set_option linter.unusedVariables false
set_option linter.unusedSimpArgs false
/- Readings of slices of integers as lists of natural numbers, and what keeps them. Conditions: none. -/
namespace Go.Proofs.Ytkamkaehlofgpaa
open Go.RowKit NumB

/-- The slice with address A and length n reads as the list xs of numbers of kind k; it lies below block B. -/
def Rd (k : IntKind) (w : World) (B : Nat) (A : Option Addr) (n : Nat) (xs : List Nat) : Prop :=
  xs.length = n ∧ (0 < n → ∃ b o, A = some ⟨b, o, none⟩ ∧ b < B ∧ ∀ i, i < n → w.cell? ⟨b, o + i, none⟩ = some (.int k ((xs.getD i 0 : Nat) : Int)))

section
variable {k : IntKind} {w w' : World} {B B' n : Nat} {A : Option Addr} {xs : List Nat}

theorem Rd.len (h : Rd k w B A n xs) : xs.length = n := h.1
theorem Rd.none_ : Rd k w B A 0 [] := ⟨rfl, fun h => absurd h (by omega)⟩
theorem Rd.keep (h : Rd k w B A n xs) (hk : ∀ p : Addr, p.block < B → w'.cell? p = w.cell? p) : Rd k w' B A n xs :=
  ⟨h.1, fun hn => by
    obtain ⟨b, o, e, hb, hc⟩ := h.2 hn
    exact ⟨b, o, e, hb, fun i hi => (hk _ hb).trans (hc i hi)⟩⟩
theorem Rd.more (h : Rd k w B A n xs) (hB : B ≤ B') : Rd k w B' A n xs :=
  ⟨h.1, fun hn => by
    obtain ⟨b, o, e, hb, hc⟩ := h.2 hn
    exact ⟨b, o, e, by omega, hc⟩⟩
theorem Rd.below (h : Rd k w B A n xs) (hb : Below B w w') : Rd k w' B A n xs := h.keep fun _ hp => hb.cell hp
theorem Rd.to (h : Rd k w w.heap.size A n xs) (hb : Below w.heap.size w w') : Rd k w' w'.heap.size A n xs := (h.below hb).more hb.size
theorem Rd.take (h : Rd k w B A n xs) {m : Nat} (hm : m ≤ n) : Rd k w B A m (xs.take m) := by
  refine ⟨by rw [List.length_take, h.1]; omega, fun hn => ?_⟩
  obtain ⟨b, o, e, hb, hc⟩ := h.2 (by omega)
  refine ⟨b, o, e, hb, fun i hi => ?_⟩
  rw [hc i (by omega)]
  simp [List.getD_eq_getElem?_getD, hi]
end

/-- A whole slice value reads as a list of numbers. -/
def Sl (k : IntKind) (w : World) (v : Value) (xs : List Nat) : Prop :=
  ∃ A c, v = .slice A xs.length c ∧ xs.length ≤ c ∧ c ≤ maxLen ∧ Rd k w w.heap.size A xs.length xs

theorem Sl.to {k : IntKind} {w w' : World} {v : Value} {xs : List Nat} (h : Sl k w v xs) (hb : Below w.heap.size w w') : Sl k w' v xs := by
  obtain ⟨A, c, e, h1, h2, h3⟩ := h
  exact ⟨A, c, e, h1, h2, h3.to hb⟩

/-- 2^32 and 2^16, behind names. -/
def W32 : Nat := 4294967296
def W16 : Nat := 65536
theorem W32_gt : 1 < W32 := by decide
theorem W16_gt : 1 < W16 := by decide

/-- A slice of limbs that reads as a natural number, in canonical form. -/
def Nat32 (w : World) (v : Value) (x : Nat) : Prop := Sl .u32 w v (digs W32 x)
/-- A slice of base 2^16 digits (as ints) that reads as a natural number, in canonical form. -/
def Nat16 (w : World) (v : Value) (x : Nat) : Prop := Sl .i64 w v (digs W16 x)

/-- An element of a slice that reads as a list, with a name of its own. -/
theorem Rd.at_ {k : IntKind} {w : World} {B n i : Nat} {A : Option Addr} {xs : List Nat} (h : Rd k w B A n xs) (hi : i < n) :
    ∃ b o x, A = some ⟨b, o, none⟩ ∧ b < B ∧ xs.getD i 0 = x ∧ w.cell? ⟨b, o + i, none⟩ = some (.int k (x : Int)) := by
  obtain ⟨b, o, e, hb, hc⟩ := h.2 (by omega)
  exact ⟨b, o, _, e, hb, rfl, hc i hi⟩

/-- The cells of a list of numbers. -/
def cellsN (k : IntKind) (xs : List Nat) : List Value := xs.map fun (x : Nat) => Value.int k (x : Int)

theorem cellsN_get {k : IntKind} {xs : List Nat} {i : Nat} (h : i < xs.length) : (cellsN k xs)[i]? = some (.int k ((xs.getD i 0 : Nat) : Int)) := by
  rw [cellsN, List.getElem?_map, List.getElem?_eq_getElem h, getD_lt h]; rfl
theorem cellsN_len {k : IntKind} {xs : List Nat} : (cellsN k xs).length = xs.length := by simp [cellsN]
theorem cellsN_set {k : IntKind} {xs : List Nat} {i x : Nat} : (cellsN k xs).set i (.int k (x : Int)) = cellsN k (xs.set i x) := by simp [cellsN, List.map_set]
theorem cellsN_append {k : IntKind} {xs ys : List Nat} : cellsN k xs ++ cellsN k ys = cellsN k (xs ++ ys) := by simp [cellsN]
theorem cellsN_zeros {k : IntKind} {n : Nat} : (madeCells #[Value.int k 0] n).toList = cellsN k (List.replicate n 0) := by
  rw [toList_madeCells_one]; simp [cellsN]
theorem cellsN_one {k : IntKind} {xs : List Nat} : ∀ u ∈ cellsN k xs, u.oneCell' = true := by
  intro u hu
  obtain ⟨x, _, rfl⟩ := List.mem_map.1 hu
  rfl

/-- The call's own row of numbers, at the head of block g (from block B on): n numbers of a capacity c. -/
def Own (k : IntKind) (T : TypeId) (w : World) (B g n c : Nat) (xs : List Nat) : Prop :=
  xs.length = n ∧ w.ownsRow B T 1 (.slice (some ⟨g, 0, none⟩) n c) n (cellsN k xs)

section
variable {k : IntKind} {T : TypeId} {w w' : World} {B g n c : Nat} {xs : List Nat}
theorem Own.cell (h : Own k T w B g n c xs) {i : Nat} (hi : i < n) : w.cell? ⟨g, i, none⟩ = some (.int k ((xs.getD i 0 : Nat) : Int)) := by
  rw [h.2.cellAt i (by omega), cellsN_get (by rw [h.1]; exact hi)]
theorem Own.frozen (h : Own k T w B g n c xs) (i : Nat) : w.frozen? ⟨g, i, none⟩ = false := h.2.frozenAt i
theorem Own.lt (h : Own k T w B g n c xs) : B ≤ g ∧ g < w.heap.size := h.2.lt g rfl
theorem Own.cap (h : Own k T w B g n c xs) : n ≤ c ∧ c ≤ maxLen := by
  rcases h.2.2 with ⟨h', _⟩ | ⟨g', cap', cur, h', _, _, h1, h2, _⟩
  · simp at h'
  · simp only [Value.slice.injEq, Option.some.injEq, Addr.mk.injEq, and_true, true_and] at h'
    obtain ⟨_, rfl⟩ := h'
    exact ⟨h1, h2⟩
theorem Own.stored (h : Own k T w B g n c xs) (i x : Nat) : Own k T (w.setCell ⟨g, i, none⟩ (.int k (x : Int))) B g n c (xs.set i x) := by
  refine ⟨by simpa using h.1, ?_⟩
  rw [← cellsN_set]
  exact (h.2.stored i _).1
theorem Own.block (h : Own k T w B g n c xs) (he : w'.heap[g]? = w.heap[g]?) : Own k T w' B g n c xs := by
  refine ⟨h.1, h.2.1, ?_⟩
  rcases h.2.2 with h' | ⟨g', cap', cur, h', hb, hh, r⟩
  · exact .inl h'
  · simp only [Value.slice.injEq, Option.some.injEq, Addr.mk.injEq, and_true, true_and] at h'
    obtain ⟨rfl, rfl⟩ := h'
    exact .inr ⟨g, c, cur, rfl, hb, he.trans hh, r⟩
theorem Own.to (h : Own k T w B g n c xs) (hb : Below w.heap.size w w') : Own k T w' B g n c xs := h.block (hb.block g h.lt.2)
theorem Own.drewN (h : Own k T w B g n c xs) (m : Nat) : Own k T (w.drewN m) B g n c xs := h
theorem Own.drew (h : Own k T w B g n c xs) : Own k T w.drew B g n c xs := h
theorem Own.alloc (h : Own k T w B g n c xs) (o : Obj) : Own k T (w.alloc o) B g n c xs := h.block (Below.heap_alloc w o g h.lt.2)
theorem Own.far (h : Own k T w B g n c xs) {p : Addr} (hp : g ≠ p.block) (u : Value) : Own k T (w.setCell p u) B g n c xs := h.block (Below.heap_setCell w p u g hp)
theorem Own.rd (h : Own k T w B g n c xs) : Rd k w w.heap.size (some ⟨g, 0, none⟩) n xs :=
  ⟨h.1, fun _ => ⟨g, 0, rfl, h.lt.2, fun i hi => by rw [Nat.zero_add]; exact h.cell hi⟩⟩
theorem Own.made (h : w.ownsRow B T 1 (.slice (some ⟨g, 0, none⟩) n n) n (madeCells (Value.int k 0).cells (n * 1)).toList) : Own k T w B g n n (List.replicate n 0) :=
  ⟨by simp, by rw [Nat.mul_one] at h; rw [← cellsN_zeros]; exact h⟩
theorem Own.make (h : w.ownsRow B T 1 (.slice (some ⟨g, 0, none⟩) n c) n (cellsN k xs)) (hl : xs.length = n) : Own k T w B g n c xs := ⟨hl, h⟩
end

/-- A part of a row read as a slice value: from the whole row to its first m numbers. -/
theorem Sl.of_rd {k : IntKind} {w : World} {A : Option Addr} {n c m : Nat} {xs ys : List Nat} (h : Rd k w w.heap.size A n xs) (hm : m ≤ n) (hc : n ≤ c) (hx : c ≤ maxLen) (e : xs.take m = ys) : Sl k w (.slice A m c) ys := by
  subst e
  have hl : (xs.take m).length = m := by rw [List.length_take, h.1]; omega
  exact ⟨A, c, by rw [hl], by omega, hx, by rw [hl]; exact h.take hm⟩

theorem below_drewN {B : Nat} {a w : World} (h : Below B a w) (n : Nat) : Below B a (w.drewN n) := ⟨h.os, h.tape, h.output, h.size, h.block⟩
theorem below_undrew {B : Nat} {w w' : World} (h : Below B w.drew w') : Below B w w' := ⟨h.os, h.tape, h.output, h.size, h.block⟩
theorem below_undrewN {B n : Nat} {w w' : World} (h : Below B (w.drewN n) w') : Below B w w' := ⟨h.os, h.tape, h.output, h.size, h.block⟩
theorem below_of_drewN {B : Nat} {w : World} (n : Nat) : Below B w (w.drewN n) := below_drewN (Below.refl _ _) n

/-- Bits that do not meet: or is a sum. -/
theorem or_shift (a b : Nat) (hb : b < 4294967296) : a * 4294967296 ||| b = a * 4294967296 + b := by
  have := Nat.shiftLeft_add_eq_or_of_lt (a := a) (i := 32) (b := b) hb
  rw [Nat.shiftLeft_eq] at this
  exact this.symm
theorem castW (a b : Nat) : ((a * 4294967296 + b : Nat) : Int) = (a : Int) * 4294967296 + b := by omega
theorem toNatW (a : Nat) : ((a : Int) * 4294967296).toNat = a * 4294967296 := by omega
theorem u64_or_shift (a b : Nat) (ha : a < 4294967296) (hb : b < 4294967296) : bits .or .u64 ((a : Int) * 4294967296) (b : Int) = (a : Int) * 4294967296 + b :=
  (u64_or _ _ (by omega) (by omega) (by omega) (by omega)).trans (by rw [toNatW, Int.toNat_natCast, or_shift a b hb]; exact castW a b)
theorem u64_or_shift' (a b : Nat) (ha : a < 4294967296) (hb : b < 4294967296) : bits .or .u64 (b : Int) ((a : Int) * 4294967296) = (a : Int) * 4294967296 + b :=
  (u64_or _ _ (by omega) (by omega) (by omega) (by omega)).trans (by rw [toNatW, Int.toNat_natCast, Nat.or_comm, or_shift a b hb]; exact castW a b)

/-- A slice value (nil or not) that the call owns, from block B on. -/
def OwnV (k : IntKind) (T : TypeId) (w : World) (B : Nat) (v : Value) (xs : List Nat) : Prop := w.ownsRow B T 1 v xs.length (cellsN k xs)

section
variable {k : IntKind} {T : TypeId} {w w' : World} {B : Nat} {v : Value} {xs : List Nat}
theorem OwnV.nil_ (w : World) : OwnV k T w B (.slice none 0 0) [] := World.ownsRow_nil _ _ _ _
theorem OwnV.form (h : OwnV k T w B v xs) : (v = .slice none 0 0 ∧ xs = []) ∨ ∃ g c, v = .slice (some ⟨g, 0, none⟩) xs.length c ∧ Own k T w B g xs.length c xs := by
  rcases h.2 with ⟨h1, h2⟩ | ⟨g, cap, cur, rfl, r⟩
  · exact .inl ⟨h1, List.eq_nil_of_length_eq_zero h2⟩
  · exact .inr ⟨g, cap, rfl, rfl, h⟩
theorem Own.sl {g n c : Nat} (h : Own k T w B g n c xs) : Sl k w (.slice (some ⟨g, 0, none⟩) n c) xs := by
  have hl := h.1
  subst hl
  exact ⟨_, c, rfl, h.cap.1, h.cap.2, h.rd⟩
theorem OwnV.sl (h : OwnV k T w B v xs) : Sl k w v xs := by
  rcases h.form with ⟨rfl, rfl⟩ | ⟨g, c, rfl, ho⟩
  · exact ⟨none, 0, rfl, Nat.le_refl _, Nat.zero_le _, Rd.none_⟩
  · exact ho.sl
theorem OwnV.to (h : OwnV k T w B v xs) (hb : Below w.heap.size w w') : OwnV k T w' B v xs := by
  rcases h.form with ⟨rfl, rfl⟩ | ⟨g, c, rfl, ho⟩
  · exact OwnV.nil_ _
  · exact (ho.to hb).2
theorem OwnV.alloc (h : OwnV k T w B v xs) (o : Obj) : OwnV k T (w.alloc o) B v xs := World.ownsRow.alloc h o
theorem OwnV.blk (h : OwnV k T w B v xs) : ∀ g, v.ownBlock = some g → B ≤ g := fun g hg => (World.ownsRow.lt h g hg).1
end

/-- The numbers of a slice, as the laws on append ask for them. -/
theorem rd_news {k : IntKind} {w : World} {B n : Nat} {ad : Addr} {xs : List Nat} (h : Rd k w B (some ad) n xs) : ∀ j u, (cellsN k xs)[j]? = some u → w.cell? (ad.add j) = some u := by
  intro j u hu
  have hj : j < xs.length := by
    rcases Nat.lt_or_ge j xs.length with h1 | h1
    · exact h1
    · rw [List.getElem?_eq_none (by rw [cellsN_len]; exact h1)] at hu; cases hu
  obtain ⟨b, o, e, _, hc⟩ := h.2 (by have := h.1; omega)
  injection e with e
  subst e
  rw [cellsN_get hj] at hu
  injection hu with hu
  subst hu
  have : (⟨b, o, none⟩ : Addr).add j = ⟨b, o + j, none⟩ := by unfold Addr.add; split <;> simp_all
  rw [this]
  exact hc j (by have := h.1; omega)

end Go.Proofs.Ytkamkaehlofgpaa
/- The frame of a law: arguments read again, the post where only new memory was made; a number that came in, opened. -/
namespace Go.Proofs.Ytkamkaehlofgpaa
open Go.ChangeShapes Go.WideShapes Go.ChangeAt Go.RowKit Go.Joins NumB
set_option linter.unusedVariables false
set_option linter.unusedSimpArgs false

theorem own : ownKnob Try.prog.godebug = none := by kernel_rfl
theorem laidOut : laidOutB Try.prog = true := by kernel_rfl

/-- The arguments read again where nothing old has turned. -/
theorem below_trodAll {H : Type} {enc : TypeId × Value → H} {P : Program} (hl : laidOutB P = true) {W W' : World} (hb : Below W.heap.size W W') :
    ∀ {ts : List TypeId} {vs : List Value} {ds : List (DataW H)} {ps : List MemPlace}, (∀ t ∈ ts, P.readableRec t = true ∧ t < P.types.size) → DataW.TrodAll enc P W 0 (fun _ => true) true ts vs ds ps → (∀ x ∈ ps, x.block < W.heap.size) →
      DataW.TrodAll enc P W' 0 (fun b => decide (b < W.heap.size)) true ts vs ds ps
  | [], [], [], _, _, h, _ => h
  | t :: _, _ :: _, _ :: _, _, hT, ⟨p, q, h1, h2, e⟩, hs => ⟨p, q, Below.trod hl (hT t (by simp)).1 (hT t (by simp)).2 h1 hb (fun x hx => hs x (by rw [e]; exact List.mem_append_left _ hx)), below_trodAll hl hb (fun u hu => hT u (by simp [hu])) h2 (fun x hx => hs x (by rw [e]; exact List.mem_append_right _ hx)), e⟩

/-- The post of a law: it answered true, and only new memory was made. -/
theorem post_law {H : Type} {enc : TypeId × Value → H} {f : Func} {s : ChangeSpec} {W W' : World} {args : Array Value} {ds : List (DataW H)} {before : List MemPlace} (hvars : s.vars = [])
    (hW : DataW.Whole enc Try.prog f.params.toList s.vars false W args.toList ds [] before)
    (hA : DataW.TrodAll enc Try.prog W 0 (fun _ => true) true f.params.toList args.toList ds before)
    (hT : ∀ t ∈ f.params.toList, Try.prog.readableRec t = true ∧ t < Try.prog.types.size)
    (hres : f.resultTypes = #[4]) (hfn : s.fn H ds = { results := [.lit (.bool true)], args := ds })
    (hb : Below W.heap.size W W') : s.post enc Try.prog f false true false false W args (.bool true) W' := by
  have hlt : ∀ p ∈ before, p.block < W.heap.size := fun p hp => hW.lt p hp
  have e : s.fn H (ds ++ []) = { results := [.lit (.bool true)], args := ds } := by rw [List.append_nil]; exact hfn
  refine ⟨ds, [], before, [], before, [], hW, ?_, ?_, ?_, hb.frame _, fun h => by cases h⟩
  · rw [e, hres]; exact trodAll_mk1 (shut_bool Try.underlying4 _)
  · rw [e]; exact below_trodAll laidOut hb hT hA hlt
  · rw [e, hvars]; exact rfl

set_option maxRecDepth 100000 in
/-- A slice of limbs that came in. -/
theorem open_limbs {H : Type} {enc : TypeId × Value → H} {W : World} {n : Nat} {v : Value} {y : DataW H × List MemPlace}
    (h : DataW.trod enc Try.prog W 0 (fun _ => true) true n 23 [v] = some y) : ∃ xs : List Nat, Sl .u32 W v xs ∧ Ok W32 xs := by
  rcases open_ints Try.underlying23 Try.underlying61 (by kernel_rfl) h with ⟨hcs, hx⟩ | ⟨a, len, cap, zs, hcs, _, hl, hm, hz, hx, hcell, hwz⟩
  · simp only [List.cons.injEq, and_true] at hcs
    subst hcs
    exact ⟨[], (OwnV.nil_ (B := 0) (T := 0) W).sl, Ok.nil⟩
  · simp only [List.cons.injEq, and_true] at hcs
    subst hcs
    simp only [if_true] at hz
    have hwf : ∀ z ∈ zs, 0 ≤ z ∧ z < 4294967296 := fun z hzm => by
      have := bounds_u32 (hwz z hzm)
      omega
    have hget : ∀ i, i < zs.length → ((zs.map Int.toNat).getD i 0 : Int) = zs.getD i 0 := fun i hi => by
      rw [List.getD_eq_getElem?_getD, List.getD_eq_getElem?_getD, List.getElem?_map, List.getElem?_eq_getElem hi]
      have := hwf _ (List.getElem_mem hi)
      simp only [Option.map_some, Option.getD_some]
      omega
    refine ⟨(zs.map Int.toNat).take len, ?_, ?_⟩
    · refine Sl.of_rd (n := cap) (xs := zs.map Int.toNat) ?_ hl (Nat.le_refl _) hm rfl
      refine ⟨by simp [hz], fun hn => ?_⟩
      obtain ⟨b, off, rfl, hc⟩ := ints_at hcell (by omega)
      refine ⟨b, off, rfl, ?_, fun i hi => ?_⟩
      · have := hc 0 (by omega)
        rcases Nat.lt_or_ge b W.heap.size with h1 | h1
        · exact h1
        · simp [World.cell?, Array.getElem?_eq_none h1] at this
      · rw [hc i (by omega), hget i (by omega)]
    · intro x hx
      obtain ⟨z, hzm, rfl⟩ := List.mem_map.1 (List.mem_of_mem_take hx)
      have := hwf z hzm
      show z.toNat < 4294967296
      omega

set_option maxRecDepth 100000 in
/-- A number that came in: a sign and two lists of limbs. -/
theorem open_number {H : Type} {enc : TypeId × Value → H} {W : World} {base : Nat} {v : Value} {d : DataW H} {p : List MemPlace}
    (hv : Value.okWide Try.prog W .any base 25 v) (h : DataW.Trod enc Try.prog W 0 (fun _ => true) true 25 v d p) :
    ∃ (neg : Bool) (va vb : Value) (xs ys : List Nat), v = .agg #[.bool neg, va, vb] ∧ Sl .u32 W va xs ∧ Sl .u32 W vb ys ∧ Ok W32 xs ∧ Ok W32 ys := by
  obtain ⟨c0, c1, c2, y0, y1, y2, m, rfl, _, _, h0, h1, h2⟩ := open_agg3 Try.underlying25 (by kernel_rfl) (by kernel_rfl) hv h
  obtain ⟨b, e0, _⟩ := DataW.trod_bool Try.underlying4 h0
  simp only [List.cons.injEq, and_true] at e0
  subst e0
  obtain ⟨xs, hx, ox⟩ := open_limbs h1
  obtain ⟨ys, hy, oy⟩ := open_limbs h2
  exact ⟨b, c1, c2, xs, ys, rfl, hx, hy, ox, oy⟩

end Go.Proofs.Ytkamkaehlofgpaa
/- nat.Trim: the limbs without last zeros. Conditions: none. -/
namespace Go.Proofs.Ytkamkaehlofgpaa
open Go.RowKit NumB

theorem trim_end {xs : List Nat} {g : Nat} (ho : Ok W32 xs) (hg : g ≤ xs.length) (hv : val W32 (xs.take g) = val W32 xs) (hl : g = 0 ∨ xs.getD (g - 1) 0 ≠ 0) : xs.take g = digs W32 (val W32 xs) := by
  refine (digs_eq W32_gt (ho.take g) (top_of_last ?_) hv).symm
  have hlen : (xs.take g).length = g := by rw [List.length_take]; omega
  rcases hl with rfl | hl
  · left; rfl
  · rcases Nat.eq_zero_or_pos g with rfl | h0
    · left; rfl
    · right
      rw [hlen, List.getD_eq_getElem?_getD, List.getElem?_take, if_pos (by omega), ← List.getD_eq_getElem?_getD]
      exact hl

set_option maxHeartbeats 400000 in
theorem trim_any (xs : List Nat) (A : Option Addr) (n c : Nat) (w : World) (B : Nat) (hr : Rd .u32 w B A n xs) (ho : Ok W32 xs) (hc : n ≤ c) (hm : c ≤ maxLen) :
    Calls Try.prog 95 #[.slice A n c] w fun e w' => ∃ m, e = .returned (.slice A m c) ∧ m ≤ n ∧ xs.take m = digs W32 (val W32 xs) ∧ w = w' := by
  unfold maxLen at hm
  have HL := Lib.hid hr.1
  have HR := Lib.hid hr.2
  clear hr
  have HO := Lib.hid ho
  clear ho
  go_enter Try.func95, Try.ntmps95
  go_wp2
  go_loopg [0] n (fun g v wr => g ≤ n ∧ v = .slice A g c ∧ Hid (val W32 (xs.take g) = val W32 xs) ∧ w = wr)
  case atStart => exact ⟨Nat.le_refl _, rfl, by rw [← HL.out, List.take_length]; rfl, rfl⟩
  case round =>
    obtain ⟨hg, rfl, HV, rfl⟩ := hrel
    by_cases h0 : 0 < gk
    · obtain ⟨b, o, rfl, hb, hcell⟩ := HR.out (by omega)
      have hx := hcell (gk - 1) (by omega)
      clear hcell
      generalize hxe : xs.getD (gk - 1) 0 = x at hx
      have HX := Lib.hid hxe
      clear hxe
      by_cases hz : x = 0
      · subst hz
        go_wp2
        go_roundg (gk - 1)
        case measure => omega
        case rel =>
          refine ⟨by omega, rfl, ?_, rfl⟩
          have h := val_take_succ W32 xs (gk - 1)
          rw [show gk - 1 + 1 = gk from by omega, HX.out, Nat.mul_zero, Nat.add_zero] at h
          exact h.symm.trans HV.out
      · have HZ := Lib.hid hz
        have hne : ((x : Int) == 0) = false := beq_eq_false_iff_ne.2 (by omega)
        clear hz
        go_wp2
        go_ret
        exact ⟨gk, rfl, hg, trim_end HO.out (by rw [HL.out]; exact hg) HV.out (.inr (by rw [HX.out]; exact HZ.out)), rfl⟩
    · go_wp2
      go_ret
      exact ⟨gk, rfl, hg, trim_end HO.out (by rw [HL.out]; exact hg) HV.out (.inl (by omega)), rfl⟩
end Go.Proofs.Ytkamkaehlofgpaa
