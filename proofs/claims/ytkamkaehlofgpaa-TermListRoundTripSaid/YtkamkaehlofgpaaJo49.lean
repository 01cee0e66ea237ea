/-  -/
import Derived.Test.YtkamkaehlofgpaaJo29
set_option linter.unusedVariables false
set_option linter.unusedSimpArgs false
/- A term whose memory lies in blocks of a kind: carried where these blocks are as they were. -/
namespace Go.Proofs.Ytkamkaehlofgpaa
open Go.RowKit NumB
set_option linter.unusedVariables false
set_option linter.unusedSimpArgs false

/-- Limbs in a block of a kind. -/
def SlP (p : Nat → Prop) (w : World) (v : Value) (xs : List Nat) : Prop :=
  ∃ A c, v = .slice A xs.length c ∧ xs.length ≤ c ∧ c ≤ maxLen ∧ (0 < xs.length → ∃ b o, A = some ⟨b, o, none⟩ ∧ p b ∧ b < w.heap.size ∧ ∀ i, i < xs.length → w.cell? ⟨b, o + i, none⟩ = some (.int .u32 ((xs.getD i 0 : Nat) : Int)))
theorem SlP.sl {p : Nat → Prop} {w : World} {v : Value} {xs : List Nat} (h : SlP p w v xs) : Sl .u32 w v xs := by
  obtain ⟨A, c, e, h1, h2, h3⟩ := h
  exact ⟨A, c, e, h1, h2, rfl, fun h0 => by obtain ⟨b, o, e, _, hb, hc⟩ := h3 h0; exact ⟨b, o, e, hb, hc⟩⟩
theorem SlP.of_sl {w : World} {v : Value} {xs : List Nat} (h : Sl .u32 w v xs) : SlP (fun b => b < w.heap.size) w v xs := by
  obtain ⟨A, c, e, h1, h2, _, h3⟩ := h
  exact ⟨A, c, e, h1, h2, fun h0 => by obtain ⟨b, o, e, hb, hc⟩ := h3 h0; exact ⟨b, o, e, hb, hb, hc⟩⟩
theorem SlP.of_own {B T : Nat} {w : World} {v : Value} {xs : List Nat} (h : OwnV .u32 T w B v xs) : SlP (fun b => B ≤ b) w v xs := by
  obtain ⟨A, c, e, h1, h2, _, h3⟩ := h.sl
  refine ⟨A, c, e, h1, h2, fun h0 => ?_⟩
  obtain ⟨b, o, e2, hb, hc⟩ := h3 h0
  subst e e2
  exact ⟨b, o, rfl, (Go.World.ownsRow.lt h b rfl).1, hb, hc⟩
theorem SlP.to {p : Nat → Prop} {w w' : World} {v : Value} {xs : List Nat} (h : SlP p w v xs) (hs : w.heap.size ≤ w'.heap.size) (hb : ∀ b, p b → b < w.heap.size → w'.heap[b]? = w.heap[b]?) : SlP p w' v xs := by
  obtain ⟨A, c, e, h1, h2, h3⟩ := h
  exact ⟨A, c, e, h1, h2, fun h0 => by
    obtain ⟨b, o, e, hp, hlt, hc⟩ := h3 h0
    exact ⟨b, o, e, hp, Nat.lt_of_lt_of_le hlt hs, fun i hi => (World.cell?_of_block (a := ⟨b, o + i, none⟩) (hb b hp hlt)).trans (hc i hi)⟩⟩
theorem SlP.mono {p q : Nat → Prop} {w : World} {v : Value} {xs : List Nat} (h : SlP p w v xs) (hpq : ∀ b, p b → b < w.heap.size → q b) : SlP q w v xs := by
  obtain ⟨A, c, e, h1, h2, h3⟩ := h
  exact ⟨A, c, e, h1, h2, fun h0 => by
    obtain ⟨b, o, e, hp, hlt, hc⟩ := h3 h0
    exact ⟨b, o, e, hpq b hp hlt, hlt, hc⟩⟩
theorem SlP.nil_ (p : Nat → Prop) (w : World) : SlP p w (.slice none 0 0) [] := ⟨none, 0, rfl, Nat.le_refl _, by unfold maxLen; omega, fun h => absurd h (by simp)⟩

inductive TCP (p : Nat → Prop) (w : World) : Tm → List Value → Prop
  | mk (k v : Int) (s : ByteArray) (n : LN) (args : List Tm) (A B : Value) (Ar : Option Addr) (cap : Nat) (cs : Nat → List Value)
    (hk : i64ok k) (hv : i64ok v) (hs : s.size ≤ maxLen) (hA : SlP p w A n.num) (hB : SlP p w B n.den) (hn : n.ok)
    (hcap : args.length ≤ cap) (hm : cap ≤ maxLen)
    (hr : 0 < args.length → ∃ b o, Ar = some ⟨b, o, none⟩ ∧ p b ∧ b < w.heap.size ∧ ∀ i, i < args.length → ∀ j, j < 7 → w.cell? ⟨b, o + i * 7 + j, none⟩ = (cs i)[j]?)
    (ha : ∀ i (h : i < args.length), TCP p w args[i] (cs i)) :
    TCP p w (.mk k v s n args) [.int .i64 k, .int .i64 v, .string s, .bool n.neg, A, B, .slice Ar args.length cap]
theorem TCP.tc {p : Nat → Prop} {w : World} {t : Tm} {cs : List Value} (h : TCP p w t cs) : TC w t cs := by
  induction h with
  | mk k v s n args A C Ar cap cs hk hv hs hA hC hn hcap hm hr ha ih =>
    exact .mk k v s n args A C Ar cap cs hk hv hs hA.sl hC.sl hn hcap hm (fun h0 => by obtain ⟨b, o, e, _, hlt, hc⟩ := hr h0; exact ⟨b, o, e, hlt, hc⟩) ih
theorem TCP.of_tc {w : World} {t : Tm} {cs : List Value} (h : TC w t cs) : TCP (fun b => b < w.heap.size) w t cs := by
  induction h with
  | mk k v s n args A C Ar cap cs hk hv hs hA hC hn hcap hm hr ha ih =>
    exact .mk k v s n args A C Ar cap cs hk hv hs (.of_sl hA) (.of_sl hC) hn hcap hm (fun h0 => by obtain ⟨b, o, e, hlt, hc⟩ := hr h0; exact ⟨b, o, e, hlt, hlt, hc⟩) ih
theorem TCP.of_tcf {B : Nat} {w : World} {t : Tm} {cs : List Value} (h : TCF B w t cs) : TCP (fun b => B ≤ b) w t cs := by
  induction h with
  | mk k v s n args A C Ar cap cs hk hv hs hA hC hn hcap hm hr ha ih =>
    exact .mk k v s n args A C Ar cap cs hk hv hs (.of_own hA) (.of_own hC) hn hcap hm (fun h0 => by obtain ⟨b, o, e, hB, hlt, _, hc⟩ := hr h0; exact ⟨b, o, e, hB, hlt, hc⟩) ih
theorem TCP.to {p : Nat → Prop} {w w' : World} {t : Tm} {cs : List Value} (h : TCP p w t cs) (hs : w.heap.size ≤ w'.heap.size) (hb : ∀ b, p b → b < w.heap.size → w'.heap[b]? = w.heap[b]?) : TCP p w' t cs := by
  induction h with
  | mk k v s n args A C Ar cap cs hk hv hs' hA hC hn hcap hm hr ha ih =>
    refine .mk k v s n args A C Ar cap cs hk hv hs' (hA.to hs hb) (hC.to hs hb) hn hcap hm (fun h0 => ?_) ih
    obtain ⟨b, o, e, hp, hlt, hc⟩ := hr h0
    exact ⟨b, o, e, hp, Nat.lt_of_lt_of_le hlt hs, fun i hi j hj => (World.cell?_of_block (a := ⟨b, o + i * 7 + j, none⟩) (hb b hp hlt)).trans (hc i hi j hj)⟩
theorem TCP.mono {p q : Nat → Prop} {w : World} {t : Tm} {cs : List Value} (h : TCP p w t cs) (hpq : ∀ b, p b → b < w.heap.size → q b) : TCP q w t cs := by
  induction h with
  | mk k v s n args A C Ar cap cs hk hv hs' hA hC hn hcap hm hr ha ih =>
    refine .mk k v s n args A C Ar cap cs hk hv hs' (hA.mono hpq) (hC.mono hpq) hn hcap hm (fun h0 => ?_) ih
    obtain ⟨b, o, e, hp, hlt, hc⟩ := hr h0
    exact ⟨b, o, e, hpq b hp hlt, hlt, hc⟩
theorem TCP.onto {p : Nat → Prop} {w w' : World} {t : Tm} {cs : List Value} (h : TCP p w t cs) (hb : Below w.heap.size w w') : TCP p w' t cs := h.to hb.size fun b _ hlt => hb.block b hlt
theorem TCP.drew {p : Nat → Prop} {w : World} {t : Tm} {cs : List Value} (h : TCP p w t cs) : TCP p w.drew t cs := h.to (Nat.le_refl _) fun _ _ _ => rfl
/-- Carried over a store into another block. -/
theorem TCP.store {O : Nat} {w : World} {t : Tm} {cs : List Value} (h : TCP (fun b => b ≠ O) w t cs) (i : Nat) (u : Value) : TCP (fun b => b ≠ O) (w.setCell ⟨O, i, none⟩ u) t cs :=
  h.to (by simp [World.setCell]) fun b hb _ => Below.heap_setCell w ⟨O, i, none⟩ u b hb
theorem TCP.form {p : Nat → Prop} {w : World} {t : Tm} {cs : List Value} (h : TCP p w t cs) : ∃ k v s ng A1 n1 c1 B1 m1 d1 Xr l cap, cs = [.int .i64 k, .int .i64 v, .string s, .bool ng, .slice A1 n1 c1, .slice B1 m1 d1, .slice Xr l cap] := h.tc.form
theorem TCP.cell {p : Nat → Prop} {W : World} {b : Nat} {x r : Tm} {k0 v0 k1 v1 : Int} {s0 s1 : ByteArray} {n0 n1 : Bool} {p0 p1 p2 q0 q1 q2 : Value}
    (h : Blk W b 27 #[.int .i64 k0, .int .i64 v0, .string s0, .bool n0, p0, p1, p2, .int .i64 k1, .int .i64 v1, .string s1, .bool n1, q0, q1, q2]) (hp : p b)
    (hx : TCP p W x [.int .i64 k0, .int .i64 v0, .string s0, .bool n0, p0, p1, p2]) (hr : TCP p W r [.int .i64 k1, .int .i64 v1, .string s1, .bool n1, q0, q1, q2]) :
    TCP p W (.cell x r) (ccell b) :=
  .mk 5 0 ⟨#[46]⟩ ⟨false, [], []⟩ [x, r] (.slice none 0 0) (.slice none 0 0) (some ⟨b, 0, none⟩) 2 (fun i => if i = 0 then [.int .i64 k0, .int .i64 v0, .string s0, .bool n0, p0, p1, p2] else [.int .i64 k1, .int .i64 v1, .string s1, .bool n1, q0, q1, q2]) ⟨by decide, by decide⟩ ⟨by decide, by decide⟩ (by decide) (.nil_ p W) (.nil_ p W) ⟨Ok.nil, Ok.nil⟩ (Nat.le_refl _) (by decide)
    (fun _ => ⟨b, 0, rfl, hp, h.lt, fun i hi j hj => by
      have hi : i < 2 := hi
      rw [h.cell]
      have h01 : i = 0 ∨ i = 1 := by omega
      have h07 : j = 0 ∨ j = 1 ∨ j = 2 ∨ j = 3 ∨ j = 4 ∨ j = 5 ∨ j = 6 := by omega
      rcases h01 with rfl | rfl <;> rcases h07 with rfl | rfl | rfl | rfl | rfl | rfl | rfl <;> rfl⟩)
    (fun i hi => by
      have hi : i < 2 := hi
      have : i = 0 ∨ i = 1 := by omega
      rcases this with rfl | rfl
      · exact hx
      · exact hr)
end Go.Proofs.Ytkamkaehlofgpaa
/- What holds within the region of term.List's loop. -/
namespace Go.Proofs.Ytkamkaehlofgpaa
open Go.RowKit NumB
set_option linter.unusedVariables false
set_option linter.unusedSimpArgs false

theorem TCP.kept {R O : Nat} {w w' : World} {t : Tm} {cs : List Value} (h : TCP (fun b => R < b ∧ b ≠ O) w t cs) (hk : Kept (fun k => k = O) w w') : TCP (fun b => R < b ∧ b ≠ O) w' t cs :=
  h.to hk.size fun b hb hlt => hk.block b hlt hb.2
/-- The operations: 4 the clone, 5 the load of the rest, 6 the cells, 7 the list cell, 8 its store. -/
def LInv (w : World) (R O : Nat) (x r : Tm) (o0 o1 o2 o3 o4 o5 o6 : Value) (L : Nat → Bool) (s20 s21 s22 s23 : Value) (W : World) : Prop :=
  Kept (fun k => k = O) w W ∧ TCP (fun b => R < b ∧ b ≠ O) W r [o0, o1, o2, o3, o4, o5, o6] ∧ (L 8 = false → Blk W O 27 #[o0, o1, o2, o3, o4, o5, o6]) ∧
  (L 4 = true → ∃ k v s ng A1 n1 c1 B1 m1 d1 Xr l cap, s20 = .agg #[.int .i64 k, .int .i64 v, .string s, .bool ng, .slice A1 n1 c1, .slice B1 m1 d1, .slice Xr l cap] ∧ TCP (fun b => R < b ∧ b ≠ O) W x [.int .i64 k, .int .i64 v, .string s, .bool ng, .slice A1 n1 c1, .slice B1 m1 d1, .slice Xr l cap]) ∧
  (L 5 = true → s21 = .agg #[o0, o1, o2, o3, o4, o5, o6]) ∧
  (L 6 = true → L 5 = true ∧ ∃ g, s22 = .slice (some ⟨g, 0, none⟩) 2 2 ∧ TCP (fun b => R < b ∧ b ≠ O) W (.cell x r) (ccell g)) ∧
  (L 7 = true → L 6 = true ∧ s23 = .agg #[.int .i64 5, .int .i64 0, .string ⟨#[46]⟩, .bool false, .slice none 0 0, .slice none 0 0, s22]) ∧
  (L 8 = true → L 7 = true ∧ Blk W O 27 #[.int .i64 5, .int .i64 0, .string ⟨#[46]⟩, .bool false, .slice none 0 0, .slice none 0 0, s22])
section
variable {w W W2 : World} {R O : Nat} {x r : Tm} {o0 o1 o2 o3 o4 o5 o6 : Value} {L : Nat → Bool} {s20 s21 s22 s23 : Value}
theorem LInv.not8 (h : LInv w R O x r o0 o1 o2 o3 o4 o5 o6 L s20 s21 s22 s23 W) (hL : L 5 = false ∨ L 6 = false ∨ L 7 = false) : L 8 = false := by
  obtain ⟨h1, h2, h3, h4, h5, h6, h7, h8⟩ := h
  cases hh : L 8 with
  | false => rfl
  | true =>
    have a7 := (h8 hh).1
    have a6 := (h7 a7).1
    have a5 := (h6 a6).1
    rcases hL with h | h | h <;> simp_all
theorem LInv.init (h2 : TCP (fun b => R < b ∧ b ≠ O) w r [o0, o1, o2, o3, o4, o5, o6]) (h3 : Blk w O 27 #[o0, o1, o2, o3, o4, o5, o6]) (hL : ∀ i, 4 ≤ i → L i = false) : LInv w R O x r o0 o1 o2 o3 o4 o5 o6 L s20 s21 s22 s23 w := by
  refine ⟨Kept.refl _ _, h2, fun _ => h3, ?_, ?_, ?_, ?_, ?_⟩ <;> (intro h; exact absurd ((hL _ (by omega)).symm.trans h) (by simp))
theorem LInv.call4 (h : LInv w R O x r o0 o1 o2 o3 o4 o5 o6 L s20 s21 s22 s23 W) (hL : L 4 = false) (hRO : R < O) (hO : O < W.heap.size) (hb : Below W.heap.size W W2) {k v : Int} {s : ByteArray} {ng : Bool} {A1 B1 Xr : Option Addr} {n1 c1 m1 d1 l cap : Nat} (ht : TCF (W.heap.size + 1) W2 x [.int .i64 k, .int .i64 v, .string s, .bool ng, .slice A1 n1 c1, .slice B1 m1 d1, .slice Xr l cap]) :
    LInv w R O x r o0 o1 o2 o3 o4 o5 o6 (fun j => j == 4 || L j) (.agg #[.int .i64 k, .int .i64 v, .string s, .bool ng, .slice A1 n1 c1, .slice B1 m1 d1, .slice Xr l cap]) s21 s22 s23 W2 := by
  obtain ⟨h1, h2, h3, h4, h5, h6, h7, h8⟩ := h
  have hk : Kept (fun k => k = O) W W2 := Kept.of_below hb
  refine ⟨h1.trans hk, h2.kept hk, fun h => (h3 h).to hb, fun _ => ⟨k, v, s, ng, A1, n1, c1, B1, m1, d1, Xr, l, cap, rfl, (TCP.of_tcf ht).mono fun b hb _ => by omega⟩, h5, fun h => ?_, h7, fun h => ⟨(h8 h).1, (h8 h).2.to hb⟩⟩
  obtain ⟨a, g, e, ht⟩ := h6 h
  exact ⟨a, g, e, ht.kept hk⟩
theorem LInv.load5 (h : LInv w R O x r o0 o1 o2 o3 o4 o5 o6 L s20 s21 s22 s23 W) :
    LInv w R O x r o0 o1 o2 o3 o4 o5 o6 (fun j => j == 5 || L j) s20 (.agg #[o0, o1, o2, o3, o4, o5, o6]) s22 s23 W := by
  obtain ⟨h1, h2, h3, h4, h5, h6, h7, h8⟩ := h
  exact ⟨h1, h2, h3, h4, fun _ => rfl, fun h => ⟨rfl, (h6 h).2⟩, h7, h8⟩
theorem LInv.build6 {k v : Int} {s : ByteArray} {ng : Bool} {A1 B1 Xr : Option Addr} {n1 c1 m1 d1 l cap : Nat} {k1 v1 : Int} {s1 : ByteArray} {ng1 : Bool} {A2 B2 X2 : Option Addr} {n2 c2 m2 d2 l2 cap2 : Nat}
    (h : LInv w R O x r (.int .i64 k1) (.int .i64 v1) (.string s1) (.bool ng1) (.slice A2 n2 c2) (.slice B2 m2 d2) (.slice X2 l2 cap2) L s20 s21 s22 s23 W) (hL : L 6 = false) (h5' : L 5 = true) (hRO : R < O) (hO : O < W.heap.size)
    (hx : TCP (fun b => R < b ∧ b ≠ O) W x [.int .i64 k, .int .i64 v, .string s, .bool ng, .slice A1 n1 c1, .slice B1 m1 d1, .slice Xr l cap]) :
    LInv w R O x r (.int .i64 k1) (.int .i64 v1) (.string s1) (.bool ng1) (.slice A2 n2 c2) (.slice B2 m2 d2) (.slice X2 l2 cap2) (fun j => j == 6 || L j) s20 s21 (.slice (some ⟨W.heap.size, 0, none⟩) 2 2) s23
      (W.alloc (.cells #[.int .i64 k, .int .i64 v, .string s, .bool ng, .slice A1 n1 c1, .slice B1 m1 d1, .slice Xr l cap, .int .i64 k1, .int .i64 v1, .string s1, .bool ng1, .slice A2 n2 c2, .slice B2 m2 d2, .slice X2 l2 cap2] 27)) := by
  have n8 := h.not8 (.inr (.inl hL))
  obtain ⟨h1, h2, h3, h4, h5, h6, h7, h8⟩ := h
  have hb := below_one W (.cells #[.int .i64 k, .int .i64 v, .string s, .bool ng, .slice A1 n1 c1, .slice B1 m1 d1, .slice Xr l cap, .int .i64 k1, .int .i64 v1, .string s1, .bool ng1, .slice A2 n2 c2, .slice B2 m2 d2, .slice X2 l2 cap2] 27)
  have n7 : L 7 = false := by cases hh : L 7 with
    | false => rfl
    | true => have := (h7 hh).1; rw [hL] at this; cases this
  refine ⟨h1.trans (Kept.of_below hb), h2.onto hb, fun h => (h3 h).to hb, fun h => ?_, h5, fun _ => ⟨h5', _, rfl, ?_⟩, fun h => absurd (n7.symm.trans h) (by simp), fun h => absurd (n8.symm.trans h) (by simp)⟩
  · obtain ⟨k, v, s, ng, A1, n1, c1, B1, m1, d1, Xr, l, cap, e, ht⟩ := h4 h
    exact ⟨k, v, s, ng, A1, n1, c1, B1, m1, d1, Xr, l, cap, e, ht.onto hb⟩
  · exact TCP.cell (Blk.new W _ _) (by omega) (hx.onto hb) (h2.onto hb)
theorem LInv.build7 (h : LInv w R O x r o0 o1 o2 o3 o4 o5 o6 L s20 s21 s22 s23 W) (h6' : L 6 = true) :
    LInv w R O x r o0 o1 o2 o3 o4 o5 o6 (fun j => j == 7 || L j) s20 s21 s22 (.agg #[.int .i64 5, .int .i64 0, .string ⟨#[46]⟩, .bool false, .slice none 0 0, .slice none 0 0, s22]) W := by
  obtain ⟨h1, h2, h3, h4, h5, h6, h7, h8⟩ := h
  exact ⟨h1, h2, h3, h4, h5, h6, fun _ => ⟨h6', rfl⟩, fun h => ⟨rfl, (h8 h).2⟩⟩
theorem LInv.store8 (h : LInv w R O x r o0 o1 o2 o3 o4 o5 o6 L s20 s21 s22 s23 W) (hL : L 8 = false) (h7' : L 7 = true) :
    LInv w R O x r o0 o1 o2 o3 o4 o5 o6 (fun j => j == 8 || L j) s20 s21 s22 s23 (((((((W.setCell ⟨O, 0, none⟩ (.int .i64 5)).setCell ⟨O, 1, none⟩ (.int .i64 0)).setCell ⟨O, 2, none⟩ (.string ⟨#[46]⟩)).setCell ⟨O, 3, none⟩ (.bool false)).setCell ⟨O, 4, none⟩ (.slice none 0 0)).setCell ⟨O, 5, none⟩ (.slice none 0 0)).setCell ⟨O, 6, none⟩ s22) := by
  obtain ⟨h1, h2, h3, h4, h5, h6, h7, h8⟩ := h
  have hk : Kept (fun k => k = O) W (((((((W.setCell ⟨O, 0, none⟩ (.int .i64 5)).setCell ⟨O, 1, none⟩ (.int .i64 0)).setCell ⟨O, 2, none⟩ (.string ⟨#[46]⟩)).setCell ⟨O, 3, none⟩ (.bool false)).setCell ⟨O, 4, none⟩ (.slice none 0 0)).setCell ⟨O, 5, none⟩ (.slice none 0 0)).setCell ⟨O, 6, none⟩ s22) :=
    ((((((Kept.setCell W ⟨O, 0, none⟩ _).trans (Kept.setCell _ ⟨O, 1, none⟩ _)).trans (Kept.setCell _ ⟨O, 2, none⟩ _)).trans (Kept.setCell _ ⟨O, 3, none⟩ _)).trans (Kept.setCell _ ⟨O, 4, none⟩ _)).trans (Kept.setCell _ ⟨O, 5, none⟩ _)).trans (Kept.setCell _ ⟨O, 6, none⟩ _)
  refine ⟨h1.trans hk, h2.kept hk, fun h => absurd h (by simp), fun h => ?_, h5, fun h => ?_, h7, fun _ => ⟨h7', ?_⟩⟩
  · obtain ⟨k, v, s, ng, A1, n1, c1, B1, m1, d1, Xr, l, cap, e, ht⟩ := h4 h
    exact ⟨k, v, s, ng, A1, n1, c1, B1, m1, d1, Xr, l, cap, e, ht.kept hk⟩
  · obtain ⟨a, g, e, ht⟩ := h6 h
    exact ⟨a, g, e, ht.kept hk⟩
  · have := (((((((h3 hL).set_ 0 (.int .i64 5)).set_ 1 (.int .i64 0)).set_ 2 (.string ⟨#[46]⟩)).set_ 3 (.bool false)).set_ 4 (.slice none 0 0)).set_ 5 (.slice none 0 0)).set_ 6 s22
    simpa using this
theorem LInv.done (h : LInv w R O x r o0 o1 o2 o3 o4 o5 o6 L s20 s21 s22 s23 W) (hall : ∀ i, i < 9 → L i = true) :
    Kept (fun k => k = O) w W ∧ ∃ g, s22 = .slice (some ⟨g, 0, none⟩) 2 2 ∧ TCP (fun b => R < b ∧ b ≠ O) W (.cell x r) (ccell g) ∧ Blk W O 27 #[.int .i64 5, .int .i64 0, .string ⟨#[46]⟩, .bool false, .slice none 0 0, .slice none 0 0, s22] := by
  obtain ⟨h1, h2, h3, h4, h5, h6, h7, h8⟩ := h
  obtain ⟨_, g, e, ht⟩ := h6 (hall 6 (by omega))
  exact ⟨h1, g, e, ht, (h8 (hall 8 (by omega))).2⟩
end
end Go.Proofs.Ytkamkaehlofgpaa
