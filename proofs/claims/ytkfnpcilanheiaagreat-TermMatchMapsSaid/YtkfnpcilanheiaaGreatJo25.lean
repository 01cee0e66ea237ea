/- term.Free's closure: the variables in order. And 5 more texts. -/
import Derived.Deep.RegionHeld3
import Derived.Deep.RegionLaw
import Derived.Deep.AppendLies
import Derived.BigQuiet
import Derived.Deep.QuietTactic
import Derived.Test.YtkfnpcilanheiaaGreatJo8
import Derived.Test.YtkfnpcilanheiaaGreatJo19
import Derived.Test.YtkfnpcilanheiaaGreatJo20
import Derived.Test.YtkfnpcilanheiaaGreatJo22
import Derived.Test.YtkfnpcilanheiaaGreatJo24
set_option linter.unusedVariables false
set_option linter.unusedSimpArgs false
set_option maxRecDepth 100000
namespace Go.Proofs.YtkfnpcilanheiaaGreat
open Go.RowKit NumB
mutual
def Tm.free : Tm → List Int → List Int
  | .mk k v _ _ args, l => freeL args (if k = 1 ∧ v ∉ l then l ++ [v] else l)
def freeL : List Tm → List Int → List Int
  | [], l => l
  | t :: ts, l => freeL ts (t.free l)
end
def setF (l : List Int) : Int → Option Value := fun j => if j ∈ l then some (.bool true) else none
def ints (l : List Int) : List Value := l.map (fun i => .int .i64 i)
structure FV (B bs bo bv ms : Nat) (l : List Int) (W : World) : Prop where
  h1 : Blk W bs 111 #[.map (some ms)]
  h2 : ∃ ov, Blk W bo 43 #[ov] ∧ W.ownsRow B 3 1 ov l.length (ints l)
  h3 : Blk W bv 112 #[.func (.func 82) #[] #[.pointer (some ⟨bs, 0, none⟩), .pointer (some ⟨bo, 0, none⟩), .pointer (some ⟨bv, 0, none⟩)]]
  h4 : ∃ n, MapI W ms n (setF l)
  le : B ≤ bo ∧ B ≤ ms
theorem FV.below {B bs bo bv ms : Nat} {l : List Int} {W W' : World} (g : FV B bs bo bv ms l W) (hb : Below W.heap.size W W') : FV B bs bo bv ms l W' := by
  obtain ⟨ov, h2, h3⟩ := g.h2
  obtain ⟨n, h4⟩ := g.h4
  exact ⟨g.h1.to hb, ⟨ov, h2.to hb, row_frT (ts := []) h3 (FrT.of_below hb) (by simp)⟩, g.h3.to hb, ⟨n, h4.keep (hb.block _ (heap_lt h4.is.choose_spec.choose_spec))⟩, g.le⟩
theorem MapI.frT {ts : List (Option TypeId)} {w w' : World} {b n : Nat} {f : Int → Option Value} (h : MapI w b n f) (hF : FrT ts w w') (h0 : none ∉ ts) : MapI w' b n f := by
  obtain ⟨es, c, h1, r⟩ := h
  exact ⟨es, c, hF _ _ h1 (NotT.map h0), r⟩
theorem FV.put {B bs bo bv ms : Nat} {l : List Int} {W : World} (g : FV B bs bo bv ms l W) (v : Int) : ∃ z, (Instr.mapUpdate 111 (.map (some ms)) (.int .i64 v) (.bool true)).run Tryz.prog W = .ok () z ∧ (∃ n, MapI z ms n (setF (l ++ [v]))) ∧ FrT [none] W z ∧ Below B W z := by
  obtain ⟨n, h⟩ := g.h4
  obtain ⟨z, h1, h2, h3⟩ := mapI_put (w := W) (et := 4) (mt := 111) (by kernel_rfl) h v (.bool true)
  refine ⟨z, h1, ⟨n + 1, ?_⟩, (FrT.refl _ W).kept h3 fun k e o ho hno => ?_, h3.below ?_ fun k e => ?_⟩
  · have : (fun j => if j = v then some (Value.bool true) else setF l j) = setF (l ++ [v]) := by
      funext j
      unfold setF
      by_cases hj : j = v
      · subst hj; simp
      · simp [hj]
    rw [this] at h2
    exact h2
  · obtain ⟨es, cl, hm⟩ := h.is
    have e : k = ms := e
    subst e
    rw [hm] at ho
    exact hno.2 (by simp) _ _ (Option.some.inj ho).symm
  · have := heap_lt h.is.choose_spec.choose_spec
    exact Nat.le_of_lt (Nat.lt_of_le_of_lt g.le.2 this)
  · have e : k = ms := e
    subst e; exact g.le.2
def Tm.zero : Tm := .mk 0 0 ⟨#[]⟩ ⟨false, [], []⟩ []
theorem TC.zero (w : World) : TC w .zero [.int .i64 0, .int .i64 0, .string ⟨#[]⟩, .bool false, .slice none 0 0, .slice none 0 0, .slice none 0 0] :=
  .mk 0 0 ⟨#[]⟩ ⟨false, [], []⟩ [] (.slice none 0 0) (.slice none 0 0) none 0 (fun _ => []) ⟨by decide, by decide⟩ ⟨by decide, by decide⟩ (by decide) (slk_nil _ _) (slk_nil _ _) ⟨Ok.nil, Ok.nil⟩ (Nat.le_refl _) (by decide) (fun h => by simp at h) (fun i h => by simp at h)
def lastOf (bs : List (Int × Tm)) : Nat → Int
  | 0 => -1
  | j + 1 => (bs.getD j (0, Tm.zero)).1
theorem lastOf_succ {bs : List (Int × Tm)} {j : Nat} (h : j < bs.length) : lastOf bs (j + 1) = (bs[j]).1 := by simp [lastOf, List.getD, h]
def Good (bs : List (Int × Tm)) : Prop := ∀ j (h : j < bs.length), lastOf bs j < (bs[j]).1 ∧ (bs[j]).2.check = 0
theorem Good.incr {bs : List (Int × Tm)} (h : Good bs) : Incr bs := by
  intro i j hi hj hij
  induction j with
  | zero => omega
  | succ j ih =>
    have h1 := (h (j + 1) hj).1
    rw [lastOf_succ (by omega)] at h1
    by_cases e : i = j
    · subst e; exact h1
    · have := ih (by omega) (by omega)
      omega
theorem Good.pos {bs : List (Int × Tm)} (h : Good bs) {j : Nat} (hj : j < bs.length) : 0 ≤ (bs[j]).1 := by
  induction j with
  | zero => have := (h 0 hj).1; simp only [lastOf] at this; omega
  | succ j ih =>
    have h1 := (h (j + 1) hj).1
    rw [lastOf_succ (by omega)] at h1
    have := ih (by omega)
    omega
theorem fnd_mem {bs : List (Int × Tm)} {v : Int} {x : Tm} (h : fnd bs v = some x) : ∃ j, ∃ hj : j < bs.length, (bs[j]).2 = x := by
  unfold fnd at h
  rw [Option.map_eq_some_iff] at h
  obtain ⟨p, hp, rfl⟩ := h
  obtain ⟨j, hj, e⟩ := List.getElem_of_mem (List.mem_of_find?_eq_some hp)
  exact ⟨j, hj, by rw [e]⟩
theorem Good.fnd {bs : List (Int × Tm)} (h : Good bs) {v : Int} {x : Tm} (hx : fnd bs v = some x) : x.err0 = 0 ∧ x.count ≤ 10000 := by
  obtain ⟨j, hj, rfl⟩ := fnd_mem hx
  have := check_err0 (h j hj).2
  exact ⟨this.2, this.1⟩
mutual
def Tm.allV (P : Int → Prop) : Tm → Prop
  | .mk k v _ _ args => (k = 1 → P v) ∧ allVL P args
def allVL (P : Int → Prop) : List Tm → Prop
  | [] => True
  | t :: l => t.allV P ∧ allVL P l
end
mutual
theorem Tm.allV_mono {P Q : Int → Prop} (h : ∀ v, P v → Q v) : ∀ (t : Tm), t.allV P → t.allV Q
  | .mk k v s n args, ht => by
    rw [Tm.allV] at ht ⊢
    exact ⟨fun e => h _ (ht.1 e), allVL_mono h args ht.2⟩
theorem allVL_mono {P Q : Int → Prop} (h : ∀ v, P v → Q v) : ∀ (l : List Tm), allVL P l → allVL Q l
  | [], _ => by rw [allVL]; trivial
  | t :: l, ht => by
    rw [allVL] at ht ⊢
    exact ⟨t.allV_mono h ht.1, allVL_mono h l ht.2⟩
end
mutual
theorem Tm.free_sub : ∀ (t : Tm) (l : List Int), ∀ v, v ∈ l → v ∈ t.free l
  | .mk k v s n args, l => fun u hu => by
    rw [Tm.free]
    refine freeL_sub args _ u ?_
    split
    · exact List.mem_append_left _ hu
    · exact hu
theorem freeL_sub : ∀ (ts : List Tm) (l : List Int), ∀ v, v ∈ l → v ∈ freeL ts l
  | [], l => fun u hu => by rw [freeL]; exact hu
  | t :: ts, l => fun u hu => by rw [freeL]; exact freeL_sub ts _ u (t.free_sub l u hu)
end
mutual
theorem Tm.allV_free : ∀ (t : Tm) (l : List Int), t.allV (· ∈ t.free l)
  | .mk k v s n args, l => by
    rw [Tm.allV, Tm.free]
    refine ⟨fun e => freeL_sub args _ v ?_, allVL_free args _⟩
    split
    · exact List.mem_append_right _ (List.mem_singleton.2 rfl)
    · next h => exact Classical.byContradiction fun h2 => h ⟨e, h2⟩
theorem allVL_free : ∀ (ts : List Tm) (l : List Int), allVL (· ∈ freeL ts l) ts
  | [], l => by rw [allVL]; trivial
  | t :: ts, l => by
    rw [allVL, freeL]
    exact ⟨t.allV_mono (fun v hv => freeL_sub ts _ v hv) (t.allV_free l), allVL_free ts _⟩
end
theorem var_err0 {v : Int} (h0 : 0 ≤ v) (h1 : v ≤ 1073741824) : (Tm.var v).err0 = 0 := by
  rw [Tm.var, Tm.err0]
  have := var_node h0 h1 (LN.err ⟨false, [], []⟩)
  simp only [List.length_nil]
  rw [if_pos this, errL]
mutual
theorem Tm.err0_repl {f : Int → Option Tm} : ∀ (t : Tm), t.err0 = 0 → t.allV (fun v => ∀ x, f v = some x → x.err0 = 0) → (t.repl f).err0 = 0
  | .mk k v s n args, h, hv => by
    obtain ⟨h1, h2⟩ := err0_node h
    rw [Tm.allV] at hv
    have h3 := errL_repl args h2 hv.2
    have h4 : (Tm.mk k v s n (replL f args)).err0 = 0 := by rw [Tm.err0, replL_len, if_pos h1]; exact h3
    rw [Tm.repl]
    split
    · next hk =>
      cases hx : f v with
      | none => exact h4
      | some x => exact hv.1 hk x hx
    · exact h4
theorem errL_repl {f : Int → Option Tm} : ∀ (l : List Tm), errL l = 0 → allVL (fun v => ∀ x, f v = some x → x.err0 = 0) l → errL (replL f l) = 0
  | [], _, _ => by rw [replL, errL]
  | t :: l, h, hv => by
    rw [allVL] at hv
    have h0 := errL_get h (j := 0) (by simp)
    simp only [List.getElem_cons_zero] at h0
    rw [errL, if_pos h0] at h
    rw [replL, errL, t.err0_repl h0 hv.1, if_pos rfl]
    exact errL_repl l h hv.2
end
theorem count_repl_one {f : Int → Option Tm} (hf : ∀ v x, f v = some x → x.count = 1) (t : Tm) (h : t.err0 = 0) : (t.repl f).count = t.count := by
  have h1 : ∀ t : Tm, t.grow f = 0 := by
    intro t
    induction t using Tm.rec (motive_2 := fun l => growL f l = 0) with
    | mk k v s n args ih =>
      rw [Tm.grow, ih]
      split
      · cases hx : f v with
        | none => rfl
        | some x => simp only [hf v x hx]
      · rfl
    | nil => rw [growL]
    | cons t l h1 h2 => rw [growL, h1, h2]
  rw [t.count_repl f (t.bare_of h), h1 t, Nat.add_zero]
inductive ApplyR (t : Tm) (bs : List (Int × Tm)) : Tm → Int → Prop
  | bad (h : t.check ≠ 0) : ApplyR t bs .zero t.check
  | form (h : t.check = 0) (h2 : ¬ Good bs) : ApplyR t bs .zero 2
  | size (h : t.check = 0) (h2 : Good bs) (h3 : 10000 < (t.repl (fnd bs)).count) : ApplyR t bs .zero 3
  | ok (h : t.check = 0) (h2 : Good bs) (h3 : (t.repl (fnd bs)).count ≤ 10000) : ApplyR t bs (t.repl (fnd bs)) 0
def Tm.okz (t : Tm) : Prop := t = .zero ∨ (t.err0 = 0 ∧ t.count ≤ 10000)
theorem ApplyR.okz {t : Tm} {bs : List (Int × Tm)} {x : Tm} {e : Int} (h : ApplyR t bs x e) : x.okz := by
  cases h with
  | bad h => exact .inl rfl
  | form h h2 => exact .inl rfl
  | size h h2 h3 => exact .inl rfl
  | ok h h2 h3 =>
    refine .inr ⟨t.err0_repl (check_err0 h).2 (t.allV_mono (P := fun _ => True) (fun v _ x hx => (h2.fnd hx).1) ?_), h3⟩
    exact Tm.allV_mono (fun _ _ => trivial) _ (t.allV_free [])
theorem ApplyR.one {t : Tm} {bs : List (Int × Tm)} {x y : Tm} {e g : Int} (h : ApplyR t bs x e) (h' : ApplyR t bs y g) : x = y ∧ e = g := by
  cases h with
  | bad h => cases h' with
    | bad _ => exact ⟨rfl, rfl⟩
    | form h2 _ => exact absurd h2 h
    | size h2 _ _ => exact absurd h2 h
    | ok h2 _ _ => exact absurd h2 h
  | form h h2 => cases h' with
    | bad h3 => exact absurd h h3
    | form _ _ => exact ⟨rfl, rfl⟩
    | size _ h4 _ => exact absurd h4 h2
    | ok _ h4 _ => exact absurd h4 h2
  | size h h2 h3 => cases h' with
    | bad h5 => exact absurd h h5
    | form _ h4 => exact absurd h2 h4
    | size _ _ _ => exact ⟨rfl, rfl⟩
    | ok _ _ h4 => omega
  | ok h h2 h3 => cases h' with
    | bad h5 => exact absurd h h5
    | form _ h4 => exact absurd h2 h4
    | size _ _ h4 => omega
    | ok _ _ _ => exact ⟨rfl, rfl⟩
def Far (t : Tm) (by_ : Int) : Prop := by_ < 0 ∨ ∃ v, v ∈ t.free [] ∧ 1073741824 - by_ < v
inductive RenameR (t : Tm) (by_ : Int) : Tm → Int → Prop
  | bad (h : t.check ≠ 0) : RenameR t by_ .zero t.check
  | arg (h : t.check = 0) (h2 : Far t by_) : RenameR t by_ .zero 1
  | ok (h : t.check = 0) (h2 : ¬ Far t by_) : RenameR t by_ (t.repl fun v => some (.var (v + by_))) 0
theorem free_valid {t : Tm} : t.err0 = 0 → t.allV (fun v => 0 ≤ v ∧ v ≤ 1073741824) := by
  induction t using Tm.rec (motive_2 := fun l => errL l = 0 → allVL (fun v => 0 ≤ v ∧ v ≤ 1073741824) l) with
  | mk k v s n args ih =>
    intro h
    obtain ⟨h1, h2⟩ := err0_node h
    rw [Tm.allV]
    refine ⟨fun hk => ?_, ih h2⟩
    rcases node_parts h1 with ⟨h5, _⟩ | ⟨_, hng, ha, hb, h6⟩
    · omega
    rcases h6 with h6 | h6 | h6 | h6
    · exact ⟨h6.2.1, h6.2.2.1⟩
    · omega
    · omega
    · omega
  | nil => rw [allVL]; trivial
  | cons t l h1 h2 =>
    rename_i h
    have h0 := errL_get h (j := 0) (by simp)
    simp only [List.getElem_cons_zero] at h0
    rw [errL, if_pos h0] at h
    rw [allVL]
    exact ⟨h1 h0, h2 h⟩
mutual
theorem Tm.allV_and {P Q : Int → Prop} : ∀ (t : Tm), t.allV P → t.allV Q → t.allV (fun v => P v ∧ Q v)
  | .mk k v s n args, h, h' => by
    rw [Tm.allV] at h h' ⊢
    exact ⟨fun e => ⟨h.1 e, h'.1 e⟩, allVL_and args h.2 h'.2⟩
theorem allVL_and {P Q : Int → Prop} : ∀ (l : List Tm), allVL P l → allVL Q l → allVL (fun v => P v ∧ Q v) l
  | [], _, _ => by rw [allVL]; trivial
  | t :: l, h, h' => by
    rw [allVL] at h h' ⊢
    exact ⟨t.allV_and h.1 h'.1, allVL_and l h.2 h'.2⟩
end
theorem RenameR.okz {t : Tm} {by_ : Int} {x : Tm} {e : Int} (h : RenameR t by_ x e) : x.okz := by
  cases h with
  | bad h => exact .inl rfl
  | arg h h2 => exact .inl rfl
  | ok h h2 =>
    obtain ⟨hc, he⟩ := check_err0 h
    refine .inr ⟨t.err0_repl he (Tm.allV_mono (fun v hv x hx => ?_) t (t.allV_and (t.allV_free []) (free_valid he))), ?_⟩
    · cases hx
      unfold Far at h2
      refine var_err0 ?_ ?_
      · have h3 : ¬ by_ < 0 := fun h3 => h2 (.inl h3)
        have := hv.2.1
        omega
      · have h3 : ¬ 1073741824 - by_ < v := fun h3 => h2 (.inr ⟨v, hv.1, h3⟩)
        omega
    · rw [count_repl_one (fun v x hx => ?_) t he]
      · exact hc
      · cases hx; rw [Tm.var, Tm.count, countL]
theorem RenameR.one {t : Tm} {by_ : Int} {x y : Tm} {e g : Int} (h : RenameR t by_ x e) (h' : RenameR t by_ y g) : x = y ∧ e = g := by
  cases h with
  | bad h => cases h' with
    | bad _ => exact ⟨rfl, rfl⟩
    | arg h2 _ => exact absurd h2 h
    | ok h2 _ => exact absurd h2 h
  | arg h h2 => cases h' with
    | bad h3 => exact absurd h h3
    | arg _ _ => exact ⟨rfl, rfl⟩
    | ok _ h4 => exact absurd h2 h4
  | ok h h2 => cases h' with
    | bad h5 => exact absurd h h5
    | arg _ h4 => exact absurd h4 h2
    | ok _ _ => exact ⟨rfl, rfl⟩
def Tm.shp (t : Tm) : List UInt8 := match t with
  | .mk k v s n args => if k = 0 then [] else (Tm.mk k v s n args).shapeL
theorem shape_fine {w : World} {t : Tm} {cs : List Value} (h : TC w t cs) (hf : t.okz) (W : World) (hW : Below w.heap.size w W) :
    Calls Tryz.prog 10 #[.agg cs.toArray] W fun e W' => e = .returned (.string ⟨t.shp.toArray⟩) ∧ Below W.heap.size W W' := by
  rcases hf with rfl | ⟨h1, h2⟩
  · obtain ⟨k, v, s, ng, A1, n1, c1, B1, m1, d1, Ar, l, cap, hcs⟩ := h.form
    subst hcs
    have hk : k = 0 := by cases h; rfl
    subst hk
    have hz : (⟨Tm.zero.shp.toArray⟩ : ByteArray) = ⟨#[]⟩ := by rfl
    rw [hz]
    clear h hW hz
    go_enter Tryz.func10, Tryz.ntmps10
    go_wp2_with fail
    go_ret
    exact ⟨rfl, below_one W _⟩
  · have hs : t.shp = t.shapeL := by
      cases t with
      | mk k v s n args =>
        have hk0 : k ≠ 0 := by
          rcases node_parts (err0_node h1).1 with ⟨rfl, _⟩ | ⟨_, _, _, _, ⟨rfl, _⟩ | ⟨rfl, _⟩ | ⟨rfl, _⟩ | ⟨rfl, _⟩⟩ <;> decide
        simp only [Tm.shp, if_neg hk0]
    rw [hs]
    exact lawShape_any h h1 h2 W hW
def SlP (p : Nat → Prop) (w : World) (v : Value) (xs : List Nat) : Prop :=
  ∃ A c, v = .slice A xs.length c ∧ xs.length ≤ c ∧ c ≤ maxLen ∧ (0 < xs.length → ∃ b o, A = some ⟨b, o, none⟩ ∧ p b ∧ b < w.heap.size ∧ ∀ i, i < xs.length → w.cell? ⟨b, o + i, none⟩ = some (.int .u32 ((xs.getD i 0 : Nat) : Int)))
theorem SlP.sl {p : Nat → Prop} {w : World} {v : Value} {xs : List Nat} (h : SlP p w v xs) : Sl .u32 w v xs := by
  obtain ⟨A, c, e, h1, h2, h3⟩ := h
  exact ⟨A, c, e, h1, h2, rfl, fun h0 => by obtain ⟨b, o, e, _, hb, hc⟩ := h3 h0; exact ⟨b, o, e, hb, hc⟩⟩
theorem SlP.of_sl {w : World} {v : Value} {xs : List Nat} (h : Sl .u32 w v xs) : SlP (fun b => b < w.heap.size) w v xs := by
  obtain ⟨A, c, e, h1, h2, _, h3⟩ := h
  exact ⟨A, c, e, h1, h2, fun h0 => by obtain ⟨b, o, e, hb, hc⟩ := h3 h0; exact ⟨b, o, e, hb, hb, hc⟩⟩
theorem SlP.of_own {B T : Nat} {w : World} {v : Value} {xs : List Nat} (h : OwnV .u32 T w B v xs) : SlP (fun b => B ≤ b) w v xs := by
  obtain ⟨A, c, e, h1, h2, _, h3⟩ := h.sl
  refine ⟨A, c, e, h1, h2, fun h0 => ?_⟩
  obtain ⟨b, o, e2, hb, hc⟩ := h3 h0
  subst e e2
  exact ⟨b, o, rfl, (Go.World.ownsRow.lt h b rfl).1, hb, hc⟩
theorem SlP.to {p : Nat → Prop} {w w' : World} {v : Value} {xs : List Nat} (h : SlP p w v xs) (hs : w.heap.size ≤ w'.heap.size) (hb : ∀ b, p b → b < w.heap.size → w'.heap[b]? = w.heap[b]?) : SlP p w' v xs := by
  obtain ⟨A, c, e, h1, h2, h3⟩ := h
  exact ⟨A, c, e, h1, h2, fun h0 => by
    obtain ⟨b, o, e, hp, hlt, hc⟩ := h3 h0
    exact ⟨b, o, e, hp, Nat.lt_of_lt_of_le hlt hs, fun i hi => (World.cell?_of_block (a := ⟨b, o + i, none⟩) (hb b hp hlt)).trans (hc i hi)⟩⟩
theorem SlP.mono {p q : Nat → Prop} {w : World} {v : Value} {xs : List Nat} (h : SlP p w v xs) (hpq : ∀ b, p b → b < w.heap.size → q b) : SlP q w v xs := by
  obtain ⟨A, c, e, h1, h2, h3⟩ := h
  exact ⟨A, c, e, h1, h2, fun h0 => by
    obtain ⟨b, o, e, hp, hlt, hc⟩ := h3 h0
    exact ⟨b, o, e, hpq b hp hlt, hlt, hc⟩⟩
theorem SlP.nil_ (p : Nat → Prop) (w : World) : SlP p w (.slice none 0 0) [] := ⟨none, 0, rfl, Nat.le_refl _, by unfold maxLen; omega, fun h => absurd h (by simp)⟩
inductive TCP (p : Nat → Prop) (w : World) : Tm → List Value → Prop
  | mk (k v : Int) (s : ByteArray) (n : LN) (args : List Tm) (A B : Value) (Ar : Option Addr) (cap : Nat) (cs : Nat → List Value)
    (hk : i64ok k) (hv : i64ok v) (hs : s.size ≤ maxLen) (hA : SlP p w A n.num) (hB : SlP p w B n.den) (hn : n.ok)
    (hcap : args.length ≤ cap) (hm : cap ≤ maxLen)
    (hr : 0 < args.length → ∃ b o, Ar = some ⟨b, o, none⟩ ∧ p b ∧ b < w.heap.size ∧ ∀ i, i < args.length → ∀ j, j < 7 → w.cell? ⟨b, o + i * 7 + j, none⟩ = (cs i)[j]?)
    (ha : ∀ i (h : i < args.length), TCP p w args[i] (cs i)) :
    TCP p w (.mk k v s n args) [.int .i64 k, .int .i64 v, .string s, .bool n.neg, A, B, .slice Ar args.length cap]
theorem TCP.tc {p : Nat → Prop} {w : World} {t : Tm} {cs : List Value} (h : TCP p w t cs) : TC w t cs := by
  induction h with
  | mk k v s n args A C Ar cap cs hk hv hs hA hC hn hcap hm hr ha ih =>
    exact .mk k v s n args A C Ar cap cs hk hv hs hA.sl hC.sl hn hcap hm (fun h0 => by obtain ⟨b, o, e, _, hlt, hc⟩ := hr h0; exact ⟨b, o, e, hlt, hc⟩) ih
theorem TCP.of_tc {w : World} {t : Tm} {cs : List Value} (h : TC w t cs) : TCP (fun b => b < w.heap.size) w t cs := by
  induction h with
  | mk k v s n args A C Ar cap cs hk hv hs hA hC hn hcap hm hr ha ih =>
    exact .mk k v s n args A C Ar cap cs hk hv hs (.of_sl hA) (.of_sl hC) hn hcap hm (fun h0 => by obtain ⟨b, o, e, hlt, hc⟩ := hr h0; exact ⟨b, o, e, hlt, hlt, hc⟩) ih
theorem TCP.of_tcf {B : Nat} {w : World} {t : Tm} {cs : List Value} (h : TCF B w t cs) : TCP (fun b => B ≤ b) w t cs := by
  induction h with
  | mk k v s n args A C Ar cap cs hk hv hs hA hC hn hcap hm hr ha ih =>
    exact .mk k v s n args A C Ar cap cs hk hv hs (.of_own hA) (.of_own hC) hn hcap hm (fun h0 => by obtain ⟨b, o, e, hB, hlt, _, hc⟩ := hr h0; exact ⟨b, o, e, hB, hlt, hc⟩) ih
theorem TCP.to {p : Nat → Prop} {w w' : World} {t : Tm} {cs : List Value} (h : TCP p w t cs) (hs : w.heap.size ≤ w'.heap.size) (hb : ∀ b, p b → b < w.heap.size → w'.heap[b]? = w.heap[b]?) : TCP p w' t cs := by
  induction h with
  | mk k v s n args A C Ar cap cs hk hv hs' hA hC hn hcap hm hr ha ih =>
    refine .mk k v s n args A C Ar cap cs hk hv hs' (hA.to hs hb) (hC.to hs hb) hn hcap hm (fun h0 => ?_) ih
    obtain ⟨b, o, e, hp, hlt, hc⟩ := hr h0
    exact ⟨b, o, e, hp, Nat.lt_of_lt_of_le hlt hs, fun i hi j hj => (World.cell?_of_block (a := ⟨b, o + i * 7 + j, none⟩) (hb b hp hlt)).trans (hc i hi j hj)⟩
theorem TCP.mono {p q : Nat → Prop} {w : World} {t : Tm} {cs : List Value} (h : TCP p w t cs) (hpq : ∀ b, p b → b < w.heap.size → q b) : TCP q w t cs := by
  induction h with
  | mk k v s n args A C Ar cap cs hk hv hs' hA hC hn hcap hm hr ha ih =>
    refine .mk k v s n args A C Ar cap cs hk hv hs' (hA.mono hpq) (hC.mono hpq) hn hcap hm (fun h0 => ?_) ih
    obtain ⟨b, o, e, hp, hlt, hc⟩ := hr h0
    exact ⟨b, o, e, hpq b hp hlt, hlt, hc⟩
theorem TCP.onto {p : Nat → Prop} {w w' : World} {t : Tm} {cs : List Value} (h : TCP p w t cs) (hb : Below w.heap.size w w') : TCP p w' t cs := h.to hb.size fun b _ hlt => hb.block b hlt
theorem TCP.drew {p : Nat → Prop} {w : World} {t : Tm} {cs : List Value} (h : TCP p w t cs) : TCP p w.drew t cs := h.to (Nat.le_refl _) fun _ _ _ => rfl
theorem TCP.store {O : Nat} {w : World} {t : Tm} {cs : List Value} (h : TCP (fun b => b ≠ O) w t cs) (i : Nat) (u : Value) : TCP (fun b => b ≠ O) (w.setCell ⟨O, i, none⟩ u) t cs :=
  h.to (by simp [World.setCell]) fun b hb _ => Below.heap_setCell w ⟨O, i, none⟩ u b hb
theorem TCP.form {p : Nat → Prop} {w : World} {t : Tm} {cs : List Value} (h : TCP p w t cs) : ∃ k v s ng A1 n1 c1 B1 m1 d1 Xr l cap, cs = [.int .i64 k, .int .i64 v, .string s, .bool ng, .slice A1 n1 c1, .slice B1 m1 d1, .slice Xr l cap] := h.tc.form
theorem TCP.cell {p : Nat → Prop} {W : World} {b : Nat} {x r : Tm} {k0 v0 k1 v1 : Int} {s0 s1 : ByteArray} {n0 n1 : Bool} {p0 p1 p2 q0 q1 q2 : Value}
    (h : Blk W b 27 #[.int .i64 k0, .int .i64 v0, .string s0, .bool n0, p0, p1, p2, .int .i64 k1, .int .i64 v1, .string s1, .bool n1, q0, q1, q2]) (hp : p b)
    (hx : TCP p W x [.int .i64 k0, .int .i64 v0, .string s0, .bool n0, p0, p1, p2]) (hr : TCP p W r [.int .i64 k1, .int .i64 v1, .string s1, .bool n1, q0, q1, q2]) :
    TCP p W (.cell x r) (ccell b) :=
  .mk 5 0 ⟨#[46]⟩ ⟨false, [], []⟩ [x, r] (.slice none 0 0) (.slice none 0 0) (some ⟨b, 0, none⟩) 2 (fun i => if i = 0 then [.int .i64 k0, .int .i64 v0, .string s0, .bool n0, p0, p1, p2] else [.int .i64 k1, .int .i64 v1, .string s1, .bool n1, q0, q1, q2]) ⟨by decide, by decide⟩ ⟨by decide, by decide⟩ (by decide) (.nil_ p W) (.nil_ p W) ⟨Ok.nil, Ok.nil⟩ (Nat.le_refl _) (by decide)
    (fun _ => ⟨b, 0, rfl, hp, h.lt, fun i hi j hj => by
      have hi : i < 2 := hi
      rw [h.cell]
      have h01 : i = 0 ∨ i = 1 := by omega
      have h07 : j = 0 ∨ j = 1 ∨ j = 2 ∨ j = 3 ∨ j = 4 ∨ j = 5 ∨ j = 6 := by omega
      rcases h01 with rfl | rfl <;> rcases h07 with rfl | rfl | rfl | rfl | rfl | rfl | rfl <;> rfl⟩)
    (fun i hi => by
      have hi : i < 2 := hi
      have : i = 0 ∨ i = 1 := by omega
      rcases this with rfl | rfl
      · exact hx
      · exact hr)
end Go.Proofs.YtkfnpcilanheiaaGreat
namespace Go.Proofs.YtkfnpcilanheiaaGreat
open Go.RowKit NumB
theorem TCP.kept {R O : Nat} {w w' : World} {t : Tm} {cs : List Value} (h : TCP (fun b => R < b ∧ b ≠ O) w t cs) (hk : Kept (fun k => k = O) w w') : TCP (fun b => R < b ∧ b ≠ O) w' t cs :=
  h.to hk.size fun b hb hlt => hk.block b hlt hb.2
def LInv (w : World) (R O : Nat) (x r : Tm) (o0 o1 o2 o3 o4 o5 o6 : Value) (L : Nat → Bool) (s20 s21 s22 s23 : Value) (W : World) : Prop :=
  Kept (fun k => k = O) w W ∧ TCP (fun b => R < b ∧ b ≠ O) W r [o0, o1, o2, o3, o4, o5, o6] ∧ (L 8 = false → Blk W O 27 #[o0, o1, o2, o3, o4, o5, o6]) ∧
  (L 4 = true → ∃ k v s ng A1 n1 c1 B1 m1 d1 Xr l cap, s20 = .agg #[.int .i64 k, .int .i64 v, .string s, .bool ng, .slice A1 n1 c1, .slice B1 m1 d1, .slice Xr l cap] ∧ TCP (fun b => R < b ∧ b ≠ O) W x [.int .i64 k, .int .i64 v, .string s, .bool ng, .slice A1 n1 c1, .slice B1 m1 d1, .slice Xr l cap]) ∧
  (L 5 = true → s21 = .agg #[o0, o1, o2, o3, o4, o5, o6]) ∧
  (L 6 = true → L 5 = true ∧ ∃ g, s22 = .slice (some ⟨g, 0, none⟩) 2 2 ∧ TCP (fun b => R < b ∧ b ≠ O) W (.cell x r) (ccell g)) ∧
  (L 7 = true → L 6 = true ∧ s23 = .agg #[.int .i64 5, .int .i64 0, .string ⟨#[46]⟩, .bool false, .slice none 0 0, .slice none 0 0, s22]) ∧
  (L 8 = true → L 7 = true ∧ Blk W O 27 #[.int .i64 5, .int .i64 0, .string ⟨#[46]⟩, .bool false, .slice none 0 0, .slice none 0 0, s22])
section
variable {w W W2 : World} {R O : Nat} {x r : Tm} {o0 o1 o2 o3 o4 o5 o6 : Value} {L : Nat → Bool} {s20 s21 s22 s23 : Value}
theorem LInv.init (h2 : TCP (fun b => R < b ∧ b ≠ O) w r [o0, o1, o2, o3, o4, o5, o6]) (h3 : Blk w O 27 #[o0, o1, o2, o3, o4, o5, o6]) (hL : ∀ i, 4 ≤ i → L i = false) : LInv w R O x r o0 o1 o2 o3 o4 o5 o6 L s20 s21 s22 s23 w := by
  refine ⟨Kept.refl _ _, h2, fun _ => h3, ?_, ?_, ?_, ?_, ?_⟩ <;> (intro h; exact absurd ((hL _ (by omega)).symm.trans h) (by simp))
theorem LInv.done (h : LInv w R O x r o0 o1 o2 o3 o4 o5 o6 L s20 s21 s22 s23 W) (hall : ∀ i, i < 9 → L i = true) :
    Kept (fun k => k = O) w W ∧ ∃ g, s22 = .slice (some ⟨g, 0, none⟩) 2 2 ∧ TCP (fun b => R < b ∧ b ≠ O) W (.cell x r) (ccell g) ∧ Blk W O 27 #[.int .i64 5, .int .i64 0, .string ⟨#[46]⟩, .bool false, .slice none 0 0, .slice none 0 0, s22] := by
  obtain ⟨h1, h2, h3, h4, h5, h6, h7, h8⟩ := h
  obtain ⟨_, g, e, ht⟩ := h6 (hall 6 (by omega))
  exact ⟨h1, g, e, ht, (h8 (hall 8 (by omega))).2⟩
end
theorem blk_2nd (w : World) (o : Obj) {T : TypeId} (cs : Array Value) : Blk ((w.alloc o).alloc (.cells cs T)) (w.heap.size + 1) T cs := by
  have h := Blk.new (w.alloc o) T cs
  rwa [show (w.alloc o).heap.size = w.heap.size + 1 by simp] at h
def Tm.rest : Tm → Prop
  | .mk k _ s _ args => ¬ (k = 5 ∧ s.toList = [46] ∧ args.length = 2)
end Go.Proofs.YtkfnpcilanheiaaGreat
