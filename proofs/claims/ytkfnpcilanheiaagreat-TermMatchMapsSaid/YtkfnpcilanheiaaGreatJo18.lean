/- strings.Builder at this dump: copyCheck, WriteByte, WriteString, String, of a builder whose content does not matter. And 3 more texts. -/
import Derived.Test.YtkfnpcilanheiaaGreatShelf
import Derived.Lib.FrozenHead2
import Derived.Lib.Builder
import Derived.Lib.AppendStr
import Derived.Lib.UnsafeStr
import Derived.Lib.OthersKept
import Derived.Laws.Externs
import Derived.WideKeyElems
import Derived.LaidEqlPtr
import Derived.DeepKeys3
import Derived.Carry
import Derived.Test.YtkfnpcilanheiaaGreatJo7
import Derived.Test.YtkfnpcilanheiaaGreatJo8
set_option linter.unusedVariables false
set_option linter.unusedSimpArgs false
set_option maxRecDepth 100000
namespace Go.Proofs.YtkfnpcilanheiaaGreat
open Go.RowKit NumB Go.Proofs
theorem info_builder : (Tryz.prog.info? 276).map (fun i => i.size) = some 2 := by kernel_rfl
theorem info_byteT : (Tryz.prog.info? 5).map (fun i => (i.zero, i.size, i.bytes)) = some (some (.int .u8 0), 1, 1) := by kernel_rfl
set_option maxHeartbeats 1000000 in
theorem copyCheck_used (b : Nat) (w : World) (h0 : w.cell? ⟨b, 0, none⟩ = some (.pointer (some ⟨b, 0, none⟩))) :
    Calls Tryz.prog 296 #[.pointer (some ⟨b, 0, none⟩)] w fun e w' => e = .returned (.tuple #[]) ∧ w' = w := by
  obtain ⟨j, hj, _⟩ := Option.map_eq_some_iff.1 info_builder
  go_enter Tryz.func296, Tryz.ntmps296
  go_wp2_with fail
  rw [Lib.run_neq_ptr_same w _ Tryz.underlying274 hj]
  go_wp2_with fail
  unfold bodyPost
  refine ⟨rfl, .tuple #[], ?_, rfl, rfl⟩
  simp [results, Tryz.f296]
set_option maxHeartbeats 1000000 in
theorem copyCheck_fresh (b : Nat) (w : World) (h0 : w.cell? ⟨b, 0, none⟩ = some (.pointer none)) (hsh : w.shape? b = some (276, 2)) (hfz : w.frozen? ⟨b, 0, none⟩ = false) :
    Calls Tryz.prog 296 #[.pointer (some ⟨b, 0, none⟩)] w fun e w' => e = .returned (.tuple #[]) ∧ w' = w.setCell ⟨b, 0, none⟩ (.pointer (some ⟨b, 0, none⟩)) := by
  obtain ⟨j, hj, hjs⟩ := Option.map_eq_some_iff.1 info_builder
  go_enter Tryz.func296, Tryz.ntmps296
  go_wp2_with fail
  rw [Lib.run_to_unsafe w ⟨b, 0, none⟩ Tryz.underlying274 Tryz.underlying293 hj (by rw [hjs]; decide) hsh (Nat.zero_lt_succ 1)]
  simp only [Result.andThen]
  rw [Oper.upon_value]
  go_wp2_with fail
  rw [run_callFunc_extern Tryz.func297 (by kernel_rfl) (by kernel_rfl) (by kernel_rfl) (e := Extern.AbiNoEscape.same) (by kernel_rfl)]
  rw [Lib.run_noEscape]
  simp only [Result.andThen]
  rw [Oper.upon_value]
  go_wp2_with fail
  rw [Lib.run_from_unsafe w ⟨b, 0, none⟩ Tryz.underlying293 Tryz.underlying274 hj hsh (by kernel_rfl)]
  simp only [Result.andThen]
  rw [Oper.upon_value]
  go_wp2_with fail
  unfold bodyPost
  refine ⟨rfl, .tuple #[], ?_, rfl, rfl⟩
  simp [results, Tryz.f296]
theorem copyCheck_any (B b : Nat) (bs : List Value) (w : World) (h : Lib.IsBuilderF 276 5 B b bs w) :
    Calls Tryz.prog 296 #[.pointer (some ⟨b, 0, none⟩)] w fun e w' => e = .returned (.tuple #[]) ∧ Lib.BuilderAtF 276 5 B b (.pointer (some ⟨b, 0, none⟩)) bs w' ∧ Below B w w' ∧ Lib.OthersKept 5 (some b) w w' := by
  rcases h with h | h
  · refine (copyCheck_fresh b w h.cell0 h.shape h.frozen0).mono ?_
    rintro e w' ⟨rfl, rfl⟩
    exact ⟨rfl, h.used _, (Below.refl B w).setCell (p := ⟨b, 0, none⟩) h.1 _, (Lib.OthersKept.refl _ _ w).setCell ⟨b, 0, none⟩ rfl _⟩
  · refine (copyCheck_used b w h.cell0).mono ?_
    rintro e w' ⟨rfl, rfl⟩
    exact ⟨rfl, h, Below.refl B _, Lib.OthersKept.refl _ _ _⟩
def BD (w : World) (B b n : Nat) : Prop := ∃ l : List UInt8, l.length ≤ n ∧ Lib.IsBuilderF 276 5 B b (Lib.byteCells l) w
theorem byte_is {c : Int} (h0 : 0 ≤ c) (h1 : c ≤ 255) : ∃ u : UInt8, (Value.int .u8 c) = .int .u8 u.toNat := by
  refine ⟨UInt8.ofNat c.toNat, ?_⟩
  congr 1
  rw [UInt8.toNat_ofNat_of_lt' (by show c.toNat < 256; omega)]
  omega
set_option maxHeartbeats 2000000 in
theorem writeByte_any (B b n : Nat) (c : Int) (w : World) (h : BD w B b n) (h0 : 0 ≤ c) (h1 : c ≤ 255) (hlen : n ≤ 1000000000) (hBw : B ≤ w.heap.size) :
    Calls Tryz.prog 283 #[.pointer (some ⟨b, 0, none⟩), .int .u8 c] w fun e w' => e = .returned .nilIface ∧ BD w' B b (n + 1) ∧ Below B w w' ∧ Lib.OthersKept 5 (some b) w w' := by
  obtain ⟨l, hl, h⟩ := h
  obtain ⟨u8, hu8⟩ := byte_is h0 h1
  rw [hu8]
  clear hu8 h0 h1 c
  obtain ⟨bs, hbs⟩ : ∃ bs, Lib.byteCells l = bs := ⟨_, rfl⟩
  have hbl : bs.length ≤ n := by rw [← hbs, Lib.byteCells_length]; exact hl
  rw [hbs] at h
  have HF : Hid (∀ w', Lib.BuilderAtF 276 5 B b (.pointer (some ⟨b, 0, none⟩)) (bs ++ [.int .u8 u8.toNat]) w' → BD w' B b (n + 1)) := fun w' hw => ⟨l ++ [u8], by simp; omega, .inr (by
    have e : Lib.byteCells (l ++ [u8]) = bs ++ [.int .u8 u8.toNat] := by rw [← hbs]; simp [Lib.byteCells]
    rw [e]; exact hw)⟩
  clear hl hbs
  obtain ⟨i0, hi, hz0, hz1, hz2⟩ := info_parts info_byteT
  have HI := Lib.hid hi
  have HZ0 := Lib.hid hz0
  have HZ1 := Lib.hid hz1
  have HZ2 := Lib.hid hz2
  clear hi hz0 hz1 hz2
  have HCC := Lib.hid (copyCheck_any B b bs w h)
  clear h
  generalize hv8 : (Value.int .u8 u8.toNat) = v8 at *
  obtain ⟨z8, hz8⟩ : ∃ z : Int, v8 = .int .u8 z := ⟨_, hv8.symm⟩
  subst hz8
  clear hv8
  go_enter Tryz.func283, Tryz.ntmps283
  go_wp2_with fail
  refine HCC.out.mono ?_
  rintro e w1 ⟨rfl, h1, hb1, hk1⟩
  obtain ⟨hB, v, hbk, hown, hne⟩ := h1
  have c0 : w1.cell? ⟨b, 0, none⟩ = some (.pointer (some ⟨b, 0, none⟩)) := by rw [Lib.cell_of_heap hbk]; rfl
  have c1 : w1.cell? ⟨b, 1, none⟩ = some v := by rw [Lib.cell_of_heap hbk]; rfl
  go_wp2_with (at_builtin; refine wpList_append_ownF _ rfl _ _ 109 rfl B 5 i0 (.int .u8 0) 1 1 Tryz.underlying109 HI.out HZ0.out HZ1.out HZ2.out rfl (by decide) _ _ _ rfl (hown.alloc _) ⟨w1.heap.size, 0, none⟩ 1 1 [.int .u8 z8] rfl rfl ?c1 ?c2 ?c3 ?c4 ?c5 ?_)
  case c1 =>
    intro j u hj
    match j, hj with
    | 0, hj => simp at hj; subst hj; simp [Addr.add]
  case c2 => intro u hu; simp at hu; subst hu; rfl
  case c3 => unfold maxLen; omega
  case c4 => omega
  case c5 => have := hb1.size; simp; omega
  intro v' w2 hown' hgrow _
  have hlt : b < w1.heap.size := by
    rcases Nat.lt_or_ge b w1.heap.size with h' | h'
    · exact h'
    · simp [Array.getElem?_eq_none h'] at hbk
  have hb2 : w2.heap[b]? = some (.cells #[.pointer (some ⟨b, 0, none⟩), v] 276 (0, 0)) := by
    rw [hgrow.block b (by simp; omega) (fun e => hne e.symm), Lib.alloc_old w1 _ b hlt]
    exact hbk
  have d0 : w2.cell? ⟨b, 0, none⟩ = some (.pointer (some ⟨b, 0, none⟩)) := by rw [Lib.cell_of_heap hb2]; rfl
  have d1 : w2.cell? ⟨b, 1, none⟩ = some v := by rw [Lib.cell_of_heap hb2]; rfl
  have f1 : w2.frozen? ⟨b, 1, none⟩ = false := Lib.frozen_of_heap hb2 1
  obtain ⟨g, cap, rfl⟩ : ∃ g cap, v' = .slice (some ⟨g, 0, none⟩) (bs.length + 1) cap := by
    rcases hown'.2 with ⟨_, h0⟩ | ⟨g, cap, cur, fz, hv, _⟩
    · omega
    · exact ⟨g, cap, hv⟩
  go_wp2_with fail
  go_ret
  refine ⟨rfl, HF.out _ ?_, ?_, ((hk1.alloc _).grown hgrow (Lib.ownsRowF_kind (hown.alloc _))).setCell ⟨b, 1, none⟩ rfl _⟩
  · exact Lib.BuilderAtF.put (T := 276) (e := 5) hB hb2 (bs' := bs ++ [.int .u8 z8]) (by simpa using hown') (by decide)
  · exact ((hb1.alloc (by have := hb1.size; omega) _).grown hgrow (by have := hb1.size; simp; omega) (fun k hk => (hown.lt k hk).1)).setCell (p := ⟨b, 1, none⟩) hB _
set_option maxHeartbeats 2000000 in
theorem writeString_any (B b n : Nat) (s : ByteArray) (w : World) (h : BD w B b n) (hs : s.size ≤ 1000000000) (hlen : n ≤ 1000000000) (hBw : B ≤ w.heap.size) :
    Calls Tryz.prog 285 #[.pointer (some ⟨b, 0, none⟩), .string s] w fun e w' => e = .returned (.tuple #[.int .i64 s.size, .nilIface]) ∧ BD w' B b (n + s.size) ∧ Below B w w' ∧ Lib.OthersKept 5 (some b) w w' := by
  obtain ⟨l, hl, h⟩ := h
  obtain ⟨bs, hbs⟩ : ∃ bs, Lib.byteCells l = bs := ⟨_, rfl⟩
  have hbl : bs.length ≤ n := by rw [← hbs, Lib.byteCells_length]; exact hl
  rw [hbs] at h
  have HF : Hid (∀ w', Lib.BuilderAtF 276 5 B b (.pointer (some ⟨b, 0, none⟩)) (bs ++ Lib.strCells s) w' → BD w' B b (n + s.size)) := fun w' hw => ⟨l ++ s.data.toList, by simp; have : s.size = s.data.size := rfl; omega, .inr (by
    have e : Lib.byteCells (l ++ s.data.toList) = bs ++ Lib.strCells s := by rw [← hbs]; simp [Lib.byteCells, Lib.strCells]
    rw [e]; exact hw)⟩
  clear hl hbs
  obtain ⟨i0, hi, hz0, hz1, hz2⟩ := info_parts info_byteT
  have HI := Lib.hid hi
  have HZ0 := Lib.hid hz0
  have HZ1 := Lib.hid hz1
  have HZ2 := Lib.hid hz2
  clear hi hz0 hz1 hz2
  have HCC := Lib.hid (copyCheck_any B b bs w h)
  clear h
  go_enter Tryz.func285, Tryz.ntmps285
  go_wp2_with fail
  refine HCC.out.mono ?_
  rintro e w1 ⟨rfl, h1, hb1, hk1⟩
  obtain ⟨hB, v, hbk, hown, hne⟩ := h1
  have c0 : w1.cell? ⟨b, 0, none⟩ = some (.pointer (some ⟨b, 0, none⟩)) := by rw [Lib.cell_of_heap hbk]; rfl
  have c1 : w1.cell? ⟨b, 1, none⟩ = some v := by rw [Lib.cell_of_heap hbk]; rfl
  go_wp2_with (at_builtin; refine Lib.wpList_append_own_stringF _ rfl _ _ 109 9 rfl B 5 i0 Tryz.underlying109 Tryz.underlying9 HI.out HZ0.out HZ1.out HZ2.out _ _ _ rfl hown s rfl ?c3 ?c4 ?c5 ?_)
  case c3 => unfold maxLen; omega
  case c4 => omega
  case c5 => have := hb1.size; omega
  intro v' w2 hown' hgrow _
  have hlt : b < w1.heap.size := by
    rcases Nat.lt_or_ge b w1.heap.size with h' | h'
    · exact h'
    · simp [Array.getElem?_eq_none h'] at hbk
  have hb2 : w2.heap[b]? = some (.cells #[.pointer (some ⟨b, 0, none⟩), v] 276 (0, 0)) := by
    rw [hgrow.block b hlt (fun e => hne e.symm)]
    exact hbk
  have d0 : w2.cell? ⟨b, 0, none⟩ = some (.pointer (some ⟨b, 0, none⟩)) := by rw [Lib.cell_of_heap hb2]; rfl
  have d1 : w2.cell? ⟨b, 1, none⟩ = some v := by rw [Lib.cell_of_heap hb2]; rfl
  have f1 : w2.frozen? ⟨b, 1, none⟩ = false := Lib.frozen_of_heap hb2 1
  obtain ⟨ao, n', cap, rfl⟩ : ∃ ao n' cap, v' = .slice ao n' cap := by
    rcases hown'.2 with ⟨hv, _⟩ | ⟨g, cap, cur, fz, hv, _⟩
    · exact ⟨_, _, _, hv⟩
    · exact ⟨_, _, _, hv⟩
  go_wp2_with fail
  go_ret2
  refine ⟨rfl, HF.out _ ?_, ?_, (hk1.grown hgrow (Lib.ownsRowF_kind hown)).setCell ⟨b, 1, none⟩ rfl _⟩
  · exact Lib.BuilderAtF.put (T := 276) (e := 5) hB hb2 (bs' := bs ++ Lib.strCells s) (by simpa [Lib.strCells_length] using hown') (by decide)
  · exact (hb1.grown hgrow (by have := hb1.size; omega) (fun k hk => (hown.lt k hk).1)).setCell (p := ⟨b, 1, none⟩) hB _
theorem bString_any (B b n : Nat) (w : World) (h : BD w B b n) (hBw : B ≤ w.heap.size) :
    Calls Tryz.prog 286 #[.pointer (some ⟨b, 0, none⟩)] w fun e w' => ∃ s, e = .returned (.string s) ∧ BD w' B b n ∧ Below B w w' ∧ Lib.OthersKept 5 (some b) w w' := by
  obtain ⟨l, hl, h⟩ := h
  refine (Tryz.Builder_String_any_k B b l w h hBw).mono ?_
  rintro e w' ⟨rfl, h1, h2, h3⟩
  exact ⟨_, rfl, ⟨l, hl, h1⟩, h2, h3⟩
end Go.Proofs.YtkfnpcilanheiaaGreat
namespace Go.Proofs.YtkfnpcilanheiaaGreat
open Go.RowKit NumB
structure Keys (kt : TypeId) (KP : Value → Prop) (w : World) : Prop where
  check : ∀ (e : Bool) a, KP a → (Instr.checkKey e 10000 kt a).run Tryz.prog w = .ok () w
  equal : ∀ a b, KP a → KP b → ∃ r : Bool, (Op.equal kt a b).run Tryz.prog w = .ok r w ∧ (r = true → Instr.sameBits 10000 b a = true)
  und : ∃ d, Tryz.prog.underlying kt = some d
def MapK (KP VP : Value → Prop) (w : World) (b n : Nat) : Prop :=
  ∃ es clock, w.heap[b]? = some (.map es clock) ∧ es.size = n ∧ ∀ x ∈ es.toList, KP x.key ∧ VP x.val
theorem findNow_at {d : TypeDesc} {k : Value} : ∀ (es : List MapEntry) (i : Nat) (j : Nat) (v : Value), Instr.findNow d k es i = some (some (j, v)) → ∃ e, e ∈ es ∧ es[j - i]? = some e ∧ i ≤ j ∧ e.val = v ∧ Instr.sameNow d k e.key = some true := by
  intro es
  induction es with
  | nil => intro i j v h; simp [Instr.findNow] at h
  | cons e es ih =>
    intro i j v h
    unfold Instr.findNow at h
    split at h
    · next hs =>
      simp only [Option.some.injEq, Prod.mk.injEq] at h
      exact ⟨e, by simp, by simp [← h.1], by omega, h.2, hs⟩
    · obtain ⟨e', h1, h2, h3, h4, h5⟩ := ih _ _ _ h
      refine ⟨e', by simp [h1], ?_, by omega, h4, h5⟩
      rw [show j - i = (j - (i + 1)) + 1 by omega]
      simpa using h2
    · cases h
theorem bytes_eq {a b : ByteArray} (h : (a == b) = true) : a = b := by
  cases a with
  | mk a =>
    cases b with
    | mk b =>
      have h : (a == b) = true := h
      have e : a = b := by simpa using h
      rw [e]
theorem sameNow_bits {d : TypeDesc} {a b : Value} (h : Instr.sameNow d a b = some true) : Instr.sameBits 10000 b a = true := by
  unfold Instr.sameNow at h
  split at h
  · split at h
    · next hk => simp at h; subst hk h; simp [Instr.sameBits]
    · cases h
  · rename_i a b
    have h : (a == b) = true := Option.some.inj h
    have e : a = b := bytes_eq h
    subst e
    show (a == a) = true
    exact h
  · rename_i a b
    have h : (a == b) = true := Option.some.inj h
    have e : a = b := by simpa using h
    subst e
    show (a == a) = true
    exact h
  · cases h
theorem findAsking_any {kt : TypeId} {KP VP : Value → Prop} {w : World} (K : Keys kt KP w) {k : Value} (hk : KP k) : ∀ (es : List MapEntry), (∀ x ∈ es, KP x.key ∧ VP x.val) → ∀ i, ∃ r, (Instr.findAsking kt k es i).run Tryz.prog w = .ok r w ∧
    ∀ j v, r = some (j, v) → ∃ e, e ∈ es ∧ es[j - i]? = some e ∧ i ≤ j ∧ e.val = v ∧ Instr.sameBits 10000 e.key k = true := by
  intro es
  induction es with
  | nil => intro _ i; exact ⟨none, by simp [Instr.findAsking, Sem.run_pure], by simp⟩
  | cons e es ih =>
    intro hes i
    obtain ⟨r, hr, hr2⟩ := K.equal k e.key hk (hes e (by simp)).1
    cases r with
    | true => exact ⟨some (i, e.val), by simp [Instr.findAsking, Sem.run_bind, hr, Result.andThen_ok, Sem.run_pure], fun j v h => by
        simp only [Option.some.injEq, Prod.mk.injEq] at h
        exact ⟨e, by simp, by simp [← h.1], by omega, h.2, hr2 rfl⟩⟩
    | false =>
      obtain ⟨q, hq, hq2⟩ := ih (fun x hx => hes x (by simp [hx])) (i + 1)
      refine ⟨q, by simp [Instr.findAsking, Sem.run_bind, hr, Result.andThen_ok, hq], fun j v h => ?_⟩
      obtain ⟨e', h1, h2, h3, h4, h5⟩ := hq2 j v h
      refine ⟨e', by simp [h1], ?_, by omega, h4, h5⟩
      rw [show j - i = (j - (i + 1)) + 1 by omega]
      simpa using h2
theorem findKey_any {kt : TypeId} {KP VP : Value → Prop} {w : World} (K : Keys kt KP w) {k : Value} (hk : KP k) (es : List MapEntry) (hes : ∀ x ∈ es, KP x.key ∧ VP x.val) : ∃ r, (Instr.findKey kt k es).run Tryz.prog w = .ok r w ∧
    ∀ j v, r = some (j, v) → ∃ e, e ∈ es ∧ es[j]? = some e ∧ e.val = v ∧ Instr.sameBits 10000 e.key k = true := by
  obtain ⟨d, hd⟩ := K.und
  cases hf : Instr.findNow d k es 0 with
  | some r =>
    refine ⟨r, by simp [Instr.findKey, Sem.run_bind, run_underlying hd, Result.andThen_ok, hf, Sem.run_pure], fun j v h => ?_⟩
    subst h
    obtain ⟨e, h1, h2, _, h4, h5⟩ := findNow_at es 0 j v hf
    exact ⟨e, h1, by simpa using h2, h4, sameNow_bits h5⟩
  | none =>
    obtain ⟨r, hr, h2⟩ := findAsking_any K hk es hes 0
    refine ⟨r, by simp [Instr.findKey, Sem.run_bind, run_underlying hd, Result.andThen_ok, hf, hr], fun j v h => ?_⟩
    obtain ⟨e, h1, h2, _, h4, h5⟩ := h2 j v h
    exact ⟨e, h1, by simpa using h2, h4, h5⟩
theorem mapLook_any {kt et mt : TypeId} {KP VP : Value → Prop} {w : World} (K : Keys kt KP w) (hm : Tryz.prog.underlying mt = some (.map kt et)) {z : Value} (hz : (zeroValue et).run Tryz.prog w = .ok z w) (hzv : VP z) {k : Value} (hk : KP k) {b n : Nat} (hM : MapK KP VP w b n) :
    ∃ v ok, VP v ∧ (Instr.lookup mt (.map (some b)) k true).run Tryz.prog w = .ok (.tuple #[v, .bool ok]) w ∧ (Instr.lookup mt (.map (some b)) k false).run Tryz.prog w = .ok v w := by
  obtain ⟨es, clock, hb, hn, hes⟩ := hM
  obtain ⟨r, hr, hr2⟩ := findKey_any K hk es.toList hes
  cases r with
  | none => exact ⟨z, false, hzv, by simp [Instr.lookup, Sem.run_bind, run_underlying hm, Result.andThen_ok, getObj, Sem.run, hb, K.check _ k hk, hr, hz], by simp [Instr.lookup, Sem.run_bind, run_underlying hm, Result.andThen_ok, getObj, Sem.run, hb, K.check _ k hk, hr, hz]⟩
  | some p =>
    obtain ⟨j, v⟩ := p
    obtain ⟨e, h1, _, h4, _⟩ := hr2 j v rfl
    exact ⟨v, true, h4 ▸ (hes e h1).2, by simp [Instr.lookup, Sem.run_bind, run_underlying hm, Result.andThen_ok, getObj, Sem.run, hb, K.check _ k hk, hr], by simp [Instr.lookup, Sem.run_bind, run_underlying hm, Result.andThen_ok, getObj, Sem.run, hb, K.check _ k hk, hr]⟩
def WideElemsSet (w : World) (b : Nat) (o : Obj) : World := { w with heap := w.heap.setIfInBounds b o }
theorem mapPut_any {kt et mt : TypeId} {KP VP : Value → Prop} {w : World} (K : Keys kt KP w) (hm : Tryz.prog.underlying mt = some (.map kt et)) {k v : Value} (hk : KP k) (hv : VP v) {b n : Nat} (hM : MapK KP VP w b n) :
    ∃ w' n', (Instr.mapUpdate mt (.map (some b)) k v).run Tryz.prog w = .ok () w' ∧ MapK KP VP w' b n' ∧ n' ≤ n + 1 ∧ Kept (fun i => i = b) w w' := by
  obtain ⟨es, clock, hb, hn, hes⟩ := hM
  have hbl : b < w.heap.size := (Array.getElem?_eq_some_iff.1 hb).1
  have hkept : ∀ o : Obj, Kept (fun i => i = b) w (WideElemsSet w b o) := fun o =>
    ⟨rfl, rfl, rfl, by simp [WideElemsSet], fun i hi hp => by
      have hp : ¬ b = i := fun e => hp e.symm
      simp [WideElemsSet, Array.getElem?_setIfInBounds_ne hp]⟩
  have hat : ∀ o : Obj, (WideElemsSet w b o).heap[b]? = some o := fun o => by simp [WideElemsSet, hbl]
  obtain ⟨r, hr, hr2⟩ := findKey_any K hk es.toList hes
  cases r with
  | none =>
    refine ⟨WideElemsSet w b (.map (es.push ⟨k, v, clock⟩) (clock + 1)), n + 1, ?_, ⟨_, _, hat _, by simp [hn], ?_⟩, Nat.le_refl _, hkept _⟩
    · simp [Instr.mapUpdate, run_underlying hm, MapKept.run_getObj_map hb, K.check false k hk, hr, MapKept.run_setObj_map _ hb, Result.andThen, WideElemsSet]
    · intro x hx
      simp only [Array.toList_push, List.mem_append, List.mem_singleton] at hx
      rcases hx with hx | rfl
      · exact hes x hx
      · exact ⟨hk, hv⟩
  | some p =>
    obtain ⟨j, v0⟩ := p
    obtain ⟨e, h1, h2, h4, h5⟩ := hr2 j v0 rfl
    have hj : es[j]? = some e := by simpa using h2
    refine ⟨WideElemsSet w b (.map (es.modify j fun e' => { e' with key := k, val := v }) clock), n, ?_, ⟨_, _, hat _, by simp [hn], ?_⟩, by omega, hkept _⟩
    · simp [Instr.mapUpdate, run_underlying hm, MapKept.run_getObj_map hb, K.check false k hk, hr, hj, Instr.keyThatStays, h5, MapKept.run_setObj_map _ hb, Result.andThen, WideElemsSet]
    · intro x hx
      rcases MapFrom.mem_modify hx with hx | ⟨e', _, rfl⟩
      · exact hes x hx
      · exact ⟨hk, hv⟩
def IntK (v : Value) : Prop := ∃ i : Int, v = .int .i64 i
def StrK (v : Value) : Prop := ∃ s : ByteArray, v = .string s
def PtrK (w : World) (v : Value) : Prop := ∃ b o cs t, v = .pointer (some ⟨b, o, none⟩) ∧ w.heap[b]? = some (.cells cs t (0, 0))
theorem keys_str (w : World) : Keys 9 StrK w where
  check := fun e a ⟨s, h⟩ => by
    subst h
    exact MapKept.run_checkKey (d := .string) (by kernel_rfl) (show MapKept.IsKey .string (.string s) from trivial) e 9999
  equal := fun a b ⟨s, h⟩ ⟨r, k⟩ => by
    subst h k
    refine ⟨s == r, ?_, fun q => ?_⟩
    · have hu : Tryz.prog.underlying 9 = some .string := by kernel_rfl
      have h : ∀ d : Nat, (Op.equalIn (d + 1) 9 (.string s) (.string r)).run Tryz.prog w = .ok (s == r) w := fun d => by simp [Op.equalIn, run_underlying hu]
      exact h 9999
    · have e := bytes_eq q; subst e; exact q
  und := ⟨.string, by kernel_rfl⟩
theorem keys_int (w : World) : Keys 3 IntK w where
  check := fun e a ⟨s, h⟩ => by
    subst h
    exact MapKept.run_checkKey (d := .int .i64) (by kernel_rfl) (show MapKept.IsKey (.int .i64) (.int .i64 s) from rfl) e 9999
  equal := fun a b ⟨s, h⟩ ⟨r, k⟩ => by
    subst h k
    refine ⟨s == r, ?_, fun q => ?_⟩
    · have hu : Tryz.prog.underlying 3 = some (.int .i64) := by kernel_rfl
      have h : ∀ d : Nat, (Op.equalIn (d + 1) 3 (.int .i64 s) (.int .i64 r)).run Tryz.prog w = .ok (s == r) w := fun d => by simp [Op.equalIn, run_underlying hu]
      exact h 9999
    · have e : s = r := by simpa using q
      subst e; simp [Instr.sameBits]
  und := ⟨.int .i64, by kernel_rfl⟩
theorem keys_ptr (w : World) : Keys 155 (PtrK w) w where
  check := fun e a ⟨b, o, cs, t, h, _⟩ => by
    subst h
    have hu : Tryz.prog.underlying 155 = some (.pointer 27) := by kernel_rfl
    have h : ∀ d : Nat, (Instr.checkKey e (d + 1) 155 (.pointer (some ⟨b, o, none⟩))).run Tryz.prog w = .ok () w := fun d => by simp [Instr.checkKey, run_underlying hu, Sem.run_pure]
    exact h 9999
  equal := fun a b ⟨b1, o1, c1, t1, h1, k1⟩ ⟨b2, o2, c2, t2, h2, k2⟩ => by
    subst h1 h2
    have hu : Tryz.prog.underlying 155 = some (.pointer 27) := by kernel_rfl
    have hj : (Tryz.prog.info? 27).map (fun i => i.size) = some 7 := by kernel_rfl
    rcases hi : Tryz.prog.info? 27 with _ | j
    · rw [hi] at hj; cases hj
    · rw [hi] at hj
      have hsz : j.size ≠ 0 := by
        have : j.size = 7 := Option.some.inj hj
        omega
      by_cases hne : (⟨b1, o1, none⟩ : Addr) = ⟨b2, o2, none⟩
      · rw [← hne]
        have h : ∀ d : Nat, (Op.equalIn (d + 1) 155 (.pointer (some ⟨b1, o1, none⟩)) (.pointer (some ⟨b1, o1, none⟩))).run Tryz.prog w = .ok true w := fun d => by
          simp [Op.equalIn, run_underlying hu, sizeOf, typeInfo, hi, run_sameAddr_same]
        exact ⟨true, h 9999, fun _ => by simp [Instr.sameBits]⟩
      · have h : ∀ d : Nat, (Op.equalIn (d + 1) 155 (.pointer (some ⟨b1, o1, none⟩)) (.pointer (some ⟨b2, o2, none⟩))).run Tryz.prog w = .ok false w := fun d => by
          simp [Op.equalIn, run_underlying hu, sizeOf, typeInfo, hi, hsz, run_sameAddr_other w hne k1 k2]
        exact ⟨false, h 9999, fun q => by cases q⟩
  und := ⟨.pointer 27, by kernel_rfl⟩
def TwoK (v : Value) : Prop := (∃ i j : Int, v = .agg #[.int .i64 i, .int .i64 j]) ∧ ∃ l, keyOf Tryz.prog 197 v = some l
theorem two_law : WideMaps.KeyLaw Tryz.prog 197 :=
  Go.deep_law (m := 2) (by omega) (by kernel_rfl) (by kernel_rfl) (by kernel_rfl)
theorem keys_two (w : World) : Keys 197 TwoK w where
  check := fun e a h => two_law.check w e h.2.choose_spec
  equal := fun a b h k => by
    obtain ⟨⟨i, j, hx⟩, la, hla⟩ := h
    obtain ⟨_, lb, hlb⟩ := k
    obtain ⟨r, hr, hiff⟩ := Go.run_equal_deep w (m := 2) (by omega) (k := 197) (by kernel_rfl) (by kernel_rfl) hla hlb
    refine ⟨r, hr, fun q => ?_⟩
    have e : la = lb := hiff.1 q
    have e2 : a = b := two_law.inj hla (e ▸ hlb)
    subst e2 hx
    simp [Instr.sameBits]
  und := ⟨.array 2 3, by kernel_rfl⟩
theorem newInterner_any (w : World) : Calls Tryz.prog 254 #[] w fun e w' => e = .returned (.pointer (some ⟨w.heap.size + 2, 0, none⟩)) ∧ w' = ((w.alloc (.map #[] 0)).alloc (.map #[] 0)).alloc (.cells #[.map (some w.heap.size), .map (some (w.heap.size + 1))] 273) := by
  have hmm := @run_makeMap Tryz.prog
  go_enter Tryz.func254, Tryz.ntmps254
  go_wp2_with fail
  go_ret
  exact ⟨rfl, rfl⟩
theorem newFinder_any (h : Nat) (w : World) : Calls Tryz.prog 188 #[.pointer (some ⟨h, 0, none⟩)] w fun e w' => e = .returned (.pointer (some ⟨w.heap.size + 2, 0, none⟩)) ∧ w' = ((w.alloc (.map #[] 0)).alloc (.map #[] 0)).alloc (.cells #[.pointer (some ⟨h, 0, none⟩), .map (some w.heap.size), .map (some (w.heap.size + 1))] 250) := by
  have hmm := @run_makeMap Tryz.prog
  go_enter Tryz.func188, Tryz.ntmps188
  go_wp2_with fail
  go_ret
  exact ⟨rfl, rfl⟩
theorem BD.kept {p : Nat → Prop} {w w' : World} {B b n : Nat} (h : BD w B b n) (hk : Kept p w w') (hp : ∀ k cs T f, w.heap[k]? = some (.cells cs T f) → ¬ p k) : BD w' B b n := by
  obtain ⟨l, hl, h⟩ := h
  have one : ∀ q, Lib.BuilderAtF 276 5 B b q (Lib.byteCells l) w → Lib.BuilderAtF 276 5 B b q (Lib.byteCells l) w' := by
    rintro q ⟨hB, v, hb, hown, hne⟩
    have hlt : ∀ k o, w.heap[k]? = some o → k < w.heap.size := fun k o h => by
      rcases Nat.lt_or_ge k w.heap.size with h' | h'
      · exact h'
      · rw [Array.getElem?_eq_none h'] at h; cases h
    refine ⟨hB, v, (hk.block b (hlt _ _ hb) (hp _ _ _ _ hb)).trans hb, ?_, hne⟩
    obtain ⟨h1, h2 | ⟨g, cap, cur, fz, rfl, h3, h4, h5⟩⟩ := hown
    · exact ⟨h1, .inl h2⟩
    · exact ⟨h1, .inr ⟨g, cap, cur, fz, rfl, h3, (hk.block g (hlt _ _ h4) (hp _ _ _ _ h4)).trans h4, h5⟩⟩
  exact ⟨l, hl, h.elim (fun x => .inl (one _ x)) (fun x => .inr (one _ x))⟩
theorem BD.below {w w' : World} {B b n : Nat} (h : BD w B b n) (hb : Below w.heap.size w w') : BD w' B b n := h.kept (p := fun _ => False) (Kept.of_below hb) (fun _ _ _ _ _ h => h)
set_option maxHeartbeats 2000000 in
theorem put_any (B b n : Nat) (i : Int) (hi : i64ok i) (w : World) (h : BD w B b n) (hn : n ≤ 100000000) (hBw : B ≤ w.heap.size) :
    Calls Tryz.prog 284 #[.int .i64 i, .pointer (some ⟨b, 0, none⟩)] w fun e w' => e = .returned (.tuple #[]) ∧ BD w' B b (n + 5) ∧ Below B w w' ∧ Lib.OthersKept 5 (some b) w w' := by
  have HI := Lib.hid hi
  have HB := Lib.hid h
  clear hi h
  go_enter Tryz.func284, Tryz.ntmps284
  go_wp2_with fail
  go_loopg [0, 3] 5 (fun gk s0 s3 wr => ∃ (j : Nat) (z : Int), gk + j = 5 ∧ s3 = .int .i64 (j : Int) ∧ s0 = .int .i64 z ∧ Hid (i64ok z) ∧ Hid (BD wr B b (n + j)) ∧ Hid (Below B w wr) ∧ Hid (Lib.OthersKept 5 (some b) w wr))
  case atStart => exact ⟨0, i, by omega, rfl, rfl, HI, HB, Below.refl _ _, Lib.OthersKept.refl _ _ _⟩
  case round =>
    obtain ⟨j, z, hgj, rfl, rfl, HZ, HD, HW, HO⟩ := hrel
    by_cases hj : j < 5
    · go_wp2_with fail
      refine (writeByte_any B b (n + j) _ wr HD.out (by omega) (by omega) (by omega) (by have := HW.out.size; omega)).mono ?_
      rintro e w2 ⟨rfl, hd, hb, ho⟩
      have HD2 := Lib.hid hd
      have HW2 := Lib.hid (HW.out.trans hb)
      have HO2 := Lib.hid (HO.out.trans ho)
      clear hd hb ho
      go_wp2_with fail
      go_roundg (gk - 1)
      case measure => omega
      case rel =>
        refine ⟨j + 1, _, by omega, by go_num, rfl, ?_, HD2.out, HW2.out, HO2.out⟩
        have := HZ.out
        unfold i64ok at *
        show _ ∧ _
        omega
    · obtain rfl : j = 5 := by omega
      go_wp2_with fail
      unfold bodyPost
      refine ⟨rfl, .tuple #[], ?_, rfl, HD.out, HW.out, HO.out⟩
      simp [results, Tryz.f284]
end Go.Proofs.YtkfnpcilanheiaaGreat
