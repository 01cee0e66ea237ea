/-  -/
import Derived.Test.YtkamkaehlofgpaaGreatShelf
import Derived.Lib.FrozenHead2
import Derived.Lib.Builder
import Derived.Lib.AppendStr
import Derived.Lib.UnsafeStr
import Derived.Lib.OthersKept
import Derived.Laws.Externs
import Derived.Test.YtkamkaehlofgpaaGreatJo13
import Derived.Test.YtkamkaehlofgpaaGreatJo21
import Derived.Test.YtkamkaehlofgpaaGreatJo22
set_option linter.unusedVariables false
set_option linter.unusedSimpArgs false
/- strings.Builder at this dump: copyCheck, WriteByte, WriteString, String, of a builder whose content does not matter. -/
namespace Go.Proofs.YtkamkaehlofgpaaGreat
open Go.RowKit NumB Go.Proofs
set_option linter.unusedVariables false
set_option linter.unusedSimpArgs false

theorem info_builder : (Tryz.prog.info? 189).map (fun i => i.size) = some 2 := by kernel_rfl
theorem info_byteT : (Tryz.prog.info? 5).map (fun i => (i.zero, i.size, i.bytes)) = some (some (.int .u8 0), 1, 1) := by kernel_rfl

set_option maxHeartbeats 1000000 in
set_option maxRecDepth 100000 in
theorem copyCheck_used (b : Nat) (w : World) (h0 : w.cell? ⟨b, 0, none⟩ = some (.pointer (some ⟨b, 0, none⟩))) :
    Calls Tryz.prog 160 #[.pointer (some ⟨b, 0, none⟩)] w fun e w' => e = .returned (.tuple #[]) ∧ w' = w := by
  obtain ⟨j, hj, _⟩ := Option.map_eq_some_iff.1 info_builder
  go_enter Tryz.func160, Tryz.ntmps160
  go_wp2_with fail
  rw [Lib.run_neq_ptr_same w _ Tryz.underlying187 hj]
  go_wp2_with fail
  unfold bodyPost
  refine ⟨rfl, .tuple #[], ?_, rfl, rfl⟩
  simp [results, Tryz.f160]
set_option maxHeartbeats 1000000 in
set_option maxRecDepth 100000 in
theorem copyCheck_fresh (b : Nat) (w : World) (h0 : w.cell? ⟨b, 0, none⟩ = some (.pointer none)) (hsh : w.shape? b = some (189, 2)) (hfz : w.frozen? ⟨b, 0, none⟩ = false) :
    Calls Tryz.prog 160 #[.pointer (some ⟨b, 0, none⟩)] w fun e w' => e = .returned (.tuple #[]) ∧ w' = w.setCell ⟨b, 0, none⟩ (.pointer (some ⟨b, 0, none⟩)) := by
  obtain ⟨j, hj, hjs⟩ := Option.map_eq_some_iff.1 info_builder
  go_enter Tryz.func160, Tryz.ntmps160
  go_wp2_with fail
  rw [Lib.run_to_unsafe w ⟨b, 0, none⟩ Tryz.underlying187 Tryz.underlying208 hj (by rw [hjs]; decide) hsh (Nat.zero_lt_succ 1)]
  simp only [Result.andThen]
  rw [Oper.upon_value]
  go_wp2_with fail
  rw [run_callFunc_extern Tryz.func161 (by kernel_rfl) (by kernel_rfl) (by kernel_rfl) (e := Extern.AbiNoEscape.same) (by kernel_rfl)]
  rw [Lib.run_noEscape]
  simp only [Result.andThen]
  rw [Oper.upon_value]
  go_wp2_with fail
  rw [Lib.run_from_unsafe w ⟨b, 0, none⟩ Tryz.underlying208 Tryz.underlying187 hj hsh (by kernel_rfl)]
  simp only [Result.andThen]
  rw [Oper.upon_value]
  go_wp2_with fail
  unfold bodyPost
  refine ⟨rfl, .tuple #[], ?_, rfl, rfl⟩
  simp [results, Tryz.f160]
theorem copyCheck_any (B b : Nat) (bs : List Value) (w : World) (h : Lib.IsBuilderF 189 5 B b bs w) :
    Calls Tryz.prog 160 #[.pointer (some ⟨b, 0, none⟩)] w fun e w' => e = .returned (.tuple #[]) ∧ Lib.BuilderAtF 189 5 B b (.pointer (some ⟨b, 0, none⟩)) bs w' ∧ Below B w w' ∧ Lib.OthersKept 5 (some b) w w' := by
  rcases h with h | h
  · refine (copyCheck_fresh b w h.cell0 h.shape h.frozen0).mono ?_
    rintro e w' ⟨rfl, rfl⟩
    exact ⟨rfl, h.used _, (Below.refl B w).setCell (p := ⟨b, 0, none⟩) h.1 _, (Lib.OthersKept.refl _ _ w).setCell ⟨b, 0, none⟩ rfl _⟩
  · refine (copyCheck_used b w h.cell0).mono ?_
    rintro e w' ⟨rfl, rfl⟩
    exact ⟨rfl, h, Below.refl B _, Lib.OthersKept.refl _ _ _⟩

/-- A builder at b that holds at most n bytes. -/
def BD (w : World) (B b n : Nat) : Prop := ∃ l : List UInt8, l.length ≤ n ∧ Lib.IsBuilderF 189 5 B b (Lib.byteCells l) w
theorem byte_is {c : Int} (h0 : 0 ≤ c) (h1 : c ≤ 255) : ∃ u : UInt8, (Value.int .u8 c) = .int .u8 u.toNat := by
  refine ⟨UInt8.ofNat c.toNat, ?_⟩
  congr 1
  rw [UInt8.toNat_ofNat_of_lt' (by show c.toNat < 256; omega)]
  omega

set_option maxHeartbeats 2000000 in
set_option maxRecDepth 100000 in
theorem writeByte_any (B b n : Nat) (c : Int) (w : World) (h : BD w B b n) (h0 : 0 ≤ c) (h1 : c ≤ 255) (hlen : n ≤ 1000000000) (hBw : B ≤ w.heap.size) :
    Calls Tryz.prog 149 #[.pointer (some ⟨b, 0, none⟩), .int .u8 c] w fun e w' => e = .returned .nilIface ∧ BD w' B b (n + 1) ∧ Below B w w' ∧ Lib.OthersKept 5 (some b) w w' := by
  obtain ⟨l, hl, h⟩ := h
  obtain ⟨u8, hu8⟩ := byte_is h0 h1
  rw [hu8]
  clear hu8 h0 h1 c
  obtain ⟨bs, hbs⟩ : ∃ bs, Lib.byteCells l = bs := ⟨_, rfl⟩
  have hbl : bs.length ≤ n := by rw [← hbs, Lib.byteCells_length]; exact hl
  rw [hbs] at h
  have HF : Hid (∀ w', Lib.BuilderAtF 189 5 B b (.pointer (some ⟨b, 0, none⟩)) (bs ++ [.int .u8 u8.toNat]) w' → BD w' B b (n + 1)) := fun w' hw => ⟨l ++ [u8], by simp; omega, .inr (by
    have e : Lib.byteCells (l ++ [u8]) = bs ++ [.int .u8 u8.toNat] := by rw [← hbs]; simp [Lib.byteCells]
    rw [e]; exact hw)⟩
  clear hl hbs
  obtain ⟨i0, hi, hz0, hz1, hz2⟩ := info_parts info_byteT
  have HI := Lib.hid hi
  have HZ0 := Lib.hid hz0
  have HZ1 := Lib.hid hz1
  have HZ2 := Lib.hid hz2
  clear hi hz0 hz1 hz2
  have HCC := Lib.hid (copyCheck_any B b bs w h)
  clear h
  generalize hv8 : (Value.int .u8 u8.toNat) = v8 at *
  obtain ⟨z8, hz8⟩ : ∃ z : Int, v8 = .int .u8 z := ⟨_, hv8.symm⟩
  subst hz8
  clear hv8
  go_enter Tryz.func149, Tryz.ntmps149
  go_wp2_with fail
  refine HCC.out.mono ?_
  rintro e w1 ⟨rfl, h1, hb1, hk1⟩
  obtain ⟨hB, v, hbk, hown, hne⟩ := h1
  have c0 : w1.cell? ⟨b, 0, none⟩ = some (.pointer (some ⟨b, 0, none⟩)) := by rw [Lib.cell_of_heap hbk]; rfl
  have c1 : w1.cell? ⟨b, 1, none⟩ = some v := by rw [Lib.cell_of_heap hbk]; rfl
  go_wp2_with (at_builtin; refine wpList_append_ownF _ rfl _ _ 96 rfl B 5 i0 (.int .u8 0) 1 1 Tryz.underlying96 HI.out HZ0.out HZ1.out HZ2.out rfl (by decide) _ _ _ rfl (hown.alloc _) ⟨w1.heap.size, 0, none⟩ 1 1 [.int .u8 z8] rfl rfl ?c1 ?c2 ?c3 ?c4 ?c5 ?_)
  case c1 =>
    intro j u hj
    match j, hj with
    | 0, hj => simp at hj; subst hj; simp [Addr.add]
  case c2 => intro u hu; simp at hu; subst hu; rfl
  case c3 => unfold maxLen; omega
  case c4 => omega
  case c5 => have := hb1.size; simp; omega
  intro v' w2 hown' hgrow _
  have hlt : b < w1.heap.size := by
    rcases Nat.lt_or_ge b w1.heap.size with h' | h'
    · exact h'
    · simp [Array.getElem?_eq_none h'] at hbk
  have hb2 : w2.heap[b]? = some (.cells #[.pointer (some ⟨b, 0, none⟩), v] 189 (0, 0)) := by
    rw [hgrow.block b (by simp; omega) (fun e => hne e.symm), Lib.alloc_old w1 _ b hlt]
    exact hbk
  have d0 : w2.cell? ⟨b, 0, none⟩ = some (.pointer (some ⟨b, 0, none⟩)) := by rw [Lib.cell_of_heap hb2]; rfl
  have d1 : w2.cell? ⟨b, 1, none⟩ = some v := by rw [Lib.cell_of_heap hb2]; rfl
  have f1 : w2.frozen? ⟨b, 1, none⟩ = false := Lib.frozen_of_heap hb2 1
  obtain ⟨g, cap, rfl⟩ : ∃ g cap, v' = .slice (some ⟨g, 0, none⟩) (bs.length + 1) cap := by
    rcases hown'.2 with ⟨_, h0⟩ | ⟨g, cap, cur, fz, hv, _⟩
    · omega
    · exact ⟨g, cap, hv⟩
  go_wp2_with fail
  go_ret
  refine ⟨rfl, HF.out _ ?_, ?_, ((hk1.alloc _).grown hgrow (Lib.ownsRowF_kind (hown.alloc _))).setCell ⟨b, 1, none⟩ rfl _⟩
  · exact Lib.BuilderAtF.put (T := 189) (e := 5) hB hb2 (bs' := bs ++ [.int .u8 z8]) (by simpa using hown') (by decide)
  · exact ((hb1.alloc (by have := hb1.size; omega) _).grown hgrow (by have := hb1.size; simp; omega) (fun k hk => (hown.lt k hk).1)).setCell (p := ⟨b, 1, none⟩) hB _

set_option maxHeartbeats 2000000 in
set_option maxRecDepth 100000 in
theorem writeString_any (B b n : Nat) (s : ByteArray) (w : World) (h : BD w B b n) (hs : s.size ≤ 1000000000) (hlen : n ≤ 1000000000) (hBw : B ≤ w.heap.size) :
    Calls Tryz.prog 151 #[.pointer (some ⟨b, 0, none⟩), .string s] w fun e w' => e = .returned (.tuple #[.int .i64 s.size, .nilIface]) ∧ BD w' B b (n + s.size) ∧ Below B w w' ∧ Lib.OthersKept 5 (some b) w w' := by
  obtain ⟨l, hl, h⟩ := h
  obtain ⟨bs, hbs⟩ : ∃ bs, Lib.byteCells l = bs := ⟨_, rfl⟩
  have hbl : bs.length ≤ n := by rw [← hbs, Lib.byteCells_length]; exact hl
  rw [hbs] at h
  have HF : Hid (∀ w', Lib.BuilderAtF 189 5 B b (.pointer (some ⟨b, 0, none⟩)) (bs ++ Lib.strCells s) w' → BD w' B b (n + s.size)) := fun w' hw => ⟨l ++ s.data.toList, by simp; have : s.size = s.data.size := rfl; omega, .inr (by
    have e : Lib.byteCells (l ++ s.data.toList) = bs ++ Lib.strCells s := by rw [← hbs]; simp [Lib.byteCells, Lib.strCells]
    rw [e]; exact hw)⟩
  clear hl hbs
  obtain ⟨i0, hi, hz0, hz1, hz2⟩ := info_parts info_byteT
  have HI := Lib.hid hi
  have HZ0 := Lib.hid hz0
  have HZ1 := Lib.hid hz1
  have HZ2 := Lib.hid hz2
  clear hi hz0 hz1 hz2
  have HCC := Lib.hid (copyCheck_any B b bs w h)
  clear h
  go_enter Tryz.func151, Tryz.ntmps151
  go_wp2_with fail
  refine HCC.out.mono ?_
  rintro e w1 ⟨rfl, h1, hb1, hk1⟩
  obtain ⟨hB, v, hbk, hown, hne⟩ := h1
  have c0 : w1.cell? ⟨b, 0, none⟩ = some (.pointer (some ⟨b, 0, none⟩)) := by rw [Lib.cell_of_heap hbk]; rfl
  have c1 : w1.cell? ⟨b, 1, none⟩ = some v := by rw [Lib.cell_of_heap hbk]; rfl
  go_wp2_with (at_builtin; refine Lib.wpList_append_own_stringF _ rfl _ _ 96 9 rfl B 5 i0 Tryz.underlying96 Tryz.underlying9 HI.out HZ0.out HZ1.out HZ2.out _ _ _ rfl hown s rfl ?c3 ?c4 ?c5 ?_)
  case c3 => unfold maxLen; omega
  case c4 => omega
  case c5 => have := hb1.size; omega
  intro v' w2 hown' hgrow _
  have hlt : b < w1.heap.size := by
    rcases Nat.lt_or_ge b w1.heap.size with h' | h'
    · exact h'
    · simp [Array.getElem?_eq_none h'] at hbk
  have hb2 : w2.heap[b]? = some (.cells #[.pointer (some ⟨b, 0, none⟩), v] 189 (0, 0)) := by
    rw [hgrow.block b hlt (fun e => hne e.symm)]
    exact hbk
  have d0 : w2.cell? ⟨b, 0, none⟩ = some (.pointer (some ⟨b, 0, none⟩)) := by rw [Lib.cell_of_heap hb2]; rfl
  have d1 : w2.cell? ⟨b, 1, none⟩ = some v := by rw [Lib.cell_of_heap hb2]; rfl
  have f1 : w2.frozen? ⟨b, 1, none⟩ = false := Lib.frozen_of_heap hb2 1
  obtain ⟨ao, n', cap, rfl⟩ : ∃ ao n' cap, v' = .slice ao n' cap := by
    rcases hown'.2 with ⟨hv, _⟩ | ⟨g, cap, cur, fz, hv, _⟩
    · exact ⟨_, _, _, hv⟩
    · exact ⟨_, _, _, hv⟩
  go_wp2_with fail
  go_ret2
  refine ⟨rfl, HF.out _ ?_, ?_, (hk1.grown hgrow (Lib.ownsRowF_kind hown)).setCell ⟨b, 1, none⟩ rfl _⟩
  · exact Lib.BuilderAtF.put (T := 189) (e := 5) hB hb2 (bs' := bs ++ Lib.strCells s) (by simpa [Lib.strCells_length] using hown') (by decide)
  · exact (hb1.grown hgrow (by have := hb1.size; omega) (fun k hk => (hown.lt k hk).1)).setCell (p := ⟨b, 1, none⟩) hB _

theorem bString_any (B b n : Nat) (w : World) (h : BD w B b n) (hBw : B ≤ w.heap.size) :
    Calls Tryz.prog 152 #[.pointer (some ⟨b, 0, none⟩)] w fun e w' => ∃ s, e = .returned (.string s) ∧ BD w' B b n ∧ Below B w w' ∧ Lib.OthersKept 5 (some b) w w' := by
  obtain ⟨l, hl, h⟩ := h
  refine (Tryz.Builder_String_any_k B b l w h hBw).mono ?_
  rintro e w' ⟨rfl, h1, h2, h3⟩
  exact ⟨_, rfl, ⟨l, hl, h1⟩, h2, h3⟩
end Go.Proofs.YtkamkaehlofgpaaGreat
/- (*heap.interner).name$1: five bytes of an int. -/
namespace Go.Proofs.YtkamkaehlofgpaaGreat
open Go.RowKit NumB
set_option linter.unusedVariables false
set_option linter.unusedSimpArgs false

theorem BD.kept {p : Nat → Prop} {w w' : World} {B b n : Nat} (h : BD w B b n) (hk : Kept p w w') (hp : ∀ k cs T f, w.heap[k]? = some (.cells cs T f) → ¬ p k) : BD w' B b n := by
  obtain ⟨l, hl, h⟩ := h
  have one : ∀ q, Lib.BuilderAtF 189 5 B b q (Lib.byteCells l) w → Lib.BuilderAtF 189 5 B b q (Lib.byteCells l) w' := by
    rintro q ⟨hB, v, hb, hown, hne⟩
    have hlt : ∀ k o, w.heap[k]? = some o → k < w.heap.size := fun k o h => by
      rcases Nat.lt_or_ge k w.heap.size with h' | h'
      · exact h'
      · rw [Array.getElem?_eq_none h'] at h; cases h
    refine ⟨hB, v, (hk.block b (hlt _ _ hb) (hp _ _ _ _ hb)).trans hb, ?_, hne⟩
    obtain ⟨h1, h2 | ⟨g, cap, cur, fz, rfl, h3, h4, h5⟩⟩ := hown
    · exact ⟨h1, .inl h2⟩
    · exact ⟨h1, .inr ⟨g, cap, cur, fz, rfl, h3, (hk.block g (hlt _ _ h4) (hp _ _ _ _ h4)).trans h4, h5⟩⟩
  exact ⟨l, hl, h.elim (fun x => .inl (one _ x)) (fun x => .inr (one _ x))⟩
theorem BD.below {w w' : World} {B b n : Nat} (h : BD w B b n) (hb : Below w.heap.size w w') : BD w' B b n := h.kept (p := fun _ => False) (Kept.of_below hb) (fun _ _ _ _ _ h => h)

set_option maxHeartbeats 2000000 in
set_option maxRecDepth 100000 in
theorem put_any (B b n : Nat) (i : Int) (hi : i64ok i) (w : World) (h : BD w B b n) (hn : n ≤ 100000000) (hBw : B ≤ w.heap.size) :
    Calls Tryz.prog 150 #[.int .i64 i, .pointer (some ⟨b, 0, none⟩)] w fun e w' => e = .returned (.tuple #[]) ∧ BD w' B b (n + 5) ∧ Below B w w' ∧ Lib.OthersKept 5 (some b) w w' := by
  have HI := Lib.hid hi
  have HB := Lib.hid h
  clear hi h
  go_enter Tryz.func150, Tryz.ntmps150
  go_wp2_with fail
  go_loopg [0, 3] 5 (fun gk s0 s3 wr => ∃ (j : Nat) (z : Int), gk + j = 5 ∧ s3 = .int .i64 (j : Int) ∧ s0 = .int .i64 z ∧ Hid (i64ok z) ∧ Hid (BD wr B b (n + j)) ∧ Hid (Below B w wr) ∧ Hid (Lib.OthersKept 5 (some b) w wr))
  case atStart => exact ⟨0, i, by omega, rfl, rfl, HI, HB, Below.refl _ _, Lib.OthersKept.refl _ _ _⟩
  case round =>
    obtain ⟨j, z, hgj, rfl, rfl, HZ, HD, HW, HO⟩ := hrel
    by_cases hj : j < 5
    · go_wp2_with fail
      refine (writeByte_any B b (n + j) _ wr HD.out (by omega) (by omega) (by omega) (by have := HW.out.size; omega)).mono ?_
      rintro e w2 ⟨rfl, hd, hb, ho⟩
      have HD2 := Lib.hid hd
      have HW2 := Lib.hid (HW.out.trans hb)
      have HO2 := Lib.hid (HO.out.trans ho)
      clear hd hb ho
      go_wp2_with fail
      go_roundg (gk - 1)
      case measure => omega
      case rel =>
        refine ⟨j + 1, _, by omega, by go_num, rfl, ?_, HD2.out, HW2.out, HO2.out⟩
        have := HZ.out
        unfold i64ok at *
        show _ ∧ _
        omega
    · obtain rfl : j = 5 := by omega
      go_wp2_with fail
      unfold bodyPost
      refine ⟨rfl, .tuple #[], ?_, rfl, HD.out, HW.out, HO.out⟩
      simp [results, Tryz.f150]
end Go.Proofs.YtkamkaehlofgpaaGreat
