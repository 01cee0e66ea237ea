/-  -/
import Derived.Laws.Runes
import Derived.Test.YtkamkaehlofgpaaJo18
import Derived.Test.YtkamkaehlofgpaaJo22
import Derived.Test.YtkamkaehlofgpaaJo23
import Derived.Test.YtkamkaehlofgpaaJo24
set_option linter.unusedVariables false
set_option linter.unusedSimpArgs false
/- fetterlockref1.IsInt, Text and Format. Conditions: at most 256 digits (Format: none). -/

namespace Go.Proofs.Ytkamkaehlofgpaa
open Go.RowKit NumB
set_option linter.unusedVariables false
set_option linter.unusedSimpArgs false

theorem dec_len16 {x : Nat} (h : (digs W16 x).length ≤ 256) : (dec x).length ≤ 1300 := by
  have h1 := dgs_len h
  unfold dec
  split
  · simp
  · rw [← dgs_text, List.length_map, List.length_reverse]; omega

set_option maxRecDepth 100000 in
set_option maxHeartbeats 6400000 in
theorem rtext_any (neg : Bool) (x y : Nat) (v : Value) (w : World) (h : RV w v neg x y) (hx : (digs W16 x).length ≤ 256) (hy : (digs W16 y).length ≤ 256) :
    Calls Try.prog 62 #[v] w fun e w' => e = .returned (.string ⟨(fmtL neg x y).toArray⟩) ∧ Below w.heap.size w w' := by
  obtain ⟨A1, A2, rfl, h1, h2⟩ := h
  obtain ⟨B1, n1, c1, rfl, e1⟩ := h1.form
  obtain ⟨B2, n2, c2, rfl, e2⟩ := h2.form
  have HNX : Hid (∀ o : Obj, Nat16 (w.alloc o) (.slice B1 n1 c1) x ∧ Nat16 (w.alloc o) (.slice B2 n2 c2) y) := fun o => ⟨h1.to (below_one _ _), h2.to (below_one _ _)⟩
  have HLX := Lib.hid (And.intro hx hy)
  have HBK := Lib.hid (Blk.new w 111 #[.bool neg, .slice B1 n1 c1, .slice B2 n2 c2])
  clear h1 h2 e1 e2 hx hy
  cases neg with
  | false =>
    by_cases hy1 : y = 1
    · have HO := Lib.hid (cmpI_one_true hy1)
      have E : Hid (fmtL false x y = dec x) := by unfold Hid fmtL; rw [if_pos hy1]; simp
      clear hy1
      go_enter Try.func62, Try.ntmps62
      go_wp2_with fail
      refine (rdecimal_any x _ _ (by exact (HNX.out _).1) (Nat.le_trans HLX.out.1 (by omega))).mono ?_
      rintro e w1 ⟨rfl, hb1⟩
      have hk := HBK.out.to hb1
      have c0 := hk.cell 0
      have c1 := hk.cell 1
      have c2 := hk.cell 2
      simp only [List.getElem?_toArray, List.getElem?_cons_zero, List.getElem?_cons_succ] at c0 c1 c2
      have HK1 := Lib.hid hk
      have HB1 := Lib.hid hb1
      clear hk hb1
      have hlx := dec_len16 HLX.out.1
      generalize hdx : dec x = lx at *
      clear hdx
      go_wp2_with fail
      refine (risInt_any false x y _ _ ⟨_, _, rfl, (by exact (HNX.out _).1.to HB1.out), (by exact (HNX.out _).2.to HB1.out)⟩ (Nat.le_trans HLX.out.2 (by omega))).mono ?_
      rintro e w3 ⟨he, hb3⟩
      rw [HO.out] at he
      subst he
      clear c0 c1 c2
      have hk := HK1.out.to hb3
      have c0 := hk.cell 0
      have c1 := hk.cell 1
      have c2 := hk.cell 2
      simp only [List.getElem?_toArray, List.getElem?_cons_zero, List.getElem?_cons_succ] at c0 c1 c2
      have HB3 := Lib.hid (HB1.out.trans (hb3.mono HB1.out.size))
      clear hk hb3
      go_wp2_with fail
      go_ret
      rw [E.out]
      exact ⟨rfl, (below_one w _).trans (HB3.out.mono (below_one w _).size)⟩
    · have HO := Lib.hid (cmpI_one_false hy1)
      have E : Hid (fmtL false x y = dec x ++ 114 :: dec y) := by unfold Hid fmtL; rw [if_neg hy1]; simp
      clear hy1
      go_enter Try.func62, Try.ntmps62
      go_wp2_with fail
      refine (rdecimal_any x _ _ (by exact (HNX.out _).1) (Nat.le_trans HLX.out.1 (by omega))).mono ?_
      rintro e w1 ⟨rfl, hb1⟩
      have hk := HBK.out.to hb1
      have c0 := hk.cell 0
      have c1 := hk.cell 1
      have c2 := hk.cell 2
      simp only [List.getElem?_toArray, List.getElem?_cons_zero, List.getElem?_cons_succ] at c0 c1 c2
      have HK1 := Lib.hid hk
      have HB1 := Lib.hid hb1
      clear hk hb1
      have hlx := dec_len16 HLX.out.1
      generalize hdx : dec x = lx at *
      clear hdx
      go_wp2_with fail
      refine (risInt_any false x y _ _ ⟨_, _, rfl, (by exact (HNX.out _).1.to HB1.out), (by exact (HNX.out _).2.to HB1.out)⟩ (Nat.le_trans HLX.out.2 (by omega))).mono ?_
      rintro e w3 ⟨he, hb3⟩
      rw [HO.out] at he
      subst he
      clear c0 c1 c2
      have hk := HK1.out.to hb3
      have c0 := hk.cell 0
      have c1 := hk.cell 1
      have c2 := hk.cell 2
      simp only [List.getElem?_toArray, List.getElem?_cons_zero, List.getElem?_cons_succ] at c0 c1 c2
      have HB3 := Lib.hid (HB1.out.trans (hb3.mono HB1.out.size))
      clear hk hb3
      go_wp2_with fail
      refine (rdecimal_any y _ _ (by exact (HNX.out _).2.to HB3.out) (Nat.le_trans HLX.out.2 (by omega))).mono ?_
      rintro e w4 ⟨rfl, hb4⟩
      have HB4 := Lib.hid (HB3.out.trans (hb4.mono HB3.out.size))
      clear hb4
      have hly := dec_len16 HLX.out.2
      generalize hdy : dec y = ly at *
      clear hdy
      go_wp2_with fail
      go_ret
      rw [E.out]
      exact ⟨rfl, (below_one w _).trans (HB4.out.mono (below_one w _).size)⟩
  | true =>
    by_cases hy1 : y = 1
    · have HO := Lib.hid (cmpI_one_true hy1)
      have E : Hid (fmtL true x y = 45 :: (dec x)) := by unfold Hid fmtL; rw [if_pos hy1]; simp
      clear hy1
      go_enter Try.func62, Try.ntmps62
      go_wp2_with fail
      refine (rdecimal_any x _ _ (by exact (HNX.out _).1) (Nat.le_trans HLX.out.1 (by omega))).mono ?_
      rintro e w1 ⟨rfl, hb1⟩
      have hk := HBK.out.to hb1
      have c0 := hk.cell 0
      have c1 := hk.cell 1
      have c2 := hk.cell 2
      simp only [List.getElem?_toArray, List.getElem?_cons_zero, List.getElem?_cons_succ] at c0 c1 c2
      have HK1 := Lib.hid hk
      have HB1 := Lib.hid hb1
      clear hk hb1
      have hlx := dec_len16 HLX.out.1
      generalize hdx : dec x = lx at *
      clear hdx
      go_wp2_with fail
      refine (risInt_any true x y _ _ ⟨_, _, rfl, (by exact (HNX.out _).1.to HB1.out), (by exact (HNX.out _).2.to HB1.out)⟩ (Nat.le_trans HLX.out.2 (by omega))).mono ?_
      rintro e w3 ⟨he, hb3⟩
      rw [HO.out] at he
      subst he
      clear c0 c1 c2
      have hk := HK1.out.to hb3
      have c0 := hk.cell 0
      have c1 := hk.cell 1
      have c2 := hk.cell 2
      simp only [List.getElem?_toArray, List.getElem?_cons_zero, List.getElem?_cons_succ] at c0 c1 c2
      have HB3 := Lib.hid (HB1.out.trans (hb3.mono HB1.out.size))
      clear hk hb3
      go_wp2_with fail
      go_ret
      rw [E.out]
      exact ⟨rfl, (below_one w _).trans (HB3.out.mono (below_one w _).size)⟩
    · have HO := Lib.hid (cmpI_one_false hy1)
      have E : Hid (fmtL true x y = 45 :: (dec x ++ 114 :: dec y)) := by unfold Hid fmtL; rw [if_neg hy1]; simp
      clear hy1
      go_enter Try.func62, Try.ntmps62
      go_wp2_with fail
      refine (rdecimal_any x _ _ (by exact (HNX.out _).1) (Nat.le_trans HLX.out.1 (by omega))).mono ?_
      rintro e w1 ⟨rfl, hb1⟩
      have hk := HBK.out.to hb1
      have c0 := hk.cell 0
      have c1 := hk.cell 1
      have c2 := hk.cell 2
      simp only [List.getElem?_toArray, List.getElem?_cons_zero, List.getElem?_cons_succ] at c0 c1 c2
      have HK1 := Lib.hid hk
      have HB1 := Lib.hid hb1
      clear hk hb1
      have hlx := dec_len16 HLX.out.1
      generalize hdx : dec x = lx at *
      clear hdx
      go_wp2_with fail
      refine (risInt_any true x y _ _ ⟨_, _, rfl, (by exact (HNX.out _).1.to HB1.out), (by exact (HNX.out _).2.to HB1.out)⟩ (Nat.le_trans HLX.out.2 (by omega))).mono ?_
      rintro e w3 ⟨he, hb3⟩
      rw [HO.out] at he
      subst he
      clear c0 c1 c2
      have hk := HK1.out.to hb3
      have c0 := hk.cell 0
      have c1 := hk.cell 1
      have c2 := hk.cell 2
      simp only [List.getElem?_toArray, List.getElem?_cons_zero, List.getElem?_cons_succ] at c0 c1 c2
      have HB3 := Lib.hid (HB1.out.trans (hb3.mono HB1.out.size))
      clear hk hb3
      go_wp2_with fail
      refine (rdecimal_any y _ _ (by exact (HNX.out _).2.to HB3.out) (Nat.le_trans HLX.out.2 (by omega))).mono ?_
      rintro e w4 ⟨rfl, hb4⟩
      have HB4 := Lib.hid (HB3.out.trans (hb4.mono HB3.out.size))
      clear hb4
      have hly := dec_len16 HLX.out.2
      generalize hdy : dec y = ly at *
      clear hdy
      go_wp2_with fail
      go_ret
      rw [E.out]
      exact ⟨rfl, (below_one w _).trans (HB4.out.mono (below_one w _).size)⟩
end Go.Proofs.Ytkamkaehlofgpaa
/- fetterlockref1.OfInt. -/
namespace Go.Proofs.Ytkamkaehlofgpaa
open Go.RowKit NumB
set_option linter.unusedVariables false
set_option linter.unusedSimpArgs false

theorem and_low16_u64 (x : Nat) (hx : x < 18446744073709551616) : bits .and .u64 (x : Int) 65535 = ((x % 65536 : Nat) : Int) := by
  have h := u64_and (x : Int) 65535 (by omega) (by omega) (by omega) (by omega)
  rw [h]
  have e : (x : Int).toNat &&& (65535 : Int).toNat = x % 65536 := by
    rw [Int.toNat_natCast, show (65535 : Int).toNat = 2 ^ 16 - 1 from rfl, Nat.and_two_pow_sub_one_eq_mod]
  rw [e]

set_option maxRecDepth 100000 in
set_option maxHeartbeats 1600000 in
theorem rofInt_any (x : Nat) (w : World) (hx : x < 18446744073709551616) : Calls Try.prog 61 #[.int .u64 (x : Int)] w (RPost w x) := by
  have HL : Hid ((digs W16 x).length ≤ 4) := digs_len_le W16_gt (by unfold W16; omega)
  go_enter Try.func61, Try.ntmps61
  go_wp2
  go_loopg [0, 3] x (fun gk s0 s3 wr => ∃ out : List Nat, s0 = .int .u64 (gk : Int) ∧ gk < 18446744073709551616 ∧ Hid (OwnV .i64 3 wr w.heap.size s3 out ∧ out ++ digs W16 gk = digs W16 x ∧ Below w.heap.size w wr))
  case atStart => exact ⟨[], rfl, hx, OwnV.nil_ _, rfl, Below.refl _ _⟩
  case round =>
    obtain ⟨out, rfl, hg, HR⟩ := hrel
    by_cases h0 : gk = 0
    · subst h0
      go_wp2
      go_ret
      obtain ⟨h1, h2, h3⟩ := HR.out
      rw [digs_zero, List.append_nil] at h2
      subst h2
      exact ⟨_, rfl, h1.sl, h3⟩
    · have hpos : 0 < gk := by omega
      have hand := and_low16_u64 gk hg
      obtain ⟨lo, hlo⟩ : ∃ lo : Nat, gk % 65536 = lo := ⟨_, rfl⟩
      rw [hlo] at hand
      have hlob : lo < 65536 := by omega
      have HLO := Lib.hid hlo
      have HG0 := Lib.hid h0
      have HLEN : Hid (out.length + [lo].length ≤ 1000000) := by
        have h := congrArg List.length HR.out.2.1
        have := HL.out
        rw [List.length_append] at h
        unfold Hid; simp; omega
      clear hlo h0
      go_wp2_with (at_builtin; go_must (refine wpList_push wr rfl _ _ 64 rfl .i64 3 8 Try.underlying64 info_i64 (by decide) w.heap.size _ out [lo] (by rfl) (by rfl) HR.out.1 HLEN.out HR.out.2.2.size _ rfl ?_); intro v1 w1 hown1 hb1)
      go_roundg (gk / 65536)
      case measure => omega
      case rel =>
        refine ⟨out ++ [lo], congrArg (Value.int .u64) (by omega), by omega, hown1, ?_, HR.out.2.2.trans hb1⟩
        rw [← HR.out.2.1, digs_step W16_gt HG0.out, List.append_assoc, ← HLO.out]; rfl
end Go.Proofs.Ytkamkaehlofgpaa
/- fetterlockref2.label at a valid node. -/
namespace Go.Proofs.Ytkamkaehlofgpaa
open Go.RowKit NumB
set_option linter.unusedVariables false
set_option linter.unusedSimpArgs false

/-- The text of a node. -/
def labelB : Tm → ByteArray
  | .mk k v s n args => if k = 1 then (⟨#[118]⟩ : ByteArray) ++ ⟨(dec v.toNat).toArray⟩ else if k = 2 then (⟨#[110]⟩ : ByteArray) ++ ⟨(fmtL n.neg n.x n.y).toArray⟩ else if k = 3 then (⟨#[97]⟩ : ByteArray) ++ s else if k = 4 then (⟨#[115]⟩ : ByteArray) ++ s else ((⟨#[99]⟩ : ByteArray) ++ Utf8.encode (48 + (args.length : Int))) ++ s


set_option maxRecDepth 100000 in
set_option maxHeartbeats 1000000 in
theorem label_1 (W : World) (s : ByteArray) (ng : Bool) (A1 B1 Ar : Option Addr) (m1 q1 m2 q2 l cap : Nat) (x : Nat) (hx : x ≤ 1073741824) :
    Calls Try.prog 42 #[.agg #[.int .i64 1, .int .i64 (x : Int), .string s, .bool ng, .slice A1 m1 q1, .slice B1 m2 q2, .slice Ar l cap]] W fun e W' => e = .returned (.string ((⟨#[118]⟩ : ByteArray) ++ ⟨(dec x).toArray⟩)) ∧ Below W.heap.size W W' := by
  have HBA : Hid (Below W.heap.size W (W.alloc (.cells #[.int .i64 1, .int .i64 (x : Int), .string s, .bool ng, .slice A1 m1 q1, .slice B1 m2 q2, .slice Ar l cap] 27))) := below_one W _
  have hwu : IntKind.u64.wrap (x : Int) = (x : Int) := by rw [IntKind.wrap_u64]; omega
  have HOI : Hid (∀ W', Calls Try.prog 61 #[.int .u64 (x : Int)] W' fun e w' => ∃ u, e = .returned u ∧ Hid (Nat16 w' u x ∧ Below W'.heap.size W' w')) := fun W' => (rofInt_any x W' (by omega)).mono (by rintro e w' ⟨u, rfl, q1, q2⟩; exact ⟨u, rfl, q1, q2⟩)
  have HDC : Hid (∀ W' u, Nat16 W' u x → Calls Try.prog 60 #[u] W' fun e w' => e = .returned (.string ⟨(dec x).toArray⟩) ∧ Hid (Below W'.heap.size W' w')) := fun W' u h => rdecimal_any x u W' h (by
    have h3 : (digs W16 x).length ≤ 2 := digs_len_le W16_gt (by unfold W16; omega)
    omega)
  have HSZ : Hid ((⟨(dec x).toArray⟩ : ByteArray).size ≤ 1300) := by
    have h3 : (digs W16 x).length ≤ 2 := digs_len_le W16_gt (by unfold W16; omega)
    have := dec_len16 (x := x) (by omega)
    show _ ≤ _
    simpa [ByteArray.size] using this
  generalize (⟨(dec x).toArray⟩ : ByteArray) = dx at *
  have hadd : ∀ W', (Op.stringOp .add ⟨#[118]⟩ dx).run Try.prog W' = .ok (.string ((⟨#[118]⟩ : ByteArray) ++ dx)) W' := fun W' => run_string_add_sum W' _ _ (by have h0 := HSZ.out; have h1 : (⟨#[118]⟩ : ByteArray).size = 1 := rfl; omega)
  generalize ((⟨#[118]⟩ : ByteArray) ++ dx) = rs at *
  clear hx
  go_enter Try.func42, Try.ntmps42
  go_wp2_with fail
  refine (HOI.out _).mono ?_
  rintro e w1 ⟨u, rfl, HU⟩
  have HW1 : Hid (Below W.heap.size W w1) := HBA.out.trans (HU.out.2.mono HBA.out.size)
  have HC1 := Lib.hid (HDC.out _ _ HU.out.1)
  obtain ⟨UA, uc, rfl, _⟩ := HU.out.1
  clear HU HOI HDC hwu
  go_wp2_with fail
  refine HC1.out.mono ?_
  rintro e w2 ⟨rfl, hb2⟩
  have HW2 : Hid (Below W.heap.size W w2) := HW1.out.trans (hb2.out.mono HW1.out.size)
  clear hb2 HC1
  go_wp2_with fail
  go_ret
  exact ⟨rfl, HW2.out⟩

set_option maxRecDepth 100000 in
set_option maxHeartbeats 1000000 in
theorem label_2 (W : World) (s : ByteArray) (ng : Bool) (A1 B1 Ar : Option Addr) (m1 q1 m2 q2 l cap : Nat) (v : Int) (ft : ByteArray) (hft : ft.size ≤ 10000) (n x y : Nat) (hof : ∀ W', Below W.heap.size W W' → Calls Try.prog 63 #[.agg #[.bool ng, .slice A1 m1 q1, .slice B1 m2 q2]] W' fun e w' => ∃ u, e = .returned u ∧ Hid (RV w' u ng x y ∧ Below W'.heap.size W' w')) (htx : ∀ W' u, RV W' u ng x y → Calls Try.prog 62 #[u] W' fun e w' => e = .returned (.string ft) ∧ Hid (Below W'.heap.size W' w')) :
    Calls Try.prog 42 #[.agg #[.int .i64 2, .int .i64 v, .string s, .bool ng, .slice A1 m1 q1, .slice B1 m2 q2, .slice Ar l cap]] W fun e W' => e = .returned (.string ((⟨#[110]⟩ : ByteArray) ++ ft)) ∧ Below W.heap.size W W' := by
  have HBA : Hid (Below W.heap.size W (W.alloc (.cells #[.int .i64 2, .int .i64 v, .string s, .bool ng, .slice A1 m1 q1, .slice B1 m2 q2, .slice Ar l cap] 27))) := below_one W _
  have HNE := Lib.hid hof
  have HTX := Lib.hid htx
  have hadd : ∀ W', (Op.stringOp .add ⟨#[110]⟩ ft).run Try.prog W' = .ok (.string ((⟨#[110]⟩ : ByteArray) ++ ft)) W' := fun W' => run_string_add_sum W' _ _ (by have h1 : (⟨#[110]⟩ : ByteArray).size = 1 := rfl; omega)
  generalize ((⟨#[110]⟩ : ByteArray) ++ ft) = rs at *
  clear hof htx hft
  go_enter Try.func42, Try.ntmps42
  go_wp2_with fail
  refine (HNE.out _ HBA.out).mono ?_
  rintro e w1 ⟨u, rfl, HU⟩
  have HW1 : Hid (Below W.heap.size W w1) := HBA.out.trans (HU.out.2.mono HBA.out.size)
  have HC1 := Lib.hid (HTX.out _ _ HU.out.1)
  obtain ⟨U1, un1, uc1, U2, un2, uc2, rfl, hq0⟩ := HU.out.1.form
  clear hq0
  clear HU HNE HTX
  go_wp2_with fail
  refine HC1.out.mono ?_
  intro e w2 hq
  have hb2 := hq.2
  have he := hq.1
  clear hq
  subst he
  have HW2 : Hid (Below W.heap.size W w2) := HW1.out.trans (hb2.out.mono HW1.out.size)
  clear hb2 HC1
  go_wp2_with fail
  go_ret
  exact ⟨rfl, HW2.out⟩

set_option maxRecDepth 100000 in
set_option maxHeartbeats 1000000 in
theorem label_3 (W : World) (s : ByteArray) (ng : Bool) (A1 B1 Ar : Option Addr) (m1 q1 m2 q2 l cap : Nat) (v : Int) (hs : s.size ≤ 10000) :
    Calls Try.prog 42 #[.agg #[.int .i64 3, .int .i64 v, .string s, .bool ng, .slice A1 m1 q1, .slice B1 m2 q2, .slice Ar l cap]] W fun e W' => e = .returned (.string ((⟨#[97]⟩ : ByteArray) ++ s)) ∧ Below W.heap.size W W' := by
  have HBA : Hid (Below W.heap.size W (W.alloc (.cells #[.int .i64 3, .int .i64 v, .string s, .bool ng, .slice A1 m1 q1, .slice B1 m2 q2, .slice Ar l cap] 27))) := below_one W _
  have hadd : ∀ W', (Op.stringOp .add ⟨#[97]⟩ s).run Try.prog W' = .ok (.string ((⟨#[97]⟩ : ByteArray) ++ s)) W' := fun W' => run_string_add_sum W' _ _ (by have h1 : (⟨#[97]⟩ : ByteArray).size = 1 := rfl; omega)
  generalize ((⟨#[97]⟩ : ByteArray) ++ s) = rs at *
  clear hs
  go_enter Try.func42, Try.ntmps42
  go_wp2_with fail
  go_ret
  exact ⟨rfl, HBA.out⟩

set_option maxRecDepth 100000 in
set_option maxHeartbeats 1000000 in
theorem label_4 (W : World) (s : ByteArray) (ng : Bool) (A1 B1 Ar : Option Addr) (m1 q1 m2 q2 l cap : Nat) (v : Int) (hs : s.size ≤ 10000) :
    Calls Try.prog 42 #[.agg #[.int .i64 4, .int .i64 v, .string s, .bool ng, .slice A1 m1 q1, .slice B1 m2 q2, .slice Ar l cap]] W fun e W' => e = .returned (.string ((⟨#[115]⟩ : ByteArray) ++ s)) ∧ Below W.heap.size W W' := by
  have HBA : Hid (Below W.heap.size W (W.alloc (.cells #[.int .i64 4, .int .i64 v, .string s, .bool ng, .slice A1 m1 q1, .slice B1 m2 q2, .slice Ar l cap] 27))) := below_one W _
  have hadd : ∀ W', (Op.stringOp .add ⟨#[115]⟩ s).run Try.prog W' = .ok (.string ((⟨#[115]⟩ : ByteArray) ++ s)) W' := fun W' => run_string_add_sum W' _ _ (by have h1 : (⟨#[115]⟩ : ByteArray).size = 1 := rfl; omega)
  generalize ((⟨#[115]⟩ : ByteArray) ++ s) = rs at *
  clear hs
  go_enter Try.func42, Try.ntmps42
  go_wp2_with fail
  go_ret
  exact ⟨rfl, HBA.out⟩

set_option maxRecDepth 100000 in
set_option maxHeartbeats 1000000 in
theorem label_5 (W : World) (s : ByteArray) (ng : Bool) (A1 B1 Ar : Option Addr) (m1 q1 m2 q2 l cap : Nat) (v : Int) (hs : s.size ≤ 10000) (hl : l ≤ 32) :
    Calls Try.prog 42 #[.agg #[.int .i64 5, .int .i64 v, .string s, .bool ng, .slice A1 m1 q1, .slice B1 m2 q2, .slice Ar l cap]] W fun e W' => e = .returned (.string (((⟨#[99]⟩ : ByteArray) ++ Utf8.encode (48 + (l : Int))) ++ s)) ∧ Below W.heap.size W W' := by
  have HBA : Hid (Below W.heap.size W (W.alloc (.cells #[.int .i64 5, .int .i64 v, .string s, .bool ng, .slice A1 m1 q1, .slice B1 m2 q2, .slice Ar l cap] 27))) := below_one W _
  have he : (Utf8.encode (48 + (l : Int))).size = 1 := by
    have : ∀ m : Fin 33, (Utf8.encode (48 + (m.val : Int))).size = 1 := by decide +kernel
    exact this ⟨l, by omega⟩
  have hw1 : IntKind.i64.wrap (48 + (l : Int)) = 48 + (l : Int) := by rw [IntKind.wrap_i64]; omega
  have hw2 : IntKind.i32.wrap (48 + (l : Int)) = 48 + (l : Int) := by rw [IntKind.wrap_i32]; omega
  have hadd : ∀ W', (Op.stringOp .add ⟨#[99]⟩ (Utf8.encode (48 + (l : Int)))).run Try.prog W' = .ok (.string ((⟨#[99]⟩ : ByteArray) ++ Utf8.encode (48 + (l : Int)))) W' := fun W' => run_string_add_sum W' _ _ (by have h1 : (⟨#[99]⟩ : ByteArray).size = 1 := rfl; omega)
  have h2 : ((⟨#[99]⟩ : ByteArray) ++ Utf8.encode (48 + (l : Int))).size = 2 := by rw [ByteArray.size_append, he]; rfl
  generalize hen : (⟨#[99]⟩ : ByteArray) ++ Utf8.encode (48 + (l : Int)) = en at *
  have hadd2 : ∀ W', (Op.stringOp .add en s).run Try.prog W' = .ok (.string (en ++ s)) W' := fun W' => run_string_add_sum W' _ _ (by omega)
  generalize en ++ s = rs at *
  clear hs he h2 hl
  go_enter Try.func42, Try.ntmps42
  go_wp2_with fail
  go_ret
  exact ⟨rfl, HBA.out⟩

theorem label_any {w : World} {k v : Int} {s : ByteArray} {n : LN} {args : List Tm} {cs : List Value} (h : TC w (.mk k v s n args) cs) (hv : nodeE k v s n.neg n.num.length n.den.length n.err args.length = 0) (W : World) (hW : Below w.heap.size w W) :
    Calls Try.prog 42 #[.agg cs.toArray] W fun e W' => e = .returned (.string (labelB (.mk k v s n args))) ∧ Below W.heap.size W W' := by
  cases h with
  | mk k v s n args A B Ar cap cs hk hvv hs hA hB hn hcap hm hr ha =>
    have HGV : ∀ W', Below W.heap.size W W' → GV W' (.agg #[.bool n.neg, A, B]) n := fun W' hb => ⟨A, B, rfl, hA.to (hW.trans (hb.mono hW.size)), hB.to (hW.trans (hb.mono hW.size)), hn⟩
    obtain ⟨A1, q1, rfl, _⟩ := hA
    obtain ⟨B1, q2, rfl, _⟩ := hB
    unfold labelB
    rcases node_parts hv with ⟨rfl, a1, a2, a3, a4⟩ | ⟨_, _, _, _, ⟨rfl, a1, a2, a3, a4⟩ | ⟨rfl, a1, a2, a3⟩ | ⟨rfl, a1, a2, a3⟩ | ⟨rfl, a1, a2, a3, a4⟩⟩
    · have hg := LN.good hn a3
      have hl := LN.len16 hn a3
      have hx := dec_len16 hl.1
      have hy := dec_len16 hl.2
      refine label_2 W s n.neg A1 B1 Ar _ q1 _ q2 _ cap v ⟨(fmtL n.neg n.x n.y).toArray⟩ ?_ 0 n.x n.y (fun W' hb => ?_) (fun W' u h1 => ?_)
      · have hf : (fmtL n.neg n.x n.y).length ≤ 2700 := by
          unfold fmtL
          (repeat' split) <;> simp <;> omega
        simp [ByteArray.size]
        omega
      · refine (rof_any n _ W' (HGV W' hb) (Nat.le_trans hg.2.2.1 (by omega)) (Nat.le_trans hg.2.2.2.1 (by omega))).mono ?_
        rintro e w' ⟨u, rfl, h1, h2⟩
        exact ⟨u, rfl, h1, h2⟩
      · exact rtext_any n.neg n.x n.y u W' h1 hl.1 hl.2
    · obtain ⟨x, rfl⟩ : ∃ x : Nat, v = (x : Int) := ⟨v.toNat, by omega⟩
      exact label_1 W s n.neg A1 B1 Ar _ q1 _ q2 _ cap x (by omega)
    · exact label_3 W s n.neg A1 B1 Ar _ q1 _ q2 _ cap v (by omega)
    · exact label_4 W s n.neg A1 B1 Ar _ q1 _ q2 _ cap v (by omega)
    · exact label_5 W s n.neg A1 B1 Ar _ q1 _ q2 _ cap v (by omega) a4
end Go.Proofs.Ytkamkaehlofgpaa
