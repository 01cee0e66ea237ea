/-  -/
import Derived.Test.YtdmhkhnnomdkcaaGreatDoorJo19
import Derived.Test.YtdmhkhnnomdkcaaGreatDoorJo20
import Derived.Test.YtdmhkhnnomdkcaaGreatDoorJo21
set_option linter.unusedVariables false
set_option linter.unusedSimpArgs false
/- number.Parse, at any text. -/
namespace Go.Proofs.YtdmhkhnnomdkcaaGreatDoor
open Go.RowKit NumB
set_option linter.unusedVariables false
set_option linter.unusedSimpArgs false

/-- The parts of a text: the sign, the text before and behind the r, whether there is one. -/
def pNeg (l : List UInt8) : Bool := Lib.hasPrefix l [45]
def pCut (l : List UInt8) : List UInt8 × List UInt8 × Bool := cutB (Lib.trimPrefix l [45]) 114
def pDen (l : List UInt8) : Nat := if (pCut l).2.2 then dval (pCut l).2.1 else 1
/-- The error of a text. -/
def parseErr (l : List UInt8) : Int :=
  if 2500 < l.length then 3 else if digitsB (pCut l).1 = false ∨ ((pCut l).2.2 = true ∧ digitsB (pCut l).2.1 = false) then 6 else if pDen l = 0 then 10 else 0

theorem trimPrefix_len (l p : List UInt8) : (Lib.trimPrefix l p).length ≤ l.length := by
  unfold Lib.trimPrefix
  split
  · rw [List.length_drop]; omega
  · exact Nat.le_refl _
theorem cutB_len (l : List UInt8) (c : UInt8) : (cutB l c).1.length ≤ l.length ∧ (cutB l c).2.1.length ≤ l.length := by
  unfold cutB
  split
  · exact ⟨List.length_take_le' _ _, by rw [List.length_drop]; omega⟩
  · exact ⟨Nat.le_refl _, by simp⟩
theorem size_mk (l : List UInt8) : (⟨l.toArray⟩ : ByteArray).size = l.length := by rw [Lib.size_eq]

def ParsePost (w : World) (l : List UInt8) : Ending → World → Prop :=
  OpPost w (parseErr l) (pNeg l && decide (0 < dval (pCut l).1)) (dval (pCut l).1 / Nat.gcd (dval (pCut l).1) (pDen l)) (pDen l / Nat.gcd (dval (pCut l).1) (pDen l))

set_option maxRecDepth 100000 in
set_option maxHeartbeats 1600000 in
theorem parse_long (s : ByteArray) (w : World) (hs : s.size ≤ maxLen) (h : 2500 < s.size) : Calls Tryz.prog 31 #[.string s] w (ParsePost w s.data.toList) := by
  have E : Hid (parseErr s.data.toList = 3) := by unfold Hid parseErr; rw [if_pos (by rw [← Lib.size_eq]; exact h)]
  unfold maxLen at hs
  go_enter Tryz.func31, Tryz.ntmps31
  go_wp2
  refine bodyPost_ret (v := .tuple #[zeroNum, .int .i64 3]) (by rw [results_cell_tmp rfl]; go_simp; rfl) rfl ?_
  unfold ParsePost
  rw [E.out]
  exact .inl ⟨by omega, rfl, below_one _ _⟩

set_option maxRecDepth 100000 in
set_option maxHeartbeats 6400000 in
theorem parse_short (s : ByteArray) (w : World) (h : s.size ≤ 2500) : Calls Tryz.prog 31 #[.string s] w (ParsePost w s.data.toList) := by
  have E : Hid (parseErr s.data.toList = if digitsB (pCut s.data.toList).1 = false ∨ ((pCut s.data.toList).2.2 = true ∧ digitsB (pCut s.data.toList).2.1 = false) then 6 else if pDen s.data.toList = 0 then 10 else 0) := by unfold Hid parseErr; rw [if_neg (by rw [← Lib.size_eq]; omega)]
  have HP := Lib.hid (fun W => Tryz.strings_CutPrefix s ⟨#[45]⟩ W)
  have hl0 : (Lib.trimPrefix s.data.toList [45]).length ≤ 2500 := Nat.le_trans (trimPrefix_len _ _) (by rw [← Lib.size_eq]; exact h)
  have hl1 := cutB_len (Lib.trimPrefix s.data.toList [45]) 114
  have HCU := Lib.hid (fun W => cut_any ⟨(Lib.trimPrefix s.data.toList [45]).toArray⟩ 114 W (by rw [size_mk]; omega))
  unfold ParsePost pNeg pDen at *
  have e45 : (⟨#[45]⟩ : ByteArray).data.toList = [45] := rfl
  have eP : (⟨(Lib.trimPrefix s.data.toList [45]).toArray⟩ : ByteArray).data.toList = Lib.trimPrefix s.data.toList [45] := by simp
  rw [e45] at HP
  rw [eP] at HCU
  have epc : pCut s.data.toList = cutB (Lib.trimPrefix s.data.toList [45]) 114 := rfl
  rw [← epc] at HCU hl1
  clear eP e45 epc
  generalize (pCut s.data.toList).1 = lnum at *
  generalize (pCut s.data.toList).2.1 = lden at *
  generalize (pCut s.data.toList).2.2 = fr at *
  generalize parseErr s.data.toList = er at *
  generalize Lib.hasPrefix s.data.toList [45] = neg at *
  generalize Lib.trimPrefix s.data.toList [45] = l0 at *
  have HLN : Hid (lnum.length ≤ 1000000 ∧ lden.length ≤ 1000000) := ⟨by omega, by omega⟩
  have HLS : Hid (lnum.length ≤ 10000 ∧ lden.length ≤ 10000) := ⟨by omega, by omega⟩
  have HBK := Lib.hid (nilBlk w)
  clear hl0 hl1
  have ed : ∀ l : List UInt8, (⟨l.toArray⟩ : ByteArray).data.toList = l := fun l => by simp
  by_cases hd1 : digitsB lnum = false
  · have E2 : Hid (er = 6) := by unfold Hid; rw [E.out, if_pos (.inl hd1)]
    have HD1 : Hid (digitsB (⟨lnum.toArray⟩ : ByteArray).data.toList = false) := by unfold Hid; rw [ed]; exact hd1
    clear hd1 E ed
    generalize hdd : (if fr = true then dval lden else 1) = dd
    clear hdd
    go_enter Tryz.func31, Tryz.ntmps31
    go_wp2_with fail
    refine (HP.out _).mono ?_
    rintro e w1 ⟨rfl, rfl⟩
    go_wp2_with fail
    refine (HCU.out _).mono ?_
    rintro e w1 ⟨rfl, k1, rfl⟩
    go_wp2_with fail
    refine (digits_any ⟨lnum.toArray⟩ _ (by rw [size_mk]; exact HLN.out.1)).mono ?_
    rintro e w2 ⟨rfl, hb2⟩
    rw [HD1.out]
    have HB2 : Hid (Below (w.alloc (.cells #[.bool false, .slice none 0 0, .slice none 0 0] 24)).heap.size (w.alloc (.cells #[.bool false, .slice none 0 0, .slice none 0 0] 24)) w2) := below_undrewN hb2
    clear hb2
    have hblk := HBK.out.to HB2.out
    have HBE : Hid (Below w.heap.size w _) := (below_one w _).trans (HB2.out.mono (below_one w _).size)
    have hc0 := hblk.cell 0
    have hc1 := hblk.cell 1
    have hc2 := hblk.cell 2
    have hf0 := hblk.frozen 0
    have hf1 := hblk.frozen 1
    have hf2 := hblk.frozen 2
    have HBLK := Lib.hid hblk
    clear hblk
    simp only [List.getElem?_toArray, List.getElem?_cons_zero, List.getElem?_cons_succ] at hc0 hc1 hc2
    go_wp2_with fail
    refine bodyPost_ret (v := .tuple #[zeroNum, .int .i64 6]) (by rw [results_cell_tmp rfl]; go_simp; rfl) rfl ?_
    rw [E2.out]
    exact .inl ⟨by omega, rfl, put3_below HBE.out (Nat.le_refl _) _ _ _⟩
  have hd1 : digitsB lnum = true := by simpa using hd1
  have HD1 : Hid (digitsB (⟨lnum.toArray⟩ : ByteArray).data.toList = true) := by unfold Hid; rw [ed]; exact hd1
  have had1 : allDig lnum = true := by unfold digitsB at hd1; exact (Bool.and_eq_true _ _ ▸ hd1 : _ ∧ _).2
  have HA1 : Hid (allDig (⟨lnum.toArray⟩ : ByteArray).data.toList = true) := by unfold Hid; rw [ed]; exact had1
  have hln := digs32_dec (dval_lt had1)
  have HFN : Hid (∀ W : World, Calls Tryz.prog 56 #[.string ⟨lnum.toArray⟩] W (NPost W (dval lnum))) := fun W => by have := fromDec_any ⟨lnum.toArray⟩ W (by rw [size_mk]; exact HLS.out.1) HA1.out; rw [ed] at this; exact this
  cases fr with
  | false =>
    rw [if_neg (by simp [hd1])] at E
    simp only [Bool.false_eq_true, if_false] at E ⊢
    have E2 : Hid (er = 0) := by unfold Hid; rw [E.out]; rfl
    obtain ⟨dn, hdn⟩ : ∃ dn : Nat, dn = 1 := ⟨1, rfl⟩
    have HD0 : Hid (0 < dn) := by unfold Hid; omega
    have HLA : Hid ((digs W32 (dval lnum)).length ≤ 50000 ∧ (digs W32 dn).length ≤ 50000) := ⟨by have := HLS.out.1; omega, by rw [hdn, digs_one32]; decide⟩
    have HDN := Lib.hid hdn
    rw [← hdn]
    clear hd1 E ed had1 HA1 hln hdn
    go_enter Tryz.func31, Tryz.ntmps31
    go_wp2_with fail
    refine (HP.out _).mono ?_
    rintro e w1 ⟨rfl, rfl⟩
    go_wp2_with fail
    refine (HCU.out _).mono ?_
    rintro e w1 ⟨rfl, k1, rfl⟩
    go_wp2_with fail
    refine (digits_any ⟨lnum.toArray⟩ _ (by rw [size_mk]; exact HLN.out.1)).mono ?_
    rintro e w2 ⟨rfl, hb2⟩
    rw [HD1.out]
    have HB2 : Hid (Below (w.alloc (.cells #[.bool false, .slice none 0 0, .slice none 0 0] 24)).heap.size (w.alloc (.cells #[.bool false, .slice none 0 0, .slice none 0 0] 24)) w2) := below_undrewN hb2
    clear hb2
    go_wp2_with fail
    have HB2' := Lib.hid (HB2.out.alloc HB2.out.size (.cells #[.int .u32 1] 35))
    have HO1 : Hid (Nat32 (w2.alloc (.cells #[.int .u32 1] 35)) (.slice (some ⟨w2.heap.size, 0, none⟩) 1 1) dn) := by unfold Hid; rw [HDN.out]; exact one32 w2
    refine (HFN.out _).mono ?_
    rintro e w5 ⟨v5, rfl, hn5, hb5⟩
    have HNN := Lib.hid hn5
    have HND := Lib.hid (HO1.out.to hb5)
    have HB5 := Lib.hid (HB2'.out.trans (hb5.mono HB2'.out.size))
    clear hn5 hb5 HB2 HB2' HO1
    go_wp2_with fail
    refine (made_any neg (dval lnum) dn _ _ _ (by exact HNN.out) (by exact HND.out) HD0.out (by exact HLA.out.1) (by exact HLA.out.2)).mono ?_
    rintro e w6 (⟨hf, v6, rfl, hn6, hb6⟩ | ⟨hf, rfl, hb6⟩)
    · have HB6 := Lib.hid (HB5.out.trans (hb6.mono HB5.out.size))
      have HN6 := Lib.hid hn6
      have HF := Lib.hid hf
      clear hn6 hb6 hf
      have hblk := HBK.out.to HB6.out
      have HBE : Hid (Below w.heap.size w _) := (below_one w _).trans (HB6.out.mono (below_one w _).size)
      have hc0 := hblk.cell 0
      have hc1 := hblk.cell 1
      have hc2 := hblk.cell 2
      have hf0 := hblk.frozen 0
      have hf1 := hblk.frozen 1
      have hf2 := hblk.frozen 2
      have HBLK := Lib.hid hblk
      clear hblk
      simp only [List.getElem?_toArray, List.getElem?_cons_zero, List.getElem?_cons_succ] at hc0 hc1 hc2
      obtain ⟨A, n, c, A', m, d, rfl, hl1, hl2⟩ := HN6.out.form
      clear hl1 hl2
      generalize hsg : (neg && decide (0 < dval lnum)) = sg at *
      clear hsg
      go_wp2_with fail
      refine bodyPost_ret (v := .tuple #[.agg #[.bool sg, .slice A n c, .slice A' m d], .int .i64 0]) (by rw [results_cell_tmp rfl]; go_simp) rfl ?_
      rw [E2.out]
      refine .inr ⟨rfl, .inl ⟨HF.out, _, rfl, ?_, ?_⟩⟩
      · exact HN6.out.put3 HBLK.out _ _ _
      · exact put3_below HBE.out (Nat.le_refl _) _ _ _
    · have HB6 := Lib.hid (HB5.out.trans (hb6.mono HB5.out.size))
      have HF := Lib.hid hf
      clear hb6 hf
      have hblk := HBK.out.to HB6.out
      have HBE : Hid (Below w.heap.size w _) := (below_one w _).trans (HB6.out.mono (below_one w _).size)
      have hc0 := hblk.cell 0
      have hc1 := hblk.cell 1
      have hc2 := hblk.cell 2
      have hf0 := hblk.frozen 0
      have hf1 := hblk.frozen 1
      have hf2 := hblk.frozen 2
      have HBLK := Lib.hid hblk
      clear hblk
      simp only [List.getElem?_toArray, List.getElem?_cons_zero, List.getElem?_cons_succ] at hc0 hc1 hc2
      unfold zeroNum
      go_wp2_with fail
      refine bodyPost_ret (v := .tuple #[zeroNum, .int .i64 3]) (by rw [results_cell_tmp rfl]; go_simp; rfl) rfl ?_
      rw [E2.out]
      refine .inr ⟨rfl, .inr ⟨HF.out, rfl, ?_⟩⟩
      exact put3_below HBE.out (Nat.le_refl _) _ _ _
  | true =>
    by_cases hd2 : digitsB lden = false
    · have E2 : Hid (er = 6) := by unfold Hid; rw [E.out, if_pos (.inr ⟨rfl, hd2⟩)]
      have HD2 : Hid (digitsB (⟨lden.toArray⟩ : ByteArray).data.toList = false) := by unfold Hid; rw [ed]; exact hd2
      clear hd1 hd2 E ed had1 HA1 hln
      go_enter Tryz.func31, Tryz.ntmps31
      go_wp2_with fail
      refine (HP.out _).mono ?_
      rintro e w1 ⟨rfl, rfl⟩
      go_wp2_with fail
      refine (HCU.out _).mono ?_
      rintro e w1 ⟨rfl, k1, rfl⟩
      go_wp2_with fail
      refine (digits_any ⟨lnum.toArray⟩ _ (by rw [size_mk]; exact HLN.out.1)).mono ?_
      rintro e w2 ⟨rfl, hb2⟩
      rw [HD1.out]
      have HB2 : Hid (Below (w.alloc (.cells #[.bool false, .slice none 0 0, .slice none 0 0] 24)).heap.size (w.alloc (.cells #[.bool false, .slice none 0 0, .slice none 0 0] 24)) w2) := below_undrewN hb2
      clear hb2
      go_wp2_with fail
      refine (digits_any ⟨lden.toArray⟩ _ (by rw [size_mk]; exact HLN.out.2)).mono ?_
      rintro e w3 ⟨rfl, hb3⟩
      rw [HD2.out]
      have HB3 := Lib.hid (HB2.out.trans (hb3.mono HB2.out.size))
      clear hb3 HB2
      have hblk := HBK.out.to HB3.out
      have HBE : Hid (Below w.heap.size w _) := (below_one w _).trans (HB3.out.mono (below_one w _).size)
      have hc0 := hblk.cell 0
      have hc1 := hblk.cell 1
      have hc2 := hblk.cell 2
      have hf0 := hblk.frozen 0
      have hf1 := hblk.frozen 1
      have hf2 := hblk.frozen 2
      have HBLK := Lib.hid hblk
      clear hblk
      simp only [List.getElem?_toArray, List.getElem?_cons_zero, List.getElem?_cons_succ] at hc0 hc1 hc2
      go_wp2_with fail
      refine bodyPost_ret (v := .tuple #[zeroNum, .int .i64 6]) (by rw [results_cell_tmp rfl]; go_simp; rfl) rfl ?_
      rw [E2.out]
      exact .inl ⟨by omega, rfl, put3_below HBE.out (Nat.le_refl _) _ _ _⟩
    have hd2 : digitsB lden = true := by simpa using hd2
    have HD2 : Hid (digitsB (⟨lden.toArray⟩ : ByteArray).data.toList = true) := by unfold Hid; rw [ed]; exact hd2
    have had2 : allDig lden = true := by unfold digitsB at hd2; exact (Bool.and_eq_true _ _ ▸ hd2 : _ ∧ _).2
    have HA2 : Hid (allDig (⟨lden.toArray⟩ : ByteArray).data.toList = true) := by unfold Hid; rw [ed]; exact had2
    have hld := digs32_dec (dval_lt had2)
    have HFD : Hid (∀ W : World, Calls Tryz.prog 56 #[.string ⟨lden.toArray⟩] W (NPost W (dval lden))) := fun W => by have := fromDec_any ⟨lden.toArray⟩ W (by rw [size_mk]; exact HLS.out.2) HA2.out; rw [ed] at this; exact this
    rw [if_neg (by simp [hd1, hd2])] at E
    simp only [if_true] at E ⊢
    generalize hdn : dval lden = dn at *
    by_cases hz : dn = 0
    · have E2 : Hid (er = 10) := by unfold Hid; rw [E.out, if_pos hz]
      subst hz
      clear hd1 hd2 E ed had1 had2 HA1 HA2 hln hld hdn
      go_enter Tryz.func31, Tryz.ntmps31
      go_wp2_with fail
      refine (HP.out _).mono ?_
      rintro e w1 ⟨rfl, rfl⟩
      go_wp2_with fail
      refine (HCU.out _).mono ?_
      rintro e w1 ⟨rfl, k1, rfl⟩
      go_wp2_with fail
      refine (digits_any ⟨lnum.toArray⟩ _ (by rw [size_mk]; exact HLN.out.1)).mono ?_
      rintro e w2 ⟨rfl, hb2⟩
      rw [HD1.out]
      have HB2 : Hid (Below (w.alloc (.cells #[.bool false, .slice none 0 0, .slice none 0 0] 24)).heap.size (w.alloc (.cells #[.bool false, .slice none 0 0, .slice none 0 0] 24)) w2) := below_undrewN hb2
      clear hb2
      go_wp2_with fail
      refine (digits_any ⟨lden.toArray⟩ _ (by rw [size_mk]; exact HLN.out.2)).mono ?_
      rintro e w3 ⟨rfl, hb3⟩
      rw [HD2.out]
      have HB3 := Lib.hid (HB2.out.trans (hb3.mono HB2.out.size))
      clear hb3 HB2
      go_wp2_with fail
      have HB4 := Lib.hid (HB3.out.alloc HB3.out.size (.cells #[.int .u32 1] 35))
      refine (HFD.out _).mono ?_
      rintro e w5 ⟨v5, rfl, hn5, hb5⟩
      obtain ⟨A, n, c, rfl, hn⟩ := hn5.form
      rw [digs_zero] at hn
      obtain rfl : n = 0 := hn
      have HB5 := Lib.hid (HB4.out.trans (hb5.mono HB4.out.size))
      clear hn5 hb5 HB3 HB4
      have hblk := HBK.out.to HB5.out
      have HBE : Hid (Below w.heap.size w _) := (below_one w _).trans (HB5.out.mono (below_one w _).size)
      have hc0 := hblk.cell 0
      have hc1 := hblk.cell 1
      have hc2 := hblk.cell 2
      have hf0 := hblk.frozen 0
      have hf1 := hblk.frozen 1
      have hf2 := hblk.frozen 2
      have HBLK := Lib.hid hblk
      clear hblk
      simp only [List.getElem?_toArray, List.getElem?_cons_zero, List.getElem?_cons_succ] at hc0 hc1 hc2
      go_wp2_with fail
      refine bodyPost_ret (v := .tuple #[zeroNum, .int .i64 10]) (by rw [results_cell_tmp rfl]; go_simp; rfl) rfl ?_
      rw [E2.out]
      exact .inl ⟨by omega, rfl, put3_below HBE.out (Nat.le_refl _) _ _ _⟩
    · have E2 : Hid (er = 0) := by unfold Hid; rw [E.out, if_neg hz]
      have HD0 : Hid (0 < dn) := by unfold Hid; omega
      have HLA : Hid ((digs W32 (dval lnum)).length ≤ 50000 ∧ (digs W32 dn).length ≤ 50000) := ⟨by have := HLS.out.1; omega, by have := HLS.out.2; omega⟩
      clear hd1 hd2 E ed had1 had2 HA1 HA2 hln hld hz hdn
      go_enter Tryz.func31, Tryz.ntmps31
      go_wp2_with fail
      refine (HP.out _).mono ?_
      rintro e w1 ⟨rfl, rfl⟩
      go_wp2_with fail
      refine (HCU.out _).mono ?_
      rintro e w1 ⟨rfl, k1, rfl⟩
      go_wp2_with fail
      refine (digits_any ⟨lnum.toArray⟩ _ (by rw [size_mk]; exact HLN.out.1)).mono ?_
      rintro e w2 ⟨rfl, hb2⟩
      rw [HD1.out]
      have HB2 : Hid (Below (w.alloc (.cells #[.bool false, .slice none 0 0, .slice none 0 0] 24)).heap.size (w.alloc (.cells #[.bool false, .slice none 0 0, .slice none 0 0] 24)) w2) := below_undrewN hb2
      clear hb2
      go_wp2_with fail
      refine (digits_any ⟨lden.toArray⟩ _ (by rw [size_mk]; exact HLN.out.2)).mono ?_
      rintro e w3 ⟨rfl, hb3⟩
      rw [HD2.out]
      have HB3 := Lib.hid (HB2.out.trans (hb3.mono HB2.out.size))
      clear hb3 HB2
      go_wp2_with fail
      have HB4 := Lib.hid (HB3.out.alloc HB3.out.size (.cells #[.int .u32 1] 35))
      refine (HFD.out _).mono ?_
      rintro e w5 ⟨v5, rfl, hn5, hb5⟩
      obtain ⟨A, n, c, rfl, hn⟩ := hn5.form
      have hn0 : ((n : Int) == 0) = false := beq_eq_false_iff_ne.2 (by have := (len_pos32 hn).2 HD0.out; omega)
      have HN5 := Lib.hid hn5
      have HB5 := Lib.hid (HB4.out.trans (hb5.mono HB4.out.size))
      clear hn5 hb5 HB3 HB4 hn
      go_wp2_with fail
      refine (HFN.out _).mono ?_
      rintro e w7 ⟨v7, rfl, hn7, hb7⟩
      have HNN := Lib.hid hn7
      have HND := Lib.hid (HN5.out.to hb7)
      have HB7 := Lib.hid (HB5.out.trans (hb7.mono HB5.out.size))
      clear hn7 hb7 HB5 HN5
      go_wp2_with fail
      refine (made_any neg (dval lnum) dn _ _ _ (by exact HNN.out) (by exact HND.out) HD0.out (by exact HLA.out.1) (by exact HLA.out.2)).mono ?_
      rintro e w6 (⟨hf, v6, rfl, hn6, hb6⟩ | ⟨hf, rfl, hb6⟩)
      · have HB6 := Lib.hid (HB7.out.trans (hb6.mono HB7.out.size))
        have HN6 := Lib.hid hn6
        have HF := Lib.hid hf
        clear hn6 hb6 hf
        have hblk := HBK.out.to HB6.out
        have HBE : Hid (Below w.heap.size w _) := (below_one w _).trans (HB6.out.mono (below_one w _).size)
        have hc0 := hblk.cell 0
        have hc1 := hblk.cell 1
        have hc2 := hblk.cell 2
        have hf0 := hblk.frozen 0
        have hf1 := hblk.frozen 1
        have hf2 := hblk.frozen 2
        have HBLK := Lib.hid hblk
        clear hblk
        simp only [List.getElem?_toArray, List.getElem?_cons_zero, List.getElem?_cons_succ] at hc0 hc1 hc2
        obtain ⟨A, n, c, A', m, d, rfl, hl1, hl2⟩ := HN6.out.form
        clear hl1 hl2
        generalize hsg : (neg && decide (0 < dval lnum)) = sg at *
        clear hsg
        go_wp2_with fail
        refine bodyPost_ret (v := .tuple #[.agg #[.bool sg, .slice A n c, .slice A' m d], .int .i64 0]) (by rw [results_cell_tmp rfl]; go_simp) rfl ?_
        rw [E2.out]
        refine .inr ⟨rfl, .inl ⟨HF.out, _, rfl, ?_, ?_⟩⟩
        · exact HN6.out.put3 HBLK.out _ _ _
        · exact put3_below HBE.out (Nat.le_refl _) _ _ _
      · have HB6 := Lib.hid (HB7.out.trans (hb6.mono HB7.out.size))
        have HF := Lib.hid hf
        clear hb6 hf
        have hblk := HBK.out.to HB6.out
        have HBE : Hid (Below w.heap.size w _) := (below_one w _).trans (HB6.out.mono (below_one w _).size)
        have hc0 := hblk.cell 0
        have hc1 := hblk.cell 1
        have hc2 := hblk.cell 2
        have hf0 := hblk.frozen 0
        have hf1 := hblk.frozen 1
        have hf2 := hblk.frozen 2
        have HBLK := Lib.hid hblk
        clear hblk
        simp only [List.getElem?_toArray, List.getElem?_cons_zero, List.getElem?_cons_succ] at hc0 hc1 hc2
        unfold zeroNum
        go_wp2_with fail
        refine bodyPost_ret (v := .tuple #[zeroNum, .int .i64 3]) (by rw [results_cell_tmp rfl]; go_simp; rfl) rfl ?_
        rw [E2.out]
        refine .inr ⟨rfl, .inr ⟨HF.out, rfl, ?_⟩⟩
        exact put3_below HBE.out (Nat.le_refl _) _ _ _

theorem parse_any (s : ByteArray) (w : World) (hs : s.size ≤ maxLen) : Calls Tryz.prog 31 #[.string s] w (ParsePost w s.data.toList) := by
  by_cases h : 2500 < s.size
  · exact parse_long s w hs h
  · exact parse_short s w (by omega)
end Go.Proofs.YtdmhkhnnomdkcaaGreatDoor
