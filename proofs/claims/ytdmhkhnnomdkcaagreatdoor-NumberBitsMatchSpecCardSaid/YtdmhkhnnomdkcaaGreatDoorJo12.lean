/-  -/
import Derived.Laws.BytesArg
import Derived.Test.YtdmhkhnnomdkcaaGreatDoorJo3
import Derived.Test.YtdmhkhnnomdkcaaGreatDoorJo11
set_option linter.unusedVariables false
set_option linter.unusedSimpArgs false
/- nat.Decimal. Conditions: at most 10000 limbs. -/
namespace Go.Proofs.YtdmhkhnnomdkcaaGreatDoor
open Go.RowKit NumB
set_option linter.unusedVariables false
set_option linter.unusedSimpArgs false

def G9 : Nat := 1000000000
theorem G9_gt : 1 < G9 := by decide
theorem info_u8 : (Tryz.prog.info? 5).map (fun i => (i.zero, i.size, i.bytes)) = some (some (.int .u8 0), 1, 1) := by kernel_rfl

theorem digs9_len {x n : Nat} (h : (digs W32 x).length ≤ n) : (digs G9 x).length ≤ 2 * n := by
  refine digs_len_le G9_gt (Nat.lt_of_lt_of_le (digs_lt W32_gt) ?_)
  rw [Nat.pow_mul]
  exact Nat.le_trans (Nat.pow_le_pow_right (by decide) h) (Nat.pow_le_pow_left (by decide) n)
theorem digs9_step {gs : List Nat} {c x : Nat} (hc : c ≠ 0) (h : gs ++ digs G9 c = digs G9 x) : (gs ++ [c % G9]) ++ digs G9 (c / G9) = digs G9 x := by
  rw [← h, digs_step G9_gt hc, List.append_assoc]; rfl
theorem part_len {gs l m : List Nat} (h : gs ++ l = m) : gs.length ≤ m.length := by rw [← h]; simp

/-- The bytes of the groups from j on. -/
def gout (gs : List Nat) (j : Nat) : List Nat := ((gs.drop j).reverse.flatMap pad9).map (48 + ·)
theorem gout_step {gs : List Nat} {j : Nat} (h : j < gs.length) : gout gs (j + 1) ++ (pad9 (gs.getD j 0)).map (48 + ·) = gout gs j := by
  unfold gout
  rw [List.drop_eq_getElem_cons h, List.reverse_cons, List.flatMap_append, List.map_append, getD_lt h]
  simp
theorem gout_end {gs : List Nat} : gout gs gs.length = [] := by unfold gout; simp
theorem gout_len (gs : List Nat) (j : Nat) : (gout gs j).length = 9 * (gs.length - j) := by
  have key : ∀ l : List Nat, (l.flatMap pad9).length = 9 * l.length := by
    intro l
    induction l with
    | nil => rfl
    | cons a r ih => rw [List.flatMap_cons, List.length_append, pad9_len, ih, List.length_cons]; omega
  unfold gout
  rw [List.length_map, key, List.length_reverse, List.length_drop]

theorem div_ten {g e : Nat} (h : e ≤ 8) : g / 10 ^ e / 10 = g / 10 ^ (e + 1) := by rw [Nat.div_div_eq_div_mul, Nat.pow_succ]
theorem part_eq {part : List Nat} {g : Nat} (hl : part.length = 9) (h : ∀ k, k < 9 → part.getD k 0 = 48 + g / 10 ^ (8 - k) % 10) : part = (pad9 g).map (48 + ·) := by
  refine List.ext_getElem (by rw [hl, List.length_map, pad9_len]) fun k h1 h2 => ?_
  have := h k (by omega)
  rw [getD_lt h1] at this
  rw [this, List.getElem_map, ← pad9_get (g := g) (k := k) (by omega), getD_lt (by rw [pad9_len]; omega)]

theorem gout_dec (x : Nat) : ((gout (digs G9 x) 0).dropWhile (· == 48)).map (fun d => d.toUInt8) = decL x := by
  have h : ∀ l : List Nat, ((l.map (48 + ·)).dropWhile (· == 48)).map (fun d => d.toUInt8) = ((l.dropWhile (· == 0)).map (fun d => (48 + d).toUInt8)) := by
    intro l
    induction l with
    | nil => rfl
    | cons d l ih =>
      rw [List.map_cons, List.dropWhile_cons, List.dropWhile_cons]
      by_cases hd : d = 0
      · subst hd; simpa using ih
      · rw [if_neg (by simp; omega), if_neg (by simpa using hd)]; simp
  unfold gout
  rw [List.drop_zero, h]
  exact groups_dec
theorem gout_byte {gs : List Nat} {j : Nat} : ∀ d ∈ gout gs j, d < 256 := by
  intro d hd
  obtain ⟨e, he, rfl⟩ := List.mem_map.1 hd
  have := flat_ok e he
  omega
theorem getD_map_ofNat (l : List Nat) (i : Nat) (h : i < l.length) : (l.map Int.ofNat).getD i 0 = ((l.getD i 0 : Nat) : Int) := by
  rw [List.getD_eq_getElem?_getD, List.getElem?_map, List.getElem?_eq_getElem h, getD_lt h]; rfl
theorem getD_drop (l : List Nat) (k i : Nat) : (l.drop k).getD i 0 = l.getD (k + i) 0 := by
  rw [List.getD_eq_getElem?_getD, List.getD_eq_getElem?_getD, List.getElem?_drop]

/-- A row of limbs and a row of bytes are different blocks. -/
theorem own_ne {w : World} {B B' g n c : Nat} {gs out : List Nat} {v : Value} (h : Own .u32 35 w B g n c gs) (hv : OwnV .u8 5 w B' v out) : some g ≠ v.ownBlock := by
  intro e
  rcases hv.2 with ⟨rfl, _⟩ | ⟨g', cap, cur, rfl, _, hh, _⟩
  · simp [Value.ownBlock] at e
  · have e1 : g = g' := by simpa [Value.ownBlock] using e
    subst e1
    rcases h.2.2 with ⟨h', _⟩ | ⟨g2, cap2, cur2, h', _, hh2, _⟩
    · simp at h'
    · simp only [Value.slice.injEq, Option.some.injEq, Addr.mk.injEq, and_true] at h'
      obtain ⟨rfl, _⟩ := h'
      rw [hh] at hh2
      injection hh2 with hh2
      injection hh2 with _ ht
      exact absurd ht (by decide)

set_option maxRecDepth 100000 in
set_option maxHeartbeats 6400000 in
theorem decimal_pos (x : Nat) (va : Value) (w : World) (ha : Nat32 w va x) (hx : (digs W32 x).length ≤ 10000) (hx0 : 0 < x) :
    Calls Tryz.prog 59 #[va] w fun e w' => e = .returned (.string ⟨(decL x).toArray⟩) ∧ Below w.heap.size w w' := by
  have HA := Lib.hid ha
  have HL9 := Lib.hid (digs9_len hx)
  have HLX := Lib.hid hx
  have HX0 := Lib.hid hx0
  obtain ⟨A, n, c, rfl, hn⟩ := ha.form
  have hn0 : ((n : Int) == 0) = false := beq_eq_false_iff_ne.2 (by have := (len_pos32 hn).2 hx0; omega)
  clear ha hx hx0 hn
  go_enter Tryz.func59, Tryz.ntmps59
  go_wp2
  go_loopg [0, 3, 4, 5] x (fun gk s0 s3 s4 s5 wr => ∃ gs : List Nat, Hid (Nat32 wr s0 gk ∧ OwnV .u32 35 wr w.heap.size s3 gs ∧ gs ++ digs G9 gk = digs G9 x ∧ gk ≤ x ∧ Below w.heap.size w wr))
  case atStart => exact ⟨[], HA.out, OwnV.nil_ _, rfl, Nat.le_refl _, Below.refl _ _⟩
  case round =>
    obtain ⟨gs, HR⟩ := hrel
    obtain ⟨A0, n0, c0, rfl, hl0⟩ := HR.out.1.form
    by_cases h0 : gk = 0
    · subst h0
      rw [digs_zero] at hl0
      obtain rfl : n0 = 0 := hl0
      go_wp2
      have hgs : gs = digs G9 x := by have := HR.out.2.2.1; rwa [digs_zero, List.append_nil] at this
      have hgl : 0 < gs.length := by
        rw [hgs]
        exact List.length_pos_iff.2 fun h => by have := (digs_nil G9_gt).1 h; have := HX0.out; omega
      obtain ⟨g3, c3, rfl, HO3⟩ : ∃ g3 c3, u3 = .slice (some ⟨g3, 0, none⟩) gs.length c3 ∧ Hid (Own .u32 35 wr w.heap.size g3 gs.length c3 gs) := by
        rcases HR.out.2.1.form with ⟨_, h⟩ | ⟨g, c, h, ho⟩
        · rw [h] at hgl; exact absurd hgl (by simp)
        · exact ⟨g, c, h, ho⟩
      have hgn : gs.length ≤ 20000 := by rw [hgs]; exact HL9.out
      have HGS := Lib.hid hgs
      have HBW := Lib.hid HR.out.2.2.2.2
      generalize hm : gs.length = m at *
      have HM := Lib.hid hm
      clear hgs hm HR
      go_wp2
      rw [run_len_slice (P := Tryz.prog) wr 22 _ _ _ _ Tryz.underlying22]
      go_wp2
      go_loopg [6, 7, 8, 9, 10] m (fun gj s6 s7 s8 s9 s10 wq => s7 = .int .i64 ((gj : Int) - 1) ∧ gj ≤ m ∧ Hid (OwnV .u8 5 wq w.heap.size s6 (gout gs gj) ∧ Own .u32 35 wq w.heap.size g3 m c3 gs ∧ Below w.heap.size w wq))
      case atStart => exact ⟨rfl, Nat.le_refl _, by rw [← HM.out, gout_end]; exact OwnV.nil_ _, HO3.out, HBW.out⟩
      case round =>
        obtain ⟨rfl, hjm, HQ⟩ := hrel
        clear HO3 HBW
        by_cases hj : 0 < gk
        · obtain ⟨j, rfl⟩ : ∃ j, gk = j + 1 := ⟨gk - 1, by omega⟩
          have hjc : ((j + 1 : Nat) : Int) - 1 = (j : Int) := by omega
          rw [hjc]
          clear hjc
          obtain ⟨g, hge⟩ : ∃ g, gs.getD j 0 = g := ⟨_, rfl⟩
          have hcell : wr.cell? ⟨g3, j, none⟩ = some (.int .u32 (g : Int)) := by rw [← hge]; exact HQ.out.2.1.cell (by omega)
          have hgb : g < 1000000000 := by rw [← hge, HGS.out]; exact (ok_digs G9_gt x).getD (by decide) j
          have HGE := Lib.hid hge
          obtain ⟨i0, hi0, hz0, hz1, hz2⟩ := info_parts info_u8
          have HI := Lib.hid hi0
          have HZ0 := Lib.hid hz0
          have HZ1 := Lib.hid hz1
          have HZ2 := Lib.hid hz2
          clear hi0 hz0 hz1 hz2 hge
          go_wp2_with (at_make; refine wpList_make_full _ rfl _ _ 95 rfl wr.heap.size 5 i0 (.int .u8 0) 1 Tryz.underlying95 HI.out HZ0.out HZ1.out .i64 .i64 _ _ 9 rfl rfl rfl rfl (by rw [HZ2.out]; omega) (by unfold maxLen; omega) (Nat.le_refl _) ?_; intro w1 hown1 hg1)
          have HOP := Lib.hid (Own.made hown1)
          have HB1 := Lib.hid ((Below.refl wr.heap.size wr).grown hg1 (Nat.le_refl _) (by simp))
          clear hown1 hg1
          obtain ⟨wo, hwo⟩ : ∃ wo : World, wo = wr := ⟨_, rfl⟩
          subst hwo
          go_loopg [8, 10] 9 (fun gi s8 s10 wq => ∃ (gc : Nat) (part : List Nat), s8 = .int .u32 (gc : Int) ∧ s10 = .int .i64 ((gi : Int) - 1) ∧ gi ≤ 9 ∧ gc < 1000000000 ∧ Hid (gc = g / 10 ^ (9 - gi)) ∧ Hid (Own .u8 5 wq wo.heap.size wo.heap.size 9 9 part) ∧ Hid (∀ k, gi ≤ k → k < 9 → part.getD k 0 = 48 + g / 10 ^ (8 - k) % 10) ∧ Hid (Below wo.heap.size wo wq))
          case atStart => exact ⟨g, _, rfl, rfl, by omega, hgb, by unfold Hid; simp, HOP.out, by unfold Hid; intro k h1 h2; omega, HB1.out⟩
          case round =>
            obtain ⟨gc, part, rfl, rfl, hi9, hgc, HGC, HP, HPK, HBQ⟩ := hrel
            clear HOP HB1
            by_cases hi : 0 < gk
            · obtain ⟨k, rfl⟩ : ∃ k, gk = k + 1 := ⟨gk - 1, by omega⟩
              have hkc : ((k + 1 : Nat) : Int) - 1 = (k : Int) := by omega
              rw [hkc]
              clear hkc
              obtain ⟨y, hy⟩ : ∃ y : Nat, wr.cell? ⟨wo.heap.size, k, none⟩ = some (.int .u8 (y : Int)) := ⟨_, HP.out.cell (by omega)⟩
              have hf := HP.out.frozen k
              clear hcell
              go_wp2
              go_roundg k
              case measure => omega
              case rel =>
                have e8 : 9 - (k + 1) = 8 - k := by omega
                have hge := HGC.out
                rw [e8] at hge
                have e : (48 + (gc : Int) % 10) = ((48 + gc % 10 : Nat) : Int) := by omega
                rw [e]
                refine ⟨gc / 10, part.set k (48 + gc % 10), congrArg (Value.int .u32) (by omega), rfl, by omega, by omega, ?_, HP.out.stored k _, ?_, HBQ.out.setCell (Nat.le_refl _) _⟩
                · unfold Hid
                  rw [hge, div_ten (by omega), show 8 - k + 1 = 9 - k by omega]
                · intro k1 h1 h2
                  by_cases hk1 : k1 = k
                  · subst hk1
                    rw [getD_set_self _ _ _ (by rw [HP.out.1]; omega), hge]
                  · rw [NumB.getD_set_ne _ _ _ _ (by omega)]
                    exact HPK.out k1 (by omega) h2
            · obtain rfl : gk = 0 := by omega
              have hpe := part_eq HP.out.1 (fun k hk => HPK.out k (by omega) hk)
              subst hpe
              have HQ1 := Lib.hid (HQ.out.1.to HBQ.out)
              have HQ2 := Lib.hid (HQ.out.2.1.to HBQ.out)
              have HQ3 := Lib.hid (HQ.out.2.2.trans (HBQ.out.mono HQ.out.2.2.size))
              have HLN : Hid ((gout gs (j + 1)).length + ((pad9 g).map (48 + ·)).length ≤ 1000000) := by unfold Hid; rw [gout_len, HM.out, List.length_map, pad9_len]; omega
              have HNE := Lib.hid (own_ne HQ2.out HQ1.out)
              clear hcell
              go_wp2_with (at_builtin; go_must (refine wpList_joinG wr rfl _ _ 95 rfl .u8 5 1 Tryz.underlying95 info_u8 (by decide) w.heap.size _ (gout gs (j + 1)) ((pad9 g).map (48 + ·)) ⟨wo.heap.size, 0, none⟩ 9 9 HP.out.1 (by rfl) (by rfl) HP.out.rd HQ1.out HLN.out HQ3.out.size ?_); intro v2 w2 hown2 hg2)
              go_roundg j
              case measure => omega
              case rel =>
                refine ⟨rfl, by omega, ?_, HQ2.out.block (hg2.block g3 HQ2.out.lt.2 HNE.out), HQ3.out.grown hg2 HQ3.out.size (fun g hg => HQ1.out.blk g hg)⟩
                rw [← gout_step (gs := gs) (j := j) (by rw [HM.out]; omega), HGE.out]
                exact hown2
        · obtain rfl : gk = 0 := by omega
          have HDR : Hid (((gout gs 0).dropWhile (· == 48)).map (fun d => d.toUInt8) = decL x) := by unfold Hid; rw [HGS.out]; exact gout_dec x
          obtain ⟨out, hout⟩ : ∃ out, gout gs 0 = out := ⟨_, rfl⟩
          rw [hout] at HQ HDR
          have HNE : Hid (out.dropWhile (· == 48) ≠ []) := by
            intro e
            have h := HDR.out
            rw [e] at h
            exact decL_ne (by have := HX0.out; omega) h.symm
          have HUB : Hid (∀ d ∈ out, d < 256) := by unfold Hid; rw [← hout]; exact gout_byte
          have hL : out.length ≤ 200000 := by rw [← hout, gout_len]; have := HM.out; omega
          obtain ⟨g6, c6, rfl, HO6⟩ : ∃ g6 c6, u6 = .slice (some ⟨g6, 0, none⟩) out.length c6 ∧ Hid (Own .u8 5 wr w.heap.size g6 out.length c6 out) := by
            rcases HQ.out.1.form with ⟨_, h⟩ | ⟨g, c, h, ho⟩
            · exact absurd (by rw [h]; rfl) HNE.out
            · exact ⟨g, c, h, ho⟩
          have HBF := Lib.hid HQ.out.2.2
          have hc6 := HO6.out.cap.1
          generalize hLL : out.length = L at *
          have HLL := Lib.hid hLL
          clear hout hLL HQ
          go_wp2
          go_loopg [11] L (fun gi s11 wq => ∃ k : Nat, gi + k = L ∧ s11 = .int .i64 (k : Int) ∧ Hid ((out.drop k).dropWhile (· == 48) = out.dropWhile (· == 48)) ∧ wr = wq)
          case atStart => exact ⟨0, by omega, rfl, rfl, rfl⟩
          case round =>
            obtain ⟨k, hgk, rfl, HK, rfl⟩ := hrel
            have hk : k < L := by
              rcases Nat.lt_or_ge k L with h | h
              · exact h
              · exfalso
                have h1 := HK.out
                rw [List.drop_eq_nil_of_le (by rw [HLL.out]; exact h)] at h1
                exact HNE.out h1.symm
            obtain ⟨p, hp⟩ : ∃ p, out.getD k 0 = p := ⟨_, rfl⟩
            have hcell : wr.cell? ⟨g6, k, none⟩ = some (.int .u8 (p : Int)) := by rw [← hp]; exact HO6.out.cell hk
            have hdk : out.drop k = p :: out.drop (k + 1) := by rw [List.drop_eq_getElem_cons (by rw [HLL.out]; exact hk), ← hp, getD_lt (by rw [HLL.out]; exact hk)]
            have HDK := Lib.hid hdk
            clear hdk hp
            by_cases h48 : p = 48
            · subst h48
              go_wp2
              go_roundg (gk - 1)
              case measure => omega
              case rel => exact ⟨k + 1, by omega, by go_num, by unfold Hid; rw [← HK.out, HDK.out, List.dropWhile_cons]; rfl, rfl⟩
            · have h480 : ((p : Int) == 48) = false := beq_eq_false_iff_ne.2 (by omega)
              have HP48 := Lib.hid h48
              have hcv := fun cap => run_convert_bytes_arg (P := Tryz.prog) wr 95 5 Tryz.underlying95 Tryz.underlying5 g6 k (L - k) cap ((out.drop k).map Int.ofNat) (by rw [List.length_map, List.length_drop, HLL.out]) (fun i hi => by
                rw [HO6.out.cell (by omega), getD_map_ofNat _ _ (by rw [List.length_drop, HLL.out]; exact hi), getD_drop]) 9 Tryz.underlying9
              have hstr : strOfNums ((out.drop k).map Int.ofNat) = ⟨(decL x).toArray⟩ := by
                unfold strOfNums
                rw [← HDR.out, ← HK.out, HDK.out, List.dropWhile_cons, if_neg (by simpa using HP48.out), ← HDK.out, List.map_map]
                rfl
              have hcv2 : ∀ cap, (convert 95 9 (.slice (some ⟨g6, k, none⟩) (L - k) cap)).run Tryz.prog wr = .ok (.string ⟨(decL x).toArray⟩) wr := fun cap => by rw [hcv cap, hstr]
              clear hcv hstr h48
              go_wp2
              go_ret
              exact ⟨rfl, HBF.out⟩
    · have hn1 : 0 < n0 := (len_pos32 hl0).2 (by omega)
      have HG0 := Lib.hid h0
      have HLG : Hid ((digs W32 gk).length ≤ 1000000) := Nat.le_trans (digs_len_mono W32_gt HR.out.2.2.2.1) (Nat.le_trans HLX.out (by omega))
      clear h0 hl0
      go_wp2_with fail
      refine (divSmall_own_nat gk 1000000000 _ _ (by exact HR.out.1) HLG.out (by omega) (by omega)).mono ?_
      rintro e w1 ⟨m1, k1, rfl, hn1, hb1⟩
      obtain ⟨r, hr⟩ : ∃ r, gk % 1000000000 = r := ⟨_, rfl⟩
      rw [hr]
      have hrb : r < 1000000000 := by omega
      have HRR := Lib.hid hr
      have HN1 := Lib.hid hn1
      have HB1 := Lib.hid hb1
      have HS := Lib.hid (HR.out.2.1.to hb1)
      have HSO := Lib.hid (ownV_lt HR.out.2.1)
      have HBW := Lib.hid (HR.out.2.2.2.2.trans (hb1.mono HR.out.2.2.2.2.size))
      have HLEN : Hid (gs.length + [r].length ≤ 1000000) := by have := part_len HR.out.2.2.1; have := HL9.out; unfold Hid; simp; omega
      clear hr hn1 hb1
      go_wp2_with (at_builtin; go_must (refine wpList_pushG w1 rfl _ _ 22 rfl .u32 35 4 Tryz.underlying22 info_u32 (by decide) w.heap.size _ gs [r] (by rfl) (by rfl) HS.out HLEN.out HBW.out.size _ rfl ?_); intro v2 w2 hown2 hb2 hg2)
      go_roundg (gk / 1000000000)
      case measure => have := HG0.out; omega
      case rel =>
        refine ⟨gs ++ [r], ?_, hown2, ?_, Nat.le_trans (Nat.div_le_self _ _) HR.out.2.2.2.1, HBW.out.trans hb2⟩
        · have h1 := HN1.out.to (below_one w1 (.cells #[.int .u32 (r : Int)] 35))
          refine Sl.blk h1 (hg2.block _ ?_ ?_) hg2.size
          · have := HB1.out.size; simp; omega
          · intro e; have := HSO.out _ e.symm; omega
        · rw [← HRR.out]; exact digs9_step HG0.out HR.out.2.2.1
set_option maxRecDepth 100000 in
theorem decimal_any (x : Nat) (va : Value) (w : World) (ha : Nat32 w va x) (hx : (digs W32 x).length ≤ 10000) :
    Calls Tryz.prog 59 #[va] w fun e w' => e = .returned (.string ⟨(dec x).toArray⟩) ∧ Below w.heap.size w w' := by
  rcases Nat.eq_zero_or_pos x with h0 | h0
  · subst h0
    obtain ⟨A, n, c, rfl, hn⟩ := ha.form
    rw [digs_zero] at hn
    obtain rfl : n = 0 := hn
    clear ha hx
    have hb0 : (((0 : Nat) : Int) == 0) = true := rfl
    have E : Hid (dec 0 = [48]) := rfl
    go_enter Tryz.func59, Tryz.ntmps59
    go_wp2
    go_ret
    rw [E.out]
    exact ⟨rfl, Below.refl _ _⟩
  · unfold dec
    rw [if_neg (by omega)]
    exact decimal_pos x va w ha hx h0
end Go.Proofs.YtdmhkhnnomdkcaaGreatDoor
