/-  -/
import Derived.Laws.BytesArg
import Derived.Deep.RegionHeld3
import Derived.Lib.SliceRun
import Derived.Test.YtkamkaehlofgpaaShelf
import Derived.Shelf.Strings.SlTrimAscii
import Derived.Test.YtkamkaehlofgpaaJo2
import Derived.Test.YtkamkaehlofgpaaJo10
import Derived.Test.YtkamkaehlofgpaaJo11
import Derived.Test.YtkamkaehlofgpaaJo18
import Derived.Test.YtkamkaehlofgpaaJo22
set_option linter.unusedVariables false
set_option linter.unusedSimpArgs false
/- nat.Decimal. Conditions: at most 10000 limbs. -/
namespace Go.Proofs.Ytkamkaehlofgpaa
open Go.RowKit NumB
set_option linter.unusedVariables false
set_option linter.unusedSimpArgs false

def G9 : Nat := 1000000000
theorem G9_gt : 1 < G9 := by decide
theorem info_u8 : (Try.prog.info? 5).map (fun i => (i.zero, i.size, i.bytes)) = some (some (.int .u8 0), 1, 1) := by kernel_rfl

theorem digs9_len {x n : Nat} (h : (digs W32 x).length ≤ n) : (digs G9 x).length ≤ 2 * n := by
  refine digs_len_le G9_gt (Nat.lt_of_lt_of_le (digs_lt W32_gt) ?_)
  rw [Nat.pow_mul]
  exact Nat.le_trans (Nat.pow_le_pow_right (by decide) h) (Nat.pow_le_pow_left (by decide) n)
theorem digs9_step {gs : List Nat} {c x : Nat} (hc : c ≠ 0) (h : gs ++ digs G9 c = digs G9 x) : (gs ++ [c % G9]) ++ digs G9 (c / G9) = digs G9 x := by
  rw [← h, digs_step G9_gt hc, List.append_assoc]; rfl
theorem part_len {gs l m : List Nat} (h : gs ++ l = m) : gs.length ≤ m.length := by rw [← h]; simp

/-- The bytes of the groups from j on. -/
def gout (gs : List Nat) (j : Nat) : List Nat := ((gs.drop j).reverse.flatMap pad9).map (48 + ·)
theorem gout_step {gs : List Nat} {j : Nat} (h : j < gs.length) : gout gs (j + 1) ++ (pad9 (gs.getD j 0)).map (48 + ·) = gout gs j := by
  unfold gout
  rw [List.drop_eq_getElem_cons h, List.reverse_cons, List.flatMap_append, List.map_append, getD_lt h]
  simp
theorem gout_end {gs : List Nat} : gout gs gs.length = [] := by unfold gout; simp
theorem gout_len (gs : List Nat) (j : Nat) : (gout gs j).length = 9 * (gs.length - j) := by
  have key : ∀ l : List Nat, (l.flatMap pad9).length = 9 * l.length := by
    intro l
    induction l with
    | nil => rfl
    | cons a r ih => rw [List.flatMap_cons, List.length_append, pad9_len, ih, List.length_cons]; omega
  unfold gout
  rw [List.length_map, key, List.length_reverse, List.length_drop]

theorem div_ten {g e : Nat} (h : e ≤ 8) : g / 10 ^ e / 10 = g / 10 ^ (e + 1) := by rw [Nat.div_div_eq_div_mul, Nat.pow_succ]
theorem part_eq {part : List Nat} {g : Nat} (hl : part.length = 9) (h : ∀ k, k < 9 → part.getD k 0 = 48 + g / 10 ^ (8 - k) % 10) : part = (pad9 g).map (48 + ·) := by
  refine List.ext_getElem (by rw [hl, List.length_map, pad9_len]) fun k h1 h2 => ?_
  have := h k (by omega)
  rw [getD_lt h1] at this
  rw [this, List.getElem_map, ← pad9_get (g := g) (k := k) (by omega), getD_lt (by rw [pad9_len]; omega)]

theorem gout_dec (x : Nat) : ((gout (digs G9 x) 0).dropWhile (· == 48)).map (fun d => d.toUInt8) = decL x := by
  have h : ∀ l : List Nat, ((l.map (48 + ·)).dropWhile (· == 48)).map (fun d => d.toUInt8) = ((l.dropWhile (· == 0)).map (fun d => (48 + d).toUInt8)) := by
    intro l
    induction l with
    | nil => rfl
    | cons d l ih =>
      rw [List.map_cons, List.dropWhile_cons, List.dropWhile_cons]
      by_cases hd : d = 0
      · subst hd; simpa using ih
      · rw [if_neg (by simp; omega), if_neg (by simpa using hd)]; simp
  unfold gout
  rw [List.drop_zero, h]
  exact groups_dec
theorem gout_byte {gs : List Nat} {j : Nat} : ∀ d ∈ gout gs j, d < 256 := by
  intro d hd
  obtain ⟨e, he, rfl⟩ := List.mem_map.1 hd
  have := flat_ok e he
  omega
theorem getD_map_ofNat (l : List Nat) (i : Nat) (h : i < l.length) : (l.map Int.ofNat).getD i 0 = ((l.getD i 0 : Nat) : Int) := by
  rw [List.getD_eq_getElem?_getD, List.getElem?_map, List.getElem?_eq_getElem h, getD_lt h]; rfl
theorem getD_drop (l : List Nat) (k i : Nat) : (l.drop k).getD i 0 = l.getD (k + i) 0 := by
  rw [List.getD_eq_getElem?_getD, List.getD_eq_getElem?_getD, List.getElem?_drop]

/-- A row of limbs and a row of bytes are different blocks. -/
theorem own_ne {w : World} {B B' g n c : Nat} {gs out : List Nat} {v : Value} (h : Own .u32 61 w B g n c gs) (hv : OwnV .u8 5 w B' v out) : some g ≠ v.ownBlock := by
  intro e
  rcases hv.2 with ⟨rfl, _⟩ | ⟨g', cap, cur, rfl, _, hh, _⟩
  · simp [Value.ownBlock] at e
  · have e1 : g = g' := by simpa [Value.ownBlock] using e
    subst e1
    rcases h.2.2 with ⟨h', _⟩ | ⟨g2, cap2, cur2, h', _, hh2, _⟩
    · simp at h'
    · simp only [Value.slice.injEq, Option.some.injEq, Addr.mk.injEq, and_true] at h'
      obtain ⟨rfl, _⟩ := h'
      rw [hh] at hh2
      injection hh2 with hh2
      injection hh2 with _ ht
      exact absurd ht (by decide)

end Go.Proofs.Ytkamkaehlofgpaa
/- How long the digits in base 2^16 are. -/
namespace Go.Proofs.Ytkamkaehlofgpaa
open Go.RowKit NumB
theorem len_pos16 {x n : Nat} (h : n = (digs W16 x).length) : 0 < n ↔ 0 < x := by
  subst h
  constructor
  · intro h
    rcases Nat.eq_zero_or_pos x with h4 | h4
    · subst h4; rw [digs_zero] at h; exact absurd h (by simp)
    · exact h4
  · intro h
    exact List.length_pos_iff.2 fun h4 => by have := (digs_nil W16_gt).1 h4; omega
end Go.Proofs.Ytkamkaehlofgpaa
/- fetterlockref1.Decimal. Conditions: at most 10000 digits. -/
namespace Go.Proofs.Ytkamkaehlofgpaa
open Go.RowKit NumB
set_option linter.unusedVariables false
set_option linter.unusedSimpArgs false

theorem rdiv_step {xs out : List Nat} {j x d rest q r : Nat} (hj : 0 < j) (hl : j ≤ out.length) (hx : xs.getD (j - 1) 0 = x) (hjx : j ≤ xs.length) (hv : val W16 (xs.drop j) = d * val W16 (out.drop j) + rest)
    (he : rest * 65536 + x = d * q + r) : val W16 (xs.drop (j - 1)) = d * val W16 ((out.set (j - 1) q).drop (j - 1)) + r := by
  have e1 : xs.drop (j - 1) = x :: xs.drop j := by
    rw [List.drop_eq_getElem_cons (by omega), ← getD_lt (by omega), hx, Nat.sub_add_cancel hj]
  have e2 : (out.set (j - 1) q).drop (j - 1) = q :: out.drop j := by
    rw [List.drop_eq_getElem_cons (by simp; omega), Nat.sub_add_cancel hj]
    simp [List.drop_set]
    omega
  rw [e1, e2, val_cons, val_cons, hv]
  have : W16 = 65536 := rfl
  rw [this, Nat.mul_add, Nat.mul_add, Nat.mul_left_comm]
  omega
def ten : Nat := 10
theorem ten_gt : 1 < ten := by decide
/-- The digits so far, as bytes. -/
def dgs (x : Nat) : List Nat := (digs ten x).map (48 + ·)
theorem dgs_step {ds : List Nat} {c x : Nat} (hc : c ≠ 0) (h : ds ++ dgs c = dgs x) : (ds ++ [48 + c % 10]) ++ dgs (c / 10) = dgs x := by
  rw [← h]
  have : dgs c = (48 + c % 10) :: dgs (c / 10) := by
    unfold dgs
    rw [digs_step ten_gt hc]; rfl
  rw [this, List.append_assoc]; rfl
theorem dgs_len {x n : Nat} (h : (digs W16 x).length ≤ n) : (dgs x).length ≤ 5 * n := by
  unfold dgs
  rw [List.length_map]
  refine digs_len_le ten_gt (Nat.lt_of_lt_of_le (digs_lt W16_gt) ?_)
  rw [Nat.pow_mul]
  exact Nat.le_trans (Nat.pow_le_pow_right (by decide) h) (Nat.pow_le_pow_left (by decide) n)
theorem dgs_text (x : Nat) : ((dgs x).reverse).map (fun d => d.toUInt8) = decL x := by
  unfold dgs decL ten
  rw [← List.map_reverse, ← List.map_reverse, List.map_map]; rfl
theorem rev_step {ds out : List Nat} {j L c : Nat} (hL : ds.length = L) (ho : out.length = L) (hj : j < L) (hc : ds.getD j 0 = c) (h : out.drop (L - j) = (ds.take j).reverse) : (out.set (L - 1 - j) c).drop (L - (j + 1)) = (ds.take (j + 1)).reverse := by
  have e : L - (j + 1) = L - 1 - j := by omega
  rw [e, List.drop_eq_getElem_cons (by simp; omega), List.take_succ_eq_append_getElem (by omega), List.reverse_append, ← h]
  have e2 : L - 1 - j + 1 = L - j := by omega
  rw [e2]
  simp [List.drop_set]
  constructor
  · rw [← hc, getD_lt (by omega)]
  · omega

set_option maxRecDepth 100000 in
set_option maxHeartbeats 6400000 in
theorem rdecimal_pos (x : Nat) (va : Value) (w : World) (ha : Nat16 w va x) (hx : (digs W16 x).length ≤ 10000) (hx0 : 0 < x) :
    Calls Try.prog 60 #[va] w fun e w' => e = .returned (.string ⟨(decL x).toArray⟩) ∧ Below w.heap.size w w' := by
  have HA := Lib.hid ha
  have HLD := Lib.hid (dgs_len hx)
  have HLX := Lib.hid hx
  have HX0 := Lib.hid hx0
  obtain ⟨A, c, rfl, _⟩ := ha
  obtain ⟨n, hn⟩ : ∃ n, (digs W16 x).length = n := ⟨_, rfl⟩
  rw [hn] at HA ⊢
  have hn0 : ((n : Int) == 0) = false := beq_eq_false_iff_ne.2 (by have := (len_pos16 hn.symm).2 hx0; omega)
  clear hx0 hn
  go_enter Try.func60, Try.ntmps60
  go_wp2
  go_loopg [0, 3, 4, 5, 6, 7] x (fun gk s0 s3 s4 s5 s6 s7 wr => ∃ ds : List Nat, Hid (Nat16 wr s0 gk ∧ OwnV .u8 5 wr w.heap.size s3 ds ∧ ds ++ dgs gk = dgs x ∧ gk ≤ x ∧ Below w.heap.size w wr))
  case atStart => exact ⟨[], HA.out, OwnV.nil_ _, rfl, Nat.le_refl _, Below.refl _ _⟩
  case round =>
    obtain ⟨ds, HR⟩ := hrel
    obtain ⟨A0, c0, hu0, hc0, hm0, hr0⟩ := id HR.out.1
    have hl0 : (digs W16 gk).length = (digs W16 gk).length := rfl
    have hlb : (digs W16 gk).length ≤ 10000 := Nat.le_trans (digs_len_mono W16_gt HR.out.2.2.2.1) HLX.out
    have hpz := len_pos16 (x := gk) rfl
    have HX := Lib.hid (And.intro (val_digs W16_gt gk) (ok_digs W16_gt gk))
    generalize digs W16 gk = xs at *
    generalize hn2 : xs.length = n0 at *
    have HN0 := Lib.hid hn2
    have HR0 := Lib.hid hr0
    subst hu0
    clear hl0 hn2 hr0
    unfold maxLen at hm0
    by_cases h0 : gk = 0
    · subst h0
      obtain rfl : n0 = 0 := by omega
      have hds : ds = dgs x := by have := HR.out.2.2.1; unfold dgs at this; rw [digs_zero, List.map_nil, List.append_nil] at this; exact this
      have hdl : 0 < ds.length := by
        rw [hds]
        refine List.length_pos_iff.2 fun h => ?_
        unfold dgs at h
        have h1 := List.map_eq_nil_iff.1 h
        have := (digs_nil ten_gt).1 h1
        have := HX0.out
        omega
      obtain ⟨g3, c3, hv3, HO3⟩ : ∃ g3 c3, u3 = .slice (some ⟨g3, 0, none⟩) ds.length c3 ∧ Hid (Own .u8 5 wr w.heap.size g3 ds.length c3 ds) := by
        rcases HR.out.2.1.form with ⟨_, h⟩ | ⟨g, c, h, ho⟩
        · rw [h] at hdl; exact absurd hdl (by simp)
        · exact ⟨g, c, h, ho⟩
      subst hv3
      have hLb : ds.length ≤ 50000 := by rw [hds]; exact HLD.out
      have HDT : Hid (ds.reverse.map (fun d => d.toUInt8) = decL x) := by unfold Hid; rw [hds]; exact dgs_text x
      have HBW := Lib.hid HR.out.2.2.2.2
      generalize hm : ds.length = L at *
      have HM := Lib.hid hm
      obtain ⟨i0, hi0, hz0, hz1, hz2⟩ := info_parts info_u8
      have HI := Lib.hid hi0
      have HZ0 := Lib.hid hz0
      have HZ1 := Lib.hid hz1
      have HZ2 := Lib.hid hz2
      clear hi0 hz0 hz1 hz2 hds hm HR hpz
      go_wp2_with (at_make; refine wpList_make_full _ rfl _ _ 62 rfl wr.heap.size 5 i0 (.int .u8 0) 1 Try.underlying62 HI.out HZ0.out HZ1.out .i64 .i64 _ _ L rfl rfl rfl rfl (by rw [HZ2.out]; omega) (by unfold maxLen; omega) (Nat.le_refl _) ?_; intro w1 hown1 hg1)
      have HOP := Lib.hid (Own.made hown1)
      have HB1 := Lib.hid ((Below.refl wr.heap.size wr).grown hg1 (Nat.le_refl _) (by simp))
      clear hown1 hg1
      obtain ⟨wo, hwo⟩ : ∃ wo : World, wo = wr := ⟨_, rfl⟩
      subst hwo
      have hgo := HO3.out.lt.2
      go_loopg [54, 9, 10] L (fun gj s54 s9 s10 wq => ∃ (j : Nat) (out : List Nat), gj + j = L ∧ s54 = .int .i64 (j : Int) ∧ Hid (Own .u8 5 wq wo.heap.size wo.heap.size L L out) ∧ Hid (out.drop (L - j) = (ds.take j).reverse) ∧ Hid (Below wo.heap.size wo wq))
      case atStart => exact ⟨0, _, by omega, rfl, HOP.out, by unfold Hid; rw [List.drop_eq_nil_of_le (by simp)]; rfl, HB1.out⟩
      case round =>
        obtain ⟨j, out, hgj, rfl, HO, HE, HBQ⟩ := hrel
        clear HOP HB1
        by_cases hj : j < L
        · obtain ⟨p, hpe⟩ : ∃ p, ds.getD j 0 = p := ⟨_, rfl⟩
          have hcell : wr.cell? ⟨g3, j, none⟩ = some (.int .u8 (p : Int)) := by rw [← hpe]; exact (HO3.out.to HBQ.out).cell hj
          have HP := Lib.hid hpe
          obtain ⟨y, hy⟩ : ∃ y : Nat, wr.cell? ⟨wo.heap.size, L - 1 - j, none⟩ = some (.int .u8 (y : Int)) := ⟨_, HO.out.cell (by omega)⟩
          have hf := HO.out.frozen (L - 1 - j)
          have hix : ((L : Int) - 1 - (j : Int)) = ((L - 1 - j : Nat) : Int) := by omega
          have hix2 : L - 1 - j < L := by omega
          clear hpe
          go_wp2
          go_roundg (gk - 1)
          case measure => omega
          case rel => exact ⟨j + 1, out.set (L - 1 - j) p, by omega, by go_num, HO.out.stored _ _, rev_step HM.out HO.out.1 hj HP.out HE.out, HBQ.out.setCell (Nat.le_refl _) _⟩
        · obtain rfl : j = L := by omega
          have hout : out = ds.reverse := by
            have h := HE.out
            rw [Nat.sub_self, List.drop_zero, List.take_of_length_le (by rw [HM.out]; exact Nat.le_refl _)] at h
            exact h
          have hcv := fun cap => run_convert_bytes_arg (P := Try.prog) wr 62 5 Try.underlying62 Try.underlying5 wo.heap.size 0 j cap (out.map Int.ofNat) (by rw [List.length_map, HO.out.1]) (fun i hi => by
            rw [Nat.zero_add, HO.out.cell hi, getD_map_ofNat _ _ (by rw [HO.out.1]; exact hi)]) 9 Try.underlying9
          have hstr : strOfNums (out.map Int.ofNat) = ⟨(decL x).toArray⟩ := by
            unfold strOfNums
            rw [← HDT.out, hout, List.map_map]
            rfl
          have hcv2 : ∀ cap, (convert 62 9 (.slice (some ⟨wo.heap.size, 0, none⟩) j cap)).run Try.prog wr = .ok (.string ⟨(decL x).toArray⟩) wr := fun cap => by rw [hcv cap, hstr]
          clear hcv hstr hout
          go_wp2
          go_ret
          exact ⟨rfl, HBW.out.trans (HBQ.out.mono HBW.out.size)⟩
    · have hnp : 0 < n0 := hpz.2 (by omega)
      have HG0 := Lib.hid h0
      obtain ⟨i0, hi0, hz0, hz1, hz2⟩ := info_parts info_i64
      have HI := Lib.hid hi0
      have HZ0 := Lib.hid hz0
      have HZ1 := Lib.hid hz1
      have HZ2 := Lib.hid hz2
      clear hi0 hz0 hz1 hz2 h0 hpz
      go_wp2_with (at_make; refine wpList_make_full _ rfl _ _ 64 rfl wr.heap.size 3 i0 (.int .i64 0) 1 Try.underlying64 HI.out HZ0.out HZ1.out .i64 .i64 _ _ n0 rfl rfl rfl rfl (by rw [HZ2.out]; omega) (by unfold maxLen; omega) (Nat.le_refl _) ?_; intro w1 hown1 hg1)
      have HOP := Lib.hid (Own.made hown1)
      have HB1 := Lib.hid ((Below.refl wr.heap.size wr).grown hg1 (Nat.le_refl _) (by simp))
      clear hown1 hg1
      obtain ⟨wo, hwo⟩ : ∃ wo : World, wo = wr := ⟨_, rfl⟩
      subst hwo
      obtain ⟨cur, hcur⟩ : ∃ cur : Nat, cur = gk := ⟨_, rfl⟩
      subst hcur
      go_loopg [4, 6, 7] (n0 + 1) (fun gj s4 s6 s7 wq => ∃ (j rest : Nat) (out : List Nat), gj = j + 1 ∧ j ≤ n0 ∧ s6 = .int .i64 ((j : Int) - 1) ∧ s4 = .int .i64 (rest : Int) ∧ rest < 10 ∧ Hid (Own .i64 3 wq wo.heap.size wo.heap.size n0 n0 out) ∧ Hid (Below wo.heap.size wo wq) ∧ Hid (val W16 (xs.drop j) = 10 * val W16 (out.drop j) + rest) ∧ Hid (Ok W16 out))
      case atStart => exact ⟨n0, 0, _, rfl, Nat.le_refl _, rfl, rfl, by omega, HOP.out, HB1.out, by unfold Hid; rw [← HN0.out, List.drop_length, List.drop_eq_nil_of_le (by simp)]; rfl, ok_replicate (by decide)⟩
      case round =>
        obtain ⟨j, rest, out, rfl, hj, rfl, rfl, hrest, HO, HBQ, HV, HOo⟩ := hrel
        clear HOP HB1
        by_cases h0 : 0 < j
        · obtain ⟨b, o, y, rfl, hb, hye, hcell⟩ := (HR0.out.below HBQ.out).at_ (i := j - 1) (by omega)
          have hyb : y < 65536 := by rw [← hye]; exact HX.out.2.getD (by decide) _
          have HY := Lib.hid hye
          clear hye
          obtain ⟨z, hz⟩ : ∃ z : Nat, wr.cell? ⟨wo.heap.size, j - 1, none⟩ = some (.int .i64 (z : Int)) := ⟨_, HO.out.cell (by omega)⟩
          have hf := HO.out.frozen (j - 1)
          obtain ⟨q, r, hq, hr', hqb, hrd, HEE⟩ : ∃ q r : Nat, ((rest : Int) * 65536 + (y : Int)) / 10 = (q : Int) ∧ ((rest : Int) * 65536 + (y : Int)) % 10 = (r : Int) ∧ q < 65536 ∧ r < 10 ∧ Hid (rest * 65536 + y = 10 * q + r) :=
            ⟨(rest * 65536 + y) / 10, (rest * 65536 + y) % 10, by omega, by omega, by omega, by omega, by unfold Hid; omega⟩
          go_wp2
          go_roundg j
          case measure => omega
          case rel => exact ⟨j - 1, r, out.set (j - 1) q, by omega, by omega, by congr 1; omega, congrArg (Value.int .i64) hr', hrd, HO.out.stored _ _, HBQ.out.setCell (Nat.le_refl _) _, rdiv_step h0 (by rw [HO.out.1]; exact hj) HY.out (by rw [HN0.out]; exact hj) HV.out HEE.out, HOo.out.set hqb⟩
        · obtain rfl : j = 0 := by omega
          have hv := HV.out
          rw [List.drop_zero, List.drop_zero, HX.out.1] at hv
          have HQV : Hid (cur / 10 = val W16 out ∧ cur % 10 = rest) := ⟨by omega, by omega⟩
          have HDS := Lib.hid (HR.out.2.1.to HBQ.out)
          have HDL := Lib.hid (ownV_lt HR.out.2.1)
          have HBW := Lib.hid (HR.out.2.2.2.2.trans (HBQ.out.mono HR.out.2.2.2.2.size))
          obtain ⟨bt, hbt, hbtb, HBT⟩ : ∃ bt : Nat, (48 : Int) + (rest : Int) = (bt : Int) ∧ bt < 58 ∧ Hid (bt = 48 + rest) := ⟨48 + rest, by omega, by omega, rfl⟩
          have HLEN : Hid (ds.length + [bt].length ≤ 1000000) := by have := part_len HR.out.2.2.1; have := HLD.out; unfold Hid; simp; omega
          clear hv
          go_wp2_with (at_builtin; go_must (refine wpList_pushG wr rfl _ _ 62 rfl .u8 5 1 Try.underlying62 info_u8 (by decide) w.heap.size _ ds [bt] (by rfl) (by rfl) HDS.out HLEN.out HBW.out.size _ rfl ?_); intro v2 w2 hown2 hb2 hg2)
          have hsl : Sl .i64 w2 (.slice (some ⟨wo.heap.size, 0, none⟩) n0 n0) out := by
            have h1 := HO.out.sl.to (below_one wr (.cells #[.int .u8 (bt : Int)] 5))
            refine Sl.blk h1 (hg2.block _ ?_ ?_) hg2.size
            · have := HO.out.lt.2; simp; omega
            · intro e; have := HDL.out _ e.symm; omega
          refine (rtrim_any out _ _ hsl HOo.out).mono ?_
          rintro e w3 ⟨v3, rfl, hn3, rfl⟩
          rw [← HQV.out.1] at hn3
          have HN3 := Lib.hid hn3
          have HW2 := Lib.hid hown2
          have HBB := Lib.hid hb2
          clear hn3 hown2 hb2 hg2 hsl
          go_wp2
          go_roundg (cur / 10)
          case measure => have := HG0.out; omega
          case rel =>
            refine ⟨ds ++ [bt], HN3.out, HW2.out, ?_, Nat.le_trans (Nat.div_le_self _ _) HR.out.2.2.2.1, HBW.out.trans HBB.out⟩
            rw [HBT.out, ← HQV.out.2]; exact dgs_step HG0.out HR.out.2.2.1
set_option maxRecDepth 100000 in
theorem rdecimal_any (x : Nat) (va : Value) (w : World) (ha : Nat16 w va x) (hx : (digs W16 x).length ≤ 10000) :
    Calls Try.prog 60 #[va] w fun e w' => e = .returned (.string ⟨(dec x).toArray⟩) ∧ Below w.heap.size w w' := by
  rcases Nat.eq_zero_or_pos x with h0 | h0
  · subst h0
    obtain ⟨A, c, rfl, _⟩ := ha
    rw [digs_zero]
    clear hx
    have hb0 : (((0 : Nat) : Int) == 0) = true := rfl
    have E : Hid (dec 0 = [48]) := rfl
    go_enter Try.func60, Try.ntmps60
    go_wp2
    go_ret
    rw [E.out]
    exact ⟨rfl, Below.refl _ _⟩
  · unfold dec
    rw [if_neg (by omega)]
    exact rdecimal_pos x va w ha hx h0
end Go.Proofs.Ytkamkaehlofgpaa
/- fetterlocklaw1.sameLimbs, same. -/
namespace Go.Proofs.Ytkamkaehlofgpaa
open Go.RowKit NumB
set_option linter.unusedVariables false
set_option linter.unusedSimpArgs false

def eqB (xs ys : List Nat) : Bool := decide (xs = ys)
theorem eqB_true {xs ys : List Nat} (h : xs = ys) : eqB xs ys = true := decide_eq_true h
theorem eqB_false {xs ys : List Nat} (h : xs ≠ ys) : eqB xs ys = false := decide_eq_false h

theorem take_step {xs ys : List Nat} {j : Nat} (h1 : j < xs.length) (h2 : j < ys.length) (h : xs.take j = ys.take j) (he : xs.getD j 0 = ys.getD j 0) : xs.take (j + 1) = ys.take (j + 1) := by
  rw [List.take_succ_eq_append_getElem h1, List.take_succ_eq_append_getElem h2, h, ← getD_lt h1, ← getD_lt h2, he]

/-- Two numbers are the same. -/
def sameB (a b : LN) : Bool := (a.neg == b.neg) && (eqB a.num b.num && eqB a.den b.den)
theorem sameB_true {a b : LN} (h : a = b) : sameB a b = true := by
  subst h
  unfold sameB
  rw [eqB_true rfl, eqB_true rfl]
  simp
end Go.Proofs.Ytkamkaehlofgpaa
/- nat.FromDecimal: digits alone. Conditions: at most 10000 bytes. -/
namespace Go.Proofs.Ytkamkaehlofgpaa
open Go.RowKit NumB
set_option linter.unusedVariables false
set_option linter.unusedSimpArgs false

theorem digs32_dec {x n : Nat} (h : x < 10 ^ n) : (digs W32 x).length ≤ n := digs_len_le W32_gt (Nat.lt_of_lt_of_le h (Nat.pow_le_pow_left (by decide) n))

theorem dig_at {t : ByteArray} (h : allDig t.data.toList = true) {i : Nat} (hi : i < t.size) : 48 ≤ t[i].toNat ∧ t[i].toNat ≤ 57 := by
  have hm : t[i] ∈ t.data.toList := by show t.data[i] ∈ t.data.toList; exact Array.getElem_mem_toList _
  exact of_decide_eq_true (List.all_eq_true.1 h _ hm)
theorem dval_at {t : ByteArray} {i c : Nat} (hi : i < t.size) (hc : t[i].toNat = c) : dval (t.data.toList.take (i + 1)) = dval (t.data.toList.take i) * 10 + (c - 48) := by
  rw [← hc]
  exact dval_take_succ (by simpa using hi)
theorem dval_take_lt {t : ByteArray} (h : allDig t.data.toList = true) {i : Nat} (hi : i ≤ 9) : dval (t.data.toList.take i) < 1000000000 := by
  refine Nat.lt_of_lt_of_le (dval_lt (allDig_take h i)) (Nat.le_trans (Nat.pow_le_pow_right (by decide) (Nat.le_trans (List.length_take_le _ _) hi)) (by decide))
theorem ten_le {i : Nat} (h : i ≤ 9) : 10 ^ i ≤ 1000000000 := Nat.le_trans (Nat.pow_le_pow_right (by decide) h) (by decide)
theorem small32 {x : Nat} (h : x ≤ 1000000000) : (digs W32 x).length ≤ 1 := digs_len_le W32_gt (by unfold W32; omega)

/-- What is left to be read, and what has been read. -/
def FD (w wr : World) (D : Nat) (t : ByteArray) (v : Value) : Prop := allDig t.data.toList = true ∧ ∃ a : Nat, Nat32 wr v a ∧ a * 10 ^ t.size + dval t.data.toList = D ∧ Below w.heap.size w wr

end Go.Proofs.Ytkamkaehlofgpaa
/- number.digits. -/
namespace Go.Proofs.Ytkamkaehlofgpaa
open Go.RowKit NumB
set_option linter.unusedVariables false
set_option linter.unusedSimpArgs false

def cut10 : ByteArray := ⟨#[48, 49, 50, 51, 52, 53, 54, 55, 56, 57]⟩
theorem in_cut (c : UInt8) : cut10.data.toList.contains c = isDig c := by
  have h : ∀ n : Fin 256, cut10.data.toList.contains (UInt8.ofNat n.val) = isDig (UInt8.ofNat n.val) := by decide +kernel
  have := h ⟨c.toNat, c.toNat_lt⟩
  simpa using this
theorem dropWhile_nil {p : UInt8 → Bool} {l : List UInt8} : l.dropWhile p = [] ↔ ∀ x ∈ l, p x = true := by
  induction l with
  | nil => simp
  | cons c l ih =>
    rw [List.dropWhile_cons]
    cases h : p c with
    | true => simp [h, ih]
    | false => simp [h]
theorem trim_digits (l : List UInt8) : (Lib.trimS l cut10.data.toList).isEmpty = allDig l := by
  have e : (cut10.data.toList.contains · : UInt8 → Bool) = isDig := funext in_cut
  unfold Lib.trimS Lib.trimLeftS Lib.trimRightS
  rw [e]
  cases h : allDig l with
  | true =>
    have : l.reverse.dropWhile isDig = [] := by
      rw [dropWhile_nil]
      intro x hx
      exact List.all_eq_true.1 h x (List.mem_reverse.1 hx)
    rw [this]; rfl
  | false =>
    obtain ⟨x, hx, hn⟩ := List.all_eq_false.1 h
    cases hd : ((l.reverse.dropWhile isDig).reverse.dropWhile isDig).isEmpty with
    | false => rfl
    | true =>
      exfalso
      have h1 : (l.reverse.dropWhile isDig).reverse.dropWhile isDig = [] := List.isEmpty_iff.1 hd
      rw [dropWhile_nil] at h1
      have h2 : l.reverse.dropWhile isDig = [] := by
        cases hc : l.reverse.dropWhile isDig with
        | nil => rfl
        | cons y r =>
          have h3 := List.head?_dropWhile_not isDig l.reverse
          rw [hc] at h3
          simp only [List.head?_cons] at h3
          have h4 := h1 y (by rw [hc]; simp)
          rw [h4] at h3
          exact absurd h3 (by simp)
      rw [dropWhile_nil] at h2
      exact hn (h2 x (List.mem_reverse.2 hx))

end Go.Proofs.Ytkamkaehlofgpaa
/- strings.Cut at a separator of one byte. -/
namespace Go.Proofs.Ytkamkaehlofgpaa
open Go.RowKit NumB
set_option linter.unusedVariables false
set_option linter.unusedSimpArgs false

/-- What stands before and behind the first c. -/
def cutB (l : List UInt8) (c : UInt8) : List UInt8 × List UInt8 × Bool :=
  if 0 ≤ Lib.indexByte l c then (l.take (Lib.indexByte l c).toNat, l.drop ((Lib.indexByte l c).toNat + 1), true) else (l, [], false)

theorem ba_eq {s : ByteArray} {l : List UInt8} (h : s.data.toList = l) : s = ⟨l.toArray⟩ := by subst h; cases s; simp
theorem extract_head (s : ByteArray) (k : Nat) : (s.extract 0 k).data.toList = s.data.toList.take k := by rw [Lib.extract_data]; simp
theorem indexByte_lt (l : List UInt8) (c : UInt8) : -1 ≤ Lib.indexByte l c ∧ Lib.indexByte l c < l.length := by
  induction l with
  | nil => simp [Lib.indexByte]
  | cons b l ih =>
    unfold Lib.indexByte
    split
    · simp
    · split
      · simp; omega
      · rename_i h; simp at h; simp; omega

end Go.Proofs.Ytkamkaehlofgpaa
