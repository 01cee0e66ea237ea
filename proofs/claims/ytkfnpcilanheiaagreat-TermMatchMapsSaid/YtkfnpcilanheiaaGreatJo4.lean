/- nat.digit: one digit of a quotient. Conditions: at most 100000 limbs. -/
import Derived.Deep.CutBlock
import Derived.Test.YtkfnpcilanheiaaGreatJo2
import Derived.Test.YtkfnpcilanheiaaGreatJo3
set_option linter.unusedVariables false
set_option linter.unusedSimpArgs false
set_option maxRecDepth 100000
namespace Go.Proofs.YtkfnpcilanheiaaGreat
open Go.RowKit NumB
def KD (us vs : List Nat) (n t u2 v1 v2 : Nat) : Prop :=
  us.length = n + 1 ∧ vs.length = n ∧ Ok W32 us ∧ Ok W32 vs ∧ 2 ≤ n ∧ us.getD n 0 * 4294967296 + us.getD (n - 1) 0 = t ∧ us.getD (n - 2) 0 = u2 ∧ vs.getD (n - 1) 0 = v1 ∧ vs.getD (n - 2) 0 = v2 ∧ 2147483648 ≤ v1 ∧ val W32 us < val W32 vs * 4294967296
def GuessOk (us vs : List Nat) (g : Nat) : Prop := val W32 us / val W32 vs ≤ g ∧ g ≤ val W32 us / val W32 vs + 1 ∧ g < 4294967296
section
variable {us vs : List Nat} {n t u2 v1 v2 : Nat}
theorem KD.split (h : KD us vs n t u2 v1 v2) : ∃ R ur vr, val W32 vs = (v1 * 4294967296 + v2) * R + vr ∧ vr < R ∧ val W32 us = (t * 4294967296 + u2) * R + ur ∧ ur < R := by
  obtain ⟨k1, k2, k3, k4, h2n, k5, k6, k7, k8, hv1, k9⟩ := h
  refine ⟨W32 ^ (n - 2), val W32 (us.take (n - 2)), val W32 (vs.take (n - 2)), ?_, val_take_lt k4 (by omega), ?_, val_take_lt k3 (by omega)⟩
  · have := val_top2 W32 vs h2n k2
    rw [k7, k8] at this
    exact this
  · have e1 := val_split W32 us (n - 2)
    have e2 := val_drop_step W32 us (n - 2)
    have e3 := val_drop_step W32 us (n - 1)
    have e4 := val_drop_step W32 us n
    rw [List.drop_eq_nil_of_le (i := n + 1) (by omega), val_nil, Nat.mul_zero, Nat.add_zero] at e4
    rw [show n - 1 + 1 = n from by omega, e4] at e3
    rw [show n - 2 + 1 = n - 1 from by omega, e3, k6] at e2
    rw [e1, e2, Nat.mul_comm (W32 ^ (n - 2)), Nat.add_comm]
    congr 2
    rw [← k5, show W32 = 4294967296 from rfl]
    omega
theorem KD.pos (h : KD us vs n t u2 v1 v2) : 0 < val W32 vs := by
  obtain ⟨R, ur, vr, e1, h1, e2, h2⟩ := h.split
  obtain ⟨k1, k2, k3, k4, h2n, k5, k6, k7, k8, hv1, k9⟩ := h
  have : 0 < (v1 * 4294967296 + v2) * R := Nat.mul_pos (by omega) (by omega)
  omega
theorem KD.div_lt (h : KD us vs n t u2 v1 v2) : val W32 us / val W32 vs < 4294967296 := by
  rw [Nat.div_lt_iff_lt_mul h.pos, Nat.mul_comm]
  exact h.2.2.2.2.2.2.2.2.2.2
theorem KD.dec (h : KD us vs n t u2 v1 v2) {g r : Nat} (he : g * v1 + r = t) (hq : val W32 us / val W32 vs ≤ g) (hc : 4294967296 ≤ g ∨ r * 4294967296 + u2 < g * v2) : val W32 us / val W32 vs ≤ g - 1 ∧ 1 ≤ g := by
  have hlt : val W32 us / val W32 vs < g := by
    rcases hc with hc | hc
    · exact Nat.lt_of_lt_of_le h.div_lt hc
    · obtain ⟨R, ur, vr, e1, h1, e2, h2⟩ := h.split
      exact kd_gt e1 e2 h2 (kd_over he hc) h.pos
  generalize val W32 us / val W32 vs = q at *
  omega
theorem KD.fin (h : KD us vs n t u2 v1 v2) {g r : Nat} (he : g * v1 + r = t) (hq : val W32 us / val W32 vs ≤ g) (hg : g < 4294967296) (hc : g * v2 ≤ r * 4294967296 + u2) : GuessOk us vs g := by
  obtain ⟨R, ur, vr, e1, h1, e2, h2⟩ := h.split
  have hv1 := h.2.2.2.2.2.2.2.2.2.1
  exact ⟨hq, kd_le e1 e2 h1 (kd_fits he hc) (by omega) h.pos, hg⟩
theorem KD.brk (h : KD us vs n t u2 v1 v2) {g r : Nat} (he : g * v1 + r = t) (hq : val W32 us / val W32 vs ≤ g) (hr : 4294967296 ≤ r) : GuessOk us vs g := by
  have h' := h
  obtain ⟨k1, k2, k3, k4, h2n, k5, k6, k7, k8, hv1, k9⟩ := h'
  have hb2 : v2 < 4294967296 := by rw [← k8]; exact k4.getD (by decide) _
  have hb5 : us.getD (n - 1) 0 < 4294967296 := k3.getD (by decide) _
  have hun : us.getD n 0 ≤ v1 := by
    have e1 := val_split W32 us n
    have e4 := val_drop_step W32 us n
    rw [List.drop_eq_nil_of_le (i := n + 1) (by omega), val_nil, Nat.mul_zero, Nat.add_zero] at e4
    have e5 := val_split W32 vs (n - 1)
    have e6 := val_drop_step W32 vs (n - 1)
    rw [List.drop_eq_nil_of_le (i := n - 1 + 1) (by omega), val_nil, Nat.mul_zero, Nat.add_zero, k7] at e6
    have h5 := val_take_lt k4 (j := n - 1) (by omega)
    refine kd_top (B := W32) (n := n) (U := val W32 us) (V := val W32 vs) ?_ ?_ k9 (by omega) (by decide)
    · rw [e1, e4, Nat.mul_comm]; omega
    · rw [e5, e6, Nat.add_mul, Nat.one_mul, Nat.mul_comm v1]; omega
  have hg : g < 4294967296 := kd_break k5.symm hb5 hun he hr (by omega)
  exact h.fin he hq hg (kd_small hg hb2 hr)
theorem KD.start (h : KD us vs n t u2 v1 v2) {g : Nat} {r : Nat} (he : g * v1 + r = t) (hr : r < v1) : val W32 us / val W32 vs ≤ g := by
  rcases Nat.lt_or_ge g (val W32 us / val W32 vs) with hlt | hge
  · exfalso
    have hq : (g + 1) * val W32 vs ≤ val W32 us := by
      rw [← Nat.le_div_iff_mul_le h.pos]; exact hlt
    obtain ⟨R, ur, vr, e1, h1, e2, h2⟩ := h.split
    have h3 : t + 1 ≤ (g + 1) * v1 := by rw [Nat.add_mul, Nat.one_mul]; omega
    have h4 : (t + 1) * 4294967296 ≤ (g + 1) * v1 * 4294967296 := Nat.mul_le_mul_right _ h3
    have hb3 : u2 < 4294967296 := by
      obtain ⟨k1, k2, k3, k4, h2n, k5, k6, k7, k8, hv1, k9⟩ := h
      rw [← k6]; exact k3.getD (by decide) _
    have h5 : t * 4294967296 + u2 < (g + 1) * (v1 * 4294967296 + v2) := by
      rw [Nat.mul_add (g + 1), ← Nat.mul_assoc]; omega
    have h6 := kd_gt e1 e2 h2 h5 h.pos
    omega
  · exact hge
end
theorem and_one_u64' (y : Nat) (hy : y < 18446744073709551616) : bits .and .u64 (y : Int) 1 = ((y % 2 : Nat) : Int) := by
  have h := u64_and (y : Int) 1 (by omega) (by omega) (by omega) (by omega)
  rw [Int.toNat_natCast, show (1 : Int).toNat = 1 from rfl, Nat.and_one_is_mod] at h
  exact h
theorem wrap_two (p l b : Nat) (hp : p < 4294967296) (hl : l < 4294967296) (hb : b ≤ 1) :
    IntKind.u64.wrap (IntKind.u64.wrap ((p : Int) - (l : Int)) - (b : Int)) = (((p + 18446744073709551616 - l - b) % 18446744073709551616 : Nat) : Int) := by
  rw [IntKind.wrap_u64, IntKind.wrap_u64]
  omega
theorem ms_cell (p l bo : Nat) (hp : p < 4294967296) (hl : l < 4294967296) (hbo : bo ≤ 1) :
    ∃ x b : Nat, IntKind.u64.wrap (IntKind.u64.wrap ((p : Int) - (l : Int)) - (bo : Int)) % 4294967296 = (x : Int) ∧
      bits .and .u64 (IntKind.u64.wrap (IntKind.u64.wrap ((p : Int) - (l : Int)) - (bo : Int)) / 4294967296) 1 = (b : Int) ∧ x < 4294967296 ∧ b ≤ 1 ∧ p + 4294967296 * b = x + l + bo := by
  rw [wrap_two p l bo hp hl hbo]
  generalize hX : (p + 18446744073709551616 - l - bo) % 18446744073709551616 = X
  refine ⟨X % 4294967296, X / 4294967296 % 2, (of_cast X).1, ?_, by omega, by omega, by omega⟩
  rw [(of_cast X).2, and_one_u64' _ (by omega)]
theorem app_set (pre cs post : List Nat) (i x : Nat) (hi : i < cs.length) : (pre ++ cs ++ post).set (pre.length + i) x = pre ++ cs.set i x ++ post := by
  rw [List.append_assoc, List.set_append_right _ _ (by omega), List.append_assoc, List.set_append_left _ _ (by omega)]
  congr 3
  omega
theorem app_get (pre cs post : List Nat) (i : Nat) (hi : i < cs.length) : (pre ++ cs ++ post).getD (pre.length + i) 0 = cs.getD i 0 := by
  rw [List.append_assoc, List.getD_eq_getElem?_getD, List.getElem?_append_right (by omega), List.getElem?_append_left (by omega), List.getD_eq_getElem?_getD]
  congr 2
  omega
theorem grown_set {a w : World} {g : Nat} (h : a.grownBy w (some g)) (o : Nat) (u : Value) : a.grownBy (w.setCell ⟨g, o, none⟩ u) (some g) :=
  ⟨h.os, h.tape, h.output, by simpa [World.setCell] using h.size, fun i hi hne => (Below.heap_setCell w ⟨g, o, none⟩ u i (by
    rintro rfl
    exact hne rfl)).trans (h.block i hi hne)⟩
theorem grown_drewN {a w : World} {row : Option Nat} (h : a.grownBy w row) (n : Nat) : a.grownBy (w.drewN n) row := ⟨h.os, h.tape, h.output, h.size, h.block⟩
theorem grown_cell {a w : World} {g : Nat} (h : a.grownBy w (some g)) {p : Addr} {v : Value} (hc : a.cell? p = some v) (hne : p.block ≠ g) : w.cell? p = some v :=
  h.cell hc (fun e => hne (by injection e))
theorem own_sub_cell {w : World} {B gb N c n off i : Nat} {pre cs post : List Nat} (h : Own .u32 89 w B gb N c (pre ++ cs ++ post)) (hl : cs.length = n + 1) (hoff : pre.length = off) (hi : i ≤ n) :
    w.cell? ⟨gb, off + i, none⟩ = some (.int .u32 ((cs.getD i 0 : Nat) : Int)) := by
  have h1 := h.1
  rw [List.length_append, List.length_append] at h1
  rw [h.cell (by omega), ← hoff, app_get pre cs post i (by omega)]
theorem own_sub_set {w : World} {B gb N c n off i x : Nat} {pre cs post : List Nat} (h : Own .u32 89 w B gb N c (pre ++ cs ++ post)) (hl : cs.length = n + 1) (hoff : pre.length = off) (hi : i ≤ n) :
    Own .u32 89 (w.setCell ⟨gb, off + i, none⟩ (.int .u32 (x : Int))) B gb N c (pre ++ cs.set i x ++ post) := by
  rw [← app_set pre cs post i x (by omega), hoff]
  exact h.stored _ _
theorem ms_list {us cs vs : List Nat} {i bo ca g p q x b n : Nat} (hl : cs.length = n + 1) (hi : i ≤ n) (hp : us.getD i 0 = p) (hq : vs.getD i 0 = q)
    (he : val W32 (us.take i) + W32 ^ i * (bo + ca) = val W32 (cs.take i) + g * val W32 (vs.take i)) (hx : p + 4294967296 * b = x + (ca + g * q) % 4294967296 + bo) :
    val W32 (us.take (i + 1)) + W32 ^ (i + 1) * (b + (ca + g * q) / 4294967296) = val W32 ((cs.set i x).take (i + 1)) + g * val W32 (vs.take (i + 1)) := by
  rw [val_take_succ, val_take_succ, val_take_succ, take_set_lt _ _ _ _ (Nat.le_refl _), getD_set_self _ _ _ (by omega), hp, hq, Nat.pow_succ]
  exact ms_step he hx
theorem ms_total {us cs vs : List Nat} {k bo ca g p x b : Nat} (hu : us.length = k + 1) (hl : cs.length = k + 1) (hv : vs.length = k) (hp : us.getD k 0 = p)
    (he : val W32 (us.take k) + W32 ^ k * (bo + ca) = val W32 (cs.take k) + g * val W32 (vs.take k)) (hx : p + 4294967296 * b = x + ca + bo) :
    val W32 us + W32 ^ (k + 1) * b = val W32 (cs.set k x) + g * val W32 vs := by
  have h1 := val_take_succ W32 us k
  have h2 := val_take_succ W32 (cs.set k x) k
  rw [val_take_all W32 us (by omega), hp] at h1
  rw [val_take_all W32 (cs.set k x) (by simp; omega), take_set_lt _ _ _ _ (Nat.le_refl _), getD_set_self _ _ _ (by omega)] at h2
  rw [val_take_all W32 vs (by omega), Nat.mul_add] at he
  have h3 : W32 ^ k * p + W32 ^ (k + 1) * b = W32 ^ k * x + W32 ^ k * ca + W32 ^ k * bo := by
    rw [Nat.pow_succ, Nat.mul_assoc, ← Nat.mul_add, show W32 * b = 4294967296 * b from rfl, hx, Nat.mul_add, Nat.mul_add]
  omega
theorem fin_zero {U V C g : Nat} (hV : 0 < V) (h : U = C + g * V) (hq : U / V ≤ g) : g = U / V ∧ C = U % V := by
  have h1 : g ≤ U / V := by rw [Nat.le_div_iff_mul_le hV]; omega
  have h2 : g = U / V := by
    generalize U / V = q at *
    omega
  refine ⟨h2, ?_⟩
  have h3 := Nat.div_add_mod U V
  rw [← h2, Nat.mul_comm] at h3
  omega
theorem fin_one {U V C g P : Nat} (hV : 0 < V) (h : U + P = C + g * V) (hC : C < P) (hq : g ≤ U / V + 1) : 1 ≤ g ∧ g - 1 = U / V ∧ C + V = P + U % V := by
  have h1 : U / V < g := by rw [Nat.div_lt_iff_lt_mul hV]; omega
  have h2 : g = U / V + 1 := by
    generalize U / V = q at *
    omega
  have h3 := Nat.div_add_mod U V
  have h4 : g * V = V * (U / V) + V := by rw [h2, Nat.add_mul, Nat.one_mul, Nat.mul_comm]
  generalize U / V = q at *
  refine ⟨by omega, by omega, by omega⟩
theorem back_end {cs ds vs : List Nat} {k ca x y r : Nat} (hl : cs.length = k + 1) (hd : ds.length = k + 1) (hv : vs.length = k) (hok : Ok W32 ds) (hx : cs.getD k 0 = x) (hxb : x < 4294967296) (hca : ca ≤ 1)
    (he : val W32 (cs.take k) + val W32 (vs.take k) = val W32 (ds.take k) + W32 ^ k * ca) (hy : y = (x + ca) % 4294967296) (hs : val W32 cs + val W32 vs = W32 ^ (k + 1) + r) :
    val W32 (ds.set k y) = r := by
  have h1 := val_take_succ W32 cs k
  have h2 := val_take_succ W32 (ds.set k y) k
  rw [val_take_all W32 cs (by omega), hx] at h1
  rw [val_take_all W32 (ds.set k y) (by simp; omega), take_set_lt _ _ _ _ (Nat.le_refl _), getD_set_self _ _ _ (by omega)] at h2
  rw [val_take_all W32 vs (by omega)] at he
  have h3 := val_take_lt hok (j := k) (by omega)
  have hW : W32 = 4294967296 := rfl
  have hge : 4294967296 ≤ x + ca := by
    rcases Nat.lt_or_ge (x + ca) 4294967296 with h | h
    · exfalso
      have h4 : W32 ^ k * (x + ca + 1) ≤ W32 ^ k * W32 := Nat.mul_le_mul_left _ (by rw [hW]; omega)
      have hP : W32 ^ (k + 1) = W32 ^ k * W32 := Nat.pow_succ _ _
      rw [Nat.mul_add, Nat.mul_add, Nat.mul_one, ← hP] at h4
      omega
    · exact h
  have h5 : W32 ^ k * x + W32 ^ k * ca = W32 ^ k * y + W32 ^ (k + 1) := by
    rw [← Nat.mul_add, Nat.pow_succ, ← Nat.mul_add, hW]
    congr 1
    omega
  omega
theorem dm_facts (t v1 : Nat) (ht : t < 18446744073709551616) (hv : 2147483648 ≤ v1) : ∃ g0 r0 : Nat, (t : Int).tdiv (v1 : Int) = (g0 : Int) ∧ (t : Int).tmod (v1 : Int) = (r0 : Int) ∧ (t : Int) / (v1 : Int) = (g0 : Int) ∧ (t : Int) % (v1 : Int) = (r0 : Int) ∧ g0 * v1 + r0 = t ∧ r0 < v1 ∧ g0 < 8589934592 := by
  refine ⟨t / v1, t % v1, ?_, ?_, ?_, ?_, ?_, Nat.mod_lt _ (by omega), ?_⟩
  · rw [Int.tdiv_eq_ediv_of_nonneg (by omega), Int.natCast_ediv]
  · rw [Int.tmod_eq_emod_of_nonneg (by omega), Int.natCast_emod]
  · rw [Int.natCast_ediv]
  · rw [Int.natCast_emod]
  · rw [Nat.mul_comm]; exact Nat.div_add_mod t v1
  · rw [Nat.div_lt_iff_lt_mul (by omega)]
    have : 8589934592 * 2147483648 ≤ 8589934592 * v1 := Nat.mul_le_mul_left _ hv
    omega
set_option maxHeartbeats 1600000 in
theorem digit_any (pre us post vs : List Nat) (gb B N c off n cu cv : Nat) (A : Option Addr) (w : World) (hown : Own .u32 89 w B gb N c (pre ++ us ++ post)) (hoff : pre.length = off) (hv : Rd .u32 w gb A n vs)
    (t u2 v1 v2 : Nat) (hkd : KD us vs n t u2 v1 v2) (hn : n ≤ 100000) (hN : N ≤ 1000000) (hcu : n + 1 ≤ cu) :
    Calls Tryz.prog 292 #[.slice (some ⟨gb, off, none⟩) (n + 1) cu, .slice A n cv] w fun e w' => ∃ us', e = .returned (.int .u32 ((val W32 us / val W32 vs : Nat) : Int)) ∧ Own .u32 89 w' B gb N c (pre ++ us' ++ post) ∧ us'.length = n + 1 ∧ Ok W32 us' ∧ val W32 us' = val W32 us % val W32 vs ∧ w.grownBy w' (some gb) := by
  have HOF := Lib.hid hoff
  have HK := Lib.hid hkd
  have HO := Lib.hid hown
  have HV := Lib.hid hv
  clear hkd hown hv
  obtain ⟨k1, k2, k3, k4, h2n, k5, k6, k7, k8, hv1, k9⟩ := HK.out
  obtain ⟨bv, ov, rfl, hbv, hcv⟩ := HV.out.2 (by omega)
  have hcv1 := hcv (n - 1) (by omega)
  have hcv2 := hcv (n - 2) (by omega)
  rw [k7] at hcv1
  rw [k8] at hcv2
  have hcu0 : w.cell? ⟨gb, off + n, none⟩ = some (.int .u32 ((us.getD n 0 : Nat) : Int)) := own_sub_cell HO.out k1 hoff (Nat.le_refl _)
  have hcu1 : w.cell? ⟨gb, off + (n - 1), none⟩ = some (.int .u32 ((us.getD (n - 1) 0 : Nat) : Int)) := own_sub_cell HO.out k1 hoff (by omega)
  have hcu2 : w.cell? ⟨gb, off + (n - 2), none⟩ = some (.int .u32 (u2 : Int)) := by rw [← k6]; exact own_sub_cell HO.out k1 hoff (by omega)
  have hb1 : v1 < 4294967296 := by rw [← k7]; exact k4.getD (by decide) _
  have hb2 : v2 < 4294967296 := by rw [← k8]; exact k4.getD (by decide) _
  have hb3 : u2 < 4294967296 := by rw [← k6]; exact k3.getD (by decide) _
  have hb4 : us.getD n 0 < 4294967296 := k3.getD (by decide) _
  have hb5 : us.getD (n - 1) 0 < 4294967296 := k3.getD (by decide) _
  generalize hp0 : us.getD n 0 = p0 at *
  generalize hp1 : us.getD (n - 1) 0 = p1 at *
  have HP := Lib.hid (And.intro hp0 hp1)
  clear hp0 hp1 hcv k1 k2 k3 k4 k6 k7 k8 k9
  have HT := Lib.hid k5
  have htb : t < 18446744073709551616 := by omega
  have hor := u64_or_shift p0 p1 hb4 hb5
  have ht' : (p0 : Int) * 4294967296 + (p1 : Int) = (t : Int) := by omega
  clear k5
  have hn1 : (0 : Int) ≤ (n : Int) - 1 := by omega
  have hn2 : (0 : Int) ≤ (n : Int) - 2 := by omega
  have hn3 : (n : Int) - 1 < (n : Int) + 1 := by omega
  go_enter Tryz.func292, Tryz.ntmps292
  go_wp2_with fail
  go_quiet (fail)
  go_wp2_with fail
  clear hor ht'
  obtain ⟨g0, r0, hg0, hr0, hg0', hr0', hgr, hrv, hgb⟩ : ∃ g0 r0 : Nat, (t : Int).tdiv (v1 : Int) = (g0 : Int) ∧ (t : Int).tmod (v1 : Int) = (r0 : Int) ∧ (t : Int) / (v1 : Int) = (g0 : Int) ∧ (t : Int) % (v1 : Int) = (r0 : Int) ∧ g0 * v1 + r0 = t ∧ r0 < v1 ∧ g0 < 8589934592 := dm_facts t v1 htb hv1
  have HG := Lib.hid hgr
  clear hgr
  go_quiet (fail)
  clear hg0 hr0 hg0' hr0'
  go_upto_block 0 with fail
  go_cut [7, 8] (fun s7 s8 wx => ∃ g r m : Nat, s7 = .int .u64 (g : Int) ∧ s8 = .int .u64 (r : Int) ∧ Hid (GuessOk us vs g) ∧ Hid (wx = w.drewN m))
  case first =>
    go_wp2_with fail
    go_loopg [7, 8] g0 (fun gk s7 s8 wx => ∃ r m : Nat, s7 = .int .u64 (gk : Int) ∧ s8 = .int .u64 (r : Int) ∧ Hid (gk * v1 + r = t) ∧ r < 4294967296 ∧ gk < 8589934592 ∧ Hid (val W32 us / val W32 vs ≤ gk) ∧ Hid (wx = w.drewN m))
    case atStart => exact ⟨r0, _, rfl, rfl, HG.out, by omega, hgb, HK.out.start HG.out hrv, by unfold Hid; first | rfl | (rw [World.drewN_drewN]) | (rw [World.drewN_drewN, World.drewN_drewN])⟩
    case round =>
      obtain ⟨r, m, rfl, rfl, HE, hr, hgk, HQ, HW⟩ := hrel
      obtain rfl := HW.out
      by_cases hA : 4294967296 ≤ gk
      · have hd : decide (0 < (gk : Int) / 4294967296) = true := by simp; omega
        go_wp2_with fail
        go_quiet (fail)
        clear hd
        by_cases hC : 4294967296 ≤ r + v1
        · go_wp2
          go_meet
          case rel =>
            have hd := HK.out.dec HE.out HQ.out (.inl hA)
            exact ⟨gk - 1, r + v1, _, congrArg (Value.int .u64) (by omega), congrArg (Value.int .u64) (by omega), HK.out.brk (by rw [Nat.sub_mul, Nat.one_mul]; have h1 := HE.out; have h2 : v1 ≤ gk * v1 := Nat.le_mul_of_pos_left _ (by omega); omega) hd.1 hC, by unfold Hid; first | rfl | (rw [World.drewN_drewN]) | (rw [World.drewN_drewN, World.drewN_drewN])⟩
        · go_wp2
          go_roundg (gk - 1)
          case measure => omega
          case rel =>
            have hd := HK.out.dec HE.out HQ.out (.inl hA)
            exact ⟨r + v1, _, congrArg (Value.int .u64) (by omega), congrArg (Value.int .u64) (by omega), by unfold Hid; rw [Nat.sub_mul, Nat.one_mul]; have h1 := HE.out; have h2 : v1 ≤ gk * v1 := Nat.le_mul_of_pos_left _ (by omega); omega, by omega, by omega, hd.1, by unfold Hid; first | rfl | (rw [World.drewN_drewN]) | (rw [World.drewN_drewN, World.drewN_drewN])⟩
      · have hd : decide (0 < (gk : Int) / 4294967296) = false := by simp; omega
        have hm : gk * v2 < 18446744073709551616 := by
          have : gk * v2 ≤ 4294967295 * 4294967295 := Nat.mul_le_mul (by omega) (by omega)
          omega
        obtain ⟨pr, hpr⟩ : ∃ pr, pr = gk * v2 := ⟨_, rfl⟩
        have HPR := Lib.hid hpr
        rw [← hpr] at hm
        have hmw : IntKind.u64.wrap ((gk : Int) * (v2 : Int)) = (pr : Int) := by
          rw [← Int.natCast_mul, ← hpr, IntKind.wrap_u64]
          omega
        clear hpr
        obtain ⟨xr, hxr⟩ : ∃ xr, xr = r * 4294967296 + u2 := ⟨_, rfl⟩
        have HXR := Lib.hid hxr
        have hor : bits .or .u64 ((r : Int) * 4294967296) (u2 : Int) = (xr : Int) := by
          rw [u64_or_shift r u2 hr hb3, hxr]
          exact (castW r u2).symm
        clear hxr
        have hsw : IntKind.u64.wrap ((r : Int) * 4294967296) = (r : Int) * 4294967296 := by
          rw [IntKind.wrap_u64]; omega
        by_cases hB : xr < pr
        · have hd2 : decide (xr < pr) = true := decide_eq_true hB
          have HD := Lib.hid (HK.out.dec HE.out HQ.out (.inr (by rw [← HXR.out, ← HPR.out]; exact hB)))
          have hg1 : 1 ≤ gk := HD.out.2
          go_wp2_with fail
          go_quiet (fail)
          clear hd hd2 hmw hor hsw
          by_cases hC : 4294967296 ≤ r + v1
          · go_wp2
            go_meet
            case rel =>
              exact ⟨gk - 1, r + v1, _, congrArg (Value.int .u64) (by omega), congrArg (Value.int .u64) (by omega), HK.out.brk (by rw [Nat.sub_mul, Nat.one_mul]; have h1 := HE.out; have h2 : v1 ≤ gk * v1 := Nat.le_mul_of_pos_left _ (by omega); omega) HD.out.1 hC, by unfold Hid; first | rfl | (rw [World.drewN_drewN]) | (rw [World.drewN_drewN, World.drewN_drewN])⟩
          · go_wp2
            go_roundg (gk - 1)
            case measure => omega
            case rel =>
              exact ⟨r + v1, _, congrArg (Value.int .u64) (by omega), congrArg (Value.int .u64) (by omega), by unfold Hid; rw [Nat.sub_mul, Nat.one_mul]; have h1 := HE.out; have h2 : v1 ≤ gk * v1 := Nat.le_mul_of_pos_left _ (by omega); omega, by omega, by omega, HD.out.1, by unfold Hid; first | rfl | (rw [World.drewN_drewN]) | (rw [World.drewN_drewN, World.drewN_drewN])⟩
        · have hd2 : decide (xr < pr) = false := decide_eq_false hB
          go_wp2_with fail
          go_quiet (fail)
          clear hd hd2 hmw hor hsw
          go_wp2
          go_meet
          case rel =>
            exact ⟨gk, r, _, rfl, rfl, HK.out.fin HE.out HQ.out (by omega) (by rw [← HXR.out, ← HPR.out]; omega), by unfold Hid; first | rfl | (rw [World.drewN_drewN]) | (rw [World.drewN_drewN, World.drewN_drewN])⟩
  case rest =>
    obtain ⟨g, r, m, rfl, rfl, HG1, HW⟩ := hcut
    have hg : g < 4294967296 := HG1.out.2.2
    clear hrv hgb HG hn1 hn2 hn3 hcu0 hcu1 hcu2 hcv1 hcv2 htb hb1 hb2 hb3 hb4 hb5
    have HGW : Hid (w.grownBy wc (some gb)) := by rw [HW.out]; exact ⟨rfl, rfl, rfl, Nat.le_refl _, fun _ _ _ => rfl⟩
    have HOc : Hid (Own .u32 89 wc B gb N c (pre ++ us ++ post)) := by rw [HW.out]; exact HO.out
    clear HW
    go_wp2_with fail
    go_loopg [84, 9, 10] n (fun gk si sb sc wx => ∃ (i bo ca : Nat) (cs : List Nat), gk + i = n ∧ si = .int .i64 (i : Int) ∧ sb = .int .u64 (bo : Int) ∧ sc = .int .u64 (ca : Int) ∧ bo ≤ 1 ∧ ca < 4294967296 ∧ Hid (Own .u32 89 wx B gb N c (pre ++ cs ++ post)) ∧ Hid (cs.length = n + 1) ∧ Hid (Ok W32 cs) ∧ Hid (∀ j, i ≤ j → cs.getD j 0 = us.getD j 0) ∧ Hid (val W32 (us.take i) + W32 ^ i * (bo + ca) = val W32 (cs.take i) + g * val W32 (vs.take i)) ∧ Hid (w.grownBy wx (some gb)))
    case atStart =>
      exact ⟨0, 0, 0, us, by omega, rfl, rfl, rfl, by omega, by omega, HOc.out, HK.out.1, HK.out.2.2.1, fun _ _ => rfl, by unfold Hid; simp, HGW.out⟩
    case round =>
      obtain ⟨i, bo, ca, cs, hgi, rfl, rfl, rfl, hbo, hca, HOw, HL, HOk, HJ, HE, HGB⟩ := hrel
      by_cases hi : i < n
      · obtain ⟨p, hp⟩ : ∃ p, us.getD i 0 = p := ⟨_, rfl⟩
        obtain ⟨q, hq⟩ : ∃ q, vs.getD i 0 = q := ⟨_, rfl⟩
        have HPQ : Hid (us.getD i 0 = p ∧ vs.getD i 0 = q) := ⟨hp, hq⟩
        have hpb : p < 4294967296 := by rw [← hp]; exact HK.out.2.2.1.getD (by decide) _
        have hqb : q < 4294967296 := by rw [← hq]; exact HK.out.2.2.2.1.getD (by decide) _
        have hcell : wr.cell? ⟨gb, off + i, none⟩ = some (.int .u32 (p : Int)) := by
          rw [← hp, ← HJ.out i (Nat.le_refl _)]; exact own_sub_cell HOw.out HL.out HOF.out (by omega)
        have hcq : wr.cell? ⟨bv, ov + i, none⟩ = some (.int .u32 (q : Int)) := by
          obtain ⟨b', o', e', hb', hc'⟩ := HV.out.2 (by omega)
          injection e' with e'
          injection e' with e1 e2
          subst e1 e2
          rw [← hq]
          exact grown_cell HGB.out (hc' i hi) (by show bv ≠ gb; omega)
        have hf := HOw.out.frozen (off + i)
        clear hp hq
        obtain ⟨s, hs⟩ : ∃ s, s = ca + g * q := ⟨_, rfl⟩
        have HS := Lib.hid hs
        have hsb : s < 18446744073709551616 := by
          have : g * q ≤ 4294967295 * 4294967295 := Nat.mul_le_mul (by omega) (by omega)
          omega
        have hgq : (g : Int) * (q : Int) = (s : Int) - (ca : Int) := by
          rw [← Int.natCast_mul]; omega
        have hcas : (ca : Int) ≤ (s : Int) := by omega
        clear hs
        go_wp2
        go_roundg (gk - 1)
        case measure => omega
        case rel =>
          have el : ((ca : Int) + ((s : Int) - (ca : Int))) % 4294967296 = ((s % 4294967296 : Nat) : Int) := by omega
          have eh : ((ca : Int) + ((s : Int) - (ca : Int))) / 4294967296 = ((s / 4294967296 : Nat) : Int) := by omega
          obtain ⟨x, b, e1, e2, hxb, hbb, hx⟩ := ms_cell p (s % 4294967296) bo hpb (by omega) hbo
          rw [el, eh, e1, e2]
          refine ⟨i + 1, b, s / 4294967296, cs.set i x, by omega, by go_num, rfl, rfl, hbb, by omega, own_sub_set HOw.out HL.out HOF.out (by omega), by unfold Hid; rw [List.length_set]; exact HL.out, HOk.out.set hxb, ?_, ?_, grown_set HGB.out _ _⟩
          · intro j hj
            rw [NumB.getD_set_ne _ _ _ _ (by omega)]
            exact HJ.out j (by omega)
          · rw [HS.out] at hx ⊢
            exact ms_list HL.out (by omega) HPQ.out.1 HPQ.out.2 HE.out hx
      · obtain ⟨k, rfl⟩ : ∃ k, k = n := ⟨_, rfl⟩
        obtain rfl : k = i := by omega
        clear hgi hi
        have hp0b : p0 < 4294967296 := by rw [← HP.out.1]; exact HK.out.2.2.1.getD (by decide) _
        have hcell : wr.cell? ⟨gb, off + k, none⟩ = some (.int .u32 (p0 : Int)) := by
          rw [← HP.out.1, ← HJ.out k (Nat.le_refl _)]; exact own_sub_cell HOw.out HL.out HOF.out (Nat.le_refl _)
        have hf := HOw.out.frozen (off + k)
        by_cases hb : ca + bo ≤ p0
        · have hand : bits .and .u64 (((p0 : Int) - (ca : Int) - (bo : Int)) / 4294967296) 1 = 0 := by
            have e : ((p0 : Int) - (ca : Int) - (bo : Int)) / 4294967296 = ((0 : Nat) : Int) := by omega
            rw [e]
            exact and_one_u64' 0 (by omega)
          go_wp2
          go_ret
          have e : (p0 : Int) - (ca : Int) - (bo : Int) = ((p0 - ca - bo : Nat) : Int) := by omega
          rw [e]
          have ht := ms_total (x := p0 - ca - bo) (b := 0) HK.out.1 HL.out HK.out.2.1 HP.out.1 HE.out (by omega)
          have hfz := fin_zero HK.out.pos (by rw [Nat.mul_zero, Nat.add_zero] at ht; exact ht) HG1.out.1
          exact ⟨cs.set k (p0 - ca - bo), congrArg (fun z : Nat => Ending.returned (.int .u32 (z : Int))) hfz.1, own_sub_set HOw.out HL.out HOF.out (Nat.le_refl _), by rw [List.length_set]; exact HL.out, HOk.out.set (by show _ < 4294967296; omega), hfz.2, grown_set HGB.out _ _⟩
        · have hand : bits .and .u64 (IntKind.u64.wrap (IntKind.u64.wrap ((p0 : Int) - (ca : Int)) - (bo : Int)) / 4294967296) 1 = 1 := by
            obtain ⟨x, b, _, e2, hxb, hbb, hx⟩ := ms_cell p0 ca bo hp0b hca hbo
            rw [e2]
            have : b = 1 := by omega
            subst this
            rfl
          obtain ⟨x, b, e1, _, hxb, hbb, hx⟩ := ms_cell p0 ca bo hp0b hca hbo
          obtain rfl : b = 1 := by omega
          have HX := Lib.hid (And.intro e1 hx)
          clear e1 hx hbb
          go_wp2
          rw [HX.out.1]
          clear hand
          obtain ⟨cs', hcs'⟩ : ∃ cs', cs' = cs.set k x := ⟨_, rfl⟩
          have HC' : Hid (cs'.length = k + 1 ∧ Ok W32 cs' ∧ cs'.getD k 0 = x) := by
            subst hcs'
            exact ⟨by rw [List.length_set]; exact HL.out, HOk.out.set hxb, getD_set_self _ _ _ (by rw [HL.out]; omega)⟩
          have HT' : Hid (val W32 us + W32 ^ (k + 1) = val W32 cs' + g * val W32 vs) := by
            subst hcs'
            have ht := ms_total (x := x) (b := 1) HK.out.1 HL.out HK.out.2.1 HP.out.1 HE.out HX.out.2
            rw [Nat.mul_one] at ht
            exact ht
          have HF := Lib.hid (fin_one HK.out.pos HT'.out (by have := val_lt HC'.out.2.1; rw [HC'.out.1] at this; exact this) HG1.out.2.1)
          have hg1 : 1 ≤ g := HF.out.1
          obtain ⟨wy, hwy⟩ : ∃ wy, wy = wr.setCell ⟨gb, off + k, none⟩ (.int .u32 (x : Int)) := ⟨_, rfl⟩
          have HOy : Hid (Own .u32 89 wy B gb N c (pre ++ cs' ++ post)) := by
            subst hwy hcs'
            exact own_sub_set HOw.out HL.out HOF.out (Nat.le_refl _)
          have HGy : Hid (w.grownBy wy (some gb)) := by
            subst hwy
            exact grown_set HGB.out _ _
          rw [← hwy]
          clear hwy hcs' hcell hf hb
          go_loopg [140, 10] k (fun gk si sc wx => ∃ (i ca : Nat) (ds : List Nat), gk + i = k ∧ si = .int .i64 (i : Int) ∧ sc = .int .u64 (ca : Int) ∧ ca ≤ 1 ∧ Hid (Own .u32 89 wx B gb N c (pre ++ ds ++ post)) ∧ Hid (ds.length = k + 1) ∧ Hid (Ok W32 ds) ∧ Hid (∀ j, i ≤ j → ds.getD j 0 = cs'.getD j 0) ∧ Hid (val W32 (cs'.take i) + val W32 (vs.take i) = val W32 (ds.take i) + W32 ^ i * ca) ∧ Hid (w.grownBy wx (some gb)))
          case atStart =>
            exact ⟨0, 0, cs', by omega, rfl, rfl, by omega, HOy.out, HC'.out.1, HC'.out.2.1, fun _ _ => rfl, by unfold Hid; simp, HGy.out⟩
          case round =>
            obtain ⟨i, ca, ds, hgi, rfl, rfl, hca, HOz, HLz, HOkz, HJz, HEz, HGz⟩ := hrel
            by_cases hi : i < k
            · obtain ⟨p, hp⟩ : ∃ p, cs'.getD i 0 = p := ⟨_, rfl⟩
              obtain ⟨q, hq⟩ : ∃ q, vs.getD i 0 = q := ⟨_, rfl⟩
              have HPQ : Hid (cs'.getD i 0 = p ∧ vs.getD i 0 = q) := ⟨hp, hq⟩
              have hpb : p < 4294967296 := by rw [← hp]; exact HC'.out.2.1.getD (by decide) _
              have hqb : q < 4294967296 := by rw [← hq]; exact HK.out.2.2.2.1.getD (by decide) _
              have hcell : wr.cell? ⟨gb, off + i, none⟩ = some (.int .u32 (p : Int)) := by
                rw [← hp, ← HJz.out i (Nat.le_refl _)]; exact own_sub_cell HOz.out HLz.out HOF.out (by omega)
              have hcq : wr.cell? ⟨bv, ov + i, none⟩ = some (.int .u32 (q : Int)) := by
                obtain ⟨b', o', e', hb', hc'⟩ := HV.out.2 (by omega)
                injection e' with e'
                injection e' with e1 e2
                subst e1 e2
                rw [← hq]
                exact grown_cell HGz.out (hc' i hi) (by show bv ≠ gb; omega)
              have hf := HOz.out.frozen (off + i)
              clear hp hq
              have hi0 : (0 : Int) ≤ (i : Int) := by omega
              have hi1 : (i : Int) < (k : Int) := by omega
              have hi2 : (i : Int) < (k : Int) + 1 := by omega
              have hw1 : IntKind.u64.wrap ((p : Int) + (q : Int)) = (p : Int) + (q : Int) := by rw [IntKind.wrap_u64]; omega
              have hw2 : IntKind.u64.wrap ((ca : Int) + ((p : Int) + (q : Int))) = (ca : Int) + ((p : Int) + (q : Int)) := by rw [IntKind.wrap_u64]; omega
              go_wp2
              go_quiet (fail)
              clear hw1 hw2
              go_wp2
              go_roundg (gk - 1)
              case measure => omega
              case rel =>
                have el : ((ca : Int) + ((p : Int) + (q : Int))) % 4294967296 = (((ca + p + q) % 4294967296 : Nat) : Int) := by omega
                have eh : ((ca : Int) + ((p : Int) + (q : Int))) / 4294967296 = (((ca + p + q) / 4294967296 : Nat) : Int) := by omega
                rw [el, eh]
                refine ⟨i + 1, (ca + p + q) / 4294967296, ds.set i ((ca + p + q) % 4294967296), by omega, by go_num, rfl, by omega, own_sub_set (HOz.out.drewN _) HLz.out HOF.out (by omega), by unfold Hid; rw [List.length_set]; exact HLz.out, HOkz.out.set (Nat.mod_lt _ (by decide)), ?_, ?_, grown_set (grown_drewN HGz.out _) _ _⟩
                · intro j hj
                  rw [NumB.getD_set_ne _ _ _ _ (by omega)]
                  exact HJz.out j (by omega)
                · show _ = _
                  rw [val_take_succ, val_take_succ, val_take_succ, take_set_lt _ _ _ _ (Nat.le_refl _), getD_set_self _ _ _ (by rw [HLz.out]; omega), HPQ.out.1, HPQ.out.2, Nat.pow_succ]
                  exact (add_step HEz.out.symm).symm
            · obtain rfl : i = k := by omega
              clear hgi hi
              have hcell : wr.cell? ⟨gb, off + i, none⟩ = some (.int .u32 (x : Int)) := by
                rw [← HC'.out.2.2, ← HJz.out i (Nat.le_refl _)]; exact own_sub_cell HOz.out HLz.out HOF.out (Nat.le_refl _)
              have hf := HOz.out.frozen (off + i)
              go_wp2
              go_ret
              have e : ((x : Int) + (ca : Int)) % 4294967296 = (((x + ca) % 4294967296 : Nat) : Int) := by omega
              rw [e]
              exact ⟨ds.set i ((x + ca) % 4294967296), ret_i (by rw [← HF.out.2.1]; omega), own_sub_set HOz.out HLz.out HOF.out (Nat.le_refl _), by rw [List.length_set]; exact HLz.out, HOkz.out.set (Nat.mod_lt _ (by decide)), back_end HC'.out.1 HLz.out HK.out.2.1 HOkz.out HC'.out.2.2 hxb hca HEz.out rfl HF.out.2.2, grown_set HGz.out _ _⟩
end Go.Proofs.YtkfnpcilanheiaaGreat
