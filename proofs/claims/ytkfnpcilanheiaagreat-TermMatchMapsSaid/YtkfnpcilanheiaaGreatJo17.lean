/- fetterlockref1.Of: a number as a fraction of naturals in base 2^16. Conditions: at most 100000 limbs. And 4 more texts. -/
import Derived.Deep.RegionHeld3
import Derived.Laws.Runes
import Derived.Test.YtkfnpcilanheiaaGreatJo12
import Derived.Test.YtkfnpcilanheiaaGreatJo13
import Derived.Test.YtkfnpcilanheiaaGreatJo14
import Derived.Test.YtkfnpcilanheiaaGreatJo16
set_option linter.unusedVariables false
set_option linter.unusedSimpArgs false
set_option maxRecDepth 100000
namespace Go.Proofs.YtkfnpcilanheiaaGreat
open Go.RowKit NumB
def RV (w : World) (v : Value) (neg : Bool) (x y : Nat) : Prop := ∃ A B, v = .agg #[.bool neg, A, B] ∧ Nat16 w A x ∧ Nat16 w B y
theorem RV.to {w w' : World} {v : Value} {neg : Bool} {x y : Nat} (h : RV w v neg x y) (hb : Below w.heap.size w w') : RV w' v neg x y := by
  obtain ⟨A, B, e, h1, h2⟩ := h
  exact ⟨A, B, e, h1.to hb, h2.to hb⟩
theorem Nat16.form {w : World} {v : Value} {x : Nat} (h : Nat16 w v x) : ∃ A n c, v = .slice A n c ∧ n = (digs W16 x).length := by
  obtain ⟨A, c, e, _⟩ := h
  exact ⟨A, _, c, e, rfl⟩
theorem RV.form {w : World} {v : Value} {neg : Bool} {x y : Nat} (h : RV w v neg x y) : ∃ A n c B m d, v = .agg #[.bool neg, .slice A n c, .slice B m d] ∧ n = (digs W16 x).length ∧ m = (digs W16 y).length := by
  obtain ⟨A, B, rfl, h1, h2⟩ := h
  obtain ⟨A1, n, c, rfl, e1⟩ := h1.form
  obtain ⟨B1, m, d, rfl, e2⟩ := h2.form
  exact ⟨_, _, _, _, _, _, rfl, e1, e2⟩
theorem Nat16.put3 {w : World} {v : Value} {x g : Nat} {t : TypeId} {neg : Bool} {A A' : Option Addr} {n m ca cb : Nat} (h : Nat16 w v x) (hg : Blk w g t #[.bool neg, .slice A n ca, .slice A' m cb]) (a b c : Value) : Nat16 (put3 w g a b c) v x :=
  Sl.boxed h hg noInts_num (Nat.le_of_eq (put3_size w g a b c).symm) (put3_far w g a b c)
theorem RV.put3 {w : World} {v : Value} {neg s : Bool} {x y g : Nat} {t : TypeId} {A A' : Option Addr} {n m ca cb : Nat} (h : RV w v neg x y) (hg : Blk w g t #[.bool s, .slice A n ca, .slice A' m cb]) (a b c : Value) : RV (put3 w g a b c) v neg x y := by
  obtain ⟨va, vb, rfl, h1, h2⟩ := h
  exact ⟨va, vb, rfl, h1.put3 hg a b c, h2.put3 hg a b c⟩
def RVPost (w : World) (neg : Bool) (x y : Nat) (e : Ending) (w' : World) : Prop := ∃ v, e = .returned v ∧ RV w' v neg x y ∧ Below w.heap.size w w'
theorem blk2 (w : World) (t u : TypeId) (a b : Array Value) : Blk ((w.alloc (.cells a t)).alloc (.cells b u)) w.heap.size t a ∧ Blk ((w.alloc (.cells a t)).alloc (.cells b u)) (w.heap.size + 1) u b := by
  refine ⟨(Blk.new w t a).alloc _, ?_⟩
  have := Blk.new (w.alloc (.cells a t)) u b
  simpa using this
theorem below_two (w : World) (o1 o2 : Obj) : Below w.heap.size w ((w.alloc o1).alloc o2) := (below_one w o1).alloc (by simp) o2
set_option maxHeartbeats 6400000 in
theorem rof_any (a : LN) (v : Value) (w : World) (h : GV w v a) (hl1 : a.num.length ≤ 100000) (hl2 : a.den.length ≤ 100000) : Calls Tryz.prog 20 #[v] w (RVPost w a.neg a.x a.y) := by
  obtain ⟨A, B, rfl, ha, hb, ox, oy⟩ := h
  have HN1 : Hid (∀ (o1 o2 : Obj), Calls Tryz.prog 59 #[A] ((w.alloc o1).alloc o2).drew (RPost ((w.alloc o1).alloc o2).drew a.x)) := fun o1 o2 => natOf_sl a.num A _ (ha.to (below_two w o1 o2).drew) ox hl1
  have HN2 : Hid (∀ (o1 o2 : Obj) (W : World), Below ((w.alloc o1).alloc o2).drew.heap.size ((w.alloc o1).alloc o2).drew W → Calls Tryz.prog 59 #[B] W (RPost W a.y)) := fun o1 o2 W hW => natOf_sl a.den B _ ((hb.to (below_two w o1 o2).drew).to hW) oy hl2
  have HB0 : Hid (∀ o1 o2 : Obj, Below w.heap.size w ((w.alloc o1).alloc o2).drew) := fun o1 o2 => (below_two w o1 o2).drew
  obtain ⟨A, ca, rfl, _⟩ := ha
  obtain ⟨A', cb, rfl, _⟩ := hb
  generalize a.num.length = n at *
  generalize a.den.length = m at *
  generalize a.neg = neg at *
  generalize a.x = x at *
  generalize a.y = y at *
  clear ox oy hl1 hl2
  have HBK := Lib.hid (blk2 w 24 46 #[.bool neg, .slice A n ca, .slice A' m cb] #[.bool false, .slice none 0 0, .slice none 0 0])
  have hk : ∀ W1 W' : World, Below W1.heap.size W1 W' → (W1.cell? ⟨w.heap.size, 0, none⟩ = some (.bool neg) ∧ W1.cell? ⟨w.heap.size, 1, none⟩ = some (.slice A n ca) ∧ W1.cell? ⟨w.heap.size, 2, none⟩ = some (.slice A' m cb) ∧ w.heap.size + 1 < W1.heap.size) → (W'.cell? ⟨w.heap.size, 0, none⟩ = some (.bool neg) ∧ W'.cell? ⟨w.heap.size, 1, none⟩ = some (.slice A n ca) ∧ W'.cell? ⟨w.heap.size, 2, none⟩ = some (.slice A' m cb) ∧ w.heap.size + 1 < W'.heap.size) :=
    fun W1 W' h1 ⟨h3, h4, h5, h2⟩ => ⟨(h1.cell (p := ⟨w.heap.size, 0, none⟩) (by show w.heap.size < _; omega)).trans h3, (h1.cell (p := ⟨w.heap.size, 1, none⟩) (by show w.heap.size < _; omega)).trans h4, (h1.cell (p := ⟨w.heap.size, 2, none⟩) (by show w.heap.size < _; omega)).trans h5, Nat.lt_of_lt_of_le h2 h1.size⟩
  have HK := Lib.hid hk
  clear hk
  go_enter Tryz.func20, Tryz.ntmps20
  go_wp2_with fail
  go_region_held3 (fun w' => w'.cell? ⟨w.heap.size, 0, none⟩ = some (.bool neg) ∧ w'.cell? ⟨w.heap.size, 1, none⟩ = some (.slice A n ca) ∧ w'.cell? ⟨w.heap.size, 2, none⟩ = some (.slice A' m cb) ∧ w.heap.size + 1 < w'.heap.size)
    (first | go_keep | (refine HK.out _ _ (by assumption) ?_; go_keep))
    (first
      | (go_at_call 59; ((with_reducible refine (HN1.out _ _).mono ?_)); rintro e w1 ⟨v1, rfl, hn1, hb1⟩)
      | (go_at_call 59; ((with_reducible refine (HN2.out _ _ _ (by exact hb1)).mono ?_)); rintro e w2 ⟨v2, rfl, hn2, hb2⟩; obtain ⟨C1, _, d1, rfl, rfl⟩ := hn1.form; obtain ⟨C2, _, d2, rfl, rfl⟩ := hn2.form; have hblk := (HBK.out.2.drew.to hb1).to hb2; have hc0 := hblk.cell 0; have hc1 := hblk.cell 1; have hc2 := hblk.cell 2; have hf0 := hblk.frozen 0; have hf1 := hblk.frozen 1; have hf2 := hblk.frozen 2; simp only [List.getElem?_toArray, List.getElem?_cons_zero, List.getElem?_cons_succ] at hc0 hc1 hc2))
  all_goals
    go_wp2_with fail
    refine bodyPost_ret (v := .agg #[.bool neg, .slice C1 (digs W16 x).length d1, .slice C2 (digs W16 y).length d2]) (by simp [results, Tryz.results20, go_sem, hc0, hc1, hc2]) rfl ⟨_, rfl, ?_, ?_⟩
    · exact RV.put3 (w := w2) ⟨_, _, rfl, hn1.to hb2, hn2⟩ hblk _ _ _
    · exact put3_below (((HB0.out _ _).trans (hb1.mono (HB0.out _ _).size)).trans (hb2.mono (Nat.le_trans (HB0.out _ _).size hb1.size))) (by omega) _ _ _
theorem LN.len16 {a : LN} (ho : a.ok) (h : a.err = 0) : (digs W16 a.x).length ≤ 256 ∧ (digs W16 a.y).length ≤ 256 := by
  obtain ⟨_, _, h3, h4, _⟩ := LN.good ho h
  exact ⟨digs16_val_le ho.1 h3, digs16_val_le ho.2 h4⟩
set_option maxHeartbeats 1600000 in
theorem risInt_any (neg : Bool) (x y : Nat) (v : Value) (w : World) (h : RV w v neg x y) (hy : (digs W16 y).length ≤ 1000000) :
    Calls Tryz.prog 58 #[v] w fun e w' => e = .returned (.bool (cmpI y 1 == 0)) ∧ Below w.heap.size w w' := by
  obtain ⟨A1, A2, rfl, h1, h2⟩ := h
  obtain ⟨B1, n1, c1, rfl, e1⟩ := h1.form
  obtain ⟨B2, n2, c2, rfl, e2⟩ := h2.form
  have HN := Lib.hid h2
  have HL := Lib.hid hy
  have HOne : ∀ o : Obj, Nat16 ((w.alloc o).alloc (.cells #[.int .i64 1] 3)) (.slice (some ⟨w.heap.size + 1, 0, none⟩) 1 1) 1 := fun o => by
    have h := one16 (w.alloc o)
    rw [show (w.alloc o).heap.size = w.heap.size + 1 from by simp] at h
    exact h
  clear h1 h2 e1 e2 hy
  go_enter Tryz.func58, Tryz.ntmps58
  go_wp2_with fail
  refine (rcmp_any y 1 _ _ _ (by exact HN.out.to (below_two w _ _)) (HOne _) HL.out (by rw [digs_one16]; decide)).mono ?_
  rintro e w1 ⟨rfl, rfl⟩
  go_wp2_with fail
  go_ret
  exact ⟨rfl, below_two w _ _⟩
theorem cmpI_one_true {y : Nat} (h : y = 1) : (cmpI y 1 == 0) = true := by subst h; decide
theorem cmpI_one_false {y : Nat} (h : y ≠ 1) : (cmpI y 1 == 0) = false := by
  rcases Nat.lt_trichotomy y 1 with h1 | h1 | h1
  · rw [cmpI_lt h1]; rfl
  · exact absurd h1 h
  · rw [cmpI_gt h1]; rfl
theorem dec_len16 {x : Nat} (h : (digs W16 x).length ≤ 256) : (dec x).length ≤ 1300 := by
  have h1 := dgs_len h
  unfold dec
  split
  · simp
  · rw [← dgs_text, List.length_map, List.length_reverse]; omega
set_option maxHeartbeats 6400000 in
theorem rtext_any (neg : Bool) (x y : Nat) (v : Value) (w : World) (h : RV w v neg x y) (hx : (digs W16 x).length ≤ 256) (hy : (digs W16 y).length ≤ 256) :
    Calls Tryz.prog 19 #[v] w fun e w' => e = .returned (.string ⟨(fmtL neg x y).toArray⟩) ∧ Below w.heap.size w w' := by
  obtain ⟨A1, A2, rfl, h1, h2⟩ := h
  obtain ⟨B1, n1, c1, rfl, e1⟩ := h1.form
  obtain ⟨B2, n2, c2, rfl, e2⟩ := h2.form
  have HNX : Hid (∀ o : Obj, Nat16 (w.alloc o) (.slice B1 n1 c1) x ∧ Nat16 (w.alloc o) (.slice B2 n2 c2) y) := fun o => ⟨h1.to (below_one _ _), h2.to (below_one _ _)⟩
  have HLX := Lib.hid (And.intro hx hy)
  have HBK := Lib.hid (Blk.new w 46 #[.bool neg, .slice B1 n1 c1, .slice B2 n2 c2])
  clear h1 h2 e1 e2 hx hy
  cases neg with
  | false =>
    by_cases hy1 : y = 1
    · have HO := Lib.hid (cmpI_one_true hy1)
      have E : Hid (fmtL false x y = dec x) := by unfold Hid fmtL; rw [if_pos hy1]; simp
      clear hy1
      go_enter Tryz.func19, Tryz.ntmps19
      go_wp2_with fail
      refine (rdecimal_any x _ _ (by exact (HNX.out _).1) (Nat.le_trans HLX.out.1 (by omega))).mono ?_
      rintro e w1 ⟨rfl, hb1⟩
      have hk := HBK.out.to hb1
      have c0 := hk.cell 0
      have c1 := hk.cell 1
      have c2 := hk.cell 2
      simp only [List.getElem?_toArray, List.getElem?_cons_zero, List.getElem?_cons_succ] at c0 c1 c2
      have HK1 := Lib.hid hk
      have HB1 := Lib.hid hb1
      clear hk hb1
      have hlx := dec_len16 HLX.out.1
      generalize hdx : dec x = lx at *
      clear hdx
      go_wp2_with fail
      refine (risInt_any false x y _ _ ⟨_, _, rfl, (by exact (HNX.out _).1.to HB1.out), (by exact (HNX.out _).2.to HB1.out)⟩ (Nat.le_trans HLX.out.2 (by omega))).mono ?_
      rintro e w3 ⟨he, hb3⟩
      rw [HO.out] at he
      subst he
      clear c0 c1 c2
      have hk := HK1.out.to hb3
      have c0 := hk.cell 0
      have c1 := hk.cell 1
      have c2 := hk.cell 2
      simp only [List.getElem?_toArray, List.getElem?_cons_zero, List.getElem?_cons_succ] at c0 c1 c2
      have HB3 := Lib.hid (HB1.out.trans (hb3.mono HB1.out.size))
      clear hk hb3
      go_wp2_with fail
      go_ret
      rw [E.out]
      exact ⟨rfl, (below_one w _).trans (HB3.out.mono (below_one w _).size)⟩
    · have HO := Lib.hid (cmpI_one_false hy1)
      have E : Hid (fmtL false x y = dec x ++ 114 :: dec y) := by unfold Hid fmtL; rw [if_neg hy1]; simp
      clear hy1
      go_enter Tryz.func19, Tryz.ntmps19
      go_wp2_with fail
      refine (rdecimal_any x _ _ (by exact (HNX.out _).1) (Nat.le_trans HLX.out.1 (by omega))).mono ?_
      rintro e w1 ⟨rfl, hb1⟩
      have hk := HBK.out.to hb1
      have c0 := hk.cell 0
      have c1 := hk.cell 1
      have c2 := hk.cell 2
      simp only [List.getElem?_toArray, List.getElem?_cons_zero, List.getElem?_cons_succ] at c0 c1 c2
      have HK1 := Lib.hid hk
      have HB1 := Lib.hid hb1
      clear hk hb1
      have hlx := dec_len16 HLX.out.1
      generalize hdx : dec x = lx at *
      clear hdx
      go_wp2_with fail
      refine (risInt_any false x y _ _ ⟨_, _, rfl, (by exact (HNX.out _).1.to HB1.out), (by exact (HNX.out _).2.to HB1.out)⟩ (Nat.le_trans HLX.out.2 (by omega))).mono ?_
      rintro e w3 ⟨he, hb3⟩
      rw [HO.out] at he
      subst he
      clear c0 c1 c2
      have hk := HK1.out.to hb3
      have c0 := hk.cell 0
      have c1 := hk.cell 1
      have c2 := hk.cell 2
      simp only [List.getElem?_toArray, List.getElem?_cons_zero, List.getElem?_cons_succ] at c0 c1 c2
      have HB3 := Lib.hid (HB1.out.trans (hb3.mono HB1.out.size))
      clear hk hb3
      go_wp2_with fail
      refine (rdecimal_any y _ _ (by exact (HNX.out _).2.to HB3.out) (Nat.le_trans HLX.out.2 (by omega))).mono ?_
      rintro e w4 ⟨rfl, hb4⟩
      have HB4 := Lib.hid (HB3.out.trans (hb4.mono HB3.out.size))
      clear hb4
      have hly := dec_len16 HLX.out.2
      generalize hdy : dec y = ly at *
      clear hdy
      go_wp2_with fail
      go_ret
      rw [E.out]
      exact ⟨rfl, (below_one w _).trans (HB4.out.mono (below_one w _).size)⟩
  | true =>
    by_cases hy1 : y = 1
    · have HO := Lib.hid (cmpI_one_true hy1)
      have E : Hid (fmtL true x y = 45 :: (dec x)) := by unfold Hid fmtL; rw [if_pos hy1]; simp
      clear hy1
      go_enter Tryz.func19, Tryz.ntmps19
      go_wp2_with fail
      refine (rdecimal_any x _ _ (by exact (HNX.out _).1) (Nat.le_trans HLX.out.1 (by omega))).mono ?_
      rintro e w1 ⟨rfl, hb1⟩
      have hk := HBK.out.to hb1
      have c0 := hk.cell 0
      have c1 := hk.cell 1
      have c2 := hk.cell 2
      simp only [List.getElem?_toArray, List.getElem?_cons_zero, List.getElem?_cons_succ] at c0 c1 c2
      have HK1 := Lib.hid hk
      have HB1 := Lib.hid hb1
      clear hk hb1
      have hlx := dec_len16 HLX.out.1
      generalize hdx : dec x = lx at *
      clear hdx
      go_wp2_with fail
      refine (risInt_any true x y _ _ ⟨_, _, rfl, (by exact (HNX.out _).1.to HB1.out), (by exact (HNX.out _).2.to HB1.out)⟩ (Nat.le_trans HLX.out.2 (by omega))).mono ?_
      rintro e w3 ⟨he, hb3⟩
      rw [HO.out] at he
      subst he
      clear c0 c1 c2
      have hk := HK1.out.to hb3
      have c0 := hk.cell 0
      have c1 := hk.cell 1
      have c2 := hk.cell 2
      simp only [List.getElem?_toArray, List.getElem?_cons_zero, List.getElem?_cons_succ] at c0 c1 c2
      have HB3 := Lib.hid (HB1.out.trans (hb3.mono HB1.out.size))
      clear hk hb3
      go_wp2_with fail
      go_ret
      rw [E.out]
      exact ⟨rfl, (below_one w _).trans (HB3.out.mono (below_one w _).size)⟩
    · have HO := Lib.hid (cmpI_one_false hy1)
      have E : Hid (fmtL true x y = 45 :: (dec x ++ 114 :: dec y)) := by unfold Hid fmtL; rw [if_neg hy1]; simp
      clear hy1
      go_enter Tryz.func19, Tryz.ntmps19
      go_wp2_with fail
      refine (rdecimal_any x _ _ (by exact (HNX.out _).1) (Nat.le_trans HLX.out.1 (by omega))).mono ?_
      rintro e w1 ⟨rfl, hb1⟩
      have hk := HBK.out.to hb1
      have c0 := hk.cell 0
      have c1 := hk.cell 1
      have c2 := hk.cell 2
      simp only [List.getElem?_toArray, List.getElem?_cons_zero, List.getElem?_cons_succ] at c0 c1 c2
      have HK1 := Lib.hid hk
      have HB1 := Lib.hid hb1
      clear hk hb1
      have hlx := dec_len16 HLX.out.1
      generalize hdx : dec x = lx at *
      clear hdx
      go_wp2_with fail
      refine (risInt_any true x y _ _ ⟨_, _, rfl, (by exact (HNX.out _).1.to HB1.out), (by exact (HNX.out _).2.to HB1.out)⟩ (Nat.le_trans HLX.out.2 (by omega))).mono ?_
      rintro e w3 ⟨he, hb3⟩
      rw [HO.out] at he
      subst he
      clear c0 c1 c2
      have hk := HK1.out.to hb3
      have c0 := hk.cell 0
      have c1 := hk.cell 1
      have c2 := hk.cell 2
      simp only [List.getElem?_toArray, List.getElem?_cons_zero, List.getElem?_cons_succ] at c0 c1 c2
      have HB3 := Lib.hid (HB1.out.trans (hb3.mono HB1.out.size))
      clear hk hb3
      go_wp2_with fail
      refine (rdecimal_any y _ _ (by exact (HNX.out _).2.to HB3.out) (Nat.le_trans HLX.out.2 (by omega))).mono ?_
      rintro e w4 ⟨rfl, hb4⟩
      have HB4 := Lib.hid (HB3.out.trans (hb4.mono HB3.out.size))
      clear hb4
      have hly := dec_len16 HLX.out.2
      generalize hdy : dec y = ly at *
      clear hdy
      go_wp2_with fail
      go_ret
      rw [E.out]
      exact ⟨rfl, (below_one w _).trans (HB4.out.mono (below_one w _).size)⟩
theorem and_low16_u64 (x : Nat) (hx : x < 18446744073709551616) : bits .and .u64 (x : Int) 65535 = ((x % 65536 : Nat) : Int) := by
  have h := u64_and (x : Int) 65535 (by omega) (by omega) (by omega) (by omega)
  rw [h]
  have e : (x : Int).toNat &&& (65535 : Int).toNat = x % 65536 := by
    rw [Int.toNat_natCast, show (65535 : Int).toNat = 2 ^ 16 - 1 from rfl, Nat.and_two_pow_sub_one_eq_mod]
  rw [e]
set_option maxHeartbeats 1600000 in
theorem rofInt_any (x : Nat) (w : World) (hx : x < 18446744073709551616) : Calls Tryz.prog 174 #[.int .u64 (x : Int)] w (RPost w x) := by
  have HL : Hid ((digs W16 x).length ≤ 4) := digs_len_le W16_gt (by unfold W16; omega)
  go_enter Tryz.func174, Tryz.ntmps174
  go_wp2
  go_loopg [0, 3] x (fun gk s0 s3 wr => ∃ out : List Nat, s0 = .int .u64 (gk : Int) ∧ gk < 18446744073709551616 ∧ Hid (OwnV .i64 3 wr w.heap.size s3 out ∧ out ++ digs W16 gk = digs W16 x ∧ Below w.heap.size w wr))
  case atStart => exact ⟨[], rfl, hx, OwnV.nil_ _, rfl, Below.refl _ _⟩
  case round =>
    obtain ⟨out, rfl, hg, HR⟩ := hrel
    by_cases h0 : gk = 0
    · subst h0
      go_wp2
      go_ret
      obtain ⟨h1, h2, h3⟩ := HR.out
      rw [digs_zero, List.append_nil] at h2
      subst h2
      exact ⟨_, rfl, h1.sl, h3⟩
    · have hpos : 0 < gk := by omega
      have hand := and_low16_u64 gk hg
      obtain ⟨lo, hlo⟩ : ∃ lo : Nat, gk % 65536 = lo := ⟨_, rfl⟩
      rw [hlo] at hand
      have hlob : lo < 65536 := by omega
      have HLO := Lib.hid hlo
      have HG0 := Lib.hid h0
      have HLEN : Hid (out.length + [lo].length ≤ 1000000) := by
        have h := congrArg List.length HR.out.2.1
        have := HL.out
        rw [List.length_append] at h
        unfold Hid; simp; omega
      clear hlo h0
      go_wp2_with (at_builtin; go_must (refine wpList_push wr rfl _ _ 44 rfl .i64 3 8 Tryz.underlying44 info_i64 (by decide) w.heap.size _ out [lo] (by rfl) (by rfl) HR.out.1 HLEN.out HR.out.2.2.size _ rfl ?_); intro v1 w1 hown1 hb1)
      go_roundg (gk / 65536)
      case measure => omega
      case rel =>
        refine ⟨out ++ [lo], congrArg (Value.int .u64) (by omega), by omega, hown1, ?_, HR.out.2.2.trans hb1⟩
        rw [← HR.out.2.1, digs_step W16_gt HG0.out, List.append_assoc, ← HLO.out]; rfl
def labelB : Tm → ByteArray
  | .mk k v s n args => if k = 1 then (⟨#[118]⟩ : ByteArray) ++ ⟨(dec v.toNat).toArray⟩ else if k = 2 then (⟨#[110]⟩ : ByteArray) ++ ⟨(fmtL n.neg n.x n.y).toArray⟩ else if k = 3 then (⟨#[97]⟩ : ByteArray) ++ s else if k = 4 then (⟨#[115]⟩ : ByteArray) ++ s else ((⟨#[99]⟩ : ByteArray) ++ Utf8.encode (48 + (args.length : Int))) ++ s
set_option maxHeartbeats 1000000 in
theorem label_1 (W : World) (s : ByteArray) (ng : Bool) (A1 B1 Ar : Option Addr) (m1 q1 m2 q2 l cap : Nat) (x : Nat) (hx : x ≤ 1073741824) :
    Calls Tryz.prog 127 #[.agg #[.int .i64 1, .int .i64 (x : Int), .string s, .bool ng, .slice A1 m1 q1, .slice B1 m2 q2, .slice Ar l cap]] W fun e W' => e = .returned (.string ((⟨#[118]⟩ : ByteArray) ++ ⟨(dec x).toArray⟩)) ∧ Below W.heap.size W W' := by
  have HBA : Hid (Below W.heap.size W (W.alloc (.cells #[.int .i64 1, .int .i64 (x : Int), .string s, .bool ng, .slice A1 m1 q1, .slice B1 m2 q2, .slice Ar l cap] 27))) := below_one W _
  have hwu : IntKind.u64.wrap (x : Int) = (x : Int) := by rw [IntKind.wrap_u64]; omega
  have HOI : Hid (∀ W', Calls Tryz.prog 174 #[.int .u64 (x : Int)] W' fun e w' => ∃ u, e = .returned u ∧ Hid (Nat16 w' u x ∧ Below W'.heap.size W' w')) := fun W' => (rofInt_any x W' (by omega)).mono (by rintro e w' ⟨u, rfl, q1, q2⟩; exact ⟨u, rfl, q1, q2⟩)
  have HDC : Hid (∀ W' u, Nat16 W' u x → Calls Tryz.prog 57 #[u] W' fun e w' => e = .returned (.string ⟨(dec x).toArray⟩) ∧ Hid (Below W'.heap.size W' w')) := fun W' u h => rdecimal_any x u W' h (by
    have h3 : (digs W16 x).length ≤ 2 := digs_len_le W16_gt (by unfold W16; omega)
    omega)
  have HSZ : Hid ((⟨(dec x).toArray⟩ : ByteArray).size ≤ 1300) := by
    have h3 : (digs W16 x).length ≤ 2 := digs_len_le W16_gt (by unfold W16; omega)
    have := dec_len16 (x := x) (by omega)
    show _ ≤ _
    simpa [ByteArray.size] using this
  generalize (⟨(dec x).toArray⟩ : ByteArray) = dx at *
  have hadd : ∀ W', (Op.stringOp .add ⟨#[118]⟩ dx).run Tryz.prog W' = .ok (.string ((⟨#[118]⟩ : ByteArray) ++ dx)) W' := fun W' => run_string_add_sum W' _ _ (by have h0 := HSZ.out; have h1 : (⟨#[118]⟩ : ByteArray).size = 1 := rfl; omega)
  generalize ((⟨#[118]⟩ : ByteArray) ++ dx) = rs at *
  clear hx
  go_enter Tryz.func127, Tryz.ntmps127
  go_wp2_with fail
  refine (HOI.out _).mono ?_
  rintro e w1 ⟨u, rfl, HU⟩
  have HW1 : Hid (Below W.heap.size W w1) := HBA.out.trans (HU.out.2.mono HBA.out.size)
  have HC1 := Lib.hid (HDC.out _ _ HU.out.1)
  obtain ⟨UA, uc, rfl, _⟩ := HU.out.1
  clear HU HOI HDC hwu
  go_wp2_with fail
  refine HC1.out.mono ?_
  rintro e w2 ⟨rfl, hb2⟩
  have HW2 : Hid (Below W.heap.size W w2) := HW1.out.trans (hb2.out.mono HW1.out.size)
  clear hb2 HC1
  go_wp2_with fail
  go_ret
  exact ⟨rfl, HW2.out⟩
set_option maxHeartbeats 1000000 in
theorem label_2 (W : World) (s : ByteArray) (ng : Bool) (A1 B1 Ar : Option Addr) (m1 q1 m2 q2 l cap : Nat) (v : Int) (ft : ByteArray) (hft : ft.size ≤ 10000) (n x y : Nat) (hof : ∀ W', Below W.heap.size W W' → Calls Tryz.prog 20 #[.agg #[.bool ng, .slice A1 m1 q1, .slice B1 m2 q2]] W' fun e w' => ∃ u, e = .returned u ∧ Hid (RV w' u ng x y ∧ Below W'.heap.size W' w')) (htx : ∀ W' u, RV W' u ng x y → Calls Tryz.prog 19 #[u] W' fun e w' => e = .returned (.string ft) ∧ Hid (Below W'.heap.size W' w')) :
    Calls Tryz.prog 127 #[.agg #[.int .i64 2, .int .i64 v, .string s, .bool ng, .slice A1 m1 q1, .slice B1 m2 q2, .slice Ar l cap]] W fun e W' => e = .returned (.string ((⟨#[110]⟩ : ByteArray) ++ ft)) ∧ Below W.heap.size W W' := by
  have HBA : Hid (Below W.heap.size W (W.alloc (.cells #[.int .i64 2, .int .i64 v, .string s, .bool ng, .slice A1 m1 q1, .slice B1 m2 q2, .slice Ar l cap] 27))) := below_one W _
  have HNE := Lib.hid hof
  have HTX := Lib.hid htx
  have hadd : ∀ W', (Op.stringOp .add ⟨#[110]⟩ ft).run Tryz.prog W' = .ok (.string ((⟨#[110]⟩ : ByteArray) ++ ft)) W' := fun W' => run_string_add_sum W' _ _ (by have h1 : (⟨#[110]⟩ : ByteArray).size = 1 := rfl; omega)
  generalize ((⟨#[110]⟩ : ByteArray) ++ ft) = rs at *
  clear hof htx hft
  go_enter Tryz.func127, Tryz.ntmps127
  go_wp2_with fail
  refine (HNE.out _ HBA.out).mono ?_
  rintro e w1 ⟨u, rfl, HU⟩
  have HW1 : Hid (Below W.heap.size W w1) := HBA.out.trans (HU.out.2.mono HBA.out.size)
  have HC1 := Lib.hid (HTX.out _ _ HU.out.1)
  obtain ⟨U1, un1, uc1, U2, un2, uc2, rfl, hq0⟩ := HU.out.1.form
  clear hq0
  clear HU HNE HTX
  go_wp2_with fail
  refine HC1.out.mono ?_
  intro e w2 hq
  have hb2 := hq.2
  have he := hq.1
  clear hq
  subst he
  have HW2 : Hid (Below W.heap.size W w2) := HW1.out.trans (hb2.out.mono HW1.out.size)
  clear hb2 HC1
  go_wp2_with fail
  go_ret
  exact ⟨rfl, HW2.out⟩
set_option maxHeartbeats 1000000 in
theorem label_3 (W : World) (s : ByteArray) (ng : Bool) (A1 B1 Ar : Option Addr) (m1 q1 m2 q2 l cap : Nat) (v : Int) (hs : s.size ≤ 10000) :
    Calls Tryz.prog 127 #[.agg #[.int .i64 3, .int .i64 v, .string s, .bool ng, .slice A1 m1 q1, .slice B1 m2 q2, .slice Ar l cap]] W fun e W' => e = .returned (.string ((⟨#[97]⟩ : ByteArray) ++ s)) ∧ Below W.heap.size W W' := by
  have HBA : Hid (Below W.heap.size W (W.alloc (.cells #[.int .i64 3, .int .i64 v, .string s, .bool ng, .slice A1 m1 q1, .slice B1 m2 q2, .slice Ar l cap] 27))) := below_one W _
  have hadd : ∀ W', (Op.stringOp .add ⟨#[97]⟩ s).run Tryz.prog W' = .ok (.string ((⟨#[97]⟩ : ByteArray) ++ s)) W' := fun W' => run_string_add_sum W' _ _ (by have h1 : (⟨#[97]⟩ : ByteArray).size = 1 := rfl; omega)
  generalize ((⟨#[97]⟩ : ByteArray) ++ s) = rs at *
  clear hs
  go_enter Tryz.func127, Tryz.ntmps127
  go_wp2_with fail
  go_ret
  exact ⟨rfl, HBA.out⟩
set_option maxHeartbeats 1000000 in
theorem label_4 (W : World) (s : ByteArray) (ng : Bool) (A1 B1 Ar : Option Addr) (m1 q1 m2 q2 l cap : Nat) (v : Int) (hs : s.size ≤ 10000) :
    Calls Tryz.prog 127 #[.agg #[.int .i64 4, .int .i64 v, .string s, .bool ng, .slice A1 m1 q1, .slice B1 m2 q2, .slice Ar l cap]] W fun e W' => e = .returned (.string ((⟨#[115]⟩ : ByteArray) ++ s)) ∧ Below W.heap.size W W' := by
  have HBA : Hid (Below W.heap.size W (W.alloc (.cells #[.int .i64 4, .int .i64 v, .string s, .bool ng, .slice A1 m1 q1, .slice B1 m2 q2, .slice Ar l cap] 27))) := below_one W _
  have hadd : ∀ W', (Op.stringOp .add ⟨#[115]⟩ s).run Tryz.prog W' = .ok (.string ((⟨#[115]⟩ : ByteArray) ++ s)) W' := fun W' => run_string_add_sum W' _ _ (by have h1 : (⟨#[115]⟩ : ByteArray).size = 1 := rfl; omega)
  generalize ((⟨#[115]⟩ : ByteArray) ++ s) = rs at *
  clear hs
  go_enter Tryz.func127, Tryz.ntmps127
  go_wp2_with fail
  go_ret
  exact ⟨rfl, HBA.out⟩
set_option maxHeartbeats 1000000 in
theorem label_5 (W : World) (s : ByteArray) (ng : Bool) (A1 B1 Ar : Option Addr) (m1 q1 m2 q2 l cap : Nat) (v : Int) (hs : s.size ≤ 10000) (hl : l ≤ 32) :
    Calls Tryz.prog 127 #[.agg #[.int .i64 5, .int .i64 v, .string s, .bool ng, .slice A1 m1 q1, .slice B1 m2 q2, .slice Ar l cap]] W fun e W' => e = .returned (.string (((⟨#[99]⟩ : ByteArray) ++ Utf8.encode (48 + (l : Int))) ++ s)) ∧ Below W.heap.size W W' := by
  have HBA : Hid (Below W.heap.size W (W.alloc (.cells #[.int .i64 5, .int .i64 v, .string s, .bool ng, .slice A1 m1 q1, .slice B1 m2 q2, .slice Ar l cap] 27))) := below_one W _
  have he : (Utf8.encode (48 + (l : Int))).size = 1 := by
    have : ∀ m : Fin 33, (Utf8.encode (48 + (m.val : Int))).size = 1 := by decide +kernel
    exact this ⟨l, by omega⟩
  have hw1 : IntKind.i64.wrap (48 + (l : Int)) = 48 + (l : Int) := by rw [IntKind.wrap_i64]; omega
  have hw2 : IntKind.i32.wrap (48 + (l : Int)) = 48 + (l : Int) := by rw [IntKind.wrap_i32]; omega
  have hadd : ∀ W', (Op.stringOp .add ⟨#[99]⟩ (Utf8.encode (48 + (l : Int)))).run Tryz.prog W' = .ok (.string ((⟨#[99]⟩ : ByteArray) ++ Utf8.encode (48 + (l : Int)))) W' := fun W' => run_string_add_sum W' _ _ (by have h1 : (⟨#[99]⟩ : ByteArray).size = 1 := rfl; omega)
  have h2 : ((⟨#[99]⟩ : ByteArray) ++ Utf8.encode (48 + (l : Int))).size = 2 := by rw [ByteArray.size_append, he]; rfl
  generalize hen : (⟨#[99]⟩ : ByteArray) ++ Utf8.encode (48 + (l : Int)) = en at *
  have hadd2 : ∀ W', (Op.stringOp .add en s).run Tryz.prog W' = .ok (.string (en ++ s)) W' := fun W' => run_string_add_sum W' _ _ (by omega)
  generalize en ++ s = rs at *
  clear hs he h2 hl
  go_enter Tryz.func127, Tryz.ntmps127
  go_wp2_with fail
  go_ret
  exact ⟨rfl, HBA.out⟩
theorem label_any {w : World} {k v : Int} {s : ByteArray} {n : LN} {args : List Tm} {cs : List Value} (h : TC w (.mk k v s n args) cs) (hv : nodeE k v s n.neg n.num.length n.den.length n.err args.length = 0) (W : World) (hW : Below w.heap.size w W) :
    Calls Tryz.prog 127 #[.agg cs.toArray] W fun e W' => e = .returned (.string (labelB (.mk k v s n args))) ∧ Below W.heap.size W W' := by
  cases h with
  | mk k v s n args A B Ar cap cs hk hvv hs hA hB hn hcap hm hr ha =>
    have HGV : ∀ W', Below W.heap.size W W' → GV W' (.agg #[.bool n.neg, A, B]) n := fun W' hb => ⟨A, B, rfl, hA.to (hW.trans (hb.mono hW.size)), hB.to (hW.trans (hb.mono hW.size)), hn⟩
    obtain ⟨A1, q1, rfl, _⟩ := hA
    obtain ⟨B1, q2, rfl, _⟩ := hB
    unfold labelB
    rcases node_parts hv with ⟨rfl, a1, a2, a3, a4⟩ | ⟨_, _, _, _, ⟨rfl, a1, a2, a3, a4⟩ | ⟨rfl, a1, a2, a3⟩ | ⟨rfl, a1, a2, a3⟩ | ⟨rfl, a1, a2, a3, a4⟩⟩
    · have hg := LN.good hn a3
      have hl := LN.len16 hn a3
      have hx := dec_len16 hl.1
      have hy := dec_len16 hl.2
      refine label_2 W s n.neg A1 B1 Ar _ q1 _ q2 _ cap v ⟨(fmtL n.neg n.x n.y).toArray⟩ ?_ 0 n.x n.y (fun W' hb => ?_) (fun W' u h1 => ?_)
      · have hf : (fmtL n.neg n.x n.y).length ≤ 2700 := by
          unfold fmtL
          (repeat' split) <;> simp <;> omega
        simp [ByteArray.size]
        omega
      · refine (rof_any n _ W' (HGV W' hb) (Nat.le_trans hg.2.2.1 (by omega)) (Nat.le_trans hg.2.2.2.1 (by omega))).mono ?_
        rintro e w' ⟨u, rfl, h1, h2⟩
        exact ⟨u, rfl, h1, h2⟩
      · exact rtext_any n.neg n.x n.y u W' h1 hl.1 hl.2
    · obtain ⟨x, rfl⟩ : ∃ x : Nat, v = (x : Int) := ⟨v.toNat, by omega⟩
      exact label_1 W s n.neg A1 B1 Ar _ q1 _ q2 _ cap x (by omega)
    · exact label_3 W s n.neg A1 B1 Ar _ q1 _ q2 _ cap v (by omega)
    · exact label_4 W s n.neg A1 B1 Ar _ q1 _ q2 _ cap v (by omega)
    · exact label_5 W s n.neg A1 B1 Ar _ q1 _ q2 _ cap v (by omega) a4
end Go.Proofs.YtkfnpcilanheiaaGreat
