/- (*heap.interner).name of a compound of variables and atoms. And 1 more texts. -/
import Derived.Test.YtkfnpcilanheiaaGreatJo19
import Derived.Test.YtkfnpcilanheiaaGreatJo37
set_option linter.unusedVariables false
set_option linter.unusedSimpArgs false
set_option maxRecDepth 100000
namespace Go.Proofs.YtkfnpcilanheiaaGreat
open Go.RowKit NumB
def LeafRow (arr : Array Value) (ao l : Nat) : Prop := ∀ j, j < l → ∃ (k v : Int) (s : ByteArray) (ng : Bool) (A1 : Option Addr) (n1 c1 : Nat) (B1 : Option Addr) (q1 d1 : Nat) (X : Option Addr) (xl xc : Nat), (k = 1 ∨ k = 3) ∧ i64ok v ∧ s.size ≤ 1000 ∧ arr[ao + j * 7]? = some (.int .i64 k) ∧ arr[ao + j * 7 + 1]? = some (.int .i64 v) ∧ arr[ao + j * 7 + 2]? = some (.string s) ∧ arr[ao + j * 7 + 3]? = some (.bool ng) ∧ arr[ao + j * 7 + 4]? = some (.slice A1 n1 c1) ∧ arr[ao + j * 7 + 5]? = some (.slice B1 q1 d1) ∧ arr[ao + j * 7 + 6]? = some (.slice X xl xc)
set_option maxHeartbeats 6400000 in
theorem name_comp (p m1 m2 n : Nat) (v : Int) (s : ByteArray) (ng : Bool) (A1 : Option Addr) (n1 c1 : Nat) (B1 : Option Addr) (q1 d1 : Nat) (ab ao l xc : Nat) (arr : Array Value) (hl : 0 < l) (hl2 : l ≤ 100) (hv : i64ok v) (hs : s.size ≤ 1000) (w : World) (h : NameS w p m1 m2 n) (hn : n ≤ 500) (ha : Blk w ab 27 arr) (hrow : LeafRow arr ao l) :
    Calls Tryz.prog 255 #[.pointer (some ⟨p, 0, none⟩), .agg #[.int .i64 5, .int .i64 v, .string s, .bool ng, .slice A1 n1 c1, .slice B1 q1 d1, .slice (some ⟨ab, ao, none⟩) l xc]] w fun e w' => ∃ i, e = .returned (.int .i64 i) ∧ i64ok i ∧ NameS w' p m1 m2 (n + l + 2) ∧ Kept (KN m1 m2) w w' := by
  have HN := Lib.hid h
  have HV := Lib.hid hv
  have HA0 := Lib.hid ha
  have HROW := Lib.hid hrow
  have HBT := Lib.hid (Blk.new w 27 #[.int .i64 5, .int .i64 v, .string s, .bool ng, .slice A1 n1 c1, .slice B1 q1 d1, .slice (some ⟨ab, ao, none⟩) l xc])
  have HWT : Hid (Below w.heap.size w (w.alloc (.cells #[.int .i64 5, .int .i64 v, .string s, .bool ng, .slice A1 n1 c1, .slice B1 q1 d1, .slice (some ⟨ab, ao, none⟩) l xc] 27)).drew) := (below_one w _).drew
  have HNT : Hid (NameS (w.alloc (.cells #[.int .i64 5, .int .i64 v, .string s, .bool ng, .slice A1 n1 c1, .slice B1 q1 d1, .slice (some ⟨ab, ao, none⟩) l xc] 27)).drew p m1 m2 n) := (HN.out.below (below_one w (.cells #[.int .i64 5, .int .i64 v, .string s, .bool ng, .slice A1 n1 c1, .slice B1 q1 d1, .slice (some ⟨ab, ao, none⟩) l xc] 27))).drew
  have hS0 : (w.alloc (.cells #[.int .i64 5, .int .i64 v, .string s, .bool ng, .slice A1 n1 c1, .slice B1 q1 d1, .slice (some ⟨ab, ao, none⟩) l xc] 27)).drew.cell? ⟨p, 0, none⟩ = some (.map (some m1)) ∧ (w.alloc (.cells #[.int .i64 5, .int .i64 v, .string s, .bool ng, .slice A1 n1 c1, .slice B1 q1 d1, .slice (some ⟨ab, ao, none⟩) l xc] 27)).drew.cell? ⟨w.heap.size, 0, none⟩ = some (.int .i64 5) ∧ (w.alloc (.cells #[.int .i64 5, .int .i64 v, .string s, .bool ng, .slice A1 n1 c1, .slice B1 q1 d1, .slice (some ⟨ab, ao, none⟩) l xc] 27)).drew.cell? ⟨w.heap.size, 1, none⟩ = some (.int .i64 v) ∧ (w.alloc (.cells #[.int .i64 5, .int .i64 v, .string s, .bool ng, .slice A1 n1 c1, .slice B1 q1 d1, .slice (some ⟨ab, ao, none⟩) l xc] 27)).drew.cell? ⟨w.heap.size, 2, none⟩ = some (.string s) ∧ (w.alloc (.cells #[.int .i64 5, .int .i64 v, .string s, .bool ng, .slice A1 n1 c1, .slice B1 q1 d1, .slice (some ⟨ab, ao, none⟩) l xc] 27)).drew.cell? ⟨w.heap.size, 3, none⟩ = some (.bool ng) ∧ (w.alloc (.cells #[.int .i64 5, .int .i64 v, .string s, .bool ng, .slice A1 n1 c1, .slice B1 q1 d1, .slice (some ⟨ab, ao, none⟩) l xc] 27)).drew.cell? ⟨w.heap.size, 4, none⟩ = some (.slice A1 n1 c1) ∧ (w.alloc (.cells #[.int .i64 5, .int .i64 v, .string s, .bool ng, .slice A1 n1 c1, .slice B1 q1 d1, .slice (some ⟨ab, ao, none⟩) l xc] 27)).drew.cell? ⟨w.heap.size, 5, none⟩ = some (.slice B1 q1 d1) ∧ (w.alloc (.cells #[.int .i64 5, .int .i64 v, .string s, .bool ng, .slice A1 n1 c1, .slice B1 q1 d1, .slice (some ⟨ab, ao, none⟩) l xc] 27)).drew.cell? ⟨w.heap.size, 6, none⟩ = some (.slice (some ⟨ab, ao, none⟩) l xc) := ⟨HNT.out.nsc.1, HBT.out.cell 0, HBT.out.cell 1, HBT.out.cell 2, HBT.out.cell 3, HBT.out.cell 4, HBT.out.cell 5, HBT.out.cell 6⟩
  have HAT0 := Lib.hid (at_look (w := w) 5 v s ng A1 n1 c1 B1 q1 d1 ab ao l xc hl HNT.out HBT.out.drew (HA0.out.to HWT.out) (Kept.of_below HWT.out))
  clear h hv ha hrow
  go_enter Tryz.func255, Tryz.ntmps255
  go_wp2_with fail
  go_region_held3 (fun w' => w'.cell? ⟨p, 0, none⟩ = some (.map (some m1)) ∧ w'.cell? ⟨w.heap.size, 0, none⟩ = some (.int .i64 5) ∧ w'.cell? ⟨w.heap.size, 1, none⟩ = some (.int .i64 v) ∧ w'.cell? ⟨w.heap.size, 2, none⟩ = some (.string s) ∧ w'.cell? ⟨w.heap.size, 3, none⟩ = some (.bool ng) ∧ w'.cell? ⟨w.heap.size, 4, none⟩ = some (.slice A1 n1 c1) ∧ w'.cell? ⟨w.heap.size, 5, none⟩ = some (.slice B1 q1 d1) ∧ w'.cell? ⟨w.heap.size, 6, none⟩ = some (.slice (some ⟨ab, ao, none⟩) l xc))
    (first | assumption | (go_keep; done))
    (first
      | (go_at_call 118; (with_reducible refine HAT0.out.mono ?_); rintro e z0 ⟨i0, ok0, rfl, hi0, hl0, HNZ, HTZ, HAZ, HWZ, hS1⟩))
  clear hS0 HAT0 hl0 hS1
  have t0 := HTZ.out.cell 0
  have t1 := HTZ.out.cell 1
  have t2 := HTZ.out.cell 2
  have t3 := HTZ.out.cell 3
  have t4 := HTZ.out.cell 4
  have t5 := HTZ.out.cell 5
  have t6 := HTZ.out.cell 6
  simp only [List.getElem?_toArray, List.getElem?_cons_zero, List.getElem?_cons_succ] at t0 t1 t2 t3 t4 t5 t6
  cases ok0 with
  | true =>
    go_wp2_with fail
    go_ret
    exact ⟨_, rfl, hi0.out, HNZ.out.mono (by omega), HWZ.out⟩
  | false =>
  have HB0 := Lib.hid (BD.new z0)
  have HW0 : Hid (Below z0.heap.size z0 (z0.alloc (.cells #[.pointer none, .slice none 0 0] 276))) := below_one z0 _
  have HT0 := Lib.hid (HTZ.out.to HW0.out)
  have HZ0 : Hid (w.heap.size ≤ z0.heap.size) := HWZ.out.size
  clear t0 t1 t2 t3 t4 t5 t6
  have t0 := HT0.out.cell 0
  have t1 := HT0.out.cell 1
  have t2 := HT0.out.cell 2
  have t3 := HT0.out.cell 3
  have t4 := HT0.out.cell 4
  have t5 := HT0.out.cell 5
  have t6 := HT0.out.cell 6
  simp only [List.getElem?_toArray, List.getElem?_cons_zero, List.getElem?_cons_succ] at t0 t1 t2 t3 t4 t5 t6
  go_wp2_with fail
  refine (writeByte_any z0.heap.size z0.heap.size 0 5 _ HB0.out (by omega) (by omega) (by omega) (by simp)).mono ?_
  rintro e y1 ⟨rfl, hd, hb, ho⟩
  have HD1 := Lib.hid hd
  have HN1 := Lib.hid ((HNZ.out.below HW0.out).others ho HB0.out)
  have HT1 := Lib.hid (HT0.out.others (by decide) (by decide) ho HB0.out)
  have HW1 : Hid (z0.heap.size ≤ y1.heap.size ∧ Kept (KN m1 m2) w y1) := ⟨Nat.le_trans (by simp) hb.size, (HWZ.out.trans (Kept.of_below HW0.out)).thenB hb HZ0.out⟩
  clear hd hb ho t0 t1 t2 t3 t4 t5 t6
  have t0 := HT1.out.cell 0
  have t1 := HT1.out.cell 1
  have t2 := HT1.out.cell 2
  have t3 := HT1.out.cell 3
  have t4 := HT1.out.cell 4
  have t5 := HT1.out.cell 5
  have t6 := HT1.out.cell 6
  simp only [List.getElem?_toArray, List.getElem?_cons_zero, List.getElem?_cons_succ] at t0 t1 t2 t3 t4 t5 t6
  go_wp2_with fail
  refine (put_any z0.heap.size z0.heap.size 1 (l : Int) (by unfold i64ok; omega) y1 HD1.out (by omega) HW1.out.1).mono ?_
  rintro e y2 ⟨rfl, hd, hb, ho⟩
  have HD2 := Lib.hid hd
  have HN2 := Lib.hid (HN1.out.others ho HD1.out)
  have HT2 := Lib.hid (HT1.out.others (by decide) (by decide) ho HD1.out)
  have HW2 : Hid (z0.heap.size ≤ y2.heap.size ∧ Kept (KN m1 m2) w y2) := ⟨Nat.le_trans HW1.out.1 hb.size, HW1.out.2.thenB hb HZ0.out⟩
  clear hd hb ho t0 t1 t2 t3 t4 t5 t6
  have t0 := HT2.out.cell 0
  have t1 := HT2.out.cell 1
  have t2 := HT2.out.cell 2
  have t3 := HT2.out.cell 3
  have t4 := HT2.out.cell 4
  have t5 := HT2.out.cell 5
  have t6 := HT2.out.cell 6
  simp only [List.getElem?_toArray, List.getElem?_cons_zero, List.getElem?_cons_succ] at t0 t1 t2 t3 t4 t5 t6
  go_wp2_with fail
  go_loopg [90] l (fun gk s90 wr => ∃ j : Nat, gk + j = l ∧ s90 = .int .i64 (j : Int) ∧ Hid (BD wr z0.heap.size z0.heap.size (6 + 5 * j)) ∧ Hid (NameS wr p m1 m2 (n + j)) ∧ Hid (Blk wr w.heap.size 27 #[.int .i64 5, .int .i64 v, .string s, .bool ng, .slice A1 n1 c1, .slice B1 q1 d1, .slice (some ⟨ab, ao, none⟩) l xc]) ∧ Hid (z0.heap.size ≤ wr.heap.size ∧ Kept (KN m1 m2) w wr))
  case atStart => exact ⟨0, by omega, rfl, HD2, HN2, HT2, HW2⟩
  case round =>
    clear t0 t1 t2 t3 t4 t5 t6
    obtain ⟨j, hgj, rfl, HDr, HNr, HTr, HWr⟩ := hrel
    by_cases hj : j < l
    · have hAr := HWr.out.2.blk HA0.out (fun e => HN.out.cells HA0.out e)
      obtain ⟨k', v', s', ng', A', n', c', B', q', d', X', xl', xc', hk', hv', hs', e0, e1, e2, e3, e4, e5, e6⟩ := HROW.out j hj
      have HC : Hid (∀ q u, arr[q]? = some u → wr.cell? ⟨ab, q, none⟩ = some u) := fun q u hq => (hAr.cell q).trans hq
      have g0 := HC.out _ _ e0
      have g1 := HC.out _ _ e1
      have g2 := HC.out _ _ e2
      have g3 := HC.out _ _ e3
      have g4 := HC.out _ _ e4
      have g5 := HC.out _ _ e5
      have g6 := HC.out _ _ e6
      have HBX := Lib.hid (below_one wr (.cells #[.int .i64 k', .int .i64 v', .string s', .bool ng', .slice A' n' c', .slice B' q' d', .slice X' xl' xc'] 27))
      have HLF := Lib.hid (name_leaf p m1 m2 (n + j) k' v' s' ng' A' n' c' B' q' d' X' xl' xc' hk' hv' hs' _ (HNr.out.below HBX.out) (by omega))
      clear e0 e1 e2 e3 e4 e5 e6 hAr hk' hv' hs'
      go_wp2_with fail
      refine HLF.out.mono ?_
      rintro e y3 ⟨i3, rfl, hi3, hn3, hk3⟩
      have HI3 := Lib.hid hi3
      have HN3 := Lib.hid hn3
      have HD3 := Lib.hid ((HDr.out.below HBX.out).kept hk3 (fun k cs T f hc => (HNr.out.below HBX.out).cells hc))
      have HT3 := Lib.hid (hk3.blk (HTr.out.to HBX.out) (fun e => (HNr.out.below HBX.out).cells (HTr.out.to HBX.out) e))
      have HW3 : Hid (z0.heap.size ≤ y3.heap.size ∧ Kept (KN m1 m2) w y3) := ⟨Nat.le_trans HWr.out.1 (Nat.le_trans HBX.out.size hk3.size), (HWr.out.2.trans (Kept.of_below HBX.out)).trans hk3⟩
      clear hi3 hn3 hk3 g0 g1 g2 g3 g4 g5 g6 HLF
      go_wp2_with fail
      refine (put_any z0.heap.size z0.heap.size (6 + 5 * j) i3 HI3.out y3 HD3.out (by omega) HW3.out.1).mono ?_
      rintro e y4 ⟨rfl, hd, hb, ho⟩
      have HD4 := Lib.hid (hd.le (by omega : _ ≤ 6 + 5 * (j + 1)))
      have HN4 := Lib.hid (HN3.out.others ho HD3.out)
      have HT4 := Lib.hid (HT3.out.others (by decide) (by decide) ho HD3.out)
      have HW4 : Hid (z0.heap.size ≤ y4.heap.size ∧ Kept (KN m1 m2) w y4) := ⟨Nat.le_trans HW3.out.1 hb.size, HW3.out.2.thenB hb HZ0.out⟩
      clear hd hb ho
      go_wp2_with fail
      go_roundg (gk - 1)
      case measure => omega
      case rel => exact ⟨j + 1, by omega, by go_num, HD4, HN4, HT4, HW4⟩
    · obtain rfl : l = j := by omega
      have t0 := HTr.out.cell 0
      have t1 := HTr.out.cell 1
      have t2 := HTr.out.cell 2
      have t3 := HTr.out.cell 3
      have t4 := HTr.out.cell 4
      have t5 := HTr.out.cell 5
      have t6 := HTr.out.cell 6
      simp only [List.getElem?_toArray, List.getElem?_cons_zero, List.getElem?_cons_succ] at t0 t1 t2 t3 t4 t5 t6
      go_wp2_with fail
      refine (writeString_any z0.heap.size z0.heap.size (6 + 5 * l) s wr HDr.out (by omega) (by omega) HWr.out.1).mono ?_
      clear HD2 HN2 HT2 HW2
      rintro e y2 ⟨rfl, hd, hb, ho⟩
      have HD2 := Lib.hid (hd.le (by omega : _ ≤ 2000))
      have HN2 := Lib.hid (HNr.out.others ho HDr.out)
      have HT2 := Lib.hid (HTr.out.others (by decide) (by decide) ho HDr.out)
      have HW2 : Hid (z0.heap.size ≤ y2.heap.size ∧ Kept (KN m1 m2) w y2) := ⟨Nat.le_trans HWr.out.1 hb.size, HWr.out.2.thenB hb HZ0.out⟩
      clear hd hb ho t0 t1 t2 t3 t4 t5 t6
      go_wp2_with fail
      have hS2 : y2.drew.cell? ⟨p, 0, none⟩ = some (.map (some m1)) ∧ y2.drew.cell? ⟨p, 1, none⟩ = some (.map (some m2)) := HN2.out.drew.nsc
      have HSTR := Lib.hid (str_form (w := w) HD2.out.drew HN2.out.drew HT2.out.drew HW2.out.1 HW2.out.2.drew HZ0.out)
      go_region_held3 (fun w' => w'.cell? ⟨p, 0, none⟩ = some (.map (some m1)) ∧ w'.cell? ⟨p, 1, none⟩ = some (.map (some m2)))
        (first | assumption | (go_keep; done))
        (first
          | (go_at_call 286; (with_reducible refine HSTR.out.mono ?_); rintro e y3 ⟨s3, i3, ok3, rfl, hi3, hl3, HD3, HN3, HT3, HW3, hS3⟩))
      clear hS2 HSTR hl3 hS3
      have t0 := HT3.out.cell 0
      simp only [List.getElem?_toArray, List.getElem?_cons_zero, List.getElem?_cons_succ] at t0
      cases ok3 with
      | true =>
        go_wp2_with fail
        have hS7 : y3.drew.cell? ⟨p, 0, none⟩ = some (.map (some m1)) ∧ y3.drew.cell? ⟨w.heap.size, 0, none⟩ = some (.int .i64 5) ∧ y3.drew.cell? ⟨w.heap.size, 1, none⟩ = some (.int .i64 v) ∧ y3.drew.cell? ⟨w.heap.size, 2, none⟩ = some (.string s) ∧ y3.drew.cell? ⟨w.heap.size, 3, none⟩ = some (.bool ng) ∧ y3.drew.cell? ⟨w.heap.size, 4, none⟩ = some (.slice A1 n1 c1) ∧ y3.drew.cell? ⟨w.heap.size, 5, none⟩ = some (.slice B1 q1 d1) ∧ y3.drew.cell? ⟨w.heap.size, 6, none⟩ = some (.slice (some ⟨ab, ao, none⟩) l xc) := ⟨HN3.out.nsc.1, HT3.out.cell 0, HT3.out.cell 1, HT3.out.cell 2, HT3.out.cell 3, HT3.out.cell 4, HT3.out.cell 5, HT3.out.cell 6⟩
        have HAT := Lib.hid (at_put (w := w) 5 v s ng A1 n1 c1 B1 q1 d1 ab ao l xc hl HN3.out.drew HT3.out.drew (HW3.out.2.drew.blk HA0.out fun e => HN.out.cells HA0.out e) HW3.out.2.drew hi3.out)
        clear t0
        go_region_held3 (fun w' => w'.cell? ⟨p, 0, none⟩ = some (.map (some m1)) ∧ w'.cell? ⟨w.heap.size, 0, none⟩ = some (.int .i64 5) ∧ w'.cell? ⟨w.heap.size, 1, none⟩ = some (.int .i64 v) ∧ w'.cell? ⟨w.heap.size, 2, none⟩ = some (.string s) ∧ w'.cell? ⟨w.heap.size, 3, none⟩ = some (.bool ng) ∧ w'.cell? ⟨w.heap.size, 4, none⟩ = some (.slice A1 n1 c1) ∧ w'.cell? ⟨w.heap.size, 5, none⟩ = some (.slice B1 q1 d1) ∧ w'.cell? ⟨w.heap.size, 6, none⟩ = some (.slice (some ⟨ab, ao, none⟩) l xc))
          (first | assumption | (go_keep; done))
          (first
            | (go_at_call 118; (with_reducible refine HAT.out.mono ?_); rintro e y7 ⟨y8, rfl, hl8, HN8, HW8, hS8, hS9⟩))
        clear hS7 HAT hl8 hS8 hS9
        go_wp2_with fail
        go_ret
        exact ⟨_, rfl, hi3.out, HN8.out.mono (by omega), HW8.out⟩
      | false =>
        obtain ⟨es, cl, hm, hms⟩ := HN3.out.len
        obtain ⟨e0, e1⟩ := HN3.out.nsc
        have hlen : (Builtin.len_ #[158] 3 #[.map (some m2)]).run Tryz.prog y3 = .ok (.int .i64 (es.size : Int)) y3 := run_len_map y3 _ _ m2 es cl (by kernel_rfl) hm
        go_wp2_with fail
        have HI4 : Hid (i64ok (es.size : Int)) := ⟨by omega, by omega⟩
        have hS4 : y3.drew.cell? ⟨p, 0, none⟩ = some (.map (some m1)) ∧ y3.drew.cell? ⟨p, 1, none⟩ = some (.map (some m2)) := HN3.out.drew.nsc
        have HSTR := Lib.hid (str_put (w := w) HD3.out.drew HN3.out.drew HT3.out.drew HW3.out.1 HW3.out.2.drew HZ0.out HI4.out)
        clear hm hms e0 e1 t0 hlen
        go_region_held3 (fun w' => w'.cell? ⟨p, 0, none⟩ = some (.map (some m1)) ∧ w'.cell? ⟨p, 1, none⟩ = some (.map (some m2)))
          (first | assumption | (go_keep; done))
          (first
            | (go_at_call 286; (with_reducible refine HSTR.out.mono ?_); rintro e y5 ⟨s5, y4, rfl, hl5, HD4, HN4, HT4, HW4, hS5, hS6⟩))
        clear hS4 HSTR hl5 hS5 hS6
        have t0 := HT4.out.cell 0
        simp only [List.getElem?_toArray, List.getElem?_cons_zero, List.getElem?_cons_succ] at t0
        go_wp2_with fail
        have hS7 : y4.drew.cell? ⟨p, 0, none⟩ = some (.map (some m1)) ∧ y4.drew.cell? ⟨w.heap.size, 0, none⟩ = some (.int .i64 5) ∧ y4.drew.cell? ⟨w.heap.size, 1, none⟩ = some (.int .i64 v) ∧ y4.drew.cell? ⟨w.heap.size, 2, none⟩ = some (.string s) ∧ y4.drew.cell? ⟨w.heap.size, 3, none⟩ = some (.bool ng) ∧ y4.drew.cell? ⟨w.heap.size, 4, none⟩ = some (.slice A1 n1 c1) ∧ y4.drew.cell? ⟨w.heap.size, 5, none⟩ = some (.slice B1 q1 d1) ∧ y4.drew.cell? ⟨w.heap.size, 6, none⟩ = some (.slice (some ⟨ab, ao, none⟩) l xc) := ⟨HN4.out.nsc.1, HT4.out.cell 0, HT4.out.cell 1, HT4.out.cell 2, HT4.out.cell 3, HT4.out.cell 4, HT4.out.cell 5, HT4.out.cell 6⟩
        have HAT := Lib.hid (at_put (w := w) 5 v s ng A1 n1 c1 B1 q1 d1 ab ao l xc hl HN4.out.drew HT4.out.drew (HW4.out.2.drew.blk HA0.out fun e => HN.out.cells HA0.out e) HW4.out.2.drew HI4.out)
        clear t0
        go_region_held3 (fun w' => w'.cell? ⟨p, 0, none⟩ = some (.map (some m1)) ∧ w'.cell? ⟨w.heap.size, 0, none⟩ = some (.int .i64 5) ∧ w'.cell? ⟨w.heap.size, 1, none⟩ = some (.int .i64 v) ∧ w'.cell? ⟨w.heap.size, 2, none⟩ = some (.string s) ∧ w'.cell? ⟨w.heap.size, 3, none⟩ = some (.bool ng) ∧ w'.cell? ⟨w.heap.size, 4, none⟩ = some (.slice A1 n1 c1) ∧ w'.cell? ⟨w.heap.size, 5, none⟩ = some (.slice B1 q1 d1) ∧ w'.cell? ⟨w.heap.size, 6, none⟩ = some (.slice (some ⟨ab, ao, none⟩) l xc))
          (first | assumption | (go_keep; done))
          (first
            | (go_at_call 118; (with_reducible refine HAT.out.mono ?_); rintro e y7 ⟨y8, rfl, hl8, HN8, HW8, hS8, hS9⟩))
        clear hS7 HAT hl8 hS8 hS9
        go_wp2_with fail
        go_ret
        exact ⟨_, rfl, HI4.out, HN8.out.mono (by omega), HW8.out⟩
theorem wf_of_i64ok {i : Int} (h : i64ok i) : (Lit.int .i64 i).wf = true := by
  unfold i64ok at h
  exact WalkArith.wf_i64 (by omega)
theorem under_two : Tryz.prog.underlying 197 = some (.array 2 3) := by kernel_rfl
theorem cells_two : Tryz.prog.cellsOf 197 = 2 := by kernel_rfl
theorem cells_one : Tryz.prog.cellsOf 3 = 1 := by kernel_rfl
theorem lits_one (d : Nat) {i : Int} (h : i64ok i) : Tryz.prog.keyLits (d + 1) 3 [.int .i64 i] = some [.int .i64 i] := by
  unfold Program.keyLits
  rw [Tryz.underlying3]
  simp [wf_of_i64ok h]
theorem lits_two (d : Nat) {i j : Int} (hi : i64ok i) (hj : i64ok j) : Tryz.prog.keyLits (d + 2) 197 [.int .i64 i, .int .i64 j] = some [.int .i64 i, .int .i64 j] := by
  rw [show d + 2 = (d + 1) + 1 from rfl]
  unfold Program.keyLits
  rw [under_two]
  simp only [cells_two, cells_one]
  simp [List.range_succ, lits_one d hi, lits_one d hj]
theorem key_two {i j : Int} (hi : i64ok i) (hj : i64ok j) : TwoK (.agg #[.int .i64 i, .int .i64 j]) := by
  refine ⟨⟨i, j, rfl⟩, ?_⟩
  have ht : Tryz.prog.types.size = (Tryz.prog.types.size - 1) + 1 := by
    have : decide (0 < Tryz.prog.types.size) = true := by kernel_rfl
    have := of_decide_eq_true this
    omega
  have hk : Tryz.prog.keyType 197 = true := by kernel_rfl
  have hf : (Value.agg #[.int .i64 i, .int .i64 j]).formed Tryz.prog 197 = true := by
    unfold Value.formed
    simp [under_two, cells_two]
  have hl := lits_two (Tryz.prog.types.size - 1) hi hj
  rw [show Tryz.prog.types.size - 1 + 2 = Tryz.prog.types.size + 1 by omega] at hl
  unfold keyOf
  rw [under_two]
  simp only [hk, hf, Bool.and_self, if_true]
  exact ⟨_, by rw [show (Value.agg #[.int .i64 i, .int .i64 j]).cells.toList = [.int .i64 i, .int .i64 j] from rfl, hl]; rfl⟩
theorem look_empty {w : World} {b c : Nat} (hb : w.heap[b]? = some (.map #[] c)) {k : Value} (hk : TwoK k) : (Instr.lookup 150 (.map (some b)) k false).run Tryz.prog w = .ok (.bool false) w := by
  have hm : Tryz.prog.underlying 150 = some (.map 197 4) := by kernel_rfl
  obtain ⟨d, hd⟩ := (keys_two w).und
  simp [Instr.lookup, Sem.run_bind, run_underlying hm, Result.andThen_ok, getObj, Sem.run, hb, (keys_two w).check _ k hk, Instr.findKey, run_underlying hd, Instr.findNow, Instr.findAsking, Sem.run_pure, Tryz.zeroValue4]
theorem newInterner_ns (w : World) : Calls Tryz.prog 254 #[] w fun e w' => ∃ p m1 m2, e = .returned (.pointer (some ⟨p, 0, none⟩)) ∧ NameS w' p m1 m2 0 ∧ Below w.heap.size w w' ∧ (w.heap.size ≤ m1 ∧ m1 < w'.heap.size ∧ w.heap.size ≤ m2 ∧ m2 < w'.heap.size) := by
  refine (newInterner_any w).mono ?_
  rintro e w' ⟨rfl, rfl⟩
  refine ⟨_, w.heap.size, w.heap.size + 1, rfl, ⟨by omega, ?_, ⟨0, Nat.le_refl _, #[], 0, ?_, rfl, by simp⟩, ⟨0, Nat.le_refl _, #[], 0, ?_, rfl, by simp⟩⟩, ?_, ?_⟩
  · have := Blk.new ((w.alloc (.map #[] 0)).alloc (.map #[] 0)) 273 #[.map (some w.heap.size), .map (some (w.heap.size + 1))]
    rw [show ((w.alloc (.map #[] 0)).alloc (.map #[] 0)).heap.size = w.heap.size + 2 by simp] at this
    exact this
  · rw [Lib.alloc_old _ _ _ (by simp; omega), Lib.alloc_old _ _ _ (by simp)]
    exact heap_alloc_new w _
  · rw [Lib.alloc_old _ _ _ (by simp)]
    have := heap_alloc_new (w.alloc (.map #[] 0)) (.map #[] 0)
    rw [show (w.alloc (.map #[] 0)).heap.size = w.heap.size + 1 by simp] at this
    exact this
  · exact ((below_one w _).alloc (by simp) _).alloc (by simp; omega) _
  · simp
    omega
end Go.Proofs.YtkfnpcilanheiaaGreat
