/- fetterlockref1.SubNat, ShlNat. Conditions: at most 100000 digits. How long the digits in base 2^16 are. fetterlockref1.limbs. Conditions: at most 100000 digits. number.Check$1: does the list end with a zero. number.Check. What number.Check answers. -/
import Derived.Deep.AppendLies
import Derived.Deep.RegionLaw
import Derived.Test.YtdfcpkjphdepcaaDoorJo5
import Derived.Test.YtdfcpkjphdepcaaDoorJo8
import Derived.Test.YtdfcpkjphdepcaaDoorJo11
import Derived.Test.YtdfcpkjphdepcaaDoorJo12
set_option linter.unusedVariables false
set_option linter.unusedSimpArgs false
namespace Go.Proofs.YtdfcpkjphdepcaaDoor
open Go.RowKit NumB
set_option linter.unusedVariables false
set_option linter.unusedSimpArgs false

/-- A contract that leaves the world alone, as a quiet region asks for it. -/
theorem quietL {P : Program} {f : FuncId} {args : Array Value} {w : World} {n : Nat} {v : Value} (h : Calls P f args (w.drewN n) fun e w' => e = .returned v ∧ w.drewN n = w') :
    Calls P f args (w.drewN n) fun e w' => e = .returned v ∧ ∃ m, w' = w.drewN m := h.mono fun _ _ hh => ⟨hh.1, n, hh.2.symm⟩
theorem val_snoc (B : Nat) (l : List Nat) (d : Nat) : val B (l ++ [d]) = val B l + B ^ l.length * d := by
  rw [val_append]; simp
theorem rsub_step {xs ys out : List Nat} {j bo p q z c : Nat} (hl : out.length = j) (hp : xs.getD j 0 = p) (hq : ys.getD j 0 = q) (hz : p + 65536 * c = z + q + bo)
    (he : val W16 (xs.take j) + W16 ^ j * bo = val W16 out + val W16 (ys.take j)) :
    val W16 (xs.take (j + 1)) + W16 ^ (j + 1) * c = val W16 (out ++ [z]) + val W16 (ys.take (j + 1)) := by
  rw [val_take_succ, val_take_succ, val_snoc, hl, hp, hq, Nat.pow_succ, Nat.mul_assoc]
  have h1 : W16 ^ j * p + W16 ^ j * (W16 * c) = W16 ^ j * z + W16 ^ j * q + W16 ^ j * bo := by
    rw [← Nat.mul_add, show W16 * c = 65536 * c from rfl, hz, Nat.mul_add, Nat.mul_add]
  omega
theorem rsub_end {xs ys out : List Nat} {n bo x y : Nat} (hx : val W16 xs = x) (hy : val W16 ys = y) (hl : xs.length = n) (hm : ys.length ≤ n) (ho : out.length = n) (ook : Ok W16 out) (hle : y ≤ x)
    (he : val W16 (xs.take n) + W16 ^ n * bo = val W16 out + val W16 (ys.take n)) : val W16 out = x - y := by
  rw [val_take_all W16 xs (by omega), val_take_all W16 ys (by omega), hx, hy] at he
  have h1 := val_lt ook
  rw [ho] at h1
  rcases Nat.eq_zero_or_pos bo with h0 | h0
  · rw [h0, Nat.mul_zero, Nat.add_zero] at he
    omega
  · exfalso
    have h4 : W16 ^ n * 1 ≤ W16 ^ n * bo := Nat.mul_le_mul_left _ h0
    omega

set_option maxRecDepth 100000 in
set_option maxHeartbeats 1600000 in
theorem rsub_any (x y : Nat) (va vb : Value) (w : World) (ha : Nat16 w va x) (hb : Nat16 w vb y) (hx : (digs W16 x).length ≤ 100000) (hle : y ≤ x) :
    Calls Tryd.prog 68 #[va, vb] w (RPost w (x - y)) := by
  have HB0 := Lib.hid hb
  obtain ⟨A, ca, rfl, hca, hma, hra⟩ := ha
  obtain ⟨A', cb, rfl, hcb, hmb, hrb⟩ := hb
  have hlen := digs_len_mono (B := W16) W16_gt hle
  have HX := Lib.hid (And.intro (And.intro (val_digs W16_gt x) (val_digs W16_gt y)) (And.intro (ok_digs W16_gt x) (ok_digs W16_gt y)))
  unfold maxLen at hma hmb
  unfold Nat16 at HB0
  generalize digs W16 x = xs at *
  generalize digs W16 y = ys at *
  generalize hn : xs.length = n at *
  generalize hm : ys.length = m at *
  have HL := Lib.hid (And.intro hn hm)
  have HRA := Lib.hid hra
  have HLE := Lib.hid hle
  clear hra hrb hm hn hle
  go_enter Tryd.func68, Tryd.ntmps68
  go_wp2
  go_loopg [11, 5, 6, 7, 8] n (fun gk si so sb s7 s8 wr => ∃ (j bo : Nat) (out : List Nat), gk + j = n ∧ si = .int .i64 (j : Int) ∧ sb = .int .i64 (bo : Int) ∧ bo ≤ 1 ∧ Hid (OwnV .i64 3 wr w.heap.size so out) ∧ Hid (out.length = j ∧ Ok W16 out) ∧ Hid (val W16 (xs.take j) + W16 ^ j * bo = val W16 out + val W16 (ys.take j)) ∧ Hid (Below w.heap.size w wr))
  case atStart => exact ⟨0, 0, [], by omega, rfl, rfl, by omega, OwnV.nil_ _, ⟨rfl, Ok.nil⟩, by unfold Hid; simp, Below.refl _ _⟩
  case round =>
    obtain ⟨j, bo, out, hgj, rfl, rfl, hbo, HS, HV, HE, HB⟩ := hrel
    by_cases hj : j < n
    · obtain ⟨b, o, p, rfl, hb, hpe, hcell⟩ := (HRA.out.below HB.out).at_ (i := j) hj
      have hpb : p < 65536 := by rw [← hpe]; exact HX.out.2.1.getD (by decide) _
      have HP := Lib.hid hpe
      obtain ⟨q, hqe⟩ : ∃ q, ys.getD j 0 = q := ⟨_, rfl⟩
      have hqb : q < 65536 := by rw [← hqe]; exact HX.out.2.2.getD (by decide) _
      have HQ := Lib.hid hqe
      clear hpe hqe
      have hj0 : (0 : Int) ≤ (j : Int) := by omega
      have hj1 : (j : Int) < (n : Int) := by omega
      have hw1 : IntKind.i64.wrap ((p : Int) - (q : Int)) = (p : Int) - (q : Int) := by rw [IntKind.wrap_i64]; omega
      have hw2 : IntKind.i64.wrap ((p : Int) - (q : Int) - (bo : Int)) = (p : Int) - (q : Int) - (bo : Int) := by rw [IntKind.wrap_i64]; omega
      have HSl : Hid (Sl .i64 wr (.slice A' m cb) ys) := HB0.out.to HB.out
      have hlen1 : out.length + [p].length ≤ 1000000 := by have := HV.out.1; simp; omega
      have HLEN := Lib.hid hlen1
      clear hlen1
      go_wp2
      go_quiet ((go_at_call 70; exact quietL (rdigit_eq ys _ j q _ (by exact HSl.out) (by omega) HQ.out)))
      clear hw1 hw2
      generalize hwq : wr.drewN nq = wq
      have HS1 : Hid (OwnV .i64 3 wq w.heap.size u5 out) := by rw [← hwq]; exact HS.out
      have HBq : Hid (Below w.heap.size w wq) := by rw [← hwq]; exact below_drewN HB.out _
      clear hwq hcell
      by_cases hneg : p < q + bo
      · obtain ⟨z, hz, hzb, HZ⟩ : ∃ z : Nat, (p : Int) - (q : Int) - (bo : Int) + 65536 = (z : Int) ∧ z < 65536 ∧ Hid (p + 65536 * 1 = z + q + bo) := ⟨p + 65536 - q - bo, by omega, by omega, by unfold Hid; omega⟩
        have hng : (p : Int) - (q : Int) - (bo : Int) < 0 := by omega
        go_wp2_with (at_builtin; refine wpList_push wq rfl _ _ 58 rfl .i64 3 8 Tryd.underlying58 info_i64 (by decide) w.heap.size _ out [z] (by rfl) (by rfl) HS1.out HLEN.out HBq.out.size _ rfl ?_; intro v1 w1 hown1 hb1)
        go_roundg (gk - 1)
        case measure => omega
        case rel =>
          obtain ⟨e1, e2⟩ := HV.out
          exact ⟨j + 1, 1, out ++ [z], by omega, by go_num, rfl, by omega, hown1, ⟨by simp; omega, e2.append (Ok.cons hzb Ok.nil)⟩, rsub_step e1 HP.out HQ.out HZ.out HE.out, HBq.out.trans hb1⟩
      · obtain ⟨z, hz, hzb, HZ⟩ : ∃ z : Nat, (p : Int) - (q : Int) - (bo : Int) = (z : Int) ∧ z < 65536 ∧ Hid (p + 65536 * 0 = z + q + bo) := ⟨p - q - bo, by omega, by omega, by unfold Hid; omega⟩
        rw [hz]
        clear hz
        go_wp2_with (at_builtin; refine wpList_push wq rfl _ _ 58 rfl .i64 3 8 Tryd.underlying58 info_i64 (by decide) w.heap.size _ out [z] (by rfl) (by rfl) HS1.out HLEN.out HBq.out.size _ rfl ?_; intro v1 w1 hown1 hb1)
        go_roundg (gk - 1)
        case measure => omega
        case rel =>
          obtain ⟨e1, e2⟩ := HV.out
          exact ⟨j + 1, 0, out ++ [z], by omega, by go_num, rfl, by omega, hown1, ⟨by simp; omega, e2.append (Ok.cons hzb Ok.nil)⟩, rsub_step e1 HP.out HQ.out HZ.out HE.out, HBq.out.trans hb1⟩
    · obtain rfl : j = n := by omega
      clear hgj hj
      go_wp2_with (go_at_call 69; refine (rtrim_any out _ _ HS.out.sl HV.out.2).mono ?_; rintro e w' ⟨v', rfl, hn', rfl⟩)
      go_ret
      rw [rsub_end HX.out.1.1 HX.out.1.2 HL.out.1 (by rw [HL.out.2]; exact hlen) HV.out.1 HV.out.2 HLE.out HE.out] at hn'
      exact ⟨_, rfl, hn', HB.out⟩
end Go.Proofs.YtdfcpkjphdepcaaDoor
namespace Go.Proofs.YtdfcpkjphdepcaaDoor
open Go.RowKit NumB
theorem len_pos16 {x n : Nat} (h : n = (digs W16 x).length) : 0 < n ↔ 0 < x := by
  subst h
  constructor
  · intro h
    rcases Nat.eq_zero_or_pos x with h4 | h4
    · subst h4; rw [digs_zero] at h; exact absurd h (by simp)
    · exact h4
  · intro h
    exact List.length_pos_iff.2 fun h4 => by have := (digs_nil W16_gt).1 h4; omega
end Go.Proofs.YtdfcpkjphdepcaaDoor
namespace Go.Proofs.YtdfcpkjphdepcaaDoor
open Go.RowKit NumB
set_option linter.unusedVariables false
set_option linter.unusedSimpArgs false

/-- An append onto a row that the call owns, as a step of a region that draws. -/
theorem step_push {P : Program} {ops : Array Oper} {o : Oper} {a : Act} {K : Act → World → Prop} {Q : Exit → Act → World → Prop} {E : Prop} (w : World) (hgd : o.guard = none) (s x : Operand) (t : TypeId)
    (ho : o.op = .call { callee := .builtin .append, args := #[s, x], argTypes := #[t, t] })
    (k : IntKind) (T : TypeId) (bytes : Nat) (ht : P.underlying t = some (.slice T)) (hinfo : (P.info? T).map (fun i => (i.zero, i.size, i.bytes)) = some (some (.int k 0), 1, bytes)) (hb8 : bytes ≤ 8)
    (B : Nat) (v : Value) (xs ys : List Nat) (hs : a.eval s = v) (hx : a.eval x = .slice (some ⟨w.heap.size, 0, none⟩) ys.length ys.length) (hy : 0 < ys.length) (hown : OwnV k T w B v xs) (hn : xs.length + ys.length ≤ 1000000) (hB : B ≤ w.heap.size) (C : Array Value) (hC : C = (cellsN k ys).toArray)
    (h : ∀ v' w', OwnV k T w' B v' (xs ++ ys) → Below B w w' → K (a.put o.dst v') w') : if Region.wanted o (yielded ops a.tmps) = true then Oper.wp P o a (w.alloc (.cells C T)) K Q else E := by
  subst hC
  obtain ⟨i0, hi0, hz0, hz1, hz2⟩ := info_parts hinfo
  refine step_append_lies _ hgd s x t ho B T i0 (.int k 0) 1 bytes ht hi0 hz0 hz1 hz2 rfl (by decide) v xs.length (cellsN k xs) hs (hown.alloc _) ⟨w.heap.size, 0, none⟩ ys.length ys.length (cellsN k ys) hx (by rw [cellsN_len]; omega) news_block cellsN_one hy (by unfold maxLen; omega) ?_ (by simp; omega) _ rfl ?_
  · have : (xs.length + ys.length) * bytes ≤ 1000000 * 8 := Nat.mul_le_mul hn hb8
    omega
  · intro g cap w' h1 h2 _ _
    refine h _ w' ?_ (((Below.refl B w).alloc hB _).grown h2 (by simp; omega) (fun g hg => hown.blk g hg))
    unfold OwnV
    rw [List.length_append, ← cellsN_append]
    exact h1

/-- Two digits make a limb. -/
theorem or_pair (p q : Nat) (hp : p < 65536) (hq : q < 65536) : bits .or .u32 (p : Int) ((q : Int) * 65536) = ((p + q * 65536 : Nat) : Int) := by
  have h := or_u32 p (q * 65536) (by omega) (by omega)
  have e : p ||| q * 65536 = p + q * 65536 := by
    rw [Nat.or_comm, show (65536 : Nat) = 2 ^ 16 from rfl, ← Nat.shiftLeft_eq, ← Nat.shiftLeft_add_eq_or_of_lt (by omega), Nat.shiftLeft_eq]; omega
  rw [e] at h
  rw [← h]
  congr 1
theorem pair_drop {xs : List Nat} {j p q : Nat} (hj : j < xs.length) (hp : xs.getD j 0 = p) (hq : xs.getD (j + 1) 0 = q) : val W16 (xs.drop j) = p + q * 65536 + 4294967296 * val W16 (xs.drop (j + 2)) := by
  have e1 : xs.drop j = p :: xs.drop (j + 1) := by rw [List.drop_eq_getElem_cons hj, ← getD_lt hj, hp]
  rw [e1, val_cons]
  have : W16 = 65536 := rfl
  rcases Nat.lt_or_ge (j + 1) xs.length with h | h
  · have e2 : xs.drop (j + 1) = q :: xs.drop (j + 2) := by rw [List.drop_eq_getElem_cons h, ← getD_lt h, hq]
    rw [e2, val_cons, this]; omega
  · have e3 : q = 0 := by rw [← hq, List.getD_eq_getElem?_getD, List.getElem?_eq_none h]; rfl
    rw [List.drop_eq_nil_of_le h, List.drop_eq_nil_of_le (by omega), val_nil, e3]; omega
theorem pair_step {out : List Nat} {c c' l x : Nat} (hc : c = l + 4294967296 * c') (hl : l < 4294967296) (h0 : c ≠ 0) (h : out ++ digs W32 c = digs W32 x) : (out ++ [l]) ++ digs W32 c' = digs W32 x := by
  rw [← h, digs_step W32_gt h0, List.append_assoc]
  have : W32 = 4294967296 := rfl
  have e1 : c % W32 = l := by rw [this]; omega
  have e2 : c / W32 = c' := by rw [this]; omega
  rw [e1, e2]; rfl
theorem drop_pos {x j : Nat} (hj : j < (digs W16 x).length) : val W16 ((digs W16 x).drop j) ≠ 0 := by
  intro h
  have h1 := val_split W16 (digs W16 x) j
  rw [h, Nat.mul_zero, Nat.add_zero, val_digs W16_gt] at h1
  have h2 := val_take_lt (ok_digs W16_gt x) (Nat.le_of_lt hj)
  rw [← h1] at h2
  have := digs_len_le W16_gt h2
  omega

set_option maxRecDepth 100000 in
set_option maxHeartbeats 3200000 in
theorem rlimbs_any (x : Nat) (va : Value) (w : World) (ha : Nat16 w va x) (hx : (digs W16 x).length ≤ 100000) :
    Calls Tryd.prog 63 #[va] w fun e w' => ∃ v, e = .returned v ∧ Nat32 w' v x ∧ Below w.heap.size w w' := by
  have HA := Lib.hid ha
  have HP := Lib.hid (fun j (h : j < (digs W16 x).length) => drop_pos h)
  obtain ⟨A, c, rfl, hc, hm, hr⟩ := ha
  have HX := Lib.hid (And.intro (val_digs W16_gt x) (ok_digs W16_gt x))
  generalize hxs : digs W16 x = xs at *
  have HSL : Hid (Sl .i64 w (.slice A xs.length c) xs) := by have := HA.out; unfold Nat16 at this; rw [hxs] at this; exact this
  clear HA hxs
  generalize hn : xs.length = n at *
  have HN := Lib.hid hn
  have HR := Lib.hid hr
  clear hn hr
  unfold maxLen at hm
  go_enter Tryd.func63, Tryd.ntmps63
  go_wp2
  go_loopg [3, 4] n (fun gk s3 s4 wr => ∃ (j : Nat) (out : List Nat), s4 = .int .i64 (j : Int) ∧ gk = n - j ∧ j ≤ n + 1 ∧ Hid (out.length ≤ j) ∧ Hid (OwnV .u32 40 wr w.heap.size s3 out ∧ out ++ digs W32 (val W16 (xs.drop j)) = digs W32 x ∧ Below w.heap.size w wr))
  case atStart => exact ⟨0, [], rfl, by omega, by omega, by unfold Hid; simp, OwnV.nil_ _, by rw [List.drop_zero, HX.out.1]; rfl, Below.refl _ _⟩
  case round =>
    obtain ⟨j, out, rfl, rfl, hj, HOL, HQ⟩ := hrel
    by_cases h0 : j < n
    · obtain ⟨b, o, p, rfl, hb, hpe, hcell⟩ := (HR.out.below HQ.out.2.2).at_ (i := j) (by omega)
      obtain ⟨q, hqe⟩ : ∃ q, xs.getD (j + 1) 0 = q := ⟨_, rfl⟩
      have hpb : p < 65536 := by rw [← hpe]; exact HX.out.2.getD (by decide) _
      have hqb : q < 65536 := by rw [← hqe]; exact HX.out.2.getD (by decide) _
      have HPE := Lib.hid hpe
      have HQE := Lib.hid hqe
      have hor := or_pair p q hpb hqb
      obtain ⟨l, hl, hlb, HL⟩ : ∃ l : Nat, (p + q * 65536 : Nat) = l ∧ l < 4294967296 ∧ Hid (l = p + q * 65536) := ⟨_, rfl, by omega, rfl⟩
      rw [hl] at hor
      have HS := Lib.hid (HSL.out.to HQ.out.2.2)
      have HLEN : Hid (out.length + [l].length ≤ 1000000) := by have := HOL.out; unfold Hid; simp; omega
      obtain ⟨j1, hj1, HJ1⟩ : ∃ j1 : Nat, (j : Int) + 1 = (j1 : Int) ∧ Hid (j1 = j + 1) := ⟨j + 1, by omega, rfl⟩
      have hj1b : j1 < 200000 := by have := HJ1.out; omega
      have HD : Hid (Calls Tryd.prog 70 #[.slice (some ⟨b, o, none⟩) n c, .int .i64 (j1 : Int)] wr.drew fun e w' => e = .returned (.int .i64 (q : Int)) ∧ wr.drew = w') := rdigit_eq xs _ j1 q wr.drew (HS.out.to (Below.refl _ _).drew) (by omega) (by rw [HJ1.out]; exact hqe)
      have HOW := Lib.hid (HQ.out.1.to (Below.refl wr.heap.size wr).drew)
      clear hpe hqe hl
      have hw1 : IntKind.i64.wrap (j1 : Int) = (j1 : Int) := by rw [IntKind.wrap_i64]; omega
      have hw2 : IntKind.u32.wrap (p : Int) = (p : Int) := by rw [IntKind.wrap_u32]; omega
      have hw3 : IntKind.u32.wrap (q : Int) = (q : Int) := by rw [IntKind.wrap_u32]; omega
      have hw4 : IntKind.u32.wrap ((q : Int) * 65536) = (q : Int) * 65536 := by rw [IntKind.wrap_u32]; omega
      go_wp2_with fail
      go_region_law (first
        | (refine step_push _ rfl (.tmp 11) (.tmp 24) 22 rfl .u32 40 4 Tryd.underlying22 info_u32 (by decide) w.heap.size _ out [l] (by rfl) (by rfl) (by simp) HOW.out HLEN.out HQ.out.2.2.size _ rfl ?_; intro v1 w1 hown1 hb1)
        | (go_simp; go_at_call 70; refine HD.out.mono ?_; rintro e w' ⟨rfl, rfl⟩))
      all_goals
        have HW1 := Lib.hid hown1
        have HB1 := Lib.hid ((HQ.out.2.2.drew).trans hb1)
        clear hown1 hb1
        go_wp2
        go_roundg (n - (j + 2))
        case measure => omega
        case rel =>
          refine ⟨j + 2, out ++ [l], by go_num, rfl, by omega, ?_, HW1.out, ?_, HB1.out⟩
          · have := HOL.out; unfold Hid; simp; omega
          · refine pair_step (c := val W16 (xs.drop j)) ?_ hlb (HP.out j h0) HQ.out.2.1
            rw [HL.out]; exact pair_drop (by rw [HN.out]; exact h0) HPE.out HQE.out
    · have hd : xs.drop j = [] := List.drop_eq_nil_of_le (by rw [HN.out]; omega)
      go_wp2
      go_ret
      obtain ⟨h1, h2, h3⟩ := HQ.out
      rw [hd, val_nil, digs_zero, List.append_nil] at h2
      subst h2
      exact ⟨_, rfl, h1.sl, h3⟩
end Go.Proofs.YtdfcpkjphdepcaaDoor
namespace Go.Proofs.YtdfcpkjphdepcaaDoor
open Go.RowKit NumB
set_option linter.unusedVariables false
set_option linter.unusedSimpArgs false

/-- Does the list end with a zero? -/
def lastB (xs : List Nat) : Bool := decide (0 < xs.length ∧ xs.getD (xs.length - 1) 0 = 0)

set_option maxRecDepth 100000 in
theorem last_any (xs : List Nat) (va : Value) (w : World) (ha : Sl .u32 w va xs) :
    Calls Tryd.prog 62 #[va] w fun e w' => e = .returned (.bool (lastB xs)) ∧ w = w' := by
  obtain ⟨A, ca, rfl, hca, hma, hra⟩ := ha
  unfold maxLen at hma
  have HE : Hid (lastB xs = decide (0 < xs.length ∧ xs.getD (xs.length - 1) 0 = 0)) := rfl
  generalize lastB xs = bb at *
  generalize hn : xs.length = n at *
  rcases Nat.eq_zero_or_pos n with hn0 | hn0
  · subst hn0
    have E : Hid (bb = false) := by unfold Hid; rw [HE.out]; exact decide_eq_false (by omega)
    clear HE hra hn
    go_enter Tryd.func62, Tryd.ntmps62
    go_wp2
    go_ret
    exact ⟨congrArg (fun b => Ending.returned (.bool b)) E.out.symm, rfl⟩
  · obtain ⟨k, rfl⟩ : ∃ k, n = k + 1 := ⟨n - 1, by omega⟩
    obtain ⟨b, o, p, rfl, hb, hpe, hcp⟩ := hra.at_ (i := k) (by omega)
    have hk : ((k + 1 : Nat) : Int) - 1 = (k : Int) := by omega
    have hk1 : (k : Int) < ((k + 1 : Nat) : Int) := by omega
    have hk2 : (0 : Int) < ((k + 1 : Nat) : Int) := by omega
    by_cases h : p = 0
    · subst h
      have E : Hid (bb = true) := by unfold Hid; rw [HE.out]; exact decide_eq_true ⟨by omega, hpe⟩
      clear HE hra hn hpe
      go_enter Tryd.func62, Tryd.ntmps62
      go_wp2
      go_ret
      exact ⟨congrArg (fun b => Ending.returned (.bool b)) E.out.symm, rfl⟩
    · have hb1 : ((p : Int) == 0) = false := beq_eq_false_iff_ne.2 (by omega)
      have E : Hid (bb = false) := by unfold Hid; rw [HE.out]; exact decide_eq_false (fun h' => h (hpe ▸ h'.2))
      clear HE hra hn hpe h
      go_enter Tryd.func62, Tryd.ntmps62
      go_wp2
      go_ret
      exact ⟨congrArg (fun b => Ending.returned (.bool b)) E.out.symm, rfl⟩
end Go.Proofs.YtdfcpkjphdepcaaDoor
namespace Go.Proofs.YtdfcpkjphdepcaaDoor
open Go.RowKit NumB
set_option linter.unusedVariables false
set_option linter.unusedSimpArgs false

set_option maxRecDepth 100000 in
set_option maxHeartbeats 1600000 in
theorem check_big (neg : Bool) (xs ys : List Nat) (va vb : Value) (w : World) (ha : Sl .u32 w va xs) (hb : Sl .u32 w vb ys) (hx : 128 < xs.length ∨ 128 < ys.length) :
    Calls Tryd.prog 35 #[.agg #[.bool neg, va, vb]] w fun e w' => e = .returned (.int .i64 3) ∧ Below w.heap.size w w' := by
  obtain ⟨A, ca, rfl, hca, hma, hra⟩ := ha
  obtain ⟨A', cb, rfl, hcb, hmb, hrb⟩ := hb
  unfold maxLen at hma hmb
  generalize xs.length = n at *
  generalize ys.length = m at *
  clear hra hrb
  by_cases h : 128 < n
  · clear hx
    go_enter Tryd.func35, Tryd.ntmps35
    go_wp2
    go_ret
    exact ⟨rfl, (Below.refl _ _).alloc (Nat.le_refl _) _⟩
  · have hm : 128 < m := by omega
    have hn : n ≤ 128 := by omega
    clear hx h
    go_enter Tryd.func35, Tryd.ntmps35
    go_wp2
    go_ret
    exact ⟨rfl, (Below.refl _ _).alloc (Nat.le_refl _) _⟩

set_option maxRecDepth 100000 in
set_option maxHeartbeats 1600000 in
theorem check_last (neg : Bool) (xs ys : List Nat) (va vb : Value) (w : World) (ha : Sl .u32 w va xs) (hb : Sl .u32 w vb ys) (hx : xs.length ≤ 128) (hy : ys.length ≤ 128) (hl : lastB xs = true ∨ lastB ys = true ∨ ys.length = 0) :
    Calls Tryd.prog 35 #[.agg #[.bool neg, va, vb]] w fun e w' => e = .returned (.int .i64 2) ∧ Below w.heap.size w w' := by
  have HA := Lib.hid ha
  have HB := Lib.hid hb
  obtain ⟨A, ca, rfl, hca, hma, hra⟩ := ha
  obtain ⟨A', cb, rfl, hcb, hmb, hrb⟩ := hb
  clear hra hrb
  unfold maxLen at hma hmb
  generalize xs.length = n at *
  generalize ys.length = m at *
  by_cases hl1 : lastB xs = true
  · have HL := Lib.hid hl1
    clear hl hl1
    go_enter Tryd.func35, Tryd.ntmps35
    go_wp2_with fail
    refine (last_any xs _ _ (by exact HA.out.to ((Below.refl _ _).alloc (Nat.le_refl _) _))).mono ?_
    rintro e w1 ⟨rfl, rfl⟩
    rw [HL.out]
    go_wp2
    go_ret
    exact ⟨rfl, (Below.refl _ _).alloc (Nat.le_refl _) _⟩
  · have HL : Hid (lastB xs = false) := by unfold Hid; simpa using hl1
    have hl2 : lastB ys = true ∨ m = 0 := by rcases hl with h | h; exact absurd h hl1; exact h
    clear hl hl1
    by_cases hl1 : lastB ys = true
    · have HL2 := Lib.hid hl1
      clear hl2 hl1
      go_enter Tryd.func35, Tryd.ntmps35
      go_wp2_with fail
      refine (last_any xs _ _ (by exact HA.out.to ((Below.refl _ _).alloc (Nat.le_refl _) _))).mono ?_
      rintro e w1 ⟨rfl, rfl⟩
      rw [HL.out]
      go_wp2_with fail
      refine (last_any ys _ _ (by exact HB.out.to ((Below.refl _ _).alloc (Nat.le_refl _) _))).mono ?_
      rintro e w1 ⟨rfl, rfl⟩
      rw [HL2.out]
      go_wp2
      go_ret
      exact ⟨rfl, (Below.refl _ _).alloc (Nat.le_refl _) _⟩
    · have HL2 : Hid (lastB ys = false) := by unfold Hid; simpa using hl1
      obtain rfl : m = 0 := by rcases hl2 with h | h; exact absurd h hl1; exact h
      clear hl2 hl1
      go_enter Tryd.func35, Tryd.ntmps35
      go_wp2_with fail
      refine (last_any xs _ _ (by exact HA.out.to ((Below.refl _ _).alloc (Nat.le_refl _) _))).mono ?_
      rintro e w1 ⟨rfl, rfl⟩
      rw [HL.out]
      go_wp2_with fail
      refine (last_any ys _ _ (by exact HB.out.to ((Below.refl _ _).alloc (Nat.le_refl _) _))).mono ?_
      rintro e w1 ⟨rfl, rfl⟩
      rw [HL2.out]
      go_wp2
      go_ret
      exact ⟨rfl, (Below.refl _ _).alloc (Nat.le_refl _) _⟩
end Go.Proofs.YtdfcpkjphdepcaaDoor
namespace Go.Proofs.YtdfcpkjphdepcaaDoor
open Go.RowKit NumB
set_option linter.unusedVariables false
set_option linter.unusedSimpArgs false

/-- What Check answers at a sign and two canonical naturals, the second positive. -/
def checkN (neg : Bool) (x y : Nat) : Int := if x = 0 then (if neg = false ∧ y = 1 then 0 else 2) else if y = 1 ∨ x = 1 ∨ Nat.gcd x y = 1 then 0 else 2

end Go.Proofs.YtdfcpkjphdepcaaDoor
