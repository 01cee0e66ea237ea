/-  -/
import Derived.Test.YtkfnpcilanheiaaGreatJo36
import Derived.Test.YtkfnpcilanheiaaGreatJo37
set_option linter.unusedVariables false
set_option linter.unusedSimpArgs false
/- The three rounds of Unify at the two terms of bound. -/
namespace Go.Proofs.YtkfnpcilanheiaaGreat
open Go.RowKit NumB
set_option linter.unusedVariables false
set_option linter.unusedSimpArgs false

/-- A row of pairs without its last pair. -/
theorem row_pop {w : World} {B n n1 cap gb : Nat} {e : TypeId} {zs l : List Value} (hn1 : n + 1 = n1) (h : w.ownsRow B e 14 (.slice (some ⟨gb, 0, none⟩) n1 cap) n1 (zs ++ l)) (hl : l.length = 14) : w.ownsRow B e 14 (.slice (some ⟨gb, 0, none⟩) n cap) n zs := by
  subst hn1
  obtain ⟨h1, h2 | ⟨g, cap', cur, e1, h3, h4, h5, h6, h7, h8⟩⟩ := h
  · cases h2.1
  · simp only [Value.slice.injEq, Option.some.injEq, Addr.mk.injEq, and_true, true_and] at e1
    obtain ⟨rfl, rfl⟩ := e1
    rw [List.length_append, hl] at h1
    have h9 : zs.length = n * 14 := by omega
    refine ⟨h9, .inr ⟨gb, cap, cur, rfl, h3, h4, by omega, h6, h7, ?_⟩⟩
    have h10 : cur.toList.take (n * 14) = (cur.toList.take ((n + 1) * 14)).take (n * 14) := by
      rw [List.take_take]
      congr 1
      omega
    rw [h10, h8, List.take_append_of_le_length (by omega), ← h9, List.take_length]
theorem row_last {w : World} {B n n1 cap gb : Nat} {e : TypeId} {zs l : List Value} (hn1 : n + 1 = n1) (h : w.ownsRow B e 14 (.slice (some ⟨gb, 0, none⟩) n1 cap) n1 (zs ++ l)) (hl : l.length = 14) : ∀ q u, l[q]? = some u → w.cell? ⟨gb, n * 14 + q, none⟩ = some u := fun q u hq => by
  subst hn1
  have h1 := h.1
  rw [List.length_append, hl] at h1
  have h2 : q < 14 := by
    have := (List.getElem?_eq_some_iff.1 hq).1
    omega
  have := h.cellAt (n * 14 + q) (by omega)
  rw [this, List.getElem?_append_right (by omega), show n * 14 + q - zs.length = q by omega, hq]

/-- From W on so many pairs are to be processed. -/
def ULive (B Bp h G c U : Nat) (XE : List Value) : Nat → World → Prop
  | 0, W => ∃ N M st tr m ys, US W U h N M st ∧ W.ownsRow Bp 147 14 st 0 [] ∧ HS W B h G c tr XE m ys
  | g + 1, W => ∃ (fk fv : Int) (fs : ByteArray) (fn : Bool) (fA : Option Addr) (fa fc : Nat) (fB : Option Addr) (fd fe : Nat) (fX : Option Addr) (fl fq : Nat) (ok ov : Int) (os : ByteArray) (on : Bool) (oA : Option Addr) (oa oc : Nat) (oB : Option Addr) (od oe : Nat) (oX : Option Addr) (ol oq : Nat) (rk rv : Int) (rs : ByteArray) (rn : Bool) (rA : Option Addr) (ra rc : Nat) (rB : Option Addr) (rd re : Nat) (rX : Option Addr) (rl rq : Nat) (pk pv : Int) (ps : ByteArray) (pn : Bool) (pA : Option Addr) (pa pc : Nat) (pB : Option Addr) (pd pe : Nat) (pX : Option Addr) (pl pq : Nat) (na nb : Nat) (st : Value) (n : Nat) (zs xs : List Value) (tr : Value) (m : Nat) (ys : List Value) (N M : Value),
    US W U h N M st ∧ W.ownsRow Bp 147 14 st (n + 1) (zs ++ [(Value.int .i64 fk), (Value.int .i64 fv), (Value.string fs), (Value.bool fn), (Value.slice fA fa fc), (Value.slice fB fd fe), (Value.slice fX fl fq), (Value.int .i64 ok), (Value.int .i64 ov), (Value.string os), (Value.bool on), (Value.slice oA oa oc), (Value.slice oB od oe), (Value.slice oX ol oq)]) ∧ n ≤ 100 ∧ HS W B h G c tr xs m ys ∧ Der xs na [(Value.int .i64 fk), (Value.int .i64 fv), (Value.string fs), (Value.bool fn), (Value.slice fA fa fc), (Value.slice fB fd fe), (Value.slice fX fl fq)] [(Value.int .i64 rk), (Value.int .i64 rv), (Value.string rs), (Value.bool rn), (Value.slice rA ra rc), (Value.slice rB rd re), (Value.slice rX rl rq)] ∧ Der xs nb [(Value.int .i64 ok), (Value.int .i64 ov), (Value.string os), (Value.bool on), (Value.slice oA oa oc), (Value.slice oB od oe), (Value.slice oX ol oq)] [(Value.int .i64 pk), (Value.int .i64 pv), (Value.string ps), (Value.bool pn), (Value.slice pA pa pc), (Value.slice pB pd pe), (Value.slice pX pl pq)] ∧
    ∀ W' st', FrT [some 141, some 144, some 196, some 152, some 147, none] W W' → Bp ≤ W'.heap.size → US W' U h N M st' → W'.ownsRow Bp 147 14 st' n zs → HS W' B h G c tr xs m ys → Calls Tryz.prog 113 #[.pointer (some ⟨U, 0, none⟩), .agg #[.int .i64 rk, .int .i64 rv, .string rs, .bool rn, .slice rA ra rc, .slice rB rd re, .slice rX rl rq], .agg #[.int .i64 pk, .int .i64 pv, .string ps, .bool pn, .slice pA pa pc, .slice pB pd pe, .slice pX pl pq]] W' fun e W'' => e = .returned (.bool true) ∧ ULive B Bp h G c U XE g W'' ∧ FrT [some 141, some 144, some 196, some 152, some 147, none] W' W'' ∧ Below B W' W''

theorem live1 (B Bp h G c U : Nat) (hBB : B ≤ Bp) (dk dv : Int) (ds : ByteArray) (dn : Bool) (dA : Option Addr) (da dc : Nat) (dB : Option Addr) (dd de : Nat) (dX : Option Addr) (dl dq : Nat) (ks : ByteArray) (kn : Bool) (kA : Option Addr) (ka kc : Nat) (kB : Option Addr) (kd ke : Nat) (kX : Option Addr) (kl kq : Nat) (hd : dk ≠ 1) (W : World) (st tr : Value) (m : Nat) (hm : m ≤ 500) (ys : List Value) (N M : Value) (hU : US W U h N M st) (hst : W.ownsRow Bp 147 14 st 1 ([(Value.int .i64 dk), (Value.int .i64 dv), (Value.string ds), (Value.bool dn), (Value.slice dA da dc), (Value.slice dB dd de), (Value.slice dX dl dq), (Value.int .i64 1), (Value.int .i64 0), (Value.string ks), (Value.bool kn), (Value.slice kA ka kc), (Value.slice kB kd ke), (Value.slice kX kl kq)])) (hS : HS W B h G c tr xs1 m ys) : ULive B Bp h G c U (xs2 dk dv ds dn (.slice dA da dc) (.slice dB dd de) (.slice dX dl dq)) 1 W := by
  refine ⟨dk, dv, ds, dn, dA, da, dc, dB, dd, de, dX, dl, dq, 1, 0, ks, kn, kA, ka, kc, kB, kd, ke, kX, kl, kq, dk, dv, ds, dn, dA, da, dc, dB, dd, de, dX, dl, dq, 1, 0, ks, kn, kA, ka, kc, kB, kd, ke, kX, kl, kq, 0, 0, st, 0, [], xs1, tr, m, ys, N, M, hU, hst, by omega, hS, .other _ _ _ _ _ _ _ _ _ _ _ _ _ hd, .free 0 _ _ _ _ _ _ _ _ _ _ _ _ _ rfl rfl (by omega) rfl, fun W' st' hF hs hU' hst' hS' => ?_⟩
  refine (step_av B h G c m U N M st' tr ys dk dv ds dn dA da dc dB dd de dX dl dq ks kn kA ka kc kB kd ke kX kl kq hd (by omega) W' (Nat.le_trans hBB hs) hS' hU').mono ?_
  rintro e W'' ⟨rfl, ⟨tv', m', ys', _, h1⟩, h2, h3⟩
  exact ⟨rfl, ⟨N, M, st', tv', m', ys', Blk.frT hU' h2 (by decide), row_frT hst' h2 (by decide), h1⟩, h2.mono (by decide), h3⟩

theorem live2 (B Bp h G c U : Nat) (hBB : B ≤ Bp) (dk dv : Int) (ds : ByteArray) (dn : Bool) (dA : Option Addr) (da dc : Nat) (dB : Option Addr) (dd de : Nat) (dX : Option Addr) (dl dq : Nat) (ks : ByteArray) (kn : Bool) (kA : Option Addr) (ka kc : Nat) (kB : Option Addr) (kd ke : Nat) (kX : Option Addr) (kl kq : Nat) (us : ByteArray) (un : Bool) (uA : Option Addr) (ua uc : Nat) (uB : Option Addr) (ud ue : Nat) (uX : Option Addr) (ul uq : Nat) (js : ByteArray) (jn : Bool) (jA : Option Addr) (ja jc : Nat) (jB : Option Addr) (jd je : Nat) (jX : Option Addr) (jl jq : Nat) (hd : dk ≠ 1) (W : World) (st tr : Value) (m : Nat) (hm : m ≤ 400) (ys : List Value) (N M : Value) (hU : US W U h N M st) (hst : W.ownsRow Bp 147 14 st 2 ([(Value.int .i64 dk), (Value.int .i64 dv), (Value.string ds), (Value.bool dn), (Value.slice dA da dc), (Value.slice dB dd de), (Value.slice dX dl dq), (Value.int .i64 1), (Value.int .i64 0), (Value.string ks), (Value.bool kn), (Value.slice kA ka kc), (Value.slice kB kd ke), (Value.slice kX kl kq)] ++ [(Value.int .i64 1), (Value.int .i64 0), (Value.string us), (Value.bool un), (Value.slice uA ua uc), (Value.slice uB ud ue), (Value.slice uX ul uq), (Value.int .i64 1), (Value.int .i64 1), (Value.string js), (Value.bool jn), (Value.slice jA ja jc), (Value.slice jB jd je), (Value.slice jX jl jq)])) (hS : HS W B h G c tr (zc ++ zc) m ys) : ULive B Bp h G c U (xs2 dk dv ds dn (.slice dA da dc) (.slice dB dd de) (.slice dX dl dq)) 2 W := by
  refine ⟨1, 0, us, un, uA, ua, uc, uB, ud, ue, uX, ul, uq, 1, 1, js, jn, jA, ja, jc, jB, jd, je, jX, jl, jq, 1, 0, us, un, uA, ua, uc, uB, ud, ue, uX, ul, uq, 1, 1, js, jn, jA, ja, jc, jB, jd, je, jX, jl, jq, 0, 0, st, 1, _, zc ++ zc, tr, m, ys, N, M, hU, hst, by omega, hS, .free 0 _ _ _ _ _ _ _ _ _ _ _ _ _ rfl rfl (by omega) rfl, .free 1 _ _ _ _ _ _ _ _ _ _ _ _ _ rfl rfl (by omega) rfl, fun W' st' hF hs hU' hst' hS' => ?_⟩
  refine (step_vv B h G c m U N M st' tr ys us un uA ua uc uB ud ue uX ul uq js jn jA ja jc jB jd je jX jl jq (by omega) W' (Nat.le_trans hBB hs) hS' hU').mono ?_
  rintro e W'' ⟨rfl, ⟨tv', m', ys', hm', h1⟩, h2, h3⟩
  exact ⟨rfl, live1 B Bp h G c U hBB dk dv ds dn dA da dc dB dd de dX dl dq ks kn kA ka kc kB kd ke kX kl kq hd W'' st' tv' m' (by omega) ys' N M (Blk.frT hU' h2 (by decide)) (row_frT hst' h2 (by decide)) h1, h2.mono (by decide), h3⟩

theorem live3 (B Bp h G c U : Nat) (hBB : B ≤ Bp) (hBU : Bp ≤ U) (s0 : ByteArray) (hs0 : s0.size ≤ 1000) (xv : Int) (xn : Bool) (xA : Option Addr) (xa xc : Nat) (xB : Option Addr) (xd xe xb xo xq : Nat) (yv : Int) (yn : Bool) (yA : Option Addr) (ya yc : Nat) (yB : Option Addr) (yd ye yb yo yq : Nat) (xarr yarr : Array Value) (dk dv : Int) (ds : ByteArray) (dn : Bool) (dA : Option Addr) (da dc : Nat) (dB : Option Addr) (dd de : Nat) (dX : Option Addr) (dl dq : Nat) (ks : ByteArray) (kn : Bool) (kA : Option Addr) (ka kc : Nat) (kB : Option Addr) (kd ke : Nat) (kX : Option Addr) (kl kq : Nat) (us : ByteArray) (un : Bool) (uA : Option Addr) (ua uc : Nat) (uB : Option Addr) (ud ue : Nat) (uX : Option Addr) (ul uq : Nat) (js : ByteArray) (jn : Bool) (jA : Option Addr) (ja jc : Nat) (jB : Option Addr) (jd je : Nat) (jX : Option Addr) (jl jq : Nat) (hd : dk ≠ 1) (hxv : i64ok xv) (hyv : i64ok yv) (hxr : LeafRow xarr xo 2) (hyr : LeafRow yarr yo 2)
    (hx0 : ∀ q, q < 7 → xarr[xo + 0 * 7 + q]? = [(Value.int .i64 1), (Value.int .i64 0), (Value.string us), (Value.bool un), (Value.slice uA ua uc), (Value.slice uB ud ue), (Value.slice uX ul uq)][q]?) (hx1 : ∀ q, q < 7 → xarr[xo + 1 * 7 + q]? = [(Value.int .i64 dk), (Value.int .i64 dv), (Value.string ds), (Value.bool dn), (Value.slice dA da dc), (Value.slice dB dd de), (Value.slice dX dl dq)][q]?) (hy0 : ∀ q, q < 7 → yarr[yo + 0 * 7 + q]? = [(Value.int .i64 1), (Value.int .i64 1), (Value.string js), (Value.bool jn), (Value.slice jA ja jc), (Value.slice jB jd je), (Value.slice jX jl jq)][q]?) (hy1 : ∀ q, q < 7 → yarr[yo + 1 * 7 + q]? = [(Value.int .i64 1), (Value.int .i64 0), (Value.string ks), (Value.bool kn), (Value.slice kA ka kc), (Value.slice kB kd ke), (Value.slice kX kl kq)][q]?)
    (W : World) (st tr : Value) (m : Nat) (hm : m ≤ 300) (ys : List Value) (hx : Blk W xb 27 xarr) (hy : Blk W yb 27 yarr) (hxy : xb ≠ yb) (hU : US W U h (.pointer none) (.map none) st) (hst : W.ownsRow Bp 147 14 st 1 [(Value.int .i64 5), (Value.int .i64 xv), (Value.string s0), (Value.bool xn), (Value.slice xA xa xc), (Value.slice xB xd xe), (Value.slice (some ⟨xb, xo, none⟩) 2 xq), (Value.int .i64 5), (Value.int .i64 yv), (Value.string s0), (Value.bool yn), (Value.slice yA ya yc), (Value.slice yB yd ye), (Value.slice (some ⟨yb, yo, none⟩) 2 yq)]) (hS : HS W B h G c tr (zc ++ zc) m ys) : ULive B Bp h G c U (xs2 dk dv ds dn (.slice dA da dc) (.slice dB dd de) (.slice dX dl dq)) 3 W := by
  refine ⟨5, xv, s0, xn, xA, xa, xc, xB, xd, xe, _, _, xq, 5, yv, s0, yn, yA, ya, yc, yB, yd, ye, _, _, yq, 5, xv, s0, xn, xA, xa, xc, xB, xd, xe, _, _, xq, 5, yv, s0, yn, yA, ya, yc, yB, yd, ye, _, _, yq, 0, 0, st, 0, [], zc ++ zc, tr, m, ys, _, _, hU, hst, by omega, hS, .other _ _ _ _ _ _ _ _ _ _ _ _ _ (by decide), .other _ _ _ _ _ _ _ _ _ _ _ _ _ (by decide), fun W' st' hF hs hU' hst' hS' => ?_⟩
  have hpr : ∀ j, j < 2 → (fun j => if j = 0 then [(Value.int .i64 1), (Value.int .i64 0), (Value.string us), (Value.bool un), (Value.slice uA ua uc), (Value.slice uB ud ue), (Value.slice uX ul uq), (Value.int .i64 1), (Value.int .i64 1), (Value.string js), (Value.bool jn), (Value.slice jA ja jc), (Value.slice jB jd je), (Value.slice jX jl jq)] else [(Value.int .i64 dk), (Value.int .i64 dv), (Value.string ds), (Value.bool dn), (Value.slice dA da dc), (Value.slice dB dd de), (Value.slice dX dl dq), (Value.int .i64 1), (Value.int .i64 0), (Value.string ks), (Value.bool kn), (Value.slice kA ka kc), (Value.slice kB kd ke), (Value.slice kX kl kq)]) j = (List.range 7).map (fun q => xarr.getD (xo + j * 7 + q) undef) ++ (List.range 7).map (fun q => yarr.getD (yo + j * 7 + q) undef) := fun j hj => by
    have g : ∀ (arr : Array Value) (o : Nat) (l : List Value), l.length = 7 → (∀ q, q < 7 → arr[o + q]? = l[q]?) → (List.range 7).map (fun q => arr.getD (o + q) undef) = l := fun arr o l hl hq => by
      refine List.ext_getElem? fun q => ?_
      rw [List.getElem?_map]
      rcases Nat.lt_or_ge q 7 with h | h
      · rw [List.getElem?_range h]
        have := hq q h
        simp [Array.getD_eq_getD_getElem?, this, List.getElem?_eq_getElem (by omega : q < l.length)]
      · rw [List.getElem?_eq_none (by simp; omega), List.getElem?_eq_none (by omega)]; rfl
    have : j = 0 ∨ j = 1 := by omega
    rcases this with rfl | rfl
    · rw [g xarr (xo + 0 * 7) _ rfl hx0, g yarr (yo + 0 * 7) _ rfl hy0]; rfl
    · rw [g xarr (xo + 1 * 7) _ rfl hx1, g yarr (yo + 1 * 7) _ rfl hy1]; rfl
  refine (step_comp Bp h U 0 2 st' [] s0 (by omega) (by omega) hs0 xv xn xA xa xc xB xd xe xb xo xq xarr hxv hxr yv yn yA ya yc yB yd ye yb yo yq yarr hyv hyr _ hpr (by omega) W' hBU (hx.frT hF (by decide)) (hy.frT hF (by decide)) hxy hU' hst').mono ?_
  rintro e W'' ⟨rfl, ⟨N', M', st2, h1, h2⟩, h3, h4⟩
  exact ⟨rfl, live2 B Bp h G c U hBB dk dv ds dn dA da dc dB dd de dX dl dq ks kn kA ka kc kB kd ke kX kl kq us un uA ua uc uB ud ue uX ul uq js jn jA ja jc jB jd je jX jl jq hd W'' st2 tr m (by omega) ys N' M' h1 h2 (hS'.frT h3 (by decide) (by decide) (by decide)), h3.mono (by decide), ⟨h4.os, h4.tape, h4.output, h4.size, fun k hk => h4.block k (by omega)⟩⟩
end Go.Proofs.YtkfnpcilanheiaaGreat
