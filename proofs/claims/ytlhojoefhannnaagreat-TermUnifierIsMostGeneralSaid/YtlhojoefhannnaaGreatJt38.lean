/- What term.Unifier calls: its two closures, Bound, NewVar with the number's entry; terms carried where all cells stay. And 1 more texts. -/
import Derived.Test.YtlhojoefhannnaaGreatJt37
set_option linter.unusedVariables false
set_option linter.unusedSimpArgs false
set_option maxRecDepth 100000
set_option maxHeartbeats 51200000
namespace Go.Proofs.YtlhojoefhannnaaGreat
open Go.RowKit NumB
theorem Sl.cells {w w':World} {v:Value} {xs:List Nat} (h:Sl .u32 w v xs) (hs:w.heap.size<=w'.heap.size) (hc:∀ b o u,w.cell? ⟨b,o,none⟩=some u->w'.cell? ⟨b,o,none⟩=some u):Sl .u32 w' v xs:=by
 obtain⟨A,c,e,h1,h2,h3,h4⟩:=h;exact⟨A,c,e,h1,h2,h3,fun h0=>by obtain⟨b,o,e,hb,hq⟩:=h4 h0;exact⟨b,o,e,by omega,fun i hi=>hc _ _ _ (hq i hi)⟩⟩
theorem TC.cells {w w':World} {t:Tm} {cs:List Value} (h:TC w t cs) (hs:w.heap.size<=w'.heap.size) (hc:∀ b o u,w.cell? ⟨b,o,none⟩=some u->w'.cell? ⟨b,o,none⟩=some u):TC w' t cs:=by
 induction h with
 |mk k v s n args A B Ar cap cs hk hv hs' hA hB hn hcap hm hr ha ih=>
  refine .mk k v s n args A B Ar cap cs hk hv hs' (hA.cells hs hc) (hB.cells hs hc) hn hcap hm (fun h0=>?_) ih;obtain⟨b,o,e,hb,hq⟩:=hr h0;refine⟨b,o,e,by omega,fun i hi j hj=>?_⟩;have h1:=hq i hi j hj;have h2:j<(cs i).length:=by rw[(ha i hi).len];exact hj
  rw[List.getElem?_eq_getElem h2]at h1 ⊢;exact hc _ _ _ h1
theorem fG.cells {w w':World} {zs:List (Int×List Value)} {bs:List (Int×Tm)} (h:fG w zs bs) (hs:w.heap.size<=w'.heap.size) (hc:∀ b o u,w.cell? ⟨b,o,none⟩=some u->w'.cell? ⟨b,o,none⟩=some u):fG w' zs bs:=by
 induction h with
 |nil=>exact .nil
 |cons hv h _ ih=>exact .cons hv (h.cells hs hc) ih
theorem dG.cells {w w' W:World} {b:Nat} {bs:List (Int×Tm)} (h:dG w W b bs) (hs:w.heap.size<=w'.heap.size) (hc:∀ b o u,w.cell? ⟨b,o,none⟩=some u->w'.cell? ⟨b,o,none⟩=some u):dG w' W b bs:=by
 obtain⟨zs,h1,h2⟩:=h;exact⟨zs,h1,h2.cells hs hc⟩
theorem oI {w w':World} (h:Below w.heap.size w w'):∀ b o u,w.cell? ⟨b,o,none⟩=some u->w'.cell? ⟨b,o,none⟩=some u:=fun b o u hu=>by
 have hb:b<w.heap.size:=by
  rcases Nat.lt_or_ge b w.heap.size with h|h
  ·exact h
  ·simp[World.cell?,Array.getElem?_eq_none h]at hu
 exact (h.cell (p:=⟨b,o,none⟩) hb).trans hu
theorem tp {w w':World} {m:Nat} {bs:List (Int×Tm)} {w0:World} (hm:dG w0 w m bs) (hg:w.grownBy w' (some m)):∀ b o u,w.cell? ⟨b,o,none⟩=some u->w'.cell? ⟨b,o,none⟩=some u:=fun b o u hu=>by
 have hb:b<w.heap.size:=by
  rcases Nat.lt_or_ge b w.heap.size with h|h
  ·exact h
  ·simp[World.cell?,Array.getElem?_eq_none h]at hu
 have hne:b≠m:=fun e=>by
  obtain⟨zs,⟨es,c,h1,_⟩,_⟩:=hm;subst e;simp[World.cell?,h1]at hu
 exact (World.cell?_of_block (a:=⟨b,o,none⟩) (hg.block b hb fun e=>hne (Option.some.inj e))).trans hu
theorem jN {W w1:World} (n:Int) (hn:an n) (hb:Below W.heap.size W w1) (hk:af w1 W.heap.size 27 #[.int .i64 0,.int .i64 0,.string ⟨#[]⟩,.bool false,.slice none 0 0,.slice none 0 0,.slice none 0 0]):
 TC (((((((w1.setCell ⟨W.heap.size,0,none⟩ (.int .i64 1)).setCell ⟨W.heap.size,1,none⟩ (.int .i64 n)).setCell ⟨W.heap.size,2,none⟩ (.string ⟨#[]⟩)).setCell ⟨W.heap.size,3,none⟩ (.bool false)).setCell ⟨W.heap.size,4,none⟩ (.slice none 0 0)).setCell ⟨W.heap.size,5,none⟩ (.slice none 0 0)).setCell ⟨W.heap.size,6,none⟩ (.slice none 0 0)) (.var n) [.int .i64 1,.int .i64 (n),.string ⟨#[]⟩,.bool false,.slice none 0 0,.slice none 0 0,.slice none 0 0]/\Below W.heap.size W (((((((w1.setCell ⟨W.heap.size,0,none⟩ (.int .i64 1)).setCell ⟨W.heap.size,1,none⟩ (.int .i64 n)).setCell ⟨W.heap.size,2,none⟩ (.string ⟨#[]⟩)).setCell ⟨W.heap.size,3,none⟩ (.bool false)).setCell ⟨W.heap.size,4,none⟩ (.slice none 0 0)).setCell ⟨W.heap.size,5,none⟩ (.slice none 0 0)).setCell ⟨W.heap.size,6,none⟩ (.slice none 0 0)):=
 ⟨TC.var _ hn _,(((((((hb.setCell (Nat.le_refl _) _).setCell (Nat.le_refl _) _).setCell (Nat.le_refl _) _).setCell (Nat.le_refl _) _).setCell (Nat.le_refl _) _).setCell (Nat.le_refl _) _).setCell (Nat.le_refl _) _)⟩
theorem rb {w:World} (bc mn nn:Nat) (vs:List Int) (hvs:vs.length<=1000000) {g:Value->Option Value} (hc:w.cell? ⟨bc,0,none⟩=some (.map (some mn))) (hlt:bc<w.heap.size) (hM:bS jO w mn nn g) (hg:∀ v:Int,g (.int .i64 v)=if v∈vs then some (.int .i64 (vs.idxOf v:Int)) else none) (v:Int) (W:World) (hW:Below w.heap.size w W):
 Calls Tryz.prog 34 #[.int .i64 v,.pointer (some ⟨bc,0,none⟩)] W fun e W'=>∃ cx tx,e=.returned (.tuple #[.agg cx.toArray,.bool true])/\TC W' tx cx/\tx=.var (ef vs v)/\Below W.heap.size W W':=by
 have HV:Hid (∀ W (n:Int),Calls Tryz.prog 35 #[.int .i64 n] W fun e w'=>e=.returned (.agg #[.int .i64 1,.int .i64 (n),.string ⟨#[]⟩,.bool false,.slice none 0 0,.slice none 0 0,.slice none 0 0])/\Below W.heap.size W w'):=fun W n=>bX n W;have hi:an (ef vs v):=by
  unfold ef
  split
  ·next h=>have:=List.idxOf_lt_length_of_mem h;exact⟨by omega,by omega⟩
  ·exact⟨by decide,by decide⟩
 have HI:=zH hi;have HB0:Hid (Below W.heap.size W (W.alloc (.cells #[.int .i64 0,.int .i64 0,.string ⟨#[]⟩,.bool false,.slice none 0 0,.slice none 0 0,.slice none 0 0] 27))):=I W _;have HK0:Hid (af (W.alloc (.cells #[.int .i64 0,.int .i64 0,.string ⟨#[]⟩,.bool false,.slice none 0 0,.slice none 0 0,.slice none 0 0] 27)) W.heap.size 27 #[.int .i64 0,.int .i64 0,.string ⟨#[]⟩,.bool false,.slice none 0 0,.slice none 0 0,.slice none 0 0]):=af.new W _ _;have hw0:=hW.trans (HB0.out.mono hW.size);have y0:=(hw0.cell (p:=⟨bc,0,none⟩) hlt).trans hc;have l0:=(cM (eP (W.alloc (.cells #[.int .i64 0,.int .i64 0,.string ⟨#[]⟩,.bool false,.slice none 0 0,.slice none 0 0,.slice none 0 0] 27))) (mt:=67) (by kernel_rfl) (z:=.int .i64 0) (Tryz.zeroValue3 _) (k:=.int .i64 v) ⟨_,rfl⟩ (hM.same (fun o ho=>(hw0.block mn (aw ho)).trans ho) fun _ h=>h)).2;rw[hg v,show ((if v∈vs then some (Value.int .i64 (vs.idxOf v:Int)) else none).getD (.int .i64 0))=.int .i64 (ef vs v) by unfold ef;split<;>rfl]at l0;generalize ef vs v=n at*;clear hW hc hlt hM hg hvs hw0 hi;go_enter Tryz.func34,Tryz.ntmps34;go_wp2_with fail;refine (HV.out _ _).mono ?_;rintro e w1 ⟨rfl,hb1⟩;have HB1:Hid (Below W.heap.size W w1):=HB0.out.trans (hb1.mono HB0.out.size);have HK1:=zH (HK0.out.to hb1);clear hb1 HB0 HK0 HV y0 l0;obtain⟨r0,r1,r2,r3,r4,r5,r6⟩:=(⟨HK1.out.cell 0,HK1.out.cell 1,HK1.out.cell 2,HK1.out.cell 3,HK1.out.cell 4,HK1.out.cell 5,HK1.out.cell 6⟩:_/\_/\_/\_/\_/\_/\_);simp only[L3]at r0 r1 r2 r3 r4 r5 r6;obtain⟨z0,z1,z2,z3,z4,z5,z6⟩:=(⟨HK1.out.frozen 0,HK1.out.frozen 1,HK1.out.frozen 2,HK1.out.frozen 3,HK1.out.frozen 4,HK1.out.frozen 5,HK1.out.frozen 6⟩:_/\_/\_/\_/\_/\_/\_);go_wp2_with fail;refine bodyPost_ret (v:=.tuple #[.agg #[.int .i64 1,.int .i64 (n),.string ⟨#[]⟩,.bool false,.slice none 0 0,.slice none 0 0,.slice none 0 0],.bool true]) (by rw[results_cell_tmp rfl];go_simp) rfl ?_;exact⟨[.int .i64 1,.int .i64 (n),.string ⟨#[]⟩,.bool false,.slice none 0 0,.slice none 0 0,.slice none 0 0],.var n,rfl,(jN n HI.out HB1.out HK1.out).1,rfl,(jN n HI.out HB1.out HK1.out).2⟩
theorem rf {w:World} (bc:Nat) {B:Nat} {sv:Value} (vs:List Int) (hok:∀ v∈vs,an v) (hc:w.cell? ⟨bc,0,none⟩=some sv) (hlt:bc<w.heap.size) (hR:ed w B sv vs) (v:Int) (hv:0<=v/\v<(vs.length:Int)) (W:World) (hW:Below w.heap.size w W):
 Calls Tryz.prog 40 #[.int .i64 v,.pointer (some ⟨bc,0,none⟩)] W fun e W'=>∃ cx tx,e=.returned (.tuple #[.agg cx.toArray,.bool true])/\TC W' tx cx/\tx=.var (lj vs v)/\Below W.heap.size W W':=by
 obtain⟨j,rfl⟩:=Int.eq_ofNat_of_zero_le hv.1;have hj:j<vs.length:=by omega
 have HV:Hid (∀ W (n:Int),Calls Tryz.prog 35 #[.int .i64 n] W fun e w'=>e=.returned (.agg #[.int .i64 1,.int .i64 (n),.string ⟨#[]⟩,.bool false,.slice none 0 0,.slice none 0 0,.slice none 0 0])/\Below W.heap.size W w'):=fun W n=>bX n W;rw[iC hj];have HI:=zH (hok _ (List.getElem_mem hj));have HB0:Hid (Below W.heap.size W (W.alloc (.cells #[.int .i64 0,.int .i64 0,.string ⟨#[]⟩,.bool false,.slice none 0 0,.slice none 0 0,.slice none 0 0] 27))):=I W _;have HK0:Hid (af (W.alloc (.cells #[.int .i64 0,.int .i64 0,.string ⟨#[]⟩,.bool false,.slice none 0 0,.slice none 0 0,.slice none 0 0] 27)) W.heap.size 27 #[.int .i64 0,.int .i64 0,.string ⟨#[]⟩,.bool false,.slice none 0 0,.slice none 0 0,.slice none 0 0]):=af.new W _ _;have hw0:=hW.trans (HB0.out.mono hW.size);have y0:=(hw0.cell (p:=⟨bc,0,none⟩) hlt).trans hc;have hR2:=hR.below hw0;obtain⟨G,cap,rfl⟩:=Joins.ownsRow_form hR2 (by omega);have l0:=hR2.cellAt j (by simpa using hj);have l1:(vs.map (Value.int .i64))[j]?=some (.int .i64 vs[j]):=by simp[hj]
 rw[l1]at l0;have hi1:(0:Int)<=(j:Int):=hv.1;have hi2:(j:Int)<(vs.length:Int):=hv.2;generalize vs[j]=n at*;generalize vs.length=ln at*;clear hW hc hlt hR hR2 hw0 hv l1 hok hj;go_enter Tryz.func40,Tryz.ntmps40;go_wp2_with fail;refine (HV.out _ _).mono ?_;rintro e w1 ⟨rfl,hb1⟩;have HB1:Hid (Below W.heap.size W w1):=HB0.out.trans (hb1.mono HB0.out.size);have HK1:=zH (HK0.out.to hb1);clear hb1 HB0 HK0 HV y0 l0;obtain⟨r0,r1,r2,r3,r4,r5,r6⟩:=(⟨HK1.out.cell 0,HK1.out.cell 1,HK1.out.cell 2,HK1.out.cell 3,HK1.out.cell 4,HK1.out.cell 5,HK1.out.cell 6⟩:_/\_/\_/\_/\_/\_/\_);simp only[L3]at r0 r1 r2 r3 r4 r5 r6;obtain⟨z0,z1,z2,z3,z4,z5,z6⟩:=(⟨HK1.out.frozen 0,HK1.out.frozen 1,HK1.out.frozen 2,HK1.out.frozen 3,HK1.out.frozen 4,HK1.out.frozen 5,HK1.out.frozen 6⟩:_/\_/\_/\_/\_/\_/\_);go_wp2_with fail;refine bodyPost_ret (v:=.tuple #[.agg #[.int .i64 1,.int .i64 (n),.string ⟨#[]⟩,.bool false,.slice none 0 0,.slice none 0 0,.slice none 0 0],.bool true]) (by rw[results_cell_tmp rfl];go_simp) rfl ?_;exact⟨[.int .i64 1,.int .i64 (n),.string ⟨#[]⟩,.bool false,.slice none 0 0,.slice none 0 0,.slice none 0 0],.var n,rfl,(jN n HI.out HB1.out HK1.out).1,rfl,(jN n HI.out HB1.out HK1.out).2⟩
theorem kh {nm B h G c m:Nat} {tr:Value} {xs ys:List Value} {w:World} (hS:dC nm w B h G c tr xs m ys) {i:Nat} (hi:i<nm) {q:Bool} (hx:xs[i*9]?=some (.bool q)):
 Calls Tryz.prog 37 #[.pointer (some ⟨h,0,none⟩),.int .i64 (i:Int)] w fun e w'=>e=.returned (.bool q)/\w'=w:=by
 have b0:=hS.blk.cell 0;have g0:=hS.cell hx;simp only[List.getElem?_toArray,List.getElem?_cons_zero]at b0;have hi1:(0:Int)<=(i:Int):=by omega
 have hi2:(i:Int)<(nm:Int):=by omega
 clear hS hx;go_enter Tryz.func37,Tryz.ntmps37;go_wp2_with fail;go_ret;exact⟨rfl,rfl⟩
def wM (n:Nat):List Value:=(List.replicate n zc).flatten
theorem qB (n:Nat):wM (n+1)=wM n++zc:=by
 unfold wM;rw[List.replicate_succ',List.flatten_append];simp
theorem nU (n:Nat):(wM n).length=n*9:=by
 unfold wM;simp[zc]
theorem yF {n v q:Nat} (hv:v<n) (hq:q<9):(wM n)[v*9+q]?=zc[q]?:=by
 induction n with
 |zero=>omega
 |succ n ih=>
  rw[qB];by_cases h:v<n
  ·rw[List.getElem?_append_left (by rw[nU];omega)];exact ih h
  ·obtain rfl:v=n:=by omega
   rw[List.getElem?_append_right (by rw[nU];omega),nU,show v*9+q-v*9=q by omega]
structure NV (w0:World) (h mn bn:Nat) (vs:List Int) (A:Option Addr) (c:Nat) (j:Nat) (W:World):Prop where
 hp:dE W w0.heap.size h A j c (.slice none 0 0) (wM j)
 z:j=0->A=none/\c=0
 mp:∃ g,bS jO W mn j g/\∀ v:Int,g (.int .i64 v)=if v∈vs.take j then some (.int .i64 (vs.idxOf v:Int)) else none
 bx:af W bn 67 #[.map (some mn)]
 be:Below w0.heap.size w0 W
 le:w0.heap.size<=mn
theorem NV.hsn {w0 W:World} {h mn bn:Nat} {vs:List Int} {A:Option Addr} {c j:Nat} (g:NV w0 h mn bn vs A c j W):∃ G c',dC j W w0.heap.size h G c' (.slice none 0 0) (wM j) 0 []:=by
 obtain⟨h1,h2,h3⟩:=g.hp;by_cases hj:j=0
 ·obtain⟨rfl,rfl⟩:=g.z hj;subst hj;exact⟨0,0,h1,h2,h3,World.ownsRow_nil _ _ _ _⟩
 ·obtain⟨G,cap,e⟩:=Joins.ownsRow_form h3 (by omega);simp only[Value.slice.injEq,true_and]at e;obtain⟨rfl,rfl⟩:=e;exact⟨G,_,.of h1 h2 h3 (World.ownsRow_nil _ _ _ _)⟩
theorem NV.drew {w0 W:World} {h mn bn:Nat} {vs:List Int} {A:Option Addr} {c j:Nat} (g:NV w0 h mn bn vs A c j W):NV w0 h mn bn vs A c j W.drew:=⟨g.hp,g.z,g.mp,g.bx,g.be.drew,g.le⟩
theorem rj {w0 y:World} {h mn bn:Nat} {vs:List Int} {A:Option Addr} {c j:Nat} (hs:vs.Pairwise (· < ·)) (hj:j<vs.length) (hl:vs.length<=1000000) (hne:bn≠h) (g:NV w0 h mn bn vs A c j y):
 Calls Tryz.prog 33 #[.pointer (some ⟨h,0,none⟩)] y fun e y'=>∃ z,e=.returned (.int .i64 (j:Int))/\(Instr.mapUpdate 67 (.map (some mn)) (.int .i64 (vs[j])) (.int .i64 (j:Int))).run Tryz.prog y'=.ok () z/\Hid (∃ A' c',NV w0 h mn bn vs A' c' (j+1) z)/\(y'.cell? ⟨bn,0,none⟩=some (.map (some mn)))/\(z.cell? ⟨bn,0,none⟩=some (.map (some mn))):=by
 refine (kw w0.heap.size h A j c _ _ y (by omega) g.hp).mono ?_;rintro e y' ⟨A',c',rfl,hp,hk⟩;obtain⟨f,hf,hg⟩:=g.mp;obtain⟨es,cl,hm,_⟩:=hf.is;have hmn:∀ k,(k=h\/∃ a,A=some a/\k=a.block)->∃ cs T q,y.heap[k]?=some (Obj.cells cs T q):=fun k hk=>by
  rcases hk with rfl|⟨a,ha,rfl⟩
  ·exact⟨_,_,_,g.hp.1⟩
  ·subst ha;obtain⟨cs,q,hc⟩:=Lib.ownsRow_kind g.hp.2.2 a.block rfl;exact⟨cs,_,q,hc⟩
 have hnm:¬(mn=h\/∃ a,A=some a/\mn=a.block):=fun hk=>by
  obtain⟨cs,T,q,hc⟩:=hmn _ hk;rw[hm]at hc;cases hc
 have hnb:¬(bn=h\/∃ a,A=some a/\bn=a.block):=fun hk=>by
  rcases hk with e|⟨a,ha,e⟩
  ·exact hne e
  ·subst ha;obtain⟨cs,q,hc⟩:=Lib.ownsRow_kind g.hp.2.2 a.block rfl;have hb:y.heap[bn]?=_:=g.bx;rw[e,hc]at hb;simp at hb
 have hf':bS jO y' mn j f:=hf.same (fun o ho=>(hk.block mn (aw ho) hnm).trans ho) fun _ h=>h;have hb':=hk.blk g.bx hnb;obtain⟨z,q1,q2,q3⟩:=dt (et:=3) (eP y') (mt:=67) (by kernel_rfl) (k:=.int .i64 vs[j]) ⟨_,rfl⟩ (.int .i64 (j:Int)) hf';obtain⟨es',cl',hm',_⟩:=hf'.is;have hbz:=q3.blk hb' (fun e=>by
  have hb:y'.heap[bn]?=_:=hb';rw[e,hm']at hb;cases hb)
 have hpz:dE z w0.heap.size h A' (j+1) c' (.slice none 0 0) (wM (j+1)):=by
  rw[qB];refine hp.kept q3 (fun e=>?_) (fun a ha e=>?_)
  ·have hb:y'.heap[h]?=_:=hp.1;rw[e,hm']at hb;cases hb
  ·subst ha;obtain⟨cs,q,hc⟩:=Lib.ownsRow_kind hp.2.2 a.block rfl;rw[e,hm']at hc;cases hc
 have hnone:f (.int .i64 vs[j])=none:=by
  rw[hg,if_neg];intro hm;obtain⟨i,hi,e⟩:=List.mem_iff_getElem.1 hm;rw[List.getElem_take]at e;have hij:i<j:=by rw[List.length_take]at hi;omega
  have:=List.pairwise_iff_getElem.1 hs i j (by omega) hj hij;omega
 rw[hnone]at q2;refine⟨z,rfl,q1,⟨A',c',hpz,fun e=>by omega,⟨_,q2,fun v=>?_⟩,hbz,?_,g.le⟩,hb'.cell 0,hbz.cell 0⟩
 ·have hmem:v∈vs.take (j+1)↔v∈vs.take j\/v=vs[j]:=by rw[List.take_succ_eq_append_getElem hj,List.mem_append,List.mem_singleton]
  by_cases e:v=vs[j]
  ·rw[if_pos (hmem.2 (.inr e)),e,if_pos rfl,nf hs hj]
  ·rw[if_neg (fun q=>e (by cases q;rfl)),hg];by_cases hv:v∈vs.take j
   ·rw[if_pos hv,if_pos (hmem.2 (.inl hv))]
   ·rw[if_neg hv,if_neg fun h=>(hmem.1 h).elim hv e]
 ·refine g.be.trans ((hk.below g.be.size fun k hk=>?_).trans (q3.below (Nat.le_trans g.be.size hk.size) fun k hk=>by rw[hk];exact g.le));rcases hk with rfl|⟨a,ha,rfl⟩
  ·exact g.hp.2.1
  ·subst ha;exact (g.hp.2.2.lt _ rfl).1
end Go.Proofs.YtlhojoefhannnaaGreat
namespace Go.Proofs.YtlhojoefhannnaaGreat
open Go.RowKit NumB
theorem zF {D:Int->Prop} {v:Int} (h0:0<=v) (h1:v<=1073741824) (hD:D v):Vt D (.var v):=by
 have h:=eW h0 h1;have hc:TC (default:World) (.var v) (vt v):=TC.var _ ⟨by omega,by omega⟩ _;refine⟨h,hc.fine h,hc.sm h,?_⟩;unfold Tm.var;rw[Tm.allV,bm];exact⟨fun _=>hD,trivial⟩
def uL (x y:Tm) (nm:Nat):List Tm:=x.subs++y.subs++(List.range nm).map fun i:Nat=>Tm.var (i:Int)
theorem rI {nm:Nat} (hnm:nm<=20000) {x y:Tm} (hx:Vt (fun i=>0<=i/\i<(nm:Int)) x) (hy:Vt (fun i=>0<=i/\i<(nm:Int)) y) (cx:x.count<=10000) (cy:y.count<=10000):lm nm (uL x y nm)/\(∀ t∈uL x y nm,Vt (fun i=>0<=i/\i<(nm:Int)) t)/\(uL x y nm).length<=50000:=by
 obtain⟨⟨⟨_,h1⟩,h2⟩,h3,h4⟩:=zE (fun v h=>h) hx hy cx cy;have hl:(uL x y nm).length<=40000:=by
  unfold uL;rw[List.length_append,List.length_append,gd,gd,List.length_map,List.length_range];omega
 have hv:∀ t∈uL x y nm,Vt (fun i=>0<=i/\i<(nm:Int)) t:=fun t ht=>by
  rcases List.mem_append.1 ht with ht|ht
  ·exact h3 t ht
  ·obtain⟨i,hi,rfl⟩:=List.mem_map.1 ht;rw[List.mem_range]at hi;exact zF (by omega) (by omega) ⟨by omega,by omega⟩
 refine⟨⟨⟨by omega,fun t ht=>⟨(hv t ht).2.1,(hv t ht).2.2.1,fun a ha=>?_⟩⟩,fun t ht v e=>?_⟩,hv,by omega⟩
 ·rcases List.mem_append.1 ht with ht|ht
  ·exact List.mem_append.2 (.inl ((h1 t ht).2.2 a ha))
  ·obtain⟨i,hi,rfl⟩:=List.mem_map.1 ht;unfold Tm.var at ha;rw[Tm.args]at ha;cases ha
 ·have:=(hv t ht).2.2.2;subst e;unfold Tm.var at this;rw[Tm.allV]at this;exact this.1 rfl
theorem Ay {x y:Tm} {nm:Nat}:x∈uL x y nm:=List.mem_append.2 (.inl (List.mem_append.2 (.inl (iX x))))
theorem Az {x y:Tm} {nm:Nat}:y∈uL x y nm:=List.mem_append.2 (.inl (List.mem_append.2 (.inr (iX y))))
theorem Ah {x y:Tm} {nm i:Nat} (h:i<nm):Tm.var (i:Int)∈uL x y nm:=List.mem_append.2 (.inr (List.mem_map.2 ⟨i,List.mem_range.2 h,rfl⟩))
theorem wB {nl h B G c Bx By:Nat} {x y:Tm} {cx cy:List Value} {w5 w6:World} (hnl:nl<=20000) (hx:fF Bx w5 x cx) (hxw:Below w5.heap.size w5 w6) (hy:fF By w6 y cy) (hBy:w5.heap.size<=By) (vx:Vt (fun i=>0<=i/\i<(nl:Int)) x) (vy:Vt (fun i=>0<=i/\i<(nl:Int)) y) (ex:x.count<=10000) (ey:y.count<=10000) (hS:dC nl w6 B h G c (.slice none 0 0) (wM nl) 0 []) (hB:B<=w6.heap.size):
 Calls Tryz.prog 36 #[.pointer (some ⟨h,0,none⟩),.agg cx.toArray,.agg cy.toArray,.bool true] w6 fun e w'=>∃ ok:Bool,e=.returned (.tuple #[.slice none 0 0,.bool ok])/\(ok=true->∃ f,lq true nl B h G c f (uL x y nl) w6 (x,y) w')/\(ok=false->lp true B w6 (x,y) w'):=by
 obtain⟨fx,hx⟩:=hx;obtain⟨fy,hy⟩:=hy;have h1:mO (fun b=>if b<w5.heap.size then fx b else fy b) Bx w6 x cx:=hx.to hxw.size (fun b _ hlt=>hxw.block b hlt) fun b _ hlt=>if_pos hlt;have h2:mO (fun b=>if b<w5.heap.size then fx b else fy b) By w6 y cy:=hy.to (Nat.le_refl _) (fun b _ _=>rfl) fun b hb _=>if_neg (by omega);obtain⟨B1,q1,q2⟩:=h1.blocks;obtain⟨B2,q3,q4⟩:=h2.blocks;have k1:=q2 (tF (fun b=>if b<w5.heap.size then fx b else fy b) (B1++B2)) fun b hb=>by unfold tF;rw[if_pos (List.mem_append.2 (.inl hb))]
 have k2:=q4 (tF (fun b=>if b<w5.heap.size then fx b else fy b) (B1++B2)) fun b hb=>by unfold tF;rw[if_pos (List.mem_append.2 (.inr hb))]
 obtain⟨u1,u2,u3⟩:=rI hnl vx vy ex ey;refine (wC (och:=true) (c:=c) (Bl:=B1++B2) u1 (by omega) u3 (fun b x hb=>vh hb) (by rw[List.length_append];omega) hB (cw.of_tcn_pt k1 (by decide) (by decide)) (cw.of_tcn_pt k2 (by decide) (by decide)) Ay Az hS (fun v hv q hq=>yF hv hq)).mono ?_;rintro e w' (⟨rfl,h⟩|⟨rfl,h⟩)
 ·exact⟨true,rfl,fun _=>⟨_,h⟩,fun h=>(by cases h)⟩
 ·exact⟨false,rfl,fun h=>(by cases h),fun _=>h⟩
theorem lq.tells {nl h B G c:Nat} {x y:Tm} {f:Nat->Option Tm} {w6 w7:World} (hnl:nl<=20000) (vx:Vt (fun i=>0<=i/\i<(nl:Int)) x) (vy:Vt (fun i=>0<=i/\i<(nl:Int)) y) (ex:x.count<=10000) (ey:y.count<=10000) (hu:lq true nl B h G c f (uL x y nl) w6 (x,y) w7):
 ∃ (β:Int->Option Tm) (xs:List Value) (f':Int->Tm),yI β (x,y)/\jv β f'/\(∀ i t,β i=some t->(0<=i/\i<(nl:Int))/\∀ j,t.occ j->0<=j/\j<(nl:Int))/\(∀ i t,β i=some t->t.err0=0)/\rQ (uL x y nl) β/\dC nl w7 B h G c (.slice none 0 0) xs 0 []/\qC (PT dQ w6) f w7 nl xs β/\ar dQ w6 w7/\Below B w6 w7:=by
 obtain⟨β,Mt,xs,h1,h2,h3,h4,_,h5,h6⟩:=hu;obtain⟨u1,u2,u3⟩:=rI hnl vx vy ex ey;have hi:=h1.inv;obtain⟨f',hf⟩:=hi.acy.res;refine⟨β,xs,f',hi.sol,hf,fun i t hq=>⟨?_,fun j hj=>fH t (u2 t (h2 i t hq).1).2.2.2 j hj⟩,fun i t hq=>(u2 t (h2 i t hq).1).1,h2,h3,h4,h5,h6⟩;rcases Int.lt_or_le i 0 with hl|hl
 ·rw[h4.out i (.inl hl)]at hq;cases hq
 ·rcases Int.lt_or_le i nl with hr|hr
  ·exact⟨hl,hr⟩
  ·rw[h4.out i (.inr hr)]at hq;cases hq
theorem lp.tells {B:Nat} {x y:Tm} {w6 w7:World} (hu:lp true B w6 (x,y) w7):(∀ s,x.sb s≠y.sb s)/\ar dQ w6 w7/\Below B w6 w7:=by
 obtain⟨β,S,Mt,p,q,h1,h2,h3,h4⟩:=hu;exact⟨fun s=>h1.inv.cls h2 s,h3,h4⟩
theorem kL {vs:List Int} (hs:vs.Pairwise (· < ·)) (hl:vs.length<=20000) {a:Tm} (he:a.err0=0) (hv:∀ v,a.occ v->v∈vs) {w:World} {cx:List Value} (hc:TC w (a.sb fun v=>.var (ef vs v)) cx):Vt (fun i=>0<=i/\i<(vs.length:Int)) (a.sb fun v=>.var (ef vs v))/\(a.sb fun v=>.var (ef vs v)).count=a.count:=by
 have R:=vZ hs;have h1:(a.sb fun v=>.var (ef vs v)).err0=0:=by
  refine a.err0_repl he (fW a (fun v hq x e=>?_) (Tm.cn_of a he));cases e;have:=(R.fwd v (hv v hq)).1;exact eW this.1 (by omega)
 refine⟨⟨h1,hc.fine h1,hc.sm h1,fW _ (fun u hu=>?_) (Tm.cn_of _ h1)⟩,il he⟩;obtain⟨v,hv1,hv2⟩:=Tm.occ_sb a hu;rw[fi hv2];exact (R.fwd v (hv v hv1)).1
structure sX (w7:World) (mf:Nat) (vs:List Int) (F:Int->Tm) (j:Nat) (bs:List (Int×Tm)) (W:World):Prop where
 mp:dG W W mf bs
 be:Below w7.heap.size w7 W
 inc:dN bs
 vld:yQ bs
 len:bs.length<=j
 fn:∀ v,fnd bs v=if v∈vs.take j then bnd1 F v else none
 ct:∀ v∈vs.take j,(F v).count<=10000
theorem gi {vs:List Int} {j:Nat} (hj:j<vs.length) (v:Int):v∈vs.take (j+1)↔v∈vs.take j\/v=vs[j]:=by rw[List.take_succ_eq_append_getElem hj,List.mem_append,List.mem_singleton]
theorem wv {vs:List Int} (hs:vs.Pairwise (· < ·)) {j:Nat} (hj:j<vs.length):vs[j]∉vs.take j:=fun hm=>by
 obtain⟨i,hi,e⟩:=List.mem_iff_getElem.1 hm;rw[List.getElem_take]at e;have hij:i<j:=by rw[List.length_take]at hi;omega
 have:=List.pairwise_iff_getElem.1 hs i j (by omega) hj hij;omega
section
variable {w7 W W':World} {mf:Nat} {vs:List Int} {F:Int->Tm} {j:Nat} {bs:List (Int×Tm)}
theorem sX.start (w7:World) (vs:List Int) (F:Int->Tm):sX w7 w7.heap.size vs F 0 [] (w7.alloc (.map #[] 0)):=
 ⟨.made _ _,I w7 _,fun i j hi=>by simp at hi,fun v x h=>by simp[fnd]at h,Nat.le_refl _,fun v=>by rw[List.take_zero,if_neg (by simp)];rfl,fun v hv=>by simp at hv⟩
theorem sX.below (g:sX w7 mf vs F j bs W) (hb:Below W.heap.size W W'):sX w7 mf vs F j bs W':=⟨(g.mp.below hb).cells hb.size (oI hb),g.be.trans (hb.mono g.be.size),g.inc,g.vld,g.len,g.fn,g.ct⟩
theorem sX.skip (g:sX w7 mf vs F j bs W) (hj:j<vs.length) (hF:F vs[j]=.var vs[j]):sX w7 mf vs F (j+1) bs W:=by
 refine⟨g.mp,g.be,g.inc,g.vld,Nat.le_succ_of_le g.len,fun v=>?_,fun v hv=>?_⟩
 ·rw[g.fn];by_cases e:v=vs[j]
  ·subst e;have hb:bnd1 F vs[j]=none:=if_pos hF;rw[hb]
   split<;>split<;>rfl
  ·simp[gi hj,e]
 ·rcases (gi hj v).1 hv with h|h
  ·exact g.ct v h
  ·subst h;rw[hF];unfold Tm.var;rw[Tm.count,al];omega
theorem sX.put (g:sX w7 mf vs F j bs W) (hs:vs.Pairwise (· < ·)) (hj:j<vs.length) (hl:vs.length<=1000000) (hok:an vs[j]) (hF:F vs[j]≠.var vs[j]) (hc:(F vs[j]).count<=10000) (he:(F vs[j]).err0=0) (hm:w7.heap.size<=mf) {cx:List Value} (ht:TC W (F vs[j]) cx):
 ∃ z,(Instr.mapUpdate 72 (.map (some mf)) (.int .i64 vs[j]) (.agg cx.toArray)).run Tryz.prog W=.ok () z/\∃ bs',sX w7 mf vs F (j+1) bs' z:=by
 have hn:fnd bs vs[j]=none:=by rw[g.fn,if_neg (wv hs hj)]
 obtain⟨z,q1,q2,q3⟩:=g.mp.put hok hn (by have:=g.len;unfold maxLen;omega) ht;refine⟨z,q1,_,q2.cells q3.size (tp g.mp q3),g.be.grown q3 g.be.size (fun k hk=>by cases hk;exact hm),g.inc.ins hn _,g.vld.ins hn he,by rw[py];have:=g.len;omega,fun v=>?_,fun v hv=>?_⟩
 ·rw[sk hn,g.fn];by_cases e:v=vs[j]
  ·subst e;rw[if_pos rfl,if_pos ((gi hj _).2 (.inr rfl))];exact (if_neg hF).symm
  ·rw[if_neg e];simp[gi hj,e]
 ·rcases (gi hj v).1 hv with h|h
  ·exact g.ct v h
  ·subst h;exact hc
end
end Go.Proofs.YtlhojoefhannnaaGreat
