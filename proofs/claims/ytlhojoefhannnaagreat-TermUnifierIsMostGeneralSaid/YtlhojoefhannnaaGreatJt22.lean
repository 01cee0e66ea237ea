/- (*heap.unifier).again: was a pair of compounds met before? And 2 more texts. -/
import Derived.Test.YtlhojoefhannnaaGreatJt21
set_option linter.unusedVariables false
set_option linter.unusedSimpArgs false
set_option maxRecDepth 100000
set_option maxHeartbeats 51200000
namespace Go.Proofs.YtlhojoefhannnaaGreat
open Go.RowKit NumB
structure GT (och:Bool) (B h U:Nat) (st:Value) (p md m1 m2:Nat) (f:Nat->Option Tm) (L:List Tm) (X Y:Array Value) (w:World) (n:Nat) (g:Value->Option Value) (Ts:List Tm) (W:World):Prop where
 ns:au f L W p m1 m2 Ts
 u:af W U 106 #[.pointer (some ⟨h,0,none⟩),.bool och,.pointer (some ⟨p,0,none⟩),.map (some md),.slice none 0 0,st]
 x:af W w.heap.size 27 X
 y:af W (w.heap.size+1) 27 Y
 mm:bS kW W md n g
 n1:¬KN m1 m2 md
 fr:ar [some 106,none] w W
 be:Below B w W
theorem bS.keptK {KP:Value->Prop} {p:Nat->Prop} {w w':World} {b n:Nat} {f:Value->Option Value} (h:bS KP w b n f) (hk:ah p w w') (hb:¬p b):bS KP w' b n f:=h.same (fun o ho=>(hk.block b (aw ho) hb).trans ho) fun _ h=>h
theorem GT.below {och:Bool} {B h U:Nat} {st:Value} {p md m1 m2:Nat} {f:Nat->Option Tm} {L:List Tm} {X Y:Array Value} {w:World} {n:Nat} {gv:Value->Option Value} {Ts:List Tm} {W W':World} (g:GT och B h U st p md m1 m2 f L X Y w n gv Ts W) (hB:B<=W.heap.size) (hb:Below W.heap.size W W'):GT och B h U st p md m1 m2 f L X Y w n gv Ts W':=
 ⟨g.ns.below hb,g.u.to hb,g.x.to hb,g.y.to hb,g.mm.keptK (p:=fun _=>False) (.of_below hb) id,g.n1,g.fr.trans (ar.of_below hb),g.be.trans (hb.mono hB)⟩
theorem GT.name {och:Bool} {B h U:Nat} {st:Value} {p md m1 m2:Nat} {f:Nat->Option Tm} {L:List Tm} {X Y:Array Value} {w:World} {n:Nat} {gv:Value->Option Value} {Ts Us:List Tm} {W W':World} (g:GT och B h U st p md m1 m2 f L X Y w n gv Ts W) (hk:ah (KN m1 m2) W W') (hn:au f L W' p m1 m2 Us) (hm:B<=m1/\B<=m2) (hB:B<=W.heap.size):GT och B h U st p md m1 m2 f L X Y w n gv Us W':=
 have hf:ar [none] W W':=g.ns.frame hk (by decide)
 ⟨hn,g.u.frT hf (by decide),g.x.frT hf (by decide),g.y.frT hf (by decide),g.mm.keptK hk g.n1,g.n1,g.fr.trans (hf.mono (by decide)),g.be.trans (hk.below hB fun k e=>by rcases e with rfl|rfl<;>omega)⟩
theorem GT.key {och:Bool} {B h U:Nat} {st:Value} {p md m1 m2:Nat} {f:Nat->Option Tm} {L:List Tm} {X Y:Array Value} {w:World} {n K:Nat} {gv:Value->Option Value} {Ts:List Tm} {W:World} {c0 c1:Value} (g:GT och B h U st p md m1 m2 f L X Y w n gv Ts W/\B<=W.heap.size) (hk:af W K 134 #[c0,c1]) (hK:w.heap.size<=K) (hB:B<=w.heap.size) (v0 v1:Value):
 (GT och B h U st p md m1 m2 f L X Y w n gv Ts ((W.setCell ⟨K,0,none⟩ v0).setCell ⟨K,1,none⟩ v1)/\B<=((W.setCell ⟨K,0,none⟩ v0).setCell ⟨K,1,none⟩ v1).heap.size)/\af ((W.setCell ⟨K,0,none⟩ v0).setCell ⟨K,1,none⟩ v1) K 134 #[v0,v1]:=by
 have hk1:=hk.set_ 0 v0;have hk2:=hk1.set_ 1 v1;simp only[L1]at hk1 hk2;have hf:ar [some 134] W ((W.setCell ⟨K,0,none⟩ v0).setCell ⟨K,1,none⟩ v1):=((ar.refl _ _).setCell (p:=⟨K,0,none⟩) hk (by decide) _).setCell (p:=⟨K,1,none⟩) hk1 (by decide) _;obtain⟨g,hs⟩:=g;refine⟨⟨⟨g.ns.frT hf (by decide) (by decide) (by decide),g.u.frT hf (by decide),g.x.frT hf (by decide),g.y.frT hf (by decide),g.mm.same (fun o ho=>?_) (fun _ h=>h),g.n1,?_,(g.be.setCell (p:=⟨K,0,none⟩) (Nat.le_trans hB hK) _).setCell (p:=⟨K,1,none⟩) (Nat.le_trans hB hK) _⟩,by simpa using hs⟩,hk2⟩
 ·obtain⟨_,_,e,_⟩:=g.mm.is;rw[e]at ho;cases ho;exact hf _ _ e (dP.map (by decide))
 ·intro k o hk' ho;have h1:=g.fr k o hk' ho;have hne:k≠K:=by have:=aw hk';omega
  exact (Below.heap_setCell _ ⟨K,1,none⟩ v1 k hne).trans ((Below.heap_setCell _ ⟨K,0,none⟩ v0 k hne).trans h1)
theorem GT.cells {och:Bool} {B h U:Nat} {st:Value} {p md m1 m2:Nat} {f:Nat->Option Tm} {L:List Tm} {w:World} {n:Nat} {gv:Value->Option Value} {Ts:List Tm} {W:World} {xk xv:Int} {xs:ByteArray} {xn:Bool} {xA:Option Addr} {xa xc:Nat} {xB:Option Addr} {xd xe:Nat} {xX:Option Addr} {xl xq:Nat} {yk yv:Int} {ys:ByteArray} {yn:Bool} {yA:Option Addr} {ya yc:Nat} {yB:Option Addr} {yd ye:Nat} {yX:Option Addr} {yl yq:Nat} (g:GT och B h U st p md m1 m2 f L #[.int .i64 xk,.int .i64 xv,.string xs,.bool xn,.slice xA xa xc,.slice xB xd xe,.slice xX xl xq] #[.int .i64 yk,.int .i64 yv,.string ys,.bool yn,.slice yA ya yc,.slice yB yd ye,.slice yX yl yq] w n gv Ts W):W.cell? ⟨U,2,none⟩=some (.pointer (some ⟨p,0,none⟩))/\W.cell? ⟨w.heap.size,0,none⟩=some (.int .i64 xk)/\W.cell? ⟨w.heap.size,1,none⟩=some (.int .i64 xv)/\W.cell? ⟨w.heap.size,2,none⟩=some (.string xs)/\W.cell? ⟨w.heap.size,3,none⟩=some (.bool xn)/\W.cell? ⟨w.heap.size,4,none⟩=some (.slice xA xa xc)/\W.cell? ⟨w.heap.size,5,none⟩=some (.slice xB xd xe)/\W.cell? ⟨w.heap.size,6,none⟩=some (.slice xX xl xq)/\W.cell? ⟨w.heap.size+1,0,none⟩=some (.int .i64 yk)/\W.cell? ⟨w.heap.size+1,1,none⟩=some (.int .i64 yv)/\W.cell? ⟨w.heap.size+1,2,none⟩=some (.string ys)/\W.cell? ⟨w.heap.size+1,3,none⟩=some (.bool yn)/\W.cell? ⟨w.heap.size+1,4,none⟩=some (.slice yA ya yc)/\W.cell? ⟨w.heap.size+1,5,none⟩=some (.slice yB yd ye)/\W.cell? ⟨w.heap.size+1,6,none⟩=some (.slice yX yl yq):=
 ⟨g.u.cell 2,g.x.cell 0,g.x.cell 1,g.x.cell 2,g.x.cell 3,g.x.cell 4,g.x.cell 5,g.x.cell 6,g.y.cell 0,g.y.cell 1,g.y.cell 2,g.y.cell 3,g.y.cell 4,g.y.cell 5,g.y.cell 6⟩
def mL (g:Value->Option Value) (Ts:List Tm) (Mt:List (Tm×Tm)):Prop:=(∀ k x,g k=some x->x=.bool true)/\(∀ i j:Nat,(g (.agg #[.int .i64 (i:Int),.int .i64 (j:Int)])).isSome=true->∃ x y,Ts[i]?=some x/\Ts[j]?=some y/\(x,y)∈Mt)/\
 ∀ x y,(x,y)∈Mt->∃ i j:Nat,Ts[i]?=some x/\Ts[j]?=some y/\(g (.agg #[.int .i64 (i:Int),.int .i64 (j:Int)])).isSome=true
def dQ:List (Option TypeId):=[some 95,some 98,some 130,some 106,some 101,none]
abbrev k2 (i j:Nat):Value:=.agg #[.int .i64 (i:Int),.int .i64 (j:Int)]
theorem yW {i j a b:Nat} (h:k2 a b=k2 i j):a=i/\b=j:=by
 simp only[k2,Value.agg.injEq,Array.mk.injEq,List.cons.injEq,Value.int.injEq,true_and,and_true]at h;omega
theorem mL.put {g:Value->Option Value} {Ts Tz:List Tm} {Mt:List (Tm×Tm)} (hr:mL g Ts Mt) (hp:∀ (i:Nat) (t:Tm),Ts[i]?=some t->Tz[i]?=some t) {i j:Nat} {x y:Tm} (hi:Tz[i]?=some x) (hj:Tz[j]?=some y) {was:Bool} (hw:was=true↔(x,y)∈Mt):
 mL (jC g (k2 i j) (.bool true)) Tz (if was then Mt else (x,y)::Mt):=by
 have hin:(x,y)∈(if was then Mt else (x,y)::Mt):=by
  cases was with
  |true=>exact hw.1 rfl
  |false=>simp
 have hsub:∀ q,q∈Mt->q∈(if was then Mt else (x,y)::Mt):=fun q hq=>by cases was<;>simp[hq]
 refine⟨i1 hr.1,fun a b h=>?_,fun u v h=>?_⟩
 ·by_cases e:k2 a b=k2 i j
  ·obtain⟨rfl,rfl⟩:=yW e;exact⟨x,y,hi,hj,hin⟩
  ·have h2:(g (k2 a b)).isSome=true:=by rw[<-iB (g:=g) (v:=.bool true) e];exact h
   obtain⟨u,v,h3,h4,h5⟩:=hr.2.1 a b h2;exact⟨u,v,hp _ _ h3,hp _ _ h4,hsub _ h5⟩
 ·have key:(u,v)∈Mt\/(u,v)=(x,y):=by
   cases was with
   |true=>exact .inl h
   |false=>exact (List.mem_cons.1 h).symm
  rcases key with h1|h1
  ·obtain⟨a,b,h2,h3,h4⟩:=hr.2.2 u v h1;exact⟨a,b,hp _ _ h2,hp _ _ h3,iZ h4⟩
  ·cases h1;exact⟨i,j,hi,hj,by rw[eU];rfl⟩
theorem mL.was {g:Value->Option Value} {Ts Tz:List Tm} {Mt:List (Tm×Tm)} (hr:mL g Ts Mt) (hp:∀ (i:Nat) (t:Tm),Ts[i]?=some t->Tz[i]?=some t) (hd:Tz.Nodup) {i j:Nat} {x y:Tm} (hi:Tz[i]?=some x) (hj:Tz[j]?=some y):(g (k2 i j)).isSome=true↔(x,y)∈Mt:=by
 have one:∀ {a b:Nat} {t:Tm},Tz[a]?=some t->Tz[b]?=some t->a=b:=fun {a b t} ha hb=>by
  exact (List.getElem?_inj (List.getElem?_eq_some_iff.1 ha).1 hd).1 (ha.trans hb.symm)
 constructor
 ·intro h;obtain⟨u,v,h1,h2,h3⟩:=hr.2.1 i j h;have e1:=(hp _ _ h1).symm.trans hi;have e2:=(hp _ _ h2).symm.trans hj;cases e1;cases e2;exact h3
 ·intro h;obtain⟨a,b,h1,h2,h3⟩:=hr.2.2 x y h;rw[one (hp _ _ h1) hi,one (hp _ _ h2) hj]at h3;exact h3
noncomputable def pI (Mt:List (Tm×Tm)) (x y:Tm):Bool:=@decide ((x,y)∈Mt) (Classical.propDecidable _)
theorem iu {Mt:List (Tm×Tm)} {x y:Tm}:pI Mt x y=true↔(x,y)∈Mt:=by unfold pI;exact @decide_eq_true_iff _ (Classical.propDecidable _)
noncomputable def tY (Mt:List (Tm×Tm)) (x y:Tm):List (Tm×Tm):=if pI Mt x y then Mt else (x,y)::Mt
theorem sU {L:List Tm} (hL:L.length<=1000000) {i:Nat} (h:i<=L.length):an (i:Int):=⟨by omega,by omega⟩
theorem GT.look {och:Bool} {B h U:Nat} {st:Value} {p md m1 m2:Nat} {f:Nat->Option Tm} {L:List Tm} {X Y:Array Value} {w:World} {n:Nat} {gv:Value->Option Value} {Ts:List Tm} {Mt:List (Tm×Tm)} (hr:mL gv Ts Mt) {Us:List Tm} {W:World} (gg:GT och B h U st p md m1 m2 f L X Y w n gv (Ts++Us) W) (hL:L.length<=1000000) {i j:Nat} {x y:Tm} (hi:i<=L.length/\(Ts++Us)[i]?=some x) (hj:j<=L.length/\(Ts++Us)[j]?=some y):
 ∃ (es:Array MapEntry) (c:Nat),W.heap[md]?=some (.map es c)/\(∀ W':World,W'.heap[md]?=some (.map es c)->(Instr.lookup 104 (.map (some md)) (.agg #[.int .i64 (i:Int),.int .i64 (j:Int)]) false).run Tryz.prog W'=.ok (.bool (pI Mt x y)) W')/\mL (jC gv (k2 i j) (.bool true)) (Ts++Us) (tY Mt x y):=by
 obtain⟨es,c,h1,h2,h3,h4⟩:=gg.mm;have hp:∀ (i:Nat) (t:Tm),Ts[i]?=some t->(Ts++Us)[i]?=some t:=fun i t h=>by
  rw[List.getElem?_append_left (List.getElem?_eq_some_iff.1 h).1];exact h
 have hw:=hr.was hp gg.ns.namd.nodup hi.2 hj.2;have hwe:(gv (k2 i j)).isSome=pI Mt x y:=by
  rw[Bool.eq_iff_iff,hw,iu]
 refine⟨es,c,h1,fun W' hW'=>?_,hr.put hp hi.2 hj.2 iu⟩;rw[<-hwe];have hM:bS kW W' md n gv:=⟨es,c,hW',h2,h3,h4⟩;rw[(cM (et:=4) (pD W') (mt:=104) (by kernel_rfl) (Tryz.zeroValue4 W') (jJ (sU hL hi.1) (sU hL hj.1)) hM).2];have:(gv (k2 i j)).getD (.bool false)=.bool (gv (k2 i j)).isSome:=by
  cases hg:gv (k2 i j) with
  |none=>rfl
  |some v=>rw[hr.1 _ _ hg];rfl
 rw[show (gv (.agg #[.int .i64 (i:Int),.int .i64 (j:Int)])).getD (.bool false)=.bool (gv (k2 i j)).isSome from this]
theorem au.keptMd {f:Nat->Option Tm} {L:List Tm} {W z:World} {p m1 m2 md:Nat} {Ts:List Tm} (hn:au f L W p m1 m2 Ts) (hk:ah (fun k=>k=md) W z) (h1:¬KN m1 m2 md) {es:Array MapEntry} {c:Nat} (hm:W.heap[md]?=some (.map es c)):au f L z p m1 m2 Ts:=by
 obtain⟨a0,a1,⟨n,g,a2,a3⟩,⟨g2,a4,a5⟩,a6,a7⟩:=hn;have hc:∀ {k:Nat} {c:Array Value} {T:TypeId} {f:Nat×Nat},W.heap[k]?=some (Obj.cells c T f)->z.heap[k]?=some (Obj.cells c T f):=fun {k c T f} h=>(hk.block k (aw h) (fun e=>by
  subst e;rw[hm]at h;cases h)).trans h
 refine⟨a0,hc a1,⟨n,g,a2.same (fun o ho=>(hk.block _ (aw ho) fun e=>h1 (.inl e.symm)).trans ho) ?_,a3⟩,⟨g2,a4.same (fun o ho=>(hk.block _ (aw ho) fun e=>h1 (.inr e.symm)).trans ho) (fun v h=>h),a5⟩,a6,a7⟩;rintro v ⟨b,o,cs,e,hb⟩;exact⟨b,o,cs,e,hc hb⟩
theorem GT.toK {och:Bool} {B h U:Nat} {st:Value} {p md m1 m2:Nat} {f:Nat->Option Tm} {L:List Tm} {X Y:Array Value} {w:World} {n:Nat} {gv:Value->Option Value} {Tz:List Tm} {W W':World} {K:Nat} {cs:Array Value} {T:TypeId} (gg:(GT och B h U st p md m1 m2 f L X Y w n gv Tz W/\B<=W.heap.size)/\af W K T cs) (hb:Below W.heap.size W W'):(GT och B h U st p md m1 m2 f L X Y w n gv Tz W'/\B<=W'.heap.size)/\af W' K T cs:=⟨⟨gg.1.1.below gg.1.2 hb,Nat.le_trans gg.1.2 hb.size⟩,gg.2.to hb⟩
theorem GT.put {och:Bool} {B h U:Nat} {st:Value} {p md m1 m2:Nat} {f:Nat->Option Tm} {L:List Tm} {X Y:Array Value} {w:World} {n:Nat} {gv:Value->Option Value} {Tz:List Tm} {W:World} (gg:GT och B h U st p md m1 m2 f L X Y w n gv Tz W) (hB:B<=W.heap.size) (hm:B<=md) (hL:L.length<=1000000) {i j:Nat} (hi:i<=L.length) (hj:j<=L.length):
 ∃ z,(Instr.mapUpdate 104 (.map (some md)) (.agg #[.int .i64 (i:Int),.int .i64 (j:Int)]) (.bool true)).run Tryz.prog W=.ok () z/\wK och z U h (.pointer (some ⟨p,0,none⟩)) (.map (some md)) st/\au f L z p m1 m2 Tz/\(∃ n',bS kW z md n' (jC gv (k2 i j) (.bool true)))/\ar [some 106,none] w z/\Below B w z:=by
 obtain⟨es,c,hmd,hms⟩:=gg.mm.is;obtain⟨z,hr,hM,hk⟩:=dt (et:=4) (pD W) (mt:=104) (by kernel_rfl) (jJ (sU hL hi) (sU hL hj)) (.bool true) gg.mm;have hne:∀ {k:Nat} {c:Array Value} {T:TypeId} {f:Nat×Nat},W.heap[k]?=some (Obj.cells c T f)->¬k=md:=fun hc e=>by
  subst e;rw[hmd]at hc;cases hc
 have hf:ar [none] W z:=(ar.refl _ W).kept hk fun k e o ho hno=>by
  subst e;rw[hmd]at ho;exact hno.2 (by decide) _ _ (Option.some.inj ho).symm
 exact⟨z,hr,hk.blk gg.u (hne gg.u),gg.ns.keptMd hk gg.n1 hmd,⟨_,hM⟩,gg.fr.trans (hf.mono (by decide)),⟨hk.os.trans gg.be.os,hk.tape.trans gg.be.tape,hk.output.trans gg.be.output,Nat.le_trans gg.be.size hk.size,fun k h=>(hk.block k (by omega) (by omega)).trans (gg.be.block k h)⟩⟩
theorem uS {och:Bool} {B h U:Nat} {st:Value} {f:Nat->Option Tm} {L:List Tm} (hL:An L) {W0 w:World} (hst:bU (PT dQ W0) W0 w) {x y:Tm} {cx cy:List Value} (hx:cw (PT dQ W0) f w x cx) (hy:cw (PT dQ W0) f w y cy) (hxL:x∈L) (hyL:y∈L) {N M:Value} {Mt:List (Tm×Tm)} (hB:B<=U) (hU:wK och w U h N M st) (hN:mM B f L w N M Mt):
 Calls Tryz.prog 85 #[.pointer (some ⟨U,0,none⟩),.agg cx.toArray,.agg cy.toArray] w fun e w'=>∃ (N' M':Value),e=.returned (.bool (pI Mt x y))/\wK och w' U h N' M' st/\mM B f L w' N' M' (tY Mt x y)/\ar [some 106,none] w w'/\Below B w w':=by
 have hmm:=@run_makeMap Tryz.prog;obtain⟨xk,xv,xs,xn,xA,xa,xc,xB,xd,xe,xX,xl,xq,rfl⟩:=hx.form;obtain⟨yk,yv,ys,yn,yA,ya,yc,yB,yd,ye,yX,yl,yq,rfl⟩:=hy.form;have HX:=zH hx;have HY:=zH hy;have HXY:Hid (x∈L/\y∈L):=⟨hxL,hyL⟩;have HLL:=zH hL;have HST:=zH hst;have HB:=zH hB;have HNM:=zH hN;have HU0:Hid (af w U 106 #[.pointer (some ⟨h,0,none⟩),.bool och,N,M,.slice none 0 0,st]):=hU;have HBU:Hid (U<w.heap.size):=hU.lt;have HBA:=zH (am w (.cells #[.int .i64 xk,.int .i64 xv,.string xs,.bool xn,.slice xA xa xc,.slice xB xd xe,.slice xX xl xq] 27) (.cells #[.int .i64 yk,.int .i64 yv,.string ys,.bool yn,.slice yA ya yc,.slice yB yd ye,.slice yX yl yq] 27));have HT4:Hid (af ((w.alloc (.cells #[.int .i64 xk,.int .i64 xv,.string xs,.bool xn,.slice xA xa xc,.slice xB xd xe,.slice xX xl xq] 27)).alloc (.cells #[.int .i64 yk,.int .i64 yv,.string ys,.bool yn,.slice yA ya yc,.slice yB yd ye,.slice yX yl yq] 27)) w.heap.size 27 #[.int .i64 xk,.int .i64 xv,.string xs,.bool xn,.slice xA xa xc,.slice xB xd xe,.slice xX xl xq]):=(af.new w _ _).alloc _;have HT5:Hid (af ((w.alloc (.cells #[.int .i64 xk,.int .i64 xv,.string xs,.bool xn,.slice xA xa xc,.slice xB xd xe,.slice xX xl xq] 27)).alloc (.cells #[.int .i64 yk,.int .i64 yv,.string ys,.bool yn,.slice yA ya yc,.slice yB yd ye,.slice yX yl yq] 27)) (w.heap.size+1) 27 #[.int .i64 yk,.int .i64 yv,.string ys,.bool yn,.slice yA ya yc,.slice yB yd ye,.slice yX yl yq]):=by
  have:=af.new (w.alloc (.cells #[.int .i64 xk,.int .i64 xv,.string xs,.bool xn,.slice xA xa xc,.slice xB xd xe,.slice xX xl xq] 27)) 27 #[.int .i64 yk,.int .i64 yv,.string ys,.bool yn,.slice yA ya yc,.slice yB yd ye,.slice yX yl yq];rw[show (w.alloc (.cells #[.int .i64 xk,.int .i64 xv,.string xs,.bool xn,.slice xA xa xc,.slice xB xd xe,.slice xX xl xq] 27)).heap.size=w.heap.size+1 by simp]at this;exact this
 have HU1:=zH (HU0.out.to HBA.out);have u2:=HU1.out.cell 2;have u3:=HU1.out.cell 3;simp only[L3]at u2 u3;clear hx hy hxL hyL hL hst hB hN hU;go_enter Tryz.func85,Tryz.ntmps85;have hnb:∃ b0:Bool,(b0=true->N=.pointer none/\M=.map none/\Mt=[])/\(b0=false->∃ (p m1 m2 md:Nat) (Ts:List Tm) (n:Nat) (g:Value->Option Value),N=.pointer (some ⟨p,0,none⟩)/\M=.map (some md)/\(B<=m1/\B<=m2/\B<=md)/\¬KN m1 m2 md/\au f L w p m1 m2 Ts/\bS kW w md n g/\mL g Ts Mt):=by
  rcases HNM.out with h|h
  ·exact⟨true,fun _=>h,fun h=>by cases h⟩
  ·exact⟨false,fun h=>(by cases h),fun _=>h⟩
 obtain⟨b0,hnil,hnon⟩:=hnb;have HNI:=zH hnil;have HNO:=zH hnon;clear hnil hnon
 go_upto_region 1 with fail
 go_cut [13] (fun s13 wx=>s13=.bool b0/\((w.alloc (.cells #[.int .i64 xk,.int .i64 xv,.string xs,.bool xn,.slice xA xa xc,.slice xB xd xe,.slice xX xl xq] 27)).alloc (.cells #[.int .i64 yk,.int .i64 yv,.string ys,.bool yn,.slice yA ya yc,.slice yB yd ye,.slice yX yl yq] 27))=wx)
 case first=>
  cases b0 with
  |true=>
   obtain⟨rfl,rfl,rfl⟩:=HNI.out (by trivial);go_wp2_with fail
   go_meet
   case rel=>exact⟨rfl,rfl⟩
  |false=>
   obtain⟨p,m1,m2,md,Ts,n,g,rfl,rfl,hrest⟩:=HNO.out (by trivial);clear hrest;go_wp2_with fail
   go_meet
   case rel=>exact⟨rfl,rfl⟩
 case rest=>
 obtain⟨rfl,rfl⟩:=hcut
 go_upto_if 13 with fail
 go_cut [] (fun wx=>∃ (y2:World) (p md m1 m2:Nat) (Ts:List Tm) (n:Nat) (g:Value->Option Value),y2=wx/\Hid (GT och B h U st p md m1 m2 f L #[.int .i64 xk,.int .i64 xv,.string xs,.bool xn,.slice xA xa xc,.slice xB xd xe,.slice xX xl xq] #[.int .i64 yk,.int .i64 yv,.string ys,.bool yn,.slice yA ya yc,.slice yB yd ye,.slice yX yl yq] w n g Ts y2)/\Hid (B<=y2.heap.size/\B<=m1/\B<=m2/\B<=md)/\Hid (mL g Ts Mt))
 case first=>
  cases b0 with
  |true=>
   obtain⟨rfl,rfl,rfl⟩:=HNI.out (by trivial);go_wp2_with fail;refine (fC _).mono ?_;rintro e w1 ⟨rfl,hw1⟩;have HN1:Hid (au f L w1 (((w.alloc (.cells #[.int .i64 xk,.int .i64 xv,.string xs,.bool xn,.slice xA xa xc,.slice xB xd xe,.slice xX xl xq] 27)).alloc (.cells #[.int .i64 yk,.int .i64 yv,.string ys,.bool yn,.slice yA ya yc,.slice yB yd ye,.slice yX yl yq] 27)).heap.size+2) ((w.alloc (.cells #[.int .i64 xk,.int .i64 xv,.string xs,.bool xn,.slice xA xa xc,.slice xB xd xe,.slice xX xl xq] 27)).alloc (.cells #[.int .i64 yk,.int .i64 yv,.string ys,.bool yn,.slice yA ya yc,.slice yB yd ye,.slice yX yl yq] 27)).heap.size (((w.alloc (.cells #[.int .i64 xk,.int .i64 xv,.string xs,.bool xn,.slice xA xa xc,.slice xB xd xe,.slice xX xl xq] 27)).alloc (.cells #[.int .i64 yk,.int .i64 yv,.string ys,.bool yn,.slice yA ya yc,.slice yB yd ye,.slice yX yl yq] 27)).heap.size+1) []):=by rw[hw1];exact au.new f L _
   have hb:Below ((w.alloc (.cells #[.int .i64 xk,.int .i64 xv,.string xs,.bool xn,.slice xA xa xc,.slice xB xd xe,.slice xX xl xq] 27)).alloc (.cells #[.int .i64 yk,.int .i64 yv,.string ys,.bool yn,.slice yA ya yc,.slice yB yd ye,.slice yX yl yq] 27)).heap.size ((w.alloc (.cells #[.int .i64 xk,.int .i64 xv,.string xs,.bool xn,.slice xA xa xc,.slice xB xd xe,.slice xX xl xq] 27)).alloc (.cells #[.int .i64 yk,.int .i64 yv,.string ys,.bool yn,.slice yA ya yc,.slice yB yd ye,.slice yX yl yq] 27)) w1:=by rw[hw1];exact (am _ _ _).alloc (by simp) _
   clear hw1;have HU2:=zH (HU1.out.to hb);have HT4b:=zH (HT4.out.to hb);have HT5b:=zH (HT5.out.to hb);have HW1:=zH (HBA.out.trans (hb.mono HBA.out.size));have HSZ:Hid (((w.alloc (.cells #[.int .i64 xk,.int .i64 xv,.string xs,.bool xn,.slice xA xa xc,.slice xB xd xe,.slice xX xl xq] 27)).alloc (.cells #[.int .i64 yk,.int .i64 yv,.string ys,.bool yn,.slice yA ya yc,.slice yB yd ye,.slice yX yl yq] 27)).heap.size=w.heap.size+2/\w.heap.size+4<=w1.heap.size):=by
    have h1:((w.alloc (.cells #[.int .i64 xk,.int .i64 xv,.string xs,.bool xn,.slice xA xa xc,.slice xB xd xe,.slice xX xl xq] 27)).alloc (.cells #[.int .i64 yk,.int .i64 yv,.string ys,.bool yn,.slice yA ya yc,.slice yB yd ye,.slice yX yl yq] 27)).heap.size=w.heap.size+2:=by simp
    refine⟨h1,?_⟩;obtain⟨_,h2,_⟩:=HN1.out.form;obtain⟨_,_,h3,_⟩:=h2.is;have:=aw h3;omega
   generalize ((w.alloc (.cells #[.int .i64 xk,.int .i64 xv,.string xs,.bool xn,.slice xA xa xc,.slice xB xd xe,.slice xX xl xq] 27)).alloc (.cells #[.int .i64 yk,.int .i64 yv,.string ys,.bool yn,.slice yA ya yc,.slice yB yd ye,.slice yX yl yq] 27))=wA at*;clear hb u2 u3;have HBM:=zH (I w1 (.map #[] 0));have HU3:=zH (HU2.out.to HBM.out);have u2:=HU3.out.cell 2;have u3:=HU3.out.cell 3;simp only[L3]at u2 u3;have z2:=HU3.out.frozen 2;have z3:=HU3.out.frozen 3;go_wp2_with fail;have HU4:=(HU3.out.set_ 2 (.pointer (some ⟨wA.heap.size+2,0,none⟩))).set_ 3 (.map (some w1.heap.size));simp only[L1]at HU4;have HF4:ar [some 106] (w1.alloc (.map #[] 0)) (((w1.alloc (.map #[] 0)).setCell ⟨U,2,none⟩ (.pointer (some ⟨wA.heap.size+2,0,none⟩))).setCell ⟨U,3,none⟩ (.map (some w1.heap.size))):=((ar.refl _ _).setCell (p:=⟨U,2,none⟩) HU3.out (by decide) _).setCell (p:=⟨U,3,none⟩) (HU3.out.set_ 2 (.pointer (some ⟨wA.heap.size+2,0,none⟩))) (by decide) _;have HE4:Below B w (((w1.alloc (.map #[] 0)).setCell ⟨U,2,none⟩ (.pointer (some ⟨wA.heap.size+2,0,none⟩))).setCell ⟨U,3,none⟩ (.map (some w1.heap.size))):=(((HW1.out.trans (HBM.out.mono HW1.out.size)).mono (by have:=HB.out;have:=HBU.out;omega)).setCell (p:=⟨U,2,none⟩) HB.out _).setCell (p:=⟨U,3,none⟩) HB.out _;have HMD:(w1.alloc (.map #[] 0)).heap[w1.heap.size]?=some (.map #[] 0):=heap_alloc_new w1 _;have hs1:=HSZ.out;have hb1:=HB.out;have hb2:=HBU.out;have hs4:=HE4.size
   go_meet
   case rel=>exact⟨_,_,w1.heap.size,_,_,[],0,fun _=>none,rfl,⟨(HN1.out.below HBM.out).frT HF4 (by decide) (by decide) (by decide),HU4,(HT4b.out.to HBM.out).frT HF4 (by decide),(HT5b.out.to HBM.out).frT HF4 (by decide),.empty (c:=0) (HF4 _ _ HMD (dP.map (by decide))),(fun e=>by rcases e with e|e<;>omega),(ar.of_below (HW1.out.trans (HBM.out.mono HW1.out.size))).trans (HF4.mono (by decide)),HE4⟩,⟨by omega,by omega,by omega,by omega⟩,⟨fun k x h=>(by cases h),fun i j h=>(by cases h),fun x y h=>(by cases h)⟩⟩
  |false=>
   obtain⟨p,m1,m2,md,Ts,n,g,rfl,rfl,hbm,hkn,hns,hmv,hrel⟩:=HNO.out (by trivial);go_wp2_with fail
   go_meet
   case rel=>exact⟨_,p,md,m1,m2,Ts,n,g,rfl,⟨hns.below HBA.out,HU1.out,HT4.out,HT5.out,hmv.keptK (p:=fun _=>False) (.of_below HBA.out) id,hkn,ar.of_below HBA.out,HBA.out.mono (by have:=HB.out;have:=HBU.out;omega)⟩,⟨Nat.le_trans (by have:=HB.out;have:=HBU.out;omega) HBA.out.size,hbm⟩,hrel⟩
 case rest=>
  obtain⟨y2,p,md,m1,m2,Ts,n,g,rfl,HG2,HB2,HMR⟩:=hcut;have HPK:Hid (∀ (Tz:List Tm) (W:World),GT och B h U st p md m1 m2 f L #[.int .i64 xk,.int .i64 xv,.string xs,.bool xn,.slice xA xa xc,.slice xB xd xe,.slice xX xl xq] #[.int .i64 yk,.int .i64 yv,.string ys,.bool yn,.slice yA ya yc,.slice yB yd ye,.slice yX yl yq] w n g Tz W->bU (PT dQ W0) w W/\∀ k,PT dQ W0 k->¬KN m1 m2 k):=fun Tz W g=>by
   have hs:bU (PT dQ W0) W0 W:=PT.stay HST.out (g.fr.mono (by decide)) g.be.size;refine⟨HST.out.of_fr (g.fr.mono (by decide)) g.be.size,fun k hk e=>?_⟩;obtain⟨o,h1,h2⟩:=hk;have h3:=(hs.2 k ⟨o,h1,h2⟩ (aw h1)).trans h1;obtain⟨_,_,a2,_⟩:=g.ns.node;obtain⟨_,a3,_⟩:=g.ns.form;rcases e with rfl|rfl
   ·obtain⟨_,_,e,_⟩:=a2.is;rw[e]at h3;exact h2.2 (by decide) _ _ (Option.some.inj h3).symm
   ·obtain⟨_,_,e,_⟩:=a3.is;rw[e]at h3;exact h2.2 (by decide) _ _ (Option.some.inj h3).symm
  have HCX:Hid (∀ (Tz:List Tm) (W:World),B<=W.heap.size->GT och B h U st p md m1 m2 f L #[.int .i64 xk,.int .i64 xv,.string xs,.bool xn,.slice xA xa xc,.slice xB xd xe,.slice xX xl xq] #[.int .i64 yk,.int .i64 yv,.string ys,.bool yn,.slice yA ya yc,.slice yB yd ye,.slice yX yl yq] w n g Tz W->Calls Tryz.prog 116 #[.pointer (some ⟨p,0,none⟩),.agg #[.int .i64 xk,.int .i64 xv,.string xs,.bool xn,.slice xA xa xc,.slice xB xd xe,.slice xX xl xq]] W fun e w'=>∃ (i:Nat) (Us:List Tm),e=.returned (.int .i64 (i:Int))/\Hid (i<=L.length/\(Tz++Us)[i]?=some x)/\Hid (GT och B h U st p md m1 m2 f L #[.int .i64 xk,.int .i64 xv,.string xs,.bool xn,.slice xA xa xc,.slice xB xd xe,.slice xX xl xq] #[.int .i64 yk,.int .i64 yv,.string ys,.bool yn,.slice yA ya yc,.slice yB yd ye,.slice yX yl yq] w n g (Tz++Us) w'/\B<=w'.heap.size)/\Hid (ar [none] W w')/\(w'.cell? ⟨U,2,none⟩=some (.pointer (some ⟨p,0,none⟩))/\w'.cell? ⟨w.heap.size,0,none⟩=some (.int .i64 xk)/\w'.cell? ⟨w.heap.size,1,none⟩=some (.int .i64 xv)/\w'.cell? ⟨w.heap.size,2,none⟩=some (.string xs)/\w'.cell? ⟨w.heap.size,3,none⟩=some (.bool xn)/\w'.cell? ⟨w.heap.size,4,none⟩=some (.slice xA xa xc)/\w'.cell? ⟨w.heap.size,5,none⟩=some (.slice xB xd xe)/\w'.cell? ⟨w.heap.size,6,none⟩=some (.slice xX xl xq)/\w'.cell? ⟨w.heap.size+1,0,none⟩=some (.int .i64 yk)/\w'.cell? ⟨w.heap.size+1,1,none⟩=some (.int .i64 yv)/\w'.cell? ⟨w.heap.size+1,2,none⟩=some (.string ys)/\w'.cell? ⟨w.heap.size+1,3,none⟩=some (.bool yn)/\w'.cell? ⟨w.heap.size+1,4,none⟩=some (.slice yA ya yc)/\w'.cell? ⟨w.heap.size+1,5,none⟩=some (.slice yB yd ye)/\w'.cell? ⟨w.heap.size+1,6,none⟩=some (.slice yX yl yq))):=fun Tz W hBW gg=>by
   obtain⟨h1,h2⟩:=HPK.out Tz W gg;refine (sA h2 HLL.out HX.out HXY.out.1 W Tz h1 gg.ns).mono ?_;rintro e w' ⟨i,Us,rfl,hi,hns,hg,hk⟩;have hg':=gg.name hk hns ⟨HB2.out.2.1,HB2.out.2.2.1⟩ hBW;exact⟨i,Us,rfl,⟨hi,hg⟩,⟨hg',Nat.le_trans hBW hk.size⟩,gg.ns.frame hk (by decide),hg'.cells⟩
  have HCY:Hid (∀ (Tz:List Tm) (W:World),B<=W.heap.size->GT och B h U st p md m1 m2 f L #[.int .i64 xk,.int .i64 xv,.string xs,.bool xn,.slice xA xa xc,.slice xB xd xe,.slice xX xl xq] #[.int .i64 yk,.int .i64 yv,.string ys,.bool yn,.slice yA ya yc,.slice yB yd ye,.slice yX yl yq] w n g Tz W->Calls Tryz.prog 116 #[.pointer (some ⟨p,0,none⟩),.agg #[.int .i64 yk,.int .i64 yv,.string ys,.bool yn,.slice yA ya yc,.slice yB yd ye,.slice yX yl yq]] W fun e w'=>∃ (i:Nat) (Us:List Tm),e=.returned (.int .i64 (i:Int))/\Hid (i<=L.length/\(Tz++Us)[i]?=some y)/\Hid (GT och B h U st p md m1 m2 f L #[.int .i64 xk,.int .i64 xv,.string xs,.bool xn,.slice xA xa xc,.slice xB xd xe,.slice xX xl xq] #[.int .i64 yk,.int .i64 yv,.string ys,.bool yn,.slice yA ya yc,.slice yB yd ye,.slice yX yl yq] w n g (Tz++Us) w'/\B<=w'.heap.size)/\Hid (ar [none] W w')/\(w'.cell? ⟨U,2,none⟩=some (.pointer (some ⟨p,0,none⟩))/\w'.cell? ⟨w.heap.size,0,none⟩=some (.int .i64 xk)/\w'.cell? ⟨w.heap.size,1,none⟩=some (.int .i64 xv)/\w'.cell? ⟨w.heap.size,2,none⟩=some (.string xs)/\w'.cell? ⟨w.heap.size,3,none⟩=some (.bool xn)/\w'.cell? ⟨w.heap.size,4,none⟩=some (.slice xA xa xc)/\w'.cell? ⟨w.heap.size,5,none⟩=some (.slice xB xd xe)/\w'.cell? ⟨w.heap.size,6,none⟩=some (.slice xX xl xq)/\w'.cell? ⟨w.heap.size+1,0,none⟩=some (.int .i64 yk)/\w'.cell? ⟨w.heap.size+1,1,none⟩=some (.int .i64 yv)/\w'.cell? ⟨w.heap.size+1,2,none⟩=some (.string ys)/\w'.cell? ⟨w.heap.size+1,3,none⟩=some (.bool yn)/\w'.cell? ⟨w.heap.size+1,4,none⟩=some (.slice yA ya yc)/\w'.cell? ⟨w.heap.size+1,5,none⟩=some (.slice yB yd ye)/\w'.cell? ⟨w.heap.size+1,6,none⟩=some (.slice yX yl yq))):=fun Tz W hBW gg=>by
   obtain⟨h1,h2⟩:=HPK.out Tz W gg;refine (sA h2 HLL.out HY.out HXY.out.2 W Tz h1 gg.ns).mono ?_;rintro e w' ⟨i,Us,rfl,hi,hns,hg,hk⟩;have hg':=gg.name hk hns ⟨HB2.out.2.1,HB2.out.2.2.1⟩ hBW;exact⟨i,Us,rfl,⟨hi,hg⟩,⟨hg',Nat.le_trans hBW hk.size⟩,gg.ns.frame hk (by decide),hg'.cells⟩
  have HGD:Hid (GT och B h U st p md m1 m2 f L #[.int .i64 xk,.int .i64 xv,.string xs,.bool xn,.slice xA xa xc,.slice xB xd xe,.slice xX xl xq] #[.int .i64 yk,.int .i64 yv,.string ys,.bool yn,.slice yA ya yc,.slice yB yd ye,.slice yX yl yq] w n g Ts y2.drew/\B<=y2.drew.heap.size):=⟨HG2.out.below HB2.out.1 (Below.refl _ _).drew,HB2.out.1⟩;have HGE:Hid (GT och B h U st p md m1 m2 f L #[.int .i64 xk,.int .i64 xv,.string xs,.bool xn,.slice xA xa xc,.slice xB xd xe,.slice xX xl xq] #[.int .i64 yk,.int .i64 yv,.string ys,.bool yn,.slice yA ya yc,.slice yB yd ye,.slice yX yl yq] w n g Ts (y2.alloc (.cells #[.int .i64 0,.int .i64 0] 134)).drew/\B<=(y2.alloc (.cells #[.int .i64 0,.int .i64 0] 134)).drew.heap.size):=⟨HG2.out.below HB2.out.1 (I y2 _).drew,Nat.le_trans HB2.out.1 (I y2 _).drew.size⟩;have HKE:Hid (af (y2.alloc (.cells #[.int .i64 0,.int .i64 0] 134)).drew y2.heap.size 134 #[.int .i64 0,.int .i64 0]):=(af.new y2 _ _).drew;have HB0:Hid (B<=w.heap.size):=Nat.le_trans HB.out (Nat.le_of_lt HBU.out);have hS2:=HGD.out.1.cells;have hS2e:=HGE.out.1.cells;go_wp2_with fail
  go_region_held3 (fun w'=>w'.cell? ⟨U,2,none⟩=some (.pointer (some ⟨p,0,none⟩))/\w'.cell? ⟨w.heap.size,0,none⟩=some (.int .i64 xk)/\w'.cell? ⟨w.heap.size,1,none⟩=some (.int .i64 xv)/\w'.cell? ⟨w.heap.size,2,none⟩=some (.string xs)/\w'.cell? ⟨w.heap.size,3,none⟩=some (.bool xn)/\w'.cell? ⟨w.heap.size,4,none⟩=some (.slice xA xa xc)/\w'.cell? ⟨w.heap.size,5,none⟩=some (.slice xB xd xe)/\w'.cell? ⟨w.heap.size,6,none⟩=some (.slice xX xl xq)/\w'.cell? ⟨w.heap.size+1,0,none⟩=some (.int .i64 yk)/\w'.cell? ⟨w.heap.size+1,1,none⟩=some (.int .i64 yv)/\w'.cell? ⟨w.heap.size+1,2,none⟩=some (.string ys)/\w'.cell? ⟨w.heap.size+1,3,none⟩=some (.bool yn)/\w'.cell? ⟨w.heap.size+1,4,none⟩=some (.slice yA ya yc)/\w'.cell? ⟨w.heap.size+1,5,none⟩=some (.slice yB yd ye)/\w'.cell? ⟨w.heap.size+1,6,none⟩=some (.slice yX yl yq))
   (with_reducible assumption)
   (first
    |(go_at_call 116;(with_reducible refine (HCX.out Ts y2.drew HGD.out.2 HGD.out.1).mono ?_);rintro e y3 ⟨i3,Us3,rfl,hi3,HG3,HF3,hS3⟩;have HG3e:Hid (GT och B h U st p md m1 m2 f L #[.int .i64 xk,.int .i64 xv,.string xs,.bool xn,.slice xA xa xc,.slice xB xd xe,.slice xX xl xq] #[.int .i64 yk,.int .i64 yv,.string ys,.bool yn,.slice yA ya yc,.slice yB yd ye,.slice yX yl yq] w n g (Ts++Us3) (y3.alloc (.cells #[.int .i64 0,.int .i64 0] 134))/\B<=(y3.alloc (.cells #[.int .i64 0,.int .i64 0] 134)).heap.size):=⟨HG3.out.1.below HG3.out.2 (I y3 _),Nat.le_trans HG3.out.2 (I y3 _).size⟩;have HK3:Hid (af (y3.alloc (.cells #[.int .i64 0,.int .i64 0] 134)) y3.heap.size 134 #[.int .i64 0,.int .i64 0]):=af.new y3 _ _;have hS3e:=HG3e.out.1.cells;have HKL:Hid (w.heap.size<=y3.heap.size):=HG3.out.1.be.size)
    |(go_at_call 116;(with_reducible refine (HCX.out Ts (y2.alloc (.cells #[.int .i64 0,.int .i64 0] 134)).drew HGE.out.2 HGE.out.1).mono ?_);rintro e y3 ⟨i3,Us3,rfl,hi3,HG3,HF3,hS3⟩;have HK3:=zH (HKE.out.frT HF3.out (by decide));have HKL:Hid (w.heap.size<=y2.heap.size):=HG2.out.be.size)
    |(go_at_call 116;(with_reducible refine (HCY.out (Ts++Us3) y3 HG3.out.2 HG3.out.1).mono ?_);rintro e y4 ⟨i4,Us4,rfl,hi4,HG4,HF4,hS4⟩;have HK4:=zH (HK3.out.frT HF4.out (by decide));have HK5:=zH (GT.key HG4.out HK4.out HKL.out HB0.out (.int .i64 (i3:Int)) (.int .i64 (i4:Int)));have hS5:=HK5.out.1.1.cells;have c0:=HK4.out.cell 0;have c1:=HK4.out.cell 1;simp only[L3]at c0 c1;have z0:=HK4.out.frozen 0;have z1:=HK4.out.frozen 1)
    |(go_at_call 116;(with_reducible refine (HCY.out (Ts++Us3) y3 HG3.out.2 HG3.out.1).mono ?_);rintro e y4 ⟨i4,Us4,rfl,hi4,HG4,HF4,hS4⟩;have HG4e:Hid (GT och B h U st p md m1 m2 f L #[.int .i64 xk,.int .i64 xv,.string xs,.bool xn,.slice xA xa xc,.slice xB xd xe,.slice xX xl xq] #[.int .i64 yk,.int .i64 yv,.string ys,.bool yn,.slice yA ya yc,.slice yB yd ye,.slice yX yl yq] w n g (Ts++Us3++Us4) (y4.alloc (.cells #[.int .i64 0,.int .i64 0] 134))/\B<=(y4.alloc (.cells #[.int .i64 0,.int .i64 0] 134)).heap.size):=⟨HG4.out.1.below HG4.out.2 (I y4 _),Nat.le_trans HG4.out.2 (I y4 _).size⟩;have hS4e:=HG4e.out.1.cells;have HK5:Hid ((GT och B h U st p md m1 m2 f L #[.int .i64 xk,.int .i64 xv,.string xs,.bool xn,.slice xA xa xc,.slice xB xd xe,.slice xX xl xq] #[.int .i64 yk,.int .i64 yv,.string ys,.bool yn,.slice yA ya yc,.slice yB yd ye,.slice yX yl yq] w n g (Ts++Us3++Us4) (y4.alloc (.cells #[.int .i64 (i3:Int),.int .i64 (i4:Int)] 134))/\B<=(y4.alloc (.cells #[.int .i64 (i3:Int),.int .i64 (i4:Int)] 134)).heap.size)/\af (y4.alloc (.cells #[.int .i64 (i3:Int),.int .i64 (i4:Int)] 134)) y4.heap.size 134 #[.int .i64 (i3:Int),.int .i64 (i4:Int)]):=⟨⟨HG4.out.1.below HG4.out.2 (I y4 _),Nat.le_trans HG4.out.2 (I y4 _).size⟩,af.new y4 _ _⟩;have hS5:=HK5.out.1.1.cells)
    |(go_at_call 116;(with_reducible refine (HCY.out (Ts++Us3) (y3.alloc (.cells #[.int .i64 0,.int .i64 0] 134)) HG3e.out.2 HG3e.out.1).mono ?_);rintro e y4 ⟨i4,Us4,rfl,hi4,HG4,HF4,hS4⟩;have HK4:=zH (HK3.out.frT HF4.out (by decide));have HK5:=zH (GT.key HG4.out HK4.out HKL.out HB0.out (.int .i64 (i3:Int)) (.int .i64 (i4:Int)));have hS5:=HK5.out.1.1.cells;have c0:=HK4.out.cell 0;have c1:=HK4.out.cell 1;simp only[L3]at c0 c1;have z0:=HK4.out.frozen 0;have z1:=HK4.out.frozen 1))
  all_goals
   clear hS2 hS2e;have u3:=HK5.out.1.1.u.cell 3;have k0:=HK5.out.2.cell 0;have k1:=HK5.out.2.cell 1;simp only[L3]at u3 k0 k1;obtain⟨es,cm,hmd,hlook,hmr⟩:=GT.look HMR.out (by have:=HK5.out.1.1;rw[List.append_assoc]at this;exact this) HLL.out.1 (by have h1:=hi3.out;refine⟨h1.1,?_⟩;rw[<-List.append_assoc,List.getElem?_append_left (List.getElem?_eq_some_iff.1 h1.2).1];exact h1.2) (by have h1:=hi4.out;rw[List.append_assoc]at h1;exact h1);have HMR2:=zH hmr;have HK6:=zH (fun W (hb:Below _ _ W)=>GT.toK HK5.out hb);clear hmr;go_wp2_with fail
   go_quiet (fail)
   clear u3 k0 k1 hmd hlook;go_wp2_with fail;generalize hy6:World.drewN _ _=y6;have HK7:=HK6.out y6 (by rw[<-hy6];exact jW _);clear hy6;obtain⟨z,hr,hzU,hzN,⟨n',hzM⟩,hzF,hzB⟩:=GT.put (HK7.1.1.below HK7.1.2 (Below.refl _ _).drew) HK7.1.2 HB2.out.2.2.2 HLL.out.1 hi3.out.1 hi4.out.1;have u3:=HK7.1.1.u.cell 3;have k0:=HK7.2.cell 0;have k1:=HK7.2.cell 1;simp only[L3]at u3 k0 k1;rw[List.append_assoc]at hzN;have HZ:Hid (wK och z U h (.pointer (some ⟨p,0,none⟩)) (.map (some md)) st/\mM B f L z (.pointer (some ⟨p,0,none⟩)) (.map (some md)) (tY Mt x y)/\ar [some 106,none] w z/\Below B w z):=⟨hzU,.inr ⟨p,m1,m2,md,_,_,_,rfl,rfl,HB2.out.2,HK7.1.1.n1,hzN,hzM,HMR2.out⟩,hzF,hzB⟩;clear hzU hzN hzM hzF hzB HK6 HK7
   go_region
  all_goals
   go_wp2_with fail;go_ret;exact⟨_,_,rfl,HZ.out⟩
noncomputable def cU (och:Bool) (b:Int->Option Tm):Tm->Tm->Bool
 |.mk k v s n args,.mk k2 v2 s2 n2 args2=>if k=1 then (if k2=1 then true else !(och&&dH b v (.mk k2 v2 s2 n2 args2))) else if k2=1 then !(och&&dH b v2 (.mk k v s n args)) else (Tm.mk k v s n args).hd (.mk k2 v2 s2 n2 args2)
theorem gc (och:Bool) (b:Int->Option Tm) (k v:Int) (s:ByteArray) (n:LN) (args:List Tm) (k2 v2:Int) (s2:ByteArray) (n2:LN) (args2:List Tm):cU och b (.mk k v s n args) (.mk k2 v2 s2 n2 args2)=if k=1 then (if k2=1 then true else !(och&&dH b v (.mk k2 v2 s2 n2 args2))) else if k2=1 then !(och&&dH b v2 (.mk k v s n args)) else (Tm.mk k v s n args).hd (.mk k2 v2 s2 n2 args2):=rfl
def rV (och:Bool) (b:Int->Option Tm) (x y:Tm) (Mt:List (Tm×Tm)) (b':Int->Option Tm) (N Mt':List (Tm×Tm)):Prop:=
 (b'=b/\N=[]/\Mt'=Mt/\(x=y\/(x,y)∈Mt\/((∀ v,x≠.var v)/\x.args=[]/\x.hd y=true)))\/
 (∃ v t,b v=none/\((x=.var v/\y=t)\/(x=t/\y=.var v))/\(och=true->¬ia b v t)/\(∀ u,t=.var u->u<v)/\b'=upd b v t/\N=[]/\Mt'=Mt)\/
 ((∀ v,x≠.var v)/\x.hd y=true/\(x,y)∉Mt/\b'=b/\N=x.args.zip y.args/\Mt'=(x,y)::Mt)
inductive Ap (och:Bool):(Int->Option Tm)->List (Tm×Tm)->List (Tm×Tm)->(Int->Option Tm)->List (Tm×Tm)->List (Tm×Tm)->Prop
 |mk {b b':Int->Option Tm} {p q x y:Tm} {S Mt N Mt':List (Tm×Tm)} (hx:jE b p x) (hy:jE b q y) (fx:x.fine) (fy:y.fine) (h:rV och b x y Mt b' N Mt'):Ap och b ((p,q)::S) Mt b' (N++S) Mt'
def Cls (och:Bool) (b:Int->Option Tm) (p q:Tm):Prop:=∃ x y,jE b p x/\jE b q y/\x.fine/\y.fine/\(∀ v,x=.var v->b v=none)/\(∀ v,y=.var v->b v=none)/\cU och b x y=false
theorem yV {x y:Tm} (h:x.hd y=true):x.args.length=y.args.length:=by
 obtain⟨k,v,st,m,args⟩:=x;obtain⟨k2,v2,st2,m2,args2⟩:=y;rw[Tm.hd,decide_eq_true_eq]at h;exact h.2.2.1
theorem cI.stp {E:Tm×Tm} {b b':Int->Option Tm} {S Mt S' Mt':List (Tm×Tm)} (h:cI E b S Mt) (hs:Ap true b S Mt b' S' Mt'):cI E b' S' Mt':=by
 cases hs with
 |mk hx hy fx fy hst=>
  rcases hst with ⟨rfl,rfl,rfl,h1⟩|⟨v,t,hv,hd,ho,hl,rfl,rfl,rfl⟩|⟨h1,h2,h3,rfl,rfl,rfl⟩
  ·refine h.skip hx hy ?_;rcases h1 with h1|h1|⟨h1,h2,h3⟩
   ·exact .inl h1
   ·exact .inr (.inl h1)
   ·refine .inr (.inr fun s=>(vF fx fy h1 h3 s).2 ?_);have hl:=yV h3;rw[h2]at hl ⊢;rw[List.eq_nil_of_length_eq_zero hl.symm]
  ·rcases hd with ⟨rfl,rfl⟩|⟨rfl,rfl⟩
   ·exact h.bind hv (.inl ⟨hx,hy⟩) (Tm.cn_fine _ fy) (ho rfl) hl
   ·exact h.bind hv (.inr ⟨hx,hy⟩) (Tm.cn_fine _ fx) (ho rfl) hl
  ·exact h.push hx hy h1 fx fy h2
theorem cI.cls {E:Tm×Tm} {b:Int->Option Tm} {S Mt:List (Tm×Tm)} {p q:Tm} (h:cI E b ((p,q)::S) Mt) (hc:Cls true b p q) (s:Int->Tm):E.1.sb s≠E.2.sb s:=by
 obtain⟨x,y,hx,hy,fx,fy,vx,vy,hb⟩:=hc;obtain⟨k,v,st,n,args⟩:=x;obtain⟨k2,v2,st2,n2,args2⟩:=y;have nv:∀ {k v:Int} {s:ByteArray} {n:LN} {args:List Tm},k≠1->∀ u,Tm.mk k v s n args≠.var u:=fun hk u e=>hk (bE e).1;rw[gc]at hb;by_cases hk:k=1
 ·rw[if_pos hk]at hb;have ex:=aZ fx hk;by_cases hk2:k2=1
  ·rw[if_pos hk2]at hb;cases hb
  ·rw[if_neg hk2,Bool.true_and]at hb;have ho:ia b v (.mk k2 v2 st2 n2 args2):=gC.1 (by simpa using hb);exact h.loop (.inl ⟨ex▸hx,hy⟩) (nv hk2) (Tm.cn_fine _ fy) ho s
 ·rw[if_neg hk]at hb;by_cases hk2:k2=1
  ·rw[if_pos hk2,Bool.true_and]at hb;have ey:=aZ fy hk2;have ho:ia b v2 (.mk k v st n args):=gC.1 (by simpa using hb);exact h.loop (.inr ⟨hx,ey▸hy⟩) (nv hk) (Tm.cn_fine _ fx) ho s
  ·rw[if_neg hk2]at hb;exact h.clash hx hy (nv hk) (nv hk2) fx fy hb s
inductive iI (P:Nat->Prop) (f:Nat->Option Tm) (w:World):List Value->List (Tm×Tm)->Prop
 |nil:iI P f w [] []
 |cons {zs:List Value} {S:List (Tm×Tm)} {a b:Tm} {ca cb:List Value} (h:iI P f w zs S) (ha:cw P f w a ca) (hb:cw P f w b cb):iI P f w (zs++(ca++cb)) ((a,b)::S)
theorem iI.stay {P:Nat->Prop} {f:Nat->Option Tm} {w w':World} {zs:List Value} {S:List (Tm×Tm)} (h:iI P f w zs S) (hs:bU P w w'):iI P f w' zs S:=by
 induction h with
 |nil=>exact .nil
 |cons _ ha hb ih=>exact .cons ih (ha.stay hs) (hb.stay hs)
def uN (nm:Nat) (b:Int->Option Tm) (m:Nat) (ys:List Value):Prop:=∃ vs:List Nat,vs.length=m/\vs.Nodup/\(∀ v∈vs,v<nm/\(b v).isSome=true)/\ys=(vs.map fun v:Nat=>Value.int .i64 (v:Int)::zc).flatten
theorem uN.nil (nm:Nat) (b:Int->Option Tm):uN nm b 0 []:=⟨[],rfl,List.nodup_nil,fun v h=>(by cases h),rfl⟩
theorem uN.le {nm m:Nat} {b:Int->Option Tm} {ys:List Value} (h:uN nm b m ys):m<=nm:=by
 obtain⟨vs,rfl,h1,h2,_⟩:=h;exact pT h1 fun v hv=>(h2 v hv).1
theorem qu (b:Int->Option Tm) (v:Int) (t:Tm):upd b v t v=some t:=by unfold upd;rw[if_pos rfl]
theorem wD {b:Int->Option Tm} {v u:Int} {t:Tm} (h:u≠v):upd b v t u=b u:=by unfold upd;rw[if_neg h]
theorem uN.push {nm m:Nat} {b:Int->Option Tm} {ys:List Value} (h:uN nm b m ys) {v:Nat} (hv:v<nm) (hb:b v=none) (t:Tm):uN nm (upd b v t) (m+1) (ys++(Value.int .i64 (v:Int)::zc)):=by
 obtain⟨vs,rfl,h1,h2,rfl⟩:=h;have hn:v∉vs:=fun hm=>by have:=(h2 v hm).2;rw[hb]at this;cases this
 refine⟨vs++[v],by simp,?_,fun u hu=>?_,by simp⟩
 ·rw[List.nodup_append];exact⟨h1,by simp,fun a ha c hc e=>by rw[List.mem_singleton]at hc;subst hc;subst e;exact hn ha⟩
 ·rcases List.mem_append.1 hu with hu|hu
  ·refine⟨(h2 u hu).1,?_⟩;rw[wD (by have:u≠v:=fun e=>hn (e▸hu);omega)];exact (h2 u hu).2
  ·rw[List.mem_singleton]at hu;subst hu;rw[qu];exact⟨hv,rfl⟩
structure UV (och:Bool) (nm B h U G c:Nat) (f:Nat->Option Tm) (L:List Tm) (W0:World) (b:Int->Option Tm) (S Mt:List (Tm×Tm)) (W:World):Prop where
 ex:∃ (N M st tv:Value) (xs ys zs:List Value) (m:Nat),dC nm W B h G c tv xs m ys/\uN nm b m ys/\qC (PT dQ W0) f W nm xs b/\wK och W U h N M st/\mM B f L W N M Mt/\W.ownsRow B 101 14 st S.length zs/\iI (PT dQ W0) f W zs S
 stay:bU (PT dQ W0) W0 W
 fr:ar dQ W0 W
 be:Below B W0 W
 leU:B<=U
 sz:B<=W.heap.size
theorem UV.below {och:Bool} {nm B h U G c:Nat} {f:Nat->Option Tm} {L:List Tm} {W0:World} {b:Int->Option Tm} {S Mt:List (Tm×Tm)} {w:World} (v:UV och nm B h U G c f L W0 b S Mt w) {w':World} (hb:Below w.heap.size w w'):UV och nm B h U G c f L W0 b S Mt w':=by
 obtain⟨⟨N,M,st,tv,xs,ys,zs,m,h1,h2,h3,h4,h5,h6,h7⟩,a1,a2,a3,a4,a5⟩:=v;have hs:bU (PT dQ W0) w w':=.of_below hb;exact⟨⟨N,M,st,tv,xs,ys,zs,m,h1.below hb,h2,h3.stay hs,af.to h4 hb,h5.frT (ts:=[]) (ar.of_below hb) (by simp) (by simp) (by simp),av (ts:=[]) h6 (ar.of_below hb) (by simp),h7.stay hs⟩,a1.trans hs,a2.trans (ar.of_below hb),a3.trans (hb.mono a5),a4,Nat.le_trans a5 hb.size⟩
theorem UV.drew {och:Bool} {nm B h U G c:Nat} {f:Nat->Option Tm} {L:List Tm} {W0:World} {b:Int->Option Tm} {S Mt:List (Tm×Tm)} {w:World} (v:UV och nm B h U G c f L W0 b S Mt w):UV och nm B h U G c f L W0 b S Mt w.drew:=v.below (Below.refl _ _).drew
theorem vQ {b:Int->Option Tm} {u:Int} {k v:Int} {s:ByteArray} {n:LN} {args:List Tm} (hk:k≠1) (ha:args=[]):¬ia b u (.mk k v s n args):=by
 subst ha;have ho:∀ u,¬(Tm.mk k v s n []).occ u:=fun u h=>by
  rw[Tm.occ]at h;rcases h with h|h
  ·exact hk h.1
  ·rw[dw]at h;exact h.2
 intro h;cases h with
 |here h=>exact ho _ h
 |there h _ _=>exact ho _ h
theorem kE {b:Int->Option Tm} {u v:Int} (hv:b v=none) (hne:u≠v):¬ia b u (.var v):=by
 have ho:∀ z,(Tm.var v).occ z->z=v:=fun z h=>by
  rw[Tm.var,Tm.occ]at h;rcases h with h|h
  ·exact h.2.symm
  ·exact absurd rfl h.1
 intro h;cases h with
 |here h=>exact hne (ho _ h)
 |there h hb _=>rw[ho _ h,hv]at hb;cases hb
theorem eL {k v:Int} {s:ByteArray} {n:LN} {args:List Tm} (h:(Tm.mk k v s n args).fine) (hk:k≠5):args=[]:=by
 rw[Tm.fine]at h;refine List.eq_nil_of_length_eq_zero ?_;rcases aj h.2.1 with ⟨_,_,_,_,h⟩|⟨_,_,_,_,h|h|h|h⟩<;>omega
theorem Aj {q:Nat} {u:Value} {xs:List Value} {o:Nat} (hz:∀ q,q<9->xs[o+q]?=zc[q]?) (h:zc[q]?=some u):xs[o+q]?=some u:=(hz q (by have:=(List.getElem?_eq_some_iff.1 h).1;exact this)).trans h
theorem mQ {och:Bool} {nm B h U G c:Nat} {f:Nat->Option Tm} {L:List Tm} {W0:World} {b:Int->Option Tm} {S Mt:List (Tm×Tm)} {w:World} {Bl:List Nat} (hU:lm nm L) (hnm:nm<=1000000) (hW:rQ L b) (hF:∀ c x,f c=some x->c∈Bl) (hBl:Bl.length<=1000000) (g:UV och nm B h U G c f L W0 b S Mt w) {vi:Nat} (hvi:vi<nm) (hbv:b vi=none) {t:Tm} {ct:List Value} (ht:t∈L) (hc:cw (PT dQ W0) f w t ct) (hft:∀ u,t=.var u->b u=none/\u<vi):
 Calls Tryz.prog 83 #[.pointer (some ⟨U,0,none⟩),.int .i64 (vi:Int),.agg ct.toArray] w fun e w'=>e=.returned (.bool (!(och&&dH b vi t)))/\((och&&dH b vi t)=true->UV och nm B h U G c f L W0 b S Mt w')/\((och&&dH b vi t)=false->UV och nm B h U G c f L W0 (upd b vi t) S Mt w'):=by
 obtain⟨⟨N,M,st,tv,xs,ys,zs,m,h1,h2,h3,h4,h5,h6,h7⟩,a1,a2,a3,a4,a5⟩:=g;have g:UV och nm B h U G c f L W0 b S Mt w:=⟨⟨N,M,st,tv,xs,ys,zs,m,h1,h2,h3,h4,h5,h6,h7⟩,a1,a2,a3,a4,a5⟩;obtain⟨tk,tv',ts,tn,tA,ta,tc,tB,td,te,tX,tl,tq,rfl⟩:=hc.form;have hz:∀ q,q<9->xs[vi*9+q]?=zc[q]?:=by
  rcases h3.cell vi hvi with ⟨_,h⟩|⟨x,cx,h,_⟩
  ·exact h
  ·rw[hbv]at h;cases h
 have hocc:(och&&decide (tk=5)&&dH b vi t)=(och&&dH b vi t):=by
  by_cases hk:tk=5
  ·rw[decide_eq_true hk,Bool.and_true]
  ·rw[decide_eq_false hk,Bool.and_false,Bool.false_and];have:dH b vi t=false:=nr (by
    obtain⟨k_,v_,s_,n_,args,A_,B_,Ar,cp,cx,hxx,hcs,_⟩:=hc.inv;simp only[List.cons.injEq,Value.int.injEq,true_and]at hcs;obtain⟨rfl,_⟩:=hcs;subst hxx;have hf:=(hU.1.2 _ ht).1;by_cases hk1:tk=1
    ·have e:=aZ hf hk1;rw[e];have:=hft _ e;exact kE this.1 (by omega)
    ·exact vQ hk1 (eL hf hk))
   rw[this,Bool.and_false]
 refine (oE nm B h G c m U och (dH b vi t) N M st tv xs ys vi hvi false 0 0 ⟨#[]⟩ false none 0 0 none 0 0 none 0 0 tk tv' ts tn tA ta tc tB td te tX tl tq (fun q u hq=>Aj hz hq) (Nat.le_trans h2.le hnm) w a5 h1 h4 fun _ _ W hWb=>?_).mono ?_
 ·exact uh hvi hbv (h1.below hWb) (h3.stay (.of_below hWb)) hU hW hF hBl hnm ht (hc.stay (.of_below hWb))
 ·rintro e w' hpost;rw[hocc]at hpost;rcases hpost with ⟨ho,rfl,hb⟩|⟨ho,rfl,⟨tv2,hS⟩,hf,hb⟩
  ·exact⟨by rw[ho];rfl,fun _=>g.below hb,fun hn=>by rw[ho]at hn;cases hn⟩
  ·refine⟨by rw[ho];rfl,fun hn=>by (rw[ho]at hn;cases hn),fun _=>?_⟩;have hfs:ar dQ w w':=hf.mono (by decide);have hst:bU (PT dQ W0) w w':=a1.of_fr hfs hb.size;refine⟨⟨N,M,st,tv2,_,_,zs,m+1,hS,h2.push hvi hbv t,(h3.stay hst).upd hvi (by have:=h1.row.1;omega) (hc.stay hst),af.frT h4 hf (by decide),h5.frT hf (by decide) (by decide) (by decide),av h6 hf (by decide),h7.stay hst⟩,a1.trans hst,a2.trans hfs,a3.trans hb,a4,Nat.le_trans a5 hb.size⟩
theorem qC.attrs {P:Nat->Prop} {f:Nat->Option Tm} {w:World} {nm:Nat} {xs:List Value} {b:Int->Option Tm} (h:qC P f w nm xs b) {v:Nat} (hv:v<nm):xs[v*9+8]?=some (.slice none 0 0):=by
 rcases h.cell v hv with ⟨_,h⟩|⟨t,cs,_,hc,h⟩
 ·rw[h 8 (by omega)];rfl
 ·rw[h 8 (by omega)];obtain⟨tk,tv',ts,tn,tA,ta,tc,tB,td,te,tX,tl,tq,rfl⟩:=hc.form;rfl
theorem nS {och:Bool} {nm B h U G c:Nat} {f:Nat->Option Tm} {L:List Tm} {W0:World} {b:Int->Option Tm} {S Mt:List (Tm×Tm)} {w:World} {Bl:List Nat} (hU:lm nm L) (hnm:nm<=1000000) (hW:rQ L b) (hF:∀ c x,f c=some x->c∈Bl) (hBl:Bl.length<=1000000) (g:UV och nm B h U G c f L W0 b S Mt w) {v u lo hi:Nat} (hlo:min (v:Int) (u:Int)=(lo:Int)) (hhi:max (v:Int) (u:Int)=(hi:Int)) (hlt:lo<hi) (hin:hi<nm) (hbl:b lo=none) (hbh:b hi=none) (hl:Tm.var lo∈L):
 Calls Tryz.prog 82 #[.pointer (some ⟨U,0,none⟩),.int .i64 (v:Int),.int .i64 (u:Int)] w fun e w'=>e=.returned (.bool true)/\UV och nm B h U G c f L W0 (upd b hi (.var lo)) S Mt w':=by
 have HG:=zH g;obtain⟨⟨N,M,st,tv,xs,ys,zs,m,h1,h2,h3,h4,h5,h6,h7⟩,a1,a2,a3,a4,a5⟩:=g;have u0:=af.cell h4 0;have b0:=h1.blk.cell 0;simp only[L3]at u0 b0;have gl:w.cell? ⟨G,lo*9+8,none⟩=some (.slice none 0 0):=h1.cell (h3.attrs (by omega));have gh:w.cell? ⟨G,hi*9+8,none⟩=some (.slice none 0 0):=h1.cell (h3.attrs hin);have hi1:(0:Int)<=(lo:Int):=by omega
 have hi2:(lo:Int)<(nm:Int):=by omega
 have hi3:(0:Int)<=(hi:Int):=by omega
 have hi4:(hi:Int)<(nm:Int):=by omega
 have HFR:Hid (∀ W,Below w.heap.size w W->Calls Tryz.prog 83 #[.pointer (some ⟨U,0,none⟩),.int .i64 (hi:Int),.agg #[.int .i64 1,.int .i64 (lo:Int),.string ⟨#[]⟩,.bool false,.slice none 0 0,.slice none 0 0,.slice none 0 0]] W fun e w'=>e=.returned (.bool true)/\Hid (UV och nm B h U G c f L W0 (upd b hi (.var lo)) S Mt w')):=fun W hWb=>by
  refine (mQ hU hnm hW hF hBl (HG.out.below hWb) hin hbh hl (.var (v:=(lo:Int)) ⟨by omega,by omega⟩) fun z e=>by
   have:=gD e;subst this;exact⟨hbl,by omega⟩).mono ?_
  rintro e w' ⟨rfl,q1,q2⟩;have hno:dH b (hi:Int) (.var lo)=false:=nr (kE hbl (by omega));rw[hno,Bool.and_false]at q2 ⊢;exact⟨rfl,q2 rfl⟩
 clear hU hnm hW hF hBl h1 h2 h3 h4 h5 h6 h7 a1 a2 a3 a4 a5 hbl hbh hl hlt hin;go_enter Tryz.func82,Tryz.ntmps82;go_wp2_with fail;refine (bX (lo:Int) w).mono ?_;rintro e w1 ⟨rfl,hb⟩;have HW1:=zH hb;clear hb u0 b0 gl gh;go_wp2_with fail;refine (HFR.out w1 HW1.out).mono ?_;rintro e w2 ⟨rfl,HF⟩;go_wp2_with fail;go_ret;exact⟨rfl,HF.out⟩
end Go.Proofs.YtlhojoefhannnaaGreat
