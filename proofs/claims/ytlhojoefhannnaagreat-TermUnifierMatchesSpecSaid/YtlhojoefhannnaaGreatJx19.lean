/- (*heap.Heap).back to the trail's start. And 5 more texts. -/
import Derived.Test.YtlhojoefhannnaaGreatJx18
set_option linter.unusedVariables false
set_option linter.unusedSimpArgs false
set_option maxRecDepth 100000
set_option maxHeartbeats 51200000
namespace Go.Proofs.YtlhojoefhannnaaGreat
open Go.Proofs.Tryz Go.RowKit NumB
theorem uW {α:Type} {k:Nat} (f:Nat->List α) (hk:∀ v,(f v).length=k):∀ (vs:List Nat) (j q:Nat),q<k->j<vs.length->((vs.map f).flatten)[j*k+q]?=(vs[j]?.bind fun v=>(f v)[q]?)
 |[],j,q,_,h=>absurd h (by simp)
 |v::vs,0,q,hq,_=>by
  rw[List.map_cons,List.flatten_cons,Nat.zero_mul,Nat.zero_add,List.getElem?_append_left (by rw[hk];exact hq)];rfl
 |v::vs,j+1,q,hq,h=>by
  rw[List.map_cons,List.flatten_cons,List.getElem?_append_right (by rw[hk,Nat.succ_mul];omega),hk,show (j+1)*k+q-k=j*k+q by rw[Nat.succ_mul];omega,uW f hk vs j q hq (by simpa using h)];rfl
theorem xS.at_ {nm m:Nat} {b:Int->Option Tm} {f:List Value} (h:xS nm b m f) {j:Nat} (c:j<m):∃ v,v<nm/\∀ q u,(Value.int .i64 (v:Int)::zc)[q]?=some u->f[j*10+q]?=some u:=by
 obtain⟨e,rfl,i,g,rfl⟩:=h;refine⟨e[j],(g _ (zQ c)).1,fun q u d=>?_⟩;have a:q<10:=by
  have:=(zK d).1;simpa[zc] using this
 rw[uW (fun v:Nat=>Value.int .i64 (v:Int)::zc) (k:=10) (fun v=>rfl) e j q a c,zO c];exact d
theorem Bc {nm B h G c m:Nat} {tv:Value} {xs r:List Value} {b:Int->Option Tm} {w:World} (N:dL nm w B h G c tv xs m r) (Q:xS nm b m r) (b1:nm<=1000000) (V:B<=w.heap.size):
 Calls prog 60 #[.pointer (some ⟨h,0,none⟩),.int .i64 0] w fun e w'=>e=.returned (.tuple #[])/\(∃ tv',ah w' h 95 #[Dq G nm c,tv',.slice none 0 0])/\aD [some 95,some 98] w w'/\Below B w w':=by
 have b0:=Q.le;obtain⟨A,l,rfl,a4⟩:∃ A l,tv=.slice A m l/\m<=l:=by
  rcases N.trail.2 with ⟨h,h0⟩|⟨g,a0,_,h,_,_,y,_⟩
  ·exact⟨none,0,by rw[h,h0],by omega⟩
  ·exact⟨_,_,h,y⟩
 have HT:=zH Q;have a:Yd (dL nm w B h G c (.slice A m l) xs m r):=N;have HB:=zH V;have O:=N.blk0.cell 1;simp only[L3]at O;have b2:IntKind.i64.wrap ((m:Int)-1)=(m:Int)-1:=by rw[IntWalk.i64_in _ (by omega)]
 clear N Q V;go_enter func60,ntmps60;go_wp2_with fail
 go_loopg [4] m (fun gk s4 wr=>∃ C:Int,s4=.int .i64 C/\C=(gk:Int)-1/\gk<=m/\Yd (∃ xs,dL nm wr B h G c (.slice A m l) xs m r)/\Yd (aD [some 98] w wr/\Below B w wr))
 case atStart=>exact⟨_,rfl,rfl,zN _,⟨_,a.o⟩,aD.refl _ _,Below.refl _ _⟩
 case round=>
  clear O a;obtain⟨C,rfl,hz,a5,T,D⟩:=hrel;obtain⟨xs,hs⟩:=T.o;have a:=zH hs;clear hs T;by_cases X:0<gk
  ·obtain⟨j,rfl⟩:∃ g,gk=g+1:=⟨gk-1,by omega⟩;obtain rfl:C=(j:Int):=by omega
   clear hz;obtain⟨t,rfl⟩:∃ t,A=some ⟨t,0,none⟩:=by
    rcases a.o.trail.2 with ⟨_,h⟩|⟨g,_,_,h,_⟩
    ·omega
    ·simp only[Value.slice.injEq]at h;exact⟨g,h.1⟩
   obtain⟨v,hv,F⟩:=HT.o.at_ (j:=j) (by omega);have d:∀ q u,(Value.int .i64 (v:Int)::zc)[q]?=some u->∀ W:World,W.ownsRow B 130 10 (.slice (some ⟨t,0,none⟩) m l) m r->W.cell? ⟨t,j*10+q,none⟩=some u:=fun q u hq W hr=>by
    have y:=F q u hq;have hl:=hr.1;have:j*10+q<r.length:=(zK y).1;exact (hr.cellAt _ (by omega)).trans y
   have E:Yd (∀ W,ah W h 95 #[.slice (some ⟨G,0,none⟩) nm c,.slice (some ⟨t,0,none⟩) m l,.slice none 0 0]->W.ownsRow B 130 10 (.slice (some ⟨t,0,none⟩) m l) m r->(W.cell? ⟨h,0,none⟩=some (.slice (some ⟨G,0,none⟩) nm c)/\W.cell? ⟨h,1,none⟩=some (.slice (some ⟨t,0,none⟩) m l)/\W.cell? ⟨t,j*10,none⟩=some (.int .i64 (v:Int))/\W.cell? ⟨t,j*10+1,none⟩=some (.bool false)/\W.cell? ⟨t,j*10+2,none⟩=some (.int .i64 0)/\W.cell? ⟨t,j*10+3,none⟩=some (.int .i64 0)/\W.cell? ⟨t,j*10+4,none⟩=some (.string ⟨#[]⟩)/\W.cell? ⟨t,j*10+5,none⟩=some (.bool false)/\W.cell? ⟨t,j*10+6,none⟩=some (.slice none 0 0)/\W.cell? ⟨t,j*10+7,none⟩=some (.slice none 0 0)/\W.cell? ⟨t,j*10+8,none⟩=some (.slice none 0 0)/\W.cell? ⟨t,j*10+9,none⟩=some (.slice none 0 0))):=fun W y n=>⟨y.cell 0,y.cell 1,d 0 _ rfl W n,d 1 _ rfl W n,d 2 _ rfl W n,d 3 _ rfl W n,d 4 _ rfl W n,d 5 _ rfl W n,d 6 _ rfl W n,d 7 _ rfl W n,d 8 _ rfl W n,d 9 _ rfl W n⟩;clear d F;obtain⟨M,z⟩:=vF a.o.row v (Value.bool false) (Value.int .i64 0) (Value.int .i64 0) (Value.string ⟨#[]⟩) (Value.bool false) (Value.slice none 0 0) (Value.slice none 0 0) (Value.slice none 0 0) (Value.slice none 0 0);have o:=(aD.refl [some 98] wr).grown z (fun g X=>by
    obtain⟨cs,f,hc⟩:=Lib.ownsRow_kind a.o.row g (by rw[<-X];rfl);exact⟨cs,_,f,hc,by decide⟩)
   have I:Below B wr (((((((((wr.setCell ⟨G,v*9,none⟩ (.bool false)).setCell ⟨G,v*9+1,none⟩ (.int .i64 0)).setCell ⟨G,v*9+2,none⟩ (.int .i64 0)).setCell ⟨G,v*9+3,none⟩ (.string ⟨#[]⟩)).setCell ⟨G,v*9+4,none⟩ (.bool false)).setCell ⟨G,v*9+5,none⟩ (.slice none 0 0)).setCell ⟨G,v*9+6,none⟩ (.slice none 0 0)).setCell ⟨G,v*9+7,none⟩ (.slice none 0 0)).setCell ⟨G,v*9+8,none⟩ (.slice none 0 0)):=(Below.refl B wr).grown z (zC HB.o D.o.2.size) (fun k hk=>by
    obtain rfl:G=k:=by simpa using hk
    exact (a.o.row.lt _ rfl).1)
   have P:Yd (dL nm (((((((((wr.setCell ⟨G,v*9,none⟩ (.bool false)).setCell ⟨G,v*9+1,none⟩ (.int .i64 0)).setCell ⟨G,v*9+2,none⟩ (.int .i64 0)).setCell ⟨G,v*9+3,none⟩ (.string ⟨#[]⟩)).setCell ⟨G,v*9+4,none⟩ (.bool false)).setCell ⟨G,v*9+5,none⟩ (.slice none 0 0)).setCell ⟨G,v*9+6,none⟩ (.slice none 0 0)).setCell ⟨G,v*9+7,none⟩ (.slice none 0 0)).setCell ⟨G,v*9+8,none⟩ (.slice none 0 0)) B h G c (.slice (some ⟨t,0,none⟩) m l) (mZ xs v (.bool false) (.int .i64 0) (.int .i64 0) (.string ⟨#[]⟩) (.bool false) (.slice none 0 0) (.slice none 0 0) (.slice none 0 0) (.slice none 0 0)) m r):=.of (a.o.blk.frT o (by decide)) a.o.le M (ay a.o.trail o (by decide));have x:Yd (aD [some 98] w (((((((((wr.setCell ⟨G,v*9,none⟩ (.bool false)).setCell ⟨G,v*9+1,none⟩ (.int .i64 0)).setCell ⟨G,v*9+2,none⟩ (.int .i64 0)).setCell ⟨G,v*9+3,none⟩ (.string ⟨#[]⟩)).setCell ⟨G,v*9+4,none⟩ (.bool false)).setCell ⟨G,v*9+5,none⟩ (.slice none 0 0)).setCell ⟨G,v*9+6,none⟩ (.slice none 0 0)).setCell ⟨G,v*9+7,none⟩ (.slice none 0 0)).setCell ⟨G,v*9+8,none⟩ (.slice none 0 0)).drew/\Below B w (((((((((wr.setCell ⟨G,v*9,none⟩ (.bool false)).setCell ⟨G,v*9+1,none⟩ (.int .i64 0)).setCell ⟨G,v*9+2,none⟩ (.int .i64 0)).setCell ⟨G,v*9+3,none⟩ (.string ⟨#[]⟩)).setCell ⟨G,v*9+4,none⟩ (.bool false)).setCell ⟨G,v*9+5,none⟩ (.slice none 0 0)).setCell ⟨G,v*9+6,none⟩ (.slice none 0 0)).setCell ⟨G,v*9+7,none⟩ (.slice none 0 0)).setCell ⟨G,v*9+8,none⟩ (.slice none 0 0)).drew):=⟨(D.o.1.trans o).drew,(D.o.2.trans I).drew⟩;have a1:=E.o wr.drew a.o.drew.blk a.o.drew.trail;have a2:=E.o (((((((((wr.setCell ⟨G,v*9,none⟩ (.bool false)).setCell ⟨G,v*9+1,none⟩ (.int .i64 0)).setCell ⟨G,v*9+2,none⟩ (.int .i64 0)).setCell ⟨G,v*9+3,none⟩ (.string ⟨#[]⟩)).setCell ⟨G,v*9+4,none⟩ (.bool false)).setCell ⟨G,v*9+5,none⟩ (.slice none 0 0)).setCell ⟨G,v*9+6,none⟩ (.slice none 0 0)).setCell ⟨G,v*9+7,none⟩ (.slice none 0 0)).setCell ⟨G,v*9+8,none⟩ (.slice none 0 0)).drew P.o.drew.blk P.o.drew.trail;have a6:(0:Int)<=(j:Int):=by omega
   have a7:(j:Int)<(m:Int):=by omega
   have a8:(0:Int)<=(v:Int):=by omega
   have a9:(v:Int)<(nm:Int):=by omega
   have J:¬h=G:=fun e=>jT a.o.blk a.o.row (by decide) ⟨_,rfl,e⟩;have Y:¬G=h:=fun e=>J e.symm;have L:¬t=G:=fun e=>by
    obtain⟨_,_,k1⟩:=Lib.ownsRow_kind a.o.trail t rfl;obtain⟨_,_,k2⟩:=Lib.ownsRow_kind a.o.row G rfl;rw[e,k2]at k1;simp at k1
   have Z:¬G=t:=fun e=>L e.symm;have z0:=a.o.row.frozenAt (v*9);have z1:=a.o.row.frozenAt (v*9+1);have z2:=a.o.row.frozenAt (v*9+2);have z3:=a.o.row.frozenAt (v*9+3);have C:=a.o.row.frozenAt (v*9+4);have z5:=a.o.row.frozenAt (v*9+5);have z6:=a.o.row.frozenAt (v*9+6);have z7:=a.o.row.frozenAt (v*9+7);have z8:=a.o.row.frozenAt (v*9+8);have S:=a.o.row.1;have i:∀ q,q<9->∃ u,wr.cell? ⟨G,v*9+q,none⟩=some u:=fun q hq=>by
    have:v*9+q<xs.length:=by omega
    exact⟨_,a.o.cell (zO this)⟩
   obtain⟨o0,g0⟩:=i 0 (by decide);obtain⟨o1,g1⟩:=i 1 (by decide);obtain⟨o2,g2⟩:=i 2 (by decide);obtain⟨o3,g3⟩:=i 3 (by decide);obtain⟨o4,g4⟩:=i 4 (by decide);obtain⟨o5,g5⟩:=i 5 (by decide);obtain⟨o6,g6⟩:=i 6 (by decide);obtain⟨o7,g7⟩:=i 7 (by decide);obtain⟨o8,g8⟩:=i 8 (by decide);rw[Nat.add_zero]at g0;clear i S M z o I;go_wp2_with fail
   go_region_held3 (fun w'=>w'.cell? ⟨h,0,none⟩=some (.slice (some ⟨G,0,none⟩) nm c)/\w'.cell? ⟨h,1,none⟩=some (.slice (some ⟨t,0,none⟩) m l)/\w'.cell? ⟨t,j*10,none⟩=some (.int .i64 (v:Int))/\w'.cell? ⟨t,j*10+1,none⟩=some (.bool false)/\w'.cell? ⟨t,j*10+2,none⟩=some (.int .i64 0)/\w'.cell? ⟨t,j*10+3,none⟩=some (.int .i64 0)/\w'.cell? ⟨t,j*10+4,none⟩=some (.string ⟨#[]⟩)/\w'.cell? ⟨t,j*10+5,none⟩=some (.bool false)/\w'.cell? ⟨t,j*10+6,none⟩=some (.slice none 0 0)/\w'.cell? ⟨t,j*10+7,none⟩=some (.slice none 0 0)/\w'.cell? ⟨t,j*10+8,none⟩=some (.slice none 0 0)/\w'.cell? ⟨t,j*10+9,none⟩=some (.slice none 0 0)) (with_reducible assumption) (fail)
   have b3:IntKind.i64.wrap ((j:Int)-1)=(j:Int)-1:=by rw[IntWalk.i64_in _ (by omega)]
   go_wp2_with fail
   go_roundg j
   case measure=>omega
   case rel=>exact⟨_,rfl,rfl,by omega,⟨_,P.o.drew⟩,x.o⟩
  ·obtain rfl:gk=0:=by omega
   have b4:C<0:=by omega
   have O:=a.o.blk0.cell 1;have z1:=a.o.blk0.frozen 1;have a3:(0:Int)<=(l:Int):=by omega
   simp only[L3]at O;have U:=zH (a.o.blk0.set_ 1 (.slice A 0 l));have x:Yd (aD [some 95,some 98] w (wr.setCell ⟨h,1,none⟩ (.slice A 0 l))/\Below B w (wr.setCell ⟨h,1,none⟩ (.slice A 0 l))):=⟨(D.o.1.mono (by decide)).setCell (p:=⟨h,1,none⟩) a.o.blk0 (by decide) _,D.o.2.setCell (p:=⟨h,1,none⟩) a.o.le _⟩;simp only[L1]at U;go_wp2_with fail;unfold bodyPost;refine⟨rfl,.tuple #[],?_,rfl,⟨_,U.o⟩,x.o⟩
   first|(simp[results,Tryz.f60];done)|(unfold results;rfl)|kernel_rfl
def CG:List Value:=zc++[.bool true,.int .i64 1,.int .i64 0,.string ⟨#[]⟩,.bool false,.slice none 0 0,.slice none 0 0,.slice none 0 0,.slice none 0 0]
def xs2 (k v:Int) (s:ByteArray) (n:Bool) (A B X:Value):List Value:=[.bool true,.int .i64 k,.int .i64 v,.string s,.bool n,A,B,X,.slice none 0 0]++[.bool true,.int .i64 1,.int .i64 0,.string ⟨#[]⟩,.bool false,.slice none 0 0,.slice none 0 0,.slice none 0 0,.slice none 0 0]
theorem gz (h:Nat) (d f:Value) (w:World) (a:ah w h 95 #[d,f,.slice none 0 0]):Calls prog 61 #[.pointer (some ⟨h,0,none⟩)] w fun e w'=>e=.returned (.tuple #[])/\w'=w.setCell ⟨h,1,none⟩ (.slice none 0 0):=by
 have b:=a.cell 1;have c:=a.cell 2;have g:=a.frozen 1;simp only[L3]at b c;go_enter func61,ntmps61;go_wp2_with fail;unfold bodyPost;refine⟨rfl,.tuple #[],?_,rfl,rfl⟩
 first|(simp[results,Tryz.f61];done)|(unfold results;rfl)|kernel_rfl
theorem Cg {w:World} {B n i a c:Nat} {e:TypeId} {j l:List Value} (f:n+1=i) (h:w.ownsRow B e 14 (.slice (some ⟨c,0,none⟩) i a) i (j++l)) (z:l.length=14):w.ownsRow B e 14 (.slice (some ⟨c,0,none⟩) n a) n j:=by
 subst f;obtain⟨p,q|⟨g,k,b,m,r,t,A,v,x,y⟩⟩:=h
 ·cases q.1
 ·simp only[Value.slice.injEq,Option.some.injEq,Addr.mk.injEq,and_true,true_and]at m;obtain⟨rfl,rfl⟩:=m;rw[zE,z]at p;have o:j.length=n*14:=by omega
  refine⟨o,.inr ⟨c,a,b,rfl,r,t,by omega,v,x,?_⟩⟩;have d:b.toList.take (n*14)=(b.toList.take ((n+1)*14)).take (n*14):=by
   rw[List.take_take]
   congr 1
   omega
  rw[d,y,List.take_append_of_le_length (by omega),<-o,List.take_length]
theorem sa {w:World} {B n c a d:Nat} {e:TypeId} {g l:List Value} (b:n+1=c) (h:w.ownsRow B e 14 (.slice (some ⟨d,0,none⟩) c a) c (g++l)) (j:l.length=14):∀ q u,l[q]?=some u->w.cell? ⟨d,n*14+q,none⟩=some u:=fun q u f=>by
 subst b;have i:=h.1;rw[zE,j]at i;have k:q<14:=by
  have:=(zK f).1;omega
 have:=h.cellAt (n*14+q) (by omega);rw[this,List.getElem?_append_right (by omega),show n*14+q-g.length=q by omega,f]
def lc (och:Bool) (nm B h G c:Nat) (f:Nat->Option Tm) (L:List Tm) (W0:World) (E:Tm×Tm) (w':World):Prop:=
 ∃ (b:Int->Option Tm) (Mt:List (Tm×Tm)) (xs:List Value),iZ och E b [] Mt/\kX L b/\dL nm w' B h G c (.slice none 0 0) xs 0 []/\qm (PT eo W0) f w' nm xs b/\cT (PT eo W0) W0 w'/\aD eo W0 w'/\Below B W0 w'
def kZ (och:Bool) (B:Nat) (W0:World) (E:Tm×Tm) (w':World):Prop:=
 ∃ (b:Int->Option Tm) (S Mt:List (Tm×Tm)) (p q:Tm),iZ och E b ((p,q)::S) Mt/\Dz och b p q/\aD eo W0 w'/\Below B W0 w'
theorem sM {och:Bool} {nm B h G c:Nat} {f:Nat->Option Tm} {L:List Tm} {Bl:List Nat} (hU:kg nm L) (j4:nm<=1000000) (i4:L.length<=50000) (hF:∀ c x,f c=some x->c∈Bl) (l0:Bl.length<=1000000) {w:World} (hB:B<=w.heap.size) {x y:Tm} {cx cy:List Value} (hx:cU (PT eo w) f w x cx) (hy:cU (PT eo w) f w y cy) (k4:x∈L) (k5:y∈L) {g9:List Value} (hS:dL nm w B h G c (.slice none 0 0) g9 0 []) (hz:∀ v,v<nm->∀ q,q<9->g9[v*9+q]?=zc[q]?):
 Calls prog 36 #[.pointer (some ⟨h,0,none⟩),.agg cx.toArray,.agg cy.toArray,.bool och] w fun e w'=>(e=.returned (.tuple #[.slice none 0 0,.bool true])/\lc och nm B h G c f L w (x,y) w')\/(e=.returned (.tuple #[.slice none 0 0,.bool false])/\kZ och B w (x,y) w'):=by
 obtain⟨T,Z,z,X,E,J,O,F,P,Q,I,V,Y,rfl⟩:=hx.form;obtain⟨yk,yv,C,yn,yA,ya,yc,yB,yd,ye,yX,yl,yq,rfl⟩:=hy.form;have b4:zZ w ((((w.alloc (.cells #[.int .i64 T,.int .i64 Z,.string z,.bool X,.slice E J O,.slice F P Q,.slice I V Y] 27)).alloc (.cells #[.int .i64 yk,.int .i64 yv,.string C,.bool yn,.slice yA ya yc,.slice yB yd ye,.slice yX yl yq] 27)).alloc (.cells #[.int .i64 T,.int .i64 Z,.string z,.bool X,.slice E J O,.slice F P Q,.slice I V Y,.int .i64 yk,.int .i64 yv,.string C,.bool yn,.slice yA ya yc,.slice yB yd ye,.slice yX yl yq] 101)).alloc (.cells #[.pointer (some ⟨h,0,none⟩),.bool och,.pointer none,.map none,.slice none 0 0,.slice (some ⟨w.heap.size+1+1,0,none⟩) 1 1] 106)):=((ax w _ _).alloc (by simp;omega) _).alloc (by simp;omega) _;have j6:ah ((((w.alloc (.cells #[.int .i64 T,.int .i64 Z,.string z,.bool X,.slice E J O,.slice F P Q,.slice I V Y] 27)).alloc (.cells #[.int .i64 yk,.int .i64 yv,.string C,.bool yn,.slice yA ya yc,.slice yB yd ye,.slice yX yl yq] 27)).alloc (.cells #[.int .i64 T,.int .i64 Z,.string z,.bool X,.slice E J O,.slice F P Q,.slice I V Y,.int .i64 yk,.int .i64 yv,.string C,.bool yn,.slice yA ya yc,.slice yB yd ye,.slice yX yl yq] 101)).alloc (.cells #[.pointer (some ⟨h,0,none⟩),.bool och,.pointer none,.map none,.slice none 0 0,.slice (some ⟨w.heap.size+1+1,0,none⟩) 1 1] 106)) (w.heap.size+1+1) 101 #[.int .i64 T,.int .i64 Z,.string z,.bool X,.slice E J O,.slice F P Q,.slice I V Y,.int .i64 yk,.int .i64 yv,.string C,.bool yn,.slice yA ya yc,.slice yB yd ye,.slice yX yl yq]:=by
  have:=(ah.new ((w.alloc (.cells #[.int .i64 T,.int .i64 Z,.string z,.bool X,.slice E J O,.slice F P Q,.slice I V Y] 27)).alloc (.cells #[.int .i64 yk,.int .i64 yv,.string C,.bool yn,.slice yA ya yc,.slice yB yd ye,.slice yX yl yq] 27)) 101 #[.int .i64 T,.int .i64 Z,.string z,.bool X,.slice E J O,.slice F P Q,.slice I V Y,.int .i64 yk,.int .i64 yv,.string C,.bool yn,.slice yA ya yc,.slice yB yd ye,.slice yX yl yq]).alloc (.cells #[.pointer (some ⟨h,0,none⟩),.bool och,.pointer none,.map none,.slice none 0 0,.slice (some ⟨w.heap.size+1+1,0,none⟩) 1 1] 106);rw[show ((w.alloc (.cells #[.int .i64 T,.int .i64 Z,.string z,.bool X,.slice E J O,.slice F P Q,.slice I V Y] 27)).alloc (.cells #[.int .i64 yk,.int .i64 yv,.string C,.bool yn,.slice yA ya yc,.slice yB yd ye,.slice yX yl yq] 27)).heap.size=w.heap.size+1+1 by simp]at this;exact this
 have j:((((w.alloc (.cells #[.int .i64 T,.int .i64 Z,.string z,.bool X,.slice E J O,.slice F P Q,.slice I V Y] 27)).alloc (.cells #[.int .i64 yk,.int .i64 yv,.string C,.bool yn,.slice yA ya yc,.slice yB yd ye,.slice yX yl yq] 27)).alloc (.cells #[.int .i64 T,.int .i64 Z,.string z,.bool X,.slice E J O,.slice F P Q,.slice I V Y,.int .i64 yk,.int .i64 yv,.string C,.bool yn,.slice yA ya yc,.slice yB yd ye,.slice yX yl yq] 101)).alloc (.cells #[.pointer (some ⟨h,0,none⟩),.bool och,.pointer none,.map none,.slice none 0 0,.slice (some ⟨w.heap.size+1+1,0,none⟩) 1 1] 106)).ownsRow B 101 14 (.slice (some ⟨w.heap.size+1+1,0,none⟩) 1 1) 1 ([]++([(Value.int .i64 T),(Value.int .i64 Z),(Value.string z),(Value.bool X),(Value.slice E J O),(Value.slice F P Q),(Value.slice I V Y)]++[(Value.int .i64 yk),(Value.int .i64 yv),(Value.string C),(Value.bool yn),(Value.slice yA ya yc),(Value.slice yB yd ye),(Value.slice yX yl yq)])):=
  ⟨rfl,.inr ⟨_,1,_,rfl,by omega,j6,zN _,by decide,rfl,rfl⟩⟩
 have k0:ah ((((w.alloc (.cells #[.int .i64 T,.int .i64 Z,.string z,.bool X,.slice E J O,.slice F P Q,.slice I V Y] 27)).alloc (.cells #[.int .i64 yk,.int .i64 yv,.string C,.bool yn,.slice yA ya yc,.slice yB yd ye,.slice yX yl yq] 27)).alloc (.cells #[.int .i64 T,.int .i64 Z,.string z,.bool X,.slice E J O,.slice F P Q,.slice I V Y,.int .i64 yk,.int .i64 yv,.string C,.bool yn,.slice yA ya yc,.slice yB yd ye,.slice yX yl yq] 101)).alloc (.cells #[.pointer (some ⟨h,0,none⟩),.bool och,.pointer none,.map none,.slice none 0 0,.slice (some ⟨w.heap.size+1+1,0,none⟩) 1 1] 106)) (w.heap.size+1+1+1) 106 #[.pointer (some ⟨h,0,none⟩),.bool och,.pointer none,.map none,.slice none 0 0,.slice (some ⟨w.heap.size+1+1,0,none⟩) 1 1]:=by
  have:=ah.new (((w.alloc (.cells #[.int .i64 T,.int .i64 Z,.string z,.bool X,.slice E J O,.slice F P Q,.slice I V Y] 27)).alloc (.cells #[.int .i64 yk,.int .i64 yv,.string C,.bool yn,.slice yA ya yc,.slice yB yd ye,.slice yX yl yq] 27)).alloc (.cells #[.int .i64 T,.int .i64 Z,.string z,.bool X,.slice E J O,.slice F P Q,.slice I V Y,.int .i64 yk,.int .i64 yv,.string C,.bool yn,.slice yA ya yc,.slice yB yd ye,.slice yX yl yq] 101)) 106 #[.pointer (some ⟨h,0,none⟩),.bool och,.pointer none,.map none,.slice none 0 0,.slice (some ⟨w.heap.size+1+1,0,none⟩) 1 1];rw[show (((w.alloc (.cells #[.int .i64 T,.int .i64 Z,.string z,.bool X,.slice E J O,.slice F P Q,.slice I V Y] 27)).alloc (.cells #[.int .i64 yk,.int .i64 yv,.string C,.bool yn,.slice yA ya yc,.slice yB yd ye,.slice yX yl yq] 27)).alloc (.cells #[.int .i64 T,.int .i64 Z,.string z,.bool X,.slice E J O,.slice F P Q,.slice I V Y,.int .i64 yk,.int .i64 yv,.string C,.bool yn,.slice yA ya yc,.slice yB yd ye,.slice yX yl yq] 101)).heap.size=w.heap.size+1+1+1 by simp]at this;exact this
 have e0:cT (PT eo w) w ((((w.alloc (.cells #[.int .i64 T,.int .i64 Z,.string z,.bool X,.slice E J O,.slice F P Q,.slice I V Y] 27)).alloc (.cells #[.int .i64 yk,.int .i64 yv,.string C,.bool yn,.slice yA ya yc,.slice yB yd ye,.slice yX yl yq] 27)).alloc (.cells #[.int .i64 T,.int .i64 Z,.string z,.bool X,.slice E J O,.slice F P Q,.slice I V Y,.int .i64 yk,.int .i64 yv,.string C,.bool yn,.slice yA ya yc,.slice yB yd ye,.slice yX yl yq] 101)).alloc (.cells #[.pointer (some ⟨h,0,none⟩),.bool och,.pointer none,.map none,.slice none 0 0,.slice (some ⟨w.heap.size+1+1,0,none⟩) 1 1] 106)):=.of_below b4;have d2:Yd (UV och nm B h (w.heap.size+1+1+1) G c f L w (fun _=>none) [(x,y)] [] ((((w.alloc (.cells #[.int .i64 T,.int .i64 Z,.string z,.bool X,.slice E J O,.slice F P Q,.slice I V Y] 27)).alloc (.cells #[.int .i64 yk,.int .i64 yv,.string C,.bool yn,.slice yA ya yc,.slice yB yd ye,.slice yX yl yq] 27)).alloc (.cells #[.int .i64 T,.int .i64 Z,.string z,.bool X,.slice E J O,.slice F P Q,.slice I V Y,.int .i64 yk,.int .i64 yv,.string C,.bool yn,.slice yA ya yc,.slice yB yd ye,.slice yX yl yq] 101)).alloc (.cells #[zY h,.bool och,.pointer none,.map none,.slice none 0 0,.slice (some ⟨w.heap.size+1+1,0,none⟩) 1 1] 106))):=
  ⟨⟨_,_,_,.slice none 0 0,g9,[],_,0,hS.below b4,xS.nil _ _,⟨fun _ _=>rfl,fun v hv=>.inl ⟨rfl,hz v hv⟩⟩,k0,.inl ⟨rfl,rfl,rfl⟩,j,.cons .nil (hx.stay e0) (hy.stay e0)⟩,e0,aD.of_below b4,b4.mono hB,by omega,zC hB b4.size⟩
 have d1:=(hS.below b4).blk0.cell 1;simp only[L3]at d1;have e7:Yd (B<=h):=hS.le;have HU:=zH hU;have HF:=zH hF;have h2:Yd (jb L (fun _=>none) [(x,y)] []):=.start k4 k5;clear hS hB hx hy b4 j6 j k0 e0 hz k4 k5 hU hF;go_enter func36,ntmps36;go_wp2_with fail;clear d1;generalize ((((w.alloc (.cells #[.int .i64 T,.int .i64 Z,.string z,.bool X,.slice E J O,.slice F P Q,.slice I V Y] 27)).alloc (.cells #[.int .i64 yk,.int .i64 yv,.string C,.bool yn,.slice yA ya yc,.slice yB yd ye,.slice yX yl yq] 27)).alloc (.cells #[.int .i64 T,.int .i64 Z,.string z,.bool X,.slice E J O,.slice F P Q,.slice I V Y,.int .i64 yk,.int .i64 yv,.string C,.bool yn,.slice yA ya yc,.slice yB yd ye,.slice yX yl yq] 101)).alloc (.cells #[.pointer (some ⟨h,0,none⟩),.bool och,.pointer none,.map none,.slice none 0 0,.slice (some ⟨w.heap.size+1+1,0,none⟩) 1 1] 106))=wi at d2 ⊢;generalize l1:(w.heap.size+1+1+1)=U at d2 ⊢;clear l1
 go_loopg [12] (33*(L.length*L.length)+1) (fun gk n4 wr=>∃ (b:Int->Option Tm) (S Mt:List (Tm×Tm)),Yd (iZ och (x,y) b S Mt)/\Yd (jb L b S Mt)/\mz L S Mt<=gk/\gk<=33*(L.length*L.length)+1/\Yd (UV och nm B h U G c f L w b S Mt wr))
 case atStart=>exact⟨_,_,_,.start,h2,by unfold mz;simp,zN _,d2⟩
 case round=>
  clear d2 h2;obtain⟨b,S,Mt,f2,b2,b0,c5,HV⟩:=hrel;obtain⟨N,M,st,tr,z,C,zs,m,hs,g8,d5,hu,g6,j,o⟩:=HV.o.ex;cases S with
  |nil=>
   obtain⟨A,k,rfl⟩:∃ A k,st=.slice A 0 k:=by
    rcases j.2 with ⟨h,_⟩|⟨g,k,_,h,_⟩
    ·exact⟨_,_,h⟩
    ·exact⟨_,_,h⟩
   have b3:Yd (ah wr U 106 #[zY h,.bool och,N,M,.slice none 0 0,.slice A 0 k]):=hu;have a1:=zH hs;have d0:=zH d5;have u5:=b3.o.cell 5;simp only[L3]at u5;clear hs g8 d5 hu g6 j o;go_wp2_with fail;refine (gz h _ tr wr a1.o.blk0).mono ?_;rintro e w1 ⟨rfl,e1⟩;have c4:aD [some 95] wr w1:=by rw[e1];exact (aD.refl _ _).setCell (p:=⟨h,1,none⟩) a1.o.blk0 (by decide) _
   have a2:=zH (b3.o.frT c4 (by decide));have b6:Below B wr w1:=by rw[e1];exact zB.setCell (p:=⟨h,1,none⟩) a1.o.le _
   have k8:Yd (dL nm w1 B h G c (.slice none 0 0) z 0 []):=by
    refine⟨?_,a1.o.le,ay a1.o.row0 c4 (by decide),World.ownsRow_nil _ _ _ _⟩;rw[e1];have:=a1.o.blk0.set_ 1 (.slice none 0 0);simpa using this
   have g7:cT (PT eo w) wr w1:=HV.o.stay.of_fr (c4.mono (by decide)) b6.size;have k6:Yd (lc och nm B h G c f L w (x,y) w1):=⟨b,Mt,z,f2.o,b2.o.low,k8.o,d0.o.stay g7,HV.o.stay.trans g7,HV.o.fr.trans (c4.mono (by decide)),HV.o.be.trans b6⟩;have v4:=a2.o.cell 4;simp only[L3]at v4;clear e1 c4 u5 b6 g7;go_wp2_with fail
   go_ret2
   exact .inl ⟨rfl,k6.o⟩
  |cons pq S=>
   cases o with
   |@cons zs _ p q cp cq o c3 f7=>
   have j3:((p,q)::S).length=S.length+1:=zV;have c2:=zm i4 c5 b0;rw[j3]at j c2;generalize c8:S.length+1=n1 at j;generalize j5:S.length=n at c8 c2;obtain⟨fk,fv,fs,fn,fA,fa,fc,fB,fd,fe,fX,fl,fq,rfl⟩:=c3.form;obtain⟨ok,ov,os,on,oA,oa,oc,oB,od,oe,oX,ol,oq,rfl⟩:=f7.form;obtain⟨i,k,rfl⟩:=Joins.ownsRow_form j (by omega);have i1:=zH c8;have k7:=zH j5;have b3:Yd (ah wr U 106 #[zY h,.bool och,N,M,.slice none 0 0,.slice (some ⟨i,0,none⟩) n1 k]):=hu;have a1:=zH hs;have f0:=zH j;have i3:=zH g8;have d0:=zH d5;have i0:=zH g6;have i2:=zH o;have h0:=zH c3;have h1:=zH f7;have d:=sa c8 j rfl;have a0:Yd (∀ W,zZ wr W->W.cell? ⟨U,5,none⟩=some (.slice (some ⟨i,0,none⟩) n1 k)/\W.cell? ⟨i,n*14,none⟩=some (.int .i64 fk)/\W.cell? ⟨i,n*14+1,none⟩=some (.int .i64 fv)/\W.cell? ⟨i,n*14+2,none⟩=some (.string fs)/\W.cell? ⟨i,n*14+3,none⟩=some (.bool fn)/\W.cell? ⟨i,n*14+4,none⟩=some (.slice fA fa fc)/\W.cell? ⟨i,n*14+5,none⟩=some (.slice fB fd fe)/\W.cell? ⟨i,n*14+6,none⟩=some (.slice fX fl fq)/\W.cell? ⟨i,n*14+7,none⟩=some (.int .i64 ok)/\W.cell? ⟨i,n*14+8,none⟩=some (.int .i64 ov)/\W.cell? ⟨i,n*14+9,none⟩=some (.string os)/\W.cell? ⟨i,n*14+10,none⟩=some (.bool on)/\W.cell? ⟨i,n*14+11,none⟩=some (.slice oA oa oc)/\W.cell? ⟨i,n*14+12,none⟩=some (.slice oB od oe)/\W.cell? ⟨i,n*14+13,none⟩=some (.slice oX ol oq)):=fun W hW=>by
    have l6:=b3.o.to hW;have l3:=ay (ts:=[]) j (aD.of_below hW) (by simp);have d:=sa c8 l3 rfl;exact⟨l6.cell 5,d 0 _ rfl,d 1 _ rfl,d 2 _ rfl,d 3 _ rfl,d 4 _ rfl,d 5 _ rfl,d 6 _ rfl,d 7 _ rfl,d 8 _ rfl,d 9 _ rfl,d 10 _ rfl,d 11 _ rfl,d 12 _ rfl,d 13 _ rfl⟩
   have u5:=b3.o.cell 5;simp only[L3]at u5;have l2:(0:Int)<(n1:Int):=by omega
   have d6:IntKind.i64.wrap ((n1:Int)-1)=(n:Int):=by rw[IntWalk.i64_in _ (by omega)];omega
   have d7:(0:Int)<=(n:Int):=by omega
   have d8:(n:Int)<(n1:Int):=by omega
   have HI:=zH (zW d6 (zW d7 d8));clear d6 d7 d8 hs g8 d5 hu g6 j o c3 f7 d c8 j5 c2 j3;go_wp2_with fail;clear u5 l2;have b6:=(Below.refl wr.heap.size wr).drew;have j0:=(ae wr (.cells #[.int .i64 0,.int .i64 0,.string ⟨#[]⟩,.bool false,.slice none 0 0,.slice none 0 0,.slice none 0 0,.int .i64 0,.int .i64 0,.string ⟨#[]⟩,.bool false,.slice none 0 0,.slice none 0 0,.slice none 0 0] 101)).drew;have f6:=(ae wr (.cells #[.int .i64 fk,.int .i64 fv,.string fs,.bool fn,.slice fA fa fc,.slice fB fd fe,.slice fX fl fq,.int .i64 ok,.int .i64 ov,.string os,.bool on,.slice oA oa oc,.slice oB od oe,.slice oX ol oq] 101)).drew;have l4:=a0.o _ b6;have c9:=a0.o _ j0;have l5:=a0.o _ f6;have b8:=zH f6;have e9:=zH (ah.new wr 101 #[.int .i64 fk,.int .i64 fv,.string fs,.bool fn,.slice fA fa fc,.slice fB fd fe,.slice fX fl fq,.int .i64 ok,.int .i64 ov,.string os,.bool on,.slice oA oa oc,.slice oB od oe,.slice oX ol oq]).drew;clear b6 j0 f6;obtain⟨d6,d7,d8⟩:=HI.o
   go_region_held3 (fun w'=>w'.cell? ⟨U,5,none⟩=some (.slice (some ⟨i,0,none⟩) n1 k)/\w'.cell? ⟨i,n*14,none⟩=some (.int .i64 fk)/\w'.cell? ⟨i,n*14+1,none⟩=some (.int .i64 fv)/\w'.cell? ⟨i,n*14+2,none⟩=some (.string fs)/\w'.cell? ⟨i,n*14+3,none⟩=some (.bool fn)/\w'.cell? ⟨i,n*14+4,none⟩=some (.slice fA fa fc)/\w'.cell? ⟨i,n*14+5,none⟩=some (.slice fB fd fe)/\w'.cell? ⟨i,n*14+6,none⟩=some (.slice fX fl fq)/\w'.cell? ⟨i,n*14+7,none⟩=some (.int .i64 ok)/\w'.cell? ⟨i,n*14+8,none⟩=some (.int .i64 ov)/\w'.cell? ⟨i,n*14+9,none⟩=some (.string os)/\w'.cell? ⟨i,n*14+10,none⟩=some (.bool on)/\w'.cell? ⟨i,n*14+11,none⟩=some (.slice oA oa oc)/\w'.cell? ⟨i,n*14+12,none⟩=some (.slice oB od oe)/\w'.cell? ⟨i,n*14+13,none⟩=some (.slice oX ol oq))
    (first|assumption|(go_keep;done))
    (fail)
   clear l4 c9 l5 a0;generalize l7:World.drew _=y1 at b8 e9 ⊢;clear l7;have a2:=zH (b3.o.to b8.o);have c3:(n:Int)<=(k:Int):=by
    have:=pP f0.o;have:=i1.o;omega
   have u5:=a2.o.cell 5;have fu:=a2.o.frozen 5;have e5:=a2.o.drew.cell 5;have k9:=a2.o.drew.frozen 5;simp only[L3]at u5 e5;go_wp2_with fail
   go_region_law (fail)
   all_goals
    clear u5 fu e5 k9 c3 d6 d7 d8 HI;have g3:aD [some 106] y1 (y1.setCell ⟨U,5,none⟩ (.slice (some ⟨i,0,none⟩) n k)):=(aD.refl _ _).setCell (p:=⟨U,5,none⟩) a2.o (by decide) _;have d4:Below B wr (y1.setCell ⟨U,5,none⟩ (.slice (some ⟨i,0,none⟩) n k)).drew:=((b8.o.mono HV.o.sz).setCell (p:=⟨U,5,none⟩) HV.o.leU _).drew;have b7:aD [some 106] wr (y1.setCell ⟨U,5,none⟩ (.slice (some ⟨i,0,none⟩) n k)).drew:=((aD.of_below b8.o).trans g3).drew;have a3:cT (PT eo w) wr (y1.setCell ⟨U,5,none⟩ (.slice (some ⟨i,0,none⟩) n k)).drew:=HV.o.stay.of_fr (b7.mono (by decide)) d4.size;have k3:AS och (y1.setCell ⟨U,5,none⟩ (.slice (some ⟨i,0,none⟩) n k)).drew U h N M (.slice (some ⟨i,0,none⟩) n k):=by
     have:=(a2.o.set_ 5 (.slice (some ⟨i,0,none⟩) n k)).drew;simp only[L1]at this;exact this
    have j7:=ay (Cg i1.o f0.o rfl) b7 (by decide);have c9:=a1.o.frT b7 (by decide) (by decide) (by decide);have c1:=zH (d0.o.stay a3);have e2:=zH (h0.o.stay a3);have e3:=zH (h1.o.stay a3);have d3:=zH c9;have f3:Yd (UV och nm B h U G c f L w b S Mt (y1.setCell ⟨U,5,none⟩ (.slice (some ⟨i,0,none⟩) n k)).drew):=
     ⟨⟨N,M,_,tr,z,C,zs,m,c9,i3.o,c1.o,k3,i0.o.frT b7 (by decide) (by decide) (by decide),by rw[k7.o];exact j7,i2.o.stay a3⟩,HV.o.stay.trans a3,HV.o.fr.trans (b7.mono (by decide)),HV.o.be.trans d4,HV.o.leU,zC HV.o.sz d4.size⟩
    have e8:=zH (e9.o.frT g3 (by decide)).drew;clear g3 d4 b7 a3 k3 j7 c9;generalize l8:World.drew _=y2 at c1 e2 e3 d3 f3 e8 ⊢;clear l8 a2 e9 b8 a1 f0 b3 d0 h0 h1 i0 i2 HV i3;have o:=b2.o.stk _ (List.mem_cons_self);obtain⟨na,x',n2,j1,g1,f8,c6,g4⟩:=lA c1.o HU.o b2.o.low nm p _ o.1 e2.o (fun v e=>by have:=HU.o.2 _ o.1 v e;omega);obtain⟨nb,y',n3,j2,g2,g0,c7,g5⟩:=lA c1.o HU.o b2.o.low nm q _ o.2 e3.o (fun v e=>by have:=HU.o.2 _ o.2 v e;omega);obtain⟨rk,rv,rs,rn,rA,ra,rc,rB,rd,re,rX,rl,rq,rfl⟩:=f8.form;obtain⟨pk,pv,ps,pn,pA,pa,pc,pB,pd,pe,pX,pl,pq,rfl⟩:=g0.form;have e4:Yd (∀ W,zZ y2 W->Calls prog 59 #[zY h,.agg (zX fk fv fs fn fA fa fc fB fd fe fX fl fq).toArray] W fun e w'=>e=.returned (.agg (zX rk rv rs rn rA ra rc rB rd re rX rl rq).toArray)/\Yd (zZ y2 w')):=fun W hW=>
     (jM nm B h G c m tr z C na fk fv fs fn fA fa fc fB fd fe fX fl fq rk rv rs rn rA ra rc rB rd re rX rl rq W j1 (d3.o.below hW)).mono (by
      rintro e w' ⟨rfl,hb⟩;exact⟨rfl,hW.trans (hb.mono hW.size)⟩)
    have e6:Yd (∀ W,zZ y2 W->Calls prog 59 #[zY h,.agg (zX ok ov os on oA oa oc oB od oe oX ol oq).toArray] W fun e w'=>e=.returned (.agg (zX pk pv ps pn pA pa pc pB pd pe pX pl pq).toArray)/\Yd (zZ y2 w')):=fun W hW=>
     (jM nm B h G c m tr z C nb ok ov os on oA oa oc oB od oe oX ol oq pk pv ps pn pA pa pc pB pd pe pX pl pq W j2 (d3.o.below hW)).mono (by
      rintro e w' ⟨rfl,hb⟩;exact⟨rfl,hW.trans (hb.mono hW.size)⟩)
    have c2:S.length<=100000000000:=by
     have:=zm i4 c5 b0;rw[zV]at this;omega
    have f4:=(HU.o.1.2 _ c6).1;have f5:=(HU.o.1.2 _ c7).1;obtain⟨r,hr⟩:∃ r,dJ och b x' y'=r:=⟨_,rfl⟩;have f1:Yd (∀ W,zZ y2 W->Calls prog 58 #[zY U,.agg (zX rk rv rs rn rA ra rc rB rd re rX rl rq).toArray,.agg (zX pk pv ps pn pA pa pc pB pd pe pX pl pq).toArray] W fun e w'=>e=.returned (.bool r)/\Yd ((aD eo w w'/\Below B w w')/\(r=true->∃ (b':Int->Option Tm) (N' t:List (Tm×Tm)),UV och nm B h U G c f L w b' (N'++S) t w'/\iZ och (x,y) b' (N'++S) t/\jb L b' (N'++S) t/\mz L (N'++S) t<mz L ((p,q)::S) Mt)/\(r=false->Calls prog 60 #[zY h,.int .i64 0] w' (fun e w6=>e=.returned (.tuple #[])/\(∃ b5,ah w6 h 95 #[Dq G nm c,b5,.slice none 0 0])/\aD [some 95,some 98] w' w6/\Below B w' w6)/\∀ w7,aD eo w w7->Below B w w7->kZ och B w (x,y) w7))):=fun W hW=>by
     have a3:cT (PT eo w) y2 W:=.of_below hW;refine (Cp HU.o j4 b2.o.low HF.o l0 (f3.o.below hW) (f8.stay a3) (g0.stay a3) c6 c7 g4 g5 c2).mono ?_;rintro e w' ⟨rfl,b',N',t,q1,q2⟩;refine⟨by rw[hr],⟨q1.fr,q1.be⟩,fun e=>?_,fun e=>⟨?_,fun w7 k1 k2=>?_⟩⟩
     ·have q3:=q2 (hr.trans e);exact⟨b',N',t,q1,f2.o.step (.mk g1 g2 f4 f5 q3),b2.o.stp HU.o c6 c7 q3,b2.o.mz HU.o c6 c7 q3⟩
     ·obtain⟨_,_,_,_,_,_,_,_,k1,k2,_⟩:=q1.ex;exact Bc k1 k2 j4 q1.sz
     ·exact⟨b,S,Mt,p,q,f2.o,⟨x',y',g1,g2,f4,f5,g4,g5,hr.trans e⟩,k1,k2⟩
    clear f3 d3 c1 e2 e3 f8 g0 j1 j2 g1 g2 g4 g5 c6 c7 f4 f5 hr o;have a:Yd (∀ W,zZ y2 W->ah W wr.heap.size 101 #[.int .i64 fk,.int .i64 fv,.string fs,.bool fn,.slice fA fa fc,.slice fB fd fe,.slice fX fl fq,.int .i64 ok,.int .i64 ov,.string os,.bool on,.slice oA oa oc,.slice oB od oe,.slice oX ol oq]):=fun W hW=>e8.o.to hW;clear e8;have l:zZ y2 y2.drew:=zB.drew;have p0:=(a.o _ l).cell 0;have p1:=(a.o _ l).cell 1;have p2:=(a.o _ l).cell 2;have p3:=(a.o _ l).cell 3;have p4:=(a.o _ l).cell 4;have p5:=(a.o _ l).cell 5;have p6:=(a.o _ l).cell 6;have p7:=(a.o _ l).cell 7;have p8:=(a.o _ l).cell 8;have p9:=(a.o _ l).cell 9;have m1:=(a.o _ l).cell 10;have m2:=(a.o _ l).cell 11;have m3:=(a.o _ l).cell 12;have m4:=(a.o _ l).cell 13;simp only[L3]at p0 p1 p2 p3 p4 p5 p6 p7 p8 p9 m1 m2 m3 m4;go_wp2_with fail;refine wp_region_held_drew (S:=fun _=>True) (by kernel_rfl) trivial (fun hHeld=>?_)
    (refine zT 0 ?_;try simp only[Act.put,L1,L2])
    (refine zT 1 ?_;try simp only[Act.put,L1,L2])
    (refine zT 2 ?_;try simp only[Act.put,L1,L2])
    (refine zT 5 ?_;try simp only[Act.put,L1,L2])
    (refine zT 6 ?_;try simp only[Act.put,L1,L2])
    (refine wpAnyH_ready (rs:=[3,7]) (by kernel_rfl) (by simp) ?_;refine AllReadyH.cons rfl (fun K hK=>?_) (AllReadyH.cons rfl (fun K hK=>?_) AllReadyH.nil))
    ·go_simp;refine hK.out _ _ trivial (fun hHeld=>?_);clear hK K
     (try simp only[Act.put,L1,L2])
     (refine wpAnyH_ready (rs:=[4,7]) (by kernel_rfl) (by simp) ?_;refine AllReadyH.cons rfl (fun K hK=>?_) (AllReadyH.cons rfl (fun K hK=>?_) AllReadyH.nil))
     ·go_simp;refine (e4.o _ l).mono ?_;rintro e w3 ⟨rfl,h3⟩;refine hK.out _ _ trivial (fun hHeld=>?_);clear hK K
      (try simp only[Act.put,L1,L2])
      have q0:=(a.o _ h3.out).cell 0;have q1:=(a.o _ h3.out).cell 1;have q2:=(a.o _ h3.out).cell 2;have q3:=(a.o _ h3.out).cell 3;have q4:=(a.o _ h3.out).cell 4;have q5:=(a.o _ h3.out).cell 5;have q6:=(a.o _ h3.out).cell 6;have q7:=(a.o _ h3.out).cell 7;have q8:=(a.o _ h3.out).cell 8;have q9:=(a.o _ h3.out).cell 9;have m5:=(a.o _ h3.out).cell 10;have m7:=(a.o _ h3.out).cell 11;have m8:=(a.o _ h3.out).cell 12;have n0:=(a.o _ h3.out).cell 13;simp only[L3]at q0 q1 q2 q3 q4 q5 q6 q7 q8 q9 m5 m7 m8 n0
      (refine zR 7 fun K hK=>?_)
      go_simp;refine hK.out _ _ trivial (fun hHeld=>?_);clear hK K
      (try simp only[Act.put,L1,L2])
      (refine zR 8 fun K hK=>?_)
      go_simp;refine (e6.o _ h3.out).mono ?_;rintro e w4 ⟨rfl,h4⟩;refine hK.out _ _ trivial (fun hHeld=>?_);clear hK K
      (try simp only[Act.put,L1,L2])
      (refine zR 9 fun K hK=>?_)
      go_simp;refine (f1.o _ h4.out).mono ?_;rintro e w5 ⟨rfl,h5⟩;refine hK.out _ _ trivial (fun hHeld=>?_);clear hK K
      (try simp only[Act.put,L1,L2])
      (refine zT 10 ?_;try simp only[Act.put,L1,L2])
      (refine wpAnyH_done (by kernel_rfl) ?_ _)
      cases hr:r with
      |true=>
       subst hr;go_wp2_with fail;obtain⟨b',N',t,h6,h7,h8,h9⟩:=h5.out.2.1 (by first|rfl|trivial);have H6:=zH h6;have H7:=zH h7;have H8:=zH h8;have H9:=zH h9;clear h6 h7 h8 h9
       go_roundg (mz L (N'++S) t)
       case measure=>exact zD H9.o b0
       case rel=>exact⟨b',N'++S,t,H7.o,H8.o,zN _,zC (Nat.le_of_lt (zD H9.o b0)) c5,H6.o⟩
      |false=>
       subst hr;obtain⟨a8,d⟩:=h5.out.2.2 rfl;have c0:=zH a8;have a0:=zH d;clear a8 d;go_wp2_with fail;refine c0.o.mono ?_;rintro e w6 ⟨rfl,⟨b5,a7⟩,a9,D⟩;have a5:=zH (zW a9 D);have a4:=zH a7;clear a9 D a7;go_wp2_with fail;refine (gz h _ b5 w6 a4.o).mono ?_;rintro e w7 ⟨rfl,b1⟩;have a6:Yd (aD eo w w7/\Below B w w7):=by
        rw[b1];exact⟨((h5.out.1.1.trans (a5.o.1.mono (by decide))).setCell (p:=⟨h,1,none⟩) a4.o (by decide) _),(h5.out.1.2.trans a5.o.2).setCell (p:=⟨h,1,none⟩) e7.o _⟩
       clear b1;go_wp2_with fail
       go_ret2
       exact .inr ⟨rfl,a0.o _ a6.o.1 a6.o.2⟩
     ·go_simp;refine hK.out _ _ trivial (fun hHeld=>?_);clear hK K
      (try simp only[Act.put,L1,L2])
      (refine zR 4 fun K hK=>?_)
      go_simp;refine (e4.o _ l).mono ?_;rintro e w3 ⟨rfl,h3⟩;refine hK.out _ _ trivial (fun hHeld=>?_);clear hK K
      (try simp only[Act.put,L1,L2])
      (refine zR 8 fun K hK=>?_)
      go_simp;refine (e6.o _ h3.out).mono ?_;rintro e w4 ⟨rfl,h4⟩;refine hK.out _ _ trivial (fun hHeld=>?_);clear hK K
      (try simp only[Act.put,L1,L2])
      (refine zR 9 fun K hK=>?_)
      go_simp;refine (f1.o _ h4.out).mono ?_;rintro e w5 ⟨rfl,h5⟩;refine hK.out _ _ trivial (fun hHeld=>?_);clear hK K
      (try simp only[Act.put,L1,L2])
      (refine zT 10 ?_;try simp only[Act.put,L1,L2])
      (refine wpAnyH_done (by kernel_rfl) ?_ _)
      cases hr:r with
      |true=>
       subst hr;go_wp2_with fail;obtain⟨b',N',t,h6,h7,h8,h9⟩:=h5.out.2.1 (by first|rfl|trivial);have H6:=zH h6;have H7:=zH h7;have H8:=zH h8;have H9:=zH h9;clear h6 h7 h8 h9
       go_roundg (mz L (N'++S) t)
       case measure=>exact zD H9.o b0
       case rel=>exact⟨b',N'++S,t,H7.o,H8.o,zN _,zC (Nat.le_of_lt (zD H9.o b0)) c5,H6.o⟩
      |false=>
       subst hr;obtain⟨a8,d⟩:=h5.out.2.2 rfl;have c0:=zH a8;have a0:=zH d;clear a8 d;go_wp2_with fail;refine c0.o.mono ?_;rintro e w6 ⟨rfl,⟨b5,a7⟩,a9,D⟩;have a5:=zH (zW a9 D);have a4:=zH a7;clear a9 D a7;go_wp2_with fail;refine (gz h _ b5 w6 a4.o).mono ?_;rintro e w7 ⟨rfl,b1⟩;have a6:Yd (aD eo w w7/\Below B w w7):=by
        rw[b1];exact⟨((h5.out.1.1.trans (a5.o.1.mono (by decide))).setCell (p:=⟨h,1,none⟩) a4.o (by decide) _),(h5.out.1.2.trans a5.o.2).setCell (p:=⟨h,1,none⟩) e7.o _⟩
       clear b1;go_wp2_with fail
       go_ret2
       exact .inr ⟨rfl,a0.o _ a6.o.1 a6.o.2⟩
    ·go_simp;refine hK.out _ _ trivial (fun hHeld=>?_);clear hK K
     (try simp only[Act.put,L1,L2])
     (refine zR 3 fun K hK=>?_)
     go_simp;refine hK.out _ _ trivial (fun hHeld=>?_);clear hK K
     (try simp only[Act.put,L1,L2])
     (refine zR 4 fun K hK=>?_)
     go_simp;refine (e4.o _ l).mono ?_;rintro e w3 ⟨rfl,h3⟩;refine hK.out _ _ trivial (fun hHeld=>?_);clear hK K
     (try simp only[Act.put,L1,L2])
     (refine zR 8 fun K hK=>?_)
     go_simp;refine (e6.o _ h3.out).mono ?_;rintro e w4 ⟨rfl,h4⟩;refine hK.out _ _ trivial (fun hHeld=>?_);clear hK K
     (try simp only[Act.put,L1,L2])
     (refine zR 9 fun K hK=>?_)
     go_simp;refine (f1.o _ h4.out).mono ?_;rintro e w5 ⟨rfl,h5⟩;refine hK.out _ _ trivial (fun hHeld=>?_);clear hK K
     (try simp only[Act.put,L1,L2])
     (refine zT 10 ?_;try simp only[Act.put,L1,L2])
     (refine wpAnyH_done (by kernel_rfl) ?_ _)
     cases hr:r with
     |true=>
      subst hr;go_wp2_with fail;obtain⟨b',N',t,h6,h7,h8,h9⟩:=h5.out.2.1 (by first|rfl|trivial);have H6:=zH h6;have H7:=zH h7;have H8:=zH h8;have H9:=zH h9;clear h6 h7 h8 h9
      go_roundg (mz L (N'++S) t)
      case measure=>exact zD H9.o b0
      case rel=>exact⟨b',N'++S,t,H7.o,H8.o,zN _,zC (Nat.le_of_lt (zD H9.o b0)) c5,H6.o⟩
     |false=>
      subst hr;obtain⟨a8,d⟩:=h5.out.2.2 rfl;have c0:=zH a8;have a0:=zH d;clear a8 d;go_wp2_with fail;refine c0.o.mono ?_;rintro e w6 ⟨rfl,⟨b5,a7⟩,a9,D⟩;have a5:=zH (zW a9 D);have a4:=zH a7;clear a9 D a7;go_wp2_with fail;refine (gz h _ b5 w6 a4.o).mono ?_;rintro e w7 ⟨rfl,b1⟩;have a6:Yd (aD eo w w7/\Below B w w7):=by
       rw[b1];exact⟨((h5.out.1.1.trans (a5.o.1.mono (by decide))).setCell (p:=⟨h,1,none⟩) a4.o (by decide) _),(h5.out.1.2.trans a5.o.2).setCell (p:=⟨h,1,none⟩) e7.o _⟩
      clear b1;go_wp2_with fail
      go_ret2
      exact .inr ⟨rfl,a0.o _ a6.o.1 a6.o.2⟩
end Go.Proofs.YtlhojoefhannnaaGreat
