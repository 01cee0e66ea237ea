/- fetterlocklaw2.bound. And 1 more texts. -/
import Derived.Test.YtlhojoefhannnaaGreatJx29
set_option linter.unusedVariables false
set_option linter.unusedSimpArgs false
set_option maxRecDepth 100000
set_option maxHeartbeats 51200000
namespace Go.Proofs.YtlhojoefhannnaaGreat
open Go.Proofs.Tryz Go.RowKit NumB
def SH (w:World) (B g h n:Nat):Prop:=∃ A c,ah w g 86 #[.pointer (some ⟨h,0,none⟩)]/\ew w B h A n c (.slice none 0 0) (List.replicate n zc).flatten
theorem SH.below {w w':World} {B g h n:Nat} (e:SH w B g h n) (a:zZ w w'):SH w' B g h n:=by
 obtain⟨A,c,b,d⟩:=e;exact⟨A,c,b.to a,d.kept (p:=fun _=>False) (ag.of_below a) (fun h=>h) (fun _ _ h=>h)⟩
theorem C6 (w:World):Calls prog 21 #[] w fun e w'=>e=.returned (.pointer (some ⟨w.heap.size+1,0,none⟩))/\SH w' w.heap.size (w.heap.size+1) w.heap.size 0/\zZ w w':=by
 refine (sH w).mono ?_;rintro e w' ⟨rfl,rfl⟩;have a:ah ((w.alloc (.cells #[.slice none 0 0,.slice none 0 0,.slice none 0 0] 95)).alloc (.cells #[.pointer (some ⟨w.heap.size,0,none⟩)] 86)) w.heap.size 95 #[.slice none 0 0,.slice none 0 0,.slice none 0 0]:=(ah.new w _ _).alloc _;have b:ah ((w.alloc (.cells #[.slice none 0 0,.slice none 0 0,.slice none 0 0] 95)).alloc (.cells #[.pointer (some ⟨w.heap.size,0,none⟩)] 86)) (w.heap.size+1) 86 #[.pointer (some ⟨w.heap.size,0,none⟩)]:=by
  have:=ah.new (w.alloc (.cells #[.slice none 0 0,.slice none 0 0,.slice none 0 0] 95)) 86 #[.pointer (some ⟨w.heap.size,0,none⟩)];rw[show (w.alloc (.cells #[.slice none 0 0,.slice none 0 0,.slice none 0 0] 95)).heap.size=w.heap.size+1 by simp]at this;exact this
 exact⟨rfl,⟨none,0,b,a,zN _,World.ownsRow_nil _ _ _ _⟩,ax w _ _⟩
theorem sr (B g h n:Nat) (w:World) (t:n<=1000) (q:B<=w.heap.size) (r:SH w B g h n):Calls prog 22 #[.pointer (some ⟨g,0,none⟩)] w fun e w'=>e=.returned (.agg (vt n).toArray)/\SH w' B g h (n+1)/\Below B w w':=by
 obtain⟨A,c,d,b⟩:=r;refine (wv B g h A n c _ _ w (by omega) d b).mono ?_;rintro e w' ⟨l,m,rfl,p,j⟩;refine⟨rfl,⟨l,m,j.blk d ?_,?_⟩,j.below q ?_⟩
 ·rintro (e|⟨a,f,e⟩)
  ·subst e;have o:w.heap[g]?=some (.cells _ 86 (0,0)):=d;have i:w.heap[g]?=some (.cells _ 95 (0,0)):=b.1;rw[o]at i;simp at i
  ·exact jT d b.2.2 (by decide) ⟨a,f,e⟩
 ·rw[List.replicate_succ',List.flatten_append];simpa using p
 ·rintro k (rfl|⟨a,f,rfl⟩)
  ·exact b.2.1
  ·exact (b.row_lt f).2
theorem SH.hs {w:World} {B g h:Nat} (j:SH w B g h 2):∃ G c,ah w g 86 #[.pointer (some ⟨h,0,none⟩)]/\HS w B h G c (.slice none 0 0) (zc++zc) 0 []:=by
 obtain⟨A,c,d,f,i,a⟩:=j;obtain⟨G,b,e⟩:=Joins.ownsRow_form a (by omega);cases e;exact⟨G,c,d,f,i,a,World.ownsRow_nil _ _ _ _⟩
def BJ (w:World) (z:Nat) (W:World):Prop:=SH W w.heap.size (w.heap.size+1) w.heap.size 2/\ah W z 27 #[.int .i64 1,.int .i64 0,.string ⟨#[]⟩,.bool false,.slice none 0 0,.slice none 0 0,.slice none 0 0]/\ah W (z+1) 27 #[.int .i64 1,.int .i64 1,.string ⟨#[]⟩,.bool false,.slice none 0 0,.slice none 0 0,.slice none 0 0]/\zZ w W
theorem BJ.below {w W b:World} {z:Nat} (j:BJ w z W) (a:zZ W b):BJ w z b:=⟨j.1.below a,j.2.1.to a,j.2.2.1.to a,j.2.2.2.trans (a.mono j.2.2.2.size)⟩
theorem Cr (k v:Int) (a:aG k) (c:aG v) (s:ByteArray) (b:s.size<=maxLen) (W:World):TC W (Tm.mk k v s ⟨false,[],[]⟩ []) [.int .i64 k,.int .i64 v,.string s,.bool false,.slice none 0 0,.slice none 0 0,.slice none 0 0]:=
 .mk k v s ⟨false,[],[]⟩ [] (.slice none 0 0) (.slice none 0 0) none 0 (fun _=>[]) a c b (dj W _) (dj W _) ⟨Ok.nil,Ok.nil⟩ zA (by decide) (fun h=>by simp at h) (fun i h=>by simp at h)
def fF (x y:Tm):Tm:=Tm.mk 5 0 ⟨#[102]⟩ ⟨false,[],[]⟩ [x,y]
theorem CF {W:World} {b:Nat} {x y:Tm} {x0 x1 x2 x3 x4 x5 x6 e f g k l m n:Value} (h:ah W b 27 #[x0,x1,x2,x3,x4,x5,x6,e,f,g,k,l,m,n]) (o:TC W x [x0,x1,x2,x3,x4,x5,x6]) (p:TC W y [e,f,g,k,l,m,n]):TC W (fF x y) [.int .i64 5,.int .i64 0,.string ⟨#[102]⟩,.bool false,.slice none 0 0,.slice none 0 0,.slice (some ⟨b,0,none⟩) 2 2]:=
 .mk 5 0 ⟨#[102]⟩ ⟨false,[],[]⟩ [x,y] (.slice none 0 0) (.slice none 0 0) (some ⟨b,0,none⟩) 2 (fun i=>if i=0 then [x0,x1,x2,x3,x4,x5,x6] else [e,f,g,k,l,m,n]) ⟨by decide,by decide⟩ ⟨by decide,by decide⟩ (by decide) (dj W _) (dj W _) ⟨Ok.nil,Ok.nil⟩ zA (by decide)
  (fun _=>⟨b,0,rfl,h.lt,fun i a j q=>by
   have a:i<2:=a;rw[h.cell];have c:i=0\/i=1:=by omega
   have d:j=0\/j=1\/j=2\/j=3\/j=4\/j=5\/j=6:=by omega
   rcases c with rfl|rfl<;>rcases d with rfl|rfl|rfl|rfl|rfl|rfl|rfl<;>rfl⟩)
  (fun i a=>by
   have a:i<2:=a;have:i=0\/i=1:=by omega
   rcases this with rfl|rfl
   ·exact o
   ·exact p)
def fA:Tm:=fF (.var 0) tmA
def fB:Tm:=fF (.var 1) (.var 0)
theorem qV:(fA.check=0/\fA.lt ((2:Nat):Int)=true)/\(fB.check=0/\fB.lt ((2:Nat):Int)=true)/\Vt (fun i=>0<=i/\i<((2:Nat):Int)) fA/\Vt (fun i=>0<=i/\i<((2:Nat):Int)) fB:=by
 have c:fA.count=3:=by simp[fA,fF,tmA,Tm.var,Tm.count,am]
 have e:fB.count=3:=by simp[fB,fF,tmA,Tm.var,Tm.count,am]
 have a:fA.err0=0:=by simp[fA,fF,tmA,Tm.var,Tm.err0,bH,au,bf,ByteArray.size]
 have b:fB.err0=0:=by simp[fB,fF,tmA,Tm.var,Tm.err0,bH,au,bf,ByteArray.size]
 have d:∀ x y:Tm,fF x y=.mk 5 0 ⟨#[102]⟩ ⟨false,[],[]⟩ [x,y]:=fun _ _=>rfl;refine⟨⟨by unfold Tm.check;rw[c,a];rfl,by simp[fA,fF,tmA,Tm.var,Tm.lt,tW]⟩,⟨by unfold Tm.check;rw[e,b];rfl,by simp[fB,fF,tmA,Tm.var,Tm.lt,tW]⟩,⟨a,?_⟩,b,?_⟩
 ·exact⟨by simp[fA,fF,tmA,Tm.var,Tm.fine,ed,au,bf,LN.ok,Ok.nil,ByteArray.size],by simp[fA,fF,tmA,Tm.var,Tm.sm,xT],by simp[fA,fF,tmA,Tm.var,Tm.allV,bL]⟩
 ·exact⟨by simp[fB,fF,tmA,Tm.var,Tm.fine,ed,au,bf,LN.ok,Ok.nil,ByteArray.size],by simp[fB,fF,tmA,Tm.var,Tm.sm,xT],by simp[fB,fF,tmA,Tm.var,Tm.allV,bL]⟩
theorem qq.res {w W:World} {B h G c:Nat} (k:qq w B h G c fA fB W):CK h W/\∃ xs,∀ V,zZ W V->HS V B h G c (.slice none 0 0) xs 0 []:=by
 obtain⟨P,f,β,xs,a,h1,O,Q,l⟩:=k;refine⟨?_,xs,fun V b=>(l V b).1⟩;have M:fA.sb a=fB.sb a:=(h1.2 a).1 O.2.1;have Z:a 0=a 1/\tmA=a 0:=by
  unfold fA fB fF tmA at M;rw[bX a (by decide),bX a (by decide)]at M;simp only[bA,bE,bZ,Tm.mk.injEq,List.cons.injEq,and_true,true_and]at M;rw[bX a (by decide),bE]at M;exact M
 have e3:a 1=tmA:=Z.1.symm.trans Z.2.symm;have U:=(mF (nm:=2) (by omega) qV.2.2.1 qV.2.2.2 (aQ qV.1.1).1 (aQ qV.2.1.1).1).1;have kd:∀ t v,β v=some t->t.sb a=tmA->(∀ j V,cU P f V t j->uJ j)\/∃ u,t=.var u/\0<=u/\u<v:=fun t v d ht=>by
  obtain⟨k,i,s,n,a5⟩:=t;by_cases hk:k=1
  ·have e:=aK (U.1.2 _ (Q v _ d).1).1 hk;exact .inr ⟨i,e,(U.2 _ (Q v _ d).1 i e).1,(Q v _ d).2 i e⟩
  ·rw[bX a hk]at ht;have a8:k=3:=by
    unfold tmA at ht;exact (Tm.mk.inj ht).1
   refine .inl fun j V S=>?_;obtain⟨C,J,I,E,o,x,y,p,z,A,r,D,F,rfl⟩:=S.form;cases S;exact⟨_,_,_,_,_,_,_,_,_,_,_,_,_,rfl,hk,by omega⟩
 have g:∀ v:Nat,v<2->a (v:Int)=tmA->∃ t j,β (v:Int)=some t/\t.sb a=tmA/\DB xs v j/\∀ V,zZ W V->cU P f V t j:=fun v hv Y=>by
  rcases (l W zB).2.cell v hv with ⟨hn,_⟩|⟨t,j,d,S,hq⟩
  ·rw[O.1 _ hn]at Y;unfold tmA Tm.var at Y;exact absurd (Tm.mk.inj Y).1 (by decide)
  ·refine⟨t,j,d,by rw[<-O.2.1 _ _ d,Y],fun q u hu=>?_,fun V b=>?_⟩
   ·rw[hq q ?_]
    ·exact hu
    ·obtain⟨C,J,I,E,o,x,y,p,z,A,r,D,F,rfl⟩:=S.form;have:=(zK hu).1;simpa[iP] using this
   ·rcases (l V b).2.cell v hv with ⟨hn,_⟩|⟨t2,a7,a2,T,a3⟩
    ·rw[hn]at d;cases d
    ·rw[a2]at d;cases d;obtain⟨C,J,I,E,o,x,y,p,z,A,r,D,F,rfl⟩:=S.form;obtain⟨rk,rv,rs,rn,rA,ra,rc,rB,rd,re,rX,rl,rq,rfl⟩:=T.form;have e:∀ q,q<9->(iP [.int .i64 C,.int .i64 J,.string I,.bool E,.slice o x y,.slice p z A,.slice r D F])[q]?=(iP [.int .i64 rk,.int .i64 rv,.string rs,.bool rn,.slice rA ra rc,.slice rB rd re,.slice rX rl rq])[q]?:=fun q X=>(hq q X).symm.trans (a3 q X);have g1:=e 1 (by omega);have g2:=e 2 (by omega);have g3:=e 3 (by omega);have g4:=e 4 (by omega);have g5:=e 5 (by omega);have g6:=e 6 (by omega);have g7:=e 7 (by omega);simp[iP]at g1 g2 g3 g4 g5 g6 g7;obtain⟨rfl,rfl,rfl⟩:=g5;obtain⟨rfl,rfl,rfl⟩:=g6;obtain⟨rfl,rfl,rfl⟩:=g7;subst g1 g2 g3 g4;exact T
 have ch:CI xs:=by
  obtain⟨t1,c1,b1,s1,a1,L⟩:=g 1 (by omega) e3;refine⟨c1,a1,?_⟩;rcases kd _ _ b1 s1 with hl|⟨u,rfl,a4,m⟩
  ·exact .inl (hl _ _ (L W zB))
  ·obtain rfl:u=0:=by simp at m;omega
   obtain⟨t0,c0,b0,s0,a0,q0⟩:=g 0 (by omega) Z.2.symm;refine .inr ⟨?_,c0,a0,?_⟩
   ·have:=L W zB;obtain⟨C,J,I,E,o,x,y,p,z,A,r,D,F,rfl⟩:=this.form;unfold Tm.var at this;cases this;exact⟨_,_,_,_,_,_,_,_,_,_,_,rfl⟩
   ·rcases kd _ _ b0 s0 with hl|⟨u,rfl,a4,m⟩
    ·exact hl _ _ (q0 W zB)
    ·simp at m;omega
 have ev:(Tm.var ((1:Nat):Int)).sb a=tmA:=by rw[bZ];exact e3
 refine⟨fun V b=>Bu ch V (l V b).1,fun V b=>?_,fun V b=>?_⟩
 ·have h:=vE (N:=10000) (by omega) (by omega) (l V b).1 (l V b).2 U Q O (Cu (i:=1) (by omega)) (.var ⟨by omega,by omega⟩);rw[ev,show cz 10000 tmA=1 by simp[cz,tmA,Tm.count,am]]at h;exact h
 ·refine (vG (l V b).1 (l V b).2 U Q O _ (.var ((1:Nat):Int)) _ (Nat.lt_succ_self _) (Cu (i:=1) (by omega)) (.var ⟨by omega,by omega⟩) V zB).mono ?_;rintro e w' ⟨a6,rfl,L,q2⟩;rw[ev]at L;obtain⟨C,J,I,E,o,x,y,p,z,A,r,D,F,rfl⟩:=L.tc.form;exact⟨C,J,I,E,o,x,y,p,z,A,r,D,F,rfl,L.tc,q2⟩
def BP (w:World) (z:Nat) (W:World):Prop:=(∃ G c,qq w w.heap.size w.heap.size G c fA fB W)/\ah W (w.heap.size+1) 86 #[.pointer (some ⟨w.heap.size,0,none⟩)]/\ah W z 27 #[.int .i64 1,.int .i64 0,.string ⟨#[]⟩,.bool false,.slice none 0 0,.slice none 0 0,.slice none 0 0]/\ah W (z+1) 27 #[.int .i64 1,.int .i64 1,.string ⟨#[]⟩,.bool false,.slice none 0 0,.slice none 0 0,.slice none 0 0]/\zZ w W
theorem BP.below {w W b:World} {z:Nat} (j:BP w z W) (a:zZ W b):BP w z b:=by
 obtain⟨⟨G,c,e⟩,f,g,h,d⟩:=j;exact⟨⟨G,c,e.to a⟩,f.to a,g.to a,h.to a,d.trans (a.mono d.size)⟩
theorem yD {w W:World} {z d f:Nat} (j:BJ w z W) (b:ah W d 27 #[.int .i64 1,.int .i64 0,.string ⟨#[]⟩,.bool false,.slice none 0 0,.slice none 0 0,.slice none 0 0,.int .i64 3,.int .i64 0,.string ⟨#[97]⟩,.bool false,.slice none 0 0,.slice none 0 0,.slice none 0 0]) (o:ah W f 27 #[.int .i64 1,.int .i64 1,.string ⟨#[]⟩,.bool false,.slice none 0 0,.slice none 0 0,.slice none 0 0,.int .i64 1,.int .i64 0,.string ⟨#[]⟩,.bool false,.slice none 0 0,.slice none 0 0,.slice none 0 0]):
 Calls prog 23 #[.pointer (some ⟨(w.heap.size+1),0,none⟩),.agg #[.int .i64 5,.int .i64 0,.string ⟨#[102]⟩,.bool false,.slice none 0 0,.slice none 0 0,.slice (some ⟨d,0,none⟩) 2 2],.agg #[.int .i64 5,.int .i64 0,.string ⟨#[102]⟩,.bool false,.slice none 0 0,.slice none 0 0,.slice (some ⟨f,0,none⟩) 2 2],.bool false] W fun e w'=>e=.returned (.tuple #[.slice none 0 0,.bool true,.int .i64 0])/\BP w z w':=by
 obtain⟨G,c,p,r⟩:=j.1.hs;have v:∀ n,aG n->TC W (.var n) _:=fun n q=>TC.var n q W;refine (uE (x:=fA) (y:=fB) j.2.2.2.size p r (CF b (v 0 ⟨by decide,by decide⟩) (Cr 3 0 ⟨by decide,by decide⟩ ⟨by decide,by decide⟩ ⟨#[97]⟩ (by decide) W)) (CF o (v 1 ⟨by decide,by decide⟩) (v 0 ⟨by decide,by decide⟩)) qV.1 qV.2.1 ?_ ⟨fun _=>tmA,?_⟩ qV.2.2.1 qV.2.2.2).mono ?_
 ·have l:∀ x y:Tm,x.args=[]->y.args=[]->∀ a∈(fF x y).args,a.args=[]:=fun x y t A a b=>by
   simp only[fF,Tm.args,List.mem_cons,List.not_mem_nil,or_false]at b;rcases b with rfl|rfl
   ·exact t
   ·exact A
  exact⟨fun v h=>absurd (Tm.mk.inj h).1 (by decide),fun v h=>absurd (Tm.mk.inj h).1 (by decide),l _ _ rfl rfl,l _ _ rfl rfl⟩
 ·unfold fA fB fF;rw[bX _ (by decide),bX _ (by decide)];simp only[bA,bE,bZ];unfold tmA;rw[bX _ (by decide),bE]
 ·rintro e w' ⟨rfl,i,k,m,g⟩;exact⟨rfl,⟨G,c,i⟩,k,j.2.1.frT g (by decide),j.2.2.1.frT g (by decide),j.2.2.2.trans m⟩
theorem vS (w:World):Calls prog 7 #[] w fun e w'=>e=.returned (.bool true)/\zZ w w':=by
 go_enter func7,ntmps7;go_wp2_with fail;refine (C6 _).mono ?_;rintro e q ⟨rfl,M,F⟩;have C:=zH M;have m:=zH F;clear M F;go_wp2_with fail;refine (sr w.heap.size (w.heap.size+1) w.heap.size 0 q (by omega) m.o.size C.o).mono ?_;rintro e w2 ⟨rfl,N,I⟩;have D:=zH N;have n:=zH (m.o.trans I);clear N I C m;unfold vt;go_wp2_with fail;refine (sr w.heap.size (w.heap.size+1) w.heap.size 1 w2 (by omega) n.o.size D.o).mono ?_;rintro e w3 ⟨rfl,O,J⟩;have E:=zH O;have o:=zH (n.o.trans J);clear O J D n;unfold vt;go_wp2_with fail;generalize g:World.alloc _ _=W4;obtain⟨f,hx,hv⟩:=Dj g;have b:Yd (BJ w w3.heap.size W4.drew):=⟨E.o.below f.drew,hx.drew,hv.drew,o.o.trans (f.drew.mono o.o.size)⟩;clear f hx hv g E o;generalize w3.heap.size=z at b ⊢;have d:Yd (∀ W,(ah W z 27 (zX 1 0 ⟨#[]⟩ false none 0 0 none 0 0 none 0 0).toArray/\ah W (z+1) 27 (zX 1 1 ⟨#[]⟩ false none 0 0 none 0 0 none 0 0).toArray/\zZ w W)->(R7 W z (.int .i64 1) (.int .i64 0) (.string ⟨#[]⟩) (.bool false) (.slice none 0 0) (.slice none 0 0) (.slice none 0 0)/\R7 W (z+1) (.int .i64 1) (.int .i64 1) (.string ⟨#[]⟩) (.bool false) (.slice none 0 0) (.slice none 0 0) (.slice none 0 0))):=fun W j=>⟨j.1.r7,j.2.1.r7⟩;refine wp_region_held_drew (S:=fun W=>R7 W z (.int .i64 1) (.int .i64 0) (.string ⟨#[]⟩) (.bool false) (.slice none 0 0) (.slice none 0 0) (.slice none 0 0)/\R7 W (z+1) (.int .i64 1) (.int .i64 1) (.string ⟨#[]⟩) (.bool false) (.slice none 0 0) (.slice none 0 0) (.slice none 0 0)) (by kernel_rfl) (d.o _ b.o.2) (fun hHeld=>?_);generalize World.drew _=y0 at b hHeld ⊢
 (refine zT 0 ?_;try simp only[Act.put,L1,L2])
 (refine zT 1 ?_;try simp only[Act.put,L1,L2])
 (refine zT 2 ?_;try simp only[Act.put,L1,L2])
 (refine zT 5 ?_;try simp only[Act.put,L1,L2])
 (refine zT 6 ?_;try simp only[Act.put,L1,L2])
 (refine wpAnyH_ready (rs:=[3,7]) (by kernel_rfl) (by simp) ?_;refine AllReadyH.cons rfl (fun K hK=>?_) (AllReadyH.cons rfl (fun K hK=>?_) AllReadyH.nil))
 go_simp;generalize g:World.alloc _ _=y1;obtain⟨f,a⟩:=qo g;replace b:=zH (b.o.below f);have h:=zH a;generalize y0.heap.size=ba at a h ⊢;refine hK.out _ _ (d.o _ b.o.2) (fun hHeld=>?_);clear hK K f a g;(try simp only[Act.put,L1,L2])
 (refine wpAnyH_ready (rs:=[4,7]) (by kernel_rfl) (by simp) ?_;refine AllReadyH.cons rfl (fun K hK=>?_) (AllReadyH.cons rfl (fun K hK=>?_) AllReadyH.nil))
 go_simp;refine (jq ⟨#[102]⟩ _ 2 2 _).mono ?_;rintro e y2 ⟨rfl,a⟩;replace b:=zH (b.o.below a);replace h:=zH (h.o.to a);refine hK.out _ _ (d.o _ b.o.2) (fun hHeld=>?_);clear hK K a;(try simp only[Act.put,L1,L2])
 (refine zR 7 fun K hK=>?_)
 go_simp;generalize g:World.alloc _ _=y3;obtain⟨f,a⟩:=qo g;replace b:=zH (b.o.below f);replace h:=zH (h.o.to f);have i:=zH a;generalize y2.heap.size=bb at a i ⊢;refine hK.out _ _ (d.o _ b.o.2) (fun hHeld=>?_);clear hK K f a g;(try simp only[Act.put,L1,L2])
 rotate_left
 go_simp;generalize g:World.alloc _ _=y2;obtain⟨f,a⟩:=qo g;replace b:=zH (b.o.below f);replace h:=zH (h.o.to f);have i:=zH a;generalize y1.heap.size=bb at a i ⊢;refine hK.out _ _ (d.o _ b.o.2) (fun hHeld=>?_);clear hK K f a g;(try simp only[Act.put,L1,L2])
 (refine zR 4 fun K hK=>?_)
 go_simp;refine (jq ⟨#[102]⟩ _ 2 2 _).mono ?_;rintro e y3 ⟨rfl,a⟩;replace b:=zH (b.o.below a);replace h:=zH (h.o.to a);replace i:=zH (i.o.to a);refine hK.out _ _ (d.o _ b.o.2) (fun hHeld=>?_);clear hK K a;(try simp only[Act.put,L1,L2])
 rotate_left
 go_simp;generalize g:World.alloc _ _=y1;obtain⟨f,a⟩:=qo g;replace b:=zH (b.o.below f);have i:=zH a;generalize y0.heap.size=bb at a i ⊢;refine hK.out _ _ (d.o _ b.o.2) (fun hHeld=>?_);clear hK K f a g;(try simp only[Act.put,L1,L2])
 (refine zR 3 fun K hK=>?_)
 go_simp;generalize g:World.alloc _ _=y2;obtain⟨f,a⟩:=qo g;replace b:=zH (b.o.below f);replace i:=zH (i.o.to f);have h:=zH a;generalize y1.heap.size=ba at a h ⊢;refine hK.out _ _ (d.o _ b.o.2) (fun hHeld=>?_);clear hK K f a g;(try simp only[Act.put,L1,L2])
 (refine zR 4 fun K hK=>?_)
 go_simp;refine (jq ⟨#[102]⟩ _ 2 2 _).mono ?_;rintro e y3 ⟨rfl,a⟩;replace b:=zH (b.o.below a);replace h:=zH (h.o.to a);replace i:=zH (i.o.to a);refine hK.out _ _ (d.o _ b.o.2) (fun hHeld=>?_);clear hK K a;(try simp only[Act.put,L1,L2])
 rotate_left
 all_goals
  (refine zR 8 fun K hK=>?_)
  go_simp;refine (jq ⟨#[102]⟩ _ 2 2 _).mono ?_;rintro e y4 ⟨rfl,a⟩;have p:=zH (b.o.below a);have r:=zH (h.o.to a);have A:=zH (i.o.to a);refine hK.out _ _ (d.o _ p.o.2) (fun hHeld=>?_);clear hK K a b h i
  (try simp only[Act.put,L1,L2])
  (refine zR 9 fun K hK=>?_)
  go_simp
  with_reducible refine (yD p.o r.o A.o).mono ?_
  rintro e y9 ⟨rfl,L⟩;have v:=zH L;clear L p r A;refine hK.out _ _ (d.o _ v.o.2.2) (fun hHeld=>?_);clear hK K
  (try simp only[Act.put,L1,L2])
  (refine zT 10 ?_;try simp only[Act.put,L1,L2])
  (refine zT 11 ?_;try simp only[Act.put,L1,L2])
  (refine zT 12 ?_;try simp only[Act.put,L1,L2])
  (refine zT 13 ?_;try simp only[Act.put,L1,L2])
  (refine zT 14 ?_;try simp only[Act.put,L1,L2])
  (refine zT 15 ?_;try simp only[Act.put,L1,L2])
  (refine zT 16 ?_;try simp only[Act.put,L1,L2])
  (refine wpAnyH_done (by kernel_rfl) ?_ _)
  clear hHeld d;have B:Yd (Calls prog 25 #[.pointer (some ⟨(w.heap.size+1),0,none⟩),.agg (zX 1 1 ⟨#[]⟩ false none 0 0 none 0 0 none 0 0).toArray] y9 fun e q=>∃ Z P Y U Q X V T l k,e=.returned (.tuple #[.agg (zX 3 0 ⟨#[97]⟩ Z P Y U Q X V T l k).toArray,.int .i64 0])/\Yd (BP w z q)):=by
   obtain⟨⟨G,c,h1⟩,h5,h6⟩:=v.o;obtain⟨hr,xs,hs⟩:=h1.res;refine (pL h5 (hs _ zB) hr).mono ?_;rintro e q ⟨Z,P,Y,U,Q,X,V,T,l,k,rfl,f⟩;exact⟨Z,P,Y,U,Q,X,V,T,l,k,rfl,v.o.below f⟩
  obtain⟨u0,u1,u2,u3,u4,u5,u6⟩:=v.o.2.2.2.1.r7;go_wp2_with fail;refine B.o.mono ?_;rintro e a1 ⟨Z,P,Y,U,Q,X,V,T,l,k,rfl,x⟩;clear B u0 u1 u2 u3 u4 u5 u6;go_wp2_with fail;generalize g:World.alloc _ _=y;have t:Yd (Calls prog 26 #[.pointer (some ⟨(w.heap.size+1),0,none⟩)] y fun e q=>e=.returned (.int .i64 2)/\Yd (zZ w q)):=by
   obtain⟨⟨G,c,h1⟩,h5,h6,h7,h8⟩:=x.o.below (qo g).1;obtain⟨_,xs,hs⟩:=h1.res;refine (wd _ _ _ _ _ 2 c 0 0 0 0 _ h5 (hs _ zB).blk).mono ?_;rintro e q ⟨rfl,rfl⟩;exact⟨rfl,h8⟩
  refine t.o.mono ?_;rintro e a2 ⟨rfl,a0⟩;clear t x v;go_wp2_with fail;go_ret;exact⟨rfl,a0.o⟩
theorem xN {a b:Tm} {e:List (Int×Tm)} {d:Int} {ok:Bool} (f:eN a b d ok e) (c:ok=true):d=0:=by
 cases f with
 |bad _=>cases c
 |no _ _=>cases c
 |size _ _ _ _ _=>cases c
 |ok _ _ _ _ _ _ _=>rfl
theorem xL {a b x y:Tm} {e:List (Int×Tm)} {n o r:Int} {ok:Bool} (B:eN a b r ok e) (l:ok=true) (C:cS a e x n) (m:cS b e y o):x=y/\n=o:=by
 cases B with
 |bad _=>cases l
 |no _ _=>cases l
 |size _ _ _ _ _=>cases l
 |ok i f w t _ D A=>
  have c:a.check=0/\b.check=0:=by
   unfold cW at i;by_cases h:a.check=0
   ·rw[if_pos h]at i;unfold cW at i;by_cases d:b.check=0
    ·exact⟨h,d⟩
    ·rw[if_neg d]at i;exact absurd i d
   ·rw[if_neg h]at i;exact absurd i h
  have z:(fun v=>(fnd e v).getD (.var v))=f:=funext fun v=>by
   rw[A];unfold bnd1;by_cases h:f v=.var v
   ·rw[if_pos h,h];rfl
   ·rw[if_neg h];rfl
  have p:=a.repl_sb (fnd e) (a.cn_of (aQ c.1).2);have q:=b.repl_sb (fnd e) (b.cn_of (aQ c.2).2);rw[z]at p q;have k:a.repl (fnd e)=b.repl (fnd e):=by rw[p,q,w.eq]
  cases C with
  |bad h=>exact absurd c.1 h
  |form h d=>cases m with
   |bad h=>exact absurd c.2 h
   |form _ _=>exact⟨rfl,rfl⟩
   |size _ g _=>exact absurd g d
   |ok _ g _=>exact absurd g d
  |size h d g=>cases m with
   |bad h=>exact absurd c.2 h
   |form _ j=>exact absurd d j
   |size _ _ _=>exact⟨rfl,rfl⟩
   |ok _ _ j=>rw[k]at g;omega
  |ok h d g=>cases m with
   |bad h=>exact absurd c.2 h
   |form _ j=>exact absurd d j
   |size _ _ j=>rw[k]at g;omega
   |ok _ _ _=>exact⟨k,rfl⟩
theorem wL:LawTmUni.Walk:=by
 intro a ca b cb w ha c;have b7:Yd (∀ W:World,Calls prog 7 #[] W fun e g=>e=.returned (.bool true)/\Yd (zZ W g)):=fun W=>vS W;have HU:Yd (∀ W,zZ w W->Calls prog 8 #[.agg ca.toArray,.agg cb.toArray] W fun e j=>∃ lv n ok B,e=.returned (.tuple #[lv,.bool ok,.int .i64 n])/\eN a b n ok B/\BL j lv B/\zZ W j):=fun W hW=>sL ha c W hW;have HV:Yd (∀ W,zZ w W->Calls prog 10 #[.agg ca.toArray,.agg cb.toArray] W fun e j=>UNQ a b W e j):=fun W hW=>pS ha c W hW;have a9:Yd (∀ (B:List (Int×Tm)) (sv:Value) (W1:World),zZ w W1->BL W1 sv B->B.length<=50000->(∀ W,zZ W1 W->Calls prog 5 #[.agg ca.toArray,sv] W fun e j=>∃ C Y n,e=.returned (.tuple #[.agg C.toArray,.int .i64 n])/\TC j Y C/\cS a B Y n/\zZ W j)/\∀ W,zZ W1 W->Calls prog 5 #[.agg cb.toArray,sv] W fun e j=>∃ C Y n,e=.returned (.tuple #[.agg C.toArray,.int .i64 n])/\TC j Y C/\cS b B Y n/\zZ W j):=fun B sv W1 h1 hs hn=>⟨fun W hW=>(nr (ha.to h1) hs (by omega) W hW).mono fun e j ⟨C,Y,n,q1,q2,q3,q4⟩=>⟨C,Y,n,q1,q2.tc,q3,q4⟩,fun W hW=>(nr (c.to h1) hs (by omega) W hW).mono fun e j ⟨C,Y,n,q1,q2,q3,q4⟩=>⟨C,Y,n,q1,q2.tc,q3,q4⟩⟩;obtain⟨k1,v1,V,T,A1,n1,c1,B1,b1,d1,X1,l1,e1,f7⟩:=ha.form;obtain⟨k2,v2,X,U,A2,n2,c2,B2,b2,d2,X2,l2,e2,f8⟩:=c.form;subst f7 f8;clear ha c;go_enter func4,ntmps4
 go_upto_region 1 with fail
 generalize hy:World.alloc _ _=w1;obtain⟨c8,h1,h2⟩:=Dj hy;generalize w.heap.size+1=p1 at*;have h:Yd (ah w1 w.heap.size 27 (zX k1 v1 V T A1 n1 c1 B1 b1 d1 X1 l1 e1).toArray/\ah w1 p1 27 (zX k2 v2 X U A2 n2 c2 B2 b2 d2 X2 l2 e2).toArray/\zZ w w1):=⟨h1,h2,c8⟩;obtain⟨y0,y1,y2,y3,y4,y5,y6⟩:=h.o.1.r7;obtain⟨z0,z1,z2,z3,z4,z5,z6⟩:=h.o.2.1.r7;clear hy c8 h1 h2;go_wp2_with fail;refine (HU.o _ h.o.2.2).mono ?_;rintro e w2 ⟨lv,n,ok,B,rfl,hu,c9,N⟩;have i:Yd (ah w2 w.heap.size 27 (zX k1 v1 V T A1 n1 c1 B1 b1 d1 X1 l1 e1).toArray/\ah w2 p1 27 (zX k2 v2 X U A2 n2 c2 B2 b2 d2 X2 l2 e2).toArray/\zZ w w2):=⟨h.o.1.to N,h.o.2.1.to N,h.o.2.2.trans (N.mono h.o.2.2.size)⟩;have a2:=zH hu;have a1:=zH c9;clear hu c9 N h HU y0 y1 y2 y3 y4 y5 y6 z0 z1 z2 z3 z4 z5 z6;obtain⟨y0,y1,y2,y3,y4,y5,y6⟩:=i.o.1.r7;obtain⟨z0,z1,z2,z3,z4,z5,z6⟩:=i.o.2.1.r7;go_wp2_with fail;refine (HV.o _ i.o.2.2).mono ?_;rintro e w3 ⟨h3,f4,h4,g4,rfl,d8,d0,t,hq,hn⟩;obtain⟨rfl,rfl,rfl⟩:=a2.o.one d8;have v:Yd (ah w3 w.heap.size 27 (zX k1 v1 V T A1 n1 c1 B1 b1 d1 X1 l1 e1).toArray/\ah w3 p1 27 (zX k2 v2 X U A2 n2 c2 B2 b2 d2 X2 l2 e2).toArray/\zZ w w3):=⟨i.o.1.to t,i.o.2.1.to t,i.o.2.2.trans (t.mono i.o.2.2.size)⟩;have c5:=zH (xp (a1.o.to t) d0 hq (by omega) w3 zB);have b5:=zH (a1.o.to t);have HN:=zH hn;have d5:(n != n)=false:=by simp
 have g2:(ok != ok)=false:=by simp
 clear d8 d0 t hq hn i HV a1 y0 y1 y2 y3 y4 y5 y6 z0 z1 z2 z3 z4 z5 z6;go_wp2_with fail;refine c5.o.mono ?_;rintro e w4 ⟨rfl,A⟩;have o:Yd (ah w4 w.heap.size 27 (zX k1 v1 V T A1 n1 c1 B1 b1 d1 X1 l1 e1).toArray/\ah w4 p1 27 (zX k2 v2 X U A2 n2 c2 B2 b2 d2 X2 l2 e2).toArray/\zZ w w4):=⟨v.o.1.to A,v.o.2.1.to A,v.o.2.2.trans (A.mono v.o.2.2.size)⟩;have b6:=zH (b5.o.to A);clear A v b5 c5 d5 g2;cases ok with
 |false=>
  go_wp2_with fail
  (refine (b7.o _).mono ?_;rintro e w9 ⟨rfl,f5⟩;have e9:Yd (zZ w w9):=o.o.2.2.trans (f5.out.mono o.o.2.2.size);go_wp2_with fail;go_ret;exact⟨rfl,e9.o⟩)
 |true=>
  have f6:n=0:=xN a2.o rfl;subst f6;obtain⟨h1,h2⟩:=a9.o B lv w4 o.o.2.2 b6.o HN.o;have a8:=zH h1;have e5:=zH h2;obtain⟨y0,y1,y2,y3,y4,y5,y6⟩:=o.o.1.r7;clear h1 h2 a9 b6;go_wp2_with fail;refine (a8.o _ zB).mono ?_;rintro e w5 ⟨C,x,c7,rfl,hx,d6,a4⟩;obtain⟨P,Z,f,d,D,S,J,E,I,L,G,Q,M,g0⟩:=hx.form;subst g0;clear y0 y1 y2 y3 y4 y5 y6
  go_upto_region 8 with fail
  generalize hy:World.alloc _ _=w6;obtain⟨a5,h6⟩:=qo hy;have F:Yd (zZ w4 w6):=a4.trans (a5.mono a4.size);have HX:=zH (hx.to a5);have c0:=zH d6;generalize g3:w5.heap.size=x1 at*;have f3:Yd (ah w6 x1 27 (zX P Z f d D S J E I L G Q M).toArray):=h6;obtain⟨z0,z1,z2,z3,z4,z5,z6⟩:=(o.o.2.1.to F.o).r7;clear hy a5 h6 a4 hx d6 a8 g3;go_wp2_with fail;refine (e5.o _ F.o).mono ?_;rintro e w7 ⟨cy,y,f4,rfl,hx,d7,a6⟩;obtain⟨rfl,rfl⟩:=xL a2.o rfl c0.o d7;obtain⟨k4,v4,m,l,A4,n4,c4,B4,b4,d4,X4,l4,e4,g1⟩:=hx.form;subst g1;clear z0 z1 z2 z3 z4 z5 z6
  go_upto_region 9 with fail
  generalize hy:World.alloc _ _=p;obtain⟨O,h8⟩:=qo hy;have r:zZ w6 p:=a6.trans (O.mono a6.size);generalize e0:w7.heap.size=x2 at*;have c6:Yd (zZ w p):=o.o.2.2.trans ((F.o.trans (r.mono F.o.size)).mono o.o.2.2.size);have a0:Yd (ah p x1 27 (zX P Z f d D S J E I L G Q M).toArray/\ah p x2 27 (zX k4 v4 m l A4 n4 c4 B4 b4 d4 X4 l4 e4).toArray):=⟨f3.o.to r,h8⟩;have a3:Yd (TC p x (zX P Z f d D S J E I L G Q M)/\TC p x (zX k4 v4 m l A4 n4 c4 B4 b4 d4 X4 l4 e4)):=⟨HX.o.to r,hx.to (by first|exact O|(rw[e0];exact O))⟩;have b8:=zH c0.o.okz;obtain⟨s1,a7⟩:∃ s:ByteArray,(⟨x.shp.toArray⟩:ByteArray)=s:=⟨_,rfl⟩;have z:Yd (∀ j,zZ p j->R7 j x1 (.int .i64 P) (.int .i64 Z) (.string f) (.bool d) (.slice D S J) (.slice E I L) (.slice G Q M)/\R7 j x2 (.int .i64 k4) (.int .i64 v4) (.string m) (.bool l) (.slice A4 n4 c4) (.slice B4 b4 d4) (.slice X4 l4 e4)):=fun j c=>⟨(a0.o.1.to c).r7,(a0.o.2.to c).r7⟩;have f0:Yd (∀ W,Yd (zZ p W)->Calls prog 6 #[.agg (zX P Z f d D S J E I L G Q M).toArray] W fun e g=>e=.returned (.string s1)/\Yd (zZ p g)/\R7 g x1 (.int .i64 P) (.int .i64 Z) (.string f) (.bool d) (.slice D S J) (.slice E I L) (.slice G Q M)/\R7 g x2 (.int .i64 k4) (.int .i64 v4) (.string m) (.bool l) (.slice A4 n4 c4) (.slice B4 b4 d4) (.slice X4 l4 e4)):=fun W c=>(i9 a3.o.1 b8.o W c.out).mono fun e g q=>by
   have k:=c.out.trans (q.2.mono c.out.size);exact⟨by rw[<-a7];exact q.1,k,z.o _ k⟩
  have f1:Yd (∀ W,Yd (zZ p W)->Calls prog 6 #[.agg (zX k4 v4 m l A4 n4 c4 B4 b4 d4 X4 l4 e4).toArray] W fun e g=>e=.returned (.string s1)/\Yd (zZ p g)/\R7 g x1 (.int .i64 P) (.int .i64 Z) (.string f) (.bool d) (.slice D S J) (.slice E I L) (.slice G Q M)/\R7 g x2 (.int .i64 k4) (.int .i64 v4) (.string m) (.bool l) (.slice A4 n4 c4) (.slice B4 b4 d4) (.slice X4 l4 e4)):=fun W c=>(i9 a3.o.2 b8.o W c.out).mono fun e g q=>by
   have k:=c.out.trans (q.2.mono c.out.size);exact⟨by rw[<-a7];exact q.1,k,z.o _ k⟩
  have f2:Yd (∀ W,Yd (zZ p W)->Calls prog 7 #[] W fun e g=>e=.returned (.bool true)/\Yd (zZ p g)/\R7 g x1 (.int .i64 P) (.int .i64 Z) (.string f) (.bool d) (.slice D S J) (.slice E I L) (.slice G Q M)/\R7 g x2 (.int .i64 k4) (.int .i64 v4) (.string m) (.bool l) (.slice A4 n4 c4) (.slice B4 b4 d4) (.slice X4 l4 e4)):=fun W c=>(b7.o W).mono fun e g q=>by
   have k:=c.out.trans (q.2.out.mono c.out.size);exact⟨q.1,k,z.o _ k⟩
  have b0:Yd (zZ p p.drew):=zB.drew;have g5:=z.o _ b0.o;have h0:(s1.toList==s1.toList)=true:=beq_self_eq_true _;have g9:(s1==s1)=true:=eY s1;have d5:(c7==c7)=true:=by simp
  clear a7 z a3 a0 hy O h8 r a6 hx d7 e0;go_wp2_with fail
  go_region_held3 (fun g=>R7 g x1 (.int .i64 P) (.int .i64 Z) (.string f) (.bool d) (.slice D S J) (.slice E I L) (.slice G Q M)/\R7 g x2 (.int .i64 k4) (.int .i64 v4) (.string m) (.bool l) (.slice A4 n4 c4) (.slice B4 b4 d4) (.slice X4 l4 e4))
   (with_reducible assumption)
   (first
    |(go_at_call 6;(with_reducible refine (f0.o _ b0).mono ?_);rintro e y3 ⟨rfl,e6,g6⟩)
    |(go_at_call 6;(with_reducible refine (f1.o _ e6).mono ?_);rintro e y4 ⟨rfl,e7,g7⟩)
    |(go_at_call 7;(with_reducible refine (f2.o _ e7).mono ?_);rintro e y5 ⟨rfl,e8,g8⟩))
  go_wp2_with fail;go_ret;exact⟨rfl,c6.o.trans (e8.o.mono c6.o.size)⟩
theorem termUni_holds:Rows.TermUnifierMatchesSpecSaid:=LawTmUni.said wL
end Go.Proofs.YtlhojoefhannnaaGreat
