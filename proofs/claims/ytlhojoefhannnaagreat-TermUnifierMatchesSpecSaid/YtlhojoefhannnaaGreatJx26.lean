/- The reference's equal: roots of nodes compared; what the loop keeps. And 5 more texts. -/
import Derived.Test.YtlhojoefhannnaaGreatJx25
set_option linter.unusedVariables false
set_option linter.unusedSimpArgs false
set_option maxRecDepth 100000
set_option maxHeartbeats 51200000
namespace Go.Proofs.YtlhojoefhannnaaGreat
open Go.Proofs.Tryz Go.RowKit NumB
theorem uv {w:World} {x y:Tm} {L M:List Value} (q:TC w x.rootT L) (r:TC w y.rootT M) (A:x.fine) (C:y.fine) (T:x.err0=0) (U:y.err0=0) (Y:∀ u,x≠.var u) (Z:∀ u,y≠.var u):
 ∃ c:Int,((c=0/\x.args.length=y.args.length)↔x.hd y=true)/\∀ W,zZ w W->Calls prog 91 #[.agg L.toArray,.agg M.toArray] W fun e W'=>e=.returned (.int .i64 c)/\zZ W W':=by
 obtain⟨k,v,s,n,i⟩:=x;obtain⟨k2,z,t,Q,f⟩:=y;have o:k≠1:=fun e=>Y v (aK A e);have G:k2≠1:=fun e=>Z z (aK C e);have l:=A;have m:=C;rw[Tm.fine]at l m;have I:=kR l.2.1;have J:=kR m.2.1;have r1:=bU l.2.1 o;have r2:=bU m.2.1 G;rw[Tm.rootT]at q r;have O:(Tm.mk k v s n i).hd (.mk k2 z t Q f)=decide (k=k2/\s.toList=t.toList/\i.length=f.length/\(k=2->ik n Q=true)):=rfl;by_cases D:k=2/\k2=2
 ·have V:i=[]:=zF (r1.2.1 D.1).2.1;have X:f=[]:=zF (r2.2.1 D.2).2.1;subst V X;refine⟨_,?_,fun W F=>wY q _ _ r T U W F⟩;rw[<-Aj A C o];exact⟨fun h=>h.1,fun h=>⟨h,rfl⟩⟩
 ·obtain⟨q1,q2,q3,q4,q5,q6,q7,q8,q9,a4,a5,a6,a7,rfl⟩:=q.form;obtain⟨p1,p2,p3,p4,p5,p6,p7,p8,p9,a0,a1,a2,a3,rfl⟩:=r.form;cases q;cases r;by_cases j:k=k2
  ·subst j;have p:k≠2:=fun e=>D ⟨e,e⟩;refine⟨_,?_,fun W F=>mu W v z s t _ _ _ _ _ _ _ _ _ _ _ _ _ _ _ _ _ _ _ _ k o p (by simp) (by simp)⟩;show _↔_;rw[O,decide_eq_true_eq,cJ,bh,fP,ix];exact⟨fun h=>⟨rfl,h.1.2,h.2,fun e=>absurd e p⟩,fun h=>⟨⟨rfl,h.2.1⟩,h.2.2.1⟩⟩
  ·refine⟨_,?_,fun W F=>mr W v z s t _ _ _ _ _ _ _ _ _ _ _ _ _ _ _ _ _ _ _ _ k k2 j I.1 I.2.1 J.1 J.2.1⟩;show _↔_;rw[O,decide_eq_true_eq,bh];exact⟨fun h=>absurd h.1 j,fun h=>absurd h.1 j⟩
theorem GR.tell' {w W:World} {d g cr a ca m1 m2 m3 m4 N:Nat} {rc:Nat->List Value} {ac:Nat->Value} {Ts:List Tm} {Is:Nat->List Nat} (h:GR w d g cr a ca m1 m2 m3 m4 N rc ac Ts Is W) {i:Nat} (f:i<N) {k v:Int} {s:ByteArray} {n:LN} {args:List Tm} (e:Ts[i]?=some (.mk k v s n args)):cZ Ts (Is i) args:=by
 have c:i<Ts.length:=by rw[h.len];exact f
 have:=h.tell i c;rw[zO c]at e;rw[zI e]at this;exact this
def jX:List (Nat×Nat)->List Value
 |[]=>[]
 |p::S=>jX S++[.int .i64 (p.1:Int),.int .i64 (p.2:Int)]
theorem mD:∀ S:List (Nat×Nat),(jX S).length=S.length*2
 |[]=>rfl
 |p::S=>by rw[jX,zE,mD S];simp;omega
def jE (Ts:List Tm) (i:Nat):Tm:=(Ts[i]?).getD (.var 0)
theorem jZ {Ts:List Tm} {i:Nat} {t:Tm} (h:Ts[i]?=some t):jE Ts i=t:=by unfold jE;rw[h];rfl
def cV (Ts:List Tm) (S:List (Nat×Nat)):List (Tm×Tm):=S.map fun p=>(jE Ts p.1,jE Ts p.2)
structure EV (w:World) (d g cr a ca m1 m2 m3 m4 N:Nat) (rc:Nat->List Value) (ac:Nat->Value) (Ts:List Tm) (Is:Nat->List Nat) (E:Tm×Tm) (W0:World) (mm:Nat) (S:List (Nat×Nat)) (b:Int->Option Tm) (Mt:List (Tm×Tm)) (tv:Value) (W:World):Prop where
 gr:GR w d g cr a ca m1 m2 m3 m4 N rc ac Ts Is W
 nb:∃ nb,jD m2 nb Ts b W
 met:∃ nm gm,aE iL W mm nm gm/\jH gm Ts Mt
 todo:W.ownsRow W0.heap.size 134 2 tv S.length (jX S)
 stk:∀ p∈S,p.1<N/\p.2<N
 kp:ag (fun k=>k=m2) W0 W
 mml:W0.heap.size<=mm/\m2<W0.heap.size
 sp:iZ true E b (cV Ts S) Mt
 ul:jb Ts b (cV Ts S) Mt
section
variable {w:World} {d g cr a ca m1 m2 m3 m4 N:Nat} {rc:Nat->List Value} {ac:Nat->Value} {Ts:List Tm} {Is:Nat->List Nat} {E:Tm×Tm} {W0:World} {mm:Nat} {S:List (Nat×Nat)} {b:Int->Option Tm} {Mt:List (Tm×Tm)} {tv:Value} {W W':World}
theorem EV.below (h:EV w d g cr a ca m1 m2 m3 m4 N rc ac Ts Is E W0 mm S b Mt tv W) (c:zZ W W'):EV w d g cr a ca m1 m2 m3 m4 N rc ac Ts Is E W0 mm S b Mt tv W':=by
 obtain⟨l,i⟩:=h.nb;obtain⟨m,f,j,k⟩:=h.met;exact⟨h.gr.below c,⟨l,i.below c⟩,⟨m,f,j.same (fun o e=>(c.block mm (an e)).trans e) fun _ h=>h,k⟩,bJ h.todo c,h.stk,h.kp.trans (.of_below c),h.mml,h.sp,h.ul⟩
theorem EV.stp {nm l m t v:Nat} {x y:Tm} {k:Int->Option Tm} {j c:List (Tm×Tm)} (h:EV w d g cr a ca m1 m2 m3 m4 N rc ac Ts Is E W0 mm ((l,m)::S) b Mt tv W) (n:kg nm Ts) (q:Ts[t]?=some x) (r:Ts[v]?=some y) (o:dK b (jE Ts l) x) (p:dK b (jE Ts m) y) (e:qu true b x y Mt k j c):
 iZ true E k (j++cV Ts S) c/\jb Ts k (j++cV Ts S) c/\mz Ts (j++cV Ts S) c<mz Ts (cV Ts ((l,m)::S)) Mt:=by
 have f:=List.mem_of_getElem? q;have i:=List.mem_of_getElem? r;exact⟨.step h.sp (.mk o p (h.gr.ok x f).1 (h.gr.ok y i).1 e),h.ul.stp n f i e,h.ul.mz n f i e⟩
theorem EV.skip {nm c e q r:Nat} {x y:Tm} {tv':Value} (h:EV w d g cr a ca m1 m2 m3 m4 N rc ac Ts Is E W0 mm ((c,e)::S) b Mt tv W) (j:kg nm Ts) (n:Ts[q]?=some x) (o:Ts[r]?=some y) (f:dK b (jE Ts c) x) (i:dK b (jE Ts e) y) (m:x=y\/(x,y)∈Mt) (l:W.ownsRow W0.heap.size 134 2 tv' S.length (jX S)):
 EV w d g cr a ca m1 m2 m3 m4 N rc ac Ts Is E W0 mm S b Mt tv' W/\mz Ts (cV Ts S) Mt<mz Ts (cV Ts ((c,e)::S)) Mt:=by
 obtain⟨t,v,z⟩:=h.stp j n o f i (.inl ⟨rfl,rfl,rfl,m.imp id .inl⟩);exact⟨⟨h.gr,h.nb,h.met,l,fun p k=>h.stk p (List.mem_cons_of_mem _ k),h.kp,h.mml,t,v⟩,z⟩
theorem jD.put {J n:Nat} (h:jD m2 J Ts b W) {v:Int} {t:Tm} (o:Ts[n]?=some t) (G:b v=none) (F:Tm.var v∈Ts) (j:aG v) (D:Ts.length<maxLen):∃ z,(Instr.mapUpdate 67 (.map (some m2)) (.int .i64 v) (.int .i64 (n:Int))).run prog W=.ok () z/\(∃ l,jD m2 l Ts (upd b v t) z)/\ag (fun k=>k=m2) W z:=by
 obtain⟨f,p,m,r⟩:=h;obtain⟨z,I,C,hK⟩:=p.put j (m v G) F D (.int .i64 (n:Int));refine⟨z,I,⟨_,_,C,fun u i=>?_,fun u s c=>?_⟩,hK⟩
 ·by_cases e:u=v
  ·subst e;rw[jA]at i;cases i
  ·rw[qe e]at i;rw[if_neg (fun q=>e (by simpa using q))];exact m u i
 ·by_cases e:u=v
  ·subst e;rw[jA]at c;cases c;exact⟨n,(zK o).1,o,by rw[if_pos rfl]⟩
  ·rw[qe e]at c;obtain⟨k,x,y,A⟩:=r u s c;exact⟨k,x,y,by rw[if_neg (fun q=>e (by simpa using q))];exact A⟩
theorem EV.bound {nm l m X Y:Nat} {x y:Tm} {v:Int} {t:Tm} {tv':Value} (h:EV w d g cr a ca m1 m2 m3 m4 N rc ac Ts Is E W0 mm ((l,m)::S) b Mt tv W) (hw:w.heap.size<=m2) (F:kg nm Ts) (U:Ts[X]?=some x) (V:Ts[Y]?=some y) (q:dK b (jE Ts l) x) (r:dK b (jE Ts m) y) (T:b v=none) (Q:(x=.var v/\y=t)\/(x=t/\y=.var v)) (i:¬eB b v t) (I:∀ u,t=.var u->u<v) (j:ag (fun k=>k=m2) W W') (L:∃ n,jD m2 n Ts (upd b v t) W') (O:W'.ownsRow W0.heap.size 134 2 tv' S.length (jX S)):
 EV w d g cr a ca m1 m2 m3 m4 N rc ac Ts Is E W0 mm S (upd b v t) Mt tv' W'/\mz Ts (cV Ts S) Mt<mz Ts (cV Ts ((l,m)::S)) Mt:=by
 obtain⟨Z,q2,q3⟩:=h.stp F U V q r (.inr (.inl ⟨v,t,T,Q,fun _=>i,I,rfl,rfl,rfl⟩));obtain⟨nm,A,C,D⟩:=h.met;obtain⟨n,f,G,_⟩:=h.nb;refine⟨⟨h.gr.keep j fun k e=>?_,L,⟨nm,A,C.same (fun o i=>(j.block mm (an i) fun e=>by have e:mm=m2:=e;have:=h.mml;omega).trans i) fun _ h=>h,D⟩,O,fun p M=>h.stk p (List.mem_cons_of_mem _ M),h.kp.trans j,h.mml,Z,q2⟩,q3⟩;have e:k=m2:=e;subst e;obtain⟨z,c,J,_⟩:=G.is;exact⟨hw,fun _=>⟨z,c,J⟩⟩
end
theorem dK.leaf {b:Int->Option Tm} (c:∀ v t,b v=some t->t.args=[]) {p x:Tm} (h:dK b p x):p.args=[]->x.args=[]:=by
 induction h with
 |stop _=>exact fun h=>h
 |step h _ e=>exact fun _=>e (c _ _ h)
theorem dK.free {b:Int->Option Tm} {p x:Tm} (h:dK b p x):∀ v,x=.var v->b v=none:=by
 induction h with
 |stop h=>exact h
 |step _ _ c=>exact c
theorem dK.same {b:Int->Option Tm} {p x:Tm} (h:dK b p x) (c:∀ v,p≠.var v):x=p:=by
 cases h with
 |stop _=>rfl
 |step _ _=>exact absurd rfl (c _)
theorem rD {v:Int} {t:Tm} (j:t.args=[]) (e:t.cn) (h:t.occ v):t=.var v:=by
 obtain⟨k,u,s,n,c⟩:=t;obtain rfl:c=[]:=j;rw[Tm.occ]at h;rcases h with ⟨f,i⟩|⟨_,h⟩
 ·rw[Tm.cn]at e;rw[<-i];exact e.1 f
 ·rw[dA]at h;exact h.elim
theorem wM {b:Int->Option Tm} {v:Int} {t:Tm} (i:t.args=[]) (e:t.cn) (f:∀ u,t=.var u->b u=none/\u≠v):¬eB b v t:=fun h=>by
 cases h with
 |here h=>exact (f v (rD i e h)).2 rfl
 |there h c _=>rw[(f _ (rD i e h)).1]at c;cases c
def xU (E:Tm×Tm):Prop:=(∀ v,E.1≠.var v)/\(∀ v,E.2≠.var v)/\(∀ a∈E.1.args,a.args=[])/\∀ a∈E.2.args,a.args=[]
theorem oL {E:Tm×Tm} (f:xU E) {b:Int->Option Tm} {S Mt:List (Tm×Tm)} (h:iZ false E b S Mt):iZ true E b S Mt/\(∀ v t,b v=some t->t.args=[])/\∀ p∈S,p=E\/(p.1.args=[]/\p.2.args=[]):=by
 induction h with
 |start=>exact⟨.start,fun v t h=>(by cases h),fun p c=>.inl (List.mem_singleton.1 c)⟩
 |@step b b' S Mt Z O _ s X=>
  obtain⟨C,l,J⟩:=X;cases s with
  |mk j k r z I=>
   rename_i p q x y S N Q
   have D:∀ p∈S,p=E\/(p.1.args=[]/\p.2.args=[]):=fun p c=>J p (List.mem_cons_of_mem _ c);have o:(x,y)=E\/(x.args=[]/\y.args=[]):=by
    rcases J (p,q) (by simp) with h|⟨m,e⟩
    ·subst h;exact .inl (by rw[j.same f.1,k.same f.2.1])
    ·exact .inr ⟨j.leaf l m,k.leaf l e⟩
   rcases I with ⟨rfl,rfl,rfl,m⟩|⟨v,t,V,F,ho,L,rfl,rfl,rfl⟩|⟨m,e,T,rfl,rfl,rfl⟩
   ·exact⟨.step C (.mk j k r z (.inl ⟨rfl,rfl,rfl,m⟩)),l,D⟩
   ·have n:x.args=[]/\y.args=[]:=by
     rcases o with h|h
     ·exfalso;rcases F with ⟨e,_⟩|⟨_,e⟩
      ·exact f.1 v (by rw[<-h];exact e)
      ·exact f.2.1 v (by rw[<-h];exact e)
     ·exact h
    have A:t.args=[]/\t.cn/\∀ u,t=.var u->b u=none:=by
     rcases F with ⟨_,rfl⟩|⟨rfl,_⟩
     ·exact⟨n.2,Tm.cn_fine _ z,k.free⟩
     ·exact⟨n.1,Tm.cn_fine _ r,j.free⟩
    refine⟨.step C (.mk j k r z (.inr (.inl ⟨v,t,V,F,fun _=>wM A.1 A.2.1 fun u M=>⟨A.2.2 u M,by have:=L u M;omega⟩,L,rfl,rfl,rfl⟩))),fun u Y h=>?_,D⟩;unfold upd at h
    split at h
    ·cases h;exact A.1
    ·exact l u Y h
   ·refine⟨.step C (.mk j k r z (.inr (.inr ⟨m,e,T,rfl,rfl,rfl⟩))),l,fun p c=>?_⟩;rcases List.mem_append.1 c with c|c
    ·refine .inr ?_;obtain⟨i,G,rfl⟩:=List.mem_iff_getElem.1 c;rw[List.getElem_zip];rw[List.length_zip]at G;rcases o with h|⟨U,h8⟩
     ·rw[<-h]at f;exact⟨f.2.2.1 _ (zQ _),f.2.2.2 _ (zQ _)⟩
     ·rw[U]at G;simp at G
    ·exact D p c
theorem yE {b:Int->Option Tm} {p q:Tm} (h:Dz false b p q):Dz true b p q:=by
 obtain⟨x,y,l,m,o,r,t,z,c⟩:=h;refine⟨x,y,l,m,o,r,t,z,?_⟩;obtain⟨k,v,s,n,i⟩:=x;obtain⟨k2,D,C,A,f⟩:=y;rw[gd]at c ⊢;by_cases j:k=1
 ·rw[if_pos j]at c;by_cases e:k2=1
  ·rw[if_pos e]at c;cases c
  ·rw[if_neg e]at c;simp at c
 ·rw[if_neg j]at c ⊢;by_cases e:k2=1
  ·rw[if_pos e]at c;simp at c
  ·rw[if_neg e]at c ⊢;exact c
theorem xM {j h B G c U C:Nat} {x y:Tm} {D F:List Value} {k w6:World} (Y:xU (x,y)) (L:∃ s,x.sb s=y.sb s) (r:j<=20000) (M:gP U k x D) (t:zZ k w6) (O:gP C w6 y F) (a0:k.heap.size<=C) (vx:Vt (fun i=>0<=i/\i<(j:Int)) x) (vy:Vt (fun i=>0<=i/\i<(j:Int)) y) (V:x.count<=10000) (X:y.count<=10000) (hS:dL j w6 B h G c (.slice none 0 0) (xR j) 0 []) (hB:B<=w6.heap.size):
 Calls prog 36 #[.pointer (some ⟨h,0,none⟩),.agg D.toArray,.agg F.toArray,.bool false] w6 fun e w'=>e=.returned (.tuple #[.slice none 0 0,.bool true])/\∃ (f:Nat->Option Tm) (β:Int->Option Tm) (xs:List Value) (I:Int->Tm),xY β (x,y)/\iY β I/\kX (uL x y j) β/\dL j w' B h G c (.slice none 0 0) xs 0 []/\qm (PT eo w6) f w' j xs β/\aD eo w6 w'/\Below B w6 w':=by
 obtain⟨n,M⟩:=M;obtain⟨o,O⟩:=O;have h1:mN (fun b=>if b<k.heap.size then n b else o b) U w6 x D:=M.to t.size (fun b _ l=>t.block b l) fun b _ l=>if_pos l;have h2:mN (fun b=>if b<k.heap.size then n b else o b) C w6 y F:=O.to zA (fun b _ _=>rfl) fun b m _=>if_neg (by omega);obtain⟨z,Z,Q⟩:=h1.blocks;obtain⟨A,q3,T⟩:=h2.blocks;have k1:=Q (lz (fun b=>if b<k.heap.size then n b else o b) (z++A)) fun b m=>by unfold lz;rw[if_pos (List.mem_append.2 (.inl m))]
 have k2:=T (lz (fun b=>if b<k.heap.size then n b else o b) (z++A)) fun b m=>by unfold lz;rw[if_pos (List.mem_append.2 (.inr m))]
 obtain⟨u1,u2,u3⟩:=mF r vx vy V X;refine (sM (och:=false) (c:=c) (Bl:=z++A) u1 (by omega) u3 (fun b x m=>qL m) (by rw[zE];omega) hB (cU.of_tcn_pt k1 (by decide) (by decide)) (cU.of_tcn_pt k2 (by decide) (by decide)) Du Dv hS (fun v hv q hq=>vK hv hq)).mono ?_;rintro e w' (⟨rfl,h⟩|⟨rfl,h⟩)
 ·obtain⟨β,Mt,xs,J,g⟩:=h;obtain⟨β,xs,I,Z,Q,_,_,q3,T,q5,q6,q7⟩:=lc.tells r vx vy V X (f:=lz (fun b=>if b<k.heap.size then n b else o b) (z++A)) ⟨β,Mt,xs,(oL Y J).1,g⟩;exact⟨rfl,_,β,xs,I,Z,Q,q3,T,q5,q6,q7⟩
 ·obtain⟨β,S,Mt,p,q,J,g2,g3,g4⟩:=h;obtain⟨s,L⟩:=L;exact absurd L ((kZ.tells (B:=B) (w6:=w6) (w7:=w') ⟨β,S,Mt,p,q,(oL Y J).1,yE g2,g3,g4⟩).1 s)
def qq (w:World) (B h G c:Nat) (x y:Tm) (w':World):Prop:=∃ (P:Nat->Prop) (f:Nat->Option Tm) (β:Int->Option Tm) (xs:List Value) (f':Int->Tm),xY β (x,y)/\iY β f'/\kX (uL x y 2) β/\∀ W,zZ w' W->dL 2 W B h G c (.slice none 0 0) xs 0 []/\qm P f W 2 xs β
theorem qq.to {w w' W:World} {B h G c:Nat} {x y:Tm} (k:qq w B h G c x y w') (e:zZ w' W):qq w B h G c x y W:=by
 obtain⟨P,f,β,p,i,j,l,m,n⟩:=k;exact⟨P,f,β,p,i,j,l,m,fun V o=>n V (e.trans (o.mono e.size))⟩
theorem uE {B g h G c:Nat} {x y:Tm} {cx cy:List Value} {w:World} (hB:B<=w.heap.size) (hs:ah w g 86 #[.pointer (some ⟨h,0,none⟩)]) (hS:dL 2 w B h G c (.slice none 0 0) (xR 2) 0 []) (hx:TC w x cx) (hy:TC w y cy)
 (kx:x.check=0/\x.lt ((2:Nat):Int)=true) (ky:y.check=0/\y.lt ((2:Nat):Int)=true) (hE:xU (x,y)) (e6:∃ s,x.sb s=y.sb s) (vx:Vt (fun i=>0<=i/\i<((2:Nat):Int)) x) (vy:Vt (fun i=>0<=i/\i<((2:Nat):Int)) y):
 Calls prog 23 #[.pointer (some ⟨g,0,none⟩),.agg cx.toArray,.agg cy.toArray,.bool false] w fun e w'=>e=.returned (.tuple #[.slice none 0 0,.bool true,.int .i64 0])/\qq w B h G c x y w'/\ah w' g 86 #[.pointer (some ⟨h,0,none⟩)]/\Below B w w'/\aD eo w w':=by
 have d0:=zH hx;have d6:=zH hy;obtain⟨O,Y,l,j,o,U,D,r,A,I,v,Q,L,f6⟩:=hx.form;obtain⟨k2,Z,m,k,p,X,F,t,C,J,z,T,M,f7⟩:=hy.form;subst f6 f7;have a7:zZ w (((w.alloc (.cells #[.int .i64 O,.int .i64 Y,.string l,.bool j,.slice o U D,.slice r A I,.slice v Q L] 27)).alloc (.cells #[.int .i64 k2,.int .i64 Z,.string m,.bool k,.slice p X F,.slice t C J,.slice z T M] 27)).alloc (.cells #[.int .i64 O,.int .i64 Y,.string l,.bool j,.slice o U D,.slice r A I,.slice v Q L,.int .i64 k2,.int .i64 Z,.string m,.bool k,.slice p X F,.slice t C J,.slice z T M] 27)):=(ax w _ _).alloc (by simp;omega) _;have d8:ah (((w.alloc (.cells #[.int .i64 O,.int .i64 Y,.string l,.bool j,.slice o U D,.slice r A I,.slice v Q L] 27)).alloc (.cells #[.int .i64 k2,.int .i64 Z,.string m,.bool k,.slice p X F,.slice t C J,.slice z T M] 27)).alloc (.cells #[.int .i64 O,.int .i64 Y,.string l,.bool j,.slice o U D,.slice r A I,.slice v Q L,.int .i64 k2,.int .i64 Z,.string m,.bool k,.slice p X F,.slice t C J,.slice z T M] 27)) (w.heap.size+2) 27 #[.int .i64 O,.int .i64 Y,.string l,.bool j,.slice o U D,.slice r A I,.slice v Q L,.int .i64 k2,.int .i64 Z,.string m,.bool k,.slice p X F,.slice t C J,.slice z T M]:=by unfold ah;exact aY (by simp)
 have e0:ah (((w.alloc (.cells #[.int .i64 O,.int .i64 Y,.string l,.bool j,.slice o U D,.slice r A I,.slice v Q L] 27)).alloc (.cells #[.int .i64 k2,.int .i64 Z,.string m,.bool k,.slice p X F,.slice t C J,.slice z T M] 27)).alloc (.cells #[.int .i64 O,.int .i64 Y,.string l,.bool j,.slice o U D,.slice r A I,.slice v Q L,.int .i64 k2,.int .i64 Z,.string m,.bool k,.slice p X F,.slice t C J,.slice z T M] 27)) w.heap.size 27 #[.int .i64 O,.int .i64 Y,.string l,.bool j,.slice o U D,.slice r A I,.slice v Q L]:=((ah.new w _ _).alloc _).alloc _;have e5:ah (((w.alloc (.cells #[.int .i64 O,.int .i64 Y,.string l,.bool j,.slice o U D,.slice r A I,.slice v Q L] 27)).alloc (.cells #[.int .i64 k2,.int .i64 Z,.string m,.bool k,.slice p X F,.slice t C J,.slice z T M] 27)).alloc (.cells #[.int .i64 O,.int .i64 Y,.string l,.bool j,.slice o U D,.slice r A I,.slice v Q L,.int .i64 k2,.int .i64 Z,.string m,.bool k,.slice p X F,.slice t C J,.slice z T M] 27)) (w.heap.size+1) 27 #[.int .i64 k2,.int .i64 Z,.string m,.bool k,.slice p X F,.slice t C J,.slice z T M]:=by
  unfold ah;rw[aP (by simp)];exact aY (by simp)
 have c7:Yd (Calls prog 51 #[zY g,.slice (some ⟨w.heap.size+2,0,none⟩) 2 2] (((w.alloc (.cells #[.int .i64 O,.int .i64 Y,.string l,.bool j,.slice o U D,.slice r A I,.slice v Q L] 27)).alloc (.cells #[.int .i64 k2,.int .i64 Z,.string m,.bool k,.slice p X F,.slice t C J,.slice z T M] 27)).alloc (.cells #[.int .i64 O,.int .i64 Y,.string l,.bool j,.slice o U D,.slice r A I,.slice v Q L,.int .i64 k2,.int .i64 Z,.string m,.bool k,.slice p X F,.slice t C J,.slice z T M] 27)) fun e W'=>e=.returned (.int .i64 0)/\Yd (Below ((((w.alloc (.cells #[.int .i64 O,.int .i64 Y,.string l,.bool j,.slice o U D,.slice r A I,.slice v Q L] 27)).alloc (.cells #[.int .i64 k2,.int .i64 Z,.string m,.bool k,.slice p X F,.slice t C J,.slice z T M] 27)).alloc (.cells #[.int .i64 O,.int .i64 Y,.string l,.bool j,.slice o U D,.slice r A I,.slice v Q L,.int .i64 k2,.int .i64 Z,.string m,.bool k,.slice p X F,.slice t C J,.slice z T M] 27))).heap.size (((w.alloc (.cells #[.int .i64 O,.int .i64 Y,.string l,.bool j,.slice o U D,.slice r A I,.slice v Q L] 27)).alloc (.cells #[.int .i64 k2,.int .i64 Z,.string m,.bool k,.slice p X F,.slice t C J,.slice z T M] 27)).alloc (.cells #[.int .i64 O,.int .i64 Y,.string l,.bool j,.slice o U D,.slice r A I,.slice v Q L,.int .i64 k2,.int .i64 Z,.string m,.bool k,.slice p X F,.slice t C J,.slice z T M] 27)) W')):=by
  have c5:=hS.below a7;obtain⟨Ar,g0,cs,e,q1,q2,q3,q4⟩:=AJ hx hy a7 d8;cases e;refine (ru g h (some ⟨G,0,none⟩) 2 c (.slice none 0 0) B (xR 2) q3 q4 2 q1 q2 (fun i hi=>?_) (((w.alloc (.cells #[.int .i64 O,.int .i64 Y,.string l,.bool j,.slice o U D,.slice r A I,.slice v Q L] 27)).alloc (.cells #[.int .i64 k2,.int .i64 Z,.string m,.bool k,.slice p X F,.slice t C J,.slice z T M] 27)).alloc (.cells #[.int .i64 O,.int .i64 Y,.string l,.bool j,.slice o U D,.slice r A I,.slice v Q L,.int .i64 k2,.int .i64 Z,.string m,.bool k,.slice p X F,.slice t C J,.slice z T M] 27)) zB (hs.to a7) ⟨c5.blk,c5.le,c5.row⟩).mono fun e w' q=>⟨q.1,q.2⟩;have hi:i<2:=hi;have:i=0\/i=1:=by omega
  rcases this with rfl|rfl
  ·exact kx
  ·exact ky
 have HB:=zH hB;have c8:=zH hS;have a3:=zH hs;have d5:=zH e0;have d7:=zH e5;have c0:=zH a7;have b7:=zH vx;have b8:=zH vy;have b6:Yd (x.count<=10000/\y.count<=10000):=⟨(aQ kx.1).1,(aQ ky.1).1⟩;have c6:=zH hE;have c9:=zH e6;clear hB hs hS hx hy a7 d8 e0 e5 kx ky hE e6 vx vy;go_enter func23,ntmps23;go_wp2_with fail;refine c7.o.mono ?_;rintro e w1 ⟨rfl,n⟩;have a0:Yd (zZ w w1):=c0.o.trans (n.out.mono c0.o.size);have a5:=zH (d5.o.to n.out);have a6:=zH (d7.o.to n.out);clear c7 c0 d5 d7 n;have a4:Yd (∀ W,ah W g 86 #[zY h]->ah W w.heap.size 27 (zX O Y l j o U D r A I v Q L).toArray->ah W (w.heap.size+1) 27 (zX k2 Z m k p X F t C J z T M).toArray->W.cell? ⟨g,0,none⟩=some (.pointer (some ⟨h,0,none⟩))/\W.cell? ⟨w.heap.size,0,none⟩=some (.int .i64 O)/\W.cell? ⟨w.heap.size,1,none⟩=some (.int .i64 Y)/\W.cell? ⟨w.heap.size,2,none⟩=some (.string l)/\W.cell? ⟨w.heap.size,3,none⟩=some (.bool j)/\W.cell? ⟨w.heap.size,4,none⟩=some (.slice o U D)/\W.cell? ⟨w.heap.size,5,none⟩=some (.slice r A I)/\W.cell? ⟨w.heap.size,6,none⟩=some (.slice v Q L)/\W.cell? ⟨w.heap.size+1,0,none⟩=some (.int .i64 k2)/\W.cell? ⟨w.heap.size+1,1,none⟩=some (.int .i64 Z)/\W.cell? ⟨w.heap.size+1,2,none⟩=some (.string m)/\W.cell? ⟨w.heap.size+1,3,none⟩=some (.bool k)/\W.cell? ⟨w.heap.size+1,4,none⟩=some (.slice p X F)/\W.cell? ⟨w.heap.size+1,5,none⟩=some (.slice t C J)/\W.cell? ⟨w.heap.size+1,6,none⟩=some (.slice z T M)):=fun W h1 h2 h3=>⟨h1.cell 0,h2.cell 0,h2.cell 1,h2.cell 2,h2.cell 3,h2.cell 4,h2.cell 5,h2.cell 6,h3.cell 0,h3.cell 1,h3.cell 2,h3.cell 3,h3.cell 4,h3.cell 5,h3.cell 6⟩;have a2:Yd (zZ w1 w1.drew):=zB.drew;have g1:=a4.o _ ((a3.o.to a0.o).to a2.o) (a5.o.to a2.o) (a6.o.to a2.o);have f0:Yd (Calls prog 48 #[.agg (zX O Y l j o U D r A I v Q L).toArray] w1.drew fun e w'=>∃ k3 v3 b0 a8 A3 n3 c3 B3 b3 d3 X3 l3 e3,e=.returned (.agg (zX k3 v3 b0 a8 A3 n3 c3 B3 b3 d3 X3 l3 e3).toArray)/\Yd (zZ w1 w'/\∃ Bx,gP Bx w' x (zX k3 v3 b0 a8 A3 n3 c3 B3 b3 d3 X3 l3 e3))/\w'.cell? ⟨g,0,none⟩=some (.pointer (some ⟨h,0,none⟩))/\w'.cell? ⟨w.heap.size,0,none⟩=some (.int .i64 O)/\w'.cell? ⟨w.heap.size,1,none⟩=some (.int .i64 Y)/\w'.cell? ⟨w.heap.size,2,none⟩=some (.string l)/\w'.cell? ⟨w.heap.size,3,none⟩=some (.bool j)/\w'.cell? ⟨w.heap.size,4,none⟩=some (.slice o U D)/\w'.cell? ⟨w.heap.size,5,none⟩=some (.slice r A I)/\w'.cell? ⟨w.heap.size,6,none⟩=some (.slice v Q L)/\w'.cell? ⟨w.heap.size+1,0,none⟩=some (.int .i64 k2)/\w'.cell? ⟨w.heap.size+1,1,none⟩=some (.int .i64 Z)/\w'.cell? ⟨w.heap.size+1,2,none⟩=some (.string m)/\w'.cell? ⟨w.heap.size+1,3,none⟩=some (.bool k)/\w'.cell? ⟨w.heap.size+1,4,none⟩=some (.slice p X F)/\w'.cell? ⟨w.heap.size+1,5,none⟩=some (.slice t C J)/\w'.cell? ⟨w.heap.size+1,6,none⟩=some (.slice z T M)):=by
  refine (gR d0.o b7.o.2.2.1 w1.drew a0.o.drew).mono ?_;rintro e w' ⟨f3,rfl,h1,h2⟩;obtain⟨k3,v3,b0,a8,A3,n3,c3,B3,b3,d3,X3,l3,e3,rfl⟩:=h1.tc.form;have n:zZ w1 w':=a2.o.trans h2;exact⟨k3,v3,b0,a8,A3,n3,c3,B3,b3,d3,X3,l3,e3,rfl,⟨n,_,h1⟩,a4.o _ ((a3.o.to a0.o).to n) (a5.o.to n) (a6.o.to n)⟩
 have f1:Yd (∀ W cx,Yd (zZ w1 W/\∃ Bx,gP Bx W x cx)->Calls prog 48 #[.agg (zX k2 Z m k p X F t C J z T M).toArray] W fun e w'=>∃ k4 v4 b5 a9 A4 n4 c4 B4 b4 d4 X4 l4 e4,e=.returned (.agg (zX k4 v4 b5 a9 A4 n4 c4 B4 b4 d4 X4 l4 e4).toArray)/\Yd (zZ w1 w'/\∃ w5 Bx By,gP Bx w5 x cx/\zZ w5 w'/\gP By w' y (zX k4 v4 b5 a9 A4 n4 c4 B4 b4 d4 X4 l4 e4)/\w5.heap.size<=By)/\w'.cell? ⟨g,0,none⟩=some (.pointer (some ⟨h,0,none⟩))/\w'.cell? ⟨w.heap.size,0,none⟩=some (.int .i64 O)/\w'.cell? ⟨w.heap.size,1,none⟩=some (.int .i64 Y)/\w'.cell? ⟨w.heap.size,2,none⟩=some (.string l)/\w'.cell? ⟨w.heap.size,3,none⟩=some (.bool j)/\w'.cell? ⟨w.heap.size,4,none⟩=some (.slice o U D)/\w'.cell? ⟨w.heap.size,5,none⟩=some (.slice r A I)/\w'.cell? ⟨w.heap.size,6,none⟩=some (.slice v Q L)/\w'.cell? ⟨w.heap.size+1,0,none⟩=some (.int .i64 k2)/\w'.cell? ⟨w.heap.size+1,1,none⟩=some (.int .i64 Z)/\w'.cell? ⟨w.heap.size+1,2,none⟩=some (.string m)/\w'.cell? ⟨w.heap.size+1,3,none⟩=some (.bool k)/\w'.cell? ⟨w.heap.size+1,4,none⟩=some (.slice p X F)/\w'.cell? ⟨w.heap.size+1,5,none⟩=some (.slice t C J)/\w'.cell? ⟨w.heap.size+1,6,none⟩=some (.slice z T M)):=fun W cx hA=>by
  have a1:zZ w W:=a0.o.trans (hA.out.1.mono a0.o.size);obtain⟨Bx,f5⟩:=hA.out.2;refine (gR d6.o b8.o.2.2.1 W a1).mono ?_;rintro e w' ⟨f3,rfl,h1,h2⟩;obtain⟨k4,v4,b5,a9,A4,n4,c4,B4,b4,d4,X4,l4,e4,rfl⟩:=h1.tc.form;have n:zZ w1 w':=hA.out.1.trans (h2.mono hA.out.1.size);exact⟨k4,v4,b5,a9,A4,n4,c4,B4,b4,d4,X4,l4,e4,rfl,⟨n,W,Bx,_,f5,h2,h1,Nat.le_succ _⟩,a4.o _ ((a3.o.to a0.o).to n) (a5.o.to n) (a6.o.to n)⟩
 have f2:Yd (∀ W cx cy,Yd (zZ w1 W/\∃ w5 Bx By,gP Bx w5 x cx/\zZ w5 W/\gP By W y cy/\w5.heap.size<=By)->Calls prog 36 #[zY h,.agg cx.toArray,.agg cy.toArray,.bool false] W fun e w'=>e=.returned (.tuple #[.slice none 0 0,.bool true])/\Yd (qq w B h G c x y w'/\ah w' g 86 #[zY h]/\Below B w w'/\aD eo w w')/\w'.cell? ⟨g,0,none⟩=some (.pointer (some ⟨h,0,none⟩))/\w'.cell? ⟨w.heap.size,0,none⟩=some (.int .i64 O)/\w'.cell? ⟨w.heap.size,1,none⟩=some (.int .i64 Y)/\w'.cell? ⟨w.heap.size,2,none⟩=some (.string l)/\w'.cell? ⟨w.heap.size,3,none⟩=some (.bool j)/\w'.cell? ⟨w.heap.size,4,none⟩=some (.slice o U D)/\w'.cell? ⟨w.heap.size,5,none⟩=some (.slice r A I)/\w'.cell? ⟨w.heap.size,6,none⟩=some (.slice v Q L)/\w'.cell? ⟨w.heap.size+1,0,none⟩=some (.int .i64 k2)/\w'.cell? ⟨w.heap.size+1,1,none⟩=some (.int .i64 Z)/\w'.cell? ⟨w.heap.size+1,2,none⟩=some (.string m)/\w'.cell? ⟨w.heap.size+1,3,none⟩=some (.bool k)/\w'.cell? ⟨w.heap.size+1,4,none⟩=some (.slice p X F)/\w'.cell? ⟨w.heap.size+1,5,none⟩=some (.slice t C J)/\w'.cell? ⟨w.heap.size+1,6,none⟩=some (.slice z T M)):=fun W cx cy f4=>by
  obtain⟨n,w5,Bx,By,h1,h2,h3,h4⟩:=f4.out;have a1:zZ w W:=a0.o.trans (n.mono a0.o.size);refine (xM c6.o c9.o (by omega) h1 h2 h3 h4 b7.o b8.o b6.o.1 b6.o.2 (c8.o.below a1) (zC HB.o a1.size)).mono ?_;rintro e w' ⟨rfl,f,β,xs,f',q1,q2,q3,q4,q5,q6,q7⟩;have hg:=((a3.o.to a1).frT q6 (by decide));refine⟨rfl,⟨⟨PT eo W,f,β,xs,f',q1,q2,q3,fun V hV=>⟨q4.below hV,q5.stay ?_⟩⟩,hg,(a1.mono HB.o).trans q7,(aD.of_below a1).trans q6⟩,a4.o _ hg (((a5.o.to n)).frT q6 (by decide)) ((a6.o.to n).frT q6 (by decide))⟩;exact⟨hV.size,fun b hb f8=>hV.block b f8⟩
 clear HB c8 a3 d0 d6 a0 a5 a6 a2 a4 b7 b8 b6 c6 c9;go_wp2_with fail
 go_region_held3 (fun w'=>w'.cell? ⟨g,0,none⟩=some (.pointer (some ⟨h,0,none⟩))/\w'.cell? ⟨w.heap.size,0,none⟩=some (.int .i64 O)/\w'.cell? ⟨w.heap.size,1,none⟩=some (.int .i64 Y)/\w'.cell? ⟨w.heap.size,2,none⟩=some (.string l)/\w'.cell? ⟨w.heap.size,3,none⟩=some (.bool j)/\w'.cell? ⟨w.heap.size,4,none⟩=some (.slice o U D)/\w'.cell? ⟨w.heap.size,5,none⟩=some (.slice r A I)/\w'.cell? ⟨w.heap.size,6,none⟩=some (.slice v Q L)/\w'.cell? ⟨w.heap.size+1,0,none⟩=some (.int .i64 k2)/\w'.cell? ⟨w.heap.size+1,1,none⟩=some (.int .i64 Z)/\w'.cell? ⟨w.heap.size+1,2,none⟩=some (.string m)/\w'.cell? ⟨w.heap.size+1,3,none⟩=some (.bool k)/\w'.cell? ⟨w.heap.size+1,4,none⟩=some (.slice p X F)/\w'.cell? ⟨w.heap.size+1,5,none⟩=some (.slice t C J)/\w'.cell? ⟨w.heap.size+1,6,none⟩=some (.slice z T M))
  (with_reducible assumption)
  (first
   |(go_at_call 48;(with_reducible refine f0.o.mono ?_);rintro e y1 ⟨k3,v3,b0,a8,A3,n3,c3,B3,b3,d3,X3,l3,e3,rfl,e7,g2⟩)
   |(go_at_call 48;(with_reducible refine (f1.o _ _ e7).mono ?_);rintro e y2 ⟨k4,v4,b5,a9,A4,n4,c4,B4,b4,d4,X4,l4,e4,rfl,e8,g3⟩)
   |(go_at_call 36;(with_reducible refine (f2.o _ _ _ e8).mono ?_);rintro e y3 ⟨rfl,e9,g4⟩))
 go_wp2_with fail
 go_ret3
 exact⟨rfl,e9.o⟩
theorem qo {w W:World} {a:Array Value} {T:TypeId} (h:w.alloc (.cells a T)=W):zZ w W/\ah W w.heap.size T a:=h▸⟨ae w _,ah.new w _ _⟩
theorem Dj {w W:World} {a b:Array Value} {T U:TypeId} (h:(w.alloc (.cells a T)).alloc (.cells b U)=W):zZ w W/\ah W w.heap.size T a/\ah W (w.heap.size+1) U b:=by
 subst h;refine⟨ax w _ _,(ah.new w _ _).alloc _,?_⟩;unfold ah;exact aY (by simp)
theorem bk3 {w W:World} {a b c:Array Value} {T U V:TypeId} (h:((w.alloc (.cells a T)).alloc (.cells b U)).alloc (.cells c V)=W):zZ w W/\ah W w.heap.size T a/\ah W (w.heap.size+1) U b/\ah W (w.heap.size+1+1) V c:=by
 subst h;obtain⟨e,f,i⟩:=Dj (w:=w) (a:=a) (b:=b) (T:=T) (U:=U) rfl;refine⟨e.alloc e.size _,f.alloc _,i.alloc _,?_⟩;unfold ah;exact aY (by simp)
theorem ah.r7 {w:World} {g:Nat} {t:TypeId} {a b c d e f i:Value} (h:ah w g t #[a,b,c,d,e,f,i]):w.cell? ⟨g,0,none⟩=some a/\w.cell? ⟨g,1,none⟩=some b/\w.cell? ⟨g,2,none⟩=some c/\w.cell? ⟨g,3,none⟩=some d/\w.cell? ⟨g,4,none⟩=some e/\w.cell? ⟨g,5,none⟩=some f/\w.cell? ⟨g,6,none⟩=some i:=⟨h.cell 0,h.cell 1,h.cell 2,h.cell 3,h.cell 4,h.cell 5,h.cell 6⟩
theorem ah.f7 {w:World} {g:Nat} {t:TypeId} {cs:Array Value} (h:ah w g t cs):w.frozen? ⟨g,0,none⟩=false/\w.frozen? ⟨g,1,none⟩=false/\w.frozen? ⟨g,2,none⟩=false/\w.frozen? ⟨g,3,none⟩=false/\w.frozen? ⟨g,4,none⟩=false/\w.frozen? ⟨g,5,none⟩=false/\w.frozen? ⟨g,6,none⟩=false:=⟨h.frozen 0,h.frozen 1,h.frozen 2,h.frozen 3,h.frozen 4,h.frozen 5,h.frozen 6⟩
abbrev R7 (w:World) (g:Nat) (a b c d e f i:Value):Prop:=w.cell? ⟨g,0,none⟩=some a/\w.cell? ⟨g,1,none⟩=some b/\w.cell? ⟨g,2,none⟩=some c/\w.cell? ⟨g,3,none⟩=some d/\w.cell? ⟨g,4,none⟩=some e/\w.cell? ⟨g,5,none⟩=some f/\w.cell? ⟨g,6,none⟩=some i
def DB (xs:List Value) (i:Nat) (cs:List Value):Prop:=∀ q u,(iP cs)[q]?=some u->xs[i*9+q]?=some u
def uJ (cs:List Value):Prop:=∃ pk pv ps pn pA pa pc pB pd pe pX pl pq,cs=[.int .i64 pk,.int .i64 pv,.string ps,.bool pn,.slice pA pa pc,.slice pB pd pe,.slice pX pl pq]/\pk≠1/\pk≠5
def CI (xs:List Value):Prop:=∃ c1,DB xs 1 c1/\(uJ c1\/(∃ ps pn pA pa pc pB pd pe pX pl pq,c1=[.int .i64 1,.int .i64 0,.string ps,.bool pn,.slice pA pa pc,.slice pB pd pe,.slice pX pl pq])/\∃ c0,DB xs 0 c0/\uJ c0)
theorem Bw {B h G c m:Nat} {tv:Value} {xs ys:List Value} (hx:CI xs) (w:World) (hS:HS w B h G c tv xs m ys):
 Calls prog 99 #[.pointer (some ⟨h,0,none⟩)] w fun e w1=>∃ F,e=.returned (.pointer (some ⟨F,0,none⟩))/\zZ w w1/\Calls prog 100 #[.pointer (some ⟨F,0,none⟩),.agg #[.int .i64 1,.int .i64 1,.string ⟨#[]⟩,.bool false,.slice none 0 0,.slice none 0 0,.slice none 0 0]] w1 fun e w'=>e=.returned (.bool true)/\zZ w w':=by
 refine (mW h w).mono ?_;rintro e w1 ⟨rfl,rfl⟩;have U:zZ w (((w.alloc (.map #[] 0)).alloc (.map #[] 0)).alloc (.cells #[.pointer (some ⟨h,0,none⟩),.map (some w.heap.size),.map (some (w.heap.size+1))] 178)):=((ae w _).alloc (by simp) _).alloc (by simp;omega) _;have hF:zF9 (((w.alloc (.map #[] 0)).alloc (.map #[] 0)).alloc (.cells #[.pointer (some ⟨h,0,none⟩),.map (some w.heap.size),.map (some (w.heap.size+1))] 178)) (w.heap.size+2) h w.heap.size (w.heap.size+1):=aY (by simp);have hM:da (((w.alloc (.map #[] 0)).alloc (.map #[] 0)).alloc (.cells #[.pointer (some ⟨h,0,none⟩),.map (some w.heap.size),.map (some (w.heap.size+1))] 178)) w.heap.size 0 (fun _=>none):=by
  refine da.empty (c:=0) ?_;rw[aP (by simp;omega),aP (by simp)];exact aY rfl
 have o:=hS.below U;generalize World.alloc _ _=W at U hF hM o ⊢;refine⟨_,rfl,U,?_⟩;obtain⟨c1,Y,hc⟩:=hx;have i:∀ {cs},uJ cs->∀ j Z M,da j w.heap.size Z M->Calls prog 100 #[.pointer (some ⟨w.heap.size+2,0,none⟩),.agg cs.toArray] j fun e W'=>e=.returned (.bool true)/\(∃ r l,da W' w.heap.size r l)/\ag (fun k=>k=w.heap.size) j W':=fun p j Z M f=>by
  obtain⟨pk,pv,L,I,t,y,z,v,A,C,x,D,J,rfl,h1,h5⟩:=p;refine (qZ ⟨w.heap.size+2,0,none⟩ pk pv L I t y z v A C x D J h1 h5 j).mono ?_;rintro e W' ⟨rfl,V⟩;exact⟨rfl,⟨Z,M,f.keep (V.block _ (an f.is.choose_spec.choose_spec))⟩,ag.of_below V⟩
 have O:∀ (e:Ending) (w':World),(e=.returned (.bool true)/\(∃ r l,da w' w.heap.size r l)/\ag (fun k=>k=w.heap.size) W w')->e=.returned (.bool true)/\zZ w w':=fun e w' h=>⟨h.1,U.trans (h.2.2.below U.size (fun k e=>Nat.le_of_eq e.symm))⟩;rcases hc with p|⟨⟨L,I,t,y,z,v,A,C,x,D,J,rfl⟩,c0,a0,p⟩
 ·have q:=p;obtain⟨pk,pv,L,I,t,y,z,v,A,C,x,D,J,rfl,h1,h5⟩:=p;exact (gy B h G c m (w.heap.size+2) w.heap.size (w.heap.size+1) 0 tv _ ys (fun _=>none) 1 (by omega) ⟨#[]⟩ false none 0 0 none 0 0 none 0 0 pk pv L I t y z v A C x D J Y _ o hF hM rfl (fun W n' f' T Q n X=>i q W n' f' n)).mono O
 ·refine (gy B h G c m (w.heap.size+2) w.heap.size (w.heap.size+1) 0 tv _ ys (fun _=>none) 1 (by omega) ⟨#[]⟩ false none 0 0 none 0 0 none 0 0 1 0 L I t y z v A C x D J Y _ o hF hM rfl (fun W n' f' T Q n X=>?_)).mono O;have q:=p;obtain⟨rk,rv,rs,rn,rA,ra,rc,rB,rd,re,rX,rl,rq,rfl,h1,h5⟩:=p;exact gy B h G c m (w.heap.size+2) w.heap.size (w.heap.size+1) n' tv _ ys f' 0 (by omega) L I t y z v A C x D J rk rv rs rn rA ra rc rB rd re rX rl rq a0 W T Q n (X 0 (by decide)) (fun j Z M a2 a1 f a3=>i q j Z M f)
theorem Bu {B h G c m:Nat} {tv:Value} {xs D:List Value} (t:CI xs) (w:World) (r:HS w B h G c tv xs m D):
 Calls prog 78 #[.pointer (some ⟨h,0,none⟩),.agg #[.int .i64 1,.int .i64 1,.string ⟨#[]⟩,.bool false,.slice none 0 0,.slice none 0 0,.slice none 0 0]] w fun e w'=>e=.returned (.bool true)/\Yd (zZ w w'):=by
 go_enter func78,ntmps78;go_wp2_with fail;generalize v:World.alloc _ _=x;obtain⟨i,j⟩:=qo v;have n:Yd (Calls prog 99 #[zY h] x.drew fun e q=>∃ F,e=.returned (.pointer (some ⟨F,0,none⟩))/\Yd (Calls prog 100 #[zY F,.agg (zX 1 1 ⟨#[]⟩ false none 0 0 none 0 0 none 0 0).toArray] q fun e w'=>e=.returned (.bool true)/\Yd (zZ w w')/\R7 w' w.heap.size (.int .i64 1) (.int .i64 1) (.string ⟨#[]⟩) (.bool false) (.slice none 0 0) (.slice none 0 0) (.slice none 0 0))/\R7 q w.heap.size (.int .i64 1) (.int .i64 1) (.string ⟨#[]⟩) (.bool false) (.slice none 0 0) (.slice none 0 0) (.slice none 0 0)):=by
  refine (Bw t _ (r.below i.drew)).mono ?_;rintro e q ⟨F,rfl,o,C⟩;have p:=j.drew.to o;refine⟨F,rfl,C.mono ?_,p.r7⟩;rintro e w' ⟨rfl,f⟩;exact⟨rfl,i.drew.trans (f.mono i.drew.size),(j.drew.to f).r7⟩
 have y:=j.drew.r7;clear r t i j v
 go_region_held3 (fun w'=>R7 w' w.heap.size (.int .i64 1) (.int .i64 1) (.string ⟨#[]⟩) (.bool false) (.slice none 0 0) (.slice none 0 0) (.slice none 0 0))
  (with_reducible assumption)
  (first
   |(go_at_call 99;(with_reducible refine n.o.mono ?_);rintro e I ⟨F,rfl,l,z⟩)
   |(go_at_call 100;(with_reducible refine l.o.mono ?_);rintro e J ⟨rfl,k,A⟩))
 go_wp2_with fail;go_ret;exact⟨rfl,k⟩
def tmA:Tm:=Tm.mk 3 0 ⟨#[97]⟩ ⟨false,[],[]⟩ []
theorem TC.leaf {w w':World} {cs:List Value} (h:TC w tmA cs):TC w' tmA cs:=by
 cases h with
 |mk k v s n l A B m j cs x D C r t z f y G F=>
  have g:∀ {v:Value},Sl .u32 w v []->Sl .u32 w' v []:=fun ⟨A,c,e,o,p,q,_⟩=>⟨A,c,e,o,p,q,fun h=>absurd h (by simp)⟩;exact .mk _ _ _ _ _ A B m j cs x D C (g r) (g t) z f y (fun h=>absurd h (by simp)) (fun i h=>absurd h (by simp))
theorem TC.tmA {w:World} {cs:List Value} (h:TC w tmA cs):∃ p e o j f m1 m i l c,cs=[.int .i64 3,.int .i64 0,.string ⟨#[97]⟩,.bool p,.slice e o j,.slice f m1 m,.slice i l c]:=by
 have n:=h;unfold Go.Proofs.YtlhojoefhannnaaGreat.tmA at n;obtain⟨k,v,s,p,e,o,j,f,m1,m,i,l,c,rfl⟩:=h.form;cases n;exact⟨_,_,_,_,_,_,_,_,_,_,rfl⟩
theorem lZ {B b:Nat} {w W:World} (h:Below B w W) (c:B<=b) {x0 x1 x2 x3 x4 x5 x6:Value}:Below B w (((((((W.setCell ⟨b,0,none⟩ x0).setCell ⟨b,1,none⟩ x1).setCell ⟨b,2,none⟩ x2).setCell ⟨b,3,none⟩ x3).setCell ⟨b,4,none⟩ x4).setCell ⟨b,5,none⟩ x5).setCell ⟨b,6,none⟩ x6):=((((((h.setCell c _).setCell c _).setCell c _).setCell c _).setCell c _).setCell c _).setCell c _
theorem uk {w W:World} {g:Nat} {T:TypeId} {e f i j l m n x0 x1 x2 x3 x4 x5 x6:Value} (h:((((((w.setCell ⟨g,0,none⟩ x0).setCell ⟨g,1,none⟩ x1).setCell ⟨g,2,none⟩ x2).setCell ⟨g,3,none⟩ x3).setCell ⟨g,4,none⟩ x4).setCell ⟨g,5,none⟩ x5).setCell ⟨g,6,none⟩ x6=W) (c:ah w g T #[e,f,i,j,l,m,n]):ah W g T #[x0,x1,x2,x3,x4,x5,x6]/\ag (fun k=>k=g) w W:=by
 subst h;have:=((((((c.set_ 0 x0).set_ 1 x1).set_ 2 x2).set_ 3 x3).set_ 4 x4).set_ 5 x5).set_ 6 x6;exact⟨by simpa using this,(((((((ag.refl _ _).trans (ag.setCell _ ⟨g,0,none⟩ x0)).trans (ag.setCell _ ⟨g,1,none⟩ x1)).trans (ag.setCell _ ⟨g,2,none⟩ x2)).trans (ag.setCell _ ⟨g,3,none⟩ x3)).trans (ag.setCell _ ⟨g,4,none⟩ x4)).trans (ag.setCell _ ⟨g,5,none⟩ x5)).trans (ag.setCell _ ⟨g,6,none⟩ x6)⟩
structure CK (h:Nat) (w:World):Prop where
 fin:∀ W,zZ w W->Calls prog 78 #[.pointer (some ⟨h,0,none⟩),.agg #[.int .i64 1,.int .i64 1,.string ⟨#[]⟩,.bool false,.slice none 0 0,.slice none 0 0,.slice none 0 0]] W fun e w'=>e=.returned (.bool true)/\Yd (zZ W w')
 size:∀ W,zZ w W->Calls prog 38 #[.pointer (some ⟨h,0,none⟩),.agg #[.int .i64 1,.int .i64 1,.string ⟨#[]⟩,.bool false,.slice none 0 0,.slice none 0 0,.slice none 0 0],.int .i64 10000] W fun e w'=>e=.returned (.int .i64 1)/\Yd (zZ W w')
 tree:∀ W,zZ w W->Calls prog 39 #[.pointer (some ⟨h,0,none⟩),.agg #[.int .i64 1,.int .i64 1,.string ⟨#[]⟩,.bool false,.slice none 0 0,.slice none 0 0,.slice none 0 0]] W fun e w'=>∃ pk pv ps pn pA pa pc pB pd pe pX pl pq,e=.returned (.agg #[.int .i64 pk,.int .i64 pv,.string ps,.bool pn,.slice pA pa pc,.slice pB pd pe,.slice pX pl pq])/\Yd (TC w' tmA (zX pk pv ps pn pA pa pc pB pd pe pX pl pq))/\Yd (zZ W w')
theorem m0 {h:Nat} {w:World} (U:CK h w):Calls prog 52 #[.pointer (some ⟨h,0,none⟩),.agg #[.int .i64 1,.int .i64 1,.string ⟨#[]⟩,.bool false,.slice none 0 0,.slice none 0 0,.slice none 0 0],.int .i64 10000] w fun e w'=>∃ x C ps z m p q n r t o y A,e=.returned (.tuple #[.agg #[.int .i64 x,.int .i64 C,.string ps,.bool z,.slice m p q,.slice n r t,.slice o y A],.int .i64 0])/\Yd (TC w' tmA (zX x C ps z m p q n r t o y A))/\Yd (zZ w w'):=by
 have D:=zH U;clear U;go_enter func52,ntmps52;go_wp2_with fail;generalize Y:World.alloc _ _=W1;obtain⟨T,X,V⟩:=Dj Y;have c:=zH T;have k:=zH X;have j:=zH V;clear T X V Y;refine (D.o.fin _ c.o).mono ?_;rintro e Z ⟨rfl,f⟩;replace c:Yd (zZ w Z):=c.o.trans (f.out.mono c.o.size);replace k:=zH (k.o.to f.out);replace j:=zH (j.o.to f.out);clear f;obtain⟨G,I,J,L,M,O,Q⟩:=k.o.r7;go_wp2_with fail;refine (D.o.size _ c.o).mono ?_;rintro e w2 ⟨rfl,i⟩;clear G I J L M O Q;replace c:Yd (zZ w w2):=c.o.trans (i.out.mono c.o.size);replace k:=zH (k.o.to i.out);replace j:=zH (j.o.to i.out);clear i;obtain⟨G,I,J,L,M,O,Q⟩:=k.o.r7;go_wp2_with fail;refine (D.o.tree _ c.o).mono ?_;rintro e w3 ⟨x,C,ps,z,m,p,q,n,r,t,o,y,A,rfl,F,l⟩;clear G I J L M O Q k;replace c:Yd (zZ w w3):=c.o.trans (l.out.mono c.o.size);replace j:=zH (j.o.to l.out);clear l D;obtain⟨r0,r1,r2,r3,r4,r5,r6⟩:=j.o.r7;obtain⟨z0,z1,z2,z3,z4,z5,z6⟩:=j.o.f7;go_wp2_with fail;refine bodyPost_ret (v:=.tuple #[.agg #[.int .i64 x,.int .i64 C,.string ps,.bool z,.slice m p q,.slice n r t,.slice o y A],.int .i64 0]) (by rw[results_cell_tmp rfl];go_simp) rfl ?_;exact⟨x,C,ps,z,m,p,q,n,r,t,o,y,A,rfl,F.o.leaf,lZ c.o (Nat.le_succ _)⟩
theorem Db:(Tm.var 1).check=0/\(Tm.var 1).lt ((2:Nat):Int)=true:=by
 refine⟨?_,by simp[Tm.var,Tm.lt]⟩;have c:(Tm.var 1).count=1:=by simp[Tm.var,Tm.count,am]
 have e:(Tm.var 1).err0=0:=by simp[Tm.var,Tm.err0,bH,au,bf]
 unfold Tm.check;rw[c,e];rfl
theorem pL {B g h G c:Nat} {xs:List Value} {w:World} (hs:ah w g 86 #[.pointer (some ⟨h,0,none⟩)]) (hS:HS w B h G c (.slice none 0 0) xs 0 []) (hc:CK h w):
 Calls prog 25 #[.pointer (some ⟨g,0,none⟩),.agg #[.int .i64 1,.int .i64 1,.string ⟨#[]⟩,.bool false,.slice none 0 0,.slice none 0 0,.slice none 0 0]] w fun e w'=>∃ ng A1 n1 c1 B1 m1 d1 Xr l z,e=.returned (.tuple #[.agg #[.int .i64 3,.int .i64 0,.string ⟨#[97]⟩,.bool ng,.slice A1 n1 c1,.slice B1 m1 d1,.slice Xr l z],.int .i64 0])/\zZ w w':=by
 have a1:Yd (∀ (W:World) (b:Nat),zZ w W->ah W b 27 (zX 1 1 ⟨#[]⟩ false none 0 0 none 0 0 none 0 0).toArray->Calls prog 51 #[zY g,.slice (some ⟨b,0,none⟩) 1 1] W fun e W'=>e=.returned (.int .i64 0)/\Yd (zZ W W')):=fun W b D m=>by
  have T:=hS.below D;refine ru g h (some ⟨G,0,none⟩) 2 c (.slice none 0 0) B xs (w:=W) (args:=[Tm.var 1]) (Ar:=some ⟨b,0,none⟩) (cs:=fun _=>vt 1) (fun _=>⟨b,0,rfl,m.lt,fun i hi j hj=>?_⟩) (fun i hi=>?_) 1 zA (by decide) (fun i hi=>?_) W zB (hs.to D) ⟨T.blk,T.le,T.row⟩
  ·obtain rfl:i=0:=by simpa using hi
   rw[Nat.zero_mul,Nat.add_zero,Nat.zero_add,m.cell j];simp[vt]
  ·obtain rfl:i=0:=by simpa using hi
   exact TC.var 1 ⟨by decide,by decide⟩ W
  ·obtain rfl:i=0:=by simpa using hi
   exact Db
 have a5:Yd (∀ W,zZ w W->Calls prog 52 #[zY h,.agg (zX 1 1 ⟨#[]⟩ false none 0 0 none 0 0 none 0 0).toArray,.int .i64 10000] W fun e w'=>∃ pk pv ps pn pA pa pc pB pd pe pX pl pq,e=.returned (.tuple #[.agg (zX pk pv ps pn pA pa pc pB pd pe pX pl pq).toArray,.int .i64 0])/\Yd (TC w' tmA (zX pk pv ps pn pA pa pc pB pd pe pX pl pq))/\Yd (zZ W w')):=fun W D=>m0 ⟨fun V hV=>hc.fin V (D.trans (hV.mono D.size)),fun V hV=>hc.size V (D.trans (hV.mono D.size)),fun V hV=>hc.tree V (D.trans (hV.mono D.size))⟩;have a0:Yd (∀ (V W:World) (cs:List Value),TC V tmA cs->Calls prog 48 #[.agg cs.toArray] W fun e W'=>∃ ng A1 n1 c1 B1 m1 d1 Xr l z,e=.returned (.agg (zX 3 0 ⟨#[97]⟩ ng A1 n1 c1 B1 m1 d1 Xr l z).toArray)/\Yd (zZ W W')):=fun V W cs h=>by
  refine (gR (h.leaf (w':=W)) (by simp[tmA,Tm.sm,xT]) W zB).mono ?_;rintro e w' ⟨b1,rfl,h1,h2⟩;obtain⟨ng,A1,n1,c1,B1,m1,d1,Xr,l,z,rfl⟩:=h1.tc.tmA;exact⟨ng,A1,n1,c1,B1,m1,d1,Xr,l,z,rfl,h2⟩
 have q:=zH hs;clear hs hS hc;go_enter func25,ntmps25;go_wp2_with fail;generalize A:World.alloc _ _=W3;obtain⟨m,ht,hr,n⟩:=bk3 A;have a6:=zH ht;have a2:=zH hr;refine (a1.o _ _ m n).mono ?_;rintro e w1 ⟨rfl,F⟩;have t:Yd (zZ w w1):=m.trans (F.out.mono m.size);have O:=zH (a6.o.to F.out);have L:=zH (a2.o.to F.out);clear m ht hr n A a1 a6 a2 F;have r:Yd (∀ W,ah W w.heap.size 27 (zX 1 1 ⟨#[]⟩ false none 0 0 none 0 0 none 0 0).toArray->ah W g 86 #[zY h]->W.cell? ⟨g,0,none⟩=some (.pointer (some ⟨h,0,none⟩))/\R7 W w.heap.size (.int .i64 1) (.int .i64 1) (.string ⟨#[]⟩) (.bool false) (.slice none 0 0) (.slice none 0 0) (.slice none 0 0)):=fun W h1 h2=>⟨h2.cell 0,h1.r7⟩;go_wp2_with fail;refine wp_region_held_drew (S:=fun W=>W.cell? ⟨g,0,none⟩=some (.pointer (some ⟨h,0,none⟩))/\R7 W w.heap.size (.int .i64 1) (.int .i64 1) (.string ⟨#[]⟩) (.bool false) (.slice none 0 0) (.slice none 0 0) (.slice none 0 0)) (by kernel_rfl) (r.o _ O.o.drew (q.o.to t.o.drew)) (fun hHeld=>?_)
 (refine zT 0 ?_;try simp only[Act.put,L1,L2])
 (refine zT 1 ?_;try simp only[Act.put,L1,L2])
 (refine zT 2 ?_;try simp only[Act.put,L1,L2])
 (refine zT 3 ?_;try simp only[Act.put,L1,L2])
 (refine zT 4 ?_;try simp only[Act.put,L1,L2])
 (refine wpAnyH_ready (rs:=[5,9]) (by kernel_rfl) (by simp) ?_;refine AllReadyH.cons rfl (fun K hK=>?_) (AllReadyH.cons rfl (fun K hK=>?_) AllReadyH.nil))
 go_simp;refine (a5.o _ t.o.drew).mono ?_;rintro e X ⟨pk,pv,ps,pn,pA,pa,pc,pB,pd,pe,pX,pl,pq,rfl,a8,I⟩;have f:Yd (zZ w X):=t.o.drew.trans (I.out.mono t.o.drew.size);have p:=zH (L.o.drew.to I.out);have o:=zH (O.o.drew.to I.out);refine hK.out _ _ (r.o _ o.o (q.o.to f.o)) (fun hHeld=>?_);clear hK K I
 (try simp only[Act.put,L1,L2])
 focus (refine zT 6 ?_;try simp only[Act.put,L1,L2])
 focus (refine zT 7 ?_;try simp only[Act.put,L1,L2])
 focus (refine zT 8 ?_;try simp only[Act.put,L1,L2])
 (refine zR 9 fun K hK=>?_)
 go_simp;generalize A:World.alloc _ _=w3;obtain⟨m,J⟩:=qo A;have Z:Yd (ah w3 X.heap.size 27 (zX 0 0 ⟨#[]⟩ false none 0 0 none 0 0 none 0 0).toArray):=J;have x:Yd (zZ w w3):=f.o.trans (m.mono f.o.size);have M:=zH (p.o.to m);have y:=zH (o.o.to m);have Y:Yd (w.heap.size+1<X.heap.size):=p.o.lt;refine hK.out _ _ (r.o _ y.o (q.o.to x.o)) (fun hHeld=>?_);clear hK K m J A f p o;generalize X.heap.size=xb at Z Y ⊢
 (try simp only[Act.put,L1,L2])
 rotate_left
 go_simp;generalize A:World.alloc _ _=X;obtain⟨m,J⟩:=qo A;have Q:Yd (ah X.drew w1.heap.size 27 (zX 0 0 ⟨#[]⟩ false none 0 0 none 0 0 none 0 0).toArray):=J.drew;have Y:Yd (w.heap.size+1<w1.heap.size):=L.o.lt;have f:Yd (zZ w X.drew):=(t.o.trans (m.mono t.o.size)).drew;have p:=zH (L.o.to m).drew;have o:=zH (O.o.to m).drew;refine hK.out _ _ (r.o _ o.o (q.o.to f.o)) (fun hHeld=>?_);clear hK K m J A;generalize w1.heap.size=xb at Q Y ⊢
 (try simp only[Act.put,L1,L2])
 (refine zR 5 fun K hK=>?_)
 go_simp;refine (a5.o _ f.o).mono ?_;rintro e w3 ⟨pk,pv,ps,pn,pA,pa,pc,pB,pd,pe,pX,pl,pq,rfl,a8,n⟩;have Z:=zH (Q.o.to n.out);have x:Yd (zZ w w3):=f.o.trans (n.out.mono f.o.size);have M:=zH (p.o.to n.out);have y:=zH (o.o.to n.out);refine hK.out _ _ (r.o _ y.o (q.o.to x.o)) (fun hHeld=>?_);clear hK K n Q f p o
 (try simp only[Act.put,L1,L2])
 focus (refine zT 6 ?_;try simp only[Act.put,L1,L2])
 focus (refine zT 7 ?_;try simp only[Act.put,L1,L2])
 focus (refine zT 8 ?_;try simp only[Act.put,L1,L2])
 skip
 all_goals
  (refine zR 10 fun K hK=>?_)
  obtain⟨x0,x1,x2,x3,x4,x5,x6⟩:=Z.o.r7;obtain⟨y0,y1,y2,y3,y4,y5,y6⟩:=Z.o.f7;go_simp;generalize A:World.setCell _ _ _=w4;obtain⟨J,hk⟩:=uk A Z.o;have b0:=zH J;have a7:=zH (hk.blk y.o (by show ¬_=_;have:=Y.o;omega));have a3:=zH (hk.blk M.o (by show ¬_=_;have:=Y.o;omega));have C:Yd (zZ w w4):=x.o.trans (hk.below (B:=w.heap.size) x.o.size (fun k e=>by
   have e:k=xb:=e;have:=Y.o;omega))
  refine hK.out _ _ (r.o _ a7.o (q.o.to C.o)) (fun hHeld=>?_);clear hK K x0 x1 x2 x3 x4 x5 x6 y0 y1 y2 y3 y4 y5 y6 J hk A Z y M x a7
  (try simp only[Act.put,L1,L2])
  (refine zT 11 ?_;try simp only[Act.put,L1,L2])
  (refine wpAnyH_done (by kernel_rfl) ?_ _)
  obtain⟨x0,x1,x2,x3,x4,x5,x6⟩:=b0.o.r7;go_wp2_with fail;refine (a0.o _ _ _ a8.o).mono ?_;rintro e w5 ⟨cn,cA,ca,cc,cB,cd,ce,cX,cl,cq,rfl,U⟩;have a9:Yd (zZ w w5):=C.o.trans (U.out.mono C.o.size);have a4:=zH (a3.o.to U.out);obtain⟨r0,r1,r2,r3,r4,r5,r6⟩:=a4.o.r7;obtain⟨z0,z1,z2,z3,z4,z5,z6⟩:=a4.o.f7;clear U a0 a3 C;go_wp2_with fail;refine bodyPost_ret (v:=.tuple #[.agg #[.int .i64 3,.int .i64 0,.string ⟨#[97]⟩,.bool cn,.slice cA ca cc,.slice cB cd ce,.slice cX cl cq],.int .i64 0]) (by rw[results_cell_tmp rfl];go_simp) rfl ?_;exact⟨cn,cA,ca,cc,cB,cd,ce,cX,cl,cq,rfl,lZ a9.o (Nat.le_succ _)⟩
open Classical in
noncomputable def qc (x y:Tm):Bool:=decide (∃ s:Int->Tm,x.sb s=y.sb s)
theorem AL {x y:Tm} (h:∃ s:Int->Tm,x.sb s=y.sb s):qc x y=true:=by unfold qc;simpa using h
theorem vI {x y:Tm} (h:∀ s:Int->Tm,x.sb s≠y.sb s):qc x y=false:=by unfold qc;simpa using h
theorem dS {p:Nat->Prop} {W0 W W':World} (e:ag p W0 W) (c:Below W0.heap.size W W'):ag p W0 W':=⟨c.os.trans e.os,c.tape.trans e.tape,c.output.trans e.output,zC e.size c.size,fun k f h=>(c.block k f).trans (e.block k f h)⟩
theorem rM {u v:Int} (h:(Tm.var u).occ v):u=v:=by
 unfold Tm.var at h;rw[Tm.occ]at h;rcases h with ⟨_,h⟩|⟨h,_⟩
 ·exact h
 ·exact absurd rfl h
theorem Al {W:World} {B n size g c:Nat} {e:TypeId} {xs:List Value} (h:W.ownsRow B e size (.slice (some ⟨g,0,none⟩) n c) n xs):n<=c/\c<=maxLen:=by
 obtain⟨p,k|⟨o,f,j,i,q,r,l,m,t,v⟩⟩:=h
 ·cases k.1
 ·simp only[Value.slice.injEq,Option.some.injEq,Addr.mk.injEq,and_true,true_and]at i;obtain⟨rfl,rfl⟩:=i;exact⟨l,m⟩
theorem CP {w W:World} {a:Array Value} (h:(w.alloc (.cells a 27)).drew=W):zZ w W/\ah W w.heap.size 27 a:=by
 subst h;exact⟨(ae w _).drew,(ah.new w _ _).drew⟩
theorem CE {w W:World} {g:Nat} {T:TypeId} {e f i j l m n x0 x1 x2 x3 x4 x5 x6:Value} (h:(((((((w.setCell ⟨g,0,none⟩ x0).setCell ⟨g,1,none⟩ x1).setCell ⟨g,2,none⟩ x2).setCell ⟨g,3,none⟩ x3).setCell ⟨g,4,none⟩ x4).setCell ⟨g,5,none⟩ x5).setCell ⟨g,6,none⟩ x6).drew=W) (c:ah w g T #[e,f,i,j,l,m,n]):ah W g T #[x0,x1,x2,x3,x4,x5,x6]/\ag (fun k=>k=g) w W:=by
 subst h;have:=uk rfl c (x0:=x0) (x1:=x1) (x2:=x2) (x3:=x3) (x4:=x4) (x5:=x5) (x6:=x6);exact⟨this.1.drew,this.2.drew⟩
theorem uU {w W:World} {a b:Array Value} (h:((w.alloc (.cells a 27)).alloc (.cells b 27)).drew=W):zZ w W/\ah W w.heap.size 27 a/\ah W (w.heap.size+1) 27 b/\w.heap.size≠w.heap.size+1/\w.heap.size<=w.heap.size/\w.heap.size<=w.heap.size+1:=by
 subst h;have h:=Dj (w:=w) (a:=a) (b:=b) (T:=27) (U:=27) rfl;exact⟨h.1.drew,h.2.1.drew,h.2.2.drew,by omega,by omega,by omega⟩
theorem Br {w W:World} {a b:Array Value} (h:((w.alloc (.cells b 27)).alloc (.cells a 27)).drew=W):zZ w W/\ah W (w.heap.size+1) 27 a/\ah W w.heap.size 27 b/\w.heap.size+1≠w.heap.size/\w.heap.size<=w.heap.size+1/\w.heap.size<=w.heap.size:=by
 obtain⟨c,e,f,k,i,j⟩:=uU h;exact⟨c,f,e,by omega,j,i⟩
theorem om {w:World} {B n size bytes:Nat} {t ty e:TypeId} {z v:Value} {xs news:List Value} {g m c:Nat} (I:prog.underlying t=some (.slice e)) (l:(prog.info? e).map (fun i=>(i.zero,i.size,i.bytes))=some (some z,size,bytes)) (x:z.cells.size=size) (o:0<size) (G:w.ownsRow B e size v n xs) (F:ah w g m news.toArray) (T:news.length=size) (y:∀ u∈news,u.oneCell'=true) (A:n<=200000000000) (k:(n+1)*bytes<=4800000000024) (C:B<=w.heap.size):
 ∃ f w',(Builtin.append_ #[t,t] ty #[v,.slice (some ⟨g,0,none⟩) 1 c]).run prog w=.ok f w'/\w'.ownsRow B e size f (n+1) (xs++news)/\w.grownBy w' v.ownBlock/\Nx v.ownBlock f.ownBlock w.heap.size:=by
 obtain⟨J,l,p,q,r⟩:=info_parts l;obtain⟨f,w',L,M,O,_,Q⟩:=run_append_own_at (P:=prog) (w:=w) B t ty e J z size bytes I l p q r x o v n xs G ⟨g,0,none⟩ 1 c news (by omega) (fun j u D=>by
  rw[Go.WideShapes.add_plain,Nat.zero_add,F.cell];simpa using D) y (by unfold maxLen;omega) (zC k (by decide)) C
 exact⟨f,w',L,M,O,Q.imp id fun h=>⟨_,h,zN _⟩⟩
theorem tQ:(prog.info? 134).map (fun i=>(i.zero,i.size,i.bytes))=some (some (.agg #[.int .i64 0,.int .i64 0]),2,16):=by kernel_rfl
structure PL (W0 z6:World) (L:Nat) (zz S:List (Nat×Nat)) (j:Nat) (tv:Value) (W:World):Prop where
 row:W.ownsRow W0.heap.size 134 2 tv (L+(zz.length-j)) (jX (zz.drop j++S))
 be:Below W0.heap.size z6 W
 mm:W.heap[W0.heap.size]?=z6.heap[W0.heap.size]?
theorem PL.push {W0 p W:World} {L j:Nat} {i S:List (Nat×Nat)} {tv:Value} (h:PL W0 p L i S (j+1) tv W) (z:j<i.length) {t:Array MapEntry} {c:Nat} (A:p.heap[W0.heap.size]?=some (.map t c)) (y:W0.heap.size<=p.heap.size) (I:L+i.length<=200000000000) (ty:TypeId):
 ∃ tv' w',(Builtin.append_ #[135,135] ty #[tv,.slice (some ⟨W.heap.size,0,none⟩) 1 1]).run prog (W.alloc (.cells #[.int .i64 (i[j].1:Int),.int .i64 (i[j].2:Int)] 134)).drew=.ok tv' w'/\PL W0 p L i S j tv' w':=by
 have o:=(ae W (.cells #[.int .i64 (i[j].1:Int),.int .i64 (i[j].2:Int)] 134)).drew;have r:=bJ h.row o;have l:W.heap[W0.heap.size]?=some (.map t c):=h.mm.trans A;have n:W0.heap.size<=W.heap.size:=zC y h.be.size;obtain⟨tv',w',C,D,F,J⟩:=om (ty:=ty) (c:=1) (m:=134) (news:=[.int .i64 (i[j].1:Int),.int .i64 (i[j].2:Int)]) underlying135 tQ rfl (by omega) r (ah.new W _ _).drew rfl (by simp[Value.oneCell']) (by omega) (by omega) (zC n o.size);have x:=ag.grown F;have q:=o.mono n;refine⟨tv',w',C,?_,h.be.trans (q.trans (x.below (B:=W0.heap.size) (zC n o.size) fun k e=>(r.lt k e.symm).1)),((x.block _ (an ((o.block _ (an l)).trans l)) fun e=>?_).trans (o.block _ (an l))).trans h.mm⟩
 ·rw[List.drop_eq_getElem_cons z,List.cons_append,jX];rw[show L+(i.length-j)=L+(i.length-(j+1))+1 by omega];exact D
 ·obtain⟨G,f,v⟩:=Lib.ownsRow_kind r _ e.symm;rw[o.block _ (an l),l]at v;cases v
theorem Dg {Ts:List Tm} {I J:List Nat} {a b:List Tm} (e:cZ Ts I a) (f:cZ Ts J b):(I.zip J).map (fun p=>(jE Ts p.1,jE Ts p.2))=a.zip b:=by
 refine List.ext_getElem (by simp[e.1,f.1]) fun q h c=>?_;simp only[List.length_zip,Nat.lt_min]at c;rw[List.getElem_map,List.getElem_zip,List.getElem_zip];rw[jZ (e.2 q c.1 (by rw[e.1];exact c.1)),jZ (f.2 q c.2 (by rw[f.1];exact c.2))]
theorem Df {Ts:List Tm} {I J:List Nat} {a b:List Tm} (e:cZ Ts I a) (f:cZ Ts J b):∀ p∈I.zip J,p.1<Ts.length/\p.2<Ts.length:=fun p h=>by
 obtain⟨q,c,rfl⟩:=List.mem_iff_getElem.1 h;simp only[List.length_zip,Nat.lt_min]at c;rw[List.getElem_zip];exact⟨(zK (e.2 q (by rw[<-e.1];exact c.1) c.1)).1,(zK (f.2 q (by rw[<-f.1];exact c.2) c.2)).1⟩
end Go.Proofs.YtlhojoefhannnaaGreat
namespace Go.Proofs.YtlhojoefhannnaaGreat
open Go.Proofs.Tryz Go.RowKit NumB
def eM (P:Nat->Prop) (w:World) (B:Nat) (ov:Value) (ts:List Tm):Prop:=
 ∃ (xs:List Value) (vals:Nat->List Value),w.ownsRow B 27 7 ov ts.length xs/\(∀ i,i<ts.length->∀ q,q<7->xs[i*7+q]?=(vals i)[q]?)/\∀ i (h:i<ts.length),bF (fun b=>P b/\some b≠ov.ownBlock) w ts[i] (vals i)
section
variable {P:Nat->Prop} {w w':World} {B:Nat} {ov:Value} {ts:List Tm}
theorem eM.nil (P:Nat->Prop) (w:World) (B:Nat):eM P w B (.slice none 0 0) []:=⟨[],fun _=>[],World.ownsRow_nil _ _ _ _,fun i h=>absurd h (by simp),fun i h=>absurd h (by simp)⟩
theorem eM.form (h:eM P w B ov ts):∃ A c,ov=.slice A ts.length c:=by
 obtain⟨i,e,f,_⟩:=h;exact ek f
theorem eM.own (h:eM P w B ov ts) {g:Nat} (f:ov.ownBlock=some g):B<=g/\g<w.heap.size:=by
 obtain⟨i,c,e,_⟩:=h;exact Go.World.ownsRow.lt e g f
theorem eM.kept (h:eM P w B ov ts) {p:Nat->Prop} (e:ag p w w') (q:∀ b,P b->some b≠ov.ownBlock->¬p b) (n:∀ g,ov.ownBlock=some g->¬p g):eM P w' B ov ts:=by
 obtain⟨r,c,k,l,m⟩:=h;exact⟨r,c,e.row k n,l,fun i o=>(m i o).to e.size fun b j f=>e.block b f (q b j.1 j.2)⟩
theorem eM.push (h:eM P w B ov ts) {t:Tm} {cs:List Value} (G:bF (fun b=>P b/\some b≠ov.ownBlock) w t cs) (hn:ts.length<=1000) (hB:B<=w.heap.size) (ty:TypeId):
 ∃ tv' w',(Builtin.append_ #[25,25] ty #[ov,.slice (some ⟨w.heap.size,0,none⟩) 1 1]).run prog (w.alloc (.cells cs.toArray 27))=.ok tv' w'/\eM P w' B tv' (ts++[t])/\ag (fun k=>some k=ov.ownBlock) w w'/\Nx ov.ownBlock tv'.ownBlock (w.heap.size+1):=by
 obtain⟨Z,p,D,J,L⟩:=h;obtain⟨k8,v8,Y,T,A8,n8,c8,B8,m8,d8,X8,l8,e8,F⟩:=G.form;have z:(w.alloc (.cells cs.toArray 27)).heap.size=w.heap.size+1:=by simp
 have l:=ae w (.cells cs.toArray 27);have hl:=D.1;obtain⟨tv',w',U,V,X,C⟩:=om (ty:=ty) (c:=1) (m:=27) (bytes:=112) (news:=cs) underlying25 dR rfl (by omega) (bJ D l) (ah.new w _ _) (by rw[F];rfl) (fun u A=>by
  rw[F]at A;simp only[List.mem_cons,List.not_mem_nil,or_false]at A;rcases A with rfl|rfl|rfl|rfl|rfl|rfl|rfl<;>rfl) (by omega) (by omega) (by omega)
 rw[z]at C;have v:ag (fun k=>some k=ov.ownBlock) w w':=(ag.of_below l).trans (ag.grown X);refine⟨tv',w',U,⟨Z++cs,fun i=>if i=ts.length then cs else p i,by rw[zE];exact V,fun i y q O=>?_,fun i y=>?_⟩,v,C⟩
 ·rw[zE,List.length_singleton]at y;by_cases f:i=ts.length
  ·subst f;dsimp only;rw[if_pos rfl,List.getElem?_append_right (by omega)]
   congr 1
   omega
  ·dsimp only;rw[if_neg f,List.getElem?_append_left (by omega)];exact J i (by omega) q O
 ·have o:∀ {x:Tm} {r:List Value},bF (fun b=>P b/\some b≠ov.ownBlock) w x r->bF (fun b=>P b/\some b≠tv'.ownBlock) w' x r:=fun {x r} Q=>by
   have M:bF (fun b=>(P b/\some b≠ov.ownBlock)/\some b≠tv'.ownBlock) w x r:=Q.mono fun b j n=>⟨j,by
    rcases C with e|⟨k,e,v⟩
    ·rw[e];exact j.2
    ·rw[e];intro I;simp at I;omega⟩
   exact (M.to v.size fun b j n=>v.block b n j.1.2).mono fun b j _=>⟨j.1.1,j.2⟩
  rw[zE,List.length_singleton]at y;by_cases f:i=ts.length
  ·subst f;dsimp only;rw[if_pos rfl,List.getElem_append_right zA];simpa using o G
  ·dsimp only;rw[if_neg f,List.getElem_append_left (by omega)];exact o (L i (by omega))
theorem eM.done (h:eM P w B ov ts) {Q:Nat->Prop} (J:∀ b,P b->Q b) (l:∀ g,ov.ownBlock=some g->Q g) {k v:Int} {s:ByteArray} {n:LN} {A C X:Value} (U:bF Q w (.mk k v s n []) [.int .i64 k,.int .i64 v,.string s,.bool n.neg,A,C,X]):bF Q w (.mk k v s n ts) [.int .i64 k,.int .i64 v,.string s,.bool n.neg,A,C,ov]:=by
 obtain⟨xs,c,z,D,F⟩:=h;obtain⟨p,f,c,e,q,r,t,x⟩:=xg z rfl D F;subst e;cases U with
 |mk _ _ _ _ _ _ _ _ _ _ O Y V G I T _ _ _ _=>
  refine .mk k v s n ts A C p f c O Y V G I T q r (fun y=>?_) fun i m=>(x i m).mono fun b L _=>J b L.1;obtain⟨g,o,q2,Z,q4⟩:=t y;exact⟨g,0,o,l g (by rw[o];rfl),Z,fun i m j M=>by rw[Nat.zero_add];exact q4 i m j M⟩
end
theorem fO {w:World} {m:Nat} {e:Array MapEntry} {c:Nat} (h:w.heap[m]?=some (.map e c)) (i:Nat):w.cell? ⟨m,i,none⟩=none:=by
 simp[World.cell?,h]
theorem iK.noMap {p:Nat->Prop} {w:World} {v:Value} {xs:List Nat} (h:iK p w v xs) {m:Nat} {l:Array MapEntry} {c:Nat} (t:w.heap[m]?=some (.map l c)):iK (fun b=>p b/\b≠m) w v xs:=by
 obtain⟨A,k,e,n,q,r⟩:=h;refine⟨A,k,e,n,q,fun i=>?_⟩;obtain⟨b,o,e,x,f,j⟩:=r i;refine⟨b,o,e,⟨x,fun e=>?_⟩,f,j⟩;have:=j 0 i;rw[e,fO t]at this;cases this
theorem bF.noMap {p:Nat->Prop} {w:World} {t:Tm} {cs:List Value} (h:bF p w t cs) {m:Nat} {G:Array MapEntry} {c:Nat} (x:w.heap[m]?=some (.map G c)):bF (fun b=>p b/\b≠m) w t cs:=by
 induction h with
 |mk k v s n f A C D j cs O X V I J Q i y U L Y=>
  refine .mk k v s n f A C D j cs O X V (I.noMap x) (J.noMap x) Q i y (fun l=>?_) Y;obtain⟨b,o,e,T,r,z⟩:=U l;refine⟨b,o,e,⟨T,fun F=>?_⟩,r,z⟩;have q:=z 0 l 0 (by omega);rw[F,fO x]at q;obtain⟨_,_,_,_,_,_,_,_,_,_,_,_,_,M⟩:=(L 0 l).form;rw[M]at q;cases q
theorem eM.kept' {P:Nat->Prop} {w w':World} {B:Nat} {ov:Value} {ts:List Tm} (h:eM P w B ov ts) {m:Nat} (o:ag (fun k=>k=m) w w') (l:∀ k,k=m->∃ q c,w.heap[k]?=some (Obj.map q c)):eM P w' B ov ts:=by
 obtain⟨q,c,l⟩:=l m rfl;obtain⟨A,j,r,v,x⟩:=h;refine⟨A,j,o.row r fun g y e=>?_,v,fun i z=>(((x i z).noMap l).to o.size fun b n p=>o.block b p n.2).mono fun b n _=>n.1⟩;obtain⟨C,f,t⟩:=Lib.ownsRow_kind r g y;have e:g=m:=e;rw[e,l]at t;cases t
theorem ag.trans2 {p q:Nat->Prop} {a b c:World} (h:ag p a b) (k:ag q b c):ag (fun i=>p i\/q i) a c:=⟨k.os.trans h.os,k.tape.trans h.tape,k.output.trans h.output,zC h.size k.size,fun i e f=>(k.block i (zD e h.size) fun q=>f (.inr q)).trans (h.block i e fun q=>f (.inl q))⟩
end Go.Proofs.YtlhojoefhannnaaGreat
