/- Substitutions, solved forms, and that a solved form tells one substitution. And 4 more texts. -/
import Derived.Test.YtlhojoefhannnaaGreatJx12
set_option linter.unusedVariables false
set_option linter.unusedSimpArgs false
set_option maxRecDepth 100000
set_option maxHeartbeats 51200000
namespace Go.Proofs.YtlhojoefhannnaaGreat
open Go.Proofs.Tryz Go.RowKit NumB
def Tm.sb (f:Int->Tm) (t:Tm):Tm:=t.repl fun v=>some (f v)
def fJ (f:Int->Tm) (l:List Tm):List Tm:=cN (fun v=>some (f v)) l
theorem fK (f:Int->Tm) (v:Int) (s:ByteArray) (n:LN) (args:List Tm):(Tm.mk 1 v s n args).sb f=f v:=by rw[Tm.sb,Tm.repl,if_pos rfl]
theorem bX (f:Int->Tm) {k v:Int} {s:ByteArray} {n:LN} {args:List Tm} (h:k≠1):(Tm.mk k v s n args).sb f=.mk k v s n (fJ f args):=by rw[Tm.sb,Tm.repl,if_neg h];rfl
theorem bZ (f:Int->Tm) (v:Int):(Tm.var v).sb f=f v:=fK f v _ _ _
theorem bE (f:Int->Tm):fJ f []=[]:=by rw[fJ,cN]
theorem bA (f:Int->Tm) (t:Tm) (l:List Tm):fJ f (t::l)=t.sb f::fJ f l:=by rw[fJ,cN];rfl
theorem dZ (f:Int->Tm) (l:List Tm):(fJ f l).length=l.length:=jS _ l
mutual
def Tm.cn:Tm->Prop
 |.mk k v s n args=>(k=1->Tm.mk k v s n args=.var v)/\qp args
def qp:List Tm->Prop
 |[]=>True
 |t::l=>t.cn/\qp l
end
mutual
theorem Tm.cn_of:∀ (t:Tm),t.err0=0->t.cn
 |.mk k v s n args,h=>by
  obtain⟨h1,h2⟩:=bB h;rw[Tm.cn];refine⟨fun hk=>?_,yJ args h2⟩;subst hk;have q:=ee h1;rw[q.1,q.2.2,zF q.2.1];rfl
theorem yJ:∀ (l:List Tm),bH l=0->qp l
 |[],_=>by rw[qp];trivial
 |t::l,h=>by
  rw[bH]at h;by_cases h1:t.err0=0
  ·rw[if_pos h1]at h;rw[qp];exact⟨t.cn_of h1,yJ l h⟩
  ·rw[if_neg h1]at h;exact absurd h h1
end
theorem jK (v:Int):(Tm.var v).cn:=by rw[Tm.var,Tm.cn];exact⟨fun _=>rfl,by rw[qp];trivial⟩
mutual
theorem Tm.sb_sb (f g:Int->Tm):∀ (t:Tm),(t.sb f).sb g=t.sb fun v=>(f v).sb g
 |.mk k v s n args=>by
  by_cases hk:k=1
  ·subst hk;rw[fK,fK]
  ·rw[bX f hk,bX g hk,bX _ hk,vC f g args]
theorem vC (f g:Int->Tm):∀ (l:List Tm),fJ g (fJ f l)=fJ (fun v=>(f v).sb g) l
 |[]=>by rw[bE,bE,bE]
 |t::l=>by rw[bA,bA,bA,t.sb_sb f g,vC f g l]
end
mutual
theorem Tm.sb_cn (f:Int->Tm) (hf:∀ v,(f v).cn):∀ (t:Tm),(t.sb f).cn
 |.mk k v s n args=>by
  by_cases hk:k=1
  ·subst hk;rw[fK];exact hf v
  ·rw[bX f hk,Tm.cn];exact⟨fun h=>absurd h hk,As f hf args⟩
theorem As (f:Int->Tm) (hf:∀ v,(f v).cn):∀ (l:List Tm),qp (fJ f l)
 |[]=>by rw[bE,qp];trivial
 |t::l=>by rw[bA,qp];exact⟨t.sb_cn f hf,As f hf l⟩
end
mutual
def Tm.occ (u:Int):Tm->Prop
 |.mk k v _ _ args=>(k=1/\v=u)\/(k≠1/\dA u args)
def dA (u:Int):List Tm->Prop
 |[]=>False
 |t::l=>t.occ u\/dA u l
end
mutual
theorem Tm.sb_congr {f g:Int->Tm}:∀ (t:Tm),(∀ v,t.occ v->f v=g v)->t.sb f=t.sb g
 |.mk k v s n args,h=>by
  by_cases hk:k=1
  ·subst hk;rw[fK,fK];exact h v (by rw[Tm.occ];exact .inl ⟨rfl,rfl⟩)
  ·rw[bX f hk,bX g hk,oJ args fun u hu=>h u (by rw[Tm.occ];exact .inr ⟨hk,hu⟩)]
theorem oJ {f g:Int->Tm}:∀ (l:List Tm),(∀ v,dA v l->f v=g v)->fJ f l=fJ g l
 |[],_=>by rw[bE,bE]
 |t::l,h=>by rw[bA,bA,t.sb_congr fun v hv=>h v (by rw[dA];exact .inl hv),oJ l fun v hv=>h v (by rw[dA];exact .inr hv)]
end
def mI (f:Int->Tm) (b:Int->Option Tm):Prop:=∀ v t,b v=some t->f v=t.sb f
def AW (b:Int->Option Tm) (u v:Int):Prop:=∃ t,b v=some t/\t.occ u/\(b u).isSome=true
def ql (b:Int->Option Tm):Prop:=WellFounded (AW b)/\∀ v t,b v=some t->t.cn/\∀ u,t=.var u->u<v
def iY (b:Int->Option Tm) (f:Int->Tm):Prop:=(∀ v,b v=none->f v=.var v)/\mI f b/\∀ v,(f v).cn
theorem iY.most {b:Int->Option Tm} {f:Int->Tm} (h:iY b f) (a:ql b) {g:Int->Tm} (c:mI g b):∀ v,(f v).sb g=g v:=fun v=>by
 induction v using a.1.induction with
 |_ v e=>
  cases hb:b v with
  |none=>rw[h.1 v hb,bZ]
  |some t=>
   rw[h.2.1 v t hb,Tm.sb_sb,c v t hb];refine t.sb_congr fun u d=>?_;cases hu2:b u with
   |none=>rw[h.1 u hu2,bZ]
   |some i=>exact e u ⟨t,hb,d,by rw[hu2];rfl⟩
theorem Tm.sb_is_var {f:Int->Tm} {t:Tm} (c:t.cn) {u:Int} (h:t.sb f=.var u):∃ w,t=.var w/\f w=.var u:=by
 obtain⟨k,v,s,n,b⟩:=t;rw[Tm.cn]at c;by_cases a:k=1
 ·have:=c.1 a;subst a;rw[fK]at h;exact⟨v,this,h⟩
 ·rw[bX f a,Tm.var]at h;simp only[Tm.mk.injEq]at h;exact absurd h.1 a
theorem iY.low {b:Int->Option Tm} {f:Int->Tm} (h:iY b f) (c:ql b):∀ v u,f v=.var u->u<=v:=fun v=>by
 induction v using c.1.induction with
 |_ v d=>
  intro u a;cases hb:b v with
  |none=>
   rw[h.1 v hb]at a;simp only[Tm.var,Tm.mk.injEq]at a;omega
  |some t=>
   rw[h.2.1 v t hb]at a;obtain⟨w,rfl,hw⟩:=Tm.sb_is_var (c.2 v t hb).1 a;have e:=(c.2 v _ hb).2 w rfl;cases hb2:b w with
   |none=>
    rw[h.1 w hb2]at hw;simp only[Tm.var,Tm.mk.injEq]at hw;omega
   |some g=>
    have:=d w ⟨_,hb,by rw[Tm.var,Tm.occ];exact .inl ⟨rfl,rfl⟩,by rw[hb2];rfl⟩ u hw;omega
mutual
theorem Tm.sb_back {f g:Int->Tm} (hg:∀ v,(g v).cn) (hl:∀ v u,f v=.var u->u<=v) (hl2:∀ v u,g v=.var u->u<=v):∀ (t:Tm),t.cn->(t.sb g).sb f=t->t.sb g=t
 |.mk k v s n args,hc,h=>by
  rw[Tm.cn]at hc;by_cases hk:k=1
  ·have e:=hc.1 hk;subst hk;rw[e,bZ]at h ⊢;obtain⟨w,hw,hw2⟩:=Tm.sb_is_var (hg v) h;have h1:=hl2 v w hw;have h2:=hl w v hw2;rw[hw,show w=v by omega]
  ·rw[bX g hk,bX f hk]at h;simp only[Tm.mk.injEq,true_and]at h;rw[bX g hk,sf hg hl hl2 args hc.2 h]
theorem sf {f g:Int->Tm} (hg:∀ v,(g v).cn) (hl:∀ v u,f v=.var u->u<=v) (hl2:∀ v u,g v=.var u->u<=v):∀ (l:List Tm),qp l->fJ f (fJ g l)=l->fJ g l=l
 |[],_,_=>by rw[bE]
 |t::l,hc,h=>by
  rw[qp]at hc;rw[bA,bA]at h;simp only[List.cons.injEq]at h;rw[bA,t.sb_back hg hl hl2 hc.1 h.1,sf hg hl hl2 l hc.2 h.2]
end
theorem iY.one {b c:Int->Option Tm} {f g:Int->Tm} (d:iY b f) (e:iY c g) (k:ql b) (l:ql c) (h:∀ s,mI s b↔mI s c):f=g:=by
 funext v
 have i:=d.most k ((h g).2 e.2.1) v;have j:=e.most l ((h f).1 d.2.1) v;rw[<-i]at j;have:=Tm.sb_back e.2.2 (d.low k) (e.low l) (f v) (d.2.2 v) j;rw[i]at this;exact this.symm
/-! aO of a unification. -/
def qn (s:Int->Tm) (S:List (Tm×Tm)):Prop:=∀ p∈S,p.1.sb s=p.2.sb s
theorem qn.nil (s:Int->Tm):qn s []:=fun p h=>by cases h
theorem eV {s:Int->Tm} {p:Tm×Tm} {S:List (Tm×Tm)}:qn s (p::S)↔p.1.sb s=p.2.sb s/\qn s S:=by
 unfold qn;simp
theorem uy {s:Int->Tm} {S T:List (Tm×Tm)}:qn s (S++T)↔qn s S/\qn s T:=by
 unfold qn;simp only[List.mem_append];exact⟨fun h=>⟨fun p a=>h p (.inl a),fun p a=>h p (.inr a)⟩,fun h p a=>a.elim (h.1 p) (h.2 p)⟩
inductive dK (b:Int->Option Tm):Tm->Tm->Prop
 |stop {t:Tm} (h:∀ v,t=.var v->b v=none):dK b t t
 |step {v:Int} {u t:Tm} (h:b v=some u) (hr:dK b u t):dK b (.var v) t
theorem dK.sat {b:Int->Option Tm} {t a:Tm} (h:dK b t a) {s:Int->Tm} (c:mI s b):t.sb s=a.sb s:=by
 induction h with
 |stop _=>rfl
 |step h _ d=>rw[bZ,c _ _ h,d]
def upd (b:Int->Option Tm) (v:Int) (t:Tm):Int->Option Tm:=fun u=>if u=v then some t else b u
theorem pW {b:Int->Option Tm} {v:Int} (h:b v=none) {t:Tm} {s:Int->Tm}:mI s (upd b v t)↔mI s b/\s v=t.sb s:=by
 unfold mI upd;constructor
 ·intro c;refine⟨fun u x a=>c u x ?_,c v t (if_pos rfl)⟩;rw[if_neg (fun e=>by subst e;rw[h]at a;cases a)];exact a
 ·rintro⟨d,f⟩ u x a;by_cases e:u=v
  ·subst e;rw[if_pos rfl]at a;cases a;exact f
  ·rw[if_neg e]at a;exact d u x a
theorem yZ {a b:Tm} (g:a.fine) (i:b.fine) (t:∀ v,a≠.var v) (j:a.hd b=true) (s:Int->Tm):a.sb s=b.sb s↔fJ s a.args=fJ s b.args:=by
 obtain⟨k,v,z,n,h⟩:=a;obtain⟨k2,A,x,w,d⟩:=b;rw[Tm.hd,decide_eq_true_eq]at j;obtain⟨rfl,p,y,r⟩:=j;rw[Tm.fine]at g i;have c:k≠1:=fun e=>by
  subst e;have q:=ee g.2.1;refine t v ?_;rw[q.1,q.2.2,zF q.2.1];rfl
 have l:=bU g.2.1 c;have m:=bU i.2.1 c;have o:n=w:=by
  by_cases f:k=2
  ·exact (iH _ _).1 (r f)
  ·rw[l.2.2 f,m.2.2 f]
 rw[bX s c,bX s c,l.1,m.1,dP p,o];simp only[Tm.mk.injEq,true_and];exact Iff.rfl
theorem Dr {a b:Tm} (i:a.fine) (j:b.fine) (t:∀ v,a≠.var v) (g:∀ v,b≠.var v) (l:a.hd b=false) (s:Int->Tm):a.sb s≠b.sb s:=by
 obtain⟨k,v,f,n,c⟩:=a;obtain⟨k2,A,y,z,d⟩:=b;rw[Tm.fine]at i j;have m:∀ (k v:Int) (f:ByteArray) (n:LN) (c:List Tm),au k v f n.neg n.num.length n.den.length n.err c.length=0->(∀ u,Tm.mk k v f n c≠.var u)->k≠1:=fun k v f n c h x e=>by
  subst e;have q:=ee h;refine x v ?_;rw[q.1,q.2.2,zF q.2.1];rfl
 have p:=m _ _ _ _ _ i.2.1 t;have r:=m _ _ _ _ _ j.2.1 g;intro e;rw[bX s p,bX s r]at e;simp only[Tm.mk.injEq]at e;obtain⟨rfl,_,rfl,rfl,o⟩:=e;have w:c.length=d.length:=by rw[<-dZ s c,o,dZ]
 rw[Tm.hd,decide_eq_false_iff_not]at l;exact l ⟨rfl,rfl,w,fun _=>(iH _ _).2 rfl⟩
theorem qk {s:Int->Tm}:∀ {l l2:List Tm},l.length=l2.length->(qn s (l.zip l2)↔fJ s l=fJ s l2)
 |[],[],_=>by simp[qn,bE]
 |[],_::_,h=>by simp at h
 |_::_,[],h=>by simp at h
 |t::l,t2::l2,h=>by
  rw[List.zip_cons_cons,eV,qk (by simpa using h),bA,bA,List.cons.injEq]
inductive eB (b:Int->Option Tm) (v:Int):Tm->Prop
 |here {t:Tm} (h:t.occ v):eB b v t
 |there {t x:Tm} {u:Int} (h:t.occ u) (hb:b u=some x) (hr:eB b v x):eB b v t
mutual
theorem Tm.occ_count {s:Int->Tm} {v:Int}:∀ (t:Tm),t.occ v->(s v).count<=(t.sb s).count/\((∀ u,t≠.var u)->t.cn->(s v).count<(t.sb s).count)
 |.mk k w st n args,h=>by
  rw[Tm.occ]at h;rcases h with ⟨rfl,rfl⟩|⟨hk,h⟩
  ·rw[fK];refine⟨zN _,fun hu hc=>?_⟩;rw[Tm.cn]at hc;exact absurd (hc.1 rfl) (hu w)
  ·rw[bX s hk,Tm.count];have:=lU (s:=s) args h;exact⟨by omega,fun _ _=>by omega⟩
theorem lU {s:Int->Tm} {v:Int}:∀ (l:List Tm),dA v l->(s v).count<=am (fJ s l)
 |[],h=>by rw[dA]at h;exact h.elim
 |t::l,h=>by
  rw[dA]at h;rw[bA,am];rcases h with h|h
  ·have:=(t.occ_count (s:=s) h).1;omega
  ·have:=lU (s:=s) l h;omega
end
theorem eB.le {b:Int->Option Tm} {v:Int} {t:Tm} (h:eB b v t) {s:Int->Tm} (c:mI s b):(s v).count<=(t.sb s).count:=by
 induction h with
 |here h=>exact (Tm.occ_count _ h).1
 |there h a _ d=>exact zC d (by rw[<-c _ _ a];exact (Tm.occ_count _ h).1)
theorem eB.no {b:Int->Option Tm} {v:Int} {t:Tm} (h:eB b v t) (c:∀ u,t≠.var u) (a:t.cn) {s:Int->Tm} (d:mI s b):s v≠t.sb s:=by
 intro e;have j:(s v).count=(t.sb s).count:=by rw[e]
 cases h with
 |here h=>
  have:=(Tm.occ_count (s:=s) _ h).2 c a;omega
 |there h g i=>
  have k:=(Tm.occ_count (s:=s) _ h).2 c a;have f:=i.le d;rw[<-d _ _ g]at f;omega
theorem ql.bind {b:Int->Option Tm} (A:ql b) {v:Int} (F:b v=none) {t:Tm} (D:t.cn) (B:¬eB b v t) (E:∀ u,t=.var u->u<v):ql (upd b v t):=by
 have f:∀ u x,upd b v t u=some x->(u=v/\x=t)\/(u≠v/\b u=some x):=fun u x h=>by
  unfold upd at h;by_cases e:u=v
  ·rw[if_pos e]at h;exact .inl ⟨e,(zI h).symm⟩
  ·rw[if_neg e]at h;exact .inr ⟨e,h⟩
 have g:∀ u,u≠v->(upd b v t u).isSome=true->(b u).isSome=true:=fun u r m=>by
  unfold upd at m;rw[if_neg r]at m;exact m
 -- what does not lead to v is as it was
 have r:∀ w x,b w=some x->¬eB b v x->Acc (AW (upd b v t)) w:=fun w=>by
  induction w using A.1.induction with
  |_ w C=>
   intro x l n;refine Acc.intro w fun u o=>?_;obtain⟨y,q,a,c⟩:=o;rcases f w y q with ⟨rfl,_⟩|⟨_,i⟩
   ·rw[F]at l;cases l
   ·rw[l]at i;cases i;have k:u≠v:=fun e=>n (by subst e;exact .here a);have p:=g u k c;obtain⟨z,j⟩:=Option.isSome_iff_exists.1 p;exact C u ⟨x,l,a,p⟩ z j fun d=>n (.there a j d)
 have m:Acc (AW (upd b v t)) v:=by
  refine Acc.intro v fun u o=>?_;obtain⟨y,q,a,c⟩:=o;rcases f v y q with ⟨_,rfl⟩|⟨h,_⟩
  ·have k:u≠v:=fun e=>B (by subst e;exact .here a);obtain⟨z,j⟩:=Option.isSome_iff_exists.1 (g u k c);exact r u z j fun d=>B (.there a j d)
  ·exact absurd rfl h
 refine⟨⟨fun w=>?_⟩,fun u x l=>?_⟩
 ·induction w using A.1.induction with
  |_ w C=>
   refine Acc.intro w fun u o=>?_;obtain⟨y,q,a,c⟩:=o;by_cases e:u=v
   ·subst e;exact m
   ·rcases f w y q with ⟨rfl,rfl⟩|⟨_,i⟩
    ·obtain⟨z,j⟩:=Option.isSome_iff_exists.1 (g u e c);exact r u z j fun d=>B (.there a j d)
    ·exact C u ⟨y,i,a,g u e c⟩
 ·rcases f u x l with ⟨rfl,rfl⟩|⟨_,h⟩
  ·exact⟨D,E⟩
  ·exact A.2 u x h
def Cx (b:Int->Option Tm) (M:List (Tm×Tm)) (p:Tm×Tm):Prop:=∀ s:Int->Tm,mI s b->∃ q:Tm×Tm,(q∈M\/q.1=q.2)/\p.1.sb s=q.1.sb s/\p.2.sb s=q.2.sb s
theorem Cx.more {b c:Int->Option Tm} {M N:List (Tm×Tm)} {p:Tm×Tm} (h:Cx b M p) (e:∀ s,mI s c->mI s b) (f:∀ q∈M,q∈N):Cx c N p:=fun s g=>by
 obtain⟨q,a,d⟩:=h s (e s g);exact⟨q,a.imp (f q) id,d⟩
structure dm (E:Tm×Tm) (b:Int->Option Tm) (S M:List (Tm×Tm)):Prop where
 acy:ql b
 iff:∀ s,(mI s b/\qn s S)↔E.1.sb s=E.2.sb s
 met:∀ p∈M,(∀ v,p.1≠.var v)/\p.1.fine/\p.2.fine/\p.1.hd p.2=true/\∀ q∈p.1.args.zip p.2.args,q∈S\/Cx b M q
theorem dN {t:Tm} {x:Tm} (f:∀ v,t≠.var v) (c:t.cn) (h:x∈t.args) (s:Int->Tm):(x.sb s).count<(t.sb s).count:=by
 obtain⟨k,v,i,n,a⟩:=t;have d:k≠1:=fun e=>by
  rw[Tm.cn]at c;exact f v (c.1 e)
 rw[bX s d,Tm.count];have b:∀ l:List Tm,x∈l->(x.sb s).count<=am (fJ s l):=by
  intro l
  induction l with
  |nil=>intro h;cases h
  |cons y r g=>
   intro h;rw[bA,am];rcases List.mem_cons.1 h with rfl|h
   ·omega
   ·have:=g h;omega
 have:=b a h;omega
mutual
theorem Tm.cn_fine:∀ (t:Tm),t.fine->t.cn
 |.mk k v s n args,h=>by
  rw[Tm.fine]at h;rw[Tm.cn];refine⟨fun hk=>?_,qH args h.2.2⟩;subst hk;have q:=ee h.2.1;rw[q.1,q.2.2,zF q.2.1];rfl
theorem qH:∀ (l:List Tm),ed l->qp l
 |[],_=>by rw[qp];trivial
 |t::l,h=>by
  rw[ed]at h;rw[qp];exact⟨t.cn_fine h.1,qH l h.2⟩
end
theorem dm.sat {E:Tm×Tm} {b:Int->Option Tm} {S M:List (Tm×Tm)} (y:∀ p∈M,(∀ v,p.1≠.var v)/\p.1.fine/\p.2.fine/\p.1.hd p.2=true/\∀ q∈p.1.args.zip p.2.args,q∈S\/Cx b M q) {s:Int->Tm} (B:mI s b) (z:qn s S):qn s M:=by
 have f:∀ n (p:Tm×Tm),p∈M->(p.1.sb s).count<n->p.1.sb s=p.2.sb s:=by
  intro n
  induction n with
  |zero=>intro p _ h;omega
  |succ n C=>
   intro p e F;obtain⟨j,l,w,d,x⟩:=y p e;rw[yZ l w j d];have A:p.1.args.length=p.2.args.length:=by
    obtain⟨⟨k,v,I,m,g⟩,⟨k2,J,D,G,c⟩⟩:=p;rw[Tm.hd,decide_eq_true_eq]at d;exact d.2.2.1
   rw[<-qk A];intro q o;rcases x q o with h|h
   ·exact z q h
   ·obtain⟨r,a,i,t⟩:=h s B;rw[i,t];rcases a with a|a
    ·refine C r a ?_;have:=dN j (p.1.cn_fine l) (List.of_mem_zip o).1 s;rw[i]at this;omega
    ·rw[a]
 exact fun p e=>f ((p.1.sb s).count+1) p e (by omega)
theorem dm.drop {E p:Tm×Tm} {b c:Int->Option Tm} {S M:List (Tm×Tm)} (h:dm E b (p::S) M) (t:ql c) (i:∀ s,mI s c->mI s b) (j:Cx c M p) (y:∀ s,mI s b->p.1.sb s=p.2.sb s->mI s c):dm E c S M:=by
 have d:∀ q∈M,(∀ v,q.1≠.var v)/\q.1.fine/\q.2.fine/\q.1.hd q.2=true/\∀ r∈q.1.args.zip q.2.args,r∈S\/Cx c M r:=fun q f=>by
  obtain⟨e,a,m,n,o⟩:=h.met q f;refine⟨e,a,m,n,fun r x=>?_⟩;rcases o r x with g|g
  ·rcases List.mem_cons.1 g with rfl|g
   ·exact .inr j
   ·exact .inl g
  ·exact .inr (g.more i fun _ h=>h)
 refine⟨t,fun s=>⟨fun ⟨e,a⟩=>?_,fun w=>?_⟩,d⟩
 ·refine (h.iff s).1 ⟨i s e,eV.2 ⟨?_,a⟩⟩;obtain⟨q,f,k,l⟩:=j s e;rw[k,l];rcases f with f|f
  ·exact dm.sat (E:=E) d e a q f
  ·rw[f]
 ·obtain⟨e,a⟩:=(h.iff s).2 w;rw[eV]at a;exact⟨y s e a.1,a.2⟩
theorem dm.skip {E p:Tm×Tm} {b:Int->Option Tm} {S M:List (Tm×Tm)} (h:dm E b (p::S) M) {x y:Tm} (c:dK b p.1 x) (d:dK b p.2 y) (f:x=y\/(x,y)∈M\/∀ s,x.sb s=y.sb s):dm E b S M:=
 h.drop h.acy (fun _ h=>h) (fun s a=>by
  rcases f with e|e|e
  ·exact⟨(x,y),.inr e,c.sat a,d.sat a⟩
  ·exact⟨(x,y),.inl e,c.sat a,d.sat a⟩
  ·exact⟨(x,x),.inr rfl,c.sat a,by rw[d.sat a,e]⟩) fun s a _=>a
theorem dm.bind {E p:Tm×Tm} {b:Int->Option Tm} {S M:List (Tm×Tm)} (h:dm E b (p::S) M) {v:Int} {t:Tm} (g:b v=none) (j:(dK b p.1 (.var v)/\dK b p.2 t)\/(dK b p.1 t/\dK b p.2 (.var v))) (k:t.cn) (m:¬eB b v t) (l:∀ u,t=.var u->u<v):dm E (upd b v t) S M:=by
 refine h.drop (h.acy.bind g k m l) (fun s a=>((pW g).1 a).1) (fun s a=>?_) (fun s a f=>(pW g).2 ⟨a,?_⟩)
 ·obtain⟨e,i⟩:=(pW g).1 a;rcases j with ⟨c,d⟩|⟨c,d⟩
  ·exact⟨(t,t),.inr rfl,by rw[c.sat e,bZ,i],d.sat e⟩
  ·exact⟨(t,t),.inr rfl,c.sat e,by rw[d.sat e,bZ,i]⟩
 ·rcases j with ⟨c,d⟩|⟨c,d⟩
  ·rw[c.sat a,d.sat a,bZ]at f;exact f
  ·rw[c.sat a,d.sat a,bZ]at f;exact f.symm
theorem dm.push {E p:Tm×Tm} {b:Int->Option Tm} {S M:List (Tm×Tm)} (h:dm E b (p::S) M) {x y:Tm} (l:dK b p.1 x) (n:dK b p.2 y) (z:∀ v,x≠.var v) (t:x.fine) (w:y.fine) (f:x.hd y=true):dm E b (x.args.zip y.args++S) ((x,y)::M):=by
 have D:x.args.length=y.args.length:=by
  obtain⟨k,v,J,m,o⟩:=x;obtain⟨k2,L,G,I,g⟩:=y;rw[Tm.hd,decide_eq_true_eq]at f;exact f.2.2.1
 have F:Cx b ((x,y)::M) p:=fun s A=>⟨(x,y),.inl (by simp),l.sat A,n.sat A⟩;refine⟨h.acy,fun s=>?_,fun q i=>?_⟩
 ·rw[<-h.iff s,uy,qk D,eV,<-yZ t w z f s];constructor
  ·rintro⟨a,c,d⟩;exact⟨a,by rw[l.sat a,n.sat a,c],d⟩
  ·rintro⟨a,c,d⟩;exact⟨a,by rw[<-l.sat a,<-n.sat a,c],d⟩
 ·rcases List.mem_cons.1 i with rfl|i
  ·exact⟨z,t,w,f,fun r j=>.inl (List.mem_append_left _ j)⟩
  ·obtain⟨a,c,d,B,C⟩:=h.met q i;refine⟨a,c,d,B,fun r j=>?_⟩;rcases C r j with e|e
   ·rcases List.mem_cons.1 e with rfl|e
    ·exact .inr F
    ·exact .inl (List.mem_append_right _ e)
   ·exact .inr (e.more (fun _ h=>h) fun _ h=>List.mem_cons_of_mem _ h)
theorem dm.clash {E p:Tm×Tm} {b:Int->Option Tm} {S M:List (Tm×Tm)} (h:dm E b (p::S) M) {x y:Tm} (k:dK b p.1 x) (l:dK b p.2 y) (j:∀ v,x≠.var v) (a:∀ v,y≠.var v) (e:x.fine) (f:y.fine) (i:x.hd y=false) (s:Int->Tm):E.1.sb s≠E.2.sb s:=fun g=>by
 obtain⟨c,d⟩:=(h.iff s).2 g;rw[eV]at d;exact Dr e f j a i s (by rw[<-k.sat c,<-l.sat c,d.1])
theorem dm.loop {E p:Tm×Tm} {b:Int->Option Tm} {S M:List (Tm×Tm)} (h:dm E b (p::S) M) {v:Int} {t:Tm} (g:(dK b p.1 (.var v)/\dK b p.2 t)\/(dK b p.1 t/\dK b p.2 (.var v))) (j:∀ u,t≠.var u) (f:t.cn) (k:eB b v t) (s:Int->Tm):E.1.sb s≠E.2.sb s:=fun i=>by
 obtain⟨a,e⟩:=(h.iff s).2 i;rw[eV]at e;refine k.no j f a ?_;rcases g with ⟨c,d⟩|⟨c,d⟩
 ·have:=e.1;rw[c.sat a,d.sat a,bZ]at this;exact this
 ·have:=e.1;rw[c.sat a,d.sat a,bZ]at this;exact this.symm
theorem dm.start (E:Tm×Tm):dm E (fun _=>none) [E] []:=
 ⟨⟨⟨fun v=>Acc.intro v fun u a=>by obtain⟨t,h,_⟩:=a;cases h⟩,fun v t h=>by cases h⟩,fun s=>by rw[eV];exact⟨fun h=>h.2.1,fun h=>⟨fun v t h=>(by cases h),h,qn.nil s⟩⟩,fun p h=>by cases h⟩
theorem dm.one {E:Tm×Tm} {b c:Int->Option Tm} {M N:List (Tm×Tm)} (h:dm E b [] M) (e:dm E c [] N) {f g:Int->Tm} (i:iY b f) (j:iY c g):f=g:=by
 refine i.one j h.acy e.acy fun s=>?_;have a:=h.iff s;have d:=e.iff s;exact⟨fun q=>(d.2 (a.1 ⟨q,qn.nil s⟩)).1,fun q=>(a.2 (d.1 ⟨q,qn.nil s⟩)).1⟩
noncomputable def kK (b:Int->Option Tm) (v:Int) (rec:∀ u,AW b u v->Tm):Tm:=
 match b v with
 |none=>.var v
 |some t=>t.sb fun u=>@dite _ (AW b u v) (Classical.propDecidable _) (fun h=>rec u h) fun _=>.var u
theorem ql.res {b:Int->Option Tm} (h:ql b):∃ f,iY b f:=by
 have k:∀ v,h.1.fix (kK b) v=kK b v (fun u _=>h.1.fix (kK b) u):=fun v=>h.1.fix_eq (kK b) v;have j:∀ v,b v=none->h.1.fix (kK b) v=.var v:=fun v a=>by
  rw[k v];unfold kK;rw[a]
 have l:∀ v t,b v=some t->h.1.fix (kK b) v=t.sb (h.1.fix (kK b)):=fun v t a=>by
  rw[k v];unfold kK;simp only[a];refine t.sb_congr fun u c=>?_;by_cases i:(b u).isSome=true
  ·have d:AW b u v:=⟨t,a,c,i⟩;rw[dif_pos d]
  ·have d:¬AW b u v:=fun ⟨_,_,_,g⟩=>i g;rw[dif_neg d];refine (j u ?_).symm;cases g:b u with
   |none=>rfl
   |some _=>rw[g]at i;exact absurd rfl i
 refine⟨h.1.fix (kK b),j,l,fun v=>?_⟩
 induction v using h.1.induction with
 |_ v m=>
  cases a:b v with
  |none=>rw[j v a];exact jK v
  |some t=>
   have e:t.sb (h.1.fix (kK b))=t.sb fun u=>@ite _ (t.occ u) (Classical.propDecidable _) (h.1.fix (kK b) u) (.var u):=t.sb_congr fun u c=>by rw[if_pos c]
   rw[l v t a,e];refine Tm.sb_cn _ (fun u=>?_) t;by_cases c:t.occ u
   ·rw[if_pos c];cases g:b u with
    |none=>rw[j u g];exact jK u
    |some n=>exact m u ⟨t,a,c,by rw[g];rfl⟩
   ·rw[if_neg c];exact jK u
def xY (b:Int->Option Tm) (E:Tm×Tm):Prop:=ql b/\∀ s,mI s b↔E.1.sb s=E.2.sb s
theorem dm.sol {E:Tm×Tm} {b:Int->Option Tm} {M:List (Tm×Tm)} (h:dm E b [] M):xY b E:=⟨h.acy,fun s=>by rw[<-h.iff s];exact⟨fun q=>⟨q,qn.nil s⟩,fun q=>q.1⟩⟩
theorem xY.one {E:Tm×Tm} {b c:Int->Option Tm} (h:xY b E) (k:xY c E) {f g:Int->Tm} (a:iY b f) (d:iY c g):f=g:=a.one d h.1 k.1 fun s=>by rw[h.2 s,k.2 s]
mutual
theorem Tm.occ_sb {f:Int->Tm} {u:Int}:∀ (t:Tm),(t.sb f).occ u->∃ v,t.occ v/\(f v).occ u
 |.mk k v s n args,h=>by
  by_cases hk:k=1
  ·subst hk;rw[fK]at h;exact⟨v,by rw[Tm.occ];exact .inl ⟨rfl,rfl⟩,h⟩
  ·rw[bX f hk,Tm.occ]at h;rcases h with h|h
   ·exact absurd h.1 hk
   ·obtain⟨w,h1,h2⟩:=vk args h.2;exact⟨w,by rw[Tm.occ];exact .inr ⟨hk,h1⟩,h2⟩
theorem vk {f:Int->Tm} {u:Int}:∀ (l:List Tm),dA u (fJ f l)->∃ v,dA v l/\(f v).occ u
 |[],h=>by rw[bE,dA]at h;exact h.elim
 |t::l,h=>by
  rw[bA,dA]at h;rcases h with h|h
  ·obtain⟨w,h1,h2⟩:=t.occ_sb h;exact⟨w,by rw[dA];exact .inl h1,h2⟩
  ·obtain⟨w,h1,h2⟩:=vk l h;exact⟨w,by rw[dA];exact .inr h1,h2⟩
end
theorem gH {u v:Int} (h:(Tm.var v).occ u):u=v:=by
 rw[Tm.var,Tm.occ]at h;rcases h with h|h
 ·exact h.2.symm
 ·exact absurd rfl h.1
structure Ren (V D:Int->Prop) (num vl:Int->Int):Prop where
 fwd:∀ v,V v->D (num v)/\vl (num v)=v
 back:∀ i,D i->V (vl i)/\num (vl i)=i
 mono:∀ i j,D i->D j->i<j->vl i<vl j
noncomputable def mh (V:Int->Prop) (num vl:Int->Int) (b:Int->Option Tm):Int->Option Tm:=fun v=>@ite _ (V v) (Classical.propDecidable _) ((b (num v)).map fun t=>t.sb fun i=>.var (vl i)) none
theorem gc {V:Int->Prop} {a e:Int->Int} {b:Int->Option Tm} {v:Int} {t:Tm} (h:mh V a e b v=some t):V v/\∃ c,b (a v)=some c/\t=c.sb fun i=>.var (e i):=by
 unfold mh at h;by_cases d:V v
 ·rw[if_pos d]at h;cases hb:b (a v) with
  |none=>rw[hb]at h;cases h
  |some c=>rw[hb]at h;exact⟨d,c,rfl,(zI h).symm⟩
 ·rw[if_neg d]at h;cases h
theorem vA {V:Int->Prop} {a d:Int->Int} {b:Int->Option Tm} {v:Int} {c:Tm} (e:V v) (h:b (a v)=some c):mh V a d b v=some (c.sb fun i=>.var (d i)):=by
 unfold mh;rw[if_pos e,h];rfl
theorem Cf {V D:Int->Prop} {a f:Int->Int} (R:Ren V D a f) {b:Int->Option Tm} (p:∀ i t,b i=some t->D i/\∀ j,t.occ j->D j) {u v:Int} (h:AW (mh V a f b) u v):AW b (a u) (a v):=by
 obtain⟨t,l,m,n⟩:=h;obtain⟨y,e,c,rfl⟩:=gc l;obtain⟨x,r⟩:=Option.isSome_iff_exists.1 n;obtain⟨w,z,g,_⟩:=gc r;obtain⟨j,d,q⟩:=e.occ_sb m;have k:=gH q;have o:=(p _ _ c).2 j d;refine⟨e,c,?_,by rw[g];rfl⟩;rw[k,(R.back j o).2];exact d
theorem Cb {V D:Int->Prop} {a f:Int->Int} (R:Ren V D a f) {b:Int->Option Tm} (k:∀ i t,b i=some t->D i/\∀ j,t.occ j->D j) (h:ql b):ql (mh V a f b):=by
 refine⟨Subrelation.wf (fun {u v} q=>Cf R k q) (InvImage.wf a h.1),fun v t p=>?_⟩;obtain⟨l,r,d,rfl⟩:=gc p;refine⟨Tm.sb_cn _ (fun i=>jK _) r,fun u o=>?_⟩;obtain⟨j,rfl,g⟩:=Tm.sb_is_var (h.2 _ _ d).1 o;have n:=(h.2 _ _ d).2 j rfl;have m:=(k _ _ d).2 j (by rw[Tm.var,Tm.occ];exact .inl ⟨rfl,rfl⟩);have c:=R.fwd v l;have:=R.mono j (a v) m c.1 n;rw[c.2]at this;have e:f j=u:=by
  simp only[Tm.var,Tm.mk.injEq,true_and,and_true]at g;exact g
 omega
theorem Cd {V D:Int->Prop} {a c:Int->Int} (R:Ren V D a c) {b:Int->Option Tm} (n:∀ i t,b i=some t->D i/\∀ j,t.occ j->D j) (s:Int->Tm):mI s (mh V a c b)↔mI (fun i=>s (c i)) b:=by
 have e:∀ d:Tm,(d.sb fun i=>.var (c i)).sb s=d.sb fun i=>s (c i):=fun d=>by
  rw[Tm.sb_sb];exact d.sb_congr fun i _=>bZ s (c i)
 constructor
 ·intro h i t g;have m:=(n i t g).1;have f:=R.back i m;have:=h (c i) _ (vA f.1 (by rw[f.2];exact g));rw[e]at this;exact this
 ·intro h v t o;obtain⟨l,d,k,rfl⟩:=gc o;have:=h (a v) d k;rw[e];have f:s (c (a v))=d.sb fun i=>s (c i):=this
  rwa [(R.fwd v l).2]at f
theorem pK {V D:Int->Prop} {a b:Int->Int} (R:Ren V D a b) {t:Tm} (c:∀ v,t.occ v->V v) (s:Int->Tm):(t.sb fun v=>.var (a v)).sb (fun i=>s (b i))=t.sb s:=by
 rw[Tm.sb_sb];refine t.sb_congr fun v d=>?_;rw[bZ,(R.fwd v (c v d)).2]
theorem Ce {V D:Int->Prop} {a d:Int->Int} (R:Ren V D a d) {b:Int->Option Tm} (c:∀ i t,b i=some t->D i/\∀ j,t.occ j->D j) {E:Tm×Tm} (e:∀ v,E.1.occ v->V v) (f:∀ v,E.2.occ v->V v) (h:xY b (E.1.sb fun v=>.var (a v),E.2.sb fun v=>.var (a v))):xY (mh V a d b) E:=by
 refine⟨Cb R c h.1,fun s=>?_⟩;rw[Cd R c s,h.2,pK R e,pK R f]
noncomputable def wX (V:Int->Prop) (num vl:Int->Int) (f:Int->Tm) (v:Int):Tm:=@ite _ (V v) (Classical.propDecidable _) ((f (num v)).sb fun i=>.var (vl i)) (.var v)
theorem jw {V:Int->Prop} {a b:Int->Int} {f:Int->Tm} {v:Int} (h:V v):wX V a b f v=(f (a v)).sb fun i=>.var (b i):=by unfold wX;rw[if_pos h]
theorem mi {V:Int->Prop} {a b:Int->Int} {f:Int->Tm} {v:Int} (h:¬V v):wX V a b f v=.var v:=by unfold wX;rw[if_neg h]
theorem Cc {V D:Int->Prop} {a e:Int->Int} (R:Ren V D a e) {b:Int->Option Tm} (n:∀ i t,b i=some t->D i/\∀ j,t.occ j->D j) {f:Int->Tm} (h:iY b f):iY (mh V a e b) (wX V a e f):=by
 refine⟨fun v l=>?_,fun v t p=>?_,fun v=>?_⟩
 ·by_cases c:V v
  ·have d:b (a v)=none:=by
    cases hq:b (a v) with
    |none=>rfl
    |some m=>rw[vA c hq]at l;cases l
   rw[jw c,h.1 _ d,bZ,(R.fwd v c).2]
  ·rw[mi c]
 ·obtain⟨c,m,g,rfl⟩:=gc p;rw[jw c,h.2.1 _ _ g,Tm.sb_sb,Tm.sb_sb];refine m.sb_congr fun j o=>?_;have k:=(n _ _ g).2 j o;rw[bZ,jw (R.back j k).1,(R.back j k).2]
 ·by_cases c:V v
  ·rw[jw c];exact Tm.sb_cn _ (fun i=>jK _) _
  ·rw[mi c];exact jK v
theorem tP:(prog.info? 130).map (fun i=>(i.zero,i.size,i.bytes))=some (some (.agg (.int .i64 0::zc).toArray),10,152):=by kernel_rfl
def mZ (xs:List Value) (vi:Nat) (n0 n1 n2 n3 n4 n5 n6 n7 n8:Value):List Value:=(((((((((xs.set (vi*9) n0).set (vi*9+1) n1).set (vi*9+2) n2).set (vi*9+3) n3).set (vi*9+4) n4).set (vi*9+5) n5).set (vi*9+6) n6).set (vi*9+7) n7).set (vi*9+8) n8)
theorem cM {a b c:World} {g:Nat} (h:a.grownBy b (some g)) (k:b.grownBy c (some g)):a.grownBy c (some g):=
 ⟨k.os.trans h.os,k.tape.trans h.tape,k.output.trans h.output,zC h.size k.size,fun i d e=>(k.block i (zD d h.size) e).trans (h.block i d e)⟩
theorem cI (w:World) (a:Addr):w.drew.cell? a=w.cell? a:=rfl
theorem DG {W:World} {G:Nat} {a:Addr} {u:Value} {l m n o p q r t v:Nat} {d e n2 f g h i j k:Value} (b:¬G=a.block) (c:W.cell? a=some u):(((((((((W.setCell ⟨G,l,none⟩ d).setCell ⟨G,m,none⟩ e).setCell ⟨G,n,none⟩ n2).setCell ⟨G,o,none⟩ f).setCell ⟨G,p,none⟩ g).setCell ⟨G,q,none⟩ h).setCell ⟨G,r,none⟩ i).setCell ⟨G,t,none⟩ j).setCell ⟨G,v,none⟩ k).cell? a=some u:=by
 repeat rw[World.cell?_setCell_far _ _ _ _ b]
 exact c
theorem vF {W:World} {nm B G c:Nat} {xs:List Value} (v:W.ownsRow B 98 9 (.slice (some ⟨G,0,none⟩) nm c) nm xs) (a:Nat) (b d n2 e f g h i j:Value):
 ((((((((((W.setCell ⟨G,a*9,none⟩ b).setCell ⟨G,a*9+1,none⟩ d).setCell ⟨G,a*9+2,none⟩ n2).setCell ⟨G,a*9+3,none⟩ e).setCell ⟨G,a*9+4,none⟩ f).setCell ⟨G,a*9+5,none⟩ g).setCell ⟨G,a*9+6,none⟩ h).setCell ⟨G,a*9+7,none⟩ i).setCell ⟨G,a*9+8,none⟩ j)).ownsRow B 98 9 (.slice (some ⟨G,0,none⟩) nm c) nm (mZ xs a b d n2 e f g h i j)/\W.grownBy ((((((((((W.setCell ⟨G,a*9,none⟩ b).setCell ⟨G,a*9+1,none⟩ d).setCell ⟨G,a*9+2,none⟩ n2).setCell ⟨G,a*9+3,none⟩ e).setCell ⟨G,a*9+4,none⟩ f).setCell ⟨G,a*9+5,none⟩ g).setCell ⟨G,a*9+6,none⟩ h).setCell ⟨G,a*9+7,none⟩ i).setCell ⟨G,a*9+8,none⟩ j)) (some G):=by
 have k:=v.stored (a*9) b;have l:=k.1.stored (a*9+1) d;have m:=l.1.stored (a*9+2) n2;have n:=m.1.stored (a*9+3) e;have o:=n.1.stored (a*9+4) f;have p:=o.1.stored (a*9+5) g;have q:=p.1.stored (a*9+6) h;have r:=q.1.stored (a*9+7) i;have t:=r.1.stored (a*9+8) j;exact⟨t.1,(cM (cM (cM (cM (cM (cM (cM (cM k.2 l.2) m.2) n.2) o.2) p.2) q.2) r.2) t.2)⟩
theorem Ci (nm B h G c m:Nat) (tv:Value) (xs ys:List Value) (b:Nat) (h4:b<nm) (S:Bool) (X ov:Int) (os:ByteArray) (Z:Bool) (N:Option Addr) (Q T:Nat) (O:Option Addr) (U V:Nat) (P:Option Addr) (Y oq:Nat) (o:Bool) (y E:Int) (D:ByteArray) (A:Bool) (d:Option Addr) (n r:Nat) (i:Option Addr) (t x:Nat) (l:Option Addr) (z C:Nat) (d1:∀ q u,[(Value.bool S),(Value.int .i64 X),(Value.int .i64 ov),(Value.string os),(Value.bool Z),(Value.slice N Q T),(Value.slice O U V),(Value.slice P Y oq),(Value.slice none 0 0)][q]?=some u->xs[b*9+q]?=some u) (hm:m<=1000000) (w:World) (hB:B<=w.heap.size) (hS:dL nm w B h G c tv xs m ys):
 Calls prog 113 #[.pointer (some ⟨h,0,none⟩),.int .i64 (b:Int),.agg #[(Value.bool o),(Value.int .i64 y),(Value.int .i64 E),(Value.string D),(Value.bool A),(Value.slice d n r),(Value.slice i t x),(Value.slice l z C),(Value.slice none 0 0)]] w fun e w'=>e=.returned (.tuple #[])/\(∃ tv',dL nm w' B h G c tv' (mZ xs b (Value.bool o) (Value.int .i64 y) (Value.int .i64 E) (Value.string D) (Value.bool A) (Value.slice d n r) (Value.slice i t x) (Value.slice l z C) (Value.slice none 0 0)) (m+1) (ys++[Value.int .i64 (b:Int),(Value.bool S),(Value.int .i64 X),(Value.int .i64 ov),(Value.string os),(Value.bool Z),(Value.slice N Q T),(Value.slice O U V),(Value.slice P Y oq),(Value.slice none 0 0)]))/\aD [some 95,some 98,some 130] w w'/\Below B w w':=by
 have HB:=zH hB;have a8:=zH hS;have d7:=zH (ah.new w 98 #[(Value.bool o),(Value.int .i64 y),(Value.int .i64 E),(Value.string D),(Value.bool A),(Value.slice d n r),(Value.slice i t x),(Value.slice l z C),(Value.slice none 0 0)]);have e0:=zH (ae w (.cells #[(Value.bool o),(Value.int .i64 y),(Value.int .i64 E),(Value.string D),(Value.bool A),(Value.slice d n r),(Value.slice i t x),(Value.slice l z C),(Value.slice none 0 0)] 98));have b6:Yd (dL nm (w.alloc (.cells #[(Value.bool o),(Value.int .i64 y),(Value.int .i64 E),(Value.string D),(Value.bool A),(Value.slice d n r),(Value.slice i t x),(Value.slice l z C),(Value.slice none 0 0)] 98)).drew B h G c tv xs m ys):=(a8.o.below e0.o).drew;have HO:Yd (∀ q u,[(Value.bool S),(Value.int .i64 X),(Value.int .i64 ov),(Value.string os),(Value.bool Z),(Value.slice N Q T),(Value.slice O U V),(Value.slice P Y oq),(Value.slice none 0 0)][q]?=some u->xs[b*9+q]?=some u):=d1;have a9:Yd (∀ W tv,ah W h 95 #[.slice (some ⟨G,0,none⟩) nm c,tv,.slice none 0 0]->W.ownsRow B 98 9 (.slice (some ⟨G,0,none⟩) nm c) nm xs->(W.cell? ⟨h,0,none⟩=some (.slice (some ⟨G,0,none⟩) nm c)/\W.cell? ⟨G,b*9,none⟩=some (Value.bool S)/\W.cell? ⟨G,b*9+1,none⟩=some (Value.int .i64 X)/\W.cell? ⟨G,b*9+2,none⟩=some (Value.int .i64 ov)/\W.cell? ⟨G,b*9+3,none⟩=some (Value.string os)/\W.cell? ⟨G,b*9+4,none⟩=some (Value.bool Z)/\W.cell? ⟨G,b*9+5,none⟩=some (Value.slice N Q T)/\W.cell? ⟨G,b*9+6,none⟩=some (Value.slice O U V)/\W.cell? ⟨G,b*9+7,none⟩=some (Value.slice P Y oq)/\W.cell? ⟨G,b*9+8,none⟩=some (Value.slice none 0 0))):=fun W tv hb hr=>by
  have hl:=hr.1;have hW:∀ {q:Nat} {u:Value},xs[q]?=some u->W.cell? ⟨G,q,none⟩=some u:=fun {q u} hq=>by
   have:q<xs.length:=(zK hq).1;exact (hr.cellAt q (by omega)).trans hq
  have a0:=hb.cell 0;simp only[L3]at a0;exact⟨a0,hW (HO.o 0 _ rfl),hW (HO.o 1 _ rfl),hW (HO.o 2 _ rfl),hW (HO.o 3 _ rfl),hW (HO.o 4 _ rfl),hW (HO.o 5 _ rfl),hW (HO.o 6 _ rfl),hW (HO.o 7 _ rfl),hW (HO.o 8 _ rfl)⟩
 have a1:=b6.o.blk.cell 1;simp only[L3]at a1;have c8:Yd (∀ W v,ah W h 95 #[.slice (some ⟨G,0,none⟩) nm c,tv,.slice none 0 0]->ah (W.setCell ⟨h,1,none⟩ v) h 95 #[.slice (some ⟨G,0,none⟩) nm c,v,.slice none 0 0]):=fun W v hb=>by
  have:=hb.set_ 1 v;simpa using this
 have f1:=a9.o _ _ b6.o.blk b6.o.row;have c4:Yd (∀ u∈[Value.int .i64 (b:Int),(Value.bool S),(Value.int .i64 X),(Value.int .i64 ov),(Value.string os),(Value.bool Z),(Value.slice N Q T),(Value.slice O U V),(Value.slice P Y oq),(Value.slice none 0 0)],u.oneCell'=true):=fun u hu=>by
  simp only[List.mem_cons,List.not_mem_nil,or_false]at hu;rcases hu with rfl|rfl|rfl|rfl|rfl|rfl|rfl|rfl|rfl|rfl<;>rfl
 have b3:Yd (zZ w ((w.alloc (.cells #[(Value.bool o),(Value.int .i64 y),(Value.int .i64 E),(Value.string D),(Value.bool A),(Value.slice d n r),(Value.slice i t x),(Value.slice l z C),(Value.slice none 0 0)] 98)).alloc (.cells #[Value.int .i64 (b:Int),(Value.bool S),(Value.int .i64 X),(Value.int .i64 ov),(Value.string os),(Value.bool Z),(Value.slice N Q T),(Value.slice O U V),(Value.slice P Y oq),(Value.slice none 0 0)] 130))):=ax w _ _;have a5:Yd (dL nm ((w.alloc (.cells #[(Value.bool o),(Value.int .i64 y),(Value.int .i64 E),(Value.string D),(Value.bool A),(Value.slice d n r),(Value.slice i t x),(Value.slice l z C),(Value.slice none 0 0)] 98)).alloc (.cells #[Value.int .i64 (b:Int),(Value.bool S),(Value.int .i64 X),(Value.int .i64 ov),(Value.string os),(Value.bool Z),(Value.slice N Q T),(Value.slice O U V),(Value.slice P Y oq),(Value.slice none 0 0)] 130)).drew B h G c tv xs m ys):=(a8.o.below b3.o).drew;have a2:=a5.o.blk.cell 1;simp only[L3]at a2;have f2:=a9.o _ _ a5.o.blk a5.o.row;have c5:Yd (∀ j u,[Value.int .i64 (b:Int),(Value.bool S),(Value.int .i64 X),(Value.int .i64 ov),(Value.string os),(Value.bool Z),(Value.slice N Q T),(Value.slice O U V),(Value.slice P Y oq),(Value.slice none 0 0)][j]?=some u->((w.alloc (.cells #[(Value.bool o),(Value.int .i64 y),(Value.int .i64 E),(Value.string D),(Value.bool A),(Value.slice d n r),(Value.slice i t x),(Value.slice l z C),(Value.slice none 0 0)] 98)).alloc (.cells #[Value.int .i64 (b:Int),(Value.bool S),(Value.int .i64 X),(Value.int .i64 ov),(Value.string os),(Value.bool Z),(Value.slice N Q T),(Value.slice O U V),(Value.slice P Y oq),(Value.slice none 0 0)] 130)).drew.cell? ((⟨w.heap.size+1,0,none⟩:Addr).add j)=some u):=fun j u hj=>by
  have:=(ah.new (w.alloc (.cells #[(Value.bool o),(Value.int .i64 y),(Value.int .i64 E),(Value.string D),(Value.bool A),(Value.slice d n r),(Value.slice i t x),(Value.slice l z C),(Value.slice none 0 0)] 98)) 130 #[Value.int .i64 (b:Int),(Value.bool S),(Value.int .i64 X),(Value.int .i64 ov),(Value.string os),(Value.bool Z),(Value.slice N Q T),(Value.slice O U V),(Value.slice P Y oq),(Value.slice none 0 0)]).drew.cell j;rw[show (w.alloc (.cells #[(Value.bool o),(Value.int .i64 y),(Value.int .i64 E),(Value.string D),(Value.bool A),(Value.slice d n r),(Value.slice i t x),(Value.slice l z C),(Value.slice none 0 0)] 98)).heap.size=w.heap.size+1 by simp]at this;rw[Go.WideShapes.add_plain,Nat.zero_add,this];simpa using hj
 have h2:(0:Int)<=(b:Int):=by omega
 have h3:(b:Int)<(nm:Int):=by omega
 have c9:Yd (B<=((w.alloc (.cells #[(Value.bool o),(Value.int .i64 y),(Value.int .i64 E),(Value.string D),(Value.bool A),(Value.slice d n r),(Value.slice i t x),(Value.slice l z C),(Value.slice none 0 0)] 98)).alloc (.cells #[Value.int .i64 (b:Int),(Value.bool S),(Value.int .i64 X),(Value.int .i64 ov),(Value.string os),(Value.bool Z),(Value.slice N Q T),(Value.slice O U V),(Value.slice P Y oq),(Value.slice none 0 0)] 130)).drew.heap.size):=zC HB.o b3.o.size;have c1:Yd (∀ L,(((w.alloc (.cells #[(Value.bool o),(Value.int .i64 y),(Value.int .i64 E),(Value.string D),(Value.bool A),(Value.slice d n r),(Value.slice i t x),(Value.slice l z C),(Value.slice none 0 0)] 98)).alloc (.cells #[Value.int .i64 (b:Int),(Value.bool S),(Value.int .i64 X),(Value.int .i64 ov),(Value.string os),(Value.bool Z),(Value.slice N Q T),(Value.slice O U V),(Value.slice P Y oq),(Value.slice none 0 0)] 130)).drew).grownBy L tv.ownBlock->aD [some 130] ((w.alloc (.cells #[(Value.bool o),(Value.int .i64 y),(Value.int .i64 E),(Value.string D),(Value.bool A),(Value.slice d n r),(Value.slice i t x),(Value.slice l z C),(Value.slice none 0 0)] 98)).alloc (.cells #[Value.int .i64 (b:Int),(Value.bool S),(Value.int .i64 X),(Value.int .i64 ov),(Value.string os),(Value.bool Z),(Value.slice N Q T),(Value.slice O U V),(Value.slice P Y oq),(Value.slice none 0 0)] 130)).drew L):=fun L hg=>(aD.refl _ _).grown hg fun g hr=>by
  obtain⟨cs,f,hc⟩:=Lib.ownsRow_kind a5.o.trail g hr;exact⟨cs,_,f,hc,by decide⟩
 have d8:Yd (ah ((w.alloc (.cells #[(Value.bool o),(Value.int .i64 y),(Value.int .i64 E),(Value.string D),(Value.bool A),(Value.slice d n r),(Value.slice i t x),(Value.slice l z C),(Value.slice none 0 0)] 98)).alloc (.cells #[Value.int .i64 (b:Int),(Value.bool S),(Value.int .i64 X),(Value.int .i64 ov),(Value.string os),(Value.bool Z),(Value.slice N Q T),(Value.slice O U V),(Value.slice P Y oq),(Value.slice none 0 0)] 130)).drew w.heap.size 98 #[(Value.bool o),(Value.int .i64 y),(Value.int .i64 E),(Value.string D),(Value.bool A),(Value.slice d n r),(Value.slice i t x),(Value.slice l z C),(Value.slice none 0 0)]):=(d7.o.alloc _).drew;have c2:Yd (∀ L v,aD [some 130] ((w.alloc (.cells #[(Value.bool o),(Value.int .i64 y),(Value.int .i64 E),(Value.string D),(Value.bool A),(Value.slice d n r),(Value.slice i t x),(Value.slice l z C),(Value.slice none 0 0)] 98)).alloc (.cells #[Value.int .i64 (b:Int),(Value.bool S),(Value.int .i64 X),(Value.int .i64 ov),(Value.string os),(Value.bool Z),(Value.slice N Q T),(Value.slice O U V),(Value.slice P Y oq),(Value.slice none 0 0)] 130)).drew L->(((w.alloc (.cells #[(Value.bool o),(Value.int .i64 y),(Value.int .i64 E),(Value.string D),(Value.bool A),(Value.slice d n r),(Value.slice i t x),(Value.slice l z C),(Value.slice none 0 0)] 98)).alloc (.cells #[Value.int .i64 (b:Int),(Value.bool S),(Value.int .i64 X),(Value.int .i64 ov),(Value.string os),(Value.bool Z),(Value.slice N Q T),(Value.slice O U V),(Value.slice P Y oq),(Value.slice none 0 0)] 130)).drew).grownBy L tv.ownBlock->aD [some 95] L (L.setCell ⟨h,1,none⟩ v)->aD [some 95,some 98,some 130] w (L.setCell ⟨h,1,none⟩ v)/\Below B w (L.setCell ⟨h,1,none⟩ v)):=fun L v k1 k2 k3=>
  ⟨((aD.of_below (b3.o.drew)).trans (k1.mono (by decide))).trans (k3.mono (by decide)),(((b3.o.drew.mono HB.o).grown k2 c9.o (fun k hk=>(a5.o.trail.lt k hk).1)).setCell (p:=⟨h,1,none⟩) a8.o.le _)⟩
 have e4:Yd (¬w.heap.size=G):=fun e=>by
  have:=(a8.o.row.lt G rfl).2;omega
 clear hS d1 hB;obtain⟨i0,d0,d4,d5,d6⟩:=info_parts tP;have e3:=zH d0;have e5:=zH d4;have e6:=zH d5;have e7:=zH d6;clear d0 d4 d5 d6;go_enter func113,ntmps113;go_wp2_with fail
 go_region_law (refine step_append_lies _ rfl _ _ 92 rfl B 130 i0 (.agg (.int .i64 0::zc).toArray) 10 152 underlying92 e3.o e5.o e6.o e7.o rfl (by decide) tv m ys rfl a5.o.trail ⟨w.heap.size+1,0,none⟩ 1 1 [Value.int .i64 (b:Int),(Value.bool S),(Value.int .i64 X),(Value.int .i64 ov),(Value.string os),(Value.bool Z),(Value.slice N Q T),(Value.slice O U V),(Value.slice P Y oq),(Value.slice none 0 0)] rfl rfl c5.o c4.o (by decide) (by unfold maxLen;omega) (by omega) c9.o _ rfl ?_;intro g a4 L d2 b4 e9 f5;have b1:Yd (aD [some 130] ((w.alloc (.cells #[(Value.bool o),(Value.int .i64 y),(Value.int .i64 E),(Value.string D),(Value.bool A),(Value.slice d n r),(Value.slice i t x),(Value.slice l z C),(Value.slice none 0 0)] 98)).alloc (.cells #[Value.int .i64 (b:Int),(Value.bool S),(Value.int .i64 X),(Value.int .i64 ov),(Value.string os),(Value.bool Z),(Value.slice N Q T),(Value.slice O U V),(Value.slice P Y oq),(Value.slice none 0 0)] 130)).drew L):=c1.o L b4;have c7:=zH d2;have e2:=zH b4;have a7:=zH (a5.o.blk.frT b1.o (by decide));have b5:=zH (ay a5.o.row b1.o (by decide));have f3:=a9.o _ _ a7.o b5.o;have fz:=a7.o.frozen 1;have a6:Yd (ah (L.setCell ⟨h,1,none⟩ (.slice (some ⟨g,0,none⟩) (m+1) a4)) h 95 #[.slice (some ⟨G,0,none⟩) nm c,.slice (some ⟨g,0,none⟩) (m+1) a4,.slice none 0 0]):=c8.o L _ a7.o;have b2:Yd (aD [some 95] L (L.setCell ⟨h,1,none⟩ (.slice (some ⟨g,0,none⟩) (m+1) a4))):=(aD.refl _ _).setCell (p:=⟨h,1,none⟩) a7.o (by decide) _;have F:=zH (ay b5.o b2.o (by decide));have c6:=zH (ay c7.o b2.o (by decide));have f4:=a9.o _ _ a6.o F.o;have a3:=zH ((d8.o.frT b1.o (by decide)).frT b2.o (by decide));have g9:Yd (dL nm (L.setCell ⟨h,1,none⟩ (.slice (some ⟨g,0,none⟩) (m+1) a4)).drew B h G c (.slice (some ⟨g,0,none⟩) (m+1) a4) xs (m+1) (ys++[Value.int .i64 (b:Int),(Value.bool S),(Value.int .i64 X),(Value.int .i64 ov),(Value.string os),(Value.bool Z),(Value.slice N Q T),(Value.slice O U V),(Value.slice P Y oq),(Value.slice none 0 0)])):=dL.drew (.of a6.o a8.o.le F.o c6.o);have b7:Yd (aD [some 95,some 98,some 130] w (L.setCell ⟨h,1,none⟩ (.slice (some ⟨g,0,none⟩) (m+1) a4))/\Below B w (L.setCell ⟨h,1,none⟩ (.slice (some ⟨g,0,none⟩) (m+1) a4))):=c2.o L _ b1.o b4 b2.o;have e1:=a7.o.cell 1;simp only[L3]at e1;clear d2 b4 e9 f5)
 all_goals
  clear f1 f2 a1 a2 e1 f3 f4 fz c5 c4 c2 c1 c8;generalize e8:L.setCell ⟨h,1,none⟩ (.slice (some ⟨g,0,none⟩) (m+1) a4)=J at*;clear e8 b2 c7 e2 b1 a7 b5;have t0:=a3.o.cell 0;have t1:=a3.o.cell 1;have t2:=a3.o.cell 2;have t3:=a3.o.cell 3;have t4:=a3.o.cell 4;have t5:=a3.o.cell 5;have t6:=a3.o.cell 6;have t7:=a3.o.cell 7;have t8:=a3.o.cell 8;have b0:=a6.o.cell 0;simp only[L3]at t0 t1 t2 t3 t4 t5 t6 t7 t8 b0;obtain⟨f0,g0,g1,g2,g3,g4,g5,g6,g7,g8⟩:=a9.o _ _ a6.o F.o;have z0:=F.o.frozenAt (b*9);have z1:=F.o.frozenAt (b*9+1);have z2:=F.o.frozenAt (b*9+2);have z3:=F.o.frozenAt (b*9+3);have z4:=F.o.frozenAt (b*9+4);have z5:=F.o.frozenAt (b*9+5);have z6:=F.o.frozenAt (b*9+6);have z7:=F.o.frozenAt (b*9+7);have z8:=F.o.frozenAt (b*9+8);clear f0;have M:Yd (∀ (a:Addr) (u:Value),¬G=a.block->J.cell? a=some u->(((((((((J.setCell ⟨G,b*9,none⟩ (Value.bool o)).setCell ⟨G,b*9+1,none⟩ (Value.int .i64 y)).setCell ⟨G,b*9+2,none⟩ (Value.int .i64 E)).setCell ⟨G,b*9+3,none⟩ (Value.string D)).setCell ⟨G,b*9+4,none⟩ (Value.bool A)).setCell ⟨G,b*9+5,none⟩ (Value.slice d n r)).setCell ⟨G,b*9+6,none⟩ (Value.slice i t x)).setCell ⟨G,b*9+7,none⟩ (Value.slice l z C)).setCell ⟨G,b*9+8,none⟩ (Value.slice none 0 0)).drew.cell? a=some u):=fun a u ha hu=>(cI _ _).trans (DG ha hu);have f6:¬h=G:=fun e=>jT a6.o F.o (by decide) ⟨_,rfl,e⟩;have f7:¬G=h:=fun e=>f6 e.symm;have f8:¬w.heap.size=G:=e4.o;have I:¬G=w.heap.size:=fun e=>f8 e.symm;have h0:J.drew.cell? ⟨h,0,none⟩=some (.slice (some ⟨G,0,none⟩) nm c)/\J.drew.cell? ⟨w.heap.size,0,none⟩=some (Value.bool o)/\J.drew.cell? ⟨w.heap.size,1,none⟩=some (Value.int .i64 y)/\J.drew.cell? ⟨w.heap.size,2,none⟩=some (Value.int .i64 E)/\J.drew.cell? ⟨w.heap.size,3,none⟩=some (Value.string D)/\J.drew.cell? ⟨w.heap.size,4,none⟩=some (Value.bool A)/\J.drew.cell? ⟨w.heap.size,5,none⟩=some (Value.slice d n r)/\J.drew.cell? ⟨w.heap.size,6,none⟩=some (Value.slice i t x)/\J.drew.cell? ⟨w.heap.size,7,none⟩=some (Value.slice l z C)/\J.drew.cell? ⟨w.heap.size,8,none⟩=some (Value.slice none 0 0):=⟨(cI _ _).trans b0,(cI _ _).trans t0,(cI _ _).trans t1,(cI _ _).trans t2,(cI _ _).trans t3,(cI _ _).trans t4,(cI _ _).trans t5,(cI _ _).trans t6,(cI _ _).trans t7,(cI _ _).trans t8⟩;have h1:(((((((((J.setCell ⟨G,b*9,none⟩ (Value.bool o)).setCell ⟨G,b*9+1,none⟩ (Value.int .i64 y)).setCell ⟨G,b*9+2,none⟩ (Value.int .i64 E)).setCell ⟨G,b*9+3,none⟩ (Value.string D)).setCell ⟨G,b*9+4,none⟩ (Value.bool A)).setCell ⟨G,b*9+5,none⟩ (Value.slice d n r)).setCell ⟨G,b*9+6,none⟩ (Value.slice i t x)).setCell ⟨G,b*9+7,none⟩ (Value.slice l z C)).setCell ⟨G,b*9+8,none⟩ (Value.slice none 0 0)).drew.cell? ⟨h,0,none⟩=some (.slice (some ⟨G,0,none⟩) nm c)/\(((((((((J.setCell ⟨G,b*9,none⟩ (Value.bool o)).setCell ⟨G,b*9+1,none⟩ (Value.int .i64 y)).setCell ⟨G,b*9+2,none⟩ (Value.int .i64 E)).setCell ⟨G,b*9+3,none⟩ (Value.string D)).setCell ⟨G,b*9+4,none⟩ (Value.bool A)).setCell ⟨G,b*9+5,none⟩ (Value.slice d n r)).setCell ⟨G,b*9+6,none⟩ (Value.slice i t x)).setCell ⟨G,b*9+7,none⟩ (Value.slice l z C)).setCell ⟨G,b*9+8,none⟩ (Value.slice none 0 0)).drew.cell? ⟨w.heap.size,0,none⟩=some (Value.bool o)/\(((((((((J.setCell ⟨G,b*9,none⟩ (Value.bool o)).setCell ⟨G,b*9+1,none⟩ (Value.int .i64 y)).setCell ⟨G,b*9+2,none⟩ (Value.int .i64 E)).setCell ⟨G,b*9+3,none⟩ (Value.string D)).setCell ⟨G,b*9+4,none⟩ (Value.bool A)).setCell ⟨G,b*9+5,none⟩ (Value.slice d n r)).setCell ⟨G,b*9+6,none⟩ (Value.slice i t x)).setCell ⟨G,b*9+7,none⟩ (Value.slice l z C)).setCell ⟨G,b*9+8,none⟩ (Value.slice none 0 0)).drew.cell? ⟨w.heap.size,1,none⟩=some (Value.int .i64 y)/\(((((((((J.setCell ⟨G,b*9,none⟩ (Value.bool o)).setCell ⟨G,b*9+1,none⟩ (Value.int .i64 y)).setCell ⟨G,b*9+2,none⟩ (Value.int .i64 E)).setCell ⟨G,b*9+3,none⟩ (Value.string D)).setCell ⟨G,b*9+4,none⟩ (Value.bool A)).setCell ⟨G,b*9+5,none⟩ (Value.slice d n r)).setCell ⟨G,b*9+6,none⟩ (Value.slice i t x)).setCell ⟨G,b*9+7,none⟩ (Value.slice l z C)).setCell ⟨G,b*9+8,none⟩ (Value.slice none 0 0)).drew.cell? ⟨w.heap.size,2,none⟩=some (Value.int .i64 E)/\(((((((((J.setCell ⟨G,b*9,none⟩ (Value.bool o)).setCell ⟨G,b*9+1,none⟩ (Value.int .i64 y)).setCell ⟨G,b*9+2,none⟩ (Value.int .i64 E)).setCell ⟨G,b*9+3,none⟩ (Value.string D)).setCell ⟨G,b*9+4,none⟩ (Value.bool A)).setCell ⟨G,b*9+5,none⟩ (Value.slice d n r)).setCell ⟨G,b*9+6,none⟩ (Value.slice i t x)).setCell ⟨G,b*9+7,none⟩ (Value.slice l z C)).setCell ⟨G,b*9+8,none⟩ (Value.slice none 0 0)).drew.cell? ⟨w.heap.size,3,none⟩=some (Value.string D)/\(((((((((J.setCell ⟨G,b*9,none⟩ (Value.bool o)).setCell ⟨G,b*9+1,none⟩ (Value.int .i64 y)).setCell ⟨G,b*9+2,none⟩ (Value.int .i64 E)).setCell ⟨G,b*9+3,none⟩ (Value.string D)).setCell ⟨G,b*9+4,none⟩ (Value.bool A)).setCell ⟨G,b*9+5,none⟩ (Value.slice d n r)).setCell ⟨G,b*9+6,none⟩ (Value.slice i t x)).setCell ⟨G,b*9+7,none⟩ (Value.slice l z C)).setCell ⟨G,b*9+8,none⟩ (Value.slice none 0 0)).drew.cell? ⟨w.heap.size,4,none⟩=some (Value.bool A)/\(((((((((J.setCell ⟨G,b*9,none⟩ (Value.bool o)).setCell ⟨G,b*9+1,none⟩ (Value.int .i64 y)).setCell ⟨G,b*9+2,none⟩ (Value.int .i64 E)).setCell ⟨G,b*9+3,none⟩ (Value.string D)).setCell ⟨G,b*9+4,none⟩ (Value.bool A)).setCell ⟨G,b*9+5,none⟩ (Value.slice d n r)).setCell ⟨G,b*9+6,none⟩ (Value.slice i t x)).setCell ⟨G,b*9+7,none⟩ (Value.slice l z C)).setCell ⟨G,b*9+8,none⟩ (Value.slice none 0 0)).drew.cell? ⟨w.heap.size,5,none⟩=some (Value.slice d n r)/\(((((((((J.setCell ⟨G,b*9,none⟩ (Value.bool o)).setCell ⟨G,b*9+1,none⟩ (Value.int .i64 y)).setCell ⟨G,b*9+2,none⟩ (Value.int .i64 E)).setCell ⟨G,b*9+3,none⟩ (Value.string D)).setCell ⟨G,b*9+4,none⟩ (Value.bool A)).setCell ⟨G,b*9+5,none⟩ (Value.slice d n r)).setCell ⟨G,b*9+6,none⟩ (Value.slice i t x)).setCell ⟨G,b*9+7,none⟩ (Value.slice l z C)).setCell ⟨G,b*9+8,none⟩ (Value.slice none 0 0)).drew.cell? ⟨w.heap.size,6,none⟩=some (Value.slice i t x)/\(((((((((J.setCell ⟨G,b*9,none⟩ (Value.bool o)).setCell ⟨G,b*9+1,none⟩ (Value.int .i64 y)).setCell ⟨G,b*9+2,none⟩ (Value.int .i64 E)).setCell ⟨G,b*9+3,none⟩ (Value.string D)).setCell ⟨G,b*9+4,none⟩ (Value.bool A)).setCell ⟨G,b*9+5,none⟩ (Value.slice d n r)).setCell ⟨G,b*9+6,none⟩ (Value.slice i t x)).setCell ⟨G,b*9+7,none⟩ (Value.slice l z C)).setCell ⟨G,b*9+8,none⟩ (Value.slice none 0 0)).drew.cell? ⟨w.heap.size,7,none⟩=some (Value.slice l z C)/\(((((((((J.setCell ⟨G,b*9,none⟩ (Value.bool o)).setCell ⟨G,b*9+1,none⟩ (Value.int .i64 y)).setCell ⟨G,b*9+2,none⟩ (Value.int .i64 E)).setCell ⟨G,b*9+3,none⟩ (Value.string D)).setCell ⟨G,b*9+4,none⟩ (Value.bool A)).setCell ⟨G,b*9+5,none⟩ (Value.slice d n r)).setCell ⟨G,b*9+6,none⟩ (Value.slice i t x)).setCell ⟨G,b*9+7,none⟩ (Value.slice l z C)).setCell ⟨G,b*9+8,none⟩ (Value.slice none 0 0)).drew.cell? ⟨w.heap.size,8,none⟩=some (Value.slice none 0 0):=⟨M.o _ _ f7 b0,M.o _ _ I t0,M.o _ _ I t1,M.o _ _ I t2,M.o _ _ I t3,M.o _ _ I t4,M.o _ _ I t5,M.o _ _ I t6,M.o _ _ I t7,M.o _ _ I t8⟩;go_wp2_with fail
  go_region_held3 (fun w'=>w'.cell? ⟨h,0,none⟩=some (.slice (some ⟨G,0,none⟩) nm c)/\w'.cell? ⟨w.heap.size,0,none⟩=some (Value.bool o)/\w'.cell? ⟨w.heap.size,1,none⟩=some (Value.int .i64 y)/\w'.cell? ⟨w.heap.size,2,none⟩=some (Value.int .i64 E)/\w'.cell? ⟨w.heap.size,3,none⟩=some (Value.string D)/\w'.cell? ⟨w.heap.size,4,none⟩=some (Value.bool A)/\w'.cell? ⟨w.heap.size,5,none⟩=some (Value.slice d n r)/\w'.cell? ⟨w.heap.size,6,none⟩=some (Value.slice i t x)/\w'.cell? ⟨w.heap.size,7,none⟩=some (Value.slice l z C)/\w'.cell? ⟨w.heap.size,8,none⟩=some (Value.slice none 0 0)) (with_reducible assumption) (fail)
  go_wp2_with fail;obtain⟨d3,c0⟩:=vF F.o b (Value.bool o) (Value.int .i64 y) (Value.int .i64 E) (Value.string D) (Value.bool A) (Value.slice d n r) (Value.slice i t x) (Value.slice l z C) (Value.slice none 0 0);have c3:Yd (dL nm (((((((((J.setCell ⟨G,b*9,none⟩ (Value.bool o)).setCell ⟨G,b*9+1,none⟩ (Value.int .i64 y)).setCell ⟨G,b*9+2,none⟩ (Value.int .i64 E)).setCell ⟨G,b*9+3,none⟩ (Value.string D)).setCell ⟨G,b*9+4,none⟩ (Value.bool A)).setCell ⟨G,b*9+5,none⟩ (Value.slice d n r)).setCell ⟨G,b*9+6,none⟩ (Value.slice i t x)).setCell ⟨G,b*9+7,none⟩ (Value.slice l z C)).setCell ⟨G,b*9+8,none⟩ (Value.slice none 0 0)).drew B h G c (.slice (some ⟨g,0,none⟩) (m+1) a4) (mZ xs b (Value.bool o) (Value.int .i64 y) (Value.int .i64 E) (Value.string D) (Value.bool A) (Value.slice d n r) (Value.slice i t x) (Value.slice l z C) (Value.slice none 0 0)) (m+1) (ys++[Value.int .i64 (b:Int),(Value.bool S),(Value.int .i64 X),(Value.int .i64 ov),(Value.string os),(Value.bool Z),(Value.slice N Q T),(Value.slice O U V),(Value.slice P Y oq),(Value.slice none 0 0)])/\aD [some 95,some 98,some 130] w (((((((((J.setCell ⟨G,b*9,none⟩ (Value.bool o)).setCell ⟨G,b*9+1,none⟩ (Value.int .i64 y)).setCell ⟨G,b*9+2,none⟩ (Value.int .i64 E)).setCell ⟨G,b*9+3,none⟩ (Value.string D)).setCell ⟨G,b*9+4,none⟩ (Value.bool A)).setCell ⟨G,b*9+5,none⟩ (Value.slice d n r)).setCell ⟨G,b*9+6,none⟩ (Value.slice i t x)).setCell ⟨G,b*9+7,none⟩ (Value.slice l z C)).setCell ⟨G,b*9+8,none⟩ (Value.slice none 0 0)).drew/\Below B w (((((((((J.setCell ⟨G,b*9,none⟩ (Value.bool o)).setCell ⟨G,b*9+1,none⟩ (Value.int .i64 y)).setCell ⟨G,b*9+2,none⟩ (Value.int .i64 E)).setCell ⟨G,b*9+3,none⟩ (Value.string D)).setCell ⟨G,b*9+4,none⟩ (Value.bool A)).setCell ⟨G,b*9+5,none⟩ (Value.slice d n r)).setCell ⟨G,b*9+6,none⟩ (Value.slice i t x)).setCell ⟨G,b*9+7,none⟩ (Value.slice l z C)).setCell ⟨G,b*9+8,none⟩ (Value.slice none 0 0)).drew):=by
   generalize (((((((((J.setCell ⟨G,b*9,none⟩ (Value.bool o)).setCell ⟨G,b*9+1,none⟩ (Value.int .i64 y)).setCell ⟨G,b*9+2,none⟩ (Value.int .i64 E)).setCell ⟨G,b*9+3,none⟩ (Value.string D)).setCell ⟨G,b*9+4,none⟩ (Value.bool A)).setCell ⟨G,b*9+5,none⟩ (Value.slice d n r)).setCell ⟨G,b*9+6,none⟩ (Value.slice i t x)).setCell ⟨G,b*9+7,none⟩ (Value.slice l z C)).setCell ⟨G,b*9+8,none⟩ (Value.slice none 0 0))=W5 at*;have b8:=(aD.refl [some 98] J).grown c0 (fun g hg=>by
    obtain⟨cs,f,hc⟩:=Lib.ownsRow_kind F.o g (by rw[<-hg];rfl);exact⟨cs,_,f,hc,by decide⟩)
   exact⟨dL.drew (.of (a6.o.frT b8 (by decide)) a8.o.le d3 (ay c6.o b8 (by decide))),(b7.o.1.trans (b8.mono (by decide))).drew,(b7.o.2.grown c0 (zC HB.o b7.o.2.size) (fun k hk=>by
    obtain rfl:G=k:=by simpa using hk
    exact (F.o.lt _ rfl).1)).drew⟩
  clear d3 c0;unfold bodyPost;refine⟨rfl,.tuple #[],?_,rfl,⟨_,c3.o.1⟩,c3.o.2⟩;simp[results,Tryz.f113]
inductive kE (nm:Nat) (xs:List Value):Nat->List Value->List Value->Prop
 |other (tk tv:Int) (ts:ByteArray) (tn:Bool) (tA:Option Addr) (ta tc:Nat) (tB:Option Addr) (td te:Nat) (tX:Option Addr) (tl tq:Nat) (h:tk≠1):kE nm xs 0 [(Value.int .i64 tk),(Value.int .i64 tv),(Value.string ts),(Value.bool tn),(Value.slice tA ta tc),(Value.slice tB td te),(Value.slice tX tl tq)] [(Value.int .i64 tk),(Value.int .i64 tv),(Value.string ts),(Value.bool tn),(Value.slice tA ta tc),(Value.slice tB td te),(Value.slice tX tl tq)]
 |free (i:Nat) (tk tv:Int) (ts:ByteArray) (tn:Bool) (tA:Option Addr) (ta tc:Nat) (tB:Option Addr) (td te:Nat) (tX:Option Addr) (tl tq:Nat) (hk:tk=1) (hv:tv=(i:Int)) (hi:i<nm) (hx:xs[i*9]?=some (.bool false)):kE nm xs 0 [(Value.int .i64 tk),(Value.int .i64 tv),(Value.string ts),(Value.bool tn),(Value.slice tA ta tc),(Value.slice tB td te),(Value.slice tX tl tq)] [(Value.int .i64 tk),(Value.int .i64 tv),(Value.string ts),(Value.bool tn),(Value.slice tA ta tc),(Value.slice tB td te),(Value.slice tX tl tq)]
 |step (n i:Nat) (tk tv:Int) (ts:ByteArray) (tn:Bool) (tA:Option Addr) (ta tc:Nat) (tB:Option Addr) (td te:Nat) (tX:Option Addr) (tl tq:Nat) (pk pv:Int) (ps:ByteArray) (pn:Bool) (pA:Option Addr) (pa pc:Nat) (pB:Option Addr) (pd pe:Nat) (pX:Option Addr) (pl pq:Nat) (cs:List Value) (hk:tk=1) (hv:tv=(i:Int)) (hi:i<nm) (hx:xs[i*9]?=some (.bool true))
  (hp:∀ q u,[(Value.int .i64 pk),(Value.int .i64 pv),(Value.string ps),(Value.bool pn),(Value.slice pA pa pc),(Value.slice pB pd pe),(Value.slice pX pl pq)][q]?=some u->xs[i*9+1+q]?=some u) (h:kE nm xs n [(Value.int .i64 pk),(Value.int .i64 pv),(Value.string ps),(Value.bool pn),(Value.slice pA pa pc),(Value.slice pB pd pe),(Value.slice pX pl pq)] cs):kE nm xs (n+1) [(Value.int .i64 tk),(Value.int .i64 tv),(Value.string ts),(Value.bool tn),(Value.slice tA ta tc),(Value.slice tB td te),(Value.slice tX tl tq)] cs
theorem kE.form {nm:Nat} {xs:List Value} {n:Nat} {a b:List Value} (h:kE nm xs n a b):∃ (k p:Int) (rs:ByteArray) (m:Bool) (d:Option Addr) (g rc:Nat) (e:Option Addr) (i j:Nat) (f:Option Addr) (l o:Nat),b=[(Value.int .i64 k),(Value.int .i64 p),(Value.string rs),(Value.bool m),(Value.slice d g rc),(Value.slice e i j),(Value.slice f l o)]:=by
 induction h with
 |other=>exact⟨_,_,_,_,_,_,_,_,_,_,_,_,_,rfl⟩
 |free=>exact⟨_,_,_,_,_,_,_,_,_,_,_,_,_,rfl⟩
 |step _ _ _ _ _ _ _ _ _ _ _ _ _ _ _ _ _ _ _ _ _ _ _ _ _ _ _ _ _ _ _ _ _ _ _ c=>exact c
theorem kE.inv {nm:Nat} {xs:List Value} {g:Nat} (c d:Int) (ps:ByteArray) (G:Bool) (y:Option Addr) (B C:Nat) (z:Option Addr) (D E:Nat) (A:Option Addr) (F I:Nat) {r:List Value} (h:kE nm xs g [(Value.int .i64 c),(Value.int .i64 d),(Value.string ps),(Value.bool G),(Value.slice y B C),(Value.slice z D E),(Value.slice A F I)] r):(g=0/\c≠1/\r=[(Value.int .i64 c),(Value.int .i64 d),(Value.string ps),(Value.bool G),(Value.slice y B C),(Value.slice z D E),(Value.slice A F I)])\/(g=0/\∃ i:Nat,c=1/\d=(i:Int)/\i<nm/\xs[i*9]?=some (.bool false)/\r=[(Value.int .i64 c),(Value.int .i64 d),(Value.string ps),(Value.bool G),(Value.slice y B C),(Value.slice z D E),(Value.slice A F I)])\/
 (∃ (n i:Nat) (o x:Int) (w:ByteArray) (t:Bool) (fA:Option Addr) (j k:Nat) (fB:Option Addr) (l m:Nat) (f:Option Addr) (p v:Nat),g=n+1/\c=1/\d=(i:Int)/\i<nm/\xs[i*9]?=some (.bool true)/\(∀ q u,[(Value.int .i64 o),(Value.int .i64 x),(Value.string w),(Value.bool t),(Value.slice fA j k),(Value.slice fB l m),(Value.slice f p v)][q]?=some u->xs[i*9+1+q]?=some u)/\kE nm xs n [(Value.int .i64 o),(Value.int .i64 x),(Value.string w),(Value.bool t),(Value.slice fA j k),(Value.slice fB l m),(Value.slice f p v)] r):=by
 generalize b:[(Value.int .i64 c),(Value.int .i64 d),(Value.string ps),(Value.bool G),(Value.slice y B C),(Value.slice z D E),(Value.slice A F I)]=a at h;cases h with
 |other _ _ _ _ _ _ _ _ _ _ _ _ _ e=>
  simp only[List.cons.injEq,Value.int.injEq,true_and]at b;exact .inl ⟨rfl,by rw[b.1];exact e,by simp[b]⟩
 |free i _ _ _ _ _ _ _ _ _ _ _ _ _ e L J M=>
  simp only[List.cons.injEq,Value.int.injEq,true_and]at b;exact .inr (.inl ⟨rfl,i,by rw[b.1];exact e,by rw[b.2.1];exact L,J,M,by simp[b]⟩)
 |step n i _ _ _ _ _ _ _ _ _ _ _ _ _ o x w t fA j k fB l m f p v _ e L J M O N=>
  simp only[List.cons.injEq,Value.int.injEq,true_and]at b;exact .inr (.inr ⟨n,i,o,x,w,t,fA,j,k,fB,l,m,f,p,v,rfl,by rw[b.1];exact e,by rw[b.2.1];exact L,J,M,O,N⟩)
theorem jM (nm B h G c m:Nat) (b2:Value) (xs ys:List Value) (a1:Nat) (L P:Int) (ts:ByteArray) (N:Bool) (tA:Option Addr) (E F:Nat) (tB:Option Addr) (I J:Nat) (D:Option Addr) (M O:Nat) (rk rv:Int) (rs:ByteArray) (rn:Bool) (rA:Option Addr) (ra rc:Nat) (rB:Option Addr) (rd re:Nat) (rX:Option Addr) (rl rq:Nat) (w:World) (hD:kE nm xs a1 [(Value.int .i64 L),(Value.int .i64 P),(Value.string ts),(Value.bool N),(Value.slice tA E F),(Value.slice tB I J),(Value.slice D M O)] [(Value.int .i64 rk),(Value.int .i64 rv),(Value.string rs),(Value.bool rn),(Value.slice rA ra rc),(Value.slice rB rd re),(Value.slice rX rl rq)]) (hS:dL nm w B h G c b2 xs m ys):
 Calls prog 59 #[.pointer (some ⟨h,0,none⟩),.agg #[(Value.int .i64 L),(Value.int .i64 P),(Value.string ts),(Value.bool N),(Value.slice tA E F),(Value.slice tB I J),(Value.slice D M O)]] w fun e w'=>e=.returned (.agg #[(Value.int .i64 rk),(Value.int .i64 rv),(Value.string rs),(Value.bool rn),(Value.slice rA ra rc),(Value.slice rB rd re),(Value.slice rX rl rq)])/\zZ w w':=by
 have a7:=zH hS;have a3:=zH hD;have a2:=zH (ah.new w 27 #[(Value.int .i64 L),(Value.int .i64 P),(Value.string ts),(Value.bool N),(Value.slice tA E F),(Value.slice tB I J),(Value.slice D M O)]);have x:=zH (ah.new (w.alloc (.cells #[(Value.int .i64 L),(Value.int .i64 P),(Value.string ts),(Value.bool N),(Value.slice tA E F),(Value.slice tB I J),(Value.slice D M O)] 27)) 27 zt.toArray);rw[show (w.alloc (.cells #[(Value.int .i64 L),(Value.int .i64 P),(Value.string ts),(Value.bool N),(Value.slice tA E F),(Value.slice tB I J),(Value.slice D M O)] 27)).heap.size=w.heap.size+1 by simp]at x;have Q:=zH (ax w (.cells #[(Value.int .i64 L),(Value.int .i64 P),(Value.string ts),(Value.bool N),(Value.slice tA E F),(Value.slice tB I J),(Value.slice D M O)] 27) (.cells zt.toArray 27));have t:=zH (a2.o.alloc (.cells zt.toArray 27));clear hD hS;unfold zt at x Q t;go_enter func59,ntmps59;go_wp2_with fail
 go_loopg [5,6] a1 (fun gk s5 s6 wr=>∃ (pk pv:Int) (ps:ByteArray) (pn:Bool) (pA:Option Addr) (pa pc:Nat) (pB:Option Addr) (pd pe:Nat) (pX:Option Addr) (pl pq:Nat),Yd (kE nm xs gk [(Value.int .i64 pk),(Value.int .i64 pv),(Value.string ps),(Value.bool pn),(Value.slice pA pa pc),(Value.slice pB pd pe),(Value.slice pX pl pq)] [(Value.int .i64 rk),(Value.int .i64 rv),(Value.string rs),(Value.bool rn),(Value.slice rA ra rc),(Value.slice rB rd re),(Value.slice rX rl rq)])/\Yd (ah wr w.heap.size 27 #[(Value.int .i64 pk),(Value.int .i64 pv),(Value.string ps),(Value.bool pn),(Value.slice pA pa pc),(Value.slice pB pd pe),(Value.slice pX pl pq)])/\Yd (ah wr (w.heap.size+1) 27 (zX 0 0 ⟨#[]⟩ false none 0 0 none 0 0 none 0 0).toArray)/\Yd (zZ w wr))
 case atStart=>exact⟨_,_,_,_,_,_,_,_,_,_,_,_,_,a3,t,x,Q⟩
 case round=>
  obtain⟨pk,pv,ps,pn,pA,pa,pc,pB,pd,pe,pX,pl,pq,a4,f,b,S⟩:=hrel;have r:=zH (a7.o.below S.o);have j:=f.o.cell 0;have o:=f.o.cell 1;have C:=r.o.blk0.cell 0;simp only[L3]at j o C;rcases a4.o.inv with ⟨rfl,hk,hr⟩|⟨rfl,i,rfl,rfl,hi,hx,hr⟩|⟨n,i,Z,fv,fs,fn,fA,U,V,fB,X,Y,T,fl,fq,rfl,rfl,rfl,hi,hx,hp,g⟩
  ·have b3:(pk==1)=false:=zL hk;have z:=zH hr;clear hr;have A:Yd (∀ (W:World) (v0 v1 v2 v3 v4 v5 v6:Value),zZ w W->zZ w (((((((W.setCell ⟨w.heap.size+1,0,none⟩ v0).setCell ⟨w.heap.size+1,1,none⟩ v1).setCell ⟨w.heap.size+1,2,none⟩ v2).setCell ⟨w.heap.size+1,3,none⟩ v3).setCell ⟨w.heap.size+1,4,none⟩ v4).setCell ⟨w.heap.size+1,5,none⟩ v5).setCell ⟨w.heap.size+1,6,none⟩ v6)):=fun W v0 v1 v2 v3 v4 v5 v6 hw=>(((((((hw.setCell (Nat.le_succ _) _).setCell (Nat.le_succ _) _).setCell (Nat.le_succ _) _).setCell (Nat.le_succ _) _).setCell (Nat.le_succ _) _).setCell (Nat.le_succ _) _).setCell (Nat.le_succ _) _);clear j o;have j:=f.o.cell 0;have o:=f.o.cell 1;have t2:=f.o.cell 2;have t3:=f.o.cell 3;have t4:=f.o.cell 4;have t5:=f.o.cell 5;have t6:=f.o.cell 6;have r0:=b.o.cell 0;have r1:=b.o.cell 1;have r2:=b.o.cell 2;have r3:=b.o.cell 3;have r4:=b.o.cell 4;have r5:=b.o.cell 5;have r6:=b.o.cell 6;simp only[L3]at j o t2 t3 t4 t5 t6 r0 r1 r2 r3 r4 r5 r6;obtain⟨z0,z1,z2,z3,z4,z5,z6⟩:=b.o.z7;go_wp2_with fail
   go_quiet (fail)
   go_wp2_with fail;refine bodyPost_ret (v:=.agg #[.int .i64 pk,.int .i64 pv,.string ps,.bool pn,.slice pA pa pc,.slice pB pd pe,.slice pX pl pq]) (by rw[aH rfl];go_simp) rfl ?_;refine⟨congrArg (fun l=>Ending.returned (.agg (List.toArray l))) z.o.symm,?_⟩;refine A.o _ _ _ _ _ _ _ _ ?_;exact aN S.o _
  ·rw[iB (by omega)]at C;have g0:=r.o.cell hx;have a9:(0:Int)<=(i:Int):=by omega
   have b1:(i:Int)<(nm:Int):=by omega
   have z:=zH hr;clear hx hr;have A:Yd (∀ (W:World) (v0 v1 v2 v3 v4 v5 v6:Value),zZ w W->zZ w (((((((W.setCell ⟨w.heap.size+1,0,none⟩ v0).setCell ⟨w.heap.size+1,1,none⟩ v1).setCell ⟨w.heap.size+1,2,none⟩ v2).setCell ⟨w.heap.size+1,3,none⟩ v3).setCell ⟨w.heap.size+1,4,none⟩ v4).setCell ⟨w.heap.size+1,5,none⟩ v5).setCell ⟨w.heap.size+1,6,none⟩ v6)):=fun W v0 v1 v2 v3 v4 v5 v6 hw=>(((((((hw.setCell (Nat.le_succ _) _).setCell (Nat.le_succ _) _).setCell (Nat.le_succ _) _).setCell (Nat.le_succ _) _).setCell (Nat.le_succ _) _).setCell (Nat.le_succ _) _).setCell (Nat.le_succ _) _);clear j o;have j:=f.o.cell 0;have o:=f.o.cell 1;have t2:=f.o.cell 2;have t3:=f.o.cell 3;have t4:=f.o.cell 4;have t5:=f.o.cell 5;have t6:=f.o.cell 6;have r0:=b.o.cell 0;have r1:=b.o.cell 1;have r2:=b.o.cell 2;have r3:=b.o.cell 3;have r4:=b.o.cell 4;have r5:=b.o.cell 5;have r6:=b.o.cell 6;simp only[L3]at j o t2 t3 t4 t5 t6 r0 r1 r2 r3 r4 r5 r6;obtain⟨z0,z1,z2,z3,z4,z5,z6⟩:=b.o.z7;go_wp2_with fail
   go_quiet (fail)
   go_wp2_with fail;refine bodyPost_ret (v:=.agg #[.int .i64 1,.int .i64 (i:Int),.string ps,.bool pn,.slice pA pa pc,.slice pB pd pe,.slice pX pl pq]) (by rw[aH rfl];go_simp) rfl ?_;refine⟨congrArg (fun l=>Ending.returned (.agg (List.toArray l))) z.o.symm,?_⟩;refine A.o _ _ _ _ _ _ _ _ ?_;exact aN S.o _
  ·rw[iB (by omega)]at C;have g0:=r.o.cell hx;have a9:(0:Int)<=(i:Int):=by omega
   have b1:(i:Int)<(nm:Int):=by omega
   have y:Yd (∀ q u,[(Value.int .i64 Z),(Value.int .i64 fv),(Value.string fs),(Value.bool fn),(Value.slice fA U V),(Value.slice fB X Y),(Value.slice T fl fq)][q]?=some u->xs[i*9+1+q]?=some u):=hp;have a5:=zH g;clear hx hp g;go_wp2_with fail
   go_quiet (fail)
   go_wp2_with fail;generalize a0:World.drewN wr _=y0;have HY:Yd (zZ wr y0):=by rw[<-a0];exact aN zB _
   have a:=zH (f.o.to HY.o);have a6:=zH (b.o.to HY.o);have a8:=zH (S.o.trans (HY.o.mono S.o.size));have d:=zH (r.o.below HY.o);clear a0 j o C g0;have j:=a.o.cell 0;have o:=a.o.cell 1;have t2:=a.o.cell 2;have t3:=a.o.cell 3;have t4:=a.o.cell 4;have t5:=a.o.cell 5;have t6:=a.o.cell 6;have C:=d.o.blk.cell 0;simp only[L3]at j o t2 t3 t4 t5 t6 C;obtain⟨z0,z1,z2,z3,z4,z5,z6⟩:=a.o.z7;have g1:=d.o.cell (y.o 0 _ rfl);have g2:=d.o.cell (y.o 1 _ rfl);have g3:=d.o.cell (y.o 2 _ rfl);have g4:=d.o.cell (y.o 3 _ rfl);have g5:=d.o.cell (y.o 4 _ rfl);have g6:=d.o.cell (y.o 5 _ rfl);have g7:=d.o.cell (y.o 6 _ rfl);simp only[Nat.add_assoc]at g1 g2 g3 g4 g5 g6 g7
   go_region
   all_goals
    go_wp2_with fail
    go_roundg n
    case measure=>omega
    case rel=>
     have h7:=(((((((a.o.set_ 0 (.int .i64 Z)).set_ 1 (.int .i64 fv)).set_ 2 (.string fs)).set_ 3 (.bool fn)).set_ 4 (.slice fA U V)).set_ 5 (.slice fB X Y)).set_ 6 (.slice T fl fq)).drew;simp only[L1]at h7;have h8:zZ w _:=(((((((a8.o.setCell (p:=⟨w.heap.size,0,none⟩) zA (.int .i64 Z)).setCell (p:=⟨w.heap.size,1,none⟩) zA (.int .i64 fv)).setCell (p:=⟨w.heap.size,2,none⟩) zA (.string fs)).setCell (p:=⟨w.heap.size,3,none⟩) zA (.bool fn)).setCell (p:=⟨w.heap.size,4,none⟩) zA (.slice fA U V)).setCell (p:=⟨w.heap.size,5,none⟩) zA (.slice fB X Y)).setCell (p:=⟨w.heap.size,6,none⟩) zA (.slice T fl fq)).drew;have h9:=((((((((ag.refl (fun k=>k=w.heap.size) y0).trans (ag.setCell _ ⟨w.heap.size,0,none⟩ (.int .i64 Z))).trans (ag.setCell _ ⟨w.heap.size,1,none⟩ (.int .i64 fv))).trans (ag.setCell _ ⟨w.heap.size,2,none⟩ (.string fs))).trans (ag.setCell _ ⟨w.heap.size,3,none⟩ (.bool fn))).trans (ag.setCell _ ⟨w.heap.size,4,none⟩ (.slice fA U V))).trans (ag.setCell _ ⟨w.heap.size,5,none⟩ (.slice fB X Y))).trans (ag.setCell _ ⟨w.heap.size,6,none⟩ (.slice T fl fq))).drew;exact⟨Z,fv,fs,fn,fA,U,V,fB,X,Y,T,fl,fq,a5,h7,h9.blk a6.o (by show ¬_=_;omega),h8⟩
end Go.Proofs.YtlhojoefhannnaaGreat
