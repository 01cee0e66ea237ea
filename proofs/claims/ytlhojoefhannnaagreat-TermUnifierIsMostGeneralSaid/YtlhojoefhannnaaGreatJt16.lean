/- Substitutions, solved forms, and that a solved form tells one substitution. And 2 more texts. -/
import Derived.Test.YtlhojoefhannnaaGreatJt15
set_option linter.unusedVariables false
set_option linter.unusedSimpArgs false
set_option maxRecDepth 100000
set_option maxHeartbeats 51200000
namespace Go.Proofs.YtlhojoefhannnaaGreat
open Go.RowKit NumB
def Tm.sb (f:Int->Tm) (t:Tm):Tm:=t.repl fun v=>some (f v)
def gP (f:Int->Tm) (l:List Tm):List Tm:=bH (fun v=>some (f v)) l
theorem eI (f:Int->Tm) (v:Int) (s:ByteArray) (n:LN) (args:List Tm):(Tm.mk 1 v s n args).sb f=f v:=by rw[Tm.sb,Tm.repl,if_pos rfl]
theorem ch (f:Int->Tm) {k v:Int} {s:ByteArray} {n:LN} {args:List Tm} (h:k≠1):(Tm.mk k v s n args).sb f=.mk k v s n (gP f args):=by rw[Tm.sb,Tm.repl,if_neg h];rfl
theorem bM (f:Int->Tm) (v:Int):(Tm.var v).sb f=f v:=eI f v _ _ _
theorem bL (f:Int->Tm):gP f []=[]:=by rw[gP,bH]
theorem bh (f:Int->Tm) (t:Tm) (l:List Tm):gP f (t::l)=t.sb f::gP f l:=by rw[gP,bH];rfl
theorem jK (f:Int->Tm) (l:List Tm):(gP f l).length=l.length:=iU _ l
mutual
def Tm.cn:Tm->Prop
 |.mk k v s n args=>(k=1->Tm.mk k v s n args=.var v)/\nZ args
def nZ:List Tm->Prop
 |[]=>True
 |t::l=>t.cn/\nZ l
end
mutual
theorem Tm.cn_of:∀ (t:Tm),t.err0=0->t.cn
 |.mk k v s n args,h=>by
  obtain⟨h1,h2⟩:=br h;rw[Tm.cn];refine⟨fun hk=>?_,ve args h2⟩;subst hk;have q:=du h1;rw[q.1,q.2.2,List.eq_nil_of_length_eq_zero q.2.1];rfl
theorem ve:∀ (l:List Tm),bN l=0->nZ l
 |[],_=>by rw[nZ];trivial
 |t::l,h=>by
  rw[bN]at h;by_cases h1:t.err0=0
  ·rw[if_pos h1]at h;rw[nZ];exact⟨t.cn_of h1,ve l h⟩
  ·rw[if_neg h1]at h;exact absurd h h1
end
theorem gV (v:Int):(Tm.var v).cn:=by rw[Tm.var,Tm.cn];exact⟨fun _=>rfl,by rw[nZ];trivial⟩
mutual
theorem Tm.sb_sb (f g:Int->Tm):∀ (t:Tm),(t.sb f).sb g=t.sb fun v=>(f v).sb g
 |.mk k v s n args=>by
  by_cases hk:k=1
  ·subst hk;rw[eI,eI]
  ·rw[ch f hk,ch g hk,ch _ hk,sO f g args]
theorem sO (f g:Int->Tm):∀ (l:List Tm),gP g (gP f l)=gP (fun v=>(f v).sb g) l
 |[]=>by rw[bL,bL,bL]
 |t::l=>by rw[bh,bh,bh,t.sb_sb f g,sO f g l]
end
mutual
theorem Tm.sb_cn (f:Int->Tm) (hf:∀ v,(f v).cn):∀ (t:Tm),(t.sb f).cn
 |.mk k v s n args=>by
  by_cases hk:k=1
  ·subst hk;rw[eI];exact hf v
  ·rw[ch f hk,Tm.cn];exact⟨fun h=>absurd h hk,wg f hf args⟩
theorem wg (f:Int->Tm) (hf:∀ v,(f v).cn):∀ (l:List Tm),nZ (gP f l)
 |[]=>by rw[bL,nZ];trivial
 |t::l=>by rw[bh,nZ];exact⟨t.sb_cn f hf,wg f hf l⟩
end
mutual
def Tm.occ (u:Int):Tm->Prop
 |.mk k v _ _ args=>(k=1/\v=u)\/(k≠1/\dw u args)
def dw (u:Int):List Tm->Prop
 |[]=>False
 |t::l=>t.occ u\/dw u l
end
mutual
theorem Tm.sb_congr {f g:Int->Tm}:∀ (t:Tm),(∀ v,t.occ v->f v=g v)->t.sb f=t.sb g
 |.mk k v s n args,h=>by
  by_cases hk:k=1
  ·subst hk;rw[eI,eI];exact h v (by rw[Tm.occ];exact .inl ⟨rfl,rfl⟩)
  ·rw[ch f hk,ch g hk,mE args fun u hu=>h u (by rw[Tm.occ];exact .inr ⟨hk,hu⟩)]
theorem mE {f g:Int->Tm}:∀ (l:List Tm),(∀ v,dw v l->f v=g v)->gP f l=gP g l
 |[],_=>by rw[bL,bL]
 |t::l,h=>by rw[bh,bh,t.sb_congr fun v hv=>h v (by rw[dw];exact .inl hv),mE l fun v hv=>h v (by rw[dw];exact .inr hv)]
end
def kR (f:Int->Tm) (b:Int->Option Tm):Prop:=∀ v t,b v=some t->f v=t.sb f
def wQ (b:Int->Option Tm) (u v:Int):Prop:=∃ t,b v=some t/\t.occ u/\(b u).isSome=true
def nW (b:Int->Option Tm):Prop:=WellFounded (wQ b)/\∀ v t,b v=some t->t.cn/\∀ u,t=.var u->u<v
def jv (b:Int->Option Tm) (f:Int->Tm):Prop:=(∀ v,b v=none->f v=.var v)/\kR f b/\∀ v,(f v).cn
theorem jv.most {b:Int->Option Tm} {f:Int->Tm} (h:jv b f) (ha:nW b) {g:Int->Tm} (hg:kR g b):∀ v,(f v).sb g=g v:=fun v=>by
 induction v using ha.1.induction with
 |_ v ih=>
  cases hb:b v with
  |none=>rw[h.1 v hb,bM]
  |some t=>
   rw[h.2.1 v t hb,Tm.sb_sb,hg v t hb];refine t.sb_congr fun u hu=>?_;cases hu2:b u with
   |none=>rw[h.1 u hu2,bM]
   |some t'=>exact ih u ⟨t,hb,hu,by rw[hu2];rfl⟩
theorem Tm.sb_is_var {f:Int->Tm} {t:Tm} (hc:t.cn) {u:Int} (h:t.sb f=.var u):∃ w,t=.var w/\f w=.var u:=by
 obtain⟨k,v,s,n,args⟩:=t;rw[Tm.cn]at hc;by_cases hk:k=1
 ·have:=hc.1 hk;subst hk;rw[eI]at h;exact⟨v,this,h⟩
 ·rw[ch f hk,Tm.var]at h;simp only[Tm.mk.injEq]at h;exact absurd h.1 hk
theorem jv.low {b:Int->Option Tm} {f:Int->Tm} (h:jv b f) (ha:nW b):∀ v u,f v=.var u->u<=v:=fun v=>by
 induction v using ha.1.induction with
 |_ v ih=>
  intro u hu;cases hb:b v with
  |none=>
   rw[h.1 v hb]at hu;simp only[Tm.var,Tm.mk.injEq]at hu;omega
  |some t=>
   rw[h.2.1 v t hb]at hu;obtain⟨w,rfl,hw⟩:=Tm.sb_is_var (ha.2 v t hb).1 hu;have h1:=(ha.2 v _ hb).2 w rfl;cases hb2:b w with
   |none=>
    rw[h.1 w hb2]at hw;simp only[Tm.var,Tm.mk.injEq]at hw;omega
   |some t'=>
    have:=ih w ⟨_,hb,by rw[Tm.var,Tm.occ];exact .inl ⟨rfl,rfl⟩,by rw[hb2];rfl⟩ u hw;omega
mutual
theorem Tm.sb_back {f g:Int->Tm} (hg:∀ v,(g v).cn) (hl:∀ v u,f v=.var u->u<=v) (hl2:∀ v u,g v=.var u->u<=v):∀ (t:Tm),t.cn->(t.sb g).sb f=t->t.sb g=t
 |.mk k v s n args,hc,h=>by
  rw[Tm.cn]at hc;by_cases hk:k=1
  ·have e:=hc.1 hk;subst hk;rw[e,bM]at h ⊢;obtain⟨w,hw,hw2⟩:=Tm.sb_is_var (hg v) h;have h1:=hl2 v w hw;have h2:=hl w v hw2;rw[hw,show w=v by omega]
  ·rw[ch g hk,ch f hk]at h;simp only[Tm.mk.injEq,true_and]at h;rw[ch g hk,pV hg hl hl2 args hc.2 h]
theorem pV {f g:Int->Tm} (hg:∀ v,(g v).cn) (hl:∀ v u,f v=.var u->u<=v) (hl2:∀ v u,g v=.var u->u<=v):∀ (l:List Tm),nZ l->gP f (gP g l)=l->gP g l=l
 |[],_,_=>by rw[bL]
 |t::l,hc,h=>by
  rw[nZ]at hc;rw[bh,bh]at h;simp only[List.cons.injEq]at h;rw[bh,t.sb_back hg hl hl2 hc.1 h.1,pV hg hl hl2 l hc.2 h.2]
end
theorem jv.one {b c:Int->Option Tm} {f g:Int->Tm} (hf:jv b f) (hg:jv c g) (ha:nW b) (hc:nW c) (h:∀ s,kR s b↔kR s c):f=g:=by
 funext v
 have h1:=hf.most ha ((h g).2 hg.2.1) v;have h2:=hg.most hc ((h f).1 hf.2.1) v;rw[<-h1]at h2;have:=Tm.sb_back hg.2.2 (hf.low ha) (hg.low hc) (f v) (hf.2.2 v) h2;rw[h1]at this;exact this.symm
/-! aN of a unification. -/
def nY (s:Int->Tm) (S:List (Tm×Tm)):Prop:=∀ p∈S,p.1.sb s=p.2.sb s
theorem nY.nil (s:Int->Tm):nY s []:=fun p h=>by cases h
theorem ec {s:Int->Tm} {p:Tm×Tm} {S:List (Tm×Tm)}:nY s (p::S)↔p.1.sb s=p.2.sb s/\nY s S:=by
 unfold nY;simp
theorem rD {s:Int->Tm} {S T:List (Tm×Tm)}:nY s (S++T)↔nY s S/\nY s T:=by
 unfold nY;simp only[List.mem_append];exact⟨fun h=>⟨fun p hp=>h p (.inl hp),fun p hp=>h p (.inr hp)⟩,fun h p hp=>hp.elim (h.1 p) (h.2 p)⟩
inductive jE (b:Int->Option Tm):Tm->Tm->Prop
 |stop {t:Tm} (h:∀ v,t=.var v->b v=none):jE b t t
 |step {v:Int} {u t:Tm} (h:b v=some u) (hr:jE b u t):jE b (.var v) t
theorem jE.sat {b:Int->Option Tm} {t t':Tm} (h:jE b t t') {s:Int->Tm} (hs:kR s b):t.sb s=t'.sb s:=by
 induction h with
 |stop _=>rfl
 |step h _ ih=>rw[bM,hs _ _ h,ih]
def upd (b:Int->Option Tm) (v:Int) (t:Tm):Int->Option Tm:=fun u=>if u=v then some t else b u
theorem nK {b:Int->Option Tm} {v:Int} (h:b v=none) {t:Tm} {s:Int->Tm}:kR s (upd b v t)↔kR s b/\s v=t.sb s:=by
 unfold kR upd;constructor
 ·intro hs;refine⟨fun u x hu=>hs u x ?_,hs v t (if_pos rfl)⟩;rw[if_neg (fun e=>by subst e;rw[h]at hu;cases hu)];exact hu
 ·rintro⟨h1,h2⟩ u x hu;by_cases e:u=v
  ·subst e;rw[if_pos rfl]at hu;cases hu;exact h2
  ·rw[if_neg e]at hu;exact h1 u x hu
theorem vF {a b:Tm} (ha:a.fine) (hb:b.fine) (hk:∀ v,a≠.var v) (hh:a.hd b=true) (s:Int->Tm):a.sb s=b.sb s↔gP s a.args=gP s b.args:=by
 obtain⟨k,v,st,n,args⟩:=a;obtain⟨k2,v2,st2,n2,args2⟩:=b;rw[Tm.hd,decide_eq_true_eq]at hh;obtain⟨rfl,h1,h2,h3⟩:=hh;rw[Tm.fine]at ha hb;have hk1:k≠1:=fun e=>by
  subst e;have q:=du ha.2.1;refine hk v ?_;rw[q.1,q.2.2,List.eq_nil_of_length_eq_zero q.2.1];rfl
 have r1:=cN ha.2.1 hk1;have r2:=cN hb.2.1 hk1;have en:n=n2:=by
  by_cases h4:k=2
  ·exact (mD _ _).1 (h3 h4)
  ·rw[r1.2.2 h4,r2.2.2 h4]
 rw[ch s hk1,ch s hk1,r1.1,r2.1,cJ h1,en];simp only[Tm.mk.injEq,true_and];exact Iff.rfl
theorem zU {a b:Tm} (ha:a.fine) (hb:b.fine) (hk:∀ v,a≠.var v) (hk2:∀ v,b≠.var v) (hh:a.hd b=false) (s:Int->Tm):a.sb s≠b.sb s:=by
 obtain⟨k,v,st,n,args⟩:=a;obtain⟨k2,v2,st2,n2,args2⟩:=b;rw[Tm.fine]at ha hb;have nv:∀ (k v:Int) (st:ByteArray) (n:LN) (args:List Tm),aJ k v st n.neg n.num.length n.den.length n.err args.length=0->(∀ u,Tm.mk k v st n args≠.var u)->k≠1:=fun k v st n args h hu e=>by
  subst e;have q:=du h;refine hu v ?_;rw[q.1,q.2.2,List.eq_nil_of_length_eq_zero q.2.1];rfl
 have h1:=nv _ _ _ _ _ ha.2.1 hk;have h2:=nv _ _ _ _ _ hb.2.1 hk2;intro e;rw[ch s h1,ch s h2]at e;simp only[Tm.mk.injEq]at e;obtain⟨rfl,_,rfl,rfl,e5⟩:=e;have hl:args.length=args2.length:=by rw[<-jK s args,e5,jK]
 rw[Tm.hd,decide_eq_false_iff_not]at hh;exact hh ⟨rfl,rfl,hl,fun _=>(mD _ _).2 rfl⟩
theorem nV {s:Int->Tm}:∀ {l l2:List Tm},l.length=l2.length->(nY s (l.zip l2)↔gP s l=gP s l2)
 |[],[],_=>by simp[nY,bL]
 |[],_::_,h=>by simp at h
 |_::_,[],h=>by simp at h
 |t::l,t2::l2,h=>by
  rw[List.zip_cons_cons,ec,nV (by simpa using h),bh,bh,List.cons.injEq]
inductive ia (b:Int->Option Tm) (v:Int):Tm->Prop
 |here {t:Tm} (h:t.occ v):ia b v t
 |there {t x:Tm} {u:Int} (h:t.occ u) (hb:b u=some x) (hr:ia b v x):ia b v t
mutual
theorem Tm.occ_count {s:Int->Tm} {v:Int}:∀ (t:Tm),t.occ v->(s v).count<=(t.sb s).count/\((∀ u,t≠.var u)->t.cn->(s v).count<(t.sb s).count)
 |.mk k w st n args,h=>by
  rw[Tm.occ]at h;rcases h with ⟨rfl,rfl⟩|⟨hk,h⟩
  ·rw[eI];refine⟨Nat.le_refl _,fun hu hc=>?_⟩;rw[Tm.cn]at hc;exact absurd (hc.1 rfl) (hu w)
  ·rw[ch s hk,Tm.count];have:=kD (s:=s) args h;exact⟨by omega,fun _ _=>by omega⟩
theorem kD {s:Int->Tm} {v:Int}:∀ (l:List Tm),dw v l->(s v).count<=al (gP s l)
 |[],h=>by rw[dw]at h;exact h.elim
 |t::l,h=>by
  rw[dw]at h;rw[bh,al];rcases h with h|h
  ·have:=(t.occ_count (s:=s) h).1;omega
  ·have:=kD (s:=s) l h;omega
end
theorem ia.le {b:Int->Option Tm} {v:Int} {t:Tm} (h:ia b v t) {s:Int->Tm} (hs:kR s b):(s v).count<=(t.sb s).count:=by
 induction h with
 |here h=>exact (Tm.occ_count _ h).1
 |there h hb _ ih=>exact Nat.le_trans ih (by rw[<-hs _ _ hb];exact (Tm.occ_count _ h).1)
theorem ia.no {b:Int->Option Tm} {v:Int} {t:Tm} (h:ia b v t) (hn:∀ u,t≠.var u) (hc:t.cn) {s:Int->Tm} (hs:kR s b):s v≠t.sb s:=by
 intro e;have e2:(s v).count=(t.sb s).count:=by rw[e]
 cases h with
 |here h=>
  have:=(Tm.occ_count (s:=s) _ h).2 hn hc;omega
 |there h hb hr=>
  have h1:=(Tm.occ_count (s:=s) _ h).2 hn hc;have h2:=hr.le hs;rw[<-hs _ _ hb]at h2;omega
theorem nW.bind {b:Int->Option Tm} (ha:nW b) {v:Int} (hv:b v=none) {t:Tm} (hc:t.cn) (ho:¬ia b v t) (hl:∀ u,t=.var u->u<v):nW (upd b v t):=by
 have hat:∀ u x,upd b v t u=some x->(u=v/\x=t)\/(u≠v/\b u=some x):=fun u x h=>by
  unfold upd at h;by_cases e:u=v
  ·rw[if_pos e]at h;exact .inl ⟨e,(Option.some.inj h).symm⟩
  ·rw[if_neg e]at h;exact .inr ⟨e,h⟩
 have hbs:∀ u,u≠v->(upd b v t u).isSome=true->(b u).isSome=true:=fun u h1 h2=>by
  unfold upd at h2;rw[if_neg h1]at h2;exact h2
 -- what does not lead to v is as it was
 have h1:∀ w x,b w=some x->¬ia b v x->Acc (wQ (upd b v t)) w:=fun w=>by
  induction w using ha.1.induction with
  |_ w ih=>
   intro x hx hno;refine Acc.intro w fun u hu=>?_;obtain⟨y,hy,hyo,hus⟩:=hu;rcases hat w y hy with ⟨rfl,_⟩|⟨_,hy2⟩
   ·rw[hv]at hx;cases hx
   ·rw[hx]at hy2;cases hy2;have hne:u≠v:=fun e=>hno (by subst e;exact .here hyo);have hub:=hbs u hne hus;obtain⟨z,hz⟩:=Option.isSome_iff_exists.1 hub;exact ih u ⟨x,hx,hyo,hub⟩ z hz fun hz2=>hno (.there hyo hz hz2)
 have h2:Acc (wQ (upd b v t)) v:=by
  refine Acc.intro v fun u hu=>?_;obtain⟨y,hy,hyo,hus⟩:=hu;rcases hat v y hy with ⟨_,rfl⟩|⟨h,_⟩
  ·have hne:u≠v:=fun e=>ho (by subst e;exact .here hyo);obtain⟨z,hz⟩:=Option.isSome_iff_exists.1 (hbs u hne hus);exact h1 u z hz fun hz2=>ho (.there hyo hz hz2)
  ·exact absurd rfl h
 refine⟨⟨fun w=>?_⟩,fun u x hx=>?_⟩
 ·induction w using ha.1.induction with
  |_ w ih=>
   refine Acc.intro w fun u hu=>?_;obtain⟨y,hy,hyo,hus⟩:=hu;by_cases e:u=v
   ·subst e;exact h2
   ·rcases hat w y hy with ⟨rfl,rfl⟩|⟨_,hy2⟩
    ·obtain⟨z,hz⟩:=Option.isSome_iff_exists.1 (hbs u e hus);exact h1 u z hz fun hz2=>ho (.there hyo hz hz2)
    ·exact ih u ⟨y,hy2,hyo,hbs u e hus⟩
 ·rcases hat u x hx with ⟨rfl,rfl⟩|⟨_,h⟩
  ·exact⟨hc,hl⟩
  ·exact ha.2 u x h
def yH (b:Int->Option Tm) (M:List (Tm×Tm)) (p:Tm×Tm):Prop:=∀ s:Int->Tm,kR s b->∃ q:Tm×Tm,(q∈M\/q.1=q.2)/\p.1.sb s=q.1.sb s/\p.2.sb s=q.2.sb s
theorem yH.more {b c:Int->Option Tm} {M N:List (Tm×Tm)} {p:Tm×Tm} (h:yH b M p) (hb:∀ s,kR s c->kR s b) (hm:∀ q∈M,q∈N):yH c N p:=fun s hs=>by
 obtain⟨q,h1,h2⟩:=h s (hb s hs);exact⟨q,h1.imp (hm q) id,h2⟩
structure cI (E:Tm×Tm) (b:Int->Option Tm) (S M:List (Tm×Tm)):Prop where
 acy:nW b
 iff:∀ s,(kR s b/\nY s S)↔E.1.sb s=E.2.sb s
 met:∀ p∈M,(∀ v,p.1≠.var v)/\p.1.fine/\p.2.fine/\p.1.hd p.2=true/\∀ q∈p.1.args.zip p.2.args,q∈S\/yH b M q
theorem gU {t:Tm} {x:Tm} (hn:∀ v,t≠.var v) (hc:t.cn) (h:x∈t.args) (s:Int->Tm):(x.sb s).count<(t.sb s).count:=by
 obtain⟨k,v,st,n,args⟩:=t;have hk:k≠1:=fun e=>by
  rw[Tm.cn]at hc;exact hn v (hc.1 e)
 rw[ch s hk,Tm.count];have key:∀ l:List Tm,x∈l->(x.sb s).count<=al (gP s l):=by
  intro l
  induction l with
  |nil=>intro h;cases h
  |cons y r ih=>
   intro h;rw[bh,al];rcases List.mem_cons.1 h with rfl|h
   ·omega
   ·have:=ih h;omega
 have:=key args h;omega
mutual
theorem Tm.cn_fine:∀ (t:Tm),t.fine->t.cn
 |.mk k v s n args,h=>by
  rw[Tm.fine]at h;rw[Tm.cn];refine⟨fun hk=>?_,oL args h.2.2⟩;subst hk;have q:=du h.2.1;rw[q.1,q.2.2,List.eq_nil_of_length_eq_zero q.2.1];rfl
theorem oL:∀ (l:List Tm),dU l->nZ l
 |[],_=>by rw[nZ];trivial
 |t::l,h=>by
  rw[dU]at h;rw[nZ];exact⟨t.cn_fine h.1,oL l h.2⟩
end
theorem cI.sat {E:Tm×Tm} {b:Int->Option Tm} {S M:List (Tm×Tm)} (hM:∀ p∈M,(∀ v,p.1≠.var v)/\p.1.fine/\p.2.fine/\p.1.hd p.2=true/\∀ q∈p.1.args.zip p.2.args,q∈S\/yH b M q) {s:Int->Tm} (hs:kR s b) (hS:nY s S):nY s M:=by
 have key:∀ n (p:Tm×Tm),p∈M->(p.1.sb s).count<n->p.1.sb s=p.2.sb s:=by
  intro n
  induction n with
  |zero=>intro p _ h;omega
  |succ n ih=>
   intro p hp hc;obtain⟨h1,h2,h3,h4,h5⟩:=hM p hp;rw[vF h2 h3 h1 h4];have hl:p.1.args.length=p.2.args.length:=by
    obtain⟨⟨k,v,st,m,args⟩,⟨k2,v2,st2,m2,args2⟩⟩:=p;rw[Tm.hd,decide_eq_true_eq]at h4;exact h4.2.2.1
   rw[<-nV hl];intro q hq;rcases h5 q hq with h|h
   ·exact hS q h
   ·obtain⟨r,hr,e1,e2⟩:=h s hs;rw[e1,e2];rcases hr with hr|hr
    ·refine ih r hr ?_;have:=gU h1 (p.1.cn_fine h2) (List.of_mem_zip hq).1 s;rw[e1]at this;omega
    ·rw[hr]
 exact fun p hp=>key ((p.1.sb s).count+1) p hp (by omega)
theorem cI.drop {E p:Tm×Tm} {b c:Int->Option Tm} {S M:List (Tm×Tm)} (h:cI E b (p::S) M) (hc:nW c) (hb:∀ s,kR s c->kR s b) (hp:yH c M p) (hs:∀ s,kR s b->p.1.sb s=p.2.sb s->kR s c):cI E c S M:=by
 have hmet:∀ q∈M,(∀ v,q.1≠.var v)/\q.1.fine/\q.2.fine/\q.1.hd q.2=true/\∀ r∈q.1.args.zip q.2.args,r∈S\/yH c M r:=fun q hq=>by
  obtain⟨h1,h2,h3,h4,h5⟩:=h.met q hq;refine⟨h1,h2,h3,h4,fun r hr=>?_⟩;rcases h5 r hr with h6|h6
  ·rcases List.mem_cons.1 h6 with rfl|h6
   ·exact .inr hp
   ·exact .inl h6
  ·exact .inr (h6.more hb fun _ h=>h)
 refine⟨hc,fun s=>⟨fun ⟨h1,h2⟩=>?_,fun he=>?_⟩,hmet⟩
 ·refine (h.iff s).1 ⟨hb s h1,ec.2 ⟨?_,h2⟩⟩;obtain⟨q,hq,e1,e2⟩:=hp s h1;rw[e1,e2];rcases hq with hq|hq
  ·exact cI.sat (E:=E) hmet h1 h2 q hq
  ·rw[hq]
 ·obtain⟨h1,h2⟩:=(h.iff s).2 he;rw[ec]at h2;exact⟨hs s h1 h2.1,h2.2⟩
theorem cI.skip {E p:Tm×Tm} {b:Int->Option Tm} {S M:List (Tm×Tm)} (h:cI E b (p::S) M) {x y:Tm} (hx:jE b p.1 x) (hy:jE b p.2 y) (hq:x=y\/(x,y)∈M\/∀ s,x.sb s=y.sb s):cI E b S M:=
 h.drop h.acy (fun _ h=>h) (fun s hs=>by
  rcases hq with e|e|e
  ·exact⟨(x,y),.inr e,hx.sat hs,hy.sat hs⟩
  ·exact⟨(x,y),.inl e,hx.sat hs,hy.sat hs⟩
  ·exact⟨(x,x),.inr rfl,hx.sat hs,by rw[hy.sat hs,e]⟩) fun s hs _=>hs
theorem cI.bind {E p:Tm×Tm} {b:Int->Option Tm} {S M:List (Tm×Tm)} (h:cI E b (p::S) M) {v:Int} {t:Tm} (hv:b v=none) (hd:(jE b p.1 (.var v)/\jE b p.2 t)\/(jE b p.1 t/\jE b p.2 (.var v))) (hc:t.cn) (ho:¬ia b v t) (hl:∀ u,t=.var u->u<v):cI E (upd b v t) S M:=by
 refine h.drop (h.acy.bind hv hc ho hl) (fun s hs=>((nK hv).1 hs).1) (fun s hs=>?_) (fun s hs he=>(nK hv).2 ⟨hs,?_⟩)
 ·obtain⟨h1,h2⟩:=(nK hv).1 hs;rcases hd with ⟨d1,d2⟩|⟨d1,d2⟩
  ·exact⟨(t,t),.inr rfl,by rw[d1.sat h1,bM,h2],d2.sat h1⟩
  ·exact⟨(t,t),.inr rfl,d1.sat h1,by rw[d2.sat h1,bM,h2]⟩
 ·rcases hd with ⟨d1,d2⟩|⟨d1,d2⟩
  ·rw[d1.sat hs,d2.sat hs,bM]at he;exact he
  ·rw[d1.sat hs,d2.sat hs,bM]at he;exact he.symm
theorem cI.push {E p:Tm×Tm} {b:Int->Option Tm} {S M:List (Tm×Tm)} (h:cI E b (p::S) M) {x y:Tm} (hx:jE b p.1 x) (hy:jE b p.2 y) (hn:∀ v,x≠.var v) (fx:x.fine) (fy:y.fine) (hh:x.hd y=true):cI E b (x.args.zip y.args++S) ((x,y)::M):=by
 have hl:x.args.length=y.args.length:=by
  obtain⟨k,v,st,m,args⟩:=x;obtain⟨k2,v2,st2,m2,args2⟩:=y;rw[Tm.hd,decide_eq_true_eq]at hh;exact hh.2.2.1
 have hp:yH b ((x,y)::M) p:=fun s hs=>⟨(x,y),.inl (by simp),hx.sat hs,hy.sat hs⟩;refine⟨h.acy,fun s=>?_,fun q hq=>?_⟩
 ·rw[<-h.iff s,rD,nV hl,ec,<-vF fx fy hn hh s];constructor
  ·rintro⟨h1,h2,h3⟩;exact⟨h1,by rw[hx.sat h1,hy.sat h1,h2],h3⟩
  ·rintro⟨h1,h2,h3⟩;exact⟨h1,by rw[<-hx.sat h1,<-hy.sat h1,h2],h3⟩
 ·rcases List.mem_cons.1 hq with rfl|hq
  ·exact⟨hn,fx,fy,hh,fun r hr=>.inl (List.mem_append_left _ hr)⟩
  ·obtain⟨h1,h2,h3,h4,h5⟩:=h.met q hq;refine⟨h1,h2,h3,h4,fun r hr=>?_⟩;rcases h5 r hr with h6|h6
   ·rcases List.mem_cons.1 h6 with rfl|h6
    ·exact .inr hp
    ·exact .inl (List.mem_append_right _ h6)
   ·exact .inr (h6.more (fun _ h=>h) fun _ h=>List.mem_cons_of_mem _ h)
theorem cI.clash {E p:Tm×Tm} {b:Int->Option Tm} {S M:List (Tm×Tm)} (h:cI E b (p::S) M) {x y:Tm} (hx:jE b p.1 x) (hy:jE b p.2 y) (hn:∀ v,x≠.var v) (hn2:∀ v,y≠.var v) (fx:x.fine) (fy:y.fine) (hh:x.hd y=false) (s:Int->Tm):E.1.sb s≠E.2.sb s:=fun he=>by
 obtain⟨h1,h2⟩:=(h.iff s).2 he;rw[ec]at h2;exact zU fx fy hn hn2 hh s (by rw[<-hx.sat h1,<-hy.sat h1,h2.1])
theorem cI.loop {E p:Tm×Tm} {b:Int->Option Tm} {S M:List (Tm×Tm)} (h:cI E b (p::S) M) {v:Int} {t:Tm} (hd:(jE b p.1 (.var v)/\jE b p.2 t)\/(jE b p.1 t/\jE b p.2 (.var v))) (hn:∀ u,t≠.var u) (hc:t.cn) (ho:ia b v t) (s:Int->Tm):E.1.sb s≠E.2.sb s:=fun he=>by
 obtain⟨h1,h2⟩:=(h.iff s).2 he;rw[ec]at h2;refine ho.no hn hc h1 ?_;rcases hd with ⟨d1,d2⟩|⟨d1,d2⟩
 ·have:=h2.1;rw[d1.sat h1,d2.sat h1,bM]at this;exact this
 ·have:=h2.1;rw[d1.sat h1,d2.sat h1,bM]at this;exact this.symm
theorem cI.start (E:Tm×Tm):cI E (fun _=>none) [E] []:=
 ⟨⟨⟨fun v=>Acc.intro v fun u hu=>by obtain⟨t,h,_⟩:=hu;cases h⟩,fun v t h=>by cases h⟩,fun s=>by rw[ec];exact⟨fun h=>h.2.1,fun h=>⟨fun v t h=>(by cases h),h,nY.nil s⟩⟩,fun p h=>by cases h⟩
theorem cI.one {E:Tm×Tm} {b c:Int->Option Tm} {M N:List (Tm×Tm)} (h:cI E b [] M) (h2:cI E c [] N) {f g:Int->Tm} (hf:jv b f) (hg:jv c g):f=g:=by
 refine hf.one hg h.acy h2.acy fun s=>?_;have e1:=h.iff s;have e2:=h2.iff s;exact⟨fun q=>(e2.2 (e1.1 ⟨q,nY.nil s⟩)).1,fun q=>(e1.2 (e2.1 ⟨q,nY.nil s⟩)).1⟩
noncomputable def jz (b:Int->Option Tm) (v:Int) (rec:∀ u,wQ b u v->Tm):Tm:=
 match b v with
 |none=>.var v
 |some t=>t.sb fun u=>@dite _ (wQ b u v) (Classical.propDecidable _) (fun h=>rec u h) fun _=>.var u
theorem nW.res {b:Int->Option Tm} (h:nW b):∃ f,jv b f:=by
 have he:∀ v,h.1.fix (jz b) v=jz b v (fun u _=>h.1.fix (jz b) u):=fun v=>h.1.fix_eq (jz b) v;have hn:∀ v,b v=none->h.1.fix (jz b) v=.var v:=fun v hv=>by
  rw[he v];unfold jz;rw[hv]
 have hs:∀ v t,b v=some t->h.1.fix (jz b) v=t.sb (h.1.fix (jz b)):=fun v t hv=>by
  rw[he v];unfold jz;simp only[hv];refine t.sb_congr fun u hu=>?_;by_cases hb:(b u).isSome=true
  ·have hu2:wQ b u v:=⟨t,hv,hu,hb⟩;rw[dif_pos hu2]
  ·have hu2:¬wQ b u v:=fun ⟨_,_,_,h3⟩=>hb h3;rw[dif_neg hu2];refine (hn u ?_).symm;cases h3:b u with
   |none=>rfl
   |some _=>rw[h3]at hb;exact absurd rfl hb
 refine⟨h.1.fix (jz b),hn,hs,fun v=>?_⟩
 induction v using h.1.induction with
 |_ v ih=>
  cases hv:b v with
  |none=>rw[hn v hv];exact gV v
  |some t=>
   have e:t.sb (h.1.fix (jz b))=t.sb fun u=>@ite _ (t.occ u) (Classical.propDecidable _) (h.1.fix (jz b) u) (.var u):=t.sb_congr fun u hu=>by rw[if_pos hu]
   rw[hs v t hv,e];refine Tm.sb_cn _ (fun u=>?_) t;by_cases hu:t.occ u
   ·rw[if_pos hu];cases h3:b u with
    |none=>rw[hn u h3];exact gV u
    |some t3=>exact ih u ⟨t,hv,hu,by rw[h3];rfl⟩
   ·rw[if_neg hu];exact gV u
def yI (b:Int->Option Tm) (E:Tm×Tm):Prop:=nW b/\∀ s,kR s b↔E.1.sb s=E.2.sb s
theorem cI.sol {E:Tm×Tm} {b:Int->Option Tm} {M:List (Tm×Tm)} (h:cI E b [] M):yI b E:=⟨h.acy,fun s=>by rw[<-h.iff s];exact⟨fun q=>⟨q,nY.nil s⟩,fun q=>q.1⟩⟩
theorem yI.one {E:Tm×Tm} {b c:Int->Option Tm} (h:yI b E) (k:yI c E) {f g:Int->Tm} (hf:jv b f) (hg:jv c g):f=g:=hf.one hg h.1 k.1 fun s=>by rw[h.2 s,k.2 s]
mutual
theorem Tm.occ_sb {f:Int->Tm} {u:Int}:∀ (t:Tm),(t.sb f).occ u->∃ v,t.occ v/\(f v).occ u
 |.mk k v s n args,h=>by
  by_cases hk:k=1
  ·subst hk;rw[eI]at h;exact⟨v,by rw[Tm.occ];exact .inl ⟨rfl,rfl⟩,h⟩
  ·rw[ch f hk,Tm.occ]at h;rcases h with h|h
   ·exact absurd h.1 hk
   ·obtain⟨w,h1,h2⟩:=sC args h.2;exact⟨w,by rw[Tm.occ];exact .inr ⟨hk,h1⟩,h2⟩
theorem sC {f:Int->Tm} {u:Int}:∀ (l:List Tm),dw u (gP f l)->∃ v,dw v l/\(f v).occ u
 |[],h=>by rw[bL,dw]at h;exact h.elim
 |t::l,h=>by
  rw[bh,dw]at h;rcases h with h|h
  ·obtain⟨w,h1,h2⟩:=t.occ_sb h;exact⟨w,by rw[dw];exact .inl h1,h2⟩
  ·obtain⟨w,h1,h2⟩:=sC l h;exact⟨w,by rw[dw];exact .inr h1,h2⟩
end
theorem fi {u v:Int} (h:(Tm.var v).occ u):u=v:=by
 rw[Tm.var,Tm.occ]at h;rcases h with h|h
 ·exact h.2.symm
 ·exact absurd rfl h.1
structure Ren (V D:Int->Prop) (num vl:Int->Int):Prop where
 fwd:∀ v,V v->D (num v)/\vl (num v)=v
 back:∀ i,D i->V (vl i)/\num (vl i)=i
 mono:∀ i j,D i->D j->i<j->vl i<vl j
noncomputable def kJ (V:Int->Prop) (num vl:Int->Int) (b:Int->Option Tm):Int->Option Tm:=fun v=>@ite _ (V v) (Classical.propDecidable _) ((b (num v)).map fun t=>t.sb fun i=>.var (vl i)) none
theorem eT {V:Int->Prop} {num vl:Int->Int} {b:Int->Option Tm} {v:Int} {t:Tm} (h:kJ V num vl b v=some t):V v/\∃ t',b (num v)=some t'/\t=t'.sb fun i=>.var (vl i):=by
 unfold kJ at h;by_cases hv:V v
 ·rw[if_pos hv]at h;cases hb:b (num v) with
  |none=>rw[hb]at h;cases h
  |some t'=>rw[hb]at h;exact⟨hv,t',rfl,(Option.some.inj h).symm⟩
 ·rw[if_neg hv]at h;cases h
theorem sK {V:Int->Prop} {num vl:Int->Int} {b:Int->Option Tm} {v:Int} {t':Tm} (hv:V v) (h:b (num v)=some t'):kJ V num vl b v=some (t'.sb fun i=>.var (vl i)):=by
 unfold kJ;rw[if_pos hv,h];rfl
theorem xU {V D:Int->Prop} {num vl:Int->Int} (R:Ren V D num vl) {b:Int->Option Tm} (hb:∀ i t,b i=some t->D i/\∀ j,t.occ j->D j) {u v:Int} (h:wQ (kJ V num vl b) u v):wQ b (num u) (num v):=by
 obtain⟨t,h1,h2,h3⟩:=h;obtain⟨hv,t',e1,rfl⟩:=eT h1;obtain⟨x,hx⟩:=Option.isSome_iff_exists.1 h3;obtain⟨hu,t2,e2,_⟩:=eT hx;obtain⟨j,hj,ho⟩:=t'.occ_sb h2;have e3:=fi ho;have hD:=(hb _ _ e1).2 j hj;refine⟨t',e1,?_,by rw[e2];rfl⟩;rw[e3,(R.back j hD).2];exact hj
theorem xQ {V D:Int->Prop} {num vl:Int->Int} (R:Ren V D num vl) {b:Int->Option Tm} (hb:∀ i t,b i=some t->D i/\∀ j,t.occ j->D j) (h:nW b):nW (kJ V num vl b):=by
 refine⟨Subrelation.wf (fun {u v} q=>xU R hb q) (InvImage.wf num h.1),fun v t hv=>?_⟩;obtain⟨h1,t',e1,rfl⟩:=eT hv;refine⟨Tm.sb_cn _ (fun i=>gV _) t',fun u hu=>?_⟩;obtain⟨j,rfl,ej⟩:=Tm.sb_is_var (h.2 _ _ e1).1 hu;have hj:=(h.2 _ _ e1).2 j rfl;have hD:=(hb _ _ e1).2 j (by rw[Tm.var,Tm.occ];exact .inl ⟨rfl,rfl⟩);have hv':=R.fwd v h1;have:=R.mono j (num v) hD hv'.1 hj;rw[hv'.2]at this;have e:vl j=u:=by
  simp only[Tm.var,Tm.mk.injEq,true_and,and_true]at ej;exact ej
 omega
theorem xS {V D:Int->Prop} {num vl:Int->Int} (R:Ren V D num vl) {b:Int->Option Tm} (hb:∀ i t,b i=some t->D i/\∀ j,t.occ j->D j) (s:Int->Tm):kR s (kJ V num vl b)↔kR (fun i=>s (vl i)) b:=by
 have key:∀ t':Tm,(t'.sb fun i=>.var (vl i)).sb s=t'.sb fun i=>s (vl i):=fun t'=>by
  rw[Tm.sb_sb];exact t'.sb_congr fun i _=>bM s (vl i)
 constructor
 ·intro h i t hi;have hD:=(hb i t hi).1;have h2:=R.back i hD;have:=h (vl i) _ (sK h2.1 (by rw[h2.2];exact hi));rw[key]at this;exact this
 ·intro h v t hv;obtain⟨h1,t',e1,rfl⟩:=eT hv;have:=h (num v) t' e1;rw[key];have h2:s (vl (num v))=t'.sb fun i=>s (vl i):=this
  rwa [(R.fwd v h1).2]at h2
theorem nC {V D:Int->Prop} {num vl:Int->Int} (R:Ren V D num vl) {t:Tm} (ht:∀ v,t.occ v->V v) (s:Int->Tm):(t.sb fun v=>.var (num v)).sb (fun i=>s (vl i))=t.sb s:=by
 rw[Tm.sb_sb];refine t.sb_congr fun v hv=>?_;rw[bM,(R.fwd v (ht v hv)).2]
theorem xT {V D:Int->Prop} {num vl:Int->Int} (R:Ren V D num vl) {b:Int->Option Tm} (hb:∀ i t,b i=some t->D i/\∀ j,t.occ j->D j) {E:Tm×Tm} (h1:∀ v,E.1.occ v->V v) (h2:∀ v,E.2.occ v->V v) (h:yI b (E.1.sb fun v=>.var (num v),E.2.sb fun v=>.var (num v))):yI (kJ V num vl b) E:=by
 refine⟨xQ R hb h.1,fun s=>?_⟩;rw[xS R hb s,h.2,nC R h1,nC R h2]
noncomputable def uo (V:Int->Prop) (num vl:Int->Int) (f:Int->Tm) (v:Int):Tm:=@ite _ (V v) (Classical.propDecidable _) ((f (num v)).sb fun i=>.var (vl i)) (.var v)
theorem iy {V:Int->Prop} {num vl:Int->Int} {f:Int->Tm} {v:Int} (h:V v):uo V num vl f v=(f (num v)).sb fun i=>.var (vl i):=by unfold uo;rw[if_pos h]
theorem kK {V:Int->Prop} {num vl:Int->Int} {f:Int->Tm} {v:Int} (h:¬V v):uo V num vl f v=.var v:=by unfold uo;rw[if_neg h]
theorem xR {V D:Int->Prop} {num vl:Int->Int} (R:Ren V D num vl) {b:Int->Option Tm} (hb:∀ i t,b i=some t->D i/\∀ j,t.occ j->D j) {f:Int->Tm} (h:jv b f):jv (kJ V num vl b) (uo V num vl f):=by
 refine⟨fun v hn=>?_,fun v t ht=>?_,fun v=>?_⟩
 ·by_cases h1:V v
  ·have hbn:b (num v)=none:=by
    cases hq:b (num v) with
    |none=>rfl
    |some t'=>rw[sK h1 hq]at hn;cases hn
   rw[iy h1,h.1 _ hbn,bM,(R.fwd v h1).2]
  ·rw[kK h1]
 ·obtain⟨h1,t',e1,rfl⟩:=eT ht;rw[iy h1,h.2.1 _ _ e1,Tm.sb_sb,Tm.sb_sb];refine t'.sb_congr fun j hj=>?_;have hD:=(hb _ _ e1).2 j hj;rw[bM,iy (R.back j hD).1,(R.back j hD).2]
 ·by_cases h1:V v
  ·rw[iy h1];exact Tm.sb_cn _ (fun i=>gV _) _
  ·rw[kK h1];exact gV v
end Go.Proofs.YtlhojoefhannnaaGreat
