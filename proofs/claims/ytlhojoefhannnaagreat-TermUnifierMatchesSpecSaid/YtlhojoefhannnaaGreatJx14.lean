/- The bytes by which the interner tells terms: different nodes have different bytes. And 6 more texts. -/
import Derived.Test.YtlhojoefhannnaaGreatJx13
set_option linter.unusedVariables false
set_option linter.unusedSimpArgs false
set_option maxRecDepth 100000
set_option maxHeartbeats 51200000
namespace Go.Proofs.YtlhojoefhannnaaGreat
open Go.Proofs.Tryz Go.RowKit NumB
def dW (i:Nat):List UInt8:=[UInt8.ofNat i,UInt8.ofNat (i / 256),UInt8.ofNat (i / 65536),UInt8.ofNat (i / 16777216),UInt8.ofNat (i / 4294967296)]
theorem ei (i:Nat):(dW i).length=5:=rfl
theorem eI {a b:Nat} (h:UInt8.ofNat a=UInt8.ofNat b):a % 256=b % 256:=by
 have:=congrArg UInt8.toNat h;simpa[UInt8.toNat_ofNat'] using this
theorem rR {i j:Nat} (f:i<1099511627776) (g:j<1099511627776) (h:dW i=dW j):i=j:=by
 unfold dW at h;simp only[List.cons.injEq,and_true]at h;obtain⟨a,b,c,d,e⟩:=h;have:=eI a;have:=eI b;have:=eI c;have:=eI d;have:=eI e;omega
theorem jt {i j:Nat} {a b:List UInt8} (c:i<1099511627776) (d:j<1099511627776) (h:dW i++a=dW j++b):i=j/\a=b:=by
 have:=List.append_inj h rfl;exact⟨rR c d this.1,this.2⟩
def dg:List Nat->List UInt8
 |[]=>[]
 |x::l=>dW x++dg l
theorem eU (l:List Nat):(dg l).length=5*l.length:=by
 induction l with
 |nil=>rfl
 |cons x l a=>rw[dg,zE,ei,a,zV];omega
theorem ju:∀ {l m:List Nat} {a b:List UInt8},l.length=m.length->(∀ x∈l,x<1099511627776)->(∀ x∈m,x<1099511627776)->dg l++a=dg m++b->l=m/\a=b
 |[],[],a,b,_,_,_,h=>⟨rfl,h⟩
 |[],_::_,_,_,h,_,_,_=>by simp at h
 |_::_,[],_,_,h,_,_,_=>by simp at h
 |x::l,y::m,a,b,hl,h1,h2,h=>by
  rw[dg,dg,zJ,zJ]at h;obtain⟨e1,e2⟩:=jt (h1 x (by simp)) (h2 y (by simp)) h;obtain⟨e3,e4⟩:=ju (by simpa using hl) (fun z hz=>h1 z (by simp[hz])) (fun z hz=>h2 z (by simp[hz])) e2;exact⟨by rw[e1,e3],e4⟩
def jN (k v:Int) (s:ByteArray) (n:LN) (idx:List Nat):List UInt8:=
 UInt8.ofNat k.toNat::(if k=1 then dW v.toNat else if k=2 then (if n.neg=true then [1] else [])++(dW n.num.length++(dg n.num++(dW n.den.length++dg n.den))) else if k=5 then dW idx.length++(dg idx++s.toList) else s.toList)
theorem yR {k v k2 v2:Int} {s s2:ByteArray} {n n2:LN} {c a:List Nat} (p:au k v s n.neg n.num.length n.den.length n.err c.length=0) (b:au k2 v2 s2 n2.neg n2.num.length n2.den.length n2.err a.length=0) (L:n.ok) (y:n2.ok) (U:∀ x∈c,x<1099511627776) (C:∀ x∈a,x<1099511627776)
 (z:n.num.length<1099511627776/\n.den.length<1099511627776/\n2.num.length<1099511627776/\n2.den.length<1099511627776) (h:jN k v s n c=jN k2 v2 s2 n2 a):k=k2/\v=v2/\s=s2/\n=n2/\c=a:=by
 unfold jN at h;rw[List.cons.injEq]at h;have V:k=k2:=by
  have X:=eI h.1;have O:1<=k/\k<=5:=by rcases al p with ⟨rfl,_⟩|⟨_,_,_,_,⟨rfl,_⟩|⟨rfl,_⟩|⟨rfl,_⟩|⟨rfl,_⟩⟩<;>omega
  have P:1<=k2/\k2<=5:=by rcases al b with ⟨rfl,_⟩|⟨_,_,_,_,⟨rfl,_⟩|⟨rfl,_⟩|⟨rfl,_⟩|⟨rfl,_⟩⟩<;>omega
  omega
 subst V;have h:=h.2;by_cases t:k=1
 ·subst t;rw[if_pos rfl,if_pos rfl]at h;have F:=ee p;have G:=ee b;have i:0<=v/\v<=1073741824:=by rcases al p with ⟨q,_⟩|⟨_,_,_,_,⟨_,q,r,_⟩|⟨q,_⟩|⟨q,_⟩|⟨q,_⟩⟩<;>omega
  have j:0<=v2/\v2<=1073741824:=by rcases al b with ⟨q,_⟩|⟨_,_,_,_,⟨_,q,r,_⟩|⟨q,_⟩|⟨q,_⟩|⟨q,_⟩⟩<;>omega
  have:=rR (by omega) (by omega) h;exact⟨rfl,by omega,by rw[F.1,G.1],by rw[F.2.2,G.2.2],by rw[zF F.2.1,zF G.2.1]⟩
 ·rw[if_neg t,if_neg t]at h;have i:=bU p t;have j:=bU b t;by_cases e:k=2
  ·rw[if_pos e,if_pos e]at h;have M:=i.2.1 e;have N:=j.2.1 e;have f:∀ (m:LN),m.ok->(∀ x∈m.num,x<1099511627776)/\∀ x∈m.den,x<1099511627776:=fun m J=>⟨fun x D=>by have:=J.1 x D;unfold ai at this;omega,fun x D=>by have:=J.2 x D;unfold ai at this;omega⟩;have d:n.neg=n2.neg:=by
    have w:=congrArg List.length h;simp only[zE,ei,eU]at w;cases l:n.neg<;>cases g:n2.neg
    ·rfl
    ·rw[l,g]at w;simp at w;omega
    ·rw[l,g]at w;simp at w;omega
    ·rfl
   rw[d]at h;have S:=(List.append_inj h rfl).2;obtain⟨l,T⟩:=jt z.1 z.2.2.1 S;obtain⟨g,o⟩:=ju l (f n L).1 (f n2 y).1 T;obtain⟨Q,A⟩:=jt z.2.1 z.2.2.2 o;have B:dg n.den++[]=dg n2.den++[]:=by rw[A]
   obtain⟨I,_⟩:=ju Q (f n L).2 (f n2 y).2 B;refine⟨rfl,by rw[i.1,j.1],by rw[M.1,N.1],?_,by rw[zF M.2.1,zF N.2.1]⟩;cases n;cases n2;simp only at d g I;rw[d,g,I]
  ·rw[if_neg e,if_neg e]at h;by_cases o:k=5
   ·rw[if_pos o,if_pos o]at h;have O:c.length<=32:=by rcases al p with ⟨q,_⟩|⟨_,_,_,_,⟨q,_⟩|⟨q,_⟩|⟨q,_⟩|⟨_,_,_,_,q⟩⟩<;>omega
    have P:a.length<=32:=by rcases al b with ⟨q,_⟩|⟨_,_,_,_,⟨q,_⟩|⟨q,_⟩|⟨q,_⟩|⟨_,_,_,_,q⟩⟩<;>omega
    obtain⟨l,A⟩:=jt (by omega) (by omega) h;obtain⟨g,B⟩:=ju l U C A;exact⟨rfl,by rw[i.1,j.1],dP B,by rw[i.2.2 e,j.2.2 e],g⟩
   ·rw[if_neg o,if_neg o]at h;have W:c=[]:=by
     refine zF ?_;rcases al p with ⟨q,_⟩|⟨_,_,_,_,⟨q,_⟩|⟨_,_,_,q⟩|⟨_,_,_,q⟩|⟨q,_⟩⟩<;>omega
    have E:a=[]:=by
     refine zF ?_;rcases al b with ⟨q,_⟩|⟨_,_,_,_,⟨q,_⟩|⟨_,_,_,q⟩|⟨_,_,_,q⟩|⟨q,_⟩⟩<;>omega
    exact⟨rfl,by rw[i.1,j.1],dP h,by rw[i.2.2 e,j.2.2 e],by rw[W,E]⟩
def dI (Ts:List Tm) (idx:List Nat) (l:List Tm):Prop:=idx.length=l.length/\∀ j (h:j<l.length) (h':j<idx.length),Ts[idx[j]]?=some l[j]
theorem dI.more {Ts Us:List Tm} {a:List Nat} {l:List Tm} (h:dI Ts a l):dI (Ts++Us) a l:=⟨h.1,fun j c d=>by
 have:=h.2 j c d;have b:a[j]<Ts.length:=(zK this).1;rw[List.getElem?_append_left b];exact this⟩
theorem dI.nil (Ts:List Tm):dI Ts [] []:=⟨rfl,fun j h=>absurd h (by simp)⟩
theorem dI.add {Ts:List Tm} {a:List Nat} {l:List Tm} (h:dI Ts a l) {i:Nat} {t:Tm} (f:Ts[i]?=some t):dI Ts (a++[i]) (l++[t]):=by
 refine⟨by simp[h.1],fun j d g=>?_⟩;rw[zE,List.length_singleton]at d;by_cases e:j=l.length
 ·subst e;rw[List.getElem_append_right zA,List.getElem_append_right (by rw[h.1];exact zN _)];simpa[h.1] using f
 ·have b:j<l.length:=by omega
  have c:j<a.length:=by rw[h.1];exact b
  rw[List.getElem_append_left c,List.getElem_append_left b];exact h.2 j b c
theorem dI.terms {Ts:List Tm} {a:List Nat} {l m:List Tm} (h:dI Ts a l) (c:dI Ts a m):l=m:=by
 refine List.ext_getElem (by rw[<-h.1,c.1]) fun j b e=>?_;have d:j<a.length:=by rw[h.1];exact b
 have:=(h.2 j b d).symm.trans (c.2 j e d);exact zI this
theorem dI.lt {Ts:List Tm} {a:List Nat} {l:List Tm} (h:dI Ts a l):∀ x∈a,x<Ts.length:=fun x c=>by
 obtain⟨j,b,rfl⟩:=List.getElem_of_mem c;exact (zK (h.2 j (by rw[<-h.1];exact b) b)).1
theorem dI.one {Ts:List Tm} (m:Ts.Nodup) {b a:List Nat} {l:List Tm} (h:dI Ts b l) (f:dI Ts a l):b=a:=by
 refine List.ext_getElem (by rw[h.1,f.1]) fun j e k=>?_;have g:j<l.length:=by rw[<-h.1];exact e
 have c:=h.2 j g e;have d:=f.2 j g k;obtain⟨i,o⟩:=zK c;obtain⟨n,p⟩:=zK d;exact (List.getElem?_inj i m).1 (c.trans d.symm)
def dB (Ts:List Tm):Tm->List UInt8->Prop
 |.mk k v s n args,f=>∃ idx,dI Ts idx args/\f=jN k v s n idx
theorem dB.more {Ts Us:List Tm} {t:Tm} {f:List UInt8} (h:dB Ts t f):dB (Ts++Us) t f:=by
 obtain⟨k,v,s,n,b⟩:=t;obtain⟨a,c,d⟩:=h;exact⟨a,c.more,d⟩
theorem dB.one {Ts:List Tm} (i:Ts.Nodup) {t:Tm} {f g:List UInt8} (h:dB Ts t f) (d:dB Ts t g):f=g:=by
 obtain⟨k,v,s,n,a⟩:=t;obtain⟨j,c,rfl⟩:=h;obtain⟨b,e,rfl⟩:=d;rw[c.one i e]
def Tm.few:Tm->Prop
 |.mk _ _ _ n _=>n.num.length<1099511627776/\n.den.length<1099511627776
theorem dB.inj {Ts:List Tm} (z:Ts.length<=1099511627776) {t u:Tm} (e:t.fine) (g:u.fine) (l:t.few) (m:u.few) {f:List UInt8} (h:dB Ts t f) (w:dB Ts u f):t=u:=by
 obtain⟨k,v,s,n,j⟩:=t;obtain⟨k2,C,B,A,b⟩:=u;obtain⟨y,c,q⟩:=h;obtain⟨p,d,r⟩:=w;rw[Tm.fine]at e g;have o:=e.2.1;have a:=g.2.1;rw[<-c.1]at o;rw[<-d.1]at a;obtain⟨rfl,rfl,rfl,rfl,rfl⟩:=yR o a e.1 g.1 (fun x i=>by have:=c.lt x i;omega) (fun x i=>by have:=d.lt x i;omega) ⟨l.1,l.2,m.1,m.2⟩ (q.symm.trans r);rw[c.terms d]
structure sV (Ts:List Tm):Prop where
 nodup:Ts.Nodup
 fine:∀ t∈Ts,t.fine/\t.few/\∃ f,dB Ts t f
theorem sV.nil:sV []:=⟨List.nodup_nil,fun t h=>by cases h⟩
theorem sV.add {Ts:List Tm} (h:sV Ts) {t:Tm} (m:t.fine) (k:t.few) {f:List UInt8} (i:dB Ts t f) (l:t∉Ts):sV (Ts++[t]):=by
 refine⟨List.nodup_append.2 ⟨h.nodup,by simp,fun a j b d=>?_⟩,fun u c=>?_⟩
 ·rw[List.mem_singleton]at d;subst d;intro e;subst e;exact l j
 ·rcases List.mem_append.1 c with c|c
  ·obtain⟨n,o,g,p⟩:=h.fine u c;exact⟨n,o,g,p.more⟩
  ·rw[List.mem_singleton]at c;subst c;exact⟨m,k,f,i.more⟩
theorem BX.kept {p:Nat->Prop} {w w':World} {B b:Nat} {l:List UInt8} (h:BX w B b l) (y:ag p w w') (z:∀ k cs T f,w.heap[k]?=some (.cells cs T f)->¬p k):BX w' B b l:=by
 have d:∀ q,Lib.BuilderAtF 189 5 B b q (Lib.byteCells l) w->Lib.BuilderAtF 189 5 B b q (Lib.byteCells l) w':=by
  rintro q ⟨F,v,n,c,r⟩;have a:∀ k o,w.heap[k]?=some o->k<w.heap.size:=fun k o h=>by
   rcases Nat.lt_or_ge k w.heap.size with j|j
   ·exact j
   ·rw[Array.getElem?_eq_none j]at h;cases h
  refine⟨F,v,(y.block b (a _ _ n) (z _ _ _ _ n)).trans n,?_,r⟩;obtain⟨t,C|⟨g,e,i,A,rfl,D,m,E⟩⟩:=c
  ·exact⟨t,.inl C⟩
  ·exact⟨t,.inr ⟨g,e,i,A,rfl,D,(y.block g (a _ _ m) (z _ _ _ _ m)).trans m,E⟩⟩
 exact h.elim (fun x=>.inl (d _ x)) (fun x=>.inr (d _ x))
theorem BX.below {w w':World} {B b:Nat} {l:List UInt8} (h:BX w B b l) (a:zZ w w'):BX w' B b l:=h.kept (p:=fun _=>False) (ag.of_below a) (fun _ _ _ _ _ h=>h)
theorem BX.drew {w:World} {B b:Nat} {l:List UInt8} (h:BX w B b l):BX w.drew B b l:=h
theorem BX.new (w:World):BX (w.alloc (.cells #[.pointer none,.slice none 0 0] 189)) w.heap.size w.heap.size []:=
 .inl ⟨zN _,.slice none 0 0,ah.new w _ _,World.ownsRowF_of (World.ownsRow_nil _ _ _ _),by simp[Value.ownBlock]⟩
def rf (i j:Nat):List UInt8:=(dW i).take j
theorem wu (i j:Nat) (a:j<5):rf i (j+1)=rf i j++[UInt8.ofNat (i / 256 ^ j)]:=by
 have:j=0\/j=1\/j=2\/j=3\/j=4:=by omega
 rcases this with rfl|rfl|rfl|rfl|rfl<;>simp[rf,dW]
theorem uP (i:Nat):(Value.int .u8 ((i % 256:Nat):Int))=.int .u8 ((UInt8.ofNat i).toNat:Int):=by
 rw[UInt8.toNat_ofNat']
theorem mb (B b:Nat) (l:List UInt8) (i:Nat) (A:i<1099511627776) (w:World) (h:BX w B b l) (F:l.length<=100000000) (x:B<=w.heap.size):
 Calls prog 144 #[.int .i64 (i:Int),.pointer (some ⟨b,0,none⟩)] w fun e w'=>e=.returned (.tuple #[])/\BX w' B b (l++dW i)/\Below B w w'/\Lib.OthersKept 5 (some b) w w':=by
 have v:Yd (BX w B b (l++rf i 0)):=by show BX w B b (l++[]);rw[List.append_nil];exact h
 clear h;go_enter func144,ntmps144;go_wp2_with fail
 go_loopg [0,3] 5 (fun gk D E wr=>∃ (j z:Nat),gk+j=5/\E=.int .i64 (j:Int)/\D=.int .i64 (z:Int)/\Yd (z=i / 256 ^ j)/\z<1099511627776/\Yd (BX wr B b (l++rf i j))/\Yd (Below B w wr)/\Yd (Lib.OthersKept 5 (some b) w wr))
 case atStart=>exact⟨0,i,by omega,rfl,rfl,by show i=i / 1;omega,A,v,Below.refl _ _,Lib.OthersKept.refl _ _ _⟩
 case round=>
  obtain⟨j,z,y,rfl,rfl,o,G,m,f,n⟩:=hrel;by_cases C:j<5
  ·have r:((z:Int) % 256)=((z % 256:Nat):Int):=by omega
   have a:Yd (Calls prog 143 #[zY b,.int .u8 ((z:Int) % 256)] wr fun e w'=>e=.returned .nilIface/\BX w' B b (l++rf i (j+1))/\Below B wr w'/\Lib.OthersKept 5 (some b) wr w'):=by
    rw[r,uP,wu i j C,<-o.o,<-zJ];exact iu B b _ _ wr m.o (by have:(rf i j).length<=5:=(by unfold rf;rw[List.length_take];omega);rw[zE];omega) (by have:=f.o.size;omega)
   clear r;go_wp2_with fail;refine a.o.mono ?_;rintro e I ⟨rfl,q,p,t⟩;have c:=zH q;have g:=zH (f.o.trans p);have d:=zH (n.o.trans t);clear q p t a;go_wp2_with fail
   go_roundg (gk-1)
   case measure=>omega
   case rel=>
    have k:z / 256=i / 256 ^ (j+1):=by rw[o.o,Nat.div_div_eq_div_mul,Nat.pow_succ]
    exact⟨j+1,z / 256,by omega,by go_num,by go_num,k,by omega,c,g,d⟩
  ·obtain rfl:j=5:=by omega
   go_wp2_with fail;unfold bodyPost;refine⟨rfl,.tuple #[],?_,rfl,m.o,f.o,n.o⟩;simp[results,Tryz.f144]
end Go.Proofs.YtlhojoefhannnaaGreat
namespace Go.Proofs.YtlhojoefhannnaaGreat
open Go.Proofs.Tryz Go.RowKit NumB Classical
noncomputable def mK:List MapEntry->Value->Option Value
 |[],_=>none
 |e::es,k=>if e.key=k then some e.val else mK es k
structure jG (kt:TypeId) (KP:Value->Prop) (w:World):Prop where
 check:∀ (e:Bool) a,KP a->(Instr.checkKey e 10000 kt a).run prog w=.ok () w
 equal:∀ a b,KP a->KP b->∃ r:Bool,(Op.equal kt a b).run prog w=.ok r w/\(r=true↔a=b)
 now:∀ d a b r,Instr.sameNow d a b=some r->KP a->KP b->(r=true↔a=b)
 bits:∀ a,KP a->Instr.sameBits 10000 a a=true
 und:∃ d,prog.underlying kt=some d
def AR (es:List MapEntry) (k:Value) (i:Nat) (r:Option (Nat×Value)):Prop:=
 (r=none->mK es k=none)/\∀ j v,r=some (j,v)->i<=j/\mK es k=some v/\(∃ e,es[j-i]?=some e/\e.key=k)/\∀ v' k',mK (es.modify (j-i) fun e=>{ e with key:=k,val:=v' }) k'=if k'=k then some v' else mK es k'
theorem AR.nil (k:Value) (i:Nat):AR [] k i none:=⟨fun _=>rfl,fun j v h=>by cases h⟩
theorem AR.hit {e:MapEntry} {k:Value} (h:e.key=k) (c:List MapEntry) (i:Nat):AR (e::c) k i (some (i,e.val)):=by
 refine⟨fun h=>(by cases h),fun j v b=>?_⟩;simp only[Option.some.injEq,Prod.mk.injEq]at b;obtain⟨rfl,rfl⟩:=b;refine⟨zN _,by rw[mK,if_pos h],⟨e,by simp,h⟩,fun f d=>?_⟩;rw[Nat.sub_self,List.modify_zero_cons,mK,mK,h];by_cases a:d=k
 ·rw[if_pos a.symm,if_pos a]
 ·rw[if_neg (fun q=>a q.symm),if_neg a,if_neg (fun q=>a q.symm)]
theorem AR.miss {e:MapEntry} {k:Value} (h:e.key≠k) {c:List MapEntry} {i:Nat} {r:Option (Nat×Value)} (d:AR c k (i+1) r):AR (e::c) k i r:=by
 refine⟨fun t=>by rw[mK,if_neg h];exact d.1 t,fun j v p=>?_⟩;obtain⟨x,g,⟨o,l,m⟩,n⟩:=d.2 j v p;have b:j-i=(j-(i+1))+1:=by omega
 refine⟨by omega,by rw[mK,if_neg h];exact g,⟨o,by rw[b];simpa using l,m⟩,fun w f=>?_⟩;rw[b,List.modify_succ_cons,mK,mK,n w f];by_cases a:e.key=f
 ·rw[if_pos a,if_pos a,if_neg (fun q=>h (a.trans q))]
 ·rw[if_neg a,if_neg a]
theorem wt {m:TypeId} {c:Value->Prop} {w:World} (K:jG m c w) {d:TypeDesc} {k:Value} (g:c k):∀ (a:List MapEntry),(∀ x∈a,c x.key)->∀ i r,Instr.findNow d k a i=some r->AR a k i r:=by
 intro a
 induction a with
 |nil=>intro _ i r h;simp[Instr.findNow]at h;subst h;exact .nil k i
 |cons e a l=>
  intro b i r h;have f:=b e (by simp);unfold Instr.findNow at h
  split at h
  ·next hs=>
   obtain rfl:=zI h;exact .hit ((K.now _ _ _ _ hs g f).1 rfl).symm a i
  ·next hs=>exact .miss (fun q=>by have:=(K.now _ _ _ _ hs g f).2 q.symm;cases this) (l (fun x j=>b x (by simp[j])) _ _ h)
  ·cases h
theorem pj {j:TypeId} {d:Value->Prop} {w:World} (K:jG j d w) {k:Value} (l:d k):∀ (a:List MapEntry),(∀ x∈a,d x.key)->∀ i,∃ r,(Instr.findAsking j k a i).run prog w=.ok r w/\AR a k i r:=by
 intro a
 induction a with
 |nil=>intro _ i;exact⟨none,by simp[Instr.findAsking,Sem.run_pure],.nil k i⟩
 |cons e a o=>
  intro b i;obtain⟨r,g,c⟩:=K.equal k e.key l (b e (by simp));cases r with
  |true=>exact⟨some (i,e.val),by simp[Instr.findAsking,Sem.run_bind,g,Result.andThen_ok,Sem.run_pure],.hit (c.1 rfl).symm a i⟩
  |false=>
   obtain⟨q,m,f⟩:=o (fun x n=>b x (by simp[n])) (i+1);exact⟨q,by simp[Instr.findAsking,Sem.run_bind,g,Result.andThen_ok,m],.miss (fun h=>by have:=c.2 h.symm;cases this) f⟩
theorem nO {g:TypeId} {c:Value->Prop} {w:World} (K:jG g c w) {k:Value} (f:c k) (a:List MapEntry) (b:∀ x∈a,c x.key):∃ r,(Instr.findKey g k a).run prog w=.ok r w/\AR a k 0 r:=by
 obtain⟨d,e⟩:=K.und;cases hf:Instr.findNow d k a 0 with
 |some r=>exact⟨r,by simp[Instr.findKey,Sem.run_bind,run_underlying e,Result.andThen_ok,hf,Sem.run_pure],wt K f a b 0 r hf⟩
 |none=>
  obtain⟨r,i,h⟩:=pj K f a b 0;exact⟨r,by simp[Instr.findKey,Sem.run_bind,run_underlying e,Result.andThen_ok,hf,i],h⟩
def aE (KP:Value->Prop) (w:World) (b n:Nat) (f:Value->Option Value):Prop:=
 ∃ es clock,w.heap[b]?=some (.map es clock)/\es.size=n/\(∀ x∈es.toList,KP x.key)/\∀ k,mK es.toList k=f k
theorem aE.empty {a:Value->Prop} {w:World} {b c:Nat} (h:w.heap[b]?=some (.map #[] c)):aE a w b 0 (fun _=>none):=
 ⟨#[],c,h,rfl,fun x d=>by simp at d,fun k=>rfl⟩
theorem aE.is {d:Value->Prop} {w:World} {b n:Nat} {f:Value->Option Value} (h:aE d w b n f):∃ a c,w.heap[b]?=some (.map a c)/\a.size=n:=by
 obtain⟨a,c,h,e,_⟩:=h;exact⟨a,c,h,e⟩
theorem aE.same {a KP':Value->Prop} {w w':World} {b n:Nat} {f:Value->Option Value} (h:aE a w b n f) (i:∀ o,w.heap[b]?=some o->w'.heap[b]?=some o) (j:∀ v,a v->KP' v):aE KP' w' b n f:=by
 obtain⟨d,c,h,e,g,r⟩:=h;exact⟨d,c,i _ h,e,fun x k=>j _ (g x k),r⟩
theorem aE.key {a:Value->Prop} {w:World} {b n:Nat} {f:Value->Option Value} (h:aE a w b n f) {k v:Value} (m:f k=some v):a k:=by
 obtain⟨q,c,_,_,j,r⟩:=h;have d:∀ l:List MapEntry,(∀ x∈l,a x.key)->mK l k=some v->a k:=by
  intro l
  induction l with
  |nil=>intro _ h;cases h
  |cons e l p=>
   intro i h;rw[mK]at h;by_cases g:e.key=k
   ·rw[<-g];exact i e (by simp)
   ·rw[if_neg g]at h;exact p (fun x o=>i x (by simp[o])) h
 exact d _ j ((r k).trans m)
theorem bI {o et mt:TypeId} {h:Value->Prop} {w:World} (K:jG o h w) (e:prog.underlying mt=some (.map o et)) {z:Value} (m:(zeroValue et).run prog w=.ok z w) {k:Value} (a:h k) {b n:Nat} {f:Value->Option Value} (t:aE h w b n f):
 (Instr.lookup mt (.map (some b)) k true).run prog w=.ok (.tuple #[(f k).getD z,.bool (f k).isSome]) w/\(Instr.lookup mt (.map (some b)) k false).run prog w=.ok ((f k).getD z) w:=by
 obtain⟨q,i,d,y,l,x⟩:=t;obtain⟨r,g,c⟩:=nO K a q.toList l;rw[<-x k];cases r with
 |none=>
  rw[c.1 rfl];exact⟨by simp[Instr.lookup,Sem.run_bind,run_underlying e,Result.andThen_ok,getObj,Sem.run,d,K.check _ k a,g,m],by simp[Instr.lookup,Sem.run_bind,run_underlying e,Result.andThen_ok,getObj,Sem.run,d,K.check _ k a,g,m]⟩
 |some p=>
  obtain⟨j,v⟩:=p;rw[(c.2 j v rfl).2.1];exact⟨by simp[Instr.lookup,Sem.run_bind,run_underlying e,Result.andThen_ok,getObj,Sem.run,d,K.check _ k a,g],by simp[Instr.lookup,Sem.run_bind,run_underlying e,Result.andThen_ok,getObj,Sem.run,d,K.check _ k a,g]⟩
theorem yj (a:List MapEntry) (x:MapEntry) (k:Value):mK (a++[x]) k=(mK a k).or (if x.key=k then some x.val else none):=by
 induction a with
 |nil=>rw[List.nil_append,mK];rfl
 |cons e a b=>
  rw[List.cons_append,mK,mK,b];by_cases h:e.key=k
  ·rw[if_pos h,if_pos h];rfl
  ·rw[if_neg h,if_neg h]
theorem co {P et mt:TypeId} {A:Value->Prop} {w:World} (K:jG P A w) (M:prog.underlying mt=some (.map P et)) {k:Value} (m:A k) (v:Value) {b n:Nat} {f:Value->Option Value} (T:aE A w b n f):
 ∃ w',(Instr.mapUpdate mt (.map (some b)) k v).run prog w=.ok () w'/\aE A w' b (if (f k).isSome then n else n+1) (fun j=>if j=k then some v else f j)/\ag (fun k=>k=b) w w':=by
 obtain⟨B,a,y,N,l,C⟩:=T;have E:b<w.heap.size:=(Array.getElem?_eq_some_iff.1 y).1;have c:∀ o:Obj,ag (fun i=>i=b) w (aq w b o):=fun o=>
  ⟨rfl,rfl,rfl,by simp[aq],fun i W F=>by
   have F:¬b=i:=fun e=>F e.symm;simp[aq,Array.getElem?_setIfInBounds_ne F]⟩
 have t:∀ o:Obj,(aq w b o).heap[b]?=some o:=fun o=>by simp[aq,E]
 obtain⟨r,O,z⟩:=nO K m B.toList l;cases r with
 |none=>
  have D:=z.1 rfl;rw[C k]at D;refine⟨aq w b (.map (B.push ⟨k,v,a⟩) (a+1)),?_,⟨_,_,t _,by simp[D,N],?_,fun g=>?_⟩,c _⟩
  ·simp[Instr.mapUpdate,run_underlying M,MapKept.run_getObj_map y,K.check false k m,O,MapKept.run_setObj_map _ y,Result.andThen,aq]
  ·intro x d;simp only[Array.toList_push,List.mem_append,List.mem_singleton]at d;rcases d with d|rfl
   ·exact l x d
   ·exact m
  ·rw[Array.toList_push,yj,C g];show (f g).or (if k=g then some v else none)=_;by_cases h:g=k
   ·subst h;simp[D]
   ·have Q:¬k=g:=fun q=>h q.symm;simp[h,Q]
 |some p=>
  obtain⟨j,V⟩:=p;obtain⟨_,I,⟨e,J,S⟩,L⟩:=z.2 j V rfl;rw[Nat.sub_zero]at J L;rw[C k]at I;have U:B[j]?=some e:=by simpa using J
  refine⟨aq w b (.map (B.modify j fun G=>{ G with key:=k,val:=v }) a),?_,⟨_,_,t _,by simp[I,N],?_,fun g=>?_⟩,c _⟩
  ·simp[Instr.mapUpdate,run_underlying M,MapKept.run_getObj_map y,K.check false k m,O,U,Instr.keyThatStays,S,K.bits k m,MapKept.run_setObj_map _ y,Result.andThen,aq]
  ·intro x d;rcases MapFrom.mem_modify d with d|⟨G,_,rfl⟩
   ·exact l x d
   ·exact m
  ·rw[Array.toList_modify,L v g,C g]
theorem eY (s:ByteArray):(s==s)=true:=by
 cases s with
 |mk a=>exact (beq_self_eq_true a:(a==a)=true)
theorem jo (w:World):jG 9 vL w where
 check:=(lM w).check
 equal:=fun a b ⟨s,h⟩ ⟨r,k⟩=>by
  subst h k;refine⟨s==r,?_,fun q=>by rw[jf q],fun q=>?_⟩
  ·have e:prog.underlying 9=some .string:=by kernel_rfl
   have h:∀ d:Nat,(Op.equalIn (d+1) 9 (.string s) (.string r)).run prog w=.ok (s==r) w:=fun d=>by simp[Op.equalIn,run_underlying e]
   exact h 9999
  ·obtain rfl:s=r:=Value.string.inj q;exact eY s
 now:=fun d a b r c ⟨s,h⟩ ⟨u,k⟩=>by
  subst h k;cases d<;>simp[Instr.sameNow]at c;subst c;refine⟨fun q=>by rw[jf q],fun q=>?_⟩;obtain rfl:s=u:=Value.string.inj q;exact eY s
 bits:=fun a ⟨s,h⟩=>by subst h;exact eY s
 und:=⟨.string,by kernel_rfl⟩
theorem bW (w:World):jG 3 bw w where
 check:=(lK w).check
 equal:=fun a b ⟨s,h⟩ ⟨r,k⟩=>by
  subst h k;refine⟨s==r,?_,by simp⟩;have e:prog.underlying 3=some (.int .i64):=by kernel_rfl
  have h:∀ d:Nat,(Op.equalIn (d+1) 3 (.int .i64 s) (.int .i64 r)).run prog w=.ok (s==r) w:=fun d=>by simp[Op.equalIn,run_underlying e]
  exact h 9999
 now:=fun d a b r c ⟨s,h⟩ ⟨u,k⟩=>by
  subst h k;cases d<;>simp[Instr.sameNow]at c;subst c;simp
 bits:=fun a ⟨s,h⟩=>by subst h;simp[Instr.sameBits]
 und:=⟨.int .i64,by kernel_rfl⟩
theorem ie (w:World):jG 109 (kY w) w where
 check:=(lL w).check
 equal:=fun a b f g=>by
  obtain⟨r,c,n⟩:=(lL w).equal a b f g;obtain⟨e,m,v,A,rfl,y⟩:=f;obtain⟨t,z,x,B,rfl,k2⟩:=g;refine⟨r,c,fun q=>?_,fun q=>?_⟩
  ·have:=n q;simp only[Instr.sameBits,beq_iff_eq]at this;rw[this]
  ·rw[<-q]at c;have p:prog.underlying 109=some (.pointer 27):=by kernel_rfl
   have l:(prog.info? 27).map (fun i=>i.size)=some 7:=by kernel_rfl
   rcases hi:prog.info? 27 with _|j
   ·rw[hi]at l;cases l
   ·have h:∀ d:Nat,(Op.equalIn (d+1) 109 (.pointer (some ⟨e,m,none⟩)) (.pointer (some ⟨e,m,none⟩))).run prog w=.ok true w:=fun d=>by
     simp[Op.equalIn,run_underlying p,sizeOf,typeInfo,hi,run_sameAddr_same]
    have:=(h 9999).symm.trans c;simp only[Result.ok.injEq]at this;exact this.1.symm
 now:=fun d a b r o ⟨_,_,_,_,h,_⟩ ⟨_,_,_,_,k,_⟩=>by
  subst h k;cases d<;>simp[Instr.sameNow]at o
 bits:=fun a ⟨_,_,_,_,h,_⟩=>by subst h;simp[Instr.sameBits]
 und:=⟨.pointer 27,by kernel_rfl⟩
theorem jp (w:World):jG 134 iL w where
 check:=(zi w).check
 equal:=fun a b h k=>by
  obtain⟨⟨i,j,l⟩,p,f⟩:=h;obtain⟨_,t,g⟩:=k;obtain⟨r,n,c⟩:=Go.run_equal_deep w (m:=2) (by omega) (k:=134) (by kernel_rfl) (by kernel_rfl) f g;refine⟨r,n,fun q=>?_,fun q=>c.2 ?_⟩
  ·have e:p=t:=c.1 q;exact qb.inj f (e▸g)
  ·subst q;exact zI (f.symm.trans g)
 now:=fun d a b r o h k=>by
  obtain⟨⟨i,j,l⟩,_⟩:=h;subst l;cases d<;>simp[Instr.sameNow]at o
 bits:=fun a h=>by
  obtain⟨⟨i,j,l⟩,_⟩:=h;subst l;simp[Instr.sameBits]
 und:=⟨.array 2 3,by kernel_rfl⟩
end Go.Proofs.YtlhojoefhannnaaGreat
namespace Go.Proofs.YtlhojoefhannnaaGreat
open Go.Proofs.Tryz Go.RowKit NumB
inductive cU (p:Nat->Prop) (f:Nat->Option Tm) (w:World):Tm->List Value->Prop
 |mk (k v:Int) (s:ByteArray) (n:LN) (args:List Tm) (A B:Value) (Ar:Option Addr) (cap:Nat) (cs:Nat->List Value)
  (hk:aG k) (hv:aG v) (hs:s.size<=maxLen) (hA:iK p w A n.num) (hB:iK p w B n.den) (hn:n.ok)
  (hcap:args.length<=cap) (hm:cap<=maxLen)
  (hr:0<args.length->∃ b arr,Ar=some ⟨b,0,none⟩/\p b/\f b=some (.mk k v s n args)/\ah w b 27 arr/\∀ i,i<args.length->∀ j,j<7->arr[i*7+j]?=(cs i)[j]?)
  (ha:∀ i (h:i<args.length),cU p f w args[i] (cs i)):
  cU p f w (.mk k v s n args) [.int .i64 k,.int .i64 v,.string s,.bool n.neg,A,B,.slice Ar args.length cap]
theorem cU.tcp {p:Nat->Prop} {f:Nat->Option Tm} {w:World} {t:Tm} {cs:List Value} (h:cU p f w t cs):bF p w t cs:=by
 induction h with
 |mk k v s n c A C l g cs B J I q r E d D G M L=>
  refine .mk k v s n c A C l g cs B J I q r E d D (fun o=>?_) L;obtain⟨b,m,e,F,N,a,x⟩:=G o;exact⟨b,0,e,F,a.lt,fun i y j z=>by rw[<-x i y j z,a.cell,Nat.zero_add]⟩
theorem cU.tc {p:Nat->Prop} {f:Nat->Option Tm} {w:World} {t:Tm} {cs:List Value} (h:cU p f w t cs):TC w t cs:=h.tcp.tc
theorem cU.to {p:Nat->Prop} {f:Nat->Option Tm} {w w':World} {t:Tm} {cs:List Value} (h:cU p f w t cs) (o:w.heap.size<=w'.heap.size) (j:∀ b,p b->b<w.heap.size->w'.heap[b]?=w.heap[b]?):cU p f w' t cs:=by
 induction h with
 |mk k v s n c A C q i cs D I l x y F d E G L J=>
  refine .mk k v s n c A C q i cs D I l (x.to o j) (y.to o j) F d E (fun r=>?_) J;obtain⟨b,g,e,m,B,a,z⟩:=G r;exact⟨b,g,e,m,B,(j b m a.lt).trans a,z⟩
theorem cU.mono {p q:Nat->Prop} {f g:Nat->Option Tm} {w:World} {t:Tm} {cs:List Value} (h:cU p f w t cs) (c:∀ b,p b->b<w.heap.size->q b) (E:∀ b,p b->b<w.heap.size->g b=f b):cU q g w t cs:=by
 induction h with
 |mk k v s n d A C r l cs F L m y z I i G J N M=>
  refine .mk k v s n d A C r l cs F L m (y.mono c) (z.mono c) I i G (fun x=>?_) M;obtain⟨b,j,e,o,D,a,B⟩:=J x;exact⟨b,j,e,c b o a.lt,(E b o a.lt).trans D,a,B⟩
theorem cU.kept {p q:Nat->Prop} {f:Nat->Option Tm} {w w':World} {t:Tm} {cs:List Value} (h:cU p f w t cs) (c:ag q w w') (e:∀ k,p k->¬q k):cU p f w' t cs:=h.to c.size fun b d a=>c.block b a (e b d)
theorem cU.form {p:Nat->Prop} {f:Nat->Option Tm} {w:World} {t:Tm} {cs:List Value} (h:cU p f w t cs):∃ k v s m b j e c i g d l a,cs=[.int .i64 k,.int .i64 v,.string s,.bool m,.slice b j e,.slice c i g,.slice d l a]:=h.tc.form
theorem cU.var {p:Nat->Prop} {f:Nat->Option Tm} {w:World} {v:Int} (a:aG v):cU p f w (.var v) (vt v):=
 .mk 1 v ⟨#[]⟩ ⟨false,[],[]⟩ [] (.slice none 0 0) (.slice none 0 0) none 0 (fun _=>[]) ⟨by decide,by decide⟩ a (by decide) (.nil_ p w) (.nil_ p w) ⟨Ok.nil,Ok.nil⟩ zA (by decide) (fun h=>absurd h (by simp)) fun i h=>absurd h (by simp)
theorem jG.sub {i:TypeId} {g KP':Value->Prop} {w:World} (K:jG i g w) (h:∀ v,KP' v->g v):jG i KP' w:=
 ⟨fun e a c=>K.check e a (h a c),fun a b c f=>K.equal a b (h a c) (h b f),fun d a b r j c f=>K.now d a b r j (h a c) (h b f),fun a c=>K.bits a (h a c),K.und⟩
theorem nS (w:World):jG 109 (qr w) w:=(ie w).sub fun _ h=>h.ptr
theorem fV {α:Type}:∀ (Ts L:List α),Ts.Nodup->(∀ t∈Ts,t∈L)->Ts.length<=L.length
 |[],_,_,_=>Nat.zero_le _
 |t::Ts,L,h,hs=>by
  obtain⟨A,B,e⟩:=List.append_of_mem (hs t (by simp));subst e;have hn:=List.nodup_cons.1 h;have:=fV Ts (A++B) hn.2 fun u hu=>by
   have h1:=hs u (by simp[hu]);rcases List.mem_append.1 h1 with h1|h1
   ·exact List.mem_append_left _ h1
   ·rcases List.mem_cons.1 h1 with rfl|h1
    ·exact absurd hu hn.1
    ·exact List.mem_append_right _ h1
  simp only[zE,zV]at this ⊢;omega
structure aB (f:Nat->Option Tm) (L:List Tm) (w:World) (p m1 m2:Nat) (Ts:List Tm):Prop where
 ne:m1≠m2
 blk:ah w p 186 #[.map (some m1),.map (some m2)]
 node:∃ n g,aE (qr w) w m1 n g/\∀ b o v,g (.pointer (some ⟨b,o,none⟩))=some v->∃ (i:Nat) (t:Tm),f b=some t/\Ts[i]?=some t/\v=.int .i64 (i:Int)
 form:∃ g,aE vL w m2 Ts.length g/\(∀ s v,g (.string s)=some v->∃ (i:Nat) (t:Tm),Ts[i]?=some t/\dB Ts t s.toList/\v=.int .i64 (i:Int))/\∀ (i:Nat) (t:Tm) (s:ByteArray),Ts[i]?=some t->dB Ts t s.toList->g (.string s)=some (.int .i64 (i:Int))
 namd:sV Ts
 sub:∀ t∈Ts,t∈L
theorem aB.le {f:Nat->Option Tm} {L:List Tm} {w:World} {p a b:Nat} {Ts:List Tm} (h:aB f L w p a b Ts):Ts.length<=L.length:=fV _ _ h.namd.nodup h.sub
theorem aB.cells {f:Nat->Option Tm} {L:List Tm} {w:World} {p b c:Nat} {Ts:List Tm} (h:aB f L w p b c Ts) {k:Nat} {cs:Array Value} {T:TypeId} {z:Nat×Nat} (a:w.heap[k]?=some (Obj.cells cs T z)):¬KN b c k:=by
 obtain⟨_,_,g,_⟩:=h.node;obtain⟨_,i,_⟩:=h.form;obtain⟨_,_,d,_⟩:=g.is;obtain⟨_,_,e,_⟩:=i.is;rintro (rfl|rfl)
 ·rw[d]at a;cases a
 ·rw[e]at a;cases a
theorem aB.same {f:Nat->Option Tm} {L:List Tm} {w w':World} {p j k:Nat} {Ts:List Tm} (h:aB f L w p j k Ts) (c:uK w w'):aB f L w' p j k Ts:=by
 obtain⟨q,r,⟨n,g,d,t⟩,⟨m,i,x⟩,y,z⟩:=h;refine⟨q,c p _ r (sW.of_cells (by decide) (by decide)),⟨n,g,d.same (fun o a=>?_) ?_,t⟩,⟨m,i.same (fun o a=>?_) (fun v h=>h),x⟩,y,z⟩
 ·obtain⟨_,_,e,_⟩:=d.is;rw[e]at a;cases a;exact c _ _ e sW.of_map
 ·rintro v ⟨b,o,l,e,A⟩;exact⟨b,o,l,e,c _ _ A (sW.of_cells (by decide) (by decide))⟩
 ·obtain⟨_,_,e,_⟩:=i.is;rw[e]at a;cases a;exact c _ _ e sW.of_map
theorem BX.is {w:World} {B b:Nat} {l:List UInt8} (h:BX w B b l):∃ c f,w.heap[b]?=some (Obj.cells c 189 f):=by
 rcases h with h|h
 ·obtain⟨_,v,h,_⟩:=h;exact⟨_,_,h⟩
 ·obtain⟨_,v,h,_⟩:=h;exact⟨_,_,h⟩
theorem aB.others {f:Nat->Option Tm} {L:List Tm} {w w':World} {p a c B b:Nat} {Ts:List Tm} {l:List UInt8} (h:aB f L w p a c Ts) (e:Lib.OthersKept 5 (some b) w w') (d:BX w B b l):aB f L w' p a c Ts:=h.same (fh e d.is)
theorem aB.below {f:Nat->Option Tm} {L:List Tm} {w w':World} {p a b:Nat} {Ts:List Tm} (h:aB f L w p a b Ts) (c:zZ w w'):aB f L w' p a b Ts:=h.same (ll c)
theorem aB.drew {f:Nat->Option Tm} {L:List Tm} {w:World} {p a b:Nat} {Ts:List Tm} (h:aB f L w p a b Ts):aB f L w.drew p a b Ts:=h.same fun _ _ h _=>h
theorem ah.othersX {w w':World} {g B b:Nat} {T:TypeId} {cs:Array Value} {l:List UInt8} (h:ah w g T cs) (a:T≠5) (c:T≠189) (e:Lib.OthersKept 5 (some b) w w') (d:BX w B b l):ah w' g T cs:=
 fh e d.is g _ h (sW.of_cells a c)
theorem aB.nsc {f:Nat->Option Tm} {L:List Tm} {w:World} {p a b:Nat} {Ts:List Tm} (h:aB f L w p a b Ts):w.cell? ⟨p,0,none⟩=some (.map (some a))/\w.cell? ⟨p,1,none⟩=some (.map (some b)):=⟨h.blk.cell 0,h.blk.cell 1⟩
theorem aB.lookNode {f:Nat->Option Tm} {L:List Tm} {w:World} {p e x:Nat} {Ts:List Tm} (h:aB f L w p e x Ts) {b o:Nat} {a:Array Value} (q:ah w b 27 a):∃ (i:Nat) (j:Bool),i<=L.length/\(Instr.lookup 108 (.map (some e)) (.pointer (some ⟨b,o,none⟩)) true).run prog w=.ok (.tuple #[.int .i64 (i:Int),.bool j]) w/\(j=true->∃ t,f b=some t/\Ts[i]?=some t):=by
 obtain⟨n,g,m,r⟩:=h.node;have c:=(bI (nS w) (mt:=108) (by kernel_rfl) (z:=.int .i64 0) (zeroValue3 w) (k:=.pointer (some ⟨b,o,none⟩)) ⟨b,o,a,rfl,q⟩ m).1;cases hv:g (.pointer (some ⟨b,o,none⟩)) with
 |none=>rw[hv]at c;exact⟨0,false,Nat.zero_le _,c,fun h=>by cases h⟩
 |some v=>
  obtain⟨i,t,l,d,rfl⟩:=r b o v hv;rw[hv]at c;exact⟨i,true,zC (Nat.le_of_lt (zK d).1) h.le,c,fun _=>⟨t,l,d⟩⟩
theorem aB.lookForm {f:Nat->Option Tm} {L:List Tm} {w:World} {p D q:Nat} {Ts:List Tm} (h:aB f L w p D q Ts) (E:L.length<=1000000) {t:Tm} {s:ByteArray} (n:dB Ts t s.toList) (C:t.fine) (hw:t.few):∃ (i:Nat) (l:Bool),i<=L.length/\(Instr.lookup 114 (.map (some q)) (.string s) true).run prog w=.ok (.tuple #[.int .i64 (i:Int),.bool l]) w/\(l=true->Ts[i]?=some t)/\(l=false->t∉Ts):=by
 obtain⟨g,x,y,b⟩:=h.form;have A:=h.le;have a:=(bI (jo w) (mt:=114) (by kernel_rfl) (z:=.int .i64 0) (zeroValue3 w) (k:=.string s) ⟨s,rfl⟩ x).1;cases hv:g (.string s) with
 |none=>
  rw[hv]at a;refine⟨0,false,Nat.zero_le _,a,fun h=>(by cases h),fun _ B=>?_⟩;obtain⟨i,c,e⟩:=List.getElem_of_mem B;have:=b i t s (by rw[zO c,e]) n;rw[hv]at this;cases this
 |some v=>
  obtain⟨i,u,m,r,rfl⟩:=y s v hv;rw[hv]at a;have c:=(zK m);obtain⟨d,j⟩:=c;have o:=h.namd.fine u (by rw[<-j];exact zQ d);have e:=dB.inj (by omega) o.1 C o.2.1 hw r n;subst e;exact⟨i,true,by omega,a,fun _=>m,fun h=>by cases h⟩
theorem aB.putForm {f:Nat->Option Tm} {L:List Tm} {w:World} {p X B:Nat} {Ts:List Tm} (h:aB f L w p X B Ts) (hL:L.length<=1000000) {t:Tm} {s:ByteArray} (r:dB Ts t s.toList) (M:t.fine) (hw:t.few) (I:t∉Ts) (hm:t∈L):∃ w',(Instr.mapUpdate 114 (.map (some B)) (.string s) (.int .i64 (Ts.length:Int))).run prog w=.ok () w'/\aB f L w' p X B (Ts++[t])/\ag (fun k=>k=B) w w':=by
 have V:=@aB.cells _ _ _ _ _ _ _ h;have a0:=h.le;obtain⟨Q,S,⟨n,g,h2,h3⟩,⟨P,h4,T,h6⟩,E,h8⟩:=h;obtain⟨w',hr,U,F⟩:=co (et:=3) (jo w) (mt:=114) (by kernel_rfl) (k:=.string s) ⟨s,rfl⟩ (.int .i64 (Ts.length:Int)) h4;have W:∀ k o,w.heap[k]?=some o->k≠B->w'.heap[k]?=some o:=fun k o h h'=>(F.block k (an h) h').trans h;have N:P (.string s)=none:=by
  cases N:P (.string s) with
  |none=>rfl
  |some v=>
   obtain⟨i,u,m,q,rfl⟩:=T s v N;obtain⟨z,A⟩:=zK m;have a:=E.fine u (by rw[<-A];exact zQ z);have e:=dB.inj (by omega) a.1 M a.2.1 hw q r;subst e;exact absurd (by rw[<-A];exact zQ z) I
 have j:=E.add M hw r I;rw[N]at U;refine⟨w',hr,⟨Q,F.blk S (fun e=>V S (.inr e)),⟨n,g,h2.same (fun o ho=>W _ _ ho Q) ?_,fun b o v C=>?_⟩,⟨_,by simpa using U,fun l v c=>?_,fun i u l y a=>?_⟩,j,fun u a=>?_⟩,F⟩
 ·rintro v ⟨b,o,Y,e,C⟩;exact⟨b,o,Y,e,W _ _ C (fun e=>V C (.inr e))⟩
 ·obtain⟨i,u,m,q,O⟩:=h3 b o v C;exact⟨i,u,m,by rw[List.getElem?_append_left (zK q).1];exact q,O⟩
 ·by_cases e:(Value.string l)=.string s
  ·rw[if_pos e]at c;obtain rfl:=Value.string.inj e;exact⟨Ts.length,t,by simp,r.more,(zI c).symm⟩
  ·rw[if_neg e]at c;obtain⟨i,u,m,q,O⟩:=T l v c;exact⟨i,u,by rw[List.getElem?_append_left (zK m).1];exact m,q.more,O⟩
 ·by_cases hl:i<Ts.length
  ·rw[List.getElem?_append_left hl]at y;have d:u∈Ts:=by
    obtain⟨_,e⟩:=zK y;rw[<-e];exact zQ _
   obtain⟨Z,f2,fm,x⟩:=E.fine u d;have D:l.toList=fm:=dB.one j.nodup a x.more;have J:¬(Value.string l)=.string s:=fun e=>by
    obtain rfl:=Value.string.inj e;have:=dB.inj (by simp;omega) Z M f2 hw a r.more;subst this;exact I d
   rw[if_neg J];exact h6 i u l y (by rw[D];exact x)
  ·have G:=(zK y).1;rw[zE,List.length_singleton]at G;obtain rfl:i=Ts.length:=by omega
   have e:t=u:=by simpa using y
   subst e;have D:l.toList=s.toList:=dB.one j.nodup a r.more;rw[dP D,if_pos rfl]
 ·rcases List.mem_append.1 a with a|a
  ·exact h8 u a
  ·rw[List.mem_singleton]at a;subst a;exact hm
theorem aB.putNode {f:Nat->Option Tm} {L:List Tm} {w:World} {p d z:Nat} {Ts:List Tm} (h:aB f L w p d z Ts) {b o i:Nat} {c:Array Value} {t:Tm} (j:ah w b 27 c) (O:f b=some t) (P:Ts[i]?=some t):∃ w',(Instr.mapUpdate 108 (.map (some d)) (.pointer (some ⟨b,o,none⟩)) (.int .i64 (i:Int))).run prog w=.ok () w'/\aB f L w' p d z Ts/\ag (fun k=>k=d) w w':=by
 have x:=@aB.cells _ _ _ _ _ _ _ h;obtain⟨q,r,⟨n,g,E,F⟩,⟨C,G,I⟩,J,M⟩:=h;obtain⟨w',S,N,l⟩:=co (et:=3) (nS w) (mt:=108) (by kernel_rfl) (k:=.pointer (some ⟨b,o,none⟩)) ⟨b,o,c,rfl,j⟩ (.int .i64 (i:Int)) E;have y:∀ k o,w.heap[k]?=some o->k≠d->w'.heap[k]?=some o:=fun k o h D=>(l.block k (an h) D).trans h;refine⟨w',S,⟨q,l.blk r (fun e=>x r (.inl e)),⟨_,_,N.same (fun o h=>h) ?_,fun m A v a=>?_⟩,⟨C,G.same (fun o Q=>y _ _ Q (fun e=>q e.symm)) (fun v h=>h),I⟩,J,M⟩,l⟩
 ·rintro v ⟨b,o,B,e,j⟩;exact⟨b,o,B,e,y _ _ j (fun e=>x j (.inl e))⟩
 ·by_cases e:(Value.pointer (some ⟨m,A,none⟩))=.pointer (some ⟨b,o,none⟩)
  ·rw[if_pos e]at a;simp only[Value.pointer.injEq,Option.some.injEq,Addr.mk.injEq]at e;obtain⟨rfl,_,_⟩:=e;exact⟨i,t,O,P,(zI a).symm⟩
  ·rw[if_neg e]at a;exact F m A v a
theorem aB.len {f:Nat->Option Tm} {L:List Tm} {w:World} {p e b:Nat} {Ts:List Tm} (h:aB f L w p e b Ts):∃ a c,w.heap[b]?=some (.map a c)/\a.size=Ts.length:=by
 obtain⟨_,d,_⟩:=h.form;exact d.is
theorem aB.new (f:Nat->Option Tm) (L:List Tm) (w:World):aB f L (((w.alloc (.map #[] 0)).alloc (.map #[] 0)).alloc (.cells #[.map (some w.heap.size),.map (some (w.heap.size+1))] 186)) (w.heap.size+2) w.heap.size (w.heap.size+1) []:=by
 have d:((w.alloc (.map #[] 0)).alloc (.map #[] 0)).heap.size=w.heap.size+2:=by simp
 have a:=ah.new ((w.alloc (.map #[] 0)).alloc (.map #[] 0)) 186 #[.map (some w.heap.size),.map (some (w.heap.size+1))];rw[d]at a;refine⟨by omega,a,⟨0,_,.empty (c:=0) ?_,fun b o v h=>by cases h⟩,⟨_,.empty (c:=0) ?_,fun s v h=>(by cases h),fun i t s h=>(by simp at h)⟩,sV.nil,fun t h=>(by cases h)⟩
 ·rw[Lib.alloc_old _ _ _ (by simp;omega),Lib.alloc_old _ _ _ (by simp)];exact heap_alloc_new w _
 ·rw[Lib.alloc_old _ _ _ (by simp)];have h:=heap_alloc_new (w.alloc (.map #[] 0)) (.map #[] 0)
  rwa [show (w.alloc (.map #[] 0)).heap.size=w.heap.size+1 by simp]at h
theorem fD (k v:Int) (s:ByteArray) (i:Bool) (c:Option Addr) (h f:Nat) (d:Option Addr) (j g:Nat) (a b l m:Nat) (o:0<l) (w:World):
 Calls prog 63 #[.agg #[.int .i64 k,.int .i64 v,.string s,.bool i,.slice c h f,.slice d j g,.slice (some ⟨a,b,none⟩) l m]] w fun e w'=>e=.returned (.pointer (some ⟨a,b,none⟩))/\zZ w w':=by
 have n:(0:Int)<(l:Int):=by omega
 go_enter func63,ntmps63;go_wp2_with fail;go_ret;exact⟨rfl,ae w _⟩
end Go.Proofs.YtlhojoefhannnaaGreat
