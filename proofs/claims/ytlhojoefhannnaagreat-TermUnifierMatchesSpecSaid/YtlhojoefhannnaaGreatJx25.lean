/- The reference's node: the number of a term among the shared nodes. And 2 more texts. -/
import Derived.OwnWalk
import Derived.Test.YtlhojoefhannnaaGreatJx24
set_option linter.unusedVariables false
set_option linter.unusedSimpArgs false
set_option maxRecDepth 100000
set_option maxHeartbeats 51200000
namespace Go.Proofs.YtlhojoefhannnaaGreat
open Go.Proofs.Tryz Go.RowKit NumB
theorem rr {W W':World} {B:Nat} (i:Below B W W') (o:aD [some 5] W W'):ag (fun b=>B<=b/\∃ cs m,W.heap[b]?=some (Obj.cells cs 5 m)) W W':=
 ⟨i.os,i.tape,i.output,i.size,fun b k q=>by
  rcases Nat.lt_or_ge b B with h|h
  ·exact i.block b h
  ·have e:W.heap[b]?=some W.heap[b]:=zP k;rw[e];exact o b _ e ⟨fun cs T f r l=>q ⟨h,cs,f,by rw[e,r];simp at l;rw[l]⟩,fun p=>by simp at p⟩⟩
theorem Nx.mono {r l:Option Nat} {n i:Nat} (h:Nx r l n) (o:i<=n):Nx r l i:=h.imp id fun ⟨k,e,m⟩=>⟨k,e,zC o m⟩
structure NL (w W:World) (Z:Nat->Prop) (B d:Nat) (rb ab:Option Nat) (m1 m2 m3 m4:Nat) (Ts:List Tm) (Is:Nat->List Nat) (args:List Tm) (CT:Array Value) (j c:Nat) (Us:List Tm) (Is':Nat->List Nat) (Z2:Nat->Prop) (rb' ab':Option Nat) (ids:List Nat) (kl:List UInt8) (kv gv:Value) (wr:World):Prop where
 len:ids.length=j
 tell:∀ q (h:q<ids.length) (h':q<args.length),(Ts++Us)[ids[q]]?=some args[q]
 few:Us.length<=c
 old:∀ i,i<Ts.length->Is' i=Is i
 zs:(∀ b,Z b->Z2 b)/\(∀ b,gv.ownBlock=some b->Z2 b)/\∀ b,Z2 b->b<wr.heap.size
 sd:SD w Z2 B d rb' ab' m1 m2 m3 m4 (Ts++Us) Is' wr
 r:Nx rb rb' (W.heap.size+1)
 a:Nx ab ab' (W.heap.size+1)
 k:ag (SQ d rb ab m1) W wr
 key:dM wr W.heap.size kv kl
 row:dw wr W.heap.size gv (fT ids)
 ct:ah wr W.heap.size 27 CT
 q:d<W.heap.size/\m1<W.heap.size/\(∀ r,rb=some r->r<W.heap.size)/\∀ r,ab=some r->r<W.heap.size
section
variable {w W:World} {Z:Nat->Prop} {B d:Nat} {rb ab:Option Nat} {m1 m2 m3 m4:Nat} {Ts:List Tm} {Is:Nat->List Nat} {args:List Tm} {CT:Array Value} {j c:Nat} {Us:List Tm} {Is':Nat->List Nat} {Z2:Nat->Prop} {rb' ab':Option Nat} {ids:List Nat} {kl:List UInt8} {kv gv:Value} {wr y z:World}
theorem NL.below (h:NL w W Z B d rb ab m1 m2 m3 m4 Ts Is args CT j c Us Is' Z2 rb' ab' ids kl kv gv wr) (e:zZ wr y):NL w W Z B d rb ab m1 m2 m3 m4 Ts Is args CT j c Us Is' Z2 rb' ab' ids kl kv gv y:=
 ⟨h.len,h.tell,h.few,h.old,⟨h.zs.1,h.zs.2.1,fun b i=>zD (h.zs.2.2 b i) e.size⟩,h.sd.below e,h.r,h.a,h.k.trans (.of_below e),h.key.below e,h.row.below e,h.ct.to e,h.q⟩
theorem NL.notCT (h:NL w W Z B d rb ab m1 m2 m3 m4 Ts Is args CT j c Us Is' Z2 rb' ab' ids kl kv gv wr):¬SQ d rb' ab' m1 W.heap.size:=fun e=>by
 rcases e with e|e|e|e
 ·have:=h.q.1;omega
 ·rcases h.r with i|⟨k,i,l⟩
  ·have:=h.q.2.2.1 W.heap.size (i▸e.symm);omega
  ·rw[i]at e;cases e;omega
 ·rcases h.a with i|⟨k,i,l⟩
  ·have:=h.q.2.2.2 W.heap.size (i▸e.symm);omega
  ·rw[i]at e;cases e;omega
 ·have:=h.q.2.1;omega
theorem NL.call (h:NL w W Z B d rb ab m1 m2 m3 m4 Ts Is args CT j c Us Is' Z2 rb' ab' ids kl kv gv y) {n:Nat} {v:List Tm} {e:Nat->List Nat} {l k:Option Nat} (D:v.length<=n) (p:∀ i,i<(Ts++Us).length->e i=Is' i) (r:SD w Z2 B d l k m1 m2 m3 m4 ((Ts++Us)++v) e z) (J:Nx rb' l y.heap.size) (A:Nx ab' k y.heap.size) (k2:ag (SQ d rb' ab' m1) y z):
 NL w W Z B d rb ab m1 m2 m3 m4 Ts Is args CT j (c+n) (Us++v) e Z2 l k ids kl kv gv z:=by
 have m:=h.ct.lt;rw[zJ]at r;refine⟨h.len,fun q I x=>?_,by rw[zE];have:=h.few;omega,fun i G=>(p i (by rw[zE];omega)).trans (h.old i G),⟨h.zs.1,h.zs.2.1,fun b E=>zD (h.zs.2.2 b E) k2.size⟩,r,h.r.trans J m,h.a.trans A m,h.k.sq k2 (h.r.mono (by omega)) (h.a.mono (by omega)),?_,?_,?_,h.q⟩
 ·have:=h.tell q I x;rw[<-zJ,List.getElem?_append_left (zK this).1];exact this
 ·exact h.key.keep fun o C L t=>k2.block o (an t) (h.sd.notSQ t (by decide) (by decide) (by decide))
 ·refine k2.row h.row fun o t=>?_;obtain⟨C,f,F⟩:=Lib.ownsRow_kind h.row o t;exact h.sd.notSQ F (by decide) (by decide) (by decide)
 ·exact k2.blk h.ct h.notCT
theorem NL.keyed (h:NL w W Z B d rb ab m1 m2 m3 m4 Ts Is args CT j c Us Is' Z2 rb' ab' ids kl kv gv y) {l:List UInt8} {m:Value} (A:dM z W.heap.size m l) (i:Below W.heap.size y z) (p:aD [some 5] y z):NL w W Z B d rb ab m1 m2 m3 m4 Ts Is args CT j c Us Is' Z2 rb' ab' ids l m gv z:=by
 have q:=rr i p;have x:=(h.k.size);refine⟨h.len,h.tell,h.few,h.old,⟨h.zs.1,h.zs.2.1,fun b o=>zD (h.zs.2.2 b o) i.size⟩,h.sd.keep q fun b ⟨v,r,t,e⟩=>⟨zC (zC h.sd.le.1 (zC h.sd.le.2.1 (Nat.le_of_lt h.q.1))) v,r,_,t,e,by decide,by decide,by decide,fun e=>absurd e (by decide)⟩,h.r,h.a,⟨i.os.trans h.k.os,i.tape.trans h.k.tape,i.output.trans h.k.output,zC x i.size,fun b k C=>(i.block b k).trans (h.k.block b k C)⟩,A,ay h.row p (by decide),h.ct.frT p (by decide),h.q⟩
theorem NL.numbered (h:NL w W Z B d rb ab m1 m2 m3 m4 Ts Is args CT j c Us Is' Z2 rb' ab' ids kl kv gv y) (M:j<=1000000) {i:Nat} (L:∀ S:j<args.length,(Ts++Us)[i]?=some args[j]) (ty:TypeId):
 ∃ o z E,(Builtin.append_ #[54,54] ty #[gv,.slice (some ⟨y.heap.size,0,none⟩) 1 1]).run prog (y.alloc (.cells #[.int .i64 (i:Int)] 3))=.ok o z/\NL w W Z B d rb ab m1 m2 m3 m4 Ts Is args CT (j+1) c Us Is' E rb' ab' (ids++[i]) kl kv o z:=by
 have l:=ae y (.cells #[.int .i64 (i:Int)] 3);have g:=h.below l;have I:W.heap.size<=(y.alloc (.cells #[.int .i64 (i:Int)] 3)).heap.size:=g.k.size;have x:(fT ids).length=j:=by rw[fT,List.length_map,h.len]
 obtain⟨o,z,P,A,p,Q⟩:=lY (ty:=ty) (c:=1) (m:=3) (news:=[.int .i64 (i:Int)]) underlying54 lI rfl (by omega) g.row (ah.new y _ _) rfl (by simp[Value.oneCell']) (by rw[x];exact M) (by omega) I;have C:=pt g.row p;have t:∀ b,gv.ownBlock=some b->W.heap.size<=b:=fun b e=>(g.row.lt b e).1;generalize T:y.alloc _=Y at*;refine⟨o,z,fun b=>Z2 b\/o.ownBlock=some b,P,⟨by rw[zE,h.len];rfl,fun q D v=>?_,h.few,h.old,⟨fun b l=>.inl (h.zs.1 b l),fun b l=>.inr l,fun b l=>?_⟩,?_,h.r,h.a,⟨(ag.grown p).os.trans g.k.os,(ag.grown p).tape.trans g.k.tape,(ag.grown p).output.trans g.k.output,zC g.k.size (ag.grown p).size,fun b l O=>((ag.grown p).block b (zD l g.k.size) fun e=>by have:=t b e.symm;omega).trans (g.k.block b l O)⟩,?_,?_,?_,h.q⟩⟩
 ·by_cases e:q<ids.length
  ·rw[List.getElem_append_left e];exact h.tell q e v
  ·have G:q=j:=by rw[zE,h.len]at D;rw[h.len]at e;simp at D;omega
   subst G;rw[List.getElem_append_right (by omega)];simpa using L v
 ·rcases l with l|l
  ·exact zD (g.zs.2.2 b l) (ag.grown p).size
  ·exact (A.lt b l).2
 ·refine (g.sd.zw fun b l r=>?_).keep (ag.grown p) fun b e=>?_
  ·rcases r with r|r
   ·exact r
   ·rcases Q with e|⟨k,e,U⟩
    ·exact h.zs.2.1 b (e▸r)
    ·rw[e]at r;cases r;omega
  ·obtain⟨F,f,J⟩:=Lib.ownsRow_kind g.row b e.symm;exact⟨zC (zC h.sd.le.1 (zC h.sd.le.2.1 (Nat.le_of_lt h.q.1))) (t b e.symm),F,_,f,J,by decide,by decide,by decide,fun _=>.inl (h.zs.2.1 b e.symm)⟩
 ·exact g.key.frT C (by decide)
 ·unfold dw;rw[fT,List.map_append,zE,List.map_append];rw[x]at A;show z.ownsRow _ _ _ _ ((fT ids).length+1) ((fT ids).map _++_);rw[x];exact A
 ·exact g.ct.frT C (by decide)
end
theorem ek {W:World} {B n size:Nat} {e:TypeId} {v:Value} {xs:List Value} (h:W.ownsRow B e size v n xs):∃ A c,v=.slice A n c:=by
 rcases h.2 with ⟨rfl,l⟩|⟨g,i,k,rfl,_⟩
 ·exact⟨none,0,by rw[l]⟩
 ·exact⟨_,_,rfl⟩
theorem og {w:World} {t:Tm} {cs:List Value} (h:TC w t cs):t.err0=0->t.fine->∀ (Z:Nat->Prop) (B d m1 m2 m3 m4:Nat) (rb ab:Option Nat) (Ts:List Tm) (Is:Nat->List Nat) (W:World),SD w Z B d rb ab m1 m2 m3 m4 Ts Is W->(∀ b,Z b->b<W.heap.size)->Ts.length+t.count<=1000000->
 Calls prog 68 #[.pointer (some ⟨d,0,none⟩),.agg cs.toArray] W fun e W'=>∃ (i:Nat) (Us:List Tm) (Is':Nat->List Nat) (rb' ab':Option Nat),e=.returned (.int .i64 (i:Int))/\(Ts++Us)[i]?=some t/\Us.length<=t.count/\(∀ j,j<Ts.length->Is' j=Is j)/\SD w Z B d rb' ab' m1 m2 m3 m4 (Ts++Us) Is' W'/\Nx rb rb' W.heap.size/\Nx ab ab' W.heap.size/\ag (SQ d rb ab m1) W W':=by
 induction h with
 |mk k v s n args A C Ar a6 cs hk hv hs hA hC hn r8 hm hr ha ih=>
  intro he hf Z B d m1 m2 m3 m4 rb ab Ts Is W hS hZ hN;have e7:=(bB he).1;have o5:=fun W' r7=>jQ (TC.mk k v s n args A C Ar a6 cs hk hv hs hA hC hn r8 hm hr ha) e7 W' r7;have IH:Yd (∀ i (h:i<args.length) (Z:Nat->Prop) (rb ab:Option Nat) (Ts:List Tm) (Is:Nat->List Nat) (W:World),SD w Z B d rb ab m1 m2 m3 m4 Ts Is W->(∀ b,Z b->b<W.heap.size)->Ts.length+(args[i]).count<=1000000->Calls prog 68 #[zY d,.agg (cs i).toArray] W fun e W'=>∃ (j:Nat) (Us:List Tm) (Is':Nat->List Nat) (rb' ab':Option Nat),e=.returned (.int .i64 (j:Int))/\(Ts++Us)[j]?=some args[i]/\Us.length<=(args[i]).count/\(∀ j,j<Ts.length->Is' j=Is j)/\SD w Z B d rb' ab' m1 m2 m3 m4 (Ts++Us) Is' W'/\Nx rb rb' W.heap.size/\Nx ab ab' W.heap.size/\ag (SQ d rb ab m1) W W'):=fun i h Z rb ab Ts Is W g hz hc=>by
   have n0:=hf;rw[Tm.fine]at n0;exact ih i h (dE (bB he).2 h) (nP n0.2.2 h) Z B d m1 m2 m3 m4 rb ab Ts Is W g hz hc
  have q9:Yd (TC w (.mk k v s n []) [.int .i64 k,.int .i64 v,.string s,.bool n.neg,A,C,.slice none 0 0]):=.mk k v s n [] A C none 0 (fun _=>[]) hk hv hs hA hC hn zA (by unfold maxLen;omega) (fun h=>absurd h (by simp)) (fun i h=>absurd h (by simp));obtain⟨A1,c1,rfl,_⟩:=hA;obtain⟨B1,d1,rfl,_⟩:=hC;have c5:Yd (∀ W',zZ w W'->Calls prog 75 #[.agg (zX k v s n.neg A1 n.num.length c1 B1 n.den.length d1 Ar args.length a6).toArray] W' fun e w'=>e=.returned (.string (cE (.mk k v s n args)))/\zZ W' w'):=o5;have HS:=zH hS;have b3:=hS;have HE:=zH he;have HF:=zH hf;have m8:=hf;have HR:=zH hr;have HA:=zH ha;have f7:=zH (ah.new W 27 #[.int .i64 k,.int .i64 v,.string s,.bool n.neg,.slice A1 n.num.length c1,.slice B1 n.den.length d1,.slice Ar args.length a6]);have b1:Yd (zZ W (W.alloc (.cells #[.int .i64 k,.int .i64 v,.string s,.bool n.neg,.slice A1 n.num.length c1,.slice B1 n.den.length d1,.slice Ar args.length a6] 27))):=ae W _;have d4:(Tm.mk k v s n args).count=1+am args:=by rw[Tm.count]
  have HC:=zH d4;clear ih o5 hS he hf hr ha d4;obtain⟨a1,d6⟩:∃ a1,cE (.mk k v s n args)=a1:=⟨_,rfl⟩;rw[d6]at c5;have o4:=d6;have p8:=zH d6;clear d6;obtain⟨l,hl⟩:∃ l,args.length=l:=⟨_,rfl⟩;have HL:Yd (args.length=l):=hl;rw[hl]at c5 f7 b1 ⊢;have HQ:=zH (show d<W.heap.size/\m1<W.heap.size/\(∀ r,rb=some r->r<W.heap.size)/\∀ r,ab=some r->r<W.heap.size from ⟨b3.cells.1,b3.cells.2.1,fun r h=>(b3.cells.2.2.1 r h).2,fun r h=>(b3.cells.2.2.2 r h).2⟩);have HZ:=zH hZ;have HN:=zH hN;have g5:l<=32:=by
   have f:=m8;rw[Tm.fine]at f;rw[<-hl];rcases al f.2.1 with ⟨_,_,_,_,h⟩|⟨_,_,_,_,h|h|h|h⟩<;>omega
  have e8:=zH g5;have i1:=iC hn e7;rw[o4]at i1;have p9:=zH i1;clear hl b3 hZ hN m8 g5 i1;go_enter func68,ntmps68;go_wp2_with fail;refine (c5.o _ (HS.o.be.trans (b1.o.mono HS.o.be.size))).mono ?_;rintro e w1 ⟨rfl,h4⟩;have b2:=zH (b1.o.trans (h4.mono b1.o.size));have j6:=zH (f7.o.to h4);clear h4 c5 b1 f7;have o6:=iC hn e7;rw[o4]at o6;obtain⟨kv,w2,b4,n7,a8⟩:=dM.made a1 (by omega) w1;have e9:Yd (zZ W w2):=b2.o.trans (a8.mono b2.o.size);obtain⟨v6,w3,k9,n8,h6,h8⟩:=(n7.mono b2.o.size).put1 e9.o.size (by simp;omega) 0 (z:=0) rfl 83;have f0:Yd (zZ W w3):=e9.o.trans h6;have f5:=zH (((j6.o.to a8).frT h8 (by decide)));have t6:=f5.o.cell 6;simp only[L3]at t6;have j7:=zH n8;have k3:Yd (SD w Z B d rb ab m1 m2 m3 m4 Ts Is w3):=by
   refine ((HS.o.below b2.o).below a8).keep (rr h6 h8) fun b ⟨h,cs,fz,e⟩=>⟨zC HS.o.be.size h,cs,_,fz,e,by decide,by decide,by decide,fun e=>absurd e (by decide)⟩
  have j0:=zH k9;clear n7 a8 n8 h6 h8 o6 e7 hn b2 j6 k9
  go_wp2_with (at_builtin;go_must (refine cK rfl _ _ _ _ rfl rfl rfl j0.o ?_))
  clear j0 b4 t6;obtain⟨CT,g6⟩:∃ CT,(#[.int .i64 k,.int .i64 v,.string s,.bool n.neg,.slice A1 n.num.length c1,.slice B1 n.den.length d1,.slice Ar l a6]:Array Value)=CT:=⟨_,rfl⟩;have j5:Yd (∃ c Us Is' Z2 rb' ab' ids,c<=am (args.take 0)/\NL w W Z B d rb ab m1 m2 m3 m4 Ts Is args CT 0 c Us Is' Z2 rb' ab' ids (a1.data.toList++0::dF ids) v6 (.slice none 0 0) w3):=by
   refine⟨0,[],Is,Z,rb,ab,[],by simp[am],⟨rfl,fun q h=>absurd h (by simp),by simp,fun _ _=>rfl,⟨fun _ h=>h,fun b h=>(by cases h),fun b h=>zD (HZ.o b h) f0.o.size⟩,by rw[List.append_nil];exact k3.o,.refl _ _,.refl _ _,.of_below f0.o,j7.o,?_,(by rw[<-g6];exact f5.o),HQ.o⟩⟩;exact World.ownsRow_nil _ _ _ _
  have p4:=zH g6;clear j7 k3 f5 e9 f0 HS g6
  go_loopg [5,6,22] l (fun gk s5 s6 w9 wr=>∃ (j:Nat) (b0 c7:Value),gk+j=l/\w9=.int .i64 (j:Int)/\b0=s5/\c7=s6/\Yd (∃ c Us Is' Z2 rb' ab' ids,c<=am (args.take j)/\NL w W Z B d rb ab m1 m2 m3 m4 Ts Is args CT j c Us Is' Z2 rb' ab' ids (a1.data.toList++0::dF ids) b0 c7 wr))
  case atStart=>exact⟨0,_,_,by omega,rfl,rfl,rfl,j5⟩
  case round=>
   clear j5;obtain⟨j,b0,c7,x9,rfl,rfl,rfl,HJ⟩:=hrel;by_cases hj:j<l
   ·have b5:j<args.length:=by rw[HL.o];exact hj
    obtain⟨c,Us,Is',Z2,rb',ab',ids,h7,hN⟩:=HJ.o;obtain⟨b,o,k',v',s',w6,A2,n2,c2,B2,w5,d2,Xr,xl,xc,r5,t8,y0,e0,e1,e2,e3,e4,e5,e6⟩:=aZ HR.o HA.o hN.sd.be b5;subst r5;have t9:=bq args b5;have t7:=cH args (j+1);have j2:Yd (∀ y,zZ wr y->Calls prog 68 #[zY d,.agg (zX k' v' s' w6 A2 n2 c2 B2 w5 d2 Xr xl xc).toArray] y fun e z=>∃ i:Nat,e=.returned (.int .i64 (i:Int))/\Yd (∃ Us Is' rb' ab',(Ts++Us)[i]?=some args[j]/\NL w W Z B d rb ab m1 m2 m3 m4 Ts Is args CT j (c+(args[j]).count) Us Is' Z2 rb' ab' ids (a1.data.toList++0::dF ids) b0 c7 z)):=fun y hy=>by
     have g:=hN.below hy;have x8:=g.few;have h1:=IH.o j b5 Z2 rb' ab' (Ts++Us) Is' y g.sd g.zs.2.2 (by have:=HN.o;have:=HC.o;rw[zE];omega);rw[t8]at h1;refine h1.mono ?_;rintro e z ⟨i,Vs,r2,w7,r3,rfl,q1,q2,q3,q4,q5,q6,q7⟩;exact⟨i,rfl,Us++Vs,r2,w7,r3,by rw[<-zJ];exact q1,g.call q2 q3 q4 q5 q6 q7⟩
    clear t9 t7 hN;go_wp2_with fail;refine (j2.o _ (by exact ae _ _)).mono ?_;rintro e z ⟨i,rfl,HP⟩;clear j2 e0 e1 e2 e3 e4 e5 e6;obtain⟨Us,Is',rb',ab',hi,hN⟩:=HP.o;have d7:j<=1000000:=by have:=e8.o;omega
    obtain⟨r4,z1,Z3,l0,k8⟩:=hN.numbered d7 (fun _=>hi) 54;have d4:(Ts++Us).length<=1000000:=by have:=hN.few;have:=HC.o;have:=HN.o;have:=bq args b5;have:=cH args (j+1);rw[zE];omega
    have v1:i<(Ts++Us).length:=(zK hi).1;have n6:(dF ids).length<=1301*j:=by
     rw[<-hN.len];refine ze fun q hq=>?_;obtain⟨r,hr,rfl⟩:=List.mem_iff_getElem.1 hq;have:=(zK (hN.tell r hr (by rw[hN.len]at hr;omega))).1;omega
    have b8:Yd (i<=1000000/\(dF ids).length<=1301*j):=⟨by omega,n6⟩;have j1:=zH l0;have k0:=zH k8;have j3:Yd (c+(args[j]).count<=am (args.take (j+1))):=by
     have:=bq args b5;show _<=_;omega
    clear hi hN k8 l0 d7 HP d4 v1 n6 h7
    go_wp2_with (at_builtin;go_must (refine cK rfl _ _ _ _ rfl rfl rfl j1.o ?_))
    refine (sI i (by have:=b8.o.1;omega) _).mono ?_;rintro e z2 ⟨rfl,a8⟩;have c8:=k0.o.below a8;have h5:=p9.o;have hd:=fQ (n:=i) (by have:=b8.o.1;omega);have a5:(a1.data.toList++0::dF ids).length<=50000:=by
     have:=b8.o.2;have:=e8.o;have e:a1.data.toList.length=a1.size:=Array.length_toList;rw[zE,zV,e];omega
    obtain⟨y1,z4,l1,n9,d3,n1⟩:=c8.key.putS c8.k.size (dec i) (by omega) 83;have c9:=c8.keyed n9 d3 n1;obtain⟨v7,z5,l2,o0,l4,n3⟩:=c9.key.put1 c9.k.size (by rw[zE];omega) 32 (z:=32) rfl 83;have g7:=c9.keyed o0 l4 n3;have p5:Yd (∃ c Us Is' Z2 rb' ab' ids,c<=am (args.take (j+1))/\NL w W Z B d rb ab m1 m2 m3 m4 Ts Is args CT (j+1) c Us Is' Z2 rb' ab' ids (a1.data.toList++0::dF ids) v7 r4 z5):=by
     refine⟨_,Us,Is',Z3,rb',ab',ids++[i],j3.o,?_⟩;rw[wC];simp only[zJ,List.cons_append]at g7;exact g7
    have p2:=zH l1;have p3:=zH l2;clear a8 c8 h5 hd a5 n9 d3 n1 c9 o0 l4 n3 g7 b8 j1 k0 j3 HJ l1 l2
    go_wp2_with (at_builtin;first|(refine cK rfl _ _ _ _ rfl rfl rfl p2.o ?_)|go_must (refine cK rfl _ _ _ _ rfl rfl rfl p3.o ?_))
    go_roundg (gk-1)
    case measure=>omega
    case rel=>exact⟨j+1,_,_,by omega,(by have g5:=e8.o;rw[show wrap64 ((j:Int)+1)=((j+1:Nat):Int) by unfold wrap64;omega]),rfl,rfl,p5⟩
   ·obtain rfl:j=l:=by omega
    obtain⟨c,Us,Is',Z2,rb',ab',ids,h7,hN⟩:=HJ.o;obtain⟨g,g1,g2,g3⟩:=hN.sd.ids;obtain⟨rv,av,rc,ac,x1,x2,x3,x4,x5,x6,x7⟩:=hN.sd.ex;have o1:mV (.mk k v s n args) ids=.string ⟨(a1.data.toList++0::dF ids).toArray⟩:=by unfold mV wH;rw[p8.o]
    have b4:=(hN.below zB.drew).key.text;have a5:=(bI (jo wr.drew) (mt:=114) (by kernel_rfl) (z:=.int .i64 0) (zeroValue3 _) (k:=.string ⟨(a1.data.toList++0::dF ids).toArray⟩) ⟨_,rfl⟩ (g1.same (w':=wr.drew) (fun o ho=>ho) fun _ h=>h)).1;have m7:wr.drew.cell? ⟨d,2,none⟩=some (.map (some m1)):=x1.drew.cell 2;have o8:cZ (Ts++Us) ids args:=⟨by rw[hN.len,HL.o],fun q h1 h2=>hN.tell q h2 h1⟩;have n5:Us.length+1<=(Tm.mk k v s n args).count:=by have:=hN.few;have:=HC.o;have:=cH args j;omega
    have a0:=zH hN;have k4:=zH o8;have f1:=zH n5;have c4:=zH o1;have f8:=zH x1;have k5:=zH x2;have r0:=zH x3;have c6:=zH x4;have g0:=zH x5;have k6:=zH x6;have g4:=zH x7;have b7:=zH g1;have f2:=zH g2;have f3:=zH g3;clear hN o8 n5 o1 x1 x2 x3 x4 x5 x6 x7 g1 g2 g3 HJ h7;generalize o2:(⟨(a1.data.toList++0::dF ids).toArray⟩:ByteArray)=ks at b4 a5 c4;have p7:=zH o2;clear o2;have r6:=zW m7 b4;clear m7 b4;cases hg:g (.string ks) with
    |some x=>
     obtain⟨i,hi,e1,rfl⟩:=f3.o _ _ hg;rw[hg]at a5;simp only[Option.getD_some,Option.isSome_some]at a5;have ht:(Ts++Us)[i]=.mk k v s n args:=by
      have e2:=e1;rw[<-c4.o]at e2;unfold mV at e2;have e3:wH (.mk k v s n args) ids=wH (Ts++Us)[i] (Is' i):=by simpa using e2
      have ok:=a0.o.sd.ok _ (zQ hi);exact (BG (Ts:=Ts++Us) HF.o ok.1 k4.o (a0.o.sd.tell i hi) e3).symm
     have HT:=zH ht;clear hg e1 ht f8 c6 g0 k6 g4 b7 f2 f3;go_wp2_with fail
     go_region_held3 (fun w'=>w'.cell? ⟨d,2,none⟩=some (.map (some m1))/\(convert 83 9 b0).run prog w'=.ok (.string ks) w')
      (first|assumption|(go_keep;done))
      (fail)
     go_wp2_with fail;go_ret;exact⟨i,Us,Is',rb',ab',rfl,by rw[zO hi,HT.o],Nat.le_of_succ_le f1.o,a0.o.old,(a0.o.below zB.drew).sd.zw fun b _ h=>a0.o.zs.1 b h,a0.o.r.mono (by omega),a0.o.a.mono (by omega),a0.o.k.drew⟩
    |none=>
     rw[hg]at a5;simp only[Option.getD_none,Option.isSome_none]at a5;go_wp2_with fail
     go_region_held3 (fun w'=>w'.cell? ⟨d,2,none⟩=some (.map (some m1))/\(convert 83 9 b0).run prog w'=.ok (.string ks) w')
      (first|assumption|(go_keep;done))
      (fail)
     have o7:=ek c6.o;obtain⟨N,g8⟩:∃ N,(Ts++Us).length=N:=⟨_,rfl⟩;rw[g8]at o7;obtain⟨rA,rC,rfl⟩:=o7;have a3:=zH g8;clear g8;have c3:Yd (ah wr.drew W.heap.size 27 (zX k v s n.neg A1 n.num.length c1 B1 n.den.length d1 Ar j a6).toArray):=by rw[p4.o];exact a0.o.ct.drew
     have t6:=c3.o.cell 6;have f6:=c3.o.frozen 6;have d0:=(f8.o.drew).cell 0;simp only[L3]at t6 d0;go_wp2_with fail;generalize hy:World.drew _=y;clear t6 f6 d0 r6 a5;have h9:aD [some 27] wr y:=hy▸((aD.refl _ _).setCell (p:=⟨W.heap.size,6,none⟩) c3.o (by simp) _).drew;have b6:ag (fun b=>b=W.heap.size) wr y:=hy▸(ag.setCell wr ⟨W.heap.size,6,none⟩ _).drew;have o3:ah y W.heap.size 27 #[.int .i64 k,.int .i64 v,.string s,.bool n.neg,.slice A1 n.num.length c1,.slice B1 n.den.length d1,.slice none 0 0]:=by
      have h0:ah wr W.heap.size 27 #[.int .i64 k,.int .i64 v,.string s,.bool n.neg,.slice A1 n.num.length c1,.slice B1 n.den.length d1,.slice Ar j a6]:=c3.o;have:=(h0.set_ 6 (.slice none 0 0)).drew;rw[hy]at this;simpa using this
     have q:=a0.o.q;have xy:=b6.blk f8.o (show ¬d=W.heap.size by omega);obtain⟨z,v4,hM,hK⟩:=co (w:=y.drew) (jo _) (et:=3) (mt:=114) (by kernel_rfl) (k:=.string ks) ⟨_,rfl⟩ (.int .i64 (N:Int)) (b7.o.same (fun o ho=>(b6.block m1 (an ho) (show ¬m1=W.heap.size by omega)).trans ho) fun _ h=>h);have a9:aD [none] y z:=((aD.refl _ _).drew.kept hK fun b e o ho hn=>by
      have e:b=m1:=e;obtain⟨es,c,hm,_⟩:=b7.o.is;rw[e]at ho;have h2:=(b6.block m1 (an hm) (show ¬m1=W.heap.size by omega)).trans hm;rw[show y.drew.heap=y.heap from rfl,h2]at ho;exact hn.2 (by simp) _ _ (zI ho).symm)
     have i0:=a0.o.key.frT h9 (by decide);have d5:=i0.frT a9 (by decide);have xz:=xy.frT a9 (by decide);have g9:=zW (xy.drew.cell 2) (i0.below zB.drew).text;have h3:=zW (xz.cell 2) d5.text;simp only[L3]at g9 h3;rw[p7.o]at g9 h3;clear hy
     go_region_held3 (fun w'=>w'.cell? ⟨d,2,none⟩=some (.map (some m1))/\(convert 83 9 b0).run prog w'=.ok (.string ks) w')
      (first|assumption|(go_keep;done))
      (fail)
     have j4:Yd (aD [none,some 27] wr z):=(h9.mono (by simp)).trans (a9.mono (by simp));have a2:Yd (ag (fun b=>b=W.heap.size\/b=m1) wr z):=(b6.mono fun _ h=>.inl h).trans (hK.undrew.mono fun _ h=>.inr h);have q0:=zH hM;have r1:=zH xz;have p6:Yd (∀ V,ag (SQ d rb' ab' m1) z.drew V->ah V W.heap.size 27 (zX k v s n.neg A1 n.num.length c1 B1 n.den.length d1 none 0 0).toArray):=fun V hV=>hV.blk (o3.frT a9 (by decide)).drew (a0.o.notCT);obtain⟨aA,aC,l3⟩:=ek g0.o;rw[a3.o]at l3;subst l3;obtain⟨gA,gC,v0⟩:=ek a0.o.row;subst v0;have k1:Yd (N<=1000000):=by
      rw[<-a3.o];have:=f1.o;have:=HN.o;rw[zE];show _<=_;omega
     have q8:Yd (∀ L:Nat->Bool,L 5=false->L 6=false->L 7=false->L 8=false->L 12=false->L 14=false->L 15=false->L 18=false->L 21=false->NI B d rb' ab' m1 [.map (some m1),.map (some m2),.map (some m3),.map (some m4)] N (.slice rA N rC) (.slice aA N aC) (.slice gA (fT ids).length gC) (bP rc N) ((List.range N).map ac) (zX k v s n.neg A1 n.num.length c1 B1 n.den.length d1 none 0 0) z.drew L undef undef undef undef undef undef undef z.drew):=fun L l5 l6 l7 l8 v9 w0 i4 o9 p0=>by
      refine⟨.refl _ _,.refl _ _,zC a0.o.sd.le.2.2.2 a2.o.size,fun e=>?_,fun e=>?_,fun e=>?_,fun e=>?_,fun e=>?_,fun _=>⟨a2.o.drew.row ?_ fun o ho e=>?_,k5.o⟩,fun e=>?_,fun _=>⟨ay ?_ j4.o.drew (by decide),r0.o⟩,fun e=>?_,?_,fun e=>?_,fun e=>?_,fun e=>?_,fun e=>?_,fun e=>?_⟩
      ·rw[l5]at e;cases e
      ·rw[l6]at e;cases e
      ·rw[v9]at e;cases e
      ·rw[l7]at e;cases e
      ·rw[w0]at e;cases e
      ·have:=c6.o;rw[a3.o]at this;exact this
      ·rcases e with e|e
       ·subst e;exact a0.o.notCT (.inr (.inl (ho.symm.trans k5.o)))
       ·subst e;obtain⟨x0,f',hc⟩:=Lib.ownsRow_kind c6.o _ ho;obtain⟨es,c',hm,_⟩:=b7.o.is;rw[hc]at hm;cases hm
      ·rw[l8]at e;cases e
      ·have:=g0.o;rw[a3.o]at this;exact this
      ·rw[i4]at e;cases e
      ·rw[o9,p0];exact r1.o.drew
      ·rw[o9]at e;cases e
      ·rw[p0]at e;cases e
      ·rw[i4]at e;cases e
      ·rw[l8]at e;cases e
      ·rw[i4]at e;cases e
     clear g9 h3 v4 i0 h9 b6 o3 q xy hM hK a9 d5 xz;go_wp2_with fail;refine wp_region_held_drew (S:=fun _=>True) (by kernel_rfl) trivial (fun hHeld=>?_)
     (refine zT 0 ?_;try simp only[Act.put,L1,L2])
     (refine zT 1 ?_;try simp only[Act.put,L1,L2])
     (refine zT 2 ?_;try simp only[Act.put,L1,L2])
     (refine zT 3 ?_;try simp only[Act.put,L1,L2])
     (refine zT 4 ?_;try simp only[Act.put,L1,L2])
     (refine zT 9 ?_;try simp only[Act.put,L1,L2])
     (refine zT 10 ?_;try simp only[Act.put,L1,L2])
     (refine zT 11 ?_;try simp only[Act.put,L1,L2])
     (refine zT 13 ?_;try simp only[Act.put,L1,L2])
     refine fw [5,6,7,8,12,14,15,16,17,18,19,20,21] (fun aa L a W2=>∃ I J D E M F G O P Q T,a=(((((((((((aa.put (some 70) I).put (some 71) J).put (some 72) D).put (some 73) E).put (some 77) M).put (some 79) F).put (some 80) G).put (some 81) O).put (some 82) P).put (some 83) Q).put (some 84) T)/\NI B d rb' ab' m1 [.map (some m1),.map (some m2),.map (some m3),.map (some m4)] N (.slice rA N rC) (.slice aA N aC) (.slice gA (fT ids).length gC) (bP rc N) ((List.range N).map ac) [.int .i64 k,.int .i64 v,.string s,.bool n.neg,.slice A1 n.num.length c1,.slice B1 n.den.length d1,.slice none 0 0] z.drew L I J D E M F G W2/\((L 16=true->O=(.pointer (some ⟨d,0,none⟩)))/\(L 17=true->P=(.pointer (some ⟨d,0,none⟩)))/\(L 19=true->Q=(.pointer (some ⟨d,0,none⟩)))/\(L 20=true->T=(.pointer (some ⟨d,1,none⟩))))) (by kernel_rfl) (by kernel_rfl) (by decide) (by kernel_rfl) ?hS ?init ?steps ?done
     case hS=>exact fun _ _ _ _=>trivial
     case init=>exact⟨undef,undef,undef,undef,undef,undef,undef,undef,undef,undef,undef,(by simp only[Act.put,L1]),q8.o _ (by decide) (by decide) (by decide) (by decide) (by decide) (by decide) (by decide) (by decide) (by decide),fun h=>absurd h (by decide),fun h=>absurd h (by decide),fun h=>absurd h (by decide),fun h=>absurd h (by decide)⟩
     case steps=>
      refine aO.cons (i:=5) rfl ?_ (aO.cons (i:=6) rfl ?_ (aO.cons (i:=7) rfl ?_ (aO.cons (i:=8) rfl ?_ (aO.cons (i:=12) rfl ?_ (aO.cons (i:=14) rfl ?_ (aO.cons (i:=15) rfl ?_ (aO.cons (i:=16) rfl ?_ (aO.cons (i:=17) rfl ?_ (aO.cons (i:=18) rfl ?_ (aO.cons (i:=19) rfl ?_ (aO.cons (i:=20) rfl ?_ (aO.cons (i:=21) rfl ?_ aO.nil))))))))))))
      ·rintro L a W2 ⟨I,J,D,E,M,F,G,O,P,Q,T,rfl,X,Y⟩ hL m K hK;have HI:=zH X;have HL:=zH hL;have HP:=zH Y;simp only[Act.put,L1];clear X hL m Y;have c0:=HI.o.cell0 HL.o;go_simp;exact hK.out _ _ ⟨(.slice rA N rC),J,D,E,M,F,G,O,P,Q,T,(by simp only[Act.put,L1]),HI.o.load5,HP.o⟩
      ·rintro L a W2 ⟨I,J,D,E,M,F,G,O,P,Q,T,rfl,X,Y⟩ hL m K hK;have HI:=zH X;have HL:=zH hL;have HP:=zH Y;simp only[Act.put,L1];clear X hL m Y;have hk:=p6.o W2 HI.o.k;obtain⟨t0,t1,t2,t3,t4,t5,t6⟩:=hk.s7;clear hk;go_simp;exact hK.out _ _ ⟨I,(.agg #[.int .i64 k,.int .i64 v,.string s,.bool n.neg,.slice A1 n.num.length c1,.slice B1 n.den.length d1,.slice none 0 0]),D,E,M,F,G,O,P,Q,T,(by simp only[Act.put,L1]),HI.o.load6,HP.o⟩
      ·rintro L a W2 ⟨I,J,D,E,M,F,G,O,P,Q,T,rfl,X,Y⟩ hL m K hK;have HI:=zH X;have HL:=zH hL;have HP:=zH Y;simp only[Act.put,L1];have hd:L 6=true:=by simp[Region.binds]at m;simp[m]
       have HD:=zH hd;clear hd;clear X hL m Y;obtain rfl:=HI.o.r71 HD.o;go_simp;exact hK.out _ _ ⟨I,(.agg #[.int .i64 k,.int .i64 v,.string s,.bool n.neg,.slice A1 n.num.length c1,.slice B1 n.den.length d1,.slice none 0 0]),(.slice (some ⟨W2.heap.size,0,none⟩) 1 1),E,M,F,G,O,P,Q,T,(by simp only[Act.put,L1]),HI.o.make7,HP.o⟩
      ·rintro L a W2 ⟨I,J,D,E,M,F,G,O,P,Q,T,rfl,X,Y⟩ hL m K hK;have HI:=zH X;have HL:=zH hL;have HP:=zH Y;simp only[Act.put,L1];have hd:L 5=true/\L 7=true:=by simp[Region.binds]at m;simp[m]
       have HD:=zH hd;clear hd;clear X hL m Y;obtain⟨rfl,v8,w8,i2,a4⟩:=HI.o.push8 k1.o rfl (by simp[Value.oneCell']) HD.o.1 HD.o.2 HL.o 25;refine Eq.mpr (if_pos (by first|rfl|kernel_rfl)) ?_;refine dH (.tmp 70) (.tmp 72) 25 25 rfl rfl rfl i2 ?_
       (try simp only[Act.put,L1,L2])
       exact hK.out _ _ ⟨(.slice rA N rC),J,D,v8,M,F,G,O,P,Q,T,(by simp only[Act.put,L1]),a4,HP.o⟩
      ·rintro L a W2 ⟨I,J,D,E,M,F,G,O,P,Q,T,rfl,X,Y⟩ hL m K hK;have HI:=zH X;have HL:=zH hL;have HP:=zH Y;simp only[Act.put,L1];clear X hL m Y;have c1:=HI.o.cell1 HL.o;go_simp;exact hK.out _ _ ⟨I,J,D,E,(.slice aA N aC),F,G,O,P,Q,T,(by simp only[Act.put,L1]),HI.o.load12,HP.o⟩
      ·rintro L a W2 ⟨I,J,D,E,M,F,G,O,P,Q,T,rfl,X,Y⟩ hL m K hK;have HI:=zH X;have HL:=zH hL;have HP:=zH Y;simp only[Act.put,L1];clear X hL m Y;go_simp;exact hK.out _ _ ⟨I,J,D,E,M,(.slice (some ⟨W2.heap.size,0,none⟩) 1 1),G,O,P,Q,T,(by simp only[Act.put,L1]),HI.o.make14,HP.o⟩
      ·rintro L a W2 ⟨I,J,D,E,M,F,G,O,P,Q,T,rfl,X,Y⟩ hL m K hK;have HI:=zH X;have HL:=zH hL;have HP:=zH Y;simp only[Act.put,L1];have hd:L 12=true/\L 14=true/\L 8=true:=by simp[Region.binds]at m;simp[m]
       have HD:=zH hd;clear hd;clear X hL m Y;obtain⟨rfl,v8,w8,i2,a4⟩:=HI.o.push15 k1.o rfl HD.o.2.2 HD.o.1 HD.o.2.1 HL.o 115;refine Eq.mpr (if_pos (by first|rfl|kernel_rfl)) ?_;refine dH (.tmp 77) (.tmp 79) 115 115 rfl rfl rfl i2 ?_
       (try simp only[Act.put,L1,L2])
       exact hK.out _ _ ⟨I,J,D,E,(.slice aA N aC),F,v8,O,P,Q,T,(by simp only[Act.put,L1]),a4,HP.o⟩
      ·rintro L a W2 ⟨I,J,D,E,M,F,G,O,P,Q,T,rfl,X,Y⟩ hL m K hK;have HI:=zH X;have HL:=zH hL;have HP:=zH Y;simp only[Act.put,L1];clear X hL m Y;go_simp;exact hK.out _ _ ⟨I,J,D,E,M,F,G,(.pointer (some ⟨d,0,none⟩)),P,Q,T,(by simp only[Act.put,L1]),HI.o.to ⟨rfl,rfl,rfl,rfl,rfl,rfl,rfl,rfl,rfl⟩,⟨fun _=>rfl,HP.o.2⟩⟩
      ·rintro L a W2 ⟨I,J,D,E,M,F,G,O,P,Q,T,rfl,X,Y⟩ hL m K hK;have HI:=zH X;have HL:=zH hL;have HP:=zH Y;simp only[Act.put,L1];have hd:L 16=true:=by simp[Region.binds]at m;simp[m]
       have HD:=zH hd;clear hd;clear X hL m Y;obtain rfl:=HP.o.1 HD.o;go_simp;exact hK.out _ _ ⟨I,J,D,E,M,F,G,(.pointer (some ⟨d,0,none⟩)),(.pointer (some ⟨d,0,none⟩)),Q,T,(by simp only[Act.put,L1]),HI.o.to ⟨rfl,rfl,rfl,rfl,rfl,rfl,rfl,rfl,rfl⟩,⟨fun _=>rfl,fun _=>rfl,HP.o.2.2⟩⟩
      ·rintro L a W2 ⟨I,J,D,E,M,F,G,O,P,Q,T,rfl,X,Y⟩ hL m K hK;have HI:=zH X;have HL:=zH hL;have HP:=zH Y;simp only[Act.put,L1];have hd:L 17=true/\L 8=true:=by simp[Region.binds]at m;simp[m]
       have HD:=zH hd;clear hd;clear X hL m Y;obtain⟨⟨u,hu⟩,a9,a4⟩:=HI.o.store18 HD.o.2;obtain⟨xA,xC,rfl⟩:=ek (HI.o.a1 HD.o.2).1;obtain rfl:=HP.o.2.1 HD.o.1;have f4:=zH a4;clear a4;go_simp;exact hK.out _ _ ⟨I,J,D,(.slice xA (N+1) xC),M,F,G,O,(.pointer (some ⟨d,0,none⟩)),Q,T,(by simp only[Act.put,L1]),f4.o,HP.o⟩
      ·rintro L a W2 ⟨I,J,D,E,M,F,G,O,P,Q,T,rfl,X,Y⟩ hL m K hK;have HI:=zH X;have HL:=zH hL;have HP:=zH Y;simp only[Act.put,L1];clear X hL m Y;go_simp;exact hK.out _ _ ⟨I,J,D,E,M,F,G,O,P,(.pointer (some ⟨d,0,none⟩)),T,(by simp only[Act.put,L1]),HI.o.to ⟨rfl,rfl,rfl,rfl,rfl,rfl,rfl,rfl,rfl⟩,⟨HP.o.1,HP.o.2.1,fun _=>rfl,HP.o.2.2.2⟩⟩
      ·rintro L a W2 ⟨I,J,D,E,M,F,G,O,P,Q,T,rfl,X,Y⟩ hL m K hK;have HI:=zH X;have HL:=zH hL;have HP:=zH Y;simp only[Act.put,L1];have hd:L 19=true:=by simp[Region.binds]at m;simp[m]
       have HD:=zH hd;clear hd;clear X hL m Y;obtain rfl:=HP.o.2.2.1 HD.o;go_simp;exact hK.out _ _ ⟨I,J,D,E,M,F,G,O,P,(.pointer (some ⟨d,0,none⟩)),(.pointer (some ⟨d,1,none⟩)),(by simp only[Act.put,L1]),HI.o.to ⟨rfl,rfl,rfl,rfl,rfl,rfl,rfl,rfl,rfl⟩,⟨HP.o.1,HP.o.2.1,fun _=>rfl,fun _=>rfl⟩⟩
      ·rintro L a W2 ⟨I,J,D,E,M,F,G,O,P,Q,T,rfl,X,Y⟩ hL m K hK;have HI:=zH X;have HL:=zH hL;have HP:=zH Y;simp only[Act.put,L1];have hd:L 20=true/\L 15=true:=by simp[Region.binds]at m;simp[m]
       have HD:=zH hd;clear hd;clear X hL m Y;obtain⟨⟨u,hu⟩,a9,a4⟩:=HI.o.store21 HD.o.2;obtain⟨xA,xC,rfl⟩:=ek (HI.o.b1 HD.o.2).1;obtain rfl:=HP.o.2.2.2 HD.o.1;have f4:=zH a4;clear a4;go_simp;exact hK.out _ _ ⟨I,J,D,E,M,F,(.slice xA (N+1) xC),O,P,Q,(.pointer (some ⟨d,1,none⟩)),(by simp only[Act.put,L1]),f4.o,HP.o⟩
     case done=>
      rintro L a w4 ⟨I,J,D,E,M,F,G,O,P,Q,T,rfl,X,Y⟩ a7;simp only[Act.put,L1];have HI:=zH X;have HG:=zH hg;have p1:=zH a7;clear X hg a7 Y;go_wp2_with fail;go_ret;have U:=a0.o;have hi:=HI.o;have a7:=p1.o;have i3:W.heap.size<=z.heap.size:=zC U.k.size a2.o.size;have hq:=U.sd.cells;have n4:aD [none,some 27,some 54,some 117] wr w4:=(j4.o.drew.mono (by simp)).trans (hi.f.mono (by simp));have d7:=U.sd.le;have v3:∀ b,SQ d rb' ab' m1 b->w.heap.size<=b:=fun b e=>by
       rcases e with e|e|e|e
       ·omega
       ·have:=(hq.2.2.1 b e.symm).1;omega
       ·have:=(hq.2.2.2 b e.symm).1;omega
       ·omega
      have m5:zZ w z:=U.sd.be.trans (a2.o.below (U.sd.be.size) fun b e=>by
       rcases e with e|e
       ·have:=U.q.1;omega
       ·omega)
      have d3:zZ w w4:=m5.trans (hi.k.undrew.below (B:=w.heap.size) m5.size v3);have d5:ag (SQ d rb ab m1) W z:=⟨a2.o.os.trans U.k.os,a2.o.tape.trans U.k.tape,a2.o.output.trans U.k.output,i3,fun b hb hn=>(a2.o.block b (zD hb U.k.size) fun e=>by
       rcases e with e|e
       ·omega
       ·exact hn (.inr (.inr (.inr e)))).trans (U.k.block b hb hn)⟩
      have v5:∀ i (h:i<(Ts++Us).length),mV (Ts++Us)[i] (Is' i)≠.string ks:=fun i h e=>by
       have:=f2.o i h;rw[e,HG.o]at this;cases this
      have d8:=q0.o;rw[HG.o]at d8;simp only[Option.isSome_none,Bool.false_eq_true,if_false]at d8;have k7:=hi.d;rw[a7 18 (by decide),a7 21 (by decide)]at k7;have ha:=hi.a1 (a7 8 (by decide));have hb:=hi.b1 (a7 15 (by decide));have v2:dw w4 B (.slice gA (fT ids).length gC) (fT ids):=Joins.ownsRow_le (ay U.row n4 (by decide)) (by have:=U.q.1;omega);refine⟨N,Us++[.mk k v s n args],fun i=>if i=(Ts++Us).length then ids else Is' i,E.ownBlock,G.ownBlock,rfl,?_,?_,fun i hi=>?_,?_,(U.r.mono (Nat.le_succ _)).trans ha.2 i3,(U.a.mono (Nat.le_succ _)).trans hb.2 i3,?_⟩
      ·rw[<-zJ,<-a3.o,List.getElem?_append_right zA];simp
      ·rw[zE];exact f1.o
      ·show (if i=_ then _ else _)=_;rw[if_neg (by rw[zE];omega)];exact U.old i hi
      ·rw[<-zJ];refine SD.push (U.sd.zw fun b _ h=>U.zs.1 b h) (rc:=rc) (ac:=ac) (gv:=.slice gA (fT ids).length gC) k7 (by rw[a3.o];exact ha.1) (by rw[a3.o];exact hb.1) k6.o ⟨q9.o,rfl⟩ (fun i hi=>⟨ay (g4.o i hi).1 n4 (by decide),fun b hb hz=>(g4.o i hi).2 b hb (U.zs.1 b hz)⟩) ⟨v2,fun b hb hz=>by have:=(U.row.lt b hb).1;have:=HZ.o b hz;omega⟩ k4.o ⟨HF.o,HE.o⟩ (d8.same (fun o ho=>?_) fun _ h=>h) (fun i hi=>?_) ?_ (fun x y hx=>?_) d3 (zC d7.2.2.2 (zC a2.o.size hi.k.size))
       ·obtain⟨es,c',hm,_⟩:=d8.is;rw[hm]at ho;cases ho;exact hi.f m1 _ hm (eE.map (by decide))
       ·rw[if_neg (v5 i hi)];exact f2.o i hi
       ·rw[c4.o,if_pos rfl,a3.o]
       ·by_cases e:x=.string ks
        ·rw[if_pos e]at hx;exact .inr ⟨e.trans c4.o.symm,by rw[a3.o];exact (zI hx).symm⟩
        ·rw[if_neg e]at hx;exact .inl (f3.o x y hx)
      ·exact d5.sq hi.k.undrew (U.r.mono (by omega)) (U.a.mono (by omega))
end Go.Proofs.YtlhojoefhannnaaGreat
namespace Go.Proofs.YtlhojoefhannnaaGreat
open Go.Proofs.Tryz Go.RowKit NumB
structure GR (w:World) (d g cr a ca m1 m2 m3 m4 N:Nat) (rc:Nat->List Value) (ac:Nat->Value) (Ts:List Tm) (Is:Nat->List Nat) (W:World):Prop where
 len:Ts.length=N
 dk:ah W d 117 #[.slice (some ⟨g,0,none⟩) N cr,.slice (some ⟨a,0,none⟩) N ca,.map (some m1),.map (some m2),.map (some m3),.map (some m4)]
 gk:∃ cs T f,W.heap[g]?=some (Obj.cells cs T f)
 ak:∃ cs T f,W.heap[a]?=some (Obj.cells cs T f)
 roots:∀ i,i<N->∀ q,q<7->W.cell? ⟨g,i*7+q,none⟩=(rc i)[q]?
 args:∀ i,i<N->W.cell? ⟨a,i,none⟩=some (ac i)
 tc:∀ i (h:i<Ts.length),TC w (Ts[i]).rootT (rc i)
 row:∀ i,i<N->∃ B,dw W B (ac i) (fT (Is i))
 tell:∀ i (h:i<Ts.length),cZ Ts (Is i) (Ts[i]).args
 ok:∀ t∈Ts,t.fine/\t.err0=0
 nd:∀ i j,i<Ts.length->j<Ts.length->Ts[i]?=Ts[j]?->i=j
 be:zZ w W
 nil6:∀ i,i<N->(rc i)[6]?=some (.slice none 0 0)
theorem nt {t x:Tm} (h:x∈t.args):x.count<t.count:=by
 obtain⟨k,v,s,m,args⟩:=t;rw[Tm.count];have:∀ l:List Tm,∀ x∈l,x.count<=am l:=by
  intro l
  induction l with
  |nil=>intro x h;cases h
  |cons y r e=>
   intro x h;rw[am];rcases List.mem_cons.1 h with rfl|h
   ·omega
   ·have:=e x h;omega
 have:=this args x h;omega
theorem SD.nodup {w W:World} {Z:Nat->Prop} {B d:Nat} {rb ab:Option Nat} {m1 m2 m3 m4:Nat} {Ts:List Tm} {Is:Nat->List Nat} (g:SD w Z B d rb ab m1 m2 m3 m4 Ts Is W):∀ i j,i<Ts.length->j<Ts.length->Ts[i]?=Ts[j]?->i=j:=by
 obtain⟨f,_,v,_⟩:=g.ids;have o:∀ n i j (k:i<Ts.length) (l:j<Ts.length),(Ts[i]).count<n->Ts[i]=Ts[j]->i=j:=by
  intro n
  induction n with
  |zero=>intro i j k l h;omega
  |succ n G=>
   intro i j k l F A;have p:=g.tell i k;have r:=g.tell j l;have e:Is i=Is j:=by
    rw[<-A]at r;refine List.ext_getElem (by rw[p.1,r.1]) fun q x E=>?_;have m:q<(Ts[i]).args.length:=by rw[<-p.1];exact x
    have u1:=p.2 q m x;have u2:=r.2 q m E;obtain⟨I,C⟩:=zK u1;obtain⟨J,L⟩:=zK u2;refine G _ _ I J ?_ (C.trans L.symm);rw[C];exact zD (nt (zQ m)) (Nat.le_of_lt_succ F)
   have t:=v i k;have D:=v j l;rw[e,A,D]at t;have:=zI t;simp at this;omega
 intro i j k l h;rw[zO k,zO l]at h;exact o _ i j k l (Nat.lt_succ_self _) (zI h)
theorem SD.graph {w W:World} {Z:Nat->Prop} {B d:Nat} {rb ab:Option Nat} {m1 m2 m3 m4:Nat} {Ts:List Tm} {Is:Nat->List Nat} (h:SD w Z B d rb ab m1 m2 m3 m4 Ts Is W) (t:0<Ts.length):∃ g cr a ca rc ac,GR w d g cr a ca m1 m2 m3 m4 Ts.length rc ac Ts Is W:=by
 obtain⟨I,D,rc,ac,x,E,F,l,m,o,A⟩:=h.ex;obtain⟨g,cr,rfl⟩:=Joins.ownsRow_form l t;obtain⟨a,ca,rfl⟩:=Joins.ownsRow_form m t;have r:∀ i,i<Ts.length->(rc i).length=7:=fun i e=>(o i e).1.len;refine⟨g,cr,a,ca,rc,ac,rfl,x,?_,?_,fun i e q v=>?_,fun i e=>?_,fun i e=>(o i e).1,fun i e=>⟨B,(A i e).1⟩,h.tell,h.ok,h.nodup,h.be,fun i e=>(o i e).2⟩
 ·obtain⟨k,f,p⟩:=Lib.ownsRow_kind l g rfl;exact⟨k,_,f,p⟩
 ·obtain⟨k,f,p⟩:=Lib.ownsRow_kind m a rfl;exact⟨k,_,f,p⟩
 ·have C:q<(rc i).length:=by rw[r i e];exact v
  rw[<-gJ r e v];have G:i*7+q<(bP rc Ts.length).length:=by rw[dX r];omega
  exact l.cellAt _ (by omega)
 ·rw[m.cellAt i (by omega)];simp[e]
section
variable {w W W':World} {d g cr a ca m1 m2 m3 m4 N:Nat} {rc:Nat->List Value} {ac:Nat->Value} {Ts:List Tm} {Is:Nat->List Nat}
theorem GR.keep (h:GR w d g cr a ca m1 m2 m3 m4 N rc ac Ts Is W) {p:Nat->Prop} (k:ag p W W') (G:∀ b,p b->w.heap.size<=b/\(b<W.heap.size->∃ E c,W.heap[b]?=some (Obj.map E c))):GR w d g cr a ca m1 m2 m3 m4 N rc ac Ts Is W':=by
 have r:∀ {b A T f},W.heap[b]?=some (Obj.cells A T f)->¬p b:=fun l e=>by
  obtain⟨E,c,F⟩:=(G _ e).2 (an l);rw[l]at F;cases F
 obtain⟨P,M,O,x⟩:=h.gk;obtain⟨t,J,L,v⟩:=h.ak;have D:=k.block g (an x) (r x);have C:=k.block a (an v) (r v);refine⟨h.len,k.blk h.dk (r h.dk),⟨P,M,O,D.trans x⟩,⟨t,J,L,C.trans v⟩,fun i m q U=>(World.cell?_of_block (a:=⟨g,i*7+q,none⟩) D).trans (h.roots i m q U),fun i m=>(World.cell?_of_block (a:=⟨a,i,none⟩) C).trans (h.args i m),h.tc,fun i m=>?_,h.tell,h.ok,h.nd,⟨k.os.trans h.be.os,k.tape.trans h.be.tape,k.output.trans h.be.output,zC h.be.size k.size,fun b l=>(k.block b (zD l h.be.size) fun e=>by have:=(G b e).1;omega).trans (h.be.block b l)⟩,h.nil6⟩;obtain⟨B,I⟩:=h.row i m;exact⟨B,k.row I fun o S e=>by
  obtain⟨A,f,Q⟩:=Lib.ownsRow_kind I o S;exact r Q e⟩
theorem GR.below (h:GR w d g cr a ca m1 m2 m3 m4 N rc ac Ts Is W) (e:zZ W W'):GR w d g cr a ca m1 m2 m3 m4 N rc ac Ts Is W':=h.keep (p:=fun _=>False) (.of_below e) fun _ h=>h.elim
theorem GR.drew (h:GR w d g cr a ca m1 m2 m3 m4 N rc ac Ts Is W):GR w d g cr a ca m1 m2 m3 m4 N rc ac Ts Is W.drew:=h.below zB.drew
theorem GR.root (h:GR w d g cr a ca m1 m2 m3 m4 N rc ac Ts Is W) {i:Nat} (D:i<N) {k v:Int} {s:ByteArray} {n:LN} {args:List Tm} (t:Ts[i]?=some (.mk k v s n args)):∃ A o x q p C r X l c,rc i=[.int .i64 k,.int .i64 v,.string s,.bool A,.slice o x q,.slice p C r,.slice X l c]:=by
 have m:i<Ts.length:=by rw[h.len];exact D
 have:=h.tc i m;rw[zO m]at t;rw[zI t,Tm.rootT]at this;obtain⟨E,G,F,A,o,x,q,p,C,r,X,l,c,e⟩:=this.form;rw[e]at this;cases this;exact⟨_,_,_,_,_,_,_,_,_,_,e⟩
end
def kG (Ts:List Tm) (w:World) (b n:Nat) (f:Value->Option Value):Prop:=
 aE bw w b n f/\(∃ D,w.ownsMap prog 3 sR b n D)/\∃ L:List Int,L.Nodup/\L.length=n/\(∀ v∈L,Tm.var v∈Ts/\(f (.int .i64 v)).isSome=true)/\∀ v,(f (.int .i64 v)).isSome=true->v∈L
section
variable {Ts:List Tm} {w w':World} {b n:Nat} {f:Value->Option Value}
theorem kG.is (h:kG Ts w b n f):∃ e c,w.heap[b]?=some (.map e c)/\e.size=n:=h.1.is
theorem kG.same (h:kG Ts w b n f) (e:∀ o,w.heap[b]?=some o->w'.heap[b]?=some o) (q:∀ v,bw v->bw v):kG Ts w' b n f:=by
 obtain⟨k,⟨D,i,c,l,m⟩,p⟩:=h;exact⟨k.same e q,⟨D,i,c,e _ l,m⟩,p⟩
theorem kG.le (h:kG Ts w b n f):n<=Ts.length:=by
 obtain⟨_,_,L,k,l,m,_⟩:=h;have:=fV (L.map Tm.var) Ts (by
  unfold List.Nodup;rw[List.pairwise_map];exact k.imp fun {x y} i e=>i (aS (show Tm.mk 1 x _ _ _=Tm.var y from e)).2) fun t o=>by
   obtain⟨v,p,rfl⟩:=List.mem_map.1 o;exact (m v p).1
 simpa[l] using this
open Classical in
theorem kG.put (h:kG Ts w b n f) {v:Int} (J:aG v) (r:f (.int .i64 v)=none) (G:Tm.var v∈Ts) (M:Ts.length<maxLen) (c:Value):
 ∃ z,(Instr.mapUpdate 67 (.map (some b)) (.int .i64 v) c).run prog w=.ok () z/\kG Ts z b (n+1) (fun j=>if j=.int .i64 v then some c else f j)/\ag (fun k=>k=b) w z:=by
 have O:=h.le;obtain⟨x,⟨D,A⟩,L,C,E,m,F⟩:=h;obtain⟨z,t,p,hK⟩:=co (w:=w) (bW _) (et:=3) (mt:=67) (by kernel_rfl) (k:=.int .i64 v) ⟨_,rfl⟩ c x;obtain⟨P,l,o,_⟩:=A.update (Maps.int_keyed underlying3) underlying67 (by omega) (kQ J) (val:=c) (d:=.held c) (ps:=[]) rfl;rw[t]at l;cases l;rw[r]at p;refine⟨z,t,⟨p,⟨_,o⟩,v::L,?_,by simp[E],fun u i=>?_,fun u i=>?_⟩,hK⟩
 ·rw[List.nodup_cons];refine⟨fun I=>?_,C⟩;have:=(m v I).2;rw[r]at this;cases this
 ·dsimp only;rcases List.mem_cons.1 i with rfl|i
  ·exact⟨G,by rw[if_pos rfl];rfl⟩
  ·refine⟨(m u i).1,?_⟩
   split
   ·rfl
   ·exact (m u i).2
 ·dsimp only at i;by_cases e:u=v
  ·rw[e];exact List.mem_cons_self
  ·rw[if_neg (fun q=>e (by simpa using q))]at i;exact List.mem_cons_of_mem _ (F u i)
end
theorem GR.i64 {w W:World} {d g cr a ca m1 m2 m3 m4 N:Nat} {rc:Nat->List Value} {ac:Nat->Value} {Ts:List Tm} {Is:Nat->List Nat} (h:GR w d g cr a ca m1 m2 m3 m4 N rc ac Ts Is W) {v:Int} (l:Tm.var v∈Ts):aG v:=by
 obtain⟨i,k,e⟩:=List.mem_iff_getElem.1 l;have:=h.tc i k;rw[e,Tm.var,Tm.rootT]at this;generalize rc i=m at this;cases this;assumption
def jD (m2 nb:Nat) (Ts:List Tm) (b:Int->Option Tm) (W:World):Prop:=∃ f,kG Ts W m2 nb f/\(∀ v:Int,b v=none->f (.int .i64 v)=none)/\∀ (v:Int) t,b v=some t->∃ k,k<Ts.length/\Ts[k]?=some t/\f (.int .i64 v)=some (.int .i64 (k:Int))
theorem jD.keep {m2 i:Nat} {Ts:List Tm} {b:Int->Option Tm} {W W':World} (h:jD m2 i Ts b W) {p:Nat->Prop} (m:ag p W W') (q:¬p m2):jD m2 i Ts b W':=by
 obtain⟨f,k,l⟩:=h;exact⟨f,k.same (fun o e=>(m.block m2 (an e) q).trans e) fun _ h=>h,l⟩
theorem jD.below {m2 e:Nat} {Ts:List Tm} {b:Int->Option Tm} {W W':World} (h:jD m2 e Ts b W) (i:zZ W W'):jD m2 e Ts b W':=h.keep (p:=fun _=>False) (.of_below i) fun h=>h
theorem iG {w:World} {d g cr a ca m1 m2 m3 m4 N nb:Nat} {rc:Nat->List Value} {ac:Nat->Value} {Ts:List Tm} {Is:Nat->List Nat} {b:Int->Option Tm} {W:World} (h:GR w d g cr a ca m1 m2 m3 m4 N rc ac Ts Is W) (hb:jD m2 nb Ts b W) (hL:kX Ts b) (hU:∀ t∈Ts,∀ v,t=.var v->0<=v) {i:Nat} {t:Tm} (hi:i<N) (ht:Ts[i]?=some t):
 Calls prog 89 #[.pointer (some ⟨d,0,none⟩),.int .i64 (i:Int)] W fun e W'=>∃ (k:Nat) (x:Tm),e=.returned (.int .i64 (k:Int))/\k<N/\Ts[k]?=some x/\dK b t x/\(∀ v,x=.var v->b v=none)/\zZ W W':=by
 have U:=zH h;have HB:=zH hb;have HL:=zH hL;have HU:=zH hU;have HI:=zH hi;have HT:=zH ht;clear h hb hL hU hi ht;have T:∃ M:Nat,∀ v,t=.var v->v.toNat<M:=by
  rcases Classical.em (∃ v,t=.var v) with ⟨v,e⟩|hn
  ·exact⟨v.toNat+1,fun u F=>by rw[e]at F;have:=(aS F).2;omega⟩
  ·exact⟨0,fun v e=>absurd ⟨v,e⟩ hn⟩
 obtain⟨M,hM⟩:=T;have HM:=zH hM;clear hM;go_enter func89,ntmps89;go_wp2_with fail
 go_loopg [1] M (fun gk s1 wr=>∃ (n:Nat) (x:Tm),s1=.int .i64 (n:Int)/\Yd (n<N/\Ts[n]?=some x/\(∀ y,dK b x y->dK b t y)/\(∀ v,x=.var v->v.toNat<gk)/\zZ W wr))
 case atStart=>exact⟨i,t,rfl,HI.o,HT.o,fun _ h=>h,HM.o,Below.refl _ _⟩
 case round=>
  obtain⟨n,x,rfl,p⟩:=hrel;obtain⟨k,v,s,m,args⟩:=x;have G:=U.o.below p.o.2.2.2.2;obtain⟨ng,A1,n1,c1,B1,q1,d1,X,l,c,D⟩:=G.root p.o.1 p.o.2.1;have Y:=G.dk.cell 0;have r0:=G.roots n p.o.1 0 (by omega);rw[D]at r0;simp only[L3,Nat.add_zero]at r0 Y;have a2:(0:Int)<=(n:Int):=by omega
  have a3:(n:Int)<(N:Int):=by have:=p.o.1;omega
  have C:=zH G;have O:=zH D;clear G D;by_cases S:k=1
  ·subst S;have a0:wr.drew.cell? ⟨d,0,none⟩=_:=Y;have d3:=C.o.drew.dk.cell 3;have r1:=C.o.drew.roots n p.o.1 1 (by omega);rw[O.o]at r1;simp only[L3]at d3 r1;obtain⟨f,f1,P,Q⟩:=(HB.o.below p.o.2.2.2.2);have A:=(bI (bW wr.drew) (mt:=67) (by kernel_rfl) (z:=.int .i64 0) (zeroValue3 _) (k:=.int .i64 v) ⟨_,rfl⟩ (f1.1.same (w':=wr.drew) (fun o ho=>ho) fun _ h=>h)).1;have I:=C.o.ok _ (List.mem_of_getElem? p.o.2.1);have ev:Tm.mk 1 v s m args=.var v:=aK I.1 rfl;have E:=zH ev;clear I ev f1;cases hbv:b v with
   |none=>
    rw[P v hbv]at A;simp only[Option.getD_none,Option.isSome_none]at A;have r:=zH hbv;clear hbv P Q;go_wp2_with fail
    go_region_held3 (fun w'=>w'.cell? ⟨d,0,none⟩=some (.slice (some ⟨g,0,none⟩) N cr)/\w'.cell? ⟨d,3,none⟩=some (.map (some m2))/\w'.cell? ⟨g,n*7+1,none⟩=some (.int .i64 v))
     (first|assumption|(go_keep;done))
     (fail)
    go_wp2_with fail;go_ret;have q:∀ u,Tm.mk 1 v s m args=.var u->b u=none:=fun u e=>by rw[<-(aS e).2];exact r.o
    exact⟨n,_,rfl,p.o.1,p.o.2.1,p.o.2.2.1 _ (.stop q),q,p.o.2.2.2.2.drew⟩
   |some y=>
    obtain⟨k2,J,hy,F⟩:=Q v y hbv;rw[F]at A;simp only[Option.getD_some,Option.isSome_some]at A;have r:=zH hbv;have L:=zH J;have V:=zH hy;clear hbv P Q J hy F;go_wp2_with fail
    go_region_held3 (fun w'=>w'.cell? ⟨d,0,none⟩=some (.slice (some ⟨g,0,none⟩) N cr)/\w'.cell? ⟨d,3,none⟩=some (.map (some m2))/\w'.cell? ⟨g,n*7+1,none⟩=some (.int .i64 v))
     (first|assumption|(go_keep;done))
     (fail)
    go_wp2_with fail
    go_roundg v.toNat
    case measure=>exact p.o.2.2.2.1 v E.o
    case rel=>exact⟨k2,y,rfl,by rw[<-U.o.len];exact L.o,V.o,fun z hz=>p.o.2.2.1 _ (by rw[E.o];exact .step r.o hz),fun u e=>by have h1:=(HL.o v y r.o).2 u e;have h2:=HU.o y (List.mem_of_getElem? V.o) u e;omega,p.o.2.2.2.2.drew⟩
  ·have a1:(k==1)=false:=zL S;go_wp2_with fail;go_ret;have q:∀ u,Tm.mk k v s m args=.var u->b u=none:=fun u e=>absurd (aS e).1 S;exact⟨n,_,rfl,p.o.1,p.o.2.1,p.o.2.2.1 _ (.stop q),q,p.o.2.2.2.2⟩
end Go.Proofs.YtlhojoefhannnaaGreat
namespace Go.Proofs.YtlhojoefhannnaaGreat
open Go.Proofs.Tryz Go.RowKit NumB
theorem iy {k v:Int} {s:ByteArray} {n:LN} {args:List Tm} (f:(Tm.mk k v s n args).fine):args.length<=32:=by
 rw[Tm.fine]at f;rcases al f.2.1 with ⟨_,_,_,_,h⟩|⟨_,_,_,_,h|h|h|h⟩<;>omega
theorem dK.occ {b:Int->Option Tm} {v:Int} (m:b v=none) {t x:Tm} (h:dK b t x):eB b v t↔eB b v x:=by
 induction h with
 |stop _=>exact Iff.rfl
 |@step u y z e q p=>
  have l:∀ i,(Tm.var u).occ i->i=u:=fun i h=>by
   unfold Tm.var at h;rw[Tm.occ]at h;rcases h with ⟨_,h⟩|⟨h,_⟩
   ·exact h.symm
   ·exact absurd rfl h
  rw[<-p];refine⟨fun h=>?_,fun h=>.there (kT u) e h⟩;cases h with
  |here h=>rw[l _ h,e]at m;cases m
  |there h k o=>
   rw[l _ h,e]at k;cases k;exact o
theorem wS {b:Int->Option Tm} {u v:Int} (l:b u=none):eB b v (.var u)↔u=v:=by
 have k:∀ i,(Tm.var u).occ i->i=u:=fun i h=>by
  unfold Tm.var at h;rw[Tm.occ]at h;rcases h with ⟨_,h⟩|⟨h,_⟩
  ·exact h.symm
  ·exact absurd rfl h
 refine⟨fun h=>?_,fun h=>by subst h;exact .here (kT u)⟩;cases h with
 |here h=>exact (k _ h).symm
 |there h e m=>rw[k _ h,l]at e;cases e
theorem rL {b:Int->Option Tm} {v:Int} {x:Tm} (m:∀ u,x≠.var u) (l:x.cn):eB b v x↔∃ a∈x.args,eB b v a:=by
 refine⟨fun h=>?_,fun ⟨a,e,h⟩=>h.arg m l e⟩;have i:∀ {u},x.occ u->∃ a∈x.args,a.occ u:=fun {u} h=>by
  obtain⟨k,w,s,n,args⟩:=x;rw[Tm.occ]at h;rcases h with ⟨q,rfl⟩|⟨_,h⟩
  ·rw[Tm.cn]at l;exact absurd (l.1 q) (m _)
  ·exact zr h
 cases h with
 |here h=>
  obtain⟨a,e,h⟩:=i h;exact⟨a,e,.here h⟩
 |there h o p=>
  obtain⟨a,e,h⟩:=i h;exact⟨a,e,.there h o p⟩
theorem GR.arg {w W:World} {d g cr a ca m1 m2 m3 m4 N:Nat} {rc:Nat->List Value} {ac:Nat->Value} {Ts:List Tm} {Is:Nat->List Nat} (h:GR w d g cr a ca m1 m2 m3 m4 N rc ac Ts Is W) {k j:Nat} (q:k<N) (p:j<(Is k).length):∃ l c,ac k=.slice (some ⟨l,0,none⟩) (Is k).length c/\W.cell? ⟨l,j,none⟩=some (.int .i64 ((Is k)[j]:Int)):=by
 obtain⟨B,o⟩:=h.row k q;have m:(fT (Is k)).length=(Is k).length:=by simp[fT]
 obtain⟨l,c,e⟩:=Joins.ownsRow_form o (by omega);rw[m]at e;have i:=o;rw[dw,e,m]at i;refine⟨l,c,e,?_⟩;rw[i.cellAt j (by omega)];simp[fT,p]
theorem GR.args_form {w W:World} {d g cr a ca m1 m2 m3 m4 N:Nat} {rc:Nat->List Value} {ac:Nat->Value} {Ts:List Tm} {Is:Nat->List Nat} (h:GR w d g cr a ca m1 m2 m3 m4 N rc ac Ts Is W) {k:Nat} (i:k<N):∃ A c,ac k=.slice A (Is k).length c:=by
 obtain⟨B,m⟩:=h.row k i;have l:(fT (Is k)).length=(Is k).length:=by simp[fT]
 obtain⟨A,c,e⟩:=ek m;exact⟨A,c,by rw[e,l]⟩
def qt (Ts:List Tm) (gs:Value->Option Value):Prop:=∀ j:Nat,j<Ts.length->gs (.int .i64 (j:Int))=none\/gs (.int .i64 (j:Int))=some (.bool true)
def Sn (gs:Value->Option Value) (j:Nat):Prop:=gs (.int .i64 (j:Int))=some (.bool true)
section
theorem rZ {w:World} {d g cr a ca m1 m2 m3 m4 N nb:Nat} {rc:Nat->List Value} {ac:Nat->Value} {Ts:List Tm} {Is:Nat->List Nat} {b:Int->Option Tm} {f:Int->Tm} (hL:kX Ts b) (hU:∀ t∈Ts,∀ v,t=.var v->0<=v) (hf:iY b f) {v:Int} (hv:b v=none) {ms:Nat} (d4:ms≠m2/\w.heap.size<=ms):∀ (K:Nat) (i:Nat) (t:Tm),i<N->Ts[i]?=some t->(t.sb f).count<K->∀ (W:World) (ns:Nat) (O:Value->Option Value),GR w d g cr a ca m1 m2 m3 m4 N rc ac Ts Is W->jD m2 nb Ts b W->aE bw W ms ns O->qt Ts O->(∀ (j:Nat) y,Ts[j]?=some y->Sn O j->(y.sb f).count<=(t.sb f).count->¬eB b v y)->
 Calls prog 90 #[.pointer (some ⟨d,0,none⟩),.int .i64 v,.int .i64 (i:Int),.map (some ms)] W fun e W'=>e=.returned (.bool (df b v t))/\ag (fun k=>k=ms) W W'/\(¬eB b v t->∃ A p,aE bw W' ms A p/\qt Ts p/\∀ (j:Nat) y,Ts[j]?=some y->Sn p j->Sn O j\/¬eB b v y):=by
 intro K
 induction K with
 |zero=>intro i t _ _ h;omega
 |succ K ih=>
 intro i t hi ht hK W ns O hG hB hM hS hP;have IH:=zH ih;have c5:Yd (Calls prog 89 #[zY d,.int .i64 (i:Int)] W fun e W'=>∃ (k:Nat),e=.returned (.int .i64 (k:Int))/\Yd (∃ x,k<N/\Ts[k]?=some x/\dK b t x/\(∀ v,x=.var v->b v=none))/\Yd (zZ W W')):=(iG hG hB hL hU hi ht).mono fun e W' ⟨k,x,e1,h1,h2,h3,h4,h5⟩=>⟨k,e1,⟨x,h1,h2,h3,h4⟩,h5⟩;have HG:=zH hG;have HB:=zH hB;have HM:=zH hM;have HS:=zH hS;have HP:=zH hP;have HF:=zH hf;have HV:=zH hv;have V:=zH d4;have HK:=zH hK;clear ih hG hB hM hS hP hf hv d4 hK hi ht;go_enter func90,ntmps90;go_wp2_with fail;refine c5.o.mono ?_;rintro e w1 ⟨k,rfl,HX,Q⟩;clear c5;have f3:ms<W.heap.size:=by
  obtain⟨es,c,h,_⟩:=HM.o.is;exact an h
 have C:=zH (HG.o.below Q.out);have f0:=zH (HB.o.below Q.out);have J:Yd (aE bw w1 ms ns O):=HM.o.same (fun o I=>(Q.out.block ms (an I)).trans I) fun _ h=>h;have a4:Yd (ag (fun k=>k=ms) W w1):=.of_below Q.out;clear f3 Q HG HB HM;obtain⟨x,hk,hx,hd,d2⟩:=HX.o;have Y:=zH hx;have d8:=hd.occ HV.o;have e7:t.sb f=x.sb f:=hd.sat HF.o.2.1;have M:=zH d8;have a6:=zH e7;have f1:=zH d2;have U:=zH hk;have c9:=(C.o.ok x (List.mem_of_getElem? hx)).1;have T:=zH c9;have b4:=hx;clear hx hd d2 d8 e7 c9 HX;obtain⟨xk,xv,s,m,args⟩:=x;obtain⟨ng,A1,n1,c1,B1,q1,d1,X,l,c,e6⟩:=C.o.root hk Y.o;have d0:=C.o.dk.cell 0;have r0:=C.o.roots k hk 0 (by omega);have r1:=C.o.roots k hk 1 (by omega);rw[e6]at r0 r1;simp only[L3,Nat.add_zero]at r0 r1 d0;have g1:(0:Int)<=(k:Int):=by omega
 have g2:(k:Int)<(N:Int):=by omega
 clear e6 hk;by_cases a3:xk=1
 ·subst a3;have ev:Tm.mk 1 xv s m args=.var xv:=aK T.o rfl;have c8:=f1.o xv ev;have he:df b v t=(xv==v):=by
   have h:=M.o;rw[ev,wS c8]at h;by_cases e:xv=v
   ·rw[eS (h.2 e)];simp[e]
   ·rw[ff fun q=>e (h.1 q)];simp[e]
  have HE:=zH he;clear ev c8 he;go_wp2_with fail;go_ret;exact⟨by rw[HE.o];rfl,a4.o,fun _=>⟨ns,O,J.o,HS.o,fun j y _ h=>.inl h⟩⟩
 ·have g0:(xk==1)=false:=zL a3;have d7:∀ u,Tm.mk xk xv s m args≠.var u:=fun u e=>a3 (aS e).1;have a5:=zH d7;clear d7 a3;have S:=(bI (bW w1) (mt:=89) (by kernel_rfl) (z:=.bool false) (zeroValue4 _) (k:=.int .i64 (k:Int)) ⟨_,rfl⟩ J.o).2;have b1:k<Ts.length:=by rw[C.o.len];exact U.o
  rcases HS.o k b1 with hn|hs
  ·rw[hn]at S;simp only[Option.getD_none]at S;obtain⟨z,f4,c7,a1⟩:=co (w:=w1) (bW _) (et:=4) (mt:=89) (by kernel_rfl) (k:=.int .i64 (k:Int)) ⟨_,rfl⟩ (.bool true) J.o;have d5:¬m2=ms:=fun e=>V.o.1 e.symm;have D:=C.o.keep a1 fun b e=>by
    have e:b=ms:=e;subst e;obtain⟨es,c,h,_⟩:=J.o.is;exact⟨V.o.2,fun _=>⟨es,c,h⟩⟩
   have c6:=f0.o.keep a1 d5;obtain⟨Ak,ck,E⟩:=D.args_form U.o;have d1:=D.dk.cell 1;have a0:=D.args k U.o;rw[E]at a0;simp only[L3]at d1;have b3:=D.tell k b1;rw[zO b1]at b4;rw[zI b4]at b3;have a7:Yd (cZ Ts (Is k) args):=b3;have e9:=zH E;have b6:=zH D;have b5:=zH c6;have b7:Yd (ag (fun k=>k=ms) W z):=a4.o.trans a1;have c3:Yd (∃ A p,aE bw z ms A p/\qt Ts p/\∀ (j:Nat) y,Ts[j]?=some y->Sn p j->Sn O j\/j=k\/¬eB b v y):=by
    refine⟨_,_,c7,fun j hj=>?_,fun j y _ h=>?_⟩
    ·dsimp only;by_cases e:Value.int .i64 (j:Int)=.int .i64 (k:Int)
     ·rw[if_pos e];exact .inr rfl
     ·rw[if_neg e];exact HS.o j hj
    ·unfold Sn at h;dsimp only at h;by_cases e:j=k
     ·exact .inr (.inl e)
     ·rw[if_neg (fun q=>e (by simp at q;omega))]at h;exact .inl h
   have a8:∀ q,q<(0:Nat)->∀ h:q<args.length,¬eB b v args[q]:=fun q h=>absurd h (by omega);have b8:=zH a8;clear d5 D c6 E b3 c7 a1 hn a8 b4;obtain⟨L,P⟩:∃ L,(Is k).length=L:=⟨_,rfl⟩;rw[P]at a0;have c0:=zH P;have e8:Yd (L<=32):=by
    have:=iy T.o;have e:(Is k).length=args.length:=a7.o.1;show _<=_;omega
   clear P;go_wp2_with fail
   go_loopg [46] L (fun gk f5 wr=>∃ j:Nat,gk+j=L/\f5=.int .i64 (j:Int)/\Yd (GR w d g cr a ca m1 m2 m3 m4 N rc ac Ts Is wr/\jD m2 nb Ts b wr/\ag (fun k=>k=ms) W wr/\(∃ A p,aE bw wr ms A p/\qt Ts p/\∀ (j:Nat) y,Ts[j]?=some y->Sn p j->Sn O j\/j=k\/¬eB b v y)/\∀ q,q<j->∀ h:q<args.length,¬eB b v args[q]))
   case atStart=>exact⟨0,by omega,rfl,b6.o,b5.o,b7.o,c3.o,b8.o⟩
   case round=>
    clear b6 b5 b7 c3 b8 d1 a0 d0 r0 r1 S f4;obtain⟨j,f8,rfl,HJ⟩:=hrel;have b2:(Is k).length=args.length:=a7.o.1;by_cases hj:j<L
    ·have b0:j<(Is k).length:=by rw[c0.o];exact hj
     have a9:j<args.length:=by rw[<-b2];exact b0
     obtain⟨gb,c2,e1,e0⟩:=HJ.o.1.arg U.o b0;have e2:=e9.o.symm.trans e1
     injection e2 with e3 e4 e5
     subst e3 e5;have a2:=a7.o.2 j a9 b0;generalize (Is k)[j]=i2 at e0 a2;have d3:i2<N:=by rw[<-C.o.len];exact (zK a2).1
     have F:=Tm.cn_fine _ T.o;have E:=dN a5.o F (zQ a9) f;have f7:((j:Nat):Int)<(L:Int):=by omega
     have a8:(0:Int)<=((j:Nat):Int):=by omega
     have r:Yd (Calls prog 90 #[zY d,.int .i64 v,.int .i64 (i2:Int),.map (some ms)] wr fun e z=>e=.returned (.bool (df b v args[j]))/\Yd (GR w d g cr a ca m1 m2 m3 m4 N rc ac Ts Is z/\jD m2 nb Ts b z/\ag (fun k=>k=ms) W z/\(¬eB b v args[j]->(∃ A p,aE bw z ms A p/\qt Ts p/\∀ (j:Nat) y,Ts[j]?=some y->Sn p j->Sn O j\/j=k\/¬eB b v y)))):=by
      obtain⟨q1,q2,q3,⟨A,p,q4,q5,q6⟩,q7⟩:=HJ.o;refine (IH.o i2 _ d3 a2 (by have:=HK.o;rw[a6.o]at this;exact zD E (Nat.le_of_lt_succ this)) wr A p q1 q2 q4 q5 fun j' y G hs hc I=>?_).mono ?_
      ·rcases q6 j' y G hs with h|h|h
       ·exact HP.o j' y G h (by rw[a6.o];omega) I
       ·subst h;rw[Y.o]at G;cases G;omega
       ·exact h I
      ·rintro e z ⟨rfl,k1,k2⟩;refine⟨rfl,q1.keep k1 fun b e=>?_,q2.keep k1 fun e=>V.o.1 e.symm,q3.trans k1,fun hn=>?_⟩
       ·have e:b=ms:=e;subst e;obtain⟨es,c,h,_⟩:=q4.is;exact⟨V.o.2,fun _=>⟨es,c,h⟩⟩
       ·obtain⟨n3,g3,h1,h2,h3⟩:=k2 hn;exact⟨n3,g3,h1,h2,fun j' y G hs=>(h3 j' y G hs).elim (fun h=>q6 j' y G h) fun h=>.inr (.inr h)⟩
     have HQ:Yd (∀ q,q<j->∀ h:q<args.length,¬eB b v args[q]):=HJ.o.2.2.2.2;have f2:=zH (rL (b:=b) (v:=v) a5.o F);clear a2 d3 F E HJ e1;by_cases I:eB b v args[j]
     ·have HE:Yd (df b v t=true):=eS (M.o.2 (f2.o.2 ⟨_,zQ a9,I⟩));rw[eS I]at r;clear I;go_wp2_with fail;refine r.o.mono ?_;rintro e z ⟨rfl,HZ⟩;clear r;go_wp2_with fail;go_ret;exact⟨by rw[HE.o];rfl,HZ.o.2.2.1,fun h=>absurd (fW.1 HE.o) h⟩
     ·have HO:=zH I;rw[ff I]at r;clear I;go_wp2_with fail;refine r.o.mono ?_;rintro e z ⟨rfl,HZ⟩;clear r e0;go_wp2_with fail
      go_roundg (gk-1)
      case measure=>omega
      case rel=>exact⟨j+1,by omega,(by have f6:=e8.o;rw[show wrap64 ((j:Int)+1)=((j+1:Nat):Int) by unfold wrap64;omega]),HZ.o.1,HZ.o.2.1,HZ.o.2.2.1,HZ.o.2.2.2 HO.o,fun q hq h=>by
       by_cases e:q=j
       ·subst e;exact HO.o
       ·exact HQ.o q (by omega) h⟩
    ·obtain rfl:j=L:=by omega
     have F:=Tm.cn_fine _ T.o;have d6:¬eB b v t:=fun h=>by
      obtain⟨y,G,h⟩:=(rL a5.o F).1 (M.o.1 h);obtain⟨q,hq,rfl⟩:=List.mem_iff_getElem.1 G;exact HJ.o.2.2.2.2 q (by rw[<-c0.o,b2];exact hq) hq h
     have c4:=zH d6;clear d6 F b2;go_wp2_with fail;go_ret;refine⟨by rw[ff c4.o];rfl,HJ.o.2.2.1,fun _=>?_⟩;obtain⟨A,p,q4,q5,q6⟩:=HJ.o.2.2.2.1;exact⟨A,p,q4,q5,fun j y G hs=>(q6 j y G hs).imp id fun h=>h.elim (fun e=>by
      subst e;rw[Y.o]at G;cases G;exact fun h=>c4.o (M.o.2 h)) id⟩
  ·rw[hs]at S;simp only[Option.getD_some]at S;have he:df b v t=false:=ff fun h=>HP.o k _ Y.o hs (by rw[a6.o];exact zN _) (M.o.1 h);have HE:=zH he;clear he hs;go_wp2_with fail;go_ret;exact⟨by rw[HE.o];rfl,a4.o,fun _=>⟨ns,O,J.o,HS.o,fun j y _ h=>.inl h⟩⟩
end
end Go.Proofs.YtlhojoefhannnaaGreat
