/- (*heap.Heap).Occurs: does a free variable occur in the tree of a term? And 3 more texts. -/
import Derived.Test.YtlhojoefhannnaaGreatJx15
set_option linter.unusedVariables false
set_option linter.unusedSimpArgs false
set_option maxRecDepth 100000
set_option maxHeartbeats 51200000
namespace Go.Proofs.YtlhojoefhannnaaGreat
open Go.Proofs.Tryz Go.RowKit NumB
open Classical in
noncomputable def df (b:Int->Option Tm) (v:Int) (t:Tm):Bool:=decide (eB b v t)
theorem fW {b:Int->Option Tm} {v:Int} {t:Tm}:df b v t=true↔eB b v t:=by unfold df;simp
theorem eS {b:Int->Option Tm} {v:Int} {t:Tm} (h:eB b v t):df b v t=true:=fW.2 h
theorem ff {b:Int->Option Tm} {v:Int} {t:Tm} (h:¬eB b v t):df b v t=false:=by
 cases hb:df b v t with
 |false=>rfl
 |true=>exact absurd (fW.1 hb) h
theorem r9 {b:Nat} {w:World} {B n i c o:Nat} {e:TypeId} {j l:List Value} (f:n+1=i) (h:w.ownsRow B e b (.slice (some ⟨o,0,none⟩) i c) i (j++l)) (A:l.length=b):w.ownsRow B e b (.slice (some ⟨o,0,none⟩) n c) n j:=by
 subst f;obtain⟨q,r|⟨g,k,a,m,t,v,C,x,y,z⟩⟩:=h
 ·cases r.1
 ·simp only[Value.slice.injEq,Option.some.injEq,Addr.mk.injEq,and_true,true_and]at m;obtain⟨rfl,rfl⟩:=m;rw[zE,A,Nat.succ_mul]at q;have p:j.length=n*b:=by omega
  refine⟨p,.inr ⟨_,_,a,rfl,t,v,by omega,x,y,?_⟩⟩;have d:a.toList.take (n*b)=(a.toList.take ((n+1)*b)).take (n*b):=by
   rw[List.take_take,Nat.min_eq_left (by rw[Nat.succ_mul];omega)]
  rw[d,z,List.take_append_of_le_length (by omega),<-p,List.take_length]
def qv (P:Nat->Prop) (f:Nat->Option Tm) (w:World) (zs:List Value) (S:List Tm):Prop:=zs.length=S.length*7/\∀ i (h:i<S.length),∃ ci,cU P f w S[i] ci/\∀ q,q<7->zs[i*7+q]?=ci[q]?
theorem qv.last {P:Nat->Prop} {f:Nat->Option Tm} {w:World} {d:List Value} {S:List Tm} {x:Tm} (h:qv P f w d (S++[x])):∃ g a,d=g++a/\qv P f w g S/\cU P f w x a:=by
 obtain⟨p,h⟩:=h;rw[zE,List.length_singleton]at p;obtain⟨a,b,m⟩:=h S.length (by simp);rw[List.getElem_append_right zA]at b;have b:cU P f w x a:=by simpa using b
 have t:a.length=7:=b.tc.len;refine⟨d.take (S.length*7),a,?_,⟨by rw[List.length_take];omega,fun i n=>?_⟩,b⟩
 ·refine List.ext_getElem? fun j=>?_;by_cases o:j<S.length*7
  ·rw[List.getElem?_append_left (by rw[List.length_take];omega),List.getElem?_take_of_lt o]
  ·rw[List.getElem?_append_right (by rw[List.length_take];omega),List.length_take,Nat.min_eq_left (by omega)];by_cases c:j-S.length*7<7
   ·rw[<-m _ c]
    congr 1
    omega
   ·rw[List.getElem?_eq_none (by omega),List.getElem?_eq_none (by omega)]
 ·obtain⟨k,e,l⟩:=h i (by rw[zE];omega);rw[List.getElem_append_left n]at e;exact⟨k,e,fun q r=>by rw[<-l q r,List.getElem?_take_of_lt (by omega)]⟩
theorem qv.more {P:Nat->Prop} {f:Nat->Option Tm} {w:World} {g:List Value} {S N:List Tm} {cs:Nat->List Value} (h:qv P f w g S) (e:∀ i (b:i<N.length),cU P f w N[i] (cs i)):qv P f w (g++bP cs N.length) (S++N):=by
 obtain⟨m,h⟩:=h;have d:∀ i,i<N.length->(cs i).length=7:=fun i b=>(e i b).tc.len;refine⟨by rw[zE,zE,dX d,m];omega,fun i b=>?_⟩;by_cases a:i<S.length
 ·obtain⟨j,k,l⟩:=h i a;refine⟨j,by rw[List.getElem_append_left a];exact k,fun q c=>?_⟩;rw[List.getElem?_append_left (by omega)];exact l q c
 ·rw[zE]at b;refine⟨cs (i-S.length),by rw[List.getElem_append_right (by omega)];exact e _ (by omega),fun q c=>?_⟩;rw[List.getElem?_append_right (by omega),<-gJ d (by omega:i-S.length<N.length) c]
  congr 1
  omega
structure Di (P:Nat->Prop) (f:Nat->Option Tm) (L:List Tm) (b:Int->Option Tm) (v:Int) (t:Tm) (Bl:List Nat) (nm:Nat) (w:World) (m1 m2:Nat) (wr:World) (g0 cap0:Nat) (zs:List Value) (S V:List Tm) (gk:Nat):Prop where
 cap:S.length<=cap0
 row:wr.ownsRow w.heap.size 27 7 (.slice (some ⟨g0,0,none⟩) S.length cap0) S.length zs
 stk:qv P f w zs S
 srch:eA L b v t S V
 maps:∃ (Sn Mt:List Nat) (n1 n2:Nat) (g1 g2:Value->Option Value),aE bw wr m1 n1 g1/\aE (kY w) wr m2 n2 g2/\(∀ k x,g1 k=some x->x=.bool true)/\(∀ k x,g2 k=some x->x=.bool true)/\
  (∀ u:Nat,(g1 (.int .i64 (u:Int))).isSome=true->Tm.var u∈V)/\(∀ u∈Sn,(g1 (.int .i64 (u:Int))).isSome=true)/\Sn.Nodup/\(∀ u∈Sn,u<nm)/\
  (∀ c,(g2 (.pointer (some ⟨c,0,none⟩))).isSome=true->∃ x∈V,f c=some x)/\(∀ c∈Mt,(g2 (.pointer (some ⟨c,0,none⟩))).isSome=true)/\Mt.Nodup/\(∀ c∈Mt,c∈Bl)/\
  33*((nm-Sn.length)+(Bl.length-Mt.length))+S.length<=gk
theorem aE.intKept {p:Nat->Prop} {w w':World} {b n:Nat} {f:Value->Option Value} (h:aE bw w b n f) (d:ag p w w') (c:¬p b):aE bw w' b n f:=h.same (fun o a=>(d.block b (an a) c).trans a) fun _ h=>h
open Classical in
noncomputable def gL (g:Value->Option Value) (k v:Value):Value->Option Value:=fun j=>if j=k then some v else g j
theorem gi (g:Value->Option Value) (k v:Value):gL g k v k=some v:=by unfold gL;rw[if_pos rfl]
theorem jz {g:Value->Option Value} {k v j:Value} (h:j≠k):gL g k v j=g j:=by unfold gL;rw[if_neg h]
theorem kc {g:Value->Option Value} {k:Value} (h:∀ j x,g j=some x->x=.bool true):∀ j x,gL g k (.bool true) j=some x->x=.bool true:=fun j x a=>by
 by_cases e:j=k
 ·subst e;rw[gi]at a;exact (zI a).symm
 ·rw[jz e]at a;exact h j x a
theorem j9 {g:Value->Option Value} {k v j:Value} (h:(g j).isSome=true):(gL g k v j).isSome=true:=by
 by_cases e:j=k
 ·subst e;rw[gi];rfl
 ·rw[jz e];exact h
structure kf (w0:World) (m1 m2:Nat) (wr:World) (n1 n2:Nat) (g1 g2:Value->Option Value) (g0 cap0 n:Nat) (zs:List Value):Prop where
 ne:m1≠m2
 int:aE bw wr m1 n1 g1
 ptr:aE (kY w0) wr m2 n2 g2
 row:wr.ownsRow w0.heap.size 27 7 (.slice (some ⟨g0,0,none⟩) n cap0) n zs
theorem kf.cells {o:World} {c d m n2 i a n:Nat} {wr:World} {j l:Value->Option Value} {p:List Value} (h:kf o c d wr m n2 j l i a n p) {k:Nat} {cs:Array Value} {T:TypeId} {z:Nat×Nat} (b:wr.heap[k]?=some (Obj.cells cs T z)):k≠c/\k≠d:=by
 obtain⟨_,_,f,_⟩:=h.int.is;obtain⟨_,_,g,_⟩:=h.ptr.is;exact⟨fun e=>(by subst e;rw[f]at b;cases b),fun e=>(by subst e;rw[g]at b;cases b)⟩
theorem kf.below {k:World} {i c j n2 d a n:Nat} {wr w':World} {e f:Value->Option Value} {l:List Value} (h:kf k i c wr j n2 e f d a n l) (b:zZ wr w'):kf k i c w' j n2 e f d a n l:=
 ⟨h.ne,h.int.intKept (p:=fun _=>False) (.of_below b) id,h.ptr.same (fun o g=>(b.block c (an g)).trans g) fun _ h=>h,ay (ts:=[]) h.row (aD.of_below b) (by simp)⟩
theorem kf.drew {i:World} {e f g n2 b a n:Nat} {wr:World} {c d:Value->Option Value} {j:List Value} (h:kf i e f wr g n2 c d b a n j):kf i e f wr.drew g n2 c d b a n j:=h.below zB.drew
theorem kf.put1 {p:World} {b d y n2 f a n:Nat} {wr:World} {j l:Value->Option Value} {q:List Value} (h:kf p b d wr y n2 j l f a n q) (i:Int):∃ z x,(Instr.mapUpdate 89 (.map (some b)) (.int .i64 i) (.bool true)).run prog wr=.ok () z/\kf p b d z x n2 (gL j (.int .i64 i) (.bool true)) l f a n q/\ag (fun k=>k=b) wr z:=by
 have v:=@kf.cells _ _ _ _ _ _ _ _ _ _ _ _ h;obtain⟨z,r,t,c⟩:=co (et:=4) (bW wr) (mt:=89) (by kernel_rfl) (k:=.int .i64 i) ⟨i,rfl⟩ (.bool true) h.int;refine⟨z,_,r,⟨h.ne,t,h.ptr.same (fun o m=>(c.block d (an m) fun e=>h.ne e.symm).trans m) fun _ h=>h,c.row h.row fun g w=>?_⟩,c⟩;obtain⟨A,B,e⟩:=Lib.ownsRow_kind h.row g w;exact (v e).1
theorem kf.put2 {d:World} {t f w n2 m a n c:Nat} {wr:World} {p q:Value->Option Value} {x:List Value} {b:Array Value} (h:kf d t f wr w n2 p q m a n x) (hw:zZ d wr) (j:ah d c 27 b):∃ z D,(Instr.mapUpdate 176 (.map (some f)) (.pointer (some ⟨c,0,none⟩)) (.bool true)).run prog wr=.ok () z/\kf d t f z w D p (gL q (.pointer (some ⟨c,0,none⟩)) (.bool true)) m a n x/\ag (fun k=>k=f) wr z:=by
 have B:=@kf.cells _ _ _ _ _ _ _ _ _ _ _ _ h;obtain⟨z,y,A,i⟩:=co (et:=4) ((ie wr).sub (KP':=kY d) fun v ⟨c,o,l,T,e,r⟩=>⟨c,o,l,T,e,(hw.block c (an r)).trans r⟩) (mt:=176) (by kernel_rfl) (k:=.pointer (some ⟨c,0,none⟩)) ⟨c,0,b,_,rfl,j⟩ (.bool true) h.ptr;refine⟨z,_,y,⟨h.ne,h.int.intKept i h.ne,A,i.row h.row fun g C=>?_⟩,i⟩;obtain⟨l,E,e⟩:=Lib.ownsRow_kind h.row g C;exact (B e).2
theorem rJ {α:Type} (l:List α):l=[]\/∃ m x,l=m++[x]:=by
 cases h:l.reverse with
 |nil=>exact .inl (List.reverse_eq_nil_iff.1 h)
 |cons x m=>exact .inr ⟨m.reverse,x,by rw[<-List.reverse_reverse l,h,List.reverse_cons]⟩
theorem cU.inv {P:Nat->Prop} {f:Nat->Option Tm} {w:World} {x:Tm} {cs:List Value} (h:cU P f w x cs):∃ (k v:Int) (s:ByteArray) (n:LN) (args:List Tm) (A B:Value) (Ar:Option Addr) (a:Nat) (e:Nat->List Value),x=.mk k v s n args/\cs=[.int .i64 k,.int .i64 v,.string s,.bool n.neg,A,B,.slice Ar args.length a]/\args.length<=a/\a<=maxLen/\
 (0<args.length->∃ b c,Ar=some ⟨b,0,none⟩/\P b/\f b=some x/\ah w b 27 c/\∀ i,i<args.length->∀ j,j<7->c[i*7+j]?=(e i)[j]?)/\∀ i (h:i<args.length),cU P f w args[i] (e i):=by
 cases h with
 |mk k v s n args A B Ar a cs q y t o p r d l m g=>exact⟨k,v,s,n,args,A,B,Ar,a,cs,rfl,rfl,d,l,m,g⟩
theorem rS {Sn:List Nat} {nm:Nat} (h:Sn.Nodup) (a:∀ u∈Sn,u<nm):Sn.length<=nm:=by
 have:=fV Sn (List.range nm) h fun u b=>List.mem_range.2 (a u b)
 rwa [List.length_range]at this
theorem iI {a b:Int} (h:Tm.var a=Tm.var b):a=b:=by
 unfold Tm.var at h;simp only[Tm.mk.injEq]at h;exact h.2.1
theorem Di.mk' {P:Nat->Prop} {f:Nat->Option Tm} {L:List Tm} {b:Int->Option Tm} {v:Int} {t:Tm} {Bl:List Nat} {nm:Nat} {w:World} {z A:Nat} {wr:World} {y a:Nat} {r:List Value} {S V:List Tm} {gk B n2 N:Nat} {g h:Value->Option Value} {Sn Mt:List Nat} (l:kf w z A wr B n2 g h y a N r) (C:S.length=N) (j:N<=a) (q:qv P f w r S) (p:eA L b v t S V)
 (i:(∀ k x,g k=some x->x=.bool true)/\(∀ k x,h k=some x->x=.bool true)) (m:∀ u:Nat,(g (.int .i64 (u:Int))).isSome=true->Tm.var u∈V) (n:∀ c,(h (.pointer (some ⟨c,0,none⟩))).isSome=true->∃ x∈V,f c=some x)
 (e:(∀ u∈Sn,(g (.int .i64 (u:Int))).isSome=true)/\Sn.Nodup/\(∀ u∈Sn,u<nm)) (d:(∀ c∈Mt,(h (.pointer (some ⟨c,0,none⟩))).isSome=true)/\Mt.Nodup/\(∀ c∈Mt,c∈Bl)) (o:33*((nm-Sn.length)+(Bl.length-Mt.length))+N<=gk):Di P f L b v t Bl nm w z A wr y a r S V gk:=by
 subst C;exact⟨j,l.row,q,p,Sn,Mt,B,n2,g,h,l.int,l.ptr,i.1,i.2,m,e.1,e.2.1,e.2.2,n,d.1,d.2.1,d.2.2,o⟩
theorem kf.fr1 {p:World} {d l m n2 f a n:Nat} {wr z:World} {g i:Value->Option Value} {q:List Value} (h:kf p d l wr m n2 g i f a n q) (j:ag (fun k=>k=d) wr z):aD [none] wr z:=(aD.refl [none] wr).kept j fun k e o c b=>by
 subst e;obtain⟨_,_,e,_⟩:=h.int.is;rw[e]at c;exact b.2 (by simp) _ _ (zI c).symm
theorem kf.fr2 {p:World} {l d m n2 f a n:Nat} {wr z:World} {g i:Value->Option Value} {q:List Value} (h:kf p l d wr m n2 g i f a n q) (j:ag (fun k=>k=d) wr z):aD [none] wr z:=(aD.refl [none] wr).kept j fun k e o c b=>by
 subst e;obtain⟨_,_,e,_⟩:=h.ptr.is;rw[e]at c;exact b.2 (by simp) _ _ (zI c).symm
theorem pP {w:World} {B g n a j:Nat} {e:TypeId} {xs:List Value} (h:w.ownsRow B e j (.slice (some ⟨g,0,none⟩) n a) n xs):n<=a:=by
 obtain⟨l,f|⟨k,b,d,c,m,o,i,p,q,r⟩⟩:=h
 ·cases f.1
 ·simp only[Value.slice.injEq,Option.some.injEq,Addr.mk.injEq,and_true,true_and]at c;obtain⟨rfl,rfl⟩:=c;exact i
theorem kf.grown {k:World} {t i v n2 f b n g a j:Nat} {wr l:World} {m p:Value->Option Value} {y d:List Value} (h:kf k t i wr v n2 m p f b n y) (w:wr.grownBy l (some f)) (x:l.ownsRow k.heap.size 27 7 (.slice (some ⟨g,0,none⟩) j a) j d):kf k t i l v n2 m p g a j d:=by
 obtain⟨z,A,e⟩:=Lib.ownsRow_kind h.row f rfl;have c:=h.cells e;have q:=ag.grown w;refine⟨h.ne,h.int.intKept q (fun e=>c.1 (zI e).symm),h.ptr.same (fun o r=>(q.block i (an r) fun e=>c.2 (zI e).symm).trans r) fun _ h=>h,x⟩
theorem wT {P:Nat->Prop} {f:Nat->Option Tm} {L:List Tm} {Bl:List Nat} {nm Bq h G c m:Nat} {tr:Value} {xs ys:List Value} {b:Int->Option Tm} {v:Nat} (hv:v<nm) (i3:b v=none) {w:World} (hS:dL nm w Bq h G c tr xs m ys) (hB:qm P f w nm xs b) (hU:kg nm L) (hW:kX L b) (hF:∀ c x,f c=some x->c∈Bl) (q5:Bl.length<=1000000) (t9:nm<=1000000) {t:Tm} {cs:List Value} (ht:t∈L) (F:cU P f w t cs):
 Calls prog 112 #[.pointer (some ⟨h,0,none⟩),.int .i64 (v:Int),.agg cs.toArray] w fun e w'=>e=.returned (.bool (df b v t))/\zZ w w':=by
 have r7:=@run_makeMap prog;obtain⟨tk,tv,ts,tn,tA,ta,tc,tB,td,te,tX,tl,tq,rfl⟩:=F.form;have HC:=zH F;have f4:=zH hS;have HB:=zH hB;have HU:=zH hU;have HW:=zH hW;have HF:=zH hF;have l7:=zH i3;have HT:=zH ht;clear F hS hB hU hW hF i3 ht;have h9:zZ w ((((w.alloc (.cells #[.int .i64 tk,.int .i64 tv,.string ts,.bool tn,.slice tA ta tc,.slice tB td te,.slice tX tl tq] 27)).alloc (.map #[] 0)).alloc (.map #[] 0)).alloc (.cells #[.int .i64 tk,.int .i64 tv,.string ts,.bool tn,.slice tA ta tc,.slice tB td te,.slice tX tl tq] 27)):=((ax w _ _).alloc (by simp;omega) _).alloc (by simp;omega) _;have k4:ah ((((w.alloc (.cells #[.int .i64 tk,.int .i64 tv,.string ts,.bool tn,.slice tA ta tc,.slice tB td te,.slice tX tl tq] 27)).alloc (.map #[] 0)).alloc (.map #[] 0)).alloc (.cells #[.int .i64 tk,.int .i64 tv,.string ts,.bool tn,.slice tA ta tc,.slice tB td te,.slice tX tl tq] 27)) (w.heap.size+1+1+1) 27 #[.int .i64 tk,.int .i64 tv,.string ts,.bool tn,.slice tA ta tc,.slice tB td te,.slice tX tl tq]:=by
  have h:=ah.new (((w.alloc (.cells #[.int .i64 tk,.int .i64 tv,.string ts,.bool tn,.slice tA ta tc,.slice tB td te,.slice tX tl tq] 27)).alloc (.map #[] 0)).alloc (.map #[] 0)) 27 #[.int .i64 tk,.int .i64 tv,.string ts,.bool tn,.slice tA ta tc,.slice tB td te,.slice tX tl tq];rw[show (((w.alloc (.cells #[.int .i64 tk,.int .i64 tv,.string ts,.bool tn,.slice tA ta tc,.slice tB td te,.slice tX tl tq] 27)).alloc (.map #[] 0)).alloc (.map #[] 0)).heap.size=w.heap.size+1+1+1 by simp]at h;exact h
 have d2:Yd (Di P f L b v t Bl nm w (w.heap.size+1) (w.heap.size+2) ((((w.alloc (.cells #[.int .i64 tk,.int .i64 tv,.string ts,.bool tn,.slice tA ta tc,.slice tB td te,.slice tX tl tq] 27)).alloc (.map #[] 0)).alloc (.map #[] 0)).alloc (.cells #[.int .i64 tk,.int .i64 tv,.string ts,.bool tn,.slice tA ta tc,.slice tB td te,.slice tX tl tq] 27)) (w.heap.size+1+1+1) 1 (zX tk tv ts tn tA ta tc tB td te tX tl tq) [t] [] (33*(nm+Bl.length)+1)):=by
  refine⟨zN _,⟨rfl,.inr ⟨_,1,_,rfl,by omega,k4,zN _,by decide,rfl,rfl⟩⟩,⟨rfl,fun i hi=>⟨[.int .i64 tk,.int .i64 tv,.string ts,.bool tn,.slice tA ta tc,.slice tB td te,.slice tX tl tq],?_,fun q hq=>?_⟩⟩,.start HT.o,[],[],0,0,_,_,.empty (c:=0) ?_,.empty (c:=0) ?_,fun k x h=>(by cases h),fun k x h=>(by cases h),fun u h=>(by cases h),fun u h=>(by cases h),List.nodup_nil,fun u h=>(by cases h),fun u h=>(by cases h),fun u h=>(by cases h),List.nodup_nil,fun u h=>(by cases h),by simp⟩
  ·have:i=0:=by simp at hi;omega
   subst this;exact HC.o
  ·have:i=0:=by simp at hi;omega
   subst this;rw[Nat.zero_mul,Nat.zero_add]
  ·rw[Lib.alloc_old _ _ _ (by simp),Lib.alloc_old _ _ _ (by simp)];have h:=heap_alloc_new (w.alloc (.cells #[.int .i64 tk,.int .i64 tv,.string ts,.bool tn,.slice tA ta tc,.slice tB td te,.slice tX tl tq] 27)) (.map #[] 0)
   rwa [show (w.alloc (.cells #[.int .i64 tk,.int .i64 tv,.string ts,.bool tn,.slice tA ta tc,.slice tB td te,.slice tX tl tq] 27)).heap.size=w.heap.size+1 by simp]at h
  ·rw[Lib.alloc_old _ _ _ (by simp)];have h:=heap_alloc_new ((w.alloc (.cells #[.int .i64 tk,.int .i64 tv,.string ts,.bool tn,.slice tA ta tc,.slice tB td te,.slice tX tl tq] 27)).alloc (.map #[] 0)) (.map #[] 0)
   rwa [show ((w.alloc (.cells #[.int .i64 tk,.int .i64 tv,.string ts,.bool tn,.slice tA ta tc,.slice tB td te,.slice tX tl tq] 27)).alloc (.map #[] 0)).heap.size=w.heap.size+2 by simp]at h
 have c8:=zH h9;clear h9 k4;go_enter func112,ntmps112;go_wp2_with fail;generalize ((((w.alloc (.cells #[.int .i64 tk,.int .i64 tv,.string ts,.bool tn,.slice tA ta tc,.slice tB td te,.slice tX tl tq] 27)).alloc (.map #[] 0)).alloc (.map #[] 0)).alloc (.cells #[.int .i64 tk,.int .i64 tv,.string ts,.bool tn,.slice tA ta tc,.slice tB td te,.slice tX tl tq] 27))=w3 at d2 c8 ⊢
 go_loopg [9] (33*(nm+Bl.length)+1) (fun gk s9 wr=>∃ (g0 p:Nat) (zs:List Value) (S V:List Tm),s9=.slice (some ⟨g0,0,none⟩) S.length p/\Yd (Di P f L b v t Bl nm w (w.heap.size+1) (w.heap.size+2) wr g0 p zs S V gk)/\Yd (zZ w wr)/\gk<=33*(nm+Bl.length)+1)
 case atStart=>exact⟨_,1,_,[t],[],rfl,d2,c8,zN _⟩
 case round=>
  clear d2 c8;obtain⟨g0,p,zs,S,V,rfl,HL,n,q7⟩:=hrel;rcases rJ S with rfl|⟨S,x,rfl⟩
  ·have HN:Yd (df b v t=false):=ff (HL.o.srch.none l7.o (fun x hx=>(HU.o.1.2 x hx).1));go_wp2_with fail;go_ret;exact⟨by rw[HN.o];rfl,n.o⟩
  ·obtain⟨q6,c4,k7,e9,Sn,Mt,n1,n2,g1,g2,g4,g5,h4,h5,h6,h0,f8,g6,h7,h3,g3,g7,r8⟩:=HL.o;obtain⟨ys,cx,rfl,k6,e0⟩:=k7.last;obtain⟨xk,xv,I,xn,xA,xa,xc,xB,xd,xe,xX,xl,xq,rfl⟩:=e0.form;have k8:=(e9.stk x (by simp)).1;have e5:(S++[x]).length=S.length+1:=by simp
   generalize (S++[x]).length=N1 at*;obtain⟨N,hN⟩:∃ N,S.length=N:=⟨_,rfl⟩;rw[hN]at e5;have E:=zH hN;clear hN;have p7:=c4.cellAt (N*7);have e8:=r9 e5.symm c4 rfl;have q4:ys.length=N*7:=e8.1;have D:Yd (∀ q,q<7->wr.cell? ⟨g0,N*7+q,none⟩=[Value.int .i64 xk,.int .i64 xv,.string I,.bool xn,.slice xA xa xc,.slice xB xd xe,.slice xX xl xq][q]?):=fun q hq=>by
    rw[c4.cellAt _ (by rw[e5,Nat.succ_mul];omega),List.getElem?_append_right (by omega)]
    congr 1
    omega
   have a3:=zH e9;have HM:Yd (kf w (w.heap.size+1) (w.heap.size+2) wr n1 n2 g1 g2 g0 p N ys):=⟨by omega,g4,g5,e8⟩;have b2:=zH k6;have m1:=zH e0;have d6:=zH k8;have M:Yd ((∀ k x,g1 k=some x->x=.bool true)/\(∀ k x,g2 k=some x->x=.bool true)):=⟨h4,h5⟩;have a6:=zH h6;have a7:=zH h7;have X:Yd ((∀ u∈Sn,(g1 (.int .i64 (u:Int))).isSome=true)/\Sn.Nodup/\(∀ u∈Sn,u<nm)):=⟨h0,f8,g6⟩;have U:Yd ((∀ c∈Mt,(g2 (.pointer (some ⟨c,0,none⟩))).isSome=true)/\Mt.Nodup/\(∀ c∈Mt,c∈Bl)):=⟨h3,g3,g7⟩;clear c4 k7 e9 g4 g5 h4 h5 h6 h0 f8 g6 h7 h3 g3 g7 k6 e0 k8 p7 e8 q4 HL;have o3:=D.o 0 (by omega);have o4:=D.o 1 (by omega);have o5:=D.o 2 (by omega);have o6:=D.o 3 (by omega);have o7:=D.o 4 (by omega);have o8:=D.o 5 (by omega);have o9:=D.o 6 (by omega);simp only[List.getElem?_cons_zero,List.getElem?_cons_succ,Nat.add_zero]at o3 o4 o5 o6 o7 o8 o9;clear D;have t7:(0:Int)<(N1:Int):=by omega
   have q8:IntKind.i64.wrap ((N1:Int)-1)=(N:Int):=by rw[IntWalk.i64_in _ (by omega)];omega
   have q9:(0:Int)<=(N:Int):=by omega
   have r0:(N:Int)<(N1:Int):=by omega
   have r1:(N:Int)<=(p:Int):=by omega
   have a4:=zH (ah.new wr 27 #[.int .i64 xk,.int .i64 xv,.string I,.bool xn,.slice xA xa xc,.slice xB xd xe,.slice xX xl xq]);have a1:=zH (ae wr (.cells #[.int .i64 xk,.int .i64 xv,.string I,.bool xn,.slice xA xa xc,.slice xB xd xe,.slice xX xl xq] 27));obtain⟨k_,v_,s_,n_,d,A_,B_,Ar,cp,cx,l2,j0,p3,p4,l1,k9⟩:=m1.o.inv;simp only[List.cons.injEq,Value.int.injEq,Value.string.injEq,Value.slice.injEq,true_and,and_true]at j0;obtain⟨rfl,rfl,rfl,p8,p9,q0,rfl,l0,q3⟩:=j0;have n7:=zH l0;clear l0 q3 p8 p9 q0;have Y:=zH l2;have n8:=zH l1;have f6:=zH k9;have j3:=(HU.o.1.2 _ d6.o).1;have b4:=zH j3;clear l2 l1 k9 j3 p3 p4;by_cases e3:xk=1
   ·subst e3;have f0:x=.var xv:=by rw[Y.o];have h:=b4.o;rw[Y.o]at h;exact aK h rfl
    have k5:=HU.o.2 _ d6.o xv f0;obtain⟨i,hi⟩:=Int.eq_ofNat_of_zero_le k5.1;subst hi;have j5:i<nm:=by omega
    have O:=zH f0;clear f0 k5;have d4:=zH (f4.o.below (n.o.trans (a1.o.mono n.o.size)));have b0:=d4.o.blk.cell 0;have t0:=a4.o.cell 0;have t1:=a4.o.cell 1;simp only[L3]at b0 t0 t1;have r2:(0:Int)<=(i:Int):=by omega
    have r3:(i:Int)<(nm:Int):=by omega
    rcases HB.o.cell i j5 with ⟨j2,b3⟩|⟨y,cy,i1,e1,b3⟩
    ·have g9:(wr.alloc (.cells #[.int .i64 1,.int .i64 (i:Int),.string I,.bool xn,.slice xA xa xc,.slice xB xd xe,.slice xX xl xq] 27)).cell? ⟨G,i*9,none⟩=some (.bool false):=d4.o.cell (by have:=b3 0 (by omega);rw[Nat.add_zero]at this;exact this);have m2:=zH j2;clear j2 b3;go_wp2_with fail
     go_quiet (fail)
     generalize b1:World.drewN _ _=y0;have Z:Yd (zZ wr y0):=by rw[<-b1];exact aN a1.o _
     have a5:Yd (ah y0 wr.heap.size 27 (zX 1 (i:Int) I xn xA xa xc xB xd xe xX xl xq).toArray):=by rw[<-b1];exact a4.o
     clear b1 b0 t0 t1 g9;have t1:=a5.o.cell 1;simp only[L3]at t1;by_cases p6:i=v
     ·subst p6;have m8:Yd (df b (i:Int) t=true):=eS ((a3.o.stk x (by simp)).2 (by rw[O.o];exact .here (kT _)));go_wp2_with fail;go_ret;exact⟨by rw[m8.o];rfl,n.o.trans (Z.o.mono n.o.size)⟩
     ·have t8:((i:Int)==(v:Int))=false:=zL (by omega);have a2:Yd (eA L b v t S (x::V)):=by
       have h:=a3.o.step (N:=[]) ⟨fun u e=>⟨fun _=>?_,fun y hy=>?_⟩,fun hn=>absurd O.o (hn _)⟩ fun y hy=>by cases hy
       ·rw[List.append_nil]at h;exact h
       ·have:=iI (O.o.symm.trans e);omega
       ·have:=iI (O.o.symm.trans e);subst this;rw[m2.o]at hy;cases hy
      go_wp2_with fail
      go_roundg (gk-1)
      case measure=>omega
      case rel=>exact⟨g0,p,ys,S,x::V,by rw[E.o],.mk' (HM.o.below Z.o) E.o (by omega) b2.o a2.o M.o (fun u Q=>List.mem_cons_of_mem _ (a6.o u Q)) (fun c F=>by obtain⟨z,J,h2⟩:=a7.o c F;exact⟨z,List.mem_cons_of_mem _ J,h2⟩) X.o U.o (by omega),n.o.trans (Z.o.mono n.o.size),by omega⟩
    ·have g9:(wr.alloc (.cells #[.int .i64 1,.int .i64 (i:Int),.string I,.bool xn,.slice xA xa xc,.slice xB xd xe,.slice xX xl xq] 27)).cell? ⟨G,i*9,none⟩=some (.bool true):=d4.o.cell (by have:=b3 0 (by omega);rw[Nat.add_zero]at this;exact this);obtain⟨yk,yv,A,yn,yA,ya,yc,yB,yd,ye,yX,yl,yq,rfl⟩:=e1.form;have c0:=zH i1;have f1:=zH e1;have D:=zH b3;clear i1 e1 b3;go_wp2_with fail
     go_quiet (fail)
     generalize b1:World.drewN _ _=y0;have Z:Yd (zZ wr y0):=by rw[<-b1];exact aN a1.o _
     have a5:Yd (ah y0 wr.heap.size 27 (zX 1 (i:Int) I xn xA xa xc xB xd xe xX xl xq).toArray):=by rw[<-b1];exact a4.o
     clear b1 b0 t0 t1 g9;have t1:=a5.o.cell 1;simp only[L3]at t1;have l:=(bI (bW y0) (mt:=89) (by kernel_rfl) (z:=.bool false) (zeroValue4 y0) (k:=.int .i64 (i:Int)) ⟨_,rfl⟩ (HM.o.below Z.o).int).2;cases hgi:g1 (.int .i64 (i:Int)) with
     |some val=>
      obtain rfl:=M.o.1 _ _ hgi;rw[hgi]at l;simp only[Option.getD_some]at l;have a2:Yd (eA L b v t S (x::V)):=by
       have h:=a3.o.again (by rw[O.o];exact a6.o i (by rw[hgi];rfl));rw[List.append_nil]at h;exact h
      go_wp2_with fail
      go_roundg (gk-1)
      case measure=>omega
      case rel=>exact⟨g0,p,ys,S,x::V,by rw[E.o],.mk' (HM.o.below Z.o) E.o (by omega) b2.o a2.o M.o (fun u Q=>List.mem_cons_of_mem _ (a6.o u Q)) (fun c F=>by obtain⟨z,J,h2⟩:=a7.o c F;exact⟨z,List.mem_cons_of_mem _ J,h2⟩) X.o U.o (by omega),n.o.trans (Z.o.mono n.o.size),by omega⟩
     |none=>
      rw[hgi]at l;simp only[Option.getD_none]at l;obtain⟨z,n',k3,b6,a9⟩:=(HM.o.below Z.o).put1 (i:Int);have b5:=zH b6;have c1:Yd (aD [none] y0 z):=(HM.o.below Z.o).fr1 a9;have c2:Yd (ah z wr.heap.size 27 (zX 1 (i:Int) I xn xA xa xc xB xd xe xX xl xq).toArray):=a5.o.frT c1.o (by simp);have a0:Yd (zZ w z):=n.o.trans ((Z.o.mono n.o.size).trans (a9.below (zC n.o.size Z.o.size) fun k e=>by omega));have l6:=c2.o.cell 1;simp only[L3]at l6;clear b6 a9;go_wp2_with fail;have n4:=zH ((f4.o.below (n.o.trans (Z.o.mono n.o.size))).frT c1.o (by simp) (by simp) (by simp));have a8:Yd (∀ q u,[Value.int .i64 yk,.int .i64 yv,.string A,.bool yn,.slice yA ya yc,.slice yB yd ye,.slice yX yl yq][q]?=some u->xs[i*9+(q+1)]?=some u):=fun q u hq=>by
       have q1:q<7:=(zK hq).1;rw[D.o (q+1) (by omega)];unfold iP;rw[List.getElem?_cons_succ,List.getElem?_append_left (by simpa using q1)];exact hq
      have f5:Yd (∀ W,zZ z W->(W.cell? ⟨h,0,none⟩=some (.slice (some ⟨G,0,none⟩) nm c)/\W.cell? ⟨wr.heap.size,1,none⟩=some (.int .i64 (i:Int))/\W.cell? ⟨G,i*9+1,none⟩=some (.int .i64 yk)/\W.cell? ⟨G,i*9+2,none⟩=some (.int .i64 yv)/\W.cell? ⟨G,i*9+3,none⟩=some (.string A)/\W.cell? ⟨G,i*9+4,none⟩=some (.bool yn)/\W.cell? ⟨G,i*9+5,none⟩=some (.slice yA ya yc)/\W.cell? ⟨G,i*9+6,none⟩=some (.slice yB yd ye)/\W.cell? ⟨G,i*9+7,none⟩=some (.slice yX yl yq))):=fun W hb=>by
       have J:=n4.o.below hb;exact⟨J.blk.cell 0,(c2.o.to hb).cell 1,J.cell (a8.o 0 _ rfl),J.cell (a8.o 1 _ rfl),J.cell (a8.o 2 _ rfl),J.cell (a8.o 3 _ rfl),J.cell (a8.o 4 _ rfl),J.cell (a8.o 5 _ rfl),J.cell (a8.o 6 _ rfl)⟩
      have i2:=(Below.refl z.heap.size z).drew;have d8:=(ae z (.cells #[.int .i64 yk,.int .i64 yv,.string A,.bool yn,.slice yA ya yc,.slice yB yd ye,.slice yX yl yq] 27)).drew;have v0:=f5.o _ i2;have v1:=f5.o _ d8;have m5:Yd (∀ j u,[Value.int .i64 yk,.int .i64 yv,.string A,.bool yn,.slice yA ya yc,.slice yB yd ye,.slice yX yl yq][j]?=some u->(z.alloc (.cells #[.int .i64 yk,.int .i64 yv,.string A,.bool yn,.slice yA ya yc,.slice yB yd ye,.slice yX yl yq] 27)).drew.cell? ((⟨z.heap.size,0,none⟩:Addr).add j)=some u):=World.news_of_block (cs:=#[.int .i64 yk,.int .i64 yv,.string A,.bool yn,.slice yA ya yc,.slice yB yd ye,.slice yX yl yq]) (ah.new z 27 #[.int .i64 yk,.int .i64 yv,.string A,.bool yn,.slice yA ya yc,.slice yB yd ye,.slice yX yl yq]).drew;have n0:Yd (∀ u∈[Value.int .i64 yk,.int .i64 yv,.string A,.bool yn,.slice yA ya yc,.slice yB yd ye,.slice yX yl yq],u.oneCell'=true):=TC.one f1.o.tc;have d3:=zH ((b5.o.below (ae z (.cells #[.int .i64 yk,.int .i64 yv,.string A,.bool yn,.slice yA ya yc,.slice yB yd ye,.slice yX yl yq] 27))).drew);have c7:Yd (zZ w (z.alloc (.cells #[.int .i64 yk,.int .i64 yv,.string A,.bool yn,.slice yA ya yc,.slice yB yd ye,.slice yX yl yq] 27)).drew):=a0.o.trans (d8.mono a0.o.size);have d1:Yd (∀ (g B:Nat) (w1:World),kf w (w.heap.size+1) (w.heap.size+2) w1 n' n2 (gL g1 (.int .i64 (i:Int)) (.bool true)) g2 g B (N+1) (ys++[Value.int .i64 yk,.int .i64 yv,.string A,.bool yn,.slice yA ya yc,.slice yB yd ye,.slice yX yl yq])->Di P f L b v t Bl nm w (w.heap.size+1) (w.heap.size+2) w1 g B (ys++[Value.int .i64 yk,.int .i64 yv,.string A,.bool yn,.slice yA ya yc,.slice yB yd ye,.slice yX yl yq]) (S++[y]) (x::V) (gk-1)):=fun g B w1 hm=>by
       have e7:i∉Sn:=fun hm=>by have:=X.o.1 i hm;rw[hgi]at this;cases this
       have c3:∀ u∈i::Sn,u<nm:=fun u Q=>by
        rcases List.mem_cons.1 Q with rfl|Q
        ·exact j5
        ·exact X.o.2.2 u Q
       have b7:(i::Sn).Nodup:=List.nodup_cons.2 ⟨e7,X.o.2.1⟩;have e6:=rS b7 c3;rw[zV]at e6;refine .mk' (Sn:=i::Sn) (Mt:=Mt) hm (by simp[E.o]) (pP hm.row) ?_ ?_ ⟨kc M.o.1,M.o.2⟩ (fun u Q=>?_) (fun c F=>by obtain⟨z,J,h2⟩:=a7.o c F;exact⟨z,List.mem_cons_of_mem _ J,h2⟩) ⟨fun u Q=>?_,b7,c3⟩ U.o (by rw[zV];omega)
       ·have h:=b2.o.more (N:=[y]) (cs:=fun _=>[Value.int .i64 yk,.int .i64 yv,.string A,.bool yn,.slice yA ya yc,.slice yB yd ye,.slice yX yl yq]) (fun j hj=>by
         have:j=0:=by simp at hj;omega
         subst this;exact f1.o)
        simpa[bP] using h
       ·refine a3.o.step (N:=[y]) ⟨fun u e=>⟨fun hn=>?_,fun y' b8=>?_⟩,fun hn=>absurd O.o (hn _)⟩ fun y' b8=>?_
        ·have:=iI (O.o.symm.trans e);subst this;rw[c0.o]at hn;cases hn
        ·have:=iI (O.o.symm.trans e);subst this;rw[c0.o]at b8;cases b8;exact .inr (.inr (.inr (by simp)))
        ·rw[List.mem_singleton]at b8;subst b8;exact⟨(HW.o _ _ c0.o).1,fun ho=>by rw[O.o];exact .there (kT _) c0.o ho⟩
       ·by_cases e:u=i
        ·subst e;rw[<-O.o];simp
        ·rw[jz (by simp;omega)]at Q;exact List.mem_cons_of_mem _ (a6.o u Q)
       ·rcases List.mem_cons.1 Q with rfl|Q
        ·rw[gi];rfl
        ·exact j9 (X.o.1 u Q)
      obtain⟨i0,j4,l3,l4,l5⟩:=info_parts dR;have m3:=zH j4;have n9:=zH l3;have o0:=zH l4;have o1:=zH l5;clear j4 l3 l4 l5 i2 d8 t1 l6 l k3;have f2:=zH hgi;clear hgi
      go_region_law (refine step_append_lies _ rfl _ _ 25 rfl w.heap.size 27 i0 (.agg zt.toArray) 7 112 underlying25 m3.o n9.o o0.o o1.o rfl (by decide) (.slice (some ⟨g0,0,none⟩) N p) N ys rfl d3.o.row ⟨z.heap.size,0,none⟩ 1 1 [Value.int .i64 yk,.int .i64 yv,.string A,.bool yn,.slice yA ya yc,.slice yB yd ye,.slice yX yl yq] rfl rfl m5.o n0.o (by decide) (by unfold maxLen;omega) (by omega) c7.o.size _ rfl ?_;intro g B w1 C r p2 c3;have m4:=zH (d3.o.grown r C);have c9:Yd (zZ w w1):=c7.o.grown r c7.o.size (fun k hk=>(d3.o.row.lt k hk).1);clear C r p2 c3)
      all_goals
       go_wp2_with fail
       go_roundg (gk-1)
       case measure=>omega
       case rel=>exact⟨g,B,_,S++[y],x::V,by simp[E.o],d1.o g B w1 m4.o,c9.o,by omega⟩
   ·by_cases j6:xk=5
    ·subst j6;have e4:0<d.length:=by
      have h:=b4.o;rw[Y.o,Tm.fine]at h;rcases al h.2.1 with ⟨h,_⟩|⟨_,_,_,_,h|h|h|h⟩<;>omega
     have r6:d.length<=32:=by
      have h:=b4.o;rw[Y.o,Tm.fine]at h;rcases al h.2.1 with ⟨_,_,_,_,h⟩|⟨_,_,_,_,h|h|h|h⟩<;>omega
     obtain⟨ab,o2,p1,p0,j1,h8,i4⟩:=n8.o e4;subst p1;have k1:∀ u,x≠.var u:=fun u e=>by rw[Y.o]at e;exact absurd (aS e).1 (by decide)
     have f3:=zH k1;have d0:=zH j1;have c6:=zH h8;have D:=zH i4;have q2:=n7.o;subst q2;have c5:Yd (x.args=d):=by rw[Y.o];rfl
     clear p0 j1 h8 i4 k1;obtain⟨t0,t1,t2,t3,t4,t5,t6⟩:=a4.o.s7;go_wp2_with fail;refine (fD 5 xv I xn xA xa xc xB xd xe ab 0 d.length xq e4 _).mono ?_;rintro e y0 ⟨rfl,hb⟩;have Z:Yd (zZ wr y0):=a1.o.trans (hb.mono a1.o.size);have a5:=zH (a4.o.to hb);clear hb t0 t1 t2 t3 t4 t5 t6;have l:=(bI ((ie y0).sub (KP':=kY w) fun v ⟨c,o,cs,T,e,hq⟩=>⟨c,o,cs,T,e,((n.o.trans (Z.o.mono n.o.size)).block c (an hq)).trans hq⟩) (mt:=176) (by kernel_rfl) (z:=.bool false) (zeroValue4 y0) (k:=.pointer (some ⟨ab,0,none⟩)) ⟨ab,0,o2,_,rfl,c6.o⟩ (HM.o.below Z.o).ptr).2;cases hgi:g2 (.pointer (some ⟨ab,0,none⟩)) with
     |some val=>
      obtain rfl:=M.o.2 _ _ hgi;rw[hgi]at l;simp only[Option.getD_some]at l;have a2:Yd (eA L b v t S (x::V)):=by
       obtain⟨z,J,h2⟩:=a7.o ab (by rw[hgi];rfl);rw[d0.o]at h2;cases h2;have h:=a3.o.again J;rw[List.append_nil]at h;exact h
      go_wp2_with fail
      go_roundg (gk-1)
      case measure=>omega
      case rel=>exact⟨g0,p,ys,S,x::V,by rw[E.o],.mk' (HM.o.below Z.o) E.o (by omega) b2.o a2.o M.o (fun u Q=>List.mem_cons_of_mem _ (a6.o u Q)) (fun c F=>by obtain⟨z,J,h2⟩:=a7.o c F;exact⟨z,List.mem_cons_of_mem _ J,h2⟩) X.o U.o (by omega),n.o.trans (Z.o.mono n.o.size),by omega⟩
     |none=>
      rw[hgi]at l;simp only[Option.getD_none]at l;obtain⟨t0,t1,t2,t3,t4,t5,t6⟩:=a5.o.s7;have f2:=zH hgi;clear hgi;go_wp2_with fail;refine (fD 5 xv I xn xA xa xc xB xd xe ab 0 d.length xq e4 _).mono ?_;rintro e y1 ⟨rfl,hb⟩;have d7:Yd (zZ wr y1):=Z.o.trans (hb.mono Z.o.size);have n6:=zH (a5.o.to hb);have d5:Yd (zZ w y1):=n.o.trans (d7.o.mono n.o.size);clear hb t0 t1 t2 t3 t4 t5 t6 l;obtain⟨z,n',k3,b6,a9⟩:=(HM.o.below d7.o).put2 d5.o c6.o;have b5:=zH b6;have c1:Yd (aD [none] y1 z):=(HM.o.below d7.o).fr2 a9;have c2:Yd (ah z wr.heap.size 27 (zX 5 xv I xn xA xa xc xB xd xe (some ⟨ab,0,none⟩) d.length xq).toArray):=n6.o.frT c1.o (by simp);have a0:Yd (zZ w z):=d5.o.trans (a9.below d5.o.size fun k e=>by omega);have t4:=c2.o.cell 6;simp only[L3]at t4;have n3:Yd (0<d.length->∃ b o,(some ⟨ab,0,none⟩:Option Addr)=some ⟨b,o,none⟩/\b<z.heap.size/\∀ i,i<d.length->∀ j,j<7->z.cell? ⟨b,o+i*7+j,none⟩=(cx i)[j]?):=fun _=>by
       have h:=c6.o.to a0.o;exact⟨ab,0,rfl,h.lt,fun i hi j hj=>by rw[h.cell,Nat.zero_add];exact D.o i hi j hj⟩
      have n5:Yd (∀ i (h:i<d.length),TC z d[i] (cx i)):=fun i h=>(f6.o i h).tc.to a0.o;have l8:Yd (N<=p):=by show N<=p;omega
      have d1:Yd (∀ gv w1,w1.ownsRow w.heap.size 27 7 gv (N+d.length) (ys++bP cx d.length)->z.grownBy w1 (some g0)->∃ g B,gv=.slice (some ⟨g,0,none⟩) (N+d.length) B/\Di P f L b v t Bl nm w (w.heap.size+1) (w.heap.size+2) w1 g B (ys++bP cx d.length) (S++d) (x::V) (gk-1)/\zZ w w1):=fun gv w1 C r=>by
       obtain⟨g,B,rfl⟩:=Joins.ownsRow_form C (by omega);have hm:=b5.o.grown r C;have e7:ab∉Mt:=fun hm=>by have:=U.o.1 ab hm;rw[f2.o]at this;cases this
       have j7:∀ c∈ab::Mt,c∈Bl:=fun c F=>by
        rcases List.mem_cons.1 F with rfl|F
        ·exact HF.o _ _ d0.o
        ·exact U.o.2.2 c F
       have b7:(ab::Mt).Nodup:=List.nodup_cons.2 ⟨e7,U.o.2.1⟩;have e6:=fV _ _ b7 j7;rw[zV]at e6;refine⟨g,B,rfl,.mk' (Sn:=Sn) (Mt:=ab::Mt) hm (by simp[E.o]) (pP hm.row) (b2.o.more f6.o) ?_ ⟨M.o.1,kc M.o.2⟩ (fun u Q=>List.mem_cons_of_mem _ (a6.o u Q)) (fun c F=>?_) X.o ⟨fun c F=>?_,b7,j7⟩ (by rw[zV];omega),a0.o.grown r a0.o.size (fun k hk=>(b5.o.row.lt k hk).1)⟩
       ·exact a3.o.step (N:=d) ⟨fun u e=>absurd e (f3.o u),fun hn a ha=>.inr (.inr (.inr (by rw[<-c5.o];exact ha)))⟩ fun a ha=>⟨(HU.o.1.2 x d6.o).2.2 a (by rw[c5.o];exact ha),eB.arg f3.o (x.cn_fine b4.o) (by rw[c5.o];exact ha)⟩
       ·by_cases e:c=ab
        ·subst e;exact⟨x,by simp,d0.o⟩
        ·rw[jz (by intro e2;cases e2;exact e rfl)]at F;obtain⟨z,J,h2⟩:=a7.o c F;exact⟨z,List.mem_cons_of_mem _ J,h2⟩
       ·rcases List.mem_cons.1 F with rfl|F
        ·rw[gi];rfl
        ·exact j9 (U.o.1 c F)
      clear b6 a9
      go_wp2_with (at_builtin;refine iM _ rfl _ _ rfl w.heap.size g0 p N ys rfl l8.o b5.o.row (some ⟨ab,0,none⟩) d.length xq d cx rfl rfl n3.o n5.o (by unfold maxLen;omega) (by omega) a0.o.size ?_;intro gv w1 C r;obtain⟨g,B,p5,g8,f7⟩:=d1.o gv w1 C r;subst p5;have m7:=zH g8;have c9:=zH f7;clear C r g8 f7)
      go_roundg (gk-1)
      case measure=>omega
      case rel=>exact⟨g,B,_,S++d,x::V,by rw[zE,E.o],m7.o,c9.o,by omega⟩
    ·have r4:(xk==1)=false:=zL e3;have r5:(xk==5)=false:=zL j6;have k0:d=[]:=by
      have h:=b4.o;rw[Y.o,Tm.fine]at h;refine zF ?_;rcases al h.2.1 with ⟨_,_,_,_,h⟩|⟨_,_,_,_,h|h|h|h⟩<;>omega
     have a2:Yd (eA L b v t S (x::V)):=by
      have h:=a3.o.step (N:=[]) ⟨fun u e=>by rw[Y.o]at e;exact absurd (aS e).1 e3,fun hn a ha=>by rw[Y.o,k0]at ha;cases ha⟩ fun y hy=>by cases hy
      rw[List.append_nil]at h;exact h
     have t0:=a4.o.cell 0;simp only[L3]at t0;clear k0;go_wp2_with fail
     go_roundg (gk-1)
     case measure=>omega
     case rel=>exact⟨g0,p,ys,S,x::V,by rw[E.o],.mk' (HM.o.below a1.o) E.o (by omega) b2.o a2.o M.o (fun u Q=>List.mem_cons_of_mem _ (a6.o u Q)) (fun c F=>by obtain⟨z,J,h2⟩:=a7.o c F;exact⟨z,List.mem_cons_of_mem _ J,h2⟩) X.o U.o (by omega),n.o.trans (a1.o.mono n.o.size),by omega⟩
theorem sP {i:Int} (h:aG i):(Lit.int .i64 i).wf=true:=by
 unfold aG at h;exact WalkArith.wf_i64 (by omega)
theorem j8:prog.underlying 134=some (.array 2 3):=by kernel_rfl
theorem nw:prog.cellsOf 134=2:=by kernel_rfl
theorem vW:prog.cellsOf 3=1:=by kernel_rfl
theorem rE (d:Nat) {i:Int} (h:aG i):prog.keyLits (d+1) 3 [.int .i64 i]=some [.int .i64 i]:=by
 unfold Program.keyLits;rw[underlying3];simp[sP h]
theorem zk (d:Nat) {i j:Int} (a:aG i) (b:aG j):prog.keyLits (d+2) 134 [.int .i64 i,.int .i64 j]=some [.int .i64 i,.int .i64 j]:=by
 rw[show d+2=(d+1)+1 from rfl];unfold Program.keyLits;rw[j8];simp only[nw,vW];simp[List.range_succ,rE d a,rE d b]
theorem pD {i j:Int} (c:aG i) (d:aG j):iL (.agg #[.int .i64 i,.int .i64 j]):=by
 refine⟨⟨i,j,rfl⟩,?_⟩;have f:prog.types.size=(prog.types.size-1)+1:=by
  have:decide (0<prog.types.size)=true:=by kernel_rfl
  have:=of_decide_eq_true this;omega
 have e:prog.keyType 134=true:=by kernel_rfl
 have b:(Value.agg #[.int .i64 i,.int .i64 j]).formed prog 134=true:=by
  unfold Value.formed;simp[j8,nw]
 have a:=zk (prog.types.size-1) c d;rw[show prog.types.size-1+2=prog.types.size+1 by omega]at a;unfold keyOf;rw[j8];simp only[e,b,Bool.and_self,if_true];exact⟨_,by rw[show (Value.agg #[.int .i64 i,.int .i64 j]).cells.toList=[.int .i64 i,.int .i64 j] from rfl,a];rfl⟩
def PT (ts:List (Option TypeId)) (W0:World) (b:Nat):Prop:=∃ o,W0.heap[b]?=some o/\eE ts o
theorem PT.lt {ts:List (Option TypeId)} {a:World} {b:Nat} (h:PT ts a b):b<a.heap.size:=by
 obtain⟨o,h,_⟩:=h;exact an h
theorem PT.stay {ts:List (Option TypeId)} {a w W:World} (h:cT (PT ts a) a w) (i:aD ts w W) (j:w.heap.size<=W.heap.size):cT (PT ts a) a W:=by
 refine⟨zC h.1 j,fun b g d=>?_⟩;obtain⟨o,c,e⟩:=g;have f:=(h.2 b ⟨o,c,e⟩ d).trans c;exact (i b o f e).trans c.symm
theorem cT.of_fr {ts:List (Option TypeId)} {a w w':World} (h:cT (PT ts a) a w) (e:aD ts w w') (i:w.heap.size<=w'.heap.size):cT (PT ts a) w w':=⟨i,fun k f g=>by
 obtain⟨o,b,c⟩:=f;have d:=(h.2 k ⟨o,b,c⟩ (an b)).trans b;exact (e k o d c).trans d.symm⟩
theorem iK.of_own_pt {ts:List (Option TypeId)} {B:Nat} {w:World} {v:Value} {xs:List Nat} (h:aW .u32 82 w B v xs) (j:some 82∉ts):iK (PT ts w) w v xs:=by
 obtain⟨A,c,e,f,g,_,i⟩:=h.sl;refine⟨A,c,e,f,g,fun d=>?_⟩;obtain⟨b,o,a,k,l⟩:=i d;subst e a;obtain⟨n,p,m⟩:=Lib.ownsRow_kind h b rfl;exact⟨b,o,rfl,⟨_,m,eE.cells j⟩,k,l⟩
theorem cU.of_tcn_pt {ts:List (Option TypeId)} {f:Nat->Option Tm} {B:Nat} {w:World} {t:Tm} {cs:List Value} (h:mN f B w t cs) (m:some 82∉ts) (q:some 27∉ts):cU (PT ts w) f w t cs:=by
 induction h with
 |mk k v s n c A C o l cs F N M r x J d I L Q O=>
  refine .mk k v s n c A C o l cs F N M (.of_own_pt r m) (.of_own_pt x m) J d I (fun p=>?_) O;obtain⟨b,e,P,G,z,⟨g,a⟩,y⟩:=L p;exact⟨b,g,e,⟨_,a,eE.cells q⟩,z,a,fun i D j E=>by rw[<-y i D j E,a.cell,Nat.zero_add]⟩
theorem Bf {Q:Nat->List Nat->Prop}:∀ (args:List Tm),(∀ i (h:i<args.length),∃ Bl:List Nat,Bl.length<=(args[i]).count/\Q i Bl)->∃ Bl:List Nat,Bl.length<=am args/\∀ i,i<args.length->∃ a,(∀ b∈a,b∈Bl)/\Q i a:=by
 intro args
 induction args generalizing Q with
 |nil=>intro _;exact⟨[],Nat.zero_le _,fun i c=>absurd c (by simp)⟩
 |cons t l p=>
  intro h;obtain⟨e,j,k⟩:=h 0 (by simp);obtain⟨g,q,m⟩:=p (Q:=fun i=>Q (i+1)) fun i c=>h (i+1) (by simpa using c);refine⟨e++g,by rw[zE,am];simp only[List.getElem_cons_zero]at j;omega,fun i c=>?_⟩;cases i with
  |zero=>exact⟨e,fun b d=>by simp[d],k⟩
  |succ i=>
   obtain⟨f,n,o⟩:=m i (by simpa using c);exact⟨f,fun b d=>by simp[n b d],o⟩
theorem mN.blocks {f:Nat->Option Tm} {B:Nat} {w:World} {t:Tm} {cs:List Value} (h:mN f B w t cs):∃ Bl:List Nat,Bl.length<=t.count/\∀ g:Nat->Option Tm,(∀ b∈Bl,g b=f b)->mN g B w t cs:=by
 induction h with
 |mk k v s n a A C r j cs E J I z D G d F S V T=>
  obtain⟨Bl,y,m⟩:=Bf (Q:=fun i Bl=>∀ (h:i<a.length) (g:Nat->Option Tm),(∀ b∈Bl,g b=f b)->mN g B w a[i] (cs i)) a fun i l=>by
   obtain⟨Bl,y,m⟩:=T i l;exact⟨Bl,y,fun _=>m⟩
  by_cases x:0<a.length
  ·obtain⟨b,e,N,q,O,P,o⟩:=S x;refine⟨b::Bl,by rw[zV,Tm.count];omega,fun g p=>?_⟩;refine .mk k v s n a A C r j cs E J I z D G d F (fun _=>⟨b,e,N,q,(p b (by simp)).trans O,P,o⟩) fun i l=>?_;obtain⟨U,L,M⟩:=m i l;exact M l g fun c o=>p c (by simp[L c o])
  ·refine⟨[],Nat.zero_le _,fun g p=>.mk k v s n a A C r j cs E J I z D G d F (fun h=>absurd h x) fun i l=>by omega⟩
def lz (f:Nat->Option Tm) (Bl:List Nat):Nat->Option Tm:=fun b=>if b∈Bl then f b else none
theorem qL {f:Nat->Option Tm} {Bl:List Nat} {b:Nat} {x:Tm} (h:lz f Bl b=some x):b∈Bl:=by
 unfold lz at h;by_cases a:b∈Bl
 ·exact a
 ·rw[if_neg a]at h;cases h
def oP (B:Nat) (f:Nat->Option Tm) (L:List Tm) (w:World) (N M:Value) (Mt:List (Tm×Tm)):Prop:=
 (N=.pointer none/\M=.map none/\Mt=[])\/∃ (p m1 m2 md:Nat) (Ts:List Tm) (n:Nat) (g:Value->Option Value),N=.pointer (some ⟨p,0,none⟩)/\M=.map (some md)/\(B<=m1/\B<=m2/\B<=md)/\¬KN m1 m2 md/\aB f L w p m1 m2 Ts/\aE iL w md n g/\(∀ k x,g k=some x->x=.bool true)/\
  (∀ i j:Nat,(g (.agg #[.int .i64 (i:Int),.int .i64 (j:Int)])).isSome=true->∃ x y,Ts[i]?=some x/\Ts[j]?=some y/\(x,y)∈Mt)/\
  ∀ x y,(x,y)∈Mt->∃ i j:Nat,Ts[i]?=some x/\Ts[j]?=some y/\(g (.agg #[.int .i64 (i:Int),.int .i64 (j:Int)])).isSome=true
theorem aB.frT {ts:List (Option TypeId)} {f:Nat->Option Tm} {L:List Tm} {w w':World} {p j k:Nat} {Ts:List Tm} (D:aB f L w p j k Ts) (h:aD ts w w') (i:none∉ts) (A:some 186∉ts) (B:some 27∉ts):aB f L w' p j k Ts:=by
 obtain⟨l,m,⟨n,g,c,q⟩,⟨z,d,r⟩,t,x⟩:=D;refine⟨l,m.frT h A,⟨n,g,c.same (fun o a=>?_) ?_,q⟩,⟨z,d.same (fun o a=>?_) (fun v h=>h),r⟩,t,x⟩
 ·obtain⟨_,_,e,_⟩:=c.is;rw[e]at a;cases a;exact h _ _ e (eE.map i)
 ·rintro v ⟨b,o,y,e,C⟩;exact⟨b,o,y,e,h _ _ C (eE.cells B)⟩
 ·obtain⟨_,_,e,_⟩:=d.is;rw[e]at a;cases a;exact h _ _ e (eE.map i)
theorem aB.frame {ts:List (Option TypeId)} {f:Nat->Option Tm} {L:List Tm} {w w':World} {p g h:Nat} {Ts:List Tm} (d:aB f L w p g h Ts) (l:ag (KN g h) w w') (c:none∈ts):aD ts w w':=(aD.refl ts w).kept l fun k e o b a=>by
 obtain⟨_,_,i,_⟩:=d.node;obtain⟨_,j,_⟩:=d.form;rcases e with rfl|rfl
 ·obtain⟨_,_,e,_⟩:=i.is;rw[e]at b;exact a.2 c _ _ (zI b).symm
 ·obtain⟨_,_,e,_⟩:=j.is;rw[e]at b;exact a.2 c _ _ (zI b).symm
theorem oP.frT {ts:List (Option TypeId)} {B:Nat} {f:Nat->Option Tm} {L:List Tm} {w w':World} {N M:Value} {Mt:List (Tm×Tm)} (h:oP B f L w N M Mt) (c:aD ts w w') (a:none∉ts) (l:some 186∉ts) (m:some 27∉ts):oP B f L w' N M Mt:=by
 rcases h with h|⟨p,y,z,A,i,n,g,j,k,q,r,t,b,x⟩
 ·exact .inl h
 ·refine .inr ⟨p,y,z,A,i,n,g,j,k,q,r,t.frT c a l m,b.same (fun o d=>?_) (fun v h=>h),x⟩;obtain⟨_,_,e,_⟩:=b.is;rw[e]at d;cases d;exact c _ _ e (eE.map a)
def AS (oc:Bool) (w:World) (U h:Nat) (N M st:Value):Prop:=ah w U 106 #[.pointer (some ⟨h,0,none⟩),.bool oc,N,M,.slice none 0 0,st]
abbrev US:=AS false
theorem yC (nm B h G c m U:Nat) (och J:Bool) (N M st tv:Value) (xs ys:List Value) (z:Nat) (a5:z<nm) (ob:Bool) (ok ov:Int) (os:ByteArray) (on:Bool) (oA:Option Addr) (oa oc:Nat) (oB:Option Addr) (od oe:Nat) (oX:Option Addr) (ol oq:Nat) (l r:Int) (p:ByteArray) (o:Bool) (b:Option Addr) (g i:Nat) (d:Option Addr) (j k:Nat) (f:Option Addr) (n t:Nat)
 (O:∀ q u,[(Value.bool ob),(Value.int .i64 ok),(Value.int .i64 ov),(Value.string os),(Value.bool on),(Value.slice oA oa oc),(Value.slice oB od oe),(Value.slice oX ol oq),(Value.slice none 0 0)][q]?=some u->xs[z*9+q]?=some u) (hm:m<=1000000) (w:World) (hB:B<=w.heap.size) (hS:dL nm w B h G c tv xs m ys) (hU:AS och w U h N M st)
 (a0:och=true->l=5->∀ W,zZ w W->Calls prog 112 #[.pointer (some ⟨h,0,none⟩),.int .i64 (z:Int),.agg #[.int .i64 l,.int .i64 r,.string p,.bool o,.slice b g i,.slice d j k,.slice f n t]] W fun e W'=>e=.returned (.bool J)/\zZ W W'):
 Calls prog 83 #[.pointer (some ⟨U,0,none⟩),.int .i64 (z:Int),.agg #[.int .i64 l,.int .i64 r,.string p,.bool o,.slice b g i,.slice d j k,.slice f n t]] w fun e w'=>(och&&decide (l=5)&&J)=true/\e=.returned (.bool false)/\zZ w w'\/(och&&decide (l=5)&&J)=false/\e=.returned (.bool true)/\(∃ tv',dL nm w' B h G c tv' (mZ xs z (.bool true) (.int .i64 l) (.int .i64 r) (.string p) (.bool o) (.slice b g i) (.slice d j k) (.slice f n t) (.slice none 0 0)) (m+1) (ys++[Value.int .i64 (z:Int),(Value.bool ob),(Value.int .i64 ok),(Value.int .i64 ov),(Value.string os),(Value.bool on),(Value.slice oA oa oc),(Value.slice oB od oe),(Value.slice oX ol oq),(Value.slice none 0 0)]))/\aD [some 95,some 98,some 130] w w'/\Below B w w':=by
 have HB:=zH hB;have F:=zH hS;have I:Yd (ah w U 106 #[zY h,.bool och,N,M,.slice none 0 0,st]):=hU;have D:=zH O;have E:=zH (ah.new w 27 #[.int .i64 l,.int .i64 r,.string p,.bool o,.slice b g i,.slice d j k,.slice f n t]);have a:=zH (ae w (.cells #[.int .i64 l,.int .i64 r,.string p,.bool o,.slice b g i,.slice d j k,.slice f n t] 27));have u0:=(I.o.to a.o).cell 0;have u1:=(I.o.to a.o).cell 1;have S:=(F.o.below a.o).blk.cell 0;simp only[L3]at u0 u1 S;have g8:(w.alloc (.cells #[.int .i64 l,.int .i64 r,.string p,.bool o,.slice b g i,.slice d j k,.slice f n t] 27)).cell? ⟨G,z*9+8,none⟩=some (.slice none 0 0):=(F.o.below a.o).cell (D.o 8 _ rfl);have a7:(0:Int)<=(z:Int):=by omega
 have a8:(z:Int)<(nm:Int):=by omega
 have T:=zH a0;clear hB hS hU O a0;go_enter func83,ntmps83
 go_upto_region 1 with fail
 go_cut [24] (fun a6 wx=>∃ y:World,y=wx/\a6=.bool (och&&decide (l=5)&&J)/\Yd (zZ w y)/\Yd (ah y w.heap.size 27 (zX l r p o b g i d j k f n t).toArray))
 case first=>
  by_cases Q:l=5
  ·subst Q;cases och with
   |false=>
    go_wp2_with fail
    go_quiet (fail)
    go_wp2_with fail;generalize v:World.drewN _ _=y;have C:Yd (zZ w y):=by rw[<-v];exact aN a.o _
    have A:Yd (ah y w.heap.size 27 (zX 5 r p o b g i d j k f n t).toArray):=by rw[<-v];exact E.o
    clear v
    go_meet
    case rel=>exact⟨y,rfl,by simp,C,A⟩
   |true=>
    go_wp2_with fail;have Y:Yd (∀ W,zZ w W->ah W w.heap.size 27 (zX 5 r p o b g i d j k f n t).toArray->(W.cell? ⟨U,0,none⟩=some (.pointer (some ⟨h,0,none⟩))/\W.cell? ⟨U,1,none⟩=some (.bool true)/\W.cell? ⟨w.heap.size,0,none⟩=some (.int .i64 5)/\W.cell? ⟨w.heap.size,1,none⟩=some (.int .i64 r)/\W.cell? ⟨w.heap.size,2,none⟩=some (.string p)/\W.cell? ⟨w.heap.size,3,none⟩=some (.bool o)/\W.cell? ⟨w.heap.size,4,none⟩=some (.slice b g i)/\W.cell? ⟨w.heap.size,5,none⟩=some (.slice d j k)/\W.cell? ⟨w.heap.size,6,none⟩=some (.slice f n t))):=fun W L x=>⟨(I.o.to L).cell 0,(I.o.to L).cell 1,x.cell 0,x.cell 1,x.cell 2,x.cell 3,x.cell 4,x.cell 5,x.cell 6⟩;have a1:Yd (Calls prog 112 #[zY h,.int .i64 (z:Int),.agg (zX 5 r p o b g i d j k f n t).toArray] (w.alloc (.cells #[.int .i64 5,.int .i64 r,.string p,.bool o,.slice b g i,.slice d j k,.slice f n t] 27)).drew fun e w'=>e=.returned (.bool J)/\Yd (zZ w w'/\ah w' w.heap.size 27 (zX 5 r p o b g i d j k f n t).toArray)/\(w'.cell? ⟨U,0,none⟩=some (.pointer (some ⟨h,0,none⟩))/\w'.cell? ⟨U,1,none⟩=some (.bool true)/\w'.cell? ⟨w.heap.size,0,none⟩=some (.int .i64 5)/\w'.cell? ⟨w.heap.size,1,none⟩=some (.int .i64 r)/\w'.cell? ⟨w.heap.size,2,none⟩=some (.string p)/\w'.cell? ⟨w.heap.size,3,none⟩=some (.bool o)/\w'.cell? ⟨w.heap.size,4,none⟩=some (.slice b g i)/\w'.cell? ⟨w.heap.size,5,none⟩=some (.slice d j k)/\w'.cell? ⟨w.heap.size,6,none⟩=some (.slice f n t))):=by
     refine (T.o (by trivial) (by trivial) _ a.o.drew).mono ?_;rintro e w' ⟨rfl,hb⟩;have L:=a.o.drew.trans (hb.mono a.o.drew.size);have x:=E.o.drew.to hb;exact⟨rfl,⟨L,x⟩,Y.o w' L x⟩
    have a2:=Y.o _ a.o.drew E.o.drew;clear u0 u1 S g8
    go_region_held3 (fun w'=>w'.cell? ⟨U,0,none⟩=some (.pointer (some ⟨h,0,none⟩))/\w'.cell? ⟨U,1,none⟩=some (.bool true)/\w'.cell? ⟨w.heap.size,0,none⟩=some (.int .i64 5)/\w'.cell? ⟨w.heap.size,1,none⟩=some (.int .i64 r)/\w'.cell? ⟨w.heap.size,2,none⟩=some (.string p)/\w'.cell? ⟨w.heap.size,3,none⟩=some (.bool o)/\w'.cell? ⟨w.heap.size,4,none⟩=some (.slice b g i)/\w'.cell? ⟨w.heap.size,5,none⟩=some (.slice d j k)/\w'.cell? ⟨w.heap.size,6,none⟩=some (.slice f n t))
     (first|assumption|(go_keep;done))
     (first
      |(go_at_call 112;(with_reducible refine a1.o.mono ?_);rintro e y1 ⟨rfl,HF,a3⟩))
    go_wp2_with fail
    go_meet
    case rel=>exact⟨y1,rfl,by simp,HF.o.1,HF.o.2⟩
  ·have a9:(l==5)=false:=zL Q;have a4:decide (l=5)=false:=decide_eq_false Q;cases och with
   |false=>
    go_wp2_with fail
    go_quiet (fail)
    go_wp2_with fail;generalize v:World.drewN _ _=y;have C:Yd (zZ w y):=by rw[<-v];exact aN a.o _
    have A:Yd (ah y w.heap.size 27 (zX l r p o b g i d j k f n t).toArray):=by rw[<-v];exact E.o
    clear v
    go_meet
    case rel=>exact⟨y,rfl,by simp,C,A⟩
   |true=>
    go_wp2_with fail
    go_quiet (fail)
    go_wp2_with fail;generalize v:World.drewN _ _=y;have C:Yd (zZ w y):=by rw[<-v];exact aN a.o _
    have A:Yd (ah y w.heap.size 27 (zX l r p o b g i d j k f n t).toArray):=by rw[<-v];exact E.o
    clear v
    go_meet
    case rel=>exact⟨y,rfl,by simp[a4],C,A⟩
 case rest=>
 obtain⟨y,rfl,rfl,C,A⟩:=hcut;clear u0 u1 S g8 E a T;cases hsel:och&&decide (l=5)&&J with
 |true=>
  go_wp2_with fail;go_ret;exact .inl ⟨hsel,rfl,C.o⟩
 |false=>
 have u0:=(I.o.to C.o).cell 0;have S:=(F.o.below C.o).blk.cell 0;simp only[L3]at u0 S;have g8:y.cell? ⟨G,z*9+8,none⟩=some (.slice none 0 0):=(F.o.below C.o).cell (D.o 8 _ rfl);go_wp2_with fail;clear u0 S g8;have P:=zH (F.o.below C.o);have Z:=zH (I.o.to C.o);have X:Yd (∀ (W:World),ah W U 106 #[zY h,.bool och,N,M,.slice none 0 0,st]->ah W w.heap.size 27 (zX l r p o b g i d j k f n t).toArray->W.cell? ⟨h,0,none⟩=some (.slice (some ⟨G,0,none⟩) nm c)->W.cell? ⟨G,z*9+8,none⟩=some (.slice none 0 0)->(W.cell? ⟨U,0,none⟩=some (.pointer (some ⟨h,0,none⟩))/\W.cell? ⟨h,0,none⟩=some (.slice (some ⟨G,0,none⟩) nm c)/\W.cell? ⟨G,z*9+8,none⟩=some (.slice none 0 0)/\W.cell? ⟨w.heap.size,0,none⟩=some (.int .i64 l)/\W.cell? ⟨w.heap.size,1,none⟩=some (.int .i64 r)/\W.cell? ⟨w.heap.size,2,none⟩=some (.string p)/\W.cell? ⟨w.heap.size,3,none⟩=some (.bool o)/\W.cell? ⟨w.heap.size,4,none⟩=some (.slice b g i)/\W.cell? ⟨w.heap.size,5,none⟩=some (.slice d j k)/\W.cell? ⟨w.heap.size,6,none⟩=some (.slice f n t))):=fun W L x h3 h4=>⟨L.cell 0,h3,h4,x.cell 0,x.cell 1,x.cell 2,x.cell 3,x.cell 4,x.cell 5,x.cell 6⟩;have V:Yd (Calls prog 113 #[zY h,.int .i64 (z:Int),.agg #[.bool true,.int .i64 l,.int .i64 r,.string p,.bool o,.slice b g i,.slice d j k,.slice f n t,.slice none 0 0]] y.drew fun e w'=>e=.returned (.tuple #[])/\Yd ((∃ tv',dL nm w' B h G c tv' (mZ xs z (.bool true) (.int .i64 l) (.int .i64 r) (.string p) (.bool o) (.slice b g i) (.slice d j k) (.slice f n t) (.slice none 0 0)) (m+1) (ys++[Value.int .i64 (z:Int),(Value.bool ob),(Value.int .i64 ok),(Value.int .i64 ov),(Value.string os),(Value.bool on),(Value.slice oA oa oc),(Value.slice oB od oe),(Value.slice oX ol oq),(Value.slice none 0 0)]))/\aD [some 95,some 98,some 130] w w'/\Below B w w')/\(w'.cell? ⟨U,0,none⟩=some (.pointer (some ⟨h,0,none⟩))/\w'.cell? ⟨h,0,none⟩=some (.slice (some ⟨G,0,none⟩) nm c)/\w'.cell? ⟨G,z*9+8,none⟩=some (.slice none 0 0)/\w'.cell? ⟨w.heap.size,0,none⟩=some (.int .i64 l)/\w'.cell? ⟨w.heap.size,1,none⟩=some (.int .i64 r)/\w'.cell? ⟨w.heap.size,2,none⟩=some (.string p)/\w'.cell? ⟨w.heap.size,3,none⟩=some (.bool o)/\w'.cell? ⟨w.heap.size,4,none⟩=some (.slice b g i)/\w'.cell? ⟨w.heap.size,5,none⟩=some (.slice d j k)/\w'.cell? ⟨w.heap.size,6,none⟩=some (.slice f n t))):=by
  refine (Ci nm B h G c m tv xs ys z a5 ob ok ov os on oA oa oc oB od oe oX ol oq true l r p o b g i d j k f n t D.o hm y.drew (zC HB.o C.o.size) P.o.drew).mono ?_;rintro e w' ⟨rfl,⟨tv',L⟩,x,h3⟩;refine⟨rfl,⟨⟨tv',L⟩,(aD.of_below C.o.drew).trans x,(C.o.drew.mono HB.o).trans h3⟩,X.o _ (Z.o.drew.frT x (by decide)) (A.o.drew.frT x (by decide)) (L.blk.cell 0) (L.cell ?_)⟩;have hl:=F.o.row.1;unfold mZ;rw[List.getElem?_set_self (by simp only[List.length_set];omega)]
 have a2:=X.o y.drew Z.o.drew A.o.drew (P.o.drew.blk.cell 0) (P.o.drew.cell (D.o 8 _ rfl))
 go_region_held3 (fun w'=>w'.cell? ⟨U,0,none⟩=some (.pointer (some ⟨h,0,none⟩))/\w'.cell? ⟨h,0,none⟩=some (.slice (some ⟨G,0,none⟩) nm c)/\w'.cell? ⟨G,z*9+8,none⟩=some (.slice none 0 0)/\w'.cell? ⟨w.heap.size,0,none⟩=some (.int .i64 l)/\w'.cell? ⟨w.heap.size,1,none⟩=some (.int .i64 r)/\w'.cell? ⟨w.heap.size,2,none⟩=some (.string p)/\w'.cell? ⟨w.heap.size,3,none⟩=some (.bool o)/\w'.cell? ⟨w.heap.size,4,none⟩=some (.slice b g i)/\w'.cell? ⟨w.heap.size,5,none⟩=some (.slice d j k)/\w'.cell? ⟨w.heap.size,6,none⟩=some (.slice f n t))
  (with_reducible assumption)
  (first
   |(go_at_call 113;(with_reducible refine V.o.mono ?_);rintro e y1 ⟨rfl,HF,a3⟩))
 go_wp2_with fail;go_ret;exact .inr ⟨hsel,rfl,HF.o⟩
end Go.Proofs.YtlhojoefhannnaaGreat
