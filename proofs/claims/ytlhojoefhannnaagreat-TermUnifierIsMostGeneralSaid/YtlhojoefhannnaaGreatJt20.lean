/- The occurs check as a search: what has been explored holds no v. And 2 more texts. -/
import Derived.Deep.Upon
import Derived.Test.YtlhojoefhannnaaGreatJt19
set_option linter.unusedVariables false
set_option linter.unusedSimpArgs false
set_option maxRecDepth 100000
set_option maxHeartbeats 51200000
namespace Go.Proofs.YtlhojoefhannnaaGreat
open Go.RowKit NumB
def kT (b:Int->Option Tm) (v:Int) (Z:Tm->Prop) (x:Tm):Prop:=(∀ u,x=.var u->(b u=none->u≠v)/\∀ y,b u=some y->Z y)/\((∀ u,x≠.var u)->∀ a∈x.args,Z a)
theorem kT.mono {b:Int->Option Tm} {v:Int} {Z Y:Tm->Prop} {x:Tm} (h:kT b v Z x) (hz:∀ y,Z y->Y y):kT b v Y x:=
 ⟨fun u e=>⟨(h.1 u e).1,fun y hy=>hz y ((h.1 u e).2 y hy)⟩,fun hn a ha=>hz a (h.2 hn a ha)⟩
theorem xM {u:Int} {l:List Tm} {a:Tm} (ha:a∈l) (h:a.occ u):dw u l:=by
 induction l with
 |nil=>cases ha
 |cons t l ih=>
  rw[dw];rcases List.mem_cons.1 ha with rfl|ha
  ·exact .inl h
  ·exact .inr (ih ha)
theorem sD {u:Int} {x a:Tm} (hx:∀ v,x≠.var v) (hc:x.cn) (ha:a∈x.args) (h:a.occ u):x.occ u:=by
 obtain⟨k,v,s,n,args⟩:=x;rw[Tm.cn]at hc;rw[Tm.occ];exact .inr ⟨fun e=>hx v (hc.1 e),xM ha h⟩
theorem ia.arg {b:Int->Option Tm} {v:Int} {x a:Tm} (hx:∀ v,x≠.var v) (hc:x.cn) (ha:a∈x.args) (h:ia b v a):ia b v x:=by
 cases h with
 |here h=>exact .here (sD hx hc ha h)
 |there h h2 h3=>exact .there (sD hx hc ha h) h2 h3
theorem sE (v:Int):(Tm.var v).occ v:=by unfold Tm.var;rw[Tm.occ];exact .inl ⟨rfl,rfl⟩
mutual
theorem Tm.in_closed {b:Int->Option Tm} {v u:Int} {V:Tm->Prop} (hcl:∀ x,V x->x.cn/\kT b v V x):∀ (t:Tm),V t->t.occ u->V (.var u)
 |.mk k w s n args,hV,h=>by
  rw[Tm.occ]at h;rcases h with ⟨hk,rfl⟩|⟨hk,h⟩
  ·have:=(hcl _ hV).1;rw[Tm.cn]at this;rw[<-this.1 hk];exact hV
  ·exact jk hcl args (fun a ha=>(hcl _ hV).2.2 (fun q e=>hk (bE e).1) a ha) h
theorem jk {b:Int->Option Tm} {v u:Int} {V:Tm->Prop} (hcl:∀ x,V x->x.cn/\kT b v V x):∀ (l:List Tm),(∀ a∈l,V a)->dw u l->V (.var u)
 |[],_,h=>by rw[dw]at h;exact h.elim
 |t::l,hV,h=>by
  rw[dw]at h;rcases h with h|h
  ·exact t.in_closed hcl (hV t (by simp)) h
  ·exact jk hcl l (fun a ha=>hV a (by simp[ha])) h
end
theorem kT.no {b:Int->Option Tm} {v:Int} {V:Tm->Prop} (hb:b v=none) (hcl:∀ x,V x->x.cn/\kT b v V x) {x:Tm} (h:ia b v x):V x->False:=by
 induction h with
 |here h=>intro hV;exact ((hcl _ (Tm.in_closed hcl _ hV h)).2.1 v rfl).1 hb rfl
 |there h hu _ ih=>intro hV;exact ih (((hcl _ (Tm.in_closed hcl _ hV h)).2.1 _ rfl).2 _ hu)
structure dF (L:List Tm) (b:Int->Option Tm) (v:Int) (t:Tm) (S V:List Tm):Prop where
 stk:∀ x∈S,x∈L/\(ia b v x->ia b v t)
 vis:∀ x∈V,x∈L/\kT b v (fun y=>y∈V\/y∈S) x
 top:t∈V\/t∈S
theorem dF.start {L:List Tm} {b:Int->Option Tm} {v:Int} {t:Tm} (h:t∈L):dF L b v t [t] []:=
 ⟨fun x hx=>by rw[List.mem_singleton]at hx;subst hx;exact⟨h,id⟩,fun x hx=>(by cases hx),.inr (by simp)⟩
theorem dF.none {L:List Tm} {b:Int->Option Tm} {v:Int} {t:Tm} {V:List Tm} (h:dF L b v t [] V) (hb:b v=none) (hL:∀ x∈L,x.fine):¬ia b v t:=fun ho=>by
 have ht:t∈V:=h.top.elim id fun h=>by cases h
 exact kT.no (V:=fun x=>x∈V) hb (fun x hx=>⟨x.cn_fine (hL x (h.vis x hx).1),(h.vis x hx).2.mono fun y hy=>hy.elim id fun h=>by cases h⟩) ho ht
theorem dF.step {L:List Tm} {b:Int->Option Tm} {v:Int} {t x:Tm} {S V N:List Tm} (h:dF L b v t (S++[x]) V) (hx:kT b v (fun y=>y∈V\/y=x\/y∈S\/y∈N) x) (hN:∀ y∈N,y∈L/\(ia b v y->ia b v x)):dF L b v t (S++N) (x::V):=by
 have hxs:=h.stk x (by simp);refine⟨fun y hy=>?_,fun y hy=>?_,?_⟩
 ·rcases List.mem_append.1 hy with hy|hy
  ·exact h.stk y (by simp[hy])
  ·exact⟨(hN y hy).1,fun ho=>hxs.2 ((hN y hy).2 ho)⟩
 ·rcases List.mem_cons.1 hy with rfl|hy
  ·refine⟨hxs.1,hx.mono fun z hz=>?_⟩;rcases hz with hz|hz|hz|hz
   ·exact .inl (by simp[hz])
   ·exact .inl (by simp[hz])
   ·exact .inr (by simp[hz])
   ·exact .inr (by simp[hz])
  ·refine⟨(h.vis y hy).1,(h.vis y hy).2.mono fun z hz=>?_⟩;rcases hz with hz|hz
   ·exact .inl (by simp[hz])
   ·rcases List.mem_append.1 hz with hz|hz
    ·exact .inr (by simp[hz])
    ·rw[List.mem_singleton]at hz;exact .inl (by simp[hz])
 ·rcases h.top with h|h
  ·exact .inl (by simp[h])
  ·rcases List.mem_append.1 h with h|h
   ·exact .inr (by simp[h])
   ·rw[List.mem_singleton]at h;exact .inl (by simp[h])
theorem dF.again {L:List Tm} {b:Int->Option Tm} {v:Int} {t x:Tm} {S V:List Tm} (h:dF L b v t (S++[x]) V) (hx:x∈V):dF L b v t (S++[]) (x::V):=by
 refine h.step ((h.vis x hx).2.mono fun y hy=>?_) fun y hy=>by cases hy
 rcases hy with hy|hy
 ·exact .inl hy
 ·rcases List.mem_append.1 hy with hy|hy
  ·exact .inr (.inr (.inl hy))
  ·rw[List.mem_singleton]at hy;exact .inr (.inl hy)
def cD (cs:Nat->List Value):Nat->List Value
 |0=>[]
 |l+1=>cD cs l++cs l
theorem d9 {cs:Nat->List Value}:∀ {l:Nat},(∀ i,i<l->(cs i).length=7)->(cD cs l).length=l*7
 |0,_=>by rw[cD];rfl
 |l+1,h=>by
  rw[cD,List.length_append,d9 fun i hi=>h i (by omega),h l (by omega)];omega
theorem hJ {cs:Nat->List Value}:∀ {l:Nat},(∀ i,i<l->(cs i).length=7)->∀ {i q:Nat},i<l->q<7->(cD cs l)[i*7+q]?=(cs i)[q]?
 |0,_,i,q,hi,_=>by omega
 |l+1,h,i,q,hi,hq=>by
  have hl:=d9 (l:=l) fun i hi=>h i (by omega);rw[cD];by_cases e:i=l
  ·subst e;rw[List.getElem?_append_right (by omega)]
   congr 1
   omega
  ·rw[List.getElem?_append_left (by omega)];exact hJ (fun i hi=>h i (by omega)) (by omega) hq
theorem kM {cs:Nat->List Value}:∀ {l:Nat} {u:Value},u∈cD cs l->∃ i,i<l/\u∈cs i
 |0,u,h=>by rw[cD]at h;cases h
 |l+1,u,h=>by
  rw[cD,List.mem_append]at h;rcases h with h|h
  ·obtain⟨i,hi,hu⟩:=kM h;exact⟨i,by omega,hu⟩
  ·exact⟨l,by omega,h⟩
theorem TC.one {w:World} {t:Tm} {cs:List Value} (h:TC w t cs):∀ u∈cs,u.oneCell'=true:=fun u hu=>by
 obtain⟨k,v,s,ng,A1,n1,c1,B1,m1,d1,Xr,l,cap,rfl⟩:=h.form;simp only[List.mem_cons,List.not_mem_nil,or_false]at hu;rcases hu with rfl|rfl|rfl|rfl|rfl|rfl|rfl<;>rfl
theorem qV (w:World) (r:Option Nat):w.grownBy w r:=⟨rfl,rfl,rfl,Nat.le_refl _,fun _ _ _=>rfl⟩
theorem gI (w:World) {ops:Array Oper} {rest:List Oper} {o:Oper} {a:Act} {Q:Exit->Act->World->Prop} (hgd:o.guard=none) (s x:Operand)
 (ho:o.op=.call { callee:=.builtin .append,args:=#[s,x],argTypes:=#[25,25] })
 (B:Nat) (g0 cap0 n:Nat) (xs:List Value) (hs:a.eval s=.slice (some ⟨g0,0,none⟩) n cap0) (hnc:n<=cap0) (hown:w.ownsRow B 27 7 (.slice (some ⟨g0,0,none⟩) n cap0) n xs)
 (A:Option Addr) (l c:Nat) (ts:List Tm) (cs:Nat->List Value) (hl:ts.length=l) (hx:a.eval x=.slice A l c) (hrow:0<ts.length->∃ b o,A=some ⟨b,o,none⟩/\b<w.heap.size/\∀ i,i<ts.length->∀ j,j<7->w.cell? ⟨b,o+i*7+j,none⟩=(cs i)[j]?) (ht:∀ i (h:i<ts.length),TC w ts[i] (cs i))
 (h63:n+l<=maxLen) (hbytes:(n+l)*112<=140737488355328) (hbase:B<=w.heap.size)
 (h:∀ gv w',w'.ownsRow B 27 7 gv (n+l) (xs++cD cs l)->w.grownBy w' (some g0)->wpList Tryz.prog ops Q rest (a.put o.dst gv) w'):wpList Tryz.prog ops Q (o::rest) a w:=by
 subst hl;obtain⟨i0,hi0,hz0,hz1,hz2⟩:=info_parts eO;by_cases h0:ts.length=0
 ·refine wpList_plain hgd fun K hK=>?_;have hsrc:Src Tryz.prog i0.size 25 (.slice A 0 c) 0 [] w:=by
   cases A with
   |none=>exact Src.ofNil w Tryz.underlying25 c
   |some ad=>exact Src.ofSlice w Tryz.underlying25 ad 0 c [] (by simp) (fun j u hj=>by simp at hj) (by simp)
  have hr:=run_append_nothing (P:=Tryz.prog) w 25 25 o.type 27 i0 Tryz.underlying25 hi0 (some ⟨g0,0,none⟩) n cap0 hnc (.slice A 0 c) hsrc;have hx':a.eval x=.slice A 0 c:=by rw[hx,h0]
  have hq:=h (.slice (some ⟨g0,0,none⟩) n cap0) w (by rw[h0,cD,List.append_nil];exact hown) (qV _ _);unfold Oper.wp execOp;simp only[ho,resolve,invoke,builtin,Sem.run_bind,Sem.run_pure,Result.andThen_ok,List.map_toArray,List.map_cons,List.map_nil,hs,hx',hr];exact hK _ _ hq
 ·obtain⟨b,of,rfl,hlt,hc⟩:=hrow (by omega);have h7:∀ i,i<ts.length->(cs i).length=7:=fun i hi=>(ht i hi).len;refine wpList_append_lies w hgd s x 25 ho B 27 i0 (.agg zt.toArray) 7 112 Tryz.underlying25 hi0 hz0 hz1 hz2 rfl (by decide) _ n xs hs hown ⟨b,of,none⟩ ts.length c (cD cs ts.length) hx (d9 h7) (fun j u hj=>?_) (fun u hu=>?_) (by omega) h63 hbytes hbase _ rfl fun g cap w' h1 h2 _ _=>h _ w' h1 h2
  ·have hj7:j<ts.length*7:=by
    have:=(List.getElem?_eq_some_iff.1 hj).1
    rwa [d9 h7]at this
   have hdm:j / 7*7+j % 7=j:=by omega
   have h1:=hc (j / 7) (by omega) (j % 7) (by omega);rw[<-hJ h7 (by omega) (by omega),hdm,hj]at h1;rw[Go.WideShapes.add_plain,<-h1]
   congr 2
   omega
  ·obtain⟨i,hi,hu⟩:=kM hu;exact (ht i hi).one u hu
open Classical in
noncomputable def dH (b:Int->Option Tm) (v:Int) (t:Tm):Bool:=decide (ia b v t)
theorem gC {b:Int->Option Tm} {v:Int} {t:Tm}:dH b v t=true↔ia b v t:=by unfold dH;simp
theorem kC {b:Int->Option Tm} {v:Int} {t:Tm} (h:ia b v t):dH b v t=true:=gC.2 h
theorem nr {b:Int->Option Tm} {v:Int} {t:Tm} (h:¬ia b v t):dH b v t=false:=by
 cases hb:dH b v t with
 |false=>rfl
 |true=>exact absurd (gC.1 hb) h
theorem wd {sz:Nat} {w:World} {B n n1 cap gb:Nat} {e:TypeId} {zs l:List Value} (hn1:n+1=n1) (h:w.ownsRow B e sz (.slice (some ⟨gb,0,none⟩) n1 cap) n1 (zs++l)) (hl:l.length=sz):w.ownsRow B e sz (.slice (some ⟨gb,0,none⟩) n cap) n zs:=by
 subst hn1;obtain⟨h1,h2|⟨g,cap',cur,e1,h3,h4,h5,h6,h7,h8⟩⟩:=h
 ·cases h2.1
 ·simp only[Value.slice.injEq,Option.some.injEq,Addr.mk.injEq,and_true,true_and]at e1;obtain⟨rfl,rfl⟩:=e1;rw[List.length_append,hl,Nat.succ_mul]at h1;have hz:zs.length=n*sz:=by omega
  refine⟨hz,.inr ⟨_,_,cur,rfl,h3,h4,by omega,h6,h7,?_⟩⟩;have h10:cur.toList.take (n*sz)=(cur.toList.take ((n+1)*sz)).take (n*sz):=by
   rw[List.take_take,Nat.min_eq_left (by rw[Nat.succ_mul];omega)]
  rw[h10,h8,List.take_append_of_le_length (by omega),<-hz,List.take_length]
def oh (P:Nat->Prop) (f:Nat->Option Tm) (w:World) (zs:List Value) (S:List Tm):Prop:=zs.length=S.length*7/\∀ i (h:i<S.length),∃ ci,cw P f w S[i] ci/\∀ q,q<7->zs[i*7+q]?=ci[q]?
theorem oh.last {P:Nat->Prop} {f:Nat->Option Tm} {w:World} {zs:List Value} {S:List Tm} {x:Tm} (h:oh P f w zs (S++[x])):∃ ys cx,zs=ys++cx/\oh P f w ys S/\cw P f w x cx:=by
 obtain⟨hl,h⟩:=h;rw[List.length_append,List.length_singleton]at hl;obtain⟨cx,h1,h2⟩:=h S.length (by simp);rw[List.getElem_append_right (Nat.le_refl _)]at h1;have h1:cw P f w x cx:=by simpa using h1
 have h7:cx.length=7:=h1.tc.len;refine⟨zs.take (S.length*7),cx,?_,⟨by rw[List.length_take];omega,fun i hi=>?_⟩,h1⟩
 ·refine List.ext_getElem? fun j=>?_;by_cases hj:j<S.length*7
  ·rw[List.getElem?_append_left (by rw[List.length_take];omega),List.getElem?_take_of_lt hj]
  ·rw[List.getElem?_append_right (by rw[List.length_take];omega),List.length_take,Nat.min_eq_left (by omega)];by_cases hj2:j-S.length*7<7
   ·rw[<-h2 _ hj2]
    congr 1
    omega
   ·rw[List.getElem?_eq_none (by omega),List.getElem?_eq_none (by omega)]
 ·obtain⟨ci,g1,g2⟩:=h i (by rw[List.length_append];omega);rw[List.getElem_append_left hi]at g1;exact⟨ci,g1,fun q hq=>by rw[<-g2 q hq,List.getElem?_take_of_lt (by omega)]⟩
theorem oh.more {P:Nat->Prop} {f:Nat->Option Tm} {w:World} {zs:List Value} {S N:List Tm} {cs:Nat->List Value} (h:oh P f w zs S) (hN:∀ i (hi:i<N.length),cw P f w N[i] (cs i)):oh P f w (zs++cD cs N.length) (S++N):=by
 obtain⟨hl,h⟩:=h;have h7:∀ i,i<N.length->(cs i).length=7:=fun i hi=>(hN i hi).tc.len;refine⟨by rw[List.length_append,List.length_append,d9 h7,hl];omega,fun i hi=>?_⟩;by_cases hlt:i<S.length
 ·obtain⟨ci,g1,g2⟩:=h i hlt;refine⟨ci,by rw[List.getElem_append_left hlt];exact g1,fun q hq=>?_⟩;rw[List.getElem?_append_left (by omega)];exact g2 q hq
 ·rw[List.length_append]at hi;refine⟨cs (i-S.length),by rw[List.getElem_append_right (by omega)];exact hN _ (by omega),fun q hq=>?_⟩;rw[List.getElem?_append_right (by omega),<-hJ h7 (by omega:i-S.length<N.length) hq]
  congr 1
  omega
structure zK (P:Nat->Prop) (f:Nat->Option Tm) (L:List Tm) (b:Int->Option Tm) (v:Int) (t:Tm) (Bl:List Nat) (nm:Nat) (w:World) (m1 m2:Nat) (wr:World) (g0 cap0:Nat) (zs:List Value) (S V:List Tm) (gk:Nat):Prop where
 cap:S.length<=cap0
 row:wr.ownsRow w.heap.size 27 7 (.slice (some ⟨g0,0,none⟩) S.length cap0) S.length zs
 stk:oh P f w zs S
 srch:dF L b v t S V
 maps:∃ (Sn Mt:List Nat) (n1 n2:Nat) (g1 g2:Value->Option Value),bS jO wr m1 n1 g1/\bS (jP w) wr m2 n2 g2/\(∀ k x,g1 k=some x->x=.bool true)/\(∀ k x,g2 k=some x->x=.bool true)/\
  (∀ u:Nat,(g1 (.int .i64 (u:Int))).isSome=true->Tm.var u∈V)/\(∀ u∈Sn,(g1 (.int .i64 (u:Int))).isSome=true)/\Sn.Nodup/\(∀ u∈Sn,u<nm)/\
  (∀ c,(g2 (.pointer (some ⟨c,0,none⟩))).isSome=true->∃ x∈V,f c=some x)/\(∀ c∈Mt,(g2 (.pointer (some ⟨c,0,none⟩))).isSome=true)/\Mt.Nodup/\(∀ c∈Mt,c∈Bl)/\
  33*((nm-Sn.length)+(Bl.length-Mt.length))+S.length<=gk
theorem bS.intKept {p:Nat->Prop} {w w':World} {b n:Nat} {f:Value->Option Value} (h:bS jO w b n f) (hk:ah p w w') (hb:¬p b):bS jO w' b n f:=h.same (fun o ho=>(hk.block b (aw ho) hb).trans ho) fun _ h=>h
open Classical in
noncomputable def jC (g:Value->Option Value) (k v:Value):Value->Option Value:=fun j=>if j=k then some v else g j
theorem eU (g:Value->Option Value) (k v:Value):jC g k v k=some v:=by unfold jC;rw[if_pos rfl]
theorem iB {g:Value->Option Value} {k v j:Value} (h:j≠k):jC g k v j=g j:=by unfold jC;rw[if_neg h]
theorem i1 {g:Value->Option Value} {k:Value} (h:∀ j x,g j=some x->x=.bool true):∀ j x,jC g k (.bool true) j=some x->x=.bool true:=fun j x hx=>by
 by_cases e:j=k
 ·subst e;rw[eU]at hx;exact (Option.some.inj hx).symm
 ·rw[iB e]at hx;exact h j x hx
theorem iZ {g:Value->Option Value} {k v j:Value} (h:(g j).isSome=true):(jC g k v j).isSome=true:=by
 by_cases e:j=k
 ·subst e;rw[eU];rfl
 ·rw[iB e];exact h
structure i6 (w0:World) (m1 m2:Nat) (wr:World) (n1 n2:Nat) (g1 g2:Value->Option Value) (g0 cap0 n:Nat) (zs:List Value):Prop where
 ne:m1≠m2
 int:bS jO wr m1 n1 g1
 ptr:bS (jP w0) wr m2 n2 g2
 row:wr.ownsRow w0.heap.size 27 7 (.slice (some ⟨g0,0,none⟩) n cap0) n zs
theorem i6.cells {w0:World} {m1 m2 n1 n2 g0 cap0 n:Nat} {wr:World} {g1 g2:Value->Option Value} {zs:List Value} (h:i6 w0 m1 m2 wr n1 n2 g1 g2 g0 cap0 n zs) {k:Nat} {cs:Array Value} {T:TypeId} {z:Nat×Nat} (hk:wr.heap[k]?=some (Obj.cells cs T z)):k≠m1/\k≠m2:=by
 obtain⟨_,_,e1,_⟩:=h.int.is;obtain⟨_,_,e2,_⟩:=h.ptr.is;exact⟨fun e=>(by subst e;rw[e1]at hk;cases hk),fun e=>(by subst e;rw[e2]at hk;cases hk)⟩
theorem i6.below {w0:World} {m1 m2 n1 n2 g0 cap0 n:Nat} {wr w':World} {g1 g2:Value->Option Value} {zs:List Value} (h:i6 w0 m1 m2 wr n1 n2 g1 g2 g0 cap0 n zs) (hb:Below wr.heap.size wr w'):i6 w0 m1 m2 w' n1 n2 g1 g2 g0 cap0 n zs:=
 ⟨h.ne,h.int.intKept (p:=fun _=>False) (.of_below hb) id,h.ptr.same (fun o ho=>(hb.block m2 (aw ho)).trans ho) fun _ h=>h,av (ts:=[]) h.row (ar.of_below hb) (by simp)⟩
theorem i6.drew {w0:World} {m1 m2 n1 n2 g0 cap0 n:Nat} {wr:World} {g1 g2:Value->Option Value} {zs:List Value} (h:i6 w0 m1 m2 wr n1 n2 g1 g2 g0 cap0 n zs):i6 w0 m1 m2 wr.drew n1 n2 g1 g2 g0 cap0 n zs:=h.below (Below.refl _ _).drew
theorem i6.put1 {w0:World} {m1 m2 n1 n2 g0 cap0 n:Nat} {wr:World} {g1 g2:Value->Option Value} {zs:List Value} (h:i6 w0 m1 m2 wr n1 n2 g1 g2 g0 cap0 n zs) (i:Int):∃ z n',(Instr.mapUpdate 89 (.map (some m1)) (.int .i64 i) (.bool true)).run Tryz.prog wr=.ok () z/\i6 w0 m1 m2 z n' n2 (jC g1 (.int .i64 i) (.bool true)) g2 g0 cap0 n zs/\ah (fun k=>k=m1) wr z:=by
 have hc:=@i6.cells _ _ _ _ _ _ _ _ _ _ _ _ h;obtain⟨z,h1,h2,h3⟩:=dt (et:=4) (eP wr) (mt:=89) (by kernel_rfl) (k:=.int .i64 i) ⟨i,rfl⟩ (.bool true) h.int;refine⟨z,_,h1,⟨h.ne,h2,h.ptr.same (fun o ho=>(h3.block m2 (aw ho) fun e=>h.ne e.symm).trans ho) fun _ h=>h,h3.row h.row fun g hg=>?_⟩,h3⟩;obtain⟨cs,fz,e⟩:=Lib.ownsRow_kind h.row g hg;exact (hc e).1
theorem i6.put2 {w0:World} {m1 m2 n1 n2 g0 cap0 n c:Nat} {wr:World} {g1 g2:Value->Option Value} {zs:List Value} {arr:Array Value} (h:i6 w0 m1 m2 wr n1 n2 g1 g2 g0 cap0 n zs) (hw:Below w0.heap.size w0 wr) (hc0:af w0 c 27 arr):∃ z n',(Instr.mapUpdate 176 (.map (some m2)) (.pointer (some ⟨c,0,none⟩)) (.bool true)).run Tryz.prog wr=.ok () z/\i6 w0 m1 m2 z n1 n' g1 (jC g2 (.pointer (some ⟨c,0,none⟩)) (.bool true)) g0 cap0 n zs/\ah (fun k=>k=m2) wr z:=by
 have hc:=@i6.cells _ _ _ _ _ _ _ _ _ _ _ _ h;obtain⟨z,h1,h2,h3⟩:=dt (et:=4) ((fT wr).sub (KP':=jP w0) fun v ⟨c,o,cs,T,e,hq⟩=>⟨c,o,cs,T,e,(hw.block c (aw hq)).trans hq⟩) (mt:=176) (by kernel_rfl) (k:=.pointer (some ⟨c,0,none⟩)) ⟨c,0,arr,_,rfl,hc0⟩ (.bool true) h.ptr;refine⟨z,_,h1,⟨h.ne,h.int.intKept h3 h.ne,h2,h3.row h.row fun g hg=>?_⟩,h3⟩;obtain⟨cs,fz,e⟩:=Lib.ownsRow_kind h.row g hg;exact (hc e).2
theorem pL {α:Type} (l:List α):l=[]\/∃ m x,l=m++[x]:=by
 cases h:l.reverse with
 |nil=>exact .inl (List.reverse_eq_nil_iff.1 h)
 |cons x m=>exact .inr ⟨m.reverse,x,by rw[<-List.reverse_reverse l,h,List.reverse_cons]⟩
theorem cw.inv {P:Nat->Prop} {f:Nat->Option Tm} {w:World} {x:Tm} {cs:List Value} (h:cw P f w x cs):∃ (k v:Int) (s:ByteArray) (n:LN) (args:List Tm) (A B:Value) (Ar:Option Addr) (cap:Nat) (cx:Nat->List Value),x=.mk k v s n args/\cs=[.int .i64 k,.int .i64 v,.string s,.bool n.neg,A,B,.slice Ar args.length cap]/\args.length<=cap/\cap<=maxLen/\
 (0<args.length->∃ b arr,Ar=some ⟨b,0,none⟩/\P b/\f b=some x/\af w b 27 arr/\∀ i,i<args.length->∀ j,j<7->arr[i*7+j]?=(cx i)[j]?)/\∀ i (h:i<args.length),cw P f w args[i] (cx i):=by
 cases h with
 |mk k v s n args A B Ar cap cs hk hv hs hA hB hn hcap hm hr ha=>exact⟨k,v,s,n,args,A,B,Ar,cap,cs,rfl,rfl,hcap,hm,hr,ha⟩
theorem pT {Sn:List Nat} {nm:Nat} (h:Sn.Nodup) (hn:∀ u∈Sn,u<nm):Sn.length<=nm:=by
 have:=fV Sn (List.range nm) h fun u hu=>List.mem_range.2 (hn u hu)
 rwa [List.length_range]at this
theorem gD {a b:Int} (h:Tm.var a=Tm.var b):a=b:=by
 unfold Tm.var at h;simp only[Tm.mk.injEq]at h;exact h.2.1
theorem zK.mk' {P:Nat->Prop} {f:Nat->Option Tm} {L:List Tm} {b:Int->Option Tm} {v:Int} {t:Tm} {Bl:List Nat} {nm:Nat} {w:World} {m1 m2:Nat} {wr:World} {g0 cap0:Nat} {zs:List Value} {S V:List Tm} {gk n1 n2 N:Nat} {g1 g2:Value->Option Value} {Sn Mt:List Nat} (hM:i6 w m1 m2 wr n1 n2 g1 g2 g0 cap0 N zs) (hN:S.length=N) (hcap:N<=cap0) (hst:oh P f w zs S) (hsr:dF L b v t S V)
 (hTT:(∀ k x,g1 k=some x->x=.bool true)/\(∀ k x,g2 k=some x->x=.bool true)) (hV1:∀ u:Nat,(g1 (.int .i64 (u:Int))).isSome=true->Tm.var u∈V) (hV2:∀ c,(g2 (.pointer (some ⟨c,0,none⟩))).isSome=true->∃ x∈V,f c=some x)
 (hSS:(∀ u∈Sn,(g1 (.int .i64 (u:Int))).isSome=true)/\Sn.Nodup/\(∀ u∈Sn,u<nm)) (hMT:(∀ c∈Mt,(g2 (.pointer (some ⟨c,0,none⟩))).isSome=true)/\Mt.Nodup/\(∀ c∈Mt,c∈Bl)) (hms:33*((nm-Sn.length)+(Bl.length-Mt.length))+N<=gk):zK P f L b v t Bl nm w m1 m2 wr g0 cap0 zs S V gk:=by
 subst hN;exact⟨hcap,hM.row,hst,hsr,Sn,Mt,n1,n2,g1,g2,hM.int,hM.ptr,hTT.1,hTT.2,hV1,hSS.1,hSS.2.1,hSS.2.2,hV2,hMT.1,hMT.2.1,hMT.2.2,hms⟩
theorem i6.fr1 {w0:World} {m1 m2 n1 n2 g0 cap0 n:Nat} {wr z:World} {g1 g2:Value->Option Value} {zs:List Value} (h:i6 w0 m1 m2 wr n1 n2 g1 g2 g0 cap0 n zs) (hk:ah (fun k=>k=m1) wr z):ar [none] wr z:=(ar.refl [none] wr).kept hk fun k e o ho hno=>by
 subst e;obtain⟨_,_,e,_⟩:=h.int.is;rw[e]at ho;exact hno.2 (by simp) _ _ (Option.some.inj ho).symm
theorem i6.fr2 {w0:World} {m1 m2 n1 n2 g0 cap0 n:Nat} {wr z:World} {g1 g2:Value->Option Value} {zs:List Value} (h:i6 w0 m1 m2 wr n1 n2 g1 g2 g0 cap0 n zs) (hk:ah (fun k=>k=m2) wr z):ar [none] wr z:=(ar.refl [none] wr).kept hk fun k e o ho hno=>by
 subst e;obtain⟨_,_,e,_⟩:=h.ptr.is;rw[e]at ho;exact hno.2 (by simp) _ _ (Option.some.inj ho).symm
theorem nG {w:World} {B g n cap sz:Nat} {e:TypeId} {xs:List Value} (h:w.ownsRow B e sz (.slice (some ⟨g,0,none⟩) n cap) n xs):n<=cap:=by
 obtain⟨h1,h2|⟨g',cap',cur,e1,h3,h4,h5,h6,h7,h8⟩⟩:=h
 ·cases h2.1
 ·simp only[Value.slice.injEq,Option.some.injEq,Addr.mk.injEq,and_true,true_and]at e1;obtain⟨rfl,rfl⟩:=e1;exact h5
theorem i6.grown {w0:World} {m1 m2 n1 n2 g0 cap0 n g cap n':Nat} {wr w1:World} {g1 g2:Value->Option Value} {zs zs':List Value} (h:i6 w0 m1 m2 wr n1 n2 g1 g2 g0 cap0 n zs) (hg:wr.grownBy w1 (some g0)) (hr:w1.ownsRow w0.heap.size 27 7 (.slice (some ⟨g,0,none⟩) n' cap) n' zs'):i6 w0 m1 m2 w1 n1 n2 g1 g2 g cap n' zs':=by
 obtain⟨cs,fz,e⟩:=Lib.ownsRow_kind h.row g0 rfl;have hne:=h.cells e;have hk:=ah.grown hg;refine⟨h.ne,h.int.intKept hk (fun e=>hne.1 (Option.some.inj e).symm),h.ptr.same (fun o ho=>(hk.block m2 (aw ho) fun e=>hne.2 (Option.some.inj e).symm).trans ho) fun _ h=>h,hr⟩
theorem uh {P:Nat->Prop} {f:Nat->Option Tm} {L:List Tm} {Bl:List Nat} {nm Bq h G c m:Nat} {tr:Value} {xs ys:List Value} {b:Int->Option Tm} {v:Nat} (hv:v<nm) (hbv:b v=none) {w:World} (hS:dC nm w Bq h G c tr xs m ys) (hB:qC P f w nm xs b) (hU:lm nm L) (hW:rQ L b) (hF:∀ c x,f c=some x->c∈Bl) (hBl:Bl.length<=1000000) (hnm:nm<=1000000) {t:Tm} {cs:List Value} (ht:t∈L) (hc:cw P f w t cs):
 Calls Tryz.prog 112 #[.pointer (some ⟨h,0,none⟩),.int .i64 (v:Int),.agg cs.toArray] w fun e w'=>e=.returned (.bool (dH b v t))/\Below w.heap.size w w':=by
 have hmm:=@run_makeMap Tryz.prog;obtain⟨tk,tv,ts,tn,tA,ta,tc,tB,td,te,tX,tl,tq,rfl⟩:=hc.form;have HC:=zH hc;have HS0:=zH hS;have HB:=zH hB;have HU:=zH hU;have HW:=zH hW;have HF:=zH hF;have HBV:=zH hbv;have HT:=zH ht;clear hc hS hB hU hW hF hbv ht;have hb3:Below w.heap.size w ((((w.alloc (.cells #[.int .i64 tk,.int .i64 tv,.string ts,.bool tn,.slice tA ta tc,.slice tB td te,.slice tX tl tq] 27)).alloc (.map #[] 0)).alloc (.map #[] 0)).alloc (.cells #[.int .i64 tk,.int .i64 tv,.string ts,.bool tn,.slice tA ta tc,.slice tB td te,.slice tX tl tq] 27)):=((am w _ _).alloc (by simp;omega) _).alloc (by simp;omega) _;have hr0:af ((((w.alloc (.cells #[.int .i64 tk,.int .i64 tv,.string ts,.bool tn,.slice tA ta tc,.slice tB td te,.slice tX tl tq] 27)).alloc (.map #[] 0)).alloc (.map #[] 0)).alloc (.cells #[.int .i64 tk,.int .i64 tv,.string ts,.bool tn,.slice tA ta tc,.slice tB td te,.slice tX tl tq] 27)) (w.heap.size+1+1+1) 27 #[.int .i64 tk,.int .i64 tv,.string ts,.bool tn,.slice tA ta tc,.slice tB td te,.slice tX tl tq]:=by
  have h:=af.new (((w.alloc (.cells #[.int .i64 tk,.int .i64 tv,.string ts,.bool tn,.slice tA ta tc,.slice tB td te,.slice tX tl tq] 27)).alloc (.map #[] 0)).alloc (.map #[] 0)) 27 #[.int .i64 tk,.int .i64 tv,.string ts,.bool tn,.slice tA ta tc,.slice tB td te,.slice tX tl tq];rw[show (((w.alloc (.cells #[.int .i64 tk,.int .i64 tv,.string ts,.bool tn,.slice tA ta tc,.slice tB td te,.slice tX tl tq] 27)).alloc (.map #[] 0)).alloc (.map #[] 0)).heap.size=w.heap.size+1+1+1 by simp]at h;exact h
 have HL0:Hid (zK P f L b v t Bl nm w (w.heap.size+1) (w.heap.size+2) ((((w.alloc (.cells #[.int .i64 tk,.int .i64 tv,.string ts,.bool tn,.slice tA ta tc,.slice tB td te,.slice tX tl tq] 27)).alloc (.map #[] 0)).alloc (.map #[] 0)).alloc (.cells #[.int .i64 tk,.int .i64 tv,.string ts,.bool tn,.slice tA ta tc,.slice tB td te,.slice tX tl tq] 27)) (w.heap.size+1+1+1) 1 [.int .i64 tk,.int .i64 tv,.string ts,.bool tn,.slice tA ta tc,.slice tB td te,.slice tX tl tq] [t] [] (33*(nm+Bl.length)+1)):=by
  refine⟨Nat.le_refl _,⟨rfl,.inr ⟨_,1,_,rfl,by omega,hr0,Nat.le_refl _,by decide,rfl,rfl⟩⟩,⟨rfl,fun i hi=>⟨[.int .i64 tk,.int .i64 tv,.string ts,.bool tn,.slice tA ta tc,.slice tB td te,.slice tX tl tq],?_,fun q hq=>?_⟩⟩,.start HT.out,[],[],0,0,_,_,.empty (c:=0) ?_,.empty (c:=0) ?_,fun k x h=>(by cases h),fun k x h=>(by cases h),fun u h=>(by cases h),fun u h=>(by cases h),List.nodup_nil,fun u h=>(by cases h),fun u h=>(by cases h),fun u h=>(by cases h),List.nodup_nil,fun u h=>(by cases h),by simp⟩
  ·have:i=0:=by simp at hi;omega
   subst this;exact HC.out
  ·have:i=0:=by simp at hi;omega
   subst this;rw[Nat.zero_mul,Nat.zero_add]
  ·rw[Lib.alloc_old _ _ _ (by simp),Lib.alloc_old _ _ _ (by simp)];have h:=heap_alloc_new (w.alloc (.cells #[.int .i64 tk,.int .i64 tv,.string ts,.bool tn,.slice tA ta tc,.slice tB td te,.slice tX tl tq] 27)) (.map #[] 0)
   rwa [show (w.alloc (.cells #[.int .i64 tk,.int .i64 tv,.string ts,.bool tn,.slice tA ta tc,.slice tB td te,.slice tX tl tq] 27)).heap.size=w.heap.size+1 by simp]at h
  ·rw[Lib.alloc_old _ _ _ (by simp)];have h:=heap_alloc_new ((w.alloc (.cells #[.int .i64 tk,.int .i64 tv,.string ts,.bool tn,.slice tA ta tc,.slice tB td te,.slice tX tl tq] 27)).alloc (.map #[] 0)) (.map #[] 0)
   rwa [show ((w.alloc (.cells #[.int .i64 tk,.int .i64 tv,.string ts,.bool tn,.slice tA ta tc,.slice tB td te,.slice tX tl tq] 27)).alloc (.map #[] 0)).heap.size=w.heap.size+2 by simp]at h
 have HB3:=zH hb3;clear hb3 hr0;go_enter Tryz.func112,Tryz.ntmps112;go_wp2_with fail;generalize ((((w.alloc (.cells #[.int .i64 tk,.int .i64 tv,.string ts,.bool tn,.slice tA ta tc,.slice tB td te,.slice tX tl tq] 27)).alloc (.map #[] 0)).alloc (.map #[] 0)).alloc (.cells #[.int .i64 tk,.int .i64 tv,.string ts,.bool tn,.slice tA ta tc,.slice tB td te,.slice tX tl tq] 27))=w3 at HL0 HB3 ⊢
 go_loopg [9] (33*(nm+Bl.length)+1) (fun gk s9 wr=>∃ (g0 cap0:Nat) (zs:List Value) (S V:List Tm),s9=.slice (some ⟨g0,0,none⟩) S.length cap0/\Hid (zK P f L b v t Bl nm w (w.heap.size+1) (w.heap.size+2) wr g0 cap0 zs S V gk)/\Hid (Below w.heap.size w wr)/\gk<=33*(nm+Bl.length)+1)
 case atStart=>exact⟨_,1,_,[t],[],rfl,HL0,HB3,Nat.le_refl _⟩
 case round=>
  clear HL0 HB3;obtain⟨g0,cap0,zs,S,V,rfl,HL,HBe,hgk⟩:=hrel;rcases pL S with rfl|⟨S,x,rfl⟩
  ·have HN:Hid (dH b v t=false):=nr (HL.out.srch.none HBV.out (fun x hx=>(HU.out.1.2 x hx).1));go_wp2_with fail;go_ret;exact⟨by rw[HN.out];rfl,HBe.out⟩
  ·obtain⟨hcap,hrow,hstk,hsr,Sn,Mt,n1,n2,g1,g2,hM1,hM2,hT1,hT2,hV1,hS1,hD1,hN1,hV2,hS2,hD2,hN2,hms⟩:=HL.out;obtain⟨ys,cx,rfl,hst,hcx⟩:=hstk.last;obtain⟨xk,xv,xs',xn,xA,xa,xc,xB,xd,xe,xX,xl,xq,rfl⟩:=hcx.form;have hxL:=(hsr.stk x (by simp)).1;have hl1:(S++[x]).length=S.length+1:=by simp
   generalize (S++[x]).length=N1 at*;obtain⟨N,hN⟩:∃ N,S.length=N:=⟨_,rfl⟩;rw[hN]at hl1;have HNN:=zH hN;clear hN;have hq0:=hrow.cellAt (N*7);have hpop:=wd hl1.symm hrow rfl;have hyl:ys.length=N*7:=hpop.1;have HCE:Hid (∀ q,q<7->wr.cell? ⟨g0,N*7+q,none⟩=[Value.int .i64 xk,.int .i64 xv,.string xs',.bool xn,.slice xA xa xc,.slice xB xd xe,.slice xX xl xq][q]?):=fun q hq=>by
    rw[hrow.cellAt _ (by rw[hl1,Nat.succ_mul];omega),List.getElem?_append_right (by omega)]
    congr 1
    omega
   have HSR:=zH hsr;have HM:Hid (i6 w (w.heap.size+1) (w.heap.size+2) wr n1 n2 g1 g2 g0 cap0 N ys):=⟨by omega,hM1,hM2,hpop⟩;have HST:=zH hst;have HCX:=zH hcx;have HXL:=zH hxL;have HTT:Hid ((∀ k x,g1 k=some x->x=.bool true)/\(∀ k x,g2 k=some x->x=.bool true)):=⟨hT1,hT2⟩;have HV1:=zH hV1;have HV2:=zH hV2;have HSS:Hid ((∀ u∈Sn,(g1 (.int .i64 (u:Int))).isSome=true)/\Sn.Nodup/\(∀ u∈Sn,u<nm)):=⟨hS1,hD1,hN1⟩;have HMT:Hid ((∀ c∈Mt,(g2 (.pointer (some ⟨c,0,none⟩))).isSome=true)/\Mt.Nodup/\(∀ c∈Mt,c∈Bl)):=⟨hS2,hD2,hN2⟩;clear hrow hstk hsr hM1 hM2 hT1 hT2 hV1 hS1 hD1 hN1 hV2 hS2 hD2 hN2 hst hcx hxL hq0 hpop hyl HL;have g0_:=HCE.out 0 (by omega);have g1_:=HCE.out 1 (by omega);have g2_:=HCE.out 2 (by omega);have g3_:=HCE.out 3 (by omega);have g4_:=HCE.out 4 (by omega);have g5_:=HCE.out 5 (by omega);have g6_:=HCE.out 6 (by omega);simp only[List.getElem?_cons_zero,List.getElem?_cons_succ,Nat.add_zero]at g0_ g1_ g2_ g3_ g4_ g5_ g6_;clear HCE;have hn1:(0:Int)<(N1:Int):=by omega
   have hi1:IntKind.i64.wrap ((N1:Int)-1)=(N:Int):=by rw[IntWalk.i64_in _ (by omega)];omega
   have hi2:(0:Int)<=(N:Int):=by omega
   have hi3:(N:Int)<(N1:Int):=by omega
   have hi4:(N:Int)<=(cap0:Int):=by omega
   have HT4:=zH (af.new wr 27 #[.int .i64 xk,.int .i64 xv,.string xs',.bool xn,.slice xA xa xc,.slice xB xd xe,.slice xX xl xq]);have HB4:=zH (I wr (.cells #[.int .i64 xk,.int .i64 xv,.string xs',.bool xn,.slice xA xa xc,.slice xB xd xe,.slice xX xl xq] 27));obtain⟨k_,v_,s_,n_,args,A_,B_,Ar,cp,cx,hxx,hcs,hca,hcm,hxr,hxa⟩:=HCX.out.inv;simp only[List.cons.injEq,Value.int.injEq,Value.string.injEq,Value.slice.injEq,true_and,and_true]at hcs;obtain⟨rfl,rfl,rfl,hq1,hq2,hq3,rfl,hxl,hxq⟩:=hcs;have HXN:=zH hxl;clear hxl hxq hq1 hq2 hq3;have HXX:=zH hxx;have HXR:=zH hxr;have HXA:=zH hxa;have hfx:=(HU.out.1.2 _ HXL.out).1;have HFX:=zH hfx;clear hxx hxr hxa hfx hca hcm;by_cases hk1:xk=1
   ·subst hk1;have hvar:x=.var xv:=by rw[HXX.out];have h:=HFX.out;rw[HXX.out]at h;exact aZ h rfl
    have hrg:=HU.out.2 _ HXL.out xv hvar;obtain⟨i,hi⟩:=Int.eq_ofNat_of_zero_le hrg.1;subst hi;have hin:i<nm:=by omega
    have HVX:=zH hvar;clear hvar hrg;have HSW:=zH (HS0.out.below (HBe.out.trans (HB4.out.mono HBe.out.size)));have b0:=HSW.out.blk.cell 0;have t0:=HT4.out.cell 0;have t1:=HT4.out.cell 1;simp only[L3]at b0 t0 t1;have hj1:(0:Int)<=(i:Int):=by omega
    have hj2:(i:Int)<(nm:Int):=by omega
    rcases HB.out.cell i hin with ⟨hfr,hce⟩|⟨y,cy,hbd,hcy,hce⟩
    ·have g9:(wr.alloc (.cells #[.int .i64 1,.int .i64 (i:Int),.string xs',.bool xn,.slice xA xa xc,.slice xB xd xe,.slice xX xl xq] 27)).cell? ⟨G,i*9,none⟩=some (.bool false):=HSW.out.cell (by have:=hce 0 (by omega);rw[Nat.add_zero]at this;exact this);have HFR:=zH hfr;clear hfr hce;go_wp2_with fail
     go_quiet (fail)
     generalize hy0:World.drewN _ _=y0;have HY:Hid (Below wr.heap.size wr y0):=by rw[<-hy0];exact aF HB4.out _
     have HTY:Hid (af y0 wr.heap.size 27 #[.int .i64 1,.int .i64 (i:Int),.string xs',.bool xn,.slice xA xa xc,.slice xB xd xe,.slice xX xl xq]):=by rw[<-hy0];exact HT4.out
     clear hy0 b0 t0 t1 g9;have t1:=HTY.out.cell 1;simp only[L3]at t1;by_cases hiv:i=v
     ·subst hiv;have HOC:Hid (dH b (i:Int) t=true):=kC ((HSR.out.stk x (by simp)).2 (by rw[HVX.out];exact .here (sE _)));go_wp2_with fail;go_ret;exact⟨by rw[HOC.out];rfl,HBe.out.trans (HY.out.mono HBe.out.size)⟩
     ·have hne:((i:Int)==(v:Int))=false:=beq_eq_false_iff_ne.2 (by omega);have HSQ:Hid (dF L b v t S (x::V)):=by
       have h:=HSR.out.step (N:=[]) ⟨fun u e=>⟨fun _=>?_,fun y hy=>?_⟩,fun hn=>absurd HVX.out (hn _)⟩ fun y hy=>by cases hy
       ·rw[List.append_nil]at h;exact h
       ·have:=gD (HVX.out.symm.trans e);omega
       ·have:=gD (HVX.out.symm.trans e);subst this;rw[HFR.out]at hy;cases hy
      go_wp2_with fail
      go_roundg (gk-1)
      case measure=>omega
      case rel=>exact⟨g0,cap0,ys,S,x::V,by rw[HNN.out],.mk' (HM.out.below HY.out) HNN.out (by omega) HST.out HSQ.out HTT.out (fun u hu=>List.mem_cons_of_mem _ (HV1.out u hu)) (fun c hc=>by obtain⟨z,h1,h2⟩:=HV2.out c hc;exact⟨z,List.mem_cons_of_mem _ h1,h2⟩) HSS.out HMT.out (by omega),HBe.out.trans (HY.out.mono HBe.out.size),by omega⟩
    ·have g9:(wr.alloc (.cells #[.int .i64 1,.int .i64 (i:Int),.string xs',.bool xn,.slice xA xa xc,.slice xB xd xe,.slice xX xl xq] 27)).cell? ⟨G,i*9,none⟩=some (.bool true):=HSW.out.cell (by have:=hce 0 (by omega);rw[Nat.add_zero]at this;exact this);obtain⟨yk,yv,ys',yn,yA,ya,yc,yB,yd,ye,yX,yl,yq,rfl⟩:=hcy.form;have HBD:=zH hbd;have HCY:=zH hcy;have HCE:=zH hce;clear hbd hcy hce;go_wp2_with fail
     go_quiet (fail)
     generalize hy0:World.drewN _ _=y0;have HY:Hid (Below wr.heap.size wr y0):=by rw[<-hy0];exact aF HB4.out _
     have HTY:Hid (af y0 wr.heap.size 27 #[.int .i64 1,.int .i64 (i:Int),.string xs',.bool xn,.slice xA xa xc,.slice xB xd xe,.slice xX xl xq]):=by rw[<-hy0];exact HT4.out
     clear hy0 b0 t0 t1 g9;have t1:=HTY.out.cell 1;simp only[L3]at t1;have hlook:=(cM (eP y0) (mt:=89) (by kernel_rfl) (z:=.bool false) (Tryz.zeroValue4 y0) (k:=.int .i64 (i:Int)) ⟨_,rfl⟩ (HM.out.below HY.out).int).2;cases hgi:g1 (.int .i64 (i:Int)) with
     |some val=>
      obtain rfl:=HTT.out.1 _ _ hgi;rw[hgi]at hlook;simp only[Option.getD_some]at hlook;have HSQ:Hid (dF L b v t S (x::V)):=by
       have h:=HSR.out.again (by rw[HVX.out];exact HV1.out i (by rw[hgi];rfl));rw[List.append_nil]at h;exact h
      go_wp2_with fail
      go_roundg (gk-1)
      case measure=>omega
      case rel=>exact⟨g0,cap0,ys,S,x::V,by rw[HNN.out],.mk' (HM.out.below HY.out) HNN.out (by omega) HST.out HSQ.out HTT.out (fun u hu=>List.mem_cons_of_mem _ (HV1.out u hu)) (fun c hc=>by obtain⟨z,h1,h2⟩:=HV2.out c hc;exact⟨z,List.mem_cons_of_mem _ h1,h2⟩) HSS.out HMT.out (by omega),HBe.out.trans (HY.out.mono HBe.out.size),by omega⟩
     |none=>
      rw[hgi]at hlook;simp only[Option.getD_none]at hlook;obtain⟨z,n',hput,hMz,hkz⟩:=(HM.out.below HY.out).put1 (i:Int);have HMZ:=zH hMz;have HFZ:Hid (ar [none] y0 z):=(HM.out.below HY.out).fr1 hkz;have HTZ:Hid (af z wr.heap.size 27 #[.int .i64 1,.int .i64 (i:Int),.string xs',.bool xn,.slice xA xa xc,.slice xB xd xe,.slice xX xl xq]):=HTY.out.frT HFZ.out (by simp);have HBZ:Hid (Below w.heap.size w z):=HBe.out.trans ((HY.out.mono HBe.out.size).trans (hkz.below (Nat.le_trans HBe.out.size HY.out.size) fun k e=>by omega));have t1':=HTZ.out.cell 1;simp only[L3]at t1';clear hMz hkz;go_wp2_with fail;have HSZ:=zH ((HS0.out.below (HBe.out.trans (HY.out.mono HBe.out.size))).frT HFZ.out (by simp) (by simp) (by simp));have HXQ:Hid (∀ q u,[Value.int .i64 yk,.int .i64 yv,.string ys',.bool yn,.slice yA ya yc,.slice yB yd ye,.slice yX yl yq][q]?=some u->xs[i*9+(q+1)]?=some u):=fun q u hq=>by
       have hq7:q<7:=(List.getElem?_eq_some_iff.1 hq).1;rw[HCE.out (q+1) (by omega)];unfold oz;rw[List.getElem?_cons_succ,List.getElem?_append_left (by simpa using hq7)];exact hq
      have HSF:Hid (∀ W,Below z.heap.size z W->(W.cell? ⟨h,0,none⟩=some (.slice (some ⟨G,0,none⟩) nm c)/\W.cell? ⟨wr.heap.size,1,none⟩=some (.int .i64 (i:Int))/\W.cell? ⟨G,i*9+1,none⟩=some (.int .i64 yk)/\W.cell? ⟨G,i*9+2,none⟩=some (.int .i64 yv)/\W.cell? ⟨G,i*9+3,none⟩=some (.string ys')/\W.cell? ⟨G,i*9+4,none⟩=some (.bool yn)/\W.cell? ⟨G,i*9+5,none⟩=some (.slice yA ya yc)/\W.cell? ⟨G,i*9+6,none⟩=some (.slice yB yd ye)/\W.cell? ⟨G,i*9+7,none⟩=some (.slice yX yl yq))):=fun W hb=>by
       have h1:=HSZ.out.below hb;exact⟨h1.blk.cell 0,(HTZ.out.to hb).cell 1,h1.cell (HXQ.out 0 _ rfl),h1.cell (HXQ.out 1 _ rfl),h1.cell (HXQ.out 2 _ rfl),h1.cell (HXQ.out 3 _ rfl),h1.cell (HXQ.out 4 _ rfl),h1.cell (HXQ.out 5 _ rfl),h1.cell (HXQ.out 6 _ rfl)⟩
      have hbd1:=(Below.refl z.heap.size z).drew;have hbd2:=(I z (.cells #[.int .i64 yk,.int .i64 yv,.string ys',.bool yn,.slice yA ya yc,.slice yB yd ye,.slice yX yl yq] 27)).drew;have hs1:=HSF.out _ hbd1;have hs2:=HSF.out _ hbd2;have HNEWS:Hid (∀ j u,[Value.int .i64 yk,.int .i64 yv,.string ys',.bool yn,.slice yA ya yc,.slice yB yd ye,.slice yX yl yq][j]?=some u->(z.alloc (.cells #[.int .i64 yk,.int .i64 yv,.string ys',.bool yn,.slice yA ya yc,.slice yB yd ye,.slice yX yl yq] 27)).drew.cell? ((⟨z.heap.size,0,none⟩:Addr).add j)=some u):=World.news_of_block (cs:=#[.int .i64 yk,.int .i64 yv,.string ys',.bool yn,.slice yA ya yc,.slice yB yd ye,.slice yX yl yq]) (af.new z 27 #[.int .i64 yk,.int .i64 yv,.string ys',.bool yn,.slice yA ya yc,.slice yB yd ye,.slice yX yl yq]).drew;have HONE:Hid (∀ u∈[Value.int .i64 yk,.int .i64 yv,.string ys',.bool yn,.slice yA ya yc,.slice yB yd ye,.slice yX yl yq],u.oneCell'=true):=TC.one HCY.out.tc;have HM2:=zH ((HMZ.out.below (I z (.cells #[.int .i64 yk,.int .i64 yv,.string ys',.bool yn,.slice yA ya yc,.slice yB yd ye,.slice yX yl yq] 27))).drew);have HB2:Hid (Below w.heap.size w (z.alloc (.cells #[.int .i64 yk,.int .i64 yv,.string ys',.bool yn,.slice yA ya yc,.slice yB yd ye,.slice yX yl yq] 27)).drew):=HBZ.out.trans (hbd2.mono HBZ.out.size);have HFIN:Hid (∀ (g cap:Nat) (w1:World),i6 w (w.heap.size+1) (w.heap.size+2) w1 n' n2 (jC g1 (.int .i64 (i:Int)) (.bool true)) g2 g cap (N+1) (ys++[Value.int .i64 yk,.int .i64 yv,.string ys',.bool yn,.slice yA ya yc,.slice yB yd ye,.slice yX yl yq])->zK P f L b v t Bl nm w (w.heap.size+1) (w.heap.size+2) w1 g cap (ys++[Value.int .i64 yk,.int .i64 yv,.string ys',.bool yn,.slice yA ya yc,.slice yB yd ye,.slice yX yl yq]) (S++[y]) (x::V) (gk-1)):=fun g cap w1 hm=>by
       have hno:i∉Sn:=fun hm=>by have:=HSS.out.1 i hm;rw[hgi]at this;cases this
       have hlt:∀ u∈i::Sn,u<nm:=fun u hu=>by
        rcases List.mem_cons.1 hu with rfl|hu
        ·exact hin
        ·exact HSS.out.2.2 u hu
       have hnd:(i::Sn).Nodup:=List.nodup_cons.2 ⟨hno,HSS.out.2.1⟩;have hle:=pT hnd hlt;rw[List.length_cons]at hle;refine .mk' (Sn:=i::Sn) (Mt:=Mt) hm (by simp[HNN.out]) (nG hm.row) ?_ ?_ ⟨i1 HTT.out.1,HTT.out.2⟩ (fun u hu=>?_) (fun c hc=>by obtain⟨z,h1,h2⟩:=HV2.out c hc;exact⟨z,List.mem_cons_of_mem _ h1,h2⟩) ⟨fun u hu=>?_,hnd,hlt⟩ HMT.out (by rw[List.length_cons];omega)
       ·have h:=HST.out.more (N:=[y]) (cs:=fun _=>[Value.int .i64 yk,.int .i64 yv,.string ys',.bool yn,.slice yA ya yc,.slice yB yd ye,.slice yX yl yq]) (fun j hj=>by
         have:j=0:=by simp at hj;omega
         subst this;exact HCY.out)
        simpa[cD] using h
       ·refine HSR.out.step (N:=[y]) ⟨fun u e=>⟨fun hn=>?_,fun y' hy'=>?_⟩,fun hn=>absurd HVX.out (hn _)⟩ fun y' hy'=>?_
        ·have:=gD (HVX.out.symm.trans e);subst this;rw[HBD.out]at hn;cases hn
        ·have:=gD (HVX.out.symm.trans e);subst this;rw[HBD.out]at hy';cases hy';exact .inr (.inr (.inr (by simp)))
        ·rw[List.mem_singleton]at hy';subst hy';exact⟨(HW.out _ _ HBD.out).1,fun ho=>by rw[HVX.out];exact .there (sE _) HBD.out ho⟩
       ·by_cases e:u=i
        ·subst e;rw[<-HVX.out];simp
        ·rw[iB (by simp;omega)]at hu;exact List.mem_cons_of_mem _ (HV1.out u hu)
       ·rcases List.mem_cons.1 hu with rfl|hu
        ·rw[eU];rfl
        ·exact iZ (HSS.out.1 u hu)
      obtain⟨i0,hi0,hz0,hz1,hz2⟩:=info_parts eO;have HI0:=zH hi0;have HZ0:=zH hz0;have HZ1:=zH hz1;have HZ2:=zH hz2;clear hi0 hz0 hz1 hz2 hbd1 hbd2 t1 t1' hlook hput;have HGI:=zH hgi;clear hgi
      go_region_law (refine step_append_lies _ rfl _ _ 25 rfl w.heap.size 27 i0 (.agg zt.toArray) 7 112 Tryz.underlying25 HI0.out HZ0.out HZ1.out HZ2.out rfl (by decide) (.slice (some ⟨g0,0,none⟩) N cap0) N ys rfl HM2.out.row ⟨z.heap.size,0,none⟩ 1 1 [Value.int .i64 yk,.int .i64 yv,.string ys',.bool yn,.slice yA ya yc,.slice yB yd ye,.slice yX yl yq] rfl rfl HNEWS.out HONE.out (by decide) (by unfold maxLen;omega) (by omega) HB2.out.size _ rfl ?_;intro g cap w1 hown hgrow hat hlt;have HM5:=zH (HM2.out.grown hgrow hown);have HB5:Hid (Below w.heap.size w w1):=HB2.out.grown hgrow HB2.out.size (fun k hk=>(HM2.out.row.lt k hk).1);clear hown hgrow hat hlt)
      all_goals
       go_wp2_with fail
       go_roundg (gk-1)
       case measure=>omega
       case rel=>exact⟨g,cap,_,S++[y],x::V,by simp[HNN.out],HFIN.out g cap w1 HM5.out,HB5.out,by omega⟩
   ·by_cases hk5:xk=5
    ·subst hk5;have hl0:0<args.length:=by
      have h:=HFX.out;rw[HXX.out,Tm.fine]at h;rcases aj h.2.1 with ⟨h,_⟩|⟨_,_,_,_,h|h|h|h⟩<;>omega
     have hl32:args.length<=32:=by
      have h:=HFX.out;rw[HXX.out,Tm.fine]at h;rcases aj h.2.1 with ⟨_,_,_,_,h⟩|⟨_,_,_,_,h|h|h|h⟩<;>omega
     obtain⟨ab,arr,hXp,hPb,hfb,harr,hcells⟩:=HXR.out hl0;subst hXp;have hnv:∀ u,x≠.var u:=fun u e=>by rw[HXX.out]at e;exact absurd (bE e).1 (by decide)
     have HNV:=zH hnv;have HFB:=zH hfb;have HAR:=zH harr;have HCE:=zH hcells;have hxn:=HXN.out;subst hxn;have HAG:Hid (x.args=args):=by rw[HXX.out];rfl
     clear hPb hfb harr hcells hnv;obtain⟨t0,t1,t2,t3,t4,t5,t6⟩:=HT4.out.s7;go_wp2_with fail;refine (cQ 5 xv xs' xn xA xa xc xB xd xe ab 0 args.length xq hl0 _).mono ?_;rintro e y0 ⟨rfl,hb⟩;have HY:Hid (Below wr.heap.size wr y0):=HB4.out.trans (hb.mono HB4.out.size);have HTY:=zH (HT4.out.to hb);clear hb t0 t1 t2 t3 t4 t5 t6;have hlook:=(cM ((fT y0).sub (KP':=jP w) fun v ⟨c,o,cs,T,e,hq⟩=>⟨c,o,cs,T,e,((HBe.out.trans (HY.out.mono HBe.out.size)).block c (aw hq)).trans hq⟩) (mt:=176) (by kernel_rfl) (z:=.bool false) (Tryz.zeroValue4 y0) (k:=.pointer (some ⟨ab,0,none⟩)) ⟨ab,0,arr,_,rfl,HAR.out⟩ (HM.out.below HY.out).ptr).2;cases hgi:g2 (.pointer (some ⟨ab,0,none⟩)) with
     |some val=>
      obtain rfl:=HTT.out.2 _ _ hgi;rw[hgi]at hlook;simp only[Option.getD_some]at hlook;have HSQ:Hid (dF L b v t S (x::V)):=by
       obtain⟨z,h1,h2⟩:=HV2.out ab (by rw[hgi];rfl);rw[HFB.out]at h2;cases h2;have h:=HSR.out.again h1;rw[List.append_nil]at h;exact h
      go_wp2_with fail
      go_roundg (gk-1)
      case measure=>omega
      case rel=>exact⟨g0,cap0,ys,S,x::V,by rw[HNN.out],.mk' (HM.out.below HY.out) HNN.out (by omega) HST.out HSQ.out HTT.out (fun u hu=>List.mem_cons_of_mem _ (HV1.out u hu)) (fun c hc=>by obtain⟨z,h1,h2⟩:=HV2.out c hc;exact⟨z,List.mem_cons_of_mem _ h1,h2⟩) HSS.out HMT.out (by omega),HBe.out.trans (HY.out.mono HBe.out.size),by omega⟩
     |none=>
      rw[hgi]at hlook;simp only[Option.getD_none]at hlook;obtain⟨t0,t1,t2,t3,t4,t5,t6⟩:=HTY.out.s7;have HGI:=zH hgi;clear hgi;go_wp2_with fail;refine (cQ 5 xv xs' xn xA xa xc xB xd xe ab 0 args.length xq hl0 _).mono ?_;rintro e y1 ⟨rfl,hb⟩;have HY1:Hid (Below wr.heap.size wr y1):=HY.out.trans (hb.mono HY.out.size);have HTY1:=zH (HTY.out.to hb);have HW1:Hid (Below w.heap.size w y1):=HBe.out.trans (HY1.out.mono HBe.out.size);clear hb t0 t1 t2 t3 t4 t5 t6 hlook;obtain⟨z,n',hput,hMz,hkz⟩:=(HM.out.below HY1.out).put2 HW1.out HAR.out;have HMZ:=zH hMz;have HFZ:Hid (ar [none] y1 z):=(HM.out.below HY1.out).fr2 hkz;have HTZ:Hid (af z wr.heap.size 27 #[.int .i64 5,.int .i64 xv,.string xs',.bool xn,.slice xA xa xc,.slice xB xd xe,.slice (some ⟨ab,0,none⟩) args.length xq]):=HTY1.out.frT HFZ.out (by simp);have HBZ:Hid (Below w.heap.size w z):=HW1.out.trans (hkz.below HW1.out.size fun k e=>by omega);have t4:=HTZ.out.cell 6;simp only[L3]at t4;have HROW:Hid (0<args.length->∃ b o,(some ⟨ab,0,none⟩:Option Addr)=some ⟨b,o,none⟩/\b<z.heap.size/\∀ i,i<args.length->∀ j,j<7->z.cell? ⟨b,o+i*7+j,none⟩=(cx i)[j]?):=fun _=>by
       have h:=HAR.out.to HBZ.out;exact⟨ab,0,rfl,h.lt,fun i hi j hj=>by rw[h.cell,Nat.zero_add];exact HCE.out i hi j hj⟩
      have HTC:Hid (∀ i (h:i<args.length),TC z args[i] (cx i)):=fun i h=>(HXA.out i h).tc.to HBZ.out;have HCAP:Hid (N<=cap0):=by show N<=cap0;omega
      have HFIN:Hid (∀ gv w1,w1.ownsRow w.heap.size 27 7 gv (N+args.length) (ys++cD cx args.length)->z.grownBy w1 (some g0)->∃ g cap,gv=.slice (some ⟨g,0,none⟩) (N+args.length) cap/\zK P f L b v t Bl nm w (w.heap.size+1) (w.heap.size+2) w1 g cap (ys++cD cx args.length) (S++args) (x::V) (gk-1)/\Below w.heap.size w w1):=fun gv w1 hown hgrow=>by
       obtain⟨g,cap,rfl⟩:=Joins.ownsRow_form hown (by omega);have hm:=HMZ.out.grown hgrow hown;have hno:ab∉Mt:=fun hm=>by have:=HMT.out.1 ab hm;rw[HGI.out]at this;cases this
       have hmem:∀ c∈ab::Mt,c∈Bl:=fun c hc=>by
        rcases List.mem_cons.1 hc with rfl|hc
        ·exact HF.out _ _ HFB.out
        ·exact HMT.out.2.2 c hc
       have hnd:(ab::Mt).Nodup:=List.nodup_cons.2 ⟨hno,HMT.out.2.1⟩;have hle:=fV _ _ hnd hmem;rw[List.length_cons]at hle;refine⟨g,cap,rfl,.mk' (Sn:=Sn) (Mt:=ab::Mt) hm (by simp[HNN.out]) (nG hm.row) (HST.out.more HXA.out) ?_ ⟨HTT.out.1,i1 HTT.out.2⟩ (fun u hu=>List.mem_cons_of_mem _ (HV1.out u hu)) (fun c hc=>?_) HSS.out ⟨fun c hc=>?_,hnd,hmem⟩ (by rw[List.length_cons];omega),HBZ.out.grown hgrow HBZ.out.size (fun k hk=>(HMZ.out.row.lt k hk).1)⟩
       ·exact HSR.out.step (N:=args) ⟨fun u e=>absurd e (HNV.out u),fun hn a ha=>.inr (.inr (.inr (by rw[<-HAG.out];exact ha)))⟩ fun a ha=>⟨(HU.out.1.2 x HXL.out).2.2 a (by rw[HAG.out];exact ha),ia.arg HNV.out (x.cn_fine HFX.out) (by rw[HAG.out];exact ha)⟩
       ·by_cases e:c=ab
        ·subst e;exact⟨x,by simp,HFB.out⟩
        ·rw[iB (by intro e2;cases e2;exact e rfl)]at hc;obtain⟨z,h1,h2⟩:=HV2.out c hc;exact⟨z,List.mem_cons_of_mem _ h1,h2⟩
       ·rcases List.mem_cons.1 hc with rfl|hc
        ·rw[eU];rfl
        ·exact iZ (HMT.out.1 c hc)
      clear hMz hkz
      go_wp2_with (at_builtin;refine gI _ rfl _ _ rfl w.heap.size g0 cap0 N ys rfl HCAP.out HMZ.out.row (some ⟨ab,0,none⟩) args.length xq args cx rfl rfl HROW.out HTC.out (by unfold maxLen;omega) (by omega) HBZ.out.size ?_;intro gv w1 hown hgrow;obtain⟨g,cap,hgv,hO5,hB5⟩:=HFIN.out gv w1 hown hgrow;subst hgv;have HO5:=zH hO5;have HB5:=zH hB5;clear hown hgrow hO5 hB5)
      go_roundg (gk-1)
      case measure=>omega
      case rel=>exact⟨g,cap,_,S++args,x::V,by rw[List.length_append,HNN.out],HO5.out,HB5.out,by omega⟩
    ·have hkb1:(xk==1)=false:=beq_eq_false_iff_ne.2 hk1;have hkb5:(xk==5)=false:=beq_eq_false_iff_ne.2 hk5;have hna:args=[]:=by
      have h:=HFX.out;rw[HXX.out,Tm.fine]at h;refine List.eq_nil_of_length_eq_zero ?_;rcases aj h.2.1 with ⟨_,_,_,_,h⟩|⟨_,_,_,_,h|h|h|h⟩<;>omega
     have HSQ:Hid (dF L b v t S (x::V)):=by
      have h:=HSR.out.step (N:=[]) ⟨fun u e=>by rw[HXX.out]at e;exact absurd (bE e).1 hk1,fun hn a ha=>by rw[HXX.out,hna]at ha;cases ha⟩ fun y hy=>by cases hy
      rw[List.append_nil]at h;exact h
     have t0:=HT4.out.cell 0;simp only[L3]at t0;clear hna;go_wp2_with fail
     go_roundg (gk-1)
     case measure=>omega
     case rel=>exact⟨g0,cap0,ys,S,x::V,by rw[HNN.out],.mk' (HM.out.below HB4.out) HNN.out (by omega) HST.out HSQ.out HTT.out (fun u hu=>List.mem_cons_of_mem _ (HV1.out u hu)) (fun c hc=>by obtain⟨z,h1,h2⟩:=HV2.out c hc;exact⟨z,List.mem_cons_of_mem _ h1,h2⟩) HSS.out HMT.out (by omega),HBe.out.trans (HB4.out.mono HBe.out.size),by omega⟩
end Go.Proofs.YtlhojoefhannnaaGreat
