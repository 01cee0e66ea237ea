/- term.Free's closure: the variables in order. And 2 more texts. -/
import Derived.Deep.RegionLaw
import Derived.Deep.AppendLies
import Derived.Test.YtlhojoefhannnaaGreatJx5
set_option linter.unusedVariables false
set_option linter.unusedSimpArgs false
set_option maxRecDepth 100000
set_option maxHeartbeats 51200000
namespace Go.Proofs.YtlhojoefhannnaaGreat
open Go.Proofs.Tryz Go.RowKit NumB
mutual
def Tm.free:Tm->List Int->List Int
 |.mk k v _ _ args,l=>bM args (if k=1/\v∉l then l++[v] else l)
def bM:List Tm->List Int->List Int
 |[],l=>l
 |t::ts,l=>bM ts (t.free l)
end
theorem tL (ts:List Tm) (t:Tm):∀ l,bM (ts++[t]) l=t.free (bM ts l):=by
 induction ts with
 |nil=>intro l;simp[bM]
 |cons x ts a=>intro l;simp[bM,a]
theorem i5 (args:List Tm) {j:Nat} (a:j<args.length) (l:List Int):bM (args.take (j+1)) l=(args[j]).free (bM (args.take j) l):=by
 rw[List.take_succ_eq_append_getElem a,tL]
theorem pu:∀ (n:Nat) (t:Tm),t.count<=n->∀ l,(t.free l).length<=l.length+t.count:=by
 intro n
 induction n with
 |zero=>intro t d;cases t;simp[Tm.count]at d
 |succ n i=>
  intro t d l;cases t with
  |mk k v s m b=>
   rw[Tm.count]at d ⊢;rw[Tm.free];have f:∀ (a:List Tm),am a<=n->∀ l,(bM a l).length<=l.length+am a:=by
    intro a
    induction a with
    |nil=>intro _ l;simp[bM,am]
    |cons x a e=>
     intro h l;rw[am]at h ⊢;rw[bM];have c:=i x (by omega) l;have j:=e (by omega) (x.free l);omega
   have c:=f b (by omega) (if k=1/\v∉l then l++[v] else l);by_cases g:k=1/\v∉l
   ·rw[if_pos g]at c ⊢;simp at c;omega
   ·rw[if_neg g]at c ⊢;omega
theorem ia (t:Tm) (l:List Int):(t.free l).length<=l.length+t.count:=pu _ t zA l
theorem jP (ts:List Tm):∀ l,(bM ts l).length<=l.length+am ts:=by
 induction ts with
 |nil=>intro l;simp[bM,am]
 |cons x ts a=>
  intro l;rw[bM,am];have b:=ia x l;have c:=a (x.free l);omega
def sj (l:List Int):Int->Option Value:=fun j=>if j∈l then some (.bool true) else none
def BB (l:List Int):List Value:=l.map (fun i=>.int .i64 i)
structure FV (B bs bo bv ms:Nat) (l:List Int) (W:World):Prop where
 h1:ah W bs 89 #[.map (some ms)]
 h2:∃ ov,ah W bo 54 #[ov]/\W.ownsRow B 3 1 ov l.length (BB l)
 h3:ah W bv 90 #[.func (.func 57) #[] #[.pointer (some ⟨bs,0,none⟩),.pointer (some ⟨bo,0,none⟩),.pointer (some ⟨bv,0,none⟩)]]
 h4:∃ n,da W ms n (sj l)
 le:B<=bo/\B<=ms
theorem FV.below {B d c e ms:Nat} {l:List Int} {W b:World} (g:FV B d c e ms l W) (a:zZ W b):FV B d c e ms l b:=by
 obtain⟨j,h,i⟩:=g.h2;obtain⟨n,f⟩:=g.h4;exact⟨g.h1.to a,⟨j,h.to a,ay (ts:=[]) i (aD.of_below a) (by simp)⟩,g.h3.to a,⟨n,f.keep (a.block _ (an f.is.choose_spec.choose_spec))⟩,g.le⟩
theorem da.frT {ts:List (Option TypeId)} {w w':World} {b n:Nat} {f:Int->Option Value} (h:da w b n f) (g:aD ts w w') (d:none∉ts):da w' b n f:=by
 obtain⟨a,c,e,r⟩:=h;exact⟨a,c,g _ _ e (eE.map d),r⟩
theorem lI:(prog.info? 3).map (fun i=>(i.zero,i.size,i.bytes))=some (some (.int .i64 0),1,8):=by kernel_rfl
theorem FV.dom {B b a c ms:Nat} {l:List Int} {W:World} (g:FV B b a c ms l W) (v:Int):(Instr.lookup 89 (.map (some ms)) (.int .i64 v) false).run prog W=.ok (.bool (decide (v∈l))) W:=by
 obtain⟨n,h⟩:=g.h4;have:=(nZ (w:=W) (et:=4) (mt:=89) (by kernel_rfl) (z:=.bool false) (zeroValue4 W) h v).2;rw[this];unfold sj;by_cases d:v∈l<;>simp[d]
theorem FV.put {B m i p ms:Nat} {l:List Int} {W:World} (g:FV B m i p ms l W) (v:Int):∃ z,(Instr.mapUpdate 89 (.map (some ms)) (.int .i64 v) (.bool true)).run prog W=.ok () z/\(∃ n,da z ms n (sj (l++[v])))/\aD [none] W z/\Below B W z:=by
 obtain⟨n,h⟩:=g.h4;obtain⟨z,q,b,c⟩:=jr (w:=W) (et:=4) (mt:=89) (by kernel_rfl) h v (.bool true);refine⟨z,q,⟨n+1,?_⟩,(aD.refl _ W).kept c fun k e o f a=>?_,c.below ?_ fun k e=>?_⟩
 ·have:(fun j=>if j=v then some (Value.bool true) else sj l j)=sj (l++[v]):=by
   funext j
   unfold sj;by_cases d:j=v
   ·subst d;simp
   ·simp[d]
  rw[this]at b;exact b
 ·obtain⟨x,t,r⟩:=h.is;have e:k=ms:=e;subst e;rw[r]at f;exact a.2 (by simp) _ _ (zI f).symm
 ·have:=an h.is.choose_spec.choose_spec;exact Nat.le_of_lt (Nat.lt_of_le_of_lt g.le.2 this)
 ·have e:k=ms:=e;subst e;exact g.le.2
theorem tM (B X F Y ms:Nat) {w:World} (c0:w.heap.size<=B) {t:Tm} {cs:List Value} (h:TC w t cs):∀ (c:List Int),c.length+t.count<=1000000->∀ (W:World),zZ w W->B<=W.heap.size->FV B X F Y ms c W->
 Calls prog 57 #[.agg cs.toArray,.pointer (some ⟨X,0,none⟩),.pointer (some ⟨F,0,none⟩),.pointer (some ⟨Y,0,none⟩)] W fun e G=>e=.returned (.tuple #[])/\FV B X F Y ms (t.free c) G/\aD [none,some 3,some 54] W G/\Below B W G:=by
 induction h with
 |mk k v s n a A C Ar r cs hk hv hs hA hB hn g6 hm hr ha ih=>
  intro c e7 W hW d5 hF;have HR:=zH hr;have HA:=zH ha;have IH:=zH ih;have U:Yd ((Tm.mk k v s n a).count=1+am a):=rfl;have a0:Yd ((Tm.mk k v s n a).free c=bM a (if k=1/\v∉c then c++[v] else c)):=rfl;have T:=zH e7;unfold maxLen at hm;have b8:=zH hW;have N:=zH d5;have a3:=zH hF;generalize (Tm.mk k v s n a).count=ct at*;generalize (Tm.mk k v s n a).free c=fe at*;generalize n.neg=ng at*;obtain⟨A1,J,rfl,_⟩:=hA;obtain⟨B1,L,rfl,_⟩:=hB;generalize n.num.length=m1 at*;generalize n.den.length=m2 at*;clear hr ha ih hn hk hs hW e7 d5 hF;have HV:=zH hv;clear hv;obtain⟨l,hl⟩:∃ l,a.length=l:=⟨_,rfl⟩;rw[hl]at g6 ⊢;have HL:=zH hl;clear hl;have i:Yd (zZ W (W.alloc (.cells #[.int .i64 k,.int .i64 v,.string s,.bool ng,.slice A1 m1 J,.slice B1 m2 L,.slice Ar l r] 27))):=ae W _;have V:Yd (ah (W.alloc (.cells #[.int .i64 k,.int .i64 v,.string s,.bool ng,.slice A1 m1 J,.slice B1 m2 L,.slice Ar l r] 27)) W.heap.size 27 (zX k v s ng A1 m1 J B1 m2 L Ar l r).toArray):=ah.new W _ _;by_cases a1:k=1
  ·have g8:(k==1)=true:=by simp[a1]
   have g4:=zH a1;clear a1;have D:=zH (a3.o.below i.o);have s1:=D.o.h1.cell 0;have t0:=V.o.cell 0;have t1:=V.o.cell 1;have t6:=V.o.cell 6;have lk:=D.o.dom v;simp only[L3]at s1 t0 t1 t6;by_cases hm:v∈c
   ·have hd:decide (v∈c)=true:=by simp[hm]
    rw[hd]at lk;have HE:Yd (fe=bM a c):=by
     have h:=a0.o;rw[if_neg (fun q=>q.2 hm)]at h;exact h
    have a7:Yd (c.length+1+am a<=1000000):=by have:=T.o;have:=U.o;show _<=_;omega
    have HY:Yd (FV B X F Y ms c (W.alloc (.cells #[.int .i64 k,.int .i64 v,.string s,.bool ng,.slice A1 m1 J,.slice B1 m2 L,.slice Ar l r] 27))/\aD [none,some 3,some 54] W (W.alloc (.cells #[.int .i64 k,.int .i64 v,.string s,.bool ng,.slice A1 m1 J,.slice B1 m2 L,.slice Ar l r] 27))/\Below B W (W.alloc (.cells #[.int .i64 k,.int .i64 v,.string s,.bool ng,.slice A1 m1 J,.slice B1 m2 L,.slice Ar l r] 27))/\B<=(W.alloc (.cells #[.int .i64 k,.int .i64 v,.string s,.bool ng,.slice A1 m1 J,.slice B1 m2 L,.slice Ar l r] 27)).heap.size):=⟨D.o,aD.of_below i.o,i.o.mono N.o,zC N.o i.o.size⟩;clear hd hm a3 a0 T U;go_enter func57,ntmps57;go_wp2_with fail;clear s1 t0 t1 t6 lk D i V;generalize (W.alloc (.cells #[.int .i64 k,.int .i64 v,.string s,.bool ng,.slice A1 m1 J,.slice B1 m2 L,.slice Ar l r] 27))=y at HY ⊢
    go_loopg [28] l (fun gk b2 wr=>∃ j:Nat,gk+j=l/\b2=.int .i64 (j:Int)/\Yd (FV B X F Y ms (bM (a.take j) (c)) wr/\aD [none,some 3,some 54] W wr/\Below B W wr/\B<=wr.heap.size))
    case atStart=>exact⟨0,by omega,rfl,by rw[List.take_zero];exact HY⟩
    case round=>
     clear HY;obtain⟨j,e8,rfl,g⟩:=hrel;by_cases hj:j<l
     ·have m:j<a.length:=by rw[HL.o];exact hj
      have x:zZ w wr:=b8.o.trans (g.o.2.2.1.mono c0);obtain⟨b,o,k',v',s',P,A2,n2,c2,B2,m3,d2,Xr,xl,xc,a8,b0,f0,e0,e1,e2,e3,e4,e5,e6⟩:=aZ HR.o HA.o x m;subst a8;have h1:=bq a m;have h5:=cH a (j+1);have h6:=jP (a.take j) (c);have h7:=a7.o;have d:Yd (∀ G,zZ wr G->Calls prog 57 #[.agg (zX k' v' s' P A2 n2 c2 B2 m3 d2 Xr xl xc).toArray,zY X,zY F,zY Y] G fun e S=>e=.returned (.tuple #[])/\Yd (FV B X F Y ms (bM (a.take (j+1)) (c)) S/\aD [none,some 3,some 54] W S/\Below B W S/\B<=S.heap.size)):=fun G I=>by
       have a9:Below B wr G:=I.mono g.o.2.2.2;have:=IH.o j m (bM (a.take j) (c)) (by omega) G (x.trans (I.mono x.size)) (zC g.o.2.2.2 I.size) (g.o.1.below I);rw[b0]at this;refine this.mono ?_;rintro e S ⟨rfl,J,L,q3⟩;rw[i5 a m];exact⟨rfl,J,(g.o.2.1.trans (aD.of_below I)).trans L,(g.o.2.2.1.trans a9).trans q3,zC (zC g.o.2.2.2 I.size) q3.size⟩
      have O:=(g.o.1.below (ae wr (.cells #[.int .i64 k',.int .i64 v',.string s',.bool P,.slice A2 n2 c2,.slice B2 m3 d2,.slice Xr xl xc] 27))).h3.cell 0;simp only[L3]at O;clear h1 h5 h6 h7;go_wp2_with fail;refine (d.o _ (by exact ae _ _)).mono ?_;rintro e w3 ⟨rfl,a6⟩;clear e0 e1 e2 e3 e4 e5 e6 d O;go_wp2_with fail
      go_roundg (gk-1)
      case measure=>omega
      case rel=>exact⟨j+1,by omega,by go_num,a6⟩
     ·obtain rfl:j=l:=by omega
      have h2:=g.o;rw[zG (by rw[HL.o];exact zN _)]at h2;have a2:=HE.o;subst a2;have E:=zH h2;clear h2 g;go_wp2_with fail;unfold bodyPost;refine⟨rfl,.tuple #[],?_,rfl,E.o.1,E.o.2.1,E.o.2.2.1⟩
      first|(simp[results,Tryz.f57];done)|(unfold results;rfl)|kernel_rfl
   ·have hd:decide (v∈c)=false:=by simp[hm]
    rw[hd]at lk;have HE:Yd (fe=bM a (c++[v])):=by
     have h:=a0.o;rw[if_pos ⟨g4.o,hm⟩]at h;exact h
    have a7:Yd ((c++[v]).length+am a<=1000000):=by have:=T.o;have:=U.o;show _<=_;simp;omega
    have c5:Yd (c.length+1<=1000000):=by have:=T.o;have:=U.o;show _<=_;omega
    obtain⟨z,hz,f4,b1,d8⟩:=D.o.put v;have c6:=zH f4;have c4:=zH b1;have b4:=zH d8;obtain⟨ov,d7,f5⟩:=D.o.h2;have b3:=zH (d7.frT b1 (by decide));have b5:=zH (ay f5 b1 (by decide));have b6:=zH (V.o.frT b1 (by decide));have o0:=b3.o.cell 0;have fo:=b3.o.frozen 0;have g2:=b6.o.cell 1;have g3:=b6.o.cell 6;simp only[L3]at o0 g2 g3;clear hd hm a3 a0 T U f4 b1 d8 d7 f5 t6;obtain⟨i0,e9,f6,f7,f8⟩:=info_parts lI;have HI:=zH e9;have d1:=zH f6;have d3:=zH f7;have d4:=zH f8;clear e9 f6 f7 f8;have c7:Yd (∀ j u,[Value.int .i64 v][j]?=some u->(z.alloc (.cells #[.int .i64 v] 3)).cell? ((⟨z.heap.size,0,none⟩:Addr).add j)=some u):=fun j u hj=>by
     have:=(ah.new z 3 #[.int .i64 v]).cell j;rw[Go.WideShapes.add_plain,Nat.zero_add,this];simpa using hj
    have b7:Yd (B<=(z.alloc (.cells #[.int .i64 v] 3)).heap.size):=zC (zC N.o i.o.size) (zC b4.o.size (by simp));go_enter func57,ntmps57
    go_wp2_with (at_builtin;refine wpList_append_own_at _ rfl _ _ 54 rfl B 3 i0 (.int .i64 0) 1 8 underlying54 HI.o d1.o d3.o d4.o rfl (by decide) ov c.length (BB c) rfl (b5.o.alloc _) ⟨z.heap.size,0,none⟩ 1 1 [.int .i64 v] rfl rfl c7.o (by intro u hu;simp at hu;subst hu;rfl) (by have:=c5.o;unfold maxLen;omega) (by have:=c5.o;omega) b7.o ?_;intro v1 w1 Z c1 g9 g5;clear g9 g5;obtain⟨g1,Q,rfl⟩:=Joins.ownsRow_form Z (by omega);have c8:=zH Z;have a4:Yd (aD [some 3] z w1):=(aD.of_below (ae z _)).grown c1 (fun k hk=>by (obtain⟨cs,f,hc⟩:=Lib.ownsRow_kind (b5.o.alloc (.cells #[.int .i64 v] 3)) k hk;exact⟨cs,_,f,hc,by decide⟩));have c3:Yd (Below B z w1):=((Below.refl B z).alloc (zC (zC N.o i.o.size) b4.o.size) _).grown c1 b7.o (fun k hk=>((b5.o.alloc (.cells #[.int .i64 v] 3)).lt k hk).1);clear Z c1 o0 fo g2 g3;have M:=zH (b3.o.frT a4.o (by decide));have c9:=zH (b6.o.frT a4.o (by decide));have p0:=M.o.cell 0;have pf:=M.o.frozen 0;have a5:Yd (aD [some 54] w1 (w1.setCell ⟨F,0,none⟩ (.slice (some ⟨g1,0,none⟩) (c.length+1) Q))):=(aD.refl _ _).setCell (p:=⟨F,0,none⟩) M.o (by decide) _;have d0:=zH (c9.o.frT a5.o (by decide));have g0:=d0.o.cell 6;simp only[L3]at p0 g0)
    have HY:Yd (FV B X F Y ms (c++[v]) (w1.setCell ⟨F,0,none⟩ (.slice (some ⟨g1,0,none⟩) (c.length+1) Q))/\aD [none,some 3,some 54] W (w1.setCell ⟨F,0,none⟩ (.slice (some ⟨g1,0,none⟩) (c.length+1) Q))/\Below B W (w1.setCell ⟨F,0,none⟩ (.slice (some ⟨g1,0,none⟩) (c.length+1) Q))/\B<=(w1.setCell ⟨F,0,none⟩ (.slice (some ⟨g1,0,none⟩) (c.length+1) Q)).heap.size):=by
     have f1:=c4.o.mono (ts':=[none,some 3,some 54]) (by decide);have f2:=a4.o.mono (ts':=[none,some 3,some 54]) (by decide);have f3:=a5.o.mono (ts':=[none,some 3,some 54]) (by decide);have g7:=(((aD.of_below (ts:=[none,some 3,some 54]) i.o).trans f1).trans f2).trans f3;have d6:Below B W (w1.setCell ⟨F,0,none⟩ (.slice (some ⟨g1,0,none⟩) (c.length+1) Q)):=(((i.o.mono N.o).trans b4.o).trans c3.o).setCell (p:=⟨F,0,none⟩) D.o.le.1 _;refine⟨⟨((D.o.h1.frT f1 (by decide)).frT f2 (by decide)).frT f3 (by decide),⟨.slice (some ⟨g1,0,none⟩) (c.length+1) Q,?_,?_⟩,((D.o.h3.frT f1 (by decide)).frT f2 (by decide)).frT f3 (by decide),?_,D.o.le⟩,g7,d6,zC N.o d6.size⟩
     ·have:=M.o.set_ 0 (.slice (some ⟨g1,0,none⟩) (c.length+1) Q);simpa using this
     ·have:=ay c8.o a5.o (by decide);rw[zE];unfold BB at this ⊢;rw[List.map_append];exact this
     ·obtain⟨n,h⟩:=c6.o;exact⟨n,(h.frT a4.o (by decide)).frT a5.o (by decide)⟩
    clear g0 p0 pf D i V c6 c4 b4 b3 b5 b6 HI d1 d3 d4 c7 b7 c8 a4 c3 M c9 a5 d0 hz lk s1 t0 t1;generalize World.setCell _ _ _=y at HY ⊢
    go_loopg [28] l (fun gk b2 wr=>∃ j:Nat,gk+j=l/\b2=.int .i64 (j:Int)/\Yd (FV B X F Y ms (bM (a.take j) (c++[v])) wr/\aD [none,some 3,some 54] W wr/\Below B W wr/\B<=wr.heap.size))
    case atStart=>exact⟨0,by omega,rfl,by rw[List.take_zero];exact HY⟩
    case round=>
     clear HY;obtain⟨j,e8,rfl,g⟩:=hrel;by_cases hj:j<l
     ·have m:j<a.length:=by rw[HL.o];exact hj
      have x:zZ w wr:=b8.o.trans (g.o.2.2.1.mono c0);obtain⟨b,o,k',v',s',P,A2,n2,c2,B2,m3,d2,Xr,xl,xc,a8,b0,f0,e0,e1,e2,e3,e4,e5,e6⟩:=aZ HR.o HA.o x m;subst a8;have h1:=bq a m;have h5:=cH a (j+1);have h6:=jP (a.take j) (c++[v]);have h7:=a7.o;have d:Yd (∀ G,zZ wr G->Calls prog 57 #[.agg (zX k' v' s' P A2 n2 c2 B2 m3 d2 Xr xl xc).toArray,zY X,zY F,zY Y] G fun e S=>e=.returned (.tuple #[])/\Yd (FV B X F Y ms (bM (a.take (j+1)) (c++[v])) S/\aD [none,some 3,some 54] W S/\Below B W S/\B<=S.heap.size)):=fun G I=>by
       have a9:Below B wr G:=I.mono g.o.2.2.2;have:=IH.o j m (bM (a.take j) (c++[v])) (by omega) G (x.trans (I.mono x.size)) (zC g.o.2.2.2 I.size) (g.o.1.below I);rw[b0]at this;refine this.mono ?_;rintro e S ⟨rfl,J,L,q3⟩;rw[i5 a m];exact⟨rfl,J,(g.o.2.1.trans (aD.of_below I)).trans L,(g.o.2.2.1.trans a9).trans q3,zC (zC g.o.2.2.2 I.size) q3.size⟩
      have O:=(g.o.1.below (ae wr (.cells #[.int .i64 k',.int .i64 v',.string s',.bool P,.slice A2 n2 c2,.slice B2 m3 d2,.slice Xr xl xc] 27))).h3.cell 0;simp only[L3]at O;clear h1 h5 h6 h7;go_wp2_with fail;refine (d.o _ (by exact ae _ _)).mono ?_;rintro e w3 ⟨rfl,a6⟩;clear e0 e1 e2 e3 e4 e5 e6 d O;go_wp2_with fail
      go_roundg (gk-1)
      case measure=>omega
      case rel=>exact⟨j+1,by omega,by go_num,a6⟩
     ·obtain rfl:j=l:=by omega
      have h2:=g.o;rw[zG (by rw[HL.o];exact zN _)]at h2;have a2:=HE.o;subst a2;have E:=zH h2;clear h2 g;go_wp2_with fail;unfold bodyPost;refine⟨rfl,.tuple #[],?_,rfl,E.o.1,E.o.2.1,E.o.2.2.1⟩
      first|(simp[results,Tryz.f57];done)|(unfold results;rfl)|kernel_rfl
  ·have g8:(k==1)=false:=zL a1;have HE:Yd (fe=bM a c):=by
    have h:=a0.o;rw[if_neg (fun q=>a1 q.1)]at h;exact h
   have a7:Yd (c.length+1+am a<=1000000):=by have:=T.o;have:=U.o;show _<=_;omega
   have HY:Yd (FV B X F Y ms c (W.alloc (.cells #[.int .i64 k,.int .i64 v,.string s,.bool ng,.slice A1 m1 J,.slice B1 m2 L,.slice Ar l r] 27))/\aD [none,some 3,some 54] W (W.alloc (.cells #[.int .i64 k,.int .i64 v,.string s,.bool ng,.slice A1 m1 J,.slice B1 m2 L,.slice Ar l r] 27))/\Below B W (W.alloc (.cells #[.int .i64 k,.int .i64 v,.string s,.bool ng,.slice A1 m1 J,.slice B1 m2 L,.slice Ar l r] 27))/\B<=(W.alloc (.cells #[.int .i64 k,.int .i64 v,.string s,.bool ng,.slice A1 m1 J,.slice B1 m2 L,.slice Ar l r] 27)).heap.size):=⟨a3.o.below i.o,aD.of_below i.o,i.o.mono N.o,zC N.o i.o.size⟩;clear a1 a3 a0 T U;go_enter func57,ntmps57;go_wp2_with fail;clear i V;generalize (W.alloc (.cells #[.int .i64 k,.int .i64 v,.string s,.bool ng,.slice A1 m1 J,.slice B1 m2 L,.slice Ar l r] 27))=y at HY ⊢
   go_loopg [28] l (fun gk b2 wr=>∃ j:Nat,gk+j=l/\b2=.int .i64 (j:Int)/\Yd (FV B X F Y ms (bM (a.take j) (c)) wr/\aD [none,some 3,some 54] W wr/\Below B W wr/\B<=wr.heap.size))
   case atStart=>exact⟨0,by omega,rfl,by rw[List.take_zero];exact HY⟩
   case round=>
    clear HY;obtain⟨j,e8,rfl,g⟩:=hrel;by_cases hj:j<l
    ·have m:j<a.length:=by rw[HL.o];exact hj
     have x:zZ w wr:=b8.o.trans (g.o.2.2.1.mono c0);obtain⟨b,o,k',v',s',P,A2,n2,c2,B2,m3,d2,Xr,xl,xc,a8,b0,f0,e0,e1,e2,e3,e4,e5,e6⟩:=aZ HR.o HA.o x m;subst a8;have h1:=bq a m;have h5:=cH a (j+1);have h6:=jP (a.take j) (c);have h7:=a7.o;have d:Yd (∀ G,zZ wr G->Calls prog 57 #[.agg (zX k' v' s' P A2 n2 c2 B2 m3 d2 Xr xl xc).toArray,zY X,zY F,zY Y] G fun e S=>e=.returned (.tuple #[])/\Yd (FV B X F Y ms (bM (a.take (j+1)) (c)) S/\aD [none,some 3,some 54] W S/\Below B W S/\B<=S.heap.size)):=fun G I=>by
      have a9:Below B wr G:=I.mono g.o.2.2.2;have:=IH.o j m (bM (a.take j) (c)) (by omega) G (x.trans (I.mono x.size)) (zC g.o.2.2.2 I.size) (g.o.1.below I);rw[b0]at this;refine this.mono ?_;rintro e S ⟨rfl,J,L,q3⟩;rw[i5 a m];exact⟨rfl,J,(g.o.2.1.trans (aD.of_below I)).trans L,(g.o.2.2.1.trans a9).trans q3,zC (zC g.o.2.2.2 I.size) q3.size⟩
     have O:=(g.o.1.below (ae wr (.cells #[.int .i64 k',.int .i64 v',.string s',.bool P,.slice A2 n2 c2,.slice B2 m3 d2,.slice Xr xl xc] 27))).h3.cell 0;simp only[L3]at O;clear h1 h5 h6 h7;go_wp2_with fail;refine (d.o _ (by exact ae _ _)).mono ?_;rintro e w3 ⟨rfl,a6⟩;clear e0 e1 e2 e3 e4 e5 e6 d O;go_wp2_with fail
     go_roundg (gk-1)
     case measure=>omega
     case rel=>exact⟨j+1,by omega,by go_num,a6⟩
    ·obtain rfl:j=l:=by omega
     have h2:=g.o;rw[zG (by rw[HL.o];exact zN _)]at h2;have a2:=HE.o;subst a2;have E:=zH h2;clear h2 g;go_wp2_with fail;unfold bodyPost;refine⟨rfl,.tuple #[],?_,rfl,E.o.1,E.o.2.1,E.o.2.2.1⟩
     first|(simp[results,Tryz.f57];done)|(unfold results;rfl)|kernel_rfl
theorem rh {w:World} {t:Tm} {cs:List Value} (h:TC w t cs) (O:t.count<=1000000) (W:World) (x:zZ w W):
 Calls prog 31 #[.agg cs.toArray] W fun e I=>∃ y,e=.returned y/\I.ownsRow W.heap.size 3 1 y (t.free []).length (BB (t.free []))/\zZ W I:=by
 obtain⟨k,v,s,n,b,m,f,d,i,g,c,l,a,C⟩:=h.form;subst C;have o:ah (((((W.alloc (.cells #[.int .i64 k,.int .i64 v,.string s,.bool n,.slice b m f,.slice d i g,.slice c l a] 27)).alloc (.cells #[.slice none 0 0] 54)).alloc (.map #[] 0)).alloc (.cells #[.map (some (W.heap.size+1+1))] 89)).alloc (.cells #[.nilFunc] 90)) (W.heap.size+1+1+1+1) 90 #[.nilFunc]:=by
  have:=ah.new ((((W.alloc (.cells #[.int .i64 k,.int .i64 v,.string s,.bool n,.slice b m f,.slice d i g,.slice c l a] 27)).alloc (.cells #[.slice none 0 0] 54)).alloc (.map #[] 0)).alloc (.cells #[.map (some (W.heap.size+1+1))] 89)) 90 #[.nilFunc];rw[show ((((W.alloc (.cells #[.int .i64 k,.int .i64 v,.string s,.bool n,.slice b m f,.slice d i g,.slice c l a] 27)).alloc (.cells #[.slice none 0 0] 54)).alloc (.map #[] 0)).alloc (.cells #[.map (some (W.heap.size+1+1))] 89)).heap.size=W.heap.size+1+1+1+1 by simp]at this;exact this
 have L:=o.frozen 0;have J:=o.cell 0;have F:(store ⟨W.heap.size+1+1+1+1,0,none⟩ (.func (.func 57) #[] #[.pointer (some ⟨W.heap.size+1+1+1,0,none⟩),.pointer (some ⟨W.heap.size+1,0,none⟩),.pointer (some ⟨W.heap.size+1+1+1+1,0,none⟩)])).run prog (((((W.alloc (.cells #[.int .i64 k,.int .i64 v,.string s,.bool n,.slice b m f,.slice d i g,.slice c l a] 27)).alloc (.cells #[.slice none 0 0] 54)).alloc (.map #[] 0)).alloc (.cells #[.map (some (W.heap.size+1+1))] 89)).alloc (.cells #[.nilFunc] 90))=.ok () ((((((W.alloc (.cells #[.int .i64 k,.int .i64 v,.string s,.bool n,.slice b m f,.slice d i g,.slice c l a] 27)).alloc (.cells #[.slice none 0 0] 54)).alloc (.map #[] 0)).alloc (.cells #[.map (some (W.heap.size+1+1))] 89)).alloc (.cells #[.nilFunc] 90)).setCell ⟨W.heap.size+1+1+1+1,0,none⟩ (.func (.func 57) #[] #[.pointer (some ⟨W.heap.size+1+1+1,0,none⟩),.pointer (some ⟨W.heap.size+1,0,none⟩),.pointer (some ⟨W.heap.size+1+1+1+1,0,none⟩)])):=by
  rw[run_store _ _ _ _ _ rfl,J,L];rfl
 clear o L J;have p:Yd (Calls prog 57 #[.agg (zX k v s n b m f d i g c l a).toArray,.pointer (some ⟨W.heap.size+1+1+1,0,none⟩),.pointer (some ⟨W.heap.size+1,0,none⟩),.pointer (some ⟨W.heap.size+1+1+1+1,0,none⟩)] (((((W.alloc (.cells #[.int .i64 k,.int .i64 v,.string s,.bool n,.slice b m f,.slice d i g,.slice c l a] 27)).alloc (.cells #[.slice none 0 0] 54)).alloc (.map #[] 0)).alloc (.cells #[.map (some (W.heap.size+1+1))] 89)).alloc (.cells #[.func (.func 57) #[] #[.pointer (some ⟨W.heap.size+1+1+1,0,none⟩),.pointer (some ⟨W.heap.size+1,0,none⟩),.pointer (some ⟨W.heap.size+1+1+1+1,0,none⟩)]] 90)) fun e G=>e=.returned (.tuple #[])/\Yd (FV W.heap.size (W.heap.size+1+1+1) (W.heap.size+1) (W.heap.size+1+1+1+1) (W.heap.size+1+1) (t.free []) G/\zZ W G)):=by
  have A:ah ((W.alloc (.cells #[.int .i64 k,.int .i64 v,.string s,.bool n,.slice b m f,.slice d i g,.slice c l a] 27)).alloc (.cells #[.slice none 0 0] 54)) (W.heap.size+1) 54 #[.slice none 0 0]:=by
   have:=ah.new (W.alloc (.cells #[.int .i64 k,.int .i64 v,.string s,.bool n,.slice b m f,.slice d i g,.slice c l a] 27)) 54 #[.slice none 0 0];rw[show (W.alloc (.cells #[.int .i64 k,.int .i64 v,.string s,.bool n,.slice b m f,.slice d i g,.slice c l a] 27)).heap.size=W.heap.size+1 by simp]at this;exact this
  have B:ah ((((W.alloc (.cells #[.int .i64 k,.int .i64 v,.string s,.bool n,.slice b m f,.slice d i g,.slice c l a] 27)).alloc (.cells #[.slice none 0 0] 54)).alloc (.map #[] 0)).alloc (.cells #[.map (some (W.heap.size+1+1))] 89)) (W.heap.size+1+1+1) 89 #[.map (some (W.heap.size+1+1))]:=by
   have:=ah.new (((W.alloc (.cells #[.int .i64 k,.int .i64 v,.string s,.bool n,.slice b m f,.slice d i g,.slice c l a] 27)).alloc (.cells #[.slice none 0 0] 54)).alloc (.map #[] 0)) 89 #[.map (some (W.heap.size+1+1))];rw[show (((W.alloc (.cells #[.int .i64 k,.int .i64 v,.string s,.bool n,.slice b m f,.slice d i g,.slice c l a] 27)).alloc (.cells #[.slice none 0 0] 54)).alloc (.map #[] 0)).heap.size=W.heap.size+1+1+1 by simp]at this;exact this
  have o:ah (((((W.alloc (.cells #[.int .i64 k,.int .i64 v,.string s,.bool n,.slice b m f,.slice d i g,.slice c l a] 27)).alloc (.cells #[.slice none 0 0] 54)).alloc (.map #[] 0)).alloc (.cells #[.map (some (W.heap.size+1+1))] 89)).alloc (.cells #[.func (.func 57) #[] #[.pointer (some ⟨W.heap.size+1+1+1,0,none⟩),.pointer (some ⟨W.heap.size+1,0,none⟩),.pointer (some ⟨W.heap.size+1+1+1+1,0,none⟩)]] 90)) (W.heap.size+1+1+1+1) 90 #[.func (.func 57) #[] #[.pointer (some ⟨W.heap.size+1+1+1,0,none⟩),.pointer (some ⟨W.heap.size+1,0,none⟩),.pointer (some ⟨W.heap.size+1+1+1+1,0,none⟩)]]:=by
   have:=ah.new ((((W.alloc (.cells #[.int .i64 k,.int .i64 v,.string s,.bool n,.slice b m f,.slice d i g,.slice c l a] 27)).alloc (.cells #[.slice none 0 0] 54)).alloc (.map #[] 0)).alloc (.cells #[.map (some (W.heap.size+1+1))] 89)) 90 #[.func (.func 57) #[] #[.pointer (some ⟨W.heap.size+1+1+1,0,none⟩),.pointer (some ⟨W.heap.size+1,0,none⟩),.pointer (some ⟨W.heap.size+1+1+1+1,0,none⟩)]];rw[show ((((W.alloc (.cells #[.int .i64 k,.int .i64 v,.string s,.bool n,.slice b m f,.slice d i g,.slice c l a] 27)).alloc (.cells #[.slice none 0 0] 54)).alloc (.map #[] 0)).alloc (.cells #[.map (some (W.heap.size+1+1))] 89)).heap.size=W.heap.size+1+1+1+1 by simp]at this;exact this
  have q:zZ W (((((W.alloc (.cells #[.int .i64 k,.int .i64 v,.string s,.bool n,.slice b m f,.slice d i g,.slice c l a] 27)).alloc (.cells #[.slice none 0 0] 54)).alloc (.map #[] 0)).alloc (.cells #[.map (some (W.heap.size+1+1))] 89)).alloc (.cells #[.func (.func 57) #[] #[.pointer (some ⟨W.heap.size+1+1+1,0,none⟩),.pointer (some ⟨W.heap.size+1,0,none⟩),.pointer (some ⟨W.heap.size+1+1+1+1,0,none⟩)]] 90)):=(((((Below.refl _ W).alloc zA _).alloc (by simp) _).alloc (by simp;omega) _).alloc (by simp;omega) _).alloc (by simp;omega) _;have E:(((((W.alloc (.cells #[.int .i64 k,.int .i64 v,.string s,.bool n,.slice b m f,.slice d i g,.slice c l a] 27)).alloc (.cells #[.slice none 0 0] 54)).alloc (.map #[] 0)).alloc (.cells #[.map (some (W.heap.size+1+1))] 89)).alloc (.cells #[.func (.func 57) #[] #[.pointer (some ⟨W.heap.size+1+1+1,0,none⟩),.pointer (some ⟨W.heap.size+1,0,none⟩),.pointer (some ⟨W.heap.size+1+1+1+1,0,none⟩)]] 90)).heap[W.heap.size+1+1]?=some (.map #[] 0):=by
   have:=heap_alloc_new ((W.alloc (.cells #[.int .i64 k,.int .i64 v,.string s,.bool n,.slice b m f,.slice d i g,.slice c l a] 27)).alloc (.cells #[.slice none 0 0] 54)) (.map #[] 0);rw[show ((W.alloc (.cells #[.int .i64 k,.int .i64 v,.string s,.bool n,.slice b m f,.slice d i g,.slice c l a] 27)).alloc (.cells #[.slice none 0 0] 54)).heap.size=W.heap.size+1+1 by simp]at this;rw[Lib.alloc_old _ _ _ (by simp),Lib.alloc_old _ _ _ (by simp)];exact this
  have S:=((A.alloc (.map #[] 0)).alloc (.cells #[.map (some (W.heap.size+1+1))] 89)).alloc (.cells #[.func (.func 57) #[] #[.pointer (some ⟨W.heap.size+1+1+1,0,none⟩),.pointer (some ⟨W.heap.size+1,0,none⟩),.pointer (some ⟨W.heap.size+1+1+1+1,0,none⟩)]] 90);have T:=B.alloc (.cells #[.func (.func 57) #[] #[.pointer (some ⟨W.heap.size+1+1+1,0,none⟩),.pointer (some ⟨W.heap.size+1,0,none⟩),.pointer (some ⟨W.heap.size+1+1+1+1,0,none⟩)]] 90);have r:(fun _=>none)=sj []:=by funext j;simp[sj]
  have D:FV W.heap.size (W.heap.size+1+1+1) (W.heap.size+1) (W.heap.size+1+1+1+1) (W.heap.size+1+1) [] (((((W.alloc (.cells #[.int .i64 k,.int .i64 v,.string s,.bool n,.slice b m f,.slice d i g,.slice c l a] 27)).alloc (.cells #[.slice none 0 0] 54)).alloc (.map #[] 0)).alloc (.cells #[.map (some (W.heap.size+1+1))] 89)).alloc (.cells #[.func (.func 57) #[] #[.pointer (some ⟨W.heap.size+1+1+1,0,none⟩),.pointer (some ⟨W.heap.size+1,0,none⟩),.pointer (some ⟨W.heap.size+1+1+1+1,0,none⟩)]] 90)):=⟨T,⟨_,S,World.ownsRow_nil _ _ _ _⟩,o,⟨0,r▸da.empty E⟩,by omega,by omega⟩;refine (tM W.heap.size (W.heap.size+1+1+1) (W.heap.size+1) (W.heap.size+1+1+1+1) (W.heap.size+1+1) x.size h [] (by simpa using O) (((((W.alloc (.cells #[.int .i64 k,.int .i64 v,.string s,.bool n,.slice b m f,.slice d i g,.slice c l a] 27)).alloc (.cells #[.slice none 0 0] 54)).alloc (.map #[] 0)).alloc (.cells #[.map (some (W.heap.size+1+1))] 89)).alloc (.cells #[.func (.func 57) #[] #[.pointer (some ⟨W.heap.size+1+1+1,0,none⟩),.pointer (some ⟨W.heap.size+1,0,none⟩),.pointer (some ⟨W.heap.size+1+1+1+1,0,none⟩)]] 90)) (x.trans (q.mono x.size)) q.size D).mono ?_;rintro e G ⟨rfl,X,_,Y⟩;exact⟨rfl,X,q.trans Y⟩
 have U:=@run_makeMap prog;generalize t.free []=Z at*;clear h O x;go_enter func31,ntmps31;go_wp2_with fail;refine p.o.mono ?_;rintro e w2 ⟨rfl,z⟩;obtain⟨y,M,N⟩:=z.o.1.h2;have Q:=zH N;have P:=zH z.o.2;have V:=M.cell 0;simp only[L3]at V;clear F M N z p;go_wp2_with fail;go_ret;exact⟨y,rfl,Q.o,P.o⟩
inductive mN (f:Nat->Option Tm) (B:Nat) (w:World):Tm->List Value->Prop
 |mk (k v:Int) (s:ByteArray) (n:LN) (args:List Tm) (A C:Value) (Ar:Option Addr) (cap:Nat) (cs:Nat->List Value)
  (hk:aG k) (hv:aG v) (hs:s.size<=maxLen) (hA:aW .u32 82 w B A n.num) (hC:aW .u32 82 w B C n.den) (hn:n.ok)
  (hcap:args.length<=cap) (hm:cap<=maxLen)
  (hr:0<args.length->∃ b,Ar=some ⟨b,0,none⟩/\B<=b/\b<w.heap.size/\f b=some (.mk k v s n args)/\(∃ arr,ah w b 27 arr)/\∀ i,i<args.length->∀ j,j<7->w.cell? ⟨b,0+i*7+j,none⟩=(cs i)[j]?)
  (ha:∀ i (h:i<args.length),mN f B w args[i] (cs i)):
  mN f B w (.mk k v s n args) [.int .i64 k,.int .i64 v,.string s,.bool n.neg,A,C,.slice Ar args.length cap]
theorem mN.tc {f:Nat->Option Tm} {B:Nat} {w:World} {t:Tm} {cs:List Value} (h:mN f B w t cs):TC w t cs:=by
 induction h with
 |mk k v s n a A C i d cs p z y l m r c q x E D=>
  exact .mk k v s n a A C i d cs p z y l.sl m.sl r c q (fun j=>by obtain⟨b,e,_,g,_,_,o⟩:=x j;exact⟨b,0,e,g,o⟩) D
theorem mN.to {f g:Nat->Option Tm} {B:Nat} {w w':World} {t:Tm} {cs:List Value} (h:mN f B w t cs) (Z:w.heap.size<=w'.heap.size) (r:∀ b,B<=b->b<w.heap.size->w'.heap[b]?=w.heap[b]?) (x:∀ b,B<=b->b<w.heap.size->g b=f b):mN g B w' t cs:=by
 have own:∀ {v:Value} {z:List Nat},aW .u32 82 w B v z->aW .u32 82 w' B v z:=fun {v z} W=>by
  obtain⟨D,J|⟨g,d,p,e,E,q,L⟩⟩:=W
  ·exact⟨D,.inl J⟩
  ·refine⟨D,.inr ⟨g,d,p,e,E,?_,L⟩⟩;have x:g<w.heap.size:=by
    rcases Nat.lt_or_ge g w.heap.size with h|h
    ·exact h
    ·rw[Array.getElem?_eq_none h]at q;cases q
   rw[r g E x];exact q
 induction h with
 |mk k v s n l A C F d cs T hv y M N V m U Y ha ih=>
  refine .mk k v s n l A C F d cs T hv y (own M) (own N) V m U (fun I=>?_) ih;obtain⟨b,e,o,c,P,X,O⟩:=Y I;exact⟨b,e,o,zD c Z,(x b o c).trans P,X.imp fun G h=>(r b o c).trans h,fun i Q j S=>(World.cell?_of_block (a:=⟨b,0+i*7+j,none⟩) (r b o c)).trans (O i Q j S)⟩
theorem mN.mono {f:Nat->Option Tm} {B B':Nat} {w:World} {t:Tm} {cs:List Value} (h:mN f B w t cs) (i:B'<=B):mN f B' w t cs:=by
 induction h with
 |mk k v s n a A C j d cs q E D m o x c r z I F=>
  refine .mk k v s n a A C j d cs q E D (Joins.ownsRow_le m i) (Joins.ownsRow_le o i) x c r (fun l=>?_) F;obtain⟨b,e,G,g,y,p⟩:=z l;exact⟨b,e,by omega,g,y,p⟩
def gP (B:Nat) (w:World) (t:Tm) (cs:List Value):Prop:=∃ f,mN f B w t cs
theorem gP.tc {B:Nat} {w:World} {t:Tm} {cs:List Value} (h:gP B w t cs):TC w t cs:=by
 obtain⟨f,h⟩:=h;exact h.tc
theorem gP.to {B:Nat} {w w':World} {t:Tm} {cs:List Value} (h:gP B w t cs) (c:w.heap.size<=w'.heap.size) (a:∀ b,B<=b->b<w.heap.size->w'.heap[b]?=w.heap[b]?):gP B w' t cs:=by
 obtain⟨f,h⟩:=h;exact⟨f,h.to c a fun _ _ _=>rfl⟩
theorem gP.mono {B B':Nat} {w:World} {t:Tm} {cs:List Value} (h:gP B w t cs) (a:B'<=B):gP B' w t cs:=by
 obtain⟨f,h⟩:=h;exact⟨f,h.mono a⟩
def mJ (B:Nat) (w:World) (l:List Tm) (vals:Nat->List Value) (j:Nat):Prop:=∃ f,∀ i (h:i<l.length),i<j->mN f B w l[i] (vals i)
theorem mJ.none (B:Nat) (w:World) (l:List Tm) (vals:Nat->List Value):mJ B w l vals 0:=⟨fun _=>Option.none,fun i _ a=>absurd a (by omega)⟩
theorem mJ.to {B:Nat} {w w':World} {l:List Tm} {vals:Nat->List Value} {j:Nat} (h:mJ B w l vals j) (e:w.heap.size<=w'.heap.size) (d:∀ b,B<=b->b<w.heap.size->w'.heap[b]?=w.heap[b]?):mJ B w' l vals j:=by
 obtain⟨f,h⟩:=h;exact⟨f,fun i a c=>(h i a c).to e d fun _ _ _=>rfl⟩
theorem mJ.add {B C:Nat} {w w':World} {l:List Tm} {vals:Nat->List Value} {j:Nat} (h:mJ B w l vals j) (n:w.heap.size<=w'.heap.size) (a:∀ b,B<=b->b<w.heap.size->w'.heap[b]?=w.heap[b]?) (m:B<=C) (p:w.heap.size<=C) (q:j<l.length) {c:List Value} (d:gP C w' l[j] c):mJ B w' l (fun i=>if i=j then c else vals i) (j+1):=by
 obtain⟨f,h⟩:=h;obtain⟨g,d⟩:=d;refine⟨fun b=>if b<w.heap.size then f b else g b,fun i k o=>?_⟩;by_cases e:i=j
 ·subst e;dsimp only;rw[if_pos rfl];refine (d.to zA (fun _ _ _=>rfl) fun b a _=>?_).mono m;rw[if_neg (by omega)]
 ·dsimp only;rw[if_neg e];exact (h i k (by omega)).to n a fun b _ a=>by rw[if_pos a]
theorem mJ.comp {B b:Nat} {w:World} {k v:Int} {s:ByteArray} {n:LN} {args:List Tm} {A C:Value} {a:Nat} {vals:Nat->List Value} (h:mJ (b+1) w args vals args.length) (q:aG k) (D:aG v) (z:s.size<=maxLen) (l:aW .u32 82 w B A n.num) (o:aW .u32 82 w B C n.den) (t:n.ok) (c:args.length<=a) (r:a<=maxLen)
 (m:B<=b) (e:b<w.heap.size) (y:∃ d,ah w b 27 d) (p:∀ i,i<args.length->∀ j,j<7->w.cell? ⟨b,0+i*7+j,Option.none⟩=(vals i)[j]?):gP B w (.mk k v s n args) [.int .i64 k,.int .i64 v,.string s,.bool n.neg,A,C,.slice (some ⟨b,0,Option.none⟩) args.length a]:=by
 obtain⟨f,h⟩:=h;refine⟨fun x=>if x=b then some (.mk k v s n args) else f x,.mk k v s n args A C _ a vals q D z l o t c r (fun _=>⟨b,rfl,m,e,if_pos rfl,y,p⟩) fun i g=>?_⟩;refine ((h i g g).to zA (fun _ _ _=>rfl) fun x E _=>?_).mono (by omega);rw[if_neg (by omega)]
theorem gP.leaf {B:Nat} {w:World} {k v:Int} {s:ByteArray} {n:LN} {A C:Value} {a:Nat} (d:aG k) (j:aG v) (g:s.size<=maxLen) (b:aW .u32 82 w B A n.num) (c:aW .u32 82 w B C n.den) (f:n.ok) (e:a<=maxLen):gP B w (.mk k v s n []) [.int .i64 k,.int .i64 v,.string s,.bool n.neg,A,C,.slice none 0 a]:=
 ⟨fun _=>none,.mk k v s n [] A C none a (fun _=>[]) d j g b c f (Nat.zero_le _) e (fun h=>absurd h (by simp)) fun i h=>absurd h (by simp)⟩
mutual
def Tm.sm:Tm->Prop
 |.mk _ _ _ n args=>n.num.length<=1000000/\n.den.length<=1000000/\args.length<=1000000/\xT args
def xT:List Tm->Prop
 |[]=>True
 |t::l=>t.sm/\xT l
end
theorem pY {l:List Tm} (h:xT l) {j:Nat} (a:j<l.length):(l[j]).sm:=by
 induction l generalizing j with
 |nil=>cases a
 |cons x l b=>
  rw[xT]at h;cases j with
  |zero=>exact h.1
  |succ j=>exact b h.2 (by simpa using a)
theorem pO {w:World} {B n size g c:Nat} {e:TypeId} {xs:List Value} (j:w.ownsRow B e size (.slice (some ⟨g,0,none⟩) n c) n xs):∃ a:Array Value,ah w g e a/\a.size=c*size:=by
 rcases j.2 with ⟨h,_⟩|⟨k,d,b,h,_,f,_,_,i,_⟩
 ·cases h
 ·simp only[Value.slice.injEq,Option.some.injEq,Addr.mk.injEq,and_true,true_and]at h;obtain⟨rfl,rfl⟩:=h;exact⟨b,f,i⟩
theorem dR:(prog.info? 27).map (fun i=>(i.zero,i.size,i.bytes))=some (some (.agg zt.toArray),7,112):=by kernel_rfl
theorem gR {w:World} {t:Tm} {cs:List Value} (h:TC w t cs):t.sm->∀ (W:World),zZ w W->
 Calls prog 48 #[.agg cs.toArray] W fun e r=>∃ a0,e=.returned (.agg a0.toArray)/\gP (W.heap.size+1) r t a0/\zZ W r:=by
 induction h with
 |mk k v s n p A B Ar I cs hk hv hs hA hB hn j5 hm hr ha ih=>
  intro a3 W hW;rw[Tm.sm]at a3;have g9:Yd (∀ r,zZ w r->Calls prog 49 #[A] r fun e w'=>∃ v,e=.returned v/\aW .u32 82 w' r.heap.size v n.num/\zZ r w'):=fun r hb=>dt n.num A r (hA.to hb) a3.1;have h0:Yd (∀ r,zZ w r->Calls prog 49 #[B] r fun e w'=>∃ v,e=.returned v/\aW .u32 82 w' r.heap.size v n.den/\zZ r w'):=fun r hb=>dt n.den B r (hB.to hb) a3.2.1;have e7:Yd (∀ (A' C':Value) (a6:Option Addr) (a9:Nat) (a0:Nat->List Value) (B':Nat) (r:World),aW .u32 82 r B' A' n.num->aW .u32 82 r B' C' n.den->p.length<=a9->a9<=maxLen->(a6=none/\p.length=0\/∃ b,a6=some ⟨b,0,none⟩/\mJ (b+1) r p a0 p.length/\B'<=b/\b<r.heap.size/\(∃ J,ah r b 27 J)/\∀ i,i<p.length->∀ j,j<7->r.cell? ⟨b,0+i*7+j,none⟩=(a0 i)[j]?)->gP B' r (.mk k v s n p) [.int .i64 k,.int .i64 v,.string s,.bool n.neg,A',C',.slice a6 p.length a9]):=fun A' C' a6 a9 a0 B' r h1 h2 h3 h4 h5=>by
   rcases h5 with ⟨rfl,h5⟩|⟨b,rfl,h5,h6,h7,h8,h9⟩
   ·rw[zF h5];exact .leaf hk hv hs h1 h2 hn h4
   ·exact h5.comp hk hv hs h1 h2 hn h3 h4 h6 h7 h8 h9
  have IH:Yd (∀ i (h:i<p.length) (W:World),zZ w W->Calls prog 48 #[.agg (cs i).toArray] W fun e r=>∃ a0,e=.returned (.agg a0.toArray)/\gP (W.heap.size+1) r p[i] a0/\zZ W r):=fun i h W hb=>ih i h (pY a3.2.2.2 h) W hb;have k3:=a3.2.2.1;have HR:=zH hr;have HA:=zH ha;have e8:=zH hW;obtain⟨U,Z,rfl,_⟩:=hA;obtain⟨V,q2,rfl,_⟩:=hB;unfold maxLen at hm;clear ih hr ha a3 hW hk hv hs hn;generalize n.num=xs at*;generalize n.den=ys at*;generalize n.neg=Q at*;generalize xs.length=X at*;generalize ys.length=Y at*;obtain⟨l,hl⟩:∃ l,p.length=l:=⟨_,rfl⟩;rw[hl]at j5 k3 ⊢;have T:=zH hl;clear hl;obtain⟨i0,f8,g3,g4,g5⟩:=info_parts dR;have i1:=zH f8;have i4:=zH g3;have j0:=zH g4;have j1:=zH g5;clear f8 g3 g4 g5;have d7:Yd (ah (((W.alloc (.cells #[.int .i64 k,.int .i64 v,.string s,.bool Q,.slice U X Z,.slice V Y q2,.slice Ar l I] 27)).alloc (.cells #[.int .i64 0,.int .i64 0,.string ⟨#[]⟩,.bool false,.slice none 0 0,.slice none 0 0,.slice none 0 0] 27)).drew) W.heap.size 27 (zX k v s Q U X Z V Y q2 Ar l I).toArray):=((ah.new W 27 #[.int .i64 k,.int .i64 v,.string s,.bool Q,.slice U X Z,.slice V Y q2,.slice Ar l I]).alloc _).drew;have i2:Yd (W.heap.size<((((W.alloc (.cells #[.int .i64 k,.int .i64 v,.string s,.bool Q,.slice U X Z,.slice V Y q2,.slice Ar l I] 27)).alloc (.cells #[.int .i64 0,.int .i64 0,.string ⟨#[]⟩,.bool false,.slice none 0 0,.slice none 0 0,.slice none 0 0] 27)).drew)).heap.size):=d7.o.lt;have a8:Yd (zZ W (((W.alloc (.cells #[.int .i64 k,.int .i64 v,.string s,.bool Q,.slice U X Z,.slice V Y q2,.slice Ar l I] 27)).alloc (.cells #[.int .i64 0,.int .i64 0,.string ⟨#[]⟩,.bool false,.slice none 0 0,.slice none 0 0,.slice none 0 0] 27)).drew)):=((ae W (.cells #[.int .i64 k,.int .i64 v,.string s,.bool Q,.slice U X Z,.slice V Y q2,.slice Ar l I] 27)).alloc (by simp) (.cells #[.int .i64 0,.int .i64 0,.string ⟨#[]⟩,.bool false,.slice none 0 0,.slice none 0 0,.slice none 0 0] 27)).drew;have d8:Yd (ah (((W.alloc (.cells #[.int .i64 k,.int .i64 v,.string s,.bool Q,.slice U X Z,.slice V Y q2,.slice Ar l I] 27)).alloc (.cells #[.int .i64 0,.int .i64 0,.string ⟨#[]⟩,.bool false,.slice none 0 0,.slice none 0 0,.slice none 0 0] 27)).drew) (W.heap.size+1) 27 (zX 0 0 ⟨#[]⟩ false none 0 0 none 0 0 none 0 0).toArray):=by
   have h:=ah.new (W.alloc (.cells #[.int .i64 k,.int .i64 v,.string s,.bool Q,.slice U X Z,.slice V Y q2,.slice Ar l I] 27)) 27 #[.int .i64 0,.int .i64 0,.string ⟨#[]⟩,.bool false,.slice none 0 0,.slice none 0 0,.slice none 0 0];rw[show (W.alloc (.cells #[.int .i64 k,.int .i64 v,.string s,.bool Q,.slice U X Z,.slice V Y q2,.slice Ar l I] 27)).heap.size=W.heap.size+1 by simp]at h;exact h.drew
  have b7:Yd (∀ r,ag (fun k=>k=W.heap.size) (((W.alloc (.cells #[.int .i64 k,.int .i64 v,.string s,.bool Q,.slice U X Z,.slice V Y q2,.slice Ar l I] 27)).alloc (.cells #[.int .i64 0,.int .i64 0,.string ⟨#[]⟩,.bool false,.slice none 0 0,.slice none 0 0,.slice none 0 0] 27)).drew) r->zZ w r):=fun r hk=>e8.o.trans ((a8.o.trans (hk.below a8.o.size fun k hk=>by omega)).mono e8.o.size);go_enter func48,ntmps48;go_wp2_with fail;refine wp_region_held_drew (S:=fun _=>True) (by kernel_rfl) trivial (fun hHeld=>?_)
  (refine zT 0 ?_;try simp only[Act.put,L1,L2])
  (refine zT 1 ?_;try simp only[Act.put,L1,L2])
  (refine zT 4 ?_;try simp only[Act.put,L1,L2])
  (refine zT 5 ?_;try simp only[Act.put,L1,L2])
  refine fw [2,3,6,7,8,9,10,11,12,13] (fun aa L a r=>∃ s8 s9 y z C D E F,a=((((((((aa.put (some 8) s8).put (some 9) s9).put (some 12) y).put (some 13) z).put (some 14) C).put (some 15) D).put (some 16) E).put (some 17) F)/\aU (((W.alloc (.cells #[.int .i64 k,.int .i64 v,.string s,.bool Q,.slice U X Z,.slice V Y q2,.slice Ar l I] 27)).alloc (.cells #[.int .i64 0,.int .i64 0,.string ⟨#[]⟩,.bool false,.slice none 0 0,.slice none 0 0,.slice none 0 0] 27)).drew) W.heap.size (.int .i64 k) (.int .i64 v) (.string s) (.bool Q) (.slice U X Z) (.slice V Y q2) (.slice Ar l I) xs ys L s8 s9 y z C D E F r) (by kernel_rfl) (by kernel_rfl) (by decide) (by kernel_rfl) ?hS ?init ?steps ?done
  case hS=>exact fun _ _ _ _=>trivial
  case init=>
   refine⟨undef,undef,undef,undef,undef,undef,undef,undef,(by simp only[Act.put,L1]),⟨ag.refl _ _,i2.o⟩,d7.o,?_,?_,?_,?_,?_,?_,?_,?_,?_,?_⟩<;>(intro h;exact absurd h (by decide))
  case steps=>
   refine aO.cons (i:=2) rfl ?_ (aO.cons (i:=3) rfl ?_ (aO.cons (i:=6) rfl ?_ (aO.cons (i:=7) rfl ?_ (aO.cons (i:=8) rfl ?_ (aO.cons (i:=9) rfl ?_ (aO.cons (i:=10) rfl ?_ (aO.cons (i:=11) rfl ?_ (aO.cons (i:=12) rfl ?_ (aO.cons (i:=13) rfl ?_ aO.nil)))))))))
   ·rintro L a r ⟨s8,s9,y,z,C,D,E,F,rfl,M⟩ O d K hK;have G:=zH M;have T:=zH O;clear M;simp only[Act.put,L1];clear O d;have c4:=G.o.cell4 T.o;go_simp;exact hK.out _ _ ⟨.slice U X Z,s9,y,z,C,D,E,F,(by simp only[Act.put,L1]),G.o.load2⟩
   ·rintro L a r ⟨s8,s9,y,z,C,D,E,F,rfl,M⟩ O d K hK;have G:=zH M;have T:=zH O;clear M;simp only[Act.put,L1];have hd:L 2=true:=by simp[Region.binds]at d;simp[d]
    have HD:=zH hd;clear hd O d;obtain rfl:=G.o.2.2.1 HD.o;go_simp;refine (g9.o _ (by exact b7.o _ G.o.1.1)).mono ?_;rintro e w1 ⟨v1,rfl,d1,c3⟩;have hT:=G.o.1.1.size;exact hK.out _ _ ⟨.slice U X Z,v1,y,z,C,D,E,F,(by simp only[Act.put,L1]),G.o.call3 T.o c3 (Joins.ownsRow_le d1 hT)⟩
   ·rintro L a r ⟨s8,s9,y,z,C,D,E,F,rfl,M⟩ O d K hK;have G:=zH M;have T:=zH O;clear M;simp only[Act.put,L1];clear O d;have c5:=G.o.cell5 T.o;go_simp;exact hK.out _ _ ⟨s8,s9,.slice V Y q2,z,C,D,E,F,(by simp only[Act.put,L1]),G.o.load6⟩
   ·rintro L a r ⟨s8,s9,y,z,C,D,E,F,rfl,M⟩ O d K hK;have G:=zH M;have T:=zH O;clear M;simp only[Act.put,L1];have hd:L 6=true:=by simp[Region.binds]at d;simp[d]
    have HD:=zH hd;clear hd O d;obtain rfl:=G.o.2.2.2.1 HD.o;go_simp;refine (h0.o _ (by exact b7.o _ G.o.1.1)).mono ?_;rintro e w1 ⟨v1,rfl,d1,c3⟩;have hT:=G.o.1.1.size;exact hK.out _ _ ⟨s8,s9,.slice V Y q2,v1,C,D,E,F,(by simp only[Act.put,L1]),G.o.call7 T.o c3 (Joins.ownsRow_le d1 hT)⟩
   ·rintro L a r ⟨s8,s9,y,z,C,D,E,F,rfl,M⟩ O d K hK;have G:=zH M;have T:=zH O;clear M;simp only[Act.put,L1];clear O d;go_simp;exact hK.out _ _ ⟨s8,s9,y,z,.pointer (some ⟨W.heap.size,3,none⟩),D,E,F,(by simp only[Act.put,L1]),G.o.addr8⟩
   ·rintro L a r ⟨s8,s9,y,z,C,D,E,F,rfl,M⟩ O d K hK;have G:=zH M;have T:=zH O;clear M;simp only[Act.put,L1];have hd:L 8=true:=by simp[Region.binds]at d;simp[d]
    have HD:=zH hd;clear hd O d;obtain rfl:=G.o.2.2.2.2.2.2.1 HD.o;go_simp;exact hK.out _ _ ⟨s8,s9,y,z,.pointer (some ⟨W.heap.size,3,none⟩),.pointer (some ⟨W.heap.size,4,none⟩),E,F,(by simp only[Act.put,L1]),G.o.addr9⟩
   ·rintro L a r ⟨s8,s9,y,z,C,D,E,F,rfl,M⟩ O d K hK;have G:=zH M;have T:=zH O;clear M;simp only[Act.put,L1];have hd:L 9=true/\L 3=true/\L 2=true:=by simp[Region.binds]at d;simp[d]
    have HD:=zH hd;clear hd O d;obtain rfl:=G.o.2.2.2.2.2.2.2.1 HD.o.1;obtain⟨A9,c9,rfl⟩:=bQ (G.o.2.2.2.2.1 HD.o.2.1);have f4:=G.o.2.1.frozen 4;have hT:=G.o.2.1.lt;have k4:=G.o.2.1.cell 4;simp only[L3]at k4;go_simp;exact hK.out _ _ ⟨s8,.slice A9 xs.length c9,y,z,C,.pointer (some ⟨W.heap.size,4,none⟩),E,F,(by simp only[Act.put,L1]),G.o.store10 HD.o.2.2 HD.o.2.1⟩
   ·rintro L a r ⟨s8,s9,y,z,C,D,E,F,rfl,M⟩ O d K hK;have G:=zH M;have T:=zH O;clear M;simp only[Act.put,L1];clear O d;go_simp;exact hK.out _ _ ⟨s8,s9,y,z,C,D,.pointer (some ⟨W.heap.size,3,none⟩),F,(by simp only[Act.put,L1]),G.o.addr11⟩
   ·rintro L a r ⟨s8,s9,y,z,C,D,E,F,rfl,M⟩ O d K hK;have G:=zH M;have T:=zH O;clear M;simp only[Act.put,L1];have hd:L 11=true:=by simp[Region.binds]at d;simp[d]
    have HD:=zH hd;clear hd O d;obtain rfl:=G.o.2.2.2.2.2.2.2.2.1 HD.o;go_simp;exact hK.out _ _ ⟨s8,s9,y,z,C,D,.pointer (some ⟨W.heap.size,3,none⟩),.pointer (some ⟨W.heap.size,5,none⟩),(by simp only[Act.put,L1]),G.o.addr12⟩
   ·rintro L a r ⟨s8,s9,y,z,C,D,E,F,rfl,M⟩ O d K hK;have G:=zH M;have T:=zH O;clear M;simp only[Act.put,L1];have hd:L 12=true/\L 7=true/\L 6=true:=by simp[Region.binds]at d;simp[d]
    have HD:=zH hd;clear hd O d;obtain rfl:=G.o.2.2.2.2.2.2.2.2.2.1 HD.o.1;obtain⟨A9,c9,rfl⟩:=bQ (G.o.2.2.2.2.2.1 HD.o.2.1);have f5:=G.o.2.1.frozen 5;have hT:=G.o.2.1.lt;have k5:=G.o.2.1.cell 5;simp only[L3]at k5;go_simp;exact hK.out _ _ ⟨s8,s9,y,.slice A9 ys.length c9,C,D,E,.pointer (some ⟨W.heap.size,5,none⟩),(by simp only[Act.put,L1]),G.o.store13 HD.o.2.2 HD.o.2.1⟩
  case done=>
   rintro L a m ⟨s8,s9,y,z,C,D,E,F,rfl,M⟩ f2;simp only[Act.put,L1];obtain⟨b0,g1,c8,c7⟩:=M.done f2;obtain⟨A9,c9,rfl⟩:=bQ c8;obtain⟨a1,a2,rfl⟩:=bQ c7;have KR:=zH (b0.blk d8.o (by omega));have KT:=zH g1;have d4:=zH b0;have O9:=zH c8;have f0:=zH c7;have b4:Yd (zZ W m):=a8.o.trans (b0.below a8.o.size fun k hk=>by omega);clear M f2 hHeld b0 g1 c8 c7;obtain⟨t0,t1,t2,t3,t4,t5,t6⟩:=KT.o.s7;have y6:=KT.o.frozen 6;obtain⟨r0,r1,r2,r3,r4,r5,r6⟩:=KR.o.s7;obtain⟨z0,z1,z2,z3,z4,z5,z6⟩:=KR.o.z7;have f1:W.heap.size+1<((((W.alloc (.cells #[.int .i64 k,.int .i64 v,.string s,.bool Q,.slice U X Z,.slice V Y q2,.slice Ar l I] 27)).alloc (.cells #[.int .i64 0,.int .i64 0,.string ⟨#[]⟩,.bool false,.slice none 0 0,.slice none 0 0,.slice none 0 0] 27)).drew)).heap.size:=d8.o.lt;have b6:=zH f1;clear f1;by_cases k1:l=0
   ·subst k1;go_wp2_with fail;refine bodyPost_ret (v:=.agg #[.int .i64 k,.int .i64 v,.string s,.bool Q,.slice A9 xs.length c9,.slice a1 ys.length a2,.slice none 0 0]) (by rw[aH rfl];go_simp) rfl ?_;have f:∀ (Wx:World) (g i:Nat) (u v':Value) (n':Nat) (zs:List Value),g<=W.heap.size+1->Wx.ownsRow (((W.alloc (.cells #[.int .i64 k,.int .i64 v,.string s,.bool Q,.slice U X Z,.slice V Y q2,.slice Ar 0 I] 27)).alloc (.cells #[.int .i64 0,.int .i64 0,.string ⟨#[]⟩,.bool false,.slice none 0 0,.slice none 0 0,.slice none 0 0] 27)).drew).heap.size 82 1 v' n' zs->(Wx.setCell ⟨g,i,none⟩ u).ownsRow (((W.alloc (.cells #[.int .i64 k,.int .i64 v,.string s,.bool Q,.slice U X Z,.slice V Y q2,.slice Ar 0 I] 27)).alloc (.cells #[.int .i64 0,.int .i64 0,.string ⟨#[]⟩,.bool false,.slice none 0 0,.slice none 0 0,.slice none 0 0] 27)).drew).heap.size 82 1 v' n' zs:=fun Wx g i u v' n' zs hg hr=>fi hr (by have:=b6.o;omega);have a5:W.heap.size+1<=(((W.alloc (.cells #[.int .i64 k,.int .i64 v,.string s,.bool Q,.slice U X Z,.slice V Y q2,.slice Ar 0 I] 27)).alloc (.cells #[.int .i64 0,.int .i64 0,.string ⟨#[]⟩,.bool false,.slice none 0 0,.slice none 0 0,.slice none 0 0] 27)).drew).heap.size:=by have:=b6.o;omega
    have hz:=fun (Wf:World) (h9:aW .u32 82 Wf (W.heap.size+1) (.slice A9 xs.length c9) xs) (j3:aW .u32 82 Wf (W.heap.size+1) (.slice a1 ys.length a2) ys)=>e7.o (.slice A9 xs.length c9) (.slice a1 ys.length a2) none 0 (fun _=>[]) (W.heap.size+1) Wf h9 j3 (by rw[T.o];exact zN _) (by unfold maxLen;omega) (.inl ⟨rfl,T.o⟩);simp only[T.o]at hz;refine⟨_,rfl,hz _ (Joins.ownsRow_le (f _ _ _ _ _ _ _ zA (f _ _ _ _ _ _ _ zA (f _ _ _ _ _ _ _ zA (f _ _ _ _ _ _ _ zA (f _ _ _ _ _ _ _ zA (f _ _ _ _ _ _ _ zA (f _ _ _ _ _ _ _ zA (f _ _ _ _ _ _ _ (Nat.le_succ _) O9.o)))))))) a5) (Joins.ownsRow_le (f _ _ _ _ _ _ _ zA (f _ _ _ _ _ _ _ zA (f _ _ _ _ _ _ _ zA (f _ _ _ _ _ _ _ zA (f _ _ _ _ _ _ _ zA (f _ _ _ _ _ _ _ zA (f _ _ _ _ _ _ _ zA (f _ _ _ _ _ _ _ (Nat.le_succ _) f0.o)))))))) a5),?_⟩;exact (((((((b4.o.setCell zA _).setCell (Nat.le_succ _) _).setCell (Nat.le_succ _) _).setCell (Nat.le_succ _) _).setCell (Nat.le_succ _) _).setCell (Nat.le_succ _) _).setCell (Nat.le_succ _) _).setCell (Nat.le_succ _) _
   ·have n6:((l:Int)==0)=false:=zL (by omega);clear r0 r1 r2 r3 r4 r5 r6 z0 z1 z2 z3 z4 z5 z6
    go_wp2_with (at_make;refine wpList_make_full _ rfl _ _ 25 rfl m.heap.size 27 i0 (.agg zt.toArray) 7 underlying25 i1.o i4.o j0.o .i64 .i64 _ _ l rfl rfl (by omega) (by omega) (by rw[j1.o];omega) (by unfold maxLen;omega) zA ?_;intro w2 g2 f7;have d3:Yd (zZ m w2):=zB.grown f7 zA (by simp);have j2:=zH (KT.o.to d3.o);have d6:=j2.o.cell 6;simp only[L3]at d6;have g6:=zH (pO g2);clear g2 f7)
    have e9:Yd (zZ w m):=b7.o _ d4.o
    go_loopg [31] l (fun gk k7 wr=>∃ (j:Nat) (J:Array Value) (a4:Nat->List Value),gk+j=l/\k7=.int .i64 (j:Int)/\Yd (ah wr m.heap.size 27 J)/\J.size=l*7/\Yd (zZ m wr)/\Yd (∀ i,i<j->∀ q,q<7->J[i*7+q]?=(a4 i)[q]?)/\Yd (mJ (m.heap.size+1) wr p a4 j))
    case atStart=>
     obtain⟨J,h1,h2⟩:=g6.o;exact⟨0,J,fun _=>[],by omega,rfl,h1,h2,d3.o,fun i hi=>absurd hi (by omega),mJ.none _ _ _ _⟩
    case round=>
     obtain⟨j,J,a4,n4,rfl,HG,o1,HB,HV,HT⟩:=hrel;by_cases hj:j<l
     ·have c6:j<p.length:=by rw[T.o];exact hj
      have b5:=e9.o.trans (HB.o.mono e9.o.size);obtain⟨b,o,k',v',s',b1,A2,n2,c2,B2,m3,d2,Xr,xl,xc,j4,f6,n7,e0,e1,e2,e3,e4,e5,e6⟩:=aZ HR.o HA.o b5 c6;subst j4;have P:=IH.o j c6 (wr.alloc (.cells #[.int .i64 k',.int .i64 v',.string s',.bool b1,.slice A2 n2 c2,.slice B2 m3 d2,.slice Xr xl xc] 27)) (b5.trans ((ae wr (.cells #[.int .i64 k',.int .i64 v',.string s',.bool b1,.slice A2 n2 c2,.slice B2 m3 d2,.slice Xr xl xc] 27)).mono b5.size));rw[f6]at P;have P:=zH P;go_wp2_with fail;refine P.o.mono ?_;rintro e w3 ⟨k9,rfl,d0,f3⟩;obtain⟨k5,v5,s5,b2,A5,n5,c5,B5,m5,d5,X5,l5,b3,j6⟩:=d0.tc.form;subst j6;have a7:=zH ((ae wr (.cells #[.int .i64 k',.int .i64 v',.string s',.bool b1,.slice A2 n2 c2,.slice B2 m3 d2,.slice Xr xl xc] 27)).trans (f3.mono (ae wr (.cells #[.int .i64 k',.int .i64 v',.string s',.bool b1,.slice A2 n2 c2,.slice B2 m3 d2,.slice Xr xl xc] 27)).size));have g7:=zH (HB.o.trans (a7.o.mono HB.o.size));have N:=zH (HG.o.to a7.o);have H5:=zH (HT.o.add a7.o.size (fun b _ hb=>a7.o.block b hb) (by have:=HB.o.size;simp;omega) (by simp;omega) c6 d0);clear d0 f3 P e0 e1 e2 e3 e4 e5 e6 f6;obtain⟨x0,o2⟩:∃ x,w3.cell? ⟨m.heap.size,j*7,none⟩=some x:=⟨J[j*7]'(by omega),by rw[N.o.cell];exact zP (by omega)⟩;have l8:=N.o.frozen (j*7);obtain⟨x1,o3⟩:∃ x,w3.cell? ⟨m.heap.size,j*7+1,none⟩=some x:=⟨J[j*7+1]'(by omega),by rw[N.o.cell];exact zP (by omega)⟩;have m4:=N.o.frozen (j*7+1);obtain⟨x2,o4⟩:∃ x,w3.cell? ⟨m.heap.size,j*7+2,none⟩=some x:=⟨J[j*7+2]'(by omega),by rw[N.o.cell];exact zP (by omega)⟩;have m7:=N.o.frozen (j*7+2);obtain⟨x3,o5⟩:∃ x,w3.cell? ⟨m.heap.size,j*7+3,none⟩=some x:=⟨J[j*7+3]'(by omega),by rw[N.o.cell];exact zP (by omega)⟩;have m8:=N.o.frozen (j*7+3);obtain⟨x4,o6⟩:∃ x,w3.cell? ⟨m.heap.size,j*7+4,none⟩=some x:=⟨J[j*7+4]'(by omega),by rw[N.o.cell];exact zP (by omega)⟩;have n0:=N.o.frozen (j*7+4);obtain⟨x5,o7⟩:∃ x,w3.cell? ⟨m.heap.size,j*7+5,none⟩=some x:=⟨J[j*7+5]'(by omega),by rw[N.o.cell];exact zP (by omega)⟩;have n1:=N.o.frozen (j*7+5);obtain⟨x6,o8⟩:∃ x,w3.cell? ⟨m.heap.size,j*7+6,none⟩=some x:=⟨J[j*7+6]'(by omega),by rw[N.o.cell];exact zP (by omega)⟩;have n3:=N.o.frozen (j*7+6);go_wp2_with fail
      go_roundg (gk-1)
      case measure=>omega
      case rel=>
       have k6:∀ (t:Nat->List Value) (c:Nat),mJ (m.heap.size+1) w3 p t c->mJ (m.heap.size+1) (((((((w3.setCell ⟨m.heap.size,j*7,none⟩ (.int .i64 k5)).setCell ⟨m.heap.size,j*7+1,none⟩ (.int .i64 v5)).setCell ⟨m.heap.size,j*7+2,none⟩ (.string s5)).setCell ⟨m.heap.size,j*7+3,none⟩ (.bool b2)).setCell ⟨m.heap.size,j*7+4,none⟩ (.slice A5 n5 c5)).setCell ⟨m.heap.size,j*7+5,none⟩ (.slice B5 m5 d5)).setCell ⟨m.heap.size,j*7+6,none⟩ (.slice X5 l5 b3)) p t c:=fun t c ht=>ht.to (by simp) (fun b hb _=>(Below.heap_setCell _ ⟨m.heap.size,j*7+6,none⟩ _ b (show b≠m.heap.size by omega)).trans ((Below.heap_setCell _ ⟨m.heap.size,j*7+5,none⟩ _ b (show b≠m.heap.size by omega)).trans ((Below.heap_setCell _ ⟨m.heap.size,j*7+4,none⟩ _ b (show b≠m.heap.size by omega)).trans ((Below.heap_setCell _ ⟨m.heap.size,j*7+3,none⟩ _ b (show b≠m.heap.size by omega)).trans ((Below.heap_setCell _ ⟨m.heap.size,j*7+2,none⟩ _ b (show b≠m.heap.size by omega)).trans ((Below.heap_setCell _ ⟨m.heap.size,j*7+1,none⟩ _ b (show b≠m.heap.size by omega)).trans ((Below.heap_setCell _ ⟨m.heap.size,j*7,none⟩ _ b (show b≠m.heap.size by omega)).trans (rfl))))))));refine⟨j+1,(((((((J.setIfInBounds (j*7) (.int .i64 k5)).setIfInBounds (j*7+1) (.int .i64 v5)).setIfInBounds (j*7+2) (.string s5)).setIfInBounds (j*7+3) (.bool b2)).setIfInBounds (j*7+4) (.slice A5 n5 c5)).setIfInBounds (j*7+5) (.slice B5 m5 d5)).setIfInBounds (j*7+6) (.slice X5 l5 b3)),fun i=>if i=j then [.int .i64 k5,.int .i64 v5,.string s5,.bool b2,.slice A5 n5 c5,.slice B5 m5 d5,.slice X5 l5 b3] else a4 i,by omega,by go_num,(((((((N.o.set_ (j*7) (.int .i64 k5)).set_ (j*7+1) (.int .i64 v5)).set_ (j*7+2) (.string s5)).set_ (j*7+3) (.bool b2)).set_ (j*7+4) (.slice A5 n5 c5)).set_ (j*7+5) (.slice B5 m5 d5)).set_ (j*7+6) (.slice X5 l5 b3)),by simp;omega,(((((((g7.o.setCell zA _).setCell zA _).setCell zA _).setCell zA _).setCell zA _).setCell zA _).setCell zA _),fun i hi q hq=>?_,k6 _ _ H5.o⟩
       ·by_cases g0:i=j
        ·subst g0;have h7:q=0\/q=1\/q=2\/q=3\/q=4\/q=5\/q=6:=by omega
         rcases h7 with rfl|rfl|rfl|rfl|rfl|rfl|rfl<;>simp[Array.getElem?_setIfInBounds]<;>omega
        ·have j7:i<j:=by omega
         dsimp only;rw[if_neg g0,<-HV.o i j7 q hq];simp only[Array.getElem?_setIfInBounds]
         repeat rw[if_neg (by omega)]
     ·have k0:j=l:=by omega
      have c0:=KT.o.to HB.o;have b8:=KR.o.to HB.o;obtain⟨l0,l1,l2,l3,l4,l6,l7⟩:=c0.s7;have o9:=c0.frozen 6;obtain⟨r0,r1,r2,r3,r4,r5,r6⟩:=b8.s7;obtain⟨z0,z1,z2,z3,z4,z5,z6⟩:=b8.z7;have n8:=d4.o.size;have n9:=HB.o.size;have o0:=b6.o;have k8:=HG.o.lt;clear c0 b8 t0 t1 t2 t3 t4 t5 t6;go_wp2_with fail;refine bodyPost_ret (v:=.agg #[.int .i64 k,.int .i64 v,.string s,.bool Q,.slice A9 xs.length c9,.slice a1 ys.length a2,.slice (some ⟨m.heap.size,0,none⟩) l l]) (by rw[aH rfl];go_simp) rfl ?_;have f:∀ (Wx:World) (g i:Nat) (u v':Value) (n':Nat) (zs:List Value),g<=W.heap.size+1->Wx.ownsRow (((W.alloc (.cells #[.int .i64 k,.int .i64 v,.string s,.bool Q,.slice U X Z,.slice V Y q2,.slice Ar l I] 27)).alloc (.cells #[.int .i64 0,.int .i64 0,.string ⟨#[]⟩,.bool false,.slice none 0 0,.slice none 0 0,.slice none 0 0] 27)).drew).heap.size 82 1 v' n' zs->(Wx.setCell ⟨g,i,none⟩ u).ownsRow (((W.alloc (.cells #[.int .i64 k,.int .i64 v,.string s,.bool Q,.slice U X Z,.slice V Y q2,.slice Ar l I] 27)).alloc (.cells #[.int .i64 0,.int .i64 0,.string ⟨#[]⟩,.bool false,.slice none 0 0,.slice none 0 0,.slice none 0 0] 27)).drew).heap.size 82 1 v' n' zs:=fun Wx g i u v' n' zs hg hr=>fi hr (by omega);have a5:W.heap.size+1<=(((W.alloc (.cells #[.int .i64 k,.int .i64 v,.string s,.bool Q,.slice U X Z,.slice V Y q2,.slice Ar l I] 27)).alloc (.cells #[.int .i64 0,.int .i64 0,.string ⟨#[]⟩,.bool false,.slice none 0 0,.slice none 0 0,.slice none 0 0] 27)).drew).heap.size:=by omega
      have c1:∀ b,W.heap.size+1<b->((((((((wr.setCell ⟨W.heap.size,6,none⟩ (.slice (some ⟨m.heap.size,0,none⟩) l l)).setCell ⟨W.heap.size+1,0,none⟩ (.int .i64 k)).setCell ⟨W.heap.size+1,1,none⟩ (.int .i64 v)).setCell ⟨W.heap.size+1,2,none⟩ (.string s)).setCell ⟨W.heap.size+1,3,none⟩ (.bool Q)).setCell ⟨W.heap.size+1,4,none⟩ (.slice A9 xs.length c9)).setCell ⟨W.heap.size+1,5,none⟩ (.slice a1 ys.length a2)).setCell ⟨W.heap.size+1,6,none⟩ (.slice (some ⟨m.heap.size,0,none⟩) l l)).heap[b]?=wr.heap[b]?:=fun b hb=>(Below.heap_setCell _ ⟨W.heap.size+1,6,none⟩ _ b (show b≠W.heap.size+1 by omega)).trans ((Below.heap_setCell _ ⟨W.heap.size+1,5,none⟩ _ b (show b≠W.heap.size+1 by omega)).trans ((Below.heap_setCell _ ⟨W.heap.size+1,4,none⟩ _ b (show b≠W.heap.size+1 by omega)).trans ((Below.heap_setCell _ ⟨W.heap.size+1,3,none⟩ _ b (show b≠W.heap.size+1 by omega)).trans ((Below.heap_setCell _ ⟨W.heap.size+1,2,none⟩ _ b (show b≠W.heap.size+1 by omega)).trans ((Below.heap_setCell _ ⟨W.heap.size+1,1,none⟩ _ b (show b≠W.heap.size+1 by omega)).trans ((Below.heap_setCell _ ⟨W.heap.size+1,0,none⟩ _ b (show b≠W.heap.size+1 by omega)).trans ((Below.heap_setCell _ ⟨W.heap.size,6,none⟩ _ b (show b≠W.heap.size by omega)).trans rfl)))))));have i3:mJ (m.heap.size+1) wr p a4 l:=by
       have h:=HT.o;rw[k0]at h;exact h
      have hz:=e7.o (.slice A9 xs.length c9) (.slice a1 ys.length a2) (some ⟨m.heap.size,0,none⟩) l a4 (W.heap.size+1) ((((((((wr.setCell ⟨W.heap.size,6,none⟩ (.slice (some ⟨m.heap.size,0,none⟩) l l)).setCell ⟨W.heap.size+1,0,none⟩ (.int .i64 k)).setCell ⟨W.heap.size+1,1,none⟩ (.int .i64 v)).setCell ⟨W.heap.size+1,2,none⟩ (.string s)).setCell ⟨W.heap.size+1,3,none⟩ (.bool Q)).setCell ⟨W.heap.size+1,4,none⟩ (.slice A9 xs.length c9)).setCell ⟨W.heap.size+1,5,none⟩ (.slice a1 ys.length a2)).setCell ⟨W.heap.size+1,6,none⟩ (.slice (some ⟨m.heap.size,0,none⟩) l l)) (Joins.ownsRow_le (f _ _ _ _ _ _ _ zA (f _ _ _ _ _ _ _ zA (f _ _ _ _ _ _ _ zA (f _ _ _ _ _ _ _ zA (f _ _ _ _ _ _ _ zA (f _ _ _ _ _ _ _ zA (f _ _ _ _ _ _ _ zA (f _ _ _ _ _ _ _ (Nat.le_succ _) (bJ O9.o HB.o))))))))) a5) (Joins.ownsRow_le (f _ _ _ _ _ _ _ zA (f _ _ _ _ _ _ _ zA (f _ _ _ _ _ _ _ zA (f _ _ _ _ _ _ _ zA (f _ _ _ _ _ _ _ zA (f _ _ _ _ _ _ _ zA (f _ _ _ _ _ _ _ zA (f _ _ _ _ _ _ _ (Nat.le_succ _) (bJ f0.o HB.o))))))))) a5) (by rw[T.o];exact zN _) (by unfold maxLen;omega) (.inr ⟨m.heap.size,rfl,by rw[T.o];exact i3.to (by simp) (fun b hb _=>c1 b (by omega)),by omega,by simp;omega,⟨J,(c1 m.heap.size (by omega)).trans HG.o⟩,fun i hi q hq=>by rw[Nat.zero_add];exact (World.cell?_of_block (a:=⟨m.heap.size,i*7+q,none⟩) (c1 m.heap.size (by omega))).trans ((HG.o.cell _).trans (HV.o i (by rw[T.o]at hi;omega) q hq))⟩);rw[T.o]at hz;refine⟨_,rfl,hz,?_⟩;have g8:zZ W wr:=b4.o.trans (HB.o.mono b4.o.size);exact (((((((g8.setCell zA _).setCell (Nat.le_succ _) _).setCell (Nat.le_succ _) _).setCell (Nat.le_succ _) _).setCell (Nat.le_succ _) _).setCell (Nat.le_succ _) _).setCell (Nat.le_succ _) _).setCell (Nat.le_succ _) _
end Go.Proofs.YtlhojoefhannnaaGreat
