/- The reference's put: a binding put into a list in order. And 6 more texts. -/
import Derived.Test.YtlhojoefhannnaaGreatJx22
set_option linter.unusedVariables false
set_option linter.unusedSimpArgs false
set_option maxRecDepth 100000
set_option maxHeartbeats 51200000
namespace Go.Proofs.YtlhojoefhannnaaGreat
open Go.Proofs.Tryz Go.RowKit NumB
def eL (W w:World) (B:Nat) (ov:Value) (gs:List (Int×Tm)):Prop:=
 ∃ (xs:List Value) (vals:Nat->List Value),w.ownsRow B 37 8 ov gs.length xs/\(∀ i,i<gs.length->∀ q,q<8->xs[i*8+q]?=(vals i)[q]?)/\∀ i (h:i<gs.length),BC W gs[i] (vals i)
theorem eL.nil (W w:World) (B:Nat):eL W w B (.slice none 0 0) []:=⟨[],fun _=>[],World.ownsRow_nil _ _ _ _,fun i h=>absurd h (by simp),fun i h=>absurd h (by simp)⟩
theorem eL.add {W w:World} {B:Nat} {d:Value} {b:List (Int×Tm)} {xs cs:List Value} {vals:Nat->List Value} {p:Int×Tm} (h:w.ownsRow B 37 8 d (b.length+1) (xs++cs)) (k:∀ i,i<b.length->∀ q,q<8->xs[i*8+q]?=(vals i)[q]?) (e:∀ i (h:i<b.length),BC W b[i] (vals i)) (l:xs.length=b.length*8) (f:BC W p cs):eL W w B d (b++[p]):=by
 refine⟨xs++cs,fun i=>if i=b.length then cs else vals i,by rw[zE];exact h,fun i c q g=>?_,fun i c=>?_⟩
 ·rw[zE,List.length_singleton]at c;by_cases a:i=b.length
  ·subst a;dsimp only;rw[if_pos rfl,List.getElem?_append_right (by omega)]
   congr 1
   omega
  ·dsimp only;rw[if_neg a,List.getElem?_append_left (by omega)];exact k i (by omega) q g
 ·rw[zE,List.length_singleton]at c;by_cases a:i=b.length
  ·subst a;dsimp only;rw[if_pos rfl,List.getElem_append_right zA];simpa using f
  ·dsimp only;rw[if_neg a,List.getElem_append_left (by omega)];exact e i (by omega)
theorem eL.to {W w w':World} {B:Nat} {c:Value} {b:List (Int×Tm)} (h:eL W w B c b) (g:zZ w w'):eL W w' B c b:=by
 obtain⟨i,a,d,e,f⟩:=h;exact⟨i,a,bJ d g,e,f⟩
theorem eL.form {W w:World} {B:Nat} {d:Value} {b:List (Int×Tm)} (h:eL W w B d b):∃ A c,d=.slice A b.length c:=by
 obtain⟨l,e,⟨_,⟨a,k⟩|⟨g,f,i,a,_⟩⟩,_⟩:=h
 ·exact⟨none,0,by rw[a,k]⟩
 ·exact⟨_,_,a⟩
theorem eL.done {W w:World} {B:Nat} {o:Value} {d:List (Int×Tm)} (h:eL W w B o d) (z:zZ W w):BL w o d:=by
 obtain⟨L,a,n,t,v⟩:=h;have b:∀ i (h:i<d.length),BC w d[i] (a i):=fun i k=>by obtain⟨p,e,C,D⟩:=v i k;exact⟨p,e,C,D.to z⟩
 have c:=n;obtain⟨G,⟨r,m⟩|⟨g,f,q,e,I,J,x,y,_⟩⟩:=n
 ·subst r;exact⟨none,0,a,by rw[m],by rw[m];exact zN _,by unfold maxLen;omega,fun h=>by omega,b⟩
 ·subst e;have l:=(Go.World.ownsRow.lt c g rfl).2;exact⟨some ⟨g,0,none⟩,f,a,rfl,x,y,fun E=>⟨g,0,rfl,l,fun i k j A=>by rw[Nat.zero_add,<-t i k j A];exact c.cellAt _ (by omega)⟩,b⟩
theorem An {bs:List (Int×Tm)} {lv:Value} {x:Int} {t:Tm} {ct:List Value} (W:World) (h4:BL W lv bs) (hx:aG x) (ht:TC W t ct) (h7:bs.length<=1000000):
 Calls prog 72 #[lv,.agg (Value.int .i64 x::ct).toArray] W fun e W'=>∃ ov,e=.returned ov/\BL W' ov (bV (x,t) bs)/\zZ W W':=by
 obtain⟨k1,v1,l,i,T,n1,c1,U,m1,d1,X1,l1,e1,h6⟩:=ht.form;subst h6;have e7:Yd (BC W (x,t) [(Value.int .i64 x),(Value.int .i64 k1),(Value.int .i64 v1),(Value.string l),(Value.bool i),(Value.slice T n1 c1),(Value.slice U m1 d1),(Value.slice X1 l1 e1)]):=⟨_,rfl,hx,ht⟩;obtain⟨Ab,cb,i2,rfl,h5,hm,f3,f0⟩:=h4;have HR:=zH f3;have HA:=zH f0;unfold maxLen at hm;obtain⟨n,hl⟩:∃ n,bs.length=n:=⟨_,rfl⟩;rw[hl]at h5 h7 ⊢;have HL:=zH hl;obtain⟨i0,f1,f6,f7,f8⟩:=info_parts nR;have b8:=zH f1;have c2:=zH f6;have c3:=zH f7;have c4:=zH f8;clear f1 f6 f7 f8 hl f3 f0 ht hx;have e8:Yd (ah (W.alloc (.cells #[.int .i64 x,.int .i64 k1,.int .i64 v1,.string l,.bool i,.slice T n1 c1,.slice U m1 d1,.slice X1 l1 e1] 37)) W.heap.size 37 #[.int .i64 x,.int .i64 k1,.int .i64 v1,.string l,.bool i,.slice T n1 c1,.slice U m1 d1,.slice X1 l1 e1]/\zZ W (W.alloc (.cells #[.int .i64 x,.int .i64 k1,.int .i64 v1,.string l,.bool i,.slice T n1 c1,.slice U m1 d1,.slice X1 l1 e1] 37))):=⟨ah.new W _ _,ae W _⟩;go_enter func72,ntmps72;go_wp2_with fail
 go_loopg [5,6,11] n (fun gk s5 s6 h9 wr=>∃ (j:Nat) (ov:Value) (dn:Bool) (z:List (Int×Tm)),gk+j=n/\h9=.int .i64 (j:Int)/\s6=.bool dn/\s5=ov/\Yd (eL W wr (W.heap.size+1) ov z)/\Yd (bV (x,t) bs=z++(if dn=true then bs.drop j else bV (x,t) (bs.drop j)))/\z.length<=j+dn.toNat/\Yd (ah wr W.heap.size 37 #[.int .i64 x,.int .i64 k1,.int .i64 v1,.string l,.bool i,.slice T n1 c1,.slice U m1 d1,.slice X1 l1 e1]/\zZ W wr))
 case atStart=>exact⟨0,_,false,[],by omega,rfl,rfl,rfl,eL.nil _ _ _,by rw[List.drop_zero];rfl,by simp,e8.o⟩
 case round=>
  clear e8;obtain⟨j,ov,dn,z,i4,rfl,rfl,rfl,Z,v,c7,X⟩:=hrel;by_cases hj:j<n
  ·have e4:j<bs.length:=by rw[HL.o];exact hj
   obtain⟨b,o,M,Q,f,d,D,P,I,E,O,J,G,N,L,h2,f4,r,z0,z1,z2,z3,z4,z5,z6,z7⟩:=cD HR.o HA.o X.o.2 e4;subst h2;have V:=zH (List.drop_eq_getElem_cons e4);have c6:Yd (BC W bs[j] [(Value.int .i64 (bs[j]).1),(Value.int .i64 M),(Value.int .i64 Q),(Value.string f),(Value.bool d),(Value.slice D P I),(Value.slice E O J),(Value.slice G N L)]):=by
    obtain⟨ct,e,q1,q2⟩:=HA.o j e4;exact⟨_,rfl,q1,f4⟩
   have HE:Yd (∃ y,(bs[j]).1=y):=⟨_,rfl⟩;generalize h3:bs[j]=bj at*;obtain⟨y,tj⟩:=bj;dsimp only at c6 z0 HE ⊢;clear h3 HE f4 r;have c:Yd (ah (wr.alloc (.cells #[.int .i64 y,.int .i64 M,.int .i64 Q,.string f,.bool d,.slice D P I,.slice E O J,.slice G N L] 37)) W.heap.size 37 #[.int .i64 x,.int .i64 k1,.int .i64 v1,.string l,.bool i,.slice T n1 c1,.slice U m1 d1,.slice X1 l1 e1]/\zZ W (wr.alloc (.cells #[.int .i64 y,.int .i64 M,.int .i64 Q,.string f,.bool d,.slice D P I,.slice E O J,.slice G N L] 37))):=⟨X.o.1.to (ae _ _),X.o.2.trans ((ae _ _).mono X.o.2.size)⟩;have q:Yd (ah (wr.alloc (.cells #[.int .i64 y,.int .i64 M,.int .i64 Q,.string f,.bool d,.slice D P I,.slice E O J,.slice G N L] 37)) wr.heap.size 37 #[.int .i64 y,.int .i64 M,.int .i64 Q,.string f,.bool d,.slice D P I,.slice E O J,.slice G N L]):=ah.new wr _ _;have e3:=zH (Z.o.to (ae wr (.cells #[.int .i64 y,.int .i64 M,.int .i64 Q,.string f,.bool d,.slice D P I,.slice E O J,.slice G N L] 37)));generalize j2:(wr.alloc (.cells #[.int .i64 y,.int .i64 M,.int .i64 Q,.string f,.bool d,.slice D P I,.slice E O J,.slice G N L] 37))=w9 at*;have j1:wr.heap.size<w9.heap.size:=q.o.lt;generalize i3:wr.heap.size=bk at*;cases dn with
   |true=>
    simp only[Bool.toNat_true]at c7;have c0:Yd (bV (x,t) bs=(z++[(y,tj)])++(if true=true then bs.drop (j+1) else bV (x,t) (bs.drop (j+1)))):=by have:=v.o;rw[V.o]at this;show _=_;simpa using this
    clear v V Z X HR HA;have b0:=q.o.cell 0;have b1:=q.o.cell 1;have b2:=q.o.cell 2;have b3:=q.o.cell 3;have b4:=q.o.cell 4;have b5:=q.o.cell 5;have b6:=q.o.cell 6;have b7:=q.o.cell 7;simp only[L3]at b0 b1 b2 b3 b4 b5 b6 b7;obtain⟨CG,e6,a1,a2,a0⟩:=e3.o;have w:=zH (bJ a1 (ae w9 (.cells #[.int .i64 y,.int .i64 M,.int .i64 Q,.string f,.bool d,.slice D P I,.slice E O J,.slice G N L] 37)));have a7:=zH a2;have a8:=zH a0;have a4:=zH (World.news_of_block (ah.new w9 37 #[.int .i64 y,.int .i64 M,.int .i64 Q,.string f,.bool d,.slice D P I,.slice E O J,.slice G N L]));have a5:Yd (∀ u∈[(Value.int .i64 y),(Value.int .i64 M),(Value.int .i64 Q),(Value.string f),(Value.bool d),(Value.slice D P I),(Value.slice E O J),(Value.slice G N L)],u.oneCell'=true):=fun u hu=>by
     simp only[List.mem_cons,List.not_mem_nil,or_false]at hu;rcases hu with rfl|rfl|rfl|rfl|rfl|rfl|rfl|rfl<;>rfl
    have a6:Yd (W.heap.size+1<=(w9.alloc (.cells #[.int .i64 y,.int .i64 M,.int .i64 Q,.string f,.bool d,.slice D P I,.slice E O J,.slice G N L] 37)).heap.size):=zC (Nat.succ_le_of_lt c.o.1.lt) (ae _ _).size;have a3:Yd (∀ S,(w9.alloc (.cells #[.int .i64 y,.int .i64 M,.int .i64 Q,.string f,.bool d,.slice D P I,.slice E O J,.slice G N L] 37)).grownBy S u5.ownBlock->(ah S W.heap.size 37 #[.int .i64 x,.int .i64 k1,.int .i64 v1,.string l,.bool i,.slice T n1 c1,.slice U m1 d1,.slice X1 l1 e1]/\zZ W S)/\True):=fun S hg=>by
     have r:=Go.World.ownsRow.lt w.o;exact⟨⟨(hg.block _ (c.o.1.to (ae _ _)).lt (fun e=>by have:=(r _ e.symm).1;omega)).trans (c.o.1.to (ae _ _)),(c.o.2.trans ((ae _ _).mono c.o.2.size)).grown hg (zC c.o.2.size (ae _ _).size) (fun k hk=>by have:=(r k hk).1;omega)⟩,trivial⟩
    clear a1 a2 a0
    go_wp2_with (at_builtin;go_must (refine wpList_append_lies _ rfl _ _ 28 rfl (W.heap.size+1) 37 i0 (.agg (Value.int .i64 0::zt).toArray) 8 120 underlying28 b8.o c2.o c3.o c4.o rfl (by decide) u5 z.length CG rfl w.o ⟨w9.heap.size,0,none⟩ 1 1 [(Value.int .i64 y),(Value.int .i64 M),(Value.int .i64 Q),(Value.string f),(Value.bool d),(Value.slice D P I),(Value.slice E O J),(Value.slice G N L)] rfl rfl a4.o a5.o (by decide) (by unfold maxLen;omega) (by omega) (by exact a6.o) _ rfl ?_);intro g1 A y1 m a B C;have p:=zH (a3.o y1 a);have Y:Yd (eL W y1 (W.heap.size+1) (.slice (some ⟨g1,0,none⟩) (z.length+1) A) (z++[(y,tj)])):=eL.add m a7.o a8.o w.o.1 c6.o;have d8:=zH B;clear m a B C)
    go_roundg (gk-1)
    case measure=>omega
    case rel=>exact⟨j+1,_,true,z++[(y,tj)],by omega,by go_num,rfl,rfl,Y.o,c0.o,by simp;omega,p.o.1⟩
   |false=>
    simp only[Bool.toNat_false]at c7;have c8:=c.o.1.cell 0;have c9:=c.o.1.cell 1;have d0:=c.o.1.cell 2;have d2:=c.o.1.cell 3;have d3:=c.o.1.cell 4;have d4:=c.o.1.cell 5;have d6:=c.o.1.cell 6;have d7:=c.o.1.cell 7;simp only[L3]at c8 c9 d0 d2 d3 d4 d6 d7;have b0:=q.o.cell 0;have b1:=q.o.cell 1;have b2:=q.o.cell 2;have b3:=q.o.cell 3;have b4:=q.o.cell 4;have b5:=q.o.cell 5;have b6:=q.o.cell 6;have b7:=q.o.cell 7;simp only[L3]at b0 b1 b2 b3 b4 b5 b6 b7;by_cases a9:x<y
    ·have h8:decide (x<y)=true:=by simp[a9]
     have c0:Yd (bV (x,t) bs=((z++[(x,t)])++[(y,tj)])++(if true=true then bs.drop (j+1) else bV (x,t) (bs.drop (j+1)))):=by have:=v.o;rw[V.o,bV,if_pos a9]at this;show _=_;simpa using this
     have g5:Yd (∀ g,u5.ownBlock=some g->g<bk):=fun g hg=>by
      obtain⟨_,_,hr,_⟩:=Z.o;have:=(Go.World.ownsRow.lt hr g hg).2;omega
     clear v V Z X HR HA a9;obtain⟨CG,e6,a1,a2,a0⟩:=e3.o;have w:=zH (bJ a1 (ae w9 (.cells #[.int .i64 x,.int .i64 k1,.int .i64 v1,.string l,.bool i,.slice T n1 c1,.slice U m1 d1,.slice X1 l1 e1] 37)));have a7:=zH a2;have a8:=zH a0;have a4:=zH (World.news_of_block (ah.new w9 37 #[.int .i64 x,.int .i64 k1,.int .i64 v1,.string l,.bool i,.slice T n1 c1,.slice U m1 d1,.slice X1 l1 e1]));have a5:Yd (∀ u∈[(Value.int .i64 x),(Value.int .i64 k1),(Value.int .i64 v1),(Value.string l),(Value.bool i),(Value.slice T n1 c1),(Value.slice U m1 d1),(Value.slice X1 l1 e1)],u.oneCell'=true):=fun u hu=>by
      simp only[List.mem_cons,List.not_mem_nil,or_false]at hu;rcases hu with rfl|rfl|rfl|rfl|rfl|rfl|rfl|rfl<;>rfl
     have a6:Yd (W.heap.size+1<=(w9.alloc (.cells #[.int .i64 x,.int .i64 k1,.int .i64 v1,.string l,.bool i,.slice T n1 c1,.slice U m1 d1,.slice X1 l1 e1] 37)).heap.size):=zC (Nat.succ_le_of_lt c.o.1.lt) (ae _ _).size;have a3:Yd (∀ S,(w9.alloc (.cells #[.int .i64 x,.int .i64 k1,.int .i64 v1,.string l,.bool i,.slice T n1 c1,.slice U m1 d1,.slice X1 l1 e1] 37)).grownBy S u5.ownBlock->(ah S W.heap.size 37 #[.int .i64 x,.int .i64 k1,.int .i64 v1,.string l,.bool i,.slice T n1 c1,.slice U m1 d1,.slice X1 l1 e1]/\zZ W S)/\ah S bk 37 #[.int .i64 y,.int .i64 M,.int .i64 Q,.string f,.bool d,.slice D P I,.slice E O J,.slice G N L]):=fun S hg=>by
      have r:=Go.World.ownsRow.lt w.o;exact⟨⟨(hg.block _ (c.o.1.to (ae _ _)).lt (fun e=>by have:=(r _ e.symm).1;omega)).trans (c.o.1.to (ae _ _)),(c.o.2.trans ((ae _ _).mono c.o.2.size)).grown hg (zC c.o.2.size (ae _ _).size) (fun k hk=>by have:=(r k hk).1;omega)⟩,(hg.block _ (q.o.to (ae _ _)).lt (fun e=>by have:=g5.o _ e.symm;omega)).trans (q.o.to (ae _ _))⟩
     clear a1 a2 a0
     go_wp2_with (first
      |(at_builtin
        (refine wpList_append_lies _ rfl _ _ 28 rfl (W.heap.size+1) 37 i0 (.agg (Value.int .i64 0::zt).toArray) 8 120 underlying28 b8.o c2.o c3.o c4.o rfl (by decide) u5 z.length CG rfl w.o ⟨w9.heap.size,0,none⟩ 1 1 [(Value.int .i64 x),(Value.int .i64 k1),(Value.int .i64 v1),(Value.string l),(Value.bool i),(Value.slice T n1 c1),(Value.slice U m1 d1),(Value.slice X1 l1 e1)] rfl rfl a4.o a5.o (by decide) (by unfold maxLen;omega) (by omega) (by exact a6.o) _ rfl ?_)
        intro g1 A y1 m a B C;have p:=zH (a3.o y1 a);have Y:Yd (eL W y1 (W.heap.size+1) (.slice (some ⟨g1,0,none⟩) (z.length+1) A) (z++[(x,t)])):=eL.add m a7.o a8.o w.o.1 e7.o;have d8:=zH B;clear m a B C;clear c8 c9 d0 d2 d3 d4 d6 d7 b0 b1 b2 b3 b4 b5 b6 b7;have b0:=p.o.2.cell 0;have b1:=p.o.2.cell 1;have b2:=p.o.2.cell 2;have b3:=p.o.2.cell 3;have b4:=p.o.2.cell 4;have b5:=p.o.2.cell 5;have b6:=p.o.2.cell 6;have b7:=p.o.2.cell 7;simp only[L3]at b0 b1 b2 b3 b4 b5 b6 b7;have j0:(z++[(x,t)]).length=z.length+1:=by simp
        obtain⟨xs2,j3,f2,f5,e9⟩:=Y.o;have e2:=zH (bJ f2 (ae y1 (.cells #[.int .i64 y,.int .i64 M,.int .i64 Q,.string f,.bool d,.slice D P I,.slice E O J,.slice G N L] 37)));have g9:=zH f5;have h0:=zH e9;have g4:=zH (World.news_of_block (ah.new y1 37 #[.int .i64 y,.int .i64 M,.int .i64 Q,.string f,.bool d,.slice D P I,.slice E O J,.slice G N L]));have g6:Yd (∀ u∈[(Value.int .i64 y),(Value.int .i64 M),(Value.int .i64 Q),(Value.string f),(Value.bool d),(Value.slice D P I),(Value.slice E O J),(Value.slice G N L)],u.oneCell'=true):=fun u hu=>by
         simp only[List.mem_cons,List.not_mem_nil,or_false]at hu;rcases hu with rfl|rfl|rfl|rfl|rfl|rfl|rfl|rfl<;>rfl
        have g8:Yd (W.heap.size+1<=(y1.alloc (.cells #[.int .i64 y,.int .i64 M,.int .i64 Q,.string f,.bool d,.slice D P I,.slice E O J,.slice G N L] 37)).heap.size):=zC (Nat.succ_le_of_lt p.o.1.1.lt) (ae _ _).size;have g3:Yd (∀ S,(y1.alloc (.cells #[.int .i64 y,.int .i64 M,.int .i64 Q,.string f,.bool d,.slice D P I,.slice E O J,.slice G N L] 37)).grownBy S (Value.slice (some ⟨g1,0,none⟩) (z.length+1) A).ownBlock->(ah S W.heap.size 37 #[.int .i64 x,.int .i64 k1,.int .i64 v1,.string l,.bool i,.slice T n1 c1,.slice U m1 d1,.slice X1 l1 e1]/\zZ W S)/\True):=fun S hg=>by
         have r:=Go.World.ownsRow.lt e2.o;exact⟨⟨(hg.block _ (p.o.1.1.to (ae _ _)).lt (fun e=>by have:=(r _ e.symm).1;omega)).trans (p.o.1.1.to (ae _ _)),(p.o.1.2.trans ((ae _ _).mono p.o.1.2.size)).grown hg (zC p.o.1.2.size (ae _ _).size) (fun k hk=>by have:=(r k hk).1;omega)⟩,trivial⟩
        clear f2 f5 e9)
      |(at_builtin
        (refine wpList_append_lies _ rfl _ _ 28 rfl (W.heap.size+1) 37 i0 (.agg (Value.int .i64 0::zt).toArray) 8 120 underlying28 b8.o c2.o c3.o c4.o rfl (by decide) (Value.slice (some ⟨g1,0,none⟩) (z.length+1) A) (z++[(x,t)]).length xs2 rfl e2.o ⟨y1.heap.size,0,none⟩ 1 1 [(Value.int .i64 y),(Value.int .i64 M),(Value.int .i64 Q),(Value.string f),(Value.bool d),(Value.slice D P I),(Value.slice E O J),(Value.slice G N L)] rfl rfl g4.o g6.o (by decide) (by unfold maxLen;omega) (by omega) (by exact g8.o) _ rfl ?_)
        intro g2 h1 y2 m a B C;have g0:=zH (g3.o y2 a);have g7:Yd (eL W y2 (W.heap.size+1) (.slice (some ⟨g2,0,none⟩) ((z++[(x,t)]).length+1) h1) ((z++[(x,t)])++[(y,tj)])):=eL.add m g9.o h0.o e2.o.1 c6.o;have i1:=zH B;clear m a B C))
     go_roundg (gk-1)
     case measure=>omega
     case rel=>exact⟨j+1,_,true,(z++[(x,t)])++[(y,tj)],by omega,by go_num,rfl,rfl,(by have h:=g7.o;simp only[zE,zV,List.length_nil,Nat.zero_add]at h;exact h),c0.o,by simp;omega,g0.o.1⟩
    ·have h8:decide (x<y)=false:=by simp[a9]
     have c0:Yd (bV (x,t) bs=(z++[(y,tj)])++(if false=true then bs.drop (j+1) else bV (x,t) (bs.drop (j+1)))):=by have:=v.o;rw[V.o,bV,if_neg a9]at this;show _=_;simpa using this
     clear v V Z X HR HA a9;obtain⟨CG,e6,a1,a2,a0⟩:=e3.o;have w:=zH (bJ a1 (ae w9 (.cells #[.int .i64 y,.int .i64 M,.int .i64 Q,.string f,.bool d,.slice D P I,.slice E O J,.slice G N L] 37)));have a7:=zH a2;have a8:=zH a0;have a4:=zH (World.news_of_block (ah.new w9 37 #[.int .i64 y,.int .i64 M,.int .i64 Q,.string f,.bool d,.slice D P I,.slice E O J,.slice G N L]));have a5:Yd (∀ u∈[(Value.int .i64 y),(Value.int .i64 M),(Value.int .i64 Q),(Value.string f),(Value.bool d),(Value.slice D P I),(Value.slice E O J),(Value.slice G N L)],u.oneCell'=true):=fun u hu=>by
      simp only[List.mem_cons,List.not_mem_nil,or_false]at hu;rcases hu with rfl|rfl|rfl|rfl|rfl|rfl|rfl|rfl<;>rfl
     have a6:Yd (W.heap.size+1<=(w9.alloc (.cells #[.int .i64 y,.int .i64 M,.int .i64 Q,.string f,.bool d,.slice D P I,.slice E O J,.slice G N L] 37)).heap.size):=zC (Nat.succ_le_of_lt c.o.1.lt) (ae _ _).size;have a3:Yd (∀ S,(w9.alloc (.cells #[.int .i64 y,.int .i64 M,.int .i64 Q,.string f,.bool d,.slice D P I,.slice E O J,.slice G N L] 37)).grownBy S u5.ownBlock->(ah S W.heap.size 37 #[.int .i64 x,.int .i64 k1,.int .i64 v1,.string l,.bool i,.slice T n1 c1,.slice U m1 d1,.slice X1 l1 e1]/\zZ W S)/\True):=fun S hg=>by
      have r:=Go.World.ownsRow.lt w.o;exact⟨⟨(hg.block _ (c.o.1.to (ae _ _)).lt (fun e=>by have:=(r _ e.symm).1;omega)).trans (c.o.1.to (ae _ _)),(c.o.2.trans ((ae _ _).mono c.o.2.size)).grown hg (zC c.o.2.size (ae _ _).size) (fun k hk=>by have:=(r k hk).1;omega)⟩,trivial⟩
     clear a1 a2 a0
     go_wp2_with (at_builtin;go_must (refine wpList_append_lies _ rfl _ _ 28 rfl (W.heap.size+1) 37 i0 (.agg (Value.int .i64 0::zt).toArray) 8 120 underlying28 b8.o c2.o c3.o c4.o rfl (by decide) u5 z.length CG rfl w.o ⟨w9.heap.size,0,none⟩ 1 1 [(Value.int .i64 y),(Value.int .i64 M),(Value.int .i64 Q),(Value.string f),(Value.bool d),(Value.slice D P I),(Value.slice E O J),(Value.slice G N L)] rfl rfl a4.o a5.o (by decide) (by unfold maxLen;omega) (by omega) (by exact a6.o) _ rfl ?_);intro g1 A y1 m a B C;have p:=zH (a3.o y1 a);have Y:Yd (eL W y1 (W.heap.size+1) (.slice (some ⟨g1,0,none⟩) (z.length+1) A) (z++[(y,tj)])):=eL.add m a7.o a8.o w.o.1 c6.o;have d8:=zH B;clear m a B C)
     go_roundg (gk-1)
     case measure=>omega
     case rel=>exact⟨j+1,_,false,z++[(y,tj)],by omega,by go_num,rfl,rfl,Y.o,c0.o,by simp;omega,p.o.1⟩
  ·obtain rfl:n=j:=by omega
   have V:Yd (bs.drop n=[]):=List.drop_eq_nil_of_le (by rw[HL.o];exact zN _);cases dn with
   |true=>
    simp only[Bool.toNat_true]at c7;have e0:Yd (bV (x,t) bs=z):=by have:=v.o;rw[V.o]at this;show _=_;simpa using this
    clear v V;go_wp2_with fail;go_ret;rw[e0.o];exact⟨_,rfl,Z.o.done X.o.2,X.o.2⟩
   |false=>
    simp only[Bool.toNat_false]at c7;have e0:Yd (bV (x,t) bs=z++[(x,t)]):=by have:=v.o;rw[V.o]at this;show _=_;simpa[bV] using this
    clear v V;have c8:=X.o.1.cell 0;have c9:=X.o.1.cell 1;have d0:=X.o.1.cell 2;have d2:=X.o.1.cell 3;have d3:=X.o.1.cell 4;have d4:=X.o.1.cell 5;have d6:=X.o.1.cell 6;have d7:=X.o.1.cell 7;simp only[L3]at c8 c9 d0 d2 d3 d4 d6 d7;obtain⟨CG,e6,a1,a2,a0⟩:=Z.o;have w:=zH (bJ a1 (ae wr (.cells #[.int .i64 x,.int .i64 k1,.int .i64 v1,.string l,.bool i,.slice T n1 c1,.slice U m1 d1,.slice X1 l1 e1] 37)));have a7:=zH a2;have a8:=zH a0;have a4:=zH (World.news_of_block (ah.new wr 37 #[.int .i64 x,.int .i64 k1,.int .i64 v1,.string l,.bool i,.slice T n1 c1,.slice U m1 d1,.slice X1 l1 e1]));have a5:Yd (∀ u∈[(Value.int .i64 x),(Value.int .i64 k1),(Value.int .i64 v1),(Value.string l),(Value.bool i),(Value.slice T n1 c1),(Value.slice U m1 d1),(Value.slice X1 l1 e1)],u.oneCell'=true):=fun u hu=>by
     simp only[List.mem_cons,List.not_mem_nil,or_false]at hu;rcases hu with rfl|rfl|rfl|rfl|rfl|rfl|rfl|rfl<;>rfl
    have a6:Yd (W.heap.size+1<=(wr.alloc (.cells #[.int .i64 x,.int .i64 k1,.int .i64 v1,.string l,.bool i,.slice T n1 c1,.slice U m1 d1,.slice X1 l1 e1] 37)).heap.size):=zC (Nat.succ_le_of_lt X.o.1.lt) (ae _ _).size;have a3:Yd (∀ S,(wr.alloc (.cells #[.int .i64 x,.int .i64 k1,.int .i64 v1,.string l,.bool i,.slice T n1 c1,.slice U m1 d1,.slice X1 l1 e1] 37)).grownBy S u5.ownBlock->(ah S W.heap.size 37 #[.int .i64 x,.int .i64 k1,.int .i64 v1,.string l,.bool i,.slice T n1 c1,.slice U m1 d1,.slice X1 l1 e1]/\zZ W S)/\True):=fun S hg=>by
     have r:=Go.World.ownsRow.lt w.o;exact⟨⟨(hg.block _ (X.o.1.to (ae _ _)).lt (fun e=>by have:=(r _ e.symm).1;omega)).trans (X.o.1.to (ae _ _)),(X.o.2.trans ((ae _ _).mono X.o.2.size)).grown hg (zC X.o.2.size (ae _ _).size) (fun k hk=>by have:=(r k hk).1;omega)⟩,trivial⟩
    clear a1 a2 a0
    go_wp2_with (at_builtin;go_must (refine wpList_append_lies _ rfl _ _ 28 rfl (W.heap.size+1) 37 i0 (.agg (Value.int .i64 0::zt).toArray) 8 120 underlying28 b8.o c2.o c3.o c4.o rfl (by decide) u5 z.length CG rfl w.o ⟨wr.heap.size,0,none⟩ 1 1 [(Value.int .i64 x),(Value.int .i64 k1),(Value.int .i64 v1),(Value.string l),(Value.bool i),(Value.slice T n1 c1),(Value.slice U m1 d1),(Value.slice X1 l1 e1)] rfl rfl a4.o a5.o (by decide) (by unfold maxLen;omega) (by omega) (by exact a6.o) _ rfl ?_);intro g1 A y1 m a B C;have p:=zH (a3.o y1 a);have Y:Yd (eL W y1 (W.heap.size+1) (.slice (some ⟨g1,0,none⟩) (z.length+1) A) (z++[(x,t)])):=eL.add m a7.o a8.o w.o.1 e7.o;have d8:=zH B;clear m a B C)
    go_wp2_with fail;go_ret;rw[e0.o];exact⟨_,rfl,Y.o.done p.o.1.2,p.o.1.2⟩
def cW:List Tm->Int
 |[]=>0
 |t::l=>if t.check=0 then cW l else t.check
theorem bS {e:Func} {a b c:Tmp} (h:e.results=#[.tmp a,.tmp b,.tmp c]) (d:Array Value) (P:Program) (w:World):
 (results e d).run P w=.ok (.tuple #[d.getD a undef,d.getD b undef,d.getD c undef]) w:=by
 simp only[results,h];simp[Sem.run_bind,Result.andThen,Sem.run_pure]
theorem th {w:World} {ts:List Tm} {v:Value} (h:TL w v ts) (W:World) (O:zZ w W):
 Calls prog 27 #[v] W fun e W'=>e=.returned (.int .i64 (cW ts))/\zZ W W':=by
 have D:Yd (∀ t p,TC w t p->∀ W',zZ w W'->Calls prog 12 #[.agg p.toArray] W' fun e w'=>e=.returned (.int .i64 t.check)/\zZ W' w'):=fun t p ht W' hb=>fp ht W' hb;obtain⟨Ar,Z,p,rfl,r,hm,Q,P⟩:=h;have U:=zH Q;have M:=zH P;have g:=zH O;unfold maxLen at hm;obtain⟨l,G⟩:∃ l,ts.length=l:=⟨_,rfl⟩;rw[G]at r ⊢;have N:=zH G;have m:Yd (cW ts=cW (ts.drop 0)):=rfl;generalize cW ts=n at*;clear Q P O G;go_enter func27,ntmps27;go_wp2_with fail
 go_loopg [8] l (fun gk s8 wr=>∃ j:Nat,gk+j=l/\s8=.int .i64 (j:Int)/\Yd (n=cW (ts.drop j))/\Yd (zZ W wr))
 case atStart=>exact⟨0,by omega,rfl,m.o,Below.refl _ _⟩
 case round=>
  clear m;obtain⟨j,a1,rfl,z,y⟩:=hrel;by_cases hj:j<l
  ·have i:j<ts.length:=by rw[N.o];exact hj
   have C:=g.o.trans (y.o.mono g.o.size);obtain⟨b,o,k5,v5,L,J,S,n5,Y,T,X,d5,V,l5,e5,E,x,I,y0,y1,y2,y3,y4,y5,y6⟩:=aZ U.o M.o C i;subst E;have a:=zH (D.o (ts[j]) (p j) (M.o j i));rw[x]at a;have A:Yd (n=if (ts[j]).check=0 then cW (ts.drop (j+1)) else (ts[j]).check):=by have:=z.o;rw[List.drop_eq_getElem_cons i,cW]at this;exact this
   generalize (ts[j]).check=c at*;have f:Yd (zZ W (wr.alloc (.cells #[.int .i64 k5,.int .i64 v5,.string L,.bool J,.slice S n5 Y,.slice T X d5,.slice V l5 e5] 27))):=y.o.trans ((ae wr _).mono y.o.size);clear x I z;go_wp2_with fail;refine (a.o _ (by exact g.o.trans (f.o.mono g.o.size))).mono ?_;rintro e w3 ⟨rfl,q⟩;have k:Yd (zZ W w3):=f.o.trans (q.mono f.o.size);clear q f y0 y1 y2 y3 y4 y5 y6 a;by_cases B:c=0
   ·subst B;have d:Yd (n=cW (ts.drop (j+1))):=by have:=A.o;rw[if_pos rfl]at this;exact this
    clear A;go_wp2_with fail
    go_roundg (gk-1)
    case measure=>omega
    case rel=>exact⟨j+1,by omega,by go_num,d.o,k.o⟩
   ·have a0:(c==0)=false:=zL B;have d:Yd (n=c):=by have:=A.o;rw[if_neg B]at this;exact this
    clear A B;go_wp2_with fail;go_ret;rw[d.o];exact⟨rfl,k.o⟩
  ·obtain rfl:l=j:=by omega
   have d:Yd (n=0):=by have:=z.o;rw[List.drop_eq_nil_of_le (by rw[N.o];exact zN _)]at this;exact this
   clear z;go_wp2_with fail;go_ret;rw[d.o];exact⟨rfl,y.o⟩
theorem AJ {w W:World} {p t:Tm} {n o k2 v2:Int} {d e:ByteArray} {b c:Bool} {h k l b1 b2 b3:Value} (v:TC w p [.int .i64 n,.int .i64 o,.string d,.bool b,h,k,l]) (x:TC w t [.int .i64 k2,.int .i64 v2,.string e,.bool c,b1,b2,b3]) (q:zZ w W) {g:Nat} (r:ah W g 27 #[.int .i64 n,.int .i64 o,.string d,.bool b,h,k,l,.int .i64 k2,.int .i64 v2,.string e,.bool c,b1,b2,b3]):TL W (.slice (some ⟨g,0,none⟩) 2 2) [p,t]:=by
 refine⟨some ⟨g,0,none⟩,2,fun i=>if i=0 then [.int .i64 n,.int .i64 o,.string d,.bool b,h,k,l] else [.int .i64 k2,.int .i64 v2,.string e,.bool c,b1,b2,b3],rfl,zN _,by decide,fun _=>⟨g,0,rfl,r.lt,fun i f j y=>?_⟩,fun i f=>?_⟩
 ·have f:i<2:=f;rw[r.cell];have a:i=0\/i=1:=by omega
  have m:j=0\/j=1\/j=2\/j=3\/j=4\/j=5\/j=6:=by omega
  rcases a with rfl|rfl<;>rcases m with rfl|rfl|rfl|rfl|rfl|rfl|rfl<;>rfl
 ·have f:i<2:=f;have a:i=0\/i=1:=by omega
  rcases a with rfl|rfl
  ·exact v.to q
  ·exact x.to q
def xV (a b:Tm) (f:Int->Tm):Prop:=∃ β,xY β (a,b)/\iY β f
theorem xV.one {a b:Tm} {f g:Int->Tm} (h:xV a b f) (k:xV a b g):f=g:=by
 obtain⟨β,c,d⟩:=h;obtain⟨γ,e,k2⟩:=k;exact c.one e d k2
theorem xV.eq {a b:Tm} {f:Int->Tm} (h:xV a b f):a.sb f=b.sb f:=by
 obtain⟨β,c,d⟩:=h;exact (c.2 f).1 d.2.1
theorem iY.ne {β:Int->Option Tm} {f:Int->Tm} (h:iY β f) (a:ql β) (v:Int):β v=none↔f v=.var v:=by
 refine⟨h.1 v,fun e=>?_⟩;cases hb:β v with
 |none=>rfl
 |some t=>
  have b:=h.2.1 v t hb;rw[e]at b;obtain⟨u,rfl,c⟩:=Tm.sb_is_var (a.2 v t hb).1 b.symm;have d:=(a.2 v _ hb).2 u rfl;have g:=h.low a u v c;omega
open Classical in
noncomputable def bnd1 (f:Int->Tm) (v:Int):Option Tm:=if f v=.var v then none else some (f v)
theorem iY.bnd1 {β:Int->Option Tm} {f:Int->Tm} (h:iY β f) (a:ql β) (v:Int):Go.Proofs.YtlhojoefhannnaaGreat.bnd1 f v=if (β v).isSome then some (f v) else none:=by
 unfold Go.Proofs.YtlhojoefhannnaaGreat.bnd1;cases hb:β v with
 |none=>rw[if_pos ((h.ne a v).1 hb)];rfl
 |some t=>rw[if_neg (fun e=>by rw[(h.ne a v).2 e]at hb;cases hb)];rfl
inductive eN (a b:Tm):Int->Bool->List (Int×Tm)->Prop
 |bad (h:cW [a,b]≠0):eN a b (cW [a,b]) false []
 |no (h:cW [a,b]=0) (h2:∀ s,a.sb s≠b.sb s):eN a b 0 false []
 |size (h:cW [a,b]=0) (f:Int->Tm) (hf:xV a b f) (v:Int) (hv:10000<(f v).count):eN a b 3 false []
 |ok (h:cW [a,b]=0) (f:Int->Tm) (hf:xV a b f) (hc:∀ v,(f v).count<=10000) (bs:List (Int×Tm)) (hi:eC bs) (hm:∀ v,fnd bs v=bnd1 f v):eN a b 0 true bs
theorem eC.tail {p:Int×Tm} {l:List (Int×Tm)} (h:eC (p::l)):eC l:=fun i j a c b=>h (i+1) (j+1) (by simpa using a) (by simpa using c) (by omega)
theorem eC.head {p q:Int×Tm} {l:List (Int×Tm)} (h:eC (p::l)) (b:q∈l):p.1<q.1:=by
 obtain⟨i,a,rfl⟩:=List.mem_iff_getElem.1 b;exact h 0 (i+1) (by simp) (by simpa using a) (by omega)
theorem pp {p:Int×Tm} {l:List (Int×Tm)} (h:eC (p::l)) {v:Int} (b:v<=p.1):fnd l v=none:=by
 refine rg fun q a e=>?_;have:=h.head (zQ a);omega
theorem dd (p:Int×Tm) (l:List (Int×Tm)) (v:Int):fnd (p::l) v=if p.1=v then some p.2 else fnd l v:=by
 unfold fnd;by_cases h:p.1=v
 ·rw[List.find?_cons_of_pos (by simpa using h),if_pos h];rfl
 ·rw[List.find?_cons_of_neg (by simpa using h),if_neg h]
theorem zf:∀ {l m:List (Int×Tm)},eC l->eC m->(∀ v,fnd l v=fnd m v)->l=m:=by
 intro l
 induction l with
 |nil=>
  intro m _ _ h;cases m with
  |nil=>rfl
  |cons q m=>have:=h q.1;rw[dd,if_pos rfl]at this;simp[fnd]at this
 |cons p l k=>
  intro m b d h;cases m with
  |nil=>have:=h p.1;rw[dd,if_pos rfl]at this;simp[fnd]at this
  |cons q m=>
   have a:p.1=q.1:=by
    rcases Int.lt_trichotomy p.1 q.1 with c|i|c
    ·have:=h p.1;rw[dd,if_pos rfl,dd,if_neg (by omega),pp d (by omega)]at this;cases this
    ·exact i
    ·have:=h q.1;rw[dd,if_neg (by omega),dd,if_pos rfl,pp b (by omega)]at this;cases this
   have f:=h p.1;rw[dd,if_pos rfl,dd,if_pos a.symm]at f;have e:p=q:=Prod.ext a (zI f);subst e;rw[k b.tail d.tail fun v=>?_];by_cases g:p.1=v
   ·rw[pp b (by omega),pp d (by omega)]
   ·have:=h v
    rwa [dd,if_neg g,dd,if_neg g]at this
theorem eN.one {a b:Tm} {e t:Int} {k w:Bool} {bs bs':List (Int×Tm)} (h:eN a b e k bs) (n:eN a b t w bs'):e=t/\k=w/\bs=bs':=by
 cases h with
 |bad i=>
  cases n with
  |bad _=>exact⟨rfl,rfl,rfl⟩
  |no c _=>exact absurd c i
  |size c _ _ _ _=>exact absurd c i
  |ok c _ _ _ _ _ _=>exact absurd c i
 |no i l=>
  cases n with
  |bad c=>exact absurd i c
  |no _ _=>exact⟨rfl,rfl,rfl⟩
  |size _ f d _ _=>exact absurd d.eq (l f)
  |ok _ f d _ _ _ _=>exact absurd d.eq (l f)
 |size i f d v r=>
  cases n with
  |bad c=>exact absurd i c
  |no _ l=>exact absurd d.eq (l f)
  |size _ _ _ _ _=>exact⟨rfl,rfl,rfl⟩
  |ok _ g m o _ _ _=>
   rw[d.one m]at r;exact absurd (o v) (by omega)
 |ok i f d o _ x y=>
  cases n with
  |bad c=>exact absurd i c
  |no _ l=>exact absurd d.eq (l f)
  |size _ g m v r=>
   rw[<-d.one m]at r;exact absurd (o v) (by omega)
  |ok _ g m _ _ p q=>
   obtain rfl:=d.one m;exact⟨rfl,rfl,zf x p fun v=>by rw[y,q]⟩
theorem ig {Q:Int->Prop}:∀ (t:Tm),(∀ v,t.occ v->Q v)->t.cn->t.allV Q:=by
 intro t
 induction t using Tm.rec (motive_2:=fun l=>(∀ v,dA v l->Q v)->qp l->bL Q l) with
 |mk k v s n g m=>
  intro h a;rw[Tm.allV];rw[Tm.cn]at a;refine⟨fun b=>h v (by rw[Tm.occ];exact .inl ⟨b,rfl⟩),?_⟩;by_cases b:k=1
  ·have e:=a.1 b;unfold Tm.var at e;simp only[Tm.mk.injEq]at e;rw[e.2.2.2.2,bL]
   trivial
  ·exact m (fun u i=>h u (by rw[Tm.occ];exact .inr ⟨b,i⟩)) a.2
 |nil=>rw[bL];trivial
 |cons t l d f=>
  rename_i h a
  rw[qp]at a;rw[bL];exact⟨d (fun v c=>h v (by rw[dA];exact .inl c)) a.1,f (fun v c=>h v (by rw[dA];exact .inr c)) a.2⟩
theorem jc {Q:Int->Prop}:∀ (t:Tm),t.allV Q->∀ v,t.occ v->Q v:=by
 intro t
 induction t using Tm.rec (motive_2:=fun l=>bL Q l->∀ v,dA v l->Q v) with
 |mk k v s n e g=>
  intro h u b;rw[Tm.allV]at h;rw[Tm.occ]at b;rcases b with ⟨f,rfl⟩|⟨_,b⟩
  ·exact h.1 f
  ·exact g h.2 u b
 |nil=>rename_i h;rw[dA]at h;exact h.elim
 |cons t l c d=>
  rename_i h v a
  rw[bL]at h;rw[dA]at a;rcases a with a|a
  ·exact c h.1 v a
  ·exact d h.2 v a
mutual
def Tm.subs:Tm->List Tm
 |.mk k v s n args=>.mk k v s n args::fj args
def fj:List Tm->List Tm
 |[]=>[]
 |t::l=>t.subs++fj l
end
mutual
theorem il:∀ (t:Tm),t.subs.length=t.count
 |.mk k v s n args=>by rw[Tm.subs,zV,oM args,Tm.count];omega
theorem oM:∀ (l:List Tm),(fj l).length=am l
 |[]=>by rw[fj,am];rfl
 |t::l=>by rw[fj,am,zE,il t,oM l]
end
theorem jY (t:Tm):t∈t.subs:=by
 obtain⟨k,v,s,n,a⟩:=t;rw[Tm.subs];exact List.mem_cons_self ..
theorem AH {l:List Tm} {a:Tm} (h:a∈l):∀ x∈a.subs,x∈fj l:=by
 induction l with
 |nil=>cases h
 |cons t l c=>
  intro x b;rw[fj,List.mem_append];rcases List.mem_cons.1 h with rfl|h
  ·exact .inl b
  ·exact .inr (c h x b)
theorem sF:∀ (t:Tm),∀ x∈t.subs,∀ a∈x.args,a∈t.subs:=by
 intro t
 induction t using Tm.rec (motive_2:=fun l=>∀ x∈fj l,∀ a∈x.args,a∈fj l) with
 |mk k v s n f g=>
  intro x b a c;rw[Tm.subs]at b ⊢;rcases List.mem_cons.1 b with rfl|b
  ·exact List.mem_cons_of_mem _ (AH c a (jY a))
  ·exact List.mem_cons_of_mem _ (g x b a c)
 |nil=>rename_i x b a c;rw[fj]at b;cases b
 |cons t l d e=>
  rename_i x b a c
  rw[fj,List.mem_append]at b ⊢;rcases b with b|b
  ·exact .inl (d x b a c)
  ·exact .inr (e x b a c)
theorem sE {Q:Tm->Prop} (g:∀ x,Q x->∀ a∈x.args,Q a):∀ (t:Tm),Q t->∀ x∈t.subs,Q x:=by
 intro t
 induction t using Tm.rec (motive_2:=fun l=>(∀ a∈l,Q a)->∀ x∈fj l,Q x) with
 |mk k v s n f i=>
  intro h x b;rw[Tm.subs]at b;rcases List.mem_cons.1 b with rfl|b
  ·exact h
  ·exact i (fun a c=>g _ h a c) x b
 |nil=>rename_i h x b;rw[fj]at b;cases b
 |cons t l d e=>
  rename_i h x b
  rw[fj,List.mem_append]at b;rcases b with b|b
  ·exact d (h t (List.mem_cons_self ..)) x b
  ·exact e (fun a c=>h a (List.mem_cons_of_mem _ c)) x b
theorem nP {l:List Tm} (h:ed l) {j:Nat} (a:j<l.length):(l[j]).fine:=by
 induction l generalizing j with
 |nil=>cases a
 |cons x l b=>
  rw[ed]at h;cases j with
  |zero=>exact h.1
  |succ j=>exact b h.2 (by simpa using a)
def Vt (D:Int->Prop) (x:Tm):Prop:=x.err0=0/\x.fine/\x.sm/\x.allV D
theorem Vt.arg {D:Int->Prop} {x:Tm} (h:Vt D x):∀ a∈x.args,Vt D a:=fun a l=>by
 obtain⟨k,v,s,n,c⟩:=x;obtain⟨g,d,e,f⟩:=h;rw[Tm.fine]at d;rw[Tm.sm]at e;rw[Tm.allV]at f;obtain⟨i,b,rfl⟩:=List.mem_iff_getElem.1 l;exact⟨dE (bB g).2 b,nP d.2.2 b,pY e.2.2.2 b,nj f.2 b⟩
theorem Dc {D:Int->Prop} {nm:Nat} (g:∀ v,D v->0<=v/\v<(nm:Int)) {a b:Tm} (i:Vt D a) (k:Vt D b) (l:a.count<=10000) (m:b.count<=10000):kg nm (a.subs++b.subs)/\(∀ x∈a.subs++b.subs,Vt D x)/\(a.subs++b.subs).length<=50000:=by
 have n:(a.subs++b.subs).length<=20000:=by rw[zE,il,il];omega
 have f:∀ x∈a.subs++b.subs,Vt D x:=fun x d=>by
  rcases List.mem_append.1 d with d|d
  ·exact sE (fun x h=>h.arg) a i x d
  ·exact sE (fun x h=>h.arg) b k x d
 refine⟨⟨⟨by omega,fun t c=>⟨(f t c).2.1,(f t c).2.2.1,fun x d=>?_⟩⟩,fun t c v e=>?_⟩,f,by omega⟩
 ·rcases List.mem_append.1 c with c|c
  ·exact List.mem_append.2 (.inl (sF a t c x d))
  ·exact List.mem_append.2 (.inr (sF b t c x d))
 ·have:=(f t c).2.2.2;subst e;unfold Tm.var at this;rw[Tm.allV]at this;exact g v (this.1 rfl)
theorem vB {D:Int->Prop} {β:Int->Option Tm} {f:Int->Tm} (h:iY β f) (e:ql β) (g:∀ i t,β i=some t->D i/\∀ j,t.occ j->D j):∀ v,D v->∀ u,(f v).occ u->D u:=by
 intro v
 induction v using e.1.induction with
 |_ v l=>
  intro k u a;cases hq:β v with
  |none=>
   rw[h.1 v hq]at a;rw[gH a];exact k
  |some t=>
   rw[h.2.1 v t hq]at a;obtain⟨x,c,b⟩:=Tm.occ_sb t a;have d:=(g v t hq).2 x c;cases hx2:β x with
   |none=>
    rw[h.1 x hx2]at b;rw[gH b];exact d
   |some y=>exact l x ⟨t,hq,c,by rw[hx2];rfl⟩ d u b
theorem rW {D:Int->Prop} {β:Int->Option Tm} {f:Int->Tm} (h:iY β f) (a:ql β) (g:∀ i t,β i=some t->D i/\∀ j,t.occ j->D j) (c:∀ v,D v->(Tm.var v).err0=0) (k:∀ i t,β i=some t->t.err0=0):∀ v,D v->(f v).err0=0:=by
 intro v
 induction v using a.1.induction with
 |_ v m=>
  intro l;cases hq:β v with
  |none=>rw[h.1 v hq];exact c v l
  |some t=>
   rw[h.2.1 v t hq];refine t.err0_repl (k v t hq) (ig t (fun x d y e=>?_) (a.2 v t hq).1);cases e;have b:=(g v t hq).2 x d;cases hx2:β x with
   |none=>rw[h.1 x hx2];exact c x b
   |some z=>exact m x ⟨t,hq,d,by rw[hx2];rfl⟩ b
def eW (vs:List Int) (v:Int):Int:=if v∈vs then (vs.idxOf v:Int) else 0
def nf (vs:List Int) (i:Int):Int:=vs.getD i.toNat 0
theorem pz {vs:List Int} (h:vs.Pairwise (· < ·)) {j:Nat} (a:j<vs.length):vs.idxOf vs[j]=j:=by
 have b:vs.Nodup:=h.imp fun h=>by omega
 exact b.idxOf_getElem j a
theorem jB {vs:List Int} {j:Nat} (a:j<vs.length):nf vs (j:Int)=vs[j]:=by
 unfold nf;simp[a]
theorem Ah {vs:List Int} (h:vs.Pairwise (· < ·)):Ren (· ∈ vs) (fun i=>0<=i/\i<(vs.length:Int)) (eW vs) (nf vs) where
 fwd v hv:=by
  have b:vs.idxOf v<vs.length:=List.idxOf_lt_length_of_mem hv;unfold eW;rw[if_pos hv];refine⟨⟨by omega,by omega⟩,?_⟩;rw[jB b];exact List.getElem_idxOf b
 back i hi:=by
  obtain⟨j,rfl⟩:=Int.eq_ofNat_of_zero_le hi.1;have a:j<vs.length:=by omega
  rw[jB a];refine⟨zQ a,?_⟩;unfold eW;rw[if_pos (zQ a),pz h a]
 mono i j hi a hij:=by
  obtain⟨i,rfl⟩:=Int.eq_ofNat_of_zero_le hi.1;obtain⟨j,rfl⟩:=Int.eq_ofNat_of_zero_le a.1;have b:i<vs.length:=by omega
  have c:j<vs.length:=by omega
  rw[jB b,jB c];exact List.pairwise_iff_getElem.1 h i j b c (by omega)
theorem jh {g:Int->Int} {t:Tm} (h:t.err0=0):(t.sb fun i=>.var (g i)).count=t.count:=gV (fun v x e=>by
 cases e;unfold Tm.var;rw[Tm.count,am]) t h
theorem Sl.cells {w w':World} {v:Value} {xs:List Nat} (h:Sl .u32 w v xs) (q:w.heap.size<=w'.heap.size) (l:∀ b o u,w.cell? ⟨b,o,none⟩=some u->w'.cell? ⟨b,o,none⟩=some u):Sl .u32 w' v xs:=by
 obtain⟨A,c,e,d,f,g,k⟩:=h;exact⟨A,c,e,d,f,g,fun a=>by obtain⟨b,o,e,p,n⟩:=k a;exact⟨b,o,e,by omega,fun i m=>l _ _ _ (n i m)⟩⟩
theorem TC.cells {w w':World} {t:Tm} {cs:List Value} (h:TC w t cs) (q:w.heap.size<=w'.heap.size) (f:∀ b o u,w.cell? ⟨b,o,none⟩=some u->w'.cell? ⟨b,o,none⟩=some u):TC w' t cs:=by
 induction h with
 |mk k v s n a A B r d cs E M g z C I c G L D N=>
  refine .mk k v s n a A B r d cs E M g (z.cells q f) (C.cells q f) I c G (fun x=>?_) N;obtain⟨b,o,e,O,J⟩:=L x;refine⟨b,o,e,by omega,fun i m j p=>?_⟩;have l:=J i m j p;have y:j<(cs i).length:=by rw[(D i m).len];exact p
  rw[zO y]at l ⊢;exact f _ _ _ l
theorem gQ.cells {w w':World} {a:List (Int×List Value)} {bs:List (Int×Tm)} (h:gQ w a bs) (d:w.heap.size<=w'.heap.size) (c:∀ b o u,w.cell? ⟨b,o,none⟩=some u->w'.cell? ⟨b,o,none⟩=some u):gQ w' a bs:=by
 induction h with
 |nil=>exact .nil
 |cons e h _ f=>exact .cons e (h.cells d c) f
theorem eD.cells {w w' W:World} {b:Nat} {bs:List (Int×Tm)} (h:eD w W b bs) (e:w.heap.size<=w'.heap.size) (d:∀ b o u,w.cell? ⟨b,o,none⟩=some u->w'.cell? ⟨b,o,none⟩=some u):eD w' W b bs:=by
 obtain⟨f,a,c⟩:=h;exact⟨f,a,c.cells e d⟩
theorem qE {w w':World} (h:zZ w w'):∀ b o u,w.cell? ⟨b,o,none⟩=some u->w'.cell? ⟨b,o,none⟩=some u:=fun b o u a=>by
 have c:b<w.heap.size:=by
  rcases Nat.lt_or_ge b w.heap.size with h|h
  ·exact h
  ·simp[World.cell?,Array.getElem?_eq_none h]at a
 exact (h.cell (p:=⟨b,o,none⟩) c).trans a
theorem vV {w w':World} {m:Nat} {bs:List (Int×Tm)} {n:World} (l:eD n w m bs) (k:w.grownBy w' (some m)):∀ b o u,w.cell? ⟨b,o,none⟩=some u->w'.cell? ⟨b,o,none⟩=some u:=fun b o u f=>by
 have i:b<w.heap.size:=by
  rcases Nat.lt_or_ge b w.heap.size with h|h
  ·exact h
  ·simp[World.cell?,Array.getElem?_eq_none h]at f
 have d:b≠m:=fun e=>by
  obtain⟨q,⟨p,c,g,_⟩,_⟩:=l;subst e;simp[World.cell?,g]at f
 exact (World.cell?_of_block (a:=⟨b,o,none⟩) (k.block b i fun e=>d (zI e))).trans f
theorem kW {W a:World} (n:Int) (c:aG n) (b:zZ W a) (d:ah a W.heap.size 27 #[.int .i64 0,.int .i64 0,.string ⟨#[]⟩,.bool false,.slice none 0 0,.slice none 0 0,.slice none 0 0]):
 TC (((((((a.setCell ⟨W.heap.size,0,none⟩ (.int .i64 1)).setCell ⟨W.heap.size,1,none⟩ (.int .i64 n)).setCell ⟨W.heap.size,2,none⟩ (.string ⟨#[]⟩)).setCell ⟨W.heap.size,3,none⟩ (.bool false)).setCell ⟨W.heap.size,4,none⟩ (.slice none 0 0)).setCell ⟨W.heap.size,5,none⟩ (.slice none 0 0)).setCell ⟨W.heap.size,6,none⟩ (.slice none 0 0)) (.var n) [.int .i64 1,.int .i64 (n),.string ⟨#[]⟩,.bool false,.slice none 0 0,.slice none 0 0,.slice none 0 0]/\zZ W (((((((a.setCell ⟨W.heap.size,0,none⟩ (.int .i64 1)).setCell ⟨W.heap.size,1,none⟩ (.int .i64 n)).setCell ⟨W.heap.size,2,none⟩ (.string ⟨#[]⟩)).setCell ⟨W.heap.size,3,none⟩ (.bool false)).setCell ⟨W.heap.size,4,none⟩ (.slice none 0 0)).setCell ⟨W.heap.size,5,none⟩ (.slice none 0 0)).setCell ⟨W.heap.size,6,none⟩ (.slice none 0 0)):=
 ⟨TC.var _ c _,(((((((b.setCell zA _).setCell zA _).setCell zA _).setCell zA _).setCell zA _).setCell zA _).setCell zA _)⟩
theorem tU {w:World} (m mn J:Nat) (vs:List Int) (r:vs.length<=1000000) {g:Value->Option Value} (B:w.cell? ⟨m,0,none⟩=some (.map (some mn))) (l:m<w.heap.size) (A:aE bw w mn J g) (C:∀ v:Int,g (.int .i64 v)=if v∈vs then some (.int .i64 (vs.idxOf v:Int)) else none) (v:Int) (W:World) (q:zZ w W):
 Calls prog 34 #[.int .i64 v,.pointer (some ⟨m,0,none⟩)] W fun e W'=>∃ y I,e=.returned (.tuple #[.agg y.toArray,.bool true])/\TC W' I y/\I=.var (eW vs v)/\zZ W W':=by
 have x:Yd (∀ W (n:Int),Calls prog 35 #[.int .i64 n] W fun e T=>e=.returned (.agg (zX 1 (n) ⟨#[]⟩ false none 0 0 none 0 0 none 0 0).toArray)/\zZ W T):=fun W n=>du n W;have D:aG (eW vs v):=by
  unfold eW
  split
  ·next h=>have:=List.idxOf_lt_length_of_mem h;exact⟨by omega,by omega⟩
  ·exact⟨by decide,by decide⟩
 have t:=zH D;have b:Yd (zZ W (W.alloc (.cells #[.int .i64 0,.int .i64 0,.string ⟨#[]⟩,.bool false,.slice none 0 0,.slice none 0 0,.slice none 0 0] 27))):=ae W _;have i:Yd (ah (W.alloc (.cells #[.int .i64 0,.int .i64 0,.string ⟨#[]⟩,.bool false,.slice none 0 0,.slice none 0 0,.slice none 0 0] 27)) W.heap.size 27 (zX 0 0 ⟨#[]⟩ false none 0 0 none 0 0 none 0 0).toArray):=ah.new W _ _;have d:=q.trans (b.o.mono q.size);have V:=(d.cell (p:=⟨m,0,none⟩) l).trans B;have G:=(bI (bW (W.alloc (.cells #[.int .i64 0,.int .i64 0,.string ⟨#[]⟩,.bool false,.slice none 0 0,.slice none 0 0,.slice none 0 0] 27))) (mt:=67) (by kernel_rfl) (z:=.int .i64 0) (zeroValue3 _) (k:=.int .i64 v) ⟨_,rfl⟩ (A.same (fun o E=>(d.block mn (an E)).trans E) fun _ h=>h)).2;rw[C v,show ((if v∈vs then some (Value.int .i64 (vs.idxOf v:Int)) else none).getD (.int .i64 0))=.int .i64 (eW vs v) by unfold eW;split<;>rfl]at G;generalize eW vs v=n at*;clear q B l A C r d D;go_enter func34,ntmps34;go_wp2_with fail;refine (x.o _ _).mono ?_;rintro e U ⟨rfl,c⟩;have f:Yd (zZ W U):=b.o.trans (c.mono b.o.size);have a:=zH (i.o.to c);clear c b i x V G;obtain⟨L,M,N,O,P,Q,S⟩:=(⟨a.o.cell 0,a.o.cell 1,a.o.cell 2,a.o.cell 3,a.o.cell 4,a.o.cell 5,a.o.cell 6⟩:_/\_/\_/\_/\_/\_/\_);simp only[L3]at L M N O P Q S;obtain⟨X,Y,Z,z3,z4,z5,z6⟩:=(⟨a.o.frozen 0,a.o.frozen 1,a.o.frozen 2,a.o.frozen 3,a.o.frozen 4,a.o.frozen 5,a.o.frozen 6⟩:_/\_/\_/\_/\_/\_/\_);go_wp2_with fail;refine bodyPost_ret (v:=.tuple #[.agg #[.int .i64 1,.int .i64 (n),.string ⟨#[]⟩,.bool false,.slice none 0 0,.slice none 0 0,.slice none 0 0],.bool true]) (by rw[results_cell_tmp rfl];go_simp) rfl ?_;exact⟨[.int .i64 1,.int .i64 (n),.string ⟨#[]⟩,.bool false,.slice none 0 0,.slice none 0 0,.slice none 0 0],.var n,rfl,(kW n t.o f.o a.o).1,rfl,(kW n t.o f.o a.o).2⟩
theorem tV {w:World} (m:Nat) {B:Nat} {D:Value} (vs:List Int) (l:∀ v∈vs,aG v) (z:w.cell? ⟨m,0,none⟩=some D) (k:m<w.heap.size) (y:dw w B D vs) (v:Int) (o:0<=v/\v<(vs.length:Int)) (W:World) (q:zZ w W):
 Calls prog 40 #[.int .i64 v,.pointer (some ⟨m,0,none⟩)] W fun e W'=>∃ x E,e=.returned (.tuple #[.agg x.toArray,.bool true])/\TC W' E x/\E=.var (nf vs v)/\zZ W W':=by
 obtain⟨j,rfl⟩:=Int.eq_ofNat_of_zero_le o.1;have i:j<vs.length:=by omega
 have t:Yd (∀ W (n:Int),Calls prog 35 #[.int .i64 n] W fun e U=>e=.returned (.agg (zX 1 (n) ⟨#[]⟩ false none 0 0 none 0 0 none 0 0).toArray)/\zZ W U):=fun W n=>du n W;rw[jB i];have r:=zH (l _ (zQ i));have b:Yd (zZ W (W.alloc (.cells #[.int .i64 0,.int .i64 0,.string ⟨#[]⟩,.bool false,.slice none 0 0,.slice none 0 0,.slice none 0 0] 27))):=ae W _;have h:Yd (ah (W.alloc (.cells #[.int .i64 0,.int .i64 0,.string ⟨#[]⟩,.bool false,.slice none 0 0,.slice none 0 0,.slice none 0 0] 27)) W.heap.size 27 (zX 0 0 ⟨#[]⟩ false none 0 0 none 0 0 none 0 0).toArray):=ah.new W _ _;have f:=q.trans (b.o.mono q.size);have X:=(f.cell (p:=⟨m,0,none⟩) k).trans z;have c:=y.below f;obtain⟨G,I,rfl⟩:=Joins.ownsRow_form c (by omega);have A:=c.cellAt j (by simpa using i);have C:(vs.map (Value.int .i64))[j]?=some (.int .i64 vs[j]):=by simp[i]
 rw[C]at A;have J:(0:Int)<=(j:Int):=o.1;have L:(j:Int)<(vs.length:Int):=o.2;generalize vs[j]=n at*;generalize vs.length=Y at*;clear q z k y c f o C l i;go_enter func40,ntmps40;go_wp2_with fail;refine (t.o _ _).mono ?_;rintro e V ⟨rfl,d⟩;have g:Yd (zZ W V):=b.o.trans (d.mono b.o.size);have a:=zH (h.o.to d);clear d b h t X A;obtain⟨M,N,O,P,Q,S,T⟩:=(⟨a.o.cell 0,a.o.cell 1,a.o.cell 2,a.o.cell 3,a.o.cell 4,a.o.cell 5,a.o.cell 6⟩:_/\_/\_/\_/\_/\_/\_);simp only[L3]at M N O P Q S T;obtain⟨Z,z1,z2,z3,z4,z5,z6⟩:=(⟨a.o.frozen 0,a.o.frozen 1,a.o.frozen 2,a.o.frozen 3,a.o.frozen 4,a.o.frozen 5,a.o.frozen 6⟩:_/\_/\_/\_/\_/\_/\_);go_wp2_with fail;refine bodyPost_ret (v:=.tuple #[.agg #[.int .i64 1,.int .i64 (n),.string ⟨#[]⟩,.bool false,.slice none 0 0,.slice none 0 0,.slice none 0 0],.bool true]) (by rw[results_cell_tmp rfl];go_simp) rfl ?_;exact⟨[.int .i64 1,.int .i64 (n),.string ⟨#[]⟩,.bool false,.slice none 0 0,.slice none 0 0,.slice none 0 0],.var n,rfl,(kW n r.o g.o a.o).1,rfl,(kW n r.o g.o a.o).2⟩
theorem lH {nm B h G c m:Nat} {k:Value} {xs l:List Value} {w:World} (a:dL nm w B h G c k xs m l) {i:Nat} (o:i<nm) {q:Bool} (b:xs[i*9]?=some (.bool q)):
 Calls prog 37 #[.pointer (some ⟨h,0,none⟩),.int .i64 (i:Int)] w fun e w'=>e=.returned (.bool q)/\w'=w:=by
 have d:=a.blk.cell 0;have n:=a.cell b;simp only[List.getElem?_toArray,List.getElem?_cons_zero]at d;have f:(0:Int)<=(i:Int):=by omega
 have g:(i:Int)<(nm:Int):=by omega
 clear a b;go_enter func37,ntmps37;go_wp2_with fail;go_ret;exact⟨rfl,rfl⟩
def xR (n:Nat):List Value:=(List.replicate n zc).flatten
theorem sQ (n:Nat):xR (n+1)=xR n++zc:=by
 unfold xR;rw[List.replicate_succ',List.flatten_append];simp
theorem qj (n:Nat):(xR n).length=n*9:=by
 unfold xR;simp[zc]
theorem vK {n v q:Nat} (c:v<n) (b:q<9):(xR n)[v*9+q]?=zc[q]?:=by
 induction n with
 |zero=>omega
 |succ n a=>
  rw[sQ];by_cases h:v<n
  ·rw[List.getElem?_append_left (by rw[qj];omega)];exact a h
  ·obtain rfl:v=n:=by omega
   rw[List.getElem?_append_right (by rw[qj];omega),qj,show v*9+q-v*9=q by omega]
structure NV (w0:World) (h mn bn:Nat) (vs:List Int) (A:Option Addr) (c:Nat) (j:Nat) (W:World):Prop where
 hp:ew W w0.heap.size h A j c (.slice none 0 0) (xR j)
 z:j=0->A=none/\c=0
 mp:∃ g,aE bw W mn j g/\∀ v:Int,g (.int .i64 v)=if v∈vs.take j then some (.int .i64 (vs.idxOf v:Int)) else none
 bx:ah W bn 67 #[.map (some mn)]
 be:zZ w0 W
 le:w0.heap.size<=mn
theorem NV.hsn {i W:World} {h mn k:Nat} {vs:List Int} {A:Option Addr} {c j:Nat} (g:NV i h mn k vs A c j W):∃ G c',dL j W i.heap.size h G c' (.slice none 0 0) (xR j) 0 []:=by
 obtain⟨b,d,a⟩:=g.hp;by_cases f:j=0
 ·obtain⟨rfl,rfl⟩:=g.z f;subst f;exact⟨0,0,b,d,a,World.ownsRow_nil _ _ _ _⟩
 ·obtain⟨G,l,e⟩:=Joins.ownsRow_form a (by omega);simp only[Value.slice.injEq,true_and]at e;obtain⟨rfl,rfl⟩:=e;exact⟨G,_,.of b d a (World.ownsRow_nil _ _ _ _)⟩
theorem NV.drew {b W:World} {h mn a:Nat} {vs:List Int} {A:Option Addr} {c j:Nat} (g:NV b h mn a vs A c j W):NV b h mn a vs A c j W.drew:=⟨g.hp,g.z,g.mp,g.bx,g.be.drew,g.le⟩
theorem ue {I y:World} {h mn l:Nat} {vs:List Int} {A:Option Addr} {c j:Nat} (hs:vs.Pairwise (· < ·)) (L:j<vs.length) (hl:vs.length<=1000000) (P:l≠h) (g:NV I h mn l vs A c j y):
 Calls prog 33 #[.pointer (some ⟨h,0,none⟩)] y fun e x=>∃ z,e=.returned (.int .i64 (j:Int))/\(Instr.mapUpdate 67 (.map (some mn)) (.int .i64 (vs[j])) (.int .i64 (j:Int))).run prog x=.ok () z/\Yd (∃ E c',NV I h mn l vs E c' (j+1) z)/\(x.cell? ⟨l,0,none⟩=some (.map (some mn)))/\(z.cell? ⟨l,0,none⟩=some (.map (some mn))):=by
 refine (lP I.heap.size h A j c _ _ y (by omega) g.hp).mono ?_;rintro e x ⟨E,c',rfl,S,b⟩;obtain⟨f,X,Y⟩:=g.mp;obtain⟨es,cl,M,_⟩:=X.is;have N:∀ k,(k=h\/∃ a,A=some a/\k=a.block)->∃ B T q,y.heap[k]?=some (Obj.cells B T q):=fun k b=>by
  rcases b with rfl|⟨a,p,rfl⟩
  ·exact⟨_,_,_,g.hp.1⟩
  ·subst p;obtain⟨B,q,m⟩:=Lib.ownsRow_kind g.hp.2.2 a.block rfl;exact⟨B,_,q,m⟩
 have Q:¬(mn=h\/∃ a,A=some a/\mn=a.block):=fun b=>by
  obtain⟨B,T,q,m⟩:=N _ b;rw[M]at m;cases m
 have O:¬(l=h\/∃ a,A=some a/\l=a.block):=fun b=>by
  rcases b with e|⟨a,p,e⟩
  ·exact P e
  ·subst p;obtain⟨B,q,m⟩:=Lib.ownsRow_kind g.hp.2.2 a.block rfl;have n:y.heap[l]?=_:=g.bx;rw[e,m]at n;simp at n
 have D:aE bw x mn j f:=X.same (fun o Z=>(b.block mn (an Z) Q).trans Z) fun _ h=>h;have r:=b.blk g.bx O;obtain⟨z,q1,q2,V⟩:=co (et:=3) (bW x) (mt:=67) (by kernel_rfl) (k:=.int .i64 vs[j]) ⟨_,rfl⟩ (.int .i64 (j:Int)) D;obtain⟨a1,a0,t,_⟩:=D.is;have C:=V.blk r (fun e=>by
  have n:x.heap[l]?=_:=r;rw[e,t]at n;cases n)
 have U:ew z I.heap.size h E (j+1) c' (.slice none 0 0) (xR (j+1)):=by
  rw[sQ];refine S.kept V (fun e=>?_) (fun a p e=>?_)
  ·have n:x.heap[h]?=_:=S.1;rw[e,t]at n;cases n
  ·subst p;obtain⟨B,q,m⟩:=Lib.ownsRow_kind S.2.2 a.block rfl;rw[e,t]at m;cases m
 have w:f (.int .i64 vs[j])=none:=by
  rw[Y,if_neg];intro M;obtain⟨i,hi,e⟩:=List.mem_iff_getElem.1 M;rw[List.getElem_take]at e;have J:i<j:=by rw[List.length_take]at hi;omega
  have:=List.pairwise_iff_getElem.1 hs i j (by omega) L J;omega
 rw[w]at q2;refine⟨z,rfl,q1,⟨E,c',U,fun e=>by omega,⟨_,q2,fun v=>?_⟩,C,?_,g.le⟩,r.cell 0,C.cell 0⟩
 ·have d:v∈vs.take (j+1)↔v∈vs.take j\/v=vs[j]:=by rw[List.take_succ_eq_append_getElem L,List.mem_append,List.mem_singleton]
  by_cases e:v=vs[j]
  ·rw[if_pos (d.2 (.inr e)),e,if_pos rfl,pz hs L]
  ·rw[if_neg (fun q=>e (by cases q;rfl)),Y];by_cases G:v∈vs.take j
   ·rw[if_pos G,if_pos (d.2 (.inl G))]
   ·rw[if_neg G,if_neg fun h=>(d.1 h).elim G e]
 ·refine g.be.trans ((b.below g.be.size fun k b=>?_).trans (V.below (zC g.be.size b.size) fun k b=>by rw[b];exact g.le));rcases b with rfl|⟨a,p,rfl⟩
  ·exact g.hp.2.1
  ·subst p;exact (g.hp.2.2.lt _ rfl).1
end Go.Proofs.YtlhojoefhannnaaGreat
namespace Go.Proofs.YtlhojoefhannnaaGreat
open Go.Proofs.Tryz Go.RowKit NumB
theorem Dd {D:Int->Prop} {v:Int} (b:0<=v) (c:v<=1073741824) (d:D v):Vt D (.var v):=by
 have h:=go b c;have a:TC (default:World) (.var v) (vt v):=TC.var _ ⟨by omega,by omega⟩ _;refine⟨h,a.fine h,a.sm h,?_⟩;unfold Tm.var;rw[Tm.allV,bL];exact⟨fun _=>d,trivial⟩
def uL (x y:Tm) (nm:Nat):List Tm:=x.subs++y.subs++(List.range nm).map fun i:Nat=>Tm.var (i:Int)
theorem mF {nm:Nat} (n:nm<=20000) {x y:Tm} (o:Vt (fun i=>0<=i/\i<(nm:Int)) x) (p:Vt (fun i=>0<=i/\i<(nm:Int)) y) (g:x.count<=10000) (k:y.count<=10000):kg nm (uL x y nm)/\(∀ t∈uL x y nm,Vt (fun i=>0<=i/\i<(nm:Int)) t)/\(uL x y nm).length<=50000:=by
 obtain⟨⟨⟨_,l⟩,q⟩,m,r⟩:=Dc (fun v h=>h) o p g k;have w:(uL x y nm).length<=40000:=by
  unfold uL;rw[zE,zE,il,il,List.length_map,List.length_range];omega
 have d:∀ t∈uL x y nm,Vt (fun i=>0<=i/\i<(nm:Int)) t:=fun t b=>by
  rcases List.mem_append.1 b with b|b
  ·exact m t b
  ·obtain⟨i,f,rfl⟩:=List.mem_map.1 b;rw[List.mem_range]at f;exact Dd (by omega) (by omega) ⟨by omega,by omega⟩
 refine⟨⟨⟨by omega,fun t b=>⟨(d t b).2.1,(d t b).2.2.1,fun a c=>?_⟩⟩,fun t b v e=>?_⟩,d,by omega⟩
 ·rcases List.mem_append.1 b with b|b
  ·exact List.mem_append.2 (.inl ((l t b).2.2 a c))
  ·obtain⟨i,f,rfl⟩:=List.mem_map.1 b;unfold Tm.var at c;rw[Tm.args]at c;cases c
 ·have:=(d t b).2.2.2;subst e;unfold Tm.var at this;rw[Tm.allV]at this;exact this.1 rfl
theorem Du {x y:Tm} {nm:Nat}:x∈uL x y nm:=List.mem_append.2 (.inl (List.mem_append.2 (.inl (jY x))))
theorem Dv {x y:Tm} {nm:Nat}:y∈uL x y nm:=List.mem_append.2 (.inl (List.mem_append.2 (.inr (jY y))))
theorem Cu {x y:Tm} {nm i:Nat} (h:i<nm):Tm.var (i:Int)∈uL x y nm:=List.mem_append.2 (.inr (List.mem_map.2 ⟨i,List.mem_range.2 h,rfl⟩))
theorem AM {d h B G c E r:Nat} {x y:Tm} {t w:List Value} {g w6:World} (z:d<=20000) (A:gP E g x t) (l:zZ g w6) (C:gP r w6 y w) (O:g.heap.size<=r) (X:Vt (fun i=>0<=i/\i<(d:Int)) x) (Y:Vt (fun i=>0<=i/\i<(d:Int)) y) (I:x.count<=10000) (J:y.count<=10000) (P:dL d w6 B h G c (.slice none 0 0) (xR d) 0 []) (N:B<=w6.heap.size):
 Calls prog 36 #[.pointer (some ⟨h,0,none⟩),.agg t.toArray,.agg w.toArray,.bool true] w6 fun e w'=>∃ D:Bool,e=.returned (.tuple #[.slice none 0 0,.bool D])/\(D=true->∃ f,lc true d B h G c f (uL x y d) w6 (x,y) w')/\(D=false->kZ true B w6 (x,y) w'):=by
 obtain⟨m,A⟩:=A;obtain⟨n,C⟩:=C;have L:mN (fun b=>if b<g.heap.size then m b else n b) E w6 x t:=A.to l.size (fun b _ a=>l.block b a) fun b _ a=>if_pos a;have M:mN (fun b=>if b<g.heap.size then m b else n b) r w6 y w:=C.to zA (fun b _ _=>rfl) fun b k _=>if_neg (by omega);obtain⟨o,Z,U⟩:=L.blocks;obtain⟨p,q3,V⟩:=M.blocks;have T:=U (lz (fun b=>if b<g.heap.size then m b else n b) (o++p)) fun b k=>by unfold lz;rw[if_pos (List.mem_append.2 (.inl k))]
 have k2:=V (lz (fun b=>if b<g.heap.size then m b else n b) (o++p)) fun b k=>by unfold lz;rw[if_pos (List.mem_append.2 (.inr k))]
 obtain⟨u1,u2,u3⟩:=mF z X Y I J;refine (sM (och:=true) (c:=c) (Bl:=o++p) u1 (by omega) u3 (fun b x k=>qL k) (by rw[zE];omega) N (cU.of_tcn_pt T (by decide) (by decide)) (cU.of_tcn_pt k2 (by decide) (by decide)) Du Dv P (fun v S q Q=>vK S Q)).mono ?_;rintro e w' (⟨rfl,h⟩|⟨rfl,h⟩)
 ·exact⟨true,rfl,fun _=>⟨_,h⟩,fun h=>(by cases h)⟩
 ·exact⟨false,rfl,fun h=>(by cases h),fun _=>h⟩
theorem lc.tells {a h B G c:Nat} {x y:Tm} {f:Nat->Option Tm} {w6 w7:World} (l:a<=20000) (D:Vt (fun i=>0<=i/\i<(a:Int)) x) (E:Vt (fun i=>0<=i/\i<(a:Int)) y) (o:x.count<=10000) (p:y.count<=10000) (C:lc true a B h G c f (uL x y a) w6 (x,y) w7):
 ∃ (β:Int->Option Tm) (xs:List Value) (d:Int->Tm),xY β (x,y)/\iY β d/\(∀ i t,β i=some t->(0<=i/\i<(a:Int))/\∀ j,t.occ j->0<=j/\j<(a:Int))/\(∀ i t,β i=some t->t.err0=0)/\kX (uL x y a) β/\dL a w7 B h G c (.slice none 0 0) xs 0 []/\qm (PT eo w6) f w7 a xs β/\aD eo w6 w7/\Below B w6 w7:=by
 obtain⟨β,I,xs,q,e,r,g,_,v,w⟩:=C;obtain⟨u1,u2,u3⟩:=mF l D E o p;have n:=q.inv;obtain⟨d,z⟩:=n.acy.res;refine⟨β,xs,d,n.sol,z,fun i t b=>⟨?_,fun j A=>jc t (u2 t (e i t b).1).2.2.2 j A⟩,fun i t b=>(u2 t (e i t b).1).1,e,r,g,v,w⟩;rcases Int.lt_or_le i 0 with k|k
 ·rw[g.out i (.inl k)]at b;cases b
 ·rcases Int.lt_or_le i a with m|m
  ·exact⟨k,m⟩
  ·rw[g.out i (.inr m)]at b;cases b
theorem kZ.tells {B:Nat} {x y:Tm} {w6 w7:World} (e:kZ true B w6 (x,y) w7):(∀ s,x.sb s≠y.sb s)/\aD eo w6 w7/\Below B w6 w7:=by
 obtain⟨β,S,f,p,q,a,b,c,d⟩:=e;exact⟨fun s=>a.inv.cls b s,c,d⟩
theorem mj {vs:List Int} (m:vs.Pairwise (· < ·)) (o:vs.length<=20000) {a:Tm} (c:a.err0=0) (h:∀ v,a.occ v->v∈vs) {w:World} {k:List Value} (g:TC w (a.sb fun v=>.var (eW vs v)) k):Vt (fun i=>0<=i/\i<(vs.length:Int)) (a.sb fun v=>.var (eW vs v))/\(a.sb fun v=>.var (eW vs v)).count=a.count:=by
 have R:=Ah m;have b:(a.sb fun v=>.var (eW vs v)).err0=0:=by
  refine a.err0_repl c (ig a (fun v l x e=>?_) (Tm.cn_of a c));cases e;have:=(R.fwd v (h v l)).1;exact go this.1 (by omega)
 refine⟨⟨b,g.fine b,g.sm b,ig _ (fun u n=>?_) (Tm.cn_of _ b)⟩,jh c⟩;obtain⟨v,d,f⟩:=Tm.occ_sb a n;rw[gH f];exact (R.fwd v (h v d)).1
structure vN (w7:World) (mf:Nat) (vs:List Int) (F:Int->Tm) (j:Nat) (bs:List (Int×Tm)) (W:World):Prop where
 mp:eD W W mf bs
 be:zZ w7 W
 inc:eC bs
 vld:CL bs
 len:bs.length<=j
 fn:∀ v,fnd bs v=if v∈vs.take j then bnd1 F v else none
 ct:∀ v∈vs.take j,(F v).count<=10000
theorem im {vs:List Int} {j:Nat} (a:j<vs.length) (v:Int):v∈vs.take (j+1)↔v∈vs.take j\/v=vs[j]:=by rw[List.take_succ_eq_append_getElem a,List.mem_append,List.mem_singleton]
theorem AI {vs:List Int} (f:vs.Pairwise (· < ·)) {j:Nat} (c:j<vs.length):vs[j]∉vs.take j:=fun d=>by
 obtain⟨i,b,e⟩:=List.mem_iff_getElem.1 d;rw[List.getElem_take]at e;have a:i<j:=by rw[List.length_take]at b;omega
 have:=List.pairwise_iff_getElem.1 f i j (by omega) c a;omega
section
variable {w7 W W':World} {mf:Nat} {vs:List Int} {F:Int->Tm} {j:Nat} {bs:List (Int×Tm)}
theorem vN.start (w7:World) (vs:List Int) (F:Int->Tm):vN w7 w7.heap.size vs F 0 [] (w7.alloc (.map #[] 0)):=
 ⟨.made _ _,ae w7 _,fun i j a=>by simp at a,fun v x h=>by simp[fnd]at h,zN _,fun v=>by rw[List.take_zero,if_neg (by simp)];rfl,fun v b=>by simp at b⟩
theorem vN.below (g:vN w7 mf vs F j bs W) (a:zZ W W'):vN w7 mf vs F j bs W':=⟨(g.mp.below a).cells a.size (qE a),g.be.trans (a.mono g.be.size),g.inc,g.vld,g.len,g.fn,g.ct⟩
theorem vN.skip (g:vN w7 mf vs F j bs W) (b:j<vs.length) (a:F vs[j]=.var vs[j]):vN w7 mf vs F (j+1) bs W:=by
 refine⟨g.mp,g.be,g.inc,g.vld,Nat.le_succ_of_le g.len,fun v=>?_,fun v d=>?_⟩
 ·rw[g.fn];by_cases e:v=vs[j]
  ·subst e;have c:bnd1 F vs[j]=none:=if_pos a;rw[c]
   split<;>split<;>rfl
  ·simp[im b,e]
 ·rcases (im b v).1 d with h|h
  ·exact g.ct v h
  ·subst h;rw[a];unfold Tm.var;rw[Tm.count,am];omega
theorem vN.put (g:vN w7 mf vs F j bs W) (p:vs.Pairwise (· < ·)) (a:j<vs.length) (x:vs.length<=1000000) (c:aG vs[j]) (i:F vs[j]≠.var vs[j]) (l:(F vs[j]).count<=10000) (m:(F vs[j]).err0=0) (o:w7.heap.size<=mf) {f:List Value} (q:TC W (F vs[j]) f):
 ∃ z,(Instr.mapUpdate 72 (.map (some mf)) (.int .i64 vs[j]) (.agg f.toArray)).run prog W=.ok () z/\∃ bs',vN w7 mf vs F (j+1) bs' z:=by
 have b:fnd bs vs[j]=none:=by rw[g.fn,if_neg (AI p a)]
 obtain⟨z,t,w,d⟩:=g.mp.put c b (by have:=g.len;unfold maxLen;omega) q;refine⟨z,t,_,w.cells d.size (vV g.mp d),g.be.grown d g.be.size (fun k n=>by cases n;exact o),g.inc.ins b _,g.vld.ins b m,by rw[lJ];have:=g.len;omega,fun v=>?_,fun v r=>?_⟩
 ·rw[pm b,g.fn];by_cases e:v=vs[j]
  ·subst e;rw[if_pos rfl,if_pos ((im a _).2 (.inr rfl))];exact (if_neg i).symm
  ·rw[if_neg e];simp[im a,e]
 ·rcases (im a v).1 r with h|h
  ·exact g.ct v h
  ·subst h;exact l
end
end Go.Proofs.YtlhojoefhannnaaGreat
