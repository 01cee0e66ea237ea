/- term.replace: variables replaced by what a function tells, in new memory. And 3 more texts. -/
import Derived.Test.YtlhojoefhannnaaGreatJx10
set_option linter.unusedVariables false
set_option linter.unusedSimpArgs false
set_option maxRecDepth 100000
set_option maxHeartbeats 51200000
namespace Go.Proofs.YtlhojoefhannnaaGreat
open Go.Proofs.Tryz Go.RowKit NumB
mutual
def Tm.allV (P:Int->Prop):Tm->Prop
 |.mk k v _ _ args=>(k=1->P v)/\bL P args
def bL (P:Int->Prop):List Tm->Prop
 |[]=>True
 |t::l=>t.allV P/\bL P l
end
mutual
theorem Tm.allV_mono {P Q:Int->Prop} (h:∀ v,P v->Q v):∀ (t:Tm),t.allV P->t.allV Q
 |.mk k v s n args,ht=>by
  rw[Tm.allV]at ht ⊢;exact⟨fun e=>h _ (ht.1 e),lf h args ht.2⟩
theorem lf {P Q:Int->Prop} (h:∀ v,P v->Q v):∀ (l:List Tm),bL P l->bL Q l
 |[],_=>by rw[bL];trivial
 |t::l,ht=>by
  rw[bL]at ht ⊢;exact⟨t.allV_mono h ht.1,lf h l ht.2⟩
end
theorem nj {P:Int->Prop} {l:List Tm} (h:bL P l) {j:Nat} (a:j<l.length):(l[j]).allV P:=by
 induction l generalizing j with
 |nil=>cases a
 |cons t l b=>
  rw[bL]at h;cases j with
  |zero=>exact h.1
  |succ j=>exact b h.2 (by simpa using a)
mutual
theorem qx {Q:Int->Prop} (hQ:∀ v,Q v):∀ (t:Tm),t.allV Q
 |.mk k v s n args=>by rw[Tm.allV];exact⟨fun _=>hQ v,nh hQ args⟩
theorem nh {Q:Int->Prop} (hQ:∀ v,Q v):∀ (l:List Tm),bL Q l
 |[]=>by rw[bL];trivial
 |t::l=>by rw[bL];exact⟨qx hQ t,nh hQ l⟩
end
mutual
def Tm.repl (f:Int->Option Tm):Tm->Tm
 |.mk k v s n args=>if k=1 then (match f v with|some x=>x|none=>.mk k v s n (cN f args)) else .mk k v s n (cN f args)
def cN (f:Int->Option Tm):List Tm->List Tm
 |[]=>[]
 |t::l=>t.repl f::cN f l
end
theorem jS (f:Int->Option Tm) (l:List Tm):(cN f l).length=l.length:=by
 induction l with
 |nil=>rw[cN]
 |cons t l a=>rw[cN,zV,zV,a]
theorem oD (f:Int->Option Tm) {l:List Tm} {i:Nat} (h:i<l.length) (b:i<(cN f l).length):(cN f l)[i]=(l[i]).repl f:=by
 induction l generalizing i with
 |nil=>cases h
 |cons t l a=>
  cases i with
  |zero=>simp only[cN,List.getElem_cons_zero]
  |succ i=>
   simp only[cN,List.getElem_cons_succ];exact a (by simpa using h) _
theorem oE {w:World} (Q:Int->Prop) (b6:FuncId) (bc:Nat) (c0:∀ args w,(callFunc b6 args).run prog w=.ok (.enter b6 args) w) (f:Int->Option Tm) (m7:∀ v x,f v=some x->x.sm) (k9:∀ v W,Q v->zZ w W->Calls prog b6 #[.int .i64 v,.pointer (some ⟨bc,0,none⟩)] W fun e p=>∃ cx tx,e=.returned (.tuple #[.agg cx.toArray,.bool (f v).isSome])/\TC p tx cx/\(∀ x,f v=some x->tx=x)/\zZ W p)
 {t:Tm} {cs:List Value} (h:TC w t cs):t.sm->t.allV Q->∀ (W:World),zZ w W->
 Calls prog 19 #[.agg cs.toArray,.func (.func b6) #[] #[.pointer (some ⟨bc,0,none⟩)]] W fun e p=>∃ a0,e=.returned (.agg a0.toArray)/\gP (W.heap.size+1) p (t.repl f) a0/\zZ W p:=by
 have d4:=zH k9;have j6:=zH m7;have j2:=zH c0;clear k9 m7 c0
 induction h with
 |mk k v s n args A B Ar V cs hk hv hs hA hB hn p1 hm hr ha ih=>
  intro b1 f2 W hW;rw[Tm.sm]at b1;rw[Tm.allV]at f2;have o3:=zH f2.1;obtain⟨Y,c3⟩:∃ Y,cN f args=Y:=⟨_,rfl⟩;have h0:Y.length=args.length:=by rw[<-c3];exact jS f args
  have m4:∀ i (h:i<args.length) (h':i<Y.length),Y[i]=(args[i]).repl f:=fun i h h'=>by subst c3;exact oD f h h'
  have i4:Yd (∀ p,zZ w p->Calls prog 49 #[A] p fun e w'=>∃ v,e=.returned v/\aW .u32 82 w' p.heap.size v n.num/\zZ p w'):=fun p hb=>dt n.num A p (hA.to hb) b1.1;have j0:Yd (∀ p,zZ w p->Calls prog 49 #[B] p fun e w'=>∃ v,e=.returned v/\aW .u32 82 w' p.heap.size v n.den/\zZ p w'):=fun p hb=>dt n.den B p (hB.to hb) b1.2.1;have g0:Yd (∀ (A' C':Value) (c6:Option Addr) (f1:Nat) (a0:Nat->List Value) (B':Nat) (p:World),aW .u32 82 p B' A' n.num->aW .u32 82 p B' C' n.den->Y.length<=f1->f1<=maxLen->(c6=none/\Y.length=0\/∃ b,c6=some ⟨b,0,none⟩/\mJ (b+1) p Y a0 Y.length/\B'<=b/\b<p.heap.size/\(∃ I,ah p b 27 I)/\∀ i,i<Y.length->∀ j,j<7->p.cell? ⟨b,0+i*7+j,none⟩=(a0 i)[j]?)->gP B' p (.mk k v s n Y) [.int .i64 k,.int .i64 v,.string s,.bool n.neg,A',C',.slice c6 Y.length f1]):=fun A' C' c6 f1 a0 B' p h1 h2 h3 h4 h5=>by
   rcases h5 with ⟨rfl,h5⟩|⟨b,rfl,h5,h6,h7,h8,h9⟩
   ·rw[zF h5];exact .leaf hk hv hs h1 h2 hn h4
   ·exact h5.comp hk hv hs h1 h2 hn h3 h4 h6 h7 h8 h9
  have IH:Yd (∀ i (h:i<args.length) (h':i<Y.length) (W:World),zZ w W->Calls prog 19 #[.agg (cs i).toArray,.func (.func b6) #[] #[zY bc]] W fun e p=>∃ a0,e=.returned (.agg a0.toArray)/\gP (W.heap.size+1) p Y[i] a0/\zZ W p):=fun i h h' W hb=>by
   rw[m4 i h h'];exact ih i h (pY b1.2.2.2 h) (nj f2.2 h) W hb
  have a4:Yd ((k=1->∀ x,f v=some x->(Tm.mk k v s n args).repl f=x)/\(k=1->f v=none->(Tm.mk k v s n args).repl f=.mk k v s n Y)/\(k≠1->(Tm.mk k v s n args).repl f=.mk k v s n Y)):=by
   refine⟨fun h x hx=>?_,fun h hx=>?_,fun h=>?_⟩
   ·rw[Tm.repl,if_pos h,hx]
   ·rw[Tm.repl,if_pos h,hx,c3]
   ·rw[Tm.repl,if_neg h,c3]
  generalize (Tm.mk k v s n args).repl f=rt at*;have p8:=b1.2.2.1;have HR:=zH hr;have HA:=zH ha;have b0:=zH hW;obtain⟨A1,q1,rfl,_⟩:=hA;obtain⟨B1,q2,rfl,_⟩:=hB;unfold maxLen at hm;clear ih hr ha b1 f2 hW hk hv hs m4 c3;generalize p9:n.num=xs at*;generalize q0:n.den=ys at*;generalize q3:n.neg=ng at*;clear p9 q0 q3 hn;generalize xs.length=m1 at*;generalize ys.length=m2 at*;obtain⟨l,hl⟩:∃ l,args.length=l:=⟨_,rfl⟩;rw[hl]at p1 p8 h0 ⊢;have HL:=zH hl;have a2:=zH h0;clear hl h0;obtain⟨i0,l2,m8,n0,n1⟩:=info_parts dR;have n9:=zH l2;have o4:=zH m8;have o5:=zH n0;have o6:=zH n1;clear l2 m8 n0 n1;have b5:Yd (ah ((W.alloc (.cells #[.int .i64 k,.int .i64 v,.string s,.bool ng,.slice A1 m1 q1,.slice B1 m2 q2,.slice Ar l V] 27)).alloc (.cells #[.int .i64 0,.int .i64 0,.string ⟨#[]⟩,.bool false,.slice none 0 0,.slice none 0 0,.slice none 0 0] 27)) W.heap.size 27 (zX k v s ng A1 m1 q1 B1 m2 q2 Ar l V).toArray):=(ah.new W 27 #[.int .i64 k,.int .i64 v,.string s,.bool ng,.slice A1 m1 q1,.slice B1 m2 q2,.slice Ar l V]).alloc _;have Z:Yd (zZ W ((W.alloc (.cells #[.int .i64 k,.int .i64 v,.string s,.bool ng,.slice A1 m1 q1,.slice B1 m2 q2,.slice Ar l V] 27)).alloc (.cells #[.int .i64 0,.int .i64 0,.string ⟨#[]⟩,.bool false,.slice none 0 0,.slice none 0 0,.slice none 0 0] 27))):=(ae W (.cells #[.int .i64 k,.int .i64 v,.string s,.bool ng,.slice A1 m1 q1,.slice B1 m2 q2,.slice Ar l V] 27)).alloc (by simp) (.cells #[.int .i64 0,.int .i64 0,.string ⟨#[]⟩,.bool false,.slice none 0 0,.slice none 0 0,.slice none 0 0] 27);have a9:Yd (ah ((W.alloc (.cells #[.int .i64 k,.int .i64 v,.string s,.bool ng,.slice A1 m1 q1,.slice B1 m2 q2,.slice Ar l V] 27)).alloc (.cells #[.int .i64 0,.int .i64 0,.string ⟨#[]⟩,.bool false,.slice none 0 0,.slice none 0 0,.slice none 0 0] 27)) (W.heap.size+1) 27 (zX 0 0 ⟨#[]⟩ false none 0 0 none 0 0 none 0 0).toArray):=by
   have h:=ah.new (W.alloc (.cells #[.int .i64 k,.int .i64 v,.string s,.bool ng,.slice A1 m1 q1,.slice B1 m2 q2,.slice Ar l V] 27)) 27 #[.int .i64 0,.int .i64 0,.string ⟨#[]⟩,.bool false,.slice none 0 0,.slice none 0 0,.slice none 0 0];rw[show (W.alloc (.cells #[.int .i64 k,.int .i64 v,.string s,.bool ng,.slice A1 m1 q1,.slice B1 m2 q2,.slice Ar l V] 27)).heap.size=W.heap.size+1 by simp]at h;exact h
  go_enter func19,ntmps19
  go_upto_if 12 with fail
  go_cut [] (fun wx=>∃ W5,W5=wx/\Yd (ah W5 W.heap.size 27 (zX k v s ng A1 m1 q1 B1 m2 q2 Ar l V).toArray)/\Yd (zZ W W5)/\Yd (ah W5 (W.heap.size+1) 27 (zX 0 0 ⟨#[]⟩ false none 0 0 none 0 0 none 0 0).toArray)/\Yd (rt=.mk k v s n Y))
  case first=>
   by_cases X:k=1
   ·have p6:(k==1)=true:=by simp[X]
    have b4:=zH X;clear X;have c0:=j2.o;have a1:=zH (fun W hb=>d4.o v W (o3.o b4.o) hb);cases hfv:f v with
    |some x=>
     rw[hfv]at a1;simp only[Option.isSome_some]at a1;go_wp2_with fail;refine (a1.o _ (by exact b0.o.trans (Z.o.mono b0.o.size))).mono ?_;rintro e w1 ⟨cx,tx,rfl,b2,hx,O⟩;obtain rfl:=hx x rfl;obtain⟨k7,v7,s7,n7,A7,a7,c7,B7,b7,d7,X7,x7,e7,g7⟩:=b2.form;subst g7;have j1:=zH (fun p hb=>gR b2 (j6.o v _ hfv) p hb);have P:Yd (zZ W w1):=Z.o.trans (O.mono Z.o.size);have a6:=zH (a9.o.to O);obtain rfl:=a4.o.1 b4.o _ hfv;clear b2 hx O c0 a1 Z b5 a9 g0 IH i4 j0 a4 hfv b4;go_wp2_with fail;refine (j1.o _ (by exact ae w1 _)).mono ?_;rintro e w2 ⟨q8,rfl,i2,g6⟩;obtain⟨k8,v8,T,n8,A8,a8,c8,B8,b8,d8,X8,x8,e8,p3⟩:=i2.tc.form;subst p3;have d3:Yd (zZ W w2):=P.o.trans (((ae w1 _).trans (g6.mono (ae w1 _).size)).mono P.o.size);have j3:=zH ((a6.o.to (ae w1 _)).to g6);have o1:=zH (i2.mono (B':=W.heap.size+2) (by have:=a6.o.lt;simp;omega));clear i2 g6 j1 P a6;obtain⟨r0,r1,r2,r3,r4,r5,r6⟩:=j3.o.s7;obtain⟨z0,z1,z2,z3,z4,z5,z6⟩:=j3.o.z7;go_wp2_with fail;refine bodyPost_ret (v:=.agg #[.int .i64 k8,.int .i64 v8,.string T,.bool n8,.slice A8 a8 c8,.slice B8 b8 d8,.slice X8 x8 e8]) (by rw[aH rfl];go_simp) rfl ?_;refine⟨[.int .i64 k8,.int .i64 v8,.string T,.bool n8,.slice A8 a8 c8,.slice B8 b8 d8,.slice X8 x8 e8],rfl,(o1.o.to (by simp) fun b hb _=>?_).mono (Nat.le_succ _),((((((d3.o.setCell (Nat.le_succ _) _).setCell (Nat.le_succ _) _).setCell (Nat.le_succ _) _).setCell (Nat.le_succ _) _).setCell (Nat.le_succ _) _).setCell (Nat.le_succ _) _).setCell (Nat.le_succ _) _⟩;have p0:b≠W.heap.size+1:=by omega
     repeat rw[Below.heap_setCell _ _ _ b p0]
    |none=>
     rw[hfv]at a1;simp only[Option.isSome_none]at a1;go_wp2_with fail;refine (a1.o _ (by exact b0.o.trans (Z.o.mono b0.o.size))).mono ?_;rintro e w1 ⟨cx,tx,rfl,b2,hx,O⟩;obtain⟨k7,v7,s7,n7,A7,a7,c7,B7,b7,d7,X7,x7,e7,g7⟩:=b2.form;subst g7;have P:Yd (zZ W (w1.alloc (.cells #[.int .i64 k7,.int .i64 v7,.string s7,.bool n7,.slice A7 a7 c7,.slice B7 b7 d7,.slice X7 x7 e7] 27))):=Z.o.trans ((O.trans ((ae w1 _).mono O.size)).mono Z.o.size);have e9:=zH ((b5.o.to O).to (ae w1 (.cells #[.int .i64 k7,.int .i64 v7,.string s7,.bool n7,.slice A7 a7 c7,.slice B7 b7 d7,.slice X7 x7 e7] 27)));have f0:=zH ((a9.o.to O).to (ae w1 (.cells #[.int .i64 k7,.int .i64 v7,.string s7,.bool n7,.slice A7 a7 c7,.slice B7 b7 d7,.slice X7 x7 e7] 27)));have HE:=zH (a4.o.2.1 b4.o hfv);clear b2 hx O c0 a1 Z b5 a9 a4 hfv b4 d4;go_wp2_with fail
     go_meet
     case rel=>exact⟨_,rfl,e9.o,P.o,f0.o,HE.o⟩
   ·have p6:(k==1)=false:=zL X;have HE:=zH (a4.o.2.2 X);clear a4 X d4;go_wp2_with fail
    go_meet
    case rel=>exact⟨_,rfl,b5.o,Z.o,a9.o,HE.o⟩
  case rest=>
   clear d4 j6 j2 a4 b5 Z a9;obtain⟨W5,rfl,e9,P,f0,HE⟩:=hcut;obtain rfl:=HE.o;clear HE;go_wp2_with fail;have j4:Yd (ah W5.drew W.heap.size 27 (zX k v s ng A1 m1 q1 B1 m2 q2 Ar l V).toArray):=e9.o.drew;have o0:Yd (W.heap.size<W5.drew.heap.size):=j4.o.lt;have d1:Yd (zZ W W5.drew):=P.o.drew;have j5:Yd (ah W5.drew (W.heap.size+1) 27 (zX 0 0 ⟨#[]⟩ false none 0 0 none 0 0 none 0 0).toArray):=f0.o.drew;have g2:Yd (∀ p,ag (fun k=>k=W.heap.size) W5.drew p->zZ w p):=fun p hk=>b0.o.trans ((d1.o.trans (hk.below d1.o.size fun k hk=>by omega)).mono b0.o.size);clear e9 f0 P;refine wp_region_held_drew (S:=fun _=>True) (by kernel_rfl) trivial (fun hHeld=>?_)
   (refine zT 0 ?_;try simp only[Act.put,L1,L2])
   (refine zT 1 ?_;try simp only[Act.put,L1,L2])
   (refine zT 4 ?_;try simp only[Act.put,L1,L2])
   (refine zT 5 ?_;try simp only[Act.put,L1,L2])
   refine fw [2,3,6,7,8,9,10,11,12,13] (fun aa L a p=>∃ T s9 y z C D E F,a=((((((((aa.put (some 25) T).put (some 26) s9).put (some 29) y).put (some 30) z).put (some 31) C).put (some 32) D).put (some 33) E).put (some 34) F)/\aU W5.drew W.heap.size (.int .i64 k) (.int .i64 v) (.string s) (.bool ng) (.slice A1 m1 q1) (.slice B1 m2 q2) (.slice Ar l V) xs ys L T s9 y z C D E F p) (by kernel_rfl) (by kernel_rfl) (by decide) (by kernel_rfl) ?hS ?init ?steps ?done
   case hS=>exact fun _ _ _ _=>trivial
   case init=>
    refine⟨u25,u26,u29,u30,u31,u32,u33,u34,(by simp only[Act.put,L1]),⟨ag.refl _ _,o0.o⟩,j4.o,?_,?_,?_,?_,?_,?_,?_,?_,?_,?_⟩<;>(intro h;exact absurd h (by decide))
   case steps=>
    refine aO.cons (i:=2) rfl ?_ (aO.cons (i:=3) rfl ?_ (aO.cons (i:=6) rfl ?_ (aO.cons (i:=7) rfl ?_ (aO.cons (i:=8) rfl ?_ (aO.cons (i:=9) rfl ?_ (aO.cons (i:=10) rfl ?_ (aO.cons (i:=11) rfl ?_ (aO.cons (i:=12) rfl ?_ (aO.cons (i:=13) rfl ?_ aO.nil)))))))))
    ·rintro L a p ⟨T,s9,y,z,C,D,E,F,rfl,J⟩ N d K hK;have G:=zH J;have HL:=zH N;clear J;simp only[Act.put,L1];clear N d;have c4:=G.o.cell4 HL.o;go_simp;exact hK.out _ _ ⟨.slice A1 m1 q1,s9,y,z,C,D,E,F,(by simp only[Act.put,L1]),G.o.load2⟩
    ·rintro L a p ⟨T,s9,y,z,C,D,E,F,rfl,J⟩ N d K hK;have G:=zH J;have HL:=zH N;clear J;simp only[Act.put,L1];have hd:L 2=true:=by simp[Region.binds]at d;simp[d]
     have HD:=zH hd;clear hd N d;obtain rfl:=G.o.2.2.1 HD.o;go_simp;refine (i4.o _ (by exact g2.o _ G.o.1.1)).mono ?_;rintro e w1 ⟨v1,rfl,i3,O⟩;have hT:=G.o.1.1.size;exact hK.out _ _ ⟨.slice A1 m1 q1,v1,y,z,C,D,E,F,(by simp only[Act.put,L1]),G.o.call3 HL.o O (Joins.ownsRow_le i3 hT)⟩
    ·rintro L a p ⟨T,s9,y,z,C,D,E,F,rfl,J⟩ N d K hK;have G:=zH J;have HL:=zH N;clear J;simp only[Act.put,L1];clear N d;have c5:=G.o.cell5 HL.o;go_simp;exact hK.out _ _ ⟨T,s9,.slice B1 m2 q2,z,C,D,E,F,(by simp only[Act.put,L1]),G.o.load6⟩
    ·rintro L a p ⟨T,s9,y,z,C,D,E,F,rfl,J⟩ N d K hK;have G:=zH J;have HL:=zH N;clear J;simp only[Act.put,L1];have hd:L 6=true:=by simp[Region.binds]at d;simp[d]
     have HD:=zH hd;clear hd N d;obtain rfl:=G.o.2.2.2.1 HD.o;go_simp;refine (j0.o _ (by exact g2.o _ G.o.1.1)).mono ?_;rintro e w1 ⟨v1,rfl,i3,O⟩;have hT:=G.o.1.1.size;exact hK.out _ _ ⟨T,s9,.slice B1 m2 q2,v1,C,D,E,F,(by simp only[Act.put,L1]),G.o.call7 HL.o O (Joins.ownsRow_le i3 hT)⟩
    ·rintro L a p ⟨T,s9,y,z,C,D,E,F,rfl,J⟩ N d K hK;have G:=zH J;have HL:=zH N;clear J;simp only[Act.put,L1];clear N d;go_simp;exact hK.out _ _ ⟨T,s9,y,z,.pointer (some ⟨W.heap.size,3,none⟩),D,E,F,(by simp only[Act.put,L1]),G.o.addr8⟩
    ·rintro L a p ⟨T,s9,y,z,C,D,E,F,rfl,J⟩ N d K hK;have G:=zH J;have HL:=zH N;clear J;simp only[Act.put,L1];have hd:L 8=true:=by simp[Region.binds]at d;simp[d]
     have HD:=zH hd;clear hd N d;obtain rfl:=G.o.2.2.2.2.2.2.1 HD.o;go_simp;exact hK.out _ _ ⟨T,s9,y,z,.pointer (some ⟨W.heap.size,3,none⟩),.pointer (some ⟨W.heap.size,4,none⟩),E,F,(by simp only[Act.put,L1]),G.o.addr9⟩
    ·rintro L a p ⟨T,s9,y,z,C,D,E,F,rfl,J⟩ N d K hK;have G:=zH J;have HL:=zH N;clear J;simp only[Act.put,L1];have hd:L 9=true/\L 3=true/\L 2=true:=by simp[Region.binds]at d;simp[d]
     have HD:=zH hd;clear hd N d;obtain rfl:=G.o.2.2.2.2.2.2.2.1 HD.o.1;obtain⟨A9,c9,rfl⟩:=bQ (G.o.2.2.2.2.1 HD.o.2.1);have f4:=G.o.2.1.frozen 4;have hT:=G.o.2.1.lt;have k4:=G.o.2.1.cell 4;simp only[L3]at k4;go_simp;exact hK.out _ _ ⟨T,.slice A9 xs.length c9,y,z,C,.pointer (some ⟨W.heap.size,4,none⟩),E,F,(by simp only[Act.put,L1]),G.o.store10 HD.o.2.2 HD.o.2.1⟩
    ·rintro L a p ⟨T,s9,y,z,C,D,E,F,rfl,J⟩ N d K hK;have G:=zH J;have HL:=zH N;clear J;simp only[Act.put,L1];clear N d;go_simp;exact hK.out _ _ ⟨T,s9,y,z,C,D,.pointer (some ⟨W.heap.size,3,none⟩),F,(by simp only[Act.put,L1]),G.o.addr11⟩
    ·rintro L a p ⟨T,s9,y,z,C,D,E,F,rfl,J⟩ N d K hK;have G:=zH J;have HL:=zH N;clear J;simp only[Act.put,L1];have hd:L 11=true:=by simp[Region.binds]at d;simp[d]
     have HD:=zH hd;clear hd N d;obtain rfl:=G.o.2.2.2.2.2.2.2.2.1 HD.o;go_simp;exact hK.out _ _ ⟨T,s9,y,z,C,D,.pointer (some ⟨W.heap.size,3,none⟩),.pointer (some ⟨W.heap.size,5,none⟩),(by simp only[Act.put,L1]),G.o.addr12⟩
    ·rintro L a p ⟨T,s9,y,z,C,D,E,F,rfl,J⟩ N d K hK;have G:=zH J;have HL:=zH N;clear J;simp only[Act.put,L1];have hd:L 12=true/\L 7=true/\L 6=true:=by simp[Region.binds]at d;simp[d]
     have HD:=zH hd;clear hd N d;obtain rfl:=G.o.2.2.2.2.2.2.2.2.2.1 HD.o.1;obtain⟨A9,c9,rfl⟩:=bQ (G.o.2.2.2.2.2.1 HD.o.2.1);have f5:=G.o.2.1.frozen 5;have hT:=G.o.2.1.lt;have k5:=G.o.2.1.cell 5;simp only[L3]at k5;go_simp;exact hK.out _ _ ⟨T,s9,y,.slice A9 ys.length c9,C,D,E,.pointer (some ⟨W.heap.size,5,none⟩),(by simp only[Act.put,L1]),G.o.store13 HD.o.2.2 HD.o.2.1⟩
   case done=>
    rintro L a r ⟨T,s9,y,z,C,D,E,F,rfl,J⟩ k3;simp only[Act.put,L1];obtain⟨X,l7,g9,g8⟩:=J.done k3;obtain⟨A9,c9,rfl⟩:=bQ g9;obtain⟨a3,a5,rfl⟩:=bQ g8;have KR:=zH (X.blk j5.o (by omega));have KT:=zH l7;have a6:=zH X;have O9:=zH g9;have k0:=zH g8;have P:Yd (zZ W r):=d1.o.trans (X.below d1.o.size fun k hk=>by omega);clear J k3 hHeld X l7 g9 g8;obtain⟨t0,t1,t2,t3,t4,t5,t6⟩:=KT.o.s7;have y6:=KT.o.frozen 6;obtain⟨r0,r1,r2,r3,r4,r5,r6⟩:=KR.o.s7;obtain⟨z0,z1,z2,z3,z4,z5,z6⟩:=KR.o.z7;have k1:W.heap.size+1<(W5.drew).heap.size:=j5.o.lt;have g1:=zH k1;clear k1;by_cases p7:l=0
    ·subst p7;go_wp2_with fail;refine bodyPost_ret (v:=.agg #[.int .i64 k,.int .i64 v,.string s,.bool ng,.slice A9 xs.length c9,.slice a3 ys.length a5,.slice none 0 0]) (by rw[aH rfl];go_simp) rfl ?_;have m:∀ (Wx:World) (g i:Nat) (u v':Value) (n':Nat) (zs:List Value),g<=W.heap.size+1->Wx.ownsRow W5.drew.heap.size 82 1 v' n' zs->(Wx.setCell ⟨g,i,none⟩ u).ownsRow W5.drew.heap.size 82 1 v' n' zs:=fun Wx g i u v' n' zs hg hr=>fi hr (by have:=g1.o;omega);have c1:W.heap.size+1<=W5.drew.heap.size:=by have:=g1.o;omega
     have hz:=fun (Wf:World) (h9:aW .u32 82 Wf (W.heap.size+1) (.slice A9 xs.length c9) xs) (o8:aW .u32 82 Wf (W.heap.size+1) (.slice a3 ys.length a5) ys)=>g0.o (.slice A9 xs.length c9) (.slice a3 ys.length a5) none 0 (fun _=>[]) (W.heap.size+1) Wf h9 o8 (by rw[a2.o];exact zN _) (by unfold maxLen;omega) (.inl ⟨rfl,a2.o⟩);simp only[a2.o]at hz;refine⟨_,rfl,hz _ (Joins.ownsRow_le (m _ _ _ _ _ _ _ zA (m _ _ _ _ _ _ _ zA (m _ _ _ _ _ _ _ zA (m _ _ _ _ _ _ _ zA (m _ _ _ _ _ _ _ zA (m _ _ _ _ _ _ _ zA (m _ _ _ _ _ _ _ zA (m _ _ _ _ _ _ _ (Nat.le_succ _) O9.o)))))))) c1) (Joins.ownsRow_le (m _ _ _ _ _ _ _ zA (m _ _ _ _ _ _ _ zA (m _ _ _ _ _ _ _ zA (m _ _ _ _ _ _ _ zA (m _ _ _ _ _ _ _ zA (m _ _ _ _ _ _ _ zA (m _ _ _ _ _ _ _ zA (m _ _ _ _ _ _ _ (Nat.le_succ _) k0.o)))))))) c1),?_⟩;exact (((((((P.o.setCell zA _).setCell (Nat.le_succ _) _).setCell (Nat.le_succ _) _).setCell (Nat.le_succ _) _).setCell (Nat.le_succ _) _).setCell (Nat.le_succ _) _).setCell (Nat.le_succ _) _).setCell (Nat.le_succ _) _
    ·have w6:((l:Int)==0)=false:=zL (by omega);clear r0 r1 r2 r3 r4 r5 r6 z0 z1 z2 z3 z4 z5 z6
     go_wp2_with (at_make;refine wpList_make_full _ rfl _ _ 25 rfl r.heap.size 27 i0 (.agg zt.toArray) 7 underlying25 n9.o o4.o o5.o .i64 .i64 _ _ l rfl rfl (by omega) (by omega) (by rw[o6.o];omega) (by unfold maxLen;omega) zA ?_;intro w2 l8 l1;have d3:Yd (zZ r w2):=zB.grown l1 zA (by simp);have o7:=zH (KT.o.to d3.o);have d6:=o7.o.cell 6;simp only[L3]at d6;have n3:=zH (pO l8);clear l8 l1)
     have j7:Yd (zZ w r):=g2.o _ a6.o
     go_loopg [48] l (fun gk q5 wr=>∃ (j:Nat) (I:Array Value) (b3:Nat->List Value),gk+j=l/\q5=.int .i64 (j:Int)/\Yd (ah wr r.heap.size 27 I)/\I.size=l*7/\Yd (zZ r wr)/\Yd (∀ i,i<j->∀ q,q<7->I[i*7+q]?=(b3 i)[q]?)/\Yd (mJ (r.heap.size+1) wr Y b3 j))
     case atStart=>
      obtain⟨I,h1,h2⟩:=n3.o;exact⟨0,I,fun _=>[],by omega,rfl,h1,h2,d3.o,fun i hi=>absurd hi (by omega),mJ.none _ _ _ _⟩
     case round=>
      obtain⟨j,I,b3,w5,rfl,HG,y0,HB,HV,HT⟩:=hrel;by_cases hj:j<l
      ·have l4:j<args.length:=by rw[HL.o];exact hj
       have f8:=j7.o.trans (HB.o.mono j7.o.size);obtain⟨b,o,k',v',s',f3,A2,n2,c2,B2,m3,d2,Xr,xl,xc,o9,l0,w7,e0,e1,e2,e3,e4,e5,e6⟩:=aZ HR.o HA.o f8 l4;subst o9;have l6:j<Y.length:=by rw[a2.o];exact hj
       have U:=IH.o j l4 l6 (wr.alloc (.cells #[.int .i64 k',.int .i64 v',.string s',.bool f3,.slice A2 n2 c2,.slice B2 m3 d2,.slice Xr xl xc] 27)) (f8.trans ((ae wr (.cells #[.int .i64 k',.int .i64 v',.string s',.bool f3,.slice A2 n2 c2,.slice B2 m3 d2,.slice Xr xl xc] 27)).mono f8.size));rw[l0]at U;have U:=zH U;go_wp2_with fail;refine U.o.mono ?_;rintro e w3 ⟨q7,rfl,i1,k6⟩;obtain⟨k5,v5,s5,f6,A5,n5,c5,B5,m5,d5,X5,l5,f7,p2⟩:=i1.tc.form;subst p2;have d0:=zH ((ae wr (.cells #[.int .i64 k',.int .i64 v',.string s',.bool f3,.slice A2 n2 c2,.slice B2 m3 d2,.slice Xr xl xc] 27)).trans (k6.mono (ae wr (.cells #[.int .i64 k',.int .i64 v',.string s',.bool f3,.slice A2 n2 c2,.slice B2 m3 d2,.slice Xr xl xc] 27)).size));have n4:=zH (HB.o.trans (d0.o.mono HB.o.size));have M:=zH (HG.o.to d0.o);have H5:=zH (HT.o.add d0.o.size (fun b _ hb=>d0.o.block b hb) (by have:=HB.o.size;simp;omega) (by simp;omega) l6 i1);clear i1 k6 U e0 e1 e2 e3 e4 e5 e6 l0;obtain⟨x0,y1⟩:∃ x,w3.cell? ⟨r.heap.size,j*7,none⟩=some x:=⟨I[j*7]'(by omega),by rw[M.o.cell];exact zP (by omega)⟩;have v2:=M.o.frozen (j*7);obtain⟨x1,y2⟩:∃ x,w3.cell? ⟨r.heap.size,j*7+1,none⟩=some x:=⟨I[j*7+1]'(by omega),by rw[M.o.cell];exact zP (by omega)⟩;have v3:=M.o.frozen (j*7+1);obtain⟨x2,y3⟩:∃ x,w3.cell? ⟨r.heap.size,j*7+2,none⟩=some x:=⟨I[j*7+2]'(by omega),by rw[M.o.cell];exact zP (by omega)⟩;have v4:=M.o.frozen (j*7+2);obtain⟨x3,y4⟩:∃ x,w3.cell? ⟨r.heap.size,j*7+3,none⟩=some x:=⟨I[j*7+3]'(by omega),by rw[M.o.cell];exact zP (by omega)⟩;have v6:=M.o.frozen (j*7+3);obtain⟨x4,y5⟩:∃ x,w3.cell? ⟨r.heap.size,j*7+4,none⟩=some x:=⟨I[j*7+4]'(by omega),by rw[M.o.cell];exact zP (by omega)⟩;have v9:=M.o.frozen (j*7+4);obtain⟨x5,y7⟩:∃ x,w3.cell? ⟨r.heap.size,j*7+5,none⟩=some x:=⟨I[j*7+5]'(by omega),by rw[M.o.cell];exact zP (by omega)⟩;have w0:=M.o.frozen (j*7+5);obtain⟨x6,y8⟩:∃ x,w3.cell? ⟨r.heap.size,j*7+6,none⟩=some x:=⟨I[j*7+6]'(by omega),by rw[M.o.cell];exact zP (by omega)⟩;have w4:=M.o.frozen (j*7+6);go_wp2_with fail
       go_roundg (gk-1)
       case measure=>omega
       case rel=>
        have q4:∀ (t:Nat->List Value) (c:Nat),mJ (r.heap.size+1) w3 Y t c->mJ (r.heap.size+1) (((((((w3.setCell ⟨r.heap.size,j*7,none⟩ (.int .i64 k5)).setCell ⟨r.heap.size,j*7+1,none⟩ (.int .i64 v5)).setCell ⟨r.heap.size,j*7+2,none⟩ (.string s5)).setCell ⟨r.heap.size,j*7+3,none⟩ (.bool f6)).setCell ⟨r.heap.size,j*7+4,none⟩ (.slice A5 n5 c5)).setCell ⟨r.heap.size,j*7+5,none⟩ (.slice B5 m5 d5)).setCell ⟨r.heap.size,j*7+6,none⟩ (.slice X5 l5 f7)) Y t c:=fun t c ht=>ht.to (by simp) (fun b hb _=>(Below.heap_setCell _ ⟨r.heap.size,j*7+6,none⟩ _ b (show b≠r.heap.size by omega)).trans ((Below.heap_setCell _ ⟨r.heap.size,j*7+5,none⟩ _ b (show b≠r.heap.size by omega)).trans ((Below.heap_setCell _ ⟨r.heap.size,j*7+4,none⟩ _ b (show b≠r.heap.size by omega)).trans ((Below.heap_setCell _ ⟨r.heap.size,j*7+3,none⟩ _ b (show b≠r.heap.size by omega)).trans ((Below.heap_setCell _ ⟨r.heap.size,j*7+2,none⟩ _ b (show b≠r.heap.size by omega)).trans ((Below.heap_setCell _ ⟨r.heap.size,j*7+1,none⟩ _ b (show b≠r.heap.size by omega)).trans ((Below.heap_setCell _ ⟨r.heap.size,j*7,none⟩ _ b (show b≠r.heap.size by omega)).trans (rfl))))))));refine⟨j+1,(((((((I.setIfInBounds (j*7) (.int .i64 k5)).setIfInBounds (j*7+1) (.int .i64 v5)).setIfInBounds (j*7+2) (.string s5)).setIfInBounds (j*7+3) (.bool f6)).setIfInBounds (j*7+4) (.slice A5 n5 c5)).setIfInBounds (j*7+5) (.slice B5 m5 d5)).setIfInBounds (j*7+6) (.slice X5 l5 f7)),fun i=>if i=j then [.int .i64 k5,.int .i64 v5,.string s5,.bool f6,.slice A5 n5 c5,.slice B5 m5 d5,.slice X5 l5 f7] else b3 i,by omega,by go_num,(((((((M.o.set_ (j*7) (.int .i64 k5)).set_ (j*7+1) (.int .i64 v5)).set_ (j*7+2) (.string s5)).set_ (j*7+3) (.bool f6)).set_ (j*7+4) (.slice A5 n5 c5)).set_ (j*7+5) (.slice B5 m5 d5)).set_ (j*7+6) (.slice X5 l5 f7)),by simp;omega,(((((((n4.o.setCell zA _).setCell zA _).setCell zA _).setCell zA _).setCell zA _).setCell zA _).setCell zA _),fun i hi q hq=>?_,q4 _ _ H5.o⟩
        ·by_cases l3:i=j
         ·subst l3;have h7:q=0\/q=1\/q=2\/q=3\/q=4\/q=5\/q=6:=by omega
          rcases h7 with rfl|rfl|rfl|rfl|rfl|rfl|rfl<;>simp[Array.getElem?_setIfInBounds]<;>omega
         ·have p4:i<j:=by omega
          dsimp only;rw[if_neg l3,<-HV.o i p4 q hq];simp only[Array.getElem?_setIfInBounds]
          repeat rw[if_neg (by omega)]
      ·have p5:j=l:=by omega
       have g4:=KT.o.to HB.o;have g3:=KR.o.to HB.o;obtain⟨q9,r7,r8,t7,t8,t9,v0⟩:=g4.s7;have y9:=g4.frozen 6;obtain⟨r0,r1,r2,r3,r4,r5,r6⟩:=g3.s7;obtain⟨z0,z1,z2,z3,z4,z5,z6⟩:=g3.z7;have w8:=a6.o.size;have w9:=HB.o.size;have x9:=g1.o;have q6:=HG.o.lt;clear g4 g3 t0 t1 t2 t3 t4 t5 t6;go_wp2_with fail;refine bodyPost_ret (v:=.agg #[.int .i64 k,.int .i64 v,.string s,.bool ng,.slice A9 xs.length c9,.slice a3 ys.length a5,.slice (some ⟨r.heap.size,0,none⟩) l l]) (by rw[aH rfl];go_simp) rfl ?_;have m:∀ (Wx:World) (g i:Nat) (u v':Value) (n':Nat) (zs:List Value),g<=W.heap.size+1->Wx.ownsRow W5.drew.heap.size 82 1 v' n' zs->(Wx.setCell ⟨g,i,none⟩ u).ownsRow W5.drew.heap.size 82 1 v' n' zs:=fun Wx g i u v' n' zs hg hr=>fi hr (by omega);have c1:W.heap.size+1<=W5.drew.heap.size:=by omega
       have g5:∀ b,W.heap.size+1<b->((((((((wr.setCell ⟨W.heap.size,6,none⟩ (.slice (some ⟨r.heap.size,0,none⟩) l l)).setCell ⟨W.heap.size+1,0,none⟩ (.int .i64 k)).setCell ⟨W.heap.size+1,1,none⟩ (.int .i64 v)).setCell ⟨W.heap.size+1,2,none⟩ (.string s)).setCell ⟨W.heap.size+1,3,none⟩ (.bool ng)).setCell ⟨W.heap.size+1,4,none⟩ (.slice A9 xs.length c9)).setCell ⟨W.heap.size+1,5,none⟩ (.slice a3 ys.length a5)).setCell ⟨W.heap.size+1,6,none⟩ (.slice (some ⟨r.heap.size,0,none⟩) l l)).heap[b]?=wr.heap[b]?:=fun b hb=>(Below.heap_setCell _ ⟨W.heap.size+1,6,none⟩ _ b (show b≠W.heap.size+1 by omega)).trans ((Below.heap_setCell _ ⟨W.heap.size+1,5,none⟩ _ b (show b≠W.heap.size+1 by omega)).trans ((Below.heap_setCell _ ⟨W.heap.size+1,4,none⟩ _ b (show b≠W.heap.size+1 by omega)).trans ((Below.heap_setCell _ ⟨W.heap.size+1,3,none⟩ _ b (show b≠W.heap.size+1 by omega)).trans ((Below.heap_setCell _ ⟨W.heap.size+1,2,none⟩ _ b (show b≠W.heap.size+1 by omega)).trans ((Below.heap_setCell _ ⟨W.heap.size+1,1,none⟩ _ b (show b≠W.heap.size+1 by omega)).trans ((Below.heap_setCell _ ⟨W.heap.size+1,0,none⟩ _ b (show b≠W.heap.size+1 by omega)).trans ((Below.heap_setCell _ ⟨W.heap.size,6,none⟩ _ b (show b≠W.heap.size by omega)).trans rfl)))))));have o2:mJ (r.heap.size+1) wr Y b3 l:=by
        have h:=HT.o;rw[p5]at h;exact h
       have hz:=g0.o (.slice A9 xs.length c9) (.slice a3 ys.length a5) (some ⟨r.heap.size,0,none⟩) l b3 (W.heap.size+1) ((((((((wr.setCell ⟨W.heap.size,6,none⟩ (.slice (some ⟨r.heap.size,0,none⟩) l l)).setCell ⟨W.heap.size+1,0,none⟩ (.int .i64 k)).setCell ⟨W.heap.size+1,1,none⟩ (.int .i64 v)).setCell ⟨W.heap.size+1,2,none⟩ (.string s)).setCell ⟨W.heap.size+1,3,none⟩ (.bool ng)).setCell ⟨W.heap.size+1,4,none⟩ (.slice A9 xs.length c9)).setCell ⟨W.heap.size+1,5,none⟩ (.slice a3 ys.length a5)).setCell ⟨W.heap.size+1,6,none⟩ (.slice (some ⟨r.heap.size,0,none⟩) l l)) (Joins.ownsRow_le (m _ _ _ _ _ _ _ zA (m _ _ _ _ _ _ _ zA (m _ _ _ _ _ _ _ zA (m _ _ _ _ _ _ _ zA (m _ _ _ _ _ _ _ zA (m _ _ _ _ _ _ _ zA (m _ _ _ _ _ _ _ zA (m _ _ _ _ _ _ _ (Nat.le_succ _) (bJ O9.o HB.o))))))))) c1) (Joins.ownsRow_le (m _ _ _ _ _ _ _ zA (m _ _ _ _ _ _ _ zA (m _ _ _ _ _ _ _ zA (m _ _ _ _ _ _ _ zA (m _ _ _ _ _ _ _ zA (m _ _ _ _ _ _ _ zA (m _ _ _ _ _ _ _ zA (m _ _ _ _ _ _ _ (Nat.le_succ _) (bJ k0.o HB.o))))))))) c1) (by rw[a2.o];exact zN _) (by unfold maxLen;omega) (.inr ⟨r.heap.size,rfl,by rw[a2.o];exact o2.to (by simp) (fun b hb _=>g5 b (by omega)),by omega,by simp;omega,⟨I,(g5 r.heap.size (by omega)).trans HG.o⟩,fun i hi q hq=>by rw[Nat.zero_add];exact (World.cell?_of_block (a:=⟨r.heap.size,i*7+q,none⟩) (g5 r.heap.size (by omega))).trans ((HG.o.cell _).trans (HV.o i (by rw[a2.o]at hi;omega) q hq))⟩);rw[a2.o]at hz;refine⟨_,rfl,hz,?_⟩;have n6:zZ W wr:=P.o.trans (HB.o.mono P.o.size);exact (((((((n6.setCell zA _).setCell (Nat.le_succ _) _).setCell (Nat.le_succ _) _).setCell (Nat.le_succ _) _).setCell (Nat.le_succ _) _).setCell (Nat.le_succ _) _).setCell (Nat.le_succ _) _).setCell (Nat.le_succ _) _
theorem i8 {w:World} (a:FuncId) (d:Nat) (i:∀ args w,(callFunc a args).run prog w=.ok (.enter a args) w) (f:Int->Option Tm) (j:∀ v x,f v=some x->x.sm) (g:∀ v W,zZ w W->Calls prog a #[.int .i64 v,.pointer (some ⟨d,0,none⟩)] W fun e b=>∃ k l,e=.returned (.tuple #[.agg k.toArray,.bool (f v).isSome])/\TC b l k/\(∀ x,f v=some x->l=x)/\zZ W b)
 {t:Tm} {cs:List Value} (h:TC w t cs) (n:t.sm):∀ (W:World),zZ w W->
 Calls prog 19 #[.agg cs.toArray,.func (.func a) #[] #[.pointer (some ⟨d,0,none⟩)]] W fun e b=>∃ c,e=.returned (.agg c.toArray)/\gP (W.heap.size+1) b (t.repl f) c/\zZ W b:=oE (fun _=>True) a d i f j (fun v W _ m=>g v W m) h n (qx (fun _=>trivial) t)
theorem oK {w:World} {t:Tm} {cs:List Value} (h:TC w t cs):t.count<=1000000->∀ (W:World),zZ w W->
 Calls prog 17 #[.agg cs.toArray] W fun e g=>e=.returned (.int .i64 (t.count:Int))/\zZ W g:=by
 induction h with
 |mk k v s n a A B Ar G cs hk hv hs hA hB hn q hm Z Y ih=>
  intro r W X;have HR:=zH Z;have HA:=zH Y;have IH:=zH ih;have m:Yd ((Tm.mk k v s n a).count=1+am a):=rfl;have F:=zH r;unfold maxLen at hm;have p:=zH X;generalize (Tm.mk k v s n a).count=ct at*;generalize n.neg=ng at*;obtain⟨A1,q1,rfl,_⟩:=hA;obtain⟨B1,q2,rfl,_⟩:=hB;generalize n.num.length=m1 at*;generalize n.den.length=m2 at*;clear Z Y ih hn hk hv hs X r;obtain⟨l,L⟩:∃ l,a.length=l:=⟨_,rfl⟩;rw[L]at q ⊢;have Q:=zH L;clear L;have E:=zH (ae W (.cells #[.int .i64 k,.int .i64 v,.string s,.bool ng,.slice A1 m1 q1,.slice B1 m2 q2,.slice Ar l G] 27));go_enter func17,ntmps17;go_wp2_with fail
  go_loopg [3,9] l (fun gk s3 s9 wr=>∃ j c:Nat,gk+j=l/\s9=.int .i64 (j:Int)/\s3=.int .i64 (c:Int)/\c<=1000000/\Yd (c=1+am (a.take j))/\Yd (zZ W wr))
  case atStart=>exact⟨0,1,by omega,rfl,rfl,by omega,by unfold Yd;rw[List.take_zero];simp only[am],E.o⟩
  case round=>
   obtain⟨j,c,a1,rfl,rfl,a0,P,y⟩:=hrel;by_cases hj:j<l
   ·have i:j<a.length:=by rw[Q.o];exact hj
    have f:=p.o.trans (y.o.mono p.o.size);obtain⟨b,o,k',v',s',x,N,n2,T,O,m3,U,S,xl,xc,I,J,a2,e0,e1,e2,e3,e4,e5,e6⟩:=aZ HR.o HA.o f i;subst I;have V:=bq a i;have z:=P.o;have h3:=m.o;have h4:=F.o;have h5:=cH a (j+1);have d:Yd (∀ g,zZ wr g->Calls prog 17 #[.agg (zX k' v' s' x N n2 T O m3 U S xl xc).toArray] g fun e w'=>e=.returned (.int .i64 ((a[j]).count:Int))/\zZ g w'):=fun g C=>by
     have:=IH.o j i (by omega) g (f.trans (C.mono f.size));rw[J]at this;exact this
    have HZ:Yd (c+(a[j]).count=1+am (a.take (j+1))):=by show _=_;rw[V];omega
    have M:c+(a[j]).count<=1000000:=by omega
    clear V z h3 h4 h5;generalize (a[j]).count=cj at*;go_wp2_with fail;refine (d.o _ (by exact ae _ _)).mono ?_;rintro e w3 ⟨rfl,C⟩;have D:=zH (y.o.trans (((ae wr (.cells #[.int .i64 k',.int .i64 v',.string s',.bool x,.slice N n2 T,.slice O m3 U,.slice S xl xc] 27)).trans (C.mono (ae wr _).size)).mono y.o.size));clear C e0 e1 e2 e3 e4 e5 e6 d;go_wp2_with fail
    go_roundg (gk-1)
    case measure=>omega
    case rel=>exact⟨j+1,c+cj,by omega,by go_num,by go_num,M,HZ,D.o⟩
   ·obtain rfl:j=l:=by omega
    have z:=P.o;rw[zG (by rw[Q.o];exact zN _),<-m.o]at z;subst z;go_wp2_with fail;go_ret;exact⟨rfl,y.o⟩
mutual
def Tm.grow (f:Int->Option Tm):Tm->Nat
 |.mk k v s n args=>(if k=1 then (match f v with|some x=>x.count-1|none=>0) else 0)+bN f args
def bN (f:Int->Option Tm):List Tm->Nat
 |[]=>0
 |t::l=>t.grow f+bN f l
end
theorem i6 (f:Int->Option Tm) (l:List Tm) {j:Nat} (a:j<l.length):bN f (l.take (j+1))=bN f (l.take j)+(l[j]).grow f:=by
 induction l generalizing j with
 |nil=>cases a
 |cons t l b=>
  cases j with
  |zero=>simp only[List.take_succ_cons,List.take_zero,bN,List.getElem_cons_zero];omega
  |succ j=>
   simp only[List.take_succ_cons,bN,List.getElem_cons_succ];rw[b (by simpa using a)];omega
theorem mT (f:Int->Option Tm) (l:List Tm) (j:Nat):bN f (l.take j)<=bN f l:=by
 induction l generalizing j with
 |nil=>simp[bN]
 |cons t l a=>
  cases j with
  |zero=>simp[bN]
  |succ j=>simp only[List.take_succ_cons,bN];have:=a j;omega
mutual
theorem Tm.grow_le {f:Int->Option Tm} (hf:∀ v x,f v=some x->x.count<=10000):∀ (t:Tm),t.grow f<=10000*t.count
 |.mk k v s n args=>by
  have h:=lF hf args;rw[Tm.grow,Tm.count]
  split
  ·cases hx:f v with
   |none=>simp only;omega
   |some x=>have:=hf v x hx;simp only;omega
  ·omega
theorem lF {f:Int->Option Tm} (hf:∀ v x,f v=some x->x.count<=10000):∀ (l:List Tm),bN f l<=10000*am l
 |[]=>by rw[bN];exact Nat.zero_le _
 |t::l=>by
  have h1:=t.grow_le hf;have h2:=lF hf l;rw[bN,am];omega
end
theorem jL (t:Tm):0<t.count:=by cases t;rw[Tm.count];omega
mutual
def Tm.bare:Tm->Prop
 |.mk k _ _ _ args=>(k=1->args=[])/\li args
def li:List Tm->Prop
 |[]=>True
 |t::l=>t.bare/\li l
end
mutual
theorem Tm.count_repl (f:Int->Option Tm):∀ (t:Tm),t.bare->(t.repl f).count=t.count+t.grow f
 |.mk k v s n args,h=>by
  rw[Tm.bare]at h;have h2:=kk f args h.2;rw[Tm.repl,Tm.grow];by_cases hk:k=1
  ·rw[if_pos hk,if_pos hk];have ha:=h.1 hk;subst ha;cases hx:f v with
   |none=>simp only[cN,bN,Nat.add_zero]
   |some x=>have:=jL x;simp only[bN,Tm.count,am];omega
  ·rw[if_neg hk,if_neg hk,Tm.count,Tm.count,h2];omega
theorem kk (f:Int->Option Tm):∀ (l:List Tm),li l->am (cN f l)=am l+bN f l
 |[],_=>by rw[cN,bN];rfl
 |t::l,h=>by
  rw[li]at h;have h1:=t.count_repl f h.1;have h2:=kk f l h.2;rw[cN,bN,am,am];omega
end
mutual
theorem Tm.bare_of:∀ (t:Tm),t.err0=0->t.bare
 |.mk k v s n args,h=>by
  obtain⟨h1,h2⟩:=bB h;rw[Tm.bare];refine⟨fun hk=>?_,qA args h2⟩;have:args.length=0:=by
   rcases al h1 with ⟨_,_,_,_,h5⟩|⟨_,_,_,_,h6⟩
   ·exact h5
   ·rcases h6 with h6|h6|h6|h6
    ·exact h6.2.2.2.2
    ·omega
    ·omega
    ·omega
  exact zF this
theorem qA:∀ (l:List Tm),bH l=0->li l
 |[],_=>by rw[li];trivial
 |t::l,h=>by
  rw[bH]at h;by_cases h1:t.err0=0
  ·rw[if_pos h1]at h;rw[li];exact⟨t.bare_of h1,qA l h⟩
  ·rw[if_neg h1]at h;exact absurd h h1
end
theorem ww {w:World} (G:FuncId) (bc:Nat) (Y:∀ args w,(callFunc G args).run prog w=.ok (.enter G args) w) (f:Int->Option Tm) (b1:∀ v x,f v=some x->x.count<=10000) (b0:∀ v W,zZ w W->Calls prog G #[.int .i64 v,.pointer (some ⟨bc,0,none⟩)] W fun e d=>∃ cx tx,e=.returned (.tuple #[.agg cx.toArray,.bool (f v).isSome])/\TC d tx cx/\(∀ x,f v=some x->tx=x)/\zZ W d)
 {t:Tm} {cs:List Value} (h:TC w t cs):t.count<=10000->∀ (W:World),zZ w W->
 Calls prog 18 #[.agg cs.toArray,.func (.func G) #[] #[.pointer (some ⟨bc,0,none⟩)]] W fun e d=>e=.returned (.int .i64 (t.grow f:Int))/\zZ W d:=by
 have b6:=zH b0;have a2:=zH b1;have b8:=zH Y;clear b0 b1 Y
 induction h with
 |mk k v s n args A B Ar a4 cs hk hv hs hA hB hn c0 hm hr ha ih=>
  intro c3 W hW;have c5:(Tm.mk k v s n args).count=1+am args:=rfl;have c6:=lF a2.o args;have a3:Yd (∀ j,bN f (args.take j)<=100000000):=fun j=>by
   have:=mT f args j;omega
  have IH:Yd (∀ i (h:i<args.length) (W:World),zZ w W->Calls prog 18 #[.agg (cs i).toArray,.func (.func G) #[] #[zY bc]] W fun e d=>e=.returned (.int .i64 ((args[i]).grow f:Int))/\zZ W d):=fun i h W z=>ih i h (by have:=bq args h;have:=cH args (i+1);omega) W z;have O:Yd ((k=1->∀ x,f v=some x->(Tm.mk k v s n args).grow f=(x.count-1)+bN f args)/\(k=1->f v=none->(Tm.mk k v s n args).grow f=0+bN f args)/\(k≠1->(Tm.mk k v s n args).grow f=0+bN f args)):=by
   refine⟨fun h x hx=>?_,fun h hx=>?_,fun h=>?_⟩
   ·rw[Tm.grow,if_pos h,hx]
   ·rw[Tm.grow,if_pos h,hx]
   ·rw[Tm.grow,if_neg h]
  generalize (Tm.mk k v s n args).grow f=gt at*;clear c6 c5 c3;have HR:=zH hr;have HA:=zH ha;have q:=zH hW;unfold maxLen at hm;generalize n.neg=ng at*;obtain⟨A1,q1,rfl,_⟩:=hA;obtain⟨B1,q2,rfl,_⟩:=hB;generalize n.num.length=m1 at*;generalize n.den.length=m2 at*;clear hr ha ih hn hk hv hs hW;obtain⟨l,hl⟩:∃ l,args.length=l:=⟨_,rfl⟩;rw[hl]at c0 ⊢;have HL:=zH hl;clear hl;have p:Yd (zZ W (W.alloc (.cells #[.int .i64 k,.int .i64 v,.string s,.bool ng,.slice A1 m1 q1,.slice B1 m2 q2,.slice Ar l a4] 27))):=ae W _;have P:Yd (ah (W.alloc (.cells #[.int .i64 k,.int .i64 v,.string s,.bool ng,.slice A1 m1 q1,.slice B1 m2 q2,.slice Ar l a4] 27)) W.heap.size 27 (zX k v s ng A1 m1 q1 B1 m2 q2 Ar l a4).toArray):=ah.new W _ _;go_enter func18,ntmps18;by_cases S:k=1
  ·have c8:(k==1)=true:=by simp[S]
   have L:=zH S;clear S;have Y:=b8.o;have D:=zH (b6.o v);cases hfv:f v with
   |some x=>
    rw[hfv]at D;simp only[Option.isSome_some]at D;go_wp2_with fail;refine (D.o _ (by exact q.o.trans (p.o.mono q.o.size))).mono ?_;rintro e w1 ⟨cx,tx,rfl,T,hx,y⟩;obtain rfl:=hx x rfl;obtain⟨k7,v7,s7,n7,A7,a7,c7,B7,b7,d7,X7,x7,e7,a6⟩:=T.form;subst a6;have a8:=zH (fun d z=>oK T (by have:=a2.o v _ hfv;omega) d z);have c1:=a2.o v _ hfv;have c4:=jL tx;have N:Yd (tx.count-1<=10000):=by show _<=_;omega
    have c9:((tx.count:Int)-1)=((tx.count-1:Nat):Int):=by omega
    have E:=zH (O.o.1 L.o _ hfv);have a1:Yd (zZ W (w1.alloc (.cells #[.int .i64 k7,.int .i64 v7,.string s7,.bool n7,.slice A7 a7 c7,.slice B7 b7 d7,.slice X7 x7 e7] 27))):=p.o.trans ((y.trans ((ae w1 _).mono y.size)).mono p.o.size);have a9:=zH ((P.o.to y).to (ae w1 (.cells #[.int .i64 k7,.int .i64 v7,.string s7,.bool n7,.slice A7 a7 c7,.slice B7 b7 d7,.slice X7 x7 e7] 27)));generalize tx.count=tc at*;have d0:(tc:Int)<=10000:=by omega
    have d1:(0:Int)<(tc:Int):=by omega
    clear T hx y Y D p P hfv L c1 c4 O;obtain⟨r,Q⟩:∃ r,tc-1=r:=⟨_,rfl⟩;rw[Q]at E N c9;clear Q;go_wp2_with fail;refine (a8.o _ (by exact ae w1 _)).mono ?_;rintro e w5 ⟨rfl,a5⟩;have C:Yd (zZ W w5):=a1.o.trans (a5.mono a1.o.size);have F:=zH (a9.o.to a5);clear a5 a1 a9 a8;have y6:=F.o.cell 6;simp only[L3]at y6;go_wp2_with fail
    go_loopg [5,27] l (fun gk s5 Z wr=>∃ j c:Nat,gk+j=l/\Z=.int .i64 (j:Int)/\s5=.int .i64 (c:Int)/\(c:Int)<=1000000000/\Yd (c=r+bN f (args.take j))/\Yd (zZ W wr))
    case atStart=>exact⟨0,r,by omega,rfl,by first|rfl|(congr 1;omega),by have:=N.o;omega,by unfold Yd;rw[List.take_zero];simp only[bN];omega,C.o⟩
    case round=>
     clear C F;obtain⟨j,c,b3,rfl,rfl,b2,HC,J⟩:=hrel;by_cases hj:j<l
     ·have m:j<args.length:=by rw[HL.o];exact hj
      have g:=q.o.trans (J.o.mono q.o.size);obtain⟨b,o,k',v',s',I,A2,n2,c2,B2,m3,d2,Xr,xl,xc,V,X,b4,e0,e1,e2,e3,e4,e5,e6⟩:=aZ HR.o HA.o g m;subst V;have h1:=i6 f args m;have M:=HC.o;have h3:=a3.o (j+1);have a:Yd (∀ d,zZ wr d->Calls prog 18 #[.agg (zX k' v' s' I A2 n2 c2 B2 m3 d2 Xr xl xc).toArray,.func (.func G) #[] #[zY bc]] d fun e w'=>e=.returned (.int .i64 ((args[j]).grow f:Int))/\zZ d w'):=fun d z=>by
       have:=IH.o j m d (g.trans (z.mono g.size));rw[X]at this;exact this
      have HZ:Yd (c+(args[j]).grow f=r+bN f (args.take (j+1))):=by show _=_;rw[h1];omega
      have b5:(c:Int)+((args[j]).grow f:Int)<=1000000000:=by omega
      clear h1 M h3;generalize (args[j]).grow f=cj at*;go_wp2_with fail;refine (a.o _ (by exact ae _ _)).mono ?_;rintro e w3 ⟨rfl,z⟩;have U:=zH (J.o.trans (((ae wr (.cells #[.int .i64 k',.int .i64 v',.string s',.bool I,.slice A2 n2 c2,.slice B2 m3 d2,.slice Xr xl xc] 27)).trans (z.mono (ae wr _).size)).mono J.o.size));clear z e0 e1 e2 e3 e4 e5 e6 a;go_wp2_with fail
      go_roundg (gk-1)
      case measure=>omega
      case rel=>exact⟨j+1,c+cj,by omega,by go_num,by go_num,by omega,HZ,U.o⟩
     ·obtain rfl:j=l:=by omega
      have M:=HC.o;rw[zG (by rw[HL.o];exact zN _),<-E.o]at M;subst M;go_wp2_with fail;go_ret;exact⟨rfl,J.o⟩
   |none=>
    rw[hfv]at D;simp only[Option.isSome_none]at D;go_wp2_with fail;refine (D.o _ (by exact q.o.trans (p.o.mono q.o.size))).mono ?_;rintro e w1 ⟨cx,tx,rfl,T,hx,y⟩;obtain⟨k7,v7,s7,n7,A7,a7,c7,B7,b7,d7,X7,x7,e7,a6⟩:=T.form;subst a6;obtain⟨r,Q⟩:∃ r:Nat,r=0:=⟨_,rfl⟩;have N:Yd (r<=10000):=by show _<=_;omega
    have E:=zH (O.o.2.1 L.o hfv);rw[<-Q]at E;have C:Yd (zZ W (w1.alloc (.cells #[.int .i64 k7,.int .i64 v7,.string s7,.bool n7,.slice A7 a7 c7,.slice B7 b7 d7,.slice X7 x7 e7] 27))):=p.o.trans ((y.trans ((ae w1 _).mono y.size)).mono p.o.size);have F:=zH ((P.o.to y).to (ae w1 (.cells #[.int .i64 k7,.int .i64 v7,.string s7,.bool n7,.slice A7 a7 c7,.slice B7 b7 d7,.slice X7 x7 e7] 27)));clear T hx y Y D p P hfv L O;have y6:=F.o.cell 6;simp only[L3]at y6;go_wp2_with fail
    go_loopg [5,27] l (fun gk s5 Z wr=>∃ j c:Nat,gk+j=l/\Z=.int .i64 (j:Int)/\s5=.int .i64 (c:Int)/\(c:Int)<=1000000000/\Yd (c=r+bN f (args.take j))/\Yd (zZ W wr))
    case atStart=>exact⟨0,r,by omega,rfl,by first|rfl|(congr 1;omega),by have:=N.o;omega,by unfold Yd;rw[List.take_zero];simp only[bN];omega,C.o⟩
    case round=>
     clear C F;obtain⟨j,c,b3,rfl,rfl,b2,HC,J⟩:=hrel;by_cases hj:j<l
     ·have m:j<args.length:=by rw[HL.o];exact hj
      have g:=q.o.trans (J.o.mono q.o.size);obtain⟨b,o,k',v',s',I,A2,n2,c2,B2,m3,d2,Xr,xl,xc,V,X,b4,e0,e1,e2,e3,e4,e5,e6⟩:=aZ HR.o HA.o g m;subst V;have h1:=i6 f args m;have M:=HC.o;have h3:=a3.o (j+1);have a:Yd (∀ d,zZ wr d->Calls prog 18 #[.agg (zX k' v' s' I A2 n2 c2 B2 m3 d2 Xr xl xc).toArray,.func (.func G) #[] #[zY bc]] d fun e w'=>e=.returned (.int .i64 ((args[j]).grow f:Int))/\zZ d w'):=fun d z=>by
       have:=IH.o j m d (g.trans (z.mono g.size));rw[X]at this;exact this
      have HZ:Yd (c+(args[j]).grow f=r+bN f (args.take (j+1))):=by show _=_;rw[h1];omega
      have b5:(c:Int)+((args[j]).grow f:Int)<=1000000000:=by omega
      clear h1 M h3;generalize (args[j]).grow f=cj at*;go_wp2_with fail;refine (a.o _ (by exact ae _ _)).mono ?_;rintro e w3 ⟨rfl,z⟩;have U:=zH (J.o.trans (((ae wr (.cells #[.int .i64 k',.int .i64 v',.string s',.bool I,.slice A2 n2 c2,.slice B2 m3 d2,.slice Xr xl xc] 27)).trans (z.mono (ae wr _).size)).mono J.o.size));clear z e0 e1 e2 e3 e4 e5 e6 a;go_wp2_with fail
      go_roundg (gk-1)
      case measure=>omega
      case rel=>exact⟨j+1,c+cj,by omega,by go_num,by go_num,by omega,HZ,U.o⟩
     ·obtain rfl:j=l:=by omega
      have M:=HC.o;rw[zG (by rw[HL.o];exact zN _),<-E.o]at M;subst M;go_wp2_with fail;go_ret;exact⟨rfl,J.o⟩
  ·have c8:(k==1)=false:=zL S;obtain⟨r,Q⟩:∃ r:Nat,r=0:=⟨_,rfl⟩;have N:Yd (r<=10000):=by show _<=_;omega
   have E:=zH (O.o.2.2 S);rw[<-Q]at E;have C:=p;have F:=P;clear p P O S;have y6:=F.o.cell 6;simp only[L3]at y6;go_wp2_with fail
   go_loopg [5,27] l (fun gk s5 Z wr=>∃ j c:Nat,gk+j=l/\Z=.int .i64 (j:Int)/\s5=.int .i64 (c:Int)/\(c:Int)<=1000000000/\Yd (c=r+bN f (args.take j))/\Yd (zZ W wr))
   case atStart=>exact⟨0,r,by omega,rfl,by first|rfl|(congr 1;omega),by have:=N.o;omega,by unfold Yd;rw[List.take_zero];simp only[bN];omega,C.o⟩
   case round=>
    clear C F;obtain⟨j,c,b3,rfl,rfl,b2,HC,J⟩:=hrel;by_cases hj:j<l
    ·have m:j<args.length:=by rw[HL.o];exact hj
     have g:=q.o.trans (J.o.mono q.o.size);obtain⟨b,o,k',v',s',I,A2,n2,c2,B2,m3,d2,Xr,xl,xc,V,X,b4,e0,e1,e2,e3,e4,e5,e6⟩:=aZ HR.o HA.o g m;subst V;have h1:=i6 f args m;have M:=HC.o;have h3:=a3.o (j+1);have a:Yd (∀ d,zZ wr d->Calls prog 18 #[.agg (zX k' v' s' I A2 n2 c2 B2 m3 d2 Xr xl xc).toArray,.func (.func G) #[] #[zY bc]] d fun e w'=>e=.returned (.int .i64 ((args[j]).grow f:Int))/\zZ d w'):=fun d z=>by
      have:=IH.o j m d (g.trans (z.mono g.size));rw[X]at this;exact this
     have HZ:Yd (c+(args[j]).grow f=r+bN f (args.take (j+1))):=by show _=_;rw[h1];omega
     have b5:(c:Int)+((args[j]).grow f:Int)<=1000000000:=by omega
     clear h1 M h3;generalize (args[j]).grow f=cj at*;go_wp2_with fail;refine (a.o _ (by exact ae _ _)).mono ?_;rintro e w3 ⟨rfl,z⟩;have U:=zH (J.o.trans (((ae wr (.cells #[.int .i64 k',.int .i64 v',.string s',.bool I,.slice A2 n2 c2,.slice B2 m3 d2,.slice Xr xl xc] 27)).trans (z.mono (ae wr _).size)).mono J.o.size));clear z e0 e1 e2 e3 e4 e5 e6 a;go_wp2_with fail
     go_roundg (gk-1)
     case measure=>omega
     case rel=>exact⟨j+1,c+cj,by omega,by go_num,by go_num,by omega,HZ,U.o⟩
    ·obtain rfl:j=l:=by omega
     have M:=HC.o;rw[zG (by rw[HL.o];exact zN _),<-E.o]at M;subst M;go_wp2_with fail;go_ret;exact⟨rfl,J.o⟩
def Tm.zero:Tm:=.mk 0 0 ⟨#[]⟩ ⟨false,[],[]⟩ []
theorem TC.zero (w:World):TC w .zero [.int .i64 0,.int .i64 0,.string ⟨#[]⟩,.bool false,.slice none 0 0,.slice none 0 0,.slice none 0 0]:=
 .mk 0 0 ⟨#[]⟩ ⟨false,[],[]⟩ [] (.slice none 0 0) (.slice none 0 0) none 0 (fun _=>[]) ⟨by decide,by decide⟩ ⟨by decide,by decide⟩ (by decide) (dj _ _) (dj _ _) ⟨Ok.nil,Ok.nil⟩ zA (by decide) (fun h=>by simp at h) (fun i h=>by simp at h)
def gD (bs:List (Int×Tm)):Nat->Int
 |0 => -1
 |j+1=>(bs.getD j (0,Tm.zero)).1
theorem fb {a:List (Int×Tm)} {j:Nat} (h:j<a.length):gD a (j+1)=(a[j]).1:=by simp[gD,List.getD,h]
def fM (bs:List (Int×Tm)):Prop:=∀ j (h:j<bs.length),gD bs j<(bs[j]).1/\(bs[j]).2.check=0
theorem fM.incr {a:List (Int×Tm)} (h:fM a):eC a:=by
 intro i j g d c
 induction j with
 |zero=>omega
 |succ j f=>
  have b:=(h (j+1) d).1;rw[fb (by omega)]at b;by_cases e:i=j
  ·subst e;exact b
  ·have:=f (by omega) (by omega);omega
theorem fM.pos {a:List (Int×Tm)} (h:fM a) {j:Nat} (b:j<a.length):0<=(a[j]).1:=by
 induction j with
 |zero=>have:=(h 0 b).1;simp only[gD]at this;omega
 |succ j d=>
  have c:=(h (j+1) b).1;rw[fb (by omega)]at c;have:=d (by omega);omega
theorem uX {a:List (Int×Tm)} {v:Int} {x:Tm} (h:fnd a v=some x):∃ j,∃ b:j<a.length,(a[j]).2=x:=by
 unfold fnd at h;rw[Option.map_eq_some_iff]at h;obtain⟨p,c,rfl⟩:=h;obtain⟨j,b,e⟩:=List.getElem_of_mem (List.mem_of_find?_eq_some c);exact⟨j,b,by rw[e]⟩
theorem fM.fnd {a:List (Int×Tm)} (h:fM a) {v:Int} {x:Tm} (c:fnd a v=some x):x.err0=0/\x.count<=10000:=by
 obtain⟨j,b,rfl⟩:=uX c;have:=aQ (h j b).2;exact⟨this.2,this.1⟩
mutual
theorem Tm.free_sub:∀ (t:Tm) (l:List Int),∀ v,v∈l->v∈t.free l
 |.mk k v s n args,l=>fun u hu=>by
  rw[Tm.free];refine iz args _ u ?_
  split
  ·exact List.mem_append_left _ hu
  ·exact hu
theorem iz:∀ (ts:List Tm) (l:List Int),∀ v,v∈l->v∈bM ts l
 |[],l=>fun u hu=>by rw[bM];exact hu
 |t::ts,l=>fun u hu=>by rw[bM];exact iz ts _ u (t.free_sub l u hu)
end
mutual
theorem Tm.allV_free:∀ (t:Tm) (l:List Int),t.allV (· ∈ t.free l)
 |.mk k v s n args,l=>by
  rw[Tm.allV,Tm.free];refine⟨fun e=>iz args _ v ?_,ld args _⟩
  split
  ·exact List.mem_append_right _ (List.mem_singleton.2 rfl)
  ·next h=>exact Classical.byContradiction fun h2=>h ⟨e,h2⟩
theorem ld:∀ (ts:List Tm) (l:List Int),bL (· ∈ bM ts l) ts
 |[],l=>by rw[bL];trivial
 |t::ts,l=>by
  rw[bL,bM];exact⟨t.allV_mono (fun v hv=>iz ts _ v hv) (t.allV_free l),ld ts _⟩
end
theorem go {v:Int} (a:0<=v) (b:v<=1073741824):(Tm.var v).err0=0:=by
 rw[Tm.var,Tm.err0];have:=sO a b (LN.err ⟨false,[],[]⟩);simp only[List.length_nil];rw[if_pos this,bH]
mutual
theorem Tm.err0_repl {f:Int->Option Tm}:∀ (t:Tm),t.err0=0->t.allV (fun v=>∀ x,f v=some x->x.err0=0)->(t.repl f).err0=0
 |.mk k v s n args,h,hv=>by
  obtain⟨h1,h2⟩:=bB h;rw[Tm.allV]at hv;have h3:=nJ args h2 hv.2;have h4:(Tm.mk k v s n (cN f args)).err0=0:=by rw[Tm.err0,jS,if_pos h1];exact h3
  rw[Tm.repl]
  split
  ·next hk=>
   cases hx:f v with
   |none=>exact h4
   |some x=>exact hv.1 hk x hx
  ·exact h4
theorem nJ {f:Int->Option Tm}:∀ (l:List Tm),bH l=0->bL (fun v=>∀ x,f v=some x->x.err0=0) l->bH (cN f l)=0
 |[],_,_=>by rw[cN,bH]
 |t::l,h,hv=>by
  rw[bL]at hv;have h0:=dE h (j:=0) (by simp);simp only[List.getElem_cons_zero]at h0;rw[bH,if_pos h0]at h;rw[cN,bH,t.err0_repl h0 hv.1,if_pos rfl];exact nJ l h hv.2
end
theorem gV {f:Int->Option Tm} (d:∀ v x,f v=some x->x.count=1) (t:Tm) (h:t.err0=0):(t.repl f).count=t.count:=by
 have a:∀ t:Tm,t.grow f=0:=by
  intro t
  induction t using Tm.rec (motive_2:=fun l=>bN f l=0) with
  |mk k v s n b e=>
   rw[Tm.grow,e]
   split
   ·cases hx:f v with
    |none=>rfl
    |some x=>simp only[d v x hx]
   ·rfl
  |nil=>rw[bN]
  |cons t l a c=>rw[bN,a,c]
 rw[t.count_repl f (t.bare_of h),a t,Nat.add_zero]
inductive cS (t:Tm) (bs:List (Int×Tm)):Tm->Int->Prop
 |bad (h:t.check≠0):cS t bs .zero t.check
 |form (h:t.check=0) (h2:¬fM bs):cS t bs .zero 2
 |size (h:t.check=0) (h2:fM bs) (h3:10000<(t.repl (fnd bs)).count):cS t bs .zero 3
 |ok (h:t.check=0) (h2:fM bs) (h3:(t.repl (fnd bs)).count<=10000):cS t bs (t.repl (fnd bs)) 0
def Tm.okz (t:Tm):Prop:=t=.zero\/(t.err0=0/\t.count<=10000)
theorem cS.okz {t:Tm} {c:List (Int×Tm)} {x:Tm} {e:Int} (h:cS t c x e):x.okz:=by
 cases h with
 |bad h=>exact .inl rfl
 |form h a=>exact .inl rfl
 |size h a b=>exact .inl rfl
 |ok h a b=>
  refine .inr ⟨t.err0_repl (aQ h).2 (t.allV_mono (P:=fun _=>True) (fun v _ x d=>(a.fnd d).1) ?_),b⟩;exact Tm.allV_mono (fun _ _=>trivial) _ (t.allV_free [])
theorem cS.one {t:Tm} {i:List (Int×Tm)} {x y:Tm} {e g:Int} (h:cS t i x e) (c:cS t i y g):x=y/\e=g:=by
 cases h with
 |bad h=>cases c with
  |bad _=>exact⟨rfl,rfl⟩
  |form a _=>exact absurd a h
  |size a _ _=>exact absurd a h
  |ok a _ _=>exact absurd a h
 |form h a=>cases c with
  |bad d=>exact absurd h d
  |form _ _=>exact⟨rfl,rfl⟩
  |size _ b _=>exact absurd b a
  |ok _ b _=>exact absurd b a
 |size h a d=>cases c with
  |bad f=>exact absurd h f
  |form _ b=>exact absurd a b
  |size _ _ _=>exact⟨rfl,rfl⟩
  |ok _ _ b=>omega
 |ok h a d=>cases c with
  |bad f=>exact absurd h f
  |form _ b=>exact absurd a b
  |size _ _ b=>omega
  |ok _ _ _=>exact⟨rfl,rfl⟩
def DD (t:Tm) (by_:Int):Prop:=by_<0\/∃ v,v∈t.free []/\1073741824-by_<v
inductive eX (t:Tm) (by_:Int):Tm->Int->Prop
 |bad (h:t.check≠0):eX t by_ .zero t.check
 |arg (h:t.check=0) (h2:DD t by_):eX t by_ .zero 1
 |ok (h:t.check=0) (h2:¬DD t by_):eX t by_ (t.repl fun v=>some (.var (v+by_))) 0
theorem eO {t:Tm}:t.err0=0->t.allV (fun v=>0<=v/\v<=1073741824):=by
 induction t using Tm.rec (motive_2:=fun l=>bH l=0->bL (fun v=>0<=v/\v<=1073741824) l) with
 |mk k v s n e g=>
  intro h;obtain⟨c,d⟩:=bB h;rw[Tm.allV];refine⟨fun p=>?_,g d⟩;rcases al c with ⟨i,_⟩|⟨_,f,m,o,a⟩
  ·omega
  rcases a with a|a|a|a
  ·exact⟨a.2.1,a.2.2.1⟩
  ·omega
  ·omega
  ·omega
 |nil=>rw[bL];trivial
 |cons t l c d=>
  rename_i h
  have b:=dE h (j:=0) (by simp);simp only[List.getElem_cons_zero]at b;rw[bH,if_pos b]at h;rw[bL];exact⟨c b,d h⟩
mutual
theorem Tm.allV_and {P Q:Int->Prop}:∀ (t:Tm),t.allV P->t.allV Q->t.allV (fun v=>P v/\Q v)
 |.mk k v s n args,h,h'=>by
  rw[Tm.allV]at h h' ⊢;exact⟨fun e=>⟨h.1 e,h'.1 e⟩,ni args h.2 h'.2⟩
theorem ni {P Q:Int->Prop}:∀ (l:List Tm),bL P l->bL Q l->bL (fun v=>P v/\Q v) l
 |[],_,_=>by rw[bL];trivial
 |t::l,h,h'=>by
  rw[bL]at h h' ⊢;exact⟨t.allV_and h.1 h'.1,ni l h.2 h'.2⟩
end
theorem eX.okz {t:Tm} {a:Int} {x:Tm} {e:Int} (h:eX t a x e):x.okz:=by
 cases h with
 |bad h=>exact .inl rfl
 |arg h c=>exact .inl rfl
 |ok h c=>
  obtain⟨i,d⟩:=aQ h;refine .inr ⟨t.err0_repl d (Tm.allV_mono (fun v g x f=>?_) t (t.allV_and (t.allV_free []) (eO d))),?_⟩
  ·cases f;unfold DD at c;refine go ?_ ?_
   ·have b:¬a<0:=fun b=>c (.inl b);have:=g.2.1;omega
   ·have b:¬1073741824-a<v:=fun b=>c (.inr ⟨v,g.1,b⟩);omega
  ·rw[gV (fun v x f=>?_) t d]
   ·exact i
   ·cases f;rw[Tm.var,Tm.count,am]
theorem eX.one {t:Tm} {b:Int} {x y:Tm} {e g:Int} (h:eX t b x e) (c:eX t b y g):x=y/\e=g:=by
 cases h with
 |bad h=>cases c with
  |bad _=>exact⟨rfl,rfl⟩
  |arg a _=>exact absurd a h
  |ok a _=>exact absurd a h
 |arg h a=>cases c with
  |bad f=>exact absurd h f
  |arg _ _=>exact⟨rfl,rfl⟩
  |ok _ d=>exact absurd a d
 |ok h a=>cases c with
  |bad i=>exact absurd h i
  |arg _ d=>exact absurd d a
  |ok _ _=>exact⟨rfl,rfl⟩
def Tm.shp (t:Tm):List UInt8:=match t with
 |.mk k v s n args=>if k=0 then [] else (Tm.mk k v s n args).shapeL
theorem i9 {w:World} {t:Tm} {cs:List Value} (h:TC w t cs) (o:t.okz) (W:World) (f:zZ w W):
 Calls prog 6 #[.agg cs.toArray] W fun e i=>e=.returned (.string ⟨t.shp.toArray⟩)/\zZ W i:=by
 rcases o with rfl|⟨d,m⟩
 ·obtain⟨k,v,s,D,r,C,z,y,B,A,x,l,j,a⟩:=h.form;subst a;have p:k=0:=by cases h;rfl
  subst p;have g:(⟨Tm.zero.shp.toArray⟩:ByteArray)=⟨#[]⟩:=by rfl
  rw[g];clear h f g;go_enter func6,ntmps6;go_wp2_with fail;go_ret;exact⟨rfl,ae W _⟩
 ·have q:t.shp=t.shapeL:=by
   cases t with
   |mk k v s n c=>
    have b:k≠0:=by
     rcases al (bB d).1 with ⟨rfl,_⟩|⟨_,_,_,_,⟨rfl,_⟩|⟨rfl,_⟩|⟨rfl,_⟩|⟨rfl,_⟩⟩<;>decide
    simp only[Tm.shp,if_neg b]
  rw[q];exact pE h d m W f
theorem uY {t:Tm} (h:t.err0=0):∀ v,v∈t.free []->0<=v/\v<=1073741824:=by
 have e:∀ t:Tm,t.allV (fun v=>0<=v/\v<=1073741824)->∀ l,(∀ v,v∈l->0<=v/\v<=1073741824)->∀ v,v∈t.free l->0<=v/\v<=1073741824:=by
  intro t
  induction t using Tm.rec (motive_2:=fun f=>bL (fun v=>0<=v/\v<=1073741824) f->∀ l,(∀ v,v∈l->0<=v/\v<=1073741824)->∀ v,v∈bM f l->0<=v/\v<=1073741824) with
  |mk k v s n g m=>
   intro a l c;rw[Tm.allV]at a;rw[Tm.free];refine m a.2 _ fun u d=>?_
   split at d
   ·next hc=>
    rcases List.mem_append.1 d with h|h
    ·exact c u h
    ·rw[List.mem_singleton]at h;subst h;exact a.1 hc.1
   ·exact c u d
  |nil=>
   rename_i a l c v b
   rw[bM]at b;exact c v b
  |cons t f i j=>
   rename_i a l c v b
   rw[bL]at a;rw[bM]at b;exact j a.2 _ (i a.1 l c) v b
 exact e t (eO h) [] fun v b=>by cases b
end Go.Proofs.YtlhojoefhannnaaGreat
