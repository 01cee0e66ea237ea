/- term.Unifier: the most general unifier of two terms. And 4 more texts. -/
import Derived.Test.YtlhojoefhannnaaGreatJx23
set_option linter.unusedVariables false
set_option linter.unusedSimpArgs false
set_option maxRecDepth 100000
set_option maxHeartbeats 51200000
namespace Go.Proofs.YtlhojoefhannnaaGreat
open Go.Proofs.Tryz Go.RowKit NumB
def ir (a b:Tm):List Int:=Lib.compact ((a.free []++b.free []).mergeSort fun x y=>decide (x<=y))
theorem AO {a b:Tm} (f:a.err0=0) (g:b.err0=0) (o:a.count<=10000) (p:b.count<=10000):(ir a b).Pairwise (· < ·)/\(ir a b).length<=20000/\(∀ v,a.occ v->v∈ir a b)/\(∀ v,b.occ v->v∈ir a b)/\∀ v∈ir a b,0<=v/\v<=1073741824:=by
 obtain⟨i,j⟩:=lr (pG (a.free []++b.free []));have e:∀ v,v∈ir a b↔v∈a.free []\/v∈b.free []:=fun v=>by unfold ir;rw[j,wN,List.mem_append]
 have k:=lq ((a.free []++b.free []).mergeSort fun x y=>decide (x<=y));rw[List.length_mergeSort,zE]at k;have l:=ia a [];have m:=ia b [];simp only[List.length_nil]at l m;refine⟨i,by unfold ir;omega,fun v c=>(e v).2 (.inl (jc a (a.allV_free []) v c)),fun v c=>(e v).2 (.inr (jc b (b.allV_free []) v c)),fun v c=>?_⟩;rcases (e v).1 c with h|h
 ·exact uY f v h
 ·exact uY g v h
theorem sL {w:World} {a b:Tm} {ca cb:List Value} (ha:TC w a ca) (hb:TC w b cb) (W:World) (hW:zZ w W):
 Calls prog 8 #[.agg ca.toArray,.agg cb.toArray] W fun e W'=>∃ lv er ok bs,e=.returned (.tuple #[lv,.bool ok,.int .i64 er])/\eN a b er ok bs/\BL W' lv bs/\zZ W W':=by
 have e8:=zH ha;have e9:=zH hb;obtain⟨k1,v1,r,o,A1,n1,c1,B1,b1,d1,X1,l1,e1,x6⟩:=ha.form;obtain⟨k2,v2,C,p,A2,n2,c2,B2,b2,d2,X2,l2,e2,x7⟩:=hb.form;subst x6 x7;have a1:=zH hW;have e4:Yd (zZ W (((W.alloc (.cells #[.int .i64 k1,.int .i64 v1,.string r,.bool o,.slice A1 n1 c1,.slice B1 b1 d1,.slice X1 l1 e1] 27)).alloc (.cells #[.int .i64 k2,.int .i64 v2,.string C,.bool p,.slice A2 n2 c2,.slice B2 b2 d2,.slice X2 l2 e2] 27)).alloc (.cells #[.int .i64 k1,.int .i64 v1,.string r,.bool o,.slice A1 n1 c1,.slice B1 b1 d1,.slice X1 l1 e1,.int .i64 k2,.int .i64 v2,.string C,.bool p,.slice A2 n2 c2,.slice B2 b2 d2,.slice X2 l2 e2] 27))):=(ax W _ _).alloc (by simp;omega) _;have n3:Yd (ah (((W.alloc (.cells #[.int .i64 k1,.int .i64 v1,.string r,.bool o,.slice A1 n1 c1,.slice B1 b1 d1,.slice X1 l1 e1] 27)).alloc (.cells #[.int .i64 k2,.int .i64 v2,.string C,.bool p,.slice A2 n2 c2,.slice B2 b2 d2,.slice X2 l2 e2] 27)).alloc (.cells #[.int .i64 k1,.int .i64 v1,.string r,.bool o,.slice A1 n1 c1,.slice B1 b1 d1,.slice X1 l1 e1,.int .i64 k2,.int .i64 v2,.string C,.bool p,.slice A2 n2 c2,.slice B2 b2 d2,.slice X2 l2 e2] 27)) W.heap.size 27 (zX k1 v1 r o A1 n1 c1 B1 b1 d1 X1 l1 e1).toArray):=by unfold Yd ah;repeat (first|exact aY (by simp)|rw[aP (by simp<;>omega)])
 have n4:Yd (ah (((W.alloc (.cells #[.int .i64 k1,.int .i64 v1,.string r,.bool o,.slice A1 n1 c1,.slice B1 b1 d1,.slice X1 l1 e1] 27)).alloc (.cells #[.int .i64 k2,.int .i64 v2,.string C,.bool p,.slice A2 n2 c2,.slice B2 b2 d2,.slice X2 l2 e2] 27)).alloc (.cells #[.int .i64 k1,.int .i64 v1,.string r,.bool o,.slice A1 n1 c1,.slice B1 b1 d1,.slice X1 l1 e1,.int .i64 k2,.int .i64 v2,.string C,.bool p,.slice A2 n2 c2,.slice B2 b2 d2,.slice X2 l2 e2] 27)) (W.heap.size+1) 27 (zX k2 v2 C p A2 n2 c2 B2 b2 d2 X2 l2 e2).toArray):=by unfold Yd ah;repeat (first|exact aY (by simp)|rw[aP (by simp<;>omega)])
 have h7:Yd (Calls prog 27 #[.slice (some ⟨W.heap.size+2,0,none⟩) 2 2] (((W.alloc (.cells #[.int .i64 k1,.int .i64 v1,.string r,.bool o,.slice A1 n1 c1,.slice B1 b1 d1,.slice X1 l1 e1] 27)).alloc (.cells #[.int .i64 k2,.int .i64 v2,.string C,.bool p,.slice A2 n2 c2,.slice B2 b2 d2,.slice X2 l2 e2] 27)).alloc (.cells #[.int .i64 k1,.int .i64 v1,.string r,.bool o,.slice A1 n1 c1,.slice B1 b1 d1,.slice X1 l1 e1,.int .i64 k2,.int .i64 v2,.string C,.bool p,.slice A2 n2 c2,.slice B2 b2 d2,.slice X2 l2 e2] 27)) fun e w'=>e=.returned (.int .i64 (cW [a,b]))/\Below ((((W.alloc (.cells #[.int .i64 k1,.int .i64 v1,.string r,.bool o,.slice A1 n1 c1,.slice B1 b1 d1,.slice X1 l1 e1] 27)).alloc (.cells #[.int .i64 k2,.int .i64 v2,.string C,.bool p,.slice A2 n2 c2,.slice B2 b2 d2,.slice X2 l2 e2] 27)).alloc (.cells #[.int .i64 k1,.int .i64 v1,.string r,.bool o,.slice A1 n1 c1,.slice B1 b1 d1,.slice X1 l1 e1,.int .i64 k2,.int .i64 v2,.string C,.bool p,.slice A2 n2 c2,.slice B2 b2 d2,.slice X2 l2 e2] 27))).heap.size (((W.alloc (.cells #[.int .i64 k1,.int .i64 v1,.string r,.bool o,.slice A1 n1 c1,.slice B1 b1 d1,.slice X1 l1 e1] 27)).alloc (.cells #[.int .i64 k2,.int .i64 v2,.string C,.bool p,.slice A2 n2 c2,.slice B2 b2 d2,.slice X2 l2 e2] 27)).alloc (.cells #[.int .i64 k1,.int .i64 v1,.string r,.bool o,.slice A1 n1 c1,.slice B1 b1 d1,.slice X1 l1 e1,.int .i64 k2,.int .i64 v2,.string C,.bool p,.slice A2 n2 c2,.slice B2 b2 d2,.slice X2 l2 e2] 27)) w'):=by
  have hk:ah (((W.alloc (.cells #[.int .i64 k1,.int .i64 v1,.string r,.bool o,.slice A1 n1 c1,.slice B1 b1 d1,.slice X1 l1 e1] 27)).alloc (.cells #[.int .i64 k2,.int .i64 v2,.string C,.bool p,.slice A2 n2 c2,.slice B2 b2 d2,.slice X2 l2 e2] 27)).alloc (.cells #[.int .i64 k1,.int .i64 v1,.string r,.bool o,.slice A1 n1 c1,.slice B1 b1 d1,.slice X1 l1 e1,.int .i64 k2,.int .i64 v2,.string C,.bool p,.slice A2 n2 c2,.slice B2 b2 d2,.slice X2 l2 e2] 27)) (W.heap.size+2) 27 #[.int .i64 k1,.int .i64 v1,.string r,.bool o,.slice A1 n1 c1,.slice B1 b1 d1,.slice X1 l1 e1,.int .i64 k2,.int .i64 v2,.string C,.bool p,.slice A2 n2 c2,.slice B2 b2 d2,.slice X2 l2 e2]:=by unfold ah;exact aY (by simp)
  exact th (AJ e8.o e9.o (a1.o.trans (e4.o.mono a1.o.size)) hk) _ zB
 have HZ:Yd (cW [a,b]=0->a.check=0/\b.check=0):=fun h=>by
  unfold cW at h;by_cases h1:a.check=0
  ·rw[if_pos h1]at h;unfold cW at h;by_cases h2:b.check=0
   ·exact⟨h1,h2⟩
   ·rw[if_neg h2]at h;exact absurd h h2
  ·rw[if_neg h1]at h;exact absurd h h1
 have e5:=zH (@eN.bad a b);obtain⟨me,a9⟩:∃ me,cW [a,b]=me:=⟨_,rfl⟩;rw[a9]at h7 HZ e5;have i0:=zH a9;have A6:=@run_makeMap prog;clear ha hb hW a9;go_enter func8,ntmps8;go_wp2_with fail;refine h7.o.mono ?_;rintro e w1 ⟨rfl,b3⟩;have a6:=zH (e4.o.trans (b3.mono e4.o.size));have a4:=zH (n3.o.to b3);have a5:=zH (n4.o.to b3);clear b3 e4 n3 n4 h7;by_cases a9:me=0
 rotate_left
 ·have hb:(me==0)=false:=zL a9;have HR:=zH (e5.o a9);clear HZ e5 a9;go_wp2_with fail;refine bodyPost_ret (v:=.tuple #[.slice none 0 0,.bool false,.int .i64 me]) (by rw[bS rfl];rfl) rfl ?_;exact⟨.slice none 0 0,me,false,[],rfl,HR.o,⟨none,0,fun _=>[],rfl,zN _,by unfold maxLen;omega,fun h=>absurd h (by simp),fun i h=>absurd h (by simp)⟩,a6.o⟩
 subst a9;obtain⟨q0,q3⟩:=HZ.o rfl;obtain⟨i4,j3⟩:=aQ q0;obtain⟨j0,j4⟩:=aQ q3;obtain⟨la,g3⟩:∃ la,a.free []=la:=⟨_,rfl⟩;obtain⟨lb,g4⟩:∃ lb,b.free []=lb:=⟨_,rfl⟩;have d5:=zH (AO j3 j4 i4 j0);have i3:Yd (ir a b=Lib.compact ((la++lb).mergeSort fun x y=>decide (x<=y))):=by show _=_;unfold ir;rw[g3,g4]
 have e6:Yd (la.length+lb.length<=1000000):=by
  have l1:=ia a [];have l2:=ia b [];rw[g3]at l1;rw[g4]at l2;simp only[List.length_nil]at l1 l2;show _<=_;omega
 have b8:Yd (a.count<=10000/\b.count<=10000/\a.err0=0/\b.err0=0):=⟨i4,j0,j3,j4⟩;have m8:Yd (∀ W',Below w1.heap.size w1.drew W'->Calls prog 31 #[.agg (zX k1 v1 r o A1 n1 c1 B1 b1 d1 X1 l1 e1).toArray] W' fun e l=>∃ ov,e=.returned ov/\l.ownsRow W'.heap.size 3 1 ov la.length (la.map (Value.int .i64))/\zZ W' l):=fun W' I=>by
  have h:=rh e8.o (by omega) W' ((a1.o.trans (a6.o.mono a1.o.size)).drew.trans (I.mono (a1.o.trans (a6.o.mono a1.o.size)).size));rw[g3]at h;exact h
 have n0:Yd (∀ W',Below w1.heap.size w1.drew W'->Calls prog 31 #[.agg (zX k2 v2 C p A2 n2 c2 B2 b2 d2 X2 l2 e2).toArray] W' fun e l=>∃ ov,e=.returned ov/\l.ownsRow W'.heap.size 3 1 ov lb.length (lb.map (Value.int .i64))/\zZ W' l):=fun W' I=>by
  have h:=rh e9.o (by omega) W' ((a1.o.trans (a6.o.mono a1.o.size)).drew.trans (I.mono (a1.o.trans (a6.o.mono a1.o.size)).size));rw[g4]at h;exact h
 have a4:=zH a4.o.drew;have a5:=zH a5.o.drew;clear HZ e5 q0 q3 i4 j3 j0 j4 g3 g4;go_wp2_with fail;refine wp_region_held_drew (S:=fun _=>True) (by kernel_rfl) trivial (fun hHeld=>?_);refine fw [0,1,2,3,4,5,6,7,8,9] (fun aa L a W'=>∃ T M U O P V Q X s8,a=(((((((((aa.put (some 26) T).put (some 27) M).put (some 28) U).put (some 29) O).put (some 30) P).put (some 31) V).put (some 32) Q).put (some 33) X).put (some 8) s8)/\VI w1.drew la lb (.agg #[.int .i64 k1,.int .i64 v1,.string r,.bool o,.slice A1 n1 c1,.slice B1 b1 d1,.slice X1 l1 e1]) (.agg #[.int .i64 k2,.int .i64 v2,.string C,.bool p,.slice A2 n2 c2,.slice B2 b2 d2,.slice X2 l2 e2]) L T M U O P V Q X s8 W') (by kernel_rfl) (by kernel_rfl) (by decide) (by kernel_rfl) ?hS ?init ?steps ?done
 case hS=>exact fun _ _ _ _=>trivial
 case init=>
  refine⟨undef,undef,undef,undef,undef,undef,undef,undef,undef,(by simp only[Act.put,L1]),Below.refl _ _,?_,?_,⟨0,by decide,by decide,by decide,by decide,by decide,by decide,by decide,trivial⟩,?_,?_⟩<;>(intro h;exact absurd h (by decide))
 case steps=>
  refine aO.cons (i:=0) rfl ?_ (aO.cons (i:=1) rfl ?_ (aO.cons (i:=2) rfl ?_ (aO.cons (i:=3) rfl ?_ (aO.cons (i:=4) rfl ?_ (aO.cons (i:=5) rfl ?_ (aO.cons (i:=6) rfl ?_ (aO.cons (i:=7) rfl ?_ (aO.cons (i:=8) rfl ?_ (aO.cons (i:=9) rfl ?_ aO.nil)))))))))
  ·rintro L a W' ⟨T,M,U,O,P,V,Q,X,s8,rfl,hI⟩ hL g K hK;have D:=zH hI;have HL:=zH hL;clear hI;simp only[Act.put,L1];clear hL g;have t0:=(a4.o.to D.o.be).cell 0;have t1:=(a4.o.to D.o.be).cell 1;have t2:=(a4.o.to D.o.be).cell 2;have t3:=(a4.o.to D.o.be).cell 3;have t4:=(a4.o.to D.o.be).cell 4;have t5:=(a4.o.to D.o.be).cell 5;have t6:=(a4.o.to D.o.be).cell 6;simp only[L3]at t0 t1 t2 t3 t4 t5 t6;go_simp;exact hK.out _ _ ⟨.agg #[.int .i64 k1,.int .i64 v1,.string r,.bool o,.slice A1 n1 c1,.slice B1 b1 d1,.slice X1 l1 e1],M,U,O,P,V,Q,X,s8,(by simp only[Act.put,L1]),D.o.load0⟩
  ·rintro L a W' ⟨T,M,U,O,P,V,Q,X,s8,rfl,hI⟩ hL g K hK;have D:=zH hI;have HL:=zH hL;clear hI;simp only[Act.put,L1];have hd:L 0=true:=by simp[Region.binds]at g;simp[g]
   have HD:=zH hd;clear hd hL g;obtain rfl:=D.o.r0 HD.o;go_simp;refine (m8.o _ D.o.be).mono ?_;rintro e l ⟨ov,rfl,J,hb⟩;exact hK.out _ _ ⟨.agg #[.int .i64 k1,.int .i64 v1,.string r,.bool o,.slice A1 n1 c1,.slice B1 b1 d1,.slice X1 l1 e1],ov,U,O,P,V,Q,X,s8,(by simp only[Act.put,L1]),D.o.next 0 (by decide) HL.o (fun h=>absurd h (by decide)) (hb.mono D.o.be.size) (aD.of_below (ts:=[]) hb) (by simp) fun _=>Joins.ownsRow_le J D.o.be.size⟩
  ·rintro L a W' ⟨T,M,U,O,P,V,Q,X,s8,rfl,hI⟩ hL g K hK;have D:=zH hI;have HL:=zH hL;clear hI;simp only[Act.put,L1];clear hL g;have t0:=(a5.o.to D.o.be).cell 0;have t1:=(a5.o.to D.o.be).cell 1;have t2:=(a5.o.to D.o.be).cell 2;have t3:=(a5.o.to D.o.be).cell 3;have t4:=(a5.o.to D.o.be).cell 4;have t5:=(a5.o.to D.o.be).cell 5;have t6:=(a5.o.to D.o.be).cell 6;simp only[L3]at t0 t1 t2 t3 t4 t5 t6;go_simp;exact hK.out _ _ ⟨T,M,.agg #[.int .i64 k2,.int .i64 v2,.string C,.bool p,.slice A2 n2 c2,.slice B2 b2 d2,.slice X2 l2 e2],O,P,V,Q,X,s8,(by simp only[Act.put,L1]),D.o.load2⟩
  ·rintro L a W' ⟨T,M,U,O,P,V,Q,X,s8,rfl,hI⟩ hL g K hK;have D:=zH hI;have HL:=zH hL;clear hI;simp only[Act.put,L1];have hd:L 2=true/\L 1=true:=by simp[Region.binds]at g;simp[g]
   have HD:=zH hd;clear hd hL g;obtain rfl:=D.o.r2 HD.o.1;go_simp;refine (n0.o _ D.o.be).mono ?_;rintro e l ⟨ov,rfl,J,hb⟩;exact hK.out _ _ ⟨T,M,.agg #[.int .i64 k2,.int .i64 v2,.string C,.bool p,.slice A2 n2 c2,.slice B2 b2 d2,.slice X2 l2 e2],ov,P,V,Q,X,s8,(by simp only[Act.put,L1]),D.o.next 1 (by decide) HL.o (fun _=>HD.o.2) (hb.mono D.o.be.size) (aD.of_below (ts:=[]) hb) (by simp) fun h=>⟨dw.below h hb,Joins.ownsRow_le J D.o.be.size⟩⟩
  ·rintro L a W' ⟨T,M,U,O,P,V,Q,X,s8,rfl,hI⟩ hL g K hK;have D:=zH hI;have HL:=zH hL;clear hI;simp only[Act.put,L1];have hd:L 1=true/\L 3=true:=by simp[Region.binds]at g;simp[g]
   have HD:=zH hd;clear hd hL g;have a2:=D.o.at 2 (by decide) HL.o (fun _=>HD.o.2);refine Eq.mpr (if_pos (by first|rfl|kernel_rfl)) ?_;refine mH (.tmp 27) (.tmp 29) ?_ (v:=M) (y:=O) ?_ ?_ D.o.be.size a2.1 a2.2 e6.o ?_
   iterate 3 rfl
   rintro v' w' J hb hf;clear a2
   (try simp only[Act.put,L1,L2])
   exact hK.out _ _ ⟨T,M,U,O,v',V,Q,X,s8,(by simp only[Act.put,L1]),D.o.next 2 (by decide) HL.o (fun _=>HD.o.2) hb hf (by decide) fun _=>J⟩
  ·rintro L a W' ⟨T,M,U,O,P,V,Q,X,s8,rfl,hI⟩ hL g K hK;have D:=zH hI;have HL:=zH hL;clear hI;simp only[Act.put,L1];have hd:L 4=true:=by simp[Region.binds]at g;simp[g]
   have HD:=zH hd;clear hd hL g;have a2:=D.o.at 3 (by decide) HL.o (fun _=>HD.o);obtain⟨G0,d7,q9⟩:=bQ a2;rw[zE]at q9;subst q9;have v8:=zH a2;clear a2;go_simp;refine (uH _ _ _ _).mono ?_;rintro e l ⟨rfl,rfl⟩;have hb:=ae W' (.cells #[.slice G0 (la.length+lb.length) d7] 54);exact hK.out _ _ ⟨T,M,U,O,.slice G0 (la.length+lb.length) d7,.func (.func 56) #[] #[.pointer (some ⟨W'.heap.size,0,none⟩)],Q,X,s8,(by simp only[Act.put,L1]),D.o.next 3 (by decide) HL.o (fun _=>HD.o) (hb.mono D.o.be.size) (aD.of_below (ts:=[]) hb) (by simp) fun _=>⟨⟨_,rfl,by simp,(ah.new W' 54 #[.slice G0 (la.length+lb.length) d7]).cell 0⟩,dw.below v8.o hb⟩⟩
  ·rintro L a W' ⟨T,M,U,O,P,V,Q,X,s8,rfl,hI⟩ hL g K hK;have D:=zH hI;have HL:=zH hL;clear hI;simp only[Act.put,L1];have hd:L 5=true:=by simp[Region.binds]at g;simp[g]
   have HD:=zH hd;clear hd hL g;have a2:=D.o.at 4 (by decide) HL.o (fun _=>HD.o);obtain⟨⟨k,rfl,hk,hc⟩,hr⟩:=a2;have c6:=zH (sB k P (la++lb) (by rw[zE];exact e6.o) W' hk hc (fC.of_row hr zA));clear hk hc hr;go_simp;refine c6.o.mono ?_;rintro e l ⟨v,rfl,J,hb⟩;exact hK.out _ _ ⟨T,M,U,O,P,.func (.func 56) #[] #[.pointer (some ⟨k,0,none⟩)],v,X,s8,(by simp only[Act.put,L1]),D.o.next 4 (by decide) HL.o (fun _=>HD.o) (hb.mono D.o.be.size) (aD.of_below (ts:=[]) hb) (by simp) fun _=>(by unfold SF dw;rw[List.length_mergeSort];exact Joins.ownsRow_le J D.o.be.size)⟩
  ·rintro L a W' ⟨T,M,U,O,P,V,Q,X,s8,rfl,hI⟩ hL g K hK;have D:=zH hI;have HL:=zH hL;clear hI;simp only[Act.put,L1];have hd:L 6=true:=by simp[Region.binds]at g;simp[g]
   have HD:=zH hd;clear hd hL g;have a2:=D.o.at 5 (by decide) HL.o (fun _=>HD.o);have c6:=zH (oW _ (by rw[List.length_mergeSort,zE];exact e6.o) W' D.o.be.size a2);clear a2;go_simp;refine c6.o.mono ?_;rintro e l ⟨v,rfl,J,hb,hf⟩;exact hK.out _ _ ⟨T,M,U,O,P,V,Q,v,s8,(by simp only[Act.put,L1]),D.o.next 5 (by decide) HL.o (fun _=>HD.o) hb hf (by decide) fun _=>J⟩
  ·rintro L a W' ⟨T,M,U,O,P,V,Q,X,s8,rfl,hI⟩ hL g K hK;have D:=zH hI;have HL:=zH hL;clear hI;simp only[Act.put,L1];clear hL g;go_simp;exact hK.out _ _ ⟨T,M,U,O,P,V,Q,X,(.pointer (some ⟨W'.heap.size,0,none⟩)),(by simp only[Act.put,L1]),D.o.alloc8 HL.o⟩
  ·rintro L a W' ⟨T,M,U,O,P,V,Q,X,s8,rfl,hI⟩ hL g K hK;have D:=zH hI;have HL:=zH hL;clear hI;simp only[Act.put,L1];have hd:L 8=true/\L 7=true:=by simp[Region.binds]at g;simp[g]
   have HD:=zH hd;clear hd hL g;obtain⟨k,rfl,⟨u,hu⟩,k0,⟨Ax,nx,cx,rfl⟩,p2⟩:=D.o.store9 HD.o.2 HD.o.1;have v3:=zH p2;clear p2;go_simp;exact hK.out _ _ ⟨T,M,U,O,P,V,Q,.slice Ax nx cx,(.pointer (some ⟨k,0,none⟩)),(by simp only[Act.put,L1]),v3.o⟩
 case done=>
  rintro L a w4 ⟨T,M,U,O,P,V,Q,X,s8,rfl,hI⟩ f7;simp only[Act.put,L1];obtain⟨J,k,rfl,hk,k5⟩:=hI.end (f7 7 (by decide)) (f7 8 (by decide)) (f7 9 (by decide));have h0:Yd (zZ w1 w4):=(Below.refl w1.heap.size w1).drew.trans hI.be;have h8:=zH (a4.o.to hI.be);have h9:=zH (a5.o.to hI.be);clear hI f7 hHeld m8 n0 e6 a4 a5;rw[<-i3.o]at J;generalize ir a b=m at d5 i3 J;clear i3 la lb;obtain⟨A0,c0,z4⟩:=bQ J;subst z4;have o0:=zH J;have n5:=zH k5;have z9:Yd (W.heap.size<=k/\k<w4.heap.size):=⟨zC a6.o.size hk,k5.lt⟩;clear J k5 hk;obtain⟨nl,k8⟩:∃ nl,m.length=nl:=⟨_,rfl⟩;have a0:=zH k8;rw[k8];clear k8;go_wp2_with fail;refine (ku _).mono ?_;rintro e w5 ⟨rfl,rfl⟩;have e7:Yd (NV w4 (w4.heap.size+1+1) w4.heap.size (w4.heap.size+1) m none 0 0 (((w4.alloc (.map #[] 0)).alloc (.cells #[.map (some w4.heap.size)] 67)).alloc (.cells #[.slice none 0 0,.slice none 0 0,.slice none 0 0] 95))):=by
   refine⟨⟨?_,by omega,World.ownsRow_nil _ _ _ _⟩,fun _=>⟨rfl,rfl⟩,⟨_,.empty (c:=0) ?_,fun v=>?_⟩,?_,?_,zN _⟩
   ·unfold ah;repeat (first|exact aY (by simp)|rw[aP (by simp<;>omega)])
   ·rw[aP (by simp<;>omega),aP (by simp<;>omega)];exact aY (by simp)
   ·rw[List.take_zero,if_neg (by simp)]
   ·unfold ah;repeat (first|exact aY (by simp)|rw[aP (by simp<;>omega)])
   ·exact ((ax w4 _ _).alloc (by simp;omega) _)
  have l6:=(n5.o.to e7.o.be).cell 0;simp only[List.getElem?_toArray,List.getElem?_cons_zero,a0.o]at l6;have y6:=d5.o.2.1;rw[a0.o]at y6;go_wp2_with fail;generalize (((w4.alloc (.map #[] 0)).alloc (.cells #[.map (some w4.heap.size)] 67)).alloc (.cells #[.slice none 0 0,.slice none 0 0,.slice none 0 0] 95))=w5 at e7 l6 ⊢;clear l6
  go_loopg [38] nl (fun gk z6 wr=>∃ (j:Nat) (A:Option Addr) (c:Nat),gk+j=nl/\z6=.int .i64 (j:Int)/\Yd (NV w4 (w4.heap.size+1+1) w4.heap.size (w4.heap.size+1) m A c j wr))
  case atStart=>exact⟨0,none,0,by omega,rfl,e7.o⟩
  case round=>
   clear e7;obtain⟨j,A,c,A5,rfl,HN⟩:=hrel;by_cases hj:j<nl
   ·have k4:j<m.length:=by rw[a0.o];exact hj
    have a7:=o0.o.below HN.o.be;obtain⟨G0,d7,e0⟩:=Joins.ownsRow_form a7 (by omega);simp only[Value.slice.injEq,true_and]at e0;obtain⟨rfl,rfl⟩:=e0;have x0:=a7.cellAt j (by simpa using k4);rw[show (m.map (Value.int .i64))[j]?=some (.int .i64 m[j]) by simp[k4]]at x0;have i1:=zH (ue d5.o.1 k4 (by rw[a0.o];omega) (by omega) HN.o.drew);have b0:=HN.o.drew.bx.cell 0;simp only[List.getElem?_toArray,List.getElem?_cons_zero]at b0;generalize m[j]=vj at x0 i1;clear a7;go_wp2_with fail
    go_region_held3 (fun w'=>w'.cell? ⟨w4.heap.size+1,0,none⟩=some (.map (some w4.heap.size)))
     (with_reducible assumption)
     (first
      |(go_at_call 33;(with_reducible refine i1.o.mono ?_);rintro e y2 ⟨z2,rfl,g5,v0,y7,y8⟩))
    clear i1 b0 y7 y8 g5 x0;go_wp2_with fail
    go_roundg (gk-1)
    case measure=>omega
    case rel=>
     obtain⟨A',c',hn⟩:=v0.o;exact⟨j+1,A',c',by omega,by go_num,hn⟩
   ·have y0:j=nl:=by omega
    subst y0;obtain⟨G,cG,r0⟩:=HN.o.hsn;obtain⟨gm,q5,k3⟩:=HN.o.mp;obtain⟨hs,c9,b4,b5,b6⟩:=d5.o;have j5:=HN.o.bx;have a3:=zH HN.o.be;have g9:zZ w wr:=a1.o.trans ((a6.o.trans ((h0.o.trans (a3.o.mono h0.o.size)).mono a6.o.size)).mono a1.o.size);have A3:=zH g9;have w0:=zH r0;rw[zG (by rw[a0.o];exact zN _)]at k3;have j7:∀ p0 w,(callFunc 34 p0).run prog w=.ok (.enter 34 p0) w:=enters_of func34 (by kernel_rfl) rfl;have l4:∀ v x,(fun v=>some (Tm.var (eW m v))) v=some x->x.sm:=fun v x e=>by
     cases e;unfold Tm.var;rw[Tm.sm,xT];exact⟨by simp,by simp,by simp,trivial⟩
    have k6:∀ v W',zZ wr W'->Calls prog 34 #[.int .i64 v,.pointer (some ⟨w4.heap.size+1,0,none⟩)] W' fun e l=>∃ cx tx,e=.returned (.tuple #[.agg cx.toArray,.bool ((fun v=>some (Tm.var (eW m v))) v).isSome])/\TC l tx cx/\(∀ x,(fun v=>some (Tm.var (eW m v))) v=some x->tx=x)/\zZ W' l:=fun v W' I=>by
     refine (tU (w4.heap.size+1) w4.heap.size _ m (by omega) (j5.cell 0) j5.lt q5 k3 v W' I).mono ?_;rintro e l ⟨cx,tx,rfl,h1,rfl,h2⟩;exact⟨cx,_,rfl,h1,fun x e=>zI e,h2⟩
    have f0:Yd (∀ W',zZ w4 W'->(W'.cell? ⟨W.heap.size,0,none⟩=some (.int .i64 k1)/\W'.cell? ⟨W.heap.size,1,none⟩=some (.int .i64 v1)/\W'.cell? ⟨W.heap.size,2,none⟩=some (.string r)/\W'.cell? ⟨W.heap.size,3,none⟩=some (.bool o)/\W'.cell? ⟨W.heap.size,4,none⟩=some (.slice A1 n1 c1)/\W'.cell? ⟨W.heap.size,5,none⟩=some (.slice B1 b1 d1)/\W'.cell? ⟨W.heap.size,6,none⟩=some (.slice X1 l1 e1)/\W'.cell? ⟨W.heap.size+1,0,none⟩=some (.int .i64 k2)/\W'.cell? ⟨W.heap.size+1,1,none⟩=some (.int .i64 v2)/\W'.cell? ⟨W.heap.size+1,2,none⟩=some (.string C)/\W'.cell? ⟨W.heap.size+1,3,none⟩=some (.bool p)/\W'.cell? ⟨W.heap.size+1,4,none⟩=some (.slice A2 n2 c2)/\W'.cell? ⟨W.heap.size+1,5,none⟩=some (.slice B2 b2 d2)/\W'.cell? ⟨W.heap.size+1,6,none⟩=some (.slice X2 l2 e2))):=fun W' I=>by
     have h1:=h8.o.to I;have h2:=h9.o.to I;exact⟨h1.cell 0,h1.cell 1,h1.cell 2,h1.cell 3,h1.cell 4,h1.cell 5,h1.cell 6,h2.cell 0,h2.cell 1,h2.cell 2,h2.cell 3,h2.cell 4,h2.cell 5,h2.cell 6⟩
    obtain⟨x,d0⟩:∃ x,(a.sb fun v=>.var (eW m v))=x:=⟨_,rfl⟩;obtain⟨y,d3⟩:∃ y,(b.sb fun v=>.var (eW m v))=y:=⟨_,rfl⟩;have o8:=zH d0;have o9:=zH d3;have n8:Yd (∀ W',zZ wr W'->Calls prog 19 #[.agg (zX k1 v1 r o A1 n1 c1 B1 b1 d1 X1 l1 e1).toArray,.func (.func 34) #[] #[.pointer (some ⟨w4.heap.size+1,0,none⟩)]] W' fun e l=>∃ Y,e=.returned (.agg Y.toArray)/\Yd (gP (W'.heap.size+1) l x Y/\zZ W' l/\zZ wr l)/\(l.cell? ⟨W.heap.size,0,none⟩=some (.int .i64 k1)/\l.cell? ⟨W.heap.size,1,none⟩=some (.int .i64 v1)/\l.cell? ⟨W.heap.size,2,none⟩=some (.string r)/\l.cell? ⟨W.heap.size,3,none⟩=some (.bool o)/\l.cell? ⟨W.heap.size,4,none⟩=some (.slice A1 n1 c1)/\l.cell? ⟨W.heap.size,5,none⟩=some (.slice B1 b1 d1)/\l.cell? ⟨W.heap.size,6,none⟩=some (.slice X1 l1 e1)/\l.cell? ⟨W.heap.size+1,0,none⟩=some (.int .i64 k2)/\l.cell? ⟨W.heap.size+1,1,none⟩=some (.int .i64 v2)/\l.cell? ⟨W.heap.size+1,2,none⟩=some (.string C)/\l.cell? ⟨W.heap.size+1,3,none⟩=some (.bool p)/\l.cell? ⟨W.heap.size+1,4,none⟩=some (.slice A2 n2 c2)/\l.cell? ⟨W.heap.size+1,5,none⟩=some (.slice B2 b2 d2)/\l.cell? ⟨W.heap.size+1,6,none⟩=some (.slice X2 l2 e2))):=fun W' I=>by
     refine (i8 (w:=wr) 34 (w4.heap.size+1) j7 _ l4 k6 (e8.o.to g9) (e8.o.sm b8.o.2.2.1) W' I).mono ?_;rintro e l ⟨Y,rfl,h1,h2⟩;have h3:=I.trans (h2.mono I.size);rw[<-d0];exact⟨Y,rfl,⟨h1,h2,h3⟩,f0.o _ (a3.o.trans (h3.mono a3.o.size))⟩
    have n9:Yd (∀ W',zZ wr W'->Calls prog 19 #[.agg (zX k2 v2 C p A2 n2 c2 B2 b2 d2 X2 l2 e2).toArray,.func (.func 34) #[] #[.pointer (some ⟨w4.heap.size+1,0,none⟩)]] W' fun e l=>∃ Y,e=.returned (.agg Y.toArray)/\Yd (gP (W'.heap.size+1) l y Y/\zZ W' l/\zZ wr l)/\(l.cell? ⟨W.heap.size,0,none⟩=some (.int .i64 k1)/\l.cell? ⟨W.heap.size,1,none⟩=some (.int .i64 v1)/\l.cell? ⟨W.heap.size,2,none⟩=some (.string r)/\l.cell? ⟨W.heap.size,3,none⟩=some (.bool o)/\l.cell? ⟨W.heap.size,4,none⟩=some (.slice A1 n1 c1)/\l.cell? ⟨W.heap.size,5,none⟩=some (.slice B1 b1 d1)/\l.cell? ⟨W.heap.size,6,none⟩=some (.slice X1 l1 e1)/\l.cell? ⟨W.heap.size+1,0,none⟩=some (.int .i64 k2)/\l.cell? ⟨W.heap.size+1,1,none⟩=some (.int .i64 v2)/\l.cell? ⟨W.heap.size+1,2,none⟩=some (.string C)/\l.cell? ⟨W.heap.size+1,3,none⟩=some (.bool p)/\l.cell? ⟨W.heap.size+1,4,none⟩=some (.slice A2 n2 c2)/\l.cell? ⟨W.heap.size+1,5,none⟩=some (.slice B2 b2 d2)/\l.cell? ⟨W.heap.size+1,6,none⟩=some (.slice X2 l2 e2))):=fun W' I=>by
     refine (i8 (w:=wr) 34 (w4.heap.size+1) j7 _ l4 k6 (e9.o.to g9) (e9.o.sm b8.o.2.2.2) W' I).mono ?_;rintro e l ⟨Y,rfl,h1,h2⟩;have h3:=I.trans (h2.mono I.size);rw[<-d3];exact⟨Y,rfl,⟨h1,h2,h3⟩,f0.o _ (a3.o.trans (h3.mono a3.o.size))⟩
    have o6:Yd (∀ cx cy w5 w6,Yd (gP (wr.drew.heap.size+1) w5 x cx/\Below wr.drew.heap.size wr.drew w5/\zZ wr w5)->Yd (gP (w5.heap.size+1) w6 y cy/\zZ w5 w6/\zZ wr w6)->Calls prog 36 #[.pointer (some ⟨w4.heap.size+1+1,0,none⟩),.agg cx.toArray,.agg cy.toArray,.bool true] w6 fun e w7=>∃ ok:Bool,e=.returned (.tuple #[.slice none 0 0,.bool ok])/\Yd ((ok=true->∃ f,lc true j w4.heap.size (w4.heap.size+1+1) G cG f (uL x y j) w6 (x,y) w7)/\(ok=false->kZ true w4.heap.size w6 (x,y) w7)/\(Vt (fun i=>0<=i/\i<(j:Int)) x/\Vt (fun i=>0<=i/\i<(j:Int)) y/\x.count<=10000/\y.count<=10000)/\zZ wr w6)/\(w7.cell? ⟨W.heap.size,0,none⟩=some (.int .i64 k1)/\w7.cell? ⟨W.heap.size,1,none⟩=some (.int .i64 v1)/\w7.cell? ⟨W.heap.size,2,none⟩=some (.string r)/\w7.cell? ⟨W.heap.size,3,none⟩=some (.bool o)/\w7.cell? ⟨W.heap.size,4,none⟩=some (.slice A1 n1 c1)/\w7.cell? ⟨W.heap.size,5,none⟩=some (.slice B1 b1 d1)/\w7.cell? ⟨W.heap.size,6,none⟩=some (.slice X1 l1 e1)/\w7.cell? ⟨W.heap.size+1,0,none⟩=some (.int .i64 k2)/\w7.cell? ⟨W.heap.size+1,1,none⟩=some (.int .i64 v2)/\w7.cell? ⟨W.heap.size+1,2,none⟩=some (.string C)/\w7.cell? ⟨W.heap.size+1,3,none⟩=some (.bool p)/\w7.cell? ⟨W.heap.size+1,4,none⟩=some (.slice A2 n2 c2)/\w7.cell? ⟨W.heap.size+1,5,none⟩=some (.slice B2 b2 d2)/\w7.cell? ⟨W.heap.size+1,6,none⟩=some (.slice X2 l2 e2))):=fun cx cy w5 w6 h5 h6=>by
     have tx:=h5.out.1.tc;have ty:=h6.out.1.tc;rw[<-d0]at tx;rw[<-d3]at ty;obtain⟨vx,ex⟩:=mj hs c9 b8.o.2.2.1 b4 tx;obtain⟨vy,ey⟩:=mj hs c9 b8.o.2.2.2 b5 ty;rw[d0,a0.o]at vx;rw[d3,a0.o]at vy;rw[d0]at ex;rw[d3]at ey;have j1:x.count<=10000:=by rw[ex];exact b8.o.1
     have j2:y.count<=10000:=by rw[ey];exact b8.o.2.1
     refine (AM (by omega) h5.out.1 h6.out.2.1 h6.out.1 (Nat.le_succ _) vx vy j1 j2 (w0.o.below h6.out.2.2) (zC a3.o.size h6.out.2.2.size)).mono ?_;rintro e w7 ⟨ok,rfl,q1,q2⟩;have hf:aD eo w6 w7:=by
      cases ok with
      |true=>obtain⟨f,hu⟩:=q1 rfl;obtain⟨_,_,_,_,_,_,_,_,_,_,h,_⟩:=hu.tells (by omega) vx vy j1 j2;exact h
      |false=>exact (q2 rfl).tells.2.1
     have d8:=a3.o.trans (h6.out.2.2.mono a3.o.size);have g1:=(h8.o.to d8).frT hf (by decide);have g2:=(h9.o.to d8).frT hf (by decide);exact⟨ok,rfl,⟨q1,q2,⟨vx,vy,j1,j2⟩,h6.out.2.2⟩,g1.cell 0,g1.cell 1,g1.cell 2,g1.cell 3,g1.cell 4,g1.cell 5,g1.cell 6,g2.cell 0,g2.cell 1,g2.cell 2,g2.cell 3,g2.cell 4,g2.cell 5,g2.cell 6⟩
    have a7:=f0.o wr.drew a3.o.drew;have l8:=zH (n8.o wr.drew (Below.refl _ wr).drew);clear r0 q5 k3 hs c9 b4 b5 b6 j5 g9 j7 l4 k6 d0 d3;go_wp2_with fail
    go_region_held3 (fun w'=>w'.cell? ⟨W.heap.size,0,none⟩=some (.int .i64 k1)/\w'.cell? ⟨W.heap.size,1,none⟩=some (.int .i64 v1)/\w'.cell? ⟨W.heap.size,2,none⟩=some (.string r)/\w'.cell? ⟨W.heap.size,3,none⟩=some (.bool o)/\w'.cell? ⟨W.heap.size,4,none⟩=some (.slice A1 n1 c1)/\w'.cell? ⟨W.heap.size,5,none⟩=some (.slice B1 b1 d1)/\w'.cell? ⟨W.heap.size,6,none⟩=some (.slice X1 l1 e1)/\w'.cell? ⟨W.heap.size+1,0,none⟩=some (.int .i64 k2)/\w'.cell? ⟨W.heap.size+1,1,none⟩=some (.int .i64 v2)/\w'.cell? ⟨W.heap.size+1,2,none⟩=some (.string C)/\w'.cell? ⟨W.heap.size+1,3,none⟩=some (.bool p)/\w'.cell? ⟨W.heap.size+1,4,none⟩=some (.slice A2 n2 c2)/\w'.cell? ⟨W.heap.size+1,5,none⟩=some (.slice B2 b2 d2)/\w'.cell? ⟨W.heap.size+1,6,none⟩=some (.slice X2 l2 e2))
     (with_reducible assumption)
     (first
      |(go_at_call 19;(with_reducible refine l8.o.mono ?_);rintro e w5 ⟨cx,rfl,i2,y9⟩;have m5:=zH (n9.o w5 i2.o.2.2))
      |(go_at_call 19;(with_reducible refine m5.o.mono ?_);rintro e w6 ⟨cy,rfl,o5,z0⟩;have m7:=zH (o6.o cx cy w5 w6 i2 o5))
      |(go_at_call 36;(with_reducible refine m7.o.mono ?_);rintro e w7 ⟨ok,rfl,n7,z1⟩))
    obtain⟨q1,q2,⟨vx,vy,ex,ey⟩,d8⟩:=n7.o;have d6:Yd (zZ W w6/\zZ w4 w6/\W.heap.size<=w4.heap.size):=by
     have h1:=a6.o.trans (h0.o.mono a6.o.size);have h2:=a3.o.trans (d8.mono a3.o.size);exact⟨h1.trans (h2.mono h1.size),h2,h1.size⟩
    clear l8 m5 m7 n8 n9 o6 a7 y9 z0 z1 f0 i2 o5 n7 h8 h9 d8;obtain⟨hs,c9,b4,b5,b6⟩:=d5.o;have R:=Ah hs;cases ok with
    |false=>
     obtain⟨q8,_,c7⟩:=(q2 rfl).tells;have v6:Yd (eN a b 0 false []):=.no i0.o fun s e=>q8 (fun i=>s (nf m i)) (by rw[<-o8.o,<-o9.o,pK R b4 s,pK R b5 s];exact e);have b7:Yd (zZ W w7):=d6.o.1.trans (c7.mono d6.o.2.2);clear q1 q2 vx vy ex ey hs c9 b4 b5 b6 R q8 c7;go_wp2_with fail;refine bodyPost_ret (v:=.tuple #[.slice none 0 0,.bool false,.int .i64 0]) (by rw[bS rfl];rfl) rfl ?_;exact⟨.slice none 0 0,0,false,[],rfl,v6.o,⟨none,0,fun _=>[],rfl,zN _,by unfold maxLen;omega,fun h=>absurd h (by simp),fun i h=>absurd h (by simp)⟩,b7.o⟩
    |true=>
     obtain⟨fB,hu⟩:=q1 rfl;obtain⟨β,xs,f',g8,a8,hD,hE,k7,g7,f8,x8,c7⟩:=hu.tells (by omega) vx vy ex ey;obtain⟨u1,u2,u3⟩:=mF (by omega) vx vy ex ey;have f6:=g8.1;rw[<-a0.o]at hD;rw[<-o8.o,<-o9.o]at g8;have k9:=Ce R hD (E:=(a,b)) b4 b5 g8;have g6:=Cc R hD a8;obtain⟨F,hF⟩:∃ F,wX (· ∈ m) (eW m) (nf m) f'=F:=⟨_,rfl⟩;rw[hF]at g6;have n6:Yd (xV a b F):=⟨_,k9,g6⟩;have f5:∀ i (hi:i<m.length),F m[i]=(f' i).sb (fun i=>.var (nf m i)):=fun i hi=>by
      rw[<-hF,jw (zQ hi)];unfold eW;rw[if_pos (zQ hi),pz hs hi]
     have p1:∀ v,v∉m->F v=.var v:=fun v hv=>by rw[<-hF,mi hv]
     have g0:∀ i:Nat,i<m.length->(f' i).err0=0:=fun i hi=>rW a8 f6 hD (fun v hv=>go hv.1 (by omega)) hE i ⟨by omega,by omega⟩;have q4:∀ i (hi:i<m.length),(F m[i]).count=(f' i).count:=fun i hi=>by rw[f5 i hi,jh (g0 i hi)]
     have t8:Yd (∀ i (hi:i<m.length),(β (i:Int)=none->F m[i]=.var m[i])/\((β (i:Int)).isSome=true->F m[i]≠.var m[i])/\(F m[i]).count=(f' i).count/\(F m[i]).err0=0/\aG m[i]):=fun i hi=>by
      have hm:=zQ hi;have h1:=g6.ne k9.1 m[i];have h2:mh (· ∈ m) (eW m) (nf m) β m[i]=(β (i:Int)).map fun t=>t.sb fun i=>.var (nf m i):=by
       unfold mh;rw[if_pos hm];unfold eW;rw[if_pos hm,pz hs hi]
      rw[h2]at h1;refine⟨fun hq=>h1.1 (by rw[hq];rfl),fun hq e=>?_,q4 i hi,?_,?_⟩
      ·have:=h1.2 e;cases hb:β (i:Int) with
       |none=>rw[hb]at hq;cases hq
       |some t=>rw[hb]at this;cases this
      ·rw[f5 i hi];refine (f' i).err0_repl (g0 i hi) (ig (f' i) (fun u hu z ez=>?_) (a8.2.2 i));cases ez;have hd:=vB a8 f6 hD i ⟨by omega,by omega⟩ u hu;obtain⟨h3,h4⟩:=R.back u hd;have:=b6 _ h3;exact go this.1 this.2
      ·have:=b6 _ hm;exact⟨by omega,by omega⟩
     have o7:Yd (∀ v∉m,F v=.var v):=p1;have l7:Yd (zZ w4 w7):=d6.o.2.1.trans c7;have b7:Yd (zZ W w7):=d6.o.1.trans (c7.mono d6.o.2.2);have o1:=zH (o0.o.below l7.o);have e3:=n5.o.to l7.o;have z8:=zH e3;have w2:=zH g7;have r8:=zH f8;have l5:∀ (i:Nat) (W':World),i<j->cU (PT eo w6) fB W' (.var (i:Int)) [.int .i64 1,.int .i64 (i:Int),.string ⟨#[]⟩,.bool false,.slice none 0 0,.slice none 0 0,.slice none 0 0]:=fun i W' hi=>.var ⟨by omega,by omega⟩;have w3:Yd (∀ i:Nat,i<j->∀ W',zZ w7 W'->Calls prog 38 #[.pointer (some ⟨w4.heap.size+1+1,0,none⟩),.agg (zX 1 (i:Int) ⟨#[]⟩ false none 0 0 none 0 0 none 0 0).toArray,.int .i64 10000] W' fun e l=>e=.returned (.int .i64 (cz 10000 (f' i)))/\zZ W' l):=fun i hi W' I=>by
      have z3:cT (PT eo w6) w7 W':=.of_below I;have h:=vE (N:=10000) (by omega) (by omega) (g7.below I) (f8.stay z3) u1 k7 a8 (Cu hi) (l5 i W' hi);rw[bZ]at h;exact h
     have x2:Yd (∀ i:Nat,i<j->∀ W',zZ w7 W'->Calls prog 39 #[.pointer (some ⟨w4.heap.size+1+1,0,none⟩),.agg (zX 1 (i:Int) ⟨#[]⟩ false none 0 0 none 0 0 none 0 0).toArray] W' fun e l=>∃ Y,e=.returned (.agg Y.toArray)/\TC l (f' i) Y/\zZ W' l):=fun i hi W' I=>by
      refine (vG g7 f8 u1 k7 a8 _ (.var (i:Int)) _ (Nat.lt_succ_self _) (Cu hi) (l5 i w7 hi) W' I).mono ?_;rintro e l ⟨Y,rfl,h1,h2⟩;rw[bZ]at h1;exact⟨Y,rfl,h1.tc,h2⟩
     have v7:Yd (∀ i (hi:i<m.length) (W':World) (cs:List Value),zZ w7 W'->TC W' (f' i) cs->Calls prog 19 #[.agg cs.toArray,.func (.func 40) #[] #[zY k]] W' fun e l=>∃ Y,e=.returned (.agg Y.toArray)/\TC l (F m[i]) Y/\zZ W' l):=fun i hi W' cs I hc=>by
      have hd:(f' i).allV (fun u=>0<=u/\u<(m.length:Int)):=ig (f' i) (vB a8 f6 hD i ⟨by omega,by omega⟩) (a8.2.2 i);refine (oE (w:=W') (fun u=>0<=u/\u<(m.length:Int)) 40 k (enters_of func40 (by kernel_rfl) rfl) (fun u=>some (Tm.var (nf m u))) (fun v x e=>by
       cases e;unfold Tm.var;rw[Tm.sm,xT];exact⟨by simp,by simp,by simp,trivial⟩) (fun v l hv x5=>?_) hc (hc.sm (g0 i hi)) hd W' zB).mono ?_
      ·have hb:=I.trans (x5.mono I.size);refine (tV (w:=w7) k m (fun v hv=>by have:=b6 v hv;exact⟨by omega,by omega⟩) (e3.cell 0) e3.lt o1.o v hv l hb).mono ?_;rintro e W3 ⟨cx,tx,rfl,h1,rfl,h2⟩;exact⟨cx,_,rfl,h1,fun x e=>zI e,h2⟩
      ·rintro e l ⟨Y,rfl,h1,h2⟩;rw[f5 i hi];exact⟨Y,rfl,h1.tc,h2⟩
     have r5:=(e3.to (ae w7 (.map #[] 0))).cell 0;simp only[List.getElem?_toArray,List.getElem?_cons_zero,a0.o]at r5;have HS:=zH hs;clear q1 q2 vx vy ex ey c9 b4 b5 b6 R hu g8 a8 hD hE k7 g7 f8 x8 c7 u1 u2 u3 f6 k9 g6 hF f5 p1 g0 q4 e3 l5 hs;go_wp2_with fail;clear r5;have o3:=zH (vN.start w7 m F)
     go_loopg [64] j (fun gk z7 wq=>∃ (i:Nat) (bs:List (Int×Tm)),gk+i=j/\z7=.int .i64 (i:Int)/\Yd (vN w7 w7.heap.size m F i bs wq))
     case atStart=>exact⟨0,[],by omega,rfl,o3.o⟩
     case round=>
      clear o3;obtain⟨i,bs,A4,rfl,HF⟩:=hrel;by_cases hi:i<j
      ·have c8:i<m.length:=by rw[a0.o];exact hi
       have a7:=o1.o.below HF.o.be;obtain⟨G0,d7,e0⟩:=Joins.ownsRow_form a7 (by omega);simp only[Value.slice.injEq,true_and]at e0;obtain⟨rfl,rfl⟩:=e0;have x0:=a7.cellAt i (by simpa using c8);rw[show (m.map (Value.int .i64))[i]?=some (.int .i64 m[i]) by simp[c8]]at x0;have o2:=zH (w2.o.below HF.o.be);have c3:=zH (t8.o i c8);obtain⟨vi,l3⟩:∃ vi,m[i]=vi:=⟨_,rfl⟩;have x3:=zH l3;rw[l3]at x0;clear a7 l3;rcases r8.o.cell i hi with ⟨hn,hz⟩|⟨t,ct,hb,z5,p8⟩
       ·have d4:=zH (lH o2.o hi (q:=false) (by have:=hz 0 (by omega);rw[Nat.add_zero]at this;exact this));have v9:=zH (HF.o.skip c8 (c3.o.1 hn));clear hn hz;go_wp2_with fail;refine d4.o.mono ?_;rintro e w8 ⟨rfl,rfl⟩;clear d4 x0;go_wp2_with fail
        go_roundg (gk-1)
        case measure=>omega
        case rel=>exact⟨i+1,bs,by omega,by go_num,v9.o⟩
       ·have d4:=zH (lH o2.o hi (q:=true) (by have:=p8 0 (by omega);rw[Nat.add_zero]at this;exact this));have v5:=zH (c3.o.2.1 (by rw[hb];rfl));clear hb z5 p8;go_wp2_with fail;refine d4.o.mono ?_;rintro e w8 ⟨rfl,rfl⟩;clear d4 x0;go_wp2_with fail;refine (du (i:Int) _).mono ?_;rintro e y1 ⟨rfl,b3⟩;have f1:=zH b3;clear b3;go_wp2_with fail;refine (w3.o i hi y1 (HF.o.be.trans (f1.o.mono HF.o.be.size))).mono ?_;rintro e y2 ⟨rfl,p3⟩;have f2:=zH (f1.o.trans (p3.mono f1.o.size));clear p3 f1;by_cases l0:(f' (i:Int)).count<=10000
        ·have q7:cz 10000 (f' (i:Int))<=10000:=by unfold cz;omega
         generalize cz 10000 (f' (i:Int))=zz at q7 ⊢;have t7:=zH l0;clear l0;go_wp2_with fail;refine (du (i:Int) _).mono ?_;rintro e y3 ⟨rfl,p4⟩;have f3:=zH (f2.o.trans (p4.mono f2.o.size));clear p4 f2 q7;go_wp2_with fail;refine (x2.o i hi y3 (HF.o.be.trans (f3.o.mono HF.o.be.size))).mono ?_;rintro e y4 ⟨c4,rfl,r1,p5⟩;have f4:=zH (f3.o.trans (p5.mono f3.o.size));have o4:=zH r1;clear p5 f3 r1;go_wp2_with fail;refine (v7.o i c8 y4 c4 (HF.o.be.trans (f4.o.mono HF.o.be.size)) o4.o).mono ?_;rintro e y5 ⟨c5,rfl,r2,p6⟩;have r4:=f4.o.trans (p6.mono f4.o.size);obtain⟨z,g5,x4,k0⟩:=(HF.o.below r4).put HS.o c8 (by rw[a0.o];omega) c3.o.2.2.2.2 v5.o (by rw[c3.o.2.2.1];exact t7.o) c3.o.2.2.2.1 zA r2;rw[x3.o]at g5;have t9:=zH k0;clear r2 p6 f4 o4 r4 k0;go_wp2_with fail;clear g5
         go_roundg (gk-1)
         case measure=>omega
         case rel=>exact⟨i+1,x4,by omega,by go_num,t9.o⟩
        ·have x9:10000<cz 10000 (f' (i:Int)):=by unfold cz;omega
         have x1:Yd (eN a b 3 false []):=.size i0.o F n6.o m[i] (by rw[c3.o.2.2.1];omega);generalize cz 10000 (f' (i:Int))=zz at x9 ⊢;clear l0;go_wp2_with fail;refine bodyPost_ret (v:=.tuple #[.slice none 0 0,.bool false,.int .i64 3]) (by rw[bS rfl];rfl) rfl ?_;have j6:=HF.o.be.trans (f2.o.mono HF.o.be.size);exact⟨.slice none 0 0,3,false,[],rfl,x1.o,⟨none,0,fun _=>[],rfl,zN _,by unfold maxLen;omega,fun h=>absurd h (by simp),fun i h=>absurd h (by simp)⟩,b7.o.trans (j6.mono b7.o.size)⟩
      ·have q6:i=j:=by omega
       have v4:=zH q6;clear q6;have c6:=zH (sK (w:=wr) w7.heap.size HF.o.inc HF.o.vld (by have:=HF.o.len;omega) wr zB HF.o.mp);go_wp2_with fail;refine c6.o.mono ?_;rintro e w9 ⟨ov,rfl,p9,p7⟩;have r7:=zH p9;have r6:=zH p7;clear p9 p7 c6;go_wp2_with fail;refine bodyPost_ret (v:=.tuple #[ov,.bool true,.int .i64 0]) (by rw[bS rfl];rfl) rfl ?_;have r3:m.take i=m:=zG (by rw[a0.o,v4.o];exact zN _);have j6:=HF.o.be.trans (r6.o.mono HF.o.be.size);refine⟨ov,0,true,bs,rfl,.ok i0.o F n6.o (fun v=>?_) bs HF.o.inc (fun v=>?_),r7.o,b7.o.trans (j6.mono b7.o.size)⟩
       ·by_cases hv:v∈m
        ·exact HF.o.ct v (by rw[r3];exact hv)
        ·rw[o7.o v hv];unfold Tm.var;rw[Tm.count,am];omega
       ·have:=HF.o.fn v;rw[r3]at this;rw[this];by_cases hv:v∈m
        ·rw[if_pos hv]
        ·rw[if_neg hv];exact (if_pos (o7.o v hv)).symm
mutual
theorem Tm.repl_sb (f:Int->Option Tm):∀ (t:Tm),t.cn->t.repl f=t.sb fun v=>(f v).getD (.var v)
 |.mk k v s n args,h=>by
  rw[Tm.cn]at h;by_cases hk:k=1
  ·have e:=h.1 hk;rw[e,bZ,Tm.var,Tm.repl,if_pos rfl,cN];cases f v<;>rfl
  ·rw[bX _ hk,Tm.repl,if_neg hk,rV f args h.2]
theorem rV (f:Int->Option Tm):∀ (l:List Tm),qp l->cN f l=fJ (fun v=>(f v).getD (.var v)) l
 |[],_=>by rw[cN,bE]
 |t::l,h=>by
  rw[qp]at h;rw[cN,bA,t.repl_sb f h.1,rV f l h.2]
end
theorem De {α:Type} {r:α->α->Prop} (h:WellFounded r):∀ v,¬r v v:=fun v=>by
 induction v using h.induction with
 |_ v a=>exact fun q=>a v q q
theorem xV.dom {a b:Tm} {f:Int->Tm} (h:xV a b f) {v:Int} (F:f v≠.var v):a.occ v\/b.occ v:=by
 obtain⟨β,⟨z,p⟩,g⟩:=h;refine Classical.byContradiction fun y=>?_;have k:¬a.occ v:=fun q=>y (.inl q);have l:¬b.occ v:=fun q=>y (.inr q);cases hb:β v with
 |none=>exact F (g.1 v hb)
 |some t=>
  have m:¬t.occ v:=fun q=>De z.1 v ⟨t,hb,q,by rw[hb];rfl⟩;have c:∀ x:Tm,x=f v:=fun x=>by
   have o:∀ u:Tm,¬u.occ v->u.sb (fun i=>if i=v then x else f i)=u.sb f:=fun u E=>u.sb_congr fun i D=>by
    have j:i≠v:=fun e=>E (by rw[<-e];exact D);simp only[if_neg j]
   have A:=(p fun i=>if i=v then x else f i).2 (by rw[o a k,o b l];exact (p f).1 g.2.1);have r:=A v t hb;rw[o t m,<-g.2.1 v t hb]at r;simpa using r
  have C:=(c (.var 0)).trans (c (.var 1)).symm;simp[Tm.var]at C
def dF:List Nat->List UInt8
 |[]=>[]
 |i::l=>dec i++32::dF l
theorem wC (l:List Nat) (i:Nat):dF (l++[i])=dF l++(dec i++[32]):=by
 induction l with
 |nil=>rfl
 |cons j l a=>rw[List.cons_append,dF,dF,a];simp
theorem py:∀ (l:List Nat) {c:UInt8},c∈dF l->c≠0
 |[],c,h=>by cases h
 |i::l,c,h=>by
  rw[dF,List.mem_append,List.mem_cons]at h;rcases h with h|rfl|h
  ·intro e;subst e;have:=List.all_eq_true.1 (cO i) 0 h
   revert this
   decide
  ·decide
  ·exact py l h
theorem rm:∀ {l m:List Nat},dF l=dF m->l=m
 |[],[],_=>rfl
 |[],i::m,h=>by rw[dF,dF]at h;have:=congrArg List.length h;simp at this
 |i::l,[],h=>by rw[dF,dF]at h;have:=congrArg List.length h;simp at this
 |i::l,j::m,h=>by
  rw[dF,dF]at h;obtain⟨h1,h2⟩:=jW (cO i) (cO j) (by decide) h;have h3:=congrArg gY h1;rw[dD,dD]at h3;rw[h3,rm h2]
theorem ze {l:List Nat} (h:∀ i∈l,i<1000000000000):(dF l).length<=1301*l.length:=by
 induction l with
 |nil=>simp[dF]
 |cons i l b=>
  rw[dF,zE,zV,zV];have c:=fQ (h i (by simp));have e:=b fun j a=>h j (by simp[a]);omega
def Tm.rootT:Tm->Tm
 |.mk k v s n _=>.mk k v s n []
def wH (t:Tm) (ids:List Nat):List UInt8:=(cE t).data.toList++0::dF ids
theorem nU:∀ {a b x y:List UInt8},(∀ c∈x,c≠0)->(∀ c∈y,c≠0)->a++0::x=b++0::y->a=b/\x=y
 |[],[],x,y,_,_,h=>⟨rfl,by simpa using h⟩
 |[],c::b,x,y,hx,hy,h=>by
  simp at h;exact absurd rfl (hx 0 (by rw[h.2];simp))
 |c::a,[],x,y,hx,hy,h=>by
  simp at h;exact absurd rfl (hy 0 (by rw[<-h.2];simp))
 |c::a,d::b,x,y,hx,hy,h=>by
  simp only[List.cons_append,List.cons.injEq]at h;obtain⟨rfl,h⟩:=h;obtain⟨h1,h2⟩:=nU hx hy h;exact⟨by rw[h1],h2⟩
def cZ (Ts:List Tm) (ids:List Nat) (args:List Tm):Prop:=ids.length=args.length/\∀ q (h:q<args.length) (h':q<ids.length),Ts[ids[q]]?=some args[q]
theorem cZ.one {Ts:List Tm} {c:List Nat} {a b:List Tm} (h:cZ Ts c a) (k:cZ Ts c b):a=b:=by
 refine List.ext_getElem (by rw[<-h.1,k.1]) fun q e g=>?_;have i:=h.2 q e (by rw[h.1];exact e);have f:=k.2 q g (by rw[h.1];exact e);rw[i]at f;exact zI f
theorem cZ.more {Ts Us:List Tm} {b:List Nat} {a:List Tm} (h:cZ Ts b a):cZ (Ts++Us) b a:=
 ⟨h.1,fun q c e=>by
  have:=h.2 q c e;rw[List.getElem?_append_left (zK this).1];exact this⟩
theorem cZ.lt {Ts:List Tm} {b:List Nat} {a:List Tm} (h:cZ Ts b a):∀ i∈b,i<Ts.length:=fun i e=>by
 obtain⟨q,c,rfl⟩:=List.mem_iff_getElem.1 e;exact (zK (h.2 q (by rw[<-h.1];exact c) c)).1
theorem BG {Ts:List Tm} {t u:Tm} {i j:List Nat} (f:t.fine) (g:u.fine) (y:cZ Ts i t.args) (z:cZ Ts j u.args) (h:wH t i=wH u j):t=u:=by
 obtain⟨q,r⟩:=nU (fun c e=>py i e) (fun c e=>py j e) h;obtain rfl:=rm r;have x:=y.one z;obtain⟨k,v,s,n,a⟩:=t;obtain⟨l,p,o,m,b⟩:=u;obtain rfl:a=b:=x;have A:cE (.mk k v s n a)=cE (.mk l p o m a):=ByteArray.ext (Array.toList_inj.1 q);have C:(Tm.mk k v s n a).shapeL=(Tm.mk l p o m a).shapeL:=by rw[Tm.shapeL,Tm.shapeL,A]
 exact Tm.cmp_eq _ _ f g (Tm.shape_inj _ _ f g [] [] (by rw[C])).1
end Go.Proofs.YtlhojoefhannnaaGreat
namespace Go.Proofs.YtlhojoefhannnaaGreat
open Go.Proofs.Tryz Go.RowKit NumB
def mV (t:Tm) (ids:List Nat):Value:=.string ⟨(wH t ids).toArray⟩
def fT (l:List Nat):List Int:=l.map fun i:Nat=>(i:Int)
def SQ (d:Nat) (rb ab:Option Nat) (m1:Nat) (k:Nat):Prop:=k=d\/some k=rb\/some k=ab\/k=m1
def RC (w:World) (t:Tm) (cs:List Value):Prop:=TC w t.rootT cs/\cs[6]?=some (.slice none 0 0)
structure SD (w:World) (Z:Nat->Prop) (B d:Nat) (rb ab:Option Nat) (m1 m2 m3 m4:Nat) (Ts:List Tm) (Is:Nat->List Nat) (W:World):Prop where
 ex:∃ (rv av:Value) (rc:Nat->List Value) (ac:Nat->Value),ah W d 117 #[rv,av,.map (some m1),.map (some m2),.map (some m3),.map (some m4)]/\rv.ownBlock=rb/\av.ownBlock=ab/\
  W.ownsRow B 27 7 rv Ts.length (bP rc Ts.length)/\W.ownsRow B 54 1 av Ts.length ((List.range Ts.length).map ac)/\(∀ i (h:i<Ts.length),RC w (Ts[i]) (rc i))/\∀ i,i<Ts.length->dw W B (ac i) (fT (Is i))/\∀ b,(ac i).ownBlock=some b->¬Z b
 tell:∀ i (h:i<Ts.length),cZ Ts (Is i) (Ts[i]).args
 ok:∀ t∈Ts,t.fine/\t.err0=0
 ids:∃ g,aE vL W m1 Ts.length g/\(∀ i (h:i<Ts.length),g (mV Ts[i] (Is i))=some (.int .i64 (i:Int)))/\∀ k x,g k=some x->∃ i,∃ h:i<Ts.length,k=mV Ts[i] (Is i)/\x=.int .i64 (i:Int)
 be:zZ w W
 le:w.heap.size<=B/\B<=d/\B<=m1/\B<=W.heap.size
section
variable {w W W':World} {Z:Nat->Prop} {B d:Nat} {rb ab:Option Nat} {m1 m2 m3 m4:Nat} {Ts:List Tm} {Is:Nat->List Nat}
theorem SD.below (g:SD w Z B d rb ab m1 m2 m3 m4 Ts Is W) (a:zZ W W'):SD w Z B d rb ab m1 m2 m3 m4 Ts Is W':=by
 obtain⟨rv,av,y,j,p,q,r,t,v,x,b⟩:=g.ex;obtain⟨f,k,l,m⟩:=g.ids;exact⟨⟨rv,av,y,j,p.to a,q,r,bJ t a,bJ v a,x,fun i c=>⟨(b i c).1.below a,(b i c).2⟩⟩,g.tell,g.ok,⟨f,k.same (fun o e=>(a.block m1 (an e)).trans e) fun _ h=>h,l,m⟩,g.be.trans (a.mono g.be.size),g.le.1,g.le.2.1,g.le.2.2.1,zC g.le.2.2.2 a.size⟩
theorem SD.drew (g:SD w Z B d rb ab m1 m2 m3 m4 Ts Is W):SD w Z B d rb ab m1 m2 m3 m4 Ts Is W.drew:=g.below zB.drew
theorem SD.cells (g:SD w Z B d rb ab m1 m2 m3 m4 Ts Is W):d<W.heap.size/\m1<W.heap.size/\(∀ r,rb=some r->B<=r/\r<W.heap.size)/\∀ r,ab=some r->B<=r/\r<W.heap.size:=by
 obtain⟨rv,av,x,m,e,i,j,k,l,t,v⟩:=g.ex;obtain⟨f,b,p,q⟩:=g.ids;obtain⟨o,c,h,_⟩:=b.is;exact⟨e.lt,an h,fun r a=>(k.lt r (i.trans a)),fun r a=>(l.lt r (j.trans a))⟩
theorem SD.notSQ (g:SD w Z B d rb ab m1 m2 m3 m4 Ts Is W) {o:Nat} {cs:Array Value} {T:TypeId} {m:Nat×Nat} (h:W.heap[o]?=some (.cells cs T m)) (p:T≠117) (q:T≠27) (r:T≠54):¬SQ d rb ab m1 o:=by
 obtain⟨rv,av,G,D,y,k2,z,A,C,_⟩:=g.ex;obtain⟨f,l,_⟩:=g.ids;obtain⟨E,c,j,_⟩:=l.is;have b:∀ {v:Value} {e:TypeId} {size n:Nat} {xs:List Value},W.ownsRow B e size v n xs->v.ownBlock=some o->T=e:=fun x t=>by
  obtain⟨k,F,i⟩:=Lib.ownsRow_kind x _ t;rw[h]at i;cases i;rfl
 rintro (e|e|e|e)
 ·subst e;have a:W.heap[o]?=_:=y;rw[h]at a;cases a;exact p rfl
 ·exact q (b A (k2.trans e.symm))
 ·exact r (b C (z.trans e.symm))
 ·subst e;rw[h]at j;cases j
theorem SD.keep (g:SD w Z B d rb ab m1 m2 m3 m4 Ts Is W) {p:Nat->Prop} (a:ag p W W') (q:∀ b,p b->w.heap.size<=b/\∃ cs T m,W.heap[b]?=some (Obj.cells cs T m)/\T≠117/\T≠27/\T≠54/\(T=3->Z b)):SD w Z B d rb ab m1 m2 m3 m4 Ts Is W':=by
 have l:∀ b,SQ d rb ab m1 b->¬p b:=fun b I e=>by
  obtain⟨_,cs,T,m,h,E,F,G,_⟩:=q b e;exact g.notSQ h E F G I
 obtain⟨rv,av,Q,y,M,k2,x,N,O,P,k⟩:=g.ex;obtain⟨f,A,C,D⟩:=g.ids;refine⟨⟨rv,av,Q,y,a.blk M (l _ (.inl rfl)),k2,x,a.row N fun o c=>l _ (.inr (.inl (c.symm.trans k2))),a.row O fun o c=>l _ (.inr (.inr (.inl (c.symm.trans x)))),P,fun i j=>⟨a.row (k i j).1 fun o c t=>?_,(k i j).2⟩⟩,g.tell,g.ok,⟨f,A.same (fun o c=>(a.block m1 (an c) (l _ (.inr (.inr (.inr rfl))))).trans c) fun _ h=>h,C,D⟩,⟨a.os.trans g.be.os,a.tape.trans g.be.tape,a.output.trans g.be.output,zC g.be.size a.size,fun b e=>(a.block b (zD e g.be.size) fun r=>by have:=(q b r).1;omega).trans (g.be.block b e)⟩,g.le.1,g.le.2.1,g.le.2.2.1,zC g.le.2.2.2 a.size⟩;obtain⟨_,cs,T,m,h,_,_,_,J⟩:=q o t;obtain⟨z,S,v⟩:=Lib.ownsRow_kind (k i j).1 o c;rw[h]at v;cases v;exact (k i j).2 o c (J rfl)
theorem SD.zw {e:Nat->Prop} (g:SD w Z B d rb ab m1 m2 m3 m4 Ts Is W) (h:∀ b,b<W.heap.size->e b->Z b):SD w e B d rb ab m1 m2 m3 m4 Ts Is W:=by
 obtain⟨rv,av,r,j,l,k2,m,o,p,q,c⟩:=g.ex;exact⟨⟨rv,av,r,j,l,k2,m,o,p,q,fun i a=>⟨(c i a).1,fun b f k=>(c i a).2 b f (h b ((c i a).1.lt b f).2 k)⟩⟩,g.tell,g.ok,g.ids,g.be,g.le⟩
theorem SD.far (g:SD w Z B d rb ab m1 m2 m3 m4 Ts Is W) {o:Nat} {T:TypeId} {cs:Array Value} (l:ah W o T cs) (i:T≠117) (j:rb≠some o) (k:ab≠some o):¬SQ d rb ab m1 o:=by
 obtain⟨rv,av,r,p,m,_⟩:=g.ex;obtain⟨f,h,_⟩:=g.ids;obtain⟨q,c,b,_⟩:=h.is;have a:W.heap[o]?=_:=l;rintro (e|e|e|e)
 ·subst e;have:W.heap[o]?=_:=m;rw[a]at this;simp at this;exact i this.2
 ·exact j e.symm
 ·exact k e.symm
 ·subst e;rw[a]at b;cases b
end
def Nx (r r':Option Nat) (n:Nat):Prop:=r'=r\/∃ k,r'=some k/\n<=k
theorem Nx.refl (r:Option Nat) (n:Nat):Nx r r n:=.inl rfl
theorem Nx.trans {r c a:Option Nat} {n b:Nat} (h:Nx r c n) (k:Nx c a b) (g:n<=b):Nx r a n:=by
 rcases k with rfl|⟨k,e,f⟩
 ·exact h
 ·exact .inr ⟨k,e,zC g f⟩
theorem ag.sq {d m1:Nat} {rb ab l g:Option Nat} {a b c:World} (h:ag (SQ d rb ab m1) a b) (k:ag (SQ d l g m1) b c) (p:Nx rb l a.heap.size) (o:Nx ab g a.heap.size):ag (SQ d rb ab m1) a c:=
 ⟨k.os.trans h.os,k.tape.trans h.tape,k.output.trans h.output,zC h.size k.size,fun i m j=>(k.block i (zD m h.size) fun q=>by
  rcases q with e|e|e|e
  ·exact j (.inl e)
  ·rcases p with f|⟨x,f,r⟩
   ·exact j (.inr (.inl (e.trans f)))
   ·rw[f]at e;cases e;omega
  ·rcases o with f|⟨x,f,r⟩
   ·exact j (.inr (.inr (.inl (e.trans f))))
   ·rw[f]at e;cases e;omega
  ·exact j (.inr (.inr (.inr e)))).trans (h.block i m j)⟩
end Go.Proofs.YtlhojoefhannnaaGreat
namespace Go.Proofs.YtlhojoefhannnaaGreat
open Go.Proofs.Tryz Go.RowKit NumB
theorem dH {P:Program} {o:Oper} {a:Act} {w w':World} {K:Act->World->Prop} {Q:Exit->Act->World->Prop} (s x:Operand) (t b:TypeId) (e:o.op=.call { callee:=.builtin .append,args:=#[s,x],argTypes:=#[t,b] }) {v y c:Value} (g:a.eval s=v) (i:a.eval x=y) (f:(Builtin.append_ #[t,b] o.type #[v,y]).run P w=.ok c w') (h:K (a.put o.dst c) w'):Oper.wp P o a w K Q:=by
 unfold Oper.wp execOp;simp only[e,resolve,invoke,builtin,Sem.run_bind,Sem.run_pure,Result.andThen_ok,List.map_toArray,List.map_cons,List.map_nil,g,i,f];exact h
theorem cK {P:Program} {c:Array Oper} {b:List Oper} {o:Oper} {a:Act} {w w':World} {Q:Exit->Act->World->Prop} (e:o.guard=none) (s x:Operand) (t f:TypeId) (i:o.op=.call { callee:=.builtin .append,args:=#[s,x],argTypes:=#[t,f] }) {v y g:Value} (k:a.eval s=v) (l:a.eval x=y) (j:(Builtin.append_ #[t,f] o.type #[v,y]).run P w=.ok g w') (h:wpList P c Q b (a.put o.dst g) w'):wpList P c Q (o::b) a w:=
 wpList_plain e fun _ hK=>dH s x t f i k l j (hK _ _ h)
theorem jx {c c':Nat->List Value}:∀ {l:Nat},(∀ i,i<l->c i=c' i)->bP c l=bP c' l
 |0,_=>rfl
 |l+1,h=>by rw[bP,bP,jx fun i hi=>h i (by omega),h l (by omega)]
theorem SD.push {w W W0:World} {Z:Nat->Prop} {B d:Nat} {rb ab:Option Nat} {m1 m2 m3 m4:Nat} {Ts:List Tm} {Is:Nat->List Nat} (g:SD w Z B d rb ab m1 m2 m3 m4 Ts Is W0) {t:Tm} {c:List Nat} {cs:List Value} {rv av gv:Value} {rc:Nat->List Value} {ac:Nat->Value} {f:Value->Option Value}
 (C:ah W d 117 #[rv,av,.map (some m1),.map (some m2),.map (some m3),.map (some m4)]) (D:W.ownsRow B 27 7 rv (Ts.length+1) (bP rc Ts.length++cs)) (E:W.ownsRow B 54 1 av (Ts.length+1) ((List.range Ts.length).map ac++[gv]))
 (F:∀ i (h:i<Ts.length),RC w (Ts[i]) (rc i)) (p:RC w t cs) (G:∀ i,i<Ts.length->dw W B (ac i) (fT (Is i))/\∀ b,(ac i).ownBlock=some b->¬Z b) (q:dw W B gv (fT c)/\∀ b,gv.ownBlock=some b->¬Z b) (O:cZ Ts c t.args) (M:t.fine/\t.err0=0)
 (I:aE vL W m1 (Ts.length+1) f) (y:∀ i (h:i<Ts.length),f (mV Ts[i] (Is i))=some (.int .i64 (i:Int))) (z:f (mV t c)=some (.int .i64 (Ts.length:Int))) (A:∀ k x,f k=some x->(∃ i,∃ h:i<Ts.length,k=mV Ts[i] (Is i)/\x=.int .i64 (i:Int))\/(k=mV t c/\x=.int .i64 (Ts.length:Int)))
 (J:zZ w W) (r:B<=W.heap.size):SD w Z B d rv.ownBlock av.ownBlock m1 m2 m3 m4 (Ts++[t]) (fun i=>if i=Ts.length then c else Is i) W:=by
 have v:(Ts++[t]).length=Ts.length+1:=by simp
 refine⟨⟨rv,av,fun i=>if i=Ts.length then cs else rc i,fun i=>if i=Ts.length then gv else ac i,C,rfl,rfl,?_,?_,fun i j=>?_,fun i j=>?_⟩,fun i j=>?_,fun x l=>?_,⟨f,by rw[v];exact I,fun i j=>?_,fun k x N=>?_⟩,J,g.le.1,g.le.2.1,g.le.2.2.1,r⟩
 ·rw[v,bP,if_pos rfl,jx (c':=rc) fun i j=>if_neg (by omega)];exact D
 ·rw[v,List.range_succ,List.map_append,List.map_singleton,if_pos rfl,List.map_congr_left (g:=ac) fun i j=>if_neg (by have:=List.mem_range.1 j;omega)];exact E
 ·dsimp only;by_cases e:i=Ts.length
  ·subst e;rw[if_pos rfl];simpa using p
  ·have a:i<Ts.length:=by omega
   rw[if_neg e,List.getElem_append_left a];exact F i a
 ·dsimp only;by_cases e:i=Ts.length
  ·rw[if_pos e,if_pos e];exact q
  ·rw[if_neg e,if_neg e];exact G i (by omega)
 ·by_cases e:i=Ts.length
  ·subst e;rw[if_pos rfl];simpa using O.more (Us:=[t])
  ·have a:i<Ts.length:=by omega
   rw[if_neg e,List.getElem_append_left a];exact (g.tell i a).more
 ·rcases List.mem_append.1 l with l|l
  ·exact g.ok x l
  ·rw[List.mem_singleton.1 l];exact M
 ·by_cases e:i=Ts.length
  ·subst e;rw[if_pos rfl];simpa using z
  ·have a:i<Ts.length:=by omega
   rw[if_neg e,List.getElem_append_left a];exact y i a
 ·rcases A k x N with ⟨i,j,m,o⟩|⟨m,o⟩
  ·exact⟨i,by omega,by rw[if_neg (by omega),List.getElem_append_left j];exact m,o⟩
  ·exact⟨Ts.length,by omega,by rw[if_pos rfl];simpa using m,o⟩
theorem lY {w:World} {B n size bytes:Nat} {t ty e:TypeId} {z v:Value} {xs news:List Value} {g m c:Nat} (E:prog.underlying t=some (.slice e)) (f:(prog.info? e).map (fun i=>(i.zero,i.size,i.bytes))=some (some z,size,bytes)) (q:z.cells.size=size) (k:0<size) (D:w.ownsRow B e size v n xs) (C:ah w g m news.toArray) (N:news.length=size) (r:∀ u∈news,u.oneCell'=true) (x:n<=1000000) (b:bytes<=1000000) (y:B<=w.heap.size):
 ∃ a w',(Builtin.append_ #[t,t] ty #[v,.slice (some ⟨g,0,none⟩) 1 c]).run prog w=.ok a w'/\w'.ownsRow B e size a (n+1) (xs++news)/\w.grownBy w' v.ownBlock/\Nx v.ownBlock a.ownBlock w.heap.size:=by
 obtain⟨F,f,l,o,p⟩:=info_parts f;obtain⟨a,w',G,I,J,_,M⟩:=run_append_own_at (P:=prog) (w:=w) B t ty e F z size bytes E f l o p q k v n xs D ⟨g,0,none⟩ 1 c news (by omega) (fun j u A=>by
  rw[Go.WideShapes.add_plain,Nat.zero_add,C.cell];simpa using A) r (by unfold maxLen;omega) (zC (Nat.mul_le_mul (show n+1<=1000001 by omega) b) (by decide)) y
 exact⟨a,w',G,I,J,M.imp id fun h=>⟨_,h,zN _⟩⟩
structure NI (B d:Nat) (rb ab:Option Nat) (m1:Nat) (ms:List Value) (n:Nat) (rv av gv:Value) (rs bs cs:List Value) (W0:World) (L:Nat->Bool) (s70 s71 s72 s73 s77 s79 s80:Value) (W:World):Prop where
 k:ag (SQ d rb ab m1) W0 W
 f:aD [some 27,some 54,some 117] W0 W
 be:B<=W0.heap.size
 r70:L 5=true->s70=rv
 r71:L 6=true->s71=.agg cs.toArray
 r77:L 12=true->s77=av
 r72:L 7=true->L 8=false->∃ q,s72=.slice (some ⟨q,0,none⟩) 1 1/\W0.heap.size<=q/\ah W q 27 cs.toArray
 r79:L 14=true->L 15=false->∃ q,s79=.slice (some ⟨q,0,none⟩) 1 1/\W0.heap.size<=q/\ah W q 54 #[gv]
 a0:L 8=false->W.ownsRow B 27 7 rv n rs/\rv.ownBlock=rb
 a1:L 8=true->W.ownsRow B 27 7 s73 (n+1) (rs++cs)/\Nx rb s73.ownBlock W0.heap.size
 b0:L 15=false->W.ownsRow B 54 1 av n bs/\av.ownBlock=ab
 b1:L 15=true->W.ownsRow B 54 1 s80 (n+1) (bs++[gv])/\Nx ab s80.ownBlock W0.heap.size
 d:ah W d 117 (#[if L 18 then s73 else rv,if L 21 then s80 else av]++ms.toArray)
 o1:L 18=true->L 8=true
 o2:L 21=true->L 15=true
 o3:L 15=true->L 8=true
 o4:L 8=true->L 5=true
 o5:L 15=true->L 12=true
section
variable {B d:Nat} {rb ab:Option Nat} {m1:Nat} {ms:List Value} {n:Nat} {rv av gv:Value} {rs bs cs:List Value} {W0 W W':World} {L:Nat->Bool} {s70 s71 s72 s73 s77 s79 s80:Value}
theorem NI.to {a:Nat->Bool} (h:NI B d rb ab m1 ms n rv av gv rs bs cs W0 L s70 s71 s72 s73 s77 s79 s80 W) (e:a 5=L 5/\a 6=L 6/\a 7=L 7/\a 8=L 8/\a 12=L 12/\a 14=L 14/\a 15=L 15/\a 18=L 18/\a 21=L 21):NI B d rb ab m1 ms n rv av gv rs bs cs W0 a s70 s71 s72 s73 s77 s79 s80 W:=by
 obtain⟨j,k,l,m,b,c,f,g,i⟩:=e;refine⟨h.k,h.f,h.be,?_,?_,?_,?_,?_,?_,?_,?_,?_,?_,?_,?_,?_,?_,?_⟩<;>(try rw[j])<;>(try rw[k])<;>(try rw[l])<;>(try rw[m])<;>(try rw[b])<;>(try rw[c])<;>(try rw[f])<;>(try rw[g])<;>(try rw[i])
 ·exact h.r70
 ·exact h.r71
 ·exact h.r77
 ·exact h.r72
 ·exact h.r79
 ·exact h.a0
 ·exact h.a1
 ·exact h.b0
 ·exact h.b1
 ·exact h.d
 ·exact h.o1
 ·exact h.o2
 ·exact h.o3
 ·exact h.o4
 ·exact h.o5
theorem NI.below (h:NI B d rb ab m1 ms n rv av gv rs bs cs W0 L s70 s71 s72 s73 s77 s79 s80 W) (c:zZ W W'):NI B d rb ab m1 ms n rv av gv rs bs cs W0 L s70 s71 s72 s73 s77 s79 s80 W':=
 ⟨h.k.trans (.of_below c),h.f.trans (.of_below c),h.be,h.r70,h.r71,h.r77,fun a b=>by obtain⟨q,e,f,g⟩:=h.r72 a b;exact⟨q,e,f,g.to c⟩,fun a b=>by obtain⟨q,e,f,g⟩:=h.r79 a b;exact⟨q,e,f,g.to c⟩,fun a=>⟨bJ (h.a0 a).1 c,(h.a0 a).2⟩,fun a=>⟨bJ (h.a1 a).1 c,(h.a1 a).2⟩,fun a=>⟨bJ (h.b0 a).1 c,(h.b0 a).2⟩,fun a=>⟨bJ (h.b1 a).1 c,(h.b1 a).2⟩,h.d.to c,h.o1,h.o2,h.o3,h.o4,h.o5⟩
theorem NI.cell0 (h:NI B d rb ab m1 ms n rv av gv rs bs cs W0 L s70 s71 s72 s73 s77 s79 s80 W) (a:L 5=false):W.cell? ⟨d,0,none⟩=some rv:=by
 have e:L 18=false:=by cases e:L 18 with|false=>rfl|true=>rw[h.o4 (h.o1 e)]at a;cases a
 have:=h.d.cell 0;rw[e]at this;simpa using this
theorem NI.cell1 (h:NI B d rb ab m1 ms n rv av gv rs bs cs W0 L s70 s71 s72 s73 s77 s79 s80 W) (a:L 12=false):W.cell? ⟨d,1,none⟩=some av:=by
 have e:L 21=false:=by cases e:L 21 with|false=>rfl|true=>rw[h.o5 (h.o2 e)]at a;cases a
 have:=h.d.cell 1;rw[e]at this;simpa using this
theorem NI.load5 (h:NI B d rb ab m1 ms n rv av gv rs bs cs W0 L s70 s71 s72 s73 s77 s79 s80 W):NI B d rb ab m1 ms n rv av gv rs bs cs W0 (fun j=>j==5||L j) rv s71 s72 s73 s77 s79 s80 W:=
 ⟨h.k,h.f,h.be,fun _=>rfl,h.r71,h.r77,h.r72,h.r79,h.a0,h.a1,h.b0,h.b1,h.d,h.o1,h.o2,h.o3,fun _=>rfl,h.o5⟩
theorem NI.load6 (h:NI B d rb ab m1 ms n rv av gv rs bs cs W0 L s70 s71 s72 s73 s77 s79 s80 W):NI B d rb ab m1 ms n rv av gv rs bs cs W0 (fun j=>j==6||L j) s70 (.agg cs.toArray) s72 s73 s77 s79 s80 W:=
 ⟨h.k,h.f,h.be,h.r70,fun _=>rfl,h.r77,h.r72,h.r79,h.a0,h.a1,h.b0,h.b1,h.d,h.o1,h.o2,h.o3,h.o4,h.o5⟩
theorem NI.load12 (h:NI B d rb ab m1 ms n rv av gv rs bs cs W0 L s70 s71 s72 s73 s77 s79 s80 W):NI B d rb ab m1 ms n rv av gv rs bs cs W0 (fun j=>j==12||L j) s70 s71 s72 s73 av s79 s80 W:=
 ⟨h.k,h.f,h.be,h.r70,h.r71,fun _=>rfl,h.r72,h.r79,h.a0,h.a1,h.b0,h.b1,h.d,h.o1,h.o2,h.o3,h.o4,fun _=>rfl⟩
theorem NI.make7 (h:NI B d rb ab m1 ms n rv av gv rs bs cs W0 L s70 s71 s72 s73 s77 s79 s80 W):NI B d rb ab m1 ms n rv av gv rs bs cs W0 (fun j=>j==7||L j) s70 s71 (.slice (some ⟨W.heap.size,0,none⟩) 1 1) s73 s77 s79 s80 (W.alloc (.cells cs.toArray 27)):=
 have g:=h.below (ae W (.cells cs.toArray 27))
 ⟨g.k,g.f,g.be,g.r70,g.r71,g.r77,fun _ _=>⟨_,rfl,h.k.size,ah.new W _ _⟩,g.r79,g.a0,g.a1,g.b0,g.b1,g.d,g.o1,g.o2,g.o3,g.o4,g.o5⟩
theorem NI.make14 (h:NI B d rb ab m1 ms n rv av gv rs bs cs W0 L s70 s71 s72 s73 s77 s79 s80 W):NI B d rb ab m1 ms n rv av gv rs bs cs W0 (fun j=>j==14||L j) s70 s71 s72 s73 s77 (.slice (some ⟨W.heap.size,0,none⟩) 1 1) s80 (W.alloc (.cells #[gv] 54)):=
 have g:=h.below (ae W (.cells #[gv] 54))
 ⟨g.k,g.f,g.be,g.r70,g.r71,g.r77,g.r72,fun _ _=>⟨_,rfl,h.k.size,ah.new W _ _⟩,g.a0,g.a1,g.b0,g.b1,g.d,g.o1,g.o2,g.o3,g.o4,g.o5⟩
theorem pt {w w':World} {B n size:Nat} {e:TypeId} {v:Value} {xs:List Value} (h:w.ownsRow B e size v n xs) (a:w.grownBy w' v.ownBlock):aD [some e] w w':=(aD.refl _ _).grown a fun g a=>by
 obtain⟨cs,f,b⟩:=Lib.ownsRow_kind h g a;exact⟨cs,e,f,b,by simp⟩
theorem wF:(prog.info? 54).map (fun i=>(i.zero,i.size,i.bytes))=some (some (.slice none 0 0),1,24):=by kernel_rfl
theorem NI.push8 (h:NI B d rb ab m1 ms n rv av gv rs bs cs W0 L s70 s71 s72 s73 s77 s79 s80 W) (C:n<=1000000) (A:cs.length=7) (z:∀ u∈cs,u.oneCell'=true) (x:L 5=true) (E:L 7=true) (f:L 8=false) (ty:TypeId):
 s70=rv/\∃ p w',(Builtin.append_ #[25,25] ty #[rv,s72]).run prog W=.ok p w'/\NI B d rb ab m1 ms n rv av gv rs bs cs W0 (fun j=>j==8||L j) s70 s71 s72 p s77 s79 s80 w':=by
 obtain⟨q,rfl,M,r⟩:=h.r72 E f;obtain⟨v,i⟩:=h.a0 f;obtain⟨p,w',G,I,y,J⟩:=lY (ty:=ty) (c:=1) (m:=27) underlying25 dR rfl (by omega) v r A z C (by omega) (zC h.be h.k.size);have o:=pt v y;have t:L 15=true->False:=fun e=>by rw[h.o3 e]at f;cases f
 have l:L 18=true->False:=fun e=>by rw[h.o1 e]at f;cases f
 refine⟨h.r70 x,p,w',G,h.k.trans ((ag.grown y).mono fun k e=>.inr (.inl (e.trans i))),h.f.trans (o.mono (by simp)),h.be,h.r70,h.r71,h.r77,fun _ e=>(by simp at e),fun a b=>?_,fun e=>(by simp at e),fun _=>⟨I,?_⟩,fun a=>⟨ay (h.b0 a).1 o (by decide),(h.b0 a).2⟩,fun a=>(t a).elim,?_,fun e=>(l e).elim,h.o2,fun _=>rfl,fun _=>x,h.o5⟩
 ·obtain⟨F,e,D,k2⟩:=h.r79 a b;exact⟨F,e,D,k2.frT o (by decide)⟩
 ·rcases J with e|⟨k,e,r⟩
  ·exact .inl (e.trans i)
  ·exact .inr ⟨k,e,zC h.k.size r⟩
 ·have g:L 18=false:=by cases e:L 18 with|false=>rfl|true=>exact (l e).elim
  have:=h.d.frT o (by decide);rw[g]at this;show ah _ _ _ (#[if L 18 then _ else _,_]++_);rw[g];exact this
theorem NI.push15 (h:NI B d rb ab m1 ms n rv av gv rs bs cs W0 L s70 s71 s72 s73 s77 s79 s80 W) (C:n<=1000000) (A:gv.oneCell'=true) (x:L 8=true) (l:L 12=true) (v:L 14=true) (f:L 15=false) (ty:TypeId):
 s77=av/\∃ p w',(Builtin.append_ #[115,115] ty #[av,s79]).run prog W=.ok p w'/\NI B d rb ab m1 ms n rv av gv rs bs cs W0 (fun j=>j==15||L j) s70 s71 s72 s73 s77 s79 p w':=by
 obtain⟨q,rfl,G,t⟩:=h.r79 v f;obtain⟨y,i⟩:=h.b0 f;obtain⟨p,w',D,E,z,F⟩:=lY (ty:=ty) (c:=1) (m:=54) (news:=[gv]) underlying115 wF rfl (by omega) y t rfl (by simpa using A) C (by omega) (zC h.be h.k.size);have r:=pt y z;have o:L 21=true->False:=fun e=>by rw[h.o2 e]at f;cases f
 refine⟨h.r77 l,p,w',D,h.k.trans ((ag.grown z).mono fun k e=>.inr (.inr (.inl (e.trans i)))),h.f.trans (r.mono (by simp)),h.be,h.r70,h.r71,h.r77,fun a b=>(by rw[x]at b;cases b),fun _ e=>(by simp at e),fun e=>(by rw[x]at e;cases e),fun a=>⟨ay (h.a1 a).1 r (by decide),(h.a1 a).2⟩,fun e=>(by simp at e),fun _=>⟨E,?_⟩,?_,h.o1,fun e=>(o e).elim,fun _=>x,h.o4,fun _=>l⟩
 ·rcases F with e|⟨k,e,t⟩
  ·exact .inl (e.trans i)
  ·exact .inr ⟨k,e,zC h.k.size t⟩
 ·have g:L 21=false:=by cases e:L 21 with|false=>rfl|true=>exact (o e).elim
  have:=h.d.frT r (by decide);rw[g]at this;show ah _ _ _ (#[_,if L 21 then _ else _]++_);rw[g];exact this
theorem NI.store18 (h:NI B d rb ab m1 ms n rv av gv rs bs cs W0 L s70 s71 s72 s73 s77 s79 s80 W) (f:L 8=true):(∃ u,W.cell? ⟨d,0,none⟩=some u)/\W.frozen? ⟨d,0,none⟩=false/\NI B d rb ab m1 ms n rv av gv rs bs cs W0 (fun j=>j==18||L j) s70 s71 s72 s73 s77 s79 s80 (W.setCell ⟨d,0,none⟩ s73):=by
 have c:=(aD.refl [some 117] W).setCell (p:=⟨d,0,none⟩) h.d (by simp) s73;refine⟨⟨if L 18 then s73 else rv,by rw[h.d.cell];simp⟩,h.d.frozen 0,h.k.trans ((ag.setCell W ⟨d,0,none⟩ s73).mono fun k e=>.inl e),h.f.trans (c.mono (by simp)),h.be,h.r70,h.r71,h.r77,fun a b=>(by rw[f]at b;cases b),fun a b=>?_,fun e=>(by rw[f]at e;cases e),fun a=>⟨ay (h.a1 a).1 c (by decide),(h.a1 a).2⟩,fun a=>⟨ay (h.b0 a).1 c (by decide),(h.b0 a).2⟩,fun a=>⟨ay (h.b1 a).1 c (by decide),(h.b1 a).2⟩,?_,fun _=>f,h.o2,h.o3,h.o4,h.o5⟩
 ·obtain⟨i,e,g,k2⟩:=h.r79 a b;exact⟨i,e,g,k2.frT c (by decide)⟩
 ·have:=h.d.set_ 0 s73;simpa using this
theorem NI.store21 (h:NI B d rb ab m1 ms n rv av gv rs bs cs W0 L s70 s71 s72 s73 s77 s79 s80 W) (c:L 15=true):(∃ u,W.cell? ⟨d,1,none⟩=some u)/\W.frozen? ⟨d,1,none⟩=false/\NI B d rb ab m1 ms n rv av gv rs bs cs W0 (fun j=>j==21||L j) s70 s71 s72 s73 s77 s79 s80 (W.setCell ⟨d,1,none⟩ s80):=by
 have g:=h.o3 c;have f:=(aD.refl [some 117] W).setCell (p:=⟨d,1,none⟩) h.d (by simp) s80;refine⟨⟨if L 21 then s80 else av,by rw[h.d.cell];simp⟩,h.d.frozen 1,h.k.trans ((ag.setCell W ⟨d,1,none⟩ s80).mono fun k e=>.inl e),h.f.trans (f.mono (by simp)),h.be,h.r70,h.r71,h.r77,fun a b=>(by rw[g]at b;cases b),fun a b=>(by rw[c]at b;cases b),fun e=>(by rw[g]at e;cases e),fun a=>⟨ay (h.a1 a).1 f (by decide),(h.a1 a).2⟩,fun e=>(by rw[c]at e;cases e),fun a=>⟨ay (h.b1 a).1 f (by decide),(h.b1 a).2⟩,?_,h.o1,fun _=>c,h.o3,h.o4,h.o5⟩;have:=h.d.set_ 1 s80;simpa using this
end
end Go.Proofs.YtlhojoefhannnaaGreat
