/- term.Unifier: the most general unifier of two terms. And 1 more texts. -/
import Derived.Test.YtlhojoefhannnaaGreatJt31
import Derived.Test.YtlhojoefhannnaaGreatJt38
set_option linter.unusedVariables false
set_option linter.unusedSimpArgs false
set_option maxRecDepth 100000
set_option maxHeartbeats 51200000
namespace Go.Proofs.YtlhojoefhannnaaGreat
open Go.RowKit NumB
def gr (a b:Tm):List Int:=Lib.compact ((a.free []++b.free []).mergeSort fun x y=>decide (x<=y))
theorem wF {a b:Tm} (ea:a.err0=0) (eb:b.err0=0) (ca:a.count<=10000) (cb:b.count<=10000):(gr a b).Pairwise (· < ·)/\(gr a b).length<=20000/\(∀ v,a.occ v->v∈gr a b)/\(∀ v,b.occ v->v∈gr a b)/\∀ v∈gr a b,0<=v/\v<=1073741824:=by
 obtain⟨h1,h2⟩:=j4 (nj (a.free []++b.free []));have hm:∀ v,v∈gr a b↔v∈a.free []\/v∈b.free []:=fun v=>by unfold gr;rw[h2,tW,List.mem_append]
 have hl:=j3 ((a.free []++b.free []).mergeSort fun x y=>decide (x<=y));rw[List.length_mergeSort,List.length_append]at hl;have l1:=fP a [];have l2:=fP b [];simp only[List.length_nil]at l1 l2;refine⟨h1,by unfold gr;omega,fun v hv=>(hm v).2 (.inl (fH a (a.allV_free []) v hv)),fun v hv=>(hm v).2 (.inr (fH b (b.allV_free []) v hv)),fun v hv=>?_⟩;rcases (hm v).1 hv with h|h
 ·exact sq ea v h
 ·exact sq eb v h
theorem qt {w:World} {a b:Tm} {ca cb:List Value} (ha:TC w a ca) (hb:TC w b cb) (W:World) (hW:Below w.heap.size w W):
 Calls Tryz.prog 8 #[.agg ca.toArray,.agg cb.toArray] W fun e W'=>∃ lv er ok bs,e=.returned (.tuple #[lv,.bool ok,.int .i64 er])/\ic a b er ok bs/\BL W' lv bs/\Below W.heap.size W W':=by
 have HPA:=zH ha;have HPB:=zH hb;obtain⟨k1,v1,st1,ng1,A1,n1,c1,B1,b1,d1,X1,l1,e1,hf1⟩:=ha.form;obtain⟨k2,v2,st2,ng2,A2,n2,c2,B2,b2,d2,X2,l2,e2,hf2⟩:=hb.form;subst hf1 hf2;have HWB:=zH hW;have HB1:Hid (Below W.heap.size W (((W.alloc (.cells #[.int .i64 k1,.int .i64 v1,.string st1,.bool ng1,.slice A1 n1 c1,.slice B1 b1 d1,.slice X1 l1 e1] 27)).alloc (.cells #[.int .i64 k2,.int .i64 v2,.string st2,.bool ng2,.slice A2 n2 c2,.slice B2 b2 d2,.slice X2 l2 e2] 27)).alloc (.cells #[.int .i64 k1,.int .i64 v1,.string st1,.bool ng1,.slice A1 n1 c1,.slice B1 b1 d1,.slice X1 l1 e1,.int .i64 k2,.int .i64 v2,.string st2,.bool ng2,.slice A2 n2 c2,.slice B2 b2 d2,.slice X2 l2 e2] 27))):=(am W _ _).alloc (by simp;omega) _;have HK1:Hid (af (((W.alloc (.cells #[.int .i64 k1,.int .i64 v1,.string st1,.bool ng1,.slice A1 n1 c1,.slice B1 b1 d1,.slice X1 l1 e1] 27)).alloc (.cells #[.int .i64 k2,.int .i64 v2,.string st2,.bool ng2,.slice A2 n2 c2,.slice B2 b2 d2,.slice X2 l2 e2] 27)).alloc (.cells #[.int .i64 k1,.int .i64 v1,.string st1,.bool ng1,.slice A1 n1 c1,.slice B1 b1 d1,.slice X1 l1 e1,.int .i64 k2,.int .i64 v2,.string st2,.bool ng2,.slice A2 n2 c2,.slice B2 b2 d2,.slice X2 l2 e2] 27)) W.heap.size 27 #[.int .i64 k1,.int .i64 v1,.string st1,.bool ng1,.slice A1 n1 c1,.slice B1 b1 d1,.slice X1 l1 e1]):=by unfold Hid af;repeat (first|exact aS (by simp)|rw[aH (by simp<;>omega)])
 have HK2:Hid (af (((W.alloc (.cells #[.int .i64 k1,.int .i64 v1,.string st1,.bool ng1,.slice A1 n1 c1,.slice B1 b1 d1,.slice X1 l1 e1] 27)).alloc (.cells #[.int .i64 k2,.int .i64 v2,.string st2,.bool ng2,.slice A2 n2 c2,.slice B2 b2 d2,.slice X2 l2 e2] 27)).alloc (.cells #[.int .i64 k1,.int .i64 v1,.string st1,.bool ng1,.slice A1 n1 c1,.slice B1 b1 d1,.slice X1 l1 e1,.int .i64 k2,.int .i64 v2,.string st2,.bool ng2,.slice A2 n2 c2,.slice B2 b2 d2,.slice X2 l2 e2] 27)) (W.heap.size+1) 27 #[.int .i64 k2,.int .i64 v2,.string st2,.bool ng2,.slice A2 n2 c2,.slice B2 b2 d2,.slice X2 l2 e2]):=by unfold Hid af;repeat (first|exact aS (by simp)|rw[aH (by simp<;>omega)])
 have HCH:Hid (Calls Tryz.prog 27 #[.slice (some ⟨W.heap.size+2,0,none⟩) 2 2] (((W.alloc (.cells #[.int .i64 k1,.int .i64 v1,.string st1,.bool ng1,.slice A1 n1 c1,.slice B1 b1 d1,.slice X1 l1 e1] 27)).alloc (.cells #[.int .i64 k2,.int .i64 v2,.string st2,.bool ng2,.slice A2 n2 c2,.slice B2 b2 d2,.slice X2 l2 e2] 27)).alloc (.cells #[.int .i64 k1,.int .i64 v1,.string st1,.bool ng1,.slice A1 n1 c1,.slice B1 b1 d1,.slice X1 l1 e1,.int .i64 k2,.int .i64 v2,.string st2,.bool ng2,.slice A2 n2 c2,.slice B2 b2 d2,.slice X2 l2 e2] 27)) fun e w'=>e=.returned (.int .i64 (eF [a,b]))/\Below ((((W.alloc (.cells #[.int .i64 k1,.int .i64 v1,.string st1,.bool ng1,.slice A1 n1 c1,.slice B1 b1 d1,.slice X1 l1 e1] 27)).alloc (.cells #[.int .i64 k2,.int .i64 v2,.string st2,.bool ng2,.slice A2 n2 c2,.slice B2 b2 d2,.slice X2 l2 e2] 27)).alloc (.cells #[.int .i64 k1,.int .i64 v1,.string st1,.bool ng1,.slice A1 n1 c1,.slice B1 b1 d1,.slice X1 l1 e1,.int .i64 k2,.int .i64 v2,.string st2,.bool ng2,.slice A2 n2 c2,.slice B2 b2 d2,.slice X2 l2 e2] 27))).heap.size (((W.alloc (.cells #[.int .i64 k1,.int .i64 v1,.string st1,.bool ng1,.slice A1 n1 c1,.slice B1 b1 d1,.slice X1 l1 e1] 27)).alloc (.cells #[.int .i64 k2,.int .i64 v2,.string st2,.bool ng2,.slice A2 n2 c2,.slice B2 b2 d2,.slice X2 l2 e2] 27)).alloc (.cells #[.int .i64 k1,.int .i64 v1,.string st1,.bool ng1,.slice A1 n1 c1,.slice B1 b1 d1,.slice X1 l1 e1,.int .i64 k2,.int .i64 v2,.string st2,.bool ng2,.slice A2 n2 c2,.slice B2 b2 d2,.slice X2 l2 e2] 27)) w'):=by
  have hk:af (((W.alloc (.cells #[.int .i64 k1,.int .i64 v1,.string st1,.bool ng1,.slice A1 n1 c1,.slice B1 b1 d1,.slice X1 l1 e1] 27)).alloc (.cells #[.int .i64 k2,.int .i64 v2,.string st2,.bool ng2,.slice A2 n2 c2,.slice B2 b2 d2,.slice X2 l2 e2] 27)).alloc (.cells #[.int .i64 k1,.int .i64 v1,.string st1,.bool ng1,.slice A1 n1 c1,.slice B1 b1 d1,.slice X1 l1 e1,.int .i64 k2,.int .i64 v2,.string st2,.bool ng2,.slice A2 n2 c2,.slice B2 b2 d2,.slice X2 l2 e2] 27)) (W.heap.size+2) 27 #[.int .i64 k1,.int .i64 v1,.string st1,.bool ng1,.slice A1 n1 c1,.slice B1 b1 d1,.slice X1 l1 e1,.int .i64 k2,.int .i64 v2,.string st2,.bool ng2,.slice A2 n2 c2,.slice B2 b2 d2,.slice X2 l2 e2]:=by unfold af;exact aS (by simp)
  exact qJ (zu HPA.out HPB.out (HWB.out.trans (HB1.out.mono HWB.out.size)) hk) _ (Below.refl _ _)
 have HZ:Hid (eF [a,b]=0->a.check=0/\b.check=0):=fun h=>by
  unfold eF at h;by_cases h1:a.check=0
  ·rw[if_pos h1]at h;unfold eF at h;by_cases h2:b.check=0
   ·exact⟨h1,h2⟩
   ·rw[if_neg h2]at h;exact absurd h h2
  ·rw[if_neg h1]at h;exact absurd h h1
 have HBAD:=zH (@ic.bad a b);obtain⟨me,hme⟩:∃ me,eF [a,b]=me:=⟨_,rfl⟩;rw[hme]at HCH HZ HBAD;have HME:=zH hme;have hmm:=@run_makeMap Tryz.prog;clear ha hb hW hme;go_enter Tryz.func8,Tryz.ntmps8;go_wp2_with fail;refine HCH.out.mono ?_;rintro e w1 ⟨rfl,hb1⟩;have HJ1:=zH (HB1.out.trans (hb1.mono HB1.out.size));have HKA:=zH (HK1.out.to hb1);have HKB:=zH (HK2.out.to hb1);clear hb1 HB1 HK1 HK2 HCH;by_cases hme:me=0
 rotate_left
 ·have hb:(me==0)=false:=beq_eq_false_iff_ne.2 hme;have HR:=zH (HBAD.out hme);clear HZ HBAD hme;go_wp2_with fail;refine bodyPost_ret (v:=.tuple #[.slice none 0 0,.bool false,.int .i64 me]) (by rw[dI rfl];rfl) rfl ?_;exact⟨.slice none 0 0,me,false,[],rfl,HR.out,⟨none,0,fun _=>[],rfl,Nat.le_refl _,by unfold maxLen;omega,fun h=>absurd h (by simp),fun i h=>absurd h (by simp)⟩,HJ1.out⟩
 subst hme;obtain⟨hca,hcb⟩:=HZ.out rfl;obtain⟨cta,era⟩:=aL hca;obtain⟨ctb,erb⟩:=aL hcb;obtain⟨la,hla⟩:∃ la,a.free []=la:=⟨_,rfl⟩;obtain⟨lb,hlb⟩:∃ lb,b.free []=lb:=⟨_,rfl⟩;have HVS:=zH (wF era erb cta ctb);have HVE:Hid (gr a b=Lib.compact ((la++lb).mergeSort fun x y=>decide (x<=y))):=by show _=_;unfold gr;rw[hla,hlb]
 have HLN:Hid (la.length+lb.length<=1000000):=by
  have l1:=fP a [];have l2:=fP b [];rw[hla]at l1;rw[hlb]at l2;simp only[List.length_nil]at l1 l2;show _<=_;omega
 have HER:Hid (a.count<=10000/\b.count<=10000/\a.err0=0/\b.err0=0):=⟨cta,ctb,era,erb⟩;have HFA:Hid (∀ W',Below w1.heap.size w1.drew W'->Calls Tryz.prog 31 #[.agg #[.int .i64 k1,.int .i64 v1,.string st1,.bool ng1,.slice A1 n1 c1,.slice B1 b1 d1,.slice X1 l1 e1]] W' fun e W2=>∃ ov,e=.returned ov/\W2.ownsRow W'.heap.size 3 1 ov la.length (la.map (Value.int .i64))/\Below W'.heap.size W' W2):=fun W' hW'=>by
  have h:=pt HPA.out (by omega) W' ((HWB.out.trans (HJ1.out.mono HWB.out.size)).drew.trans (hW'.mono (HWB.out.trans (HJ1.out.mono HWB.out.size)).size));rw[hla]at h;exact h
 have HFB:Hid (∀ W',Below w1.heap.size w1.drew W'->Calls Tryz.prog 31 #[.agg #[.int .i64 k2,.int .i64 v2,.string st2,.bool ng2,.slice A2 n2 c2,.slice B2 b2 d2,.slice X2 l2 e2]] W' fun e W2=>∃ ov,e=.returned ov/\W2.ownsRow W'.heap.size 3 1 ov lb.length (lb.map (Value.int .i64))/\Below W'.heap.size W' W2):=fun W' hW'=>by
  have h:=pt HPB.out (by omega) W' ((HWB.out.trans (HJ1.out.mono HWB.out.size)).drew.trans (hW'.mono (HWB.out.trans (HJ1.out.mono HWB.out.size)).size));rw[hlb]at h;exact h
 have HKA:=zH HKA.out.drew;have HKB:=zH HKB.out.drew;clear HZ HBAD hca hcb cta era ctb erb hla hlb;go_wp2_with fail;refine wp_region_held_drew (S:=fun _=>True) (by kernel_rfl) trivial (fun hHeld=>?_);refine gw [0,1,2,3,4,5,6,7,8,9] (fun aa L a W'=>∃ s26 s27 s28 s29 s30 s31 s32 s33 s8,a=(((((((((aa.put (some 26) s26).put (some 27) s27).put (some 28) s28).put (some 29) s29).put (some 30) s30).put (some 31) s31).put (some 32) s32).put (some 33) s33).put (some 8) s8)/\VI w1.drew la lb (.agg #[.int .i64 k1,.int .i64 v1,.string st1,.bool ng1,.slice A1 n1 c1,.slice B1 b1 d1,.slice X1 l1 e1]) (.agg #[.int .i64 k2,.int .i64 v2,.string st2,.bool ng2,.slice A2 n2 c2,.slice B2 b2 d2,.slice X2 l2 e2]) L s26 s27 s28 s29 s30 s31 s32 s33 s8 W') (by kernel_rfl) (by kernel_rfl) (by decide) (by kernel_rfl) ?hS ?init ?steps ?done
 case hS=>exact fun _ _ _ _=>trivial
 case init=>
  refine⟨undef,undef,undef,undef,undef,undef,undef,undef,undef,(by simp only[Act.put,L1]),Below.refl _ _,?_,?_,⟨0,by decide,by decide,by decide,by decide,by decide,by decide,by decide,trivial⟩,?_,?_⟩<;>(intro h;exact absurd h (by decide))
 case steps=>
  refine aN.cons (i:=0) rfl ?_ (aN.cons (i:=1) rfl ?_ (aN.cons (i:=2) rfl ?_ (aN.cons (i:=3) rfl ?_ (aN.cons (i:=4) rfl ?_ (aN.cons (i:=5) rfl ?_ (aN.cons (i:=6) rfl ?_ (aN.cons (i:=7) rfl ?_ (aN.cons (i:=8) rfl ?_ (aN.cons (i:=9) rfl ?_ aN.nil)))))))))
  ·rintro L a W' ⟨s26,s27,s28,s29,s30,s31,s32,s33,s8,rfl,hI⟩ hL hdep K hK;have HI:=zH hI;have HL:=zH hL;clear hI;simp only[Act.put,L1];clear hL hdep;have t0:=(HKA.out.to HI.out.be).cell 0;have t1:=(HKA.out.to HI.out.be).cell 1;have t2:=(HKA.out.to HI.out.be).cell 2;have t3:=(HKA.out.to HI.out.be).cell 3;have t4:=(HKA.out.to HI.out.be).cell 4;have t5:=(HKA.out.to HI.out.be).cell 5;have t6:=(HKA.out.to HI.out.be).cell 6;simp only[L3]at t0 t1 t2 t3 t4 t5 t6;go_simp;exact hK.out _ _ ⟨.agg #[.int .i64 k1,.int .i64 v1,.string st1,.bool ng1,.slice A1 n1 c1,.slice B1 b1 d1,.slice X1 l1 e1],s27,s28,s29,s30,s31,s32,s33,s8,(by simp only[Act.put,L1]),HI.out.load0⟩
  ·rintro L a W' ⟨s26,s27,s28,s29,s30,s31,s32,s33,s8,rfl,hI⟩ hL hdep K hK;have HI:=zH hI;have HL:=zH hL;clear hI;simp only[Act.put,L1];have hd:L 0=true:=by simp[Region.binds]at hdep;simp[hdep]
   have HD:=zH hd;clear hd hL hdep;obtain rfl:=HI.out.r0 HD.out;go_simp;refine (HFA.out _ HI.out.be).mono ?_;rintro e W2 ⟨ov,rfl,hrow,hb⟩;exact hK.out _ _ ⟨.agg #[.int .i64 k1,.int .i64 v1,.string st1,.bool ng1,.slice A1 n1 c1,.slice B1 b1 d1,.slice X1 l1 e1],ov,s28,s29,s30,s31,s32,s33,s8,(by simp only[Act.put,L1]),HI.out.next 0 (by decide) HL.out (fun h=>absurd h (by decide)) (hb.mono HI.out.be.size) (ar.of_below (ts:=[]) hb) (by simp) fun _=>Joins.ownsRow_le hrow HI.out.be.size⟩
  ·rintro L a W' ⟨s26,s27,s28,s29,s30,s31,s32,s33,s8,rfl,hI⟩ hL hdep K hK;have HI:=zH hI;have HL:=zH hL;clear hI;simp only[Act.put,L1];clear hL hdep;have t0:=(HKB.out.to HI.out.be).cell 0;have t1:=(HKB.out.to HI.out.be).cell 1;have t2:=(HKB.out.to HI.out.be).cell 2;have t3:=(HKB.out.to HI.out.be).cell 3;have t4:=(HKB.out.to HI.out.be).cell 4;have t5:=(HKB.out.to HI.out.be).cell 5;have t6:=(HKB.out.to HI.out.be).cell 6;simp only[L3]at t0 t1 t2 t3 t4 t5 t6;go_simp;exact hK.out _ _ ⟨s26,s27,.agg #[.int .i64 k2,.int .i64 v2,.string st2,.bool ng2,.slice A2 n2 c2,.slice B2 b2 d2,.slice X2 l2 e2],s29,s30,s31,s32,s33,s8,(by simp only[Act.put,L1]),HI.out.load2⟩
  ·rintro L a W' ⟨s26,s27,s28,s29,s30,s31,s32,s33,s8,rfl,hI⟩ hL hdep K hK;have HI:=zH hI;have HL:=zH hL;clear hI;simp only[Act.put,L1];have hd:L 2=true/\L 1=true:=by simp[Region.binds]at hdep;simp[hdep]
   have HD:=zH hd;clear hd hL hdep;obtain rfl:=HI.out.r2 HD.out.1;go_simp;refine (HFB.out _ HI.out.be).mono ?_;rintro e W2 ⟨ov,rfl,hrow,hb⟩;exact hK.out _ _ ⟨s26,s27,.agg #[.int .i64 k2,.int .i64 v2,.string st2,.bool ng2,.slice A2 n2 c2,.slice B2 b2 d2,.slice X2 l2 e2],ov,s30,s31,s32,s33,s8,(by simp only[Act.put,L1]),HI.out.next 1 (by decide) HL.out (fun _=>HD.out.2) (hb.mono HI.out.be.size) (ar.of_below (ts:=[]) hb) (by simp) fun h=>⟨ed.below h hb,Joins.ownsRow_le hrow HI.out.be.size⟩⟩
  ·rintro L a W' ⟨s26,s27,s28,s29,s30,s31,s32,s33,s8,rfl,hI⟩ hL hdep K hK;have HI:=zH hI;have HL:=zH hL;clear hI;simp only[Act.put,L1];have hd:L 1=true/\L 3=true:=by simp[Region.binds]at hdep;simp[hdep]
   have HD:=zH hd;clear hd hL hdep;have hsf:=HI.out.at 2 (by decide) HL.out (fun _=>HD.out.2);refine Eq.mpr (if_pos (by first|rfl|kernel_rfl)) ?_;refine kQ (.tmp 27) (.tmp 29) ?_ (v:=s27) (y:=s29) ?_ ?_ HI.out.be.size hsf.1 hsf.2 HLN.out ?_
   iterate 3 rfl
   rintro v' w' hrow hb hf;clear hsf
   (try simp only[Act.put,L1,L2])
   exact hK.out _ _ ⟨s26,s27,s28,s29,v',s31,s32,s33,s8,(by simp only[Act.put,L1]),HI.out.next 2 (by decide) HL.out (fun _=>HD.out.2) hb hf (by decide) fun _=>hrow⟩
  ·rintro L a W' ⟨s26,s27,s28,s29,s30,s31,s32,s33,s8,rfl,hI⟩ hL hdep K hK;have HI:=zH hI;have HL:=zH hL;clear hI;simp only[Act.put,L1];have hd:L 4=true:=by simp[Region.binds]at hdep;simp[hdep]
   have HD:=zH hd;clear hd hL hdep;have hsf:=HI.out.at 3 (by decide) HL.out (fun _=>HD.out);obtain⟨G0,cap0,hsl⟩:=bj hsf;rw[List.length_append]at hsl;subst hsl;have HSF:=zH hsf;clear hsf;go_simp;refine (rN _ _ _ _).mono ?_;rintro e W2 ⟨rfl,rfl⟩;have hb:=I W' (.cells #[.slice G0 (la.length+lb.length) cap0] 54);exact hK.out _ _ ⟨s26,s27,s28,s29,.slice G0 (la.length+lb.length) cap0,.func (.func 56) #[] #[.pointer (some ⟨W'.heap.size,0,none⟩)],s32,s33,s8,(by simp only[Act.put,L1]),HI.out.next 3 (by decide) HL.out (fun _=>HD.out) (hb.mono HI.out.be.size) (ar.of_below (ts:=[]) hb) (by simp) fun _=>⟨⟨_,rfl,by simp,(af.new W' 54 #[.slice G0 (la.length+lb.length) cap0]).cell 0⟩,ed.below HSF.out hb⟩⟩
  ·rintro L a W' ⟨s26,s27,s28,s29,s30,s31,s32,s33,s8,rfl,hI⟩ hL hdep K hK;have HI:=zH hI;have HL:=zH hL;clear hI;simp only[Act.put,L1];have hd:L 5=true:=by simp[Region.binds]at hdep;simp[hdep]
   have HD:=zH hd;clear hd hL hdep;have hsf:=HI.out.at 4 (by decide) HL.out (fun _=>HD.out);obtain⟨⟨k,rfl,hk,hc⟩,hr⟩:=hsf;have HSO:=zH (qj k s30 (la++lb) (by rw[List.length_append];exact HLN.out) W' hk hc (eC.of_row hr (Nat.le_refl _)));clear hk hc hr;go_simp;refine HSO.out.mono ?_;rintro e W2 ⟨v,rfl,hrow,hb⟩;exact hK.out _ _ ⟨s26,s27,s28,s29,s30,.func (.func 56) #[] #[.pointer (some ⟨k,0,none⟩)],v,s33,s8,(by simp only[Act.put,L1]),HI.out.next 4 (by decide) HL.out (fun _=>HD.out) (hb.mono HI.out.be.size) (ar.of_below (ts:=[]) hb) (by simp) fun _=>(by unfold SF ed;rw[List.length_mergeSort];exact Joins.ownsRow_le hrow HI.out.be.size)⟩
  ·rintro L a W' ⟨s26,s27,s28,s29,s30,s31,s32,s33,s8,rfl,hI⟩ hL hdep K hK;have HI:=zH hI;have HL:=zH hL;clear hI;simp only[Act.put,L1];have hd:L 6=true:=by simp[Region.binds]at hdep;simp[hdep]
   have HD:=zH hd;clear hd hL hdep;have hsf:=HI.out.at 5 (by decide) HL.out (fun _=>HD.out);have HSO:=zH (mT _ (by rw[List.length_mergeSort,List.length_append];exact HLN.out) W' HI.out.be.size hsf);clear hsf;go_simp;refine HSO.out.mono ?_;rintro e W2 ⟨v,rfl,hrow,hb,hf⟩;exact hK.out _ _ ⟨s26,s27,s28,s29,s30,s31,s32,v,s8,(by simp only[Act.put,L1]),HI.out.next 5 (by decide) HL.out (fun _=>HD.out) hb hf (by decide) fun _=>hrow⟩
  ·rintro L a W' ⟨s26,s27,s28,s29,s30,s31,s32,s33,s8,rfl,hI⟩ hL hdep K hK;have HI:=zH hI;have HL:=zH hL;clear hI;simp only[Act.put,L1];clear hL hdep;go_simp;exact hK.out _ _ ⟨s26,s27,s28,s29,s30,s31,s32,s33,(.pointer (some ⟨W'.heap.size,0,none⟩)),(by simp only[Act.put,L1]),HI.out.alloc8 HL.out⟩
  ·rintro L a W' ⟨s26,s27,s28,s29,s30,s31,s32,s33,s8,rfl,hI⟩ hL hdep K hK;have HI:=zH hI;have HL:=zH hL;clear hI;simp only[Act.put,L1];have hd:L 8=true/\L 7=true:=by simp[Region.binds]at hdep;simp[hdep]
   have HD:=zH hd;clear hd hL hdep;obtain⟨k,rfl,⟨u,hu⟩,hfz,⟨Ax,nx,cx,rfl⟩,hI2⟩:=HI.out.store9 HD.out.2 HD.out.1;have HI2:=zH hI2;clear hI2;go_simp;exact hK.out _ _ ⟨s26,s27,s28,s29,s30,s31,s32,.slice Ax nx cx,(.pointer (some ⟨k,0,none⟩)),(by simp only[Act.put,L1]),HI2.out⟩
 case done=>
  rintro L a w4 ⟨s26,s27,s28,s29,s30,s31,s32,s33,s8,rfl,hI⟩ hall;simp only[Act.put,L1];obtain⟨hrow,k,rfl,hk,hkb⟩:=hI.end (hall 7 (by decide)) (hall 8 (by decide)) (hall 9 (by decide));have HB4:Hid (Below w1.heap.size w1 w4):=(Below.refl w1.heap.size w1).drew.trans hI.be;have HKA4:=zH (HKA.out.to hI.be);have HKB4:=zH (HKB.out.to hI.be);clear hI hall hHeld HFA HFB HLN HKA HKB;rw[<-HVE.out]at hrow;generalize gr a b=vs at HVS HVE hrow;clear HVE la lb;obtain⟨A0,c0,hsv⟩:=bj hrow;subst hsv;have HROW:=zH hrow;have HKB0:=zH hkb;have HKL:Hid (W.heap.size<=k/\k<w4.heap.size):=⟨Nat.le_trans HJ1.out.size hk,hkb.lt⟩;clear hrow hkb hk;obtain⟨nl,hnl⟩:∃ nl,vs.length=nl:=⟨_,rfl⟩;have HNL:=zH hnl;rw[hnl];clear hnl;go_wp2_with fail;refine (ji _).mono ?_;rintro e w5 ⟨rfl,rfl⟩;have HN0:Hid (NV w4 (w4.heap.size+1+1) w4.heap.size (w4.heap.size+1) vs none 0 0 (((w4.alloc (.map #[] 0)).alloc (.cells #[.map (some w4.heap.size)] 67)).alloc (.cells #[.slice none 0 0,.slice none 0 0,.slice none 0 0] 95))):=by
   refine⟨⟨?_,by omega,World.ownsRow_nil _ _ _ _⟩,fun _=>⟨rfl,rfl⟩,⟨_,.empty (c:=0) ?_,fun v=>?_⟩,?_,?_,Nat.le_refl _⟩
   ·unfold af;repeat (first|exact aS (by simp)|rw[aH (by simp<;>omega)])
   ·rw[aH (by simp<;>omega),aH (by simp<;>omega)];exact aS (by simp)
   ·rw[List.take_zero,if_neg (by simp)]
   ·unfold af;repeat (first|exact aS (by simp)|rw[aH (by simp<;>omega)])
   ·exact ((am w4 _ _).alloc (by simp;omega) _)
  have kb0:=(HKB0.out.to HN0.out.be).cell 0;simp only[List.getElem?_toArray,List.getElem?_cons_zero,HNL.out]at kb0;have hl20:=HVS.out.2.1;rw[HNL.out]at hl20;go_wp2_with fail;generalize (((w4.alloc (.map #[] 0)).alloc (.cells #[.map (some w4.heap.size)] 67)).alloc (.cells #[.slice none 0 0,.slice none 0 0,.slice none 0 0] 95))=w5 at HN0 kb0 ⊢;clear kb0
  go_loopg [38] nl (fun gk s38 wr=>∃ (j:Nat) (A:Option Addr) (c:Nat),gk+j=nl/\s38=.int .i64 (j:Int)/\Hid (NV w4 (w4.heap.size+1+1) w4.heap.size (w4.heap.size+1) vs A c j wr))
  case atStart=>exact⟨0,none,0,by omega,rfl,HN0.out⟩
  case round=>
   clear HN0;obtain⟨j,A,c,hgj,rfl,HN⟩:=hrel;by_cases hj:j<nl
   ·have hjv:j<vs.length:=by rw[HNL.out];exact hj
    have hr0:=HROW.out.below HN.out.be;obtain⟨G0,cap0,e0⟩:=Joins.ownsRow_form hr0 (by omega);simp only[Value.slice.injEq,true_and]at e0;obtain⟨rfl,rfl⟩:=e0;have x0:=hr0.cellAt j (by simpa using hjv);rw[show (vs.map (Value.int .i64))[j]?=some (.int .i64 vs[j]) by simp[hjv]]at x0;have HNP:=zH (rj HVS.out.1 hjv (by rw[HNL.out];omega) (by omega) HN.out.drew);have b0:=HN.out.drew.bx.cell 0;simp only[List.getElem?_toArray,List.getElem?_cons_zero]at b0;generalize vs[j]=vj at x0 HNP;clear hr0;go_wp2_with fail
    go_region_held3 (fun w'=>w'.cell? ⟨w4.heap.size+1,0,none⟩=some (.map (some w4.heap.size)))
     (with_reducible assumption)
     (first
      |(go_at_call 33;(with_reducible refine HNP.out.mono ?_);rintro e y2 ⟨z2,rfl,hput,HG2,hr2,hr3⟩))
    clear HNP b0 hr2 hr3 hput x0;go_wp2_with fail
    go_roundg (gk-1)
    case measure=>omega
    case rel=>
     obtain⟨A',c',hn⟩:=HG2.out;exact⟨j+1,A',c',by omega,by go_num,hn⟩
   ·have hjl:j=nl:=by omega
    subst hjl;obtain⟨G,cG,hsn⟩:=HN.out.hsn;obtain⟨gm,hgm,hgv⟩:=HN.out.mp;obtain⟨hs,hlv,hva,hvb,hvr⟩:=HVS.out;have hbx:=HN.out.bx;have HBL:=zH HN.out.be;have hwr:Below w.heap.size w wr:=HWB.out.trans ((HJ1.out.trans ((HB4.out.trans (HBL.out.mono HB4.out.size)).mono HJ1.out.size)).mono HWB.out.size);have HWR:=zH hwr;have HSN0:=zH hsn;rw[List.take_of_length_le (by rw[HNL.out];exact Nat.le_refl _)]at hgv;have hen:∀ args w,(callFunc 34 args).run Tryz.prog w=.ok (.enter 34 args) w:=enters_of Tryz.func34 (by kernel_rfl) rfl;have hvsm:∀ v x,(fun v=>some (Tm.var (ef vs v))) v=some x->x.sm:=fun v x e=>by
     cases e;unfold Tm.var;rw[Tm.sm,sQ];exact⟨by simp,by simp,by simp,trivial⟩
    have hl1:∀ v W',Below wr.heap.size wr W'->Calls Tryz.prog 34 #[.int .i64 v,.pointer (some ⟨w4.heap.size+1,0,none⟩)] W' fun e W2=>∃ cx tx,e=.returned (.tuple #[.agg cx.toArray,.bool ((fun v=>some (Tm.var (ef vs v))) v).isSome])/\TC W2 tx cx/\(∀ x,(fun v=>some (Tm.var (ef vs v))) v=some x->tx=x)/\Below W'.heap.size W' W2:=fun v W' hW'=>by
     refine (rb (w4.heap.size+1) w4.heap.size _ vs (by omega) (hbx.cell 0) hbx.lt hgm hgv v W' hW').mono ?_;rintro e W2 ⟨cx,tx,rfl,h1,rfl,h2⟩;exact⟨cx,_,rfl,h1,fun x e=>Option.some.inj e,h2⟩
    have HRS:Hid (∀ W',Below w4.heap.size w4 W'->(W'.cell? ⟨W.heap.size,0,none⟩=some (.int .i64 k1)/\W'.cell? ⟨W.heap.size,1,none⟩=some (.int .i64 v1)/\W'.cell? ⟨W.heap.size,2,none⟩=some (.string st1)/\W'.cell? ⟨W.heap.size,3,none⟩=some (.bool ng1)/\W'.cell? ⟨W.heap.size,4,none⟩=some (.slice A1 n1 c1)/\W'.cell? ⟨W.heap.size,5,none⟩=some (.slice B1 b1 d1)/\W'.cell? ⟨W.heap.size,6,none⟩=some (.slice X1 l1 e1)/\W'.cell? ⟨W.heap.size+1,0,none⟩=some (.int .i64 k2)/\W'.cell? ⟨W.heap.size+1,1,none⟩=some (.int .i64 v2)/\W'.cell? ⟨W.heap.size+1,2,none⟩=some (.string st2)/\W'.cell? ⟨W.heap.size+1,3,none⟩=some (.bool ng2)/\W'.cell? ⟨W.heap.size+1,4,none⟩=some (.slice A2 n2 c2)/\W'.cell? ⟨W.heap.size+1,5,none⟩=some (.slice B2 b2 d2)/\W'.cell? ⟨W.heap.size+1,6,none⟩=some (.slice X2 l2 e2))):=fun W' hW'=>by
     have h1:=HKA4.out.to hW';have h2:=HKB4.out.to hW';exact⟨h1.cell 0,h1.cell 1,h1.cell 2,h1.cell 3,h1.cell 4,h1.cell 5,h1.cell 6,h2.cell 0,h2.cell 1,h2.cell 2,h2.cell 3,h2.cell 4,h2.cell 5,h2.cell 6⟩
    obtain⟨x,hxe⟩:∃ x,(a.sb fun v=>.var (ef vs v))=x:=⟨_,rfl⟩;obtain⟨y,hye⟩:∃ y,(b.sb fun v=>.var (ef vs v))=y:=⟨_,rfl⟩;have HXE:=zH hxe;have HYE:=zH hye;have HRA:Hid (∀ W',Below wr.heap.size wr W'->Calls Tryz.prog 19 #[.agg #[.int .i64 k1,.int .i64 v1,.string st1,.bool ng1,.slice A1 n1 c1,.slice B1 b1 d1,.slice X1 l1 e1],.func (.func 34) #[] #[.pointer (some ⟨w4.heap.size+1,0,none⟩)]] W' fun e W2=>∃ cs',e=.returned (.agg cs'.toArray)/\Hid (fF (W'.heap.size+1) W2 x cs'/\Below W'.heap.size W' W2/\Below wr.heap.size wr W2)/\(W2.cell? ⟨W.heap.size,0,none⟩=some (.int .i64 k1)/\W2.cell? ⟨W.heap.size,1,none⟩=some (.int .i64 v1)/\W2.cell? ⟨W.heap.size,2,none⟩=some (.string st1)/\W2.cell? ⟨W.heap.size,3,none⟩=some (.bool ng1)/\W2.cell? ⟨W.heap.size,4,none⟩=some (.slice A1 n1 c1)/\W2.cell? ⟨W.heap.size,5,none⟩=some (.slice B1 b1 d1)/\W2.cell? ⟨W.heap.size,6,none⟩=some (.slice X1 l1 e1)/\W2.cell? ⟨W.heap.size+1,0,none⟩=some (.int .i64 k2)/\W2.cell? ⟨W.heap.size+1,1,none⟩=some (.int .i64 v2)/\W2.cell? ⟨W.heap.size+1,2,none⟩=some (.string st2)/\W2.cell? ⟨W.heap.size+1,3,none⟩=some (.bool ng2)/\W2.cell? ⟨W.heap.size+1,4,none⟩=some (.slice A2 n2 c2)/\W2.cell? ⟨W.heap.size+1,5,none⟩=some (.slice B2 b2 d2)/\W2.cell? ⟨W.heap.size+1,6,none⟩=some (.slice X2 l2 e2))):=fun W' hW'=>by
     refine (hG (w:=wr) 34 (w4.heap.size+1) hen _ hvsm hl1 (HPA.out.to hwr) (HPA.out.sm HER.out.2.2.1) W' hW').mono ?_;rintro e W2 ⟨cs',rfl,h1,h2⟩;have h3:=hW'.trans (h2.mono hW'.size);rw[<-hxe];exact⟨cs',rfl,⟨h1,h2,h3⟩,HRS.out _ (HBL.out.trans (h3.mono HBL.out.size))⟩
    have HRB:Hid (∀ W',Below wr.heap.size wr W'->Calls Tryz.prog 19 #[.agg #[.int .i64 k2,.int .i64 v2,.string st2,.bool ng2,.slice A2 n2 c2,.slice B2 b2 d2,.slice X2 l2 e2],.func (.func 34) #[] #[.pointer (some ⟨w4.heap.size+1,0,none⟩)]] W' fun e W2=>∃ cs',e=.returned (.agg cs'.toArray)/\Hid (fF (W'.heap.size+1) W2 y cs'/\Below W'.heap.size W' W2/\Below wr.heap.size wr W2)/\(W2.cell? ⟨W.heap.size,0,none⟩=some (.int .i64 k1)/\W2.cell? ⟨W.heap.size,1,none⟩=some (.int .i64 v1)/\W2.cell? ⟨W.heap.size,2,none⟩=some (.string st1)/\W2.cell? ⟨W.heap.size,3,none⟩=some (.bool ng1)/\W2.cell? ⟨W.heap.size,4,none⟩=some (.slice A1 n1 c1)/\W2.cell? ⟨W.heap.size,5,none⟩=some (.slice B1 b1 d1)/\W2.cell? ⟨W.heap.size,6,none⟩=some (.slice X1 l1 e1)/\W2.cell? ⟨W.heap.size+1,0,none⟩=some (.int .i64 k2)/\W2.cell? ⟨W.heap.size+1,1,none⟩=some (.int .i64 v2)/\W2.cell? ⟨W.heap.size+1,2,none⟩=some (.string st2)/\W2.cell? ⟨W.heap.size+1,3,none⟩=some (.bool ng2)/\W2.cell? ⟨W.heap.size+1,4,none⟩=some (.slice A2 n2 c2)/\W2.cell? ⟨W.heap.size+1,5,none⟩=some (.slice B2 b2 d2)/\W2.cell? ⟨W.heap.size+1,6,none⟩=some (.slice X2 l2 e2))):=fun W' hW'=>by
     refine (hG (w:=wr) 34 (w4.heap.size+1) hen _ hvsm hl1 (HPB.out.to hwr) (HPB.out.sm HER.out.2.2.2) W' hW').mono ?_;rintro e W2 ⟨cs',rfl,h1,h2⟩;have h3:=hW'.trans (h2.mono hW'.size);rw[<-hye];exact⟨cs',rfl,⟨h1,h2,h3⟩,HRS.out _ (HBL.out.trans (h3.mono HBL.out.size))⟩
    have HUN:Hid (∀ cx cy w5 w6,Hid (fF (wr.drew.heap.size+1) w5 x cx/\Below wr.drew.heap.size wr.drew w5/\Below wr.heap.size wr w5)->Hid (fF (w5.heap.size+1) w6 y cy/\Below w5.heap.size w5 w6/\Below wr.heap.size wr w6)->Calls Tryz.prog 36 #[.pointer (some ⟨w4.heap.size+1+1,0,none⟩),.agg cx.toArray,.agg cy.toArray,.bool true] w6 fun e w7=>∃ ok:Bool,e=.returned (.tuple #[.slice none 0 0,.bool ok])/\Hid ((ok=true->∃ f,lq true j w4.heap.size (w4.heap.size+1+1) G cG f (uL x y j) w6 (x,y) w7)/\(ok=false->lp true w4.heap.size w6 (x,y) w7)/\(Vt (fun i=>0<=i/\i<(j:Int)) x/\Vt (fun i=>0<=i/\i<(j:Int)) y/\x.count<=10000/\y.count<=10000)/\Below wr.heap.size wr w6)/\(w7.cell? ⟨W.heap.size,0,none⟩=some (.int .i64 k1)/\w7.cell? ⟨W.heap.size,1,none⟩=some (.int .i64 v1)/\w7.cell? ⟨W.heap.size,2,none⟩=some (.string st1)/\w7.cell? ⟨W.heap.size,3,none⟩=some (.bool ng1)/\w7.cell? ⟨W.heap.size,4,none⟩=some (.slice A1 n1 c1)/\w7.cell? ⟨W.heap.size,5,none⟩=some (.slice B1 b1 d1)/\w7.cell? ⟨W.heap.size,6,none⟩=some (.slice X1 l1 e1)/\w7.cell? ⟨W.heap.size+1,0,none⟩=some (.int .i64 k2)/\w7.cell? ⟨W.heap.size+1,1,none⟩=some (.int .i64 v2)/\w7.cell? ⟨W.heap.size+1,2,none⟩=some (.string st2)/\w7.cell? ⟨W.heap.size+1,3,none⟩=some (.bool ng2)/\w7.cell? ⟨W.heap.size+1,4,none⟩=some (.slice A2 n2 c2)/\w7.cell? ⟨W.heap.size+1,5,none⟩=some (.slice B2 b2 d2)/\w7.cell? ⟨W.heap.size+1,6,none⟩=some (.slice X2 l2 e2))):=fun cx cy w5 w6 h5 h6=>by
     have tx:=h5.out.1.tc;have ty:=h6.out.1.tc;rw[<-hxe]at tx;rw[<-hye]at ty;obtain⟨vx,ex⟩:=kL hs hlv HER.out.2.2.1 hva tx;obtain⟨vy,ey⟩:=kL hs hlv HER.out.2.2.2 hvb ty;rw[hxe,HNL.out]at vx;rw[hye,HNL.out]at vy;rw[hxe]at ex;rw[hye]at ey;have cx0:x.count<=10000:=by rw[ex];exact HER.out.1
     have cy0:y.count<=10000:=by rw[ey];exact HER.out.2.1
     refine (wB (by omega) h5.out.1 h6.out.2.1 h6.out.1 (Nat.le_succ _) vx vy cx0 cy0 (HSN0.out.below h6.out.2.2) (Nat.le_trans HBL.out.size h6.out.2.2.size)).mono ?_;rintro e w7 ⟨ok,rfl,q1,q2⟩;have hf:ar dQ w6 w7:=by
      cases ok with
      |true=>obtain⟨f,hu⟩:=q1 rfl;obtain⟨_,_,_,_,_,_,_,_,_,_,h,_⟩:=hu.tells (by omega) vx vy cx0 cy0;exact h
      |false=>exact (q2 rfl).tells.2.1
     have hb6:=HBL.out.trans (h6.out.2.2.mono HBL.out.size);have g1:=(HKA4.out.to hb6).frT hf (by decide);have g2:=(HKB4.out.to hb6).frT hf (by decide);exact⟨ok,rfl,⟨q1,q2,⟨vx,vy,cx0,cy0⟩,h6.out.2.2⟩,g1.cell 0,g1.cell 1,g1.cell 2,g1.cell 3,g1.cell 4,g1.cell 5,g1.cell 6,g2.cell 0,g2.cell 1,g2.cell 2,g2.cell 3,g2.cell 4,g2.cell 5,g2.cell 6⟩
    have hr0:=HRS.out wr.drew HBL.out.drew;have HCA:=zH (HRA.out wr.drew (Below.refl _ wr).drew);clear hsn hgm hgv hs hlv hva hvb hvr hbx hwr hen hvsm hl1 hxe hye;go_wp2_with fail
    go_region_held3 (fun w'=>w'.cell? ⟨W.heap.size,0,none⟩=some (.int .i64 k1)/\w'.cell? ⟨W.heap.size,1,none⟩=some (.int .i64 v1)/\w'.cell? ⟨W.heap.size,2,none⟩=some (.string st1)/\w'.cell? ⟨W.heap.size,3,none⟩=some (.bool ng1)/\w'.cell? ⟨W.heap.size,4,none⟩=some (.slice A1 n1 c1)/\w'.cell? ⟨W.heap.size,5,none⟩=some (.slice B1 b1 d1)/\w'.cell? ⟨W.heap.size,6,none⟩=some (.slice X1 l1 e1)/\w'.cell? ⟨W.heap.size+1,0,none⟩=some (.int .i64 k2)/\w'.cell? ⟨W.heap.size+1,1,none⟩=some (.int .i64 v2)/\w'.cell? ⟨W.heap.size+1,2,none⟩=some (.string st2)/\w'.cell? ⟨W.heap.size+1,3,none⟩=some (.bool ng2)/\w'.cell? ⟨W.heap.size+1,4,none⟩=some (.slice A2 n2 c2)/\w'.cell? ⟨W.heap.size+1,5,none⟩=some (.slice B2 b2 d2)/\w'.cell? ⟨W.heap.size+1,6,none⟩=some (.slice X2 l2 e2))
     (with_reducible assumption)
     (first
      |(go_at_call 19;(with_reducible refine HCA.out.mono ?_);rintro e w5 ⟨cx,rfl,HTA,hr5⟩;have HCB:=zH (HRB.out w5 HTA.out.2.2))
      |(go_at_call 19;(with_reducible refine HCB.out.mono ?_);rintro e w6 ⟨cy,rfl,HTB,hr6⟩;have HCU:=zH (HUN.out cx cy w5 w6 HTA HTB))
      |(go_at_call 36;(with_reducible refine HCU.out.mono ?_);rintro e w7 ⟨ok,rfl,HOK,hr7⟩))
    obtain⟨q1,q2,⟨vx,vy,ex,ey⟩,hb6⟩:=HOK.out;have HW6:Hid (Below W.heap.size W w6/\Below w4.heap.size w4 w6/\W.heap.size<=w4.heap.size):=by
     have h1:=HJ1.out.trans (HB4.out.mono HJ1.out.size);have h2:=HBL.out.trans (hb6.mono HBL.out.size);exact⟨h1.trans (h2.mono h1.size),h2,h1.size⟩
    clear HCA HCB HCU HRA HRB HUN hr0 hr5 hr6 hr7 HRS HTA HTB HOK HKA4 HKB4 hb6;obtain⟨hs,hlv,hva,hvb,hvr⟩:=HVS.out;have R:=vZ hs;cases ok with
    |false=>
     obtain⟨hno,_,hb7⟩:=(q2 rfl).tells;have HNO:Hid (ic a b 0 false []):=.no HME.out fun s e=>hno (fun i=>s (lj vs i)) (by rw[<-HXE.out,<-HYE.out,nC R hva s,nC R hvb s];exact e);have HB7:Hid (Below W.heap.size W w7):=HW6.out.1.trans (hb7.mono HW6.out.2.2);clear q1 q2 vx vy ex ey hs hlv hva hvb hvr R hno hb7;go_wp2_with fail;refine bodyPost_ret (v:=.tuple #[.slice none 0 0,.bool false,.int .i64 0]) (by rw[dI rfl];rfl) rfl ?_;exact⟨.slice none 0 0,0,false,[],rfl,HNO.out,⟨none,0,fun _=>[],rfl,Nat.le_refl _,by unfold maxLen;omega,fun h=>absurd h (by simp),fun i h=>absurd h (by simp)⟩,HB7.out⟩
    |true=>
     obtain⟨fB,hu⟩:=q1 rfl;obtain⟨β,xs,f',hsol,hres,hD,hE,hlow,hsn7,hbnd,hfr,hb7⟩:=hu.tells (by omega) vx vy ex ey;obtain⟨u1,u2,u3⟩:=rI (by omega) vx vy ex ey;have hacy:=hsol.1;rw[<-HNL.out]at hD;rw[<-HXE.out,<-HYE.out]at hsol;have hsol2:=xT R hD (E:=(a,b)) hva hvb hsol;have hres2:=xR R hD hres;obtain⟨F,hF⟩:∃ F,uo (· ∈ vs) (ef vs) (lj vs) f'=F:=⟨_,rfl⟩;rw[hF]at hres2;have HMG:Hid (wJ a b F):=⟨_,hsol2,hres2⟩;have hFi:∀ i (hi:i<vs.length),F vs[i]=(f' i).sb (fun i=>.var (lj vs i)):=fun i hi=>by
      rw[<-hF,iy (List.getElem_mem hi)];unfold ef;rw[if_pos (List.getElem_mem hi),nf hs hi]
     have hFo:∀ v,v∉vs->F v=.var v:=fun v hv=>by rw[<-hF,kK hv]
     have he':∀ i:Nat,i<vs.length->(f' i).err0=0:=fun i hi=>wa hres hacy hD (fun v hv=>eW hv.1 (by omega)) hE i ⟨by omega,by omega⟩;have hcn:∀ i (hi:i<vs.length),(F vs[i]).count=(f' i).count:=fun i hi=>by rw[hFi i hi,il (he' i hi)]
     have HFV:Hid (∀ i (hi:i<vs.length),(β (i:Int)=none->F vs[i]=.var vs[i])/\((β (i:Int)).isSome=true->F vs[i]≠.var vs[i])/\(F vs[i]).count=(f' i).count/\(F vs[i]).err0=0/\an vs[i]):=fun i hi=>by
      have hm:=List.getElem_mem hi;have h1:=hres2.ne hsol2.1 vs[i];have h2:kJ (· ∈ vs) (ef vs) (lj vs) β vs[i]=(β (i:Int)).map fun t=>t.sb fun i=>.var (lj vs i):=by
       unfold kJ;rw[if_pos hm];unfold ef;rw[if_pos hm,nf hs hi]
      rw[h2]at h1;refine⟨fun hq=>h1.1 (by rw[hq];rfl),fun hq e=>?_,hcn i hi,?_,?_⟩
      ·have:=h1.2 e;cases hb:β (i:Int) with
       |none=>rw[hb]at hq;cases hq
       |some t=>rw[hb]at this;cases this
      ·rw[hFi i hi];refine (f' i).err0_repl (he' i hi) (fW (f' i) (fun u hu z ez=>?_) (hres.2.2 i));cases ez;have hd:=sL hres hacy hD i ⟨by omega,by omega⟩ u hu;obtain⟨h3,h4⟩:=R.back u hd;have:=hvr _ h3;exact eW this.1 this.2
      ·have:=hvr _ hm;exact⟨by omega,by omega⟩
     have HVAR:Hid (∀ v∉vs,F v=.var v):=hFo;have HB47:Hid (Below w4.heap.size w4 w7):=HW6.out.2.1.trans hb7;have HB7:Hid (Below W.heap.size W w7):=HW6.out.1.trans (hb7.mono HW6.out.2.2);have HROW7:=zH (HROW.out.below HB47.out);have hkb7:=HKB0.out.to HB47.out;have HKB7:=zH hkb7;have HSN7:=zH hsn7;have HBN:=zH hbnd;have hvt:∀ (i:Nat) (W':World),i<j->cw (PT dQ w6) fB W' (.var (i:Int)) [.int .i64 1,.int .i64 (i:Int),.string ⟨#[]⟩,.bool false,.slice none 0 0,.slice none 0 0,.slice none 0 0]:=fun i W' hi=>.var ⟨by omega,by omega⟩;have HSZ:Hid (∀ i:Nat,i<j->∀ W',Below w7.heap.size w7 W'->Calls Tryz.prog 38 #[.pointer (some ⟨w4.heap.size+1+1,0,none⟩),.agg #[.int .i64 1,.int .i64 (i:Int),.string ⟨#[]⟩,.bool false,.slice none 0 0,.slice none 0 0,.slice none 0 0],.int .i64 10000] W' fun e W2=>e=.returned (.int .i64 (cz 10000 (f' i)))/\Below W'.heap.size W' W2):=fun i hi W' hW'=>by
      have hst:bU (PT dQ w6) w7 W':=.of_below hW';have h:=ym (N:=10000) (by omega) (by omega) (hsn7.below hW') (hbnd.stay hst) u1 hlow hres (Ah hi) (hvt i W' hi);rw[bM]at h;exact h
     have HTR:Hid (∀ i:Nat,i<j->∀ W',Below w7.heap.size w7 W'->Calls Tryz.prog 39 #[.pointer (some ⟨w4.heap.size+1+1,0,none⟩),.agg #[.int .i64 1,.int .i64 (i:Int),.string ⟨#[]⟩,.bool false,.slice none 0 0,.slice none 0 0,.slice none 0 0]] W' fun e W2=>∃ cs',e=.returned (.agg cs'.toArray)/\TC W2 (f' i) cs'/\Below W'.heap.size W' W2):=fun i hi W' hW'=>by
      refine (yD hsn7 hbnd u1 hlow hres _ (.var (i:Int)) _ (Nat.lt_succ_self _) (Ah hi) (hvt i w7 hi) W' hW').mono ?_;rintro e W2 ⟨cs',rfl,h1,h2⟩;rw[bM]at h1;exact⟨cs',rfl,h1.tc,h2⟩
     have HRP:Hid (∀ i (hi:i<vs.length) (W':World) (cs:List Value),Below w7.heap.size w7 W'->TC W' (f' i) cs->Calls Tryz.prog 19 #[.agg cs.toArray,.func (.func 40) #[] #[.pointer (some ⟨k,0,none⟩)]] W' fun e W2=>∃ cs',e=.returned (.agg cs'.toArray)/\TC W2 (F vs[i]) cs'/\Below W'.heap.size W' W2):=fun i hi W' cs hW' hc=>by
      have hd:(f' i).allV (fun u=>0<=u/\u<(vs.length:Int)):=fW (f' i) (sL hres hacy hD i ⟨by omega,by omega⟩) (hres.2.2 i);refine (mx (w:=W') (fun u=>0<=u/\u<(vs.length:Int)) 40 k (enters_of Tryz.func40 (by kernel_rfl) rfl) (fun u=>some (Tm.var (lj vs u))) (fun v x e=>by
       cases e;unfold Tm.var;rw[Tm.sm,sQ];exact⟨by simp,by simp,by simp,trivial⟩) (fun v W2 hv hW2=>?_) hc (hc.sm (he' i hi)) hd W' (Below.refl _ _)).mono ?_
      ·have hb:=hW'.trans (hW2.mono hW'.size);refine (rf (w:=w7) k vs (fun v hv=>by have:=hvr v hv;exact⟨by omega,by omega⟩) (hkb7.cell 0) hkb7.lt HROW7.out v hv W2 hb).mono ?_;rintro e W3 ⟨cx,tx,rfl,h1,rfl,h2⟩;exact⟨cx,_,rfl,h1,fun x e=>Option.some.inj e,h2⟩
      ·rintro e W2 ⟨cs',rfl,h1,h2⟩;rw[hFi i hi];exact⟨cs',rfl,h1.tc,h2⟩
     have kb7:=(hkb7.to (I w7 (.map #[] 0))).cell 0;simp only[List.getElem?_toArray,List.getElem?_cons_zero,HNL.out]at kb7;have HS:=zH hs;clear q1 q2 vx vy ex ey hlv hva hvb hvr R hu hsol hres hD hE hlow hsn7 hbnd hfr hb7 u1 u2 u3 hacy hsol2 hres2 hF hFi hFo he' hcn hkb7 hvt hs;go_wp2_with fail;clear kb7;have HST:=zH (sX.start w7 vs F)
     go_loopg [64] j (fun gk s64 wq=>∃ (i:Nat) (bs:List (Int×Tm)),gk+i=j/\s64=.int .i64 (i:Int)/\Hid (sX w7 w7.heap.size vs F i bs wq))
     case atStart=>exact⟨0,[],by omega,rfl,HST.out⟩
     case round=>
      clear HST;obtain⟨i,bs,hgi,rfl,HF⟩:=hrel;by_cases hi:i<j
      ·have hiv:i<vs.length:=by rw[HNL.out];exact hi
       have hr0:=HROW7.out.below HF.out.be;obtain⟨G0,cap0,e0⟩:=Joins.ownsRow_form hr0 (by omega);simp only[Value.slice.injEq,true_and]at e0;obtain⟨rfl,rfl⟩:=e0;have x0:=hr0.cellAt i (by simpa using hiv);rw[show (vs.map (Value.int .i64))[i]?=some (.int .i64 vs[i]) by simp[hiv]]at x0;have HSI:=zH (HSN7.out.below HF.out.be);have HFI:=zH (HFV.out i hiv);obtain⟨vi,hvi⟩:∃ vi,vs[i]=vi:=⟨_,rfl⟩;have HVI:=zH hvi;rw[hvi]at x0;clear hr0 hvi;rcases HBN.out.cell i hi with ⟨hn,hz⟩|⟨t,ct,hb,htc,hbc⟩
       ·have HBO:=zH (kh HSI.out hi (q:=false) (by have:=hz 0 (by omega);rw[Nat.add_zero]at this;exact this));have HSK:=zH (HF.out.skip hiv (HFI.out.1 hn));clear hn hz;go_wp2_with fail;refine HBO.out.mono ?_;rintro e w8 ⟨rfl,rfl⟩;clear HBO x0;go_wp2_with fail
        go_roundg (gk-1)
        case measure=>omega
        case rel=>exact⟨i+1,bs,by omega,by go_num,HSK.out⟩
       ·have HBO:=zH (kh HSI.out hi (q:=true) (by have:=hbc 0 (by omega);rw[Nat.add_zero]at this;exact this));have HNE:=zH (HFI.out.2.1 (by rw[hb];rfl));clear hb htc hbc;go_wp2_with fail;refine HBO.out.mono ?_;rintro e w8 ⟨rfl,rfl⟩;clear HBO x0;go_wp2_with fail;refine (bX (i:Int) _).mono ?_;rintro e y1 ⟨rfl,hb1⟩;have HY1:=zH hb1;clear hb1;go_wp2_with fail;refine (HSZ.out i hi y1 (HF.out.be.trans (HY1.out.mono HF.out.be.size))).mono ?_;rintro e y2 ⟨rfl,hb2⟩;have HY2:=zH (HY1.out.trans (hb2.mono HY1.out.size));clear hb2 HY1;by_cases hsz:(f' (i:Int)).count<=10000
        ·have hle:cz 10000 (f' (i:Int))<=10000:=by unfold cz;omega
         generalize cz 10000 (f' (i:Int))=zz at hle ⊢;have HCZ:=zH hsz;clear hsz;go_wp2_with fail;refine (bX (i:Int) _).mono ?_;rintro e y3 ⟨rfl,hb3⟩;have HY3:=zH (HY2.out.trans (hb3.mono HY2.out.size));clear hb3 HY2 hle;go_wp2_with fail;refine (HTR.out i hi y3 (HF.out.be.trans (HY3.out.mono HF.out.be.size))).mono ?_;rintro e y4 ⟨c4,rfl,ht4,hb4⟩;have HY4:=zH (HY3.out.trans (hb4.mono HY3.out.size));have HT4:=zH ht4;clear hb4 HY3 ht4;go_wp2_with fail;refine (HRP.out i hiv y4 c4 (HF.out.be.trans (HY4.out.mono HF.out.be.size)) HT4.out).mono ?_;rintro e y5 ⟨c5,rfl,ht5,hb5⟩;have hy5:=HY4.out.trans (hb5.mono HY4.out.size);obtain⟨z,hput,bs',hfz⟩:=(HF.out.below hy5).put HS.out hiv (by rw[HNL.out];omega) HFI.out.2.2.2.2 HNE.out (by rw[HFI.out.2.2.1];exact HCZ.out) HFI.out.2.2.2.1 (Nat.le_refl _) ht5;rw[HVI.out]at hput;have HFZ:=zH hfz;clear ht5 hb5 HY4 HT4 hy5 hfz;go_wp2_with fail;clear hput
         go_roundg (gk-1)
         case measure=>omega
         case rel=>exact⟨i+1,bs',by omega,by go_num,HFZ.out⟩
        ·have hgt:10000<cz 10000 (f' (i:Int)):=by unfold cz;omega
         have HSZE:Hid (ic a b 3 false []):=.size HME.out F HMG.out vs[i] (by rw[HFI.out.2.2.1];omega);generalize cz 10000 (f' (i:Int))=zz at hgt ⊢;clear hsz;go_wp2_with fail;refine bodyPost_ret (v:=.tuple #[.slice none 0 0,.bool false,.int .i64 3]) (by rw[dI rfl];rfl) rfl ?_;have hbz:=HF.out.be.trans (HY2.out.mono HF.out.be.size);exact⟨.slice none 0 0,3,false,[],rfl,HSZE.out,⟨none,0,fun _=>[],rfl,Nat.le_refl _,by unfold maxLen;omega,fun h=>absurd h (by simp),fun i h=>absurd h (by simp)⟩,HB7.out.trans (hbz.mono HB7.out.size)⟩
      ·have hij:i=j:=by omega
       have HIJ:=zH hij;clear hij;have HSO:=zH (qr (w:=wr) w7.heap.size HF.out.inc HF.out.vld (by have:=HF.out.len;omega) wr (Below.refl _ _) HF.out.mp);go_wp2_with fail;refine HSO.out.mono ?_;rintro e w9 ⟨ov,rfl,hbl,hb9⟩;have HBL9:=zH hbl;have HB9:=zH hb9;clear hbl hb9 HSO;go_wp2_with fail;refine bodyPost_ret (v:=.tuple #[ov,.bool true,.int .i64 0]) (by rw[dI rfl];rfl) rfl ?_;have htk:vs.take i=vs:=List.take_of_length_le (by rw[HNL.out,HIJ.out];exact Nat.le_refl _);have hbz:=HF.out.be.trans (HB9.out.mono HF.out.be.size);refine⟨ov,0,true,bs,rfl,.ok HME.out F HMG.out (fun v=>?_) bs HF.out.inc (fun v=>?_),HBL9.out,HB7.out.trans (hbz.mono HB7.out.size)⟩
       ·by_cases hv:v∈vs
        ·exact HF.out.ct v (by rw[htk];exact hv)
        ·rw[HVAR.out v hv];unfold Tm.var;rw[Tm.count,al];omega
       ·have:=HF.out.fn v;rw[htk]at this;rw[this];by_cases hv:v∈vs
        ·rw[if_pos hv]
        ·rw[if_neg hv];exact (if_pos (HVAR.out v hv)).symm
mutual
theorem Tm.repl_sb (f:Int->Option Tm):∀ (t:Tm),t.cn->t.repl f=t.sb fun v=>(f v).getD (.var v)
 |.mk k v s n args,h=>by
  rw[Tm.cn]at h;by_cases hk:k=1
  ·have e:=h.1 hk;rw[e,bM,Tm.var,Tm.repl,if_pos rfl,bH];cases f v<;>rfl
  ·rw[ch _ hk,Tm.repl,if_neg hk,pU f args h.2]
theorem pU (f:Int->Option Tm):∀ (l:List Tm),nZ l->bH f l=gP (fun v=>(f v).getD (.var v)) l
 |[],_=>by rw[bH,bL]
 |t::l,h=>by
  rw[nZ]at h;rw[bH,bh,t.repl_sb f h.1,pU f l h.2]
end
theorem zG {α:Type} {r:α->α->Prop} (h:WellFounded r):∀ v,¬r v v:=fun v=>by
 induction v using h.induction with
 |_ v ih=>exact fun q=>ih v q q
theorem wJ.dom {a b:Tm} {f:Int->Tm} (h:wJ a b f) {v:Int} (hv:f v≠.var v):a.occ v\/b.occ v:=by
 obtain⟨β,⟨h1,h2⟩,h3⟩:=h;refine Classical.byContradiction fun hn=>?_;have hna:¬a.occ v:=fun q=>hn (.inl q);have hnb:¬b.occ v:=fun q=>hn (.inr q);cases hb:β v with
 |none=>exact hv (h3.1 v hb)
 |some t=>
  have hnt:¬t.occ v:=fun q=>zG h1.1 v ⟨t,hb,q,by rw[hb];rfl⟩;have key:∀ x:Tm,x=f v:=fun x=>by
   have hs:∀ u:Tm,¬u.occ v->u.sb (fun i=>if i=v then x else f i)=u.sb f:=fun u hu=>u.sb_congr fun i hi=>by
    have hiv:i≠v:=fun e=>hu (by rw[<-e];exact hi);simp only[if_neg hiv]
   have h4:=(h2 fun i=>if i=v then x else f i).2 (by rw[hs a hna,hs b hnb];exact (h2 f).1 h3.2.1);have h5:=h4 v t hb;rw[hs t hnt,<-h3.2.1 v t hb]at h5;simpa using h5
  have h6:=(key (.var 0)).trans (key (.var 1)).symm;simp[Tm.var]at h6
def yJ (s:List (Int×Tm)) (v:Int) (t:Tm):Prop:=∀ p e,aU (.var v) s p e->e=0/\∀ q g,aU t s q g->g=0->q=p
theorem vC:∀ {l:List (Int×Tm)},dN l->∀ {p:Int×Tm},p∈l->fnd l p.1=some p.2
 |[],_,p,h=>by cases h
 |c::l,hi,p,h=>by
  rw[bW];rcases List.mem_cons.1 h with rfl|h
  ·rw[if_pos rfl]
  ·rw[if_neg (by have:=hi.head h;omega),vC hi.tail h]
theorem aU.zero_ok {t x:Tm} {s:List (Int×Tm)} {e:Int} (h:aU t s x e) (he:e=0):t.check=0/\eB s/\(t.repl (fnd s)).count<=10000/\x=t.repl (fnd s):=by
 cases h with
 |bad h=>exact absurd he h
 |form h h2=>cases he
 |size h h2 h3=>cases he
 |ok h h2 h3=>exact⟨h,h2,h3,rfl⟩
theorem aU.zero_err {t x:Tm} {s:List (Int×Tm)} {e:Int} (h:aU t s x e) (he:e=0):x.err0=0/\x.count<=10000:=by
 obtain⟨h1,h2,h3,rfl⟩:=h.zero_ok he;refine⟨t.err0_repl (aL h1).2 (t.allV_mono (P:=fun _=>True) (fun v _ x hx=>(h2.fnd hx).1) ?_),h3⟩;exact Tm.allV_mono (fun _ _=>trivial) _ (t.allV_free [])
theorem aU.zero_sb {t x:Tm} {s:List (Int×Tm)} {e:Int} (h:aU t s x e) (he:e=0):x=t.sb fun v=>(fnd s v).getD (.var v):=by
 obtain⟨h1,h2,h3,rfl⟩:=h.zero_ok he;exact t.repl_sb _ (t.cn_of (aL h1).2)
theorem zD {a b x:Tm} {s:List (Int×Tm)} (ha:aU a s x 0) (hb:aU b s x 0) {er:Int} {ok:Bool} {bs:List (Int×Tm)} (hu:ic a b er ok bs):er=3/\ok=false\/er=0/\ok=true/\∀ p∈bs,yJ s p.1 p.2:=by
 have hca:=(ha.zero_ok rfl).1;have hcb:=(hb.zero_ok rfl).1;have hg:=(ha.zero_ok rfl).2.1;have hc:eF [a,b]=0:=by simp only[eF,if_pos hca,if_pos hcb]
 have he:a.sb (fun v=>(fnd s v).getD (.var v))=b.sb fun v=>(fnd s v).getD (.var v):=by rw[<-ha.zero_sb rfl,<-hb.zero_sb rfl]
 cases hu with
 |bad h=>exact absurd hc h
 |no _ h=>exact absurd he (h _)
 |size _ _ _ _ _=>exact .inl ⟨rfl,rfl⟩
 |ok _ f hf hcnt _ hi hm=>
  refine .inr ⟨rfl,rfl,fun p hp=>?_⟩;have h1:bnd1 f p.1=some p.2:=by rw[<-hm];exact vC hi hp
  have h2:f p.1≠.var p.1/\f p.1=p.2:=by
   unfold bnd1 at h1;by_cases h3:f p.1=.var p.1
   ·rw[if_pos h3]at h1;cases h1
   ·rw[if_neg h3]at h1;exact⟨h3,Option.some.inj h1⟩
  have h3:0<=p.1/\p.1<=1073741824:=by
   rcases hf.dom h2.1 with h|h
   ·exact fH a (fb (aL hca).2) _ h
   ·exact fH b (fb (aL hcb).2) _ h
  obtain⟨β,hs,hr⟩:=hf;have h4:p.2.sb (fun v=>(fnd s v).getD (.var v))=(fnd s p.1).getD (.var p.1):=by
   rw[<-h2.2];exact hr.most hs.1 ((hs.2 _).2 he) p.1
  have h5:(Tm.var p.1).check=0:=by
   unfold Tm.check;rw[if_neg (by rw[Tm.var,Tm.count,al];omega)];exact eW h3.1 h3.2
  have h6:(Tm.var p.1).repl (fnd s)=(fnd s p.1).getD (.var p.1):=by rw[Tm.repl_sb _ _ (gV _),bM]
  have h7:((Tm.var p.1).repl (fnd s)).count<=10000:=by
   rw[h6];cases hx:fnd s p.1 with
   |none=>show (Tm.var p.1).count<=10000;rw[Tm.var,Tm.count,al];omega
   |some y=>exact (hg.fnd hx).2
  intro y e hy;obtain⟨rfl,rfl⟩:=hy.one (.ok h5 hg h7);refine⟨rfl,fun q g hq h0=>?_⟩;rw[hq.zero_sb h0,h4,h6]
theorem yg {x y:Tm} (ex:x.err0=0) (ey:y.err0=0) (fx:x.fine) (fy:y.fine) (h:x.shp=y.shp):x=y:=by
 have hs:∀ t:Tm,t.err0=0->t.shp=t.shapeL:=fun t h1=>by
  cases t with
  |mk k v s n args=>
   have hk0:k≠0:=by
    rcases aj (br h1).1 with ⟨rfl,_⟩|⟨_,_,_,_,⟨rfl,_⟩|⟨rfl,_⟩|⟨rfl,_⟩|⟨rfl,_⟩⟩<;>decide
   simp only[Tm.shp,if_neg hk0]
 rw[hs x ex,hs y ey]at h;exact Tm.cmp_eq _ _ fx fy (Tm.shape_inj _ _ fx fy [] [] (by rw[h])).1
end Go.Proofs.YtlhojoefhannnaaGreat
