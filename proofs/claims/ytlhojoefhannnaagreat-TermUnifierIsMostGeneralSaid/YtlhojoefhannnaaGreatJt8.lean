/- term.Free's closure: the variables in order. And 1 more texts. -/
import Derived.Deep.RegionLaw
import Derived.Deep.AppendLies
import Derived.Test.YtlhojoefhannnaaGreatJt7
set_option linter.unusedVariables false
set_option linter.unusedSimpArgs false
set_option maxRecDepth 100000
set_option maxHeartbeats 51200000
namespace Go.Proofs.YtlhojoefhannnaaGreat
open Go.RowKit NumB
mutual
def Tm.free:Tm->List Int->List Int
 |.mk k v _ _ args,l=>bf args (if k=1/\v∉l then l++[v] else l)
def bf:List Tm->List Int->List Int
 |[],l=>l
 |t::ts,l=>bf ts (t.free l)
end
theorem qT (ts:List Tm) (t:Tm):∀ l,bf (ts++[t]) l=t.free (bf ts l):=by
 induction ts with
 |nil=>intro l;simp[bf]
 |cons x ts ih=>intro l;simp[bf,ih]
theorem gX (args:List Tm) {j:Nat} (hj:j<args.length) (l:List Int):bf (args.take (j+1)) l=(args[j]).free (bf (args.take j) l):=by
 rw[List.take_succ_eq_append_getElem hj,qT]
theorem m6:∀ (n:Nat) (t:Tm),t.count<=n->∀ l,(t.free l).length<=l.length+t.count:=by
 intro n
 induction n with
 |zero=>intro t ht;cases t;simp[Tm.count]at ht
 |succ n ih=>
  intro t ht l;cases t with
  |mk k v s nn args=>
   rw[Tm.count]at ht ⊢;rw[Tm.free];have key:∀ (ts:List Tm),al ts<=n->∀ l,(bf ts l).length<=l.length+al ts:=by
    intro ts
    induction ts with
    |nil=>intro _ l;simp[bf,al]
    |cons x ts ihh=>
     intro h l;rw[al]at h ⊢;rw[bf];have h1:=ih x (by omega) l;have h2:=ihh (by omega) (x.free l);omega
   have h1:=key args (by omega) (if k=1/\v∉l then l++[v] else l);by_cases hk:k=1/\v∉l
   ·rw[if_pos hk]at h1 ⊢;simp at h1;omega
   ·rw[if_neg hk]at h1 ⊢;omega
theorem fP (t:Tm) (l:List Int):(t.free l).length<=l.length+t.count:=m6 _ t (Nat.le_refl _) l
theorem iQ (ts:List Tm):∀ l,(bf ts l).length<=l.length+al ts:=by
 induction ts with
 |nil=>intro l;simp[bf,al]
 |cons x ts ih=>
  intro l;rw[bf,al];have h1:=fP x l;have h2:=ih (x.free l);omega
def pY (l:List Int):Int->Option Value:=fun j=>if j∈l then some (.bool true) else none
def xz (l:List Int):List Value:=l.map (fun i=>.int .i64 i)
structure FV (B bs bo bv ms:Nat) (l:List Int) (W:World):Prop where
 h1:af W bs 89 #[.map (some ms)]
 h2:∃ ov,af W bo 54 #[ov]/\W.ownsRow B 3 1 ov l.length (xz l)
 h3:af W bv 90 #[.func (.func 57) #[] #[.pointer (some ⟨bs,0,none⟩),.pointer (some ⟨bo,0,none⟩),.pointer (some ⟨bv,0,none⟩)]]
 h4:∃ n,bQ W ms n (pY l)
 le:B<=bo/\B<=ms
theorem FV.below {B bs bo bv ms:Nat} {l:List Int} {W W':World} (g:FV B bs bo bv ms l W) (hb:Below W.heap.size W W'):FV B bs bo bv ms l W':=by
 obtain⟨ov,h2,h3⟩:=g.h2;obtain⟨n,h4⟩:=g.h4;exact⟨g.h1.to hb,⟨ov,h2.to hb,av (ts:=[]) h3 (ar.of_below hb) (by simp)⟩,g.h3.to hb,⟨n,h4.keep (hb.block _ (aw h4.is.choose_spec.choose_spec))⟩,g.le⟩
theorem bQ.frT {ts:List (Option TypeId)} {w w':World} {b n:Nat} {f:Int->Option Value} (h:bQ w b n f) (hF:ar ts w w') (h0:none∉ts):bQ w' b n f:=by
 obtain⟨es,c,h1,r⟩:=h;exact⟨es,c,hF _ _ h1 (dP.map h0),r⟩
theorem px:(Tryz.prog.info? 3).map (fun i=>(i.zero,i.size,i.bytes))=some (some (.int .i64 0),1,8):=by kernel_rfl
theorem FV.dom {B bs bo bv ms:Nat} {l:List Int} {W:World} (g:FV B bs bo bv ms l W) (v:Int):(Instr.lookup 89 (.map (some ms)) (.int .i64 v) false).run Tryz.prog W=.ok (.bool (decide (v∈l))) W:=by
 obtain⟨n,h⟩:=g.h4;have:=(iR (w:=W) (et:=4) (mt:=89) (by kernel_rfl) (z:=.bool false) (Tryz.zeroValue4 W) h v).2;rw[this];unfold pY;by_cases hv:v∈l<;>simp[hv]
theorem FV.put {B bs bo bv ms:Nat} {l:List Int} {W:World} (g:FV B bs bo bv ms l W) (v:Int):∃ z,(Instr.mapUpdate 89 (.map (some ms)) (.int .i64 v) (.bool true)).run Tryz.prog W=.ok () z/\(∃ n,bQ z ms n (pY (l++[v])))/\ar [none] W z/\Below B W z:=by
 obtain⟨n,h⟩:=g.h4;obtain⟨z,h1,h2,h3⟩:=fU (w:=W) (et:=4) (mt:=89) (by kernel_rfl) h v (.bool true);refine⟨z,h1,⟨n+1,?_⟩,(ar.refl _ W).kept h3 fun k e o ho hno=>?_,h3.below ?_ fun k e=>?_⟩
 ·have:(fun j=>if j=v then some (Value.bool true) else pY l j)=pY (l++[v]):=by
   funext j
   unfold pY;by_cases hj:j=v
   ·subst hj;simp
   ·simp[hj]
  rw[this]at h2;exact h2
 ·obtain⟨es,cl,hm⟩:=h.is;have e:k=ms:=e;subst e;rw[hm]at ho;exact hno.2 (by simp) _ _ (Option.some.inj ho).symm
 ·have:=aw h.is.choose_spec.choose_spec;exact Nat.le_of_lt (Nat.lt_of_le_of_lt g.le.2 this)
 ·have e:k=ms:=e;subst e;exact g.le.2
theorem qU (B bs bo bv ms:Nat) {w:World} (hBw:w.heap.size<=B) {t:Tm} {cs:List Value} (h:TC w t cs):∀ (ls:List Int),ls.length+t.count<=1000000->∀ (W:World),Below w.heap.size w W->B<=W.heap.size->FV B bs bo bv ms ls W->
 Calls Tryz.prog 57 #[.agg cs.toArray,.pointer (some ⟨bs,0,none⟩),.pointer (some ⟨bo,0,none⟩),.pointer (some ⟨bv,0,none⟩)] W fun e W'=>e=.returned (.tuple #[])/\FV B bs bo bv ms (t.free ls) W'/\ar [none,some 3,some 54] W W'/\Below B W W':=by
 induction h with
 |mk k v s n args A C Ar cap cs hk hv hs hA hB hn hcap hm hr ha ih=>
  intro ls hcn W hW hBW hF;have HR:=zH hr;have HA:=zH ha;have IH:=zH ih;have HCT:Hid ((Tm.mk k v s n args).count=1+al args):=rfl;have HFE:Hid ((Tm.mk k v s n args).free ls=bf args (if k=1/\v∉ls then ls++[v] else ls)):=rfl;have HCN:=zH hcn;unfold maxLen at hm;have HWB:=zH hW;have HBS:=zH hBW;have HF0:=zH hF;generalize (Tm.mk k v s n args).count=ct at*;generalize (Tm.mk k v s n args).free ls=fe at*;generalize n.neg=ng at*;obtain⟨A1,q1,rfl,_⟩:=hA;obtain⟨B1,q2,rfl,_⟩:=hB;generalize n.num.length=m1 at*;generalize n.den.length=m2 at*;clear hr ha ih hn hk hs hW hcn hBW hF;have HV:=zH hv;clear hv;obtain⟨l,hl⟩:∃ l,args.length=l:=⟨_,rfl⟩;rw[hl]at hcap ⊢;have HL:=zH hl;clear hl;have HBA:Hid (Below W.heap.size W (W.alloc (.cells #[.int .i64 k,.int .i64 v,.string s,.bool ng,.slice A1 m1 q1,.slice B1 m2 q2,.slice Ar l cap] 27))):=I W _;have HT1:Hid (af (W.alloc (.cells #[.int .i64 k,.int .i64 v,.string s,.bool ng,.slice A1 m1 q1,.slice B1 m2 q2,.slice Ar l cap] 27)) W.heap.size 27 #[.int .i64 k,.int .i64 v,.string s,.bool ng,.slice A1 m1 q1,.slice B1 m2 q2,.slice Ar l cap]):=af.new W _ _;by_cases hk1:k=1
  ·have hkb:(k==1)=true:=by simp[hk1]
   have HK1:=zH hk1;clear hk1;have HF1:=zH (HF0.out.below HBA.out);have s1:=HF1.out.h1.cell 0;have t0:=HT1.out.cell 0;have t1:=HT1.out.cell 1;have t6:=HT1.out.cell 6;have lk:=HF1.out.dom v;simp only[L3]at s1 t0 t1 t6;by_cases hm:v∈ls
   ·have hd:decide (v∈ls)=true:=by simp[hm]
    rw[hd]at lk;have HE:Hid (fe=bf args ls):=by
     have h:=HFE.out;rw[if_neg (fun q=>q.2 hm)]at h;exact h
    have HLS:Hid (ls.length+1+al args<=1000000):=by have:=HCN.out;have:=HCT.out;show _<=_;omega
    have HY:Hid (FV B bs bo bv ms ls (W.alloc (.cells #[.int .i64 k,.int .i64 v,.string s,.bool ng,.slice A1 m1 q1,.slice B1 m2 q2,.slice Ar l cap] 27))/\ar [none,some 3,some 54] W (W.alloc (.cells #[.int .i64 k,.int .i64 v,.string s,.bool ng,.slice A1 m1 q1,.slice B1 m2 q2,.slice Ar l cap] 27))/\Below B W (W.alloc (.cells #[.int .i64 k,.int .i64 v,.string s,.bool ng,.slice A1 m1 q1,.slice B1 m2 q2,.slice Ar l cap] 27))/\B<=(W.alloc (.cells #[.int .i64 k,.int .i64 v,.string s,.bool ng,.slice A1 m1 q1,.slice B1 m2 q2,.slice Ar l cap] 27)).heap.size):=⟨HF1.out,ar.of_below HBA.out,HBA.out.mono HBS.out,Nat.le_trans HBS.out HBA.out.size⟩;clear hd hm HF0 HFE HCN HCT;go_enter Tryz.func57,Tryz.ntmps57;go_wp2_with fail;clear s1 t0 t1 t6 lk HF1 HBA HT1;generalize (W.alloc (.cells #[.int .i64 k,.int .i64 v,.string s,.bool ng,.slice A1 m1 q1,.slice B1 m2 q2,.slice Ar l cap] 27))=y at HY ⊢
    go_loopg [28] l (fun gk s28 wr=>∃ j:Nat,gk+j=l/\s28=.int .i64 (j:Int)/\Hid (FV B bs bo bv ms (bf (args.take j) (ls)) wr/\ar [none,some 3,some 54] W wr/\Below B W wr/\B<=wr.heap.size))
    case atStart=>exact⟨0,by omega,rfl,by rw[List.take_zero];exact HY⟩
    case round=>
     clear HY;obtain⟨j,hgj,rfl,HJ⟩:=hrel;by_cases hj:j<l
     ·have hja:j<args.length:=by rw[HL.out];exact hj
      have HBW:Below w.heap.size w wr:=HWB.out.trans (HJ.out.2.2.1.mono hBw);obtain⟨b,o,k',v',s',ng',A2,n2,c2,B2,m3,d2,Xr,xl,xc,hAr,hcs,hlt,e0,e1,e2,e3,e4,e5,e6⟩:=aO HR.out HA.out HBW hja;subst hAr;have h1:=bF args hja;have h5:=cW args (j+1);have h6:=iQ (args.take j) (ls);have h7:=HLS.out;have HCALL:Hid (∀ W',Below wr.heap.size wr W'->Calls Tryz.prog 57 #[.agg #[.int .i64 k',.int .i64 v',.string s',.bool ng',.slice A2 n2 c2,.slice B2 m3 d2,.slice Xr xl xc],.pointer (some ⟨bs,0,none⟩),.pointer (some ⟨bo,0,none⟩),.pointer (some ⟨bv,0,none⟩)] W' fun e w'=>e=.returned (.tuple #[])/\Hid (FV B bs bo bv ms (bf (args.take (j+1)) (ls)) w'/\ar [none,some 3,some 54] W w'/\Below B W w'/\B<=w'.heap.size)):=fun W' hb=>by
       have hbB:Below B wr W':=hb.mono HJ.out.2.2.2;have:=IH.out j hja (bf (args.take j) (ls)) (by omega) W' (HBW.trans (hb.mono HBW.size)) (Nat.le_trans HJ.out.2.2.2 hb.size) (HJ.out.1.below hb);rw[hcs]at this;refine this.mono ?_;rintro e w' ⟨rfl,q1,q2,q3⟩;rw[gX args hja];exact⟨rfl,q1,(HJ.out.2.1.trans (ar.of_below hb)).trans q2,(HJ.out.2.2.1.trans hbB).trans q3,Nat.le_trans (Nat.le_trans HJ.out.2.2.2 hb.size) q3.size⟩
      have hv3:=(HJ.out.1.below (I wr (.cells #[.int .i64 k',.int .i64 v',.string s',.bool ng',.slice A2 n2 c2,.slice B2 m3 d2,.slice Xr xl xc] 27))).h3.cell 0;simp only[L3]at hv3;clear h1 h5 h6 h7;go_wp2_with fail;refine (HCALL.out _ (by exact I _ _)).mono ?_;rintro e w3 ⟨rfl,HJ3⟩;clear e0 e1 e2 e3 e4 e5 e6 HCALL hv3;go_wp2_with fail
      go_roundg (gk-1)
      case measure=>omega
      case rel=>exact⟨j+1,by omega,by go_num,HJ3⟩
     ·obtain rfl:j=l:=by omega
      have h2:=HJ.out;rw[List.take_of_length_le (by rw[HL.out];exact Nat.le_refl _)]at h2;have HE2:=HE.out;subst HE2;have HJ2:=zH h2;clear h2 HJ;go_wp2_with fail;unfold bodyPost;refine⟨rfl,.tuple #[],?_,rfl,HJ2.out.1,HJ2.out.2.1,HJ2.out.2.2.1⟩
      first|(simp[results,Tryz.f57];done)|(unfold results;rfl)|kernel_rfl
   ·have hd:decide (v∈ls)=false:=by simp[hm]
    rw[hd]at lk;have HE:Hid (fe=bf args (ls++[v])):=by
     have h:=HFE.out;rw[if_pos ⟨HK1.out,hm⟩]at h;exact h
    have HLS:Hid ((ls++[v]).length+al args<=1000000):=by have:=HCN.out;have:=HCT.out;show _<=_;simp;omega
    have HLN:Hid (ls.length+1<=1000000):=by have:=HCN.out;have:=HCT.out;show _<=_;omega
    obtain⟨z,hz,hmz,hfz,hbz⟩:=HF1.out.put v;have HMZ:=zH hmz;have HFZ:=zH hfz;have HBZ:=zH hbz;obtain⟨ov,hbo,hrow⟩:=HF1.out.h2;have HBO:=zH (hbo.frT hfz (by decide));have HRW:=zH (av hrow hfz (by decide));have HTZ:=zH (HT1.out.frT hfz (by decide));have o0:=HBO.out.cell 0;have fo:=HBO.out.frozen 0;have tz1:=HTZ.out.cell 1;have tz6:=HTZ.out.cell 6;simp only[L3]at o0 tz1 tz6;clear hd hm HF0 HFE HCN HCT hmz hfz hbz hbo hrow t6;obtain⟨i0,hi0,hz0,hz1,hz2⟩:=info_parts px;have HI:=zH hi0;have HZ0:=zH hz0;have HZ1:=zH hz1;have HZ2:=zH hz2;clear hi0 hz0 hz1 hz2;have HNEW:Hid (∀ j u,[Value.int .i64 v][j]?=some u->(z.alloc (.cells #[.int .i64 v] 3)).cell? ((⟨z.heap.size,0,none⟩:Addr).add j)=some u):=fun j u hj=>by
     have:=(af.new z 3 #[.int .i64 v]).cell j;rw[Go.WideShapes.add_plain,Nat.zero_add,this];simpa using hj
    have HSZ:Hid (B<=(z.alloc (.cells #[.int .i64 v] 3)).heap.size):=Nat.le_trans (Nat.le_trans HBS.out HBA.out.size) (Nat.le_trans HBZ.out.size (by simp));go_enter Tryz.func57,Tryz.ntmps57
    go_wp2_with (at_builtin;refine wpList_append_own_at _ rfl _ _ 54 rfl B 3 i0 (.int .i64 0) 1 8 Tryz.underlying54 HI.out HZ0.out HZ1.out HZ2.out rfl (by decide) ov ls.length (xz ls) rfl (HRW.out.alloc _) ⟨z.heap.size,0,none⟩ 1 1 [.int .i64 v] rfl rfl HNEW.out (by intro u hu;simp at hu;subst hu;rfl) (by have:=HLN.out;unfold maxLen;omega) (by have:=HLN.out;omega) HSZ.out ?_;intro v1 w1 hown1 hg1 hz1' hb1';clear hz1' hb1';obtain⟨g1,qq1,rfl⟩:=Joins.ownsRow_form hown1 (by omega);have HOW:=zH hown1;have HF2:Hid (ar [some 3] z w1):=(ar.of_below (I z _)).grown hg1 (fun k hk=>by (obtain⟨cs,f,hc⟩:=Lib.ownsRow_kind (HRW.out.alloc (.cells #[.int .i64 v] 3)) k hk;exact⟨cs,_,f,hc,by decide⟩));have HB2:Hid (Below B z w1):=((Below.refl B z).alloc (Nat.le_trans (Nat.le_trans HBS.out HBA.out.size) HBZ.out.size) _).grown hg1 HSZ.out (fun k hk=>((HRW.out.alloc (.cells #[.int .i64 v] 3)).lt k hk).1);clear hown1 hg1 o0 fo tz1 tz6;have HBO1:=zH (HBO.out.frT HF2.out (by decide));have HTW:=zH (HTZ.out.frT HF2.out (by decide));have p0:=HBO1.out.cell 0;have pf:=HBO1.out.frozen 0;have HF3:Hid (ar [some 54] w1 (w1.setCell ⟨bo,0,none⟩ (.slice (some ⟨g1,0,none⟩) (ls.length+1) qq1))):=(ar.refl _ _).setCell (p:=⟨bo,0,none⟩) HBO1.out (by decide) _;have HTX:=zH (HTW.out.frT HF3.out (by decide));have tx6:=HTX.out.cell 6;simp only[L3]at p0 tx6)
    have HY:Hid (FV B bs bo bv ms (ls++[v]) (w1.setCell ⟨bo,0,none⟩ (.slice (some ⟨g1,0,none⟩) (ls.length+1) qq1))/\ar [none,some 3,some 54] W (w1.setCell ⟨bo,0,none⟩ (.slice (some ⟨g1,0,none⟩) (ls.length+1) qq1))/\Below B W (w1.setCell ⟨bo,0,none⟩ (.slice (some ⟨g1,0,none⟩) (ls.length+1) qq1))/\B<=(w1.setCell ⟨bo,0,none⟩ (.slice (some ⟨g1,0,none⟩) (ls.length+1) qq1)).heap.size):=by
     have f1:=HFZ.out.mono (ts':=[none,some 3,some 54]) (by decide);have f2:=HF2.out.mono (ts':=[none,some 3,some 54]) (by decide);have f3:=HF3.out.mono (ts':=[none,some 3,some 54]) (by decide);have hfr:=(((ar.of_below (ts:=[none,some 3,some 54]) HBA.out).trans f1).trans f2).trans f3;have hbl:Below B W (w1.setCell ⟨bo,0,none⟩ (.slice (some ⟨g1,0,none⟩) (ls.length+1) qq1)):=(((HBA.out.mono HBS.out).trans HBZ.out).trans HB2.out).setCell (p:=⟨bo,0,none⟩) HF1.out.le.1 _;refine⟨⟨((HF1.out.h1.frT f1 (by decide)).frT f2 (by decide)).frT f3 (by decide),⟨.slice (some ⟨g1,0,none⟩) (ls.length+1) qq1,?_,?_⟩,((HF1.out.h3.frT f1 (by decide)).frT f2 (by decide)).frT f3 (by decide),?_,HF1.out.le⟩,hfr,hbl,Nat.le_trans HBS.out hbl.size⟩
     ·have:=HBO1.out.set_ 0 (.slice (some ⟨g1,0,none⟩) (ls.length+1) qq1);simpa using this
     ·have:=av HOW.out HF3.out (by decide);rw[List.length_append];unfold xz at this ⊢;rw[List.map_append];exact this
     ·obtain⟨n,h⟩:=HMZ.out;exact⟨n,(h.frT HF2.out (by decide)).frT HF3.out (by decide)⟩
    clear tx6 p0 pf HF1 HBA HT1 HMZ HFZ HBZ HBO HRW HTZ HI HZ0 HZ1 HZ2 HNEW HSZ HOW HF2 HB2 HBO1 HTW HF3 HTX hz lk s1 t0 t1;generalize World.setCell _ _ _=y at HY ⊢
    go_loopg [28] l (fun gk s28 wr=>∃ j:Nat,gk+j=l/\s28=.int .i64 (j:Int)/\Hid (FV B bs bo bv ms (bf (args.take j) (ls++[v])) wr/\ar [none,some 3,some 54] W wr/\Below B W wr/\B<=wr.heap.size))
    case atStart=>exact⟨0,by omega,rfl,by rw[List.take_zero];exact HY⟩
    case round=>
     clear HY;obtain⟨j,hgj,rfl,HJ⟩:=hrel;by_cases hj:j<l
     ·have hja:j<args.length:=by rw[HL.out];exact hj
      have HBW:Below w.heap.size w wr:=HWB.out.trans (HJ.out.2.2.1.mono hBw);obtain⟨b,o,k',v',s',ng',A2,n2,c2,B2,m3,d2,Xr,xl,xc,hAr,hcs,hlt,e0,e1,e2,e3,e4,e5,e6⟩:=aO HR.out HA.out HBW hja;subst hAr;have h1:=bF args hja;have h5:=cW args (j+1);have h6:=iQ (args.take j) (ls++[v]);have h7:=HLS.out;have HCALL:Hid (∀ W',Below wr.heap.size wr W'->Calls Tryz.prog 57 #[.agg #[.int .i64 k',.int .i64 v',.string s',.bool ng',.slice A2 n2 c2,.slice B2 m3 d2,.slice Xr xl xc],.pointer (some ⟨bs,0,none⟩),.pointer (some ⟨bo,0,none⟩),.pointer (some ⟨bv,0,none⟩)] W' fun e w'=>e=.returned (.tuple #[])/\Hid (FV B bs bo bv ms (bf (args.take (j+1)) (ls++[v])) w'/\ar [none,some 3,some 54] W w'/\Below B W w'/\B<=w'.heap.size)):=fun W' hb=>by
       have hbB:Below B wr W':=hb.mono HJ.out.2.2.2;have:=IH.out j hja (bf (args.take j) (ls++[v])) (by omega) W' (HBW.trans (hb.mono HBW.size)) (Nat.le_trans HJ.out.2.2.2 hb.size) (HJ.out.1.below hb);rw[hcs]at this;refine this.mono ?_;rintro e w' ⟨rfl,q1,q2,q3⟩;rw[gX args hja];exact⟨rfl,q1,(HJ.out.2.1.trans (ar.of_below hb)).trans q2,(HJ.out.2.2.1.trans hbB).trans q3,Nat.le_trans (Nat.le_trans HJ.out.2.2.2 hb.size) q3.size⟩
      have hv3:=(HJ.out.1.below (I wr (.cells #[.int .i64 k',.int .i64 v',.string s',.bool ng',.slice A2 n2 c2,.slice B2 m3 d2,.slice Xr xl xc] 27))).h3.cell 0;simp only[L3]at hv3;clear h1 h5 h6 h7;go_wp2_with fail;refine (HCALL.out _ (by exact I _ _)).mono ?_;rintro e w3 ⟨rfl,HJ3⟩;clear e0 e1 e2 e3 e4 e5 e6 HCALL hv3;go_wp2_with fail
      go_roundg (gk-1)
      case measure=>omega
      case rel=>exact⟨j+1,by omega,by go_num,HJ3⟩
     ·obtain rfl:j=l:=by omega
      have h2:=HJ.out;rw[List.take_of_length_le (by rw[HL.out];exact Nat.le_refl _)]at h2;have HE2:=HE.out;subst HE2;have HJ2:=zH h2;clear h2 HJ;go_wp2_with fail;unfold bodyPost;refine⟨rfl,.tuple #[],?_,rfl,HJ2.out.1,HJ2.out.2.1,HJ2.out.2.2.1⟩
      first|(simp[results,Tryz.f57];done)|(unfold results;rfl)|kernel_rfl
  ·have hkb:(k==1)=false:=beq_eq_false_iff_ne.2 hk1;have HE:Hid (fe=bf args ls):=by
    have h:=HFE.out;rw[if_neg (fun q=>hk1 q.1)]at h;exact h
   have HLS:Hid (ls.length+1+al args<=1000000):=by have:=HCN.out;have:=HCT.out;show _<=_;omega
   have HY:Hid (FV B bs bo bv ms ls (W.alloc (.cells #[.int .i64 k,.int .i64 v,.string s,.bool ng,.slice A1 m1 q1,.slice B1 m2 q2,.slice Ar l cap] 27))/\ar [none,some 3,some 54] W (W.alloc (.cells #[.int .i64 k,.int .i64 v,.string s,.bool ng,.slice A1 m1 q1,.slice B1 m2 q2,.slice Ar l cap] 27))/\Below B W (W.alloc (.cells #[.int .i64 k,.int .i64 v,.string s,.bool ng,.slice A1 m1 q1,.slice B1 m2 q2,.slice Ar l cap] 27))/\B<=(W.alloc (.cells #[.int .i64 k,.int .i64 v,.string s,.bool ng,.slice A1 m1 q1,.slice B1 m2 q2,.slice Ar l cap] 27)).heap.size):=⟨HF0.out.below HBA.out,ar.of_below HBA.out,HBA.out.mono HBS.out,Nat.le_trans HBS.out HBA.out.size⟩;clear hk1 HF0 HFE HCN HCT;go_enter Tryz.func57,Tryz.ntmps57;go_wp2_with fail;clear HBA HT1;generalize (W.alloc (.cells #[.int .i64 k,.int .i64 v,.string s,.bool ng,.slice A1 m1 q1,.slice B1 m2 q2,.slice Ar l cap] 27))=y at HY ⊢
   go_loopg [28] l (fun gk s28 wr=>∃ j:Nat,gk+j=l/\s28=.int .i64 (j:Int)/\Hid (FV B bs bo bv ms (bf (args.take j) (ls)) wr/\ar [none,some 3,some 54] W wr/\Below B W wr/\B<=wr.heap.size))
   case atStart=>exact⟨0,by omega,rfl,by rw[List.take_zero];exact HY⟩
   case round=>
    clear HY;obtain⟨j,hgj,rfl,HJ⟩:=hrel;by_cases hj:j<l
    ·have hja:j<args.length:=by rw[HL.out];exact hj
     have HBW:Below w.heap.size w wr:=HWB.out.trans (HJ.out.2.2.1.mono hBw);obtain⟨b,o,k',v',s',ng',A2,n2,c2,B2,m3,d2,Xr,xl,xc,hAr,hcs,hlt,e0,e1,e2,e3,e4,e5,e6⟩:=aO HR.out HA.out HBW hja;subst hAr;have h1:=bF args hja;have h5:=cW args (j+1);have h6:=iQ (args.take j) (ls);have h7:=HLS.out;have HCALL:Hid (∀ W',Below wr.heap.size wr W'->Calls Tryz.prog 57 #[.agg #[.int .i64 k',.int .i64 v',.string s',.bool ng',.slice A2 n2 c2,.slice B2 m3 d2,.slice Xr xl xc],.pointer (some ⟨bs,0,none⟩),.pointer (some ⟨bo,0,none⟩),.pointer (some ⟨bv,0,none⟩)] W' fun e w'=>e=.returned (.tuple #[])/\Hid (FV B bs bo bv ms (bf (args.take (j+1)) (ls)) w'/\ar [none,some 3,some 54] W w'/\Below B W w'/\B<=w'.heap.size)):=fun W' hb=>by
      have hbB:Below B wr W':=hb.mono HJ.out.2.2.2;have:=IH.out j hja (bf (args.take j) (ls)) (by omega) W' (HBW.trans (hb.mono HBW.size)) (Nat.le_trans HJ.out.2.2.2 hb.size) (HJ.out.1.below hb);rw[hcs]at this;refine this.mono ?_;rintro e w' ⟨rfl,q1,q2,q3⟩;rw[gX args hja];exact⟨rfl,q1,(HJ.out.2.1.trans (ar.of_below hb)).trans q2,(HJ.out.2.2.1.trans hbB).trans q3,Nat.le_trans (Nat.le_trans HJ.out.2.2.2 hb.size) q3.size⟩
     have hv3:=(HJ.out.1.below (I wr (.cells #[.int .i64 k',.int .i64 v',.string s',.bool ng',.slice A2 n2 c2,.slice B2 m3 d2,.slice Xr xl xc] 27))).h3.cell 0;simp only[L3]at hv3;clear h1 h5 h6 h7;go_wp2_with fail;refine (HCALL.out _ (by exact I _ _)).mono ?_;rintro e w3 ⟨rfl,HJ3⟩;clear e0 e1 e2 e3 e4 e5 e6 HCALL hv3;go_wp2_with fail
     go_roundg (gk-1)
     case measure=>omega
     case rel=>exact⟨j+1,by omega,by go_num,HJ3⟩
    ·obtain rfl:j=l:=by omega
     have h2:=HJ.out;rw[List.take_of_length_le (by rw[HL.out];exact Nat.le_refl _)]at h2;have HE2:=HE.out;subst HE2;have HJ2:=zH h2;clear h2 HJ;go_wp2_with fail;unfold bodyPost;refine⟨rfl,.tuple #[],?_,rfl,HJ2.out.1,HJ2.out.2.1,HJ2.out.2.2.1⟩
     first|(simp[results,Tryz.f57];done)|(unfold results;rfl)|kernel_rfl
theorem pt {w:World} {t:Tm} {cs:List Value} (h:TC w t cs) (hc:t.count<=1000000) (W:World) (hW:Below w.heap.size w W):
 Calls Tryz.prog 31 #[.agg cs.toArray] W fun e W'=>∃ ov,e=.returned ov/\W'.ownsRow W.heap.size 3 1 ov (t.free []).length (xz (t.free []))/\Below W.heap.size W W':=by
 obtain⟨k,v,s,ng,A1,n1,c1,B1,m1,d1,Ar,l,cap,hcs⟩:=h.form;subst hcs;have hb4:af (((((W.alloc (.cells #[.int .i64 k,.int .i64 v,.string s,.bool ng,.slice A1 n1 c1,.slice B1 m1 d1,.slice Ar l cap] 27)).alloc (.cells #[.slice none 0 0] 54)).alloc (.map #[] 0)).alloc (.cells #[.map (some (W.heap.size+1+1))] 89)).alloc (.cells #[.nilFunc] 90)) (W.heap.size+1+1+1+1) 90 #[.nilFunc]:=by
  have:=af.new ((((W.alloc (.cells #[.int .i64 k,.int .i64 v,.string s,.bool ng,.slice A1 n1 c1,.slice B1 m1 d1,.slice Ar l cap] 27)).alloc (.cells #[.slice none 0 0] 54)).alloc (.map #[] 0)).alloc (.cells #[.map (some (W.heap.size+1+1))] 89)) 90 #[.nilFunc];rw[show ((((W.alloc (.cells #[.int .i64 k,.int .i64 v,.string s,.bool ng,.slice A1 n1 c1,.slice B1 m1 d1,.slice Ar l cap] 27)).alloc (.cells #[.slice none 0 0] 54)).alloc (.map #[] 0)).alloc (.cells #[.map (some (W.heap.size+1+1))] 89)).heap.size=W.heap.size+1+1+1+1 by simp]at this;exact this
 have fz:=hb4.frozen 0;have a4:=hb4.cell 0;have hst:(store ⟨W.heap.size+1+1+1+1,0,none⟩ (.func (.func 57) #[] #[.pointer (some ⟨W.heap.size+1+1+1,0,none⟩),.pointer (some ⟨W.heap.size+1,0,none⟩),.pointer (some ⟨W.heap.size+1+1+1+1,0,none⟩)])).run Tryz.prog (((((W.alloc (.cells #[.int .i64 k,.int .i64 v,.string s,.bool ng,.slice A1 n1 c1,.slice B1 m1 d1,.slice Ar l cap] 27)).alloc (.cells #[.slice none 0 0] 54)).alloc (.map #[] 0)).alloc (.cells #[.map (some (W.heap.size+1+1))] 89)).alloc (.cells #[.nilFunc] 90))=.ok () ((((((W.alloc (.cells #[.int .i64 k,.int .i64 v,.string s,.bool ng,.slice A1 n1 c1,.slice B1 m1 d1,.slice Ar l cap] 27)).alloc (.cells #[.slice none 0 0] 54)).alloc (.map #[] 0)).alloc (.cells #[.map (some (W.heap.size+1+1))] 89)).alloc (.cells #[.nilFunc] 90)).setCell ⟨W.heap.size+1+1+1+1,0,none⟩ (.func (.func 57) #[] #[.pointer (some ⟨W.heap.size+1+1+1,0,none⟩),.pointer (some ⟨W.heap.size+1,0,none⟩),.pointer (some ⟨W.heap.size+1+1+1+1,0,none⟩)])):=by
  rw[run_store _ _ _ _ _ rfl,a4,fz];rfl
 clear hb4 fz a4;have HRUN:Hid (Calls Tryz.prog 57 #[.agg #[.int .i64 k,.int .i64 v,.string s,.bool ng,.slice A1 n1 c1,.slice B1 m1 d1,.slice Ar l cap],.pointer (some ⟨W.heap.size+1+1+1,0,none⟩),.pointer (some ⟨W.heap.size+1,0,none⟩),.pointer (some ⟨W.heap.size+1+1+1+1,0,none⟩)] (((((W.alloc (.cells #[.int .i64 k,.int .i64 v,.string s,.bool ng,.slice A1 n1 c1,.slice B1 m1 d1,.slice Ar l cap] 27)).alloc (.cells #[.slice none 0 0] 54)).alloc (.map #[] 0)).alloc (.cells #[.map (some (W.heap.size+1+1))] 89)).alloc (.cells #[.func (.func 57) #[] #[.pointer (some ⟨W.heap.size+1+1+1,0,none⟩),.pointer (some ⟨W.heap.size+1,0,none⟩),.pointer (some ⟨W.heap.size+1+1+1+1,0,none⟩)]] 90)) fun e w'=>e=.returned (.tuple #[])/\Hid (FV W.heap.size (W.heap.size+1+1+1) (W.heap.size+1) (W.heap.size+1+1+1+1) (W.heap.size+1+1) (t.free []) w'/\Below W.heap.size W w')):=by
  have hb1:af ((W.alloc (.cells #[.int .i64 k,.int .i64 v,.string s,.bool ng,.slice A1 n1 c1,.slice B1 m1 d1,.slice Ar l cap] 27)).alloc (.cells #[.slice none 0 0] 54)) (W.heap.size+1) 54 #[.slice none 0 0]:=by
   have:=af.new (W.alloc (.cells #[.int .i64 k,.int .i64 v,.string s,.bool ng,.slice A1 n1 c1,.slice B1 m1 d1,.slice Ar l cap] 27)) 54 #[.slice none 0 0];rw[show (W.alloc (.cells #[.int .i64 k,.int .i64 v,.string s,.bool ng,.slice A1 n1 c1,.slice B1 m1 d1,.slice Ar l cap] 27)).heap.size=W.heap.size+1 by simp]at this;exact this
  have hb3:af ((((W.alloc (.cells #[.int .i64 k,.int .i64 v,.string s,.bool ng,.slice A1 n1 c1,.slice B1 m1 d1,.slice Ar l cap] 27)).alloc (.cells #[.slice none 0 0] 54)).alloc (.map #[] 0)).alloc (.cells #[.map (some (W.heap.size+1+1))] 89)) (W.heap.size+1+1+1) 89 #[.map (some (W.heap.size+1+1))]:=by
   have:=af.new (((W.alloc (.cells #[.int .i64 k,.int .i64 v,.string s,.bool ng,.slice A1 n1 c1,.slice B1 m1 d1,.slice Ar l cap] 27)).alloc (.cells #[.slice none 0 0] 54)).alloc (.map #[] 0)) 89 #[.map (some (W.heap.size+1+1))];rw[show (((W.alloc (.cells #[.int .i64 k,.int .i64 v,.string s,.bool ng,.slice A1 n1 c1,.slice B1 m1 d1,.slice Ar l cap] 27)).alloc (.cells #[.slice none 0 0] 54)).alloc (.map #[] 0)).heap.size=W.heap.size+1+1+1 by simp]at this;exact this
  have hb4:af (((((W.alloc (.cells #[.int .i64 k,.int .i64 v,.string s,.bool ng,.slice A1 n1 c1,.slice B1 m1 d1,.slice Ar l cap] 27)).alloc (.cells #[.slice none 0 0] 54)).alloc (.map #[] 0)).alloc (.cells #[.map (some (W.heap.size+1+1))] 89)).alloc (.cells #[.func (.func 57) #[] #[.pointer (some ⟨W.heap.size+1+1+1,0,none⟩),.pointer (some ⟨W.heap.size+1,0,none⟩),.pointer (some ⟨W.heap.size+1+1+1+1,0,none⟩)]] 90)) (W.heap.size+1+1+1+1) 90 #[.func (.func 57) #[] #[.pointer (some ⟨W.heap.size+1+1+1,0,none⟩),.pointer (some ⟨W.heap.size+1,0,none⟩),.pointer (some ⟨W.heap.size+1+1+1+1,0,none⟩)]]:=by
   have:=af.new ((((W.alloc (.cells #[.int .i64 k,.int .i64 v,.string s,.bool ng,.slice A1 n1 c1,.slice B1 m1 d1,.slice Ar l cap] 27)).alloc (.cells #[.slice none 0 0] 54)).alloc (.map #[] 0)).alloc (.cells #[.map (some (W.heap.size+1+1))] 89)) 90 #[.func (.func 57) #[] #[.pointer (some ⟨W.heap.size+1+1+1,0,none⟩),.pointer (some ⟨W.heap.size+1,0,none⟩),.pointer (some ⟨W.heap.size+1+1+1+1,0,none⟩)]];rw[show ((((W.alloc (.cells #[.int .i64 k,.int .i64 v,.string s,.bool ng,.slice A1 n1 c1,.slice B1 m1 d1,.slice Ar l cap] 27)).alloc (.cells #[.slice none 0 0] 54)).alloc (.map #[] 0)).alloc (.cells #[.map (some (W.heap.size+1+1))] 89)).heap.size=W.heap.size+1+1+1+1 by simp]at this;exact this
  have hbw:Below W.heap.size W (((((W.alloc (.cells #[.int .i64 k,.int .i64 v,.string s,.bool ng,.slice A1 n1 c1,.slice B1 m1 d1,.slice Ar l cap] 27)).alloc (.cells #[.slice none 0 0] 54)).alloc (.map #[] 0)).alloc (.cells #[.map (some (W.heap.size+1+1))] 89)).alloc (.cells #[.func (.func 57) #[] #[.pointer (some ⟨W.heap.size+1+1+1,0,none⟩),.pointer (some ⟨W.heap.size+1,0,none⟩),.pointer (some ⟨W.heap.size+1+1+1+1,0,none⟩)]] 90)):=(((((Below.refl _ W).alloc (Nat.le_refl _) _).alloc (by simp) _).alloc (by simp;omega) _).alloc (by simp;omega) _).alloc (by simp;omega) _;have hm0:(((((W.alloc (.cells #[.int .i64 k,.int .i64 v,.string s,.bool ng,.slice A1 n1 c1,.slice B1 m1 d1,.slice Ar l cap] 27)).alloc (.cells #[.slice none 0 0] 54)).alloc (.map #[] 0)).alloc (.cells #[.map (some (W.heap.size+1+1))] 89)).alloc (.cells #[.func (.func 57) #[] #[.pointer (some ⟨W.heap.size+1+1+1,0,none⟩),.pointer (some ⟨W.heap.size+1,0,none⟩),.pointer (some ⟨W.heap.size+1+1+1+1,0,none⟩)]] 90)).heap[W.heap.size+1+1]?=some (.map #[] 0):=by
   have:=heap_alloc_new ((W.alloc (.cells #[.int .i64 k,.int .i64 v,.string s,.bool ng,.slice A1 n1 c1,.slice B1 m1 d1,.slice Ar l cap] 27)).alloc (.cells #[.slice none 0 0] 54)) (.map #[] 0);rw[show ((W.alloc (.cells #[.int .i64 k,.int .i64 v,.string s,.bool ng,.slice A1 n1 c1,.slice B1 m1 d1,.slice Ar l cap] 27)).alloc (.cells #[.slice none 0 0] 54)).heap.size=W.heap.size+1+1 by simp]at this;rw[Lib.alloc_old _ _ _ (by simp),Lib.alloc_old _ _ _ (by simp)];exact this
  have g1:=((hb1.alloc (.map #[] 0)).alloc (.cells #[.map (some (W.heap.size+1+1))] 89)).alloc (.cells #[.func (.func 57) #[] #[.pointer (some ⟨W.heap.size+1+1+1,0,none⟩),.pointer (some ⟨W.heap.size+1,0,none⟩),.pointer (some ⟨W.heap.size+1+1+1+1,0,none⟩)]] 90);have g3:=hb3.alloc (.cells #[.func (.func 57) #[] #[.pointer (some ⟨W.heap.size+1+1+1,0,none⟩),.pointer (some ⟨W.heap.size+1,0,none⟩),.pointer (some ⟨W.heap.size+1+1+1+1,0,none⟩)]] 90);have hset:(fun _=>none)=pY []:=by funext j;simp[pY]
  have hfv:FV W.heap.size (W.heap.size+1+1+1) (W.heap.size+1) (W.heap.size+1+1+1+1) (W.heap.size+1+1) [] (((((W.alloc (.cells #[.int .i64 k,.int .i64 v,.string s,.bool ng,.slice A1 n1 c1,.slice B1 m1 d1,.slice Ar l cap] 27)).alloc (.cells #[.slice none 0 0] 54)).alloc (.map #[] 0)).alloc (.cells #[.map (some (W.heap.size+1+1))] 89)).alloc (.cells #[.func (.func 57) #[] #[.pointer (some ⟨W.heap.size+1+1+1,0,none⟩),.pointer (some ⟨W.heap.size+1,0,none⟩),.pointer (some ⟨W.heap.size+1+1+1+1,0,none⟩)]] 90)):=⟨g3,⟨_,g1,World.ownsRow_nil _ _ _ _⟩,hb4,⟨0,hset▸bQ.empty hm0⟩,by omega,by omega⟩;refine (qU W.heap.size (W.heap.size+1+1+1) (W.heap.size+1) (W.heap.size+1+1+1+1) (W.heap.size+1+1) hW.size h [] (by simpa using hc) (((((W.alloc (.cells #[.int .i64 k,.int .i64 v,.string s,.bool ng,.slice A1 n1 c1,.slice B1 m1 d1,.slice Ar l cap] 27)).alloc (.cells #[.slice none 0 0] 54)).alloc (.map #[] 0)).alloc (.cells #[.map (some (W.heap.size+1+1))] 89)).alloc (.cells #[.func (.func 57) #[] #[.pointer (some ⟨W.heap.size+1+1+1,0,none⟩),.pointer (some ⟨W.heap.size+1,0,none⟩),.pointer (some ⟨W.heap.size+1+1+1+1,0,none⟩)]] 90)) (hW.trans (hbw.mono hW.size)) hbw.size hfv).mono ?_;rintro e w' ⟨rfl,q1,_,q3⟩;exact⟨rfl,q1,hbw.trans q3⟩
 have hmm:=@run_makeMap Tryz.prog;generalize t.free []=ls at*;clear h hc hW;go_enter Tryz.func31,Tryz.ntmps31;go_wp2_with fail;refine HRUN.out.mono ?_;rintro e w2 ⟨rfl,HQ⟩;obtain⟨ov,h1,h2⟩:=HQ.out.1.h2;have HR:=zH h2;have HB:=zH HQ.out.2;have o0:=h1.cell 0;simp only[L3]at o0;clear hst h1 h2 HQ HRUN;go_wp2_with fail;go_ret;exact⟨ov,rfl,HR.out,HB.out⟩
end Go.Proofs.YtlhojoefhannnaaGreat
