/- term.sorted: the bindings of a map, in order, in new memory. And 5 more texts. -/
import Derived.Test.YtlhojoefhannnaaGreatJt36
set_option linter.unusedVariables false
set_option linter.unusedSimpArgs false
set_option maxRecDepth 100000
set_option maxHeartbeats 51200000
namespace Go.Proofs.YtlhojoefhannnaaGreat
open Go.RowKit NumB
theorem ss:∀ {a b:List Int},a.Pairwise (· < ·)->b.Pairwise (· < ·)->(∀ v,v∈a↔v∈b)->a=b
 |[],[],_,_,_=>rfl
 |[],y::b,_,_,h=>absurd ((h y).2 (by simp)) (by simp)
 |x::a,[],_,_,h=>absurd ((h x).1 (by simp)) (by simp)
 |x::a,y::b,ha,hb,h=>by
  rw[List.pairwise_cons]at ha hb;have e:x=y:=by
   have h1:=(h x).1 (by simp);have h2:=(h y).2 (by simp);rw[List.mem_cons]at h1 h2;rcases h1 with h1|h1
   ·exact h1
   ·rcases h2 with h2|h2
    ·exact h2.symm
    ·have:=hb.1 x h1;have:=ha.1 y h2;omega
  subst e;rw[ss ha.2 hb.2 fun v=>?_];have h3:=h v;rw[List.mem_cons,List.mem_cons]at h3;constructor
  ·intro hv;rcases h3.1 (.inr hv) with rfl|h4
   ·have:=ha.1 v hv;omega
   ·exact h4
  ·intro hv;rcases h3.2 (.inr hv) with rfl|h4
   ·have:=hb.1 v hv;omega
   ·exact h4
theorem dN.pair {bs:List (Int×Tm)} (h:dN bs):(bs.map (·.1)).Pairwise (· < ·):=by
 rw[List.pairwise_iff_getElem];intro i j hi hj hij;simp only[List.length_map]at hi hj;simpa using h i j hi hj hij
theorem qk {bs:List (Int×Tm)} {gs:List (iE×Tm)} {es:List iE} (hi:dN bs) (hp:es.Perm (gs.map (·.1))) (hs:es.Pairwise (fun a b=>¬b.x<a.x)) (hd:gs.Pairwise (fun a b=>a.1.x≠b.1.x)) (hm:∀ v,(∃ p∈gs,p.1.x=v)↔v∈bs.map (·.1)):es.map (·.x)=bs.map (·.1):=by
 refine ss ?_ hi.pair fun v=>?_
 ·have hd2:(gs.map (·.1)).Pairwise (fun a b=>a.x≠b.x):=by rw[List.pairwise_map];exact hd
  have hd3:es.Pairwise (fun a b=>a.x≠b.x):=(hp.pairwise_iff (fun {a b} h=>fun e=>h e.symm)).2 hd2;rw[List.pairwise_map];exact (hs.and hd3).imp fun {a b} h=>by have:=h.1;have:=h.2;omega
 ·rw[<-hm];constructor
  ·intro h;obtain⟨b,hb,rfl⟩:=List.mem_map.1 h;obtain⟨p,hp2,rfl⟩:=List.mem_map.1 (hp.subset hb);exact⟨p,hp2,rfl⟩
  ·rintro⟨p,hp2,rfl⟩;exact List.mem_map.2 ⟨p.1,hp.symm.subset (List.mem_map.2 ⟨p,hp2,rfl⟩),rfl⟩
def wN (bs:List (Int×Tm)) (left:Lit->Bool) (gs:List (iE×Tm)):Prop:=
 (∀ p∈gs,fnd bs p.1.x=some p.2/\an p.1.x/\left (.int .i64 p.1.x)=false)/\gs.Pairwise (fun a b=>a.1.x≠b.1.x)/\∀ v,v∈bs.map (·.1)->left (.int .i64 v)=true\/∃ p∈gs,p.1.x=v
theorem xy {bs:List (Int×Tm)} {v:Int} {t:Tm} (h:fnd bs v=some t):v∈bs.map (·.1):=by
 unfold fnd at h;rw[Option.map_eq_some_iff]at h;obtain⟨p,hp,rfl⟩:=h;have h1:=List.find?_some hp;simp only[beq_iff_eq]at h1;exact List.mem_map.2 ⟨p,List.mem_of_find?_eq_some hp,h1⟩
theorem wN.add {bs:List (Int×Tm)} {left:Lit->Bool} {gs:List (iE×Tm)} (h:wN bs left gs) {p:iE×Tm} (hf:fnd bs p.1.x=some p.2) (hx:an p.1.x) (hl:left (.int .i64 p.1.x)=true):wN bs (fun z=>left z&&!z.sameKey (.int .i64 p.1.x)) (gs++[p]):=by
 refine⟨fun q hq=>?_,?_,fun v hv=>?_⟩
 ·rcases List.mem_append.1 hq with hq|hq
  ·have:=h.1 q hq;exact⟨this.1,this.2.1,by simp[this.2.2]⟩
  ·rw[List.mem_singleton]at hq;subst hq;exact⟨hf,hx,by simp[Lit.sameKey]⟩
 ·rw[List.pairwise_append];refine⟨h.2.1,by simp,fun a ha b hb=>?_⟩;rw[List.mem_singleton]at hb;subst hb;intro e;have:=(h.1 a ha).2.2;rw[e,hl]at this;cases this
 ·by_cases e:v=p.1.x
  ·subst e;exact .inr ⟨p,by simp,rfl⟩
  ·rcases h.2.2 v hv with h1|⟨q,hq,h1⟩
   ·exact .inl (by simp[h1,Lit.sameKey,e])
   ·exact .inr ⟨q,by simp[hq],h1⟩
theorem fG.keys {w:World} {zs:List (Int×List Value)} {bs:List (Int×Tm)} (h:fG w zs bs):∀ v,v∈bs.map (·.1)->Maps.has (DataW.map (zs.map eH)) (.int .i64 v)=true:=by
 induction h with
 |nil=>intro v hv;simp at hv
 |@cons v' cx' t' zs bs hv' h' hr ih=>
  intro v hv;rw[Maps.has_eq];by_cases e:v=v'
  ·subst e;simp[eH,Lit.sameKey]
  ·have:=ih v (by simpa[e] using hv);rw[Maps.has_eq]at this;simp only[List.map_cons,List.any_cons,this,Bool.or_true]
theorem cr.grown {R:Nat->Prop} {w w':World} {row:Option Nat} {t:Tm} {cs:List Value} (h:cr R w t cs) (hg:w.grownBy w' row) (hr:∀ b,R b->some b≠row):cr R w' t cs:=h.to hg.size fun b hb hlt=>hg.block b hlt (hr b hb)
theorem vE {w w':World} (h:Below w.heap.size w w'):w.grownBy w' none:=⟨h.os,h.tape,h.output,h.size,fun i hi _=>h.block i hi⟩
theorem tS:(Tryz.prog.info? 37).map (fun i=>(i.zero,i.size,i.bytes))=some (some (.agg (Value.int .i64 0::zt).toArray),8,120):=by kernel_rfl
theorem qr {w:World} (ms:Nat) {bs:List (Int×Tm)} (hi:dN bs) (hvd:yQ bs) (hlen:bs.length<=1000000) (W:World) (hW:Below w.heap.size w W) (hM:dG w W ms bs):
 Calls Tryz.prog 41 #[.map (some ms)] W fun e W'=>∃ ov,e=.returned ov/\BL W' ov bs/\Below W.heap.size W W':=by
 obtain⟨zs,hown,hz⟩:=hM;have HCL:Hid (∀ x cx,TC w x cx->x.err0=0->∀ W',Below w.heap.size w W'->Calls Tryz.prog 48 #[.agg cx.toArray] W' fun e w'=>∃ cs',e=.returned (.agg cs'.toArray)/\fF (W'.heap.size+1) w' x cs'/\Below W'.heap.size W' w'):=fun x cx hx he W' hb=>fK hx (hx.sm he) W' hb;have HZ:=zH hz;have HI:=zH hi;have HVD:=zH hvd;have HWB:=zH hW;have HMS:=zH hown.lt;obtain⟨i0,hi0,hz0,hz1,hz2⟩:=info_parts tS;have HI0:=zH hi0;have HZ0:=zH hz0;have HZ1:=zH hz1;have HZ2:=zH hz2;have HLE:=zH hz.len;clear hi0 hz0 hz1 hz2 hz hi hvd hW;go_enter Tryz.func41,Tryz.ntmps41
 go_wp2_with (first
  |(at_range;refine wpList_range_own _ rfl _ 72 rfl 3 27 (Maps.int_keyed Tryz.underlying3) Tryz.underlying72 zL ms bs.length _ rfl hown ?_;intro w0 hrg0 hg0 hs0)
  |go_in)
 have HB0:Hid (Below W.heap.size W w0):=⟨hg0.os,hg0.tape,hg0.output,hg0.size,fun i hi=>hg0.block i hi (by simp)⟩;have HS0:Hid (w0.heap.size=W.heap.size+1):=hs0;clear hg0 hs0 hown
 go_frame
 go_loopw [3] (fun v wr=>∃ (left:Lit->Bool) (cnt:Nat) (gs:List (iE×Tm)) (xs:List Value),wr.ranges Tryz.prog 3 zL ms W.heap.size bs.length (.map (zs.map eH)) left cnt/\Hid (wr.ownsRow (W.heap.size+1) 37 8 v gs.length xs)/\Hid (∀ i (h:i<gs.length) q,q<8->xs[i*8+q]?=(gs[i]).1.enc[q]?)/\Hid (∀ i (h:i<gs.length),cr (fun b=>W.heap.size+1<=b/\some b≠v.ownBlock) wr (gs[i]).2 (gs[i]).1.cs)/\Hid (wN bs left gs)/\Hid (gs.length+cnt<=bs.length)/\Hid (Below W.heap.size W wr)/\Hid (W.heap.size+1<=wr.heap.size))
  (fun _ wr=>wr.rangeLeft ms W.heap.size)
 case atStart=>
  exact⟨_,_,[],[],hrg0,World.ownsRow_nil _ _ _ _,fun i h=>absurd h (by simp),fun i h=>absurd h (by simp),⟨fun p hp=>(by cases hp),List.Pairwise.nil,fun v hv=>.inl (HZ.out.keys v hv)⟩,by show _<=_;rw[Maps.size_eq];simp[HLE.out],HB0.out,Nat.le_of_eq HS0.out.symm⟩
 case round=>
  clear HB0 HS0;obtain⟨left,cnt,gs,xs,hrg,HOWN,HXS,HTS,HG,HLN,HB,HSZ⟩:=hrel;have HMES:=zH hrg.left_eq;have HRNE:=zH hrg.ne
  go_wp2_with (first
   |(at_next;refine wpList_next_ranges _ rfl _ rfl 3 (Maps.int_keyed Tryz.underlying3) zL (Value.int .i64) id (fun key kl h=>(by obtain⟨x,e,_⟩:=Maps.keyOf_int_inv Tryz.underlying3 h;exact⟨x,e⟩)) (fun v y _=>⟨v,rfl⟩) ms W.heap.size bs.length _ _ _ rfl hrg ?_ ?_)
   |go_in)
  ·intro hc0 hl0;have HKEY:Hid (∀ v,(∃ p∈gs,p.1.x=v)↔v∈bs.map (·.1)):=fun v=>⟨fun ⟨p,hp,e⟩=>e▸xy (HG.out.1 p hp).1,fun hv=>by
    rcases HG.out.2.2 v hv with h|h
    ·rw[hl0]at h;cases h
    ·exact h⟩
   have HFND:Hid (∀ p∈gs,fnd bs p.1.x=some p.2/\an p.1.x):=fun p hp=>⟨(HG.out.1 p hp).1,(HG.out.1 p hp).2.1⟩;have HDIS:=zH HG.out.2.1;have HLE2:Hid (gs.length<=1000000):=by have:=HLN.out;show _<=_;omega
   clear hrg HG HLN HMES HRNE hc0 hl0;rcases HOWN.out.2 with ⟨hv0,h0⟩|⟨g,cap,cur,hv,hbase,hb,h3,h4,h5,h6⟩
   ·subst hv0;have hg0:gs=[]:=List.eq_nil_of_length_eq_zero h0;have HBN:Hid (bs=[]):=by
     show _=_;cases bs with
     |nil=>rfl
     |cons b r=>
      obtain⟨p,hp,_⟩:=(HKEY.out b.1).2 (by simp);rw[hg0]at hp;cases hp
    have HNIL:=zH (fun w'=>AnyF.slices_SortFunc_none { Tryz.sortB with } none 0 (.func (.func 65) #[] #[]) w')
    go_wp2_with (go_at_call 64;refine (HNIL.out _).mono ?_;rintro e w' ⟨rfl,rfl⟩)
    go_ret;rw[HBN.out];exact⟨_,rfl,⟨none,0,fun _=>[],rfl,Nat.le_refl _,by unfold maxLen;omega,fun h=>absurd h (by simp),fun i h=>absurd h (by simp)⟩,HB.out⟩
   ·subst hv;have HROW:=HOWN.out;have hglt:=(Go.World.ownsRow.lt HROW g rfl).2;have hHK:Go.Sort.HoldsK iE.enc 8 wr g 0 (gs.map (·.1)).toArray:=by
     intro j hj;have hj8:j<gs.length*8:=by simpa using hj
     have h1:=HXS.out (j / 8) (by omega) (j % 8) (by omega);have e1:j / 8*8+j % 8=j:=by omega
     rw[e1]at h1;refine⟨?_,HROW.frozenAt _⟩;have h2:=HROW.cellAt j hj8;rw[Nat.zero_add,h2,h1,Go.Sort.get_flatK _ _ _ _ (by simpa using hj8)];have hq:j / 8<(gs.map (·.1)).toArray.size:=by simp;omega
     have hl:j % 8<(((gs.map (·.1)).toArray[j / 8]!).enc).length:=Nat.mod_lt _ (by omega);rw[getElem!_pos (gs.map (·.1)).toArray (j / 8) hq]at hl ⊢;rw[getElem!_pos (((gs.map (·.1)).toArray[j / 8]'hq).enc) (j % 8) hl];simp only[List.getElem_toArray,List.getElem_map,id]at hl ⊢;exact List.getElem?_eq_getElem hl
    have hsort:=zH (ux g cap (gs.map (·.1)) wr hHK hglt (by have:=HLE2.out;simp;omega));have HSORT:Hid (Calls Tryz.prog 64 #[.slice (some ⟨g,0,none⟩) gs.length cap,.func (.func 65) #[] #[]] wr fun e w'=>e=.returned (.tuple #[])/\Hid (∃ es:List iE,es.Perm (gs.map (·.1))/\es.Pairwise (fun a b=>¬b.x<a.x)/\wr.grownBy w' (some g)/\∀ i (h:i<es.length) q,q<8->w'.cell? ⟨g,i*8+q,none⟩=(es[i]).enc[q]?)):=by
     have:=hsort.out;rw[List.length_map]at this;exact this
    have HCAP:Hid (gs.length<=cap/\cap<=maxLen/\W.heap.size+1<=g):=⟨h3,h4,hbase⟩;clear hsort hHK hb h3 h4 h5 h6 hbase HROW HOWN HXS cur
    go_wp2_with (go_at_call 64;refine HSORT.out.mono ?_;rintro e w' ⟨rfl,HQ⟩)
    go_ret;obtain⟨es,hp,hso,hgr,hcell⟩:=HQ.out;have hso:es.Pairwise (fun a b=>¬b.x<a.x):=hso.imp fun {a b} h=>by omega
    have hkeys:=qk HI.out hp hso HDIS.out HKEY.out;have hl1:es.length=bs.length:=by have:=congrArg List.length hkeys;simpa using this
    have hl2:gs.length=bs.length:=by rw[<-hl1,hp.length_eq,List.length_map]
    have hbel:Below W.heap.size W w':=HB.out.grown hgr HB.out.size (fun k hk=>by cases hk;have:=HCAP.out.2.2;omega);refine⟨.slice (some ⟨g,0,none⟩) gs.length cap,rfl,⟨some ⟨g,0,none⟩,cap,fun i=>if h:i<es.length then (es[i]).enc else [],by rw[hl2],by rw[<-hl2];exact HCAP.out.1,HCAP.out.2.1,fun h0=>⟨g,0,rfl,Nat.lt_of_lt_of_le hglt hgr.size,fun i hi j hj=>?_⟩,fun i h=>?_⟩,hbel⟩
    ·have hie:i<es.length:=by omega
     dsimp only;rw[dif_pos hie,Nat.zero_add];exact hcell i hie j hj
    ·have hie:i<es.length:=by omega
     dsimp only;rw[dif_pos hie];have hk:(es[i]).x=(bs[i]).1:=by
      have h1:(es.map (·.x))[i]?=(bs.map (·.1))[i]?:=by rw[hkeys]
      simpa[hie,h] using h1
     obtain⟨p,hpm,hpe⟩:=List.mem_map.1 (hp.subset (List.getElem_mem hie));obtain⟨q,hq,hqe⟩:=List.getElem_of_mem hpm;have hf:=HFND.out p hpm;rw[hpe,hk,pp HI.out h rfl]at hf;have ht:(bs[i]).2=p.2:=Option.some.inj hf.1;have htc:=HTS.out q hq;rw[hqe]at htc;refine⟨(es[i]).cs,?_,hf.2,?_⟩
     ·rw[<-hk];rfl
     ·rw[ht,<-hpe];exact (htc.to hgr.size fun b hb hlt=>hgr.block b hlt fun e=>hb.2 (by rw[e];rfl)).tc
  ·intro x c kl ya yp w1 cnt1 hkey hlk hR hat hrg1 hlt hg1 hs1 hen;obtain⟨x',hx',hkl,hwf⟩:=Maps.keyOf_int_inv Tryz.underlying3 hkey;cases hx';subst hkl;have hy:ya=.held c:=by
    have:=Option.some.inj hR;simp only[Prod.mk.injEq]at this;exact this.1.symm
   subst hy;have hx64:an x:=bounds_i64 hwf;rcases HZ.out.at x with ⟨_,h2⟩|⟨t,cx,hf,htc,h3⟩
   ·have:=(h2 .nil).symm.trans (hat .nil);cases this
   have hc:c=.agg cx.toArray:=by
    have:=(h3 .nil).symm.trans (hat .nil);simp only[DataW.held.injEq]at this;exact this.symm
   subst hc;obtain⟨k7,v7,st7,ng7,A7,n7,c7,B7,m7,d7,X7,l7,e7,hf7⟩:=htc.form;subst hf7;have HF:=zH hf;have HX:=zH hx64;have HCALL:=zH (HCL.out t _ htc (HVD.out x t hf));have HLK:=zH hlk;have HLT:=zH hlt;have HB1:Hid (Below W.heap.size W w1):=⟨hg1.os.trans HB.out.os,hg1.tape.trans HB.out.tape,hg1.output.trans HB.out.output,Nat.le_trans HB.out.size hg1.size,fun i hi=>(hg1.block i (Nat.lt_of_lt_of_le hi HB.out.size) (by simp;omega)).trans (HB.out.block i hi)⟩;have HSZ1:Hid (W.heap.size+1<=w1.heap.size):=Nat.le_trans HSZ.out hg1.size;have HOWN1:Hid (w1.ownsRow (W.heap.size+1) 37 8 u3 gs.length xs):=HOWN.out.kept hg1 (by
    cases hob:u3.ownBlock with
    |none=>exact .inl rfl
    |some g=>exact .inr fun e=>by have:=(Go.World.ownsRow.lt HOWN.out g hob).1;simp at e;omega)
   have HTS1:Hid (∀ i (h:i<gs.length),cr (fun b=>W.heap.size+1<=b/\some b≠u3.ownBlock) w1 (gs[i]).2 (gs[i]).1.cs):=fun i h=>(HTS.out i h).grown hg1 fun b hb=>by have:=hb.1;simp;omega
   clear hf htc h3 hat hkey hwf hR hx64 hlk hlt HB HSZ HOWN HTS hrg hg1 hs1;have HRG1:=zH hrg1;clear hrg1;go_wp2_with fail;refine (HCALL.out _ (by exact HWB.out.trans ((HB1.out.trans ((I w1 _).mono HB1.out.size)).mono HWB.out.size))).mono ?_;rintro e w8 ⟨cs8,rfl,ht8,hb8⟩;obtain⟨k8,v8,st8,ng8,A8,n8,c8,B8,m8,d8,X8,l8,e8,hf8⟩:=ht8.tc.form;subst hf8;have HB8:Hid (Below w1.heap.size w1 (w8.alloc (.cells #[.int .i64 x,.int .i64 k8,.int .i64 v8,.string st8,.bool ng8,.slice A8 n8 c8,.slice B8 m8 d8,.slice X8 l8 e8] 37))):=((I w1 (.cells #[.int .i64 k7,.int .i64 v7,.string st7,.bool ng7,.slice A7 n7 c7,.slice B7 m7 d7,.slice X7 l7 e7] 27)).trans (hb8.mono (I w1 _).size)).trans ((I w8 _).mono (Nat.le_trans (I w1 (.cells #[.int .i64 k7,.int .i64 v7,.string st7,.bool ng7,.slice A7 n7 c7,.slice B7 m7 d7,.slice X7 l7 e7] 27)).size hb8.size));have HRW:=zH (f9 HOWN1.out HB8.out);have HNEWS:=zH (World.news_of_block (af.new w8 37 #[.int .i64 x,.int .i64 k8,.int .i64 v8,.string st8,.bool ng8,.slice A8 n8 c8,.slice B8 m8 d8,.slice X8 l8 e8]));have HONE:Hid (∀ u∈[(Value.int .i64 x),(Value.int .i64 k8),(Value.int .i64 v8),(Value.string st8),(Value.bool ng8),(Value.slice A8 n8 c8),(Value.slice B8 m8 d8),(Value.slice X8 l8 e8)],u.oneCell'=true):=fun u hu=>by
    simp only[List.mem_cons,List.not_mem_nil,or_false]at hu;rcases hu with rfl|rfl|rfl|rfl|rfl|rfl|rfl|rfl<;>rfl
   have HOLT:Hid (∀ k,u3.ownBlock=some k->W.heap.size+1<=k/\k<w1.heap.size):=Go.World.ownsRow.lt HOWN1.out;have HT8:Hid (cr (fun b=>W.heap.size+1<=b/\some b≠u3.ownBlock) (w8.alloc (.cells #[.int .i64 x,.int .i64 k8,.int .i64 v8,.string st8,.bool ng8,.slice A8 n8 c8,.slice B8 m8 d8,.slice X8 l8 e8] 37)) t [.int .i64 k8,.int .i64 v8,.string st8,.bool ng8,.slice A8 n8 c8,.slice B8 m8 d8,.slice X8 l8 e8]):=((cr.of_tcf ht8).mono (q:=(fun b=>W.heap.size+1<=b/\some b≠u3.ownBlock)) fun b hb _=>by
    have hb':(w1.alloc (.cells #[.int .i64 k7,.int .i64 v7,.string st7,.bool ng7,.slice A7 n7 c7,.slice B7 m7 d7,.slice X7 l7 e7] 27)).heap.size+1<=b:=hb;have hq:w1.heap.size+1+1<=b:=by simpa using hb'
    have:=HSZ1.out;exact⟨by omega,fun e=>by have:=(HOLT.out b e.symm).2;omega⟩).onto (I w8 _)
   have HTA:Hid (∀ i (h:i<gs.length),cr (fun b=>W.heap.size+1<=b/\some b≠u3.ownBlock) (w8.alloc (.cells #[.int .i64 x,.int .i64 k8,.int .i64 v8,.string st8,.bool ng8,.slice A8 n8 c8,.slice B8 m8 d8,.slice X8 l8 e8] 37)) (gs[i]).2 (gs[i]).1.cs):=fun i h=>(HTS1.out i h).onto HB8.out;have HRG8:=zH (HRG1.out.kept (vE HB8.out) (by simp) (by simp));have HBA:Hid (Below W.heap.size W (w8.alloc (.cells #[.int .i64 x,.int .i64 k8,.int .i64 v8,.string st8,.bool ng8,.slice A8 n8 c8,.slice B8 m8 d8,.slice X8 l8 e8] 37))):=HB1.out.trans (HB8.out.mono HB1.out.size);have HKEEP:Hid (∀ w4,(w8.alloc (.cells #[.int .i64 x,.int .i64 k8,.int .i64 v8,.string st8,.bool ng8,.slice A8 n8 c8,.slice B8 m8 d8,.slice X8 l8 e8] 37)).grownBy w4 u3.ownBlock->w4.ranges Tryz.prog 3 zL ms W.heap.size bs.length (.map (zs.map eH)) (fun z=>left z&&!z.sameKey (.int .i64 x)) cnt1/\Below W.heap.size W w4):=fun w4 hg=>⟨HRG8.out.kept hg (fun e=>by have:=(HOLT.out ms e.symm).1;have:=HMS.out;omega) (fun e=>by have:=(HOLT.out _ e.symm).1;omega),HBA.out.grown hg HBA.out.size (fun k hk=>by have:=(HOLT.out k hk).1;omega)⟩;have hgl:gs.length<=1000000:=by have:=HLN.out;omega
   have HSZ8:Hid (W.heap.size+1<=(w8.alloc (.cells #[.int .i64 x,.int .i64 k8,.int .i64 v8,.string st8,.bool ng8,.slice A8 n8 c8,.slice B8 m8 d8,.slice X8 l8 e8] 37)).heap.size):=Nat.le_trans HSZ1.out HB8.out.size;clear ht8 hb8 HCALL hen
   go_wp2_with (at_builtin;go_must (refine wpList_append_lies _ rfl _ _ 28 rfl (W.heap.size+1) 37 i0 (.agg (Value.int .i64 0::zt).toArray) 8 120 Tryz.underlying28 HI0.out HZ0.out HZ1.out HZ2.out rfl (by decide) u3 gs.length xs rfl HRW.out ⟨w8.heap.size,0,none⟩ 1 1 [.int .i64 x,.int .i64 k8,.int .i64 v8,.string st8,.bool ng8,.slice A8 n8 c8,.slice B8 m8 d8,.slice X8 l8 e8] rfl rfl HNEWS.out HONE.out (by decide) (by unfold maxLen;omega) (by omega) (by exact HSZ8.out) _ rfl ?_);intro g cap4 w4 hown hgrow hat hlt4;have HOW4:=zH hown;have HGR:=zH hgrow;have HAT:=zH hat;have HK4:=zH (HKEEP.out w4 hgrow);clear hown hgrow hat hlt4)
   go_roundw
   case measure=>rw[HK4.out.1.left_eq,HMES.out];exact HLT.out
   case rel=>
    refine⟨_,cnt1,gs++[((⟨x,k8,v8,st8,ng8,A8,n8,c8,B8,m8,d8,X8,l8,e8⟩:iE),t)],xs++[(Value.int .i64 x),(Value.int .i64 k8),(Value.int .i64 v8),(Value.string st8),(Value.bool ng8),(Value.slice A8 n8 c8),(Value.slice B8 m8 d8),(Value.slice X8 l8 e8)],HK4.out.1,by rw[List.length_append];exact HOW4.out,fun i h q hq=>?_,fun i h=>?_,HG.out.add (p:=((⟨x,k8,v8,st8,ng8,A8,n8,c8,B8,m8,d8,X8,l8,e8⟩:iE),t)) HF.out HX.out HLK.out,by have:=HLN.out;have:=HLT.out;show _<=_;simp;omega,HK4.out.2,Nat.le_trans HSZ8.out HGR.out.size⟩
    ·have hxl:xs.length=gs.length*8:=HRW.out.1;rw[List.length_append,List.length_singleton]at h;by_cases hij:i=gs.length
     ·subst hij;rw[List.getElem?_append_right (by omega),List.getElem_append_right (Nat.le_refl _)];simp only[Nat.sub_self,List.getElem_cons_zero];show _=([.int .i64 x,.int .i64 k8,.int .i64 v8,.string st8,.bool ng8,.slice A8 n8 c8,.slice B8 m8 d8,.slice X8 l8 e8]:List Value)[q]?
      congr 1
      omega
     ·rw[List.getElem?_append_left (by omega),List.getElem_append_left (by omega)];exact HXS.out i (by omega) q hq
    ·rw[List.length_append,List.length_singleton]at h;by_cases hij:i=gs.length
     ·subst hij;rw[List.getElem_append_right (Nat.le_refl _)];simp only[Nat.sub_self,List.getElem_cons_zero];exact lU HT8.out HGR.out HAT.out
     ·rw[List.getElem_append_left (by omega)];exact lU (HTA.out i (by omega)) HGR.out HAT.out
def jQ (W w:World) (B:Nat) (ov:Value) (gs:List (Int×Tm)):Prop:=
 ∃ (xs:List Value) (vals:Nat->List Value),w.ownsRow B 37 8 ov gs.length xs/\(∀ i,i<gs.length->∀ q,q<8->xs[i*8+q]?=(vals i)[q]?)/\∀ i (h:i<gs.length),BC W gs[i] (vals i)
theorem jQ.nil (W w:World) (B:Nat):jQ W w B (.slice none 0 0) []:=⟨[],fun _=>[],World.ownsRow_nil _ _ _ _,fun i h=>absurd h (by simp),fun i h=>absurd h (by simp)⟩
theorem jQ.add {W w:World} {B:Nat} {ov:Value} {gs:List (Int×Tm)} {xs cs:List Value} {vals:Nat->List Value} {p:Int×Tm} (h:w.ownsRow B 37 8 ov (gs.length+1) (xs++cs)) (hx:∀ i,i<gs.length->∀ q,q<8->xs[i*8+q]?=(vals i)[q]?) (hb:∀ i (h:i<gs.length),BC W gs[i] (vals i)) (hl:xs.length=gs.length*8) (hc:BC W p cs):jQ W w B ov (gs++[p]):=by
 refine⟨xs++cs,fun i=>if i=gs.length then cs else vals i,by rw[List.length_append];exact h,fun i hi q hq=>?_,fun i hi=>?_⟩
 ·rw[List.length_append,List.length_singleton]at hi;by_cases hij:i=gs.length
  ·subst hij;dsimp only;rw[if_pos rfl,List.getElem?_append_right (by omega)]
   congr 1
   omega
  ·dsimp only;rw[if_neg hij,List.getElem?_append_left (by omega)];exact hx i (by omega) q hq
 ·rw[List.length_append,List.length_singleton]at hi;by_cases hij:i=gs.length
  ·subst hij;dsimp only;rw[if_pos rfl,List.getElem_append_right (Nat.le_refl _)];simpa using hc
  ·dsimp only;rw[if_neg hij,List.getElem_append_left (by omega)];exact hb i (by omega)
theorem jQ.to {W w w':World} {B:Nat} {ov:Value} {gs:List (Int×Tm)} (h:jQ W w B ov gs) (hb:Below w.heap.size w w'):jQ W w' B ov gs:=by
 obtain⟨xs,vals,h1,h2,h3⟩:=h;exact⟨xs,vals,f9 h1 hb,h2,h3⟩
theorem jQ.form {W w:World} {B:Nat} {ov:Value} {gs:List (Int×Tm)} (h:jQ W w B ov gs):∃ A c,ov=.slice A gs.length c:=by
 obtain⟨xs,vals,⟨_,⟨h1,h2⟩|⟨g,cap,cur,h1,_⟩⟩,_⟩:=h
 ·exact⟨none,0,by rw[h1,h2]⟩
 ·exact⟨_,_,h1⟩
theorem jQ.done {W w:World} {B:Nat} {ov:Value} {gs:List (Int×Tm)} (h:jQ W w B ov gs) (hb:Below W.heap.size W w):BL w ov gs:=by
 obtain⟨xs,vals,hr,h2,h3⟩:=h;have h3':∀ i (h:i<gs.length),BC w gs[i] (vals i):=fun i hi=>by obtain⟨ct,e,q1,q2⟩:=h3 i hi;exact⟨ct,e,q1,q2.to hb⟩
 have hr0:=hr;obtain⟨h1,⟨e1,e2⟩|⟨g,cap,cur,e,h4,h5,h6,h7,_⟩⟩:=hr
 ·subst e1;exact⟨none,0,vals,by rw[e2],by rw[e2];exact Nat.le_refl _,by unfold maxLen;omega,fun h=>by omega,h3'⟩
 ·subst e;have hlt:=(Go.World.ownsRow.lt hr0 g rfl).2;exact⟨some ⟨g,0,none⟩,cap,vals,rfl,h6,h7,fun h0=>⟨g,0,rfl,hlt,fun i hi j hj=>by rw[Nat.zero_add,<-h2 i hi j hj];exact hr0.cellAt _ (by omega)⟩,h3'⟩
def eF:List Tm->Int
 |[]=>0
 |t::l=>if t.check=0 then eF l else t.check
theorem dI {fn:Func} {a b c:Tmp} (h:fn.results=#[.tmp a,.tmp b,.tmp c]) (tmps:Array Value) (P:Program) (w:World):
 (results fn tmps).run P w=.ok (.tuple #[tmps.getD a undef,tmps.getD b undef,tmps.getD c undef]) w:=by
 simp only[results,h];simp[Sem.run_bind,Result.andThen,Sem.run_pure]
theorem qJ {w:World} {ts:List Tm} {v:Value} (h:TL w v ts) (W:World) (hW:Below w.heap.size w W):
 Calls Tryz.prog 27 #[v] W fun e W'=>e=.returned (.int .i64 (eF ts))/\Below W.heap.size W W':=by
 have HCK:Hid (∀ t cs,TC w t cs->∀ W',Below w.heap.size w W'->Calls Tryz.prog 12 #[.agg cs.toArray] W' fun e w'=>e=.returned (.int .i64 t.check)/\Below W'.heap.size W' w'):=fun t cs ht W' hb=>ew ht W' hb;obtain⟨Ar,cap,cs,rfl,hcap,hm,hr,ha⟩:=h;have HR:=zH hr;have HA:=zH ha;have HWB:=zH hW;unfold maxLen at hm;obtain⟨l,hl⟩:∃ l,ts.length=l:=⟨_,rfl⟩;rw[hl]at hcap ⊢;have HL:=zH hl;have HC0:Hid (eF ts=eF (ts.drop 0)):=rfl;generalize eF ts=ck at*;clear hr ha hW hl;go_enter Tryz.func27,Tryz.ntmps27;go_wp2_with fail
 go_loopg [8] l (fun gk s8 wr=>∃ j:Nat,gk+j=l/\s8=.int .i64 (j:Int)/\Hid (ck=eF (ts.drop j))/\Hid (Below W.heap.size W wr))
 case atStart=>exact⟨0,by omega,rfl,HC0.out,Below.refl _ _⟩
 case round=>
  clear HC0;obtain⟨j,hgj,rfl,HC,HB⟩:=hrel;by_cases hj:j<l
  ·have hja:j<ts.length:=by rw[HL.out];exact hj
   have HBW:=HWB.out.trans (HB.out.mono HWB.out.size);obtain⟨b,o,k5,v5,st5,ng5,A5,n5,c5,B5,b5,d5,X5,l5,e5,hAr,hcs,hlt,y0,y1,y2,y3,y4,y5,y6⟩:=aO HR.out HA.out HBW hja;subst hAr;have HCALL:=zH (HCK.out (ts[j]) (cs j) (HA.out j hja));rw[hcs]at HCALL;have HD:Hid (ck=if (ts[j]).check=0 then eF (ts.drop (j+1)) else (ts[j]).check):=by have:=HC.out;rw[List.drop_eq_getElem_cons hja,eF]at this;exact this
   generalize (ts[j]).check=c at*;have HB2:Hid (Below W.heap.size W (wr.alloc (.cells #[.int .i64 k5,.int .i64 v5,.string st5,.bool ng5,.slice A5 n5 c5,.slice B5 b5 d5,.slice X5 l5 e5] 27))):=HB.out.trans ((I wr _).mono HB.out.size);clear hcs hlt HC;go_wp2_with fail;refine (HCALL.out _ (by exact HWB.out.trans (HB2.out.mono HWB.out.size))).mono ?_;rintro e w3 ⟨rfl,hb3⟩;have HB3:Hid (Below W.heap.size W w3):=HB2.out.trans (hb3.mono HB2.out.size);clear hb3 HB2 y0 y1 y2 y3 y4 y5 y6 HCALL;by_cases hc:c=0
   ·subst hc;have HD2:Hid (ck=eF (ts.drop (j+1))):=by have:=HD.out;rw[if_pos rfl]at this;exact this
    clear HD;go_wp2_with fail
    go_roundg (gk-1)
    case measure=>omega
    case rel=>exact⟨j+1,by omega,by go_num,HD2.out,HB3.out⟩
   ·have hcb:(c==0)=false:=beq_eq_false_iff_ne.2 hc;have HD2:Hid (ck=c):=by have:=HD.out;rw[if_neg hc]at this;exact this
    clear HD hc;go_wp2_with fail;go_ret;rw[HD2.out];exact⟨rfl,HB3.out⟩
  ·obtain rfl:l=j:=by omega
   have HD2:Hid (ck=0):=by have:=HC.out;rw[List.drop_eq_nil_of_le (by rw[HL.out];exact Nat.le_refl _)]at this;exact this
   clear HC;go_wp2_with fail;go_ret;rw[HD2.out];exact⟨rfl,HB.out⟩
theorem zu {w W:World} {p t:Tm} {k1 v1 k2 v2:Int} {st1 st2:ByteArray} {ng1 ng2:Bool} {a1 a2 a3 b1 b2 b3:Value} (hp:TC w p [.int .i64 k1,.int .i64 v1,.string st1,.bool ng1,a1,a2,a3]) (ht:TC w t [.int .i64 k2,.int .i64 v2,.string st2,.bool ng2,b1,b2,b3]) (hW:Below w.heap.size w W) {g:Nat} (hk:af W g 27 #[.int .i64 k1,.int .i64 v1,.string st1,.bool ng1,a1,a2,a3,.int .i64 k2,.int .i64 v2,.string st2,.bool ng2,b1,b2,b3]):TL W (.slice (some ⟨g,0,none⟩) 2 2) [p,t]:=by
 refine⟨some ⟨g,0,none⟩,2,fun i=>if i=0 then [.int .i64 k1,.int .i64 v1,.string st1,.bool ng1,a1,a2,a3] else [.int .i64 k2,.int .i64 v2,.string st2,.bool ng2,b1,b2,b3],rfl,Nat.le_refl _,by decide,fun _=>⟨g,0,rfl,hk.lt,fun i hi j hj=>?_⟩,fun i hi=>?_⟩
 ·have hi:i<2:=hi;rw[hk.cell];have h01:i=0\/i=1:=by omega
  have h07:j=0\/j=1\/j=2\/j=3\/j=4\/j=5\/j=6:=by omega
  rcases h01 with rfl|rfl<;>rcases h07 with rfl|rfl|rfl|rfl|rfl|rfl|rfl<;>rfl
 ·have hi:i<2:=hi;have h01:i=0\/i=1:=by omega
  rcases h01 with rfl|rfl
  ·exact hp.to hW
  ·exact ht.to hW
def wJ (a b:Tm) (f:Int->Tm):Prop:=∃ β,yI β (a,b)/\jv β f
theorem wJ.one {a b:Tm} {f g:Int->Tm} (h:wJ a b f) (k:wJ a b g):f=g:=by
 obtain⟨β,h1,h2⟩:=h;obtain⟨γ,k1,k2⟩:=k;exact h1.one k1 h2 k2
theorem wJ.eq {a b:Tm} {f:Int->Tm} (h:wJ a b f):a.sb f=b.sb f:=by
 obtain⟨β,h1,h2⟩:=h;exact (h1.2 f).1 h2.2.1
theorem jv.ne {β:Int->Option Tm} {f:Int->Tm} (h:jv β f) (ha:nW β) (v:Int):β v=none↔f v=.var v:=by
 refine⟨h.1 v,fun e=>?_⟩;cases hb:β v with
 |none=>rfl
 |some t=>
  have h1:=h.2.1 v t hb;rw[e]at h1;obtain⟨u,rfl,h2⟩:=Tm.sb_is_var (ha.2 v t hb).1 h1.symm;have h3:=(ha.2 v _ hb).2 u rfl;have h4:=h.low ha u v h2;omega
open Classical in
noncomputable def bnd1 (f:Int->Tm) (v:Int):Option Tm:=if f v=.var v then none else some (f v)
theorem jv.bnd1 {β:Int->Option Tm} {f:Int->Tm} (h:jv β f) (ha:nW β) (v:Int):Go.Proofs.YtlhojoefhannnaaGreat.bnd1 f v=if (β v).isSome then some (f v) else none:=by
 unfold Go.Proofs.YtlhojoefhannnaaGreat.bnd1;cases hb:β v with
 |none=>rw[if_pos ((h.ne ha v).1 hb)];rfl
 |some t=>rw[if_neg (fun e=>by rw[(h.ne ha v).2 e]at hb;cases hb)];rfl
inductive ic (a b:Tm):Int->Bool->List (Int×Tm)->Prop
 |bad (h:eF [a,b]≠0):ic a b (eF [a,b]) false []
 |no (h:eF [a,b]=0) (h2:∀ s,a.sb s≠b.sb s):ic a b 0 false []
 |size (h:eF [a,b]=0) (f:Int->Tm) (hf:wJ a b f) (v:Int) (hv:10000<(f v).count):ic a b 3 false []
 |ok (h:eF [a,b]=0) (f:Int->Tm) (hf:wJ a b f) (hc:∀ v,(f v).count<=10000) (bs:List (Int×Tm)) (hi:dN bs) (hm:∀ v,fnd bs v=bnd1 f v):ic a b 0 true bs
theorem dN.tail {p:Int×Tm} {l:List (Int×Tm)} (h:dN (p::l)):dN l:=fun i j hi hj hij=>h (i+1) (j+1) (by simpa using hi) (by simpa using hj) (by omega)
theorem dN.head {p q:Int×Tm} {l:List (Int×Tm)} (h:dN (p::l)) (hq:q∈l):p.1<q.1:=by
 obtain⟨i,hi,rfl⟩:=List.mem_iff_getElem.1 hq;exact h 0 (i+1) (by simp) (by simpa using hi) (by omega)
theorem m4 {p:Int×Tm} {l:List (Int×Tm)} (h:dN (p::l)) {v:Int} (hv:v<=p.1):fnd l v=none:=by
 refine pm fun q hq e=>?_;have:=h.head (List.getElem_mem hq);omega
theorem bW (p:Int×Tm) (l:List (Int×Tm)) (v:Int):fnd (p::l) v=if p.1=v then some p.2 else fnd l v:=by
 unfold fnd;by_cases h:p.1=v
 ·rw[List.find?_cons_of_pos (by simpa using h),if_pos h];rfl
 ·rw[List.find?_cons_of_neg (by simpa using h),if_neg h]
theorem vH:∀ {l m:List (Int×Tm)},dN l->dN m->(∀ v,fnd l v=fnd m v)->l=m:=by
 intro l
 induction l with
 |nil=>
  intro m _ _ h;cases m with
  |nil=>rfl
  |cons q m=>have:=h q.1;rw[bW,if_pos rfl]at this;simp[fnd]at this
 |cons p l ih=>
  intro m hl hm h;cases m with
  |nil=>have:=h p.1;rw[bW,if_pos rfl]at this;simp[fnd]at this
  |cons q m=>
   have hpq:p.1=q.1:=by
    rcases Int.lt_trichotomy p.1 q.1 with hlt|he|hlt
    ·have:=h p.1;rw[bW,if_pos rfl,bW,if_neg (by omega),m4 hm (by omega)]at this;cases this
    ·exact he
    ·have:=h q.1;rw[bW,if_neg (by omega),bW,if_pos rfl,m4 hl (by omega)]at this;cases this
   have h2:=h p.1;rw[bW,if_pos rfl,bW,if_pos hpq.symm]at h2;have e:p=q:=Prod.ext hpq (Option.some.inj h2);subst e;rw[ih hl.tail hm.tail fun v=>?_];by_cases hv:p.1=v
   ·rw[m4 hl (by omega),m4 hm (by omega)]
   ·have:=h v
    rwa [bW,if_neg hv,bW,if_neg hv]at this
theorem ic.one {a b:Tm} {e e':Int} {k k':Bool} {bs bs':List (Int×Tm)} (h:ic a b e k bs) (h':ic a b e' k' bs'):e=e'/\k=k'/\bs=bs':=by
 cases h with
 |bad h1=>
  cases h' with
  |bad _=>exact⟨rfl,rfl,rfl⟩
  |no h2 _=>exact absurd h2 h1
  |size h2 _ _ _ _=>exact absurd h2 h1
  |ok h2 _ _ _ _ _ _=>exact absurd h2 h1
 |no h1 hn=>
  cases h' with
  |bad h2=>exact absurd h1 h2
  |no _ _=>exact⟨rfl,rfl,rfl⟩
  |size _ f hf _ _=>exact absurd hf.eq (hn f)
  |ok _ f hf _ _ _ _=>exact absurd hf.eq (hn f)
 |size h1 f hf v hv=>
  cases h' with
  |bad h2=>exact absurd h1 h2
  |no _ hn=>exact absurd hf.eq (hn f)
  |size _ _ _ _ _=>exact⟨rfl,rfl,rfl⟩
  |ok _ g hg hc _ _ _=>
   rw[hf.one hg]at hv;exact absurd (hc v) (by omega)
 |ok h1 f hf hc _ hi hm=>
  cases h' with
  |bad h2=>exact absurd h1 h2
  |no _ hn=>exact absurd hf.eq (hn f)
  |size _ g hg v hv=>
   rw[<-hf.one hg]at hv;exact absurd (hc v) (by omega)
  |ok _ g hg _ _ hi' hm'=>
   obtain rfl:=hf.one hg;exact⟨rfl,rfl,vH hi hi' fun v=>by rw[hm,hm']⟩
theorem fW {Q:Int->Prop}:∀ (t:Tm),(∀ v,t.occ v->Q v)->t.cn->t.allV Q:=by
 intro t
 induction t using Tm.rec (motive_2:=fun l=>(∀ v,dw v l->Q v)->nZ l->bm Q l) with
 |mk k v s n args ih=>
  intro h hc;rw[Tm.allV];rw[Tm.cn]at hc;refine⟨fun hk=>h v (by rw[Tm.occ];exact .inl ⟨hk,rfl⟩),?_⟩;by_cases hk:k=1
  ·have e:=hc.1 hk;unfold Tm.var at e;simp only[Tm.mk.injEq]at e;rw[e.2.2.2.2,bm]
   trivial
  ·exact ih (fun u hu=>h u (by rw[Tm.occ];exact .inr ⟨hk,hu⟩)) hc.2
 |nil=>rw[bm];trivial
 |cons t l ih1 ih2=>
  rename_i h hc
  rw[nZ]at hc;rw[bm];exact⟨ih1 (fun v hv=>h v (by rw[dw];exact .inl hv)) hc.1,ih2 (fun v hv=>h v (by rw[dw];exact .inr hv)) hc.2⟩
theorem fH {Q:Int->Prop}:∀ (t:Tm),t.allV Q->∀ v,t.occ v->Q v:=by
 intro t
 induction t using Tm.rec (motive_2:=fun l=>bm Q l->∀ v,dw v l->Q v) with
 |mk k v s n args ih=>
  intro h u hu;rw[Tm.allV]at h;rw[Tm.occ]at hu;rcases hu with ⟨hk,rfl⟩|⟨_,hu⟩
  ·exact h.1 hk
  ·exact ih h.2 u hu
 |nil=>rename_i h;rw[dw]at h;exact h.elim
 |cons t l ih1 ih2=>
  rename_i h v hv
  rw[bm]at h;rw[dw]at hv;rcases hv with hv|hv
  ·exact ih1 h.1 v hv
  ·exact ih2 h.2 v hv
mutual
def Tm.subs:Tm->List Tm
 |.mk k v s n args=>.mk k v s n args::eu args
def eu:List Tm->List Tm
 |[]=>[]
 |t::l=>t.subs++eu l
end
mutual
theorem gd:∀ (t:Tm),t.subs.length=t.count
 |.mk k v s n args=>by rw[Tm.subs,List.length_cons,mH args,Tm.count];omega
theorem mH:∀ (l:List Tm),(eu l).length=al l
 |[]=>by rw[eu,al];rfl
 |t::l=>by rw[eu,al,List.length_append,gd t,mH l]
end
theorem iX (t:Tm):t∈t.subs:=by
 obtain⟨k,v,s,n,args⟩:=t;rw[Tm.subs];exact List.mem_cons_self ..
theorem wu {l:List Tm} {a:Tm} (h:a∈l):∀ x∈a.subs,x∈eu l:=by
 induction l with
 |nil=>cases h
 |cons t l ih=>
  intro x hx;rw[eu,List.mem_append];rcases List.mem_cons.1 h with rfl|h
  ·exact .inl hx
  ·exact .inr (ih h x hx)
theorem qn:∀ (t:Tm),∀ x∈t.subs,∀ a∈x.args,a∈t.subs:=by
 intro t
 induction t using Tm.rec (motive_2:=fun l=>∀ x∈eu l,∀ a∈x.args,a∈eu l) with
 |mk k v s n args ih=>
  intro x hx a ha;rw[Tm.subs]at hx ⊢;rcases List.mem_cons.1 hx with rfl|hx
  ·exact List.mem_cons_of_mem _ (wu ha a (iX a))
  ·exact List.mem_cons_of_mem _ (ih x hx a ha)
 |nil=>rename_i x hx a ha;rw[eu]at hx;cases hx
 |cons t l ih1 ih2=>
  rename_i x hx a ha
  rw[eu,List.mem_append]at hx ⊢;rcases hx with hx|hx
  ·exact .inl (ih1 x hx a ha)
  ·exact .inr (ih2 x hx a ha)
theorem qm {Q:Tm->Prop} (hQ:∀ x,Q x->∀ a∈x.args,Q a):∀ (t:Tm),Q t->∀ x∈t.subs,Q x:=by
 intro t
 induction t using Tm.rec (motive_2:=fun l=>(∀ a∈l,Q a)->∀ x∈eu l,Q x) with
 |mk k v s n args ih=>
  intro h x hx;rw[Tm.subs]at hx;rcases List.mem_cons.1 hx with rfl|hx
  ·exact h
  ·exact ih (fun a ha=>hQ _ h a ha) x hx
 |nil=>rename_i h x hx;rw[eu]at hx;cases hx
 |cons t l ih1 ih2=>
  rename_i h x hx
  rw[eu,List.mem_append]at hx;rcases hx with hx|hx
  ·exact ih1 (h t (List.mem_cons_self ..)) x hx
  ·exact ih2 (fun a ha=>h a (List.mem_cons_of_mem _ ha)) x hx
theorem tN {l:List Tm} (h:dU l) {j:Nat} (hj:j<l.length):(l[j]).fine:=by
 induction l generalizing j with
 |nil=>cases hj
 |cons x l ih=>
  rw[dU]at h;cases j with
  |zero=>exact h.1
  |succ j=>exact ih h.2 (by simpa using hj)
def Vt (D:Int->Prop) (x:Tm):Prop:=x.err0=0/\x.fine/\x.sm/\x.allV D
theorem Vt.arg {D:Int->Prop} {x:Tm} (h:Vt D x):∀ a∈x.args,Vt D a:=fun a ha=>by
 obtain⟨k,v,s,n,args⟩:=x;obtain⟨h1,h2,h3,h4⟩:=h;rw[Tm.fine]at h2;rw[Tm.sm]at h3;rw[Tm.allV]at h4;obtain⟨i,hi,rfl⟩:=List.mem_iff_getElem.1 ha;exact⟨dm (br h1).2 hi,tN h2.2.2 hi,nL h3.2.2.2 hi,lz h4.2 hi⟩
theorem zE {D:Int->Prop} {nm:Nat} (hD:∀ v,D v->0<=v/\v<(nm:Int)) {a b:Tm} (ha:Vt D a) (hb:Vt D b) (ca:a.count<=10000) (cb:b.count<=10000):lm nm (a.subs++b.subs)/\(∀ x∈a.subs++b.subs,Vt D x)/\(a.subs++b.subs).length<=50000:=by
 have hl:(a.subs++b.subs).length<=20000:=by rw[List.length_append,gd,gd];omega
 have hv:∀ x∈a.subs++b.subs,Vt D x:=fun x hx=>by
  rcases List.mem_append.1 hx with hx|hx
  ·exact qm (fun x h=>h.arg) a ha x hx
  ·exact qm (fun x h=>h.arg) b hb x hx
 refine⟨⟨⟨by omega,fun t ht=>⟨(hv t ht).2.1,(hv t ht).2.2.1,fun x hx=>?_⟩⟩,fun t ht v e=>?_⟩,hv,by omega⟩
 ·rcases List.mem_append.1 ht with ht|ht
  ·exact List.mem_append.2 (.inl (qn a t ht x hx))
  ·exact List.mem_append.2 (.inr (qn b t ht x hx))
 ·have:=(hv t ht).2.2.2;subst e;unfold Tm.var at this;rw[Tm.allV]at this;exact hD v (this.1 rfl)
theorem sL {D:Int->Prop} {β:Int->Option Tm} {f:Int->Tm} (h:jv β f) (ha:nW β) (hb:∀ i t,β i=some t->D i/\∀ j,t.occ j->D j):∀ v,D v->∀ u,(f v).occ u->D u:=by
 intro v
 induction v using ha.1.induction with
 |_ v ih=>
  intro hv u hu;cases hq:β v with
  |none=>
   rw[h.1 v hq]at hu;rw[fi hu];exact hv
  |some t=>
   rw[h.2.1 v t hq]at hu;obtain⟨x,h1,h2⟩:=Tm.occ_sb t hu;have hx:=(hb v t hq).2 x h1;cases hx2:β x with
   |none=>
    rw[h.1 x hx2]at h2;rw[fi h2];exact hx
   |some y=>exact ih x ⟨t,hq,h1,by rw[hx2];rfl⟩ hx u h2
theorem wa {D:Int->Prop} {β:Int->Option Tm} {f:Int->Tm} (h:jv β f) (ha:nW β) (hb:∀ i t,β i=some t->D i/\∀ j,t.occ j->D j) (he:∀ v,D v->(Tm.var v).err0=0) (ht:∀ i t,β i=some t->t.err0=0):∀ v,D v->(f v).err0=0:=by
 intro v
 induction v using ha.1.induction with
 |_ v ih=>
  intro hv;cases hq:β v with
  |none=>rw[h.1 v hq];exact he v hv
  |some t=>
   rw[h.2.1 v t hq];refine t.err0_repl (ht v t hq) (fW t (fun x hx y e=>?_) (ha.2 v t hq).1);cases e;have hd:=(hb v t hq).2 x hx;cases hx2:β x with
   |none=>rw[h.1 x hx2];exact he x hd
   |some z=>exact ih x ⟨t,hq,hx,by rw[hx2];rfl⟩ hd
def ef (vs:List Int) (v:Int):Int:=if v∈vs then (vs.idxOf v:Int) else 0
def lj (vs:List Int) (i:Int):Int:=vs.getD i.toNat 0
theorem nf {vs:List Int} (h:vs.Pairwise (· < ·)) {j:Nat} (hj:j<vs.length):vs.idxOf vs[j]=j:=by
 have hn:vs.Nodup:=h.imp fun h=>by omega
 exact hn.idxOf_getElem j hj
theorem iC {vs:List Int} {j:Nat} (hj:j<vs.length):lj vs (j:Int)=vs[j]:=by
 unfold lj;simp[hj]
theorem vZ {vs:List Int} (h:vs.Pairwise (· < ·)):Ren (· ∈ vs) (fun i=>0<=i/\i<(vs.length:Int)) (ef vs) (lj vs) where
 fwd v hv:=by
  have h1:vs.idxOf v<vs.length:=List.idxOf_lt_length_of_mem hv;unfold ef;rw[if_pos hv];refine⟨⟨by omega,by omega⟩,?_⟩;rw[iC h1];exact List.getElem_idxOf h1
 back i hi:=by
  obtain⟨j,rfl⟩:=Int.eq_ofNat_of_zero_le hi.1;have hj:j<vs.length:=by omega
  rw[iC hj];refine⟨List.getElem_mem hj,?_⟩;unfold ef;rw[if_pos (List.getElem_mem hj),nf h hj]
 mono i j hi hj hij:=by
  obtain⟨i,rfl⟩:=Int.eq_ofNat_of_zero_le hi.1;obtain⟨j,rfl⟩:=Int.eq_ofNat_of_zero_le hj.1;have h1:i<vs.length:=by omega
  have h2:j<vs.length:=by omega
  rw[iC h1,iC h2];exact List.pairwise_iff_getElem.1 h i j h1 h2 (by omega)
theorem il {g:Int->Int} {t:Tm} (h:t.err0=0):(t.sb fun i=>.var (g i)).count=t.count:=fN (fun v x e=>by
 cases e;unfold Tm.var;rw[Tm.count,al]) t h
end Go.Proofs.YtlhojoefhannnaaGreat
