/- Pairs of ints as keys; a look-up in an empty map. And 2 more texts. -/
import Derived.Test.YtlhojoefhannnaaGreatJt20
set_option linter.unusedVariables false
set_option linter.unusedSimpArgs false
set_option maxRecDepth 100000
set_option maxHeartbeats 51200000
namespace Go.Proofs.YtlhojoefhannnaaGreat
open Go.RowKit NumB
theorem qz {i:Int} (h:an i):(Lit.int .i64 i).wf=true:=by
 unfold an at h;exact WalkArith.wf_i64 (by omega)
theorem iY:Tryz.prog.underlying 134=some (.array 2 3):=by kernel_rfl
theorem lF:Tryz.prog.cellsOf 134=2:=by kernel_rfl
theorem tu:Tryz.prog.cellsOf 3=1:=by kernel_rfl
theorem pG (d:Nat) {i:Int} (h:an i):Tryz.prog.keyLits (d+1) 3 [.int .i64 i]=some [.int .i64 i]:=by
 unfold Program.keyLits;rw[Tryz.underlying3];simp[qz h]
theorem vM (d:Nat) {i j:Int} (hi:an i) (hj:an j):Tryz.prog.keyLits (d+2) 134 [.int .i64 i,.int .i64 j]=some [.int .i64 i,.int .i64 j]:=by
 rw[show d+2=(d+1)+1 from rfl];unfold Program.keyLits;rw[iY];simp only[lF,tu];simp[List.range_succ,pG d hi,pG d hj]
theorem jJ {i j:Int} (hi:an i) (hj:an j):kW (.agg #[.int .i64 i,.int .i64 j]):=by
 refine⟨⟨i,j,rfl⟩,?_⟩;have ht:Tryz.prog.types.size=(Tryz.prog.types.size-1)+1:=by
  have:decide (0<Tryz.prog.types.size)=true:=by kernel_rfl
  have:=of_decide_eq_true this;omega
 have hk:Tryz.prog.keyType 134=true:=by kernel_rfl
 have hf:(Value.agg #[.int .i64 i,.int .i64 j]).formed Tryz.prog 134=true:=by
  unfold Value.formed;simp[iY,lF]
 have hl:=vM (Tryz.prog.types.size-1) hi hj;rw[show Tryz.prog.types.size-1+2=Tryz.prog.types.size+1 by omega]at hl;unfold keyOf;rw[iY];simp only[hk,hf,Bool.and_self,if_true];exact⟨_,by rw[show (Value.agg #[.int .i64 i,.int .i64 j]).cells.toList=[.int .i64 i,.int .i64 j] from rfl,hl];rfl⟩
theorem rg {w:World} {b c:Nat} (hb:w.heap[b]?=some (.map #[] c)) {k:Value} (hk:kW k):(Instr.lookup 104 (.map (some b)) k false).run Tryz.prog w=.ok (.bool false) w:=by
 have hm:Tryz.prog.underlying 104=some (.map 134 4):=by kernel_rfl
 obtain⟨d,hd⟩:=(ir w).und;simp[Instr.lookup,Sem.run_bind,run_underlying hm,Result.andThen_ok,getObj,Sem.run,hb,(ir w).check _ k hk,Instr.findKey,run_underlying hd,Instr.findNow,Instr.findAsking,Sem.run_pure,Tryz.zeroValue4]
theorem kv (w:World):Calls Tryz.prog 115 #[] w fun e w'=>∃ p m1 m2,e=.returned (.pointer (some ⟨p,0,none⟩))/\aE w' p m1 m2 0/\Below w.heap.size w w'/\(w.heap.size<=m1/\m1<w'.heap.size/\w.heap.size<=m2/\m2<w'.heap.size):=by
 refine (fC w).mono ?_;rintro e w' ⟨rfl,rfl⟩;refine⟨_,w.heap.size,w.heap.size+1,rfl,⟨by omega,?_,⟨0,Nat.le_refl _,#[],0,?_,rfl,by simp⟩,⟨0,Nat.le_refl _,#[],0,?_,rfl,by simp⟩⟩,?_,?_⟩
 ·have:=af.new ((w.alloc (.map #[] 0)).alloc (.map #[] 0)) 186 #[.map (some w.heap.size),.map (some (w.heap.size+1))];rw[show ((w.alloc (.map #[] 0)).alloc (.map #[] 0)).heap.size=w.heap.size+2 by simp]at this;exact this
 ·rw[Lib.alloc_old _ _ _ (by simp;omega),Lib.alloc_old _ _ _ (by simp)];exact heap_alloc_new w _
 ·rw[Lib.alloc_old _ _ _ (by simp)];have:=heap_alloc_new (w.alloc (.map #[] 0)) (.map #[] 0);rw[show (w.alloc (.map #[] 0)).heap.size=w.heap.size+1 by simp]at this;exact this
 ·exact ((I w _).alloc (by simp) _).alloc (by simp;omega) _
 ·simp;omega
def PT (ts:List (Option TypeId)) (W0:World) (b:Nat):Prop:=∃ o,W0.heap[b]?=some o/\dP ts o
theorem PT.lt {ts:List (Option TypeId)} {W0:World} {b:Nat} (h:PT ts W0 b):b<W0.heap.size:=by
 obtain⟨o,h,_⟩:=h;exact aw h
theorem PT.stay {ts:List (Option TypeId)} {W0 w W:World} (h:bU (PT ts W0) W0 w) (hf:ar ts w W) (hs:w.heap.size<=W.heap.size):bU (PT ts W0) W0 W:=by
 refine⟨Nat.le_trans h.1 hs,fun b hb hlt=>?_⟩;obtain⟨o,h1,h2⟩:=hb;have h3:=(h.2 b ⟨o,h1,h2⟩ hlt).trans h1;exact (hf b o h3 h2).trans h1.symm
theorem bU.of_fr {ts:List (Option TypeId)} {W0 w w':World} (h:bU (PT ts W0) W0 w) (hf:ar ts w w') (hs:w.heap.size<=w'.heap.size):bU (PT ts W0) w w':=⟨hs,fun k hk hlt=>by
 obtain⟨o,e1,e2⟩:=hk;have e3:=(h.2 k ⟨o,e1,e2⟩ (aw e1)).trans e1;exact (hf k o e3 e2).trans e3.symm⟩
theorem iH.of_own_pt {ts:List (Option TypeId)} {B:Nat} {w:World} {v:Value} {xs:List Nat} (h:aK .u32 82 w B v xs) (hT:some 82∉ts):iH (PT ts w) w v xs:=by
 obtain⟨A,c,e,h1,h2,_,h3⟩:=h.sl;refine⟨A,c,e,h1,h2,fun h0=>?_⟩;obtain⟨b,o,e2,hb,hc⟩:=h3 h0;subst e e2;obtain⟨cs,fz,hk⟩:=Lib.ownsRow_kind h b rfl;exact⟨b,o,rfl,⟨_,hk,dP.cells hT⟩,hb,hc⟩
theorem cw.of_tcn_pt {ts:List (Option TypeId)} {f:Nat->Option Tm} {B:Nat} {w:World} {t:Tm} {cs:List Value} (h:mO f B w t cs) (h1:some 82∉ts) (h2:some 27∉ts):cw (PT ts w) f w t cs:=by
 induction h with
 |mk k v s n args A C Ar cap cs hk hv hs hA hC hn hcap hm hr ha ih=>
  refine .mk k v s n args A C Ar cap cs hk hv hs (.of_own_pt hA h1) (.of_own_pt hC h1) hn hcap hm (fun h0=>?_) ih;obtain⟨b,e,hB,hlt,hf,⟨arr,harr⟩,hc⟩:=hr h0;exact⟨b,arr,e,⟨_,harr,dP.cells h2⟩,hf,harr,fun i hi j hj=>by rw[<-hc i hi j hj,harr.cell,Nat.zero_add]⟩
theorem wZ {Q:Nat->List Nat->Prop}:∀ (args:List Tm),(∀ i (h:i<args.length),∃ Bl:List Nat,Bl.length<=(args[i]).count/\Q i Bl)->∃ Bl:List Nat,Bl.length<=al args/\∀ i,i<args.length->∃ Bl',(∀ b∈Bl',b∈Bl)/\Q i Bl':=by
 intro args
 induction args generalizing Q with
 |nil=>intro _;exact⟨[],Nat.zero_le _,fun i hi=>absurd hi (by simp)⟩
 |cons t l ih=>
  intro h;obtain⟨B0,h1,h2⟩:=h 0 (by simp);obtain⟨B1,h3,h4⟩:=ih (Q:=fun i=>Q (i+1)) fun i hi=>h (i+1) (by simpa using hi);refine⟨B0++B1,by rw[List.length_append,al];simp only[List.getElem_cons_zero]at h1;omega,fun i hi=>?_⟩;cases i with
  |zero=>exact⟨B0,fun b hb=>by simp[hb],h2⟩
  |succ i=>
   obtain⟨B',h5,h6⟩:=h4 i (by simpa using hi);exact⟨B',fun b hb=>by simp[h5 b hb],h6⟩
theorem mO.blocks {f:Nat->Option Tm} {B:Nat} {w:World} {t:Tm} {cs:List Value} (h:mO f B w t cs):∃ Bl:List Nat,Bl.length<=t.count/\∀ g:Nat->Option Tm,(∀ b∈Bl,g b=f b)->mO g B w t cs:=by
 induction h with
 |mk k v s n args A C Ar cap cs hk hv hs hA hC hn hcap hm hr ha ih=>
  obtain⟨Bl,h1,h2⟩:=wZ (Q:=fun i Bl=>∀ (h:i<args.length) (g:Nat->Option Tm),(∀ b∈Bl,g b=f b)->mO g B w args[i] (cs i)) args fun i hi=>by
   obtain⟨Bl,h1,h2⟩:=ih i hi;exact⟨Bl,h1,fun _=>h2⟩
  by_cases h0:0<args.length
  ·obtain⟨b,e,hB,hlt,hf,hq,hc⟩:=hr h0;refine⟨b::Bl,by rw[List.length_cons,Tm.count];omega,fun g hg=>?_⟩;refine .mk k v s n args A C Ar cap cs hk hv hs hA hC hn hcap hm (fun _=>⟨b,e,hB,hlt,(hg b (by simp)).trans hf,hq,hc⟩) fun i hi=>?_;obtain⟨B',h3,h4⟩:=h2 i hi;exact h4 hi g fun c hc=>hg c (by simp[h3 c hc])
  ·refine⟨[],Nat.zero_le _,fun g hg=>.mk k v s n args A C Ar cap cs hk hv hs hA hC hn hcap hm (fun h=>absurd h h0) fun i hi=>by omega⟩
def tF (f:Nat->Option Tm) (Bl:List Nat):Nat->Option Tm:=fun b=>if b∈Bl then f b else none
theorem vh {f:Nat->Option Tm} {Bl:List Nat} {b:Nat} {x:Tm} (h:tF f Bl b=some x):b∈Bl:=by
 unfold tF at h;by_cases hb:b∈Bl
 ·exact hb
 ·rw[if_neg hb]at h;cases h
def mM (B:Nat) (f:Nat->Option Tm) (L:List Tm) (w:World) (N M:Value) (Mt:List (Tm×Tm)):Prop:=
 (N=.pointer none/\M=.map none/\Mt=[])\/∃ (p m1 m2 md:Nat) (Ts:List Tm) (n:Nat) (g:Value->Option Value),N=.pointer (some ⟨p,0,none⟩)/\M=.map (some md)/\(B<=m1/\B<=m2/\B<=md)/\¬KN m1 m2 md/\au f L w p m1 m2 Ts/\bS kW w md n g/\(∀ k x,g k=some x->x=.bool true)/\
  (∀ i j:Nat,(g (.agg #[.int .i64 (i:Int),.int .i64 (j:Int)])).isSome=true->∃ x y,Ts[i]?=some x/\Ts[j]?=some y/\(x,y)∈Mt)/\
  ∀ x y,(x,y)∈Mt->∃ i j:Nat,Ts[i]?=some x/\Ts[j]?=some y/\(g (.agg #[.int .i64 (i:Int),.int .i64 (j:Int)])).isSome=true
theorem au.frT {ts:List (Option TypeId)} {f:Nat->Option Tm} {L:List Tm} {w w':World} {p m1 m2:Nat} {Ts:List Tm} (hn:au f L w p m1 m2 Ts) (h:ar ts w w') (h0:none∉ts) (h1:some 186∉ts) (h2:some 27∉ts):au f L w' p m1 m2 Ts:=by
 obtain⟨a0,a1,⟨n,g,a2,a3⟩,⟨g2,a4,a5⟩,a6,a7⟩:=hn;refine⟨a0,a1.frT h h1,⟨n,g,a2.same (fun o ho=>?_) ?_,a3⟩,⟨g2,a4.same (fun o ho=>?_) (fun v h=>h),a5⟩,a6,a7⟩
 ·obtain⟨_,_,e,_⟩:=a2.is;rw[e]at ho;cases ho;exact h _ _ e (dP.map h0)
 ·rintro v ⟨b,o,cs,e,hb⟩;exact⟨b,o,cs,e,h _ _ hb (dP.cells h2)⟩
 ·obtain⟨_,_,e,_⟩:=a4.is;rw[e]at ho;cases ho;exact h _ _ e (dP.map h0)
theorem au.frame {ts:List (Option TypeId)} {f:Nat->Option Tm} {L:List Tm} {w w':World} {p m1 m2:Nat} {Ts:List Tm} (hn:au f L w p m1 m2 Ts) (hk:ah (KN m1 m2) w w') (h0:none∈ts):ar ts w w':=(ar.refl ts w).kept hk fun k e o ho hno=>by
 obtain⟨_,_,a2,_⟩:=hn.node;obtain⟨_,a3,_⟩:=hn.form;rcases e with rfl|rfl
 ·obtain⟨_,_,e,_⟩:=a2.is;rw[e]at ho;exact hno.2 h0 _ _ (Option.some.inj ho).symm
 ·obtain⟨_,_,e,_⟩:=a3.is;rw[e]at ho;exact hno.2 h0 _ _ (Option.some.inj ho).symm
theorem mM.frT {ts:List (Option TypeId)} {B:Nat} {f:Nat->Option Tm} {L:List Tm} {w w':World} {N M:Value} {Mt:List (Tm×Tm)} (h:mM B f L w N M Mt) (hf:ar ts w w') (h0:none∉ts) (h1:some 186∉ts) (h2:some 27∉ts):mM B f L w' N M Mt:=by
 rcases h with h|⟨p,m1,m2,md,Ts,n,g,e1,e2,hb,hk,hn,hM,hr⟩
 ·exact .inl h
 ·refine .inr ⟨p,m1,m2,md,Ts,n,g,e1,e2,hb,hk,hn.frT hf h0 h1 h2,hM.same (fun o ho=>?_) (fun v h=>h),hr⟩;obtain⟨_,_,e,_⟩:=hM.is;rw[e]at ho;cases ho;exact hf _ _ e (dP.map h0)
def wK (oc:Bool) (w:World) (U h:Nat) (N M st:Value):Prop:=af w U 106 #[.pointer (some ⟨h,0,none⟩),.bool oc,N,M,.slice none 0 0,st]
abbrev US:=wK false
theorem oE (nm B h G c m U:Nat) (och ocr:Bool) (N M st tv:Value) (xs ys:List Value) (vi:Nat) (hvi:vi<nm) (ob:Bool) (ok ov:Int) (os:ByteArray) (on:Bool) (oA:Option Addr) (oa oc:Nat) (oB:Option Addr) (od oe:Nat) (oX:Option Addr) (ol oq:Nat) (nk nv:Int) (ns:ByteArray) (nn:Bool) (nA:Option Addr) (na nc:Nat) (nB:Option Addr) (nd ne:Nat) (nX:Option Addr) (nl nz:Nat)
 (hold:∀ q u,[(Value.bool ob),(Value.int .i64 ok),(Value.int .i64 ov),(Value.string os),(Value.bool on),(Value.slice oA oa oc),(Value.slice oB od oe),(Value.slice oX ol oq),(Value.slice none 0 0)][q]?=some u->xs[vi*9+q]?=some u) (hm:m<=1000000) (w:World) (hB:B<=w.heap.size) (hS:dC nm w B h G c tv xs m ys) (hU:wK och w U h N M st)
 (hoc:och=true->nk=5->∀ W,Below w.heap.size w W->Calls Tryz.prog 112 #[.pointer (some ⟨h,0,none⟩),.int .i64 (vi:Int),.agg #[.int .i64 nk,.int .i64 nv,.string ns,.bool nn,.slice nA na nc,.slice nB nd ne,.slice nX nl nz]] W fun e W'=>e=.returned (.bool ocr)/\Below W.heap.size W W'):
 Calls Tryz.prog 83 #[.pointer (some ⟨U,0,none⟩),.int .i64 (vi:Int),.agg #[.int .i64 nk,.int .i64 nv,.string ns,.bool nn,.slice nA na nc,.slice nB nd ne,.slice nX nl nz]] w fun e w'=>(och&&decide (nk=5)&&ocr)=true/\e=.returned (.bool false)/\Below w.heap.size w w'\/(och&&decide (nk=5)&&ocr)=false/\e=.returned (.bool true)/\(∃ tv',dC nm w' B h G c tv' (iS xs vi (.bool true) (.int .i64 nk) (.int .i64 nv) (.string ns) (.bool nn) (.slice nA na nc) (.slice nB nd ne) (.slice nX nl nz) (.slice none 0 0)) (m+1) (ys++[Value.int .i64 (vi:Int),(Value.bool ob),(Value.int .i64 ok),(Value.int .i64 ov),(Value.string os),(Value.bool on),(Value.slice oA oa oc),(Value.slice oB od oe),(Value.slice oX ol oq),(Value.slice none 0 0)]))/\ar [some 95,some 98,some 130] w w'/\Below B w w':=by
 have HB:=zH hB;have HS0:=zH hS;have HU0:Hid (af w U 106 #[.pointer (some ⟨h,0,none⟩),.bool och,N,M,.slice none 0 0,st]):=hU;have HOLD:=zH hold;have HBT:=zH (af.new w 27 #[.int .i64 nk,.int .i64 nv,.string ns,.bool nn,.slice nA na nc,.slice nB nd ne,.slice nX nl nz]);have HBW:=zH (I w (.cells #[.int .i64 nk,.int .i64 nv,.string ns,.bool nn,.slice nA na nc,.slice nB nd ne,.slice nX nl nz] 27));have u0:=(HU0.out.to HBW.out).cell 0;have u1:=(HU0.out.to HBW.out).cell 1;have b0:=(HS0.out.below HBW.out).blk.cell 0;simp only[L3]at u0 u1 b0;have g8:(w.alloc (.cells #[.int .i64 nk,.int .i64 nv,.string ns,.bool nn,.slice nA na nc,.slice nB nd ne,.slice nX nl nz] 27)).cell? ⟨G,vi*9+8,none⟩=some (.slice none 0 0):=(HS0.out.below HBW.out).cell (HOLD.out 8 _ rfl);have hi1:(0:Int)<=(vi:Int):=by omega
 have hi2:(vi:Int)<(nm:Int):=by omega
 have HOC:=zH hoc;clear hB hS hU hold hoc;go_enter Tryz.func83,Tryz.ntmps83
 go_upto_region 1 with fail
 go_cut [24] (fun s24 wx=>∃ y0:World,y0=wx/\s24=.bool (och&&decide (nk=5)&&ocr)/\Hid (Below w.heap.size w y0)/\Hid (af y0 w.heap.size 27 #[.int .i64 nk,.int .i64 nv,.string ns,.bool nn,.slice nA na nc,.slice nB nd ne,.slice nX nl nz]))
 case first=>
  by_cases hk5:nk=5
  ·subst hk5;cases och with
   |false=>
    go_wp2_with fail
    go_quiet (fail)
    go_wp2_with fail;generalize hy0:World.drewN _ _=y0;have HY:Hid (Below w.heap.size w y0):=by rw[<-hy0];exact aF HBW.out _
    have HTY:Hid (af y0 w.heap.size 27 #[.int .i64 5,.int .i64 nv,.string ns,.bool nn,.slice nA na nc,.slice nB nd ne,.slice nX nl nz]):=by rw[<-hy0];exact HBT.out
    clear hy0
    go_meet
    case rel=>exact⟨y0,rfl,by simp,HY,HTY⟩
   |true=>
    go_wp2_with fail;have HSO:Hid (∀ W,Below w.heap.size w W->af W w.heap.size 27 #[.int .i64 5,.int .i64 nv,.string ns,.bool nn,.slice nA na nc,.slice nB nd ne,.slice nX nl nz]->(W.cell? ⟨U,0,none⟩=some (.pointer (some ⟨h,0,none⟩))/\W.cell? ⟨U,1,none⟩=some (.bool true)/\W.cell? ⟨w.heap.size,0,none⟩=some (.int .i64 5)/\W.cell? ⟨w.heap.size,1,none⟩=some (.int .i64 nv)/\W.cell? ⟨w.heap.size,2,none⟩=some (.string ns)/\W.cell? ⟨w.heap.size,3,none⟩=some (.bool nn)/\W.cell? ⟨w.heap.size,4,none⟩=some (.slice nA na nc)/\W.cell? ⟨w.heap.size,5,none⟩=some (.slice nB nd ne)/\W.cell? ⟨w.heap.size,6,none⟩=some (.slice nX nl nz))):=fun W h1 h2=>⟨(HU0.out.to h1).cell 0,(HU0.out.to h1).cell 1,h2.cell 0,h2.cell 1,h2.cell 2,h2.cell 3,h2.cell 4,h2.cell 5,h2.cell 6⟩;have HCO:Hid (Calls Tryz.prog 112 #[.pointer (some ⟨h,0,none⟩),.int .i64 (vi:Int),.agg #[.int .i64 5,.int .i64 nv,.string ns,.bool nn,.slice nA na nc,.slice nB nd ne,.slice nX nl nz]] (w.alloc (.cells #[.int .i64 5,.int .i64 nv,.string ns,.bool nn,.slice nA na nc,.slice nB nd ne,.slice nX nl nz] 27)).drew fun e w'=>e=.returned (.bool ocr)/\Hid (Below w.heap.size w w'/\af w' w.heap.size 27 #[.int .i64 5,.int .i64 nv,.string ns,.bool nn,.slice nA na nc,.slice nB nd ne,.slice nX nl nz])/\(w'.cell? ⟨U,0,none⟩=some (.pointer (some ⟨h,0,none⟩))/\w'.cell? ⟨U,1,none⟩=some (.bool true)/\w'.cell? ⟨w.heap.size,0,none⟩=some (.int .i64 5)/\w'.cell? ⟨w.heap.size,1,none⟩=some (.int .i64 nv)/\w'.cell? ⟨w.heap.size,2,none⟩=some (.string ns)/\w'.cell? ⟨w.heap.size,3,none⟩=some (.bool nn)/\w'.cell? ⟨w.heap.size,4,none⟩=some (.slice nA na nc)/\w'.cell? ⟨w.heap.size,5,none⟩=some (.slice nB nd ne)/\w'.cell? ⟨w.heap.size,6,none⟩=some (.slice nX nl nz))):=by
     refine (HOC.out (by trivial) (by trivial) _ HBW.out.drew).mono ?_;rintro e w' ⟨rfl,hb⟩;have h1:=HBW.out.drew.trans (hb.mono HBW.out.drew.size);have h2:=HBT.out.drew.to hb;exact⟨rfl,⟨h1,h2⟩,HSO.out w' h1 h2⟩
    have hS1:=HSO.out _ HBW.out.drew HBT.out.drew;clear u0 u1 b0 g8
    go_region_held3 (fun w'=>w'.cell? ⟨U,0,none⟩=some (.pointer (some ⟨h,0,none⟩))/\w'.cell? ⟨U,1,none⟩=some (.bool true)/\w'.cell? ⟨w.heap.size,0,none⟩=some (.int .i64 5)/\w'.cell? ⟨w.heap.size,1,none⟩=some (.int .i64 nv)/\w'.cell? ⟨w.heap.size,2,none⟩=some (.string ns)/\w'.cell? ⟨w.heap.size,3,none⟩=some (.bool nn)/\w'.cell? ⟨w.heap.size,4,none⟩=some (.slice nA na nc)/\w'.cell? ⟨w.heap.size,5,none⟩=some (.slice nB nd ne)/\w'.cell? ⟨w.heap.size,6,none⟩=some (.slice nX nl nz))
     (first|assumption|(go_keep;done))
     (first
      |(go_at_call 112;(with_reducible refine HCO.out.mono ?_);rintro e y1 ⟨rfl,HF,hS2⟩))
    go_wp2_with fail
    go_meet
    case rel=>exact⟨y1,rfl,by simp,HF.out.1,HF.out.2⟩
  ·have hkb:(nk==5)=false:=beq_eq_false_iff_ne.2 hk5;have hkd:decide (nk=5)=false:=decide_eq_false hk5;cases och with
   |false=>
    go_wp2_with fail
    go_quiet (fail)
    go_wp2_with fail;generalize hy0:World.drewN _ _=y0;have HY:Hid (Below w.heap.size w y0):=by rw[<-hy0];exact aF HBW.out _
    have HTY:Hid (af y0 w.heap.size 27 #[.int .i64 nk,.int .i64 nv,.string ns,.bool nn,.slice nA na nc,.slice nB nd ne,.slice nX nl nz]):=by rw[<-hy0];exact HBT.out
    clear hy0
    go_meet
    case rel=>exact⟨y0,rfl,by simp,HY,HTY⟩
   |true=>
    go_wp2_with fail
    go_quiet (fail)
    go_wp2_with fail;generalize hy0:World.drewN _ _=y0;have HY:Hid (Below w.heap.size w y0):=by rw[<-hy0];exact aF HBW.out _
    have HTY:Hid (af y0 w.heap.size 27 #[.int .i64 nk,.int .i64 nv,.string ns,.bool nn,.slice nA na nc,.slice nB nd ne,.slice nX nl nz]):=by rw[<-hy0];exact HBT.out
    clear hy0
    go_meet
    case rel=>exact⟨y0,rfl,by simp[hkd],HY,HTY⟩
 case rest=>
 obtain⟨y0,rfl,rfl,HY,HTY⟩:=hcut;clear u0 u1 b0 g8 HBT HBW HOC;cases hsel:och&&decide (nk=5)&&ocr with
 |true=>
  go_wp2_with fail;go_ret;exact .inl ⟨hsel,rfl,HY.out⟩
 |false=>
 have u0:=(HU0.out.to HY.out).cell 0;have b0:=(HS0.out.below HY.out).blk.cell 0;simp only[L3]at u0 b0;have g8:y0.cell? ⟨G,vi*9+8,none⟩=some (.slice none 0 0):=(HS0.out.below HY.out).cell (HOLD.out 8 _ rfl);go_wp2_with fail;clear u0 b0 g8;have HSY:=zH (HS0.out.below HY.out);have HUY:=zH (HU0.out.to HY.out);have HSF:Hid (∀ (W:World),af W U 106 #[.pointer (some ⟨h,0,none⟩),.bool och,N,M,.slice none 0 0,st]->af W w.heap.size 27 #[.int .i64 nk,.int .i64 nv,.string ns,.bool nn,.slice nA na nc,.slice nB nd ne,.slice nX nl nz]->W.cell? ⟨h,0,none⟩=some (.slice (some ⟨G,0,none⟩) nm c)->W.cell? ⟨G,vi*9+8,none⟩=some (.slice none 0 0)->(W.cell? ⟨U,0,none⟩=some (.pointer (some ⟨h,0,none⟩))/\W.cell? ⟨h,0,none⟩=some (.slice (some ⟨G,0,none⟩) nm c)/\W.cell? ⟨G,vi*9+8,none⟩=some (.slice none 0 0)/\W.cell? ⟨w.heap.size,0,none⟩=some (.int .i64 nk)/\W.cell? ⟨w.heap.size,1,none⟩=some (.int .i64 nv)/\W.cell? ⟨w.heap.size,2,none⟩=some (.string ns)/\W.cell? ⟨w.heap.size,3,none⟩=some (.bool nn)/\W.cell? ⟨w.heap.size,4,none⟩=some (.slice nA na nc)/\W.cell? ⟨w.heap.size,5,none⟩=some (.slice nB nd ne)/\W.cell? ⟨w.heap.size,6,none⟩=some (.slice nX nl nz))):=fun W h1 h2 h3 h4=>⟨h1.cell 0,h3,h4,h2.cell 0,h2.cell 1,h2.cell 2,h2.cell 3,h2.cell 4,h2.cell 5,h2.cell 6⟩;have HSET:Hid (Calls Tryz.prog 113 #[.pointer (some ⟨h,0,none⟩),.int .i64 (vi:Int),.agg #[.bool true,.int .i64 nk,.int .i64 nv,.string ns,.bool nn,.slice nA na nc,.slice nB nd ne,.slice nX nl nz,.slice none 0 0]] y0.drew fun e w'=>e=.returned (.tuple #[])/\Hid ((∃ tv',dC nm w' B h G c tv' (iS xs vi (.bool true) (.int .i64 nk) (.int .i64 nv) (.string ns) (.bool nn) (.slice nA na nc) (.slice nB nd ne) (.slice nX nl nz) (.slice none 0 0)) (m+1) (ys++[Value.int .i64 (vi:Int),(Value.bool ob),(Value.int .i64 ok),(Value.int .i64 ov),(Value.string os),(Value.bool on),(Value.slice oA oa oc),(Value.slice oB od oe),(Value.slice oX ol oq),(Value.slice none 0 0)]))/\ar [some 95,some 98,some 130] w w'/\Below B w w')/\(w'.cell? ⟨U,0,none⟩=some (.pointer (some ⟨h,0,none⟩))/\w'.cell? ⟨h,0,none⟩=some (.slice (some ⟨G,0,none⟩) nm c)/\w'.cell? ⟨G,vi*9+8,none⟩=some (.slice none 0 0)/\w'.cell? ⟨w.heap.size,0,none⟩=some (.int .i64 nk)/\w'.cell? ⟨w.heap.size,1,none⟩=some (.int .i64 nv)/\w'.cell? ⟨w.heap.size,2,none⟩=some (.string ns)/\w'.cell? ⟨w.heap.size,3,none⟩=some (.bool nn)/\w'.cell? ⟨w.heap.size,4,none⟩=some (.slice nA na nc)/\w'.cell? ⟨w.heap.size,5,none⟩=some (.slice nB nd ne)/\w'.cell? ⟨w.heap.size,6,none⟩=some (.slice nX nl nz))):=by
  refine (xW nm B h G c m tv xs ys vi hvi ob ok ov os on oA oa oc oB od oe oX ol oq true nk nv ns nn nA na nc nB nd ne nX nl nz HOLD.out hm y0.drew (Nat.le_trans HB.out HY.out.size) HSY.out.drew).mono ?_;rintro e w' ⟨rfl,⟨tv',h1⟩,h2,h3⟩;refine⟨rfl,⟨⟨tv',h1⟩,(ar.of_below HY.out.drew).trans h2,(HY.out.drew.mono HB.out).trans h3⟩,HSF.out _ (HUY.out.drew.frT h2 (by decide)) (HTY.out.drew.frT h2 (by decide)) (h1.blk.cell 0) (h1.cell ?_)⟩;have hl:=HS0.out.row.1;unfold iS;rw[List.getElem?_set_self (by simp only[List.length_set];omega)]
 have hS1:=HSF.out y0.drew HUY.out.drew HTY.out.drew (HSY.out.drew.blk.cell 0) (HSY.out.drew.cell (HOLD.out 8 _ rfl))
 go_region_held3 (fun w'=>w'.cell? ⟨U,0,none⟩=some (.pointer (some ⟨h,0,none⟩))/\w'.cell? ⟨h,0,none⟩=some (.slice (some ⟨G,0,none⟩) nm c)/\w'.cell? ⟨G,vi*9+8,none⟩=some (.slice none 0 0)/\w'.cell? ⟨w.heap.size,0,none⟩=some (.int .i64 nk)/\w'.cell? ⟨w.heap.size,1,none⟩=some (.int .i64 nv)/\w'.cell? ⟨w.heap.size,2,none⟩=some (.string ns)/\w'.cell? ⟨w.heap.size,3,none⟩=some (.bool nn)/\w'.cell? ⟨w.heap.size,4,none⟩=some (.slice nA na nc)/\w'.cell? ⟨w.heap.size,5,none⟩=some (.slice nB nd ne)/\w'.cell? ⟨w.heap.size,6,none⟩=some (.slice nX nl nz))
  (with_reducible assumption)
  (first
   |(go_at_call 113;(with_reducible refine HSET.out.mono ?_);rintro e y1 ⟨rfl,HF,hS2⟩))
 go_wp2_with fail;go_ret;exact .inr ⟨hsel,rfl,HF.out⟩
theorem oD (B h G c m U:Nat) (N M st tv:Value) (xs ys:List Value) (vi:Nat) (hvi:vi<2) (ob:Bool) (ok ov:Int) (os:ByteArray) (on:Bool) (oA:Option Addr) (oa oc:Nat) (oB:Option Addr) (od oe:Nat) (oX:Option Addr) (ol oq:Nat) (nk nv:Int) (ns:ByteArray) (nn:Bool) (nA:Option Addr) (na nc:Nat) (nB:Option Addr) (nd ne:Nat) (nX:Option Addr) (nl nz:Nat)
 (hold:∀ q u,[(Value.bool ob),(Value.int .i64 ok),(Value.int .i64 ov),(Value.string os),(Value.bool on),(Value.slice oA oa oc),(Value.slice oB od oe),(Value.slice oX ol oq),(Value.slice none 0 0)][q]?=some u->xs[vi*9+q]?=some u) (hm:m<=1000) (w:World) (hB:B<=w.heap.size) (hS:HS w B h G c tv xs m ys) (hU:US w U h N M st):
 Calls Tryz.prog 83 #[.pointer (some ⟨U,0,none⟩),.int .i64 (vi:Int),.agg #[.int .i64 nk,.int .i64 nv,.string ns,.bool nn,.slice nA na nc,.slice nB nd ne,.slice nX nl nz]] w fun e w'=>e=.returned (.bool true)/\(∃ tv',HS w' B h G c tv' (iS xs vi (.bool true) (.int .i64 nk) (.int .i64 nv) (.string ns) (.bool nn) (.slice nA na nc) (.slice nB nd ne) (.slice nX nl nz) (.slice none 0 0)) (m+1) (ys++[Value.int .i64 (vi:Int),(Value.bool ob),(Value.int .i64 ok),(Value.int .i64 ov),(Value.string os),(Value.bool on),(Value.slice oA oa oc),(Value.slice oB od oe),(Value.slice oX ol oq),(Value.slice none 0 0)]))/\ar [some 95,some 98,some 130] w w'/\Below B w w':=by
 refine (oE 2 B h G c m U false false N M st tv xs ys vi hvi ob ok ov os on oA oa oc oB od oe oX ol oq nk nv ns nn nA na nc nB nd ne nX nl nz hold (by omega) w hB hS hU (fun e=>by cases e)).mono ?_;rintro e w' (⟨h1,_⟩|⟨_,h2⟩)
 ·simp at h1
 ·exact h2
end Go.Proofs.YtlhojoefhannnaaGreat
