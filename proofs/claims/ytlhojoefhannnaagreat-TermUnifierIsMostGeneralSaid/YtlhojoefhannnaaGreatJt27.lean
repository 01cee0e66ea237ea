/- (*heap.unifier).step at any two terms whose variables are free: all cases. And 8 more texts. -/
import Derived.Test.YtlhojoefhannnaaGreatJt26
set_option linter.unusedVariables false
set_option linter.unusedSimpArgs false
set_option maxRecDepth 100000
set_option maxHeartbeats 51200000
namespace Go.Proofs.YtlhojoefhannnaaGreat
open Go.RowKit NumB
theorem vV (w:World) (a:Addr):(binOp .eql 109 (.pointer (some a)) (.pointer (some a))).run Tryz.prog w=.ok (.bool true) w:=by
 have hu:Tryz.prog.underlying 109=some (.pointer 27):=by kernel_rfl
 have hj:(Tryz.prog.info? 27).map (fun i=>i.size)=some 7:=by kernel_rfl
 rcases hi:Tryz.prog.info? 27 with _|j
 ·rw[hi]at hj;cases hj
 ·rw[hi]at hj;have hsz:j.size≠0:=by
   have:j.size=7:=Option.some.inj hj;omega
  have h:∀ d:Nat,(Op.equalIn (d+1) 109 (.pointer (some a)) (.pointer (some a))).run Tryz.prog w=.ok true w:=fun d=>by
   simp[Op.equalIn,run_underlying hu,sizeOf,typeInfo,hi,hsz,run_sameAddr_same]
  simp only[binOp];simp[Op.equal,Op.maxDepth,h 9999]
theorem uD (U l:Nat) (s0:ByteArray) (hl:0<l) (xv:Int) (xn:Bool) (xA:Option Addr) (xa xc:Nat) (xB:Option Addr) (xd xe xb xq:Nat) (yv:Int) (yn:Bool) (yA:Option Addr) (ya yc:Nat) (yB:Option Addr) (yd ye yq:Nat) (w:World):
 Calls Tryz.prog 58 #[.pointer (some ⟨U,0,none⟩),.agg #[.int .i64 5,.int .i64 xv,.string s0,.bool xn,.slice xA xa xc,.slice xB xd xe,.slice (some ⟨xb,0,none⟩) l xq],.agg #[.int .i64 5,.int .i64 yv,.string s0,.bool yn,.slice yA ya yc,.slice yB yd ye,.slice (some ⟨xb,0,none⟩) l yq]] w fun e w'=>e=.returned (.bool true)/\Below w.heap.size w w':=by
 have HBA:=zH (am w (.cells #[.int .i64 5,.int .i64 xv,.string s0,.bool xn,.slice xA xa xc,.slice xB xd xe,.slice (some ⟨xb,0,none⟩) l xq] 27) (.cells #[.int .i64 5,.int .i64 yv,.string s0,.bool yn,.slice yA ya yc,.slice yB yd ye,.slice (some ⟨xb,0,none⟩) l yq] 27));have HT4:Hid (af ((w.alloc (.cells #[.int .i64 5,.int .i64 xv,.string s0,.bool xn,.slice xA xa xc,.slice xB xd xe,.slice (some ⟨xb,0,none⟩) l xq] 27)).alloc (.cells #[.int .i64 5,.int .i64 yv,.string s0,.bool yn,.slice yA ya yc,.slice yB yd ye,.slice (some ⟨xb,0,none⟩) l yq] 27)) w.heap.size 27 #[.int .i64 5,.int .i64 xv,.string s0,.bool xn,.slice xA xa xc,.slice xB xd xe,.slice (some ⟨xb,0,none⟩) l xq]):=(af.new w _ _).alloc _;have HT5:Hid (af ((w.alloc (.cells #[.int .i64 5,.int .i64 xv,.string s0,.bool xn,.slice xA xa xc,.slice xB xd xe,.slice (some ⟨xb,0,none⟩) l xq] 27)).alloc (.cells #[.int .i64 5,.int .i64 yv,.string s0,.bool yn,.slice yA ya yc,.slice yB yd ye,.slice (some ⟨xb,0,none⟩) l yq] 27)) (w.heap.size+1) 27 #[.int .i64 5,.int .i64 yv,.string s0,.bool yn,.slice yA ya yc,.slice yB yd ye,.slice (some ⟨xb,0,none⟩) l yq]):=by
  have:=af.new (w.alloc (.cells #[.int .i64 5,.int .i64 xv,.string s0,.bool xn,.slice xA xa xc,.slice xB xd xe,.slice (some ⟨xb,0,none⟩) l xq] 27)) 27 #[.int .i64 5,.int .i64 yv,.string s0,.bool yn,.slice yA ya yc,.slice yB yd ye,.slice (some ⟨xb,0,none⟩) l yq];rw[show (w.alloc (.cells #[.int .i64 5,.int .i64 xv,.string s0,.bool xn,.slice xA xa xc,.slice xB xd xe,.slice (some ⟨xb,0,none⟩) l xq] 27)).heap.size=w.heap.size+1 by simp]at this;exact this
 have HS0:Hid (∀ W,Below ((w.alloc (.cells #[.int .i64 5,.int .i64 xv,.string s0,.bool xn,.slice xA xa xc,.slice xB xd xe,.slice (some ⟨xb,0,none⟩) l xq] 27)).alloc (.cells #[.int .i64 5,.int .i64 yv,.string s0,.bool yn,.slice yA ya yc,.slice yB yd ye,.slice (some ⟨xb,0,none⟩) l yq] 27)).heap.size ((w.alloc (.cells #[.int .i64 5,.int .i64 xv,.string s0,.bool xn,.slice xA xa xc,.slice xB xd xe,.slice (some ⟨xb,0,none⟩) l xq] 27)).alloc (.cells #[.int .i64 5,.int .i64 yv,.string s0,.bool yn,.slice yA ya yc,.slice yB yd ye,.slice (some ⟨xb,0,none⟩) l yq] 27)) W->(W.cell? ⟨w.heap.size,0,none⟩=some (.int .i64 5)/\W.cell? ⟨w.heap.size,1,none⟩=some (.int .i64 xv)/\W.cell? ⟨w.heap.size,2,none⟩=some (.string s0)/\W.cell? ⟨w.heap.size,3,none⟩=some (.bool xn)/\W.cell? ⟨w.heap.size,4,none⟩=some (.slice xA xa xc)/\W.cell? ⟨w.heap.size,5,none⟩=some (.slice xB xd xe)/\W.cell? ⟨w.heap.size,6,none⟩=some (.slice (some ⟨xb,0,none⟩) l xq)/\W.cell? ⟨w.heap.size+1,0,none⟩=some (.int .i64 5)/\W.cell? ⟨w.heap.size+1,1,none⟩=some (.int .i64 yv)/\W.cell? ⟨w.heap.size+1,2,none⟩=some (.string s0)/\W.cell? ⟨w.heap.size+1,3,none⟩=some (.bool yn)/\W.cell? ⟨w.heap.size+1,4,none⟩=some (.slice yA ya yc)/\W.cell? ⟨w.heap.size+1,5,none⟩=some (.slice yB yd ye)/\W.cell? ⟨w.heap.size+1,6,none⟩=some (.slice (some ⟨xb,0,none⟩) l yq))):=fun W hb=>⟨(HT4.out.to hb).cell 0,(HT4.out.to hb).cell 1,(HT4.out.to hb).cell 2,(HT4.out.to hb).cell 3,(HT4.out.to hb).cell 4,(HT4.out.to hb).cell 5,(HT4.out.to hb).cell 6,(HT5.out.to hb).cell 0,(HT5.out.to hb).cell 1,(HT5.out.to hb).cell 2,(HT5.out.to hb).cell 3,(HT5.out.to hb).cell 4,(HT5.out.to hb).cell 5,(HT5.out.to hb).cell 6⟩;have hs0:=HS0.out _ (Below.refl _ _).drew;have HAx:Hid (∀ W,Below ((w.alloc (.cells #[.int .i64 5,.int .i64 xv,.string s0,.bool xn,.slice xA xa xc,.slice xB xd xe,.slice (some ⟨xb,0,none⟩) l xq] 27)).alloc (.cells #[.int .i64 5,.int .i64 yv,.string s0,.bool yn,.slice yA ya yc,.slice yB yd ye,.slice (some ⟨xb,0,none⟩) l yq] 27)).heap.size ((w.alloc (.cells #[.int .i64 5,.int .i64 xv,.string s0,.bool xn,.slice xA xa xc,.slice xB xd xe,.slice (some ⟨xb,0,none⟩) l xq] 27)).alloc (.cells #[.int .i64 5,.int .i64 yv,.string s0,.bool yn,.slice yA ya yc,.slice yB yd ye,.slice (some ⟨xb,0,none⟩) l yq] 27)) W->Calls Tryz.prog 63 #[.agg #[.int .i64 5,.int .i64 xv,.string s0,.bool xn,.slice xA xa xc,.slice xB xd xe,.slice (some ⟨xb,0,none⟩) l xq]] W fun e w'=>e=.returned (.pointer (some ⟨xb,0,none⟩))/\Hid (Below ((w.alloc (.cells #[.int .i64 5,.int .i64 xv,.string s0,.bool xn,.slice xA xa xc,.slice xB xd xe,.slice (some ⟨xb,0,none⟩) l xq] 27)).alloc (.cells #[.int .i64 5,.int .i64 yv,.string s0,.bool yn,.slice yA ya yc,.slice yB yd ye,.slice (some ⟨xb,0,none⟩) l yq] 27)).heap.size ((w.alloc (.cells #[.int .i64 5,.int .i64 xv,.string s0,.bool xn,.slice xA xa xc,.slice xB xd xe,.slice (some ⟨xb,0,none⟩) l xq] 27)).alloc (.cells #[.int .i64 5,.int .i64 yv,.string s0,.bool yn,.slice yA ya yc,.slice yB yd ye,.slice (some ⟨xb,0,none⟩) l yq] 27)) w')):=fun W hW=>by
  refine (cQ 5 xv s0 xn xA xa xc xB xd xe xb 0 l xq hl W).mono ?_;rintro e w' ⟨rfl,hb⟩;exact⟨rfl,hW.trans (hb.mono hW.size)⟩
 have HAy:Hid (∀ W,Below ((w.alloc (.cells #[.int .i64 5,.int .i64 xv,.string s0,.bool xn,.slice xA xa xc,.slice xB xd xe,.slice (some ⟨xb,0,none⟩) l xq] 27)).alloc (.cells #[.int .i64 5,.int .i64 yv,.string s0,.bool yn,.slice yA ya yc,.slice yB yd ye,.slice (some ⟨xb,0,none⟩) l yq] 27)).heap.size ((w.alloc (.cells #[.int .i64 5,.int .i64 xv,.string s0,.bool xn,.slice xA xa xc,.slice xB xd xe,.slice (some ⟨xb,0,none⟩) l xq] 27)).alloc (.cells #[.int .i64 5,.int .i64 yv,.string s0,.bool yn,.slice yA ya yc,.slice yB yd ye,.slice (some ⟨xb,0,none⟩) l yq] 27)) W->Calls Tryz.prog 63 #[.agg #[.int .i64 5,.int .i64 yv,.string s0,.bool yn,.slice yA ya yc,.slice yB yd ye,.slice (some ⟨xb,0,none⟩) l yq]] W fun e w'=>e=.returned (.pointer (some ⟨xb,0,none⟩))/\Hid (Below ((w.alloc (.cells #[.int .i64 5,.int .i64 xv,.string s0,.bool xn,.slice xA xa xc,.slice xB xd xe,.slice (some ⟨xb,0,none⟩) l xq] 27)).alloc (.cells #[.int .i64 5,.int .i64 yv,.string s0,.bool yn,.slice yA ya yc,.slice yB yd ye,.slice (some ⟨xb,0,none⟩) l yq] 27)).heap.size ((w.alloc (.cells #[.int .i64 5,.int .i64 xv,.string s0,.bool xn,.slice xA xa xc,.slice xB xd xe,.slice (some ⟨xb,0,none⟩) l xq] 27)).alloc (.cells #[.int .i64 5,.int .i64 yv,.string s0,.bool yn,.slice yA ya yc,.slice yB yd ye,.slice (some ⟨xb,0,none⟩) l yq] 27)) w')):=fun W hW=>by
  refine (cQ 5 yv s0 yn yA ya yc yB yd ye xb 0 l yq hl W).mono ?_;rintro e w' ⟨rfl,hb⟩;exact⟨rfl,hW.trans (hb.mono hW.size)⟩
 have heq:=fun W:World=>vV W ⟨xb,0,none⟩;have hd:Below ((w.alloc (.cells #[.int .i64 5,.int .i64 xv,.string s0,.bool xn,.slice xA xa xc,.slice xB xd xe,.slice (some ⟨xb,0,none⟩) l xq] 27)).alloc (.cells #[.int .i64 5,.int .i64 yv,.string s0,.bool yn,.slice yA ya yc,.slice yB yd ye,.slice (some ⟨xb,0,none⟩) l yq] 27)).heap.size ((w.alloc (.cells #[.int .i64 5,.int .i64 xv,.string s0,.bool xn,.slice xA xa xc,.slice xB xd xe,.slice (some ⟨xb,0,none⟩) l xq] 27)).alloc (.cells #[.int .i64 5,.int .i64 yv,.string s0,.bool yn,.slice yA ya yc,.slice yB yd ye,.slice (some ⟨xb,0,none⟩) l yq] 27)) ((w.alloc (.cells #[.int .i64 5,.int .i64 xv,.string s0,.bool xn,.slice xA xa xc,.slice xB xd xe,.slice (some ⟨xb,0,none⟩) l xq] 27)).alloc (.cells #[.int .i64 5,.int .i64 yv,.string s0,.bool yn,.slice yA ya yc,.slice yB yd ye,.slice (some ⟨xb,0,none⟩) l yq] 27)).drew:=(Below.refl _ _).drew;go_enter Tryz.func58,Tryz.ntmps58;go_wp2_with fail;refine wp_region_held_drew (S:=fun w'=>w'.cell? ⟨w.heap.size,0,none⟩=some (.int .i64 5)/\w'.cell? ⟨w.heap.size,1,none⟩=some (.int .i64 xv)/\w'.cell? ⟨w.heap.size,2,none⟩=some (.string s0)/\w'.cell? ⟨w.heap.size,3,none⟩=some (.bool xn)/\w'.cell? ⟨w.heap.size,4,none⟩=some (.slice xA xa xc)/\w'.cell? ⟨w.heap.size,5,none⟩=some (.slice xB xd xe)/\w'.cell? ⟨w.heap.size,6,none⟩=some (.slice (some ⟨xb,0,none⟩) l xq)/\w'.cell? ⟨w.heap.size+1,0,none⟩=some (.int .i64 5)/\w'.cell? ⟨w.heap.size+1,1,none⟩=some (.int .i64 yv)/\w'.cell? ⟨w.heap.size+1,2,none⟩=some (.string s0)/\w'.cell? ⟨w.heap.size+1,3,none⟩=some (.bool yn)/\w'.cell? ⟨w.heap.size+1,4,none⟩=some (.slice yA ya yc)/\w'.cell? ⟨w.heap.size+1,5,none⟩=some (.slice yB yd ye)/\w'.cell? ⟨w.heap.size+1,6,none⟩=some (.slice (some ⟨xb,0,none⟩) l yq)) (by kernel_rfl) hs0 (fun hHeld=>?_)
 (refine zT 0 ?_;try simp only[Act.put,L1,L2])
 (refine zT 2 ?_;try simp only[Act.put,L1,L2])
 (refine zR 1 fun K hK=>?_)
 go_simp;refine (HAx.out _ hd).mono ?_;rintro e y1 ⟨rfl,h1⟩;refine hK.out _ _ (HS0.out _ h1.out) (fun hHeld=>?_);clear hK K
 (try simp only[Act.put,L1,L2])
 (refine zR 3 fun K hK=>?_)
 go_simp;refine (HAy.out _ h1.out).mono ?_;rintro e y2 ⟨rfl,h2⟩;refine hK.out _ _ (HS0.out _ h2.out) (fun hHeld=>?_);clear hK K
 (try simp only[Act.put,L1,L2])
 (refine zT 4 ?_;try simp only[Act.put,L1,L2])
 (refine zT 5 ?_;try simp only[Act.put,L1,L2])
 (refine zS 6 ?_;try simp only[Act.put,L1,L2])
 (refine zS 7 ?_;try simp only[Act.put,L1,L2])
 (refine zS 8 ?_;try simp only[Act.put,L1,L2])
 (refine zS 9 ?_;try simp only[Act.put,L1,L2])
 (refine zT 10 ?_;try simp only[Act.put,L1,L2])
 (refine zT 11 ?_;try simp only[Act.put,L1,L2])
 (refine wpAnyH_done (by kernel_rfl) ?_ _)
 go_wp2_with fail;go_ret;exact⟨rfl,HBA.out.trans (h2.out.mono HBA.out.size)⟩
theorem iI.push {P:Nat->Prop} {f:Nat->Option Tm} {w:World} {zs:List Value} {S:List (Tm×Tm)} (h:iI P f w zs S) {args args2:List Tm} (hl:args.length=args2.length) {cs cs2:Nat->List Value} (h1:∀ i (hi:i<args.length),cw P f w args[i] (cs i)) (h2:∀ i (hi:i<args2.length),cw P f w args2[i] (cs2 i)):
 ∀ d,d<=args.length->iI P f w (zs++rp (fun j=>cs j++cs2 j) args.length (args.length-d)) ((args.zip args2).drop (args.length-d)++S):=by
 intro d
 induction d with
 |zero=>
  intro _;rw[Nat.sub_zero,List.drop_eq_nil_of_le (by rw[List.length_zip];omega)];have:rp (fun j=>cs j++cs2 j) args.length args.length=[]:=by unfold rp;simp
  rw[this,List.append_nil];exact h
 |succ d ih=>
  intro hd;have h3:=ih (by omega);have hg:args.length-(d+1)<args.length:=by omega
  have e:args.length-d=args.length-(d+1)+1:=by omega
  rw[e]at h3;generalize args.length-(d+1)=g at*;rw[iA _ hg,List.drop_eq_getElem_cons (by rw[List.length_zip];omega),List.getElem_zip,<-List.append_assoc];exact .cons h3 (h1 g hg) (h2 g (by omega))
theorem iI.len {P:Nat->Prop} {f:Nat->Option Tm} {w:World} {zs:List Value} {S:List (Tm×Tm)} (h:iI P f w zs S):zs.length=S.length*14:=by
 induction h with
 |nil=>rfl
 |cons _ ha hb ih=>rw[List.length_append,List.length_append,ih,ha.tc.len,hb.tc.len,List.length_cons];omega
theorem UV.of_pn {och:Bool} {nm B h U G c:Nat} {f:Nat->Option Tm} {L:List Tm} {W0:World} {b:Int->Option Tm} {S Mt:List (Tm×Tm)} {w:World} {X Y xarr yarr:Array Value} {xb yb:Nat} {N M st:Value} {Mt' S':List (Tm×Tm)} {zs:List Value} {w':World} (g:UV och nm B h U G c f L W0 b S Mt w) (q:PN och B h U f L X Y xarr yarr xb yb w N M st Mt' S'.length zs w') (hz:iI (PT dQ W0) f w' zs S'):UV och nm B h U G c f L W0 b S' Mt' w':=by
 obtain⟨⟨_,_,_,tv,xs,ys,_,m,h1,h2,h3,_,_,_,_⟩,a1,a2,a3,a4,a5⟩:=g;exact⟨⟨N,M,st,tv,xs,ys,zs,m,h1.frT q.fr (by decide) (by decide) (by decide),h2,h3.stay (a1.of_fr (q.fr.mono (by decide)) q.be.size),q.u,q.nm,q.row,hz⟩,a1.trans (a1.of_fr (q.fr.mono (by decide)) q.be.size),a2.trans (q.fr.mono (by decide)),a3.trans q.be,a4,q.sz⟩
theorem nN {och:Bool} {nm B h U G c:Nat} {f:Nat->Option Tm} {L:List Tm} {W0:World} {b:Int->Option Tm} {S Mt:List (Tm×Tm)} {w:World} (hU:lm nm L) (g:UV och nm B h U G c f L W0 b S Mt w) {x y:Tm} {cx cy:List Value} (hx:cw (PT dQ W0) f w x cx) (hy:cw (PT dQ W0) f w y cy) (hxL:x∈L) (hyL:y∈L) (hnx:∀ u,x≠.var u) (hax:x.args≠[]) (hh:x.hd y=true) (hS:S.length<=100000000000):
 Calls Tryz.prog 58 #[.pointer (some ⟨U,0,none⟩),.agg cx.toArray,.agg cy.toArray] w fun e w'=>e=.returned (.bool true)/\rU och nm B h U G c f L W0 b S Mt x y w':=by
 have fx:=(hU.1.2 _ hxL).1;have hx0:=hx;have hy0:=hy;cases hx with
 |mk k v s n args A C Ar cap cs hk hv hs hA hC hn hcap hm hr ha=>
 cases hy with
 |mk k2 v2 s2 n2 args2 A2 C2 Ar2 cap2 cs2 hk2 hv2 hs2 hA2 hC2 hn2 hcap2 hm2 hr2 ha2=>
 have hh':=hh;rw[yK,decide_eq_true_eq]at hh';obtain⟨rfl,hs',hl,_⟩:=hh';obtain rfl:=cJ hs';have hne:args≠[]:=hax;have hl0:0<args.length:=List.length_pos_iff.2 hne;have hk5:k=5:=Classical.byContradiction fun e=>hne (eL fx e);subst hk5;have hl32:args.length<=100:=by
  have h:=fx;rw[Tm.fine]at h;rcases aj h.2.1 with ⟨_,_,_,_,h⟩|⟨_,_,_,_,h|h|h|h⟩<;>omega
 obtain⟨xb,xarr,rfl,hPx,hfx,hbx,hcx⟩:=hr hl0;obtain⟨yb,yarr,rfl,hPy,hfy,hby,hcy⟩:=hr2 (by omega);obtain⟨A_,q1,rfl,-⟩:=hA;obtain⟨C_,q2,rfl,-⟩:=hC;obtain⟨A2_,q3,rfl,-⟩:=hA2;obtain⟨C2_,q4,rfl,-⟩:=hC2;by_cases hxy:xb=yb
 ·subst hxy;have e:(Tm.mk 5 v s n args)=.mk 5 v2 s n2 args2:=by
   rw[hfx]at hfy;exact Option.some.inj hfy
  rw[<-hl];refine (uD U args.length s hl0 v n.neg A_ n.num.length q1 C_ n.den.length q2 xb cap v2 n2.neg A2_ n2.num.length q3 C2_ n2.den.length q4 cap2 w).mono ?_;rintro e' w' ⟨rfl,hb⟩;exact⟨rfl,rU.same g hb fun _=>.inl e⟩
 ·obtain⟨⟨N,M,st,tv,xs,ys,zs,m,h1,h2,h3,h4,h5,h6,h7⟩,a1,a2,a3,a4,a5⟩:=g;have g:UV och nm B h U G c f L W0 b S Mt w:=⟨⟨N,M,st,tv,xs,ys,zs,m,h1,h2,h3,h4,h5,h6,h7⟩,a1,a2,a3,a4,a5⟩;rw[<-hl]at hy0 ⊢;have hpr:∀ j,j<args.length->∃ (fk fv:Int) (fs:ByteArray) (fn:Bool) (fA:Option Addr) (fa fc:Nat) (fB:Option Addr) (fd fe:Nat) (fX:Option Addr) (fl fq:Nat) (mk mv:Int) (ms:ByteArray) (mn:Bool) (mA:Option Addr) (ma mc:Nat) (mB:Option Addr) (md me:Nat) (mX:Option Addr) (ml mq:Nat),cs j++cs2 j=[(Value.int .i64 fk),(Value.int .i64 fv),(Value.string fs),(Value.bool fn),(Value.slice fA fa fc),(Value.slice fB fd fe),(Value.slice fX fl fq),(Value.int .i64 mk),(Value.int .i64 mv),(Value.string ms),(Value.bool mn),(Value.slice mA ma mc),(Value.slice mB md me),(Value.slice mX ml mq)]/\(∀ q,q<7->xarr[0+j*7+q]?=[(Value.int .i64 fk),(Value.int .i64 fv),(Value.string fs),(Value.bool fn),(Value.slice fA fa fc),(Value.slice fB fd fe),(Value.slice fX fl fq),(Value.int .i64 mk),(Value.int .i64 mv),(Value.string ms),(Value.bool mn),(Value.slice mA ma mc),(Value.slice mB md me),(Value.slice mX ml mq)][q]?)/\∀ q,q<7->yarr[0+j*7+q]?=[(Value.int .i64 fk),(Value.int .i64 fv),(Value.string fs),(Value.bool fn),(Value.slice fA fa fc),(Value.slice fB fd fe),(Value.slice fX fl fq),(Value.int .i64 mk),(Value.int .i64 mv),(Value.string ms),(Value.bool mn),(Value.slice mA ma mc),(Value.slice mB md me),(Value.slice mX ml mq)][7+q]?:=fun j hj=>by
   obtain⟨fk,fv,fs,fn,fA,fa,fc,fB,fd,fe,fX,fl,fq,e1⟩:=(ha j hj).form;obtain⟨mk,mv,ms,mn,mA,ma,mc,mB,md,me,mX,ml,mq,e2⟩:=(ha2 j (by omega)).form;refine⟨fk,fv,fs,fn,fA,fa,fc,fB,fd,fe,fX,fl,fq,mk,mv,ms,mn,mA,ma,mc,mB,md,me,mX,ml,mq,by rw[e1,e2];rfl,fun q hq=>?_,fun q hq=>?_⟩
   ·rw[Nat.zero_add,hcx j hj q hq,e1];have:q=0\/q=1\/q=2\/q=3\/q=4\/q=5\/q=6:=by omega
    rcases this with rfl|rfl|rfl|rfl|rfl|rfl|rfl<;>rfl
   ·rw[Nat.zero_add,hcy j (by omega) q hq,e2];have:q=0\/q=1\/q=2\/q=3\/q=4\/q=5\/q=6:=by omega
    rcases this with rfl|rfl|rfl|rfl|rfl|rfl|rfl<;>rfl
  refine (vW och B h U S.length args.length f L N M st Mt (tY Mt (.mk 5 v s n args) (.mk 5 v2 s n2 args2)) (pI Mt (.mk 5 v s n args) (.mk 5 v2 s n2 args2)) zs s hl0 hl32 v n.neg A_ n.num.length q1 C_ n.den.length q2 xb 0 cap xarr v2 n2.neg A2_ n2.num.length q3 C2_ n2.den.length q4 yb 0 cap2 yarr (fun j=>cs j++cs2 j) hpr hS w a4 hbx hby hxy h4 h5 h6 fun W gW=>?_).mono ?_
  ·have hst:bU (PT dQ W0) w W:=a1.of_fr (gW.fr.mono (by decide)) gW.be.size;refine (uS hU.1 (a1.trans hst) (hx0.stay hst) (hy0.stay hst) hxL hyL a4 gW.u gW.nm).mono ?_;rintro e w' ⟨N',M',rfl,hu,hn,hf,hb⟩;exact⟨rfl,N',M',hu,gW.x.frT hf (by decide),gW.y.frT hf (by decide),gW.xr.frT hf (by decide),gW.yr.frT hf (by decide),av gW.row hf (by decide),hn,gW.fr.trans (hf.mono (by decide)),gW.be.trans hb,Nat.le_trans gW.sz hb.size⟩
  ·rintro e w' ⟨rfl,p1,p2⟩;refine⟨rfl,?_⟩;cases hmt:pI Mt (.mk 5 v s n args) (.mk 5 v2 s n2 args2) with
   |true=>
    obtain⟨N',M',q⟩:=p1 hmt;unfold tY at q;rw[if_pos hmt]at q;exact⟨b,[],Mt,g.of_pn q (h7.stay (a1.of_fr (q.fr.mono (by decide)) q.be.size)),fun _=>.inl ⟨rfl,rfl,rfl,.inr (.inl (iu.1 hmt))⟩⟩
   |false=>
    obtain⟨N',M',st',q⟩:=p2 hmt;unfold tY at q;rw[if_neg (by rw[hmt];decide)]at q;have hst:bU (PT dQ W0) w w':=a1.of_fr (q.fr.mono (by decide)) q.be.size;have hz:=(h7.stay hst).push hl (fun i hi=>(ha i hi).stay hst) (fun i hi=>(ha2 i hi).stay hst) args.length (Nat.le_refl _);rw[Nat.sub_self,List.drop_zero]at hz;have hlen:S.length+args.length=(args.zip args2++S).length:=by rw[List.length_append,List.length_zip];omega
    rw[hlen]at q;exact⟨b,args.zip args2,_,g.of_pn q hz,fun _=>.inr (.inr ⟨hnx,hh,fun e=>(by rw[iu.2 e]at hmt;cases hmt),rfl,rfl,rfl⟩)⟩
theorem yu {och:Bool} {nm B h U G c:Nat} {f:Nat->Option Tm} {L:List Tm} {W0:World} {b:Int->Option Tm} {S Mt:List (Tm×Tm)} {w:World} {Bl:List Nat} (hU:lm nm L) (hnm:nm<=1000000) (hW:rQ L b) (hF:∀ c x,f c=some x->c∈Bl) (hBl:Bl.length<=1000000) (g:UV och nm B h U G c f L W0 b S Mt w) {x y:Tm} {cx cy:List Value} (hx:cw (PT dQ W0) f w x cx) (hy:cw (PT dQ W0) f w y cy) (hxL:x∈L) (hyL:y∈L) (hfx:∀ v,x=.var v->b v=none) (hfy:∀ v,y=.var v->b v=none) (hS:S.length<=100000000000):
 Calls Tryz.prog 58 #[.pointer (some ⟨U,0,none⟩),.agg cx.toArray,.agg cy.toArray] w fun e w'=>e=.returned (.bool (cU och b x y))/\rU och nm B h U G c f L W0 b S Mt x y w':=by
 have var_of:∀ {x:Tm} {cx:List Value},cw (PT dQ W0) f w x cx->x∈L->(∃ v,x=.var v)->∃ (i:Nat) (xs:ByteArray) (xn:Bool) (xA:Option Addr) (xa xc:Nat) (xB:Option Addr) (xd xe:Nat) (xX:Option Addr) (xl xq:Nat),i<nm/\x=.var i/\cx=[.int .i64 1,.int .i64 (i:Int),.string xs,.bool xn,.slice xA xa xc,.slice xB xd xe,.slice xX xl xq]:=fun {x cx} hx hxL ⟨v,e⟩=>by
  obtain⟨xk,xv,xs,xn,xA,xa,xc,xB,xd,xe,xX,xl,xq,rfl⟩:=hx.form;obtain⟨k_,v_,s_,n_,args,A_,B_,Ar,cp,cx,hxx,hcs,-⟩:=hx.inv;simp only[List.cons.injEq,Value.int.injEq,true_and]at hcs;obtain⟨rfl,rfl,-⟩:=hcs;have h1:=bE (hxx.symm.trans e);obtain⟨h2,i,rfl,h3⟩:=hU.var hxL hxx h1.1;obtain rfl:=h1.1;exact⟨i,xs,xn,xA,xa,xc,xB,xd,xe,xX,xl,xq,h3,h2,rfl⟩
 by_cases vx:∃ v,x=.var v
 ·obtain⟨i,xs,xn,xA,xa,xc,xB,xd,xe,xX,xl,xq,hi,rfl,rfl⟩:=var_of hx hxL vx;by_cases vy:∃ v,y=.var v
  ·obtain⟨j,ys,yn,yA,ya,yc,yB,yd,ye,yX,yl,yq,hj,rfl,rfl⟩:=var_of hy hyL vy;exact ws hU hnm hW hF hBl g hi hj (hfx _ rfl) (hfy _ rfl) hxL hyL xs xn xA xa xc xB xd xe xX xl xq ys yn yA ya yc yB yd ye yX yl yq
  ·exact uC hU hnm hW hF hBl g hi (hfx _ rfl) hy hyL (fun u e=>vy ⟨u,e⟩) xs xn xA xa xc xB xd xe xX xl xq
 ·by_cases vy:∃ v,y=.var v
  ·obtain⟨j,ys,yn,yA,ya,yc,yB,yd,ye,yX,yl,yq,hj,rfl,rfl⟩:=var_of hy hyL vy;exact rG hU hnm hW hF hBl g hj (hfy _ rfl) hx hxL (fun u e=>vx ⟨u,e⟩) ys yn yA ya yc yB yd ye yX yl yq
  ·have hnx:∀ u,x≠.var u:=fun u e=>vx ⟨u,e⟩;have hny:∀ u,y≠.var u:=fun u e=>vy ⟨u,e⟩;by_cases hfl:x.args=[]\/x.hd y=false
   ·exact uz hU g hx hy hxL hyL hnx hny hfl
   ·have hh:x.hd y=true:=by
     cases h:x.hd y with
     |true=>rfl
     |false=>exact absurd (.inr h) hfl
    rw[ql (hU.1.2 _ hxL).1 (hU.1.2 _ hyL).1 hnx hny,hh];exact nN hU g hx hy hxL hyL hnx (fun h=>hfl (.inl h)) hh hS
inductive mN (och:Bool) (E:Tm×Tm):(Int->Option Tm)->List (Tm×Tm)->List (Tm×Tm)->Prop
 |start:mN och E (fun _=>none) [E] []
 |step {b b':Int->Option Tm} {S Mt S' Mt':List (Tm×Tm)} (h:mN och E b S Mt) (s:Ap och b S Mt b' S' Mt'):mN och E b' S' Mt'
theorem mN.inv {E:Tm×Tm} {b:Int->Option Tm} {S Mt:List (Tm×Tm)} (h:mN true E b S Mt):cI E b S Mt:=by
 induction h with
 |start=>exact .start E
 |step _ s ih=>exact ih.stp s
structure jw (L:List Tm) (b:Int->Option Tm) (S Mt:List (Tm×Tm)):Prop where
 low:rQ L b
 stk:∀ p∈S,p.1∈L/\p.2∈L
 met:∀ p∈Mt,p.1∈L/\p.2∈L
 nd:Mt.Nodup
theorem jw.start {L:List Tm} {x y:Tm} (hx:x∈L) (hy:y∈L):jw L (fun _=>none) [(x,y)] []:=
 ⟨fun v t h=>(by cases h),fun p hp=>by rw[List.mem_singleton]at hp;subst hp;exact⟨hx,hy⟩,fun p h=>(by cases h),List.nodup_nil⟩
theorem jw.stp {nm:Nat} {L:List Tm} (hU:lm nm L) {och:Bool} {b b':Int->Option Tm} {p x y:Tm} {q:Tm} {S Mt N Mt':List (Tm×Tm)} (h:jw L b ((p,q)::S) Mt) (hx:x∈L) (hy:y∈L) (hs:rV och b x y Mt b' N Mt'):jw L b' (N++S) Mt':=by
 have hS:∀ r∈S,r.1∈L/\r.2∈L:=fun r hr=>h.stk r (List.mem_cons_of_mem _ hr);rcases hs with ⟨rfl,rfl,rfl,_⟩|⟨v,t,hv,hd,_,hl,rfl,rfl,rfl⟩|⟨_,_,hn,rfl,rfl,rfl⟩
 ·exact⟨h.low,hS,h.met,h.nd⟩
 ·refine⟨fun u z hz=>?_,hS,h.met,h.nd⟩;by_cases e:u=v
  ·subst e;rw[qu]at hz;cases hz;refine⟨?_,hl⟩;rcases hd with ⟨_,rfl⟩|⟨rfl,_⟩
   ·exact hy
   ·exact hx
  ·rw[wD e]at hz;exact h.low u z hz
 ·refine⟨h.low,fun r hr=>?_,fun r hr=>?_,List.nodup_cons.2 ⟨hn,h.nd⟩⟩
  ·rcases List.mem_append.1 hr with hr|hr
   ·have h1:=List.of_mem_zip (a:=r.1) (b:=r.2) hr;exact⟨(hU.1.2 x hx).2.2 _ h1.1,(hU.1.2 y hy).2.2 _ h1.2⟩
   ·exact hS r hr
  ·rcases List.mem_cons.1 hr with rfl|hr
   ·exact⟨hx,hy⟩
   ·exact h.met r hr
def zi (K:List Tm):List Tm->List (Tm×Tm)
 |[]=>[]
 |a::l=>(K.map fun b=>(a,b))++zi K l
theorem sH (K:List Tm):∀ l,(zi K l).length=l.length*K.length
 |[]=>by simp[zi]
 |a::l=>by rw[zi,List.length_append,List.length_map,sH K l,List.length_cons,Nat.succ_mul];omega
theorem sI {K:List Tm} {a b:Tm} (hb:b∈K):∀ {l:List Tm},a∈l->(a,b)∈zi K l
 |[],h=>by cases h
 |c::l,h=>by
  rw[zi,List.mem_append];rcases List.mem_cons.1 h with rfl|h
  ·exact .inl (List.mem_map.2 ⟨b,hb,rfl⟩)
  ·exact .inr (sI hb h)
theorem jw.few {L:List Tm} {b:Int->Option Tm} {S Mt:List (Tm×Tm)} (h:jw L b S Mt):Mt.length<=L.length*L.length:=by
 have:=fV Mt (zi L L) h.nd fun p hp=>sI (h.met p hp).2 (h.met p hp).1
 rwa [sH]at this
def mz (L:List Tm) (S Mt:List (Tm×Tm)):Nat:=33*(L.length*L.length-Mt.length)+S.length
theorem jw.mz {nm:Nat} {L:List Tm} (hU:lm nm L) {och:Bool} {b b':Int->Option Tm} {p q x y:Tm} {S Mt N Mt':List (Tm×Tm)} (h:jw L b ((p,q)::S) Mt) (hx:x∈L) (hy:y∈L) (hs:rV och b x y Mt b' N Mt'):mz L (N++S) Mt'<Go.Proofs.YtlhojoefhannnaaGreat.mz L ((p,q)::S) Mt:=by
 have hf:=(h.stp hU hx hy hs).few;unfold Go.Proofs.YtlhojoefhannnaaGreat.mz;rw[List.length_append,List.length_cons];rcases hs with ⟨_,rfl,rfl,_⟩|⟨_,_,_,_,_,_,_,rfl,rfl⟩|⟨_,_,_,_,rfl,rfl⟩
 ·simp
 ·simp
 ·have hl:(x.args.zip y.args).length<=32:=by
   rw[List.length_zip];have fx:=(hU.1.2 x hx).1;obtain⟨k,v,s,n,args⟩:=x;rw[Tm.fine]at fx;have:args.length<=32:=by rcases aj fx.2.1 with ⟨_,_,_,_,h⟩|⟨_,_,_,_,h|h|h|h⟩<;>omega
   exact Nat.le_trans (Nat.min_le_left _ _) this
  rw[List.length_cons]at hf ⊢;omega
theorem yN {L:List Tm} (hL:L.length<=50000) {S Mt:List (Tm×Tm)} {gk:Nat} (hg:gk<=33*(L.length*L.length)+1) (h:mz L S Mt<=gk):S.length<=100000000000:=by
 have h1:L.length*L.length<=50000*50000:=Nat.mul_le_mul hL hL;unfold mz at h;omega
theorem lU {R:Nat->Prop} {g:Nat} {u:Value} {w w':World} {t:Tm} {cs:List Value} (h:cr (fun b=>R b/\some b≠u.ownBlock) w t cs) (hg:w.grownBy w' u.ownBlock) (hat:u.ownBlock=some g\/g=w.heap.size):cr (fun b=>R b/\some b≠some g) w' t cs:=by
 have h1:cr (fun b=>(R b/\some b≠u.ownBlock)/\some b≠some g) w t cs:=h.mono fun b hb hlt=>⟨hb,by
  rcases hat with e|e
  ·rw[<-e];exact hb.2
  ·intro e2;simp at e2;omega⟩
 exact (h1.to hg.size fun b hb hlt=>hg.block b hlt hb.1.2).mono fun b hb _=>⟨hb.1.1,hb.2⟩
theorem sj {α:Type} {k:Nat} (f:Nat->List α) (hk:∀ v,(f v).length=k):∀ (vs:List Nat) (j q:Nat),q<k->j<vs.length->((vs.map f).flatten)[j*k+q]?=(vs[j]?.bind fun v=>(f v)[q]?)
 |[],j,q,_,h=>absurd h (by simp)
 |v::vs,0,q,hq,_=>by
  rw[List.map_cons,List.flatten_cons,Nat.zero_mul,Nat.zero_add,List.getElem?_append_left (by rw[hk];exact hq)];rfl
 |v::vs,j+1,q,hq,h=>by
  rw[List.map_cons,List.flatten_cons,List.getElem?_append_right (by rw[hk,Nat.succ_mul];omega),hk,show (j+1)*k+q-k=j*k+q by rw[Nat.succ_mul];omega,sj f hk vs j q hq (by simpa using h)];rfl
theorem uN.at_ {nm m:Nat} {b:Int->Option Tm} {ys:List Value} (h:uN nm b m ys) {j:Nat} (hj:j<m):∃ v,v<nm/\∀ q u,(Value.int .i64 (v:Int)::zc)[q]?=some u->ys[j*10+q]?=some u:=by
 obtain⟨vs,rfl,h1,h2,rfl⟩:=h;refine⟨vs[j],(h2 _ (List.getElem_mem hj)).1,fun q u hq=>?_⟩;have hq10:q<10:=by
  have:=(List.getElem?_eq_some_iff.1 hq).1;simpa[zc] using this
 rw[sj (fun v:Nat=>Value.int .i64 (v:Int)::zc) (k:=10) (fun v=>rfl) vs j q hq10 hj,List.getElem?_eq_getElem hj];exact hq
theorem wX {nm B h G c m:Nat} {tv:Value} {xs ys:List Value} {b:Int->Option Tm} {w:World} (hS:dC nm w B h G c tv xs m ys) (hT:uN nm b m ys) (hnm:nm<=1000000) (hB:B<=w.heap.size):
 Calls Tryz.prog 60 #[.pointer (some ⟨h,0,none⟩),.int .i64 0] w fun e w'=>e=.returned (.tuple #[])/\(∃ tv',af w' h 95 #[zQ G nm c,tv',.slice none 0 0])/\ar [some 95,some 98] w w'/\Below B w w':=by
 have hmn:=hT.le;obtain⟨A,ct,rfl,hct⟩:∃ A ct,tv=.slice A m ct/\m<=ct:=by
  rcases hS.trail.2 with ⟨h,h0⟩|⟨g,cap,_,h,_,_,h1,_⟩
  ·exact⟨none,0,by rw[h,h0],by omega⟩
  ·exact⟨_,_,h,h1⟩
 have HT:=zH hT;have HL:Hid (dC nm w B h G c (.slice A m ct) xs m ys):=hS;have HB:=zH hB;have t1:=hS.blk0.cell 1;simp only[L3]at t1;have hw1:IntKind.i64.wrap ((m:Int)-1)=(m:Int)-1:=by rw[IntWalk.i64_in _ (by omega)]
 clear hS hT hB;go_enter Tryz.func60,Tryz.ntmps60;go_wp2_with fail
 go_loopg [4] m (fun gk s4 wr=>∃ z4:Int,s4=.int .i64 z4/\z4=(gk:Int)-1/\gk<=m/\Hid (∃ xs,dC nm wr B h G c (.slice A m ct) xs m ys)/\Hid (ar [some 98] w wr/\Below B w wr))
 case atStart=>exact⟨_,rfl,rfl,Nat.le_refl _,⟨_,HL.out⟩,ar.refl _ _,Below.refl _ _⟩
 case round=>
  clear t1 HL;obtain⟨z4,rfl,hz,hgm,HH,HF⟩:=hrel;obtain⟨xs,hs⟩:=HH.out;have HL:=zH hs;clear hs HH;by_cases hg:0<gk
  ·obtain⟨j,rfl⟩:∃ g,gk=g+1:=⟨gk-1,by omega⟩;obtain rfl:z4=(j:Int):=by omega
   clear hz;obtain⟨t,rfl⟩:∃ t,A=some ⟨t,0,none⟩:=by
    rcases HL.out.trail.2 with ⟨_,h⟩|⟨g,_,_,h,_⟩
    ·omega
    ·simp only[Value.slice.injEq]at h;exact⟨g,h.1⟩
   obtain⟨v,hv,hat⟩:=HT.out.at_ (j:=j) (by omega);have hce:∀ q u,(Value.int .i64 (v:Int)::zc)[q]?=some u->∀ W:World,W.ownsRow B 130 10 (.slice (some ⟨t,0,none⟩) m ct) m ys->W.cell? ⟨t,j*10+q,none⟩=some u:=fun q u hq W hr=>by
    have h1:=hat q u hq;have hl:=hr.1;have:j*10+q<ys.length:=(List.getElem?_eq_some_iff.1 h1).1;exact (hr.cellAt _ (by omega)).trans h1
   have HSC:Hid (∀ W,af W h 95 #[.slice (some ⟨G,0,none⟩) nm c,.slice (some ⟨t,0,none⟩) m ct,.slice none 0 0]->W.ownsRow B 130 10 (.slice (some ⟨t,0,none⟩) m ct) m ys->(W.cell? ⟨h,0,none⟩=some (.slice (some ⟨G,0,none⟩) nm c)/\W.cell? ⟨h,1,none⟩=some (.slice (some ⟨t,0,none⟩) m ct)/\W.cell? ⟨t,j*10,none⟩=some (.int .i64 (v:Int))/\W.cell? ⟨t,j*10+1,none⟩=some (.bool false)/\W.cell? ⟨t,j*10+2,none⟩=some (.int .i64 0)/\W.cell? ⟨t,j*10+3,none⟩=some (.int .i64 0)/\W.cell? ⟨t,j*10+4,none⟩=some (.string ⟨#[]⟩)/\W.cell? ⟨t,j*10+5,none⟩=some (.bool false)/\W.cell? ⟨t,j*10+6,none⟩=some (.slice none 0 0)/\W.cell? ⟨t,j*10+7,none⟩=some (.slice none 0 0)/\W.cell? ⟨t,j*10+8,none⟩=some (.slice none 0 0)/\W.cell? ⟨t,j*10+9,none⟩=some (.slice none 0 0))):=fun W h1 h2=>⟨h1.cell 0,h1.cell 1,hce 0 _ rfl W h2,hce 1 _ rfl W h2,hce 2 _ rfl W h2,hce 3 _ rfl W h2,hce 4 _ rfl W h2,hce 5 _ rfl W h2,hce 6 _ rfl W h2,hce 7 _ rfl W h2,hce 8 _ rfl W h2,hce 9 _ rfl W h2⟩;clear hce hat;obtain⟨hr5,hg5⟩:=sR HL.out.row v (Value.bool false) (Value.int .i64 0) (Value.int .i64 0) (Value.string ⟨#[]⟩) (Value.bool false) (Value.slice none 0 0) (Value.slice none 0 0) (Value.slice none 0 0) (Value.slice none 0 0);have hf5:=(ar.refl [some 98] wr).grown hg5 (fun g hg=>by
    obtain⟨cs,f,hc⟩:=Lib.ownsRow_kind HL.out.row g (by rw[<-hg];rfl);exact⟨cs,_,f,hc,by decide⟩)
   have hb5:Below B wr (((((((((wr.setCell ⟨G,v*9,none⟩ (.bool false)).setCell ⟨G,v*9+1,none⟩ (.int .i64 0)).setCell ⟨G,v*9+2,none⟩ (.int .i64 0)).setCell ⟨G,v*9+3,none⟩ (.string ⟨#[]⟩)).setCell ⟨G,v*9+4,none⟩ (.bool false)).setCell ⟨G,v*9+5,none⟩ (.slice none 0 0)).setCell ⟨G,v*9+6,none⟩ (.slice none 0 0)).setCell ⟨G,v*9+7,none⟩ (.slice none 0 0)).setCell ⟨G,v*9+8,none⟩ (.slice none 0 0)):=(Below.refl B wr).grown hg5 (Nat.le_trans HB.out HF.out.2.size) (fun k hk=>by
    obtain rfl:G=k:=by simpa using hk
    exact (HL.out.row.lt _ rfl).1)
   have HN:Hid (dC nm (((((((((wr.setCell ⟨G,v*9,none⟩ (.bool false)).setCell ⟨G,v*9+1,none⟩ (.int .i64 0)).setCell ⟨G,v*9+2,none⟩ (.int .i64 0)).setCell ⟨G,v*9+3,none⟩ (.string ⟨#[]⟩)).setCell ⟨G,v*9+4,none⟩ (.bool false)).setCell ⟨G,v*9+5,none⟩ (.slice none 0 0)).setCell ⟨G,v*9+6,none⟩ (.slice none 0 0)).setCell ⟨G,v*9+7,none⟩ (.slice none 0 0)).setCell ⟨G,v*9+8,none⟩ (.slice none 0 0)) B h G c (.slice (some ⟨t,0,none⟩) m ct) (iS xs v (.bool false) (.int .i64 0) (.int .i64 0) (.string ⟨#[]⟩) (.bool false) (.slice none 0 0) (.slice none 0 0) (.slice none 0 0) (.slice none 0 0)) m ys):=.of (HL.out.blk.frT hf5 (by decide)) HL.out.le hr5 (av HL.out.trail hf5 (by decide));have HFN:Hid (ar [some 98] w (((((((((wr.setCell ⟨G,v*9,none⟩ (.bool false)).setCell ⟨G,v*9+1,none⟩ (.int .i64 0)).setCell ⟨G,v*9+2,none⟩ (.int .i64 0)).setCell ⟨G,v*9+3,none⟩ (.string ⟨#[]⟩)).setCell ⟨G,v*9+4,none⟩ (.bool false)).setCell ⟨G,v*9+5,none⟩ (.slice none 0 0)).setCell ⟨G,v*9+6,none⟩ (.slice none 0 0)).setCell ⟨G,v*9+7,none⟩ (.slice none 0 0)).setCell ⟨G,v*9+8,none⟩ (.slice none 0 0)).drew/\Below B w (((((((((wr.setCell ⟨G,v*9,none⟩ (.bool false)).setCell ⟨G,v*9+1,none⟩ (.int .i64 0)).setCell ⟨G,v*9+2,none⟩ (.int .i64 0)).setCell ⟨G,v*9+3,none⟩ (.string ⟨#[]⟩)).setCell ⟨G,v*9+4,none⟩ (.bool false)).setCell ⟨G,v*9+5,none⟩ (.slice none 0 0)).setCell ⟨G,v*9+6,none⟩ (.slice none 0 0)).setCell ⟨G,v*9+7,none⟩ (.slice none 0 0)).setCell ⟨G,v*9+8,none⟩ (.slice none 0 0)).drew):=⟨(HF.out.1.trans hf5).drew,(HF.out.2.trans hb5).drew⟩;have hS0:=HSC.out wr.drew HL.out.drew.blk HL.out.drew.trail;have hS5:=HSC.out (((((((((wr.setCell ⟨G,v*9,none⟩ (.bool false)).setCell ⟨G,v*9+1,none⟩ (.int .i64 0)).setCell ⟨G,v*9+2,none⟩ (.int .i64 0)).setCell ⟨G,v*9+3,none⟩ (.string ⟨#[]⟩)).setCell ⟨G,v*9+4,none⟩ (.bool false)).setCell ⟨G,v*9+5,none⟩ (.slice none 0 0)).setCell ⟨G,v*9+6,none⟩ (.slice none 0 0)).setCell ⟨G,v*9+7,none⟩ (.slice none 0 0)).setCell ⟨G,v*9+8,none⟩ (.slice none 0 0)).drew HN.out.drew.blk HN.out.drew.trail;have hi1:(0:Int)<=(j:Int):=by omega
   have hi2:(j:Int)<(m:Int):=by omega
   have hi3:(0:Int)<=(v:Int):=by omega
   have hi4:(v:Int)<(nm:Int):=by omega
   have hne1:¬h=G:=fun e=>iV HL.out.blk HL.out.row (by decide) ⟨_,rfl,e⟩;have hne2:¬G=h:=fun e=>hne1 e.symm;have hne3:¬t=G:=fun e=>by
    obtain⟨_,_,k1⟩:=Lib.ownsRow_kind HL.out.trail t rfl;obtain⟨_,_,k2⟩:=Lib.ownsRow_kind HL.out.row G rfl;rw[e,k2]at k1;simp at k1
   have hne4:¬G=t:=fun e=>hne3 e.symm;have z0:=HL.out.row.frozenAt (v*9);have z1:=HL.out.row.frozenAt (v*9+1);have z2:=HL.out.row.frozenAt (v*9+2);have z3:=HL.out.row.frozenAt (v*9+3);have z4:=HL.out.row.frozenAt (v*9+4);have z5:=HL.out.row.frozenAt (v*9+5);have z6:=HL.out.row.frozenAt (v*9+6);have z7:=HL.out.row.frozenAt (v*9+7);have z8:=HL.out.row.frozenAt (v*9+8);have hlx:=HL.out.row.1;have hgx:∀ q,q<9->∃ u,wr.cell? ⟨G,v*9+q,none⟩=some u:=fun q hq=>by
    have:v*9+q<xs.length:=by omega
    exact⟨_,HL.out.cell (List.getElem?_eq_getElem this)⟩
   obtain⟨o0,g0⟩:=hgx 0 (by decide);obtain⟨o1,g1⟩:=hgx 1 (by decide);obtain⟨o2,g2⟩:=hgx 2 (by decide);obtain⟨o3,g3⟩:=hgx 3 (by decide);obtain⟨o4,g4⟩:=hgx 4 (by decide);obtain⟨o5,g5⟩:=hgx 5 (by decide);obtain⟨o6,g6⟩:=hgx 6 (by decide);obtain⟨o7,g7⟩:=hgx 7 (by decide);obtain⟨o8,g8⟩:=hgx 8 (by decide);rw[Nat.add_zero]at g0;clear hgx hlx hr5 hg5 hf5 hb5;go_wp2_with fail
   go_region_held3 (fun w'=>w'.cell? ⟨h,0,none⟩=some (.slice (some ⟨G,0,none⟩) nm c)/\w'.cell? ⟨h,1,none⟩=some (.slice (some ⟨t,0,none⟩) m ct)/\w'.cell? ⟨t,j*10,none⟩=some (.int .i64 (v:Int))/\w'.cell? ⟨t,j*10+1,none⟩=some (.bool false)/\w'.cell? ⟨t,j*10+2,none⟩=some (.int .i64 0)/\w'.cell? ⟨t,j*10+3,none⟩=some (.int .i64 0)/\w'.cell? ⟨t,j*10+4,none⟩=some (.string ⟨#[]⟩)/\w'.cell? ⟨t,j*10+5,none⟩=some (.bool false)/\w'.cell? ⟨t,j*10+6,none⟩=some (.slice none 0 0)/\w'.cell? ⟨t,j*10+7,none⟩=some (.slice none 0 0)/\w'.cell? ⟨t,j*10+8,none⟩=some (.slice none 0 0)/\w'.cell? ⟨t,j*10+9,none⟩=some (.slice none 0 0)) (with_reducible assumption) (fail)
   have hw2:IntKind.i64.wrap ((j:Int)-1)=(j:Int)-1:=by rw[IntWalk.i64_in _ (by omega)]
   go_wp2_with fail
   go_roundg j
   case measure=>omega
   case rel=>exact⟨_,rfl,rfl,by omega,⟨_,HN.out.drew⟩,HFN.out⟩
  ·obtain rfl:gk=0:=by omega
   have hz0:z4<0:=by omega
   have t1:=HL.out.blk0.cell 1;have z1:=HL.out.blk0.frozen 1;have hc0:(0:Int)<=(ct:Int):=by omega
   simp only[L3]at t1;have HK:=zH (HL.out.blk0.set_ 1 (.slice A 0 ct));have HFN:Hid (ar [some 95,some 98] w (wr.setCell ⟨h,1,none⟩ (.slice A 0 ct))/\Below B w (wr.setCell ⟨h,1,none⟩ (.slice A 0 ct))):=⟨(HF.out.1.mono (by decide)).setCell (p:=⟨h,1,none⟩) HL.out.blk0 (by decide) _,HF.out.2.setCell (p:=⟨h,1,none⟩) HL.out.le _⟩;simp only[L1]at HK;go_wp2_with fail;unfold bodyPost;refine⟨rfl,.tuple #[],?_,rfl,⟨_,HK.out⟩,HFN.out⟩
   first|(simp[results,Tryz.f60];done)|(unfold results;rfl)|kernel_rfl
def wL:List Value:=zc++[.bool true,.int .i64 1,.int .i64 0,.string ⟨#[]⟩,.bool false,.slice none 0 0,.slice none 0 0,.slice none 0 0,.slice none 0 0]
theorem zI:iS (zc++zc) 1 (.bool true) (.int .i64 1) (.int .i64 0) (.string ⟨#[]⟩) (.bool false) (.slice none 0 0) (.slice none 0 0) (.slice none 0 0) (.slice none 0 0)=wL:=rfl
theorem ll (B h G c m U:Nat) (N M st tv:Value) (ys:List Value) (hm:m<=1000) (w:World) (hB:B<=w.heap.size) (hS:HS w B h G c tv (zc++zc) m ys) (hU:US w U h N M st):
 Calls Tryz.prog 82 #[.pointer (some ⟨U,0,none⟩),.int .i64 0,.int .i64 1] w fun e w'=>e=.returned (.bool true)/\(∃ tv' m' ys',m'<=m+1/\HS w' B h G c tv' wL m' ys')/\ar [some 95,some 98,some 130] w w'/\Below B w w':=by
 have HB:=zH hB;have HS0:=zH hS;have HU0:Hid (af w U 106 #[.pointer (some ⟨h,0,none⟩),.bool false,N,M,.slice none 0 0,st]):=hU;have u0:=HU0.out.cell 0;have b0:=HS0.out.blk.cell 0;simp only[L3]at u0 b0;have g8:w.cell? ⟨G,8,none⟩=some (.slice none 0 0):=HS0.out.cell rfl;have g17:w.cell? ⟨G,17,none⟩=some (.slice none 0 0):=HS0.out.cell rfl;have HFR:Hid (∀ W,Below w.heap.size w W->Calls Tryz.prog 83 #[.pointer (some ⟨U,0,none⟩),.int .i64 1,.agg #[.int .i64 1,.int .i64 0,.string ⟨#[]⟩,.bool false,.slice none 0 0,.slice none 0 0,.slice none 0 0]] W fun e w'=>e=.returned (.bool true)/\Hid ((∃ tv' m' ys',m'<=m+1/\HS w' B h G c tv' wL m' ys')/\ar [some 95,some 98,some 130] w w'/\Below B w w')):=fun W hW=>by
  refine (oD B h G c m U N M st tv (zc++zc) ys 1 (by omega) false 0 0 ⟨#[]⟩ false none 0 0 none 0 0 none 0 0 1 0 ⟨#[]⟩ false none 0 0 none 0 0 none 0 0 ?_ hm W (Nat.le_trans HB.out hW.size) (HS0.out.below hW) (HU0.out.to hW)).mono ?_
  ·intro q u hq
   match q,hq with
   |0,hq=>exact hq
   |1,hq=>exact hq
   |2,hq=>exact hq
   |3,hq=>exact hq
   |4,hq=>exact hq
   |5,hq=>exact hq
   |6,hq=>exact hq
   |7,hq=>exact hq
   |8,hq=>exact hq
   |q+9,hq=>simp at hq
  ·rintro e w' ⟨rfl,⟨tv',h1⟩,h2,h3⟩;rw[zI]at h1;exact⟨rfl,⟨tv',_,_,Nat.le_refl _,h1⟩,(ar.of_below hW).trans h2,(hW.mono HB.out).trans h3⟩
 clear hB hS hU;have hmn:min (0:Int) 1=0:=by decide
 have hmx:max (0:Int) 1=1:=by decide
 go_enter Tryz.func82,Tryz.ntmps82;go_wp2_with fail;refine (bX 0 w).mono ?_;rintro e w1 ⟨rfl,hb⟩;have HW1:=zH hb;clear hb u0 b0 g8 g17;go_wp2_with fail;refine (HFR.out w1 HW1.out).mono ?_;rintro e w2 ⟨rfl,HF⟩;go_wp2_with fail;go_ret;exact⟨rfl,HF.out⟩
def jt (k v:Int) (s:ByteArray) (n:Bool) (A B X:Value):List Value:=[.bool true,.int .i64 k,.int .i64 v,.string s,.bool n,A,B,X,.slice none 0 0]++[.bool true,.int .i64 1,.int .i64 0,.string ⟨#[]⟩,.bool false,.slice none 0 0,.slice none 0 0,.slice none 0 0,.slice none 0 0]
theorem zJ (k v:Int) (s:ByteArray) (n:Bool) (A B X:Value):iS wL 0 (.bool true) (.int .i64 k) (.int .i64 v) (.string s) (.bool n) A B X (.slice none 0 0)=jt k v s n A B X:=rfl
theorem yw (B h G c m U:Nat) (N M st tv:Value) (ys:List Value) (xs':ByteArray) (xn:Bool) (xA:Option Addr) (xa xc:Nat) (xB:Option Addr) (xd xe:Nat) (xX:Option Addr) (xl xq:Nat) (zs:ByteArray) (zn:Bool) (zA:Option Addr) (za zc':Nat) (zB:Option Addr) (zd ze:Nat) (zX:Option Addr) (zl zq:Nat) (hm:m<=1000) (w:World) (hB:B<=w.heap.size) (hS:HS w B h G c tv (zc++zc) m ys) (hU:US w U h N M st):
 Calls Tryz.prog 58 #[.pointer (some ⟨U,0,none⟩),.agg #[.int .i64 1,.int .i64 0,.string xs',.bool xn,.slice xA xa xc,.slice xB xd xe,.slice xX xl xq],.agg #[.int .i64 1,.int .i64 1,.string zs,.bool zn,.slice zA za zc',.slice zB zd ze,.slice zX zl zq]] w fun e w'=>e=.returned (.bool true)/\(∃ tv' m' ys',m'<=m+1/\HS w' B h G c tv' wL m' ys')/\ar [some 95,some 98,some 130] w w'/\Below B w w':=by
 have HB:=zH hB;have HV:Hid (∀ W,Below w.heap.size w W->Calls Tryz.prog 82 #[.pointer (some ⟨U,0,none⟩),.int .i64 0,.int .i64 1] W fun e w'=>e=.returned (.bool true)/\Hid ((∃ tv' m' ys',m'<=m+1/\HS w' B h G c tv' wL m' ys')/\ar [some 95,some 98,some 130] w w'/\Below B w w')):=fun W hW=>by
  refine (ll B h G c m U N M st tv ys hm W (Nat.le_trans hB hW.size) (hS.below hW) (af.to hU hW)).mono ?_;rintro e w' ⟨rfl,h1,h2,h3⟩;exact⟨rfl,h1,(ar.of_below hW).trans h2,(hW.mono hB).trans h3⟩
 clear hB hS hU;go_enter Tryz.func58,Tryz.ntmps58;go_wp2_with fail;refine (HV.out _ (am w _ _)).mono ?_;rintro e w1 ⟨rfl,HF⟩;go_wp2_with fail;go_ret;exact⟨rfl,HF.out⟩
theorem yt (B h G c m U:Nat) (N M st tv:Value) (ys:List Value) (nk nv:Int) (ns:ByteArray) (nn:Bool) (nA:Option Addr) (na nc:Nat) (nB:Option Addr) (nd ne:Nat) (nX:Option Addr) (nl nz:Nat) (zs:ByteArray) (zn:Bool) (zA:Option Addr) (za zc':Nat) (zB:Option Addr) (zd ze:Nat) (zX:Option Addr) (zl zq:Nat) (hnk:nk≠1) (hm:m<=1000) (w:World) (hB:B<=w.heap.size) (hS:HS w B h G c tv wL m ys) (hU:US w U h N M st):
 Calls Tryz.prog 58 #[.pointer (some ⟨U,0,none⟩),.agg #[.int .i64 nk,.int .i64 nv,.string ns,.bool nn,.slice nA na nc,.slice nB nd ne,.slice nX nl nz],.agg #[.int .i64 1,.int .i64 0,.string zs,.bool zn,.slice zA za zc',.slice zB zd ze,.slice zX zl zq]] w fun e w'=>e=.returned (.bool true)/\(∃ tv' m' ys',m'<=m+1/\HS w' B h G c tv' (jt nk nv ns nn (.slice nA na nc) (.slice nB nd ne) (.slice nX nl nz)) m' ys')/\ar [some 95,some 98,some 130] w w'/\Below B w w':=by
 have HB:=zH hB;have HV:Hid (∀ W,Below w.heap.size w W->Calls Tryz.prog 83 #[.pointer (some ⟨U,0,none⟩),.int .i64 0,.agg #[.int .i64 nk,.int .i64 nv,.string ns,.bool nn,.slice nA na nc,.slice nB nd ne,.slice nX nl nz]] W fun e w'=>e=.returned (.bool true)/\Hid ((∃ tv' m' ys',m'<=m+1/\HS w' B h G c tv' (jt nk nv ns nn (.slice nA na nc) (.slice nB nd ne) (.slice nX nl nz)) m' ys')/\ar [some 95,some 98,some 130] w w'/\Below B w w')):=fun W hW=>by
  refine (oD B h G c m U N M st tv wL ys 0 (by omega) false 0 0 ⟨#[]⟩ false none 0 0 none 0 0 none 0 0 nk nv ns nn nA na nc nB nd ne nX nl nz ?_ hm W (Nat.le_trans hB hW.size) (hS.below hW) (af.to hU hW)).mono ?_
  ·intro q u hq
   match q,hq with
   |0,hq=>exact hq
   |1,hq=>exact hq
   |2,hq=>exact hq
   |3,hq=>exact hq
   |4,hq=>exact hq
   |5,hq=>exact hq
   |6,hq=>exact hq
   |7,hq=>exact hq
   |8,hq=>exact hq
   |q+9,hq=>simp at hq
  ·rintro e w' ⟨rfl,⟨tv',h1⟩,h2,h3⟩;rw[zJ]at h1;exact⟨rfl,⟨tv',_,_,Nat.le_refl _,h1⟩,(ar.of_below hW).trans h2,(hW.mono hB).trans h3⟩
 clear hB hS hU;go_enter Tryz.func58,Tryz.ntmps58;go_wp2_with fail;refine (HV.out _ (am w _ _)).mono ?_;rintro e w1 ⟨rfl,HF⟩;go_wp2_with fail;go_ret;exact⟨rfl,HF.out⟩
theorem dV (h:Nat) (cv tv:Value) (w:World) (hk:af w h 95 #[cv,tv,.slice none 0 0]):Calls Tryz.prog 61 #[.pointer (some ⟨h,0,none⟩)] w fun e w'=>e=.returned (.tuple #[])/\w'=w.setCell ⟨h,1,none⟩ (.slice none 0 0):=by
 have c1:=hk.cell 1;have c2:=hk.cell 2;have fz:=hk.frozen 1;simp only[L3]at c1 c2;go_enter Tryz.func61,Tryz.ntmps61;go_wp2_with fail;unfold bodyPost;refine⟨rfl,.tuple #[],?_,rfl,rfl⟩
 first|(simp[results,Tryz.f61];done)|(unfold results;rfl)|kernel_rfl
end Go.Proofs.YtlhojoefhannnaaGreat
