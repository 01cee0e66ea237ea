/- slices.Values, slices.AppendSeq and slices.Collect at ints: a new slice that holds the slice's ints. Conditions: the slice lies in memory, nil or not. (Turned from the kit's worked examples on ranges over functions.) And 5 more texts. -/
import Derived.RangeFuncBox
import Derived.RangeFuncLeaves
import Derived.Shelf.Abstract
import Derived.OwnWalkIn
import Derived.TacticsInMore
import Derived.LoopNIn
import Derived.LoopIn
import Derived.Lib.SlicesCompact
import Derived.Lib.SlKeysI
import Derived.Shelf.SlSortCmp.WholeK
import Derived.Ground.SlsfProg
import Derived.Shelf.SlSortCmp.NoneTotal
import Derived.Test.YtlhojoefhannnaaGreatJt35
set_option linter.unusedVariables false
set_option linter.unusedSimpArgs false
set_option maxRecDepth 100000
set_option maxHeartbeats 51200000
namespace Go.Proofs.YtlhojoefhannnaaGreat
open Go.RowKit Go.Shelf
attribute [local go_sem] Oper.semAt_some
def eC (n:Nat) (W:World) (sv:Value) (zs:List Int):Prop:=
 (sv=.slice none 0 0/\zs=[])\/∃ b cap,sv=.slice (some ⟨b,0,none⟩) zs.length cap/\b<n/\∀ j,j<zs.length->W.cell? ⟨b,j,none⟩=some (.int .i64 (zs[j]?.getD 0))
theorem eC.below {n:Nat} {A B:World} (h:Below n A B) {sv:Value} {zs:List Int} (hi:eC n A sv zs):eC n B sv zs:=by
 rcases hi with e|⟨b,cap,e,hb,hc⟩
 ·exact .inl e
 ·exact .inr ⟨b,cap,e,hb,fun j hj=>(h.cell (p:=⟨b,j,none⟩) hb).trans (hc j hj)⟩
theorem eC.of_row {B T n:Nat} {w:World} {v:Value} {zs:List Int} (h:w.ownsRow B T 1 v zs.length (zs.map (Value.int .i64))) (hn:w.heap.size<=n):eC n w v zs:=by
 obtain⟨h1,⟨rfl,h2⟩|⟨g,cap,cur,rfl,h3,h4,h5,h6,h7,h8⟩⟩:=id h
 ·exact .inl ⟨rfl,List.eq_nil_of_length_eq_zero (by simpa using h2)⟩
 ·refine .inr ⟨g,cap,rfl,Nat.lt_of_lt_of_le (Array.getElem?_eq_some_iff.1 h4).1 hn,fun j hj=>?_⟩;rw[h.cellAt j (by simpa using hj)];simp[hj]
theorem rM (n l Bs n0 b len cap:Nat) (zs:List Int) (hn:1<=n) (hreach:len*8<=140737488351232) (hb:b<n0) (J Jx:List Int->World->Prop)
 (hY:∀ pre x W,J pre W->pre.length<len->YieldAt Fence.wide (n-1) Tryz.prog l #[.int .i64 x] W fun e W'=>(e=.returned (.bool true)/\J (pre++[x]) W'/\Below n0 W W')\/(e=.returned (.bool false)/\Jx (pre++[x]) W'))
 (W:World) (hBs:W.cell? ⟨Bs,0,none⟩=some (.slice (some ⟨b,0,none⟩) len cap)) (hc:∀ j,j<len->W.cell? ⟨b,j,none⟩=some (.int .i64 (zs[j]?.getD 0))) (h0:J [] W):
 CallsIn Fence.wide n Tryz.prog 56 #[.func (.yield l) #[] #[],.pointer (some ⟨Bs,0,none⟩)] W fun e W'=>(∃ v,e=.returned v)/\
  ((∃ ys,ys=(List.range len).map (fun j=>zs[j]?.getD 0)/\J ys W')\/(∃ pre,(∃ k,k<=len/\pre=(List.range k).map fun j=>zs[j]?.getD 0)/\Jx pre W')):=by
 refine callsIn_of_wp Tryz.func56 rfl trivial ?_ rfl;simp only[Tryz.ntmps56,List.size_toArray,List.length_cons,List.length_nil,Nat.reduceAdd,Nat.reduceSub,Array.replicate_succ,Array.replicate_zero,List.push_toArray,List.append_toArray,List.nil_append,List.cons_append]
 gi_wp2
 gi_loopw [7] (fun i wr=>∃ k:Nat,k<=len/\i=.int .i64 k/\J ((List.range k).map fun j=>zs[j]?.getD 0) wr/\Below n0 W wr) (fun i _=>len-(intOf i).toNat)
 case atStart=>exact⟨0,Nat.zero_le _,rfl,h0,Below.refl _ _⟩
 case round=>
  obtain⟨k,hk,rfl,hJs,hnx⟩:=hrel;have hcx:k<len->wr.cell? ⟨b,k,none⟩=some (.int .i64 (zs[k]?.getD 0)):=fun h=>(hnx.cell (p:=⟨b,k,none⟩) hb).trans (hc k h);have hup:((List.range (k+1)).map fun j=>zs[j]?.getD 0)=((List.range k).map fun j=>zs[j]?.getD 0)++[zs[k]?.getD 0]:=by simp[List.range_succ]
  by_cases hlt:k<len
  ·obtain⟨fn,tmps,assign,body,hy,hR⟩:=hY _ (zs[k]?.getD 0) wr hJs (by simpa using hlt);have hcx':=hcx hlt
   gi_wp2
   refine hR.mono ?_;rintro e W3 (⟨rfl,hJ3,hk3⟩|⟨rfl,hJx3⟩)
   ·gi_wp2
    go_roundw
    case rel=>exact⟨k+1,by omega,by simp,by rw[hup];exact hJ3,hnx.trans hk3⟩
    case measure=>simp[intOf];omega
   ·gi_wp2
    refine bodyPost_ret (results_none rfl _ _ _) rfl ?_;exact⟨⟨_,rfl⟩,.inr ⟨_,⟨k+1,by omega,hup.symm⟩,hJx3⟩⟩
  ·obtain rfl:k=len:=by omega
   gi_wp2
   go_end0
   exact⟨⟨_,rfl⟩,.inl ⟨_,rfl,hJs⟩⟩
theorem qv (n l Bs:Nat) (J:List Int->World->Prop) (W:World) (hBs:W.cell? ⟨Bs,0,none⟩=some (.slice none 0 0)) (h0:J [] W):
 CallsIn Fence.wide n Tryz.prog 56 #[.func (.yield l) #[] #[],.pointer (some ⟨Bs,0,none⟩)] W fun e W'=>(∃ v,e=.returned v)/\J [] W':=by
 refine callsIn_of_wp Tryz.func56 rfl trivial ?_ rfl;simp only[Tryz.ntmps56,List.size_toArray,List.length_cons,List.length_nil,Nat.reduceAdd,Nat.reduceSub,Array.replicate_succ,Array.replicate_zero,List.push_toArray,List.append_toArray,List.nil_append,List.cons_append]
 gi_wp2
 gi_loopw [7] (fun i wr=>i=.int .i64 0/\J [] wr) (fun _ _=>0)
 case atStart=>exact⟨rfl,h0⟩
 case round=>
  obtain⟨rfl,hJs⟩:=hrel
  gi_wp2
  go_end0
  exact⟨⟨_,rfl⟩,hJs⟩
theorem rN (a:Option Addr) (len cap:Nat) (w:World):
 Calls Tryz.prog 30 #[.slice a len cap] w fun e w'=>e=.returned (.func (.func 56) #[] #[.pointer (some ⟨w.heap.size,0,none⟩)])/\w'=w.alloc (.cells #[.slice a len cap] 54):=by
 go_enter Tryz.func30,Tryz.ntmps30;go_wp2_with fail;go_ret;exact⟨rfl,rfl⟩
theorem mr (zs:List Int) {k:Nat} (hk:k<=zs.length):((List.range k).map fun j=>zs[j]?.getD 0)=zs.take k:=by
 apply List.ext_getElem
 ·simp[hk]
 ·intro i h1 h2;have:i<zs.length:=by simp at h1;omega
  simp[this]
theorem nR (n:Nat) (hn:1<=n) (Bs n0:Nat) (sv:Value) (zs:List Int) (hreach:zs.length*8<=140737488351232) (w:World) (hBs:Bs<w.heap.size) (hn0:n0<=w.heap.size) (hc:w.cell? ⟨Bs,0,none⟩=some sv) (hI:eC n0 w sv zs):
 SeqStopsK Fence.wide n Tryz.prog 56 #[.pointer (some ⟨Bs,0,none⟩)] (fun x:Int=>#[Value.int .i64 x]) (Below n0) (fun ys=>ys=zs) (fun pre=>pre <+: zs) zs.length w:=fun l J Jx W hW _ _ hY h0=>by
 have hc':=(hW.cell (p:=⟨Bs,0,none⟩) hBs).trans hc;rcases hI.below (hW.mono hn0) with ⟨rfl,rfl⟩|⟨b,cap,rfl,hb,hcs⟩
 ·exact (qv n l Bs J W hc' h0).mono fun e W' ⟨he,hj⟩=>⟨he,.inl ⟨_,rfl,hj⟩⟩
 ·refine (rM n l Bs n0 b zs.length cap zs hn hreach hb J Jx hY W hc' hcs h0).mono ?_;rintro e W' ⟨he,⟨ys,rfl,hj⟩|⟨pre,⟨k,hk,rfl⟩,hj⟩⟩
  ·exact⟨he,.inl ⟨_,by rw[mr zs (Nat.le_refl _),List.take_length],hj⟩⟩
  ·exact⟨he,.inr ⟨_,by rw[mr zs hk];exact List.take_prefix _ _,hj⟩⟩
theorem tU:(Tryz.prog.info? 3).map (fun i=>(i.zero,i.size,i.bytes))=some (some (.int .i64 0),1,8):=by kernel_rfl
theorem kZ (Bs:Nat) (sv:Value) (zs:List Int) (hlen:zs.length<=maxLen) (hbytes:zs.length*8<=140737488351232) (w:World) (hBs:Bs<w.heap.size) (hc:w.cell? ⟨Bs,0,none⟩=some sv) (hI:eC w.heap.size w sv zs):
 Calls Tryz.prog 79 #[.slice none 0 0,.func (.func 56) #[] #[.pointer (some ⟨Bs,0,none⟩)]] w fun e W'=>∃ v,e=.returned v/\W'.ownsRow w.heap.size 3 1 v zs.length (zs.map (Value.int .i64))/\Below w.heap.size w W':=by
 refine (callsIn_wide (n:=6)).1 ?_;obtain⟨i0,hi,hz0,hz1,hz2⟩:=info_parts tU;refine callsIn_of_wp_marks Tryz.func79 rfl trivial ?_ rfl;simp only[Tryz.ntmps79,List.size_toArray,List.length_cons,List.length_nil,Nat.reduceAdd,Nat.reduceSub,Array.replicate_succ,Array.replicate_zero,List.push_toArray,List.append_toArray,List.nil_append,List.cons_append]
 gi_wp2
 have bO:=Boxed.new w 54 (.slice none 0 0);have hB0:Below w.heap.size w (w.alloc (.cells #[.slice none 0 0] 54)):=(Below.refl _ w).alloc (Nat.le_refl _) _;refine wpIn_rangeFunc_ownG rfl (by omega) (gf:=56) (lb:=#[.pointer (some ⟨Bs,0,none⟩)]) rfl trivial (enters_of Tryz.func56 (by kernel_rfl) rfl)
  (nR 5 (by omega) Bs w.heap.size sv zs hbytes _ (by simp;omega) (by simp) ((hB0.cell (p:=⟨Bs,0,none⟩) hBs).trans hc) (hI.below hB0)) belowK_t (belowK_b (by simp)) (Below.refl _ _) (fun _=>rfl)
  (fun pre W=>(∃ v,Boxed W w.heap.size 54 v/\W.ownsRow w.heap.size 3 1 v pre.length (pre.map (Value.int .i64))/\True)/\Below w.heap.size w W)
  (fun _ _ _=>False)
  (OwnFrom.and (Own.from (holdsRow_own w.heap.size w.heap.size 54 3 1 (fun pre:List Int=>pre.length) (fun pre=>pre.map (Value.int .i64)) (fun pre v=>True)) _) (ownFrom_below (Nat.le_refl _) (by simp)))
  (fun _ _ _ _ _ hs _ _=>hs)
  ⟨⟨_,bO,World.ownsRow_nil _ _ _ _,trivial⟩,hB0⟩
  (fun x=>{ tmps:=#[.slice none 0 0,.func (.func 56) #[] #[.pointer (some ⟨Bs,0,none⟩)],.pointer (some ⟨w.heap.size,0,none⟩),undef,.slice none 0 0,.int .i64 x,.func (.func 56) #[] #[.pointer (some ⟨Bs,0,none⟩)],.int .i64 x,undef,undef,undef,undef,undef],defers:=[] }) ?assign ?body ?done ?stop
 case assign=>
  intro l x W K hK
  gi_wp2
  exact hK
 case body=>
  rintro l pre x W ⟨⟨v,hv,hrow,_⟩,hB⟩ hlt;have hc:=hv.cell
  gi_wp2_with (gi_at_builtin;refine wpListIn_append_own _ rfl _ _ 54 rfl w.heap.size 3 i0 (.int .i64 0) 1 8 Tryz.underlying54 hi hz0 hz1 hz2 rfl (by decide) _ _ _ rfl (hrow.alloc _) ⟨W.heap.size,0,none⟩ 1 1 [.int .i64 x] rfl rfl (cell_one_new _ _ _) (by simp[Value.oneCell']) (by omega) (by omega) (by have:=hB.size;simp;omega) ?_;intro v' w1 hown' hgrow _;obtain⟨g',cap',rfl⟩:=ownsRow_succ hown';obtain⟨hv1,hv2,hr2,hk2,hb2⟩:=hv.appended (by decide) hrow hB.size (Nat.le_refl _) hown' hgrow;have hc1:=hv1.cell;have hf1:=hv1.frozen)
  exact⟨hk2.from _,hb2,⟨_,hv2,by simpa using hr2,trivial⟩,hB.trans hb2⟩
 case done=>
  rintro D ys W hD rfl ⟨⟨v,hv,hrow,_⟩,hB⟩ hK;have hc:=hv.cell
  gi_wp2
  refine⟨by simp,.inl ⟨_,_,rfl,run_takeDeferred hK,?_⟩⟩;exact⟨_,results_tmp rfl _ _ _,v,rfl,ownsRow_putObj hrow _ hK rfl,hB.trans (belowK_b (w:=w) (Nat.le_refl _) W D _ _ (by simp at hD;omega) hK rfl rfl)⟩
 case stop=>
  rintro D c pre W _ _ h _;exact h.elim
theorem oM (Bs:Nat) (sv:Value) (zs:List Int) (hlen:zs.length<=maxLen) (hbytes:zs.length*8<=140737488351232) (w:World) (hBs:Bs<w.heap.size) (hc:w.cell? ⟨Bs,0,none⟩=some sv) (hI:eC w.heap.size w sv zs):
 Calls Tryz.prog 54 #[.func (.func 56) #[] #[.pointer (some ⟨Bs,0,none⟩)]] w fun e W'=>∃ v,e=.returned v/\W'.ownsRow w.heap.size 3 1 v zs.length (zs.map (Value.int .i64))/\Below w.heap.size w W':=by
 have HA:=zH (kZ Bs sv zs hlen hbytes w hBs hc hI);clear hBs hc hI;go_enter Tryz.func54,Tryz.ntmps54;go_wp2_with fail;refine HA.out.mono ?_;rintro e W' ⟨v,rfl,h1,h2⟩;go_wp2_with fail;go_ret;exact⟨v,rfl,h1,h2⟩
end Go.Proofs.YtlhojoefhannnaaGreat
namespace Go.Proofs.YtlhojoefhannnaaGreat
theorem oN {d:Array Int} (hs:∀ i j,i<j->j<d.size->d[i]! <= d[j]!):∀ m,m<=d.size->(Lib.compactUpTo d m).Pairwise (· < ·)/\∀ x,x∈Lib.compactUpTo d m↔∃ j,j<m/\d[j]! =x:=by
 intro m
 induction m with
 |zero=>
  intro _;have:Lib.compactUpTo d 0=[]:=rfl;rw[this];exact⟨List.Pairwise.nil,fun x=>⟨fun h=>(by cases h),fun ⟨j,h,_⟩=>absurd h (by omega)⟩⟩
 |succ m ih=>
  intro hm;obtain⟨h1,h2⟩:=ih (by omega);rw[Lib.compactUpTo_succ];by_cases hk:Lib.keeps d m=true
  ·rw[if_pos hk];refine⟨List.pairwise_append.2 ⟨h1,List.pairwise_singleton _ _,fun x hx y hy=>?_⟩,fun x=>?_⟩
   ·rw[List.mem_singleton]at hy;subst hy;obtain⟨j,hj,rfl⟩:=(h2 x).1 hx;have h3:d[m]! ≠ d[m-1]! :=by
     have:=hk;simp only[Lib.keeps,decide_eq_true_eq]at this;rcases this with h|h
     ·omega
     ·exact h
    have h4:=hs (m-1) m (by omega) (by omega);by_cases e:j=m-1
    ·subst e;omega
    ·have:=hs j (m-1) (by omega) (by omega);omega
   ·rw[List.mem_append,h2 x,List.mem_singleton];constructor
    ·rintro (⟨j,hj,e⟩|rfl)
     ·exact⟨j,by omega,e⟩
     ·exact⟨m,by omega,rfl⟩
    ·rintro⟨j,hj,rfl⟩;by_cases e:j=m
     ·subst e;exact .inr rfl
     ·exact .inl ⟨j,by omega,rfl⟩
  ·rw[if_neg hk,List.append_nil];refine⟨h1,fun x=>?_⟩;rw[h2 x];constructor
   ·rintro⟨j,hj,e⟩;exact⟨j,by omega,e⟩
   ·rintro⟨j,hj,rfl⟩;by_cases e:j=m
    ·subst e;simp only[Lib.keeps,decide_eq_true_eq,not_or,Decidable.not_not,ne_eq]at hk;exact⟨j-1,by omega,hk.2.symm⟩
    ·exact⟨j,by omega,rfl⟩
theorem j4 {zs:List Int} (h:zs.Pairwise (· <= ·)):(Lib.compact zs).Pairwise (· < ·)/\∀ x,x∈Lib.compact zs↔x∈zs:=by
 have hs:∀ i j,i<j->j<zs.toArray.size->zs.toArray[i]! <= zs.toArray[j]! :=fun i j hij hj=>by
  have hj':j<zs.length:=by simpa using hj
  rw[getElem!_pos zs.toArray i (by simp;omega),getElem!_pos zs.toArray j hj];simpa using List.pairwise_iff_getElem.1 h i j (by omega) hj' hij
 obtain⟨h1,h2⟩:=oN hs zs.length (by simp);refine⟨h1,fun x=>?_⟩;show x∈Lib.compactUpTo zs.toArray zs.length↔_;rw[h2 x,List.mem_iff_getElem];constructor
 ·rintro⟨j,hj,rfl⟩;exact⟨j,hj,by rw[getElem!_pos zs.toArray j (by simpa using hj)];simp⟩
 ·rintro⟨j,hj,rfl⟩;exact⟨j,hj,by rw[getElem!_pos zs.toArray j (by simpa using hj)];simp⟩
theorem nj (zs:List Int):(zs.mergeSort fun x y=>decide (x<=y)).Pairwise (· <= ·):=by
 have h:=List.pairwise_mergeSort (le:=fun x y:Int=>decide (x<=y)) (fun a b c h1 h2=>by simp at *;omega) (fun a b=>by simp;omega) zs;exact h.imp fun h=>by simpa using h
theorem tW (zs:List Int) (x:Int):x∈(zs.mergeSort fun x y=>decide (x<=y))↔x∈zs:=List.mem_mergeSort
end Go.Proofs.YtlhojoefhannnaaGreat
namespace Go.Proofs.YtlhojoefhannnaaGreat
open Go.RowKit Go.Shelf Go.Sort
theorem qj (Bs:Nat) (sv:Value) (zs:List Int) (hlen:zs.length<=1000000) (w:World) (hBs:Bs<w.heap.size) (hc:w.cell? ⟨Bs,0,none⟩=some sv) (hI:eC w.heap.size w sv zs):
 Calls Tryz.prog 29 #[.func (.func 56) #[] #[.pointer (some ⟨Bs,0,none⟩)]] w fun e W'=>∃ v,e=.returned v/\W'.ownsRow w.heap.size 3 1 v zs.length ((zs.mergeSort fun x y=>decide (x<=y)).map (Value.int .i64))/\Below w.heap.size w W':=by
 have HC:=zH (oM Bs sv zs (by unfold maxLen;omega) (by omega) w hBs hc hI);clear hBs hc hI;go_enter Tryz.func29,Tryz.ntmps29;go_wp2_with fail;refine HC.out.mono ?_;rintro e W ⟨v,rfl,hrow,hb⟩;have HB:=zH hb;have HROW:=zH hrow;clear HC hb;rcases hrow.2 with ⟨rfl,hz⟩|⟨gb,cap,cur,rfl,hbase,hgb,r1,r2,r3,r4⟩
 ·have hss:zs=[]:=List.eq_nil_of_length_eq_zero (by simpa using hz);subst hss;have h1:=AnyM.slices_Sort_int_none Tryz.sortI none 0 W;have HS:Hid (Calls Tryz.prog 55 #[.slice none 0 0] W fun e w'=>e=.returned (.tuple #[])/\w'=W):=h1;clear h1 hrow;simp only[List.length_nil]at*;go_wp2_with fail;refine HS.out.mono ?_;rintro e w' ⟨rfl,rfl⟩;go_wp2_with fail;go_ret;exact⟨_,rfl,by simpa using HROW.out,HB.out⟩
 ·have hH:Holds (Value.int .i64) W gb 0 zs.toArray:=holds_of_block_i hgb (by simpa using r4);have h1:=AnyM.slices_Sort_int Tryz.sortI gb 0 cap zs W hH (Array.getElem?_eq_some_iff.1 hgb).1 (by omega);have HS:Hid (Calls Tryz.prog 55 #[.slice (some ⟨gb,0,none⟩) zs.length cap] W fun e w'=>e=.returned (.tuple #[])/\Hid (w'.ownsRow w.heap.size 3 1 (.slice (some ⟨gb,0,none⟩) zs.length cap) zs.length ((zs.mergeSort fun x y=>decide (x<=y)).map (Value.int .i64))/\Below w.heap.size w w')):=by
   refine Calls.mono h1 ?_;rintro e w' ⟨rfl,nn,os,rfl⟩;exact⟨rfl,ownsRow_sorted_i (by simp) hbase hgb r1 r2 r3,HB.out.grown (grownBy_sorted_i _) HB.out.size (fun j hj=>by cases hj;exact hbase)⟩
  clear h1 hH hrow hgb r1 r2 r3 r4 hbase HROW HB;go_wp2_with fail;refine HS.out.mono ?_;rintro e w' ⟨rfl,HG⟩;go_wp2_with fail;go_ret;exact⟨_,rfl,HG.out.1,HG.out.2⟩
theorem we {w:World} {B T n k cap g:Nat} {xs:List Value} (h:w.ownsRow B T 1 (.slice (some ⟨g,0,none⟩) n cap) n xs) (hk:k<=n):w.ownsRow B T 1 (.slice (some ⟨g,0,none⟩) k cap) k (xs.take k):=by
 obtain⟨h1,h2|⟨g',cap',cur,e1,h3,h4,h5,h6,h7,h8⟩⟩:=h
 ·cases h2.1
 ·simp only[Value.slice.injEq,Option.some.injEq,Addr.mk.injEq,and_true,true_and]at e1;obtain⟨rfl,rfl⟩:=e1;refine⟨by rw[List.length_take];omega,.inr ⟨_,_,cur,rfl,h3,h4,by omega,h6,h7,?_⟩⟩;rw[<-h8,List.take_take,Nat.mul_one,Nat.min_eq_left (by omega)]
theorem j3 (zs:List Int):(Lib.compact zs).length<=zs.length:=by
 unfold Lib.compact Lib.compactUpTo;rw[List.length_map];refine Nat.le_trans (List.length_filter_le _ _) ?_;rw[List.length_range];exact Nat.le_refl _
theorem mT {B:Nat} {v:Value} (zs:List Int) (hlen:zs.length<=1000000) (w:World) (hB:B<=w.heap.size) (hrow:w.ownsRow B 3 1 v zs.length (zs.map (Value.int .i64))):
 Calls Tryz.prog 28 #[v] w fun e W'=>∃ v',e=.returned v'/\W'.ownsRow B 3 1 v' (Lib.compact zs).length ((Lib.compact zs).map (Value.int .i64))/\Below B w W'/\ar [some 3] w W':=by
 rcases hrow.2 with ⟨rfl,hz⟩|⟨gb,cap,cur,rfl,hbase,hgb,r1,r2,r3,r4⟩
 ·have hss:zs=[]:=List.eq_nil_of_length_eq_zero (by simpa using hz);subst hss;have h1:=AnyG.slices_Compact_int_empty Tryz.compI none 0 w;refine Calls.mono h1 ?_;rintro e w' ⟨rfl,rfl⟩;exact⟨_,rfl,hrow,Below.refl _ _,ar.refl _ _⟩
 ·have hH:Holds (Value.int .i64) w gb 0 zs.toArray:=holds_of_block_i hgb (by simpa using r4);have hle:=j3 zs;have h1:=AnyG.slices_Compact_int Tryz.compI gb 0 cap zs w hH (by omega) r1;refine Calls.mono h1 ?_;rintro e w' ⟨rfl,q,rfl⟩;have hl:(Lib.compact zs++List.replicate (zs.length-(Lib.compact zs).length) 0).length=zs.length:=by rw[List.length_append,List.length_replicate];omega
  have hg0:∀ W:World,grow W #[]=W:=fun W=>by simp[grow]
  have ho:=ownsRow_sorted_i (n:=q) (os:=#[]) (base:=B) (e:=3) hl hbase hgb r1 r2 r3;have hg:=grownBy_sorted_i (w:=w) (g:=gb) (n:=q) (os:=#[]) (Lib.compact zs++List.replicate (zs.length-(Lib.compact zs).length) 0).toArray;rw[hg0]at ho hg;refine⟨_,rfl,?_,(Below.refl _ _).grown hg hB fun j hj=>by cases hj;exact hbase,(ar.refl _ _).grown hg fun g hg=>by cases hg;exact⟨_,_,_,hgb,by decide⟩⟩;have ht:=we ho hle;rw[<-List.map_take,List.take_left'  rfl]at ht;exact ht
end Go.Proofs.YtlhojoefhannnaaGreat
namespace Go.Proofs.YtlhojoefhannnaaGreat
open Go.RowKit NumB
def ed (W:World) (B:Nat) (v:Value) (l:List Int):Prop:=W.ownsRow B 3 1 v l.length (l.map (Value.int .i64))
theorem ed.below {W W':World} {B:Nat} {v:Value} {l:List Int} (h:ed W B v l) (hb:Below W.heap.size W W'):ed W' B v l:=av (ts:=[]) h (ar.of_below hb) (by simp)
theorem om {w:World} {B:Nat} {v x:Value} {xs ys:List Int} (hB:B<=w.heap.size) (h1:ed w B v xs) (h2:ed w B x ys) (hl:xs.length+ys.length<=1000000) (ty:TypeId):
 ∃ v' w',(Builtin.append_ #[54,54] ty #[v,x]).run Tryz.prog w=.ok v' w'/\ed w' B v' (xs++ys)/\Below B w w'/\ar [some 3] w w':=by
 obtain⟨i0,hi,hz0,hz1,hz2⟩:=info_parts px;rcases h2.2 with ⟨rfl,h0⟩|⟨g,cap,cur,rfl,h3,h4,h5,h6,h7,h8⟩
 ·have:ys=[]:=List.eq_nil_of_length_eq_zero (by simpa using h0);subst this;have h:=run_append_owned_none (P:=Tryz.prog) (w:=w) B 54 ty 3 i0 1 Tryz.underlying54 hi v xs.length _ h1;exact⟨v,w,h,by rw[List.append_nil];exact h1,Below.refl _ _,ar.refl _ _⟩
 ·obtain⟨v',w',q1,q2,q3,q4⟩:=run_append_own (P:=Tryz.prog) (w:=w) B 54 ty 3 i0 (.int .i64 0) 1 8 Tryz.underlying54 hi hz0 hz1 hz2 rfl (by decide) v xs.length _ h1 ⟨g,0,none⟩ ys.length cap (ys.map (Value.int .i64)) (by simp) (fun j u hj=>by
   have hj':j<ys.length:=by simpa using (List.getElem?_eq_some_iff.1 hj).1
   rw[Go.WideShapes.add_plain,Nat.zero_add];exact (h2.cellAt j (by simpa using hj')).trans hj) (fun u hu=>by
   rw[List.mem_map]at hu;obtain⟨a,_,rfl⟩:=hu;rfl) (by unfold maxLen;omega) (by omega) hB
  refine⟨v',w',q1,?_,(Below.refl _ _).grown q3 hB fun k hk=>?_,(ar.refl _ _).grown q3 fun k hk=>?_⟩
  ·unfold ed;rw[List.length_append,List.map_append];exact q2
  ·exact (h1.lt k hk).1
  ·obtain⟨cs,f,hc⟩:=Lib.ownsRow_kind h1 k hk;exact⟨cs,_,f,hc,by decide⟩
theorem kQ {o:Oper} {a:Act} {w:World} {K:Act->World->Prop} {Q:Exit->Act->World->Prop} (s x:Operand) (ho:o.op=.call { callee:=.builtin .append,args:=#[s,x],argTypes:=#[54,54] })
 {v y:Value} {B:Nat} {xs ys:List Int} (hs:a.eval s=v) (hx:a.eval x=y) (hB:B<=w.heap.size) (h1:ed w B v xs) (h2:ed w B y ys) (hl:xs.length+ys.length<=1000000) (h:∀ v' w',ed w' B v' (xs++ys)->Below B w w'->ar [some 3] w w'->K (a.put o.dst v') w'):Oper.wp Tryz.prog o a w K Q:=by
 obtain⟨v',w',hrun,q1,q2,q3⟩:=om hB h1 h2 hl o.type;unfold Oper.wp;simp[execOp,ho,resolve,invoke,builtin,hs,hx,hrun,Result.andThen];exact h v' w' q1 q2 q3
def SF (B:Nat) (la lb:List Int) (W:World) (s27 s29 s30 s31 s32 s33:Value):Nat->Prop
 |0=>True
 |1=>ed W B s27 la
 |2=>ed W B s27 la/\ed W B s29 lb
 |3=>ed W B s30 (la++lb)
 |4=>(∃ k,s31=.func (.func 56) #[] #[.pointer (some ⟨k,0,none⟩)]/\k<W.heap.size/\W.cell? ⟨k,0,none⟩=some s30)/\ed W B s30 (la++lb)
 |5=>ed W B s32 ((la++lb).mergeSort fun x y=>decide (x<=y))
 |_=>ed W B s33 (Lib.compact ((la++lb).mergeSort fun x y=>decide (x<=y)))
theorem SF.frT {ts:List (Option TypeId)} {B:Nat} {la lb:List Int} {W W':World} {s27 s29 s30 s31 s32 s33:Value} {n:Nat} (h:SF B la lb W s27 s29 s30 s31 s32 s33 n) (hs:W.heap.size<=W'.heap.size) (hf:ar ts W W') (h1:some 3∉ts) (h2:n=4->ts=[]):SF B la lb W' s27 s29 s30 s31 s32 s33 n:=by
 match n,h with
 |0,_=>trivial
 |1,h=>exact av h hf h1
 |2,h=>exact⟨av h.1 hf h1,av h.2 hf h1⟩
 |3,h=>exact av h hf h1
 |4,h=>
  obtain⟨⟨k,e,hk,hc⟩,hr⟩:=h;obtain rfl:=h2 rfl;refine⟨⟨k,e,by omega,?_⟩,av hr hf h1⟩;refine (World.cell?_of_block (a:=⟨k,0,none⟩) ?_).trans hc;have:W.heap[k]?=some W.heap[k]:=Array.getElem?_eq_getElem hk;rw[this];exact hf k _ this ⟨by simp,by simp⟩
 |5,h=>exact av h hf h1
 |n+6,h=>exact av h hf h1
structure VI (w2:World) (la lb:List Int) (ca cb:Value) (L:Nat->Bool) (s26 s27 s28 s29 s30 s31 s32 s33 s8:Value) (W:World):Prop where
 be:Below w2.heap.size w2 W
 r0:L 0=true->s26=ca
 r2:L 2=true->s28=cb
 st:∃ n,n<=6/\L 1=decide (1<=n)/\L 3=decide (2<=n)/\L 4=decide (3<=n)/\L 5=decide (4<=n)/\L 6=decide (5<=n)/\L 7=decide (6<=n)/\SF w2.heap.size la lb W s27 s29 s30 s31 s32 s33 n
 r8:L 8=true->∃ k,s8=.pointer (some ⟨k,0,none⟩)/\w2.heap.size<=k/\af W k 54 #[if L 9 then s33 else .slice none 0 0]
 o9:L 9=true->L 7=true/\L 8=true
section
variable {w2 W W':World} {la lb:List Int} {ca cb:Value} {L:Nat->Bool} {s26 s27 s28 s29 s30 s31 s32 s33 s8:Value}
theorem VI.n9 (h:VI w2 la lb ca cb L s26 s27 s28 s29 s30 s31 s32 s33 s8 W) (h7:L 7=false):L 9=false:=by
 cases h9:L 9 with
 |false=>rfl
 |true=>rw[(h.o9 h9).1]at h7;cases h7
theorem VI.load0 (h:VI w2 la lb ca cb L s26 s27 s28 s29 s30 s31 s32 s33 s8 W):VI w2 la lb ca cb (fun j=>j==0||L j) ca s27 s28 s29 s30 s31 s32 s33 s8 W:=⟨h.be,fun _=>rfl,h.r2,h.st,h.r8,h.o9⟩
theorem VI.load2 (h:VI w2 la lb ca cb L s26 s27 s28 s29 s30 s31 s32 s33 s8 W):VI w2 la lb ca cb (fun j=>j==2||L j) s26 s27 cb s29 s30 s31 s32 s33 s8 W:=⟨h.be,h.r0,fun _=>rfl,h.st,h.r8,h.o9⟩
theorem VI.at (h:VI w2 la lb ca cb L s26 s27 s28 s29 s30 s31 s32 s33 s8 W) (n:Nat) (hn:n<=5) (hi:L (if n=0 then 1 else n+2)=false) (hp:0<n->L (if n=1 then 1 else n+1)=true):SF w2.heap.size la lb W s27 s29 s30 s31 s32 s33 n:=by
 obtain⟨m,hm,e1,e3,e4,e5,e6,e7,hs⟩:=h.st;have hmn:m=n:=by
  rcases (by omega:n=0\/n=1\/n=2\/n=3\/n=4\/n=5) with rfl|rfl|rfl|rfl|rfl|rfl<;>simp_all<;>omega
 subst hmn;exact hs
theorem VI.end (h:VI w2 la lb ca cb L s26 s27 s28 s29 s30 s31 s32 s33 s8 W) (h7:L 7=true) (h8:L 8=true) (h9:L 9=true):ed W w2.heap.size s33 (Lib.compact ((la++lb).mergeSort fun x y=>decide (x<=y)))/\∃ k,s8=.pointer (some ⟨k,0,none⟩)/\w2.heap.size<=k/\af W k 54 #[s33]:=by
 obtain⟨m,hm,e1,e3,e4,e5,e6,e7,hs⟩:=h.st;obtain⟨k,q1,q2,q3⟩:=h.r8 h8;rw[h9,if_pos rfl]at q3;rw[h7]at e7;obtain rfl:m=6:=by simp at e7;omega
 exact⟨hs,k,q1,q2,q3⟩
theorem VI.next (h:VI w2 la lb ca cb L s26 s27 s28 s29 s30 s31 s32 s33 s8 W) (n:Nat) (hn:n<=5) (hi:L (if n=0 then 1 else n+2)=false) (hp:0<n->L (if n=1 then 1 else n+1)=true) {t27 t29 t30 t31 t32 t33:Value} (hb:Below w2.heap.size W W') {ts:List (Option TypeId)} (hf:ar ts W W') (ht:some 54∉ts) (hsf:SF w2.heap.size la lb W s27 s29 s30 s31 s32 s33 n->SF w2.heap.size la lb W' t27 t29 t30 t31 t32 t33 (n+1)):VI w2 la lb ca cb (fun j=>j==(if n=0 then 1 else n+2)||L j) s26 t27 s28 t29 t30 t31 t32 t33 s8 W':=by
 obtain⟨m,hm,e1,e3,e4,e5,e6,e7,hs⟩:=h.st;have hmn:m=n:=by
  rcases (by omega:n=0\/n=1\/n=2\/n=3\/n=4\/n=5) with rfl|rfl|rfl|rfl|rfl|rfl<;>simp_all<;>omega
 subst hmn;have h9:L 9=false:=h.n9 (by rw[e7];simp;omega);refine⟨h.be.trans (hb.mono (Nat.le_refl _)),fun hq=>h.r0 ?_,fun hq=>h.r2 ?_,⟨m+1,by omega,?_,?_,?_,?_,?_,?_,hsf hs⟩,fun hq=>?_,fun hq=>?_⟩
 ·rcases (by omega:m=0\/m=1\/m=2\/m=3\/m=4\/m=5) with rfl|rfl|rfl|rfl|rfl|rfl<;>simpa using hq
 ·rcases (by omega:m=0\/m=1\/m=2\/m=3\/m=4\/m=5) with rfl|rfl|rfl|rfl|rfl|rfl<;>simpa using hq
 iterate 6 (rcases (by omega:m=0\/m=1\/m=2\/m=3\/m=4\/m=5) with rfl|rfl|rfl|rfl|rfl|rfl<;>simp[*])
 ·obtain⟨k,q1,q2,q3⟩:=h.r8 (by rcases (by omega:m=0\/m=1\/m=2\/m=3\/m=4\/m=5) with rfl|rfl|rfl|rfl|rfl|rfl<;>simpa using hq);refine⟨k,q1,q2,?_⟩;have e9:(9==(if m=0 then 1 else m+2)||L 9)=false:=by
   rcases (by omega:m=0\/m=1\/m=2\/m=3\/m=4\/m=5) with rfl|rfl|rfl|rfl|rfl|rfl<;>simp[h9]
  rw[e9];rw[h9]at q3;exact q3.frT hf ht
 ·exfalso;rcases (by omega:m=0\/m=1\/m=2\/m=3\/m=4\/m=5) with rfl|rfl|rfl|rfl|rfl|rfl<;>simp[h9]at hq
theorem VI.alloc8 (h:VI w2 la lb ca cb L s26 s27 s28 s29 s30 s31 s32 s33 s8 W) (h8:L 8=false):VI w2 la lb ca cb (fun j=>j==8||L j) s26 s27 s28 s29 s30 s31 s32 s33 (.pointer (some ⟨W.heap.size,0,none⟩)) (W.alloc (.cells #[.slice none 0 0] 54)):=by
 have h9:L 9=false:=by
  cases h9:L 9 with
  |false=>rfl
  |true=>rw[(h.o9 h9).2]at h8;cases h8
 obtain⟨n,hn,e1,e3,e4,e5,e6,e7,hs⟩:=h.st;have hb:=I W (.cells #[.slice none 0 0] 54);refine⟨h.be.alloc h.be.size _,h.r0,h.r2,⟨n,hn,e1,e3,e4,e5,e6,e7,hs.frT (ts:=[]) (by simp) (ar.of_below hb) (by simp) fun _=>rfl⟩,fun _=>⟨_,rfl,h.be.size,?_⟩,fun h'=>⟨(h.o9 h').1,by simp⟩⟩;show af _ _ _ #[if (false||L 9) then _ else _];rw[h9];exact af.new W _ _
theorem VI.store9 (h:VI w2 la lb ca cb L s26 s27 s28 s29 s30 s31 s32 s33 s8 W) (h7:L 7=true) (h8:L 8=true):∃ k,s8=.pointer (some ⟨k,0,none⟩)/\(∃ u,W.cell? ⟨k,0,none⟩=some u)/\W.frozen? ⟨k,0,none⟩=false/\(∃ Ax nx cx,s33=.slice Ax nx cx)/\VI w2 la lb ca cb (fun j=>j==9||L j) s26 s27 s28 s29 s30 s31 s32 s33 s8 (W.setCell ⟨k,0,none⟩ s33):=by
 obtain⟨k,q1,q2,q3⟩:=h.r8 h8;obtain⟨n,hn,e1,e3,e4,e5,e6,e7,hs⟩:=h.st;have hf:=(ar.refl [some 54] W).setCell (p:=⟨k,0,none⟩) q3 (by decide) s33;refine⟨k,q1,⟨_,q3.cell 0⟩,q3.frozen 0,?_,h.be.setCell (p:=⟨k,0,none⟩) q2 _,h.r0,h.r2,⟨n,hn,e1,e3,e4,e5,e6,e7,hs.frT (by simp) hf (by decide) fun e=>?_⟩,fun _=>⟨k,q1,q2,?_⟩,fun _=>⟨h7,h8⟩⟩
 ·rw[h7]at e7;obtain rfl:n=6:=by simp at e7;omega
  obtain⟨A,c,e⟩:=bj hs;exact⟨_,_,_,e⟩
 ·rw[h7]at e7;simp at e7;omega
 ·have:=q3.set_ 0 s33;simpa using this
end
end Go.Proofs.YtlhojoefhannnaaGreat
namespace Go.Proofs
open Go.Shelf
def Tryz.sortB_ren:Go.Shelf.Ren:=⟨fun|6=>64|15=>81|14=>86|28=>110|29=>111|20=>117|21=>118|22=>119|23=>120|24=>121|25=>122|26=>123|27=>124|46=>147|47=>139|48=>140|49=>148|50=>149|57=>161|n=>n,fun|22=>28|24=>37|25=>112|3=>3|39=>79|0=>0|53=>82|55=>141|4=>4|46=>151|45=>150|50=>43|5=>5|9=>9|66=>179|70=>183|76=>204|77=>205|n=>n,fun|n=>n⟩
theorem Tryz.sortB:Go.Proofs.SlLaysF0.n6 Tryz.prog Tryz.sortB_ren:={
 mixed:=by kernel_rfl
 f6:=⟨Tryz.f64.name,by decide,Tryz.func64.trans (congrArg some (by kernel_rfl))⟩
 f14:=⟨Tryz.f86.name,by decide,Tryz.func86.trans (congrArg some (by kernel_rfl))⟩
 f15:=Tryz.func81.trans (congrArg some (by kernel_rfl))
 f20:=⟨Tryz.f117.name,by decide,Tryz.func117.trans (congrArg some (by kernel_rfl))⟩
 f21:=⟨Tryz.f118.name,by decide,Tryz.func118.trans (congrArg some (by kernel_rfl))⟩
 f22:=⟨Tryz.f119.name,by decide,Tryz.func119.trans (congrArg some (by kernel_rfl))⟩
 f23:=⟨Tryz.f120.name,by decide,Tryz.func120.trans (congrArg some (by kernel_rfl))⟩
 f24:=⟨Tryz.f121.name,by decide,Tryz.func121.trans (congrArg some (by kernel_rfl))⟩
 f25:=⟨Tryz.f122.name,by decide,Tryz.func122.trans (congrArg some (by kernel_rfl))⟩
 f26:=⟨Tryz.f123.name,by decide,Tryz.func123.trans (congrArg some (by kernel_rfl))⟩
 f27:=⟨Tryz.f124.name,by decide,Tryz.func124.trans (congrArg some (by kernel_rfl))⟩
 f28:=Tryz.func110.trans (congrArg some (by kernel_rfl))
 f29:=Tryz.func111.trans (congrArg some (by kernel_rfl))
 f46:=⟨Tryz.f147.name,by decide,Tryz.func147.trans (congrArg some (by kernel_rfl))⟩
 f47:=Tryz.func139.trans (congrArg some (by kernel_rfl))
 f48:=Tryz.func140.trans (congrArg some (by kernel_rfl))
 f49:=⟨Tryz.f148.name,by decide,Tryz.func148.trans (congrArg some (by kernel_rfl))⟩
 f50:=⟨Tryz.f149.name,by decide,Tryz.func149.trans (congrArg some (by kernel_rfl))⟩
 f57:=⟨Tryz.f161.name,by decide,Tryz.func161.trans (congrArg some (by kernel_rfl))⟩
 t0:=Tryz.underlying0
 a0:=Tryz.isAgg0
 z0:=Tryz.sizeOf0
 v0:=Tryz.zeroValue0
 t3:=Tryz.underlying3
 a3:=Tryz.isAgg3
 z3:=Tryz.sizeOf3
 v3:=Tryz.zeroValue3
 t4:=Tryz.underlying4
 a4:=Tryz.isAgg4
 z4:=Tryz.sizeOf4
 v4:=Tryz.zeroValue4
 t5:=Tryz.underlying5
 a5:=Tryz.isAgg5
 z5:=Tryz.sizeOf5
 v5:=Tryz.zeroValue5
 t9:=Tryz.underlying9
 a9:=Tryz.isAgg9
 z9:=Tryz.sizeOf9
 v9:=Tryz.zeroValue9
 t22:=Tryz.underlying28
 a22:=Tryz.isAgg28
 z22:=Tryz.sizeOf28
 v22:=Tryz.zeroValue28
 t25:=Tryz.underlying112
 a25:=Tryz.isAgg112
 z25:=Tryz.sizeOf112
 v25:=Tryz.zeroValue112
 t39:=Tryz.underlying79
 a39:=Tryz.isAgg79
 z39:=Tryz.sizeOf79
 v39:=Tryz.zeroValue79
 t45:=Tryz.underlying150
 a45:=Tryz.isAgg150
 z45:=Tryz.sizeOf150
 v45:=Tryz.zeroValue150
 t46:=Tryz.underlying151
 a46:=Tryz.isAgg151
 z46:=Tryz.sizeOf151
 v46:=Tryz.zeroValue151
 t50:=Tryz.underlying43
 a50:=Tryz.isAgg43
 z50:=Tryz.sizeOf43
 v50:=Tryz.zeroValue43
 t53:=Tryz.underlying82
 a53:=Tryz.isAgg82
 z53:=Tryz.sizeOf82
 v53:=Tryz.zeroValue82
 t55:=Tryz.underlying141
 a55:=Tryz.isAgg141
 z55:=Tryz.sizeOf141
 v55:=Tryz.zeroValue141
 t66:=Tryz.underlying179
 a66:=Tryz.isAgg179
 z66:=Tryz.sizeOf179
 v66:=Tryz.zeroValue179
 t70:=Tryz.underlying183
 a70:=Tryz.isAgg183
 z70:=Tryz.sizeOf183
 v70:=Tryz.zeroValue183
 t76:=Tryz.underlying204
 a76:=Tryz.isAgg204
 z76:=Tryz.sizeOf204
 v76:=Tryz.zeroValue204
 t77:=Tryz.underlying205
 a77:=Tryz.isAgg205
 z77:=Tryz.sizeOf205
 v77:=Tryz.zeroValue205 }
end Go.Proofs
namespace Go.Proofs.YtlhojoefhannnaaGreat
open Go.Shelf Go.RowKit Go.Lib Go.Sort NumB
structure iE where
 x:Int
 k:Int
 v:Int
 s:ByteArray
 ng:Bool
 A:Option Addr
 n:Nat
 c:Nat
 B:Option Addr
 m:Nat
 d:Nat
 X:Option Addr
 l:Nat
 e:Nat
instance:Inhabited iE:=⟨⟨0,0,0,⟨#[]⟩,false,none,0,0,none,0,0,none,0,0⟩⟩
def iE.cs (b:iE):List Value:=[.int .i64 b.k,.int .i64 b.v,.string b.s,.bool b.ng,.slice b.A b.n b.c,.slice b.B b.m b.d,.slice b.X b.l b.e]
def iE.enc (b:iE):List Value:=.int .i64 b.x::b.cs
def qH (a b:iE):Int:=cK a.x b.x
theorem jF (a b:iE):ltOf qH a b=decide (a.x<b.x):=by
 unfold ltOf qH;by_cases h:a.x<b.x
 ·simp[h,jI]
 ·simp[h,jI]
theorem u9:SWO (ltOf qH) where
 irrefl x:=by rw[jF];simp
 trans x y z h1 h2:=by rw[jF]at *;simp at *;omega
 ntrans x y z h1 h2:=by rw[jF]at *;simp at *;omega
theorem qi (x y:iE) (W:World):Calls Tryz.prog 65 #[.agg x.enc.toArray,.agg y.enc.toArray] W fun e w'=>e=.returned (.int .i64 (qH x y))/\∃ q os',w'=grow (W.drewN q) os':=by
 have HC:Hid (∀ W,Calls Tryz.prog 16 #[.int .i64 x.x,.int .i64 y.x] W fun e w'=>e=.returned (.int .i64 (qH x y))/\w'=W):=fun W=>j2 x.x y.x W;generalize qH x y=r at*;obtain⟨x0,x1,x2,x3,x4,x5,x6,x7,x8,x9,x10,x11,x12,x13⟩:=x;obtain⟨y0,y1,y2,y3,y4,y5,y6,y7,y8,y9,y10,y11,y12,y13⟩:=y;unfold iE.enc iE.cs;dsimp only at HC ⊢;go_enter Tryz.func65,Tryz.ntmps65;go_wp2_with fail;refine (HC.out _).mono ?_;rintro e w1 ⟨rfl,rfl⟩;go_wp2_with fail;go_ret;exact⟨rfl,0,_,by rw[alloc_eq_grow,alloc_eq_grow,grow_grow];rfl⟩
theorem m9 {α:Type} [Inhabited α] (enc:α->List Value) (k:Nat) (w:World) (g n:Nat) (d:Array α) (os:Array Obj):w.grownBy (sortWorldK enc k w g 0 n d os) (some g):=by
 unfold sortWorldK;refine⟨rfl,rfl,rfl,by simp[putRowK,putRow,mapBlock,ahead],fun i hi hne=>?_⟩;rw[heap_grow_old _ _ (by simpa[putRowK,putRow,mapBlock,ahead] using hi)];have:g≠i:=fun e=>hne (by rw[e]);simp[putRowK,putRow,mapBlock,ahead,Array.getElem?_modify,this]
theorem ux (g cap:Nat) (ds:List iE) (w:World) (hH:HoldsK iE.enc 8 w g 0 ds.toArray) (hg:g<w.heap.size) (hsz:ds.length<4611686018427387904):
 Calls Tryz.prog 64 #[.slice (some ⟨g,0,none⟩) ds.length cap,.func (.func 65) #[] #[]] w fun e w'=>e=.returned (.tuple #[])/\∃ es:List iE,es.Perm ds/\es.Pairwise (fun a b=>¬b.x<a.x)/\w.grownBy w' (some g)/\∀ i (h:i<es.length) q,q<8->w'.cell? ⟨g,i*8+q,none⟩=(es[i]).enc[q]?:=by
 have h:=AnyQ.slices_SortFunc Tryz.sortB 8 Tryz.isAgg37 Tryz.sizeOf37 iE.enc (fun _=>rfl) (fun x v hv=>by
  simp only[iE.enc,iE.cs,List.mem_cons,List.not_mem_nil,or_false]at hv;rcases hv with rfl|rfl|rfl|rfl|rfl|rfl|rfl|rfl<;>rfl) qH u9 65 #[] g 0 cap ds.toArray w (enters_of Tryz.func65 (by kernel_rfl) rfl) (fun _ _ _ _ x y=>qi x y _) hH hg (by simpa using hsz)
 have h2:Calls Tryz.prog 64 #[.slice (some ⟨g,0,none⟩) ds.length cap,.func (.func 65) #[] #[]] w _:=h;refine h2.mono ?_;rintro e w' ⟨rfl,d',n,os,⟨hs,_,hp⟩,hso,rfl⟩;have hs':d'.size=ds.length:=by simpa using hs
 refine⟨rfl,d'.toList,?_,?_,m9 _ _ _ _ _ _ _,fun i hi q hq=>?_⟩
 ·simpa[Array.extract_eq_self_of_le,hs'] using hp
 ·rw[List.pairwise_iff_getElem];intro i j hi hj hij;have:=hso i j (Nat.zero_le _) hij (by simpa[hs'] using hj);rw[jF,getElem!_pos d' i (by simpa using hi),getElem!_pos d' j (by simpa using hj)]at this;simpa using this
 ·have hk:=holdsK_sortWorldK iE.enc 8 w g 0 n ds.toArray d' os hg hH (by simpa using hs');have:=hk.cell (i:=i) (c:=q) (by simpa using hi) hq;have e1:=this.1;simp only[Nat.zero_add]at e1;rw[e1];have hl:q<((d'[i]!).enc).length:=hq;rw[getElem!_pos d' i (by simpa using hi)]at hl ⊢;rw[getElem!_pos _ q hl];simp[List.getElem?_eq_getElem hl]
end Go.Proofs.YtlhojoefhannnaaGreat
