/- nat.Shr: a shift to the right, and whether it is exact. Conditions: at most 100000 limbs and bits. And 4 more texts. -/
import Derived.Deep.CutBlock
import Derived.Lib.ItoaNum
import Derived.Laws.CopyOwn
import Derived.Test.YtlhojoefhannnaaGreatJx2
set_option linter.unusedVariables false
set_option linter.unusedSimpArgs false
set_option maxRecDepth 100000
set_option maxHeartbeats 51200000
namespace Go.Proofs.YtlhojoefhannnaaGreat
open Go.Proofs.Tryz Go.RowKit NumB
theorem xw (a b Z s:Nat) (d:s<32):((a+4294967296*b) / 2 ^ s) % 4294967296=((a+4294967296*(b+4294967296*Z)) / 2 ^ s) % 4294967296:=by
 have e:(4294967296:Nat)=2 ^ s*2 ^ (32-s):=by rw[<-Nat.pow_add,Nat.add_sub_cancel' (by omega)]
 have c:a+4294967296*(b+4294967296*Z)=(a+4294967296*b)+2 ^ s*(2 ^ (32-s)*Z*4294967296):=by
  rw[Nat.mul_add,<-Nat.add_assoc]
  congr 1
  rw[<-Nat.mul_assoc (2 ^ s),<-Nat.mul_assoc (2 ^ s),<-e,Nat.mul_comm 4294967296 (4294967296*Z)]
 rw[c,Nat.add_mul_div_left _ _ (Nat.pow_pos (by omega)),Nat.add_mul_mod_self_right]
theorem sx (V P Y D S W y a:Nat) (b:0<W) (c:Y=y+W*a) (f:y<W) (d:V+P*(Y / S)=D):(V+P*(Y / S % W))+(P*W)*(a / S)=D:=by
 have e:a / S=Y / S / W:=by
  rw[Nat.div_div_eq_div_mul,Nat.mul_comm S W,<-Nat.div_div_eq_div_mul,c,Nat.add_mul_div_left _ _ b,Nat.div_eq_of_lt f,Nat.zero_add]
 rw[e,<-d,Nat.mul_assoc,Nat.add_assoc,<-Nat.mul_add,Nat.mod_add_div]
theorem wk (x T b a r s W:Nat) (f:T<b) (l:∃ q,W=2 ^ s*q) (g:x=T+b*(a+W*r)):x % (b*2 ^ s)=0↔T=0/\a % 2 ^ s=0:=by
 have i:x % b=T:=by rw[g,Nat.add_mul_mod_self_left,Nat.mod_eq_of_lt f]
 have j:x / b=a+W*r:=by rw[g,Nat.add_mul_div_left _ _ (by omega),Nat.div_eq_of_lt f,Nat.zero_add]
 obtain⟨q,rfl⟩:=l;have k:(a+2 ^ s*q*r) % 2 ^ s=a % 2 ^ s:=by rw[Nat.mul_assoc,Nat.add_mul_mod_self_left]
 rw[Nat.mod_mul,i,j,k];constructor
 ·intro h;have c:T=0:=by omega
  refine⟨c,?_⟩;have d:b*(a % 2 ^ s)=0:=by omega
  rcases Nat.mul_eq_zero.1 d with e|e
  ·omega
  ·exact e
 ·rintro⟨c,d⟩;rw[c,d];simp
theorem AX (a s:Nat):a &&& (2 ^ s-1)=a % 2 ^ s:=Nat.and_two_pow_sub_one_eq_mod a s
def gZ (x n:Nat):Bool:=decide (x % 2 ^ n=0)
theorem kV (xs:List Nat) (v:Value) (w:World) (h:Sl .u32 w v xs) (i:Ok ai xs):
 Calls prog 170 #[v] w fun e w'=>∃ g,e=.returned g/\aF w g (val ai xs)/\w=w':=by
 obtain⟨A,c,rfl,b,d,f⟩:=h;refine (iq xs A _ c w _ f i b d).mono ?_;rintro e w' ⟨m,rfl,a,j,rfl⟩;exact⟨_,rfl,Sl.of_rd f a b d j,rfl⟩
theorem nM {x k s p n l:Nat} {xs:List Nat} (d:val ai xs=x) (b:Ok ai xs) (g:xs.length=l) (f:k<l) (i:s<32) (c:xs.getD k 0=p) (a:n=32*k+s):
 gZ x n=(decide (val ai (xs.take k)=0)&&decide (p % 2 ^ s=0)):=by
 have h:=wk x (val ai (xs.take k)) (ai ^ k) p (val ai (xs.drop (k+1))) s ai (cC b (by omega)) ⟨2 ^ (32-s),by rw[<-Nat.pow_add,Nat.add_sub_cancel' (by omega)];rfl⟩ (by rw[<-d,bK ai xs k,ar ai xs k,c]);have e:ai ^ k*2 ^ s=2 ^ n:=by rw[a,Nat.pow_add,Nat.pow_mul];rfl
 rw[e]at h;unfold gZ;rw[<-Bool.decide_and];exact decide_eq_decide.2 h
theorem sw (p s:Nat) (c:p<4294967296) (d:s<32):bits .and .u32 (p:Int) (2 ^ s-1)=((p % 2 ^ s:Nat):Int):=by
 have a:(1:Nat)<=2 ^ s:=Nat.one_le_two_pow;have b:(2:Nat) ^ s<=2 ^ 31:=Nat.pow_le_pow_right (by omega) (by omega);have e:((2:Int) ^ s-1)=((2 ^ s-1:Nat):Int):=by rw[<-ot];omega
 rw[e];have h:=u32_and (p:Int) ((2 ^ s-1:Nat):Int) (by omega) (by omega) (by omega) (by omega);rw[Int.toNat_natCast,Int.toNat_natCast,AX]at h;exact h
theorem su (p q s:Nat):((q:Int)*4294967296+p) / 2 ^ s % 4294967296=(((p+4294967296*q) / 2 ^ s % 4294967296:Nat):Int):=by
 have e:(q:Int)*4294967296+p=((p+4294967296*q:Nat):Int):=by omega
 rw[e,<-ot,<-Int.natCast_ediv];generalize (p+4294967296*q) / 2 ^ s=z;exact (fg z).1
theorem iV {xs a:List Nat} {j k s p q D:Nat} (h:j<a.length) (i:Ok ai xs) (m:s<32) (e:xs.getD (j+k) 0=p) (l:xs.getD (j+k+1) 0=q)
 (f:val ai (a.take j)+ai ^ j*(val ai (xs.drop (k+j)) / 2 ^ s)=D):
 val ai ((a.set j ((p+4294967296*q) / 2 ^ s % 4294967296)).take (j+1))+ai ^ (j+1)*(val ai (xs.drop (k+(j+1))) / 2 ^ s)=D:=by
 have b:=ar ai xs (j+k);have d:=ar ai xs (j+k+1);rw[e]at b;rw[l]at d;have c:=xw p q (val ai (xs.drop (j+k+1+1))) s m;have g:ai=4294967296:=rfl;rw[<-g]at c ⊢;rw[<-d,<-b]at c;rw[show k+j=j+k from by omega]at f;rw[ap,cw _ _ _ _ zA,bi _ _ _ h,c,Nat.pow_succ,show k+(j+1)=j+k+1 from by omega];exact sx _ _ _ _ _ _ p _ (by decide) b (by rw[<-e];exact i.getD (by decide) _) f
theorem Cn {xs a:List Nat} {l k s x n:Nat} (i:xs.length=l) (d:Ok ai xs) (h:k<l) (f:a.length=l-k) (g:val ai xs=x) (c:n=32*k+s)
 (b:val ai (a.take (l-k))+ai ^ (l-k)*(val ai (xs.drop (k+(l-k))) / 2 ^ s)=val ai (xs.drop k) / 2 ^ s):val ai a=x / 2 ^ n:=by
 rw[aM ai a (by omega),List.drop_eq_nil_of_le (by omega)]at b;rw[val_nil,Nat.zero_div,Nat.mul_zero,Nat.add_zero]at b;have e:ai ^ k*2 ^ s=2 ^ n:=by rw[c,Nat.pow_add,Nat.pow_mul];rfl
 rw[b,<-e,<-Nat.div_div_eq_div_mul,<-g,bK ai xs k,Nat.add_mul_div_left _ _ (Nat.pow_pos (by decide)),Nat.div_eq_of_lt (cC d (by omega)),Nat.zero_add]
theorem Ca (s:Nat) (c:s<32):IntKind.u32.wrap ((2:Int) ^ s)=2 ^ s:=by
 have a:(1:Nat)<=2 ^ s:=Nat.one_le_two_pow;have b:(2:Nat) ^ s<=2 ^ 31:=Nat.pow_le_pow_right (by omega) (by omega);rw[<-ot,IntKind.wrap_u32];omega
theorem pI (s:Nat) (c:s<32):IntKind.u32.wrap ((2:Int) ^ s-1)=2 ^ s-1:=by
 have a:(1:Nat)<=2 ^ s:=Nat.one_le_two_pow;have b:(2:Nat) ^ s<=2 ^ 31:=Nat.pow_le_pow_right (by omega) (by omega);rw[<-ot,IntKind.wrap_u32];omega
theorem Cm (x n:Nat) (va:Value) (w:World) (ha:aF w va x) (hl:(aj ai x).length<=100000) (hn:n<=100000):
 Calls prog 169 #[va,.int .i64 (n:Int)] w fun e w'=>∃ v,e=.returned (.tuple #[v,.bool (gZ x n)])/\aF w' v (x / 2 ^ n)/\zZ w w':=by
 obtain⟨A,c,rfl,hc,hm,hr⟩:=ha;unfold maxLen at hm;obtain⟨k,s,hk,hs,d,S⟩:∃ k s:Nat,(n:Int) / 32=(k:Int)/\(n:Int) % 32=(s:Int)/\s<32/\Yd (n=32*k+s):=⟨n / 32,n % 32,by omega,by omega,by omega,by unfold Yd;omega⟩;have c7:k<=100000:=by have:=S.o;omega
 have X:Yd ((aj ai x).length=0↔x=0):=by
  rw[List.length_eq_zero_iff];exact dc aI
 have HX:=zH (aR aI x);have D:=zH (bg aI x);generalize aj ai x=z at*;generalize a1:z.length=l at*;have J:=zH a1;have HR:=zH hr;clear a1 hr;by_cases c8:l<=k
 ·have E:x<2 ^ n:=by
   have h1:=gM D.o;rw[HX.o,J.o]at h1;have h2:ai ^ l<=2 ^ n:=by
    rw[S.o,show ai=2 ^ 32 from rfl,<-Nat.pow_mul];exact Nat.pow_le_pow_right (by omega) (by omega)
   omega
  have HD:Yd (x / 2 ^ n=0):=Nat.div_eq_of_lt E;by_cases h0:l=0
  ·subst h0;have HE:Yd (gZ x n=true):=by
    unfold gZ;rw[Nat.mod_eq_of_lt E];exact decide_eq_true (X.o.1 rfl)
   clear E hs;have a9:(((0:Nat):Int)==0)=true:=rfl;go_enter func169,ntmps169
   go_wp2
   go_ret2
   rw[HE.o,HD.o];exact⟨_,rfl,by unfold aF;rw[bd];exact (aW.nil_ (B:=0) (T:=0) w).sl,Below.refl _ _⟩
  ·have HE:Yd (gZ x n=false):=by
    unfold gZ;rw[Nat.mod_eq_of_lt E];exact decide_eq_false (fun h=>h0 (X.o.2 h))
   clear E hs;have a9:((l:Int)==0)=false:=zL (by omega);go_enter func169,ntmps169
   go_wp2
   go_ret2
   rw[HE.o,HD.o];exact⟨_,rfl,by unfold aF;rw[bd];exact (aW.nil_ (B:=0) (T:=0) w).sl,Below.refl _ _⟩
 ·obtain⟨b,o,p,rfl,hb,r,q⟩:=HR.o.at_ (i:=k) (by omega);have hp:p<4294967296:=by rw[<-r];exact D.o.getD (by decide) _
  have HP:=zH r;clear r;have b2:(0:Int)<=(k:Int):=by omega
  have b3:(k:Int)<=(c:Int):=by omega
  have V:Yd ((aj ai (val ai (z.take k))).length=0↔val ai (z.take k)=0):=by
   constructor
   ·intro e;exact (dc aI).1 (zF e)
   ·intro e;rw[e,bd];rfl
  have W:Yd (Sl .u32 w (.slice (some ⟨b,o,none⟩) k c) (z.take k)):=Sl.of_rd HR.o (by omega) hc (by unfold maxLen;omega) rfl;go_enter func169,ntmps169
  go_upto_region 4 with fail
  go_cut [5] (fun s5 wx=>s5=.bool (gZ x n)/\Yd (zZ w wx))
  case first=>
   by_cases Q:val ai (z.take k)=0
   ·have hq:(((aj ai (val ai (z.take k))).length:Int)==0)=true:=by
     apply beq_iff_eq.2
     have:=V.o.2 Q;omega
    have HT:=zH Q;clear Q;have c0:(n:Int).tmod 32=(s:Int):=by rw[Int.tmod_eq_emod_of_nonneg (by omega)];exact hs
    have c9:(k:Int)<(l:Int):=by omega
    go_region_held3 (fun w'=>w'.cell? ⟨b,o+k,none⟩=some (.int .u32 (p:Int))) (first|exact q|exact b0)
     (first
      |(go_at_call 49;refine (dt (z.take k) _ _ (by exact W.o) (by rw[List.length_take,J.o];omega)).mono ?_;rintro e w1 ⟨v1,rfl,a,I⟩;have b0:w1.cell? ⟨b,o+k,none⟩=some (.int .u32 (p:Int)):=(I.cell hb).trans q)
      |(go_at_call 170;refine (kV (z.take k) _ _ (by exact a.sl) (D.o.take _)).mono ?_;rintro e w2 ⟨v2,rfl,⟨A2,c2,rfl,b1,b5,b8⟩,rfl⟩))
    clear c0;go_wp2_with fail
    go_meet
    case rel=>
     refine⟨?_,je I⟩;rw[nM HX.o D.o J.o (by omega) d HP.o S.o,decide_eq_true HT.o,Bool.true_and]
     congr 1
     rw[Bool.eq_iff_iff,beq_iff_eq,decide_eq_true_iff];rw[Ca s d,pI s d,sw p s hp d];omega
   ·have hq:(((aj ai (val ai (z.take k))).length:Int)==0)=false:=by
     apply zL
     intro e;exact Q (V.o.1 (by omega))
    have HT:=zH Q;clear Q
    (refine wp_region_any (by kernel_rfl) ?_;(try (change wpAny _ _ _ _ _ _ _ (World.drew _))))
    (refine wpAny_take (i:=0) (v:=?_) rfl (by kernel_rfl) (by kernel_rfl) (by kernel_rfl) (fun _ _ _ h=>h) (Or.inl ⟨by kernel_rfl,?_⟩) ?_;rotate_left;((intro w;go_simp)<;>(with_reducible rfl));(try simp only[Act.put,L1,L2]))
    (refine wpAny_take (i:=1) (v:=?_) rfl (by kernel_rfl) (by kernel_rfl) (by kernel_rfl) (fun _ _ _ h=>h) (Or.inl ⟨by kernel_rfl,?_⟩) ?_;rotate_left;((intro w;go_simp)<;>(with_reducible rfl));(try simp only[Act.put,L1,L2]))
    (refine wpAny_take (i:=2) (v:=?_) rfl (by kernel_rfl) (by kernel_rfl) (by kernel_rfl) (fun _ _ _ h=>h) (Or.inl ⟨by kernel_rfl,?_⟩) ?_;rotate_left;((intro w;go_simp)<;>(with_reducible rfl));(try simp only[Act.put,L1,L2]))
    (refine wpAny_ready (rs:=[3]) (by kernel_rfl) (by simp) ?_;refine AllReady.cons rfl (fun K hK=>?_) AllReady.nil;go_simp)
    refine (dt (z.take k) _ _ (by exact W.o) (by rw[List.length_take,J.o];omega)).mono ?_;rintro e w1 ⟨v1,rfl,a,I⟩
    (refine hK _ _ ?_;clear hK K;(try simp only[Act.put,L1,L2]))
    (refine wpAny_ready (rs:=[4]) (by kernel_rfl) (by simp) ?_;refine AllReady.cons rfl (fun K hK=>?_) AllReady.nil;go_simp)
    refine (kV (z.take k) _ _ (by exact a.sl) (D.o.take _)).mono ?_;rintro e w2 ⟨v2,rfl,⟨A2,c2,rfl,b1,b5,b8⟩,rfl⟩
    (refine hK _ _ ?_;clear hK K;(try simp only[Act.put,L1,L2]))
    (refine wpAny_take (i:=5) (v:=?_) rfl (by kernel_rfl) (by kernel_rfl) (by kernel_rfl) (fun _ _ _ h=>h) (Or.inl ⟨by kernel_rfl,?_⟩) ?_;rotate_left;((intro w;go_simp)<;>(with_reducible rfl));(try simp only[Act.put,L1,L2]))
    (refine wpAny_take (i:=6) (v:=?_) rfl (by kernel_rfl) (by kernel_rfl) (by kernel_rfl) (fun _ _ _ h=>h) (Or.inl ⟨by kernel_rfl,?_⟩) ?_;rotate_left;((intro w;go_simp)<;>(with_reducible rfl));(try simp only[Act.put,L1,L2]))
    (refine wpAny_take (i:=7) (v:=?_) rfl (by kernel_rfl) (by kernel_rfl) (by kernel_rfl) (fun _ _ _ h=>h) (Or.inl ⟨by kernel_rfl,?_⟩) ?_;rotate_left;((intro w;go_simp)<;>(with_reducible rfl));(try simp only[Act.put,L1,L2]))
    (refine wpAny_take (i:=8) (v:=undef) rfl (by kernel_rfl) (by kernel_rfl) (by kernel_rfl) (fun _ _ _ h=>h) (Or.inr ⟨by kernel_rfl,rfl⟩) ?_;(try simp only[Act.put,L1,L2]))
    (refine wpAny_take (i:=9) (v:=undef) rfl (by kernel_rfl) (by kernel_rfl) (by kernel_rfl) (fun _ _ _ h=>h) (Or.inr ⟨by kernel_rfl,rfl⟩) ?_;(try simp only[Act.put,L1,L2]))
    (refine wpAny_take (i:=10) (v:=undef) rfl (by kernel_rfl) (by kernel_rfl) (by kernel_rfl) (fun _ _ _ h=>h) (Or.inr ⟨by kernel_rfl,rfl⟩) ?_;(try simp only[Act.put,L1,L2]))
    (refine wpAny_take (i:=11) (v:=undef) rfl (by kernel_rfl) (by kernel_rfl) (by kernel_rfl) (fun _ _ _ h=>h) (Or.inr ⟨by kernel_rfl,rfl⟩) ?_;(try simp only[Act.put,L1,L2]))
    (refine wpAny_take (i:=12) (v:=undef) rfl (by kernel_rfl) (by kernel_rfl) (by kernel_rfl) (fun _ _ _ h=>h) (Or.inr ⟨by kernel_rfl,rfl⟩) ?_;(try simp only[Act.put,L1,L2]))
    (refine wpAny_take (i:=13) (v:=undef) rfl (by kernel_rfl) (by kernel_rfl) (by kernel_rfl) (fun _ _ _ h=>h) (Or.inr ⟨by kernel_rfl,rfl⟩) ?_;(try simp only[Act.put,L1,L2]))
    (refine wpAny_take (i:=14) (v:=undef) rfl (by kernel_rfl) (by kernel_rfl) (by kernel_rfl) (fun _ _ _ h=>h) (Or.inr ⟨by kernel_rfl,rfl⟩) ?_;(try simp only[Act.put,L1,L2]))
    (refine wpAny_take (i:=15) (v:=undef) rfl (by kernel_rfl) (by kernel_rfl) (by kernel_rfl) (fun _ _ _ h=>h) (Or.inr ⟨by kernel_rfl,rfl⟩) ?_;(try simp only[Act.put,L1,L2]))
    (refine wpAny_take (i:=16) (v:=undef) rfl (by kernel_rfl) (by kernel_rfl) (by kernel_rfl) (fun _ _ _ h=>h) (Or.inr ⟨by kernel_rfl,rfl⟩) ?_;(try simp only[Act.put,L1,L2]))
    (refine wpAny_take (i:=17) (v:=undef) rfl (by kernel_rfl) (by kernel_rfl) (by kernel_rfl) (fun _ _ _ h=>h) (Or.inr ⟨by kernel_rfl,rfl⟩) ?_;(try simp only[Act.put,L1,L2]))
    (refine wpAny_take (i:=18) (v:=?_) rfl (by kernel_rfl) (by kernel_rfl) (by kernel_rfl) (fun _ _ _ h=>h) (Or.inl ⟨by kernel_rfl,?_⟩) ?_;rotate_left;((intro w;go_simp)<;>(with_reducible rfl));(try simp only[Act.put,L1,L2]))
    (refine wpAny_take (i:=19) (v:=?_) rfl (by kernel_rfl) (by kernel_rfl) (by kernel_rfl) (fun _ _ _ h=>h) (Or.inl ⟨by kernel_rfl,?_⟩) ?_;rotate_left;((intro w;go_simp)<;>(with_reducible rfl));(try simp only[Act.put,L1,L2]))
    (refine wpAny_done (by kernel_rfl) ?_ _)
    go_wp2_with fail
    go_meet
    case rel=>
     refine⟨?_,je I⟩;rw[nM HX.o D.o J.o (by omega) d HP.o S.o,decide_eq_false HT.o];rfl
  case rest=>
   obtain⟨rfl,G⟩:=hcut;clear q b2 b3;obtain⟨i0,a0,a2,a3,a4⟩:=info_parts ic;have HI:=zH a0;have a6:=zH a2;have a7:=zH a3;have a8:=zH a4;clear a0 a2 a3 a4
   go_wp2_with (at_make;refine wpList_make_full _ rfl _ _ 22 rfl w.heap.size 82 i0 (.int .u32 0) 1 underlying22 HI.o a6.o a7.o .i64 .i64 _ _ (l-k) rfl rfl (by omega) (by omega) (by rw[a8.o];omega) (by unfold maxLen;omega) G.o.size ?_;intro w1 a Z)
   obtain⟨Y,O⟩:∃ Y,Y=wc.heap.size:=⟨_,rfl⟩;rw[<-O]at a ⊢;have HG:Yd (w.heap.size<=Y):=by rw[O];exact G.o.size
   have a5:=zH (cL.made a);have HB:=zH (G.o.grown Z G.o.size (by simp));clear a Z O
   go_loopg [44] (l-k) (fun g i wr=>∃ (j:Nat) (F:List Nat),g+j+k=l/\i=.int .i64 (j:Int)/\Yd (cL .u32 82 wr w.heap.size Y (l-k) (l-k) F)/\Yd (zZ w wr)/\Yd (val ai (F.take j)+ai ^ j*(val ai (z.drop (k+j)) / 2 ^ s)=val ai (z.drop k) / 2 ^ s)/\Yd (Ok ai F))
   case atStart=>exact⟨0,_,by omega,rfl,a5.o,HB.o,by unfold Yd;simp,bR (by decide)⟩
   case round=>
    obtain⟨j,F,c5,rfl,f,C,HV,L⟩:=hrel;by_cases hj:k+j<l
    ·obtain⟨b',o',p',N,c1,r,q⟩:=(HR.o.below C.o).at_ (i:=j+k) (by omega)
     injection N with N
     injection N with e1 e2
     subst e1 e2;have b6:p'<4294967296:=by rw[<-r];exact D.o.getD (by decide) _
     have U:=zH r;clear r;obtain⟨y,hy⟩:∃ y:Nat,wr.cell? ⟨Y,j,none⟩=some (.int .u32 (y:Int)):=⟨_,f.o.cell (by omega)⟩;have hf:=f.o.frozen j;by_cases c6:j+k+1<l
     ·obtain⟨b',o',q',N,c3,P,c4⟩:=(HR.o.below C.o).at_ (i:=j+k+1) (by omega)
      injection N with N
      injection N with e1 e2
      subst e1 e2;have b7:q'<4294967296:=by rw[<-P];exact D.o.getD (by decide) _
      have M:=zH P;clear P;have d0:=m9 q' p' b7 b6
      go_wp2
      go_roundg (gk-1)
      case measure=>omega
      case rel=>
       rw[su];exact⟨j+1,_,by omega,by go_num,f.o.stored _ _,C.o.setCell HG.o _,iV (by rw[f.o.1];omega) D.o d U.o M.o HV.o,L.o.set (Nat.mod_lt _ (by decide))⟩
     ·have M:Yd (z.getD (j+k+1) 0=0):=eZ (by rw[J.o];omega)
      go_wp2
      go_roundg (gk-1)
      case measure=>omega
      case rel=>
       have e:=su p' 0 s;rw[Int.natCast_zero,Int.zero_mul,Int.zero_add]at e;rw[e];exact⟨j+1,_,by omega,by go_num,f.o.stored _ _,C.o.setCell HG.o _,iV (by rw[f.o.1];omega) D.o d U.o M.o HV.o,L.o.set (Nat.mod_lt _ (by decide))⟩
    ·obtain rfl:j=l-k:=by omega
     go_wp2_with (go_at_call 170;refine (iq F _ (l-k) (l-k) _ _ f.o.rd L.o zA (by unfold maxLen;omega)).mono ?_;rintro e w' ⟨m,rfl,b4,ht,rfl⟩)
     go_ret2
     rw[Cn J.o D.o (by omega) f.o.1 HX.o S.o HV.o]at ht;exact⟨_,rfl,Sl.of_rd f.o.rd b4 zA (by unfold maxLen;omega) ht,C.o⟩
end Go.Proofs.YtlhojoefhannnaaGreat
namespace Go.Proofs.YtlhojoefhannnaaGreat.NumB
theorem AN (B:Nat) (xs:List Nat) {n:Nat} (e:2<=n) (d:xs.length=n):
 val B xs=(xs.getD (n-1) 0*B+xs.getD (n-2) 0)*B ^ (n-2)+val B (xs.take (n-2)):=by
 have c:=bK B xs (n-2);have b:=ar B xs (n-2);have a:=ar B xs (n-2+1);rw[List.drop_eq_nil_of_le (i:=n-2+1+1) (by omega),val_nil,Nat.mul_zero,show n-2+1=n-1 from by omega]at a;rw[Nat.add_zero]at a;rw[show n-2+1=n-1 from by omega,a]at b;rw[c,b,Nat.mul_comm (B ^ (n-2)),Nat.add_comm (xs.getD (n-2) 0),Nat.mul_comm B,Nat.add_comm]
theorem CB {U V t v R c b g:Nat} (f:V=v*R+b) (e:U=t*R+c) (i:c<R) (h:t<g*v) (a:0<V):U / V<g:=by
 rw[Nat.div_lt_iff_lt_mul a,e,f];have d:(t+1)*R<=g*v*R:=Nat.mul_le_mul_right _ h;have j:g*(v*R+b)=g*v*R+g*b:=by rw[Nat.mul_add,Nat.mul_assoc]
 rw[Nat.add_mul,Nat.one_mul]at d;omega
theorem Ds {U V t v R k a g:Nat} (f:V=v*R+a) (d:U=t*R+k) (j:a<R) (h:g*v<=t) (i:g<=v) (b:0<V):g<=U / V+1:=by
 rcases Nat.eq_zero_or_pos g with c|c
 ·rw[c];exact Nat.zero_le _
 have l:g-1<=U / V:=by
  rw[Nat.le_div_iff_mul_le b,d];have e:(g-1)*V+V=g*V:=by
   rw[<-Nat.succ_mul];congr 1;omega
  have m:g*V=g*v*R+g*a:=by rw[f,Nat.mul_add,Nat.mul_assoc]
  have o:g*v*R<=t*R:=Nat.mul_le_mul_right _ h;have p:g*a<=v*R:=Nat.mul_le_mul i (by omega);omega
 omega
theorem zg {g r v1 t b u1 B:Nat} (k:t=b*B+u1) (d:u1<B) (a:b<=v1) (i:g*v1+r=t) (j:B<=r) (e:0<v1):g<B:=by
 rcases Nat.lt_or_ge g B with h|h
 ·exact h
 ·have c:B*v1<=g*v1:=Nat.mul_le_mul_right _ h;have f:b*B<=v1*B:=Nat.mul_le_mul_right _ a;rw[Nat.mul_comm B v1]at c;omega
theorem BE {g r v1 v2 t u2 B:Nat} (a:g*v1+r=t) (h:g*v2<=r*B+u2):g*(v1*B+v2)<=t*B+u2:=by
 rw[Nat.mul_add,<-Nat.mul_assoc,<-a,Nat.add_mul];omega
theorem BF {g r v1 v2 t u2 B:Nat} (a:g*v1+r=t) (h:r*B+u2<g*v2):t*B+u2<g*(v1*B+v2):=by
 rw[Nat.mul_add,<-Nat.mul_assoc,<-a,Nat.add_mul];omega
theorem zh {g r v2 u2 B:Nat} (e:g<B) (b:v2<B) (a:B<=r):g*v2<=r*B+u2:=by
 have c:g*v2<=B*B:=Nat.mul_le_mul (by omega) (by omega);have d:B*B<=r*B:=Nat.mul_le_mul_right _ a;omega
theorem CV {U V a v1 B n:Nat} (g:a*B ^ n<=U) (d:V<(v1+1)*B ^ (n-1)) (e:U<V*B) (i:0<n) (c:0<B):a<=v1:=by
 rcases Nat.lt_or_ge v1 a with h|h
 ·exfalso;have f:(v1+1)*B ^ n<=a*B ^ n:=Nat.mul_le_mul_right _ h;have b:V*B<(v1+1)*B ^ (n-1)*B:=Nat.mul_lt_mul_of_pos_right d c;rw[Nat.mul_assoc,<-Nat.pow_succ,show (n-1).succ=n from by omega]at b;omega
 ·exact h
theorem BR {f e a P g u v c b x d B:Nat} (h:f+P*(b+c)=e+g*a) (k:u+B*d=x+(c+g*v) % B+b):
 (f+P*u)+(P*B)*(d+(c+g*v) / B)=(e+P*x)+g*(a+P*v):=by
 have i:=gF P B (c+g*v);have l:P*u+P*B*d=P*x+P*((c+g*v) % B)+P*b:=by
  rw[Nat.mul_assoc,<-Nat.mul_add,k,Nat.mul_add,Nat.mul_add]
 have j:g*(a+P*v)=g*a+P*(g*v):=by rw[Nat.mul_add,Nat.mul_left_comm]
 rw[Nat.mul_add]at h;rw[Nat.mul_add]at i;rw[Nat.mul_add,j];omega
end Go.Proofs.YtlhojoefhannnaaGreat.NumB
namespace Go.Proofs.YtlhojoefhannnaaGreat
open Go.Proofs.Tryz Go.RowKit NumB
def KD (us vs:List Nat) (n t u2 v1 v2:Nat):Prop:=
 us.length=n+1/\vs.length=n/\Ok ai us/\Ok ai vs/\2<=n/\us.getD n 0*4294967296+us.getD (n-1) 0=t/\us.getD (n-2) 0=u2/\vs.getD (n-1) 0=v1/\vs.getD (n-2) 0=v2/\2147483648<=v1/\val ai us<val ai vs*4294967296
def oO (us vs:List Nat) (g:Nat):Prop:=val ai us / val ai vs<=g/\g<=val ai us / val ai vs+1/\g<4294967296
section
variable {us vs:List Nat} {n t u2 v1 v2:Nat}
theorem KD.split (h:KD us vs n t u2 v1 v2):∃ R e f,val ai vs=(v1*4294967296+v2)*R+f/\f<R/\val ai us=(t*4294967296+u2)*R+e/\e<R:=by
 obtain⟨r,k2,k,l,a,m,o,p,q,j,v⟩:=h;refine⟨ai ^ (n-2),val ai (us.take (n-2)),val ai (vs.take (n-2)),?_,cC l (by omega),?_,cC k (by omega)⟩
 ·have:=AN ai vs a k2;rw[p,q]at this;exact this
 ·have g:=bK ai us (n-2);have b:=ar ai us (n-2);have c:=ar ai us (n-1);have d:=ar ai us n;rw[List.drop_eq_nil_of_le (i:=n+1) (by omega),val_nil,Nat.mul_zero,Nat.add_zero]at d;rw[show n-1+1=n from by omega,d]at c;rw[show n-2+1=n-1 from by omega,c,o]at b;rw[g,b,Nat.mul_comm (ai ^ (n-2)),Nat.add_comm]
  congr 2
  rw[<-m,show ai=4294967296 from rfl];omega
theorem KD.pos (h:KD us vs n t u2 v1 v2):0<val ai vs:=by
 obtain⟨R,q,r,c,e,d,f⟩:=h.split;obtain⟨g,k2,i,j,a,k,l,m,o,b,p⟩:=h;have:0<(v1*4294967296+v2)*R:=Nat.mul_pos (by omega) (by omega);omega
theorem KD.div_lt (h:KD us vs n t u2 v1 v2):val ai us / val ai vs<4294967296:=by
 rw[Nat.div_lt_iff_lt_mul h.pos,Nat.mul_comm];exact h.2.2.2.2.2.2.2.2.2.2
theorem KD.dec (h:KD us vs n t u2 v1 v2) {g r:Nat} (e:g*v1+r=t) (j:val ai us / val ai vs<=g) (a:4294967296<=g\/r*4294967296+u2<g*v2):val ai us / val ai vs<=g-1/\1<=g:=by
 have f:val ai us / val ai vs<g:=by
  rcases a with a|a
  ·exact zD h.div_lt a
  ·obtain⟨R,k,l,b,i,c,d⟩:=h.split;exact CB b c d (BF e a) h.pos
 generalize val ai us / val ai vs=q at*;omega
theorem KD.fin (h:KD us vs n t u2 v1 v2) {g r:Nat} (e:g*v1+r=t) (i:val ai us / val ai vs<=g) (f:g<4294967296) (d:g*v2<=r*4294967296+u2):oO us vs g:=by
 obtain⟨R,l,m,a,c,b,k⟩:=h.split;have j:=h.2.2.2.2.2.2.2.2.2.1;exact⟨i,Ds a b c (BE e d) (by omega) h.pos,f⟩
theorem KD.brk (h:KD us vs n t u2 v1 v2) {g r:Nat} (f:g*v1+r=t) (w:val ai us / val ai vs<=g) (l:4294967296<=r):oO us vs g:=by
 have q:=h;obtain⟨F,k2,y,m,v,z,G,A,C,x,D⟩:=q;have a:v2<4294967296:=by rw[<-C];exact m.getD (by decide) _
 have b:us.getD (n-1) 0<4294967296:=y.getD (by decide) _;have c:us.getD n 0<=v1:=by
  have o:=bK ai us n;have d:=ar ai us n;rw[List.drop_eq_nil_of_le (i:=n+1) (by omega),val_nil,Nat.mul_zero,Nat.add_zero]at d;have p:=bK ai vs (n-1);have e:=ar ai vs (n-1);rw[List.drop_eq_nil_of_le (i:=n-1+1) (by omega),val_nil,Nat.mul_zero,Nat.add_zero,A]at e;have E:=cC m (j:=n-1) (by omega);refine CV (B:=ai) (n:=n) (U:=val ai us) (V:=val ai vs) ?_ ?_ D (by omega) (by decide)
  ·rw[o,d,Nat.mul_comm];omega
  ·rw[p,e,Nat.add_mul,Nat.one_mul,Nat.mul_comm v1];omega
 have k:g<4294967296:=zg z.symm b c f l (by omega);exact h.fin f w k (zh k a l)
theorem KD.start (h:KD us vs n t u2 v1 v2) {g:Nat} {r:Nat} (w:g*v1+r=t) (y:r<v1):val ai us / val ai vs<=g:=by
 rcases Nat.lt_or_ge g (val ai us / val ai vs) with b|a
 ·exfalso;have x:(g+1)*val ai vs<=val ai us:=by
   rw[<-Nat.le_div_iff_mul_le h.pos];exact b
  obtain⟨R,F,G,c,p,d,e⟩:=h.split;have i:t+1<=(g+1)*v1:=by rw[Nat.add_mul,Nat.one_mul];omega
  have q:(t+1)*4294967296<=(g+1)*v1*4294967296:=Nat.mul_le_mul_right _ i;have k:u2<4294967296:=by
   obtain⟨z,k2,m,A,f,B,o,C,D,l,E⟩:=h;rw[<-o];exact m.getD (by decide) _
  have j:t*4294967296+u2<(g+1)*(v1*4294967296+v2):=by
   rw[Nat.mul_add (g+1),<-Nat.mul_assoc];omega
  have v:=CB c d e j h.pos;omega
 ·exact a
end
theorem jd (y:Nat) (a:y<18446744073709551616):bits .and .u64 (y:Int) 1=((y % 2:Nat):Int):=by
 have h:=u64_and (y:Int) 1 (by omega) (by omega) (by omega) (by omega);rw[Int.toNat_natCast,show (1:Int).toNat=1 from rfl,Nat.and_one_is_mod]at h;exact h
theorem AQ (p l b:Nat) (d:p<4294967296) (c:l<4294967296) (a:b<=1):
 IntKind.u64.wrap (IntKind.u64.wrap ((p:Int)-(l:Int))-(b:Int))=(((p+18446744073709551616-l-b) % 18446744073709551616:Nat):Int):=by
 rw[IntKind.wrap_u64,IntKind.wrap_u64];omega
theorem pH (p l a:Nat) (e:p<4294967296) (d:l<4294967296) (c:a<=1):
 ∃ x b:Nat,IntKind.u64.wrap (IntKind.u64.wrap ((p:Int)-(l:Int))-(a:Int)) % 4294967296=(x:Int)/\
  bits .and .u64 (IntKind.u64.wrap (IntKind.u64.wrap ((p:Int)-(l:Int))-(a:Int)) / 4294967296) 1=(b:Int)/\x<4294967296/\b<=1/\p+4294967296*b=x+l+a:=by
 rw[AQ p l a e d c];generalize f:(p+18446744073709551616-l-a) % 18446744073709551616=X;refine⟨X % 4294967296,X / 4294967296 % 2,(fg X).1,?_,by omega,by omega,by omega⟩;rw[(fg X).2,jd _ (by omega)]
theorem AZ (b cs a:List Nat) (i x:Nat) (c:i<cs.length):(b++cs++a).set (b.length+i) x=b++cs.set i x++a:=by
 rw[zJ,List.set_append_right _ _ (by omega),zJ,List.set_append_left _ _ (by omega)]
 congr 3
 omega
theorem AY (b cs a:List Nat) (i:Nat) (c:i<cs.length):(b++cs++a).getD (b.length+i) 0=cs.getD i 0:=by
 rw[zJ,List.getD_eq_getElem?_getD,List.getElem?_append_right (by omega),List.getElem?_append_left (by omega),List.getD_eq_getElem?_getD]
 congr 2
 omega
theorem fR {a w:World} {g:Nat} (h:a.grownBy w (some g)) (o:Nat) (u:Value):a.grownBy (w.setCell ⟨g,o,none⟩ u) (some g):=
 ⟨h.os,h.tape,h.output,by simpa[World.setCell] using h.size,fun i c b=>(Below.heap_setCell w ⟨g,o,none⟩ u i (by
  rintro rfl;exact b rfl)).trans (h.block i c b)⟩
theorem ri {a w:World} {b:Option Nat} (h:a.grownBy w b) (n:Nat):a.grownBy (w.drewN n) b:=⟨h.os,h.tape,h.output,h.size,h.block⟩
theorem lG {a w:World} {g:Nat} (h:a.grownBy w (some g)) {p:Addr} {v:Value} (c:a.cell? p=some v) (b:p.block≠g):w.cell? p=some v:=
 h.cell c (fun e=>b (by injection e))
theorem cP {w:World} {B f N c n e i:Nat} {b cs a:List Nat} (h:cL .u32 82 w B f N c (b++cs++a)) (k:cs.length=n+1) (d:b.length=e) (j:i<=n):
 w.cell? ⟨f,e+i,none⟩=some (.int .u32 ((cs.getD i 0:Nat):Int)):=by
 have g:=h.1;rw[zE,zE]at g;rw[h.cell (by omega),<-d,AY b cs a i (by omega)]
theorem ef {w:World} {B f N c n e i x:Nat} {b cs a:List Nat} (h:cL .u32 82 w B f N c (b++cs++a)) (j:cs.length=n+1) (d:b.length=e) (g:i<=n):
 cL .u32 82 (w.setCell ⟨f,e+i,none⟩ (.int .u32 (x:Int))) B f N c (b++cs.set i x++a):=by
 rw[<-AZ b cs a i x (by omega),d];exact h.stored _ _
theorem BQ {us cs vs:List Nat} {i c a g p q x b n:Nat} (k:cs.length=n+1) (j:i<=n) (e:us.getD i 0=p) (f:vs.getD i 0=q)
 (d:val ai (us.take i)+ai ^ i*(c+a)=val ai (cs.take i)+g*val ai (vs.take i)) (h:p+4294967296*b=x+(a+g*q) % 4294967296+c):
 val ai (us.take (i+1))+ai ^ (i+1)*(b+(a+g*q) / 4294967296)=val ai ((cs.set i x).take (i+1))+g*val ai (vs.take (i+1)):=by
 rw[ap,ap,ap,cw _ _ _ _ zA,bi _ _ _ (by omega),e,f,Nat.pow_succ];exact BR d h
theorem rI {us cs vs:List Nat} {k a c g p x b:Nat} (m:us.length=k+1) (l:cs.length=k+1) (o:vs.length=k) (h:us.getD k 0=p)
 (f:val ai (us.take k)+ai ^ k*(a+c)=val ai (cs.take k)+g*val ai (vs.take k)) (i:p+4294967296*b=x+c+a):
 val ai us+ai ^ (k+1)*b=val ai (cs.set k x)+g*val ai vs:=by
 have d:=ap ai us k;have e:=ap ai (cs.set k x) k;rw[aM ai us (by omega),h]at d;rw[aM ai (cs.set k x) (by simp;omega),cw _ _ _ _ zA,bi _ _ _ (by omega)]at e;rw[aM ai vs (by omega),Nat.mul_add]at f;have j:ai ^ k*p+ai ^ (k+1)*b=ai ^ k*x+ai ^ k*c+ai ^ k*a:=by
  rw[Nat.pow_succ,Nat.mul_assoc,<-Nat.mul_add,show ai*b=4294967296*b from rfl,i,Nat.mul_add,Nat.mul_add]
 omega
theorem yU {U V C g:Nat} (c:0<V) (h:U=C+g*V) (e:U / V<=g):g=U / V/\C=U % V:=by
 have d:g<=U / V:=by rw[Nat.le_div_iff_mul_le c];omega
 have a:g=U / V:=by
  generalize U / V=q at*;omega
 refine⟨a,?_⟩;have b:=Nat.div_add_mod U V;rw[<-a,Nat.mul_comm]at b;omega
theorem Bv {U V C g P:Nat} (b:0<V) (h:U+P=C+g*V) (f:C<P) (i:g<=U / V+1):1<=g/\g-1=U / V/\C+V=P+U % V:=by
 have c:U / V<g:=by rw[Nat.div_lt_iff_lt_mul b];omega
 have a:g=U / V+1:=by
  generalize U / V=q at*;omega
 have d:=Nat.div_add_mod U V;have e:g*V=V*(U / V)+V:=by rw[a,Nat.add_mul,Nat.one_mul,Nat.mul_comm]
 generalize U / V=q at*;refine⟨by omega,by omega,by omega⟩
theorem yy {cs b vs:List Nat} {k a x y r:Nat} (A:cs.length=k+1) (z:b.length=k+1) (C:vs.length=k) (c:Ok ai b) (p:cs.getD k 0=x) (q:x<4294967296) (l:a<=1)
 (m:val ai (cs.take k)+val ai (vs.take k)=val ai (b.take k)+ai ^ k*a) (D:y=(x+a) % 4294967296) (B:val ai cs+val ai vs=ai ^ (k+1)+r):
 val ai (b.set k y)=r:=by
 have e:=ap ai cs k;have f:=ap ai (b.set k y) k;rw[aM ai cs (by omega),p]at e;rw[aM ai (b.set k y) (by simp;omega),cw _ _ _ _ zA,bi _ _ _ (by omega)]at f;rw[aM ai vs (by omega)]at m;have v:=cC c (j:=k) (by omega);have d:ai=4294967296:=rfl;have o:4294967296<=x+a:=by
  rcases Nat.lt_or_ge (x+a) 4294967296 with h|h
  ·exfalso;have g:ai ^ k*(x+a+1)<=ai ^ k*ai:=Nat.mul_le_mul_left _ (by rw[d];omega);have i:ai ^ (k+1)=ai ^ k*ai:=Nat.pow_succ _ _;rw[Nat.mul_add,Nat.mul_add,Nat.mul_one,<-i]at g;omega
  ·exact h
 have w:ai ^ k*x+ai ^ k*a=ai ^ k*y+ai ^ (k+1):=by
  rw[<-Nat.mul_add,Nat.pow_succ,<-Nat.mul_add,d]
  congr 1
  omega
 omega
theorem yQ (t v1:Nat) (d:t<18446744073709551616) (c:2147483648<=v1):∃ a b:Nat,(t:Int).tdiv (v1:Int)=(a:Int)/\(t:Int).tmod (v1:Int)=(b:Int)/\(t:Int) / (v1:Int)=(a:Int)/\(t:Int) % (v1:Int)=(b:Int)/\a*v1+b=t/\b<v1/\a<8589934592:=by
 refine⟨t / v1,t % v1,?_,?_,?_,?_,?_,Nat.mod_lt _ (by omega),?_⟩
 ·rw[Int.tdiv_eq_ediv_of_nonneg (by omega),Int.natCast_ediv]
 ·rw[Int.tmod_eq_emod_of_nonneg (by omega),Int.natCast_emod]
 ·rw[Int.natCast_ediv]
 ·rw[Int.natCast_emod]
 ·rw[Nat.mul_comm];exact Nat.div_add_mod t v1
 ·rw[Nat.div_lt_iff_lt_mul (by omega)];have:8589934592*2147483648<=8589934592*v1:=Nat.mul_le_mul_left _ c;omega
theorem wg (G us o vs:List Nat) (h B N c d n cu cv:Nat) (A:Option Addr) (w:World) (c8:cL .u32 82 w B h N c (G++us++o)) (J:G.length=d) (hv:Rd .u32 w h A n vs)
 (t u2 v1 v2:Nat) (c6:KD us vs n t u2 v1 v2) (hn:n<=100000) (hN:N<=1000000) (g9:n+1<=cu):
 Calls prog 168 #[.slice (some ⟨h,d,none⟩) (n+1) cu,.slice A n cv] w fun e w'=>∃ a2,e=.returned (.int .u32 ((val ai us / val ai vs:Nat):Int))/\cL .u32 82 w' B h N c (G++a2++o)/\a2.length=n+1/\Ok ai a2/\val ai a2=val ai us % val ai vs/\w.grownBy w' (some h):=by
 have v:=zH J;have l:=zH c6;have HO:=zH c8;have HV:=zH hv;clear c6 c8 hv;obtain⟨k1,k2,k3,k4,g6,k5,k6,k7,k8,g3,k9⟩:=l.o;obtain⟨bv,ov,rfl,g7,a9⟩:=HV.o.2 (by omega);have c1:=a9 (n-1) (by omega);have c2:=a9 (n-2) (by omega);rw[k7]at c1;rw[k8]at c2;have e8:w.cell? ⟨h,d+n,none⟩=some (.int .u32 ((us.getD n 0:Nat):Int)):=cP HO.o k1 J zA;have e9:w.cell? ⟨h,d+(n-1),none⟩=some (.int .u32 ((us.getD (n-1) 0:Nat):Int)):=cP HO.o k1 J (by omega);have f0:w.cell? ⟨h,d+(n-2),none⟩=some (.int .u32 (u2:Int)):=by rw[<-k6];exact cP HO.o k1 J (by omega)
 have e5:v1<4294967296:=by rw[<-k7];exact k4.getD (by decide) _
 have e6:v2<4294967296:=by rw[<-k8];exact k4.getD (by decide) _
 have b7:u2<4294967296:=by rw[<-k6];exact k3.getD (by decide) _
 have b8:us.getD n 0<4294967296:=k3.getD (by decide) _;have c0:us.getD (n-1) 0<4294967296:=k3.getD (by decide) _;generalize c9:us.getD n 0=L at*;generalize d1:us.getD (n-1) 0=p1 at*;have HP:=zH (zW c9 d1);clear c9 d1 a9 k1 k2 k3 k4 k6 k7 k8 k9;have HT:=zH k5;have d5:t<18446744073709551616:=by omega
 have Y:=gK L p1 b8 c0;have g2:(L:Int)*4294967296+(p1:Int)=(t:Int):=by omega
 clear k5;have f4:(0:Int)<=(n:Int)-1:=by omega
 have f5:(0:Int)<=(n:Int)-2:=by omega
 have f6:(n:Int)-1<(n:Int)+1:=by omega
 go_enter func168,ntmps168;go_wp2_with fail
 go_quiet (fail)
 go_wp2_with fail;clear Y g2;obtain⟨g0,r0,f1,f8,f2,g1,c5,d3,c4⟩:∃ g0 r0:Nat,(t:Int).tdiv (v1:Int)=(g0:Int)/\(t:Int).tmod (v1:Int)=(r0:Int)/\(t:Int) / (v1:Int)=(g0:Int)/\(t:Int) % (v1:Int)=(r0:Int)/\g0*v1+r0=t/\r0<v1/\g0<8589934592:=yQ t v1 d5 g3;have HG:=zH c5;clear c5
 go_quiet (fail)
 clear f1 f8 f2 g1
 go_upto_block 0 with fail
 go_cut [7,8] (fun s7 s8 wx=>∃ g r m:Nat,s7=.int .u64 (g:Int)/\s8=.int .u64 (r:Int)/\Yd (oO us vs g)/\Yd (wx=w.drewN m))
 case first=>
  go_wp2_with fail
  go_loopg [7,8] g0 (fun gk s7 s8 wx=>∃ r m:Nat,s7=.int .u64 (gk:Int)/\s8=.int .u64 (r:Int)/\Yd (gk*v1+r=t)/\r<4294967296/\gk<8589934592/\Yd (val ai us / val ai vs<=gk)/\Yd (wx=w.drewN m))
  case atStart=>exact⟨r0,_,rfl,rfl,HG.o,by omega,c4,l.o.start HG.o d3,by unfold Yd;first|rfl|(rw[World.drewN_drewN])|(rw[World.drewN_drewN,World.drewN_drewN])⟩
  case round=>
   obtain⟨r,m,rfl,rfl,O,hr,h0,HQ,HW⟩:=hrel;obtain rfl:=HW.o;by_cases hA:4294967296<=gk
   ·have hd:decide (0<(gk:Int) / 4294967296)=true:=by simp;omega
    go_wp2_with fail
    go_quiet (fail)
    clear hd;by_cases hC:4294967296<=r+v1
    ·go_wp2
     go_meet
     case rel=>
      have hd:=l.o.dec O.o HQ.o (.inl hA);exact⟨gk-1,r+v1,_,congrArg (Value.int .u64) (by omega),congrArg (Value.int .u64) (by omega),l.o.brk (by rw[Nat.sub_mul,Nat.one_mul];have h1:=O.o;have h2:v1<=gk*v1:=Nat.le_mul_of_pos_left _ (by omega);omega) hd.1 hC,by unfold Yd;first|rfl|(rw[World.drewN_drewN])|(rw[World.drewN_drewN,World.drewN_drewN])⟩
    ·go_wp2
     go_roundg (gk-1)
     case measure=>omega
     case rel=>
      have hd:=l.o.dec O.o HQ.o (.inl hA);exact⟨r+v1,_,congrArg (Value.int .u64) (by omega),congrArg (Value.int .u64) (by omega),by unfold Yd;rw[Nat.sub_mul,Nat.one_mul];have h1:=O.o;have h2:v1<=gk*v1:=Nat.le_mul_of_pos_left _ (by omega);omega,by omega,by omega,hd.1,by unfold Yd;first|rfl|(rw[World.drewN_drewN])|(rw[World.drewN_drewN,World.drewN_drewN])⟩
   ·have hd:decide (0<(gk:Int) / 4294967296)=false:=by simp;omega
    have hm:gk*v2<18446744073709551616:=by
     have:gk*v2<=4294967295*4294967295:=Nat.mul_le_mul (by omega) (by omega);omega
    obtain⟨pr,a0⟩:∃ pr,pr=gk*v2:=⟨_,rfl⟩;have b4:=zH a0;rw[<-a0]at hm;have c7:IntKind.u64.wrap ((gk:Int)*(v2:Int))=(pr:Int):=by
     rw[<-Int.natCast_mul,<-a0,IntKind.wrap_u64];omega
    clear a0;obtain⟨xr,b2⟩:∃ xr,xr=r*4294967296+u2:=⟨_,rfl⟩;have b5:=zH b2;have Y:bits .or .u64 ((r:Int)*4294967296) (u2:Int)=(xr:Int):=by
     rw[gK r u2 hr b7,b2];exact (qD r u2).symm
    clear b2;have d4:IntKind.u64.wrap ((r:Int)*4294967296)=(r:Int)*4294967296:=by
     rw[IntKind.wrap_u64];omega
    by_cases hB:xr<pr
    ·have b0:decide (xr<pr)=true:=decide_eq_true hB;have HD:=zH (l.o.dec O.o HQ.o (.inr (by rw[<-b5.o,<-b4.o];exact hB)));have f3:1<=gk:=HD.o.2;go_wp2_with fail
     go_quiet (fail)
     clear hd b0 c7 Y d4;by_cases hC:4294967296<=r+v1
     ·go_wp2
      go_meet
      case rel=>
       exact⟨gk-1,r+v1,_,congrArg (Value.int .u64) (by omega),congrArg (Value.int .u64) (by omega),l.o.brk (by rw[Nat.sub_mul,Nat.one_mul];have h1:=O.o;have h2:v1<=gk*v1:=Nat.le_mul_of_pos_left _ (by omega);omega) HD.o.1 hC,by unfold Yd;first|rfl|(rw[World.drewN_drewN])|(rw[World.drewN_drewN,World.drewN_drewN])⟩
     ·go_wp2
      go_roundg (gk-1)
      case measure=>omega
      case rel=>
       exact⟨r+v1,_,congrArg (Value.int .u64) (by omega),congrArg (Value.int .u64) (by omega),by unfold Yd;rw[Nat.sub_mul,Nat.one_mul];have h1:=O.o;have h2:v1<=gk*v1:=Nat.le_mul_of_pos_left _ (by omega);omega,by omega,by omega,HD.o.1,by unfold Yd;first|rfl|(rw[World.drewN_drewN])|(rw[World.drewN_drewN,World.drewN_drewN])⟩
    ·have b0:decide (xr<pr)=false:=decide_eq_false hB;go_wp2_with fail
     go_quiet (fail)
     clear hd b0 c7 Y d4
     go_wp2
     go_meet
     case rel=>
      exact⟨gk,r,_,rfl,rfl,l.o.fin O.o HQ.o (by omega) (by rw[<-b5.o,<-b4.o];omega),by unfold Yd;first|rfl|(rw[World.drewN_drewN])|(rw[World.drewN_drewN,World.drewN_drewN])⟩
 case rest=>
  obtain⟨g,r,m,rfl,rfl,a3,HW⟩:=hcut;have hg:g<4294967296:=a3.o.2.2;clear d3 c4 HG f4 f5 f6 e8 e9 f0 c1 c2 d5 e5 e6 b7 b8 c0;have d6:Yd (w.grownBy wc (some h)):=by rw[HW.o];exact⟨rfl,rfl,rfl,zN _,fun _ _ _=>rfl⟩
  have d8:Yd (cL .u32 82 wc B h N c (G++us++o)):=by rw[HW.o];exact HO.o
  clear HW;go_wp2_with fail
  go_loopg [84,9,10] n (fun gk si sb sc wx=>∃ (i F a:Nat) (V:List Nat),gk+i=n/\si=.int .i64 (i:Int)/\sb=.int .u64 (F:Int)/\sc=.int .u64 (a:Int)/\F<=1/\a<4294967296/\Yd (cL .u32 82 wx B h N c (G++V++o))/\Yd (V.length=n+1)/\Yd (Ok ai V)/\Yd (∀ j,i<=j->V.getD j 0=us.getD j 0)/\Yd (val ai (us.take i)+ai ^ i*(F+a)=val ai (V.take i)+g*val ai (vs.take i))/\Yd (w.grownBy wx (some h)))
  case atStart=>
   exact⟨0,0,0,us,by omega,rfl,rfl,rfl,by omega,by omega,d8.o,l.o.1,l.o.2.2.1,fun _ _=>rfl,by unfold Yd;simp,d6.o⟩
  case round=>
   obtain⟨i,F,a,V,b1,rfl,rfl,rfl,a7,X,E,P,a6,HJ,O,U⟩:=hrel;by_cases hi:i<n
   ·obtain⟨p,Z⟩:∃ p,us.getD i 0=p:=⟨_,rfl⟩;obtain⟨q,hq⟩:∃ q,vs.getD i 0=q:=⟨_,rfl⟩;have S:Yd (us.getD i 0=p/\vs.getD i 0=q):=⟨Z,hq⟩;have d2:p<4294967296:=by rw[<-Z];exact l.o.2.2.1.getD (by decide) _
    have f7:q<4294967296:=by rw[<-hq];exact l.o.2.2.2.1.getD (by decide) _
    have y:wr.cell? ⟨h,d+i,none⟩=some (.int .u32 (p:Int)):=by
     rw[<-Z,<-HJ.o i zA];exact cP E.o P.o v.o (by omega)
    have e7:wr.cell? ⟨bv,ov+i,none⟩=some (.int .u32 (q:Int)):=by
     obtain⟨b',o',e',e4,a8⟩:=HV.o.2 (by omega)
     injection e' with e'
     injection e' with e1 e2
     subst e1 e2;rw[<-hq];exact lG U.o (a8 i hi) (by show bv≠h;omega)
    have hf:=E.o.frozen (d+i);clear Z hq;obtain⟨s,hs⟩:∃ s,s=a+g*q:=⟨_,rfl⟩;have HS:=zH hs;have h7:s<18446744073709551616:=by
     have:g*q<=4294967295*4294967295:=Nat.mul_le_mul (by omega) (by omega);omega
    have h3:(g:Int)*(q:Int)=(s:Int)-(a:Int):=by
     rw[<-Int.natCast_mul];omega
    have g8:(a:Int)<=(s:Int):=by omega
    clear hs
    go_wp2
    go_roundg (gk-1)
    case measure=>omega
    case rel=>
     have el:((a:Int)+((s:Int)-(a:Int))) % 4294967296=((s % 4294967296:Nat):Int):=by omega
     have eh:((a:Int)+((s:Int)-(a:Int))) / 4294967296=((s / 4294967296:Nat):Int):=by omega
     obtain⟨x,b,e1,e2,T,W,hx⟩:=pH p (s % 4294967296) F d2 (by omega) a7;rw[el,eh,e1,e2];refine⟨i+1,b,s / 4294967296,V.set i x,by omega,by go_num,rfl,rfl,W,by omega,ef E.o P.o v.o (by omega),by unfold Yd;rw[List.length_set];exact P.o,a6.o.set T,?_,?_,fR U.o _ _⟩
     ·intro j hj;rw[NumB.getD_set_ne _ _ _ _ (by omega)];exact HJ.o j (by omega)
     ·rw[HS.o]at hx ⊢;exact BQ P.o (by omega) S.o.1 S.o.2 O.o hx
   ·obtain⟨k,rfl⟩:∃ k,k=n:=⟨_,rfl⟩;obtain rfl:k=i:=by omega
    clear b1 hi;have d0:L<4294967296:=by rw[<-HP.o.1];exact l.o.2.2.1.getD (by decide) _
    have y:wr.cell? ⟨h,d+k,none⟩=some (.int .u32 (L:Int)):=by
     rw[<-HP.o.1,<-HJ.o k zA];exact cP E.o P.o v.o zA
    have hf:=E.o.frozen (d+k);by_cases hb:a+F<=L
    ·have b6:bits .and .u64 (((L:Int)-(a:Int)-(F:Int)) / 4294967296) 1=0:=by
      have e:((L:Int)-(a:Int)-(F:Int)) / 4294967296=((0:Nat):Int):=by omega
      rw[e];exact jd 0 (by omega)
     go_wp2
     go_ret;have e:(L:Int)-(a:Int)-(F:Int)=((L-a-F:Nat):Int):=by omega
     rw[e];have ht:=rI (x:=L-a-F) (b:=0) l.o.1 P.o l.o.2.1 HP.o.1 O.o (by omega);have c3:=yU l.o.pos (by rw[Nat.mul_zero,Nat.add_zero]at ht;exact ht) a3.o.1;exact⟨V.set k (L-a-F),congrArg (fun z:Nat=>Ending.returned (.int .u32 (z:Int))) c3.1,ef E.o P.o v.o zA,by rw[List.length_set];exact P.o,a6.o.set (by show _<4294967296;omega),c3.2,fR U.o _ _⟩
    ·have b6:bits .and .u64 (IntKind.u64.wrap (IntKind.u64.wrap ((L:Int)-(a:Int))-(F:Int)) / 4294967296) 1=1:=by
      obtain⟨x,b,_,e2,T,W,hx⟩:=pH L a F d0 X a7;rw[e2];have:b=1:=by omega
      subst this;rfl
     obtain⟨x,b,e1,_,T,W,hx⟩:=pH L a F d0 X a7;obtain rfl:b=1:=by omega
     have HX:=zH (zW e1 hx);clear e1 hx W
     go_wp2
     rw[HX.o.1];clear b6;obtain⟨f,I⟩:∃ f,f=V.set k x:=⟨_,rfl⟩;have C:Yd (f.length=k+1/\Ok ai f/\f.getD k 0=x):=by
      subst I;exact⟨by rw[List.length_set];exact P.o,a6.o.set T,bi _ _ _ (by rw[P.o];omega)⟩
     have e3:Yd (val ai us+ai ^ (k+1)=val ai f+g*val ai vs):=by
      subst I;have ht:=rI (x:=x) (b:=1) l.o.1 P.o l.o.2.1 HP.o.1 O.o HX.o.2;rw[Nat.mul_one]at ht;exact ht
     have HF:=zH (Bv l.o.pos e3.o (by have:=gM C.o.2.1;rw[C.o.1]at this;exact this) a3.o.2.1);have f3:1<=g:=HF.o.1;obtain⟨wy,a1⟩:∃ wy,wy=wr.setCell ⟨h,d+k,none⟩ (.int .u32 (x:Int)):=⟨_,rfl⟩;have e0:Yd (cL .u32 82 wy B h N c (G++f++o)):=by
      subst a1 I;exact ef E.o P.o v.o zA
     have d7:Yd (w.grownBy wy (some h)):=by
      subst a1;exact fR U.o _ _
     rw[<-a1];clear a1 I y hf hb
     go_loopg [140,10] k (fun gk si sc wx=>∃ (i a:Nat) (ds:List Nat),gk+i=k/\si=.int .i64 (i:Int)/\sc=.int .u64 (a:Int)/\a<=1/\Yd (cL .u32 82 wx B h N c (G++ds++o))/\Yd (ds.length=k+1)/\Yd (Ok ai ds)/\Yd (∀ j,i<=j->ds.getD j 0=f.getD j 0)/\Yd (val ai (f.take i)+val ai (vs.take i)=val ai (ds.take i)+ai ^ i*a)/\Yd (w.grownBy wx (some h)))
     case atStart=>
      exact⟨0,0,f,by omega,rfl,rfl,by omega,e0.o,C.o.1,C.o.2.1,fun _ _=>rfl,by unfold Yd;simp,d7.o⟩
     case round=>
      obtain⟨i,a,ds,b1,rfl,rfl,X,M,D,Q,a5,b3,a4⟩:=hrel;by_cases hi:i<k
      ·obtain⟨p,Z⟩:∃ p,f.getD i 0=p:=⟨_,rfl⟩;obtain⟨q,hq⟩:∃ q,vs.getD i 0=q:=⟨_,rfl⟩;have S:Yd (f.getD i 0=p/\vs.getD i 0=q):=⟨Z,hq⟩;have d2:p<4294967296:=by rw[<-Z];exact C.o.2.1.getD (by decide) _
       have f7:q<4294967296:=by rw[<-hq];exact l.o.2.2.2.1.getD (by decide) _
       have y:wr.cell? ⟨h,d+i,none⟩=some (.int .u32 (p:Int)):=by
        rw[<-Z,<-a5.o i zA];exact cP M.o D.o v.o (by omega)
       have e7:wr.cell? ⟨bv,ov+i,none⟩=some (.int .u32 (q:Int)):=by
        obtain⟨b',o',e',e4,a8⟩:=HV.o.2 (by omega)
        injection e' with e'
        injection e' with e1 e2
        subst e1 e2;rw[<-hq];exact lG a4.o (a8 i hi) (by show bv≠h;omega)
       have hf:=M.o.frozen (d+i);clear Z hq;have h4:(0:Int)<=(i:Int):=by omega
       have h5:(i:Int)<(k:Int):=by omega
       have h6:(i:Int)<(k:Int)+1:=by omega
       have g4:IntKind.u64.wrap ((p:Int)+(q:Int))=(p:Int)+(q:Int):=by rw[IntKind.wrap_u64];omega
       have g5:IntKind.u64.wrap ((a:Int)+((p:Int)+(q:Int)))=(a:Int)+((p:Int)+(q:Int)):=by rw[IntKind.wrap_u64];omega
       go_wp2
       go_quiet (fail)
       clear g4 g5
       go_wp2
       go_roundg (gk-1)
       case measure=>omega
       case rel=>
        have el:((a:Int)+((p:Int)+(q:Int))) % 4294967296=(((a+p+q) % 4294967296:Nat):Int):=by omega
        have eh:((a:Int)+((p:Int)+(q:Int))) / 4294967296=(((a+p+q) / 4294967296:Nat):Int):=by omega
        rw[el,eh];refine⟨i+1,(a+p+q) / 4294967296,ds.set i ((a+p+q) % 4294967296),by omega,by go_num,rfl,by omega,ef (M.o.drewN _) D.o v.o (by omega),by unfold Yd;rw[List.length_set];exact D.o,Q.o.set (Nat.mod_lt _ (by decide)),?_,?_,fR (ri a4.o _) _ _⟩
        ·intro j hj;rw[NumB.getD_set_ne _ _ _ _ (by omega)];exact a5.o j (by omega)
        ·show _=_;rw[ap,ap,ap,cw _ _ _ _ zA,bi _ _ _ (by rw[D.o];omega),S.o.1,S.o.2,Nat.pow_succ];exact (yg b3.o.symm).symm
      ·obtain rfl:i=k:=by omega
       clear b1 hi;have y:wr.cell? ⟨h,d+i,none⟩=some (.int .u32 (x:Int)):=by
        rw[<-C.o.2.2,<-a5.o i zA];exact cP M.o D.o v.o zA
       have hf:=M.o.frozen (d+i)
       go_wp2
       go_ret;have e:((x:Int)+(a:Int)) % 4294967296=(((x+a) % 4294967296:Nat):Int):=by omega
       rw[e];exact⟨ds.set i ((x+a) % 4294967296),gN (by rw[<-HF.o.2.1];omega),ef M.o D.o v.o zA,by rw[List.length_set];exact D.o,Q.o.set (Nat.mod_lt _ (by decide)),yy C.o.1 D.o l.o.2.1 Q.o C.o.2.2 T X b3.o rfl HF.o.2.2,fR a4.o _ _⟩
theorem qP {B X n:Nat} (c:1<B) (f:1<=n) (d:B ^ (n-1)<=X) (e:X<B ^ n):(aj B X).length=n:=by
 have a:=bC c e;have b:=(qQ (k:=n-1) (n:=X) c).2 d;omega
theorem iT {B X:Nat} (c:1<B) {n:Nat} (g:1<=n) (f:(aj B X).length=n):(aj B X).getD (n-1) 0=X / B ^ (n-1):=by
 have a:=bK B (aj B X) (n-1);have b:=ar B (aj B X) (n-1);rw[List.drop_eq_nil_of_le (i:=n-1+1) (by omega),val_nil,Nat.mul_zero,Nat.add_zero]at b;have d:=cC (bg c X) (j:=n-1) (by omega);rw[aR c,b]at a;have e:X / B ^ (n-1)=(val B ((aj B X).take (n-1))+B ^ (n-1)*(aj B X).getD (n-1) 0) / B ^ (n-1):=congrArg (fun z=>z / B ^ (n-1)) a;rw[e,Nat.add_mul_div_left _ _ (Nat.pow_pos (by omega)),Nat.div_eq_of_lt d,Nat.zero_add]
theorem uh {y n t b:Nat} (p:1<=n) (h:(aj ai y).length=n) (x:(aj ai y).getD (n-1) 0=t) (w:Lib.bitLen t=b):
 1<=b/\b<=32/\(aj ai (y*2 ^ (32-b))).length=n/\2147483648<=(aj ai (y*2 ^ (32-b))).getD (n-1) 0/\ai ^ (n-1)<=y:=by
 have D:y≠0:=by rintro rfl;rw[bd]at h;simp at h;omega
 have e:=uS aI D;rw[h]at e;have a:=iT aI p h;rw[x]at a;have E:ai=4294967296:=rfl;have j:0<ai ^ (n-1):=Nat.pow_pos (by decide);have B:1<=t:=by rw[a];exact Nat.div_pos e j
 have C:t<4294967296:=by rw[<-x];exact (bg aI y).getD (by decide) _
 obtain⟨q,r,v⟩:=Lib.bitLenAux_bounds 64 t (by omega) (by omega);have l:Lib.bitLenAux 64 t=b:=w;rw[l]at q r v;have c:b<=32:=by rw[<-w];exact Lib.bitLen_le t 32 (by omega) (by omega)
 have o:t*ai ^ (n-1)<=y:=by rw[a];exact Nat.div_mul_le_self _ _
 have m:y<(t+1)*ai ^ (n-1):=by
  rw[a,Nat.add_mul,Nat.one_mul,Nat.mul_comm];have:=Nat.div_add_mod y (ai ^ (n-1));have:=Nat.mod_lt y j;omega
 have z:(2:Nat) ^ b*2 ^ (32-b)=ai:=by rw[<-Nat.pow_add,Nat.add_sub_cancel' c];rfl
 have A:(2:Nat) ^ (b-1)*2 ^ (32-b)=2147483648:=by rw[<-Nat.pow_add,show b-1+(32-b)=31 from by omega]
 have f:2147483648*ai ^ (n-1)<=y*2 ^ (32-b):=by
  have i:2 ^ (b-1)*ai ^ (n-1)<=y:=zC (Nat.mul_le_mul_right _ r) o;have g:=Nat.mul_le_mul_right (2 ^ (32-b)) i
  rwa [Nat.mul_right_comm,A]at g
 have k:y*2 ^ (32-b)<ai ^ n:=by
  have i:y<2 ^ b*ai ^ (n-1):=zD m (Nat.mul_le_mul_right _ v);have g:=Nat.mul_lt_mul_of_pos_right i (Nat.pow_pos (n:=32-b) (show 0<2 by omega));rw[Nat.mul_right_comm,z,Nat.mul_comm ai,<-Nat.pow_succ,show (n-1).succ=n from by omega]at g;exact g
 have d:=qP aI p (zC (Nat.le_mul_of_pos_left _ (by omega)) f) k;refine⟨q,c,d,?_,e⟩;rw[iT aI p d,Nat.le_div_iff_mul_le j];exact f
def iX (A V:Nat) (us qs:List Nat) (j:Nat):Prop:=A=val ai us+V*(ai ^ j*val ai (qs.drop j))/\val ai (us.drop j)<V
theorem wj {x y s a n:Nat} {us:List Nat} (b:x<ai ^ a) (i:ai ^ (n-1)<=y) (l:1<=n) (f:n<=a+1) (g:0<2 ^ s) (c:val ai us=x*2 ^ s):
 iX (x*2 ^ s) (y*2 ^ s) us (List.replicate (a+1-n) 0) (a+1-n):=by
 refine⟨?_,?_⟩
 ·rw[List.drop_replicate,dh,Nat.mul_zero,Nat.mul_zero,Nat.add_zero,c]
 ·have d:=bK ai us (a+1-n);rw[c]at d;rcases Nat.lt_or_ge (val ai (us.drop (a+1-n))) (y*2 ^ s) with h|h
  ·exact h
  ·exfalso;have j:ai ^ (a+1-n)*(y*2 ^ s)<=x*2 ^ s:=zC (Nat.mul_le_mul_left _ h) (by omega);have e:ai ^ (a+1-n)*(ai ^ (n-1)*2 ^ s)<=ai ^ (a+1-n)*(y*2 ^ s):=Nat.mul_le_mul_left _ (Nat.mul_le_mul_right _ i);rw[<-Nat.mul_assoc,<-Nat.pow_add,show a+1-n+(n-1)=a from by omega]at e;have k:=Nat.mul_lt_mul_of_pos_right b g;omega
theorem uT {A V:Nat} {us p:List Nat} {j n:Nat} (h:iX A V us p (j+1)) (o:Ok ai us) (k:V<=ai ^ n) (m:j+n+1<=us.length):
 val ai ((us.drop j).take (n+1))=val ai (us.drop j)/\val ai (us.drop j)<V*4294967296/\val ai (us.drop (j+n+1))=0:=by
 have d:=ar ai us j;have q:=o.getD (by decide) j;have l:ai=4294967296:=rfl;have f:val ai (us.drop j)<V*4294967296:=by
  have g:ai*(val ai (us.drop (j+1))+1)<=ai*V:=Nat.mul_le_mul_left _ h.2;rw[d,Nat.mul_comm V,<-l];rw[Nat.mul_add,Nat.mul_one]at g;omega
 have a:=bK ai (us.drop j) (n+1);rw[List.drop_drop,show j+(n+1)=j+n+1 from by omega]at a;have c:val ai (us.drop (j+n+1))=0:=by
  rcases Nat.eq_zero_or_pos (val ai (us.drop (j+n+1))) with b|b
  ·exact b
  ·exfalso;have r:ai ^ (n+1)*1<=ai ^ (n+1)*val ai (us.drop (j+n+1)):=Nat.mul_le_mul_left _ b;have i:V*4294967296<=ai ^ n*ai:=Nat.mul_le_mul_right _ k;rw[<-Nat.pow_succ]at i;have e:ai ^ n.succ=ai ^ (n+1):=rfl;omega
 rw[c,Nat.mul_zero,Nat.add_zero]at a;exact⟨a.symm,f,c⟩
theorem yP {A V:Nat} {us a cur':List Nat} {j n:Nat} (h:iX A V us a (j+1)) (r:Ok ai us) (c:0<V) (p:V<=ai ^ n) (d:j+n+1<=us.length) (g:j<a.length) (z:cur'.length=n+1)
 (f:val ai cur'=val ai ((us.drop j).take (n+1)) % V):
 iX A V (us.take j++cur'++us.drop (j+n+1)) (a.set j (val ai ((us.drop j).take (n+1)) / V)) j:=by
 obtain⟨k,v,l⟩:=uT h r p d;rw[k]at f ⊢;have b:(us.take j).length=j:=by rw[List.length_take];omega
 have q:(us.take j++cur'++us.drop (j+n+1)).drop j=cur'++us.drop (j+n+1):=by
  rw[zJ,List.drop_append,b,Nat.sub_self,List.drop_zero,List.drop_of_length_le (by omega),List.nil_append]
 have i:val ai (cur'++us.drop (j+n+1))=val ai (us.drop j) % V:=by
  rw[dq,l,Nat.mul_zero,Nat.add_zero,f]
 refine⟨?_,?_⟩
 ·have e:(a.set j (val ai (us.drop j) / V)).drop j=val ai (us.drop j) / V::a.drop (j+1):=by
   rw[nF _ _ (by simpa using g),bi _ _ _ g]
   congr 1
   rw[List.drop_set_of_lt (by omega)]
  rw[e,zJ,dq,i,b,val_cons];have w:=h.1;have x:=bK ai us j;have m:=Nat.div_add_mod (val ai (us.drop j)) V;have y:ai ^ j*val ai (us.drop j)=V*(ai ^ j*(val ai (us.drop j) / V))+ai ^ j*(val ai (us.drop j) % V):=by
   rw[Nat.mul_left_comm,<-Nat.mul_add,m]
  have o:V*(ai ^ j*(val ai (us.drop j) / V+ai*val ai (a.drop (j+1))))=V*(ai ^ j*(val ai (us.drop j) / V))+V*(ai ^ (j+1)*val ai (a.drop (j+1))):=by
   rw[Nat.mul_add,Nat.mul_add,Nat.pow_succ,Nat.mul_assoc]
  rw[o];omega
 ·rw[q,i];exact Nat.mod_lt _ c
theorem Bn {x y s:Nat} {us c:List Nat} (j:0<y) (h:iX (x*2 ^ s) (y*2 ^ s) us c 0):val ai c=x / y/\val ai us / 2 ^ s=x % y:=by
 obtain⟨a,b⟩:=h;rw[List.drop_zero]at b;rw[List.drop_zero,Nat.pow_zero,Nat.one_mul]at a;have d:0<2 ^ s:=Nat.pow_pos (by omega);have e:x / y=val ai c:=by
  have f:x*2 ^ s / (y*2 ^ s)=x / y:=Nat.mul_div_mul_right _ _ d;rw[<-f,a,Nat.add_mul_div_left _ _ (by omega),Nat.div_eq_of_lt b,Nat.zero_add]
 refine⟨e.symm,?_⟩;have g:x*2 ^ s % (y*2 ^ s)=(x % y)*2 ^ s:=Nat.mul_mod_mul_right _ _ _;have i:x*2 ^ s % (y*2 ^ s)=val ai us:=by rw[a,Nat.add_mul_mod_self_left,Nat.mod_eq_of_lt b]
 rw[<-i,g,Nat.mul_div_cancel _ d]
theorem cL.heap {k:IntKind} {T:TypeId} {w:World} {B g n:Nat} {xs:List Nat} (h:cL k T w B g n n xs):w.heap[g]?=some (.cells (aX k xs).toArray T (0,0)):=by
 rcases h.2.2 with ⟨a,_⟩|⟨f,b,d,a,m,e,i,j,l,c⟩
 ·simp at a
 ·simp only[Value.slice.injEq,Option.some.injEq,Addr.mk.injEq,and_true,true_and]at a;obtain⟨rfl,rfl⟩:=a;rw[e]
  congr 2
  rw[zG (by rw[Array.length_toList];omega)]at c;rw[<-c]
theorem cL.of_heap {k:IntKind} {T:TypeId} {w:World} {B g n:Nat} {xs:List Nat} (h:w.heap[g]?=some (.cells (aX k xs).toArray T (0,0))) (a:xs.length=n) (b:B<=g) (c:n<=maxLen):cL k T w B g n n xs:=by
 refine⟨a,by rw[bG,a,Nat.mul_one],.inr ⟨g,n,_,rfl,b,h,zN _,c,?_,?_⟩⟩
 ·rw[List.size_toArray,bG,a,Nat.mul_one]
 ·rw[zG (by rw[bG,a,Nat.mul_one];exact zN _)]
theorem pZ {k:IntKind} {xs a:List Nat}:splice (aX k xs) 0 (aX k a)=aX k (a++xs.drop a.length):=by
 unfold splice;rw[List.take_zero,List.nil_append,Nat.zero_add,bG,<-fG]
 congr 1
 unfold aX;rw[List.map_drop]
theorem kL {P:Program} {w:World} {p:Array Oper} {j:List Oper} {o:Oper} {a:Act} {Q:Exit->Act->World->Prop} (v:o.guard=none) (d s:Operand) (r F:TypeId)
 (J:o.op=.call { callee:=.builtin .copy,args:=#[d,s],argTypes:=#[r,F] }) (i:TypeId) (M:P.underlying r=some (.slice i)) (z:(P.info? i).map (·.size)=some 1)
 (k:IntKind) (T:TypeId) (B g n:Nat) (xs q:List Nat) (A:Option Addr) (m c:Nat) (I:a.eval d=.slice (some ⟨g,0,none⟩) n n) (L:a.eval s=.slice A m c)
 (f:cL k T w B g n n xs) (y:Rd k w w.heap.size A m q) (x:m<=n)
 (h:∀ w',cL k T w' B g n n (q++xs.drop m)->Below g w w'->wpList P p Q j (a.put o.dst (goInt m)) w'):wpList P p Q (o::j) a w:=by
 have l:=y.1;refine wpList_copy_splice v d s r F J i M z _ _ _ _ _ _ I L g 0 (aX k xs) T f.heap (aX k q) (by rw[bG,l];exact (Nat.min_eq_left x).symm) ?_ (by rw[bG,bG,l,f.1];omega) gw g w zB zA ?_
 ·intro D;rw[bG,l]at D;obtain⟨b,N,e,_⟩:=y.2 D;subst e;exact⟨rfl,_,rfl,vw y⟩
 ·intro w' C G;have e:(goInt (aX k q).length)=goInt m:=by rw[bG,l]
  rw[e];refine h w' (cL.of_heap ?_ ?_ f.lt.1 f.cap.2) G
  ·have E:=C.out;rw[pZ,l]at E;exact E
  ·rw[zE,List.length_drop,l,f.1];omega
end Go.Proofs.YtlhojoefhannnaaGreat
