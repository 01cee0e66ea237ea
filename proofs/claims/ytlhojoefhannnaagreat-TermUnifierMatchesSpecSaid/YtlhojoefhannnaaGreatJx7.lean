/- term.node: a node without its arguments. And 8 more texts. -/
import Derived.Test.YtlhojoefhannnaaGreatJx5
set_option linter.unusedVariables false
set_option linter.unusedSimpArgs false
set_option maxRecDepth 100000
set_option maxHeartbeats 51200000
namespace Go.Proofs.YtlhojoefhannnaaGreat
open Go.Proofs.Tryz Go.RowKit NumB
def bf (ng:Bool) (l1 l2:Nat):Bool:=!ng&&decide (l1+l2=0)
def au (k v:Int) (s:ByteArray) (ng:Bool) (l1 l2:Nat) (er:Int) (na:Nat):Int:=
 if k=1 then (if 0<=v/\v<=1073741824/\s.toList=[]/\bf ng l1 l2=true/\na=0 then 0 else 2)
 else if k=2 then (if v=0/\s.toList=[]/\na=0/\er=0 then 0 else 2)
 else if k=3 then (if v=0/\bf ng l1 l2=true/\na=0 then (if 255<s.size then 3 else 0) else 2)
 else if k=4 then (if v=0/\bf ng l1 l2=true/\na=0 then (if 4000<s.size then 3 else 0) else 2)
 else if k=5 then (if v=0/\bf ng l1 l2=true/\1<=na/\na<=32 then (if 255<s.size then 3 else 0) else 2)
 else 2
theorem xJ {s:ByteArray} (h:s.size≠0):s.toList≠[]:=by
 unfold ByteArray.toList;have c:∀ (n i:Nat) (r:List UInt8),s.size-i<=n->(i<s.size\/r≠[])->ByteArray.toList.loop s i r≠[]:=by
  intro n
  induction n with
  |zero=>
   intro i r d a;unfold ByteArray.toList.loop;have:¬i<s.size:=by omega
   rw[if_neg this];rcases a with a|a
   ·exact absurd a this
   ·simpa using a
  |succ n e=>
   intro i r d a;unfold ByteArray.toList.loop;by_cases b:i<s.size
   ·rw[if_pos b];exact e (i+1) _ (by omega) (.inr (by simp))
   ·rw[if_neg b];rcases a with a|a
    ·exact absurd a b
    ·simpa using a
 exact c s.size 0 [] (by omega) (.inl (by omega))
theorem aL {s:ByteArray} (h:s.toList=[]):s.size=0:=Classical.byContradiction fun a=>xJ a h
theorem eK {a b:Nat} (c:a<=9223372036854775807) (d:b<=9223372036854775807):wrap64 ((a:Int)+(b:Int))=0↔a+b=0:=by
 unfold wrap64;omega
theorem zo {w:World} {v:Int} {s:ByteArray} {n:LN} {args:List Tm} {cs:List Value} (h:TC w (.mk 1 v s n args) cs):
 Calls prog 74 #[.agg cs.toArray] w fun e o=>e=.returned (.int .i64 (au 1 v s n.neg n.num.length n.den.length n.err args.length))/\zZ w o:=by
 cases h with
 |mk _ _ _ _ _ A B O p cs C I F j k g c D E q=>
  have a:Yd (∀ W:World,zZ w W->Calls prog 92 #[.agg #[.bool n.neg,A,B]] W fun e M=>e=.returned (.int .i64 n.err)/\zZ W M):=fun W b=>eG n.neg n.num n.den A B W (j.to b) (k.to b) g.1 g.2;obtain⟨N,U,rfl,r,d,_⟩:=j;obtain⟨P,V,rfl,t,f,_⟩:=k;have y:0<=n.err/\n.err<=3:=b9 _ _ _;unfold maxLen at d f;clear E q;generalize args.length=T at*;generalize n.num.length=l at*;generalize n.den.length=m at*;generalize n.err=Q at*;generalize n.neg=L at*;clear g c D F I C;have G:s.toList=[]->s.size=0:=aL;obtain⟨x,S,J⟩:∃ x:Int,wrap64 ((l:Int)+(m:Int))=x/\(x=0↔l+m=0):=⟨_,rfl,eK (by omega) (by omega)⟩;cases L
  all_goals
   go_enter func74,ntmps74;go_wp2_with fail
  all_goals first
   |(go_ret
     refine⟨congrArg (fun z=>Ending.returned (Value.int .i64 z)) ?_,ae w _⟩;clear a;unfold au bf
     simp_all
     all_goals (intros;omega))
   |(refine (a.o _ (ae w _)).mono ?_
     rintro e X ⟨rfl,b⟩;have i:=((ah.new w 27 _).to b).cell 2;simp only[L3]at i;go_wp2_with fail
     all_goals
      go_ret;refine⟨congrArg (fun z=>Ending.returned (Value.int .i64 z)) ?_,(ae w _).trans (b.mono (ae w _).size)⟩;clear a b i;unfold au bf
      simp_all
      all_goals (intros;omega))
theorem zq {w:World} {v:Int} {s:ByteArray} {n:LN} {args:List Tm} {cs:List Value} (h:TC w (.mk 2 v s n args) cs):
 Calls prog 74 #[.agg cs.toArray] w fun e o=>e=.returned (.int .i64 (au 2 v s n.neg n.num.length n.den.length n.err args.length))/\zZ w o:=by
 cases h with
 |mk _ _ _ _ _ A B O p cs C I F j k g c D E q=>
  have a:Yd (∀ W:World,zZ w W->Calls prog 92 #[.agg #[.bool n.neg,A,B]] W fun e M=>e=.returned (.int .i64 n.err)/\zZ W M):=fun W b=>eG n.neg n.num n.den A B W (j.to b) (k.to b) g.1 g.2;obtain⟨N,U,rfl,r,d,_⟩:=j;obtain⟨P,V,rfl,t,f,_⟩:=k;have y:0<=n.err/\n.err<=3:=b9 _ _ _;unfold maxLen at d f;clear E q;generalize args.length=T at*;generalize n.num.length=l at*;generalize n.den.length=m at*;generalize n.err=Q at*;generalize n.neg=L at*;clear g c D F I C;have G:s.toList=[]->s.size=0:=aL;obtain⟨x,S,J⟩:∃ x:Int,wrap64 ((l:Int)+(m:Int))=x/\(x=0↔l+m=0):=⟨_,rfl,eK (by omega) (by omega)⟩;cases L
  all_goals
   go_enter func74,ntmps74;go_wp2_with fail
  all_goals first
   |(go_ret
     refine⟨congrArg (fun z=>Ending.returned (Value.int .i64 z)) ?_,ae w _⟩;clear a;unfold au bf
     simp_all
     all_goals (intros;omega))
   |(refine (a.o _ (ae w _)).mono ?_
     rintro e X ⟨rfl,b⟩;have i:=((ah.new w 27 _).to b).cell 2;simp only[L3]at i;go_wp2_with fail
     all_goals
      go_ret;refine⟨congrArg (fun z=>Ending.returned (Value.int .i64 z)) ?_,(ae w _).trans (b.mono (ae w _).size)⟩;clear a b i;unfold au bf
      simp_all
      all_goals (intros;omega))
theorem ug {w:World} {v:Int} {s:ByteArray} {n:LN} {args:List Tm} {cs:List Value} (h:TC w (.mk 3 v s n args) cs):
 Calls prog 74 #[.agg cs.toArray] w fun e o=>e=.returned (.int .i64 (au 3 v s n.neg n.num.length n.den.length n.err args.length))/\zZ w o:=by
 cases h with
 |mk _ _ _ _ _ A B O p cs C I F j k g c D E q=>
  have a:Yd (∀ W:World,zZ w W->Calls prog 92 #[.agg #[.bool n.neg,A,B]] W fun e M=>e=.returned (.int .i64 n.err)/\zZ W M):=fun W b=>eG n.neg n.num n.den A B W (j.to b) (k.to b) g.1 g.2;obtain⟨N,U,rfl,r,d,_⟩:=j;obtain⟨P,V,rfl,t,f,_⟩:=k;have y:0<=n.err/\n.err<=3:=b9 _ _ _;unfold maxLen at d f;clear E q;generalize args.length=T at*;generalize n.num.length=l at*;generalize n.den.length=m at*;generalize n.err=Q at*;generalize n.neg=L at*;clear g c D F I C;have G:s.toList=[]->s.size=0:=aL;obtain⟨x,S,J⟩:∃ x:Int,wrap64 ((l:Int)+(m:Int))=x/\(x=0↔l+m=0):=⟨_,rfl,eK (by omega) (by omega)⟩;cases L
  all_goals
   go_enter func74,ntmps74;go_wp2_with fail
  all_goals first
   |(go_ret
     refine⟨congrArg (fun z=>Ending.returned (Value.int .i64 z)) ?_,ae w _⟩;clear a;unfold au bf
     simp_all
     all_goals (intros;omega))
   |(refine (a.o _ (ae w _)).mono ?_
     rintro e X ⟨rfl,b⟩;have i:=((ah.new w 27 _).to b).cell 2;simp only[L3]at i;go_wp2_with fail
     all_goals
      go_ret;refine⟨congrArg (fun z=>Ending.returned (Value.int .i64 z)) ?_,(ae w _).trans (b.mono (ae w _).size)⟩;clear a b i;unfold au bf
      simp_all
      all_goals (intros;omega))
theorem wQ {w:World} {v:Int} {s:ByteArray} {n:LN} {args:List Tm} {cs:List Value} (h:TC w (.mk 4 v s n args) cs):
 Calls prog 74 #[.agg cs.toArray] w fun e o=>e=.returned (.int .i64 (au 4 v s n.neg n.num.length n.den.length n.err args.length))/\zZ w o:=by
 cases h with
 |mk _ _ _ _ _ A B O p cs C I F j k g c D E q=>
  have a:Yd (∀ W:World,zZ w W->Calls prog 92 #[.agg #[.bool n.neg,A,B]] W fun e M=>e=.returned (.int .i64 n.err)/\zZ W M):=fun W b=>eG n.neg n.num n.den A B W (j.to b) (k.to b) g.1 g.2;obtain⟨N,U,rfl,r,d,_⟩:=j;obtain⟨P,V,rfl,t,f,_⟩:=k;have y:0<=n.err/\n.err<=3:=b9 _ _ _;unfold maxLen at d f;clear E q;generalize args.length=T at*;generalize n.num.length=l at*;generalize n.den.length=m at*;generalize n.err=Q at*;generalize n.neg=L at*;clear g c D F I C;have G:s.toList=[]->s.size=0:=aL;obtain⟨x,S,J⟩:∃ x:Int,wrap64 ((l:Int)+(m:Int))=x/\(x=0↔l+m=0):=⟨_,rfl,eK (by omega) (by omega)⟩;cases L
  all_goals
   go_enter func74,ntmps74;go_wp2_with fail
  all_goals first
   |(go_ret
     refine⟨congrArg (fun z=>Ending.returned (Value.int .i64 z)) ?_,ae w _⟩;clear a;unfold au bf
     simp_all
     all_goals (intros;omega))
   |(refine (a.o _ (ae w _)).mono ?_
     rintro e X ⟨rfl,b⟩;have i:=((ah.new w 27 _).to b).cell 2;simp only[L3]at i;go_wp2_with fail
     all_goals
      go_ret;refine⟨congrArg (fun z=>Ending.returned (Value.int .i64 z)) ?_,(ae w _).trans (b.mono (ae w _).size)⟩;clear a b i;unfold au bf
      simp_all
      all_goals (intros;omega))
theorem wP {w:World} {v:Int} {s:ByteArray} {n:LN} {args:List Tm} {cs:List Value} (h:TC w (.mk 5 v s n args) cs):
 Calls prog 74 #[.agg cs.toArray] w fun e o=>e=.returned (.int .i64 (au 5 v s n.neg n.num.length n.den.length n.err args.length))/\zZ w o:=by
 cases h with
 |mk _ _ _ _ _ A B O p cs C I F j k g c D E q=>
  have a:Yd (∀ W:World,zZ w W->Calls prog 92 #[.agg #[.bool n.neg,A,B]] W fun e M=>e=.returned (.int .i64 n.err)/\zZ W M):=fun W b=>eG n.neg n.num n.den A B W (j.to b) (k.to b) g.1 g.2;obtain⟨N,U,rfl,r,d,_⟩:=j;obtain⟨P,V,rfl,t,f,_⟩:=k;have y:0<=n.err/\n.err<=3:=b9 _ _ _;unfold maxLen at d f;clear E q;generalize args.length=T at*;generalize n.num.length=l at*;generalize n.den.length=m at*;generalize n.err=Q at*;generalize n.neg=L at*;clear g c D F I C;have G:s.toList=[]->s.size=0:=aL;obtain⟨x,S,J⟩:∃ x:Int,wrap64 ((l:Int)+(m:Int))=x/\(x=0↔l+m=0):=⟨_,rfl,eK (by omega) (by omega)⟩;cases L
  all_goals
   go_enter func74,ntmps74;go_wp2_with fail
  all_goals first
   |(go_ret
     refine⟨congrArg (fun z=>Ending.returned (Value.int .i64 z)) ?_,ae w _⟩;clear a;unfold au bf
     simp_all
     all_goals (intros;omega))
   |(refine (a.o _ (ae w _)).mono ?_
     rintro e X ⟨rfl,b⟩;have i:=((ah.new w 27 _).to b).cell 2;simp only[L3]at i;go_wp2_with fail
     all_goals
      go_ret;refine⟨congrArg (fun z=>Ending.returned (Value.int .i64 z)) ?_,(ae w _).trans (b.mono (ae w _).size)⟩;clear a b i;unfold au bf
      simp_all
      all_goals (intros;omega))
theorem uf {w:World} {k:Int} {v:Int} {s:ByteArray} {n:LN} {args:List Tm} {cs:List Value} (r:k≠1) (t:k≠2) (y:k≠3) (C:k≠4) (D:k≠5) (h:TC w (.mk k v s n args) cs):
 Calls prog 74 #[.agg cs.toArray] w fun e p=>e=.returned (.int .i64 (au k v s n.neg n.num.length n.den.length n.err args.length))/\zZ w p:=by
 cases h with
 |mk _ _ _ _ _ A B V q cs J P N j l g c L M E=>
  have a:Yd (∀ W:World,zZ w W->Calls prog 92 #[.agg #[.bool n.neg,A,B]] W fun e T=>e=.returned (.int .i64 n.err)/\zZ W T):=fun W b=>eG n.neg n.num n.den A B W (j.to b) (l.to b) g.1 g.2;obtain⟨U,q1,rfl,F,d,_⟩:=j;obtain⟨X,q2,rfl,G,f,_⟩:=l;have I:0<=n.err/\n.err<=3:=b9 _ _ _;unfold maxLen at d f;clear M E;generalize args.length=na at*;generalize n.num.length=m at*;generalize n.den.length=o at*;generalize n.err=Y at*;generalize n.neg=S at*;clear g c L N P J;have O:s.toList=[]->s.size=0:=aL;obtain⟨x,Z,Q⟩:∃ x:Int,wrap64 ((m:Int)+(o:Int))=x/\(x=0↔m+o=0):=⟨_,rfl,eK (by omega) (by omega)⟩;have k1:(k==1)=false:=zL r;have k2:(k==2)=false:=zL t;have k3:(k==3)=false:=zL y;have k4:(k==4)=false:=zL C;have k5:(k==5)=false:=zL D;cases S
  all_goals
   go_enter func74,ntmps74;go_wp2_with fail
  all_goals first
   |(go_ret
     refine⟨congrArg (fun z=>Ending.returned (Value.int .i64 z)) ?_,ae w _⟩;clear a;unfold au bf
     simp_all
     all_goals (intros;omega))
   |(refine (a.o _ (ae w _)).mono ?_
     rintro e w2 ⟨rfl,b⟩;have i:=((ah.new w 27 _).to b).cell 2;simp only[L3]at i;go_wp2_with fail
     all_goals
      go_ret;refine⟨congrArg (fun z=>Ending.returned (Value.int .i64 z)) ?_,(ae w _).trans (b.mono (ae w _).size)⟩;clear a b i;unfold au bf
      simp_all
      all_goals (intros;omega))
theorem zn {w:World} {k v:Int} {s:ByteArray} {n:LN} {args:List Tm} {cs:List Value} (h:TC w (.mk k v s n args) cs):
 Calls prog 74 #[.agg cs.toArray] w fun e g=>e=.returned (.int .i64 (au k v s n.neg n.num.length n.den.length n.err args.length))/\zZ w g:=by
 by_cases a:k=1
 ·subst a;exact zo h
 by_cases b:k=2
 ·subst b;exact zq h
 by_cases c:k=3
 ·subst c;exact ug h
 by_cases d:k=4
 ·subst d;exact wQ h
 by_cases f:k=5
 ·subst f;exact wP h
 exact uf a b c d f h
mutual
def Tm.err0:Tm->Int
 |.mk k v s n args=>if au k v s n.neg n.num.length n.den.length n.err args.length=0 then bH args else au k v s n.neg n.num.length n.den.length n.err args.length
def bH:List Tm->Int
 |[]=>0
 |t::l=>if t.err0=0 then bH l else t.err0
end
theorem nK (l:List Tm) (t:Tm):bH (l++[t])=if bH l=0 then t.err0 else bH l:=by
 induction l with
 |nil=>simp[bH];omega
 |cons x l a=>
  simp only[List.cons_append,bH,a];by_cases h:x.err0=0<;>simp[h]
theorem jO (l:List Tm) {j:Nat} (a:j<l.length) (h:bH (l.take j)=0):bH (l.take (j+1))=(l[j]).err0:=by rw[d9 l a,nK,if_pos h]
theorem nL (l:List Tm) {j:Nat} (e:j<l.length) (h:bH (l.take j)=0) (a:(l[j]).err0≠0):bH l=(l[j]).err0:=by
 have c:=jO l e h;have:∀ (k:Nat),bH (l.take (j+1+k))=(l[j]).err0:=fun k=>by
  induction k with
  |zero=>exact c
  |succ k b=>
   by_cases f:j+1+k<l.length
   ·rw[<-Nat.add_assoc,d9 l f,nK,b,if_neg a]
   ·rw[zG (by omega)]at b ⊢;exact b
 have d:=this l.length
 rwa [zG (by omega)]at d
theorem rK (k v:Int) (s:ByteArray) (e:Bool) (b c:Nat) (a:Int) (d:Nat):0<=au k v s e b c a d/\au k v s e b c a d<=3:=by
 unfold au
 repeat' split
 all_goals omega
mutual
theorem Tm.err0_bd:(t:Tm)->0<=t.err0/\t.err0<=3
 |.mk k v s n args=>by
  have h1:=rK k v s n.neg n.num.length n.den.length n.err args.length;have h2:=uV args;unfold Tm.err0
  split<;>assumption
theorem uV:(l:List Tm)->0<=bH l/\bH l<=3
 |[]=>by simp[bH]
 |t::l=>by
  have h1:=Tm.err0_bd t;have h2:=uV l;unfold bH
  split<;>assumption
end
theorem wR {w:World} {t:Tm} {cs:List Value} (h:TC w t cs):∀ (W:World),zZ w W->
 Calls prog 46 #[.agg cs.toArray] W fun e c=>e=.returned (.int .i64 t.err0)/\zZ W c:=by
 induction h with
 |mk k v s n a A B J m cs hk hv hs hA hB hn q hm hr X ih=>
  intro W hW;have G:Yd (∀ c:World,zZ w c->Calls prog 74 #[.agg #[.int .i64 k,.int .i64 v,.string s,.bool n.neg,A,B,.slice J a.length m]] c fun e w'=>e=.returned (.int .i64 (au k v s n.neg n.num.length n.den.length n.err a.length))/\zZ c w'):=fun c D=>zn ((TC.mk k v s n a A B J m cs hk hv hs hA hB hn q hm hr X).to D);have HR:=zH hr;have HA:=zH X;have IH:=zH ih;have y:Yd ((Tm.mk k v s n a).err0=if au k v s n.neg n.num.length n.den.length n.err a.length=0 then bH a else au k v s n.neg n.num.length n.den.length n.err a.length):=by unfold Yd;rw[Tm.err0]
  have a0:=rK k v s n.neg n.num.length n.den.length n.err a.length;unfold maxLen at hm;have i:=zH hW;obtain⟨A1,q1,rfl,_⟩:=hA;obtain⟨B1,q2,rfl,_⟩:=hB;generalize (Tm.mk k v s n a).err0=M at*;generalize au k v s n.neg n.num.length n.den.length n.err a.length=P at*;generalize n.neg=ng at*;generalize n.num.length=m1 at*;generalize n.den.length=m2 at*;clear hr X ih hn hk hv hs hW;obtain⟨l,Z⟩:∃ l,a.length=l:=⟨_,rfl⟩;rw[Z]at q G ⊢;have HL:=zH Z;clear Z;have r:=zH (ae W (.cells #[.int .i64 k,.int .i64 v,.string s,.bool ng,.slice A1 m1 q1,.slice B1 m2 q2,.slice J l m] 27));have S:=zH (ah.new W 27 #[.int .i64 k,.int .i64 v,.string s,.bool ng,.slice A1 m1 q1,.slice B1 m2 q2,.slice J l m]);go_enter func46,ntmps46;go_wp2_with fail;refine (G.o _ (by exact i.o.trans (r.o.mono i.o.size))).mono ?_;rintro e w1 ⟨rfl,C⟩;have E:=zH (r.o.trans (C.mono r.o.size));have c6:=(S.o.to C).cell 6;simp only[L3]at c6;clear C;by_cases f:P=0
  rotate_left
  ·have hz:(P != 0)=true:=by rw[bne_iff_ne];exact f
   have g:Yd (M=P):=by unfold Yd;rw[y.o,if_neg f]
   go_wp2_with fail;go_ret;rw[g.o];exact⟨rfl,E.o⟩
  have hz:(P != 0)=false:=by rw[f];rfl
  have g:Yd (M=bH a):=by unfold Yd;rw[y.o,if_pos f]
  clear f a0 y;go_wp2_with fail
  go_loopg [15] l (fun gk a1 wr=>∃ j:Nat,gk+j=l/\a1=.int .i64 (j:Int)/\Yd (bH (a.take j)=0)/\Yd (zZ W wr))
  case atStart=>exact⟨0,by omega,rfl,by unfold Yd;rw[List.take_zero];rfl,E.o⟩
  case round=>
   obtain⟨j,a3,rfl,Q,L⟩:=hrel;by_cases hj:j<l
   ·have p:j<a.length:=by rw[HL.o];exact hj
    have x:=i.o.trans (L.o.mono i.o.size);obtain⟨b,o,k',v',s',I,A2,n2,c2,B2,m3,d2,Xr,xl,xc,V,Y,a4,U,e1,e2,e3,e4,e5,e6⟩:=aZ HR.o HA.o x p;subst V;have d:Yd (∀ c,zZ wr c->Calls prog 46 #[.agg (zX k' v' s' I A2 n2 c2 B2 m3 d2 Xr xl xc).toArray] c fun e w'=>e=.returned (.int .i64 (a[j]).err0)/\zZ c w'):=fun c D=>by
     have:=IH.o j p c (x.trans (D.mono x.size));rw[Y]at this;exact this
    have a2:=Tm.err0_bd a[j];have HT:=zH (fun h=>nL a p Q.o h);have HN:=zH (jO a p Q.o);generalize (a[j]).err0=N at*;go_wp2_with fail;refine (d.o _ (by exact ae _ _)).mono ?_;rintro e w3 ⟨rfl,D⟩;have F:=zH (L.o.trans (((ae wr (.cells #[.int .i64 k',.int .i64 v',.string s',.bool I,.slice A2 n2 c2,.slice B2 m3 d2,.slice Xr xl xc] 27)).trans (D.mono (ae wr _).size)).mono L.o.size));clear D U e1 e2 e3 e4 e5 e6 d;by_cases O:N=0
    ·have hz:(N != 0)=false:=by rw[O];rfl
     have T:Yd (bH (a.take (j+1))=0):=by unfold Yd;rw[HN.o,O]
     go_wp2_with fail
     go_roundg (gk-1)
     case measure=>omega
     case rel=>exact⟨j+1,by omega,by go_num,T,F.o⟩
    ·have hz:(N != 0)=true:=by rw[bne_iff_ne];exact O
     have z:Yd (M=N):=by unfold Yd;rw[g.o];exact HT.o O
     go_wp2_with fail;go_ret;rw[z.o];exact⟨rfl,F.o⟩
   ·obtain rfl:j=l:=by omega
    have z:Yd (M=0):=by unfold Yd;rw[g.o];have h:=Q.o;rw[zG (by rw[HL.o];exact zN _)]at h;exact h
    go_wp2_with fail;go_ret;rw[z.o];exact⟨rfl,L.o⟩
def Tm.check (t:Tm):Int:=if 10000<t.count then 3 else t.err0
theorem fp {w:World} {t:Tm} {cs:List Value} (h:TC w t cs) (W:World) (G:zZ w W):
 Calls prog 12 #[.agg cs.toArray] W fun e a=>e=.returned (.int .i64 t.check)/\zZ W a:=by
 have HS:Yd (∀ a,zZ w a->Calls prog 45 #[.agg cs.toArray,.int .i64 10000] a fun e y=>e=.returned (.int .i64 ((min t.count 10001:Nat):Int))/\zZ a y):=fun a q=>AA h a 10000 q (by omega);have P:Yd (∀ a,zZ w a->Calls prog 46 #[.agg cs.toArray] a fun e y=>e=.returned (.int .i64 t.err0)/\zZ a y):=fun a q=>wR h a q;have D:Yd (t.check=if 10000<t.count then 3 else t.err0):=rfl;have j:=zH G;obtain⟨k,v,s,N,A,M,E,C,L,F,B,l,i,x⟩:=h.form;subst x;generalize t.check=O at*;generalize t.err0=Y at*;generalize t.count=n at*;clear h G;have f:=zH (ae W (.cells #[.int .i64 k,.int .i64 v,.string s,.bool N,.slice A M E,.slice C L F,.slice B l i] 27));have m:=zH (ah.new W 27 #[.int .i64 k,.int .i64 v,.string s,.bool N,.slice A M E,.slice C L F,.slice B l i]);go_enter func12,ntmps12;go_wp2_with fail;refine (HS.o _ (by exact j.o.trans (f.o.mono j.o.size))).mono ?_;rintro e Z ⟨rfl,g⟩;have b:=zH (f.o.trans (g.mono f.o.size));have d:=m.o.to g;have Q:=d.cell 0;have p:=d.cell 1;have S:=d.cell 2;have T:=d.cell 3;have U:=d.cell 4;have V:=d.cell 5;have X:=d.cell 6;simp only[L3]at Q p S T U V X;clear g d;obtain⟨z,J,c⟩:∃ z:Nat,(min n 10001:Nat)=z/\(10000<z↔10000<n):=⟨_,rfl,by omega⟩;rw[J];clear J;by_cases I:10000<z
 ·have o:Yd (O=3):=by unfold Yd;rw[D.o,if_pos (c.1 I)]
  clear c;go_wp2_with fail;go_ret;rw[o.o];exact⟨rfl,b.o⟩
 ·have o:Yd (O=Y):=by unfold Yd;rw[D.o,if_neg (fun h=>I (c.2 h))]
  clear c;go_wp2_with fail;refine (P.o _ (by exact j.o.trans (b.o.mono j.o.size))).mono ?_;rintro e w2 ⟨rfl,r⟩;go_wp2_with fail;go_ret;rw[o.o];exact⟨rfl,b.o.trans (r.mono b.o.size)⟩
theorem lQ {w:World} {k:IntKind} {T:TypeId} {a:List Nat}:∀ j u,(aX k a)[j]?=some u->(w.alloc (.cells (aX k a).toArray T)).cell? ((⟨w.heap.size,0,none⟩:Addr).add j)=some u:=by
 intro j u b;have:(⟨w.heap.size,0,none⟩:Addr).add j=⟨w.heap.size,j,none⟩:=by unfold Addr.add;split<;>simp_all
 rw[this,cell_of_row _ w.heap.size j (aX k a).toArray T (0,0) (heap_alloc_new w _)];simpa using b
theorem dv {P:Program} {f:Array Oper} {d:List Oper} {o:Oper} {a:Act} {Q:Exit->Act->World->Prop} (w:World) (m:o.guard=none) (s x:Operand) (t:TypeId)
 (G:o.op=.call { callee:=.builtin .append,args:=#[s,x],argTypes:=#[t,t] })
 (k:IntKind) (T:TypeId) (bytes:Nat) (J:P.underlying t=some (.slice T)) (e:(P.info? T).map (fun i=>(i.zero,i.size,i.bytes))=some (some (.int k 0),1,bytes)) (l:bytes<=8)
 (B:Nat) (v:Value) (xs b:List Nat) (I:a.eval s=v) (L:a.eval x=.slice (some ⟨w.heap.size,0,none⟩) b.length b.length) (c:aW k T w B v xs) (F:xs.length+b.length<=1000000) (A:B<=w.heap.size) (C:Array Value) (D:C=(aX k b).toArray)
 (h:∀ j w',aW k T w' B j (xs++b)->Below B w w'->wpList P f Q d (a.put o.dst j) w'):wpList P f Q (o::d) a (w.alloc (.cells C T)):=by
 subst D;obtain⟨M,n,p,q,r⟩:=info_parts e;refine wpList_append_own_at _ m s x t G B T M (.int k 0) 1 bytes J n p q r rfl (by decide) v xs.length (aX k xs) I (c.alloc _) ⟨w.heap.size,0,none⟩ b.length b.length (aX k b) L (by rw[bG];omega) lQ gw (by unfold maxLen;omega) ?_ (by simp;omega) ?_
 ·have:(xs.length+b.length)*bytes<=1000000*8:=Nat.mul_le_mul F l;omega
 ·intro j w' y z _ _;refine h j w' ?_ (((Below.refl B w).alloc A _).grown z (by simp;omega) (fun g E=>c.blk g E));unfold aW;rw[zE,<-fG];exact y
theorem oI {xs:List Nat} {g:Nat} (c:Ok aw xs) (f:g<=xs.length) (d:val aw (xs.take g)=val aw xs) (b:g=0\/xs.getD (g-1) 0≠0):xs.take g=aj aw (val aw xs):=by
 refine (gx aJ (c.take g) (NumB.top_of_last ?_) d).symm;have a:(xs.take g).length=g:=by rw[List.length_take];omega
 rcases b with rfl|b
 ·left;rfl
 ·rcases Nat.eq_zero_or_pos g with rfl|e
  ·left;rfl
  ·right
   rw[a,List.getD_eq_getElem?_getD,List.getElem?_take,if_pos (by omega),<-List.getD_eq_getElem?_getD];exact b
theorem eJ (xs:List Nat) (v:Value) (w:World) (h:Sl .i64 w v xs) (z:Ok aw xs):
 Calls prog 134 #[v] w fun e w'=>∃ C,e=.returned C/\aV w C (val aw xs)/\w=w':=by
 obtain⟨A,c,rfl,r,t,B⟩:=h;have p:=zH t;unfold maxLen at t;generalize y:xs.length=n at*;have f:=zH y;have k:=zH B;clear B y;have j:=zH z;clear z;go_enter func134,ntmps134
 go_wp2
 go_loopg [0] n (fun g v wr=>g<=n/\v=.slice A g c/\Yd (val aw (xs.take g)=val aw xs)/\w=wr)
 case atStart=>exact⟨zN _,rfl,by rw[<-f.o,List.take_length];rfl,rfl⟩
 case round=>
  obtain⟨d,rfl,l,rfl⟩:=hrel;by_cases G:0<gk
  ·obtain⟨b,o,x,rfl,I,a,J⟩:=k.o.at_ (i:=gk-1) (by omega);have q:=zH a;have F:x<65536:=by rw[<-a];exact j.o.getD (by decide) _
   clear a;by_cases m:x=0
   ·subst m
    go_wp2
    go_roundg (gk-1)
    case measure=>omega
    case rel=>
     refine⟨by omega,rfl,?_,rfl⟩;have h:=ap aw xs (gk-1);rw[show gk-1+1=gk from by omega,q.o,Nat.mul_zero,Nat.add_zero]at h;exact h.symm.trans l.o
   ·have D:=zH m;have E:((x:Int)==0)=false:=zL (by omega);clear m
    go_wp2
    go_ret;exact⟨_,rfl,Sl.of_rd k.o d r p.o (oI j.o (by rw[f.o];exact d) l.o (.inr (by rw[q.o];exact D.o))),rfl⟩
  ·go_wp2
   go_ret;exact⟨_,rfl,Sl.of_rd k.o d r p.o (oI j.o (by rw[f.o];exact d) l.o (.inl (by omega))),rfl⟩
theorem mg (xs:List Nat) (v:Value) (i:Nat) (w:World) (h:Sl .i64 w v xs) (p:i<9223372036854775807):
 Calls prog 150 #[v,.int .i64 (i:Int)] w fun e w'=>e=.returned (.int .i64 ((xs.getD i 0:Nat):Int))/\w=w':=by
 obtain⟨A,c,rfl,m,k,f⟩:=h;unfold maxLen at k;generalize g:xs.length=n at*;have j:=zH g;clear g;by_cases d:i<n
 ·obtain⟨b,o,x,rfl,l,a,q⟩:=f.at_ d;rw[a];clear f a;go_enter func150,ntmps150
  go_wp2
  go_ret;exact⟨rfl,rfl⟩
 ·rw[eZ (by rw[j.o];omega)];clear f;go_enter func150,ntmps150
  go_wp2
  go_ret;exact⟨rfl,rfl⟩
theorem kh (y:Nat) (b:y<9223372036854775808):bits .and .i64 (y:Int) 1=((y % 2:Nat):Int):=by
 have a:y &&& 1<2 ^ 63:=Nat.and_lt_two_pow _ (by omega);show IntKind.i64.wrap ((BitVec.ofInt 64 (y:Int) &&& BitVec.ofInt 64 1).toNat:Int)=_;have e:(BitVec.ofInt 64 (y:Int)).toNat=y:=by
  rw[BitVec.ofInt_natCast,BitVec.toNat_ofNat];exact Nat.mod_eq_of_lt (by omega)
 rw[BitVec.toNat_and,e,show (BitVec.ofInt 64 1).toNat=1 from rfl,Nat.and_one_is_mod,IntKind.wrap_i64];omega
theorem Be (x i:Nat):(aj aw x).getD (i / 16) 0 / 2 ^ (i % 16) % 2=x / 2 ^ i % 2:=by
 have b:=bK aw (aj aw x) (i / 16);have d:=ar aw (aj aw x) (i / 16);rw[aR aJ,d]at b;have h:(aj aw x).getD (i / 16) 0=x / aw ^ (i / 16) % aw:=by
  rcases Nat.lt_or_ge (i / 16) (aj aw x).length with a|a
  ·have f:=cC (bg aJ x) (j:=i / 16) (by omega);have e:x / aw ^ (i / 16)=(aj aw x).getD (i / 16) 0+aw*val aw ((aj aw x).drop (i / 16+1)):=by
    have this:x / aw ^ (i / 16)=(val aw ((aj aw x).take (i / 16))+aw ^ (i / 16)*((aj aw x).getD (i / 16) 0+aw*val aw ((aj aw x).drop (i / 16+1)))) / aw ^ (i / 16):=congrArg (fun z=>z / aw ^ (i / 16)) b;rw[this,Nat.add_mul_div_left _ _ (Nat.pow_pos (by decide)),Nat.div_eq_of_lt f,Nat.zero_add]
   rw[e,Nat.add_mul_mod_self_left,Nat.mod_eq_of_lt ((bg aJ x).getD (by decide) _)]
  ·rw[eZ a];have g:x<aw ^ (i / 16):=zD (dC aJ) (Nat.pow_le_pow_right (by decide) a);rw[Nat.div_eq_of_lt g];rfl
 have e:x / 2 ^ i=x / aw ^ (i / 16) / 2 ^ (i % 16):=by
  rw[Nat.div_div_eq_div_mul]
  congr 1
  rw[show aw=2 ^ 16 from rfl,<-Nat.pow_mul,<-Nat.pow_add]
  congr 1
  omega
 rw[h,e];generalize x / aw ^ (i / 16)=z;have l:i % 16<16:=Nat.mod_lt _ (by omega);generalize i % 16=k at l;have c:aw=2 ^ k*(2*2 ^ (15-k)):=by
  rw[<-Nat.mul_assoc,Nat.mul_comm (2 ^ k) 2,<-Nat.pow_succ',<-Nat.pow_add,show k+1+(15-k)=16 from by omega];rfl
 rw[c,Nat.mod_mul_right_div_self,Nat.mod_mul_right_mod]
theorem rU (x i:Nat) (v:Value) (w:World) (h:aV w v x) (m:i<9223372036854775807):
 Calls prog 151 #[v,.int .i64 (i:Int)] w fun e w'=>e=.returned (.int .i64 ((x / 2 ^ i % 2:Nat):Int))/\w=w':=by
 have H:=zH h;have j:=zH (Be x i);have f:(aj aw x).getD (i / 16) 0<65536:=(bg aJ x).getD (by decide) _;obtain⟨k,s,n,o,g,b⟩:∃ k s:Nat,(i:Int) / 16=(k:Int)/\(i:Int) % 16=(s:Int)/\s<16/\Yd (i / 16=k/\i % 16=s):=⟨i / 16,i % 16,by omega,by omega,by omega,rfl,rfl⟩;clear h;go_enter func151,ntmps151;go_wp2_with fail;refine (mg (aj aw x) v k _ H.o (by have:=b.o.1;omega)).mono ?_;rintro e p ⟨rfl,rfl⟩;rw[b.o.1]at f;obtain⟨d,a⟩:∃ d,(aj aw x).getD k 0=d:=⟨_,rfl⟩;rw[a]at f ⊢;have l:=zH a;have c:bits .and .i64 ((d:Int) / 2 ^ s) 1=((d / 2 ^ s % 2:Nat):Int):=by
  have e:(d:Int) / 2 ^ s=((d / 2 ^ s:Nat):Int):=by rw[Int.natCast_ediv,Int.natCast_pow];rfl
  rw[e];exact kh _ (by have:d / 2 ^ s<=d:=Nat.div_le_self _ _;omega)
 clear a
 go_wp2
 go_ret;refine⟨gN ?_,rfl⟩;have h:=j.o;rw[b.o.1,b.o.2,l.o]at h;rw[<-h,Int.natCast_emod,Int.natCast_ediv,Int.natCast_pow];rfl
theorem de:(prog.info? 3).map (fun i=>(i.zero,i.size,i.bytes))=some (some (.int .i64 0),1,8):=by kernel_rfl
theorem vP (x:Nat) (a:x<4294967296):bits .and .u32 (x:Int) 65535=((x % 65536:Nat):Int):=by
 have h:=u32_and (x:Int) 65535 (by omega) (by omega) (by omega) (by omega);rw[Int.toNat_natCast,show (65535:Int).toNat=2 ^ 16-1 from rfl,Nat.and_two_pow_sub_one_eq_mod]at h;exact h
theorem xO (a:List Nat) (j c b x V:Nat) (d:a.length=2*j) (e:val aw a=V) (f:x=c+65536*b):val aw (a++[c,b])=V+ai ^ j*x:=by
 rw[dq,e,d,show ai=aw ^ 2 from rfl,Nat.pow_mul,f];simp[aw]
def ja (w:World) (x:Nat) (e:Ending) (w':World):Prop:=∃ v,e=.returned v/\aV w' v x/\zZ w w'
theorem fU (xs:List Nat) (J:Value) (w:World) (U:Sl .u32 w J xs) (F:Ok ai xs) (hx:xs.length<=100000):
 Calls prog 125 #[J] w (ja w (val ai xs)):=by
 obtain⟨A,c,rfl,Z,V,G⟩:=U;unfold maxLen at V;generalize E:xs.length=n at*;have M:=zH E;have O:=zH G;have N:=zH F;clear G E F;go_enter func125,ntmps125
 go_wp2
 go_loopg [8,3,5] n (fun gk W X s5 wr=>∃ (j:Nat) (a:List Nat),gk+j=n/\W=.int .i64 (j:Int)/\Yd (aW .i64 3 wr w.heap.size X a)/\Yd (a.length=2*j/\Ok aw a/\val aw a=val ai (xs.take j))/\Yd (zZ w wr))
 case atStart=>exact⟨0,[],by omega,rfl,aW.nil_ _,⟨rfl,Ok.nil,rfl⟩,Below.refl _ _⟩
 case round=>
  obtain⟨j,a,v,rfl,HS,q,p⟩:=hrel;by_cases D:j<n
  ·obtain⟨b,o,x,rfl,Y,k,t⟩:=(O.o.below p.o).at_ (i:=j) D;have B:x<4294967296:=by rw[<-k];exact N.o.getD (by decide) _
   have P:=zH k;obtain⟨g,d,C,I,z,y,L⟩:∃ g d:Nat,bits .and .u32 (x:Int) 65535=(g:Int)/\(x:Int) / 65536=(d:Int)/\g<65536/\d<65536/\Yd (x=g+65536*d):=
    ⟨x % 65536,x / 65536,vP x B,by omega,by omega,by omega,by unfold Yd;omega⟩
   clear k;have f:a.length+[g,d].length<=1000000:=by have:=q.o.1;simp;omega
   have l:=zH f;clear f
   go_wp2_with (at_builtin;go_must (refine dv wr rfl _ _ 139 rfl .i64 3 8 underlying139 de (by decide) w.heap.size _ a [g,d] (by rfl) (by rfl) HS.o l.o p.o.size _ rfl ?_);intro v1 w1 h r)
   go_roundg (gk-1)
   case measure=>omega
   case rel=>
    obtain⟨Q,S,T⟩:=q.o;refine⟨j+1,a++[g,d],by omega,by go_num,h,⟨by simp;omega,S.append (Ok.cons z (Ok.cons y Ok.nil)),?_⟩,p.o.trans r⟩;rw[ap,P.o];exact xO a j g d x _ Q T L.o
  ·obtain rfl:j=n:=by omega
   clear v D
   go_wp2_with (go_at_call 134;refine (eJ a _ _ HS.o.sl q.o.2.1).mono ?_;rintro e w' ⟨v',rfl,m,rfl⟩)
   go_ret;rw[q.o.2.2,aM ai xs (by rw[M.o];exact zN _)]at m;exact⟨_,rfl,m,p.o⟩
theorem tY (w:World):aV w (.slice none 0 0) 0:=by
 unfold aV;rw[bd];exact (aW.nil_ (B:=0) (T:=0) w).sl
theorem aV.to {w w':World} {v:Value} {x:Nat} (h:aV w v x) (a:zZ w w'):aV w' v x:=Sl.to h a
theorem f9 (xs:List Nat) (v:Value) (i d:Nat) (w:World) (h:Sl .i64 w v xs) (b:i<9223372036854775807) (a:xs.getD i 0=d):
 Calls prog 150 #[v,.int .i64 (i:Int)] w fun e w'=>e=.returned (.int .i64 (d:Int))/\w=w':=by
 subst a;exact mg xs v i w h b
theorem dG (x y:Nat) (va vb:Value) (w:World) (S:aV w va x) (T:aV w vb y) (hx:(aj aw x).length<=1000000) (hy:(aj aw y).length<=1000000):
 Calls prog 126 #[va,vb] w fun e w'=>e=.returned (.int .i64 (cF x y))/\w=w':=by
 have J:=zH S;have L:=zH T;obtain⟨A,ca,rfl,v,D,G⟩:=S;obtain⟨A',cb,rfl,z,E,I⟩:=T;have k:=zH (zW (zW (aR aJ x) (aR aJ y)) (zW (bg aJ x) (bg aJ y)));unfold aV at J L;generalize aj aw x=f at*;generalize aj aw y=g at*;generalize V:f.length=n at*;generalize U:g.length=m at*;have N:=zH (zW V U);clear G I V U D E v z;obtain⟨M,o,r,t⟩:∃ M:Nat,max (n:Int) (m:Int)=(M:Int)/\n<=M/\m<=M/\M<=1000000:=⟨max n m,by omega,by omega,by omega,by omega⟩;go_enter func126,ntmps126;go_wp2_with fail;clear o
 go_loopg [5,6,7] (M+1) (fun gk si s6 s7 wr=>∃ j:Nat,gk=j+1/\j<=M/\si=.int .i64 ((j:Int)-1)/\Yd (val aw (f.drop j)=val aw (g.drop j))/\w=wr)
 case atStart=>exact⟨M,rfl,zN _,rfl,by unfold Yd;rw[List.drop_eq_nil_of_le (by rw[N.o.1];exact r),List.drop_eq_nil_of_le (by rw[N.o.2];exact t.1)],rfl⟩
 case round=>
  obtain⟨j,rfl,hj,rfl,h,rfl⟩:=hrel;by_cases h0:0<j
  ·obtain⟨i,rfl⟩:∃ i,j=i+1:=⟨j-1,by omega⟩;have d:((i+1:Nat):Int)-1=(i:Int):=by omega
   rw[d];clear d;obtain⟨p,W⟩:∃ p,f.getD i 0=p:=⟨_,rfl⟩;obtain⟨q,X⟩:∃ q,g.getD i 0=q:=⟨_,rfl⟩;have a:=zH (zW W X);clear W X;go_wp2_with fail;refine (f9 f _ i p _ J.o (by omega) a.o.1).mono ?_;rintro e w1 ⟨rfl,rfl⟩;go_wp2_with fail;refine (f9 g _ i q _ L.o (by omega) a.o.2).mono ?_;rintro e w1 ⟨rfl,rfl⟩;obtain⟨⟨O,P⟩,Y,Z⟩:=k.o;have b:=zH (zW O P);have c:=zH (zW Y Z);clear O P Y Z;by_cases C:p<q
   ·go_wp2
    go_ret;refine⟨gN ?_,rfl⟩;rw[iv];rw[<-b.o.1,<-b.o.2];exact gn (by decide) c.o.1 (j:=i) h.o (by rw[a.o.1,a.o.2];exact C)
   ·by_cases B:q<p
    ·go_wp2
     go_ret;refine⟨gN ?_,rfl⟩;rw[kN];rw[<-b.o.1,<-b.o.2];exact gn (by decide) c.o.2 (j:=i) h.o.symm (by rw[a.o.1,a.o.2];exact B)
    ·go_wp2
     go_roundg (i+1)
     case measure=>omega
     case rel=>
      refine⟨i,rfl,by omega,rfl,?_,rfl⟩;have l:=ar aw f i;have Q:=ar aw g i;rw[a.o.1,h.o]at l;rw[a.o.2]at Q;have F:p=q:=by omega
      rw[F]at l;exact l.trans Q.symm
  ·obtain rfl:j=0:=by omega
   go_wp2
   go_ret;refine⟨gN ?_,rfl⟩;have:=h.o;rw[List.drop_zero,List.drop_zero,k.o.1.1,k.o.1.2]at this;exact (jg this).symm
/- half -/
theorem BV (a b:Nat) (g:a<65536) (h:b<2):bits .or .i64 ((a / 2:Nat):Int) ((b*32768:Nat):Int)=((a / 2+b*32768:Nat):Int):=by
 have f:a / 2<32768:=by omega
 have e:a / 2 ||| b*32768=a / 2+b*32768:=by
  rw[Nat.or_comm,show (32768:Nat)=2 ^ 15 from rfl,<-Nat.shiftLeft_eq,<-Nat.shiftLeft_add_eq_or_of_lt (by omega),Nat.shiftLeft_eq];omega
 have i:a / 2 ||| b*32768<2 ^ 63:=by rw[e];omega
 show IntKind.i64.wrap ((BitVec.ofInt 64 ((a / 2:Nat):Int) ||| BitVec.ofInt 64 ((b*32768:Nat):Int)).toNat:Int)=_;have c:(BitVec.ofInt 64 ((a / 2:Nat):Int)).toNat=a / 2:=by
  rw[BitVec.ofInt_natCast,BitVec.toNat_ofNat];exact Nat.mod_eq_of_lt (by omega)
 have d:(BitVec.ofInt 64 ((b*32768:Nat):Int)).toNat=b*32768:=by
  rw[BitVec.ofInt_natCast,BitVec.toNat_ofNat];exact Nat.mod_eq_of_lt (by omega)
 rw[BitVec.toNat_or,c,d,e,IntKind.wrap_i64];omega
theorem wz {xs a:List Nat} {j p q:Nat} (i:Ok aw xs) (h:j<a.length) (f:xs.getD j 0=p) (k:xs.getD (j+1) 0=q) (D:Nat)
 (l:val aw (a.take j)+aw ^ j*(val aw (xs.drop j) / 2)=D):
 val aw ((a.set j (p / 2+q % 2*32768)).take (j+1))+aw ^ (j+1)*(val aw (xs.drop (j+1)) / 2)=D:=by
 have b:=ar aw xs j;have d:=ar aw xs (j+1);rw[f]at b;rw[k]at d;have c:p<65536:=by rw[<-f];exact i.getD (by decide) _
 have e:aw=65536:=rfl;have g:p / 2+q % 2*32768=val aw (xs.drop j) / 2 % aw:=by
  rw[b,d,e];omega
 rw[ap,cw _ _ _ _ zA,bi _ _ _ h,g,Nat.pow_succ];exact sx _ _ _ _ _ _ p _ (by decide) b (by rw[e];exact c) l
theorem jk (x:Nat) (va:Value) (w:World) (ha:aV w va x) (hx:(aj aw x).length<=100000):
 Calls prog 152 #[va] w (ja w (x / 2)):=by
 have X:=zH ha;obtain⟨A,c,rfl,hc,hm,hr⟩:=ha;unfold maxLen at hm;have J:=zH (zW (aR aJ x) (bg aJ x));unfold aV at X;generalize aj aw x=G at*;generalize hn:G.length=n at*;have HL:=zH hn;have HR:=zH hr;clear hr hn;obtain⟨i0,B,D,E,F⟩:=info_parts de;have HI:=zH B;have O:=zH D;have P:=zH E;have Q:=zH F;clear B D E F;go_enter func152,ntmps152
 go_wp2_with (at_make;refine wpList_make_full _ rfl _ _ 139 rfl w.heap.size 3 i0 (.int .i64 0) 1 underlying139 HI.o O.o P.o .i64 .i64 _ _ n rfl rfl rfl rfl (by rw[Q.o];omega) (by unfold maxLen;omega) zA ?_;intro w1 f z)
 have M:=zH (cL.made f);have L:=zH ((Below.refl w.heap.size w).grown z zA (by simp));clear f z
 go_loopg [10,4] n (fun gk si s4 wr=>∃ (j:Nat) (d:List Nat),gk+j=n/\si=.int .i64 (j:Int)/\Yd (cL .i64 3 wr w.heap.size w.heap.size n n d)/\Yd (Ok aw d)/\Yd (val aw (d.take j)+aw ^ j*(val aw (G.drop j) / 2)=x / 2)/\Yd (zZ w wr))
 case atStart=>exact⟨0,_,by omega,rfl,M.o,bR (by decide),by unfold Yd;rw[List.take_zero,List.drop_zero,J.o.1];simp,L.o⟩
 case round=>
  obtain⟨j,d,S,rfl,l,t,Z,I⟩:=hrel;by_cases T:j<n
  ·obtain⟨b,o,p,rfl,hb,g,a⟩:=(HR.o.below I.o).at_ (i:=j) T;have U:p<65536:=by rw[<-g];exact J.o.2.getD (by decide) _
   have HP:=zH g;obtain⟨q,k⟩:∃ q,G.getD (j+1) 0=q:=⟨_,rfl⟩;have a2:q<65536:=by rw[<-k];exact J.o.2.getD (by decide) _
   have Y:=zH k;clear g k;obtain⟨y,hy⟩:∃ y:Nat,wr.cell? ⟨w.heap.size,j,none⟩=some (.int .i64 (y:Int)):=⟨_,l.o.cell T⟩;have hf:=l.o.frozen j;have a0:(0:Int)<=(j:Int):=by omega
   have a1:(j:Int)<(n:Int):=by omega
   have V:IntKind.i64.wrap ((j:Int)+1)=(j:Int)+1:=by rw[IntKind.wrap_i64];omega
   have v:=kh q (by omega);have N:Yd (Sl .i64 wr (.slice (some ⟨b,o,none⟩) n c) G):=X.o.to I.o;have m:Yd ((⟨w.heap.size,j,none⟩:Addr)≠⟨b,o+j,none⟩):=by intro e;injection e with e;omega
   have r:Yd ((⟨b,o+j,none⟩:Addr)≠⟨w.heap.size,j,none⟩):=by intro e;injection e with e;omega
   go_wp2
   go_region_held3 (fun W=>W.cell? ⟨b,o+j,none⟩=some (.int .i64 (p:Int))) (first|exact a|exact (World.cell?_setCell_other wr ⟨w.heap.size,j,none⟩ ⟨b,o+j,none⟩ _ m.o).trans a|exact (World.cell?_setCell_other wr ⟨w.heap.size,j,none⟩ ⟨b,o+j,none⟩ _ r.o).trans a)
    (first|(go_at_call 150;refine (f9 G _ (j+1) q _ (by exact N.o) (by omega) Y.o).mono ?_;rintro e W ⟨rfl,rfl⟩))
   clear V v
   go_wp2
   go_roundg (gk-1)
   case measure=>omega
   case rel=>
    have e1:bits .or .i64 ((p:Int) / 2) ((q:Int) % 2*32768)=((p / 2+q % 2*32768:Nat):Int):=by
     have h:=BV p (q % 2) U (by omega);have e2:(q:Int) % 2*32768=((q % 2*32768:Nat):Int):=by omega
     have e3:(p:Int) / 2=((p / 2:Nat):Int):=by omega
     rw[e2,e3];exact h
    rw[e1];exact⟨j+1,_,by omega,by go_num,(l.o.stored _ _).drew,t.o.set (by show _<65536;omega),wz J.o.2 (by rw[l.o.1];omega) HP.o Y.o _ Z.o,(I.o.setCell zA _).drew⟩
  ·obtain rfl:j=n:=by omega
   clear S T
   go_wp2_with (go_at_call 134;refine (eJ d _ _ l.o.sl t.o).mono ?_;rintro e W ⟨v',rfl,C,rfl⟩)
   go_ret;have hv:=Z.o;rw[List.drop_eq_nil_of_le (by rw[HL.o];exact zN _),val_nil,Nat.zero_div,Nat.mul_zero,Nat.add_zero,aM aw d (by rw[l.o.1];exact zN _)]at hv;rw[hv]at C;exact⟨_,rfl,C,I.o⟩
theorem Af {P:Program} {f:FuncId} {args:Array Value} {w:World} {n:Nat} {v:Value} (h:Calls P f args (w.drewN n) fun e w'=>e=.returned v/\w.drewN n=w'):
 Calls P f args (w.drewN n) fun e w'=>e=.returned v/\∃ m,w'=w.drewN m:=h.mono fun _ _ a=>⟨a.1,n,a.2.symm⟩
theorem mG (B:Nat) (l:List Nat) (d:Nat):val B (l++[d])=val B l+B ^ l.length*d:=by
 rw[dq];simp
theorem oH {xs d a:List Nat} {j b p q z c:Nat} (e:a.length=j) (f:xs.getD j 0=p) (g:d.getD j 0=q) (h:p+65536*c=z+q+b)
 (k:val aw (xs.take j)+aw ^ j*b=val aw a+val aw (d.take j)):
 val aw (xs.take (j+1))+aw ^ (j+1)*c=val aw (a++[z])+val aw (d.take (j+1)):=by
 rw[ap,ap,mG,e,f,g,Nat.pow_succ,Nat.mul_assoc];have i:aw ^ j*p+aw ^ j*(aw*c)=aw ^ j*z+aw ^ j*q+aw ^ j*b:=by
  rw[<-Nat.mul_add,show aw*c=65536*c from rfl,h,Nat.mul_add,Nat.mul_add]
 omega
theorem Aq {xs b a:List Nat} {n c x y:Nat} (j:val aw xs=x) (k:val aw b=y) (m:xs.length=n) (o:b.length<=n) (i:a.length=n) (e:Ok aw a) (h:y<=x)
 (f:val aw (xs.take n)+aw ^ n*c=val aw a+val aw (b.take n)):val aw a=x-y:=by
 rw[aM aw xs (by omega),aM aw b (by omega),j,k]at f;have g:=gM e;rw[i]at g;rcases Nat.eq_zero_or_pos c with d|d
 ·rw[d,Nat.mul_zero,Nat.add_zero]at f;omega
 ·exfalso;have l:aw ^ n*1<=aw ^ n*c:=Nat.mul_le_mul_left _ d;omega
theorem se (x y:Nat) (va vb:Value) (w:World) (ha:aV w va x) (Z:aV w vb y) (hx:(aj aw x).length<=100000) (r:y<=x):
 Calls prog 153 #[va,vb] w (ja w (x-y)):=by
 have F:=zH Z;obtain⟨A,ca,rfl,a7,a1,L⟩:=ha;obtain⟨A',cb,rfl,a8,a2,a3⟩:=Z;have I:=bT (B:=aw) aJ r;have O:=zH (zW (zW (aR aJ x) (aR aJ y)) (zW (bg aJ x) (bg aJ y)));unfold maxLen at a1 a2;unfold aV at F;generalize aj aw x=xs at*;generalize aj aw y=M at*;generalize hn:xs.length=n at*;generalize hm:M.length=m at*;have HL:=zH (zW hn hm);have U:=zH L;have S:=zH r;clear L a3 hm hn r;go_enter func153,ntmps153
 go_wp2
 go_loopg [11,5,6,7,8] n (fun gk si so sb s7 s8 wr=>∃ (j d:Nat) (a:List Nat),gk+j=n/\si=.int .i64 (j:Int)/\sb=.int .i64 (d:Int)/\d<=1/\Yd (aW .i64 3 wr w.heap.size so a)/\Yd (a.length=j/\Ok aw a)/\Yd (val aw (xs.take j)+aw ^ j*d=val aw a+val aw (M.take j))/\Yd (zZ w wr))
 case atStart=>exact⟨0,0,[],by omega,rfl,rfl,by omega,aW.nil_ _,⟨rfl,Ok.nil⟩,by unfold Yd;simp,Below.refl _ _⟩
 case round=>
  obtain⟨j,d,a,a0,rfl,rfl,a6,HS,E,Q,N⟩:=hrel;by_cases hj:j<n
  ·obtain⟨b,o,p,rfl,Z,t,l⟩:=(U.o.below N.o).at_ (i:=j) hj;have b3:p<65536:=by rw[<-t];exact O.o.2.1.getD (by decide) _
   have HP:=zH t;obtain⟨q,v⟩:∃ q,M.getD j 0=q:=⟨_,rfl⟩;have b4:q<65536:=by rw[<-v];exact O.o.2.2.getD (by decide) _
   have T:=zH v;clear t v;have a9:(0:Int)<=(j:Int):=by omega
   have b0:(j:Int)<(n:Int):=by omega
   have a4:IntKind.i64.wrap ((p:Int)-(q:Int))=(p:Int)-(q:Int):=by rw[IntKind.wrap_i64];omega
   have a5:IntKind.i64.wrap ((p:Int)-(q:Int)-(d:Int))=(p:Int)-(q:Int)-(d:Int):=by rw[IntKind.wrap_i64];omega
   have V:Yd (Sl .i64 wr (.slice A' m cb) M):=F.o.to N.o;have f:a.length+[p].length<=1000000:=by have:=E.o.1;simp;omega
   have h:=zH f;clear f
   go_wp2
   go_quiet ((go_at_call 150;exact Af (f9 M _ j q _ (by exact V.o) (by omega) T.o)))
   clear a4 a5;generalize C:wr.drewN nq=P;have G:Yd (aW .i64 3 P w.heap.size u5 a):=by rw[<-C];exact HS.o
   have g:Yd (zZ w P):=by rw[<-C];exact aN N.o _
   clear C l;by_cases b1:p<q+d
   ·obtain⟨z,hz,D,W⟩:∃ z:Nat,(p:Int)-(q:Int)-(d:Int)+65536=(z:Int)/\z<65536/\Yd (p+65536*1=z+q+d):=⟨p+65536-q-d,by omega,by omega,by unfold Yd;omega⟩;have b2:(p:Int)-(q:Int)-(d:Int)<0:=by omega
    go_wp2_with (at_builtin;refine dv P rfl _ _ 139 rfl .i64 3 8 underlying139 de (by decide) w.heap.size _ a [z] (by rfl) (by rfl) G.o h.o g.o.size _ rfl ?_;intro v1 w1 c k)
    go_roundg (gk-1)
    case measure=>omega
    case rel=>
     obtain⟨X,Y⟩:=E.o;exact⟨j+1,1,a++[z],by omega,by go_num,rfl,by omega,c,⟨by simp;omega,Y.append (Ok.cons D Ok.nil)⟩,oH X HP.o T.o W.o Q.o,g.o.trans k⟩
   ·obtain⟨z,hz,D,W⟩:∃ z:Nat,(p:Int)-(q:Int)-(d:Int)=(z:Int)/\z<65536/\Yd (p+65536*0=z+q+d):=⟨p-q-d,by omega,by omega,by unfold Yd;omega⟩;rw[hz];clear hz
    go_wp2_with (at_builtin;refine dv P rfl _ _ 139 rfl .i64 3 8 underlying139 de (by decide) w.heap.size _ a [z] (by rfl) (by rfl) G.o h.o g.o.size _ rfl ?_;intro v1 w1 c k)
    go_roundg (gk-1)
    case measure=>omega
    case rel=>
     obtain⟨X,Y⟩:=E.o;exact⟨j+1,0,a++[z],by omega,by go_num,rfl,by omega,c,⟨by simp;omega,Y.append (Ok.cons D Ok.nil)⟩,oH X HP.o T.o W.o Q.o,g.o.trans k⟩
  ·obtain rfl:j=n:=by omega
   clear a0 hj
   go_wp2_with (go_at_call 134;refine (eJ a _ _ HS.o.sl E.o.2).mono ?_;rintro e w' ⟨v',rfl,J,rfl⟩)
   go_ret;rw[Aq O.o.1.1 O.o.1.2 HL.o.1 (by rw[HL.o.2];exact I) E.o.1 E.o.2 S.o Q.o]at J;exact⟨_,rfl,J,N.o⟩
theorem ui (p s c:Nat) (h:p<65536) (i:s<16) (f:c<2 ^ s):bits .or .i64 ((p*2 ^ s:Nat):Int) (c:Int)=((p*2 ^ s+c:Nat):Int)/\p*2 ^ s+c<4294967296:=by
 have d:(2:Nat) ^ s<=2 ^ 15:=Nat.pow_le_pow_right (by omega) (by omega);have g:p*2 ^ s<=65535*2 ^ 15:=Nat.mul_le_mul (by omega) d;have e:p*2 ^ s ||| c=p*2 ^ s+c:=by
  rw[<-Nat.shiftLeft_eq,<-Nat.shiftLeft_add_eq_or_of_lt f]
 refine⟨?_,by omega⟩;show IntKind.i64.wrap ((BitVec.ofInt 64 ((p*2 ^ s:Nat):Int) ||| BitVec.ofInt 64 (c:Int)).toNat:Int)=_;have a:(BitVec.ofInt 64 ((p*2 ^ s:Nat):Int)).toNat=p*2 ^ s:=by
  rw[BitVec.ofInt_natCast,BitVec.toNat_ofNat];exact Nat.mod_eq_of_lt (by omega)
 have b:(BitVec.ofInt 64 (c:Int)).toNat=c:=by
  rw[BitVec.ofInt_natCast,BitVec.toNat_ofNat];exact Nat.mod_eq_of_lt (by omega)
 rw[BitVec.toNat_or,a,b,e,IntKind.wrap_i64];omega
theorem uw (p s c:Nat) (h:p<65536) (i:s<16) (g:c<2 ^ s):∃ y t b a:Nat,IntKind.i64.wrap ((p:Int)*2 ^ s)=(y:Int)/\bits .or .i64 (y:Int) (c:Int)=(t:Int)/\(t:Int) % 65536=(b:Int)/\(t:Int) / 65536=(a:Int)/\t<4294967296/\b<65536/\a<2 ^ s/\p*2 ^ s+c=b+65536*a:=by
 obtain⟨d,e⟩:=ui p s c h i g;refine⟨p*2 ^ s,p*2 ^ s+c,(p*2 ^ s+c) % 65536,(p*2 ^ s+c) / 65536,?_,d,by omega,by omega,e,by omega,?_,by omega⟩
 ·rw[<-ot,<-Int.natCast_mul];generalize p*2 ^ s=y at*;rw[IntKind.wrap_i64];omega
 ·rw[Nat.div_lt_iff_lt_mul (by omega)];have f:(p+1)*2 ^ s<=65536*2 ^ s:=Nat.mul_le_mul_right _ (by omega);rw[Nat.add_mul,Nat.one_mul,Nat.mul_comm 65536]at f;omega
theorem xh {xs a:List Nat} {j k s c p d b:Nat} (f:a.length=k+j) (h:xs.getD j 0=p) (e:p*2 ^ s+c=d+65536*b)
 (g:val aw a+aw ^ (k+j)*c=2 ^ s*aw ^ k*val aw (xs.take j)):
 val aw (a++[d])+aw ^ (k+(j+1))*b=2 ^ s*aw ^ k*val aw (xs.take (j+1)):=by
 rw[mG,f,ap,h,<-Nat.add_assoc,Nat.pow_succ,Nat.mul_assoc,Nat.add_assoc,<-Nat.mul_add,show d+aw*b=d+65536*b from rfl,<-e,Nat.mul_add,Nat.mul_add (2 ^ s*aw ^ k),<-g];have:aw ^ (k+j)*(p*2 ^ s)=2 ^ s*aw ^ k*(aw ^ j*p):=by
  rw[Nat.pow_add];simp only[Nat.mul_comm,Nat.mul_left_comm,Nat.mul_assoc]
 omega
theorem Ao (x n:Nat) (va:Value) (w:World) (ha:aV w va x) (hl:(aj aw x).length<=100000) (hn:n<=1000000):
 Calls prog 154 #[va,.int .i64 (n:Int)] w (ja w (x*2 ^ n)):=by
 obtain⟨A,c,rfl,hc,hm,hr⟩:=ha;unfold maxLen at hm;obtain⟨k,s,hk,hs,E,HN⟩:∃ k s:Nat,(n:Int) / 16=(k:Int)/\(n:Int) % 16=(s:Int)/\s<16/\Yd (n=16*k+s):=⟨n / 16,n % 16,by omega,by omega,by omega,by unfold Yd;omega⟩;have a3:k<=100000:=by have:=HN.o;omega
 have P:=zH (zW (aR aJ x) (bg aJ x));generalize aj aw x=xs at*;generalize F:xs.length=l at*;have HL:=zH F;have HR:=zH hr;clear F hr;by_cases h0:l=0
 ·subst h0;have W:(((0:Nat):Int)==0)=true:=rfl;have Q:Yd (x=0):=by
   have V:=P.o.1;rw[zF HL.o]at V;exact V.symm
  clear hk hs;go_enter func154,ntmps154
  go_wp2
  go_ret;refine⟨_,rfl,?_,Below.refl _ _⟩;rw[Q.o,Nat.zero_mul];exact tY _
 have W:((l:Int)==0)=false:=zL (by omega);obtain⟨i0,C,G,I,J⟩:=info_parts de;have HI:=zH C;have S:=zH G;have T:=zH I;have U:=zH J;clear C G I J;go_enter func154,ntmps154
 go_wp2_with (at_make;refine wpList_make_full _ rfl _ _ 139 rfl w.heap.size 3 i0 (.int .i64 0) 1 underlying139 HI.o S.o T.o .i64 .i64 _ _ k rfl rfl (by omega) (by omega) (by rw[U.o];omega) (by unfold maxLen;omega) zA ?_;intro w1 a B)
 have O:Yd (aW .i64 3 w1 w.heap.size (.slice (some ⟨w.heap.size,0,none⟩) k k) (List.replicate k 0)):=by
  have h:=(cL.made a).2;unfold aW;rw[List.length_replicate];exact h
 have L:=zH ((Below.refl w.heap.size w).grown B zA (by simp));clear a B
 go_loopg [18,5,6,8,9] l (fun gk si so sc s8 s9 wr=>∃ (j m:Nat) (d:List Nat),gk+j=l/\si=.int .i64 (j:Int)/\sc=.int .i64 (m:Int)/\m<2 ^ s/\Yd (aW .i64 3 wr w.heap.size so d)/\Yd (d.length=k+j/\Ok aw d)/\Yd (val aw d+aw ^ (k+j)*m=2 ^ s*aw ^ k*val aw (xs.take j))/\Yd (zZ w wr))
 case atStart=>exact⟨0,0,List.replicate k 0,by omega,rfl,rfl,Nat.pow_pos (by omega),O.o,⟨by simp,bR (by decide)⟩,by unfold Yd;rw[dh];simp,L.o⟩
 case round=>
  obtain⟨j,m,d,Z,rfl,rfl,X,HS,z,HE,v⟩:=hrel;by_cases hj:j<l
  ·obtain⟨b,o,p,rfl,hb,r,Y⟩:=(HR.o.below v.o).at_ (i:=j) hj;have a2:p<65536:=by rw[<-r];exact P.o.2.getD (by decide) _
   have HP:=zH r;clear r;obtain⟨y,t,lo,hi,f1,f2,f3,f4,a4,a1,a0,fe⟩:=uw p s m a2 E X;have N:=zH fe;have f:d.length+[lo].length<=1000000:=by have:=z.o.1;simp;omega
   have g:=zH f;clear f fe
   go_wp2_with (at_builtin;refine dv wr rfl _ _ 139 rfl .i64 3 8 underlying139 de (by decide) w.heap.size _ d [lo] (by rfl) (by rfl) HS.o g.o v.o.size _ rfl ?_;intro v1 w1 a q)
   go_roundg (gk-1)
   case measure=>omega
   case rel=>
    obtain⟨e1,e2⟩:=z.o;exact⟨j+1,hi,d++[lo],by omega,by go_num,rfl,a0,a,⟨by simp;omega,e2.append (Ok.cons a1 Ok.nil)⟩,xh e1 HP.o N.o HE.o,v.o.trans q⟩
  ·obtain rfl:j=l:=by omega
   have f:d.length+[m].length<=1000000:=by have:=z.o.1;simp;omega
   have g:=zH f;clear Z hj f;have M:Yd (m<65536):=by
    have V:(2:Nat) ^ s<=2 ^ 15:=Nat.pow_le_pow_right (by omega) (by omega);unfold Yd;omega
   go_wp2_with (first
    |(at_builtin;refine dv wr rfl _ _ 139 rfl .i64 3 8 underlying139 de (by decide) w.heap.size _ d [m] (by rfl) (by rfl) HS.o g.o v.o.size _ rfl ?_;intro v1 w1 a q)
    |(go_at_call 134;refine (eJ (d++[m]) _ _ a.sl (z.o.2.append (Ok.cons M.o Ok.nil))).mono ?_;rintro e w' ⟨v',rfl,D,rfl⟩))
   go_ret;have he:=HE.o;rw[aM aw xs (by rw[HL.o];exact zN _),P.o.1]at he;have hv:val aw (d++[m])=x*2 ^ n:=by
    rw[mG,z.o.1,he,HN.o,Nat.pow_add,Nat.pow_mul,show (2:Nat) ^ 16=aw from rfl,Nat.mul_comm x,Nat.mul_comm (aw ^ k)]
   rw[hv]at D;exact⟨_,rfl,D,v.o.trans q⟩
theorem jj (p q:Nat) (c:p % 2=0) (b:q % 2=1):Nat.gcd (p / 2) q=Nat.gcd p q:=by
 have a:Nat.Coprime 2 q:=by
  show Nat.gcd 2 q=1;rw[Nat.gcd_rec,b];rfl
 have e:p=2*(p / 2):=by omega
 have h:=Nat.Coprime.gcd_mul_left_cancel (p / 2) a;rw[<-e]at h;exact h.symm
theorem pw (p q:Nat) (a:p % 2=1) (b:q % 2=0):Nat.gcd p (q / 2)=Nat.gcd p q:=by
 rw[Nat.gcd_comm,jj q p b a,Nat.gcd_comm]
theorem mS (p q t g:Nat) (c:p % 2=0) (d:q % 2=0) (h:2 ^ t*Nat.gcd p q=g):2 ^ (t+1)*Nat.gcd (p / 2) (q / 2)=g:=by
 have a:p=2*(p / 2):=by omega
 have b:q=2*(q / 2):=by omega
 rw[a,b,Nat.gcd_mul_left,<-Nat.mul_assoc,<-Nat.pow_succ]at h;exact h
theorem fZ (x:Nat) (v:Value) (w:World) (h:aV w v x) (a:x % 2=0):
 Calls prog 151 #[v,.int .i64 0] w fun e w'=>e=.returned (.int .i64 0)/\w=w':=by
 refine (rU x 0 v w h (by omega)).mono ?_;rintro e w' ⟨rfl,rfl⟩;rw[Nat.pow_zero,Nat.div_one,a];exact⟨rfl,rfl⟩
theorem jv (x:Nat) (v:Value) (w:World) (h:aV w v x) (a:x % 2=1):
 Calls prog 151 #[v,.int .i64 0] w fun e w'=>e=.returned (.int .i64 1)/\w=w':=by
 refine (rU x 0 v w h (by omega)).mono ?_;rintro e w' ⟨rfl,rfl⟩;rw[Nat.pow_zero,Nat.div_one,a];exact⟨rfl,rfl⟩
theorem jl {x:Nat} {l:Nat} (h:(aj aw x).length<=l):(aj aw (x / 2)).length<=l:=zC (bT aJ (Nat.div_le_self _ _)) h
def sX (w:World) (s0 s1:Value) (p q:Nat):Prop:=aV w s0 p/\aV w s1 q/\(aj aw p).length<=50000/\(aj aw q).length<=50000
theorem fS {w:World} {v:Value} {x:Nat} (h:aV w v x) (d:(aj aw x).length<=50000):∃ A n c,v=.slice A n c/\n<=50000/\(0<n↔0<x):=by
 obtain⟨A,c,rfl,_⟩:=h;refine⟨A,_,c,rfl,d,?_⟩;constructor
 ·intro b;rcases Nat.eq_zero_or_pos x with a|a
  ·subst a;rw[bd]at b;exact absurd b (by simp)
  ·exact a
 ·intro b;rcases Nat.eq_zero_or_pos (aj aw x).length with a|a
  ·exact absurd ((dc aJ).1 (zF a)) (by omega)
  ·exact a
theorem Ct {x t p N:Nat} (d:(aj aw x).length<=N) (c:0<p) (h:2 ^ t*p<=x):t<=16*N:=by
 have e:2 ^ t*1<=2 ^ t*p:=Nat.mul_le_mul_left _ c;have f:=dC (n:=x) aJ;have g:aw ^ (aj aw x).length<=aw ^ N:=Nat.pow_le_pow_right (by decide) d;have a:aw ^ N=2 ^ (16*N):=by rw[show aw=2 ^ 16 from rfl,<-Nat.pow_mul]
 have b:2 ^ t<2 ^ (16*N):=by rw[<-a];omega
 exact Nat.le_of_lt ((Nat.pow_lt_pow_iff_right (by omega)).1 b)
theorem mo (x y:Nat) (va vb:Value) (w:World) (ha:aV w va x) (hb:aV w vb y) (hx:(aj aw x).length<=50000) (hy:(aj aw y).length<=50000):
 Calls prog 127 #[va,vb] w (ja w (Nat.gcd x y)):=by
 have HA:=zH ha;have HB:=zH hb;obtain⟨A,n,c,rfl,hn,a2⟩:=fS ha hx;obtain⟨A',m,c',rfl,hm,a1⟩:=fS hb hy;clear ha hb;by_cases a5:x=0
 ·have c1:n=0:=by omega
  subst c1 a5;clear a2 a1;have b7:(((0:Nat):Int)==0)=true:=rfl;go_enter func127,ntmps127
  go_wp2
  go_ret;rw[Nat.gcd_zero_left];exact⟨_,rfl,HB.o,Below.refl _ _⟩
 by_cases b4:y=0
 ·have c0:m=0:=by omega
  have b1:((n:Int)==0)=false:=zL (by omega);subst c0 b4;clear a2 a1 a5;have b7:(((0:Nat):Int)==0)=true:=rfl;go_enter func127,ntmps127
  go_wp2
  go_ret;rw[Nat.gcd_zero_right];exact⟨_,rfl,HA.o,Below.refl _ _⟩
 have b1:((n:Int)==0)=false:=zL (by omega);have f:((m:Int)==0)=false:=zL (by omega);have Z:Yd (0<x/\0<y):=⟨by omega,by omega⟩;clear a2 a1 a5 b4;go_enter func127,ntmps127
 go_upto_block 0 with fail
 go_cut [0,1,5] (fun P Q s5 T=>∃ p q t:Nat,s5=.int .i64 (t:Int)/\0<p/\0<q/\Yd (p % 2=1\/q % 2=1)/\Yd (sX T P Q p q)/\Yd (2 ^ t*Nat.gcd p q=Nat.gcd x y)/\Yd (zZ w T)/\t<=1000000)
 case first=>
  go_wp2_with fail
  go_loopg [0,1,5] x (fun gk P Q s5 wr=>∃ q t:Nat,s5=.int .i64 (t:Int)/\0<gk/\0<q/\Yd (sX wr P Q gk q)/\Yd (2 ^ t*Nat.gcd gk q=Nat.gcd x y)/\Yd (2 ^ t*gk<=x)/\Yd (zZ w wr)/\t<=1000000)
  case atStart=>exact⟨y,0,rfl,Z.o.1,Z.o.2,⟨HA.o,HB.o,hx,hy⟩,by unfold Yd;simp,by unfold Yd;simp,Below.refl _ _,by omega⟩
  case round=>
   obtain⟨q,t,rfl,hp,hq,z,HG,HX,l,ht⟩:=hrel;by_cases i:gk % 2=1
   ·have o:=zH i;clear i
    go_wp2_with (go_at_call 151;refine (jv gk _ _ z.o.1 o.o).mono ?_;rintro e S ⟨rfl,rfl⟩)
    go_meet
    case rel=>exact⟨gk,q,t,rfl,hp,hq,.inl o.o,z.o,HG.o,l.o,ht⟩
   ·have d:Yd (gk % 2=0):=by unfold Yd;omega
    clear i;by_cases F:q % 2=1
    ·have C:=zH F;clear F;go_wp2_with fail;refine (fZ gk _ _ z.o.1 d.o).mono ?_;rintro e S ⟨rfl,rfl⟩;go_wp2_with fail;refine (jv q _ _ z.o.2.1 C.o).mono ?_;rintro e S ⟨rfl,rfl⟩;go_wp2_with fail
     go_meet
     case rel=>exact⟨gk,q,t,rfl,hp,hq,.inr C.o,z.o,HG.o,l.o,ht⟩
    ·have Y:Yd (q % 2=0):=by unfold Yd;omega
     clear F;go_wp2_with fail;refine (fZ gk _ _ z.o.1 d.o).mono ?_;rintro e S ⟨rfl,rfl⟩;go_wp2_with fail;refine (fZ q _ _ z.o.2.1 Y.o).mono ?_;rintro e S ⟨rfl,rfl⟩;go_wp2_with fail;refine (jk gk _ _ z.o.1 (zC z.o.2.2.1 (by omega))).mono ?_;rintro e w2 ⟨v2,rfl,h,f⟩;have G:=zH (zW h f);clear h f;go_wp2_with fail;refine (jk q _ _ (z.o.2.1.to G.o.2) (zC z.o.2.2.2 (by omega))).mono ?_;rintro e w3 ⟨v3,rfl,v,r⟩;have I:=zH (zW v r);clear v r
     go_wp2
     go_roundg (gk / 2)
     case measure=>omega
     case rel=>
      have b3:2 ^ (t+1)*(gk / 2)<=x:=by
       have h1:=HX.o;have h2:2 ^ (t+1)*(gk / 2)=2 ^ t*(2*(gk / 2)):=by rw[Nat.pow_succ,Nat.mul_assoc]
       have h3:2*(gk / 2)=gk:=by have:=d.o;omega
       rw[h2,h3];exact h1
      have E:0<gk / 2:=by have:=d.o;omega
      have a4:0<q / 2:=by have:=Y.o;omega
      have d2:=Ct hx E b3;exact⟨q / 2,t+1,by go_num,E,a4,⟨G.o.1.to I.o.2,I.o.1,jl z.o.2.2.1,jl z.o.2.2.2⟩,mS _ _ _ _ d.o Y.o HG.o,b3,(l.o.trans (G.o.2.mono l.o.size)).trans (I.o.2.mono (zC l.o.size G.o.2.size)),by omega⟩
 case rest=>
  obtain⟨p0,q0,t,rfl,hp,hq,HO,z,HG,l,ht⟩:=hcut;clear HA HB hx hy hn hm Z b1 f;go_wp2_with fail
  go_loopg [0,1,6] (p0+q0) (fun gk P Q s6 wr=>∃ p q:Nat,p+q=gk/\0<q/\Yd (p % 2=1\/q % 2=1)/\Yd (sX wr P Q p q)/\Yd (2 ^ t*Nat.gcd p q=Nat.gcd x y)/\Yd (zZ w wr))
  case atStart=>exact⟨p0,q0,rfl,hq,HO.o,z.o,HG.o,l.o⟩
  case round=>
   obtain⟨p,q,c4,c5,a9,D,U,N⟩:=hrel;obtain⟨Ap,np,cp,c6,c8,a3⟩:=fS D.o.1 D.o.2.2.1;subst c6;subst c4;clear HO z HG l hp hq;by_cases b2:p=0
   ·have c2:np=0:=by omega
    subst b2 c2;clear a3;go_wp2_with fail;refine (Ao q t _ _ D.o.2.1 (zC D.o.2.2.2 (by omega)) (by omega)).mono ?_;rintro e w2 ⟨v2,rfl,h,f⟩
    go_wp2
    go_ret;have hg:=U.o;rw[Nat.gcd_zero_left,Nat.mul_comm]at hg;rw[hg]at h;exact⟨_,rfl,h,N.o.trans (f.mono N.o.size)⟩
   ·have c9:0<np:=by omega
    have X:Yd (0<p):=by unfold Yd;omega
    have b5:=zH a3;clear a3 b2
    go_upto_block 4 with fail
    go_cut [0] (fun P T=>∃ g:Nat,0<g/\g<=p/\Yd (g % 2=1)/\Yd (sX T P u1 g q)/\Yd (2 ^ t*Nat.gcd g q=Nat.gcd x y)/\Yd (zZ w T))
    case first=>
     go_wp2_with fail
     go_loopg [0] p (fun M P wq=>0<M/\M<=p/\Yd (M % 2=1\/q % 2=1)/\Yd (sX wq P u1 M q)/\Yd (2 ^ t*Nat.gcd M q=Nat.gcd x y)/\Yd (zZ w wq))
     case atStart=>exact⟨X.o,zN _,a9.o,D.o,U.o,N.o⟩
     case round=>
      obtain⟨hj,a0,b6,a,J,B⟩:=hrel;by_cases i:gk % 2=1
      ·have o:=zH i;clear i
       go_wp2_with (go_at_call 151;refine (jv gk _ _ a.o.1 o.o).mono ?_;rintro e S ⟨rfl,rfl⟩)
       go_meet
       case rel=>exact⟨gk,hj,a0,o.o,a.o,J.o,B.o⟩
      ·have d:Yd (gk % 2=0):=by unfold Yd;omega
       clear i;go_wp2_with fail;refine (fZ gk _ _ a.o.1 d.o).mono ?_;rintro e S ⟨rfl,rfl⟩;go_wp2_with fail;refine (jk gk _ _ a.o.1 (zC a.o.2.2.1 (by omega))).mono ?_;rintro e w2 ⟨v2,rfl,h,f⟩;have G:=zH (zW h f);clear h f
       go_wp2
       go_roundg (gk / 2)
       case measure=>omega
       case rel=>
        have F:q % 2=1:=by
         have h1:=b6.o;have h2:=d.o;omega
        have E:0<gk / 2:=by have:=d.o;omega
        exact⟨E,by omega,.inr F,⟨G.o.1,a.o.2.1.to G.o.2,jl a.o.2.2.1,a.o.2.2.2⟩,by unfold Yd;rw[jj _ _ d.o F];exact J.o,B.o.trans (G.o.2.mono B.o.size)⟩
    case rest=>
     obtain⟨g,c3,d0,o,b0,a7,a6⟩:=hcut;clear a9 U N D b5
     go_upto_block 6 with fail
     go_cut [1] (fun Q T=>∃ j:Nat,0<j/\j<=q/\Yd (j % 2=1)/\Yd (sX T u0 Q g j)/\Yd (2 ^ t*Nat.gcd g j=Nat.gcd x y)/\Yd (zZ w T))
     case first=>
      go_wp2_with fail
      go_loopg [1] q (fun M Q wq=>0<M/\M<=q/\Yd (sX wq u0 Q g M)/\Yd (2 ^ t*Nat.gcd g M=Nat.gcd x y)/\Yd (zZ w wq))
      case atStart=>exact⟨c5,zN _,b0.o,a7.o,a6.o⟩
      case round=>
       obtain⟨hj,a0,a,J,B⟩:=hrel;by_cases i:gk % 2=1
       ·have C:=zH i;clear i
        go_wp2_with (go_at_call 151;refine (jv gk _ _ a.o.2.1 C.o).mono ?_;rintro e S ⟨rfl,rfl⟩)
        go_meet
        case rel=>exact⟨gk,hj,a0,C.o,a.o,J.o,B.o⟩
       ·have d:Yd (gk % 2=0):=by unfold Yd;omega
        clear i;go_wp2_with fail;refine (fZ gk _ _ a.o.2.1 d.o).mono ?_;rintro e S ⟨rfl,rfl⟩;go_wp2_with fail;refine (jk gk _ _ a.o.2.1 (zC a.o.2.2.2 (by omega))).mono ?_;rintro e w2 ⟨v2,rfl,h,f⟩;have G:=zH (zW h f);clear h f
        go_wp2
        go_roundg (gk / 2)
        case measure=>omega
        case rel=>
         have E:0<gk / 2:=by have:=d.o;omega
         exact⟨E,by omega,⟨a.o.1.to G.o.2,G.o.1,a.o.2.2.1,jl a.o.2.2.2⟩,by unfold Yd;rw[pw _ _ o.o d.o];exact J.o,B.o.trans (G.o.2.mono B.o.size)⟩
     case rest=>
      obtain⟨j,a4,d1,C,b,a8,O⟩:=hcut;clear b0 a7 a6;go_wp2_with fail;refine (dG g j _ _ _ b.o.1 b.o.2.1 (zC b.o.2.2.1 (by omega)) (zC b.o.2.2.2 (by omega))).mono ?_;rintro e w2 ⟨rfl,rfl⟩;by_cases L:g<j
      ·rw[iv L];have W:=zH L;clear L;go_wp2_with fail;refine (se j g _ _ _ b.o.2.1 b.o.1 (zC b.o.2.2.2 (by omega)) (Nat.le_of_lt W.o)).mono ?_;rintro e w3 ⟨v3,rfl,v,r⟩;have I:=zH (zW v r);clear v r
       go_wp2
       go_roundg ((j-g)+g)
       case measure=>have:=X.o;have:=W.o;omega
       case rel=>exact⟨j-g,g,rfl,c3,.inr o.o,⟨I.o.1,b.o.1.to I.o.2,zC (bT aJ (Nat.sub_le _ _)) b.o.2.2.2,b.o.2.2.1⟩,by unfold Yd;rw[Nat.gcd_comm (j-g) g,Nat.gcd_sub_self_right (Nat.le_of_lt W.o)];exact a8.o,O.o.trans (I.o.2.mono O.o.size)⟩
      ·generalize hk:cF g j=k;have c7:(decide (k<0))=false:=by rw[decide_eq_false_iff_not,<-hk,yF];exact L
       have b8:=Bi g j;rw[hk]at b8;clear hk;have V:Yd (j<=g):=by unfold Yd;omega
       clear L;go_wp2_with fail;refine (se g j _ _ _ b.o.1 b.o.2.1 (zC b.o.2.2.1 (by omega)) V.o).mono ?_;rintro e w3 ⟨v3,rfl,v,r⟩;have I:=zH (zW v r);clear v r
       go_wp2
       go_roundg ((g-j)+j)
       case measure=>have:=X.o;have:=V.o;omega
       case rel=>exact⟨g-j,j,rfl,a4,.inr C.o,⟨I.o.1,b.o.2.1.to I.o.2,zC (bT aJ (Nat.sub_le _ _)) b.o.2.2.1,b.o.2.2.2⟩,by unfold Yd;rw[Nat.gcd_sub_self_left V.o];exact a8.o,O.o.trans (I.o.2.mono O.o.size)⟩
theorem wm (neg:Bool) (xs f:List Nat) (i j:Value) (w:World) (k:Sl .u32 w i xs) (l:Sl .u32 w j f) (g:128<xs.length\/128<f.length):
 Calls prog 88 #[.agg #[.bool neg,i,j]] w fun e w'=>e=.returned (.int .i64 3)/\zZ w w':=by
 obtain⟨A,r,rfl,o,a,c⟩:=k;obtain⟨q,t,rfl,p,b,d⟩:=l;unfold maxLen at a b;generalize xs.length=n at*;generalize f.length=m at*;clear c d;by_cases h:128<n
 ·clear g;go_enter func88,ntmps88
  go_wp2
  go_ret;exact⟨rfl,zB.alloc zA _⟩
 ·have v:128<m:=by omega
  have x:n<=128:=by omega
  clear g h;go_enter func88,ntmps88
  go_wp2
  go_ret;exact⟨rfl,zB.alloc zA _⟩
end Go.Proofs.YtlhojoefhannnaaGreat
