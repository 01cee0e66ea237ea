/- term.node: a node without its arguments. And 19 more texts. -/
import Derived.Laws.BytesArg
import Derived.Test.YtlhojoefhannnaaGreatJt9
set_option linter.unusedVariables false
set_option linter.unusedSimpArgs false
set_option maxRecDepth 100000
set_option maxHeartbeats 51200000
namespace Go.Proofs.YtlhojoefhannnaaGreat
open Go.RowKit NumB
def bP (ng:Bool) (l1 l2:Nat):Bool:=!ng&&decide (l1+l2=0)
def aJ (k v:Int) (s:ByteArray) (ng:Bool) (l1 l2:Nat) (er:Int) (na:Nat):Int:=
 if k=1 then (if 0<=v/\v<=1073741824/\s.toList=[]/\bP ng l1 l2=true/\na=0 then 0 else 2)
 else if k=2 then (if v=0/\s.toList=[]/\na=0/\er=0 then 0 else 2)
 else if k=3 then (if v=0/\bP ng l1 l2=true/\na=0 then (if 255<s.size then 3 else 0) else 2)
 else if k=4 then (if v=0/\bP ng l1 l2=true/\na=0 then (if 4000<s.size then 3 else 0) else 2)
 else if k=5 then (if v=0/\bP ng l1 l2=true/\1<=na/\na<=32 then (if 255<s.size then 3 else 0) else 2)
 else 2
theorem uG {s:ByteArray} (h:s.size≠0):s.toList≠[]:=by
 unfold ByteArray.toList;have key:∀ (n i:Nat) (r:List UInt8),s.size-i<=n->(i<s.size\/r≠[])->ByteArray.toList.loop s i r≠[]:=by
  intro n
  induction n with
  |zero=>
   intro i r hn hr;unfold ByteArray.toList.loop;have:¬i<s.size:=by omega
   rw[if_neg this];rcases hr with hr|hr
   ·exact absurd hr this
   ·simpa using hr
  |succ n ih=>
   intro i r hn hr;unfold ByteArray.toList.loop;by_cases hi:i<s.size
   ·rw[if_pos hi];exact ih (i+1) _ (by omega) (.inr (by simp))
   ·rw[if_neg hi];rcases hr with hr|hr
    ·exact absurd hr hi
    ·simpa using hr
 exact key s.size 0 [] (by omega) (.inl (by omega))
theorem bi {s:ByteArray} (h:s.toList=[]):s.size=0:=Classical.byContradiction fun h2=>uG h2 h
theorem dM {l1 l2:Nat} (h1:l1<=9223372036854775807) (h2:l2<=9223372036854775807):wrap64 ((l1:Int)+(l2:Int))=0↔l1+l2=0:=by
 unfold wrap64;omega
theorem vO {w:World} {v:Int} {s:ByteArray} {n:LN} {args:List Tm} {cs:List Value} (h:TC w (.mk 1 v s n args) cs):
 Calls Tryz.prog 74 #[.agg cs.toArray] w fun e W'=>e=.returned (.int .i64 (aJ 1 v s n.neg n.num.length n.den.length n.err args.length))/\Below w.heap.size w W':=by
 cases h with
 |mk _ _ _ _ _ A B Ar cap cs hk hv hs hA hB hn hcap hm hr ha=>
  have HCK:Hid (∀ W:World,Below w.heap.size w W->Calls Tryz.prog 92 #[.agg #[.bool n.neg,A,B]] W fun e w'=>e=.returned (.int .i64 n.err)/\Below W.heap.size W w'):=fun W hb=>dK n.neg n.num n.den A B W (hA.to hb) (hB.to hb) hn.1 hn.2;obtain⟨A1,q1,rfl,ha1,ha2,_⟩:=hA;obtain⟨B1,q2,rfl,hb1,hb2,_⟩:=hB;have hbd:0<=n.err/\n.err<=3:=dJ _ _ _;unfold maxLen at ha2 hb2;clear hr ha;generalize args.length=na at*;generalize n.num.length=l1 at*;generalize n.den.length=l2 at*;generalize n.err=er at*;generalize n.neg=ng at*;clear hn hcap hm hs hv hk;have hst:s.toList=[]->s.size=0:=bi;obtain⟨x,hx,hx0⟩:∃ x:Int,wrap64 ((l1:Int)+(l2:Int))=x/\(x=0↔l1+l2=0):=⟨_,rfl,dM (by omega) (by omega)⟩;cases ng
  all_goals
   go_enter Tryz.func74,Tryz.ntmps74;go_wp2_with fail
  all_goals first
   |(go_ret
     refine⟨congrArg (fun z=>Ending.returned (Value.int .i64 z)) ?_,I w _⟩;clear HCK;unfold aJ bP
     simp_all
     all_goals (intros;omega))
   |(refine (HCK.out _ (I w _)).mono ?_
     rintro e w2 ⟨rfl,hb⟩;have c2:=((af.new w 27 _).to hb).cell 2;simp only[L3]at c2;go_wp2_with fail
     all_goals
      go_ret;refine⟨congrArg (fun z=>Ending.returned (Value.int .i64 z)) ?_,(I w _).trans (hb.mono (I w _).size)⟩;clear HCK hb c2;unfold aJ bP
      simp_all
      all_goals (intros;omega))
theorem vP {w:World} {v:Int} {s:ByteArray} {n:LN} {args:List Tm} {cs:List Value} (h:TC w (.mk 2 v s n args) cs):
 Calls Tryz.prog 74 #[.agg cs.toArray] w fun e W'=>e=.returned (.int .i64 (aJ 2 v s n.neg n.num.length n.den.length n.err args.length))/\Below w.heap.size w W':=by
 cases h with
 |mk _ _ _ _ _ A B Ar cap cs hk hv hs hA hB hn hcap hm hr ha=>
  have HCK:Hid (∀ W:World,Below w.heap.size w W->Calls Tryz.prog 92 #[.agg #[.bool n.neg,A,B]] W fun e w'=>e=.returned (.int .i64 n.err)/\Below W.heap.size W w'):=fun W hb=>dK n.neg n.num n.den A B W (hA.to hb) (hB.to hb) hn.1 hn.2;obtain⟨A1,q1,rfl,ha1,ha2,_⟩:=hA;obtain⟨B1,q2,rfl,hb1,hb2,_⟩:=hB;have hbd:0<=n.err/\n.err<=3:=dJ _ _ _;unfold maxLen at ha2 hb2;clear hr ha;generalize args.length=na at*;generalize n.num.length=l1 at*;generalize n.den.length=l2 at*;generalize n.err=er at*;generalize n.neg=ng at*;clear hn hcap hm hs hv hk;have hst:s.toList=[]->s.size=0:=bi;obtain⟨x,hx,hx0⟩:∃ x:Int,wrap64 ((l1:Int)+(l2:Int))=x/\(x=0↔l1+l2=0):=⟨_,rfl,dM (by omega) (by omega)⟩;cases ng
  all_goals
   go_enter Tryz.func74,Tryz.ntmps74;go_wp2_with fail
  all_goals first
   |(go_ret
     refine⟨congrArg (fun z=>Ending.returned (Value.int .i64 z)) ?_,I w _⟩;clear HCK;unfold aJ bP
     simp_all
     all_goals (intros;omega))
   |(refine (HCK.out _ (I w _)).mono ?_
     rintro e w2 ⟨rfl,hb⟩;have c2:=((af.new w 27 _).to hb).cell 2;simp only[L3]at c2;go_wp2_with fail
     all_goals
      go_ret;refine⟨congrArg (fun z=>Ending.returned (Value.int .i64 z)) ?_,(I w _).trans (hb.mono (I w _).size)⟩;clear HCK hb c2;unfold aJ bP
      simp_all
      all_goals (intros;omega))
theorem ro {w:World} {v:Int} {s:ByteArray} {n:LN} {args:List Tm} {cs:List Value} (h:TC w (.mk 3 v s n args) cs):
 Calls Tryz.prog 74 #[.agg cs.toArray] w fun e W'=>e=.returned (.int .i64 (aJ 3 v s n.neg n.num.length n.den.length n.err args.length))/\Below w.heap.size w W':=by
 cases h with
 |mk _ _ _ _ _ A B Ar cap cs hk hv hs hA hB hn hcap hm hr ha=>
  have HCK:Hid (∀ W:World,Below w.heap.size w W->Calls Tryz.prog 92 #[.agg #[.bool n.neg,A,B]] W fun e w'=>e=.returned (.int .i64 n.err)/\Below W.heap.size W w'):=fun W hb=>dK n.neg n.num n.den A B W (hA.to hb) (hB.to hb) hn.1 hn.2;obtain⟨A1,q1,rfl,ha1,ha2,_⟩:=hA;obtain⟨B1,q2,rfl,hb1,hb2,_⟩:=hB;have hbd:0<=n.err/\n.err<=3:=dJ _ _ _;unfold maxLen at ha2 hb2;clear hr ha;generalize args.length=na at*;generalize n.num.length=l1 at*;generalize n.den.length=l2 at*;generalize n.err=er at*;generalize n.neg=ng at*;clear hn hcap hm hs hv hk;have hst:s.toList=[]->s.size=0:=bi;obtain⟨x,hx,hx0⟩:∃ x:Int,wrap64 ((l1:Int)+(l2:Int))=x/\(x=0↔l1+l2=0):=⟨_,rfl,dM (by omega) (by omega)⟩;cases ng
  all_goals
   go_enter Tryz.func74,Tryz.ntmps74;go_wp2_with fail
  all_goals first
   |(go_ret
     refine⟨congrArg (fun z=>Ending.returned (Value.int .i64 z)) ?_,I w _⟩;clear HCK;unfold aJ bP
     simp_all
     all_goals (intros;omega))
   |(refine (HCK.out _ (I w _)).mono ?_
     rintro e w2 ⟨rfl,hb⟩;have c2:=((af.new w 27 _).to hb).cell 2;simp only[L3]at c2;go_wp2_with fail
     all_goals
      go_ret;refine⟨congrArg (fun z=>Ending.returned (Value.int .i64 z)) ?_,(I w _).trans (hb.mono (I w _).size)⟩;clear HCK hb c2;unfold aJ bP
      simp_all
      all_goals (intros;omega))
theorem uf {w:World} {v:Int} {s:ByteArray} {n:LN} {args:List Tm} {cs:List Value} (h:TC w (.mk 4 v s n args) cs):
 Calls Tryz.prog 74 #[.agg cs.toArray] w fun e W'=>e=.returned (.int .i64 (aJ 4 v s n.neg n.num.length n.den.length n.err args.length))/\Below w.heap.size w W':=by
 cases h with
 |mk _ _ _ _ _ A B Ar cap cs hk hv hs hA hB hn hcap hm hr ha=>
  have HCK:Hid (∀ W:World,Below w.heap.size w W->Calls Tryz.prog 92 #[.agg #[.bool n.neg,A,B]] W fun e w'=>e=.returned (.int .i64 n.err)/\Below W.heap.size W w'):=fun W hb=>dK n.neg n.num n.den A B W (hA.to hb) (hB.to hb) hn.1 hn.2;obtain⟨A1,q1,rfl,ha1,ha2,_⟩:=hA;obtain⟨B1,q2,rfl,hb1,hb2,_⟩:=hB;have hbd:0<=n.err/\n.err<=3:=dJ _ _ _;unfold maxLen at ha2 hb2;clear hr ha;generalize args.length=na at*;generalize n.num.length=l1 at*;generalize n.den.length=l2 at*;generalize n.err=er at*;generalize n.neg=ng at*;clear hn hcap hm hs hv hk;have hst:s.toList=[]->s.size=0:=bi;obtain⟨x,hx,hx0⟩:∃ x:Int,wrap64 ((l1:Int)+(l2:Int))=x/\(x=0↔l1+l2=0):=⟨_,rfl,dM (by omega) (by omega)⟩;cases ng
  all_goals
   go_enter Tryz.func74,Tryz.ntmps74;go_wp2_with fail
  all_goals first
   |(go_ret
     refine⟨congrArg (fun z=>Ending.returned (Value.int .i64 z)) ?_,I w _⟩;clear HCK;unfold aJ bP
     simp_all
     all_goals (intros;omega))
   |(refine (HCK.out _ (I w _)).mono ?_
     rintro e w2 ⟨rfl,hb⟩;have c2:=((af.new w 27 _).to hb).cell 2;simp only[L3]at c2;go_wp2_with fail
     all_goals
      go_ret;refine⟨congrArg (fun z=>Ending.returned (Value.int .i64 z)) ?_,(I w _).trans (hb.mono (I w _).size)⟩;clear HCK hb c2;unfold aJ bP
      simp_all
      all_goals (intros;omega))
theorem ub {w:World} {v:Int} {s:ByteArray} {n:LN} {args:List Tm} {cs:List Value} (h:TC w (.mk 5 v s n args) cs):
 Calls Tryz.prog 74 #[.agg cs.toArray] w fun e W'=>e=.returned (.int .i64 (aJ 5 v s n.neg n.num.length n.den.length n.err args.length))/\Below w.heap.size w W':=by
 cases h with
 |mk _ _ _ _ _ A B Ar cap cs hk hv hs hA hB hn hcap hm hr ha=>
  have HCK:Hid (∀ W:World,Below w.heap.size w W->Calls Tryz.prog 92 #[.agg #[.bool n.neg,A,B]] W fun e w'=>e=.returned (.int .i64 n.err)/\Below W.heap.size W w'):=fun W hb=>dK n.neg n.num n.den A B W (hA.to hb) (hB.to hb) hn.1 hn.2;obtain⟨A1,q1,rfl,ha1,ha2,_⟩:=hA;obtain⟨B1,q2,rfl,hb1,hb2,_⟩:=hB;have hbd:0<=n.err/\n.err<=3:=dJ _ _ _;unfold maxLen at ha2 hb2;clear hr ha;generalize args.length=na at*;generalize n.num.length=l1 at*;generalize n.den.length=l2 at*;generalize n.err=er at*;generalize n.neg=ng at*;clear hn hcap hm hs hv hk;have hst:s.toList=[]->s.size=0:=bi;obtain⟨x,hx,hx0⟩:∃ x:Int,wrap64 ((l1:Int)+(l2:Int))=x/\(x=0↔l1+l2=0):=⟨_,rfl,dM (by omega) (by omega)⟩;cases ng
  all_goals
   go_enter Tryz.func74,Tryz.ntmps74;go_wp2_with fail
  all_goals first
   |(go_ret
     refine⟨congrArg (fun z=>Ending.returned (Value.int .i64 z)) ?_,I w _⟩;clear HCK;unfold aJ bP
     simp_all
     all_goals (intros;omega))
   |(refine (HCK.out _ (I w _)).mono ?_
     rintro e w2 ⟨rfl,hb⟩;have c2:=((af.new w 27 _).to hb).cell 2;simp only[L3]at c2;go_wp2_with fail
     all_goals
      go_ret;refine⟨congrArg (fun z=>Ending.returned (Value.int .i64 z)) ?_,(I w _).trans (hb.mono (I w _).size)⟩;clear HCK hb c2;unfold aJ bP
      simp_all
      all_goals (intros;omega))
theorem rm {w:World} {k:Int} {v:Int} {s:ByteArray} {n:LN} {args:List Tm} {cs:List Value} (h1:k≠1) (h2:k≠2) (h3:k≠3) (h4:k≠4) (h5:k≠5) (h:TC w (.mk k v s n args) cs):
 Calls Tryz.prog 74 #[.agg cs.toArray] w fun e W'=>e=.returned (.int .i64 (aJ k v s n.neg n.num.length n.den.length n.err args.length))/\Below w.heap.size w W':=by
 cases h with
 |mk _ _ _ _ _ A B Ar cap cs hk hv hs hA hB hn hcap hm hr ha=>
  have HCK:Hid (∀ W:World,Below w.heap.size w W->Calls Tryz.prog 92 #[.agg #[.bool n.neg,A,B]] W fun e w'=>e=.returned (.int .i64 n.err)/\Below W.heap.size W w'):=fun W hb=>dK n.neg n.num n.den A B W (hA.to hb) (hB.to hb) hn.1 hn.2;obtain⟨A1,q1,rfl,ha1,ha2,_⟩:=hA;obtain⟨B1,q2,rfl,hb1,hb2,_⟩:=hB;have hbd:0<=n.err/\n.err<=3:=dJ _ _ _;unfold maxLen at ha2 hb2;clear hr ha;generalize args.length=na at*;generalize n.num.length=l1 at*;generalize n.den.length=l2 at*;generalize n.err=er at*;generalize n.neg=ng at*;clear hn hcap hm hs hv hk;have hst:s.toList=[]->s.size=0:=bi;obtain⟨x,hx,hx0⟩:∃ x:Int,wrap64 ((l1:Int)+(l2:Int))=x/\(x=0↔l1+l2=0):=⟨_,rfl,dM (by omega) (by omega)⟩;have k1:(k==1)=false:=beq_eq_false_iff_ne.2 h1;have k2:(k==2)=false:=beq_eq_false_iff_ne.2 h2;have k3:(k==3)=false:=beq_eq_false_iff_ne.2 h3;have k4:(k==4)=false:=beq_eq_false_iff_ne.2 h4;have k5:(k==5)=false:=beq_eq_false_iff_ne.2 h5;cases ng
  all_goals
   go_enter Tryz.func74,Tryz.ntmps74;go_wp2_with fail
  all_goals first
   |(go_ret
     refine⟨congrArg (fun z=>Ending.returned (Value.int .i64 z)) ?_,I w _⟩;clear HCK;unfold aJ bP
     simp_all
     all_goals (intros;omega))
   |(refine (HCK.out _ (I w _)).mono ?_
     rintro e w2 ⟨rfl,hb⟩;have c2:=((af.new w 27 _).to hb).cell 2;simp only[L3]at c2;go_wp2_with fail
     all_goals
      go_ret;refine⟨congrArg (fun z=>Ending.returned (Value.int .i64 z)) ?_,(I w _).trans (hb.mono (I w _).size)⟩;clear HCK hb c2;unfold aJ bP
      simp_all
      all_goals (intros;omega))
theorem vN {w:World} {k v:Int} {s:ByteArray} {n:LN} {args:List Tm} {cs:List Value} (h:TC w (.mk k v s n args) cs):
 Calls Tryz.prog 74 #[.agg cs.toArray] w fun e W'=>e=.returned (.int .i64 (aJ k v s n.neg n.num.length n.den.length n.err args.length))/\Below w.heap.size w W':=by
 by_cases h1:k=1
 ·subst h1;exact vO h
 by_cases h2:k=2
 ·subst h2;exact vP h
 by_cases h3:k=3
 ·subst h3;exact ro h
 by_cases h4:k=4
 ·subst h4;exact uf h
 by_cases h5:k=5
 ·subst h5;exact ub h
 exact rm h1 h2 h3 h4 h5 h
mutual
def Tm.err0:Tm->Int
 |.mk k v s n args=>if aJ k v s n.neg n.num.length n.den.length n.err args.length=0 then bN args else aJ k v s n.neg n.num.length n.den.length n.err args.length
def bN:List Tm->Int
 |[]=>0
 |t::l=>if t.err0=0 then bN l else t.err0
end
theorem lO (l:List Tm) (t:Tm):bN (l++[t])=if bN l=0 then t.err0 else bN l:=by
 induction l with
 |nil=>simp[bN];omega
 |cons x l ih=>
  simp only[List.cons_append,bN,ih];by_cases h:x.err0=0<;>simp[h]
theorem lP (l:List Tm) {j:Nat} (hj:j<l.length) (h:bN (l.take j)=0):bN (l.take (j+1))=(l[j]).err0:=by rw[di l hj,lO,if_pos h]
theorem tK (l:List Tm) {j:Nat} (hj:j<l.length) (h:bN (l.take j)=0) (hne:(l[j]).err0≠0):bN l=(l[j]).err0:=by
 have h1:=lP l hj h;have:∀ (k:Nat),bN (l.take (j+1+k))=(l[j]).err0:=fun k=>by
  induction k with
  |zero=>exact h1
  |succ k ih=>
   by_cases hk:j+1+k<l.length
   ·rw[<-Nat.add_assoc,di l hk,lO,ih,if_neg hne]
   ·rw[List.take_of_length_le (by omega)]at ih ⊢;exact ih
 have h2:=this l.length
 rwa [List.take_of_length_le (by omega)]at h2
theorem pM (k v:Int) (s:ByteArray) (ng:Bool) (l1 l2:Nat) (er:Int) (na:Nat):0<=aJ k v s ng l1 l2 er na/\aJ k v s ng l1 l2 er na<=3:=by
 unfold aJ
 repeat' split
 all_goals omega
mutual
theorem Tm.err0_bd:(t:Tm)->0<=t.err0/\t.err0<=3
 |.mk k v s n args=>by
  have h1:=pM k v s n.neg n.num.length n.den.length n.err args.length;have h2:=sf args;unfold Tm.err0
  split<;>assumption
theorem sf:(l:List Tm)->0<=bN l/\bN l<=3
 |[]=>by simp[bN]
 |t::l=>by
  have h1:=Tm.err0_bd t;have h2:=sf l;unfold bN
  split<;>assumption
end
theorem ug {w:World} {t:Tm} {cs:List Value} (h:TC w t cs):∀ (W:World),Below w.heap.size w W->
 Calls Tryz.prog 46 #[.agg cs.toArray] W fun e W'=>e=.returned (.int .i64 t.err0)/\Below W.heap.size W W':=by
 induction h with
 |mk k v s n args A B Ar cap cs hk hv hs hA hB hn hcap hm hr ha ih=>
  intro W hW;have HND:Hid (∀ W':World,Below w.heap.size w W'->Calls Tryz.prog 74 #[.agg #[.int .i64 k,.int .i64 v,.string s,.bool n.neg,A,B,.slice Ar args.length cap]] W' fun e w'=>e=.returned (.int .i64 (aJ k v s n.neg n.num.length n.den.length n.err args.length))/\Below W'.heap.size W' w'):=fun W' hb=>vN ((TC.mk k v s n args A B Ar cap cs hk hv hs hA hB hn hcap hm hr ha).to hb);have HR:=zH hr;have HA:=zH ha;have IH:=zH ih;have HE0:Hid ((Tm.mk k v s n args).err0=if aJ k v s n.neg n.num.length n.den.length n.err args.length=0 then bN args else aJ k v s n.neg n.num.length n.den.length n.err args.length):=by unfold Hid;rw[Tm.err0]
  have hnb:=pM k v s n.neg n.num.length n.den.length n.err args.length;unfold maxLen at hm;have HWB:=zH hW;obtain⟨A1,q1,rfl,_⟩:=hA;obtain⟨B1,q2,rfl,_⟩:=hB;generalize (Tm.mk k v s n args).err0=e0 at*;generalize aJ k v s n.neg n.num.length n.den.length n.err args.length=ne at*;generalize n.neg=ng at*;generalize n.num.length=m1 at*;generalize n.den.length=m2 at*;clear hr ha ih hn hk hv hs hW;obtain⟨l,hl⟩:∃ l,args.length=l:=⟨_,rfl⟩;rw[hl]at hcap HND ⊢;have HL:=zH hl;clear hl;have HBA:=zH (I W (.cells #[.int .i64 k,.int .i64 v,.string s,.bool ng,.slice A1 m1 q1,.slice B1 m2 q2,.slice Ar l cap] 27));have HKA:=zH (af.new W 27 #[.int .i64 k,.int .i64 v,.string s,.bool ng,.slice A1 m1 q1,.slice B1 m2 q2,.slice Ar l cap]);go_enter Tryz.func46,Tryz.ntmps46;go_wp2_with fail;refine (HND.out _ (by exact HWB.out.trans (HBA.out.mono HWB.out.size))).mono ?_;rintro e w1 ⟨rfl,hb1⟩;have HB1:=zH (HBA.out.trans (hb1.mono HBA.out.size));have c6:=(HKA.out.to hb1).cell 6;simp only[L3]at c6;clear hb1;by_cases hne:ne=0
  rotate_left
  ·have hz:(ne != 0)=true:=by rw[bne_iff_ne];exact hne
   have HR0:Hid (e0=ne):=by unfold Hid;rw[HE0.out,if_neg hne]
   go_wp2_with fail;go_ret;rw[HR0.out];exact⟨rfl,HB1.out⟩
  have hz:(ne != 0)=false:=by rw[hne];rfl
  have HR0:Hid (e0=bN args):=by unfold Hid;rw[HE0.out,if_pos hne]
  clear hne hnb HE0;go_wp2_with fail
  go_loopg [15] l (fun gk s15 wr=>∃ j:Nat,gk+j=l/\s15=.int .i64 (j:Int)/\Hid (bN (args.take j)=0)/\Hid (Below W.heap.size W wr))
  case atStart=>exact⟨0,by omega,rfl,by unfold Hid;rw[List.take_zero];rfl,HB1.out⟩
  case round=>
   obtain⟨j,hgj,rfl,HC,HB⟩:=hrel;by_cases hj:j<l
   ·have hja:j<args.length:=by rw[HL.out];exact hj
    have HBW:=HWB.out.trans (HB.out.mono HWB.out.size);obtain⟨b,o,k',v',s',ng',A2,n2,c2,B2,m3,d2,Xr,xl,xc,hAr,hcs,hlt,e0',e1,e2,e3,e4,e5,e6⟩:=aO HR.out HA.out HBW hja;subst hAr;have HCALL:Hid (∀ W',Below wr.heap.size wr W'->Calls Tryz.prog 46 #[.agg #[.int .i64 k',.int .i64 v',.string s',.bool ng',.slice A2 n2 c2,.slice B2 m3 d2,.slice Xr xl xc]] W' fun e w'=>e=.returned (.int .i64 (args[j]).err0)/\Below W'.heap.size W' w'):=fun W' hb=>by
     have:=IH.out j hja W' (HBW.trans (hb.mono HBW.size));rw[hcs]at this;exact this
    have hbd:=Tm.err0_bd args[j];have HT:=zH (fun h=>tK args hja HC.out h);have HN:=zH (lP args hja HC.out);generalize (args[j]).err0=ej at*;go_wp2_with fail;refine (HCALL.out _ (by exact I _ _)).mono ?_;rintro e w3 ⟨rfl,hb⟩;have HB3:=zH (HB.out.trans (((I wr (.cells #[.int .i64 k',.int .i64 v',.string s',.bool ng',.slice A2 n2 c2,.slice B2 m3 d2,.slice Xr xl xc] 27)).trans (hb.mono (I wr _).size)).mono HB.out.size));clear hb e0' e1 e2 e3 e4 e5 e6 HCALL;by_cases he:ej=0
    ·have hz:(ej != 0)=false:=by rw[he];rfl
     have HN2:Hid (bN (args.take (j+1))=0):=by unfold Hid;rw[HN.out,he]
     go_wp2_with fail
     go_roundg (gk-1)
     case measure=>omega
     case rel=>exact⟨j+1,by omega,by go_num,HN2,HB3.out⟩
    ·have hz:(ej != 0)=true:=by rw[bne_iff_ne];exact he
     have HR1:Hid (e0=ej):=by unfold Hid;rw[HR0.out];exact HT.out he
     go_wp2_with fail;go_ret;rw[HR1.out];exact⟨rfl,HB3.out⟩
   ·obtain rfl:j=l:=by omega
    have HR1:Hid (e0=0):=by unfold Hid;rw[HR0.out];have h:=HC.out;rw[List.take_of_length_le (by rw[HL.out];exact Nat.le_refl _)]at h;exact h
    go_wp2_with fail;go_ret;rw[HR1.out];exact⟨rfl,HB.out⟩
def Tm.check (t:Tm):Int:=if 10000<t.count then 3 else t.err0
theorem ew {w:World} {t:Tm} {cs:List Value} (h:TC w t cs) (W:World) (hW:Below w.heap.size w W):
 Calls Tryz.prog 12 #[.agg cs.toArray] W fun e W'=>e=.returned (.int .i64 t.check)/\Below W.heap.size W W':=by
 have HS:Hid (∀ W',Below w.heap.size w W'->Calls Tryz.prog 45 #[.agg cs.toArray,.int .i64 10000] W' fun e w'=>e=.returned (.int .i64 ((min t.count 10001:Nat):Int))/\Below W'.heap.size W' w'):=fun W' hb=>wm h W' 10000 hb (by omega);have HN:Hid (∀ W',Below w.heap.size w W'->Calls Tryz.prog 46 #[.agg cs.toArray] W' fun e w'=>e=.returned (.int .i64 t.err0)/\Below W'.heap.size W' w'):=fun W' hb=>ug h W' hb;have HC:Hid (t.check=if 10000<t.count then 3 else t.err0):=rfl;have HW:=zH hW;obtain⟨k,v,s,ng,A1,n1,c1,B1,m1,d1,Ar,l,cap,hcs⟩:=h.form;subst hcs;generalize t.check=tc at*;generalize t.err0=te at*;generalize t.count=n at*;clear h hW;have HBA:=zH (I W (.cells #[.int .i64 k,.int .i64 v,.string s,.bool ng,.slice A1 n1 c1,.slice B1 m1 d1,.slice Ar l cap] 27));have HKA:=zH (af.new W 27 #[.int .i64 k,.int .i64 v,.string s,.bool ng,.slice A1 n1 c1,.slice B1 m1 d1,.slice Ar l cap]);go_enter Tryz.func12,Tryz.ntmps12;go_wp2_with fail;refine (HS.out _ (by exact HW.out.trans (HBA.out.mono HW.out.size))).mono ?_;rintro e w1 ⟨rfl,hb1⟩;have HB1:=zH (HBA.out.trans (hb1.mono HBA.out.size));have hk:=HKA.out.to hb1;have c0:=hk.cell 0;have c1':=hk.cell 1;have c2:=hk.cell 2;have c3:=hk.cell 3;have c4:=hk.cell 4;have c5:=hk.cell 5;have c6:=hk.cell 6;simp only[L3]at c0 c1' c2 c3 c4 c5 c6;clear hb1 hk;obtain⟨z,hz,hzn⟩:∃ z:Nat,(min n 10001:Nat)=z/\(10000<z↔10000<n):=⟨_,rfl,by omega⟩;rw[hz];clear hz;by_cases hn:10000<z
 ·have HR:Hid (tc=3):=by unfold Hid;rw[HC.out,if_pos (hzn.1 hn)]
  clear hzn;go_wp2_with fail;go_ret;rw[HR.out];exact⟨rfl,HB1.out⟩
 ·have HR:Hid (tc=te):=by unfold Hid;rw[HC.out,if_neg (fun h=>hn (hzn.2 h))]
  clear hzn;go_wp2_with fail;refine (HN.out _ (by exact HW.out.trans (HB1.out.mono HW.out.size))).mono ?_;rintro e w2 ⟨rfl,hb2⟩;go_wp2_with fail;go_ret;rw[HR.out];exact⟨rfl,HB1.out.trans (hb2.mono HB1.out.size)⟩
theorem kx {w:World} {k:IntKind} {T:TypeId} {ys:List Nat}:∀ j u,(aI k ys)[j]?=some u->(w.alloc (.cells (aI k ys).toArray T)).cell? ((⟨w.heap.size,0,none⟩:Addr).add j)=some u:=by
 intro j u hu;have:(⟨w.heap.size,0,none⟩:Addr).add j=⟨w.heap.size,j,none⟩:=by unfold Addr.add;split<;>simp_all
 rw[this,cell_of_row _ w.heap.size j (aI k ys).toArray T (0,0) (heap_alloc_new w _)];simpa using hu
theorem jr {P:Program} {ops:Array Oper} {rest:List Oper} {o:Oper} {a:Act} {Q:Exit->Act->World->Prop} (w:World) (hgd:o.guard=none) (s x:Operand) (t:TypeId)
 (ho:o.op=.call { callee:=.builtin .append,args:=#[s,x],argTypes:=#[t,t] })
 (k:IntKind) (T:TypeId) (bytes:Nat) (ht:P.underlying t=some (.slice T)) (hinfo:(P.info? T).map (fun i=>(i.zero,i.size,i.bytes))=some (some (.int k 0),1,bytes)) (hb8:bytes<=8)
 (B:Nat) (v:Value) (xs ys:List Nat) (hs:a.eval s=v) (hx:a.eval x=.slice (some ⟨w.heap.size,0,none⟩) ys.length ys.length) (hown:aK k T w B v xs) (hn:xs.length+ys.length<=1000000) (hB:B<=w.heap.size) (C:Array Value) (hC:C=(aI k ys).toArray)
 (h:∀ v' w',aK k T w' B v' (xs++ys)->Below B w w'->wpList P ops Q rest (a.put o.dst v') w'):wpList P ops Q (o::rest) a (w.alloc (.cells C T)):=by
 subst hC;obtain⟨i0,hi0,hz0,hz1,hz2⟩:=info_parts hinfo;refine wpList_append_own_at _ hgd s x t ho B T i0 (.int k 0) 1 bytes ht hi0 hz0 hz1 hz2 rfl (by decide) v xs.length (aI k xs) hs (hown.alloc _) ⟨w.heap.size,0,none⟩ ys.length ys.length (aI k ys) hx (by rw[aV];omega) kx eX (by unfold maxLen;omega) ?_ (by simp;omega) ?_
 ·have:(xs.length+ys.length)*bytes<=1000000*8:=Nat.mul_le_mul hn hb8;omega
 ·intro v' w' h1 h2 _ _;refine h v' w' ?_ (((Below.refl B w).alloc hB _).grown h2 (by simp;omega) (fun g hg=>hown.blk g hg));unfold aK;rw[List.length_append,<-eE];exact h1
theorem mC {xs:List Nat} {g:Nat} (ho:Ok cg xs) (hg:g<=xs.length) (hv:val cg (xs.take g)=val cg xs) (hl:g=0\/xs.getD (g-1) 0≠0):xs.take g=ai cg (val cg xs):=by
 refine (eY bV (ho.take g) (NumB.top_of_last ?_) hv).symm;have hlen:(xs.take g).length=g:=by rw[List.length_take];omega
 rcases hl with rfl|hl
 ·left;rfl
 ·rcases Nat.eq_zero_or_pos g with rfl|h0
  ·left;rfl
  ·right
   rw[hlen,List.getD_eq_getElem?_getD,List.getElem?_take,if_pos (by omega),<-List.getD_eq_getElem?_getD];exact hl
theorem my (xs:List Nat) (v:Value) (w:World) (h:Sl .i64 w v xs) (ho:Ok cg xs):
 Calls Tryz.prog 134 #[v] w fun e w'=>∃ v',e=.returned v'/\bC w v' (val cg xs)/\w=w':=by
 obtain⟨A,c,rfl,hc,hm,hr⟩:=h;have HM:=zH hm;unfold maxLen at hm;generalize hn:xs.length=n at*;have HL:=zH hn;have HR:=zH hr;clear hr hn;have HO:=zH ho;clear ho;go_enter Tryz.func134,Tryz.ntmps134
 go_wp2
 go_loopg [0] n (fun g v wr=>g<=n/\v=.slice A g c/\Hid (val cg (xs.take g)=val cg xs)/\w=wr)
 case atStart=>exact⟨Nat.le_refl _,rfl,by rw[<-HL.out,List.take_length];rfl,rfl⟩
 case round=>
  obtain⟨hg,rfl,HV,rfl⟩:=hrel;by_cases h0:0<gk
  ·obtain⟨b,o,x,rfl,hb,hxe,hx⟩:=HR.out.at_ (i:=gk-1) (by omega);have HX:=zH hxe;have hxb:x<65536:=by rw[<-hxe];exact HO.out.getD (by decide) _
   clear hxe;by_cases hz:x=0
   ·subst hz
    go_wp2
    go_roundg (gk-1)
    case measure=>omega
    case rel=>
     refine⟨by omega,rfl,?_,rfl⟩;have h:=ax cg xs (gk-1);rw[show gk-1+1=gk from by omega,HX.out,Nat.mul_zero,Nat.add_zero]at h;exact h.symm.trans HV.out
   ·have HZ:=zH hz;have hne:((x:Int)==0)=false:=beq_eq_false_iff_ne.2 (by omega);clear hz
    go_wp2
    go_ret;exact⟨_,rfl,Sl.of_rd HR.out hg hc HM.out (mC HO.out (by rw[HL.out];exact hg) HV.out (.inr (by rw[HX.out];exact HZ.out))),rfl⟩
  ·go_wp2
   go_ret;exact⟨_,rfl,Sl.of_rd HR.out hg hc HM.out (mC HO.out (by rw[HL.out];exact hg) HV.out (.inl (by omega))),rfl⟩
theorem rz (xs:List Nat) (v:Value) (i:Nat) (w:World) (h:Sl .i64 w v xs) (hi:i<9223372036854775807):
 Calls Tryz.prog 150 #[v,.int .i64 (i:Int)] w fun e w'=>e=.returned (.int .i64 ((xs.getD i 0:Nat):Int))/\w=w':=by
 obtain⟨A,c,rfl,hc,hm,hr⟩:=h;unfold maxLen at hm;generalize hn:xs.length=n at*;have HL:=zH hn;clear hn;by_cases hin:i<n
 ·obtain⟨b,o,x,rfl,hb,hxe,hx⟩:=hr.at_ hin;rw[hxe];clear hr hxe;go_enter Tryz.func150,Tryz.ntmps150
  go_wp2
  go_ret;exact⟨rfl,rfl⟩
 ·rw[gz (by rw[HL.out];omega)];clear hr;go_enter Tryz.func150,Tryz.ntmps150
  go_wp2
  go_ret;exact⟨rfl,rfl⟩
theorem ki:(Tryz.prog.info? 3).map (fun i=>(i.zero,i.size,i.bytes))=some (some (.int .i64 0),1,8):=by kernel_rfl
theorem sZ (x:Nat) (hx:x<4294967296):bits .and .u32 (x:Int) 65535=((x % 65536:Nat):Int):=by
 have h:=u32_and (x:Int) 65535 (by omega) (by omega) (by omega) (by omega);rw[Int.toNat_natCast,show (65535:Int).toNat=2 ^ 16-1 from rfl,Nat.and_two_pow_sub_one_eq_mod]at h;exact h
theorem uJ (out:List Nat) (j lo hi x V:Nat) (hl:out.length=2*j) (hv:val cg out=V) (hx:x=lo+65536*hi):val cg (out++[lo,hi])=V+ag ^ j*x:=by
 rw[dg,hv,hl,show ag=cg ^ 2 from rfl,Nat.pow_mul,hx];simp[cg]
def rR (w:World) (x:Nat) (e:Ending) (w':World):Prop:=∃ v,e=.returned v/\bC w' v x/\Below w.heap.size w w'
theorem pK (xs:List Nat) (va:Value) (w:World) (ha:Sl .u32 w va xs) (ho:Ok ag xs) (hx:xs.length<=100000):
 Calls Tryz.prog 125 #[va] w (rR w (val ag xs)):=by
 obtain⟨A,c,rfl,hc,hm,hr⟩:=ha;unfold maxLen at hm;generalize hn:xs.length=n at*;have HL:=zH hn;have HR:=zH hr;have HO:=zH ho;clear hr hn ho;go_enter Tryz.func125,Tryz.ntmps125
 go_wp2
 go_loopg [8,3,5] n (fun gk si so s5 wr=>∃ (j:Nat) (out:List Nat),gk+j=n/\si=.int .i64 (j:Int)/\Hid (aK .i64 3 wr w.heap.size so out)/\Hid (out.length=2*j/\Ok cg out/\val cg out=val ag (xs.take j))/\Hid (Below w.heap.size w wr))
 case atStart=>exact⟨0,[],by omega,rfl,aK.nil_ _,⟨rfl,Ok.nil,rfl⟩,Below.refl _ _⟩
 case round=>
  obtain⟨j,out,hgj,rfl,HS,HV,HB⟩:=hrel;by_cases hj:j<n
  ·obtain⟨b,o,x,rfl,hb,hxe,hcell⟩:=(HR.out.below HB.out).at_ (i:=j) hj;have hxb:x<4294967296:=by rw[<-hxe];exact HO.out.getD (by decide) _
   have HX:=zH hxe;obtain⟨lo,hi,hand,hshr,hlo,hhi,HE⟩:∃ lo hi:Nat,bits .and .u32 (x:Int) 65535=(lo:Int)/\(x:Int) / 65536=(hi:Int)/\lo<65536/\hi<65536/\Hid (x=lo+65536*hi):=
    ⟨x % 65536,x / 65536,sZ x hxb,by omega,by omega,by omega,by unfold Hid;omega⟩
   clear hxe;have hlen:out.length+[lo,hi].length<=1000000:=by have:=HV.out.1;simp;omega
   have HLEN:=zH hlen;clear hlen
   go_wp2_with (at_builtin;go_must (refine jr wr rfl _ _ 139 rfl .i64 3 8 Tryz.underlying139 ki (by decide) w.heap.size _ out [lo,hi] (by rfl) (by rfl) HS.out HLEN.out HB.out.size _ rfl ?_);intro v1 w1 hown1 hb1)
   go_roundg (gk-1)
   case measure=>omega
   case rel=>
    obtain⟨e1,e2,e3⟩:=HV.out;refine⟨j+1,out++[lo,hi],by omega,by go_num,hown1,⟨by simp;omega,e2.append (Ok.cons hlo (Ok.cons hhi Ok.nil)),?_⟩,HB.out.trans hb1⟩;rw[ax,HX.out];exact uJ out j lo hi x _ e1 e3 HE.out
  ·obtain rfl:j=n:=by omega
   clear hgj hj
   go_wp2_with (go_at_call 134;refine (my out _ _ HS.out.sl HV.out.2.1).mono ?_;rintro e w' ⟨v',rfl,hn',rfl⟩)
   go_ret;rw[HV.out.2.2,aX ag xs (by rw[HL.out];exact Nat.le_refl _)]at hn';exact⟨_,rfl,hn',HB.out⟩
theorem bC.to {w w':World} {v:Value} {x:Nat} (h:bC w v x) (hb:Below w.heap.size w w'):bC w' v x:=Sl.to h hb
theorem mu (xs:List Nat) (v:Value) (i d:Nat) (w:World) (h:Sl .i64 w v xs) (hi:i<9223372036854775807) (hd:xs.getD i 0=d):
 Calls Tryz.prog 150 #[v,.int .i64 (i:Int)] w fun e w'=>e=.returned (.int .i64 (d:Int))/\w=w':=by
 subst hd;exact rz xs v i w h hi
theorem vY (x y:Nat) (va vb:Value) (w:World) (ha:bC w va x) (hb:bC w vb y) (hx:(ai cg x).length<=1000000) (hy:(ai cg y).length<=1000000):
 Calls Tryz.prog 126 #[va,vb] w fun e w'=>e=.returned (.int .i64 (ee x y))/\w=w':=by
 have HA:=zH ha;have HB:=zH hb;obtain⟨A,ca,rfl,hca,hma,hra⟩:=ha;obtain⟨A',cb,rfl,hcb,hmb,hrb⟩:=hb;have HX:=zH (And.intro (And.intro (aR bV x) (aR bV y)) (And.intro (bz bV x) (bz bV y)));unfold bC at HA HB;generalize ai cg x=xs at*;generalize ai cg y=ys at*;generalize hn:xs.length=n at*;generalize hm:ys.length=m at*;have HL:=zH (And.intro hn hm);clear hra hrb hn hm hma hmb hca hcb;obtain⟨M,hM1,hM2,hM3⟩:∃ M:Nat,max (n:Int) (m:Int)=(M:Int)/\n<=M/\m<=M/\M<=1000000:=⟨max n m,by omega,by omega,by omega,by omega⟩;go_enter Tryz.func126,Tryz.ntmps126;go_wp2_with fail;clear hM1
 go_loopg [5,6,7] (M+1) (fun gk si s6 s7 wr=>∃ j:Nat,gk=j+1/\j<=M/\si=.int .i64 ((j:Int)-1)/\Hid (val cg (xs.drop j)=val cg (ys.drop j))/\w=wr)
 case atStart=>exact⟨M,rfl,Nat.le_refl _,rfl,by unfold Hid;rw[List.drop_eq_nil_of_le (by rw[HL.out.1];exact hM2),List.drop_eq_nil_of_le (by rw[HL.out.2];exact hM3.1)],rfl⟩
 case round=>
  obtain⟨j,rfl,hj,rfl,HV,rfl⟩:=hrel;by_cases h0:0<j
  ·obtain⟨i,rfl⟩:∃ i,j=i+1:=⟨j-1,by omega⟩;have hjc:((i+1:Nat):Int)-1=(i:Int):=by omega
   rw[hjc];clear hjc;obtain⟨p,hp⟩:∃ p,xs.getD i 0=p:=⟨_,rfl⟩;obtain⟨q,hq⟩:∃ q,ys.getD i 0=q:=⟨_,rfl⟩;have HPQ:=zH (And.intro hp hq);clear hp hq;go_wp2_with fail;refine (mu xs _ i p _ HA.out (by omega) HPQ.out.1).mono ?_;rintro e w1 ⟨rfl,rfl⟩;go_wp2_with fail;refine (mu ys _ i q _ HB.out (by omega) HPQ.out.2).mono ?_;rintro e w1 ⟨rfl,rfl⟩;obtain⟨⟨ex,ey⟩,ox,oy⟩:=HX.out;have HX1:=zH (And.intro ex ey);have HX2:=zH (And.intro ox oy);clear ex ey ox oy;by_cases hlt:p<q
   ·go_wp2
    go_ret;refine⟨f0 ?_,rfl⟩;rw[ik];rw[<-HX1.out.1,<-HX1.out.2];exact eV (by decide) HX2.out.1 (j:=i) HV.out (by rw[HPQ.out.1,HPQ.out.2];exact hlt)
   ·by_cases hgt:q<p
    ·go_wp2
     go_ret;refine⟨f0 ?_,rfl⟩;rw[jG];rw[<-HX1.out.1,<-HX1.out.2];exact eV (by decide) HX2.out.2 (j:=i) HV.out.symm (by rw[HPQ.out.1,HPQ.out.2];exact hgt)
    ·go_wp2
     go_roundg (i+1)
     case measure=>omega
     case rel=>
      refine⟨i,rfl,by omega,rfl,?_,rfl⟩;have h1:=ap cg xs i;have h2:=ap cg ys i;rw[HPQ.out.1,HV.out]at h1;rw[HPQ.out.2]at h2;have hpq:p=q:=by omega
      rw[hpq]at h1;exact h1.trans h2.symm
  ·obtain rfl:j=0:=by omega
   go_wp2
   go_ret;refine⟨f0 ?_,rfl⟩;have:=HV.out;rw[List.drop_zero,List.drop_zero,HX.out.1.1,HX.out.1.2]at this;exact (rZ this).symm
/- half -/
theorem j7:ai cg 1=[1]:=eY bV (Ok.cons (by decide) Ok.nil) (by simp[kV]) (by simp)
theorem Aa (w:World):bC (w.alloc (.cells #[.int .i64 1] 3)) (.slice (some ⟨w.heap.size,0,none⟩) 1 1) 1:=by
 unfold bC;rw[j7];refine⟨_,1,rfl,by decide,by decide,rfl,fun _=>⟨w.heap.size,0,rfl,by simp,fun i hi=>?_⟩⟩;obtain rfl:i=0:=by simpa using hi
 rw[cell_of_row _ w.heap.size _ #[.int .i64 1] 3 (0,0) (heap_alloc_new w _)];rfl
theorem gM {xs:List Nat} (ho:Ok ag xs) (hl:xs.length<=128):(ai cg (val ag xs)).length<=256:=by
 refine aY bV (Nat.lt_of_lt_of_le (gp ho) ?_);have h:ag=cg ^ 2:=by decide
 rw[h,<-Nat.pow_mul];exact Nat.pow_le_pow_right (by decide) (by omega)
theorem br {k v:Int} {s:ByteArray} {n:LN} {args:List Tm} (h:(Tm.mk k v s n args).err0=0):aJ k v s n.neg n.num.length n.den.length n.err args.length=0/\bN args=0:=by
 rw[Tm.err0]at h;by_cases h1:aJ k v s n.neg n.num.length n.den.length n.err args.length=0
 ·rw[if_pos h1]at h;exact⟨h1,h⟩
 ·rw[if_neg h1]at h;exact absurd h h1
theorem dm {l:List Tm} (h:bN l=0) {j:Nat} (hj:j<l.length):(l[j]).err0=0:=by
 induction l generalizing j with
 |nil=>cases hj
 |cons x l ih=>
  rw[bN]at h;by_cases h1:x.err0=0
  ·rw[if_pos h1]at h;cases j with
   |zero=>exact h1
   |succ j=>exact ih h (by simpa using hj)
  ·rw[if_neg h1]at h;exact absurd h h1
theorem gF {ng:Bool} {a b:Nat} (h:bP ng a b=true):ng=false/\a=0/\b=0:=by
 unfold bP at h;simp at h;exact h
theorem aj {k v:Int} {s:ByteArray} {ng:Bool} {a b:Nat} {er:Int} {na:Nat} (h:aJ k v s ng a b er na=0):(k=2/\v=0/\s.size=0/\er=0/\na=0)\/(k≠2/\ng=false/\a=0/\b=0/\((k=1/\0<=v/\v<=1073741824/\s.size=0/\na=0)\/(k=3/\v=0/\s.size<=255/\na=0)\/(k=4/\v=0/\s.size<=4000/\na=0)\/(k=5/\v=0/\s.size<=255/\1<=na/\na<=32))):=by
 unfold aJ at h;by_cases h1:k=1
 ·rw[if_pos h1]at h;by_cases h2:0<=v/\v<=1073741824/\s.toList=[]/\bP ng a b=true/\na=0
  ·have hz:=gF h2.2.2.2.1;exact .inr ⟨by omega,hz.1,hz.2.1,hz.2.2,.inl ⟨h1,h2.1,h2.2.1,bi h2.2.2.1,h2.2.2.2.2⟩⟩
  ·rw[if_neg h2]at h;cases h
 ·rw[if_neg h1]at h;by_cases h2:k=2
  ·rw[if_pos h2]at h;by_cases h3:v=0/\s.toList=[]/\na=0/\er=0
   ·exact .inl ⟨h2,h3.1,bi h3.2.1,h3.2.2.2,h3.2.2.1⟩
   ·rw[if_neg h3]at h;cases h
  ·rw[if_neg h2]at h;by_cases h3:k=3
   ·rw[if_pos h3]at h;by_cases h6:v=0/\bP ng a b=true/\na=0
    ·rw[if_pos h6]at h;have hz:=gF h6.2.1;by_cases h7:255<s.size
     ·rw[if_pos h7]at h;cases h
     ·exact .inr ⟨h2,hz.1,hz.2.1,hz.2.2,.inr (.inl ⟨h3,h6.1,by omega,h6.2.2⟩)⟩
    ·rw[if_neg h6]at h;cases h
   ·rw[if_neg h3]at h;by_cases h4:k=4
    ·rw[if_pos h4]at h;by_cases h6:v=0/\bP ng a b=true/\na=0
     ·rw[if_pos h6]at h;have hz:=gF h6.2.1;by_cases h7:4000<s.size
      ·rw[if_pos h7]at h;cases h
      ·exact .inr ⟨h2,hz.1,hz.2.1,hz.2.2,.inr (.inr (.inl ⟨h4,h6.1,by omega,h6.2.2⟩))⟩
     ·rw[if_neg h6]at h;cases h
    ·rw[if_neg h4]at h;by_cases h5:k=5
     ·rw[if_pos h5]at h;by_cases h6:v=0/\bP ng a b=true/\1<=na/\na<=32
      ·rw[if_pos h6]at h;have hz:=gF h6.2.1;by_cases h7:255<s.size
       ·rw[if_pos h7]at h;cases h
       ·exact .inr ⟨h2,hz.1,hz.2.1,hz.2.2,.inr (.inr (.inr ⟨h5,h6.1,by omega,h6.2.2.1,h6.2.2.2⟩))⟩
      ·rw[if_neg h6]at h;cases h
     ·rw[if_neg h5]at h;cases h
theorem zo {l:List Tm} (h:∀ i (hi:i<l.length),(l[i]).sm):sQ l:=by
 induction l with
 |nil=>rw[sQ];trivial
 |cons x l ih=>rw[sQ];exact⟨h 0 (by simp),ih fun i hi=>h (i+1) (Nat.succ_lt_succ hi)⟩
theorem TC.sm {w:World} {t:Tm} {cs:List Value} (h:TC w t cs):t.err0=0->t.sm:=by
 induction h with
 |mk k v s n args A B Ar cap cs hk hv hs hA hB hn hcap hm hr ha ih=>
  intro he;obtain⟨h1,h2⟩:=br he;have h3:=zo fun i hi=>ih i hi (dm h2 hi);rw[Tm.sm];rcases aj h1 with ⟨_,_,_,h4,h5⟩|⟨_,_,h4,h5,h6⟩
  ·have:=LN.good hn h4;exact⟨by omega,by omega,by omega,h3⟩
  ·exact⟨by omega,by omega,by omega,h3⟩
theorem aL {t:Tm} (h:t.check=0):t.count<=10000/\t.err0=0:=by
 unfold Tm.check at h;by_cases hn:10000<t.count
 ·rw[if_pos hn]at h;omega
 ·rw[if_neg hn]at h;exact⟨by omega,h⟩
def TL (w:World) (v:Value) (ts:List Tm):Prop:=∃ (Ar:Option Addr) (cap:Nat) (cs:Nat->List Value),v=.slice Ar ts.length cap/\ts.length<=cap/\cap<=maxLen/\
 (0<ts.length->∃ b o,Ar=some ⟨b,o,none⟩/\b<w.heap.size/\∀ i,i<ts.length->∀ j,j<7->w.cell? ⟨b,o+i*7+j,none⟩=(cs i)[j]?)/\∀ i (h:i<ts.length),TC w ts[i] (cs i)
theorem TL.to {w w':World} {v:Value} {ts:List Tm} (h:TL w v ts) (hb:Below w.heap.size w w'):TL w' v ts:=by
 obtain⟨Ar,cap,cs,e,h1,h2,h3,h4⟩:=h;refine⟨Ar,cap,cs,e,h1,h2,fun h0=>?_,fun i hi=>(h4 i hi).to hb⟩;obtain⟨b,o,e,hlt,hc⟩:=h3 h0;exact⟨b,o,e,Nat.lt_of_lt_of_le hlt hb.size,fun i hi j hj=>(hb.cell (p:=⟨b,o+i*7+j,none⟩) hlt).trans (hc i hi j hj)⟩
end Go.Proofs.YtlhojoefhannnaaGreat
namespace Go.Proofs.YtlhojoefhannnaaGreat.NumB
def gH (l:List UInt8):Nat:=l.foldl (fun a c=>a*10+(c.toNat-48)) 0
def pz (c:UInt8):Bool:=decide (48<=c.toNat/\c.toNat<=57)
def dD (l:List UInt8):Bool:=l.all pz
def jH (l:List UInt8):Bool:=!l.isEmpty&&dD l
theorem qS (l:List UInt8) (a:Nat):l.foldl (fun a c=>a*10+(c.toNat-48)) a=a*10 ^ l.length+gH l:=by
 induction l generalizing a with
 |nil=>simp[gH]
 |cons c l ih=>
  unfold gH;rw[List.foldl_cons,List.foldl_cons,ih,ih (0*10+(c.toNat-48)),List.length_cons,Nat.pow_succ,Nat.zero_mul,Nat.zero_add,Nat.add_mul,Nat.mul_assoc,Nat.mul_comm 10];omega
theorem oW (l m:List UInt8):gH (l++m)=gH l*10 ^ m.length+gH m:=by
 have:gH (l++m)=m.foldl (fun a c=>a*10+(c.toNat-48)) (gH l):=by unfold gH;rw[List.foldl_append]
 rw[this,qS]
def jy (x:Nat):List UInt8:=((ai 10 x).map fun d=>(48+d).toUInt8).reverse
def dec (x:Nat):List UInt8:=if x=0 then [48] else jy x
theorem xj {x:Nat} (h:x≠0):jy x≠[]:=by
 unfold jy;intro e;have:=congrArg List.length e;simp at this;exact h ((cR (B:=10) (by decide)).1 this)
end Go.Proofs.YtlhojoefhannnaaGreat.NumB
namespace Go.Proofs.YtlhojoefhannnaaGreat
open Go.RowKit NumB
theorem nT {P:Program} {ops:Array Oper} {rest:List Oper} {o:Oper} {a:Act} {Q:Exit->Act->World->Prop} (w:World) (hgd:o.guard=none) (s x:Operand) (t:TypeId)
 (ho:o.op=.call { callee:=.builtin .append,args:=#[s,x],argTypes:=#[t,t] })
 (k:IntKind) (T:TypeId) (bytes:Nat) (ht:P.underlying t=some (.slice T)) (hinfo:(P.info? T).map (fun i=>(i.zero,i.size,i.bytes))=some (some (.int k 0),1,bytes)) (hb8:bytes<=8)
 (B:Nat) (v:Value) (xs ys:List Nat) (hs:a.eval s=v) (hx:a.eval x=.slice (some ⟨w.heap.size,0,none⟩) ys.length ys.length) (hown:aK k T w B v xs) (hn:xs.length+ys.length<=1000000) (hB:B<=w.heap.size) (C:Array Value) (hC:C=(aI k ys).toArray)
 (h:∀ v' w',aK k T w' B v' (xs++ys)->Below B w w'->(w.alloc (.cells C T)).grownBy w' v.ownBlock->wpList P ops Q rest (a.put o.dst v') w'):wpList P ops Q (o::rest) a (w.alloc (.cells C T)):=by
 subst hC;obtain⟨i0,hi0,hz0,hz1,hz2⟩:=info_parts hinfo;refine wpList_append_own_at _ hgd s x t ho B T i0 (.int k 0) 1 bytes ht hi0 hz0 hz1 hz2 rfl (by decide) v xs.length (aI k xs) hs (hown.alloc _) ⟨w.heap.size,0,none⟩ ys.length ys.length (aI k ys) hx (by rw[aV];omega) kx eX (by unfold maxLen;omega) ?_ (by simp;omega) ?_
 ·have:(xs.length+ys.length)*bytes<=1000000*8:=Nat.mul_le_mul hn hb8;omega
 ·intro v' w' h1 h2 _ _;refine h v' w' ?_ (((Below.refl B w).alloc hB _).grown h2 (by simp;omega) (fun g hg=>hown.blk g hg)) h2;unfold aK;rw[List.length_append,<-eE];exact h1
theorem Sl.blk {k:IntKind} {w w':World} {g o n c:Nat} {xs:List Nat} (h:Sl k w (.slice (some ⟨g,o,none⟩) n c) xs) (hb:w'.heap[g]?=w.heap[g]?) (hs:w.heap.size<=w'.heap.size):Sl k w' (.slice (some ⟨g,o,none⟩) n c) xs:=by
 obtain⟨A,c',e,h1,h2,h3,h4⟩:=h;simp only[Value.slice.injEq]at e;obtain⟨rfl,rfl,rfl⟩:=e;refine⟨_,_,rfl,h1,h2,h3,fun hn=>?_⟩;obtain⟨b,o',e2,hbl,hc⟩:=h4 hn
 injection e2 with e2
 injection e2 with e3 e4
 subst e3 e4;exact⟨g,o,rfl,Nat.lt_of_lt_of_le hbl hs,fun i hi=>(World.cell?_of_block hb).trans (hc i hi)⟩
theorem xN {k:IntKind} {T:TypeId} {w:World} {B:Nat} {v:Value} {xs:List Nat} (h:aK k T w B v xs):∀ g,v.ownBlock=some g->g<w.heap.size:=fun g hg=>(World.ownsRow.lt h g hg).2
theorem su:(Tryz.prog.info? 5).map (fun i=>(i.zero,i.size,i.bytes))=some (some (.int .u8 0),1,1):=by kernel_rfl
theorem vS {gs l m:List Nat} (h:gs++l=m):gs.length<=m.length:=by rw[<-h];simp
theorem kb (l:List Nat) (i:Nat) (h:i<l.length):(l.map Int.ofNat).getD i 0=((l.getD i 0:Nat):Int):=by
 rw[List.getD_eq_getElem?_getD,List.getElem?_map,List.getElem?_eq_getElem h,cH h];rfl
theorem mb {x n:Nat} (h:n=(ai cg x).length):0<n↔0<x:=by
 subst h;constructor
 ·intro h;rcases Nat.eq_zero_or_pos x with h4|h4
  ·subst h4;rw[aP]at h;exact absurd h (by simp)
  ·exact h4
 ·intro h;exact List.length_pos_iff.2 fun h4=>by have:=(cR bV).1 h4;omega
end Go.Proofs.YtlhojoefhannnaaGreat
