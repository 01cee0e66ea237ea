/- Plain facts on lists of digits in a base: values, canonical lists. No program. And 8 more texts. -/
import Derived.Test.YtlhojoefhannnaaGreatProg
import Derived.WalkKit
import Derived.WalkSpells
import Derived.Below
import Derived.Laws.OwnMore
import Derived.Deep.Draws
import Derived.Deep.LoopGhost
import Derived.Deep.QuietTactic
import Derived.BigQuiet
import Derived.Deep.DeepCutAuto
import Derived.WalkLawsBesides
import Derived.IntWalk
import Derived.Outline
import Derived.Maps.AppendAt
import Derived.Lib.SliceRun
import Derived.Laws.BitsAllLaws
import Derived.Laws.BitsLemmas
import Derived.Test.YtlhojoefhannnaaGreatRows
import Derived.ProofKit
import Derived.OpenShut
import Derived.Lib.SmallJoins
import Derived.Deep.DeepHandedRow
import Derived.Lay
import Derived.Test.YtlhojoefhannnaaGreatJt1
set_option linter.unusedVariables false
set_option linter.unusedSimpArgs false
set_option maxRecDepth 100000
set_option maxHeartbeats 51200000
namespace Go.Proofs.YtlhojoefhannnaaGreat.NumB
def val (B:Nat):List Nat->Nat
 |[]=>0
 |d::ds=>d+B*val B ds
def Ok (B:Nat) (l:List Nat):Prop:=∀ d∈l,d<B
def kV (l:List Nat):Prop:=l.getLast?≠some 0
@[simp] theorem val_nil (B:Nat):val B []=0:=rfl
@[simp] theorem val_cons (B d:Nat) (ds:List Nat):val B (d::ds)=d+B*val B ds:=rfl
theorem dg (B:Nat) (a b:List Nat):val B (a++b)=val B a+B ^ a.length*val B b:=by
 induction a with
 |nil=>simp
 |cons d ds ih=>
  simp only[List.cons_append,val_cons,ih,List.length_cons,Nat.pow_succ];rw[Nat.mul_add,Nat.add_assoc,Nat.mul_comm (B ^ ds.length) B,Nat.mul_assoc]
theorem cH {l:List Nat} {k:Nat} (h:k<l.length):l.getD k 0=l[k]:=by
 rw[List.getD_eq_getElem?_getD,List.getElem?_eq_getElem h];rfl
theorem gz {l:List Nat} {k:Nat} (h:l.length<=k):l.getD k 0=0:=by
 rw[List.getD_eq_getElem?_getD,List.getElem?_eq_none h];rfl
theorem Ok.nil {B:Nat}:Ok B []:=fun _ h=>by cases h
theorem Ok.cons {B d:Nat} {l:List Nat} (h:d<B) (hl:Ok B l):Ok B (d::l):=by
 intro x hx;rcases List.mem_cons.1 hx with rfl|hx
 ·exact h
 ·exact hl x hx
theorem Ok.head {B d:Nat} {l:List Nat} (h:Ok B (d::l)):d<B:=h d (by simp)
theorem Ok.tail {B d:Nat} {l:List Nat} (h:Ok B (d::l)):Ok B l:=fun x hx=>h x (by simp[hx])
theorem Ok.append {B:Nat} {a b:List Nat} (ha:Ok B a) (hb:Ok B b):Ok B (a++b):=by
 intro x hx;rcases List.mem_append.1 hx with h|h
 ·exact ha x h
 ·exact hb x h
theorem Ok.take {B:Nat} {l:List Nat} (h:Ok B l) (k:Nat):Ok B (l.take k):=fun x hx=>h x (List.mem_of_mem_take hx)
theorem Ok.drop {B:Nat} {l:List Nat} (h:Ok B l) (k:Nat):Ok B (l.drop k):=fun x hx=>h x (List.mem_of_mem_drop hx)
theorem Ok.getD {B:Nat} {l:List Nat} (h:Ok B l) (hB:0<B) (k:Nat):l.getD k 0<B:=by
 rcases Nat.lt_or_ge k l.length with hk|hk
 ·rw[cH hk];exact h _ (List.getElem_mem hk)
 ·rw[gz hk];exact hB
theorem gp {B:Nat} {l:List Nat} (h:Ok B l):val B l<B ^ l.length:=by
 induction l with
 |nil=>simp
 |cons d ds ih=>
  have h1:=h.head;have h2:=ih h.tail;rw[val_cons,List.length_cons,Nat.pow_succ,Nat.mul_comm (B ^ ds.length) B];have h3:B*(val B ds+1)<=B*B ^ ds.length:=Nat.mul_le_mul_left _ h2;rw[Nat.mul_add]at h3;omega
theorem kV.tail {d:Nat} {l:List Nat} (h:kV (d::l)):kV l:=by
 unfold kV at*;cases l with
 |nil=>simp
 |cons e l=>simpa[List.getLast?_cons_cons] using h
theorem jM {B:Nat} (hB:0<B) {l:List Nat} (ht:kV l) (hn:l≠[]):0<val B l:=by
 induction l with
 |nil=>exact absurd rfl hn
 |cons d ds ih=>
  rw[val_cons];cases ds with
  |nil=>
   have:d≠0:=by intro e;subst e;exact ht (by simp)
   simp;omega
  |cons e es=>
   have:=ih ht.tail (by simp);have:=Nat.mul_pos hB this;omega
theorem rL {B:Nat} (hB:0<B) {l:List Nat} (ht:kV l) (hn:l≠[]):B ^ (l.length-1)<=val B l:=by
 induction l with
 |nil=>exact absurd rfl hn
 |cons d ds ih=>
  cases ds with
  |nil=>have:=jM hB ht (by simp);simp only[List.length_cons,List.length_nil,Nat.zero_add,Nat.sub_self,Nat.pow_zero];omega
  |cons e es=>
   have:=ih ht.tail (by simp);rw[val_cons];simp only[List.length_cons,Nat.add_sub_cancel]at this ⊢;rw[Nat.pow_succ,Nat.mul_comm (B ^ es.length) B];have:=Nat.mul_le_mul_left B this;omega
theorem tm {B:Nat} (hB:0<B):∀ {a b:List Nat},Ok B a->Ok B b->kV a->kV b->val B a=val B b->a=b:=by
 intro a
 induction a with
 |nil=>
  intro b _ _ _ tb h;cases b with
  |nil=>rfl
  |cons e es=>have:=jM hB tb (by simp);simp only[val_nil]at h;omega
 |cons d ds ih=>
  intro b oa ob ta tb h;cases b with
  |nil=>have:=jM hB ta (by simp);simp only[val_nil]at h;omega
  |cons e es=>
   have h1:=oa.head;have h2:=ob.head;simp only[val_cons]at h;have hm:(d+B*val B ds) % B=(e+B*val B es) % B:=by rw[h]
   have hd:(d+B*val B ds) / B=(e+B*val B es) / B:=by rw[h]
   rw[Nat.add_mul_mod_self_left,Nat.add_mul_mod_self_left,Nat.mod_eq_of_lt h1,Nat.mod_eq_of_lt h2]at hm;rw[Nat.add_mul_div_left _ _ hB,Nat.add_mul_div_left _ _ hB,Nat.div_eq_of_lt h1,Nat.div_eq_of_lt h2]at hd;have:=ih oa.tail ob.tail ta.tail tb.tail (by omega);rw[hm,this]
def ai (B n:Nat):List Nat:=if _h:n=0\/B<=1 then [] else (n % B)::ai B (n / B)
termination_by n
decreasing_by exact Nat.div_lt_self (by omega) (by omega)
theorem aP (B:Nat):ai B 0=[]:=by rw[ai];simp
theorem cY {B n:Nat} (hB:1<B) (hn:n≠0):ai B n=(n % B)::ai B (n / B):=by
 rw[ai];rw[dif_neg (by omega)]
theorem aR {B:Nat} (hB:1<B) (n:Nat):val B (ai B n)=n:=by
 induction n using Nat.strongRecOn with
 |_ n ih=>
  by_cases hn:n=0
  ·subst hn;rw[aP];rfl
  ·rw[cY hB hn,val_cons,ih _ (Nat.div_lt_self (by omega) hB),Nat.mod_add_div]
theorem bz {B:Nat} (hB:1<B) (n:Nat):Ok B (ai B n):=by
 induction n using Nat.strongRecOn with
 |_ n ih=>
  by_cases hn:n=0
  ·subst hn;rw[aP];exact Ok.nil
  ·rw[cY hB hn];exact Ok.cons (Nat.mod_lt _ (by omega)) (ih _ (Nat.div_lt_self (by omega) hB))
theorem gn {B:Nat} (hB:1<B) (n:Nat):kV (ai B n):=by
 induction n using Nat.strongRecOn with
 |_ n ih=>
  by_cases hn:n=0
  ·subst hn;rw[aP];simp[kV]
  ·rw[cY hB hn];by_cases h0:n / B=0
   ·rw[h0,aP];have:n<B:=by
     rcases Nat.lt_or_ge n B with h|h
     ·exact h
     ·have:=Nat.div_pos h (by omega);omega
    rw[Nat.mod_eq_of_lt this];simp[kV,hn]
   ·have:=ih _ (Nat.div_lt_self (by omega) hB);rw[cY hB h0]at this ⊢;unfold kV at*;simpa[List.getLast?_cons_cons] using this
theorem j8 {B:Nat} (hB:1<B) {l:List Nat} (ho:Ok B l) (ht:kV l):ai B (val B l)=l:=
 tm (by omega) (bz hB _) ho (gn hB _) ht (aR hB _)
theorem eY {B n:Nat} (hB:1<B) {l:List Nat} (ho:Ok B l) (ht:kV l) (hv:val B l=n):ai B n=l:=by
 subst hv;exact j8 hB ho ht
theorem cR {B n:Nat} (hB:1<B):ai B n=[]↔n=0:=by
 constructor
 ·intro h;by_cases hn:n=0
  ·exact hn
  ·rw[cY hB hn]at h;cases h
 ·rintro rfl;exact aP B
theorem aY {B n k:Nat} (hB:1<B) (h:n<B ^ k):(ai B n).length<=k:=by
 rcases Nat.lt_or_ge k (ai B n).length with hk|hk
 ·have h1:=rL (B:=B) (by omega) (gn hB n) (by intro e;rw[e]at hk;simp at hk);rw[aR hB]at h1;have:B ^ k<=B ^ ((ai B n).length-1):=Nat.pow_le_pow_right (by omega) (by omega);omega
 ·exact hk
theorem eZ {B n:Nat} (hB:1<B):n<B ^ (ai B n).length:=by
 have:=gp (bz hB n)
 rwa [aR hB]at this
theorem sd {B n:Nat} (hB:1<B) (hn:n≠0):B ^ ((ai B n).length-1)<=n:=by
 have:=rL (B:=B) (by omega) (gn hB n) (by rw[Ne,cR hB];exact hn)
 rwa [aR hB]at this
theorem eG {B a b:Nat} (hB:1<B) (h:a<=b):(ai B a).length<=(ai B b).length:=
 aY hB (Nat.lt_of_le_of_lt h (eZ hB))
theorem oU {B n k:Nat} (hB:1<B):k<(ai B n).length↔B ^ k<=n:=by
 constructor
 ·intro h;have hn:n≠0:=by rintro rfl;rw[aP]at h;simp at h
  exact Nat.le_trans (Nat.pow_le_pow_right (by omega) (by omega)) (sd hB hn)
 ·intro h;rcases Nat.lt_or_ge k (ai B n).length with hk|hk
  ·exact hk
  ·have:=eZ (n:=n) hB;have:=Nat.pow_le_pow_right (n:=B) (by omega) hk;omega
theorem ax (B:Nat) (xs:List Nat) (j:Nat):val B (xs.take (j+1))=val B (xs.take j)+B ^ j*xs.getD j 0:=by
 rcases Nat.lt_or_ge j xs.length with h|h
 ·rw[List.take_succ_eq_append_getElem h,dg,List.length_take,Nat.min_eq_left (by omega),cH h];simp
 ·rw[List.take_of_length_le (by omega),List.take_of_length_le h,gz h];simp
theorem aX (B:Nat) (xs:List Nat) {j:Nat} (h:xs.length<=j):val B (xs.take j)=val B xs:=by rw[List.take_of_length_le h]
theorem bZ (l:List Nat) (i j x:Nat) (h:j<=i):(l.set i x).take j=l.take j:=by
 rw[List.take_set,List.set_eq_of_length_le (by rw[List.length_take];omega)]
theorem aW (l:List Nat) (i x:Nat) (h:i<l.length):(l.set i x).getD i 0=x:=by
 rw[cH (by simpa using h)];simp
theorem getD_set_ne (l:List Nat) (i j x:Nat) (h:i≠j):(l.set i x).getD j 0=l.getD j 0:=by
 rw[List.getD_eq_getElem?_getD,List.getD_eq_getElem?_getD,List.getElem?_set_ne h]
theorem Ok.set {B:Nat} {l:List Nat} (h:Ok B l) {i x:Nat} (hx:x<B):Ok B (l.set i x):=by
 intro y hy;rcases List.mem_or_eq_of_mem_set hy with h1|h1
 ·exact h y h1
 ·omega
theorem cf {B n:Nat} (hB:0<B):Ok B (List.replicate n 0):=by
 intro y hy;rw[List.mem_replicate]at hy;omega
theorem eJ (B n:Nat):val B (List.replicate n 0)=0:=by
 induction n with
 |zero=>rfl
 |succ n ih=>rw[List.replicate_succ,val_cons,ih];simp
theorem fQ (n i:Nat):(List.replicate n 0).getD i 0=0:=by
 rcases Nat.lt_or_ge i n with h|h
 ·rw[cH (by simpa using h)];simp
 ·exact gz (by simpa using h)
theorem i5 (B n:Nat) (l:List Nat):val B (l++List.replicate n 0)=val B l:=by
 rw[dg,eJ];simp
theorem iv (P B s:Nat):P*(s % B)+(P*B)*(s / B)=P*s:=by
 rw[Nat.mul_assoc,<-Nat.mul_add,Nat.mod_add_div]
theorem uR {V Va Vb P B c a b:Nat} (h:V+P*c=Va+Vb):
 (V+P*((c+a+b) % B))+(P*B)*((c+a+b) / B)=(Va+P*a)+(Vb+P*b):=by
 have:=iv P B (c+a+b);rw[Nat.mul_add,Nat.mul_add]at this;omega
theorem top_of_last {l:List Nat} (h:l=[]\/l.getD (l.length-1) 0≠0):kV l:=by
 unfold kV;rcases h with rfl|h
 ·simp
 ·intro e;rw[List.getLast?_eq_getElem?]at e;rw[List.getD_eq_getElem?_getD,e]at h;exact h rfl
theorem bk (B:Nat) (xs:List Nat) (j:Nat):val B xs=val B (xs.take j)+B ^ j*val B (xs.drop j):=by
 rcases Nat.lt_or_ge j xs.length with h|h
 ·have:=dg B (xs.take j) (xs.drop j);rw[List.take_append_drop,List.length_take,Nat.min_eq_left (by omega)]at this;exact this
 ·rw[List.take_of_length_le h,List.drop_eq_nil_of_le h];simp
theorem lJ (xs:List Nat) (j:Nat) (h:j<xs.length):xs.drop j=xs.getD j 0::xs.drop (j+1):=by
 rw[List.drop_eq_getElem_cons h,cH h]
theorem ap (B:Nat) (xs:List Nat) (j:Nat):val B (xs.drop j)=xs.getD j 0+B*val B (xs.drop (j+1)):=by
 rcases Nat.lt_or_ge j xs.length with h|h
 ·rw[lJ xs j h,val_cons]
 ·rw[List.drop_eq_nil_of_le h,List.drop_eq_nil_of_le (by omega),gz h];simp
theorem bI {B:Nat} {xs:List Nat} (ho:Ok B xs) {j:Nat} (h:j<=xs.length):val B (xs.take j)<B ^ j:=by
 have:=gp (ho.take j)
 rwa [List.length_take,Nat.min_eq_left h]at this
theorem nQ {B:Nat} (hB:0<B) {xs:List Nat} (ho:Ok B xs) (j:Nat):val B (xs.take j)<B ^ j:=by
 have h:=gp (ho.take j);exact Nat.lt_of_lt_of_le h (Nat.pow_le_pow_right hB (List.length_take_le _ _))
def ee (x y:Nat):Int:=if x<y then -1 else if y<x then 1 else 0
theorem ik {x y:Nat} (h:x<y):ee x y = -1:=by unfold ee;rw[if_pos h]
theorem jG {x y:Nat} (h:y<x):ee x y=1:=by unfold ee;rw[if_neg (by omega),if_pos h]
theorem rZ {x y:Nat} (h:x=y):ee x y=0:=by unfold ee;rw[if_neg (by omega),if_neg (by omega)]
theorem i8 {x y:Nat}:0<=ee x y↔y<=x:=by
 unfold ee;split<;>(try split)<;>constructor<;>intro h<;>first|omega|(exfalso;omega)
theorem fD {B:Nat} {xs ys:List Nat} (hx:Ok B xs) {j:Nat} (hj:j<xs.length) (hd:val B (xs.drop (j+1))=val B (ys.drop (j+1))) (hlt:xs.getD j 0<ys.getD j 0):val B xs<val B ys:=by
 rw[bk B xs j,bk B ys j,ap B xs j,ap B ys j,hd];have h1:=bI hx (j:=j) (by omega);have h2:B ^ j*(xs.getD j 0+B*val B (ys.drop (j+1))+1)<=B ^ j*(ys.getD j 0+B*val B (ys.drop (j+1))):=Nat.mul_le_mul_left _ (by omega);rw[Nat.mul_add _ _ 1,Nat.mul_one]at h2;omega
theorem eV {B:Nat} (hB:0<B) {xs ys:List Nat} (hx:Ok B xs) {j:Nat} (hd:val B (xs.drop (j+1))=val B (ys.drop (j+1))) (hlt:xs.getD j 0<ys.getD j 0):val B xs<val B ys:=by
 rw[bk B xs j,bk B ys j,ap B xs j,ap B ys j,hd];have h1:=nQ hB hx j;have h2:B ^ j*(xs.getD j 0+B*val B (ys.drop (j+1))+1)<=B ^ j*(ys.getD j 0+B*val B (ys.drop (j+1))):=Nat.mul_le_mul_left _ (by omega);rw[Nat.mul_add _ _ 1,Nat.mul_one]at h2;omega
theorem gR {B:Nat} (hB:0<B) {xs ys:List Nat} (hx:Ok B xs) (hy:kV ys) (h:xs.length<ys.length):val B xs<val B ys:=by
 have h1:=gp hx;have h2:=rL hB hy (by intro e;rw[e]at h;simp at h);have h3:B ^ xs.length<=B ^ (ys.length-1):=Nat.pow_le_pow_right hB (by omega);omega
end Go.Proofs.YtlhojoefhannnaaGreat.NumB
namespace Go.Proofs.YtlhojoefhannnaaGreat
open Go.RowKit NumB
def Rd (k:IntKind) (w:World) (B:Nat) (A:Option Addr) (n:Nat) (xs:List Nat):Prop:=
 xs.length=n/\(0<n->∃ b o,A=some ⟨b,o,none⟩/\b<B/\∀ i,i<n->w.cell? ⟨b,o+i,none⟩=some (.int k ((xs.getD i 0:Nat):Int)))
section
variable {k:IntKind} {w w':World} {B B' n:Nat} {A:Option Addr} {xs:List Nat}
theorem Rd.len (h:Rd k w B A n xs):xs.length=n:=h.1
theorem Rd.none_:Rd k w B A 0 []:=⟨rfl,fun h=>absurd h (by omega)⟩
theorem Rd.keep (h:Rd k w B A n xs) (hk:∀ p:Addr,p.block<B->w'.cell? p=w.cell? p):Rd k w' B A n xs:=
 ⟨h.1,fun hn=>by
  obtain⟨b,o,e,hb,hc⟩:=h.2 hn;exact⟨b,o,e,hb,fun i hi=>(hk _ hb).trans (hc i hi)⟩⟩
theorem Rd.more (h:Rd k w B A n xs) (hB:B<=B'):Rd k w B' A n xs:=
 ⟨h.1,fun hn=>by
  obtain⟨b,o,e,hb,hc⟩:=h.2 hn;exact⟨b,o,e,by omega,hc⟩⟩
theorem Rd.below (h:Rd k w B A n xs) (hb:Below B w w'):Rd k w' B A n xs:=h.keep fun _ hp=>hb.cell hp
theorem Rd.to (h:Rd k w w.heap.size A n xs) (hb:Below w.heap.size w w'):Rd k w' w'.heap.size A n xs:=(h.below hb).more hb.size
theorem Rd.take (h:Rd k w B A n xs) {m:Nat} (hm:m<=n):Rd k w B A m (xs.take m):=by
 refine⟨by rw[List.length_take,h.1];omega,fun hn=>?_⟩;obtain⟨b,o,e,hb,hc⟩:=h.2 (by omega);refine⟨b,o,e,hb,fun i hi=>?_⟩;rw[hc i (by omega)];simp[List.getD_eq_getElem?_getD,hi]
end
def Sl (k:IntKind) (w:World) (v:Value) (xs:List Nat):Prop:=
 ∃ A c,v=.slice A xs.length c/\xs.length<=c/\c<=maxLen/\Rd k w w.heap.size A xs.length xs
theorem Sl.to {k:IntKind} {w w':World} {v:Value} {xs:List Nat} (h:Sl k w v xs) (hb:Below w.heap.size w w'):Sl k w' v xs:=by
 obtain⟨A,c,e,h1,h2,h3⟩:=h;exact⟨A,c,e,h1,h2,h3.to hb⟩
def ag:Nat:=4294967296
def cg:Nat:=65536
theorem az:1<ag:=by decide
theorem bV:1<cg:=by decide
def ay (w:World) (v:Value) (x:Nat):Prop:=Sl .u32 w v (ai ag x)
def bC (w:World) (v:Value) (x:Nat):Prop:=Sl .i64 w v (ai cg x)
theorem Rd.at_ {k:IntKind} {w:World} {B n i:Nat} {A:Option Addr} {xs:List Nat} (h:Rd k w B A n xs) (hi:i<n):
 ∃ b o x,A=some ⟨b,o,none⟩/\b<B/\xs.getD i 0=x/\w.cell? ⟨b,o+i,none⟩=some (.int k (x:Int)):=by
 obtain⟨b,o,e,hb,hc⟩:=h.2 (by omega);exact⟨b,o,_,e,hb,rfl,hc i hi⟩
def aI (k:IntKind) (xs:List Nat):List Value:=xs.map fun (x:Nat)=>Value.int k (x:Int)
theorem j1 {k:IntKind} {xs:List Nat} {i:Nat} (h:i<xs.length):(aI k xs)[i]?=some (.int k ((xs.getD i 0:Nat):Int)):=by
 rw[aI,List.getElem?_map,List.getElem?_eq_getElem h,cH h];rfl
theorem aV {k:IntKind} {xs:List Nat}:(aI k xs).length=xs.length:=by simp[aI]
theorem qI {k:IntKind} {xs:List Nat} {i x:Nat}:(aI k xs).set i (.int k (x:Int))=aI k (xs.set i x):=by simp[aI,List.map_set]
theorem eE {k:IntKind} {xs ys:List Nat}:aI k xs++aI k ys=aI k (xs++ys):=by simp[aI]
theorem mS {k:IntKind} {n:Nat}:(madeCells #[Value.int k 0] n).toList=aI k (List.replicate n 0):=by
 rw[toList_madeCells_one];simp[aI]
theorem eX {k:IntKind} {xs:List Nat}:∀ u∈aI k xs,u.oneCell'=true:=by
 intro u hu;obtain⟨x,_,rfl⟩:=List.mem_map.1 hu;rfl
def bT (k:IntKind) (T:TypeId) (w:World) (B g n c:Nat) (xs:List Nat):Prop:=
 xs.length=n/\w.ownsRow B T 1 (.slice (some ⟨g,0,none⟩) n c) n (aI k xs)
section
variable {k:IntKind} {T:TypeId} {w w':World} {B g n c:Nat} {xs:List Nat}
theorem bT.cell (h:bT k T w B g n c xs) {i:Nat} (hi:i<n):w.cell? ⟨g,i,none⟩=some (.int k ((xs.getD i 0:Nat):Int)):=by
 rw[h.2.cellAt i (by omega),j1 (by rw[h.1];exact hi)]
theorem bT.frozen (h:bT k T w B g n c xs) (i:Nat):w.frozen? ⟨g,i,none⟩=false:=h.2.frozenAt i
theorem bT.lt (h:bT k T w B g n c xs):B<=g/\g<w.heap.size:=h.2.lt g rfl
theorem bT.cap (h:bT k T w B g n c xs):n<=c/\c<=maxLen:=by
 rcases h.2.2 with ⟨h',_⟩|⟨g',cap',cur,h',_,_,h1,h2,_⟩
 ·simp at h'
 ·simp only[Value.slice.injEq,Option.some.injEq,Addr.mk.injEq,and_true,true_and]at h';obtain⟨_,rfl⟩:=h';exact⟨h1,h2⟩
theorem bT.stored (h:bT k T w B g n c xs) (i x:Nat):bT k T (w.setCell ⟨g,i,none⟩ (.int k (x:Int))) B g n c (xs.set i x):=by
 refine⟨by simpa using h.1,?_⟩;rw[<-qI];exact (h.2.stored i _).1
theorem bT.block (h:bT k T w B g n c xs) (he:w'.heap[g]?=w.heap[g]?):bT k T w' B g n c xs:=by
 refine⟨h.1,h.2.1,?_⟩;rcases h.2.2 with h'|⟨g',cap',cur,h',hb,hh,r⟩
 ·exact .inl h'
 ·simp only[Value.slice.injEq,Option.some.injEq,Addr.mk.injEq,and_true,true_and]at h';obtain⟨rfl,rfl⟩:=h';exact .inr ⟨g,c,cur,rfl,hb,he.trans hh,r⟩
theorem bT.to (h:bT k T w B g n c xs) (hb:Below w.heap.size w w'):bT k T w' B g n c xs:=h.block (hb.block g h.lt.2)
theorem bT.drewN (h:bT k T w B g n c xs) (m:Nat):bT k T (w.drewN m) B g n c xs:=h
theorem bT.drew (h:bT k T w B g n c xs):bT k T w.drew B g n c xs:=h
theorem bT.alloc (h:bT k T w B g n c xs) (o:Obj):bT k T (w.alloc o) B g n c xs:=h.block (Below.heap_alloc w o g h.lt.2)
theorem bT.far (h:bT k T w B g n c xs) {p:Addr} (hp:g≠p.block) (u:Value):bT k T (w.setCell p u) B g n c xs:=h.block (Below.heap_setCell w p u g hp)
theorem bT.rd (h:bT k T w B g n c xs):Rd k w w.heap.size (some ⟨g,0,none⟩) n xs:=
 ⟨h.1,fun _=>⟨g,0,rfl,h.lt.2,fun i hi=>by rw[Nat.zero_add];exact h.cell hi⟩⟩
theorem bT.made (h:w.ownsRow B T 1 (.slice (some ⟨g,0,none⟩) n n) n (madeCells (Value.int k 0).cells (n*1)).toList):bT k T w B g n n (List.replicate n 0):=
 ⟨by simp,by rw[Nat.mul_one]at h;rw[<-mS];exact h⟩
end
theorem Sl.of_rd {k:IntKind} {w:World} {A:Option Addr} {n c m:Nat} {xs ys:List Nat} (h:Rd k w w.heap.size A n xs) (hm:m<=n) (hc:n<=c) (hx:c<=maxLen) (e:xs.take m=ys):Sl k w (.slice A m c) ys:=by
 subst e;have hl:(xs.take m).length=m:=by rw[List.length_take,h.1];omega
 exact⟨A,c,by rw[hl],by omega,hx,by rw[hl];exact h.take hm⟩
theorem aF {B:Nat} {a w:World} (h:Below B a w) (n:Nat):Below B a (w.drewN n):=⟨h.os,h.tape,h.output,h.size,h.block⟩
theorem ig {B:Nat} {w w':World} (h:Below B w.drew w'):Below B w w':=⟨h.os,h.tape,h.output,h.size,h.block⟩
theorem eD {B n:Nat} {w w':World} (h:Below B (w.drewN n) w'):Below B w w':=⟨h.os,h.tape,h.output,h.size,h.block⟩
theorem jW {B:Nat} {w:World} (n:Nat):Below B w (w.drewN n):=aF (Below.refl _ _) n
theorem pN (a b:Nat) (hb:b<4294967296):a*4294967296 ||| b=a*4294967296+b:=by
 have:=Nat.shiftLeft_add_eq_or_of_lt (a:=a) (i:=32) (b:=b) hb;rw[Nat.shiftLeft_eq]at this;exact this.symm
theorem oH (a b:Nat):((a*4294967296+b:Nat):Int)=(a:Int)*4294967296+b:=by omega
theorem wz (a:Nat):((a:Int)*4294967296).toNat=a*4294967296:=by omega
theorem fw (a b:Nat) (ha:a<4294967296) (hb:b<4294967296):bits .or .u64 ((a:Int)*4294967296) (b:Int)=(a:Int)*4294967296+b:=
 (u64_or _ _ (by omega) (by omega) (by omega) (by omega)).trans (by rw[wz,Int.toNat_natCast,pN a b hb];exact oH a b)
theorem li (a b:Nat) (ha:a<4294967296) (hb:b<4294967296):bits .or .u64 (b:Int) ((a:Int)*4294967296)=(a:Int)*4294967296+b:=
 (u64_or _ _ (by omega) (by omega) (by omega) (by omega)).trans (by rw[wz,Int.toNat_natCast,Nat.or_comm,pN a b hb];exact oH a b)
def aK (k:IntKind) (T:TypeId) (w:World) (B:Nat) (v:Value) (xs:List Nat):Prop:=w.ownsRow B T 1 v xs.length (aI k xs)
section
variable {k:IntKind} {T:TypeId} {w w':World} {B:Nat} {v:Value} {xs:List Nat}
theorem aK.nil_ (w:World):aK k T w B (.slice none 0 0) []:=World.ownsRow_nil _ _ _ _
theorem aK.form (h:aK k T w B v xs):(v=.slice none 0 0/\xs=[])\/∃ g c,v=.slice (some ⟨g,0,none⟩) xs.length c/\bT k T w B g xs.length c xs:=by
 rcases h.2 with ⟨h1,h2⟩|⟨g,cap,cur,rfl,r⟩
 ·exact .inl ⟨h1,List.eq_nil_of_length_eq_zero h2⟩
 ·exact .inr ⟨g,cap,rfl,rfl,h⟩
theorem bT.sl {g n c:Nat} (h:bT k T w B g n c xs):Sl k w (.slice (some ⟨g,0,none⟩) n c) xs:=by
 have hl:=h.1;subst hl;exact⟨_,c,rfl,h.cap.1,h.cap.2,h.rd⟩
theorem aK.sl (h:aK k T w B v xs):Sl k w v xs:=by
 rcases h.form with ⟨rfl,rfl⟩|⟨g,c,rfl,ho⟩
 ·exact⟨none,0,rfl,Nat.le_refl _,Nat.zero_le _,Rd.none_⟩
 ·exact ho.sl
theorem aK.to (h:aK k T w B v xs) (hb:Below w.heap.size w w'):aK k T w' B v xs:=by
 rcases h.form with ⟨rfl,rfl⟩|⟨g,c,rfl,ho⟩
 ·exact aK.nil_ _
 ·exact (ho.to hb).2
theorem aK.alloc (h:aK k T w B v xs) (o:Obj):aK k T (w.alloc o) B v xs:=World.ownsRow.alloc h o
theorem aK.blk (h:aK k T w B v xs):∀ g,v.ownBlock=some g->B<=g:=fun g hg=>(World.ownsRow.lt h g hg).1
end
theorem sJ {k:IntKind} {w:World} {B n:Nat} {ad:Addr} {xs:List Nat} (h:Rd k w B (some ad) n xs):∀ j u,(aI k xs)[j]?=some u->w.cell? (ad.add j)=some u:=by
 intro j u hu;have hj:j<xs.length:=by
  rcases Nat.lt_or_ge j xs.length with h1|h1
  ·exact h1
  ·rw[List.getElem?_eq_none (by rw[aV];exact h1)]at hu;cases hu
 obtain⟨b,o,e,_,hc⟩:=h.2 (by have:=h.1;omega)
 injection e with e
 subst e;rw[j1 hj]at hu
 injection hu with hu
 subst hu;have:(⟨b,o,none⟩:Addr).add j=⟨b,o+j,none⟩:=by unfold Addr.add;split<;>simp_all
 rw[this];exact hc j (by have:=h.1;omega)
end Go.Proofs.YtlhojoefhannnaaGreat
namespace Go.Proofs.YtlhojoefhannnaaGreat
open Go.ChangeShapes Go.WideShapes Go.ChangeAt Go.RowKit Go.Joins NumB
theorem Al:ownKnob Tryz.prog.godebug=none:=by kernel_rfl
theorem xJ:laidOutB Tryz.prog=true:=by kernel_rfl
theorem gJ {H:Type} {enc:TypeId×Value->H} {P:Program} (hl:laidOutB P=true) {W W':World} (hb:Below W.heap.size W W'):
 ∀ {ts:List TypeId} {vs:List Value} {ds:List (DataW H)} {ps:List MemPlace},(∀ t∈ts,P.readableRec t=true/\t<P.types.size)->DataW.TrodAll enc P W 0 (fun _=>true) true ts vs ds ps->(∀ x∈ps,x.block<W.heap.size)->
  DataW.TrodAll enc P W' 0 (fun b=>decide (b<W.heap.size)) true ts vs ds ps
 |[],[],[],_,_,h,_=>h
 |t::_,_::_,_::_,_,hT,⟨p,q,h1,h2,e⟩,hs=>⟨p,q,Below.trod hl (hT t (by simp)).1 (hT t (by simp)).2 h1 hb (fun x hx=>hs x (by rw[e];exact List.mem_append_left _ hx)),gJ hl hb (fun u hu=>hT u (by simp[hu])) h2 (fun x hx=>hs x (by rw[e];exact List.mem_append_right _ hx)),e⟩
theorem vT {H:Type} {enc:TypeId×Value->H} {f:Func} {s:ChangeSpec} {W W':World} {args:Array Value} {ds:List (DataW H)} {before:List MemPlace} (hvars:s.vars=[])
 (hW:DataW.Whole enc Tryz.prog f.params.toList s.vars false W args.toList ds [] before)
 (hA:DataW.TrodAll enc Tryz.prog W 0 (fun _=>true) true f.params.toList args.toList ds before)
 (hT:∀ t∈f.params.toList,Tryz.prog.readableRec t=true/\t<Tryz.prog.types.size)
 (hres:f.resultTypes=#[4]) (hfn:s.fn H ds={ results:=[.lit (.bool true)],args:=ds })
 (hb:Below W.heap.size W W'):s.post enc Tryz.prog f false true false false W args (.bool true) W':=by
 have hlt:∀ p∈before,p.block<W.heap.size:=fun p hp=>hW.lt p hp;have e:s.fn H (ds++[])={ results:=[.lit (.bool true)],args:=ds }:=by rw[List.append_nil];exact hfn
 refine⟨ds,[],before,[],before,[],hW,?_,?_,?_,hb.frame _,fun h=>by cases h⟩
 ·rw[e,hres];exact trodAll_mk1 (shut_bool Tryz.underlying4 _)
 ·rw[e];exact gJ xJ hb hT hA hlt
 ·rw[e,hvars];exact rfl
theorem kF {H:Type} {enc:TypeId×Value->H} {W:World} {n:Nat} {v:Value} {y:DataW H×List MemPlace}
 (h:DataW.trod enc Tryz.prog W 0 (fun _=>true) true n 22 [v]=some y):∃ xs:List Nat,Sl .u32 W v xs/\Ok ag xs:=by
 rcases open_ints Tryz.underlying22 Tryz.underlying82 (by kernel_rfl) h with ⟨hcs,hx⟩|⟨a,len,cap,zs,hcs,_,hl,hm,hz,hx,hcell,hwz⟩
 ·simp only[List.cons.injEq,and_true]at hcs;subst hcs;exact⟨[],(aK.nil_ (B:=0) (T:=0) W).sl,Ok.nil⟩
 ·simp only[List.cons.injEq,and_true]at hcs;subst hcs;simp only[if_true]at hz;have hwf:∀ z∈zs,0<=z/\z<4294967296:=fun z hzm=>by
   have:=bounds_u32 (hwz z hzm);omega
  have hget:∀ i,i<zs.length->((zs.map Int.toNat).getD i 0:Int)=zs.getD i 0:=fun i hi=>by
   rw[List.getD_eq_getElem?_getD,List.getD_eq_getElem?_getD,List.getElem?_map,List.getElem?_eq_getElem hi];have:=hwf _ (List.getElem_mem hi);simp only[Option.map_some,Option.getD_some];omega
  refine⟨(zs.map Int.toNat).take len,?_,?_⟩
  ·refine Sl.of_rd (n:=cap) (xs:=zs.map Int.toNat) ?_ hl (Nat.le_refl _) hm rfl;refine⟨by simp[hz],fun hn=>?_⟩;obtain⟨b,off,rfl,hc⟩:=ints_at hcell (by omega);refine⟨b,off,rfl,?_,fun i hi=>?_⟩
   ·have:=hc 0 (by omega);rcases Nat.lt_or_ge b W.heap.size with h1|h1
    ·exact h1
    ·simp[World.cell?,Array.getElem?_eq_none h1]at this
   ·rw[hc i (by omega),hget i (by omega)]
  ·intro x hx;obtain⟨z,hzm,rfl⟩:=List.mem_map.1 (List.mem_of_mem_take hx);have:=hwf z hzm;show z.toNat<4294967296;omega
end Go.Proofs.YtlhojoefhannnaaGreat
namespace Go.Proofs.YtlhojoefhannnaaGreat
open Go.RowKit NumB
theorem qq {xs:List Nat} {g:Nat} (ho:Ok ag xs) (hg:g<=xs.length) (hv:val ag (xs.take g)=val ag xs) (hl:g=0\/xs.getD (g-1) 0≠0):xs.take g=ai ag (val ag xs):=by
 refine (eY az (ho.take g) (top_of_last ?_) hv).symm;have hlen:(xs.take g).length=g:=by rw[List.length_take];omega
 rcases hl with rfl|hl
 ·left;rfl
 ·rcases Nat.eq_zero_or_pos g with rfl|h0
  ·left;rfl
  ·right
   rw[hlen,List.getD_eq_getElem?_getD,List.getElem?_take,if_pos (by omega),<-List.getD_eq_getElem?_getD];exact hl
theorem go (xs:List Nat) (A:Option Addr) (n c:Nat) (w:World) (B:Nat) (hr:Rd .u32 w B A n xs) (ho:Ok ag xs) (hc:n<=c) (hm:c<=maxLen):
 Calls Tryz.prog 170 #[.slice A n c] w fun e w'=>∃ m,e=.returned (.slice A m c)/\m<=n/\xs.take m=ai ag (val ag xs)/\w=w':=by
 unfold maxLen at hm;have HL:=zH hr.1;have HR:=zH hr.2;clear hr;have HO:=zH ho;clear ho;go_enter Tryz.func170,Tryz.ntmps170
 go_wp2
 go_loopg [0] n (fun g v wr=>g<=n/\v=.slice A g c/\Hid (val ag (xs.take g)=val ag xs)/\w=wr)
 case atStart=>exact⟨Nat.le_refl _,rfl,by rw[<-HL.out,List.take_length];rfl,rfl⟩
 case round=>
  obtain⟨hg,rfl,HV,rfl⟩:=hrel;by_cases h0:0<gk
  ·obtain⟨b,o,rfl,hb,hcell⟩:=HR.out (by omega);have hx:=hcell (gk-1) (by omega);clear hcell;generalize hxe:xs.getD (gk-1) 0=x at hx;have HX:=zH hxe;clear hxe;by_cases hz:x=0
   ·subst hz
    go_wp2
    go_roundg (gk-1)
    case measure=>omega
    case rel=>
     refine⟨by omega,rfl,?_,rfl⟩;have h:=ax ag xs (gk-1);rw[show gk-1+1=gk from by omega,HX.out,Nat.mul_zero,Nat.add_zero]at h;exact h.symm.trans HV.out
   ·have HZ:=zH hz;have hne:((x:Int)==0)=false:=beq_eq_false_iff_ne.2 (by omega);clear hz
    go_wp2
    go_ret;exact⟨gk,rfl,hg,qq HO.out (by rw[HL.out];exact hg) HV.out (.inr (by rw[HX.out];exact HZ.out)),rfl⟩
  ·go_wp2
   go_ret;exact⟨gk,rfl,hg,qq HO.out (by rw[HL.out];exact hg) HV.out (.inl (by omega)),rfl⟩
theorem f0 {k:IntKind} {a b:Int} (h:a=b):Ending.returned (.int k a)=.returned (.int k b):=by rw[h]
def lh (n:Int):Int:=if n<0 then -1 else if 0<n then 1 else 0
theorem wl (n:Int) (w:World):Calls Tryz.prog 172 #[.int .i64 n] w fun e w'=>e=.returned (.int .i64 (lh n))/\w=w':=by
 by_cases h1:n<0
 ·have e:lh n = -1:=by unfold lh;rw[if_pos h1]
  have E:=zH e;clear e;go_enter Tryz.func172,Tryz.ntmps172
  go_wp2
  go_ret;exact⟨f0 E.out.symm,rfl⟩
 ·by_cases h2:0<n
  ·have e:lh n=1:=by unfold lh;rw[if_neg h1,if_pos h2]
   have E:=zH e;clear e;go_enter Tryz.func172,Tryz.ntmps172
   go_wp2
   go_ret;exact⟨f0 E.out.symm,rfl⟩
  ·have e:lh n=0:=by unfold lh;rw[if_neg h1,if_neg h2]
   have E:=zH e;clear e;go_enter Tryz.func172,Tryz.ntmps172
   go_wp2
   go_ret;exact⟨f0 E.out.symm,rfl⟩
theorem fM (x y:Nat) (va vb:Value) (w:World) (ha:ay w va x) (hb:ay w vb y):
 Calls Tryz.prog 163 #[va,vb] w fun e w'=>e=.returned (.int .i64 (ee x y))/\∃ m,w'=w.drewN m:=by
 obtain⟨A,ca,rfl,hca,hma,hra⟩:=ha;obtain⟨A',cb,rfl,hcb,hmb,hrb⟩:=hb;unfold maxLen at hma hmb;have hxv:=aR az x;have hyv:=aR az y;have hxo:=bz az x;have hyo:=bz az y;have hxt:=gn az x;have hyt:=gn az y;generalize ai ag x=xs at*;generalize ai ag y=ys at*;generalize hn:xs.length=n at*;generalize hm:ys.length=m at*;by_cases hne:n=m
 ·subst hne;have HE:Hid ((val ag xs=x/\val ag ys=y)/\(Ok ag xs/\Ok ag ys)/\xs.length=n/\ys.length=n):=⟨⟨hxv,hyv⟩,⟨hxo,hyo⟩,hn,hm⟩;have HA:=zH hra;have HB:=zH hrb;clear hxv hyv hxo hyo hxt hyt hn hm hra hrb;have hb1:((n:Int) != (n:Int))=false:=by simp
  go_enter Tryz.func163,Tryz.ntmps163
  go_wp2
  go_loopg [5] (n+1) (fun g i wr=>∃ j m:Nat,g=j+1/\j<=n/\i=.int .i64 ((j:Int)-1)/\Hid (val ag (xs.drop j)=val ag (ys.drop j))/\Hid (wr=w.drewN m))
  case atStart=>exact⟨n,0,rfl,Nat.le_refl _,rfl,by obtain⟨_,_,h1,h2⟩:=HE.out;unfold Hid;rw[List.drop_eq_nil_of_le (by omega),List.drop_eq_nil_of_le (by omega)],rfl⟩
  case round=>
   obtain⟨j,dr,rfl,hj,rfl,HV,HW⟩:=hrel;obtain rfl:=HW.out;by_cases h0:0<j
   ·obtain⟨b,o,p,rfl,hb,hpe,hcp⟩:=HA.out.at_ (i:=j-1) (by omega);obtain⟨b',o',q,rfl,hb',hqe,hcq⟩:=HB.out.at_ (i:=j-1) (by omega);have HP:Hid (xs.getD (j-1) 0=p/\ys.getD (j-1) 0=q):=⟨hpe,hqe⟩;clear hpe hqe;have hi0:(0:Int)<=(j:Int)-1:=by omega
    have hi1:(j:Int)-1<(n:Int):=by omega
    by_cases hpq:p=q
    ·subst hpq;have hbn:((p:Int) != (p:Int))=false:=by simp
     go_wp2
     go_quiet (fail)
     go_wp2
     go_roundg j
     case measure=>omega
     case rel=>
      refine⟨j-1,_,by omega,by omega,?_,?_,rfl⟩
      ·congr 1;omega
      ·have h1:=ap ag xs (j-1);have h2:=ap ag ys (j-1);rw[HP.out.1,Nat.sub_add_cancel h0,HV.out]at h1;rw[HP.out.2,Nat.sub_add_cancel h0]at h2;exact h1.trans h2.symm
    ·have hbn:((p:Int) != (q:Int))=true:=by rw[bne_iff_ne];omega
     by_cases hlt:p<q
     ·go_wp2
      go_quiet (fail)
      go_wp2
      go_quiet (fail)
      go_wp2
      go_ret;refine⟨f0 ?_,_,by rw[World.drewN_drewN,World.drewN_drewN]⟩;obtain⟨⟨hx,hy⟩,⟨ox,oy⟩,l1,l2⟩:=HE.out;rw[ik];rw[<-hx,<-hy];exact fD ox (j:=j-1) (by omega) (by rw[Nat.sub_add_cancel h0];exact HV.out) (by rw[HP.out.1,HP.out.2];exact hlt)
     ·have hgt:q<p:=by omega
      go_wp2
      go_quiet (fail)
      go_wp2
      go_quiet (fail)
      go_wp2
      go_ret;refine⟨f0 ?_,_,by rw[World.drewN_drewN,World.drewN_drewN]⟩;obtain⟨⟨hx,hy⟩,⟨ox,oy⟩,l1,l2⟩:=HE.out;rw[jG];rw[<-hx,<-hy];exact fD oy (j:=j-1) (by omega) (by rw[Nat.sub_add_cancel h0];exact HV.out.symm) (by rw[HP.out.1,HP.out.2];exact hgt)
   ·obtain rfl:j=0:=by omega
    go_wp2
    go_ret;refine⟨f0 ?_,dr,rfl⟩;obtain⟨⟨hx,hy⟩,_⟩:=HE.out;have:=HV.out;rw[List.drop_zero,List.drop_zero,hx,hy]at this;exact (rZ this).symm
 ·have hb1:((n:Int) != (m:Int))=true:=by rw[bne_iff_ne];omega
  have e:lh ((n:Int)-(m:Int))=ee x y:=by
   rcases Nat.lt_or_ge n m with h|h
   ·rw[ik (by rw[<-hxv,<-hyv];exact gR (by decide) hxo hyt (by omega))];unfold lh;rw[if_pos (by omega)]
   ·rw[jG (by rw[<-hxv,<-hyv];exact gR (by decide) hyo hxt (by omega))];unfold lh;rw[if_neg (by omega),if_pos (by omega)]
  have E:=zH e;clear e hxv hyv hxo hyo hxt hyt hn hm hne hra hrb;go_enter Tryz.func163,Tryz.ntmps163
  go_wp2_with (go_at_call 172;refine (wl _ _).mono ?_;rintro e w' ⟨rfl,rfl⟩)
  go_ret;exact⟨f0 E.out,0,rfl⟩
def zg (x:Nat):Bool:=decide (x=1)
theorem eS {x:Nat} (h:x=1):zg x=true:=decide_eq_true h
theorem db {x:Nat} (h:x≠1):zg x=false:=decide_eq_false h
theorem bu (x:Nat) (va:Value) (w:World) (ha:ay w va x):
 Calls Tryz.prog 132 #[va] w fun e w'=>e=.returned (.bool (zg x))/\w=w':=by
 obtain⟨A,ca,rfl,hca,hma,hra⟩:=ha;unfold maxLen at hma;have hxv:=aR az x;have h1:x=1->(ai ag x).length=1:=by
  rintro rfl;have:ai ag 1=[1]:=eY (l:=[1]) az (Ok.cons (by decide) Ok.nil) (by simp[kV]) rfl;rw[this];rfl
 generalize ai ag x=xs at*;generalize hn:xs.length=n at*;by_cases hn1:n=1
 ·subst hn1;obtain⟨b,o,p,rfl,hb,hpe,hcp⟩:=hra.at_ (i:=0) (by omega);rw[Nat.add_zero]at hcp;have hp:p=x:=by
   match xs,hn with
   |[q],_=>simp only[List.getD_cons_zero]at hpe;simp only[val_cons,val_nil,Nat.mul_zero,Nat.add_zero]at hxv;omega
  subst hp;by_cases h:p=1
  ·subst h;clear hxv h1 hra hpe hn;have E:=zH (eS (x:=1) rfl);go_enter Tryz.func132,Tryz.ntmps132
   go_wp2
   go_ret;exact⟨congrArg (fun b=>Ending.returned (.bool b)) E.out.symm,rfl⟩
  ·have hb1:((p:Int)==1)=false:=beq_eq_false_iff_ne.2 (by omega);have E:=zH (db h);clear hxv h1 hra hpe hn h;go_enter Tryz.func132,Tryz.ntmps132
   go_wp2
   go_ret;exact⟨congrArg (fun b=>Ending.returned (.bool b)) E.out.symm,rfl⟩
 ·have hb1:((n:Int)==1)=false:=beq_eq_false_iff_ne.2 (by omega);have E:=zH (db (x:=x) (fun h=>hn1 (h1 h)));clear hxv h1 hra hn hn1;go_enter Tryz.func132,Tryz.ntmps132
  go_wp2
  go_ret;exact⟨congrArg (fun b=>Ending.returned (.bool b)) E.out.symm,rfl⟩
def bw (xs:List Nat):Bool:=decide (0<xs.length/\xs.getD (xs.length-1) 0=0)
theorem aQ (xs:List Nat) (va:Value) (w:World) (ha:Sl .u32 w va xs):
 Calls Tryz.prog 131 #[va] w fun e w'=>e=.returned (.bool (bw xs))/\w=w':=by
 obtain⟨A,ca,rfl,hca,hma,hra⟩:=ha;unfold maxLen at hma;have HE:Hid (bw xs=decide (0<xs.length/\xs.getD (xs.length-1) 0=0)):=rfl;generalize bw xs=bb at*;generalize hn:xs.length=n at*;rcases Nat.eq_zero_or_pos n with hn0|hn0
 ·subst hn0;have E:Hid (bb=false):=by unfold Hid;rw[HE.out];exact decide_eq_false (by omega)
  clear HE hra hn;go_enter Tryz.func131,Tryz.ntmps131
  go_wp2
  go_ret;exact⟨congrArg (fun b=>Ending.returned (.bool b)) E.out.symm,rfl⟩
 ·obtain⟨k,rfl⟩:∃ k,n=k+1:=⟨n-1,by omega⟩;obtain⟨b,o,p,rfl,hb,hpe,hcp⟩:=hra.at_ (i:=k) (by omega);have hk:((k+1:Nat):Int)-1=(k:Int):=by omega
  have hk1:(k:Int)<((k+1:Nat):Int):=by omega
  have hk2:(0:Int)<((k+1:Nat):Int):=by omega
  by_cases h:p=0
  ·subst h;have E:Hid (bb=true):=by unfold Hid;rw[HE.out];exact decide_eq_true ⟨by omega,hpe⟩
   clear HE hra hn hpe;go_enter Tryz.func131,Tryz.ntmps131
   go_wp2
   go_ret;exact⟨congrArg (fun b=>Ending.returned (.bool b)) E.out.symm,rfl⟩
  ·have hb1:((p:Int)==0)=false:=beq_eq_false_iff_ne.2 (by omega);have E:Hid (bb=false):=by unfold Hid;rw[HE.out];exact decide_eq_false (fun h'=>h (hpe▸h'.2))
   clear HE hra hn hpe h;go_enter Tryz.func131,Tryz.ntmps131
   go_wp2
   go_ret;exact⟨congrArg (fun b=>Ending.returned (.bool b)) E.out.symm,rfl⟩
theorem tI (rest x d:Nat) (hr:rest<d) (hd2:d<4294967296) (hx:x<4294967296):
 ∃ q r:Nat,(((rest:Int)*4294967296+x) / (d:Int)=(q:Int))/\(((rest:Int)*4294967296+x) % (d:Int)=(r:Int))/\q<4294967296/\r<d/\rest*4294967296+x=d*q+r:=by
 refine⟨(rest*4294967296+x) / d,(rest*4294967296+x) % d,?_,?_,?_,Nat.mod_lt _ (by omega),(Nat.div_add_mod _ _).symm⟩
 ·rw[Int.natCast_ediv,oH]
 ·rw[Int.natCast_emod,oH]
 ·rw[Nat.div_lt_iff_lt_mul (by omega)];have:(rest+1)*4294967296<=d*4294967296:=Nat.mul_le_mul_right _ (by omega);omega
theorem lc {xs out:List Nat} {j x d rest q r:Nat} (hj:0<j) (hl:j<=out.length) (hx:xs.getD (j-1) 0=x) (hjx:j<=xs.length) (hv:val ag (xs.drop j)=d*val ag (out.drop j)+rest)
 (he:rest*4294967296+x=d*q+r):val ag (xs.drop (j-1))=d*val ag ((out.set (j-1) q).drop (j-1))+r:=by
 have e1:xs.drop (j-1)=x::xs.drop j:=by
  rw[List.drop_eq_getElem_cons (by omega),<-cH (by omega),hx,Nat.sub_add_cancel hj]
 have e2:(out.set (j-1) q).drop (j-1)=q::out.drop j:=by
  rw[List.drop_eq_getElem_cons (by simp;omega),Nat.sub_add_cancel hj];simp[List.drop_set];omega
 rw[e1,e2,val_cons,val_cons,hv];have:ag=4294967296:=rfl;rw[this,Nat.mul_add,Nat.mul_add,Nat.mul_left_comm];omega
theorem fS:(Tryz.prog.info? 82).map (fun i=>(i.zero,i.size,i.bytes))=some (some (.int .u32 0),1,4):=by kernel_rfl
theorem mV (xs:List Nat) (A:Option Addr) (n c d:Nat) (w:World) (hr:Rd .u32 w w.heap.size A n xs) (ho:Ok ag xs) (hc:n<=c) (hm:c<=maxLen) (hn:n<=1000000) (hd:0<d) (hd2:d<4294967296):
 Calls Tryz.prog 164 #[.slice A n c,.int .u32 (d:Int)] w fun e w'=>∃ v,e=.returned (.tuple #[v,.int .u32 ((val ag xs % d:Nat):Int)])/\ay w' v (val ag xs / d)/\Below w.heap.size w w':=by
 unfold maxLen at hm;have HR:=zH hr;clear hr;have HO:=zH ho;clear ho;obtain⟨i0,hi0,hz0,hz1,hz2⟩:=info_parts fS;have HI:=zH hi0;have HZ0:=zH hz0;have HZ1:=zH hz1;have HZ2:=zH hz2;clear hi0 hz0 hz1 hz2;go_enter Tryz.func164,Tryz.ntmps164
 go_wp2_with (at_make;refine wpList_make_full _ rfl _ _ 22 rfl w.heap.size 82 i0 (.int .u32 0) 1 Tryz.underlying22 HI.out HZ0.out HZ1.out .i64 .i64 _ _ n rfl rfl rfl rfl (by rw[HZ2.out];omega) (by unfold maxLen;omega) (Nat.le_refl _) ?_;intro w1 hown1 hg1)
 have HOW:=zH (bT.made hown1);have HB:=zH ((Below.refl w.heap.size w).grown hg1 (Nat.le_refl _) (by simp));clear hown1 hg1
 go_loopg [7,8] (n+1) (fun g r i wr=>∃ (j:Nat) (rest:Nat) (out:List Nat),g=j+1/\j<=n/\i=.int .i64 ((j:Int)-1)/\r=.int .u64 (rest:Int)/\rest<d/\Hid (bT .u32 82 wr w.heap.size w.heap.size n n out)/\Hid (Below w.heap.size w wr)/\Hid (val ag (xs.drop j)=d*val ag (out.drop j)+rest)/\Hid (Ok ag out))
 case atStart=>exact⟨n,0,_,rfl,Nat.le_refl _,rfl,rfl,hd,HOW.out,HB.out,by rw[<-HR.out.1,List.drop_length,List.drop_eq_nil_of_le (by simp)];rfl,cf (by decide)⟩
 case round=>
  obtain⟨j,rest,out,rfl,hj,rfl,rfl,hrest,HOw,HBw,HV,HOo⟩:=hrel;by_cases h0:0<j
  ·obtain⟨b,o,x,rfl,hb,hxe,hcell⟩:=(HR.out.below HBw.out).at_ (i:=j-1) (by omega);have hx:x<4294967296:=by rw[<-hxe];exact HO.out.getD (by decide) _
   have HX:=zH hxe;clear hxe;obtain⟨y,hy⟩:∃ y:Nat,wr.cell? ⟨w.heap.size,j-1,none⟩=some (.int .u32 (y:Int)):=⟨_,HOw.out.cell (by omega)⟩;have hf:=HOw.out.frozen (j-1);have hor:=fw rest x (by omega) hx;obtain⟨q,r,hq,hr',hqb,hrd,he⟩:=tI rest x d hrest hd2 hx;have HE:=zH he;clear he
   go_wp2
   go_roundg j
   case measure=>omega
   case rel=>
    refine⟨j-1,r,out.set (j-1) q,by omega,by omega,?_,congrArg (Value.int .u64) hr',hrd,(HOw.out.stored _ _),HBw.out.setCell (Nat.le_refl _) _,?_,HOo.out.set hqb⟩
    ·congr 1;omega
    ·exact lc h0 (by rw[HOw.out.1];exact hj) HX.out (by rw[HR.out.1];exact hj) HV.out HE.out
  ·obtain rfl:j=0:=by omega
   go_wp2_with (go_at_call 170;refine (go out _ n n _ _ HOw.out.rd HOo.out (Nat.le_refl _) (by unfold maxLen;omega)).mono ?_;rintro e w' ⟨m,rfl,hm',ht,rfl⟩)
   go_ret2
   have hv:=HV.out;rw[List.drop_zero,List.drop_zero]at hv;have e1:val ag xs / d=val ag out:=by rw[hv,Nat.mul_add_div hd,Nat.div_eq_of_lt hrest,Nat.add_zero]
   have e2:val ag xs % d=rest:=by rw[hv,Nat.mul_add_mod,Nat.mod_eq_of_lt hrest]
   rw[e1,e2];exact⟨_,rfl,Sl.of_rd HOw.out.rd hm' (Nat.le_refl _) (by unfold maxLen;omega) ht,HBw.out⟩
theorem mW (x d:Nat) (va:Value) (w:World) (ha:ay w va x) (hn:(ai ag x).length<=1000000) (hd:0<d) (hd2:d<4294967296):
 Calls Tryz.prog 164 #[va,.int .u32 (d:Int)] w fun e w'=>∃ v,e=.returned (.tuple #[v,.int .u32 ((x % d:Nat):Int)])/\ay w' v (x / d)/\Below w.heap.size w w':=by
 obtain⟨A,c,rfl,hc,hm,hr⟩:=ha;have h:=mV (ai ag x) A _ c d w hr (bz az x) hc hm hn hd hd2;rw[aR az]at h;exact h
theorem cL (xs:List Nat) (va:Value) (w:World) (ha:Sl .u32 w va xs) (hn:xs.length<=1000000):
 Calls Tryz.prog 49 #[va] w fun e w'=>∃ v,e=.returned v/\aK .u32 82 w' w.heap.size v xs/\Below w.heap.size w w':=by
 obtain⟨A,c,rfl,hc,hm,hr⟩:=ha;unfold maxLen at hm;have heq:=fun W=>Lib.run_eql_slice_nil (P:=Tryz.prog) W 22 82 A xs.length c 0 0 Tryz.underlying22;rcases A with _|ad
 ·have hx:xs=[]:=by
   rcases Nat.eq_zero_or_pos xs.length with h|h
   ·exact List.eq_nil_of_length_eq_zero h
   ·obtain⟨_,_,e,_⟩:=hr.2 h;cases e
  subst hx;clear hr hn heq;have heq:=fun W=>Lib.run_eql_slice_nil (P:=Tryz.prog) W 22 82 none 0 c 0 0 Tryz.underlying22;have hc0:(0:Nat)<=c:=hc;clear hc;show Calls _ _ #[.slice none 0 c] _ _;go_enter Tryz.func49,Tryz.ntmps49
  go_wp2
  go_ret;exact⟨_,rfl,aK.nil_ _,Below.refl _ _⟩
 ·obtain⟨i0,hi0,hz0,hz1,hz2⟩:=info_parts fS;have HI:=zH hi0;have HZ0:=zH hz0;have HZ1:=zH hz1;have HZ2:=zH hz2;clear hi0 hz0 hz1 hz2;have HR:=zH hr;clear hr;generalize hxl:xs.length=n at*;have HL:=zH hxl;clear hxl;go_enter Tryz.func49,Tryz.ntmps49
  go_wp2_with (at_builtin;refine wpList_append_own_at _ rfl _ _ 22 rfl w.heap.size 82 i0 (.int .u32 0) 1 4 Tryz.underlying22 HI.out HZ0.out HZ1.out HZ2.out rfl (by decide) (.slice (some ⟨w.heap.size,0,none⟩) 0 0) 0 [] rfl (World.ownsRow_lit w #[] 0 (Nat.le_refl _) (by unfold maxLen;omega) rfl) ad n c (aI .u32 xs) rfl (by rw[aV,HL.out];omega) (sJ ((HR.out.below ((Below.refl _ _).alloc (Nat.le_refl _) _)))) eX (by unfold maxLen;omega) (by omega) (by simp) ?_;intro v1 w1 hown1 hg1 hnil1 hat1)
  go_ret;refine⟨v1,rfl,?_,?_⟩
  ·unfold aK;rw[HL.out];simpa using hown1
  ·exact ((Below.refl _ _).alloc (Nat.le_refl _) _).grown hg1 (by simp) (fun k hk=>by simp[Value.ownBlock]at hk;omega)
theorem sG (w:World) (p q:Nat):bT .u32 82 (w.alloc (.cells #[.int .u32 (p:Int),.int .u32 (q:Int)] 82)) w.heap.size w.heap.size 2 2 [p,q]:=
 ⟨rfl,World.ownsRow_lit w #[.int .u32 (p:Int),.int .u32 (q:Int)] 2 (Nat.le_refl _) (by unfold maxLen;omega) rfl⟩
theorem ek (x:Nat):(x:Int) % 4294967296=((x % 4294967296:Nat):Int)/\(x:Int) / 4294967296=((x / 4294967296:Nat):Int):=by omega
theorem zf (x:Nat) (w:World) (hx:x<18446744073709551616):
 Calls Tryz.prog 165 #[.int .u64 (x:Int)] w fun e w'=>∃ v,e=.returned v/\ay w' v x/\Below w.heap.size w w':=by
 have hp:x % 4294967296<4294967296:=by omega
 have hq:x / 4294967296<4294967296:=by omega
 have HV:Hid (val ag [x % 4294967296,x / 4294967296]=x):=by
  show x % 4294967296+4294967296*(x / 4294967296+4294967296*0)=x;omega
 go_enter Tryz.func165,Tryz.ntmps165;go_wp2_with fail;rw[(ek x).1,(ek x).2];generalize x % 4294967296=p at*;generalize x / 4294967296=q at*;refine (go [p,q] _ 2 2 _ _ (sG w p q).rd (Ok.cons hp (Ok.cons hq Ok.nil)) (Nat.le_refl _) (by unfold maxLen;omega)).mono ?_;rintro e w' ⟨m,rfl,hm,ht,rfl⟩;rw[HV.out]at ht;have HT:=zH ht;clear ht
 go_wp2
 go_ret;exact⟨_,rfl,Sl.of_rd (sG w p q).rd hm (Nat.le_refl _) (by unfold maxLen;omega) HT.out,(Below.refl _ _).alloc (Nat.le_refl _) _⟩
end Go.Proofs.YtlhojoefhannnaaGreat
