/- Plain facts on lists of digits in a base: values, canonical lists. No program. And 9 more texts. -/
import Derived.Test.YtlhojoefhannnaaGreatProg
import Derived.WalkKit
import Derived.WalkSpells
import Derived.Below
import Derived.Laws.OwnMore
import Derived.Deep.Draws
import Derived.Deep.LoopGhost
import Derived.Deep.QuietTactic
import Derived.BigQuiet
import Derived.Deep.DeepCutAuto
import Derived.WalkLawsBesides
import Derived.IntWalk
import Derived.Outline
import Derived.Maps.AppendAt
import Derived.Lib.SliceRun
import Derived.Laws.BitsAllLaws
import Derived.Laws.BitsLemmas
import Derived.Test.YtlhojoefhannnaaGreatRows
import Derived.ProofKit
import Derived.OpenShut
import Derived.Lib.SmallJoins
import Derived.Deep.DeepHandedRow
import Derived.Lay
import Derived.Test.YtlhojoefhannnaaGreatJx1
set_option linter.unusedVariables false
set_option linter.unusedSimpArgs false
set_option maxRecDepth 100000
set_option maxHeartbeats 51200000
namespace Go.Proofs.YtlhojoefhannnaaGreat.NumB
def val (B:Nat):List Nat->Nat
 |[]=>0
 |d::ds=>d+B*val B ds
def Ok (B:Nat) (l:List Nat):Prop:=∀ d∈l,d<B
def mO (l:List Nat):Prop:=l.getLast?≠some 0
@[simp] theorem val_nil (B:Nat):val B []=0:=rfl
@[simp] theorem val_cons (B d:Nat) (ds:List Nat):val B (d::ds)=d+B*val B ds:=rfl
theorem dq (B:Nat) (a b:List Nat):val B (a++b)=val B a+B ^ a.length*val B b:=by
 induction a with
 |nil=>simp
 |cons d e f=>
  simp only[List.cons_append,val_cons,f,zV,Nat.pow_succ];rw[Nat.mul_add,Nat.add_assoc,Nat.mul_comm (B ^ e.length) B,Nat.mul_assoc]
theorem di {l:List Nat} {k:Nat} (h:k<l.length):l.getD k 0=l[k]:=by
 rw[List.getD_eq_getElem?_getD,zO h];rfl
theorem eZ {l:List Nat} {k:Nat} (h:l.length<=k):l.getD k 0=0:=by
 rw[List.getD_eq_getElem?_getD,List.getElem?_eq_none h];rfl
theorem Ok.nil {B:Nat}:Ok B []:=fun _ h=>by cases h
theorem Ok.cons {B d:Nat} {l:List Nat} (h:d<B) (b:Ok B l):Ok B (d::l):=by
 intro x a;rcases List.mem_cons.1 a with rfl|a
 ·exact h
 ·exact b x a
theorem Ok.head {B d:Nat} {l:List Nat} (h:Ok B (d::l)):d<B:=h d (by simp)
theorem Ok.tail {B d:Nat} {l:List Nat} (h:Ok B (d::l)):Ok B l:=fun x a=>h x (by simp[a])
theorem Ok.append {B:Nat} {a b:List Nat} (d:Ok B a) (e:Ok B b):Ok B (a++b):=by
 intro x f;rcases List.mem_append.1 f with h|h
 ·exact d x h
 ·exact e x h
theorem Ok.take {B:Nat} {l:List Nat} (h:Ok B l) (k:Nat):Ok B (l.take k):=fun x a=>h x (List.mem_of_mem_take a)
theorem Ok.drop {B:Nat} {l:List Nat} (h:Ok B l) (k:Nat):Ok B (l.drop k):=fun x a=>h x (List.mem_of_mem_drop a)
theorem Ok.getD {B:Nat} {l:List Nat} (h:Ok B l) (b:0<B) (k:Nat):l.getD k 0<B:=by
 rcases Nat.lt_or_ge k l.length with a|a
 ·rw[di a];exact h _ (zQ a)
 ·rw[eZ a];exact b
theorem gM {B:Nat} {l:List Nat} (h:Ok B l):val B l<B ^ l.length:=by
 induction l with
 |nil=>simp
 |cons d a f=>
  have i:=h.head;have b:=f h.tail;rw[val_cons,zV,Nat.pow_succ,Nat.mul_comm (B ^ a.length) B];have e:B*(val B a+1)<=B*B ^ a.length:=Nat.mul_le_mul_left _ b;rw[Nat.mul_add]at e;omega
theorem mO.tail {d:Nat} {l:List Nat} (h:mO (d::l)):mO l:=by
 unfold mO at*;cases l with
 |nil=>simp
 |cons e l=>simpa[List.getLast?_cons_cons] using h
theorem jC {B:Nat} (f:0<B) {l:List Nat} (a:mO l) (h:l≠[]):0<val B l:=by
 induction l with
 |nil=>exact absurd rfl h
 |cons d b i=>
  rw[val_cons];cases b with
  |nil=>
   have:d≠0:=by intro e;subst e;exact a (by simp)
   simp;omega
  |cons e j=>
   have:=i a.tail (by simp);have:=Nat.mul_pos f this;omega
theorem uF {B:Nat} (h:0<B) {l:List Nat} (a:mO l) (i:l≠[]):B ^ (l.length-1)<=val B l:=by
 induction l with
 |nil=>exact absurd rfl i
 |cons d b j=>
  cases b with
  |nil=>have:=jC h a (by simp);simp only[zV,List.length_nil,Nat.zero_add,Nat.sub_self,Nat.pow_zero];omega
  |cons e f=>
   have:=j a.tail (by simp);rw[val_cons];simp only[zV,Nat.add_sub_cancel]at this ⊢;rw[Nat.pow_succ,Nat.mul_comm (B ^ f.length) B];have:=Nat.mul_le_mul_left B this;omega
theorem vT {B:Nat} (f:0<B):∀ {a b:List Nat},Ok B a->Ok B b->mO a->mO b->val B a=val B b->a=b:=by
 intro a
 induction a with
 |nil=>
  intro b _ _ _ j h;cases b with
  |nil=>rfl
  |cons e i=>have:=jC f j (by simp);simp only[val_nil]at h;omega
 |cons d l y=>
  intro b q r t j h;cases b with
  |nil=>have:=jC f t (by simp);simp only[val_nil]at h;omega
  |cons e i=>
   have m:=q.head;have o:=r.head;simp only[val_cons]at h;have p:(d+B*val B l) % B=(e+B*val B i) % B:=by rw[h]
   have x:(d+B*val B l) / B=(e+B*val B i) / B:=by rw[h]
   rw[Nat.add_mul_mod_self_left,Nat.add_mul_mod_self_left,Nat.mod_eq_of_lt m,Nat.mod_eq_of_lt o]at p;rw[Nat.add_mul_div_left _ _ f,Nat.add_mul_div_left _ _ f,Nat.div_eq_of_lt m,Nat.div_eq_of_lt o]at x;have:=y q.tail r.tail t.tail j.tail (by omega);rw[p,this]
def aj (B n:Nat):List Nat:=if _h:n=0\/B<=1 then [] else (n % B)::aj B (n / B)
termination_by n
decreasing_by exact Nat.div_lt_self (by omega) (by omega)
theorem bd (B:Nat):aj B 0=[]:=by rw[aj];simp
theorem dQ {B n:Nat} (a:1<B) (b:n≠0):aj B n=(n % B)::aj B (n / B):=by
 rw[aj];rw[dif_neg (by omega)]
theorem aR {B:Nat} (a:1<B) (n:Nat):val B (aj B n)=n:=by
 induction n using Nat.strongRecOn with
 |_ n d=>
  by_cases b:n=0
  ·subst b;rw[bd];rfl
  ·rw[dQ a b,val_cons,d _ (Nat.div_lt_self (by omega) a),Nat.mod_add_div]
theorem bg {B:Nat} (a:1<B) (n:Nat):Ok B (aj B n):=by
 induction n using Nat.strongRecOn with
 |_ n d=>
  by_cases b:n=0
  ·subst b;rw[bd];exact Ok.nil
  ·rw[dQ a b];exact Ok.cons (Nat.mod_lt _ (by omega)) (d _ (Nat.div_lt_self (by omega) a))
theorem ip {B:Nat} (a:1<B) (n:Nat):mO (aj B n):=by
 induction n using Nat.strongRecOn with
 |_ n e=>
  by_cases b:n=0
  ·subst b;rw[bd];simp[mO]
  ·rw[dQ a b];by_cases d:n / B=0
   ·rw[d,bd];have:n<B:=by
     rcases Nat.lt_or_ge n B with h|h
     ·exact h
     ·have:=Nat.div_pos h (by omega);omega
    rw[Nat.mod_eq_of_lt this];simp[mO,b]
   ·have:=e _ (Nat.div_lt_self (by omega) a);rw[dQ a d]at this ⊢;unfold mO at*;simpa[List.getLast?_cons_cons] using this
theorem lB {B:Nat} (a:1<B) {l:List Nat} (b:Ok B l) (d:mO l):aj B (val B l)=l:=
 vT (by omega) (bg a _) b (ip a _) d (aR a _)
theorem gx {B n:Nat} (a:1<B) {l:List Nat} (b:Ok B l) (d:mO l) (e:val B l=n):aj B n=l:=by
 subst e;exact lB a b d
theorem dc {B n:Nat} (b:1<B):aj B n=[]↔n=0:=by
 constructor
 ·intro h;by_cases a:n=0
  ·exact a
  ·rw[dQ b a]at h;cases h
 ·rintro rfl;exact bd B
theorem bC {B n k:Nat} (b:1<B) (h:n<B ^ k):(aj B n).length<=k:=by
 rcases Nat.lt_or_ge k (aj B n).length with a|a
 ·have d:=uF (B:=B) (by omega) (ip b n) (by intro e;rw[e]at a;simp at a);rw[aR b]at d;have:B ^ k<=B ^ ((aj B n).length-1):=Nat.pow_le_pow_right (by omega) (by omega);omega
 ·exact a
theorem dC {B n:Nat} (a:1<B):n<B ^ (aj B n).length:=by
 have:=gM (bg a n)
 rwa [aR a]at this
theorem uS {B n:Nat} (a:1<B) (b:n≠0):B ^ ((aj B n).length-1)<=n:=by
 have:=uF (B:=B) (by omega) (ip a n) (by rw[Ne,dc a];exact b)
 rwa [aR a]at this
theorem bT {B a b:Nat} (d:1<B) (h:a<=b):(aj B a).length<=(aj B b).length:=
 bC d (Nat.lt_of_le_of_lt h (dC d))
theorem qQ {B n k:Nat} (b:1<B):k<(aj B n).length↔B ^ k<=n:=by
 constructor
 ·intro h;have d:n≠0:=by rintro rfl;rw[bd]at h;simp at h
  exact zC (Nat.pow_le_pow_right (by omega) (by omega)) (uS b d)
 ·intro h;rcases Nat.lt_or_ge k (aj B n).length with a|a
  ·exact a
  ·have:=dC (n:=n) b;have:=Nat.pow_le_pow_right (n:=B) (by omega) a;omega
theorem ap (B:Nat) (xs:List Nat) (j:Nat):val B (xs.take (j+1))=val B (xs.take j)+B ^ j*xs.getD j 0:=by
 rcases Nat.lt_or_ge j xs.length with h|h
 ·rw[List.take_succ_eq_append_getElem h,dq,List.length_take,Nat.min_eq_left (by omega),di h];simp
 ·rw[zG (by omega),zG h,eZ h];simp
theorem aM (B:Nat) (xs:List Nat) {j:Nat} (h:xs.length<=j):val B (xs.take j)=val B xs:=by rw[zG h]
theorem cw (l:List Nat) (i j x:Nat) (h:j<=i):(l.set i x).take j=l.take j:=by
 rw[List.take_set,List.set_eq_of_length_le (by rw[List.length_take];omega)]
theorem bi (l:List Nat) (i x:Nat) (h:i<l.length):(l.set i x).getD i 0=x:=by
 rw[di (by simpa using h)];simp
theorem getD_set_ne (l:List Nat) (i j x:Nat) (h:i≠j):(l.set i x).getD j 0=l.getD j 0:=by
 rw[List.getD_eq_getElem?_getD,List.getD_eq_getElem?_getD,List.getElem?_set_ne h]
theorem Ok.set {B:Nat} {l:List Nat} (h:Ok B l) {i x:Nat} (d:x<B):Ok B (l.set i x):=by
 intro y b;rcases List.mem_or_eq_of_mem_set b with a|a
 ·exact h y a
 ·omega
theorem bR {B n:Nat} (b:0<B):Ok B (List.replicate n 0):=by
 intro y a;rw[List.mem_replicate]at a;omega
theorem dh (B n:Nat):val B (List.replicate n 0)=0:=by
 induction n with
 |zero=>rfl
 |succ n a=>rw[List.replicate_succ,val_cons,a];simp
theorem eP (n i:Nat):(List.replicate n 0).getD i 0=0:=by
 rcases Nat.lt_or_ge i n with h|h
 ·rw[di (by simpa using h)];simp
 ·exact eZ (by simpa using h)
theorem ke (B n:Nat) (l:List Nat):val B (l++List.replicate n 0)=val B l:=by
 rw[dq,dh];simp
theorem gF (P B s:Nat):P*(s % B)+(P*B)*(s / B)=P*s:=by
 rw[Nat.mul_assoc,<-Nat.mul_add,Nat.mod_add_div]
theorem yg {V d e P B c a b:Nat} (h:V+P*c=d+e):
 (V+P*((c+a+b) % B))+(P*B)*((c+a+b) / B)=(d+P*a)+(e+P*b):=by
 have:=gF P B (c+a+b);rw[Nat.mul_add,Nat.mul_add]at this;omega
theorem top_of_last {l:List Nat} (h:l=[]\/l.getD (l.length-1) 0≠0):mO l:=by
 unfold mO;rcases h with rfl|h
 ·simp
 ·intro e;rw[List.getLast?_eq_getElem?]at e;rw[List.getD_eq_getElem?_getD,e]at h;exact h rfl
theorem bK (B:Nat) (xs:List Nat) (j:Nat):val B xs=val B (xs.take j)+B ^ j*val B (xs.drop j):=by
 rcases Nat.lt_or_ge j xs.length with h|h
 ·have:=dq B (xs.take j) (xs.drop j);rw[List.take_append_drop,List.length_take,Nat.min_eq_left (by omega)]at this;exact this
 ·rw[zG h,List.drop_eq_nil_of_le h];simp
theorem nF (xs:List Nat) (j:Nat) (h:j<xs.length):xs.drop j=xs.getD j 0::xs.drop (j+1):=by
 rw[List.drop_eq_getElem_cons h,di h]
theorem ar (B:Nat) (xs:List Nat) (j:Nat):val B (xs.drop j)=xs.getD j 0+B*val B (xs.drop (j+1)):=by
 rcases Nat.lt_or_ge j xs.length with h|h
 ·rw[nF xs j h,val_cons]
 ·rw[List.drop_eq_nil_of_le h,List.drop_eq_nil_of_le (by omega),eZ h];simp
theorem cC {B:Nat} {xs:List Nat} (a:Ok B xs) {j:Nat} (h:j<=xs.length):val B (xs.take j)<B ^ j:=by
 have:=gM (a.take j)
 rwa [List.length_take,Nat.min_eq_left h]at this
theorem qf {B:Nat} (a:0<B) {xs:List Nat} (b:Ok B xs) (j:Nat):val B (xs.take j)<B ^ j:=by
 have h:=gM (b.take j);exact zD h (Nat.pow_le_pow_right a (List.length_take_le _ _))
def cF (x y:Nat):Int:=if x<y then -1 else if y<x then 1 else 0
theorem iv {x y:Nat} (h:x<y):cF x y = -1:=by unfold cF;rw[if_pos h]
theorem kN {x y:Nat} (h:y<x):cF x y=1:=by unfold cF;rw[if_neg (by omega),if_pos h]
theorem jg {x y:Nat} (h:x=y):cF x y=0:=by unfold cF;rw[if_neg (by omega),if_neg (by omega)]
theorem Bi (x y:Nat) : -1<=cF x y/\cF x y<=1:=by unfold cF;split<;>(try split)<;>omega
theorem nC {x y:Nat}:cF x y=0↔x=y:=by
 unfold cF;split<;>(try split)<;>constructor<;>intro h<;>first|omega|(exfalso;omega)
theorem yF {x y:Nat}:cF x y<0↔x<y:=by
 unfold cF;split<;>(try split)<;>constructor<;>intro h<;>first|omega|(exfalso;omega)
theorem kj {x y:Nat}:0<=cF x y↔y<=x:=by
 unfold cF;split<;>(try split)<;>constructor<;>intro h<;>first|omega|(exfalso;omega)
theorem gO {B:Nat} {xs a:List Nat} (f:Ok B xs) {j:Nat} (i:j<xs.length) (d:val B (xs.drop (j+1))=val B (a.drop (j+1))) (e:xs.getD j 0<a.getD j 0):val B xs<val B a:=by
 rw[bK B xs j,bK B a j,ar B xs j,ar B a j,d];have h:=cC f (j:=j) (by omega);have b:B ^ j*(xs.getD j 0+B*val B (a.drop (j+1))+1)<=B ^ j*(a.getD j 0+B*val B (a.drop (j+1))):=Nat.mul_le_mul_left _ (by omega);rw[Nat.mul_add _ _ 1,Nat.mul_one]at b;omega
theorem gn {B:Nat} (d:0<B) {xs a:List Nat} (h:Ok B xs) {j:Nat} (e:val B (xs.drop (j+1))=val B (a.drop (j+1))) (f:xs.getD j 0<a.getD j 0):val B xs<val B a:=by
 rw[bK B xs j,bK B a j,ar B xs j,ar B a j,e];have i:=qf d h j;have b:B ^ j*(xs.getD j 0+B*val B (a.drop (j+1))+1)<=B ^ j*(a.getD j 0+B*val B (a.drop (j+1))):=Nat.mul_le_mul_left _ (by omega);rw[Nat.mul_add _ _ 1,Nat.mul_one]at b;omega
theorem iW {B:Nat} (b:0<B) {xs a:List Nat} (d:Ok B xs) (f:mO a) (h:xs.length<a.length):val B xs<val B a:=by
 have i:=gM d;have j:=uF b f (by intro e;rw[e]at h;simp at h);have l:B ^ xs.length<=B ^ (a.length-1):=Nat.pow_le_pow_right b (by omega);omega
end Go.Proofs.YtlhojoefhannnaaGreat.NumB
namespace Go.Proofs.YtlhojoefhannnaaGreat
open Go.Proofs.Tryz Go.RowKit NumB
def Rd (k:IntKind) (w:World) (B:Nat) (A:Option Addr) (n:Nat) (xs:List Nat):Prop:=
 xs.length=n/\(0<n->∃ b o,A=some ⟨b,o,none⟩/\b<B/\∀ i,i<n->w.cell? ⟨b,o+i,none⟩=some (.int k ((xs.getD i 0:Nat):Int)))
section
variable {k:IntKind} {w w':World} {B B' n:Nat} {A:Option Addr} {xs:List Nat}
theorem Rd.len (h:Rd k w B A n xs):xs.length=n:=h.1
theorem Rd.none_:Rd k w B A 0 []:=⟨rfl,fun h=>absurd h (by omega)⟩
theorem Rd.keep (h:Rd k w B A n xs) (j:∀ p:Addr,p.block<B->w'.cell? p=w.cell? p):Rd k w' B A n xs:=
 ⟨h.1,fun l=>by
  obtain⟨b,o,e,a,d⟩:=h.2 l;exact⟨b,o,e,a,fun i f=>(j _ a).trans (d i f)⟩⟩
theorem Rd.more (h:Rd k w B A n xs) (f:B<=B'):Rd k w B' A n xs:=
 ⟨h.1,fun d=>by
  obtain⟨b,o,e,i,a⟩:=h.2 d;exact⟨b,o,e,by omega,a⟩⟩
theorem Rd.below (h:Rd k w B A n xs) (a:Below B w w'):Rd k w' B A n xs:=h.keep fun _ b=>a.cell b
theorem Rd.to (h:Rd k w w.heap.size A n xs) (a:zZ w w'):Rd k w' w'.heap.size A n xs:=(h.below a).more a.size
theorem Rd.take (h:Rd k w B A n xs) {m:Nat} (j:m<=n):Rd k w B A m (xs.take m):=by
 refine⟨by rw[List.length_take,h.1];omega,fun l=>?_⟩;obtain⟨b,o,e,a,d⟩:=h.2 (by omega);refine⟨b,o,e,a,fun i f=>?_⟩;rw[d i (by omega)];simp[List.getD_eq_getElem?_getD,f]
end
def Sl (k:IntKind) (w:World) (v:Value) (xs:List Nat):Prop:=
 ∃ A c,v=.slice A xs.length c/\xs.length<=c/\c<=maxLen/\Rd k w w.heap.size A xs.length xs
theorem Sl.to {k:IntKind} {w w':World} {v:Value} {xs:List Nat} (h:Sl k w v xs) (f:zZ w w'):Sl k w' v xs:=by
 obtain⟨A,c,e,a,b,d⟩:=h;exact⟨A,c,e,a,b,d.to f⟩
def ai:Nat:=4294967296
def aw:Nat:=65536
theorem aI:1<ai:=by decide
theorem aJ:1<aw:=by decide
def aF (w:World) (v:Value) (x:Nat):Prop:=Sl .u32 w v (aj ai x)
def aV (w:World) (v:Value) (x:Nat):Prop:=Sl .i64 w v (aj aw x)
theorem Rd.at_ {k:IntKind} {w:World} {B n i:Nat} {A:Option Addr} {xs:List Nat} (h:Rd k w B A n xs) (f:i<n):
 ∃ b o x,A=some ⟨b,o,none⟩/\b<B/\xs.getD i 0=x/\w.cell? ⟨b,o+i,none⟩=some (.int k (x:Int)):=by
 obtain⟨b,o,e,a,d⟩:=h.2 (by omega);exact⟨b,o,_,e,a,rfl,d i f⟩
def aX (k:IntKind) (xs:List Nat):List Value:=xs.map fun (x:Nat)=>Value.int k (x:Int)
theorem lm {k:IntKind} {xs:List Nat} {i:Nat} (h:i<xs.length):(aX k xs)[i]?=some (.int k ((xs.getD i 0:Nat):Int)):=by
 rw[aX,List.getElem?_map,zO h,di h];rfl
theorem bG {k:IntKind} {xs:List Nat}:(aX k xs).length=xs.length:=by simp[aX]
theorem tf {k:IntKind} {xs:List Nat} {i x:Nat}:(aX k xs).set i (.int k (x:Int))=aX k (xs.set i x):=by simp[aX,List.map_set]
theorem fG {k:IntKind} {xs a:List Nat}:aX k xs++aX k a=aX k (xs++a):=by simp[aX]
theorem oU {k:IntKind} {n:Nat}:(madeCells #[Value.int k 0] n).toList=aX k (List.replicate n 0):=by
 rw[toList_madeCells_one];simp[aX]
theorem gw {k:IntKind} {xs:List Nat}:∀ u∈aX k xs,u.oneCell'=true:=by
 intro u a;obtain⟨x,_,rfl⟩:=List.mem_map.1 a;rfl
def cL (k:IntKind) (T:TypeId) (w:World) (B g n c:Nat) (xs:List Nat):Prop:=
 xs.length=n/\w.ownsRow B T 1 (.slice (some ⟨g,0,none⟩) n c) n (aX k xs)
section
variable {k:IntKind} {T:TypeId} {w w':World} {B g n c:Nat} {xs:List Nat}
theorem cL.cell (h:cL k T w B g n c xs) {i:Nat} (a:i<n):w.cell? ⟨g,i,none⟩=some (.int k ((xs.getD i 0:Nat):Int)):=by
 rw[h.2.cellAt i (by omega),lm (by rw[h.1];exact a)]
theorem cL.frozen (h:cL k T w B g n c xs) (i:Nat):w.frozen? ⟨g,i,none⟩=false:=h.2.frozenAt i
theorem cL.lt (h:cL k T w B g n c xs):B<=g/\g<w.heap.size:=h.2.lt g rfl
theorem cL.cap (h:cL k T w B g n c xs):n<=c/\c<=maxLen:=by
 rcases h.2.2 with ⟨a,_⟩|⟨i,b,d,a,_,_,e,f,_⟩
 ·simp at a
 ·simp only[Value.slice.injEq,Option.some.injEq,Addr.mk.injEq,and_true,true_and]at a;obtain⟨_,rfl⟩:=a;exact⟨e,f⟩
theorem cL.stored (h:cL k T w B g n c xs) (i x:Nat):cL k T (w.setCell ⟨g,i,none⟩ (.int k (x:Int))) B g n c (xs.set i x):=by
 refine⟨by simpa using h.1,?_⟩;rw[<-tf];exact (h.2.stored i _).1
theorem cL.block (h:cL k T w B g n c xs) (f:w'.heap[g]?=w.heap[g]?):cL k T w' B g n c xs:=by
 refine⟨h.1,h.2.1,?_⟩;rcases h.2.2 with a|⟨j,d,b,a,e,i,r⟩
 ·exact .inl a
 ·simp only[Value.slice.injEq,Option.some.injEq,Addr.mk.injEq,and_true,true_and]at a;obtain⟨rfl,rfl⟩:=a;exact .inr ⟨g,c,b,rfl,e,f.trans i,r⟩
theorem cL.to (h:cL k T w B g n c xs) (a:zZ w w'):cL k T w' B g n c xs:=h.block (a.block g h.lt.2)
theorem cL.drewN (h:cL k T w B g n c xs) (m:Nat):cL k T (w.drewN m) B g n c xs:=h
theorem cL.drew (h:cL k T w B g n c xs):cL k T w.drew B g n c xs:=h
theorem cL.alloc (h:cL k T w B g n c xs) (o:Obj):cL k T (w.alloc o) B g n c xs:=h.block (Below.heap_alloc w o g h.lt.2)
theorem cL.far (h:cL k T w B g n c xs) {p:Addr} (a:g≠p.block) (u:Value):cL k T (w.setCell p u) B g n c xs:=h.block (Below.heap_setCell w p u g a)
theorem cL.rd (h:cL k T w B g n c xs):Rd k w w.heap.size (some ⟨g,0,none⟩) n xs:=
 ⟨h.1,fun _=>⟨g,0,rfl,h.lt.2,fun i a=>by rw[Nat.zero_add];exact h.cell a⟩⟩
theorem cL.made (h:w.ownsRow B T 1 (.slice (some ⟨g,0,none⟩) n n) n (madeCells (Value.int k 0).cells (n*1)).toList):cL k T w B g n n (List.replicate n 0):=
 ⟨by simp,by rw[Nat.mul_one]at h;rw[<-oU];exact h⟩
end
theorem Sl.of_rd {k:IntKind} {w:World} {A:Option Addr} {n c m:Nat} {xs b:List Nat} (h:Rd k w w.heap.size A n xs) (d:m<=n) (i:n<=c) (f:c<=maxLen) (e:xs.take m=b):Sl k w (.slice A m c) b:=by
 subst e;have a:(xs.take m).length=m:=by rw[List.length_take,h.1];omega
 exact⟨A,c,by rw[a],by omega,f,by rw[a];exact h.take d⟩
theorem aN {B:Nat} {a w:World} (h:Below B a w) (n:Nat):Below B a (w.drewN n):=⟨h.os,h.tape,h.output,h.size,h.block⟩
theorem je {B:Nat} {w w':World} (h:Below B w.drew w'):Below B w w':=⟨h.os,h.tape,h.output,h.size,h.block⟩
theorem fE {B n:Nat} {w w':World} (h:Below B (w.drewN n) w'):Below B w w':=⟨h.os,h.tape,h.output,h.size,h.block⟩
theorem lj {B:Nat} {w:World} (n:Nat):Below B w (w.drewN n):=aN zB n
theorem rN (a b:Nat) (d:b<4294967296):a*4294967296 ||| b=a*4294967296+b:=by
 have:=Nat.shiftLeft_add_eq_or_of_lt (a:=a) (i:=32) (b:=b) d;rw[Nat.shiftLeft_eq]at this;exact this.symm
theorem qD (a b:Nat):((a*4294967296+b:Nat):Int)=(a:Int)*4294967296+b:=by omega
theorem AK (a:Nat):((a:Int)*4294967296).toNat=a*4294967296:=by omega
theorem gK (a b:Nat) (e:a<4294967296) (d:b<4294967296):bits .or .u64 ((a:Int)*4294967296) (b:Int)=(a:Int)*4294967296+b:=
 (u64_or _ _ (by omega) (by omega) (by omega) (by omega)).trans (by rw[AK,Int.toNat_natCast,rN a b d];exact qD a b)
theorem m9 (a b:Nat) (e:a<4294967296) (d:b<4294967296):bits .or .u64 (b:Int) ((a:Int)*4294967296)=(a:Int)*4294967296+b:=
 (u64_or _ _ (by omega) (by omega) (by omega) (by omega)).trans (by rw[AK,Int.toNat_natCast,Nat.or_comm,rN a b d];exact qD a b)
def aW (k:IntKind) (T:TypeId) (w:World) (B:Nat) (v:Value) (xs:List Nat):Prop:=w.ownsRow B T 1 v xs.length (aX k xs)
section
variable {k:IntKind} {T:TypeId} {w w':World} {B:Nat} {v:Value} {xs:List Nat}
theorem aW.nil_ (w:World):aW k T w B (.slice none 0 0) []:=World.ownsRow_nil _ _ _ _
theorem aW.form (h:aW k T w B v xs):(v=.slice none 0 0/\xs=[])\/∃ g c,v=.slice (some ⟨g,0,none⟩) xs.length c/\cL k T w B g xs.length c xs:=by
 rcases h.2 with ⟨d,e⟩|⟨g,a,b,rfl,r⟩
 ·exact .inl ⟨d,zF e⟩
 ·exact .inr ⟨g,a,rfl,rfl,h⟩
theorem cL.sl {g n c:Nat} (h:cL k T w B g n c xs):Sl k w (.slice (some ⟨g,0,none⟩) n c) xs:=by
 have a:=h.1;subst a;exact⟨_,c,rfl,h.cap.1,h.cap.2,h.rd⟩
theorem aW.sl (h:aW k T w B v xs):Sl k w v xs:=by
 rcases h.form with ⟨rfl,rfl⟩|⟨g,c,rfl,a⟩
 ·exact⟨none,0,rfl,zN _,Nat.zero_le _,Rd.none_⟩
 ·exact a.sl
theorem aW.to (h:aW k T w B v xs) (a:zZ w w'):aW k T w' B v xs:=by
 rcases h.form with ⟨rfl,rfl⟩|⟨g,c,rfl,b⟩
 ·exact aW.nil_ _
 ·exact (b.to a).2
theorem aW.alloc (h:aW k T w B v xs) (o:Obj):aW k T (w.alloc o) B v xs:=World.ownsRow.alloc h o
theorem aW.blk (h:aW k T w B v xs):∀ g,v.ownBlock=some g->B<=g:=fun g a=>(World.ownsRow.lt h g a).1
end
theorem vw {k:IntKind} {w:World} {B n:Nat} {f:Addr} {xs:List Nat} (h:Rd k w B (some f) n xs):∀ j u,(aX k xs)[j]?=some u->w.cell? (f.add j)=some u:=by
 intro j u a;have l:j<xs.length:=by
  rcases Nat.lt_or_ge j xs.length with d|d
  ·exact d
  ·rw[List.getElem?_eq_none (by rw[bG];exact d)]at a;cases a
 obtain⟨b,o,e,_,i⟩:=h.2 (by have:=h.1;omega)
 injection e with e
 subst e;rw[lm l]at a
 injection a with a
 subst a;have:(⟨b,o,none⟩:Addr).add j=⟨b,o+j,none⟩:=by unfold Addr.add;split<;>simp_all
 rw[this];exact i j (by have:=h.1;omega)
end Go.Proofs.YtlhojoefhannnaaGreat
namespace Go.Proofs.YtlhojoefhannnaaGreat
open Go.Proofs.Tryz Go.ChangeShapes Go.WideShapes Go.ChangeAt Go.RowKit Go.Joins NumB
theorem own:ownKnob prog.godebug=none:=by kernel_rfl
theorem BO:laidOutB prog=true:=by kernel_rfl
theorem iQ {H:Type} {enc:TypeId×Value->H} {P:Program} (hl:laidOutB P=true) {W W':World} (hb:zZ W W'):
 ∀ {ts:List TypeId} {vs:List Value} {ds:List (DataW H)} {ps:List MemPlace},(∀ t∈ts,P.readableRec t=true/\t<P.types.size)->DataW.TrodAll enc P W 0 (fun _=>true) true ts vs ds ps->(∀ x∈ps,x.block<W.heap.size)->
  DataW.TrodAll enc P W' 0 (fun b=>decide (b<W.heap.size)) true ts vs ds ps
 |[],[],[],_,_,h,_=>h
 |t::_,_::_,_::_,_,hT,⟨p,q,h1,h2,e⟩,hs=>⟨p,q,Below.trod hl (hT t (by simp)).1 (hT t (by simp)).2 h1 hb (fun x hx=>hs x (by rw[e];exact List.mem_append_left _ hx)),iQ hl hb (fun u hu=>hT u (by simp[hu])) h2 (fun x hx=>hs x (by rw[e];exact List.mem_append_right _ hx)),e⟩
theorem zM {H:Type} {enc:TypeId×Value->H} {f:Func} {s:ChangeSpec} {W m:World} {args:Array Value} {b:List (DataW H)} {a:List MemPlace} (d:s.vars=[])
 (o:DataW.Whole enc prog f.params.toList s.vars false W args.toList b [] a)
 (r:DataW.TrodAll enc prog W 0 (fun _=>true) true f.params.toList args.toList b a)
 (x:∀ t∈f.params.toList,prog.readableRec t=true/\t<prog.types.size)
 (i:f.resultTypes=#[4]) (j:s.fn H b={ results:=[.lit (.bool true)],args:=b })
 (q:zZ W m):s.post enc prog f false true false false W args (.bool true) m:=by
 have l:∀ p∈a,p.block<W.heap.size:=fun p y=>o.lt p y;have e:s.fn H (b++[])={ results:=[.lit (.bool true)],args:=b }:=by rw[List.append_nil];exact j
 refine⟨b,[],a,[],a,[],o,?_,?_,?_,q.frame _,fun h=>by cases h⟩
 ·rw[e,i];exact trodAll_mk1 (shut_bool underlying4 _)
 ·rw[e];exact iQ BO q x r l
 ·rw[e,d];exact rfl
theorem lW {H:Type} {enc:TypeId×Value->H} {W:World} {n:Nat} {v:Value} {y:DataW H×List MemPlace}
 (h:DataW.trod enc prog W 0 (fun _=>true) true n 22 [v]=some y):∃ xs:List Nat,Sl .u32 W v xs/\Ok ai xs:=by
 rcases open_ints underlying22 underlying82 (by kernel_rfl) h with ⟨d,t⟩|⟨a,C,o,j,d,_,G,I,F,t,e,r⟩
 ·simp only[List.cons.injEq,and_true]at d;subst d;exact⟨[],(aW.nil_ (B:=0) (T:=0) W).sl,Ok.nil⟩
 ·simp only[List.cons.injEq,and_true]at d;subst d;simp only[if_true]at F;have m:∀ z∈j,0<=z/\z<4294967296:=fun z f=>by
   have:=bounds_u32 (r z f);omega
  have l:∀ i,i<j.length->((j.map Int.toNat).getD i 0:Int)=j.getD i 0:=fun i q=>by
   rw[List.getD_eq_getElem?_getD,List.getD_eq_getElem?_getD,List.getElem?_map,zO q];have:=m _ (zQ q);simp only[Option.map_some,Option.getD_some];omega
  refine⟨(j.map Int.toNat).take C,?_,?_⟩
  ·refine Sl.of_rd (n:=o) (xs:=j.map Int.toNat) ?_ G zA I rfl;refine⟨by simp[F],fun J=>?_⟩;obtain⟨b,D,rfl,E⟩:=ints_at e (by omega);refine⟨b,D,rfl,?_,fun i q=>?_⟩
   ·have:=E 0 (by omega);rcases Nat.lt_or_ge b W.heap.size with p|p
    ·exact p
    ·simp[World.cell?,Array.getElem?_eq_none p]at this
   ·rw[E i (by omega),l i (by omega)]
  ·intro x t;obtain⟨z,f,rfl⟩:=List.mem_map.1 (List.mem_of_mem_take t);have:=m z f;show z.toNat<4294967296;omega
end Go.Proofs.YtlhojoefhannnaaGreat
namespace Go.Proofs.YtlhojoefhannnaaGreat
open Go.Proofs.Tryz Go.RowKit NumB
theorem sJ {xs:List Nat} {g:Nat} (d:Ok ai xs) (h:g<=xs.length) (e:val ai (xs.take g)=val ai xs) (b:g=0\/xs.getD (g-1) 0≠0):xs.take g=aj ai (val ai xs):=by
 refine (gx aI (d.take g) (top_of_last ?_) e).symm;have a:(xs.take g).length=g:=by rw[List.length_take];omega
 rcases b with rfl|b
 ·left;rfl
 ·rcases Nat.eq_zero_or_pos g with rfl|f
  ·left;rfl
  ·right
   rw[a,List.getD_eq_getElem?_getD,List.getElem?_take,if_pos (by omega),<-List.getD_eq_getElem?_getD];exact b
theorem iq (xs:List Nat) (A:Option Addr) (n c:Nat) (w:World) (B:Nat) (l:Rd .u32 w B A n xs) (t:Ok ai xs) (I:n<=c) (C:c<=maxLen):
 Calls prog 170 #[.slice A n c] w fun e w'=>∃ m,e=.returned (.slice A m c)/\m<=n/\xs.take m=aj ai (val ai xs)/\w=w':=by
 unfold maxLen at C;have i:=zH l.1;have y:=zH l.2;clear l;have q:=zH t;clear t;go_enter func170,ntmps170
 go_wp2
 go_loopg [0] n (fun g v wr=>g<=n/\v=.slice A g c/\Yd (val ai (xs.take g)=val ai xs)/\w=wr)
 case atStart=>exact⟨zN _,rfl,by rw[<-i.o,List.take_length];rfl,rfl⟩
 case round=>
  obtain⟨f,rfl,j,rfl⟩:=hrel;by_cases F:0<gk
  ·obtain⟨b,o,rfl,G,a⟩:=y.o (by omega);have E:=a (gk-1) (by omega);clear a;generalize d:xs.getD (gk-1) 0=x at E;have r:=zH d;clear d;by_cases p:x=0
   ·subst p
    go_wp2
    go_roundg (gk-1)
    case measure=>omega
    case rel=>
     refine⟨by omega,rfl,?_,rfl⟩;have h:=ap ai xs (gk-1);rw[show gk-1+1=gk from by omega,r.o,Nat.mul_zero,Nat.add_zero]at h;exact h.symm.trans j.o
   ·have z:=zH p;have D:((x:Int)==0)=false:=zL (by omega);clear p
    go_wp2
    go_ret;exact⟨gk,rfl,f,sJ q.o (by rw[i.o];exact f) j.o (.inr (by rw[r.o];exact z.o)),rfl⟩
  ·go_wp2
   go_ret;exact⟨gk,rfl,f,sJ q.o (by rw[i.o];exact f) j.o (.inl (by omega)),rfl⟩
theorem gN {k:IntKind} {a b:Int} (h:a=b):Ending.returned (.int k a)=.returned (.int k b):=by rw[h]
def m6 (n:Int):Int:=if n<0 then -1 else if 0<n then 1 else 0
theorem Az (n:Int) (w:World):Calls prog 172 #[.int .i64 n] w fun e w'=>e=.returned (.int .i64 (m6 n))/\w=w':=by
 by_cases a:n<0
 ·have e:m6 n = -1:=by unfold m6;rw[if_pos a]
  have E:=zH e;clear e;go_enter func172,ntmps172
  go_wp2
  go_ret;exact⟨gN E.o.symm,rfl⟩
 ·by_cases b:0<n
  ·have e:m6 n=1:=by unfold m6;rw[if_neg a,if_pos b]
   have E:=zH e;clear e;go_enter func172,ntmps172
   go_wp2
   go_ret;exact⟨gN E.o.symm,rfl⟩
  ·have e:m6 n=0:=by unfold m6;rw[if_neg a,if_neg b]
   have E:=zH e;clear e;go_enter func172,ntmps172
   go_wp2
   go_ret;exact⟨gN E.o.symm,rfl⟩
theorem gU (x y:Nat) (va vb:Value) (w:World) (ha:aF w va x) (hb:aF w vb y):
 Calls prog 163 #[va,vb] w fun e w'=>e=.returned (.int .i64 (cF x y))/\∃ m,w'=w.drewN m:=by
 obtain⟨A,ca,rfl,a3,Z,r⟩:=ha;obtain⟨A',cb,rfl,a4,a0,t⟩:=hb;unfold maxLen at Z a0;have a:=aR aI x;have d:=aR aI y;have f:=bg aI x;have l:=bg aI y;have z:=ip aI x;have C:=ip aI y;generalize aj ai x=xs at*;generalize aj ai y=D at*;generalize hn:xs.length=n at*;generalize Y:D.length=m at*;by_cases G:n=m
 ·subst G;have N:Yd ((val ai xs=x/\val ai D=y)/\(Ok ai xs/\Ok ai D)/\xs.length=n/\D.length=n):=⟨⟨a,d⟩,⟨f,l⟩,hn,Y⟩;have HA:=zH r;have HB:=zH t;clear a d f l z C hn Y r t;have U:((n:Int) != (n:Int))=false:=by simp
  go_enter func163,ntmps163
  go_wp2
  go_loopg [5] (n+1) (fun g i wr=>∃ j m:Nat,g=j+1/\j<=n/\i=.int .i64 ((j:Int)-1)/\Yd (val ai (xs.drop j)=val ai (D.drop j))/\Yd (wr=w.drewN m))
  case atStart=>exact⟨n,0,rfl,zN _,rfl,by obtain⟨_,_,Q,S⟩:=N.o;unfold Yd;rw[List.drop_eq_nil_of_le (by omega),List.drop_eq_nil_of_le (by omega)],rfl⟩
  case round=>
   obtain⟨j,dr,rfl,hj,rfl,O,HW⟩:=hrel;obtain rfl:=HW.o;by_cases P:0<j
   ·obtain⟨b,o,p,rfl,hb,I,a5⟩:=HA.o.at_ (i:=j-1) (by omega);obtain⟨b',o',q,rfl,a2,J,a6⟩:=HB.o.at_ (i:=j-1) (by omega);have F:Yd (xs.getD (j-1) 0=p/\D.getD (j-1) 0=q):=⟨I,J⟩;clear I J;have a7:(0:Int)<=(j:Int)-1:=by omega
    have a8:(j:Int)-1<(n:Int):=by omega
    by_cases a1:p=q
    ·subst a1;have V:((p:Int) != (p:Int))=false:=by simp
     go_wp2
     go_quiet (fail)
     go_wp2
     go_roundg j
     case measure=>omega
     case rel=>
      refine⟨j-1,_,by omega,by omega,?_,?_,rfl⟩
      ·congr 1;omega
      ·have Q:=ar ai xs (j-1);have S:=ar ai D (j-1);rw[F.o.1,Nat.sub_add_cancel P,O.o]at Q;rw[F.o.2,Nat.sub_add_cancel P]at S;exact Q.trans S.symm
    ·have V:((p:Int) != (q:Int))=true:=by rw[bne_iff_ne];omega
     by_cases X:p<q
     ·go_wp2
      go_quiet (fail)
      go_wp2
      go_quiet (fail)
      go_wp2
      go_ret;refine⟨gN ?_,_,by rw[World.drewN_drewN,World.drewN_drewN]⟩;obtain⟨⟨L,M⟩,⟨ox,oy⟩,l1,l2⟩:=N.o;rw[iv];rw[<-L,<-M];exact gO ox (j:=j-1) (by omega) (by rw[Nat.sub_add_cancel P];exact O.o) (by rw[F.o.1,F.o.2];exact X)
     ·have W:q<p:=by omega
      go_wp2
      go_quiet (fail)
      go_wp2
      go_quiet (fail)
      go_wp2
      go_ret;refine⟨gN ?_,_,by rw[World.drewN_drewN,World.drewN_drewN]⟩;obtain⟨⟨L,M⟩,⟨ox,oy⟩,l1,l2⟩:=N.o;rw[kN];rw[<-L,<-M];exact gO oy (j:=j-1) (by omega) (by rw[Nat.sub_add_cancel P];exact O.o.symm) (by rw[F.o.1,F.o.2];exact W)
   ·obtain rfl:j=0:=by omega
    go_wp2
    go_ret;refine⟨gN ?_,dr,rfl⟩;obtain⟨⟨L,M⟩,_⟩:=N.o;have:=O.o;rw[List.drop_zero,List.drop_zero,L,M]at this;exact (jg this).symm
 ·have U:((n:Int) != (m:Int))=true:=by rw[bne_iff_ne];omega
  have e:m6 ((n:Int)-(m:Int))=cF x y:=by
   rcases Nat.lt_or_ge n m with h|h
   ·rw[iv (by rw[<-a,<-d];exact iW (by decide) f C (by omega))];unfold m6;rw[if_pos (by omega)]
   ·rw[kN (by rw[<-a,<-d];exact iW (by decide) l z (by omega))];unfold m6;rw[if_neg (by omega),if_pos (by omega)]
  have E:=zH e;clear e a d f l z C hn Y G r t;go_enter func163,ntmps163
  go_wp2_with (go_at_call 172;refine (Az _ _).mono ?_;rintro e w' ⟨rfl,rfl⟩)
  go_ret;exact⟨gN E.o,0,rfl⟩
def CZ (x:Nat):Bool:=decide (x=1)
theorem fY {x:Nat} (h:x=1):CZ x=true:=decide_eq_true h
theorem dV {x:Nat} (h:x≠1):CZ x=false:=decide_eq_false h
theorem cg (x:Nat) (C:Value) (w:World) (D:aF w C x):
 Calls prog 132 #[C] w fun e w'=>e=.returned (.bool (CZ x))/\w=w':=by
 obtain⟨A,I,rfl,F,z,a⟩:=D;unfold maxLen at z;have d:=aR aI x;have m:x=1->(aj ai x).length=1:=by
  rintro rfl;have:aj ai 1=[1]:=gx (l:=[1]) aI (Ok.cons (by decide) Ok.nil) (by simp[mO]) rfl;rw[this];rfl
 generalize aj ai x=xs at*;generalize r:xs.length=n at*;by_cases f:n=1
 ·subst f;obtain⟨b,o,p,rfl,J,j,y⟩:=a.at_ (i:=0) (by omega);rw[Nat.add_zero]at y;have G:p=x:=by
   match xs,r with
   |[q],_=>simp only[List.getD_cons_zero]at j;simp only[val_cons,val_nil,Nat.mul_zero,Nat.add_zero]at d;omega
  subst G;by_cases h:p=1
  ·subst h;clear d m a j r;have E:=zH (fY (x:=1) rfl);go_enter func132,ntmps132
   go_wp2
   go_ret;exact⟨congrArg (fun b=>Ending.returned (.bool b)) E.o.symm,rfl⟩
  ·have t:((p:Int)==1)=false:=zL (by omega);have E:=zH (dV h);clear d m a j r h;go_enter func132,ntmps132
   go_wp2
   go_ret;exact⟨congrArg (fun b=>Ending.returned (.bool b)) E.o.symm,rfl⟩
 ·have t:((n:Int)==1)=false:=zL (by omega);have E:=zH (dV (x:=x) (fun h=>f (m h)));clear d m a r f;go_enter func132,ntmps132
  go_wp2
  go_ret;exact⟨congrArg (fun b=>Ending.returned (.bool b)) E.o.symm,rfl⟩
def bm (xs:List Nat):Bool:=decide (0<xs.length/\xs.getD (xs.length-1) 0=0)
theorem bz (xs:List Nat) (r:Value) (w:World) (x:Sl .u32 w r xs):
 Calls prog 131 #[r] w fun e w'=>e=.returned (.bool (bm xs))/\w=w':=by
 obtain⟨A,G,rfl,z,m,d⟩:=x;unfold maxLen at m;have f:Yd (bm xs=decide (0<xs.length/\xs.getD (xs.length-1) 0=0)):=rfl;generalize bm xs=l at*;generalize q:xs.length=n at*;rcases Nat.eq_zero_or_pos n with j|j
 ·subst j;have E:Yd (l=false):=by unfold Yd;rw[f.o];exact decide_eq_false (by omega)
  clear f d q;go_enter func131,ntmps131
  go_wp2
  go_ret;exact⟨congrArg (fun b=>Ending.returned (.bool b)) E.o.symm,rfl⟩
 ·obtain⟨k,rfl⟩:∃ k,n=k+1:=⟨n-1,by omega⟩;obtain⟨b,o,p,rfl,I,a,C⟩:=d.at_ (i:=k) (by omega);have J:((k+1:Nat):Int)-1=(k:Int):=by omega
  have D:(k:Int)<((k+1:Nat):Int):=by omega
  have F:(0:Int)<((k+1:Nat):Int):=by omega
  by_cases h:p=0
  ·subst h;have E:Yd (l=true):=by unfold Yd;rw[f.o];exact decide_eq_true ⟨by omega,a⟩
   clear f d q a;go_enter func131,ntmps131
   go_wp2
   go_ret;exact⟨congrArg (fun b=>Ending.returned (.bool b)) E.o.symm,rfl⟩
  ·have y:((p:Int)==0)=false:=zL (by omega);have E:Yd (l=false):=by unfold Yd;rw[f.o];exact decide_eq_false (fun t=>h (a▸t.2))
   clear f d q a h;go_enter func131,ntmps131
   go_wp2
   go_ret;exact⟨congrArg (fun b=>Ending.returned (.bool b)) E.o.symm,rfl⟩
theorem wh (a x d:Nat) (e:a<d) (b:d<4294967296) (f:x<4294967296):
 ∃ q r:Nat,(((a:Int)*4294967296+x) / (d:Int)=(q:Int))/\(((a:Int)*4294967296+x) % (d:Int)=(r:Int))/\q<4294967296/\r<d/\a*4294967296+x=d*q+r:=by
 refine⟨(a*4294967296+x) / d,(a*4294967296+x) % d,?_,?_,?_,Nat.mod_lt _ (by omega),(Nat.div_add_mod _ _).symm⟩
 ·rw[Int.natCast_ediv,qD]
 ·rw[Int.natCast_emod,qD]
 ·rw[Nat.div_lt_iff_lt_mul (by omega)];have:(a+1)*4294967296<=d*4294967296:=Nat.mul_le_mul_right _ (by omega);omega
theorem mR {xs a:List Nat} {j x d b q r:Nat} (e:0<j) (p:j<=a.length) (m:xs.getD (j-1) 0=x) (i:j<=xs.length) (l:val ai (xs.drop j)=d*val ai (a.drop j)+b)
 (o:b*4294967296+x=d*q+r):val ai (xs.drop (j-1))=d*val ai ((a.set (j-1) q).drop (j-1))+r:=by
 have f:xs.drop (j-1)=x::xs.drop j:=by
  rw[List.drop_eq_getElem_cons (by omega),<-di (by omega),m,Nat.sub_add_cancel e]
 have h:(a.set (j-1) q).drop (j-1)=q::a.drop j:=by
  rw[List.drop_eq_getElem_cons (by simp;omega),Nat.sub_add_cancel e];simp[List.drop_set];omega
 rw[f,h,val_cons,val_cons,l];have:ai=4294967296:=rfl;rw[this,Nat.mul_add,Nat.mul_add,Nat.mul_left_comm];omega
theorem ic:(prog.info? 82).map (fun i=>(i.zero,i.size,i.bytes))=some (some (.int .u32 0),1,4):=by kernel_rfl
theorem oZ (xs:List Nat) (A:Option Addr) (n c d:Nat) (w:World) (hr:Rd .u32 w w.heap.size A n xs) (ho:Ok ai xs) (hc:n<=c) (hm:c<=maxLen) (hn:n<=1000000) (Z:0<d) (Q:d<4294967296):
 Calls prog 164 #[.slice A n c,.int .u32 (d:Int)] w fun e w'=>∃ v,e=.returned (.tuple #[v,.int .u32 ((val ai xs % d:Nat):Int)])/\aF w' v (val ai xs / d)/\zZ w w':=by
 unfold maxLen at hm;have L:=zH hr;clear hr;have HO:=zH ho;clear ho;obtain⟨i0,E,F,G,I⟩:=info_parts ic;have HI:=zH E;have M:=zH F;have N:=zH G;have O:=zH I;clear E F G I;go_enter func164,ntmps164
 go_wp2_with (at_make;refine wpList_make_full _ rfl _ _ 22 rfl w.heap.size 82 i0 (.int .u32 0) 1 underlying22 HI.o M.o N.o .i64 .i64 _ _ n rfl rfl rfl rfl (by rw[O.o];omega) (by unfold maxLen;omega) zA ?_;intro w1 p D)
 have J:=zH (cL.made p);have HB:=zH ((Below.refl w.heap.size w).grown D zA (by simp));clear p D
 go_loopg [7,8] (n+1) (fun g r i wr=>∃ (j:Nat) (a:Nat) (h:List Nat),g=j+1/\j<=n/\i=.int .i64 ((j:Int)-1)/\r=.int .u64 (a:Int)/\a<d/\Yd (cL .u32 82 wr w.heap.size w.heap.size n n h)/\Yd (zZ w wr)/\Yd (val ai (xs.drop j)=d*val ai (h.drop j)+a)/\Yd (Ok ai h))
 case atStart=>exact⟨n,0,_,rfl,zN _,rfl,rfl,Z,J.o,HB.o,by rw[<-L.o.1,List.drop_length,List.drop_eq_nil_of_le (by simp)];rfl,bR (by decide)⟩
 case round=>
  obtain⟨j,a,h,rfl,hj,rfl,rfl,f,l,t,Y,C⟩:=hrel;by_cases h0:0<j
  ·obtain⟨b,o,x,rfl,hb,z,P⟩:=(L.o.below t.o).at_ (i:=j-1) (by omega);have hx:x<4294967296:=by rw[<-z];exact HO.o.getD (by decide) _
   have HX:=zH z;clear z;obtain⟨y,hy⟩:∃ y:Nat,wr.cell? ⟨w.heap.size,j-1,none⟩=some (.int .u32 (y:Int)):=⟨_,l.o.cell (by omega)⟩;have hf:=l.o.frozen (j-1);have a0:=gK a x (by omega) hx;obtain⟨q,r,hq,V,U,W,he⟩:=wh a x d f Q hx;have HE:=zH he;clear he
   go_wp2
   go_roundg j
   case measure=>omega
   case rel=>
    refine⟨j-1,r,h.set (j-1) q,by omega,by omega,?_,congrArg (Value.int .u64) V,W,(l.o.stored _ _),t.o.setCell zA _,?_,C.o.set U⟩
    ·congr 1;omega
    ·exact mR h0 (by rw[l.o.1];exact hj) HX.o (by rw[L.o.1];exact hj) Y.o HE.o
  ·obtain rfl:j=0:=by omega
   go_wp2_with (go_at_call 170;refine (iq h _ n n _ _ l.o.rd C.o zA (by unfold maxLen;omega)).mono ?_;rintro e w' ⟨m,rfl,S,ht,rfl⟩)
   go_ret2
   have X:=Y.o;rw[List.drop_zero,List.drop_zero]at X;have e1:val ai xs / d=val ai h:=by rw[X,Nat.mul_add_div Z,Nat.div_eq_of_lt f,Nat.add_zero]
   have e2:val ai xs % d=a:=by rw[X,Nat.mul_add_mod,Nat.mod_eq_of_lt f]
   rw[e1,e2];exact⟨_,rfl,Sl.of_rd l.o.rd S zA (by unfold maxLen;omega) ht,t.o⟩
theorem pg (x d:Nat) (b:Value) (w:World) (f:aF w b x) (m:(aj ai x).length<=1000000) (j:0<d) (a:d<4294967296):
 Calls prog 164 #[b,.int .u32 (d:Int)] w fun e w'=>∃ v,e=.returned (.tuple #[v,.int .u32 ((x % d:Nat):Int)])/\aF w' v (x / d)/\zZ w w':=by
 obtain⟨A,c,rfl,i,l,o⟩:=f;have h:=oZ (aj ai x) A _ c d w o (bg aI x) i l m j a;rw[aR aI]at h;exact h
theorem dt (xs:List Nat) (C:Value) (w:World) (G:Sl .u32 w C xs) (M:xs.length<=1000000):
 Calls prog 49 #[C] w fun e w'=>∃ v,e=.returned v/\aW .u32 82 w' w.heap.size v xs/\zZ w w':=by
 obtain⟨A,c,rfl,z,L,m⟩:=G;unfold maxLen at L;have b:=fun W=>Lib.run_eql_slice_nil (P:=prog) W 22 82 A xs.length c 0 0 underlying22;rcases A with _|F
 ·have N:xs=[]:=by
   rcases Nat.eq_zero_or_pos xs.length with h|h
   ·exact zF h
   ·obtain⟨_,_,e,_⟩:=m.2 h;cases e
  subst N;clear m M b;have b:=fun W=>Lib.run_eql_slice_nil (P:=prog) W 22 82 none 0 c 0 0 underlying22;have I:(0:Nat)<=c:=z;clear z;show Calls _ _ #[.slice none 0 c] _ _;go_enter func49,ntmps49
  go_wp2
  go_ret;exact⟨_,rfl,aW.nil_ _,Below.refl _ _⟩
 ·obtain⟨O,d,i,j,l⟩:=info_parts ic;have D:=zH d;have o:=zH i;have p:=zH j;have q:=zH l;clear d i j l;have E:=zH m;clear m;generalize f:xs.length=n at*;have x:=zH f;clear f;go_enter func49,ntmps49
  go_wp2_with (at_builtin;refine wpList_append_own_at _ rfl _ _ 22 rfl w.heap.size 82 O (.int .u32 0) 1 4 underlying22 D.o o.o p.o q.o rfl (by decide) (.slice (some ⟨w.heap.size,0,none⟩) 0 0) 0 [] rfl (World.ownsRow_lit w #[] 0 zA (by unfold maxLen;omega) rfl) F n c (aX .u32 xs) rfl (by rw[bG,x.o];omega) (vw ((E.o.below (zB.alloc zA _)))) gw (by unfold maxLen;omega) (by omega) (by simp) ?_;intro Q S a r t y)
  go_ret;refine⟨Q,rfl,?_,?_⟩
  ·unfold aW;rw[x.o];simpa using a
  ·exact (zB.alloc zA _).grown r (by simp) (fun k J=>by simp[Value.ownBlock]at J;omega)
theorem vo (w:World) (p q:Nat):cL .u32 82 (w.alloc (.cells #[.int .u32 (p:Int),.int .u32 (q:Int)] 82)) w.heap.size w.heap.size 2 2 [p,q]:=
 ⟨rfl,World.ownsRow_lit w #[.int .u32 (p:Int),.int .u32 (q:Int)] 2 zA (by unfold maxLen;omega) rfl⟩
theorem fg (x:Nat):(x:Int) % 4294967296=((x % 4294967296:Nat):Int)/\(x:Int) / 4294967296=((x / 4294967296:Nat):Int):=by omega
theorem CY (x:Nat) (w:World) (j:x<18446744073709551616):
 Calls prog 165 #[.int .u64 (x:Int)] w fun e w'=>∃ v,e=.returned v/\aF w' v x/\zZ w w':=by
 have h:x % 4294967296<4294967296:=by omega
 have i:x / 4294967296<4294967296:=by omega
 have d:Yd (val ai [x % 4294967296,x / 4294967296]=x):=by
  show x % 4294967296+4294967296*(x / 4294967296+4294967296*0)=x;omega
 go_enter func165,ntmps165;go_wp2_with fail;rw[(fg x).1,(fg x).2];generalize x % 4294967296=p at*;generalize x / 4294967296=q at*;refine (iq [p,q] _ 2 2 _ _ (vo w p q).rd (Ok.cons h (Ok.cons i Ok.nil)) zA (by unfold maxLen;omega)).mono ?_;rintro e w' ⟨m,rfl,f,a,rfl⟩;rw[d.o]at a;have b:=zH a;clear a
 go_wp2
 go_ret;exact⟨_,rfl,Sl.of_rd (vo w p q).rd f zA (by unfold maxLen;omega) b.o,zB.alloc zA _⟩
theorem rF (p s:Nat) (a:s<32):p*2 ^ s % 4294967296=(p % 2 ^ (32-s))*2 ^ s:=by
 have:(4294967296:Nat)=2 ^ (32-s)*2 ^ s:=by rw[<-Nat.pow_add,Nat.sub_add_cancel (by omega)]
 rw[this,Nat.mul_mod_mul_right]
theorem nY (p s h:Nat) (d:s<32) (e:h<2 ^ s):h+p*2 ^ s % 4294967296<4294967296:=by
 rw[rF p s d];have a:p % 2 ^ (32-s)+1<=2 ^ (32-s):=Nat.mod_lt _ (Nat.pow_pos (by omega));have b:(p % 2 ^ (32-s)+1)*2 ^ s<=2 ^ (32-s)*2 ^ s:=Nat.mul_le_mul_right _ a;rw[<-Nat.pow_add,Nat.sub_add_cancel (by omega),Nat.add_mul,Nat.one_mul]at b;omega
theorem CX (p s h:Nat) (b:s<32) (a:h<2 ^ s):h ||| p*2 ^ s % 4294967296=h+p*2 ^ s % 4294967296:=by
 rw[rF p s b,Nat.or_comm,<-Nat.shiftLeft_eq,<-Nat.shiftLeft_add_eq_or_of_lt a,Nat.add_comm]
theorem C7 (p s:Nat) (d:p<4294967296) (e:s<32):p*2 ^ s<9223372036854775808:=by
 have a:(2:Nat) ^ s<=2 ^ 31:=Nat.pow_le_pow_right (by omega) (by omega);have b:p*2 ^ s<=4294967295*2 ^ 31:=Nat.mul_le_mul (by omega) a;omega
theorem za (p s:Nat) (a:p<4294967296):p*2 ^ s / 4294967296<2 ^ s:=by
 rw[Nat.div_lt_iff_lt_mul (by omega),Nat.mul_comm];exact Nat.mul_lt_mul_of_pos_left a (Nat.pow_pos (by omega))
theorem Cj {V P S K f a p h d b B:Nat} (i:P=a*K) (j:p*S=d+B*b) (l:V+P*h=S*K*f):
 V+P*(h+d)+P*B*b=S*K*(f+a*p):=by
 have e:P*d+P*B*b=S*K*(a*p):=by
  rw[Nat.mul_assoc,<-Nat.mul_add,<-j,i];simp only[Nat.mul_comm,Nat.mul_left_comm]
 rw[Nat.mul_add,Nat.mul_add (S*K)];omega
theorem ot (s:Nat):((2 ^ s:Nat):Int)=2 ^ s:=Int.natCast_pow 2 s
theorem ss (p s:Nat) (a:p<4294967296) (b:s<32):IntKind.u64.wrap ((p:Int)*2 ^ s)=((p*2 ^ s:Nat):Int):=by
 have h:=C7 p s a b;rw[<-ot,<-Int.natCast_mul];generalize p*2 ^ s=y at*;rw[IntKind.wrap_u64];omega
theorem zv (a b:Nat) (d:a<4294967296) (e:b<4294967296):bits .or .u32 (a:Int) (b:Int)=((a ||| b:Nat):Int):=by
 have h:=u32_or (a:Int) (b:Int) (by omega) (by omega) (by omega) (by omega);rw[Int.toNat_natCast,Int.toNat_natCast]at h;exact h
theorem Cl (p s h:Nat) (e:p<4294967296) (a:s<32) (b:h<2 ^ s):
 bits .or .u32 (h:Int) (IntKind.u64.wrap ((p:Int)*2 ^ s) % 4294967296)=((h+p*2 ^ s % 4294967296:Nat):Int):=by
 have d:h<4294967296:=by have:=nY p s h a b;omega
 rw[ss p s e a,(fg _).1,zv _ _ d (Nat.mod_lt _ (by omega)),CX p s h a b]
theorem Aw (p s:Nat) (d:p<4294967296) (e:s<32):
 bits .or .u32 0 (IntKind.u64.wrap ((p:Int)*2 ^ s) / 4294967296 % 4294967296)=((p*2 ^ s / 4294967296:Nat):Int):=by
 have h:=za p s d;have f:(2:Nat) ^ s<=2 ^ 31:=Nat.pow_le_pow_right (by omega) (by omega);have a:p*2 ^ s / 4294967296<4294967296:=by omega
 rw[ss p s d e,(fg _).2,(fg _).1,Nat.mod_eq_of_lt a];have b:=zv 0 _ (by omega) a;rw[Nat.zero_or]at b;exact b
theorem Ay {xs a:List Nat} {j k s h p:Nat} (e:j+k+1<a.length) (i:s<32) (f:p<4294967296) (d:xs.getD j 0=p)
 (b:val ai (a.take (j+k))+ai ^ (j+k)*h=2 ^ s*ai ^ k*val ai (xs.take j)):
 val ai ((((a.set (j+k) (h+p*2 ^ s % 4294967296)).set (j+k+1) (p*2 ^ s / 4294967296)).take (j+1+k)))+ai ^ (j+1+k)*(p*2 ^ s / 4294967296)=2 ^ s*ai ^ k*val ai (xs.take (j+1)):=by
 rw[show j+1+k=j+k+1 from by omega,cw _ _ _ _ zA,ap,ap,cw _ _ _ _ zA,bi _ _ _ (by omega),d,Nat.pow_succ];exact Cj (Nat.pow_add _ _ _) (by rw[show ai=4294967296 from rfl];omega) b
theorem Ck {xs a:List Nat} {l k s h x n:Nat} (j:xs.length=l) (m:a.length=l+k+1) (i:val ai xs=x) (e:n=32*k+s) (d:a.getD (l+k) 0=h)
 (f:val ai (a.take (l+k))+ai ^ (l+k)*h=2 ^ s*ai ^ k*val ai (xs.take l)):val ai a=x*2 ^ n:=by
 have b:=ap ai a (l+k);rw[aM ai a (by omega),d,f,aM ai xs (by omega),i]at b;rw[b,e,Nat.pow_add,Nat.pow_mul,show (2:Nat) ^ 32=ai from rfl,Nat.mul_comm x,Nat.mul_comm (ai ^ k)]
theorem vD (x n:Nat) (va:Value) (w:World) (ha:aF w va x) (hl:(aj ai x).length<=100000) (hn:n<=100000):
 Calls prog 167 #[va,.int .i64 (n:Int)] w fun e w'=>∃ v,e=.returned v/\aF w' v (x*2 ^ n)/\zZ w w':=by
 obtain⟨A,c,rfl,hc,hm,hr⟩:=ha;unfold maxLen at hm;obtain⟨k,s,hk,hs,f,Z⟩:∃ k s:Nat,(n:Int) / 32=(k:Int)/\(n:Int) % 32=(s:Int)/\s<32/\Yd (n=32*k+s):=⟨n / 32,n % 32,by omega,by omega,by omega,by unfold Yd;omega⟩;have a1:k<=100000:=by have:=Z.o;omega
 have HX:=zH (aR aI x);have HO:=zH (bg aI x);generalize aj ai x=xs at*;generalize F:xs.length=l at*;have Y:=zH F;have HR:=zH hr;clear F hr;by_cases h0:l=0
 ·subst h0;have S:(((0:Nat):Int)==0)=true:=rfl;have M:Yd (x=0):=by
   have Q:=HX.o;rw[zF Y.o]at Q;exact Q.symm
  clear hk hs;go_enter func167,ntmps167
  go_wp2
  go_ret;refine⟨_,rfl,?_,Below.refl _ _⟩;rw[M.o,Nat.zero_mul];unfold aF;rw[bd];exact (aW.nil_ (B:=0) (T:=0) w).sl
 have S:((l:Int)==0)=false:=zL (by omega);obtain⟨i0,D,G,I,J⟩:=info_parts ic;have HI:=zH D;have N:=zH G;have O:=zH I;have P:=zH J;clear D G I J;go_enter func167,ntmps167
 go_wp2_with (at_make;refine wpList_make_full _ rfl _ _ 22 rfl w.heap.size 82 i0 (.int .u32 0) 1 underlying22 HI.o N.o O.o .i64 .i64 _ _ (l+k+1) rfl rfl (by omega) (by omega) (by rw[P.o];omega) (by unfold maxLen;omega) zA ?_;intro w1 r C)
 have L:=zH (cL.made r);have HB:=zH ((Below.refl w.heap.size w).grown C zA (by simp));clear r C
 go_loopg [21] l (fun g i wr=>∃ (j h:Nat) (d:List Nat),g+j=l/\i=.int .i64 (j:Int)/\h<2 ^ s/\Yd (d.getD (j+k) 0=h)/\Yd (cL .u32 82 wr w.heap.size w.heap.size (l+k+1) (l+k+1) d)/\Yd (zZ w wr)/\Yd (val ai (d.take (j+k))+ai ^ (j+k)*h=2 ^ s*ai ^ k*val ai (xs.take j))/\Yd (Ok ai d)/\Yd (∀ q,j+k<q->d.getD q 0=0))
 case atStart=>
  refine⟨0,0,List.replicate (l+k+1) 0,by omega,rfl,Nat.pow_pos (by omega),?_,L.o,HB.o,?_,bR (by decide),?_⟩
  ·exact eP _ _
  ·show _=_;rw[List.take_replicate,dh];simp
  ·exact fun q _=>eP _ _
 case round=>
  obtain⟨j,h,d,hg,rfl,hh,X,a,t,HV,z,HQ⟩:=hrel;by_cases hj:j<l
  ·obtain⟨b,o,p,rfl,hb,y,U⟩:=(HR.o.below t.o).at_ (i:=j) (by omega);have E:p<4294967296:=by rw[<-y];exact HO.o.getD (by decide) _
   have HP:=zH y;clear y;have hy:=a.o.cell (i:=j+k) (by omega);rw[X.o]at hy;have W:=a.o.cell (i:=j+k+1) (by omega);rw[HQ.o _ (by omega)]at W;have hf:=a.o.frozen (j+k);have a0:=a.o.frozen (j+k+1)
   go_wp2
   go_roundg (gk-1)
   case measure=>omega
   case rel=>
    rw[Cl p s h E f hh,Aw p s E f];have a2:d.length=l+k+1:=a.o.1;refine⟨j+1,p*2 ^ s / 4294967296,_,by omega,by go_num,za p s E,?_,(a.o.stored _ _).stored _ _,(t.o.setCell zA _).setCell zA _,Ay (by omega) f E HP.o HV.o,?_,?_⟩
    ·show _=_;rw[show j+1+k=j+k+1 from by omega,bi _ _ _ (by simp;omega)]
    ·have Q:=za p s E;have h2:(2:Nat) ^ s<=2 ^ 31:=Nat.pow_le_pow_right (by omega) (by omega);exact (z.o.set (nY p s h f hh)).set (by show _<4294967296;omega)
    ·intro q hq;rw[NumB.getD_set_ne _ _ _ _ (by omega),NumB.getD_set_ne _ _ _ _ (by omega)];exact HQ.o q (by omega)
  ·obtain rfl:j=l:=by omega
   go_wp2_with (go_at_call 170;refine (iq d _ (j+k+1) (j+k+1) _ _ a.o.rd z.o zA (by unfold maxLen;omega)).mono ?_;rintro e w' ⟨m,rfl,V,ht,rfl⟩)
   go_ret;rw[Ck Y.o a.o.1 HX.o Z.o X.o HV.o]at ht;exact⟨_,rfl,Sl.of_rd a.o.rd V zA (by unfold maxLen;omega) ht,t.o⟩
end Go.Proofs.YtlhojoefhannnaaGreat
