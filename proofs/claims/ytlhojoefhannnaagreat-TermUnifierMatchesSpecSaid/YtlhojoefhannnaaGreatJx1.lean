/- Short forms of steps of the kit. -/
import Derived.Deep.RegionHeld3
import Derived.Lib.Hide
import Derived.KernelRfl
import Derived.RegionTactic
set_option linter.unusedVariables false
set_option linter.unusedSimpArgs false
set_option maxRecDepth 100000
set_option maxHeartbeats 51200000
namespace Go.Proofs.YtlhojoefhannnaaGreat
open Go.RowKit
universe u
theorem L1 {α:Type u}:(∀ {i:Nat} {a:α} {l:List α},l.toArray.setIfInBounds i a=(l.set i a).toArray)/\(∀ {x b:α} {l:List α} {i:Nat},(x::l).set (i+1) b=x::l.set i b)/\∀ {x b:α} {l:List α},(x::l).set 0 b=b::l:=⟨fun {i a l}=>by simp,fun {x b l i}=>rfl,fun {x b l}=>rfl⟩
theorem L2 {α:Type u}:(∀ {l:List α} {i:Nat} (h:i<l.toArray.size),l.toArray[i]=l[i]'h)/\(∀ {i:Nat} {a:α} {l:List α} (h:i+1<(a::l).length),(a::l)[i+1]=l[i]'(Nat.lt_of_succ_lt_succ h))/\∀ {a:α} {l:List α},(a::l)[0]=a:=⟨fun h=>by simp,fun h=>rfl,rfl⟩
theorem L3 {α:Type u}:(∀ {l:List α} {i:Nat},l.toArray[i]?=l[i]?)/\(∀ {a:α} {l:List α},(a::l)[0]?=some a)/\∀ {a:α} {l:List α} {i:Nat},(a::l)[i+1]?=l[i]?:=⟨fun {l i}=>by simp,by simp,by simp⟩
theorem zT {P:Program} {ops:Array Oper} {Q:Exit->Act->World->Prop} {md:Region.Mode} {S:World->Prop} (i:Nat) {oi:Oper} {v:Value} {fuel:Nat} {listed:Array Bool} {a:Act} {w:World} (h:wpAnyH P md ops Q S fuel (listed.setIfInBounds i true) (a.put oi.dst v) w) (hi:ops[i]?=some oi:=by exact rfl) (hs:Region.noSelect ops=true:=by kernel_rfl) (hf:Region.free md ops listed i=true:=by kernel_rfl) (hr:(Region.ready md ops listed).contains i=true:=by kernel_rfl) (hQ:∀ c a w,Q (.panic c) (a.put oi.dst v) w->Q (.panic c) a w:=by exact fun _ _ _ h=>h) (hw:Region.wanted oi (yielded ops a.tmps)=true:=by kernel_rfl) (hS:S w:=by assumption) (hy:∀ w,S w->(execOp a.eval oi).run P w=.ok (.value v) w:=by ((intro w hSw;(try dsimp only at hSw);go_simp)<;>(with_reducible rfl))):wpAnyH P md ops Q S (fuel+1) listed a w:=wpAnyH_take hi hs hf hr hQ (.inl ⟨hw,hy⟩) hS h
theorem zS {P:Program} {ops:Array Oper} {Q:Exit->Act->World->Prop} {md:Region.Mode} {S:World->Prop} (i:Nat) {oi:Oper} {fuel:Nat} {listed:Array Bool} {a:Act} {w:World} (h:wpAnyH P md ops Q S fuel (listed.setIfInBounds i true) (a.put oi.dst undef) w) (hi:ops[i]?=some oi:=by exact rfl) (hs:Region.noSelect ops=true:=by kernel_rfl) (hf:Region.free md ops listed i=true:=by kernel_rfl) (hr:(Region.ready md ops listed).contains i=true:=by kernel_rfl) (hQ:∀ c a w,Q (.panic c) (a.put oi.dst undef) w->Q (.panic c) a w:=by exact fun _ _ _ h=>h) (hw:Region.wanted oi (yielded ops a.tmps)=false:=by kernel_rfl) (hS:S w:=by assumption):wpAnyH P md ops Q S (fuel+1) listed a w:=wpAnyH_take hi hs hf hr hQ (.inr ⟨hw,rfl⟩) hS h
theorem zR {P:Program} {ops:Array Oper} {Q:Exit->Act->World->Prop} {md:Region.Mode} {S:World->Prop} (i:Nat) {fuel:Nat} {listed:Array Bool} {a:Act} {w:World} {o:Oper} (h:∀ K':Act->World->Prop,Shut (∀ a w,S w->(S w->wpAnyH P md ops Q S fuel (listed.setIfInBounds i true) a w)->K' a w)->if Region.wanted o (yielded ops a.tmps)=true then Oper.wp P o a w K' Q else K' (a.put o.dst undef) w) (hr:Region.ready md ops listed=[i]:=by kernel_rfl) (ho:ops[i]?=some o:=by exact rfl):wpAnyH P md ops Q S (fuel+1) listed a w:=wpAnyH_ready hr (by simp) (AllReadyH.cons ho h AllReadyH.nil)
def Yd (p:Prop):Prop:=p
theorem Yd.o {p:Prop} (h:Yd p):p:=h
theorem Yd.out {p:Prop} (h:Yd p):p:=h
theorem zH {p:Prop} (h:p):Yd p:=h
theorem zA {n:Nat}:n<=n:=Nat.le_refl n
theorem zB {n:Nat} {w:World}:Below n w w:=Below.refl n w
theorem zC {n m k:Nat} (h:n<=m) (h2:m<=k):n<=k:=Nat.le_trans h h2
theorem zD {n m k:Nat} (h:n<m) (h2:m<=k):n<k:=Nat.lt_of_lt_of_le h h2
theorem zE {α:Type u} {as bs:List α}:(as++bs).length=as.length+bs.length:=List.length_append
theorem zF {α:Type u} {l:List α} (h:l.length=0):l=[]:=List.eq_nil_of_length_eq_zero h
theorem zG {α:Type u} {l:List α} {i:Nat} (h:l.length<=i):l.take i=l:=List.take_of_length_le h
theorem zI {α:Type u} {a b:α} (h:some a=some b):a=b:=Option.some.inj h
theorem zJ {α:Type u} (as bs cs:List α):as++bs++cs=as++(bs++cs):=List.append_assoc as bs cs
theorem zK {α:Type u} {l:List α} {i:Nat} {a:α} (h:l[i]?=some a):∃ h:i<l.length,l[i]=a:=List.getElem?_eq_some_iff.1 h
theorem zL {α:Type u} [BEq α] [LawfulBEq α] {a b:α} (h:a≠b):(a==b)=false:=beq_eq_false_iff_ne.2 h
theorem zN (n:Nat):n<=n:=Nat.le_refl n
theorem zO {α:Type u} {l:List α} {i:Nat} (h:i<l.length):l[i]?=some l[i]:=List.getElem?_eq_getElem h
theorem zP {α:Type u} {xs:Array α} {i:Nat} (h:i<xs.size):xs[i]?=some xs[i]:=Array.getElem?_eq_getElem h
theorem zQ {α:Type u} {l:List α} {i:Nat} (h:i<l.length):l[i]∈l:=List.getElem_mem h
theorem zU (n k:Nat):n<=n+k:=Nat.le_add_right n k
theorem zV {α:Type u} {a:α} {as:List α}:(a::as).length=as.length+1:=List.length_cons
theorem zW {a b:Prop} (h:a) (k:b):a/\b:=⟨h,k⟩
abbrev zX (k v:Int) (s:ByteArray) (n:Bool) (A:Option Addr) (a c:Nat) (B:Option Addr) (b d:Nat) (X:Option Addr) (l e:Nat):List Value:=[.int .i64 k,.int .i64 v,.string s,.bool n,.slice A a c,.slice B b d,.slice X l e]
abbrev zY (d:Nat):Value:=.pointer (some ⟨d,0,none⟩)
abbrev zZ (w v:World):Prop:=Below w.heap.size w v
end Go.Proofs.YtlhojoefhannnaaGreat
