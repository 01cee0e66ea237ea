/- Maps whose content does not matter: Lookup and MapUpdate answer. And 9 more texts. -/
import Derived.WideKeyElems
import Derived.LaidEqlPtr
import Derived.DeepKeys3
import Derived.Carry
import Derived.Lib.FrozenHead2
import Derived.Lib.Builder
import Derived.Lib.AppendStr
import Derived.Lib.UnsafeStr
import Derived.Lib.OthersKept
import Derived.Laws.Externs
import Derived.Lib.OwnKind
import Derived.Test.YtlhojoefhannnaaGreatJx4
set_option linter.unusedVariables false
set_option linter.unusedSimpArgs false
set_option maxRecDepth 100000
set_option maxHeartbeats 51200000
namespace Go.Proofs.YtlhojoefhannnaaGreat
open Go.Proofs.Tryz Go.RowKit NumB
structure kF (kt:TypeId) (KP:Value->Prop) (w:World):Prop where
 check:∀ (e:Bool) a,KP a->(Instr.checkKey e 10000 kt a).run prog w=.ok () w
 equal:∀ a b,KP a->KP b->∃ r:Bool,(Op.equal kt a b).run prog w=.ok r w/\(r=true->Instr.sameBits 10000 b a=true)
 und:∃ d,prog.underlying kt=some d
def jI (KP VP:Value->Prop) (w:World) (b n:Nat):Prop:=
 ∃ es clock,w.heap[b]?=some (.map es clock)/\es.size=n/\∀ x∈es.toList,KP x.key/\VP x.val
theorem tJ {d:TypeDesc} {k:Value}:∀ (c:List MapEntry) (i:Nat) (j:Nat) (v:Value),Instr.findNow d k c i=some (some (j,v))->∃ e,e∈c/\c[j-i]?=some e/\i<=j/\e.val=v/\Instr.sameNow d k e.key=some true:=by
 intro c
 induction c with
 |nil=>intro i j v h;simp[Instr.findNow]at h
 |cons e c o=>
  intro i j v h;unfold Instr.findNow at h
  split at h
  ·next hs=>
   simp only[Option.some.injEq,Prod.mk.injEq]at h;exact⟨e,by simp,by simp[<-h.1],by omega,h.2,hs⟩
  ·obtain⟨f,g,l,p,m,n⟩:=o _ _ _ h;refine⟨f,by simp[g],?_,by omega,m,n⟩;rw[show j-i=(j-(i+1))+1 by omega];simpa using l
  ·cases h
theorem jf {a b:ByteArray} (h:(a==b)=true):a=b:=by
 cases a with
 |mk a=>
  cases b with
  |mk b=>
   have h:(a==b)=true:=h;have e:a=b:=by simpa using h
   rw[e]
theorem pT {d:TypeDesc} {a b:Value} (h:Instr.sameNow d a b=some true):Instr.sameBits 10000 b a=true:=by
 unfold Instr.sameNow at h
 split at h
 ·split at h
  ·next hk=>simp at h;subst hk h;simp[Instr.sameBits]
  ·cases h
 ·rename_i a b
  have h:(a==b)=true:=zI h;have e:a=b:=jf h;subst e;show (a==a)=true;exact h
 ·rename_i a b
  have h:(a==b)=true:=zI h;have e:a=b:=by simpa using h
  subst e;show (a==a)=true;exact h
 ·cases h
theorem lC {n:TypeId} {f o:Value->Prop} {w:World} (K:kF n f w) {k:Value} (B:f k):∀ (c:List MapEntry),(∀ x∈c,f x.key/\o x.val)->∀ i,∃ r,(Instr.findAsking n k c i).run prog w=.ok r w/\
 ∀ j v,r=some (j,v)->∃ e,e∈c/\c[j-i]?=some e/\i<=j/\e.val=v/\Instr.sameBits 10000 e.key k=true:=by
 intro c
 induction c with
 |nil=>intro _ i;exact⟨none,by simp[Instr.findAsking,Sem.run_pure],by simp⟩
 |cons e c E=>
  intro d i;obtain⟨r,m,l⟩:=K.equal k e.key B (d e (by simp)).1;cases r with
  |true=>exact⟨some (i,e.val),by simp[Instr.findAsking,Sem.run_bind,m,Result.andThen_ok,Sem.run_pure],fun j v h=>by
   simp only[Option.some.injEq,Prod.mk.injEq]at h;exact⟨e,by simp,by simp[<-h.1],by omega,h.2,l rfl⟩⟩
  |false=>
   obtain⟨q,C,g⟩:=E (fun x D=>d x (by simp[D])) (i+1);refine⟨q,by simp[Instr.findAsking,Sem.run_bind,m,Result.andThen_ok,C],fun j v h=>?_⟩;obtain⟨p,t,y,F,z,A⟩:=g j v h;refine⟨p,by simp[t],?_,by omega,z,A⟩;rw[show j-i=(j-(i+1))+1 by omega];simpa using y
theorem kn {p:TypeId} {g q:Value->Prop} {w:World} (K:kF p g w) {k:Value} (t:g k) (c:List MapEntry) (n:∀ x∈c,g x.key/\q x.val):∃ r,(Instr.findKey p k c).run prog w=.ok r w/\
 ∀ j v,r=some (j,v)->∃ e,e∈c/\c[j]?=some e/\e.val=v/\Instr.sameBits 10000 e.key k=true:=by
 obtain⟨d,o⟩:=K.und;cases hf:Instr.findNow d k c 0 with
 |some r=>
  refine⟨r,by simp[Instr.findKey,Sem.run_bind,run_underlying o,Result.andThen_ok,hf,Sem.run_pure],fun j v h=>?_⟩;subst h;obtain⟨e,i,f,_,l,m⟩:=tJ c 0 j v hf;exact⟨e,i,by simpa using f,l,pT m⟩
 |none=>
  obtain⟨r,y,f⟩:=lC K t c n 0;refine⟨r,by simp[Instr.findKey,Sem.run_bind,run_underlying o,Result.andThen_ok,hf,y],fun j v h=>?_⟩;obtain⟨e,i,f,_,l,m⟩:=f j v h;exact⟨e,i,by simpa using f,l,m⟩
theorem kw {x et mt:TypeId} {i l:Value->Prop} {w:World} (K:kF x i w) (g:prog.underlying mt=some (.map x et)) {z:Value} (t:(zeroValue et).run prog w=.ok z w) (q:l z) {k:Value} (d:i k) {b n:Nat} (C:jI i l w b n):
 ∃ v D,l v/\(Instr.lookup mt (.map (some b)) k true).run prog w=.ok (.tuple #[v,.bool D]) w/\(Instr.lookup mt (.map (some b)) k false).run prog w=.ok v w:=by
 obtain⟨y,m,f,E,c⟩:=C;obtain⟨r,h,o⟩:=kn K d y.toList c;cases r with
 |none=>exact⟨z,false,q,by simp[Instr.lookup,Sem.run_bind,run_underlying g,Result.andThen_ok,getObj,Sem.run,f,K.check _ k d,h,t],by simp[Instr.lookup,Sem.run_bind,run_underlying g,Result.andThen_ok,getObj,Sem.run,f,K.check _ k d,h,t]⟩
 |some p=>
  obtain⟨j,v⟩:=p;obtain⟨e,A,_,B,_⟩:=o j v rfl;exact⟨v,true,B▸(c e A).2,by simp[Instr.lookup,Sem.run_bind,run_underlying g,Result.andThen_ok,getObj,Sem.run,f,K.check _ k d,h],by simp[Instr.lookup,Sem.run_bind,run_underlying g,Result.andThen_ok,getObj,Sem.run,f,K.check _ k d,h]⟩
def aq (w:World) (b:Nat) (o:Obj):World:={ w with heap:=w.heap.setIfInBounds b o }
theorem lO {I et mt:TypeId} {q y:Value->Prop} {w:World} (K:kF I q w) (D:prog.underlying mt=some (.map I et)) {k v:Value} (m:q k) (G:y v) {b n:Nat} (O:jI q y w b n):
 ∃ w' J,(Instr.mapUpdate mt (.map (some b)) k v).run prog w=.ok () w'/\jI q y w' b J/\J<=n+1/\ag (fun i=>i=b) w w':=by
 obtain⟨t,c,l,E,g⟩:=O;have z:b<w.heap.size:=(Array.getElem?_eq_some_iff.1 l).1;have d:∀ o:Obj,ag (fun i=>i=b) w (aq w b o):=fun o=>
  ⟨rfl,rfl,rfl,by simp[aq],fun i Z A=>by
   have A:¬b=i:=fun e=>A e.symm;simp[aq,Array.getElem?_setIfInBounds_ne A]⟩
 have h:∀ o:Obj,(aq w b o).heap[b]?=some o:=fun o=>by simp[aq,z]
 obtain⟨r,F,B⟩:=kn K m t.toList g;cases r with
 |none=>
  refine⟨aq w b (.map (t.push ⟨k,v,c⟩) (c+1)),n+1,?_,⟨_,_,h _,by simp[E],?_⟩,zN _,d _⟩
  ·simp[Instr.mapUpdate,run_underlying D,MapKept.run_getObj_map l,K.check false k m,F,MapKept.run_setObj_map _ l,Result.andThen,aq]
  ·intro x f;simp only[Array.toList_push,List.mem_append,List.mem_singleton]at f;rcases f with f|rfl
   ·exact g x f
   ·exact⟨m,G⟩
 |some p=>
  obtain⟨j,V⟩:=p;obtain⟨e,X,M,Y,N⟩:=B j V rfl;have U:t[j]?=some e:=by simpa using M
  refine⟨aq w b (.map (t.modify j fun C=>{ C with key:=k,val:=v }) c),n,?_,⟨_,_,h _,by simp[E],?_⟩,by omega,d _⟩
  ·simp[Instr.mapUpdate,run_underlying D,MapKept.run_getObj_map l,K.check false k m,F,U,Instr.keyThatStays,N,MapKept.run_setObj_map _ l,Result.andThen,aq]
  ·intro x f;rcases MapFrom.mem_modify f with f|⟨C,_,rfl⟩
   ·exact g x f
   ·exact⟨m,G⟩
def bw (v:Value):Prop:=∃ i:Int,v=.int .i64 i
def vL (v:Value):Prop:=∃ s:ByteArray,v=.string s
def kY (w:World) (v:Value):Prop:=∃ b o cs t,v=.pointer (some ⟨b,o,none⟩)/\w.heap[b]?=some (.cells cs t (0,0))
theorem lM (w:World):kF 9 vL w where
 check:=fun e a ⟨s,h⟩=>by
  subst h;exact MapKept.run_checkKey (d:=.string) (by kernel_rfl) (show MapKept.IsKey .string (.string s) from trivial) e 9999
 equal:=fun a b ⟨s,h⟩ ⟨r,k⟩=>by
  subst h k;refine⟨s==r,?_,fun q=>?_⟩
  ·have c:prog.underlying 9=some .string:=by kernel_rfl
   have h:∀ d:Nat,(Op.equalIn (d+1) 9 (.string s) (.string r)).run prog w=.ok (s==r) w:=fun d=>by simp[Op.equalIn,run_underlying c]
   exact h 9999
  ·have e:=jf q;subst e;exact q
 und:=⟨.string,by kernel_rfl⟩
theorem lK (w:World):kF 3 bw w where
 check:=fun e a ⟨s,h⟩=>by
  subst h;exact MapKept.run_checkKey (d:=.int .i64) (by kernel_rfl) (show MapKept.IsKey (.int .i64) (.int .i64 s) from rfl) e 9999
 equal:=fun a b ⟨s,h⟩ ⟨r,k⟩=>by
  subst h k;refine⟨s==r,?_,fun q=>?_⟩
  ·have c:prog.underlying 3=some (.int .i64):=by kernel_rfl
   have h:∀ d:Nat,(Op.equalIn (d+1) 3 (.int .i64 s) (.int .i64 r)).run prog w=.ok (s==r) w:=fun d=>by simp[Op.equalIn,run_underlying c]
   exact h 9999
  ·have e:s=r:=by simpa using q
   subst e;simp[Instr.sameBits]
 und:=⟨.int .i64,by kernel_rfl⟩
theorem lL (w:World):kF 109 (kY w) w where
 check:=fun e a ⟨b,o,y,t,h,_⟩=>by
  subst h;have k:prog.underlying 109=some (.pointer 27):=by kernel_rfl
  have h:∀ d:Nat,(Instr.checkKey e (d+1) 109 (.pointer (some ⟨b,o,none⟩))).run prog w=.ok () w:=fun d=>by simp[Instr.checkKey,run_underlying k,Sem.run_pure]
  exact h 9999
 equal:=fun a b ⟨f,l,c1,z,r,x⟩ ⟨n,p,c2,A,v,k2⟩=>by
  subst r v;have k:prog.underlying 109=some (.pointer 27):=by kernel_rfl
  have g:(prog.info? 27).map (fun i=>i.size)=some 7:=by kernel_rfl
  rcases hi:prog.info? 27 with _|j
  ·rw[hi]at g;cases g
  ·rw[hi]at g;have m:j.size≠0:=by
    have:j.size=7:=zI g;omega
   by_cases c:(⟨f,l,none⟩:Addr)=⟨n,p,none⟩
   ·rw[<-c];have h:∀ d:Nat,(Op.equalIn (d+1) 109 (.pointer (some ⟨f,l,none⟩)) (.pointer (some ⟨f,l,none⟩))).run prog w=.ok true w:=fun d=>by
     simp[Op.equalIn,run_underlying k,sizeOf,typeInfo,hi,run_sameAddr_same]
    exact⟨true,h 9999,fun _=>by simp[Instr.sameBits]⟩
   ·have h:∀ d:Nat,(Op.equalIn (d+1) 109 (.pointer (some ⟨f,l,none⟩)) (.pointer (some ⟨n,p,none⟩))).run prog w=.ok false w:=fun d=>by
     simp[Op.equalIn,run_underlying k,sizeOf,typeInfo,hi,m,run_sameAddr_other w c x k2]
    exact⟨false,h 9999,fun q=>by cases q⟩
 und:=⟨.pointer 27,by kernel_rfl⟩
def iL (v:Value):Prop:=(∃ i j:Int,v=.agg #[.int .i64 i,.int .i64 j])/\∃ l,keyOf prog 134 v=some l
theorem qb:WideMaps.KeyLaw prog 134:=
 Go.deep_law (m:=2) (by omega) (by kernel_rfl) (by kernel_rfl) (by kernel_rfl)
theorem zi (w:World):kF 134 iL w where
 check:=fun e a h=>qb.check w e h.2.choose_spec
 equal:=fun a b h k=>by
  obtain⟨⟨i,j,n⟩,o,d⟩:=h;obtain⟨_,p,f⟩:=k;obtain⟨r,l,c⟩:=Go.run_equal_deep w (m:=2) (by omega) (k:=134) (by kernel_rfl) (by kernel_rfl) d f;refine⟨r,l,fun q=>?_⟩;have e:o=p:=c.1 q;have g:a=b:=qb.inj d (e▸f);subst g n;simp[Instr.sameBits]
 und:=⟨.array 2 3,by kernel_rfl⟩
theorem kJ (w:World):Calls prog 115 #[] w fun e w'=>e=.returned (.pointer (some ⟨w.heap.size+2,0,none⟩))/\w'=((w.alloc (.map #[] 0)).alloc (.map #[] 0)).alloc (.cells #[.map (some w.heap.size),.map (some (w.heap.size+1))] 186):=by
 have c:=@run_makeMap prog;go_enter func115,ntmps115;go_wp2_with fail;go_ret;exact⟨rfl,rfl⟩
theorem mW (h:Nat) (w:World):Calls prog 99 #[.pointer (some ⟨h,0,none⟩)] w fun e w'=>e=.returned (.pointer (some ⟨w.heap.size+2,0,none⟩))/\w'=((w.alloc (.map #[] 0)).alloc (.map #[] 0)).alloc (.cells #[.pointer (some ⟨h,0,none⟩),.map (some w.heap.size),.map (some (w.heap.size+1))] 178):=by
 have c:=@run_makeMap prog;go_enter func99,ntmps99;go_wp2_with fail;go_ret;exact⟨rfl,rfl⟩
end Go.Proofs.YtlhojoefhannnaaGreat
namespace Go.Proofs.YtlhojoefhannnaaGreat
open Go.Proofs.Tryz Go.RowKit NumB Go.Proofs
theorem jn:(prog.info? 189).map (fun i=>i.size)=some 2:=by kernel_rfl
theorem gB:(prog.info? 5).map (fun i=>(i.zero,i.size,i.bytes))=some (some (.int .u8 0),1,1):=by kernel_rfl
theorem lu (b:Nat) (w:World) (d:w.cell? ⟨b,0,none⟩=some (.pointer (some ⟨b,0,none⟩))):
 Calls prog 160 #[.pointer (some ⟨b,0,none⟩)] w fun e w'=>e=.returned (.tuple #[])/\w'=w:=by
 obtain⟨j,c,_⟩:=Option.map_eq_some_iff.1 jn;go_enter func160,ntmps160;go_wp2_with fail;rw[Lib.run_neq_ptr_same w _ underlying187 c];go_wp2_with fail;unfold bodyPost;refine⟨rfl,.tuple #[],?_,rfl,rfl⟩;simp[results,Tryz.f160]
theorem kH (b:Nat) (w:World) (h:w.cell? ⟨b,0,none⟩=some (.pointer none)) (c:w.shape? b=some (189,2)) (g:w.frozen? ⟨b,0,none⟩=false):
 Calls prog 160 #[.pointer (some ⟨b,0,none⟩)] w fun e w'=>e=.returned (.tuple #[])/\w'=w.setCell ⟨b,0,none⟩ (.pointer (some ⟨b,0,none⟩)):=by
 obtain⟨j,f,d⟩:=Option.map_eq_some_iff.1 jn;go_enter func160,ntmps160;go_wp2_with fail;rw[Lib.run_to_unsafe w ⟨b,0,none⟩ underlying187 underlying217 f (by rw[d];decide) c (Nat.zero_lt_succ 1)];simp only[Result.andThen];rw[Oper.upon_value];go_wp2_with fail;rw[run_callFunc_extern func171 (by kernel_rfl) (by kernel_rfl) (by kernel_rfl) (e:=Extern.AbiNoEscape.same) (by kernel_rfl)];rw[Lib.run_noEscape];simp only[Result.andThen];rw[Oper.upon_value];go_wp2_with fail;rw[Lib.run_from_unsafe w ⟨b,0,none⟩ underlying217 underlying187 f c (by kernel_rfl)];simp only[Result.andThen];rw[Oper.upon_value];go_wp2_with fail;unfold bodyPost;refine⟨rfl,.tuple #[],?_,rfl,rfl⟩;simp[results,Tryz.f160]
theorem iS (B b:Nat) (c:List Value) (w:World) (h:Lib.IsBuilderF 189 5 B b c w):
 Calls prog 160 #[.pointer (some ⟨b,0,none⟩)] w fun e w'=>e=.returned (.tuple #[])/\Lib.BuilderAtF 189 5 B b (.pointer (some ⟨b,0,none⟩)) c w'/\Below B w w'/\Lib.OthersKept 5 (some b) w w':=by
 rcases h with h|h
 ·refine (kH b w h.cell0 h.shape h.frozen0).mono ?_;rintro e w' ⟨rfl,rfl⟩;exact⟨rfl,h.used _,(Below.refl B w).setCell (p:=⟨b,0,none⟩) h.1 _,(Lib.OthersKept.refl _ _ w).setCell ⟨b,0,none⟩ rfl _⟩
 ·refine (lu b w h.cell0).mono ?_;rintro e w' ⟨rfl,rfl⟩;exact⟨rfl,h,Below.refl B _,Lib.OthersKept.refl _ _ _⟩
def BD (w:World) (B b n:Nat):Prop:=∃ l:List UInt8,l.length<=n/\Lib.IsBuilderF 189 5 B b (Lib.byteCells l) w
def BX (w:World) (B b:Nat) (l:List UInt8):Prop:=Lib.IsBuilderF 189 5 B b (Lib.byteCells l) w
theorem iu (B b:Nat) (l:List UInt8) (u8:UInt8) (w:World) (h:BX w B b l) (t:l.length<=1000000000) (a1:B<=w.heap.size):
 Calls prog 143 #[.pointer (some ⟨b,0,none⟩),.int .u8 u8.toNat] w fun e w'=>e=.returned .nilIface/\BX w' B b (l++[u8])/\Below B w w'/\Lib.OthersKept 5 (some b) w w':=by
 unfold BX at h;obtain⟨r,q⟩:∃ r,Lib.byteCells l=r:=⟨_,rfl⟩;have a2:r.length<=1000000000:=by rw[<-q,Lib.byteCells_length];exact t
 rw[q]at h;have HF:Yd (∀ w',Lib.BuilderAtF 189 5 B b (.pointer (some ⟨b,0,none⟩)) (r++[.int .u8 u8.toNat]) w'->BX w' B b (l++[u8])):=fun w' hw=>.inr (by
  have e:Lib.byteCells (l++[u8])=r++[.int .u8 u8.toNat]:=by rw[<-q];simp[Lib.byteCells]
  rw[e];exact hw)
 clear t q;obtain⟨i0,Z,A,C,D⟩:=info_parts gB;have HI:=zH Z;have I:=zH A;have J:=zH C;have M:=zH D;clear Z A C D;have G:=zH (iS B b r w h);clear h;generalize y:(Value.int .u8 u8.toNat)=v8 at*;obtain⟨z8,X⟩:∃ z:Int,v8=.int .u8 z:=⟨_,y.symm⟩;subst X;clear y;go_enter func143,ntmps143;go_wp2_with fail;refine G.o.mono ?_;rintro e x ⟨rfl,h1,m,O⟩;obtain⟨Y,v,o,d,V⟩:=h1;have c0:x.cell? ⟨b,0,none⟩=some (.pointer (some ⟨b,0,none⟩)):=by rw[Lib.cell_of_heap o];rfl
 have c1:x.cell? ⟨b,1,none⟩=some v:=by rw[Lib.cell_of_heap o];rfl
 go_wp2_with (at_builtin;refine wpList_append_ownF _ rfl _ _ 83 rfl B 5 i0 (.int .u8 0) 1 1 underlying83 HI.o I.o J.o M.o rfl (by decide) _ _ _ rfl (d.alloc _) ⟨x.heap.size,0,none⟩ 1 1 [.int .u8 z8] rfl rfl ?c1 ?c2 ?c3 ?c4 ?c5 ?_)
 case c1=>
  intro j u E
  match j,E with
  |0,E=>simp at E;subst E;simp[Addr.add]
 case c2=>intro u hu;simp at hu;subst hu;rfl
 case c3=>unfold maxLen;omega
 case c4=>omega
 case c5=>have:=m.size;simp;omega
 intro v' F f c _;have U:b<x.heap.size:=by
  rcases Nat.lt_or_ge b x.heap.size with N|N
  ·exact N
  ·simp[Array.getElem?_eq_none N]at o
 have n:F.heap[b]?=some (.cells #[.pointer (some ⟨b,0,none⟩),v] 189 (0,0)):=by
  rw[c.block b (by simp;omega) (fun e=>V e.symm),Lib.alloc_old x _ b U];exact o
 have d0:F.cell? ⟨b,0,none⟩=some (.pointer (some ⟨b,0,none⟩)):=by rw[Lib.cell_of_heap n];rfl
 have d1:F.cell? ⟨b,1,none⟩=some v:=by rw[Lib.cell_of_heap n];rfl
 have f1:F.frozen? ⟨b,1,none⟩=false:=Lib.frozen_of_heap n 1;obtain⟨g,i,rfl⟩:∃ g i,v'=.slice (some ⟨g,0,none⟩) (r.length+1) i:=by
  rcases f.2 with ⟨_,h0⟩|⟨g,i,a0,fz,hv,_⟩
  ·omega
  ·exact⟨g,i,hv⟩
 go_wp2_with fail;go_ret;refine⟨rfl,HF.o _ ?_,?_,((O.alloc _).grown c (Lib.ownsRowF_kind (d.alloc _))).setCell ⟨b,1,none⟩ rfl _⟩
 ·exact Lib.BuilderAtF.put (T:=189) (e:=5) Y n (bs':=r++[.int .u8 z8]) (by simpa using f) (by decide)
 ·exact ((m.alloc (by have:=m.size;omega) _).grown c (by have:=m.size;simp;omega) (fun k hk=>(d.lt k hk).1)).setCell (p:=⟨b,1,none⟩) Y _
theorem fL (B b:Nat) (l:List UInt8) (s:ByteArray) (w:World) (h:BX w B b l) (hs:s.size<=1000000000) (n:l.length<=1000000000) (a1:B<=w.heap.size):
 Calls prog 145 #[.pointer (some ⟨b,0,none⟩),.string s] w fun e w'=>e=.returned (.tuple #[.int .i64 s.size,.nilIface])/\BX w' B b (l++s.data.toList)/\Below B w w'/\Lib.OthersKept 5 (some b) w w':=by
 unfold BX at h;obtain⟨o,m⟩:∃ o,Lib.byteCells l=o:=⟨_,rfl⟩;have a2:o.length<=1000000000:=by rw[<-m,Lib.byteCells_length];exact n
 rw[m]at h;have Y:Yd (∀ w',Lib.BuilderAtF 189 5 B b (.pointer (some ⟨b,0,none⟩)) (o++Lib.strCells s) w'->BX w' B b (l++s.data.toList)):=fun w' hw=>.inr (by
  have e:Lib.byteCells (l++s.data.toList)=o++Lib.strCells s:=by rw[<-m];simp[Lib.byteCells,Lib.strCells]
  rw[e];exact hw)
 clear n m;obtain⟨i0,V,t,x,y⟩:=info_parts gB;have Z:=zH V;have D:=zH t;have E:=zH x;have F:=zH y;clear V t x y;have C:=zH (iS B b o w h);clear h;go_enter func145,ntmps145;go_wp2_with fail;refine C.o.mono ?_;rintro e z ⟨rfl,h1,r,I⟩;obtain⟨U,v,j,d,M⟩:=h1;have c0:z.cell? ⟨b,0,none⟩=some (.pointer (some ⟨b,0,none⟩)):=by rw[Lib.cell_of_heap j];rfl
 have c1:z.cell? ⟨b,1,none⟩=some v:=by rw[Lib.cell_of_heap j];rfl
 go_wp2_with (at_builtin;refine Lib.wpList_append_own_stringF _ rfl _ _ 83 9 rfl B 5 i0 underlying83 underlying9 Z.o D.o E.o F.o _ _ _ rfl d s rfl ?c3 ?c4 ?c5 ?_)
 case c3=>unfold maxLen;omega
 case c4=>omega
 case c5=>have:=r.size;omega
 intro v' A f c _;have J:b<z.heap.size:=by
  rcases Nat.lt_or_ge b z.heap.size with G|G
  ·exact G
  ·simp[Array.getElem?_eq_none G]at j
 have i:A.heap[b]?=some (.cells #[.pointer (some ⟨b,0,none⟩),v] 189 (0,0)):=by
  rw[c.block b J (fun e=>M e.symm)];exact j
 have d0:A.cell? ⟨b,0,none⟩=some (.pointer (some ⟨b,0,none⟩)):=by rw[Lib.cell_of_heap i];rfl
 have d1:A.cell? ⟨b,1,none⟩=some v:=by rw[Lib.cell_of_heap i];rfl
 have f1:A.frozen? ⟨b,1,none⟩=false:=Lib.frozen_of_heap i 1;obtain⟨O,X,q,rfl⟩:∃ O X q,v'=.slice O X q:=by
  rcases f.2 with ⟨N,_⟩|⟨g,q,a0,fz,N,_⟩
  ·exact⟨_,_,_,N⟩
  ·exact⟨_,_,_,N⟩
 go_wp2_with fail
 go_ret2
 refine⟨rfl,Y.o _ ?_,?_,(I.grown c (Lib.ownsRowF_kind d)).setCell ⟨b,1,none⟩ rfl _⟩
 ·exact Lib.BuilderAtF.put (T:=189) (e:=5) U i (bs':=o++Lib.strCells s) (by simpa[Lib.strCells_length] using f) (by decide)
 ·exact (r.grown c (by have:=r.size;omega) (fun k hk=>(d.lt k hk).1)).setCell (p:=⟨b,1,none⟩) U _
theorem nu (B b:Nat) (l:List UInt8) (w:World) (h:BX w B b l) (c:B<=w.heap.size):
 Calls prog 146 #[.pointer (some ⟨b,0,none⟩)] w fun e w'=>e=.returned (.string ⟨l.toArray⟩)/\BX w' B b l/\Below B w w'/\Lib.OthersKept 5 (some b) w w':=by
 refine (Tryz.Builder_String_any_k B b l w h c).mono ?_;rintro e w' ⟨rfl,d,f,g⟩;exact⟨rfl,d,f,g⟩
end Go.Proofs.YtlhojoefhannnaaGreat
namespace Go.Proofs.YtlhojoefhannnaaGreat
open Go.Proofs.Tryz Go.RowKit NumB
theorem BD.kept {p:Nat->Prop} {w w':World} {B b n:Nat} (h:BD w B b n) (A:ag p w w') (C:∀ k cs T f,w.heap[k]?=some (.cells cs T f)->¬p k):BD w' B b n:=by
 obtain⟨l,J,h⟩:=h;have e:∀ q,Lib.BuilderAtF 189 5 B b q (Lib.byteCells l) w->Lib.BuilderAtF 189 5 B b q (Lib.byteCells l) w':=by
  rintro q ⟨I,v,t,d,y⟩;have c:∀ k o,w.heap[k]?=some o->k<w.heap.size:=fun k o h=>by
   rcases Nat.lt_or_ge k w.heap.size with m|m
   ·exact m
   ·rw[Array.getElem?_eq_none m]at h;cases h
  refine⟨I,v,(A.block b (c _ _ t) (C _ _ _ _ t)).trans t,?_,y⟩;obtain⟨z,E|⟨g,i,j,D,rfl,F,r,G⟩⟩:=d
  ·exact⟨z,.inl E⟩
  ·exact⟨z,.inr ⟨g,i,j,D,rfl,F,(A.block g (c _ _ r) (C _ _ _ _ r)).trans r,G⟩⟩
 exact⟨l,J,h.elim (fun x=>.inl (e _ x)) (fun x=>.inr (e _ x))⟩
theorem BD.below {w w':World} {B b n:Nat} (h:BD w B b n) (c:zZ w w'):BD w' B b n:=h.kept (p:=fun _=>False) (ag.of_below c) (fun _ _ _ _ _ h=>h)
theorem kF.sub {f:TypeId} {d KP':Value->Prop} {w:World} (K:kF f d w) (h:∀ v,KP' v->d v):kF f KP' w:=
 ⟨fun e a c=>K.check e a (h a c),fun a b c g=>K.equal a b (h a c) (h b g),K.und⟩
def Dk (v:Value):Prop:=∃ i:Int,v=.int .i64 i/\aG i
def qr (w:World) (v:Value):Prop:=∃ b o cs,v=.pointer (some ⟨b,o,none⟩)/\w.heap[b]?=some (.cells cs 27 (0,0))
theorem qr.ptr {w:World} {v:Value} (h:qr w v):kY w v:=by
 obtain⟨b,o,c,e,h⟩:=h;exact⟨b,o,c,_,e,h⟩
theorem nT (w:World):kF 109 (qr w) w:=(lL w).sub fun _ h=>h.ptr
theorem an {w:World} {k:Nat} {o:Obj} (h:w.heap[k]?=some o):k<w.heap.size:=by
 rcases Nat.lt_or_ge k w.heap.size with c|c
 ·exact c
 ·rw[Array.getElem?_eq_none c]at h;cases h
theorem jI.same {d KP' e:Value->Prop} {w w':World} {b n:Nat} (h:jI d e w b n) (l:∀ o,w.heap[b]?=some o->w'.heap[b]?=some o) (m:∀ v,d v->KP' v):jI KP' e w' b n:=by
 obtain⟨i,c,j,k,f⟩:=h;exact⟨i,c,l _ j,k,fun x g=>⟨m _ (f x g).1,(f x g).2⟩⟩
theorem jI.vals {e f d:Value->Prop} {w:World} {b n:Nat} (h:jI e f w b n) (m:∀ v,f v->d v):jI e d w b n:=by
 obtain⟨j,c,k,l,g⟩:=h;exact⟨j,c,k,l,fun x i=>⟨(g x i).1,m _ (g x i).2⟩⟩
def bu (w:World) (p m1 m2 n:Nat):Prop:=(m1≠m2)/\ah w p 186 #[.map (some m1),.map (some m2)]/\(∃ n1,n1<=n/\jI (qr w) Dk w m1 n1)/\(∃ n2,n2<=n/\jI vL Dk w m2 n2)
def KN (m1 m2:Nat) (k:Nat):Prop:=k=m1\/k=m2
theorem jI.is {f g:Value->Prop} {w:World} {b n:Nat} (h:jI f g w b n):∃ e c,w.heap[b]?=some (.map e c):=by
 obtain⟨e,d,i,_⟩:=h;exact⟨e,d,i⟩
theorem bu.cells {w:World} {p d e n:Nat} (h:bu w p d e n) {k:Nat} {cs:Array Value} {T:TypeId} {f:Nat×Nat} (c:w.heap[k]?=some (Obj.cells cs T f)):¬KN d e k:=by
 obtain⟨_,_,⟨_,_,j⟩,⟨_,_,l⟩⟩:=h;obtain⟨_,_,g⟩:=j.is;obtain⟨_,_,i⟩:=l.is;rintro (rfl|rfl)
 ·rw[g]at c;cases c
 ·rw[i]at c;cases c
def sW (o:Obj):Prop:=(∀ c f,o≠Obj.cells c 5 f)/\(∀ c f,o≠Obj.cells c 189 f)
theorem sW.of_cells {c:Array Value} {T:TypeId} {f:Nat×Nat} (h:T≠5) (i:T≠189):sW (Obj.cells c T f):=⟨fun d g e=>h (Obj.cells.inj e).2.1,fun d g e=>i (Obj.cells.inj e).2.1⟩
theorem sW.of_map {f:Array MapEntry} {c:Nat}:sW (Obj.map f c):=⟨fun d g e=>Obj.noConfusion e,fun d g e=>Obj.noConfusion e⟩
def uK (w w':World):Prop:=∀ (k:Nat) (o:Obj),w.heap[k]?=some o->sW o->w'.heap[k]?=some o
theorem bu.same {w w':World} {p i j n:Nat} (h:bu w p i j n) (d:uK w w'):bu w' p i j n:=by
 obtain⟨q,r,⟨x,l,f⟩,⟨y,m,g⟩⟩:=h;refine⟨q,d p _ r (sW.of_cells (by decide) (by decide)),⟨x,l,f.same (fun o c=>?_) ?_⟩,⟨y,m,g.same (fun o c=>?_) (fun v h=>h)⟩⟩
 ·obtain⟨_,_,e⟩:=f.is;rw[e]at c;cases c;exact d _ _ e sW.of_map
 ·rintro v ⟨b,o,k,e,t⟩;exact⟨b,o,k,e,d _ _ t (sW.of_cells (by decide) (by decide))⟩
 ·obtain⟨_,_,e⟩:=g.is;rw[e]at c;cases c;exact d _ _ e sW.of_map
theorem fh {w w':World} {b:Nat} (h:Lib.OthersKept 5 (some b) w w') (l:∃ c f,w.heap[b]?=some (Obj.cells c 189 f)):uK w w':=fun k o i d=>
 h k o i (fun e=>by
  obtain⟨c,f,g⟩:=l;have j:k=b:=zI e;subst j;rw[i]at g;exact d.2 c f (zI g)) d.1
theorem ll {w w':World} (h:zZ w w'):uK w w':=fun k o c _=>(h.block k (an c)).trans c
theorem BD.is {w:World} {B b n:Nat} (h:BD w B b n):∃ c f,w.heap[b]?=some (Obj.cells c 189 f):=by
 obtain⟨l,_,h|h⟩:=h
 ·obtain⟨_,v,h,_⟩:=h;exact⟨_,_,h⟩
 ·obtain⟨_,v,h,_⟩:=h;exact⟨_,_,h⟩
theorem bu.others {w w':World} {p c d n B b k:Nat} (h:bu w p c d n) (f:Lib.OthersKept 5 (some b) w w') (e:BD w B b k):bu w' p c d n:=h.same (fh f e.is)
theorem bu.below {w w':World} {p c d n:Nat} (h:bu w p c d n) (e:zZ w w'):bu w' p c d n:=h.same (ll e)
theorem bu.drew {w:World} {p c d n:Nat} (h:bu w p c d n):bu w.drew p c d n:=h.same fun _ _ h _=>h
theorem ah.others {w w':World} {g B b k:Nat} {T:TypeId} {cs:Array Value} (h:ah w g T cs) (c:T≠5) (d:T≠189) (f:Lib.OthersKept 5 (some b) w w') (e:BD w B b k):ah w' g T cs:=
 fh f e.is g _ h (sW.of_cells c d)
theorem bu.mono {w:World} {p c d n e:Nat} (h:bu w p c d n) (q:n<=e):bu w p c d e:=by
 obtain⟨f,g,⟨k,m,i⟩,⟨l,o,j⟩⟩:=h;exact⟨f,g,⟨k,by omega,i⟩,⟨l,by omega,j⟩⟩
theorem bu.form {w:World} {p g d n:Nat} (h:bu w p g d n) (s:ByteArray):∃ (i:Int) (c:Bool),aG i/\(Instr.lookup 114 (.map (some d)) (.string s) true).run prog w=.ok (.tuple #[.int .i64 i,.bool c]) w:=by
 obtain⟨_,_,_,⟨j,_,h⟩⟩:=h;obtain⟨v,c,⟨i,rfl,f⟩,e,_⟩:=kw (lM w) (mt:=114) (by kernel_rfl) (z:=.int .i64 0) (zeroValue3 w) ⟨0,rfl,by unfold aG;omega⟩ (k:=.string s) ⟨s,rfl⟩ h;exact⟨i,c,f,e⟩
theorem bu.node {w:World} {p d j n:Nat} (h:bu w p d j n) {k:Value} (g:qr w k):∃ (i:Int) (c:Bool),aG i/\(Instr.lookup 108 (.map (some d)) k true).run prog w=.ok (.tuple #[.int .i64 i,.bool c]) w:=by
 obtain⟨_,_,⟨l,_,h⟩,_⟩:=h;obtain⟨v,c,⟨i,rfl,f⟩,e,_⟩:=kw (nT w) (mt:=108) (by kernel_rfl) (z:=.int .i64 0) (zeroValue3 w) ⟨0,rfl,by unfold aG;omega⟩ (k:=k) g h;exact⟨i,c,f,e⟩
theorem bu.putForm {w:World} {p q c n:Nat} (h:bu w p q c n) (s:ByteArray) {i:Int} (A:aG i):∃ w',(Instr.mapUpdate 114 (.map (some c)) (.string s) (.int .i64 i)).run prog w=.ok () w'/\bu w' p q c (n+1)/\ag (fun k=>k=c) w w':=by
 have l:=@bu.cells _ _ _ _ _ h;obtain⟨f,g,⟨F,G,x⟩,⟨J,I,y⟩⟩:=h;obtain⟨w',E,D,z,B,d⟩:=lO (et:=3) (lM w) (mt:=114) (by kernel_rfl) (k:=.string s) (v:=.int .i64 i) ⟨s,rfl⟩ ⟨i,rfl,A⟩ y;have m:∀ k o,w.heap[k]?=some o->k≠c->w'.heap[k]?=some o:=fun k o h t=>(d.block k (an h) t).trans h;refine⟨w',D,⟨f,d.blk g (fun e=>l g (.inr e)),⟨F,by omega,x.same (fun o C=>m _ _ C f) ?_⟩,⟨E,by omega,z⟩⟩,d⟩;rintro v ⟨b,o,r,e,j⟩;exact⟨b,o,r,e,m _ _ j (fun e=>l j (.inr e))⟩
theorem bu.putNode {w:World} {p d r n:Nat} (h:bu w p d r n) {k:Value} (c:qr w k) {i:Int} (B:aG i):∃ w',(Instr.mapUpdate 108 (.map (some d)) k (.int .i64 i)).run prog w=.ok () w'/\bu w' p d r (n+1)/\ag (fun k=>k=d) w w':=by
 have m:=@bu.cells _ _ _ _ _ h;obtain⟨g,j,⟨M,I,y⟩,⟨G,J,z⟩⟩:=h;obtain⟨w',F,E,A,C,f⟩:=lO (et:=3) (nT w) (mt:=108) (by kernel_rfl) (k:=k) (v:=.int .i64 i) c ⟨i,rfl,B⟩ y;have q:∀ k o,w.heap[k]?=some o->k≠d->w'.heap[k]?=some o:=fun k o h x=>(f.block k (an h) x).trans h;refine⟨w',E,⟨g,f.blk j (fun e=>m j (.inl e)),⟨F,by omega,A.same (fun o h=>h) ?_⟩,⟨G,by omega,z.same (fun o D=>q _ _ D (fun e=>g e.symm)) (fun v h=>h)⟩⟩,f⟩;rintro v ⟨b,o,t,e,l⟩;exact⟨b,o,t,e,q _ _ l (fun e=>m l (.inl e))⟩
theorem bu.len {w:World} {p g e n:Nat} (h:bu w p g e n):∃ d c,w.heap[e]?=some (.map d c)/\d.size<=n:=by
 obtain⟨_,_,_,⟨k,i,⟨d,c,f,j,_⟩⟩⟩:=h;exact⟨d,c,f,by omega⟩
theorem BD.drew {w:World} {B b n:Nat} (h:BD w B b n):BD w.drew B b n:=h
theorem BD.le {w:World} {B b n m:Nat} (h:BD w B b n) (e:n<=m):BD w B b m:=by
 obtain⟨l,d,c⟩:=h;exact⟨l,by omega,c⟩
theorem BD.new (w:World):BD (w.alloc (.cells #[.pointer none,.slice none 0 0] 189)) w.heap.size w.heap.size 0:=
 ⟨[],zN _,.inl ⟨zN _,.slice none 0 0,ah.new w _ _,World.ownsRowF_of (World.ownsRow_nil _ _ _ _),by simp[Value.ownBlock]⟩⟩
theorem ag.thenB {p:Nat->Prop} {w y d:World} {B:Nat} (h:ag p w y) (c:Below B y d) (g:w.heap.size<=B):ag p w d:=
 ⟨c.os.trans h.os,c.tape.trans h.tape,c.output.trans h.output,zC h.size c.size,fun k e f=>(c.block k (by omega)).trans (h.block k e f)⟩
theorem bu.nsc {w:World} {p c d n:Nat} (h:bu w p c d n):w.cell? ⟨p,0,none⟩=some (.map (some c))/\w.cell? ⟨p,1,none⟩=some (.map (some d)):=⟨h.2.1.cell 0,h.2.1.cell 1⟩
mutual
def Tm.count:Tm->Nat
 |.mk _ _ _ _ args=>1+am args
def am:List Tm->Nat
 |[]=>0
 |t::l=>t.count+am l
end
theorem qK (l:List Tm) (t:Tm):am (l++[t])=am l+t.count:=by
 induction l with
 |nil=>simp[am]
 |cons x l c=>simp only[List.cons_append,am,c];omega
theorem d9 {α:Type} (l:List α) {j:Nat} (c:j<l.length):l.take (j+1)=l.take j++[l[j]]:=by rw[List.take_succ_eq_append_getElem c]
theorem bq (l:List Tm) {j:Nat} (c:j<l.length):am (l.take (j+1))=am (l.take j)+(l[j]).count:=by rw[d9 l c,qK]
theorem cH (l:List Tm) (j:Nat):am (l.take j)<=am l:=by
 induction l generalizing j with
 |nil=>simp[am]
 |cons x l c=>
  cases j with
  |zero=>simp[am]
  |succ j=>simp only[List.take_succ_cons,am];have:=c j;omega
theorem seven {cs:List Value} (h:cs.length=7):∃ c0 c1 c2 c3 c d c6,cs=[c0,c1,c2,c3,c,d,c6]:=by
 match cs,h with
 |[c0,c1,c2,c3,c,d,c6],_=>exact⟨c0,c1,c2,c3,c,d,c6,rfl⟩
theorem TC.form {w:World} {t:Tm} {cs:List Value} (h:TC w t cs):∃ k v s b d p c1 e o f Ar l c,cs=[.int .i64 k,.int .i64 v,.string s,.bool b,.slice d p c1,.slice e o f,.slice Ar l c]:=by
 cases h with
 |mk k v s n g A B Ar c cs r D C j m y i x z q=>
  obtain⟨d,c1,rfl,_⟩:=j;obtain⟨e,f,rfl,_⟩:=m;exact⟨k,v,s,n.neg,d,_,c1,e,_,f,Ar,_,c,rfl⟩
theorem aZ {w W:World} {args:List Tm} {Ar:Option Addr} {cs:Nat->List Value} (E:0<args.length->∃ b o,Ar=some ⟨b,o,none⟩/\b<w.heap.size/\∀ i,i<args.length->∀ j,j<7->w.cell? ⟨b,o+i*7+j,none⟩=(cs i)[j]?)
 (A:∀ i (h:i<args.length),TC w args[i] (cs i)) (B:zZ w W) {j:Nat} (z:j<args.length):
 ∃ b o k v s x f t c1 g r n m l c,Ar=some ⟨b,o,none⟩/\cs j=[.int .i64 k,.int .i64 v,.string s,.bool x,.slice f t c1,.slice g r n,.slice m l c]/\b<w.heap.size/\
  W.cell? ⟨b,o+j*7,none⟩=some (.int .i64 k)/\W.cell? ⟨b,o+j*7+1,none⟩=some (.int .i64 v)/\W.cell? ⟨b,o+j*7+2,none⟩=some (.string s)/\W.cell? ⟨b,o+j*7+3,none⟩=some (.bool x)/\
  W.cell? ⟨b,o+j*7+4,none⟩=some (.slice f t c1)/\W.cell? ⟨b,o+j*7+5,none⟩=some (.slice g r n)/\W.cell? ⟨b,o+j*7+6,none⟩=some (.slice m l c):=by
 obtain⟨b,o,e,d,C⟩:=E (by omega);obtain⟨k,v,s,x,f,t,c1,g,r,n,m,l,c,y⟩:=(A j z).form;have h:=fun q (D:q<7)=>(B.cell (p:=⟨b,o+j*7+q,none⟩) d).trans (C j z q D);rw[y]at h;exact⟨b,o,k,v,s,x,f,t,c1,g,r,n,m,l,c,e,y,d,h 0 (by omega),h 1 (by omega),h 2 (by omega),h 3 (by omega),h 4 (by omega),h 5 (by omega),h 6 (by omega)⟩
theorem AA {w:World} {t:Tm} {cs:List Value} (h:TC w t cs):∀ (W:World) (d:Nat),zZ w W->d<=1000000->
 Calls prog 45 #[.agg cs.toArray,.int .i64 (d:Int)] W fun e W'=>e=.returned (.int .i64 ((min t.count (d+1):Nat):Int))/\zZ W W':=by
 induction h with
 |mk k v s n f A B Ar M cs hk hv hs hA hB hn C hm hr ha ih=>
  intro W d hW X;have HR:=zH hr;have HA:=zH ha;have IH:=zH ih;have r:Yd ((Tm.mk k v s n f).count=1+am f):=rfl;unfold maxLen at hm;have x:=zH hW;generalize (Tm.mk k v s n f).count=ct at*;generalize n.neg=ng at*;obtain⟨A1,q1,rfl,_⟩:=hA;obtain⟨B1,q2,rfl,_⟩:=hB;generalize n.num.length=m1 at*;generalize n.den.length=m2 at*;clear hr ha ih hn hk hv hs hW;obtain⟨l,V⟩:∃ l,f.length=l:=⟨_,rfl⟩;rw[V]at C ⊢;have HL:=zH V;clear V;have I:=zH (ae W (.cells #[.int .i64 k,.int .i64 v,.string s,.bool ng,.slice A1 m1 q1,.slice B1 m2 q2,.slice Ar l M] 27));go_enter func45,ntmps45;go_wp2_with fail
  go_loopg [5,11] l (fun gk s5 Z wr=>∃ j c:Nat,gk+j=l/\Z=.int .i64 (j:Int)/\s5=.int .i64 (c:Int)/\c<=d+1/\Yd (c=min (1+am (f.take j)) (d+1))/\Yd (zZ W wr))
  case atStart=>exact⟨0,1,by omega,rfl,rfl,by omega,by unfold Yd;rw[List.take_zero];simp only[am];omega,I.o⟩
  case round=>
   obtain⟨j,c,a1,rfl,rfl,a0,J,q⟩:=hrel;by_cases hj:j<l
   ·have p:j<f.length:=by rw[HL.o];exact hj
    have m:=x.o.trans (q.o.mono x.o.size);obtain⟨b,o,k',v',s',D,A2,n2,c2,B2,m3,d2,Xr,xl,xc,O,U,a2,e0,e1,e2,e3,e4,e5,e6⟩:=aZ HR.o HA.o m p;subst O;by_cases hc:d<c
    ·go_wp2_with fail;go_ret;have N:=cH f j;have y:=J.o;have h3:=r.o;refine⟨?_,q.o.alloc q.o.size _⟩;have e:min ct (d+1)=d+1:=by omega
     rw[e];rfl
    ·have i:((d:Int)-(c:Int))=((d-c:Nat):Int):=by omega
     have g:Yd (∀ W',zZ wr W'->Calls prog 45 #[.agg (zX k' v' s' D A2 n2 c2 B2 m3 d2 Xr xl xc).toArray,.int .i64 ((d:Int)-(c:Int))] W' fun e w'=>e=.returned (.int .i64 ((min (f[j]).count (d-c+1):Nat):Int))/\zZ W' w'):=fun W' F=>by
      have:=IH.o j p W' (d-c) (m.trans (F.mono m.size)) (by omega);rw[U]at this;rw[i];exact this
     clear i;go_wp2_with fail;refine (g.o _ (by exact ae _ _)).mono ?_;rintro e w3 ⟨rfl,F⟩;have G:=zH (q.o.trans (((ae wr (.cells #[.int .i64 k',.int .i64 v',.string s',.bool D,.slice A2 n2 c2,.slice B2 m3 d2,.slice Xr xl xc] 27)).trans (F.mono (ae wr _).size)).mono q.o.size));have N:=bq f p;generalize (f[j]).count=cj at*;have y:=J.o;obtain⟨z,hz,E⟩:∃ z:Nat,(min cj (d-c+1):Nat)=z/\Yd (c+z=min (1+am (f.take (j+1))) (d+1))/\c+z<=d+1:=⟨_,rfl,by show _=_;rw[N];omega,by omega⟩;have Y:=E.2;have E:=E.1;rw[hz];clear hz N y F e0 e1 e2 e3 e4 e5 e6 g;go_wp2_with fail
     go_roundg (gk-1)
     case measure=>omega
     case rel=>exact⟨j+1,c+z,by omega,by go_num,by go_num,Y,E,G.o⟩
   ·obtain rfl:j=l:=by omega
    have y:=J.o;rw[zG (by rw[HL.o];exact zN _),<-r.o]at y;have a3:min (c:Int) ((d:Int)+1)=(c:Int):=by omega
    subst y;go_wp2_with fail;go_ret;exact⟨rfl,q.o⟩
end Go.Proofs.YtlhojoefhannnaaGreat
namespace Go.Proofs.YtlhojoefhannnaaGreat
open Go Go.RowKit
section
variable {P:Program} {ops:Array Oper} {Q:Exit->Act->World->Prop} {md:Region.Mode} {S:World->Prop}
def yf (P:Program) (md:Region.Mode) (ops:Array Oper) (Q:Exit->Act->World->Prop) (Inv:(Nat->Bool)->Act->World->Prop) (i:Nat) (o:Oper):Prop:=
 ∀ (L:Nat->Bool) (a:Act) (w:World),Inv L a w->L i=false->(∀ e∈o.after,Region.binds md e=true->L e.on=true)->
  ∀ K:Act->World->Prop,Shut (∀ a' w',Inv (fun j=>j==i||L j) a' w'->K a' w')->if Region.wanted o (yielded ops a.tmps)=true then Oper.wp P o a w K Q else K (a.put o.dst undef) w
def aO (P:Program) (md:Region.Mode) (ops:Array Oper) (Q:Exit->Act->World->Prop) (Inv:(Nat->Bool)->Act->World->Prop) (rs:List Nat):Prop:=
 ∀ i∈rs,∀ o,ops[i]?=some o->yf P md ops Q Inv i o
theorem aO.nil {Inv:(Nat->Bool)->Act->World->Prop}:aO P md ops Q Inv []:=fun _ h=>by cases h
theorem aO.cons {Inv:(Nat->Bool)->Act->World->Prop} {i:Nat} {o:Oper} {rs:List Nat} (e:ops[i]?=some o) (h:yf P md ops Q Inv i o) (f:aO P md ops Q Inv rs):aO P md ops Q Inv (i::rs):=fun j d g c=>by
 rcases List.mem_cons.1 d with rfl|d
 ·rw[e]at c;cases c;exact h
 ·exact f j d g c
def nV (n:Nat) (listed:Array Bool):Nat:=((List.range n).filter fun i=>!listed.getD i false).length
theorem iA (c:Array Bool) (i j:Nat) (d:i<c.size):(c.setIfInBounds i true).getD j false=(j==i||c.getD j false):=by
 by_cases h:j=i
 ·subst h;simp[d]
 ·simp[Array.getElem?_setIfInBounds_ne (Ne.symm h),h]
theorem nN {p q:Nat->Bool}:∀ {l:List Nat} {i:Nat},i∈l->q i=false->p i=true->(∀ j,q j=true->p j=true)->(l.filter q).length<(l.filter p).length
 |x::l,i,hi,hq,hp,hle=>by
  have hmono:∀ l:List Nat,(l.filter q).length<=(l.filter p).length:=fun l=>by
   induction l with
   |nil=>simp
   |cons y l ih=>
    simp only[List.filter_cons];by_cases h1:q y=true
    ·simp[h1,hle y h1];exact ih
    ·by_cases h2:p y=true
     ·simp[h1,h2];omega
     ·simp[h1,h2];exact ih
  rcases List.mem_cons.1 hi with rfl|hi
  ·have:=hmono l;simp[List.filter_cons,hq,hp];omega
  ·have ih:=nN hi hq hp hle;simp only[List.filter_cons];by_cases h1:q x=true
   ·simp[h1,hle x h1];exact ih
   ·by_cases h2:p x=true
    ·simp[h1,h2];omega
    ·simp[h1,h2];exact ih
def ph (md:Region.Mode) (ops:Array Oper):Bool:=(List.range ops.size).all fun i=>((ops[i]?).map fun o=>o.after.all fun e=>!Region.binds md e||decide (e.on<i)).getD true
theorem oQ {c:Array Bool} (m:ph md ops=true) (o:c.size=ops.size) (n:Region.ready md ops c=[]):∀ i,i<ops.size->c.getD i false=true:=by
 intro i
 induction i using Nat.strongRecOn with
 |_ i p=>
  intro h;rcases hb:c.getD i false with _|_
  ·exfalso;have d:i∈Region.ready md ops c:=by
    refine mem_ready.2 ⟨?_,ops[i],by simp[h],fun e g f=>?_⟩
    ·have:i<c.size:=by omega
     simp[this]at hb ⊢;exact hb
    ·have j:=List.all_eq_true.1 m i (List.mem_range.2 h);simp only[h,zP,Option.map_some,Option.getD_some]at j;have k:=Array.all_eq_true'.1 j e g;have l:e.on<i:=by simpa[f] using k
     exact p e.on l (by omega)
   rw[n]at d;cases d
  ·rfl
theorem uI (rs:List Nat) (Inv:(Nat->Bool)->Act->World->Prop) (J:∀ L a w,Inv L a w->S w)
 (M:ph md ops=true) (g:aO P md ops Q Inv rs) (e:∀ L a w,Inv L a w->(∀ i,i<ops.size->L i=true)->Q .normal a w):
 ∀ (d:Nat) (c:Array Bool) (a:Act) (w:World),c.size=ops.size->(∀ i,i<ops.size->c.getD i false=false->i∈rs)->nV ops.size c<=d->Inv (fun j=>c.getD j false) a w->wpAnyH P md ops Q S d c a w:=by
 intro d
 induction d with
 |zero=>
  intro c a w q p G B;have k:∀ i,i<ops.size->c.getD i false=true:=fun i y=>by
   rcases hb:c.getD i false with _|_
   ·exfalso;have:i∈(List.range ops.size).filter fun i=>!c.getD i false:=List.mem_filter.2 ⟨List.mem_range.2 y,by rw[hb];rfl⟩;have:=List.length_pos_of_mem this;unfold nV at G;omega
   ·rfl
  have E:Region.ready md ops c=[]:=by
   refine List.eq_nil_iff_forall_not_mem.2 fun i y=>?_;obtain⟨r,o,n,_⟩:=mem_ready.1 y;have f:i<ops.size:=by
    rcases Nat.lt_or_ge i ops.size with h|h
    ·exact h
    ·rw[Array.getElem?_eq_none h]at n;cases n
   have C:=k i f;have D:i<c.size:=by omega
   simp[D]at r C;rw[r]at C;cases C
  exact⟨E,e _ a w B k⟩
 |succ d N=>
  intro c a w q p G B;refine⟨fun E=>e _ a w B (oQ M q E),fun i y=>?_⟩;obtain⟨r,o,n,v⟩:=mem_ready.1 y;have f:i<ops.size:=by
   rcases Nat.lt_or_ge i ops.size with h|h
   ·exact h
   ·rw[Array.getElem?_eq_none h]at n;cases n
  have m:c.getD i false=false:=by
   have D:i<c.size:=by omega
   simp[D]at r ⊢;exact r
  have A:=p i f m;have x:(fun j=>(c.setIfInBounds i true).getD j false)=fun j=>j==i||c.getD j false:=funext fun j=>iA c i j (by omega);refine wpOp_step n (fun K hK=>g i A o n (fun j=>c.getD j false) a w B m v K ?_);intro F I t;refine hK F I ⟨J _ _ _ t,N _ F I (by simp[q]) (fun j z l=>p j z ?_) ?_ (by rw[x];exact t)⟩
  ·rw[iA c i j (by omega)]at l;simp only[Bool.or_eq_false_iff]at l;exact l.2
  ·have:nV ops.size (c.setIfInBounds i true)<nV ops.size c:=by
    unfold nV;refine nN (i:=i) (List.mem_range.2 f) ?_ ?_ ?_
    ·rw[iA c i i (by omega)];simp
    ·rw[m];rfl
    ·intro j z;rw[iA c i j (by omega)]at z;simp only[Bool.not_or,Bool.and_eq_true]at z;exact z.2
   omega
theorem fw (rs:List Nat) (Inv:Act->(Nat->Bool)->Act->World->Prop) {d:Nat} {c:Array Bool} {f:Act} {w:World} (m:c.size=ops.size) (l:((List.range ops.size).all fun i=>c.getD i false||rs.contains i)=true) (h:nV ops.size c<=d) (o:ph md ops=true)
 (n:∀ L a w,Inv f L a w->S w) (k:Inv f (fun j=>c.getD j false) f w) (e:aO P md ops Q (Inv f) rs) (g:∀ L a w,Inv f L a w->(∀ i,i<ops.size->L i=true)->Q .normal a w):
 wpAnyH P md ops Q S d c f w:=
 uI rs (Inv f) n o e g d c f w m (fun i k h=>by
  have:=List.all_eq_true.1 l i (List.mem_range.2 k);rw[h]at this;simpa using this) h k
end
end Go.Proofs.YtlhojoefhannnaaGreat
namespace Go.Proofs.YtlhojoefhannnaaGreat
open Go.Proofs.Tryz Go.RowKit NumB
theorem bJ {w w':World} {B n size:Nat} {e:TypeId} {v:Value} {xs:List Value} (p:w.ownsRow B e size v n xs) (m:zZ w w'):w'.ownsRow B e size v n xs:=by
 obtain⟨i,j|⟨g,c,d,rfl,k,f,l⟩⟩:=p
 ·exact⟨i,.inl j⟩
 ·refine⟨i,.inr ⟨g,c,d,rfl,k,?_,l⟩⟩;have o:g<w.heap.size:=by
   rcases Nat.lt_or_ge g w.heap.size with h|h
   ·exact h
   ·rw[Array.getElem?_eq_none h]at f;cases f
  exact (m.block g o).trans f
theorem fi {w:World} {B n size T i:Nat} {e:TypeId} {v u:Value} {xs:List Value} (m:w.ownsRow B e size v n xs) (o:T<B):(w.setCell ⟨T,i,none⟩ u).ownsRow B e size v n xs:=by
 obtain⟨f,h|⟨g,c,d,rfl,j,k,l⟩⟩:=m
 ·exact⟨f,.inl h⟩
 ·exact⟨f,.inr ⟨g,c,d,rfl,j,(Below.heap_setCell w ⟨T,i,none⟩ u g (by show g≠T;omega)).trans k,l⟩⟩
theorem bQ {w:World} {B n size:Nat} {e:TypeId} {v:Value} {xs:List Value} (j:w.ownsRow B e size v n xs):∃ A c,v=.slice A n c:=by
 rcases j.2 with ⟨h,i⟩|⟨g,d,f,h,_⟩
 ·subst i;exact⟨none,0,h⟩
 ·exact⟨_,d,h⟩
def aU (W:World) (T:Nat) (c0 c1 c2 c3 a b c6:Value) (xs ys:List Nat) (L:Nat->Bool) (s8 s9 s12 s13 s14 s15 s16 s17:Value) (W':World):Prop:=
 (ag (fun k=>k=T) W W'/\T<W.heap.size)/\ah W' T 27 #[c0,c1,c2,c3,if L 10 then s9 else a,if L 13 then s13 else b,c6]/\
 (L 2=true->s8=a)/\(L 6=true->s12=b)/\(L 3=true->aW .u32 82 W' W.heap.size s9 xs)/\(L 7=true->aW .u32 82 W' W.heap.size s13 ys)/\
 (L 8=true->s14=.pointer (some ⟨T,3,none⟩))/\(L 9=true->s15=.pointer (some ⟨T,4,none⟩))/\(L 11=true->s16=.pointer (some ⟨T,3,none⟩))/\(L 12=true->s17=.pointer (some ⟨T,5,none⟩))/\
 (L 10=true->L 2=true/\L 3=true)/\(L 13=true->L 6=true/\L 7=true)
section
variable {W W' W2:World} {T:Nat} {c0 c1 c2 c3 a b c6:Value} {xs ys:List Nat} {L:Nat->Bool} {s8 s9 s12 s13 s14 s15 s16 s17:Value}
theorem aU.call3 (h:aU W T c0 c1 c2 c3 a b c6 xs ys L s8 s9 s12 s13 s14 s15 s16 s17 W') (r:L 3=false) (g:zZ W' W2) {v:Value} (t:aW .u32 82 W2 W.heap.size v xs):aU W T c0 c1 c2 c3 a b c6 xs ys (fun j=>j==3||L j) s8 v s12 s13 s14 s15 s16 s17 W2:=by
 obtain⟨i,k,l,m,w,n,o,p,q,d,e,f⟩:=h;have c:L 10=false:=by cases hh:L 10 with
  |false=>rfl
  |true=>have:=(e hh).2;rw[r]at this;cases this
 rw[c]at k;refine⟨⟨i.1.trans (ag.of_below g),i.2⟩,?_,l,m,fun _=>t,fun h=>bJ (n h) g,o,p,q,d,fun h=>absurd (c.symm.trans h) (by simp),f⟩;show ah W2 _ _ #[c0,c1,c2,c3,if (false||L 10) then v else a,if (false||L 13) then s13 else b,c6];rw[Bool.false_or,Bool.false_or,c];exact k.to g
theorem aU.call7 (h:aU W T c0 c1 c2 c3 a b c6 xs ys L s8 s9 s12 s13 s14 s15 s16 s17 W') (r:L 7=false) (g:zZ W' W2) {v:Value} (t:aW .u32 82 W2 W.heap.size v ys):aU W T c0 c1 c2 c3 a b c6 xs ys (fun j=>j==7||L j) s8 s9 s12 v s14 s15 s16 s17 W2:=by
 obtain⟨i,k,l,m,n,w,o,p,q,d,e,f⟩:=h;have c:L 13=false:=by cases hh:L 13 with
  |false=>rfl
  |true=>have:=(f hh).2;rw[r]at this;cases this
 rw[c]at k;refine⟨⟨i.1.trans (ag.of_below g),i.2⟩,?_,l,m,fun h=>bJ (n h) g,fun _=>t,o,p,q,d,e,fun h=>absurd (c.symm.trans h) (by simp)⟩;show ah W2 _ _ #[c0,c1,c2,c3,if (false||L 10) then s9 else a,if (false||L 13) then v else b,c6];rw[Bool.false_or,Bool.false_or,c];exact k.to g
theorem aU.store10 (h:aU W T c0 c1 c2 c3 a b c6 xs ys L s8 s9 s12 s13 s14 s15 s16 s17 W') (f:L 2=true) (g:L 3=true):aU W T c0 c1 c2 c3 a b c6 xs ys (fun j=>j==10||L j) s8 s9 s12 s13 s14 s15 s16 s17 (W'.setCell ⟨T,4,none⟩ s9):=by
 obtain⟨c,k,l,m,n,o,p,q,r,d,i,e⟩:=h;refine⟨⟨c.1.trans (ag.setCell W' ⟨T,4,none⟩ _),c.2⟩,?_,l,m,fun h=>fi (n h) c.2,fun h=>fi (o h) c.2,p,q,r,d,fun _=>⟨f,g⟩,e⟩;have:=k.set_ 4 s9;simpa using this
theorem aU.store13 (h:aU W T c0 c1 c2 c3 a b c6 xs ys L s8 s9 s12 s13 s14 s15 s16 s17 W') (f:L 6=true) (g:L 7=true):aU W T c0 c1 c2 c3 a b c6 xs ys (fun j=>j==13||L j) s8 s9 s12 s13 s14 s15 s16 s17 (W'.setCell ⟨T,5,none⟩ s13):=by
 obtain⟨c,k,l,m,n,o,p,q,r,d,e,i⟩:=h;refine⟨⟨c.1.trans (ag.setCell W' ⟨T,5,none⟩ _),c.2⟩,?_,l,m,fun h=>fi (n h) c.2,fun h=>fi (o h) c.2,p,q,r,d,e,fun _=>⟨f,g⟩⟩;have:=k.set_ 5 s13;simpa using this
theorem aU.load2 (h:aU W T c0 c1 c2 c3 a b c6 xs ys L s8 s9 s12 s13 s14 s15 s16 s17 W'):aU W T c0 c1 c2 c3 a b c6 xs ys (fun j=>j==2||L j) a s9 s12 s13 s14 s15 s16 s17 W':=by
 obtain⟨f,g,p,i,k,l,m,n,o,c,d,e⟩:=h;exact⟨f,g,fun _=>rfl,i,k,l,m,n,o,c,fun h=>⟨rfl,(d h).2⟩,e⟩
theorem aU.load6 (h:aU W T c0 c1 c2 c3 a b c6 xs ys L s8 s9 s12 s13 s14 s15 s16 s17 W'):aU W T c0 c1 c2 c3 a b c6 xs ys (fun j=>j==6||L j) s8 s9 b s13 s14 s15 s16 s17 W':=by
 obtain⟨f,g,i,p,k,l,m,n,o,c,d,e⟩:=h;exact⟨f,g,i,fun _=>rfl,k,l,m,n,o,c,d,fun h=>⟨rfl,(e h).2⟩⟩
theorem aU.cell4 (h:aU W T c0 c1 c2 c3 a b c6 xs ys L s8 s9 s12 s13 s14 s15 s16 s17 W') (i:L 2=false):W'.cell? ⟨T,4,none⟩=some a:=by
 obtain⟨j,e,k,l,m,n,o,p,q,f,c,g⟩:=h;have d:L 10=false:=by cases hh:L 10 with
  |false=>rfl
  |true=>have:=(c hh).1;rw[i]at this;cases this
 rw[d]at e;exact e.cell 4
theorem aU.cell5 (h:aU W T c0 c1 c2 c3 a b c6 xs ys L s8 s9 s12 s13 s14 s15 s16 s17 W') (i:L 6=false):W'.cell? ⟨T,5,none⟩=some b:=by
 obtain⟨j,e,k,l,m,n,o,p,q,f,g,c⟩:=h;have d:L 13=false:=by cases hh:L 13 with
  |false=>rfl
  |true=>have:=(c hh).1;rw[i]at this;cases this
 rw[d]at e;exact e.cell 5
theorem aU.addr8 (h:aU W T c0 c1 c2 c3 a b c6 xs ys L s8 s9 s12 s13 s14 s15 s16 s17 W'):aU W T c0 c1 c2 c3 a b c6 xs ys (fun j=>j==8||L j) s8 s9 s12 s13 (.pointer (some ⟨T,3,none⟩)) s15 s16 s17 W':=by
 obtain⟨f,g,i,k,l,m,p,n,o,c,d,e⟩:=h;exact⟨f,g,i,k,l,m,fun _=>rfl,n,o,c,d,e⟩
theorem aU.addr9 (h:aU W T c0 c1 c2 c3 a b c6 xs ys L s8 s9 s12 s13 s14 s15 s16 s17 W'):aU W T c0 c1 c2 c3 a b c6 xs ys (fun j=>j==9||L j) s8 s9 s12 s13 s14 (.pointer (some ⟨T,4,none⟩)) s16 s17 W':=by
 obtain⟨f,g,i,k,l,m,n,p,o,c,d,e⟩:=h;exact⟨f,g,i,k,l,m,n,fun _=>rfl,o,c,d,e⟩
theorem aU.addr11 (h:aU W T c0 c1 c2 c3 a b c6 xs ys L s8 s9 s12 s13 s14 s15 s16 s17 W'):aU W T c0 c1 c2 c3 a b c6 xs ys (fun j=>j==11||L j) s8 s9 s12 s13 s14 s15 (.pointer (some ⟨T,3,none⟩)) s17 W':=by
 obtain⟨f,g,i,k,l,m,n,o,p,c,d,e⟩:=h;exact⟨f,g,i,k,l,m,n,o,fun _=>rfl,c,d,e⟩
theorem aU.addr12 (h:aU W T c0 c1 c2 c3 a b c6 xs ys L s8 s9 s12 s13 s14 s15 s16 s17 W'):aU W T c0 c1 c2 c3 a b c6 xs ys (fun j=>j==12||L j) s8 s9 s12 s13 s14 s15 s16 (.pointer (some ⟨T,5,none⟩)) W':=by
 obtain⟨e,g,i,k,l,m,n,o,p,f,c,d⟩:=h;exact⟨e,g,i,k,l,m,n,o,p,fun _=>rfl,c,d⟩
theorem aU.done (h:aU W T c0 c1 c2 c3 a b c6 xs ys L s8 s9 s12 s13 s14 s15 s16 s17 W') (c:∀ i,i<14->L i=true):ag (fun k=>k=T) W W'/\ah W' T 27 #[c0,c1,c2,c3,s9,s13,c6]/\aW .u32 82 W' W.heap.size s9 xs/\aW .u32 82 W' W.heap.size s13 ys:=by
 obtain⟨e,d,n,o,l,m,p,q,r,f,g,j⟩:=h;rw[c 10 (by omega),c 13 (by omega)]at d;exact⟨e.1,d,l (c 3 (by omega)),m (c 7 (by omega))⟩
end
def eE (ts:List (Option TypeId)) (o:Obj):Prop:=(∀ c T f,o=Obj.cells c T f->some T∉ts)/\(none∈ts->∀ es c,o≠Obj.map es c)
def aD (ts:List (Option TypeId)) (w w':World):Prop:=∀ (k:Nat) (o:Obj),w.heap[k]?=some o->eE ts o->w'.heap[k]?=some o
theorem aD.refl (ts:List (Option TypeId)) (w:World):aD ts w w:=fun _ _ h _=>h
theorem aD.trans {ts:List (Option TypeId)} {a b c:World} (h:aD ts a b) (k:aD ts b c):aD ts a c:=fun i o e d=>k i o (h i o e d) d
theorem aD.mono {ts ts':List (Option TypeId)} {a b:World} (h:aD ts a b) (j:∀ t∈ts,t∈ts'):aD ts' a b:=fun i o k g=>h i o k ⟨fun c T f e d=>g.1 c T f e (j _ d),fun d=>g.2 (j _ d)⟩
theorem aD.of_below {ts:List (Option TypeId)} {a b:World} (h:zZ a b):aD ts a b:=fun k o c _=>(h.block k (an c)).trans c
theorem aD.drew {ts:List (Option TypeId)} {a b:World} (h:aD ts a b):aD ts a b.drew:=h
theorem aD.setCell {ts:List (Option TypeId)} {a b:World} (h:aD ts a b) {p:Addr} {cs:Array Value} {T:TypeId} {f:Nat×Nat} (l:b.heap[p.block]?=some (Obj.cells cs T f)) (i:some T∈ts) (u:Value):aD ts a (b.setCell p u):=fun k o j g=>by
 have c:=h k o j g;have d:k≠p.block:=fun e=>by subst e;rw[l]at c;exact g.1 cs T f (zI c).symm i
 exact (Below.heap_setCell b p u k d).trans c
theorem aD.grown {ts:List (Option TypeId)} {a b c:World} (h:aD ts a b) {d:Option Nat} (n:b.grownBy c d) (q:∀ g,d=some g->∃ cs T f,b.heap[g]?=some (Obj.cells cs T f)/\some T∈ts):aD ts a c:=fun k o p l=>by
 have i:=h k o p l;refine (n.block k (an i) fun e=>?_).trans i;obtain⟨cs,T,f,j,m⟩:=q k e.symm;rw[i]at j;exact l.1 cs T f (zI j) m
theorem aD.kept {ts:List (Option TypeId)} {a b c:World} {p:Nat->Prop} (h:aD ts a b) (i:ag p b c) (j:∀ k,p k->∀ o,b.heap[k]?=some o->¬eE ts o):aD ts a c:=fun k o f g=>by
 have d:=h k o f g;exact (i.block k (an d) fun e=>j k e o d g).trans d
theorem eE.cells {ts:List (Option TypeId)} {cs:Array Value} {T:TypeId} {f:Nat×Nat} (h:some T∉ts):eE ts (Obj.cells cs T f):=⟨fun c d i e=>by cases e;exact h,fun _ g c e=>Obj.noConfusion e⟩
theorem eE.map {ts:List (Option TypeId)} {d:Array MapEntry} {c:Nat} (h:none∉ts):eE ts (Obj.map d c):=⟨fun c g i e=>Obj.noConfusion e,fun f=>absurd f h⟩
theorem ah.frT {ts:List (Option TypeId)} {w w':World} {g:Nat} {T:TypeId} {cs:Array Value} (d:ah w g T cs) (h:aD ts w w') (c:some T∉ts):ah w' g T cs:=h g _ d (eE.cells c)
theorem ay {ts:List (Option TypeId)} {w w':World} {B n size:Nat} {e:TypeId} {v:Value} {xs:List Value} (o:w.ownsRow B e size v n xs) (h:aD ts w w') (m:some e∉ts):w'.ownsRow B e size v n xs:=by
 obtain⟨f,i|⟨g,c,d,rfl,j,k,l⟩⟩:=o
 ·exact⟨f,.inl i⟩
 ·exact⟨f,.inr ⟨g,c,d,rfl,j,h g _ k (eE.cells m),l⟩⟩
theorem bu.frT {ts:List (Option TypeId)} {w w':World} {p i j n:Nat} (z:bu w p i j n) (h:aD ts w w') (g:none∉ts) (t:some 186∉ts) (x:some 27∉ts):bu w' p i j n:=by
 obtain⟨k,l,⟨A,q,d⟩,⟨B,r,f⟩⟩:=z;refine⟨k,l.frT h t,⟨A,q,d.same (fun o c=>?_) ?_⟩,⟨B,r,f.same (fun o c=>?_) (fun v h=>h)⟩⟩
 ·obtain⟨_,_,e⟩:=d.is;rw[e]at c;cases c;exact h _ _ e (eE.map g)
 ·rintro v ⟨b,o,m,e,y⟩;exact⟨b,o,m,e,h _ _ y (eE.cells x)⟩
 ·obtain⟨_,_,e⟩:=f.is;rw[e]at c;cases c;exact h _ _ e (eE.map g)
theorem bu.frame {ts:List (Option TypeId)} {w w':World} {p g h n:Nat} (m:bu w p g h n) (l:ag (KN g h) w w') (f:none∈ts):aD ts w w':=(aD.refl ts w).kept l fun k e o d c=>by
 obtain⟨_,_,⟨_,_,i⟩,⟨_,_,j⟩⟩:=m;rcases e with rfl|rfl
 ·obtain⟨_,_,e⟩:=i.is;rw[e]at d;exact c.2 f _ _ (zI d).symm
 ·obtain⟨_,_,e⟩:=j.is;rw[e]at d;exact c.2 f _ _ (zI d).symm
def Dq (G nv c:Nat):Value:=if nv=0 then .slice none 0 0 else .slice (some ⟨G,0,none⟩) nv c
theorem iB {G d c:Nat} (h:0<d):Dq G d c=.slice (some ⟨G,0,none⟩) d c:=if_neg (by omega)
structure dL (nv:Nat) (w:World) (B h G c:Nat) (tv:Value) (xs:List Value) (m:Nat) (ys:List Value):Prop where
 blk0:ah w h 95 #[Dq G nv c,tv,.slice none 0 0]
 le:B<=h
 row0:w.ownsRow B 98 9 (Dq G nv c) nv xs
 trail:w.ownsRow B 130 10 tv m ys
theorem dL.blk {w:World} {d B h G c m:Nat} {e:Value} {xs ys:List Value} (f:dL d w B h G c e xs m ys) (g:0<d:=by omega):ah w h 95 #[.slice (some ⟨G,0,none⟩) d c,e,.slice none 0 0]:=by
 have:=f.blk0
 rwa [iB g]at this
theorem dL.row {w:World} {d B h G c m:Nat} {g:Value} {xs ys:List Value} (e:dL d w B h G c g xs m ys) (f:0<d:=by omega):w.ownsRow B 98 9 (.slice (some ⟨G,0,none⟩) d c) d xs:=by
 have:=e.row0
 rwa [iB f]at this
theorem dL.of {w:World} {d B h G c m:Nat} {e:Value} {xs ys:List Value} (g:ah w h 95 #[.slice (some ⟨G,0,none⟩) d c,e,.slice none 0 0]) (i:B<=h) (j:w.ownsRow B 98 9 (.slice (some ⟨G,0,none⟩) d c) d xs) (k:w.ownsRow B 130 10 e m ys) (f:0<d:=by omega):dL d w B h G c e xs m ys:=
 ⟨by rw[iB f];exact g,i,by rw[iB f];exact j,k⟩
theorem dL.frT {ts:List (Option TypeId)} {w w':World} {f B h G c m:Nat} {g:Value} {xs ys:List Value} (d:dL f w B h G c g xs m ys) (e:aD ts w w') (i:some 95∉ts) (j:some 98∉ts) (k:some 130∉ts):dL f w' B h G c g xs m ys:=
 ⟨d.blk0.frT e i,d.le,ay d.row0 e j,ay d.trail e k⟩
theorem dL.below {w w':World} {d B h G c m:Nat} {e:Value} {xs ys:List Value} (g:dL d w B h G c e xs m ys) (f:zZ w w'):dL d w' B h G c e xs m ys:=g.frT (ts:=[]) (aD.of_below f) (by simp) (by simp) (by simp)
theorem dL.drew {w:World} {d B h G c m:Nat} {e:Value} {xs ys:List Value} (f:dL d w B h G c e xs m ys):dL d w.drew B h G c e xs m ys:=f.frT (ts:=[]) (fun _ _ h _=>h) (by simp) (by simp) (by simp)
theorem dL.cell {w:World} {d B h G c m:Nat} {j:Value} {xs ys:List Value} (f:dL d w B h G c j xs m ys) {q:Nat} {u:Value} (g:xs[q]?=some u):w.cell? ⟨G,q,none⟩=some u:=by
 have k:=f.row0.1;have:q<xs.length:=(zK g).1;have i:0<d:=by
  rcases Nat.eq_zero_or_pos d with e|e
  ·subst e;omega
  ·exact e
 exact ((f.row i).cellAt q (by omega)).trans g
abbrev HS:=dL 2
def tT (v:Value):Int:=match v with|.int _ i=>i|_=>0
def sY (es:List MapEntry) (i:Int):Option Value:=(es.find? fun x=>tT x.key==i).map (·.val)
def da (w:World) (b n:Nat) (f:Int->Option Value):Prop:=
 ∃ es clock,w.heap[b]?=some (.map es clock)/\es.size<=n/\(∀ x∈es.toList,∃ i:Int,x.key=.int .i64 i)/\∀ i,sY es.toList i=f i
theorem da.empty {w:World} {b:Nat} {c:Nat} (h:w.heap[b]?=some (.map #[] c)):da w b 0 (fun _=>none):=
 ⟨#[],c,h,zN _,fun x d=>by simp at d,fun i=>rfl⟩
theorem da.is {w:World} {b n:Nat} {f:Int->Option Value} (h:da w b n f):∃ d c,w.heap[b]?=some (.map d c):=by
 obtain⟨d,c,h,_⟩:=h;exact⟨d,c,h⟩
theorem da.keep {w w':World} {b n:Nat} {f:Int->Option Value} (h:da w b n f) (e:w'.heap[b]?=w.heap[b]?):da w' b n f:=by
 obtain⟨d,c,h,r⟩:=h;exact⟨d,c,e.trans h,r⟩
theorem da.mono {w:World} {b n d:Nat} {f:Int->Option Value} (h:da w b n f) (i:n<=d):da w b d f:=by
 obtain⟨e,c,h,g,r⟩:=h;exact⟨e,c,h,zC g i,r⟩
theorem db (e:MapEntry) (c:List MapEntry) (i:Int):sY (e::c) i=if tT e.key=i then some e.val else sY c i:=by
 unfold sY;rw[List.find?_cons];by_cases h:tT e.key=i
 ·simp[h]
 ·have d:(tT e.key==i)=false:=by simpa using h
  simp[h,d]
theorem qY (i:Int):∀ (d:List MapEntry),(∀ x∈d,∃ j:Int,x.key=.int .i64 j)->∀ k,∃ r,Instr.findNow (.int .i64) (.int .i64 i) d k=some r/\(r=none->sY d i=none)/\
 ∀ j v,r=some (j,v)->k<=j/\sY d i=some v/\(∃ e,d[j-k]?=some e/\e.key=.int .i64 i)/\
  ∀ l c,sY (d.modify (j-k) fun e=>{ e with key:=.int .i64 i,val:=l }) c=if c=i then some l else sY d c:=by
 intro d
 induction d with
 |nil=>intro _ k;exact⟨none,rfl,fun _=>rfl,fun j v h=>by cases h⟩
 |cons e d O=>
  intro n k;obtain⟨g,f⟩:=n e (by simp);have A:Instr.sameNow (.int .i64) (.int .i64 i) e.key=some (i==g):=by rw[f];simp[Instr.sameNow]
  have o:tT e.key=g:=by rw[f];rfl
  by_cases h:i=g
  ·subst h;refine⟨some (k,e.val),by unfold Instr.findNow;rw[A];simp,(fun h=>by cases h),fun j v h=>?_⟩;simp only[Option.some.injEq,Prod.mk.injEq]at h;obtain⟨rfl,rfl⟩:=h;refine⟨zN _,by rw[db,if_pos o],⟨e,by simp,f⟩,fun l c=>?_⟩;rw[Nat.sub_self,List.modify_zero_cons,db,db,o];show (if i=c then some l else sY d c)=_;by_cases m:c=i
   ·rw[if_pos m.symm,if_pos m]
   ·rw[if_neg (fun q:i=c=>m q.symm),if_neg m,if_neg (fun q:i=c=>m q.symm)]
  ·have G:(i==g)=false:=by simpa using h
   have p:¬g=i:=fun q=>h q.symm;obtain⟨r,M,w,y⟩:=O (fun x N=>n x (by simp[N])) (k+1);refine⟨r,by unfold Instr.findNow;rw[A,G];exact M,fun J=>by rw[db,o,if_neg p];exact w J,fun j v I=>?_⟩;obtain⟨U,B,⟨F,C,D⟩,E⟩:=y j v I;have z:j-k=(j-(k+1))+1:=by omega
   refine⟨by omega,by rw[db,o,if_neg p];exact B,⟨F,by rw[z];simpa using C,D⟩,fun l c=>?_⟩;rw[z,List.modify_succ_cons,db,db,o,E l c];by_cases t:g=c
   ·subst t;rw[if_pos rfl,if_neg p,if_pos rfl]
   ·rw[if_neg t,if_neg t]
theorem ko (i:Int) {w:World} {c:List MapEntry} (d:∀ x∈c,∃ j:Int,x.key=.int .i64 j):∃ r,(Instr.findKey 3 (.int .i64 i) c).run prog w=.ok r w/\(r=none->sY c i=none)/\
 ∀ j v,r=some (j,v)->sY c i=some v/\(∃ e,c[j]?=some e/\e.key=.int .i64 i)/\
  ∀ g f,sY (c.modify j fun e=>{ e with key:=.int .i64 i,val:=g }) f=if f=i then some g else sY c f:=by
 obtain⟨r,m,k,l⟩:=qY i c d 0;have n:prog.underlying 3=some (.int .i64):=by kernel_rfl
 exact⟨r,by simp[Instr.findKey,Sem.run_bind,run_underlying n,Result.andThen_ok,m,Sem.run_pure],k,fun j v h=>(l j v h).2⟩
theorem nZ {et mt:TypeId} {w:World} (g:prog.underlying mt=some (.map 3 et)) {z:Value} (q:(zeroValue et).run prog w=.ok z w) {b n:Nat} {f:Int->Option Value} (t:da w b n f) (i:Int):
 (Instr.lookup mt (.map (some b)) (.int .i64 i) true).run prog w=.ok (.tuple #[(f i).getD z,.bool (f i).isSome]) w/\(Instr.lookup mt (.map (some b)) (.int .i64 i) false).run prog w=.ok ((f i).getD z) w:=by
 obtain⟨y,k,c,A,l,x⟩:=t;have d:=fun e=>(lK w).check e (.int .i64 i) ⟨i,rfl⟩;obtain⟨r,h,m,o⟩:=ko (w:=w) i l;rw[<-x i];cases r with
 |none=>
  rw[m rfl];exact⟨by simp[Instr.lookup,Sem.run_bind,run_underlying g,Result.andThen_ok,getObj,Sem.run,c,d,h,q],by simp[Instr.lookup,Sem.run_bind,run_underlying g,Result.andThen_ok,getObj,Sem.run,c,d,h,q]⟩
 |some p=>
  obtain⟨j,v⟩:=p;rw[(o j v rfl).1];exact⟨by simp[Instr.lookup,Sem.run_bind,run_underlying g,Result.andThen_ok,getObj,Sem.run,c,d,h],by simp[Instr.lookup,Sem.run_bind,run_underlying g,Result.andThen_ok,getObj,Sem.run,c,d,h]⟩
theorem yi (c:List MapEntry) (x:MapEntry) (d:Int):sY (c++[x]) d=(sY c d).or (if tT x.key=d then some x.val else none):=by
 induction c with
 |nil=>rw[List.nil_append,db];rfl
 |cons e c f=>
  rw[List.cons_append,db,db,f];by_cases h:tT e.key=d
  ·rw[if_pos h,if_pos h];rfl
  ·rw[if_neg h,if_neg h]
theorem jr {et mt:TypeId} {w:World} (J:prog.underlying mt=some (.map 3 et)) {b n:Nat} {f:Int->Option Value} (X:da w b n f) (i:Int) (v:Value):
 ∃ w',(Instr.mapUpdate mt (.map (some b)) (.int .i64 i) v).run prog w=.ok () w'/\da w' b (n+1) (fun j=>if j=i then some v else f j)/\ag (fun k=>k=b) w w':=by
 obtain⟨z,c,y,hn,m,B⟩:=X;have I:=fun e=>(lK w).check e (.int .i64 i) ⟨i,rfl⟩;have A:b<w.heap.size:=(Array.getElem?_eq_some_iff.1 y).1;have d:∀ o:Obj,ag (fun i=>i=b) w (aq w b o):=fun o=>
  ⟨rfl,rfl,rfl,by simp[aq],fun i hi C=>by
   have C:¬b=i:=fun e=>C e.symm;simp[aq,Array.getElem?_setIfInBounds_ne C]⟩
 have t:∀ o:Obj,(aq w b o).heap[b]?=some o:=fun o=>by simp[aq,A]
 obtain⟨r,M,D,E⟩:=ko (w:=w) i m;cases r with
 |none=>
  refine⟨aq w b (.map (z.push ⟨.int .i64 i,v,c⟩) (c+1)),?_,⟨_,_,t _,by simp;omega,?_,fun l=>?_⟩,d _⟩
  ·simp[Instr.mapUpdate,run_underlying J,MapKept.run_getObj_map y,I,M,MapKept.run_setObj_map _ y,Result.andThen,aq]
  ·intro x g;simp only[Array.toList_push,List.mem_append,List.mem_singleton]at g;rcases g with g|rfl
   ·exact m x g
   ·exact⟨i,rfl⟩
  ·rw[Array.toList_push,yi,B l];have G:=D rfl;rw[B i]at G;show (f l).or (if i=l then some v else none)=_;by_cases h:l=i
   ·subst h;simp[G]
   ·have N:¬i=l:=fun q=>h q.symm;simp[h,N]
 |some p=>
  obtain⟨j,Z⟩:=p;obtain⟨h1,⟨e,O,U⟩,V⟩:=E j Z rfl;have Y:z[j]?=some e:=by simpa using O
  refine⟨aq w b (.map (z.modify j fun F=>{ F with key:=.int .i64 i,val:=v }) c),?_,⟨_,_,t _,by simp;omega,?_,fun l=>?_⟩,d _⟩
  ·simp[Instr.mapUpdate,run_underlying J,MapKept.run_getObj_map y,I,M,Y,Instr.keyThatStays,U,Instr.sameBits,MapKept.run_setObj_map _ y,Result.andThen,aq]
  ·intro x g;rcases MapFrom.mem_modify g with g|⟨F,_,rfl⟩
   ·exact m x g
   ·exact⟨i,rfl⟩
  ·rw[Array.toList_modify,V v l,B l]
end Go.Proofs.YtlhojoefhannnaaGreat
