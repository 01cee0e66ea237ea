/- Terms in memory: a tree and its cells; a term that came in, opened. And 6 more texts. -/
import Derived.Deep.Slices
import Derived.WideKeyElems
import Derived.LaidEqlPtr
import Derived.DeepKeys3
import Derived.Carry
import Derived.Lib.FrozenHead2
import Derived.Lib.Builder
import Derived.Lib.AppendStr
import Derived.Lib.UnsafeStr
import Derived.Lib.OthersKept
import Derived.Laws.Externs
import Derived.Test.YtlhojoefhannnaaGreatJt5
set_option linter.unusedVariables false
set_option linter.unusedSimpArgs false
set_option maxRecDepth 100000
set_option maxHeartbeats 51200000
namespace Go.Proofs.YtlhojoefhannnaaGreat
open Go.ChangeShapes Go.WideShapes Go.ChangeAt Go.RowKit Go.Joins Go.Deep NumB
inductive Tm where
 |mk (k v:Int) (s:ByteArray) (n:LN) (args:List Tm)
def an (z:Int):Prop := -9223372036854775808<=z/\z<=9223372036854775807
inductive TC (w:World):Tm->List Value->Prop
 |mk (k v:Int) (s:ByteArray) (n:LN) (args:List Tm) (A B:Value) (Ar:Option Addr) (cap:Nat) (cs:Nat->List Value)
  (hk:an k) (hv:an v) (hs:s.size<=maxLen) (hA:Sl .u32 w A n.num) (hB:Sl .u32 w B n.den) (hn:n.ok)
  (hcap:args.length<=cap) (hm:cap<=maxLen)
  (hr:0<args.length->∃ b o,Ar=some ⟨b,o,none⟩/\b<w.heap.size/\∀ i,i<args.length->∀ j,j<7->w.cell? ⟨b,o+i*7+j,none⟩=(cs i)[j]?)
  (ha:∀ i (h:i<args.length),TC w args[i] (cs i)):
  TC w (.mk k v s n args) [.int .i64 k,.int .i64 v,.string s,.bool n.neg,A,B,.slice Ar args.length cap]
theorem TC.to {w w':World} {t:Tm} {cs:List Value} (h:TC w t cs) (hb:Below w.heap.size w w'):TC w' t cs:=by
 induction h with
 |mk k v s n args A B Ar cap cs hk hv hs hA hB hn hcap hm hr ha ih=>
  refine .mk k v s n args A B Ar cap cs hk hv hs (hA.to hb) (hB.to hb) hn hcap hm (fun h0=>?_) ih;obtain⟨b,o,e,hlt,hc⟩:=hr h0;exact⟨b,o,e,Nat.lt_of_lt_of_le hlt hb.size,fun i hi j hj=>(hb.cell (p:=⟨b,o+i*7+j,none⟩) hlt).trans (hc i hi j hj)⟩
theorem TC.len {w:World} {t:Tm} {cs:List Value} (h:TC w t cs):cs.length=7:=by cases h;rfl
theorem ij {α:Type} [Inhabited α] {n:Nat} {p:Nat->α->Prop} (h:∀ i,i<n->∃ x,p i x):∃ f:Nat->α,∀ i,i<n->p i (f i):=by
 refine⟨fun i=>if hi:i<n then Classical.choose (h i hi) else default,fun i hi=>?_⟩;simp only[dif_pos hi];exact Classical.choose_spec (h i hi)
instance:Inhabited Tm:=⟨.mk 0 0 ⟨#[]⟩ ⟨false,[],[]⟩ []⟩
theorem dW {H:Type} {enc:TypeId×Value->H} {P:Program} {W:World} {sp:Nat->Bool} {hd:Bool} {n:Nat} {t:TypeId} {c:Value} {y:DataW H×List MemPlace} (ht:P.underlying t=some (.int .i64)) (h:DataW.trod enc P W 0 sp hd n t [c]=some y):∃ z,c=.int .i64 z/\an z:=by
 cases n with
 |zero=>cases h
 |succ n=>
  unfold DataW.trod at h;rw[ht]at h;cases c<;>simp at h
  rename_i k z
  obtain⟨⟨rfl,hw⟩,_⟩:=h;exact⟨z,rfl,bounds_i64 hw⟩
theorem kG {H:Type} {enc:TypeId×Value->H} {P:Program} {W:World} {sp:Nat->Bool} {hd:Bool} {n:Nat} {t:TypeId} {c:Value} {y:DataW H×List MemPlace} (ht:P.underlying t=some .string) (h:DataW.trod enc P W 0 sp hd n t [c]=some y):∃ s,c=.string s/\s.size<=maxLen:=by
 cases n with
 |zero=>cases h
 |succ n=>
  unfold DataW.trod at h;rw[ht]at h;cases c<;>simp at h
  rename_i s
  exact⟨s,rfl,h.1⟩
theorem sF {H:Type} {enc:TypeId×Value->H} {W:World}:∀ (n:Nat) (cs:List Value) (y:DataW H×List MemPlace),DataW.trod enc Tryz.prog W 0 (fun _=>true) true n 27 cs=some y->∃ t,TC W t cs:=by
 intro n
 induction n using Nat.strongRecOn with
 |_ n ih=>
  intro cs y h;obtain⟨xs,k,hk,hxy,hl,hxl,hf⟩:=DataW.trod_struct Tryz.underlying27 h;have hl7:cs.length=7:=hl
  match cs,hl7,xs,hxl with
  |[c0,c1,c2,c3,c4,c5,c6],_,[x0,x1,x2,x3,x4],_=>
   have g0:DataW.trod enc Tryz.prog W 0 (fun _=>true) true k 3 (List.take (Tryz.prog.cellsOf 3) (List.drop 0 [c0,c1,c2,c3,c4,c5,c6]))=some x0:=hf 0 _ rfl;have g1:DataW.trod enc Tryz.prog W 0 (fun _=>true) true k 3 (List.take (Tryz.prog.cellsOf 3) (List.drop 1 [c0,c1,c2,c3,c4,c5,c6]))=some x1:=hf 1 _ rfl;have g2:DataW.trod enc Tryz.prog W 0 (fun _=>true) true k 9 (List.take (Tryz.prog.cellsOf 9) (List.drop 2 [c0,c1,c2,c3,c4,c5,c6]))=some x2:=hf 2 _ rfl;have g3:DataW.trod enc Tryz.prog W 0 (fun _=>true) true k 24 (List.take (Tryz.prog.cellsOf 24) (List.drop 3 [c0,c1,c2,c3,c4,c5,c6]))=some x3:=hf 3 _ rfl;have g4:DataW.trod enc Tryz.prog W 0 (fun _=>true) true k 25 (List.take (Tryz.prog.cellsOf 25) (List.drop 6 [c0,c1,c2,c3,c4,c5,c6]))=some x4:=hf 4 _ rfl;have k0:Tryz.prog.cellsOf 3=1:=by kernel_rfl
   have k2:Tryz.prog.cellsOf 9=1:=by kernel_rfl
   have k3:Tryz.prog.cellsOf 24=3:=by kernel_rfl
   have k4:Tryz.prog.cellsOf 25=1:=by kernel_rfl
   have k5:Tryz.prog.cellsOf 27=7:=by kernel_rfl
   simp only[k0,k2,k3,k4,List.drop_zero,List.drop_succ_cons,List.take_succ_cons,List.take_zero]at g0 g1 g2 g3 g4;obtain⟨z0,e0,w0⟩:=dW Tryz.underlying3 g0;obtain⟨z1,e1,w1⟩:=dW Tryz.underlying3 g1;obtain⟨s,e2,w2⟩:=kG Tryz.underlying9 g2;obtain⟨ys,k',hk',hxy',hl',hxl',hf'⟩:=DataW.trod_struct Tryz.underlying24 g3
   match ys,hxl' with
   |[y0,y1,y2],_=>
   have q0:DataW.trod enc Tryz.prog W 0 (fun _=>true) true k' 4 (List.take (Tryz.prog.cellsOf 4) (List.drop 0 [c3,c4,c5]))=some y0:=hf' 0 _ rfl;have q1:DataW.trod enc Tryz.prog W 0 (fun _=>true) true k' 22 (List.take (Tryz.prog.cellsOf 22) (List.drop 1 [c3,c4,c5]))=some y1:=hf' 1 _ rfl;have q2:DataW.trod enc Tryz.prog W 0 (fun _=>true) true k' 22 (List.take (Tryz.prog.cellsOf 22) (List.drop 2 [c3,c4,c5]))=some y2:=hf' 2 _ rfl;have k6:Tryz.prog.cellsOf 4=1:=by kernel_rfl
   have k7:Tryz.prog.cellsOf 22=1:=by kernel_rfl
   simp only[k6,k7,List.drop_zero,List.drop_succ_cons,List.take_succ_cons,List.take_zero]at q0 q1 q2;obtain⟨b,e3,_⟩:=DataW.trod_bool Tryz.underlying4 q0;obtain⟨us,hu,ou⟩:=kF q1;obtain⟨vs,hv,ov⟩:=kF q2;simp only[List.cons.injEq,and_true]at e3;subst e0 e1 e2 e3;rcases DataW.trod_slice Tryz.underlying25 g4 with ⟨h6,_⟩|⟨a,len,cap,elems,rest,n',hn',h6,_,_,hlc,hcm,hel,hx,_,_⟩
   ·simp only[List.cons.injEq,and_true]at h6;subst h6;exact⟨.mk z0 z1 s ⟨b,us,vs⟩ [],.mk z0 z1 s ⟨b,us,vs⟩ [] c4 c5 none 0 (fun _=>[]) w0 w1 w2 hu hv ⟨ou,ov⟩ (Nat.le_refl _) (by unfold maxLen;omega) (fun h=>absurd h (by simp)) (fun i h=>absurd h (by simp))⟩
   ·simp only[List.cons.injEq,and_true]at h6;subst h6;rw[k5]at hx;have hx2:∀ i,i<len->∃ p:Tm×List Value,W.cells? 0 (a.add (i*7)) 7=some p.2/\TC W p.1 p.2:=fun i hi=>by
     have h1:=hx i hi;rw[List.getElem?_eq_getElem (by omega)]at h1;obtain⟨cs',h2,h3⟩:=Option.bind_eq_some_iff.1 h1;obtain⟨t,ht⟩:=ih n' (by omega) cs' _ h3;exact⟨(t,cs'),h2,ht⟩
    obtain⟨f,hf⟩:=ij hx2;have hget:∀ (i:Nat) (h:i<((List.range len).map fun i=>(f i).1).length),((List.range len).map fun i=>(f i).1)[i]=(f i).1:=fun i h=>by simp
    have hlen:((List.range len).map fun i=>(f i).1).length=len:=by simp
    have hmk:=TC.mk (w:=W) z0 z1 s ⟨b,us,vs⟩ ((List.range len).map fun i=>(f i).1) c4 c5 (some a) cap (fun i=>(f i).2) w0 w1 w2 hu hv ⟨ou,ov⟩ (by rw[hlen];exact hlc) hcm (fun h0=>?_) (fun i hi=>?_)
    ·rw[hlen]at hmk;exact⟨_,hmk⟩
    ·rw[hlen]at h0 ⊢;obtain⟨_,_,hc0⟩:=World.cells?_some (hf 0 h0).1;obtain⟨b',off,spot⟩:=a;have hq:=hc0 0 (by omega);rw[List.getElem?_eq_getElem (by rw[(hf 0 h0).2.len];omega)]at hq;have hspot:spot=none:=by simpa[Addr.add] using World.cell?_spot hq
     subst hspot;refine⟨b',off,rfl,?_,fun i hi j hj=>?_⟩
     ·rcases Nat.lt_or_ge b' W.heap.size with h1|h1
      ·exact h1
      ·simp[World.cell?,Addr.add,Array.getElem?_eq_none h1]at hq
     ·obtain⟨_,_,hci⟩:=World.cells?_some (hf i hi).1;have:=hci j hj;rw[add_add]at this;rw[<-this,Go.WideShapes.add_plain,Nat.add_assoc]
    ·rw[hget i hi];exact (hf i (by simpa using hi)).2
end Go.Proofs.YtlhojoefhannnaaGreat
namespace Go.Proofs.YtlhojoefhannnaaGreat
open Go.RowKit NumB
theorem aD {fn:Func} {p:Tmp} {ty:TypeId} (h:fn.results=#[.cell p ty]) (tmps:Array Value) (P:Program) (w:World):
 (results fn tmps).run P w=((asAddr (tmps.getD p undef)).run P w).andThen fun a w₁=>(loadVar ty a).run P w₁:=by
 simp only[results,h];simp[Sem.run_bind,Result.andThen]
theorem am (w:World) (o1 o2:Obj):Below w.heap.size w ((w.alloc o1).alloc o2):=(I w o1).alloc (by simp) o2
theorem ji (w:World):Calls Tryz.prog 32 #[] w fun e w'=>e=.returned (.pointer (some ⟨w.heap.size,0,none⟩))/\w'=w.alloc (.cells #[.slice none 0 0,.slice none 0 0,.slice none 0 0] 95):=by
 go_enter Tryz.func32,Tryz.ntmps32;go_wp2_with fail;go_ret;exact⟨rfl,rfl⟩
theorem qp (w:World):Calls Tryz.prog 21 #[] w fun e w'=>e=.returned (.pointer (some ⟨w.heap.size+1,0,none⟩))/\w'=(w.alloc (.cells #[.slice none 0 0,.slice none 0 0,.slice none 0 0] 95)).alloc (.cells #[.pointer (some ⟨w.heap.size,0,none⟩)] 86):=by
 go_enter Tryz.func21,Tryz.ntmps21;go_wp2_with fail;refine (ji _).mono ?_;rintro e w1 ⟨rfl,rfl⟩;go_wp2_with fail;go_ret;exact⟨rfl,rfl⟩
theorem bX (v:Int) (w:World):Calls Tryz.prog 35 #[.int .i64 v] w fun e w'=>e=.returned (.agg #[.int .i64 1,.int .i64 v,.string ⟨#[]⟩,.bool false,.slice none 0 0,.slice none 0 0,.slice none 0 0])/\Below w.heap.size w w':=by
 go_enter Tryz.func35,Tryz.ntmps35;go_wp2_with fail;refine bodyPost_ret (v:=.agg #[.int .i64 1,.int .i64 v,.string ⟨#[]⟩,.bool false,.slice none 0 0,.slice none 0 0,.slice none 0 0]) (by rw[aD rfl];go_simp) rfl ?_;exact⟨rfl,I w _⟩
theorem eR (s:ByteArray) (Ar:Option Addr) (l cap:Nat) (w:World):Calls Tryz.prog 24 #[.string s,.slice Ar l cap] w fun e w'=>e=.returned (.agg #[.int .i64 5,.int .i64 0,.string s,.bool false,.slice none 0 0,.slice none 0 0,.slice Ar l cap])/\Below w.heap.size w w':=by
 go_enter Tryz.func24,Tryz.ntmps24;go_wp2_with fail;refine bodyPost_ret (v:=.agg #[.int .i64 5,.int .i64 0,.string s,.bool false,.slice none 0 0,.slice none 0 0,.slice Ar l cap]) (by rw[aD rfl];go_simp) rfl ?_;exact⟨rfl,I w _⟩
theorem pw (h:Nat) (A B C:Option Addr) (n c n2 c2 n3 c3:Nat) (w:World) (hk:af w h 95 #[.slice A n c,.slice B n2 c2,.slice C n3 c3]):Calls Tryz.prog 53 #[.pointer (some ⟨h,0,none⟩)] w fun e w'=>e=.returned (.int .i64 (n:Int))/\w'=w:=by
 have c0:=hk.cell 0;simp only[L3]at c0;go_enter Tryz.func53,Tryz.ntmps53;go_wp2_with fail;go_ret;exact⟨rfl,rfl⟩
theorem iJ (g h:Nat) (A B C:Option Addr) (n c n2 c2 n3 c3:Nat) (w:World) (hs:af w g 86 #[.pointer (some ⟨h,0,none⟩)]) (hk:af w h 95 #[.slice A n c,.slice B n2 c2,.slice C n3 c3]):Calls Tryz.prog 26 #[.pointer (some ⟨g,0,none⟩)] w fun e w'=>e=.returned (.int .i64 (n:Int))/\w'=w:=by
 have c0:=hs.cell 0;simp only[L3]at c0;have HL:=zH (pw h A B C n c n2 c2 n3 c3 w hk);clear hk hs;go_enter Tryz.func26,Tryz.ntmps26;go_wp2_with fail;refine HL.out.mono ?_;rintro e w1 ⟨rfl,rfl⟩;go_wp2_with fail;go_ret;exact⟨rfl,rfl⟩
def zc:List Value:=[.bool false,.int .i64 0,.int .i64 0,.string ⟨#[]⟩,.bool false,.slice none 0 0,.slice none 0 0,.slice none 0 0,.slice none 0 0]
def dE (w:World) (B h:Nat) (A:Option Addr) (n c:Nat) (tv:Value) (xs:List Value):Prop:=
 af w h 95 #[.slice A n c,tv,.slice none 0 0]/\B<=h/\w.ownsRow B 98 9 (.slice A n c) n xs
structure ah (p:Nat->Prop) (w w':World):Prop where
 os:w'.os=w.os
 tape:w'.tape=w.tape
 output:w'.output=w.output
 size:w.heap.size<=w'.heap.size
 block:∀ k,k<w.heap.size->¬p k->w'.heap[k]?=w.heap[k]?
theorem ah.refl (p:Nat->Prop) (w:World):ah p w w:=⟨rfl,rfl,rfl,Nat.le_refl _,fun _ _ _=>rfl⟩
theorem ah.trans {p:Nat->Prop} {a b c:World} (h:ah p a b) (k:ah p b c):ah p a c:=
 ⟨k.os.trans h.os,k.tape.trans h.tape,k.output.trans h.output,Nat.le_trans h.size k.size,fun i hi hp=>(k.block i (Nat.lt_of_lt_of_le hi h.size) hp).trans (h.block i hi hp)⟩
theorem ah.mono {p q:Nat->Prop} {a b:World} (h:ah p a b) (hpq:∀ k,p k->q k):ah q a b:=⟨h.os,h.tape,h.output,h.size,fun i hi hq=>h.block i hi fun hp=>hq (hpq i hp)⟩
theorem ah.of_below {p:Nat->Prop} {a b:World} (h:Below a.heap.size a b):ah p a b:=⟨h.os,h.tape,h.output,h.size,fun i hi _=>h.block i hi⟩
theorem ah.below {p:Nat->Prop} {a b:World} {B:Nat} (h:ah p a b) (hB:B<=a.heap.size) (hp:∀ k,p k->B<=k):Below B a b:=⟨h.os,h.tape,h.output,h.size,fun i hi=>h.block i (Nat.lt_of_lt_of_le hi hB) fun q=>by have:=hp i q;omega⟩
theorem ah.alloc (p:Nat->Prop) (w:World) (o:Obj):ah p w (w.alloc o):=ah.of_below (I w o)
theorem ah.drew {p:Nat->Prop} {a b:World} (h:ah p a b):ah p a b.drew:=⟨h.os,h.tape,h.output,h.size,h.block⟩
theorem ah.grown {w w':World} {row:Option Nat} (h:w.grownBy w' row):ah (fun k=>some k=row) w w':=⟨h.os,h.tape,h.output,h.size,fun k hk hp=>h.block k hk hp⟩
theorem ah.setCell (w:World) (a:Addr) (u:Value):ah (fun k=>k=a.block) w (w.setCell a u):=by
 have h:=(Below.refl 0 w).setCell (p:=a) (Nat.zero_le _) u;exact⟨h.os,h.tape,h.output,h.size,fun k _ hp=>Below.heap_setCell w a u k hp⟩
theorem ah.blk {p:Nat->Prop} {w w':World} {g:Nat} {t:TypeId} {cs:Array Value} (h:ah p w w') (hk:af w g t cs) (hp:¬p g):af w' g t cs:=(h.block g hk.lt hp).trans hk
theorem ah.row {p:Nat->Prop} {w w':World} {B n size:Nat} {e:TypeId} {v:Value} {xs:List Value} (h:ah p w w') (hr:w.ownsRow B e size v n xs) (hp:∀ g,v.ownBlock=some g->¬p g):w'.ownsRow B e size v n xs:=by
 obtain⟨h1,h2|⟨g,cap,cur,rfl,h3,h4,h5⟩⟩:=hr
 ·exact⟨h1,.inl h2⟩
 ·refine⟨h1,.inr ⟨g,cap,cur,rfl,h3,?_,h5⟩⟩;have hg:g<w.heap.size:=by
   rcases Nat.lt_or_ge g w.heap.size with h|h
   ·exact h
   ·rw[Array.getElem?_eq_none h]at h4;cases h4
  exact (h.block g hg (hp g rfl)).trans h4
theorem dY {A:Option Addr} {n c k:Nat} (h:(Value.slice A n c).ownBlock=some k):∃ a,A=some a/\k=a.block:=by
 cases A with
 |none=>cases h
 |some a=>exact⟨a,rfl,by simpa[Value.ownBlock] using h.symm⟩
theorem iV {w:World} {B n c m h size:Nat} {A:Option Addr} {t e:TypeId} {cs:Array Value} {xs:List Value} (hk:af w h t cs) (hr:w.ownsRow B e size (.slice A n c) m xs) (hte:t≠e):¬∃ a,A=some a/\h=a.block:=by
 rintro⟨a,rfl,rfl⟩;rcases hr.2 with ⟨h1,_⟩|⟨g,cap,cur,h1,_,h2,_⟩
 ·cases h1
 ·simp only[Value.slice.injEq,Option.some.injEq]at h1;obtain⟨rfl,_,_⟩:=h1;have h3:w.heap[g]?=some (.cells cs t (0,0)):=hk;rw[h2]at h3;simp at h3;exact hte h3.2.symm
theorem tT:(Tryz.prog.info? 98).map (fun i=>(i.zero,i.size,i.bytes))=some (some (.agg zc.toArray),9,144):=by kernel_rfl
theorem kw (B h:Nat) (A:Option Addr) (n c:Nat) (tv:Value) (xs:List Value) (w:World) (hn:n<=1000000) (hS:dE w B h A n c tv xs):
 Calls Tryz.prog 33 #[.pointer (some ⟨h,0,none⟩)] w fun e w'=>∃ A' c',e=.returned (.int .i64 (n:Int))/\dE w' B h A' (n+1) c' tv (xs++zc)/\ah (fun k=>k=h\/∃ a,A=some a/\k=a.block) w w':=by
 obtain⟨hk,hB,hrow⟩:=hS;have c0:=hk.cell 0;simp only[L3]at c0;have HK:=zH hk;have HROW:=zH hrow;have hlt:=hk.lt;have fz:=hk.frozen 0;have HNE:Hid (¬∃ a,A=some a/\h=a.block):=iV hk hrow (by decide);clear hk hrow;obtain⟨i0,hi0,hz0,hz1,hz2⟩:=info_parts tT;have HI:=zH hi0;have HZ0:=zH hz0;have HZ1:=zH hz1;have HZ2:=zH hz2;clear hi0 hz0 hz1 hz2;have HNEW:Hid (∀ j u,zc[j]?=some u->(w.alloc (.cells zc.toArray 98)).cell? ((⟨w.heap.size,0,none⟩:Addr).add j)=some u):=fun j u hj=>by
  have:=(af.new w 98 zc.toArray).cell j;rw[Go.WideShapes.add_plain,Nat.zero_add,this];simpa using hj
 go_enter Tryz.func33,Tryz.ntmps33
 go_wp2_with (at_builtin;refine wpList_append_own_at _ rfl _ _ 91 rfl B 98 i0 (.agg zc.toArray) 9 144 Tryz.underlying91 HI.out HZ0.out HZ1.out HZ2.out rfl (by decide) (.slice A n c) n xs rfl (HROW.out.alloc _) ⟨w.heap.size,0,none⟩ 1 1 zc rfl rfl HNEW.out (by decide) (by unfold maxLen;omega) (by omega) (by simp;omega) ?_;intro v1 w1 hown1 hg1 hz1 hb1;obtain⟨g1,q1,rfl⟩:=Joins.ownsRow_form hown1 (by omega);have HOW:=zH hown1;have HKP:Hid (ah (fun k=>∃ a,A=some a/\k=a.block) w w1):=(ah.alloc _ w _).trans ((ah.grown hg1).mono fun k hk=>dY hk.symm);have HK1:=zH (HKP.out.blk HK.out HNE.out);have fz1:=HK1.out.frozen 0;have d0:=HK1.out.cell 0;simp only[L3]at d0;clear hown1 hg1 hz1 hb1)
 go_ret;have hne1:=iV HK1.out HOW.out (by decide);refine⟨some ⟨g1,0,none⟩,q1,rfl,⟨?_,hB,?_⟩,?_⟩
 ·have:=HK1.out.set_ 0 (.slice (some ⟨g1,0,none⟩) (n+1) q1);simpa using this
 ·refine (ah.setCell w1 ⟨h,0,none⟩ _).row HOW.out fun g hg=>?_;obtain⟨a,ha,hb⟩:=dY hg;intro he;exact hne1 ⟨a,ha,he.symm.trans hb⟩
 ·exact (HKP.out.mono fun k hk=>.inr hk).trans ((ah.setCell w1 ⟨h,0,none⟩ _).mono fun k hk=>.inl hk)
theorem ah.setNew {p:Nat->Prop} {w w':World} (h:ah p w w') {a:Addr} (ha:w.heap.size<=a.block) (u:Value):ah p w (w'.setCell a u):=by
 have k:=ah.setCell w' a u;exact⟨k.os.trans h.os,k.tape.trans h.tape,k.output.trans h.output,Nat.le_trans h.size k.size,fun i hi hp=>(k.block i (Nat.lt_of_lt_of_le hi h.size) (by show ¬i=a.block;omega)).trans (h.block i hi hp)⟩
theorem dE.kept {p:Nat->Prop} {w w':World} {B h n c:Nat} {A:Option Addr} {tv:Value} {xs:List Value} (hS:dE w B h A n c tv xs) (hk:ah p w w') (h1:¬p h) (h2:∀ a,A=some a->¬p a.block):dE w' B h A n c tv xs:=
 ⟨hk.blk hS.1 h1,hS.2.1,hk.row hS.2.2 fun g hg=>by obtain⟨a,ha,hb⟩:=dY hg;rw[hb];exact h2 a ha⟩
theorem dE.row_lt {w:World} {B h n c:Nat} {A:Option Addr} {tv:Value} {xs:List Value} (hS:dE w B h A n c tv xs) {a:Addr} (ha:A=some a):a.block<w.heap.size/\B<=a.block:=by
 subst ha;rcases hS.2.2.2 with ⟨h1,_⟩|⟨g,cap,cur,h1,h2,h3,_⟩
 ·cases h1
 ·simp only[Value.slice.injEq,Option.some.injEq]at h1;obtain⟨rfl,_,_⟩:=h1;refine⟨?_,h2⟩;rcases Nat.lt_or_ge g w.heap.size with h|h
  ·exact h
  ·rw[Array.getElem?_eq_none h]at h3;cases h3
def zt:List Value:=[.int .i64 0,.int .i64 0,.string ⟨#[]⟩,.bool false,.slice none 0 0,.slice none 0 0,.slice none 0 0]
def vt (n:Int):List Value:=[.int .i64 1,.int .i64 n,.string ⟨#[]⟩,.bool false,.slice none 0 0,.slice none 0 0,.slice none 0 0]
theorem tQ (B g h:Nat) (A:Option Addr) (n c:Nat) (tv:Value) (xs:List Value) (w:World) (hn:n<=1000000) (hs:af w g 86 #[.pointer (some ⟨h,0,none⟩)]) (hS:dE w B h A n c tv xs):
 Calls Tryz.prog 22 #[.pointer (some ⟨g,0,none⟩)] w fun e w'=>∃ A' c',e=.returned (.agg (vt n).toArray)/\dE w' B h A' (n+1) c' tv (xs++zc)/\ah (fun k=>k=h\/∃ a,A=some a/\k=a.block) w w':=by
 have c0:=(hs.alloc (.cells zt.toArray 27)).cell 0;simp only[L3]at c0;unfold zt at c0;have hlh:=hS.1.lt;have hS1:dE (w.alloc (.cells zt.toArray 27)) B h A n c tv xs:=hS.kept (ah.alloc (fun _=>False) w _) (fun h=>h) (fun _ _ h=>h);have HN:=zH (kw B h A n c tv xs _ hn hS1);have HRL:Hid (∀ a,A=some a->a.block<w.heap.size):=fun a ha=>(hS.row_lt ha).1;have KR:=zH (af.new w 27 zt.toArray);clear hs hS hS1;go_enter Tryz.func22,Tryz.ntmps22;go_wp2_with fail;refine HN.out.mono ?_;rintro e w1 ⟨A',c',rfl,hS',hk'⟩;have KR:=zH (hk'.blk KR.out (fun hp=>by
  rcases hp with hp|⟨a,ha,hp⟩
  ·omega
  ·have:=HRL.out a ha;omega))
 have HS:=zH hS';have HK:Hid (ah (fun k=>k=h\/∃ a,A=some a/\k=a.block) w w1):=(ah.alloc _ w _).trans hk';clear hS' hk' c0;go_wp2_with fail;refine (bX (n:Int) w1).mono ?_;rintro e w2 ⟨rfl,hb⟩;have KR:=zH (KR.out.to hb);have HS:=zH (HS.out.kept (p:=fun _=>False) (ah.of_below hb) (fun h=>h) (fun _ _ h=>h));have HK:Hid (ah (fun k=>k=h\/∃ a,A=some a/\k=a.block) w w2):=HK.out.trans (ah.of_below hb);clear hb;have kr:=KR.out;unfold zt at kr;obtain⟨r0,r1,r2,r3,r4,r5,r6⟩:=kr.s7;obtain⟨z0,z1,z2,z3,z4,z5,z6⟩:=kr.z7;clear kr;go_wp2_with fail;refine bodyPost_ret (v:=.agg (vt n).toArray) (by rw[aD rfl];unfold vt;go_simp) rfl ?_;have hne:=iV KR.out HS.out.2.2 (by decide);have far:∀ (i:Nat) (u:Value) (W:World),dE W B h A' (n+1) c' tv (xs++zc)->dE (W.setCell ⟨w.heap.size,i,none⟩ u) B h A' (n+1) c' tv (xs++zc):=fun i u W hW=>hW.kept (ah.setCell W _ u) (by show ¬h=w.heap.size;omega) (fun a ha hp=>hne ⟨a,ha,hp.symm⟩);exact⟨A',c',rfl,far _ _ _ (far _ _ _ (far _ _ _ (far _ _ _ (far _ _ _ (far _ _ _ (far _ _ _ HS.out)))))),(((((((HK.out.setNew (Nat.le_refl _) _).setNew (Nat.le_refl _) _).setNew (Nat.le_refl _) _).setNew (Nat.le_refl _) _).setNew (Nat.le_refl _) _).setNew (Nat.le_refl _) _).setNew (Nat.le_refl _) _)⟩
structure ju (kt:TypeId) (KP:Value->Prop) (w:World):Prop where
 check:∀ (e:Bool) a,KP a->(Instr.checkKey e 10000 kt a).run Tryz.prog w=.ok () w
 equal:∀ a b,KP a->KP b->∃ r:Bool,(Op.equal kt a b).run Tryz.prog w=.ok r w/\(r=true->Instr.sameBits 10000 b a=true)
 und:∃ d,Tryz.prog.underlying kt=some d
def ib (KP VP:Value->Prop) (w:World) (b n:Nat):Prop:=
 ∃ es clock,w.heap[b]?=some (.map es clock)/\es.size=n/\∀ x∈es.toList,KP x.key/\VP x.val
theorem qQ {d:TypeDesc} {k:Value}:∀ (es:List MapEntry) (i:Nat) (j:Nat) (v:Value),Instr.findNow d k es i=some (some (j,v))->∃ e,e∈es/\es[j-i]?=some e/\i<=j/\e.val=v/\Instr.sameNow d k e.key=some true:=by
 intro es
 induction es with
 |nil=>intro i j v h;simp[Instr.findNow]at h
 |cons e es ih=>
  intro i j v h;unfold Instr.findNow at h
  split at h
  ·next hs=>
   simp only[Option.some.injEq,Prod.mk.injEq]at h;exact⟨e,by simp,by simp[<-h.1],by omega,h.2,hs⟩
  ·obtain⟨e',h1,h2,h3,h4,h5⟩:=ih _ _ _ h;refine⟨e',by simp[h1],?_,by omega,h4,h5⟩;rw[show j-i=(j-(i+1))+1 by omega];simpa using h2
  ·cases h
theorem ii {a b:ByteArray} (h:(a==b)=true):a=b:=by
 cases a with
 |mk a=>
  cases b with
  |mk b=>
   have h:(a==b)=true:=h;have e:a=b:=by simpa using h
   rw[e]
theorem nH {d:TypeDesc} {a b:Value} (h:Instr.sameNow d a b=some true):Instr.sameBits 10000 b a=true:=by
 unfold Instr.sameNow at h
 split at h
 ·split at h
  ·next hk=>simp at h;subst hk h;simp[Instr.sameBits]
  ·cases h
 ·rename_i a b
  have h:(a==b)=true:=Option.some.inj h;have e:a=b:=ii h;subst e;show (a==a)=true;exact h
 ·rename_i a b
  have h:(a==b)=true:=Option.some.inj h;have e:a=b:=by simpa using h
  subst e;show (a==a)=true;exact h
 ·cases h
theorem j9 {kt:TypeId} {KP VP:Value->Prop} {w:World} (K:ju kt KP w) {k:Value} (hk:KP k):∀ (es:List MapEntry),(∀ x∈es,KP x.key/\VP x.val)->∀ i,∃ r,(Instr.findAsking kt k es i).run Tryz.prog w=.ok r w/\
 ∀ j v,r=some (j,v)->∃ e,e∈es/\es[j-i]?=some e/\i<=j/\e.val=v/\Instr.sameBits 10000 e.key k=true:=by
 intro es
 induction es with
 |nil=>intro _ i;exact⟨none,by simp[Instr.findAsking,Sem.run_pure],by simp⟩
 |cons e es ih=>
  intro hes i;obtain⟨r,hr,hr2⟩:=K.equal k e.key hk (hes e (by simp)).1;cases r with
  |true=>exact⟨some (i,e.val),by simp[Instr.findAsking,Sem.run_bind,hr,Result.andThen_ok,Sem.run_pure],fun j v h=>by
   simp only[Option.some.injEq,Prod.mk.injEq]at h;exact⟨e,by simp,by simp[<-h.1],by omega,h.2,hr2 rfl⟩⟩
  |false=>
   obtain⟨q,hq,hq2⟩:=ih (fun x hx=>hes x (by simp[hx])) (i+1);refine⟨q,by simp[Instr.findAsking,Sem.run_bind,hr,Result.andThen_ok,hq],fun j v h=>?_⟩;obtain⟨e',h1,h2,h3,h4,h5⟩:=hq2 j v h;refine⟨e',by simp[h1],?_,by omega,h4,h5⟩;rw[show j-i=(j-(i+1))+1 by omega];simpa using h2
theorem jf {kt:TypeId} {KP VP:Value->Prop} {w:World} (K:ju kt KP w) {k:Value} (hk:KP k) (es:List MapEntry) (hes:∀ x∈es,KP x.key/\VP x.val):∃ r,(Instr.findKey kt k es).run Tryz.prog w=.ok r w/\
 ∀ j v,r=some (j,v)->∃ e,e∈es/\es[j]?=some e/\e.val=v/\Instr.sameBits 10000 e.key k=true:=by
 obtain⟨d,hd⟩:=K.und;cases hf:Instr.findNow d k es 0 with
 |some r=>
  refine⟨r,by simp[Instr.findKey,Sem.run_bind,run_underlying hd,Result.andThen_ok,hf,Sem.run_pure],fun j v h=>?_⟩;subst h;obtain⟨e,h1,h2,_,h4,h5⟩:=qQ es 0 j v hf;exact⟨e,h1,by simpa using h2,h4,nH h5⟩
 |none=>
  obtain⟨r,hr,h2⟩:=j9 K hk es hes 0;refine⟨r,by simp[Instr.findKey,Sem.run_bind,run_underlying hd,Result.andThen_ok,hf,hr],fun j v h=>?_⟩;obtain⟨e,h1,h2,_,h4,h5⟩:=h2 j v h;exact⟨e,h1,by simpa using h2,h4,h5⟩
theorem jj {kt et mt:TypeId} {KP VP:Value->Prop} {w:World} (K:ju kt KP w) (hm:Tryz.prog.underlying mt=some (.map kt et)) {z:Value} (hz:(zeroValue et).run Tryz.prog w=.ok z w) (hzv:VP z) {k:Value} (hk:KP k) {b n:Nat} (hM:ib KP VP w b n):
 ∃ v ok,VP v/\(Instr.lookup mt (.map (some b)) k true).run Tryz.prog w=.ok (.tuple #[v,.bool ok]) w/\(Instr.lookup mt (.map (some b)) k false).run Tryz.prog w=.ok v w:=by
 obtain⟨es,clock,hb,hn,hes⟩:=hM;obtain⟨r,hr,hr2⟩:=jf K hk es.toList hes;cases r with
 |none=>exact⟨z,false,hzv,by simp[Instr.lookup,Sem.run_bind,run_underlying hm,Result.andThen_ok,getObj,Sem.run,hb,K.check _ k hk,hr,hz],by simp[Instr.lookup,Sem.run_bind,run_underlying hm,Result.andThen_ok,getObj,Sem.run,hb,K.check _ k hk,hr,hz]⟩
 |some p=>
  obtain⟨j,v⟩:=p;obtain⟨e,h1,_,h4,_⟩:=hr2 j v rfl;exact⟨v,true,h4▸(hes e h1).2,by simp[Instr.lookup,Sem.run_bind,run_underlying hm,Result.andThen_ok,getObj,Sem.run,hb,K.check _ k hk,hr],by simp[Instr.lookup,Sem.run_bind,run_underlying hm,Result.andThen_ok,getObj,Sem.run,hb,K.check _ k hk,hr]⟩
def ak (w:World) (b:Nat) (o:Obj):World:={ w with heap:=w.heap.setIfInBounds b o }
theorem gZ {kt et mt:TypeId} {KP VP:Value->Prop} {w:World} (K:ju kt KP w) (hm:Tryz.prog.underlying mt=some (.map kt et)) {k v:Value} (hk:KP k) (hv:VP v) {b n:Nat} (hM:ib KP VP w b n):
 ∃ w' n',(Instr.mapUpdate mt (.map (some b)) k v).run Tryz.prog w=.ok () w'/\ib KP VP w' b n'/\n'<=n+1/\ah (fun i=>i=b) w w':=by
 obtain⟨es,clock,hb,hn,hes⟩:=hM;have hbl:b<w.heap.size:=(Array.getElem?_eq_some_iff.1 hb).1;have hkept:∀ o:Obj,ah (fun i=>i=b) w (ak w b o):=fun o=>
  ⟨rfl,rfl,rfl,by simp[ak],fun i hi hp=>by
   have hp:¬b=i:=fun e=>hp e.symm;simp[ak,Array.getElem?_setIfInBounds_ne hp]⟩
 have hat:∀ o:Obj,(ak w b o).heap[b]?=some o:=fun o=>by simp[ak,hbl]
 obtain⟨r,hr,hr2⟩:=jf K hk es.toList hes;cases r with
 |none=>
  refine⟨ak w b (.map (es.push ⟨k,v,clock⟩) (clock+1)),n+1,?_,⟨_,_,hat _,by simp[hn],?_⟩,Nat.le_refl _,hkept _⟩
  ·simp[Instr.mapUpdate,run_underlying hm,MapKept.run_getObj_map hb,K.check false k hk,hr,MapKept.run_setObj_map _ hb,Result.andThen,ak]
  ·intro x hx;simp only[Array.toList_push,List.mem_append,List.mem_singleton]at hx;rcases hx with hx|rfl
   ·exact hes x hx
   ·exact⟨hk,hv⟩
 |some p=>
  obtain⟨j,v0⟩:=p;obtain⟨e,h1,h2,h4,h5⟩:=hr2 j v0 rfl;have hj:es[j]?=some e:=by simpa using h2
  refine⟨ak w b (.map (es.modify j fun e'=>{ e' with key:=k,val:=v }) clock),n,?_,⟨_,_,hat _,by simp[hn],?_⟩,by omega,hkept _⟩
  ·simp[Instr.mapUpdate,run_underlying hm,MapKept.run_getObj_map hb,K.check false k hk,hr,hj,Instr.keyThatStays,h5,MapKept.run_setObj_map _ hb,Result.andThen,ak]
  ·intro x hx;rcases MapFrom.mem_modify hx with hx|⟨e',_,rfl⟩
   ·exact hes x hx
   ·exact⟨hk,hv⟩
def jO (v:Value):Prop:=∃ i:Int,v=.int .i64 i
def wP (v:Value):Prop:=∃ s:ByteArray,v=.string s
def jP (w:World) (v:Value):Prop:=∃ b o cs t,v=.pointer (some ⟨b,o,none⟩)/\w.heap[b]?=some (.cells cs t (0,0))
theorem km (w:World):ju 9 wP w where
 check:=fun e a ⟨s,h⟩=>by
  subst h;exact MapKept.run_checkKey (d:=.string) (by kernel_rfl) (show MapKept.IsKey .string (.string s) from trivial) e 9999
 equal:=fun a b ⟨s,h⟩ ⟨r,k⟩=>by
  subst h k;refine⟨s==r,?_,fun q=>?_⟩
  ·have hu:Tryz.prog.underlying 9=some .string:=by kernel_rfl
   have h:∀ d:Nat,(Op.equalIn (d+1) 9 (.string s) (.string r)).run Tryz.prog w=.ok (s==r) w:=fun d=>by simp[Op.equalIn,run_underlying hu]
   exact h 9999
  ·have e:=ii q;subst e;exact q
 und:=⟨.string,by kernel_rfl⟩
theorem kj (w:World):ju 3 jO w where
 check:=fun e a ⟨s,h⟩=>by
  subst h;exact MapKept.run_checkKey (d:=.int .i64) (by kernel_rfl) (show MapKept.IsKey (.int .i64) (.int .i64 s) from rfl) e 9999
 equal:=fun a b ⟨s,h⟩ ⟨r,k⟩=>by
  subst h k;refine⟨s==r,?_,fun q=>?_⟩
  ·have hu:Tryz.prog.underlying 3=some (.int .i64):=by kernel_rfl
   have h:∀ d:Nat,(Op.equalIn (d+1) 3 (.int .i64 s) (.int .i64 r)).run Tryz.prog w=.ok (s==r) w:=fun d=>by simp[Op.equalIn,run_underlying hu]
   exact h 9999
  ·have e:s=r:=by simpa using q
   subst e;simp[Instr.sameBits]
 und:=⟨.int .i64,by kernel_rfl⟩
theorem kk (w:World):ju 109 (jP w) w where
 check:=fun e a ⟨b,o,cs,t,h,_⟩=>by
  subst h;have hu:Tryz.prog.underlying 109=some (.pointer 27):=by kernel_rfl
  have h:∀ d:Nat,(Instr.checkKey e (d+1) 109 (.pointer (some ⟨b,o,none⟩))).run Tryz.prog w=.ok () w:=fun d=>by simp[Instr.checkKey,run_underlying hu,Sem.run_pure]
  exact h 9999
 equal:=fun a b ⟨b1,o1,c1,t1,h1,k1⟩ ⟨b2,o2,c2,t2,h2,k2⟩=>by
  subst h1 h2;have hu:Tryz.prog.underlying 109=some (.pointer 27):=by kernel_rfl
  have hj:(Tryz.prog.info? 27).map (fun i=>i.size)=some 7:=by kernel_rfl
  rcases hi:Tryz.prog.info? 27 with _|j
  ·rw[hi]at hj;cases hj
  ·rw[hi]at hj;have hsz:j.size≠0:=by
    have:j.size=7:=Option.some.inj hj;omega
   by_cases hne:(⟨b1,o1,none⟩:Addr)=⟨b2,o2,none⟩
   ·rw[<-hne];have h:∀ d:Nat,(Op.equalIn (d+1) 109 (.pointer (some ⟨b1,o1,none⟩)) (.pointer (some ⟨b1,o1,none⟩))).run Tryz.prog w=.ok true w:=fun d=>by
     simp[Op.equalIn,run_underlying hu,sizeOf,typeInfo,hi,run_sameAddr_same]
    exact⟨true,h 9999,fun _=>by simp[Instr.sameBits]⟩
   ·have h:∀ d:Nat,(Op.equalIn (d+1) 109 (.pointer (some ⟨b1,o1,none⟩)) (.pointer (some ⟨b2,o2,none⟩))).run Tryz.prog w=.ok false w:=fun d=>by
     simp[Op.equalIn,run_underlying hu,sizeOf,typeInfo,hi,hsz,run_sameAddr_other w hne k1 k2]
    exact⟨false,h 9999,fun q=>by cases q⟩
 und:=⟨.pointer 27,by kernel_rfl⟩
def kW (v:Value):Prop:=(∃ i j:Int,v=.agg #[.int .i64 i,.int .i64 j])/\∃ l,keyOf Tryz.prog 134 v=some l
theorem nP:WideMaps.KeyLaw Tryz.prog 134:=
 Go.deep_law (m:=2) (by omega) (by kernel_rfl) (by kernel_rfl) (by kernel_rfl)
theorem ir (w:World):ju 134 kW w where
 check:=fun e a h=>nP.check w e h.2.choose_spec
 equal:=fun a b h k=>by
  obtain⟨⟨i,j,hx⟩,la,hla⟩:=h;obtain⟨_,lb,hlb⟩:=k;obtain⟨r,hr,hiff⟩:=Go.run_equal_deep w (m:=2) (by omega) (k:=134) (by kernel_rfl) (by kernel_rfl) hla hlb;refine⟨r,hr,fun q=>?_⟩;have e:la=lb:=hiff.1 q;have e2:a=b:=nP.inj hla (e▸hlb);subst e2 hx;simp[Instr.sameBits]
 und:=⟨.array 2 3,by kernel_rfl⟩
theorem fC (w:World):Calls Tryz.prog 115 #[] w fun e w'=>e=.returned (.pointer (some ⟨w.heap.size+2,0,none⟩))/\w'=((w.alloc (.map #[] 0)).alloc (.map #[] 0)).alloc (.cells #[.map (some w.heap.size),.map (some (w.heap.size+1))] 186):=by
 have hmm:=@run_makeMap Tryz.prog;go_enter Tryz.func115,Tryz.ntmps115;go_wp2_with fail;go_ret;exact⟨rfl,rfl⟩
theorem lg (h:Nat) (w:World):Calls Tryz.prog 99 #[.pointer (some ⟨h,0,none⟩)] w fun e w'=>e=.returned (.pointer (some ⟨w.heap.size+2,0,none⟩))/\w'=((w.alloc (.map #[] 0)).alloc (.map #[] 0)).alloc (.cells #[.pointer (some ⟨h,0,none⟩),.map (some w.heap.size),.map (some (w.heap.size+1))] 178):=by
 have hmm:=@run_makeMap Tryz.prog;go_enter Tryz.func99,Tryz.ntmps99;go_wp2_with fail;go_ret;exact⟨rfl,rfl⟩
end Go.Proofs.YtlhojoefhannnaaGreat
namespace Go.Proofs.YtlhojoefhannnaaGreat
open Go.RowKit NumB Go.Proofs
theorem iq:(Tryz.prog.info? 189).map (fun i=>i.size)=some 2:=by kernel_rfl
theorem ff:(Tryz.prog.info? 5).map (fun i=>(i.zero,i.size,i.bytes))=some (some (.int .u8 0),1,1):=by kernel_rfl
theorem j5 (b:Nat) (w:World) (h0:w.cell? ⟨b,0,none⟩=some (.pointer (some ⟨b,0,none⟩))):
 Calls Tryz.prog 160 #[.pointer (some ⟨b,0,none⟩)] w fun e w'=>e=.returned (.tuple #[])/\w'=w:=by
 obtain⟨j,hj,_⟩:=Option.map_eq_some_iff.1 iq;go_enter Tryz.func160,Tryz.ntmps160;go_wp2_with fail;rw[Lib.run_neq_ptr_same w _ Tryz.underlying187 hj];go_wp2_with fail;unfold bodyPost;refine⟨rfl,.tuple #[],?_,rfl,rfl⟩;simp[results,Tryz.f160]
theorem jx (b:Nat) (w:World) (h0:w.cell? ⟨b,0,none⟩=some (.pointer none)) (hsh:w.shape? b=some (189,2)) (hfz:w.frozen? ⟨b,0,none⟩=false):
 Calls Tryz.prog 160 #[.pointer (some ⟨b,0,none⟩)] w fun e w'=>e=.returned (.tuple #[])/\w'=w.setCell ⟨b,0,none⟩ (.pointer (some ⟨b,0,none⟩)):=by
 obtain⟨j,hj,hjs⟩:=Option.map_eq_some_iff.1 iq;go_enter Tryz.func160,Tryz.ntmps160;go_wp2_with fail;rw[Lib.run_to_unsafe w ⟨b,0,none⟩ Tryz.underlying187 Tryz.underlying217 hj (by rw[hjs];decide) hsh (Nat.zero_lt_succ 1)];simp only[Result.andThen];rw[Oper.upon_value];go_wp2_with fail;rw[run_callFunc_extern Tryz.func171 (by kernel_rfl) (by kernel_rfl) (by kernel_rfl) (e:=Extern.AbiNoEscape.same) (by kernel_rfl)];rw[Lib.run_noEscape];simp only[Result.andThen];rw[Oper.upon_value];go_wp2_with fail;rw[Lib.run_from_unsafe w ⟨b,0,none⟩ Tryz.underlying217 Tryz.underlying187 hj hsh (by kernel_rfl)];simp only[Result.andThen];rw[Oper.upon_value];go_wp2_with fail;unfold bodyPost;refine⟨rfl,.tuple #[],?_,rfl,rfl⟩;simp[results,Tryz.f160]
theorem gL (B b:Nat) (bs:List Value) (w:World) (h:Lib.IsBuilderF 189 5 B b bs w):
 Calls Tryz.prog 160 #[.pointer (some ⟨b,0,none⟩)] w fun e w'=>e=.returned (.tuple #[])/\Lib.BuilderAtF 189 5 B b (.pointer (some ⟨b,0,none⟩)) bs w'/\Below B w w'/\Lib.OthersKept 5 (some b) w w':=by
 rcases h with h|h
 ·refine (jx b w h.cell0 h.shape h.frozen0).mono ?_;rintro e w' ⟨rfl,rfl⟩;exact⟨rfl,h.used _,(Below.refl B w).setCell (p:=⟨b,0,none⟩) h.1 _,(Lib.OthersKept.refl _ _ w).setCell ⟨b,0,none⟩ rfl _⟩
 ·refine (j5 b w h.cell0).mono ?_;rintro e w' ⟨rfl,rfl⟩;exact⟨rfl,h,Below.refl B _,Lib.OthersKept.refl _ _ _⟩
def BD (w:World) (B b n:Nat):Prop:=∃ l:List UInt8,l.length<=n/\Lib.IsBuilderF 189 5 B b (Lib.byteCells l) w
def BX (w:World) (B b:Nat) (l:List UInt8):Prop:=Lib.IsBuilderF 189 5 B b (Lib.byteCells l) w
theorem BX.bd {w:World} {B b n:Nat} {l:List UInt8} (h:BX w B b l) (hn:l.length<=n):BD w B b n:=⟨l,hn,h⟩
theorem xf {c:Int} (h0:0<=c) (h1:c<=255):∃ u:UInt8,(Value.int .u8 c)=.int .u8 u.toNat:=by
 refine⟨UInt8.ofNat c.toNat,?_⟩
 congr 1
 rw[UInt8.toNat_ofNat_of_lt' (by show c.toNat<256;omega)];omega
theorem eA (B b:Nat) (l:List UInt8) (u8:UInt8) (w:World) (h:BX w B b l) (hlen:l.length<=1000000000) (hBw:B<=w.heap.size):
 Calls Tryz.prog 143 #[.pointer (some ⟨b,0,none⟩),.int .u8 u8.toNat] w fun e w'=>e=.returned .nilIface/\BX w' B b (l++[u8])/\Below B w w'/\Lib.OthersKept 5 (some b) w w':=by
 unfold BX at h;obtain⟨bs,hbs⟩:∃ bs,Lib.byteCells l=bs:=⟨_,rfl⟩;have hbl:bs.length<=1000000000:=by rw[<-hbs,Lib.byteCells_length];exact hlen
 rw[hbs]at h;have HF:Hid (∀ w',Lib.BuilderAtF 189 5 B b (.pointer (some ⟨b,0,none⟩)) (bs++[.int .u8 u8.toNat]) w'->BX w' B b (l++[u8])):=fun w' hw=>.inr (by
  have e:Lib.byteCells (l++[u8])=bs++[.int .u8 u8.toNat]:=by rw[<-hbs];simp[Lib.byteCells]
  rw[e];exact hw)
 clear hlen hbs;obtain⟨i0,hi,hz0,hz1,hz2⟩:=info_parts ff;have HI:=zH hi;have HZ0:=zH hz0;have HZ1:=zH hz1;have HZ2:=zH hz2;clear hi hz0 hz1 hz2;have HCC:=zH (gL B b bs w h);clear h;generalize hv8:(Value.int .u8 u8.toNat)=v8 at*;obtain⟨z8,hz8⟩:∃ z:Int,v8=.int .u8 z:=⟨_,hv8.symm⟩;subst hz8;clear hv8;go_enter Tryz.func143,Tryz.ntmps143;go_wp2_with fail;refine HCC.out.mono ?_;rintro e w1 ⟨rfl,h1,hb1,hk1⟩;obtain⟨hB,v,hbk,hown,hne⟩:=h1;have c0:w1.cell? ⟨b,0,none⟩=some (.pointer (some ⟨b,0,none⟩)):=by rw[Lib.cell_of_heap hbk];rfl
 have c1:w1.cell? ⟨b,1,none⟩=some v:=by rw[Lib.cell_of_heap hbk];rfl
 go_wp2_with (at_builtin;refine wpList_append_ownF _ rfl _ _ 83 rfl B 5 i0 (.int .u8 0) 1 1 Tryz.underlying83 HI.out HZ0.out HZ1.out HZ2.out rfl (by decide) _ _ _ rfl (hown.alloc _) ⟨w1.heap.size,0,none⟩ 1 1 [.int .u8 z8] rfl rfl ?c1 ?c2 ?c3 ?c4 ?c5 ?_)
 case c1=>
  intro j u hj
  match j,hj with
  |0,hj=>simp at hj;subst hj;simp[Addr.add]
 case c2=>intro u hu;simp at hu;subst hu;rfl
 case c3=>unfold maxLen;omega
 case c4=>omega
 case c5=>have:=hb1.size;simp;omega
 intro v' w2 hown' hgrow _;have hlt:b<w1.heap.size:=by
  rcases Nat.lt_or_ge b w1.heap.size with h'|h'
  ·exact h'
  ·simp[Array.getElem?_eq_none h']at hbk
 have hb2:w2.heap[b]?=some (.cells #[.pointer (some ⟨b,0,none⟩),v] 189 (0,0)):=by
  rw[hgrow.block b (by simp;omega) (fun e=>hne e.symm),Lib.alloc_old w1 _ b hlt];exact hbk
 have d0:w2.cell? ⟨b,0,none⟩=some (.pointer (some ⟨b,0,none⟩)):=by rw[Lib.cell_of_heap hb2];rfl
 have d1:w2.cell? ⟨b,1,none⟩=some v:=by rw[Lib.cell_of_heap hb2];rfl
 have f1:w2.frozen? ⟨b,1,none⟩=false:=Lib.frozen_of_heap hb2 1;obtain⟨g,cap,rfl⟩:∃ g cap,v'=.slice (some ⟨g,0,none⟩) (bs.length+1) cap:=by
  rcases hown'.2 with ⟨_,h0⟩|⟨g,cap,cur,fz,hv,_⟩
  ·omega
  ·exact⟨g,cap,hv⟩
 go_wp2_with fail;go_ret;refine⟨rfl,HF.out _ ?_,?_,((hk1.alloc _).grown hgrow (Lib.ownsRowF_kind (hown.alloc _))).setCell ⟨b,1,none⟩ rfl _⟩
 ·exact Lib.BuilderAtF.put (T:=189) (e:=5) hB hb2 (bs':=bs++[.int .u8 z8]) (by simpa using hown') (by decide)
 ·exact ((hb1.alloc (by have:=hb1.size;omega) _).grown hgrow (by have:=hb1.size;simp;omega) (fun k hk=>(hown.lt k hk).1)).setCell (p:=⟨b,1,none⟩) hB _
theorem dj (B b:Nat) (l:List UInt8) (s:ByteArray) (w:World) (h:BX w B b l) (hs:s.size<=1000000000) (hlen:l.length<=1000000000) (hBw:B<=w.heap.size):
 Calls Tryz.prog 145 #[.pointer (some ⟨b,0,none⟩),.string s] w fun e w'=>e=.returned (.tuple #[.int .i64 s.size,.nilIface])/\BX w' B b (l++s.data.toList)/\Below B w w'/\Lib.OthersKept 5 (some b) w w':=by
 unfold BX at h;obtain⟨bs,hbs⟩:∃ bs,Lib.byteCells l=bs:=⟨_,rfl⟩;have hbl:bs.length<=1000000000:=by rw[<-hbs,Lib.byteCells_length];exact hlen
 rw[hbs]at h;have HF:Hid (∀ w',Lib.BuilderAtF 189 5 B b (.pointer (some ⟨b,0,none⟩)) (bs++Lib.strCells s) w'->BX w' B b (l++s.data.toList)):=fun w' hw=>.inr (by
  have e:Lib.byteCells (l++s.data.toList)=bs++Lib.strCells s:=by rw[<-hbs];simp[Lib.byteCells,Lib.strCells]
  rw[e];exact hw)
 clear hlen hbs;obtain⟨i0,hi,hz0,hz1,hz2⟩:=info_parts ff;have HI:=zH hi;have HZ0:=zH hz0;have HZ1:=zH hz1;have HZ2:=zH hz2;clear hi hz0 hz1 hz2;have HCC:=zH (gL B b bs w h);clear h;go_enter Tryz.func145,Tryz.ntmps145;go_wp2_with fail;refine HCC.out.mono ?_;rintro e w1 ⟨rfl,h1,hb1,hk1⟩;obtain⟨hB,v,hbk,hown,hne⟩:=h1;have c0:w1.cell? ⟨b,0,none⟩=some (.pointer (some ⟨b,0,none⟩)):=by rw[Lib.cell_of_heap hbk];rfl
 have c1:w1.cell? ⟨b,1,none⟩=some v:=by rw[Lib.cell_of_heap hbk];rfl
 go_wp2_with (at_builtin;refine Lib.wpList_append_own_stringF _ rfl _ _ 83 9 rfl B 5 i0 Tryz.underlying83 Tryz.underlying9 HI.out HZ0.out HZ1.out HZ2.out _ _ _ rfl hown s rfl ?c3 ?c4 ?c5 ?_)
 case c3=>unfold maxLen;omega
 case c4=>omega
 case c5=>have:=hb1.size;omega
 intro v' w2 hown' hgrow _;have hlt:b<w1.heap.size:=by
  rcases Nat.lt_or_ge b w1.heap.size with h'|h'
  ·exact h'
  ·simp[Array.getElem?_eq_none h']at hbk
 have hb2:w2.heap[b]?=some (.cells #[.pointer (some ⟨b,0,none⟩),v] 189 (0,0)):=by
  rw[hgrow.block b hlt (fun e=>hne e.symm)];exact hbk
 have d0:w2.cell? ⟨b,0,none⟩=some (.pointer (some ⟨b,0,none⟩)):=by rw[Lib.cell_of_heap hb2];rfl
 have d1:w2.cell? ⟨b,1,none⟩=some v:=by rw[Lib.cell_of_heap hb2];rfl
 have f1:w2.frozen? ⟨b,1,none⟩=false:=Lib.frozen_of_heap hb2 1;obtain⟨ao,n',cap,rfl⟩:∃ ao n' cap,v'=.slice ao n' cap:=by
  rcases hown'.2 with ⟨hv,_⟩|⟨g,cap,cur,fz,hv,_⟩
  ·exact⟨_,_,_,hv⟩
  ·exact⟨_,_,_,hv⟩
 go_wp2_with fail
 go_ret2
 refine⟨rfl,HF.out _ ?_,?_,(hk1.grown hgrow (Lib.ownsRowF_kind hown)).setCell ⟨b,1,none⟩ rfl _⟩
 ·exact Lib.BuilderAtF.put (T:=189) (e:=5) hB hb2 (bs':=bs++Lib.strCells s) (by simpa[Lib.strCells_length] using hown') (by decide)
 ·exact (hb1.grown hgrow (by have:=hb1.size;omega) (fun k hk=>(hown.lt k hk).1)).setCell (p:=⟨b,1,none⟩) hB _
theorem eK (B b n:Nat) (c:Int) (w:World) (h:BD w B b n) (h0:0<=c) (h1:c<=255) (hlen:n<=1000000000) (hBw:B<=w.heap.size):
 Calls Tryz.prog 143 #[.pointer (some ⟨b,0,none⟩),.int .u8 c] w fun e w'=>e=.returned .nilIface/\BD w' B b (n+1)/\Below B w w'/\Lib.OthersKept 5 (some b) w w':=by
 obtain⟨l,hl,h⟩:=h;obtain⟨u8,hu8⟩:=xf h0 h1;rw[hu8];refine (eA B b l u8 w h (by omega) hBw).mono ?_;rintro e w' ⟨rfl,h2,h3,h4⟩;exact⟨rfl,h2.bd (by simp;omega),h3,h4⟩
theorem fE (B b n:Nat) (s:ByteArray) (w:World) (h:BD w B b n) (hs:s.size<=1000000000) (hlen:n<=1000000000) (hBw:B<=w.heap.size):
 Calls Tryz.prog 145 #[.pointer (some ⟨b,0,none⟩),.string s] w fun e w'=>e=.returned (.tuple #[.int .i64 s.size,.nilIface])/\BD w' B b (n+s.size)/\Below B w w'/\Lib.OthersKept 5 (some b) w w':=by
 obtain⟨l,hl,h⟩:=h;refine (dj B b l s w h hs (by omega) hBw).mono ?_;rintro e w' ⟨rfl,h2,h3,h4⟩;exact⟨rfl,h2.bd (by rw[List.length_append,Array.length_toList];exact Nat.add_le_add hl (Nat.le_refl _)),h3,h4⟩
theorem lD (B b:Nat) (l:List UInt8) (w:World) (h:BX w B b l) (hBw:B<=w.heap.size):
 Calls Tryz.prog 146 #[.pointer (some ⟨b,0,none⟩)] w fun e w'=>e=.returned (.string ⟨l.toArray⟩)/\BX w' B b l/\Below B w w'/\Lib.OthersKept 5 (some b) w w':=by
 refine (Tryz.Builder_String_any_k B b l w h hBw).mono ?_;rintro e w' ⟨rfl,h1,h2,h3⟩;exact⟨rfl,h1,h2,h3⟩
theorem i7 (B b n:Nat) (w:World) (h:BD w B b n) (hBw:B<=w.heap.size):
 Calls Tryz.prog 146 #[.pointer (some ⟨b,0,none⟩)] w fun e w'=>∃ s,e=.returned (.string s)/\BD w' B b n/\Below B w w'/\Lib.OthersKept 5 (some b) w w':=by
 obtain⟨l,hl,h⟩:=h;refine (Tryz.Builder_String_any_k B b l w h hBw).mono ?_;rintro e w' ⟨rfl,h1,h2,h3⟩;exact⟨_,rfl,⟨l,hl,h1⟩,h2,h3⟩
end Go.Proofs.YtlhojoefhannnaaGreat
namespace Go.Proofs.YtlhojoefhannnaaGreat
open Go.RowKit NumB
theorem BD.kept {p:Nat->Prop} {w w':World} {B b n:Nat} (h:BD w B b n) (hk:ah p w w') (hp:∀ k cs T f,w.heap[k]?=some (.cells cs T f)->¬p k):BD w' B b n:=by
 obtain⟨l,hl,h⟩:=h;have one:∀ q,Lib.BuilderAtF 189 5 B b q (Lib.byteCells l) w->Lib.BuilderAtF 189 5 B b q (Lib.byteCells l) w':=by
  rintro q ⟨hB,v,hb,hown,hne⟩;have hlt:∀ k o,w.heap[k]?=some o->k<w.heap.size:=fun k o h=>by
   rcases Nat.lt_or_ge k w.heap.size with h'|h'
   ·exact h'
   ·rw[Array.getElem?_eq_none h']at h;cases h
  refine⟨hB,v,(hk.block b (hlt _ _ hb) (hp _ _ _ _ hb)).trans hb,?_,hne⟩;obtain⟨h1,h2|⟨g,cap,cur,fz,rfl,h3,h4,h5⟩⟩:=hown
  ·exact⟨h1,.inl h2⟩
  ·exact⟨h1,.inr ⟨g,cap,cur,fz,rfl,h3,(hk.block g (hlt _ _ h4) (hp _ _ _ _ h4)).trans h4,h5⟩⟩
 exact⟨l,hl,h.elim (fun x=>.inl (one _ x)) (fun x=>.inr (one _ x))⟩
theorem BD.below {w w':World} {B b n:Nat} (h:BD w B b n) (hb:Below w.heap.size w w'):BD w' B b n:=h.kept (p:=fun _=>False) (ah.of_below hb) (fun _ _ _ _ _ h=>h)
theorem nw (B b n:Nat) (i:Int) (hi:an i) (w:World) (h:BD w B b n) (hn:n<=100000000) (hBw:B<=w.heap.size):
 Calls Tryz.prog 144 #[.int .i64 i,.pointer (some ⟨b,0,none⟩)] w fun e w'=>e=.returned (.tuple #[])/\BD w' B b (n+5)/\Below B w w'/\Lib.OthersKept 5 (some b) w w':=by
 have HI:=zH hi;have HB:=zH h;clear hi h;go_enter Tryz.func144,Tryz.ntmps144;go_wp2_with fail
 go_loopg [0,3] 5 (fun gk s0 s3 wr=>∃ (j:Nat) (z:Int),gk+j=5/\s3=.int .i64 (j:Int)/\s0=.int .i64 z/\Hid (an z)/\Hid (BD wr B b (n+j))/\Hid (Below B w wr)/\Hid (Lib.OthersKept 5 (some b) w wr))
 case atStart=>exact⟨0,i,by omega,rfl,rfl,HI,HB,Below.refl _ _,Lib.OthersKept.refl _ _ _⟩
 case round=>
  obtain⟨j,z,hgj,rfl,rfl,HZ,HD,HW,HO⟩:=hrel;by_cases hj:j<5
  ·go_wp2_with fail;refine (eK B b (n+j) _ wr HD.out (by omega) (by omega) (by omega) (by have:=HW.out.size;omega)).mono ?_;rintro e w2 ⟨rfl,hd,hb,ho⟩;have HD2:=zH hd;have HW2:=zH (HW.out.trans hb);have HO2:=zH (HO.out.trans ho);clear hd hb ho;go_wp2_with fail
   go_roundg (gk-1)
   case measure=>omega
   case rel=>
    refine⟨j+1,_,by omega,by go_num,rfl,?_,HD2.out,HW2.out,HO2.out⟩;have:=HZ.out;unfold an at*;show _/\_;omega
  ·obtain rfl:j=5:=by omega
   go_wp2_with fail;unfold bodyPost;refine⟨rfl,.tuple #[],?_,rfl,HD.out,HW.out,HO.out⟩;simp[results,Tryz.f144]
end Go.Proofs.YtlhojoefhannnaaGreat
