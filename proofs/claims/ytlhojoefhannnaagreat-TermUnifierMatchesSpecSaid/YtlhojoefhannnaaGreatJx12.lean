/- A term whose memory lies in blocks of a kind: carried where these blocks are as they were. And 10 more texts. -/
import Derived.Maps.RangeWalk
import Derived.Test.YtlhojoefhannnaaGreatJx11
set_option linter.unusedVariables false
set_option linter.unusedSimpArgs false
set_option maxRecDepth 100000
set_option maxHeartbeats 51200000
namespace Go.Proofs.YtlhojoefhannnaaGreat
open Go.Proofs.Tryz Go.RowKit NumB
def iK (p:Nat->Prop) (w:World) (v:Value) (xs:List Nat):Prop:=
 ∃ A c,v=.slice A xs.length c/\xs.length<=c/\c<=maxLen/\(0<xs.length->∃ b o,A=some ⟨b,o,none⟩/\p b/\b<w.heap.size/\∀ i,i<xs.length->w.cell? ⟨b,o+i,none⟩=some (.int .u32 ((xs.getD i 0:Nat):Int)))
theorem iK.sl {p:Nat->Prop} {w:World} {v:Value} {xs:List Nat} (h:iK p w v xs):Sl .u32 w v xs:=by
 obtain⟨A,c,e,d,f,g⟩:=h;exact⟨A,c,e,d,f,rfl,fun a=>by obtain⟨b,o,e,_,i,j⟩:=g a;exact⟨b,o,e,i,j⟩⟩
theorem iK.of_sl {w:World} {v:Value} {xs:List Nat} (h:Sl .u32 w v xs):iK (fun b=>b<w.heap.size) w v xs:=by
 obtain⟨A,c,e,f,g,_,i⟩:=h;exact⟨A,c,e,f,g,fun d=>by obtain⟨b,o,e,a,j⟩:=i d;exact⟨b,o,e,a,a,j⟩⟩
theorem iK.of_own {B T:Nat} {w:World} {v:Value} {xs:List Nat} (h:aW .u32 T w B v xs):iK (fun b=>B<=b) w v xs:=by
 obtain⟨A,c,e,f,g,_,i⟩:=h.sl;refine⟨A,c,e,f,g,fun d=>?_⟩;obtain⟨b,o,a,j,k⟩:=i d;subst e a;exact⟨b,o,rfl,(Go.World.ownsRow.lt h b rfl).1,j,k⟩
theorem iK.to {p:Nat->Prop} {w w':World} {v:Value} {xs:List Nat} (h:iK p w v xs) (t:w.heap.size<=w'.heap.size) (m:∀ b,p b->b<w.heap.size->w'.heap[b]?=w.heap[b]?):iK p w' v xs:=by
 obtain⟨A,c,e,j,k,l⟩:=h;exact⟨A,c,e,j,k,fun g=>by
  obtain⟨b,o,e,f,d,n⟩:=l g;exact⟨b,o,e,f,zD d t,fun i q=>(World.cell?_of_block (a:=⟨b,o+i,none⟩) (m b f d)).trans (n i q)⟩⟩
theorem iK.mono {p q:Nat->Prop} {w:World} {v:Value} {xs:List Nat} (h:iK p w v xs) (d:∀ b,p b->b<w.heap.size->q b):iK q w v xs:=by
 obtain⟨A,c,e,g,i,j⟩:=h;exact⟨A,c,e,g,i,fun f=>by
  obtain⟨b,o,e,l,a,k⟩:=j f;exact⟨b,o,e,d b l a,a,k⟩⟩
theorem iK.nil_ (p:Nat->Prop) (w:World):iK p w (.slice none 0 0) []:=⟨none,0,rfl,zN _,by unfold maxLen;omega,fun h=>absurd h (by simp)⟩
inductive bF (p:Nat->Prop) (w:World):Tm->List Value->Prop
 |mk (k v:Int) (s:ByteArray) (n:LN) (args:List Tm) (A B:Value) (Ar:Option Addr) (cap:Nat) (cs:Nat->List Value)
  (hk:aG k) (hv:aG v) (hs:s.size<=maxLen) (hA:iK p w A n.num) (hB:iK p w B n.den) (hn:n.ok)
  (hcap:args.length<=cap) (hm:cap<=maxLen)
  (hr:0<args.length->∃ b o,Ar=some ⟨b,o,none⟩/\p b/\b<w.heap.size/\∀ i,i<args.length->∀ j,j<7->w.cell? ⟨b,o+i*7+j,none⟩=(cs i)[j]?)
  (ha:∀ i (h:i<args.length),bF p w args[i] (cs i)):
  bF p w (.mk k v s n args) [.int .i64 k,.int .i64 v,.string s,.bool n.neg,A,B,.slice Ar args.length cap]
theorem bF.tc {p:Nat->Prop} {w:World} {t:Tm} {cs:List Value} (h:bF p w t cs):TC w t cs:=by
 induction h with
 |mk k v s n a A C g d cs q E D j l z c y B G F=>
  exact .mk k v s n a A C g d cs q E D j.sl l.sl z c y (fun i=>by obtain⟨b,o,e,_,f,m⟩:=B i;exact⟨b,o,e,f,m⟩) F
theorem bF.of_tc {w:World} {t:Tm} {cs:List Value} (h:TC w t cs):bF (fun b=>b<w.heap.size) w t cs:=by
 induction h with
 |mk k v s n a A C g f cs p D B j l y c q z F E=>
  exact .mk k v s n a A C g f cs p D B (.of_sl j) (.of_sl l) y c q (fun i=>by obtain⟨b,o,e,d,m⟩:=z i;exact⟨b,o,e,d,d,m⟩) E
theorem bF.of_tcf {B:Nat} {w:World} {t:Tm} {cs:List Value} (h:gP B w t cs):bF (fun b=>B<=b) w t cs:=by
 obtain⟨f,h⟩:=h
 induction h with
 |mk k v s n a A C i d cs q F E l o z c y D I G=>
  exact .mk k v s n a A C i d cs q F E (.of_own l) (.of_own o) z c y (fun j=>by obtain⟨b,e,m,g,_,_,p⟩:=D j;exact⟨b,0,e,m,g,p⟩) G
theorem bF.to {p:Nat->Prop} {w w':World} {t:Tm} {cs:List Value} (h:bF p w t cs) (m:w.heap.size<=w'.heap.size) (l:∀ b,p b->b<w.heap.size->w'.heap[b]?=w.heap[b]?):bF p w' t cs:=by
 induction h with
 |mk k v s n c A C z g cs J Q q D E N d M P T S=>
  refine .mk k v s n c A C z g cs J Q q (D.to m l) (E.to m l) N d M (fun B=>?_) S;obtain⟨b,o,e,y,f,F⟩:=P B;exact⟨b,o,e,y,zD f m,fun i G j I=>(World.cell?_of_block (a:=⟨b,o+i*7+j,none⟩) (l b y f)).trans (F i G j I)⟩
theorem bF.mono {p q:Nat->Prop} {w:World} {t:Tm} {cs:List Value} (h:bF p w t cs) (a:∀ b,p b->b<w.heap.size->q b):bF q w t cs:=by
 induction h with
 |mk k v s n c A C j g cs B I i m y E d D G M J=>
  refine .mk k v s n c A C j g cs B I i (m.mono a) (y.mono a) E d D (fun l=>?_) J;obtain⟨b,o,e,F,f,z⟩:=G l;exact⟨b,o,e,a b F f,f,z⟩
theorem bF.onto {p:Nat->Prop} {w w':World} {t:Tm} {cs:List Value} (h:bF p w t cs) (c:zZ w w'):bF p w' t cs:=h.to c.size fun b _ a=>c.block b a
theorem bF.drew {p:Nat->Prop} {w:World} {t:Tm} {cs:List Value} (h:bF p w t cs):bF p w.drew t cs:=h.to zA fun _ _ _=>rfl
theorem bF.store {O:Nat} {w:World} {t:Tm} {cs:List Value} (h:bF (fun b=>b≠O) w t cs) (i:Nat) (u:Value):bF (fun b=>b≠O) (w.setCell ⟨O,i,none⟩ u) t cs:=
 h.to (by simp[World.setCell]) fun b a _=>Below.heap_setCell w ⟨O,i,none⟩ u b a
theorem bF.form {p:Nat->Prop} {w:World} {t:Tm} {cs:List Value} (h:bF p w t cs):∃ k v s j b i e c g f d l a,cs=[.int .i64 k,.int .i64 v,.string s,.bool j,.slice b i e,.slice c g f,.slice d l a]:=h.tc.form
theorem bF.cell {p:Nat->Prop} {W:World} {b:Nat} {x r:Tm} {e z f A:Int} {v y:ByteArray} {g k:Bool} {l m n o q t:Value}
 (h:ah W b 27 #[.int .i64 e,.int .i64 z,.string v,.bool g,l,m,n,.int .i64 f,.int .i64 A,.string y,.bool k,o,q,t]) (B:p b)
 (D:bF p W x [.int .i64 e,.int .i64 z,.string v,.bool g,l,m,n]) (C:bF p W r [.int .i64 f,.int .i64 A,.string y,.bool k,o,q,t]):
 bF p W (.cell x r) (uQ b):=
 .mk 5 0 ⟨#[46]⟩ ⟨false,[],[]⟩ [x,r] (.slice none 0 0) (.slice none 0 0) (some ⟨b,0,none⟩) 2 (fun i=>if i=0 then [.int .i64 e,.int .i64 z,.string v,.bool g,l,m,n] else [.int .i64 f,.int .i64 A,.string y,.bool k,o,q,t]) ⟨by decide,by decide⟩ ⟨by decide,by decide⟩ (by decide) (.nil_ p W) (.nil_ p W) ⟨Ok.nil,Ok.nil⟩ zA (by decide)
  (fun _=>⟨b,0,rfl,B,h.lt,fun i a j E=>by
   have a:i<2:=a;rw[h.cell];have c:i=0\/i=1:=by omega
   have d:j=0\/j=1\/j=2\/j=3\/j=4\/j=5\/j=6:=by omega
   rcases c with rfl|rfl<;>rcases d with rfl|rfl|rfl|rfl|rfl|rfl|rfl<;>rfl⟩)
  (fun i a=>by
   have a:i<2:=a;have:i=0\/i=1:=by omega
   rcases this with rfl|rfl
   ·exact D
   ·exact C)
end Go.Proofs.YtlhojoefhannnaaGreat
namespace Go.Proofs.YtlhojoefhannnaaGreat
open Go.Proofs.Tryz Go.RowKit NumB
theorem bF.kept {R O:Nat} {w w':World} {t:Tm} {cs:List Value} (h:bF (fun b=>R<b/\b≠O) w t cs) (c:ag (fun k=>k=O) w w'):bF (fun b=>R<b/\b≠O) w' t cs:=
 h.to c.size fun b d a=>c.block b a d.2
def sU (w:World) (R O:Nat) (x r:Tm) (o0 o1 o2 o3 o4 o5 o6:Value) (L:Nat->Bool) (s20 s21 s22 s23:Value) (W:World):Prop:=
 ag (fun k=>k=O) w W/\bF (fun b=>R<b/\b≠O) W r [o0,o1,o2,o3,o4,o5,o6]/\(L 8=false->ah W O 27 #[o0,o1,o2,o3,o4,o5,o6])/\
 (L 4=true->∃ k v s ng A1 n1 c1 B1 m1 d1 Xr l cap,s20=.agg #[.int .i64 k,.int .i64 v,.string s,.bool ng,.slice A1 n1 c1,.slice B1 m1 d1,.slice Xr l cap]/\bF (fun b=>R<b/\b≠O) W x [.int .i64 k,.int .i64 v,.string s,.bool ng,.slice A1 n1 c1,.slice B1 m1 d1,.slice Xr l cap])/\
 (L 5=true->s21=.agg #[o0,o1,o2,o3,o4,o5,o6])/\
 (L 6=true->L 5=true/\∃ g,s22=.slice (some ⟨g,0,none⟩) 2 2/\bF (fun b=>R<b/\b≠O) W (.cell x r) (uQ g))/\
 (L 7=true->L 6=true/\s23=.agg #[.int .i64 5,.int .i64 0,.string ⟨#[46]⟩,.bool false,.slice none 0 0,.slice none 0 0,s22])/\
 (L 8=true->L 7=true/\ah W O 27 #[.int .i64 5,.int .i64 0,.string ⟨#[46]⟩,.bool false,.slice none 0 0,.slice none 0 0,s22])
section
variable {w W W2:World} {R O:Nat} {x r:Tm} {o0 o1 o2 o3 o4 o5 o6:Value} {L:Nat->Bool} {s20 s21 s22 s23:Value}
theorem sU.init (a:bF (fun b=>R<b/\b≠O) w r [o0,o1,o2,o3,o4,o5,o6]) (c:ah w O 27 #[o0,o1,o2,o3,o4,o5,o6]) (d:∀ i,4<=i->L i=false):sU w R O x r o0 o1 o2 o3 o4 o5 o6 L s20 s21 s22 s23 w:=by
 refine⟨ag.refl _ _,a,fun _=>c,?_,?_,?_,?_,?_⟩<;>(intro h;exact absurd ((d _ (by omega)).symm.trans h) (by simp))
theorem sU.load5 (h:sU w R O x r o0 o1 o2 o3 o4 o5 o6 L s20 s21 s22 s23 W):
 sU w R O x r o0 o1 o2 o3 o4 o5 o6 (fun j=>j==5||L j) s20 (.agg #[o0,o1,o2,o3,o4,o5,o6]) s22 s23 W:=by
 obtain⟨a,b,c,d,i,e,f,g⟩:=h;exact⟨a,b,c,d,fun _=>rfl,fun h=>⟨rfl,(e h).2⟩,f,g⟩
theorem sU.done (h:sU w R O x r o0 o1 o2 o3 o4 o5 o6 L s20 s21 s22 s23 W) (a:∀ i,i<9->L i=true):
 ag (fun k=>k=O) w W/\∃ g,s22=.slice (some ⟨g,0,none⟩) 2 2/\bF (fun b=>R<b/\b≠O) W (.cell x r) (uQ g)/\ah W O 27 #[.int .i64 5,.int .i64 0,.string ⟨#[46]⟩,.bool false,.slice none 0 0,.slice none 0 0,s22]:=by
 obtain⟨c,l,m,n,o,d,p,f⟩:=h;obtain⟨_,g,e,j⟩:=d (a 6 (by omega));exact⟨c,g,e,j,(f (a 8 (by omega))).2⟩
end
theorem ag.undrew {p:Nat->Prop} {a b:World} (h:ag p a.drew b):ag p a b:=⟨h.os,h.tape,h.output,h.size,h.block⟩
theorem oT (w:World) (o:Obj) {T:TypeId} (cs:Array Value):ah ((w.alloc o).alloc (.cells cs T)) (w.heap.size+1) T cs:=by
 have h:=ah.new (w.alloc o) T cs
 rwa [show (w.alloc o).heap.size=w.heap.size+1 by simp]at h
def Tm.rest:Tm->Prop
 |.mk k _ s _ args=>¬(k=5/\s.toList=[46]/\args.length=2)
theorem BL.to {w w':World} {v:Value} {ts:List (Int×Tm)} (h:BL w v ts) (f:zZ w w'):BL w' v ts:=by
 obtain⟨g,d,k,e,n,q,t,y⟩:=h;refine⟨g,d,k,e,n,q,fun m=>?_,fun i a=>?_⟩
 ·obtain⟨b,o,e,c,z⟩:=t m;exact⟨b,o,e,zD c f.size,fun i a j A=>(f.cell (p:=⟨b,o+i*8+j,none⟩) c).trans (z i a j A)⟩
 ·obtain⟨l,e,a,B⟩:=y i a;exact⟨l,e,a,B.to f⟩
theorem bF.zero (p:Nat->Prop) (w:World):bF p w .zero [.int .i64 0,.int .i64 0,.string ⟨#[]⟩,.bool false,.slice none 0 0,.slice none 0 0,.slice none 0 0]:=
 .mk 0 0 ⟨#[]⟩ ⟨false,[],[]⟩ [] (.slice none 0 0) (.slice none 0 0) none 0 (fun _=>[]) ⟨by decide,by decide⟩ ⟨by decide,by decide⟩ (by decide) (.nil_ p _) (.nil_ p _) ⟨Ok.nil,Ok.nil⟩ zA (by decide) (fun h=>by simp at h) (fun i h=>by simp at h)
theorem CR {w:World} {a:List (Int×Tm)} {c:Value} (h:BL w c a) (g:fM a) {v:Int} {x:Tm} (k:fnd a v=some x):x.sm:=by
 obtain⟨j,b,rfl⟩:=uX k;obtain⟨l,d,m,e,o,p,q,f⟩:=h;obtain⟨n,e,t,i⟩:=f j b;exact i.sm (aQ (g j b).2).2
theorem nr {w:World} {t:Tm} {cs:List Value} (h:TC w t cs) {a:List (Int×Tm)} {bv:Value} (G:BL w bv a) (hn:a.length*120<=140737488351232) (W:World) (hW:zZ w W):
 Calls prog 5 #[.agg cs.toArray,bv] W fun e i=>∃ cx tx er,e=.returned (.tuple #[.agg cx.toArray,.int .i64 er])/\bF (fun b=>b<w.heap.size\/W.heap.size<=b) i tx cx/\cS t a tx er/\zZ W i:=by
 have f7:=zH G;have g9:=zH h;have HC:Yd (∀ i,zZ w i->Calls prog 12 #[.agg cs.toArray] i fun e w'=>e=.returned (.int .i64 t.check)/\zZ i w'):=fun i G=>fp h i G;have HS:t.check=0->Yd (∀ i,zZ w i->Calls prog 17 #[.agg cs.toArray] i fun e w'=>e=.returned (.int .i64 (t.count:Int))/\zZ i w'):=fun hc i G=>oK h (by have:=(aQ hc).1;omega) i G;have e3:Yd ((a.length:Int)*120<=140737488351232):=by show _<=_;omega
 have a7:t.check=0->fM a->Yd (∀ (bc:Nat) (B:World),zZ w B->B.cell? ⟨bc,0,none⟩=some bv->bc<B.heap.size->Calls prog 18 #[.agg cs.toArray,.func (.func 13) #[] #[zY bc]] B fun e i=>e=.returned (.int .i64 (t.grow (fnd a):Int))/\zZ B i):=fun hc hg bc B m c9 a4=>
  ww (w:=B) 13 bc (enters_of func13 (by kernel_rfl) rfl) (fnd a) (fun v x hx=>(hg.fnd hx).2) (fun v W2 c6=>lh (G.to m) e3.o hg.incr bc c9 a4 v W2 c6) (h.to m) (aQ hc).1 B zB
 have b0:t.check=0->fM a->Yd (∀ (bc:Nat) (B:World),zZ w B->B.cell? ⟨bc,0,none⟩=some bv->bc<B.heap.size->Calls prog 19 #[.agg cs.toArray,.func (.func 13) #[] #[zY bc]] B fun e i=>∃ e9,e=.returned (.agg e9.toArray)/\gP (B.heap.size+1) i (t.repl (fnd a)) e9/\zZ B i):=fun hc hg bc B m c9 a4=>
  i8 (w:=B) 13 bc (enters_of func13 (by kernel_rfl) rfl) (fnd a) (fun v x hx=>CR G hg hx) (fun v W2 c6=>lh (G.to m) e3.o hg.incr bc c9 a4 v W2 c6) (h.to m) (h.sm (aQ hc).2) B zB
 have b5:t.check=0->(t.repl (fnd a)).count=t.count+t.grow (fnd a)/\t.count<=10000:=fun hc=>⟨t.count_repl _ (t.bare_of (aQ hc).2),(aQ hc).1⟩;have b6:t.check=0->fM a->t.grow (fnd a)<=100000000:=fun hc hg=>by
  have:=t.grow_le (f:=fnd a) (fun v x hx=>(hg.fnd hx).2);have:=(aQ hc).1;omega
 have c2:Yd (t.check≠0->cS t a .zero t.check):=fun h=>.bad h;have a9:Yd (t.check=0->¬fM a->cS t a .zero 2):=fun h h2=>.form h h2;have E:Yd (t.check=0->fM a->10000<(t.repl (fnd a)).count->cS t a .zero 3):=fun h h2 h3=>.size h h2 h3;have F:Yd (t.check=0->fM a->(t.repl (fnd a)).count<=10000->cS t a (t.repl (fnd a)) 0):=fun h h2 h3=>.ok h h2 h3;obtain⟨k,Z,s,Y,M,X,S,N,V,U,Q,xl,xc,g5⟩:=h.form;subst g5;obtain⟨Ab,cb,h0,rfl,g4,hm,f2,f0⟩:=G;have HR:=zH f2;have HA:=zH f0;have g:=zH hW;unfold maxLen at hm;obtain⟨n,hl⟩:∃ n,a.length=n:=⟨_,rfl⟩;rw[hl]at g4 hn a7 b0 f7 ⊢;have HL:=zH hl;clear hl f2 f0 hW h;generalize t.check=tk at*;generalize t.repl (fnd a)=tr at*;generalize t.grow (fnd a)=tg at*;generalize t.count=tc at*;have a5:Yd (zZ W (((W.alloc (.cells #[.int .i64 k,.int .i64 Z,.string s,.bool Y,.slice M X S,.slice N V U,.slice Q xl xc] 27)).alloc (.cells #[.slice Ab n cb] 28)).alloc (.cells #[.int .i64 0,.int .i64 0,.string ⟨#[]⟩,.bool false,.slice none 0 0,.slice none 0 0,.slice none 0 0] 27))):=(ax W _ _).alloc (by simp;omega) _;have a1:Yd (ah (((W.alloc (.cells #[.int .i64 k,.int .i64 Z,.string s,.bool Y,.slice M X S,.slice N V U,.slice Q xl xc] 27)).alloc (.cells #[.slice Ab n cb] 28)).alloc (.cells #[.int .i64 0,.int .i64 0,.string ⟨#[]⟩,.bool false,.slice none 0 0,.slice none 0 0,.slice none 0 0] 27)) W.heap.size 27 (zX k Z s Y M X S N V U Q xl xc).toArray):=((ah.new W _ _).alloc _).alloc _;have d7:Yd (ah (((W.alloc (.cells #[.int .i64 k,.int .i64 Z,.string s,.bool Y,.slice M X S,.slice N V U,.slice Q xl xc] 27)).alloc (.cells #[.slice Ab n cb] 28)).alloc (.cells #[.int .i64 0,.int .i64 0,.string ⟨#[]⟩,.bool false,.slice none 0 0,.slice none 0 0,.slice none 0 0] 27)) (W.heap.size+1) 28 #[.slice Ab n cb]):=(oT W _ _).alloc _;have d3:Yd (ah (((W.alloc (.cells #[.int .i64 k,.int .i64 Z,.string s,.bool Y,.slice M X S,.slice N V U,.slice Q xl xc] 27)).alloc (.cells #[.slice Ab n cb] 28)).alloc (.cells #[.int .i64 0,.int .i64 0,.string ⟨#[]⟩,.bool false,.slice none 0 0,.slice none 0 0,.slice none 0 0] 27)) (W.heap.size+2) 27 (zX 0 0 ⟨#[]⟩ false none 0 0 none 0 0 none 0 0).toArray):=by
  have h2:=oT (W.alloc (.cells #[.int .i64 k,.int .i64 Z,.string s,.bool Y,.slice M X S,.slice N V U,.slice Q xl xc] 27)) (.cells #[.slice Ab n cb] 28) (T:=27) #[.int .i64 0,.int .i64 0,.string ⟨#[]⟩,.bool false,.slice none 0 0,.slice none 0 0,.slice none 0 0];rw[show (W.alloc (.cells #[.int .i64 k,.int .i64 Z,.string s,.bool Y,.slice M X S,.slice N V U,.slice Q xl xc] 27)).heap.size+1=W.heap.size+2 by simp]at h2;exact h2
 go_enter func5,ntmps5;go_wp2_with fail;refine (HC.o _ (by exact g.o.trans (a5.o.mono g.o.size))).mono ?_;rintro e w1 ⟨rfl,m⟩;have a0:Yd (ah w1 W.heap.size 27 (zX k Z s Y M X S N V U Q xl xc).toArray/\ah w1 (W.heap.size+1) 28 #[.slice Ab n cb]/\ah w1 (W.heap.size+2) 27 (zX 0 0 ⟨#[]⟩ false none 0 0 none 0 0 none 0 0).toArray/\zZ W w1):=⟨a1.o.to m,d7.o.to m,d3.o.to m,a5.o.trans (m.mono a5.o.size)⟩;clear m a5 a1 d7 d3 HC;by_cases hk:tk=0
 ·subst hk;have c4:=HS rfl;have D:=a7 rfl;have p:=b0 rfl;have a6:=zH (b5 rfl);have b7:=zH (b6 rfl);clear HS a7 b0 b5 b6 c2;have yb:=a0.o.2.1.cell 0;simp only[List.getElem?_toArray,List.getElem?_cons_zero]at yb;go_wp2_with fail;clear yb
  go_loopg [7,20] n (fun gk s7 s20 wr=>∃ (j:Nat) (lw:Int),gk+j=n/\s20=.int .i64 (j:Int)/\s7=.int .i64 lw/\Yd (lw=gD a j)/\Yd (∀ q (hq:q<a.length),q<j->gD a q<(a[q]).1/\(a[q]).2.check=0)/\Yd (ah wr W.heap.size 27 (zX k Z s Y M X S N V U Q xl xc).toArray/\ah wr (W.heap.size+1) 28 #[.slice Ab n cb]/\ah wr (W.heap.size+2) 27 (zX 0 0 ⟨#[]⟩ false none 0 0 none 0 0 none 0 0).toArray/\zZ W wr))
  case atStart=>exact⟨0,_,by omega,rfl,rfl,rfl,fun q _ h=>absurd h (by omega),a0.o⟩
  case round=>
   clear a0;obtain⟨j,lw,h8,rfl,rfl,a8,HN,P⟩:=hrel;by_cases hj:j<n
   ·clear c4 D p a6 b7 E F;have a3:j<a.length:=by rw[HL.o];exact hj
    have d2:=g.o.trans (P.o.2.2.2.mono g.o.size);obtain⟨b,o,k5,v5,J,I,A5,n5,c5,B5,m5,d5,X5,l5,e5,g1,f3,a4,y0,y1,y2,y3,y4,y5,y6,y7⟩:=cD HR.o HA.o d2 a3;subst g1;have b4:Yd (∀ i,zZ w i->Calls prog 12 #[.agg (zX k5 v5 J I A5 n5 c5 B5 m5 d5 X5 l5 e5).toArray] i fun e w'=>e=.returned (.int .i64 (a[j]).2.check)/\zZ i w'):=fun i G=>fp f3 i G;have b3:Yd ((a[j]).1<=lw->¬fM a):=fun i0 hg=>by have:=(hg j a3).1;have:=a8.o;omega
    have y:Yd ((a[j]).2.check≠0->¬fM a):=fun g7 hg=>g7 (hg j a3).2;have b8:Yd (¬(a[j]).1<=lw->(a[j]).2.check=0->(a[j]).1=gD a (j+1)/\∀ q (hq:q<a.length),q<j+1->gD a q<(a[q]).1/\(a[q]).2.check=0):=fun h1 h2=>⟨(fb a3).symm,fun q hq hl=>by
     by_cases e:q=j
     ·subst e;exact⟨by have:=a8.o;omega,h2⟩
     ·exact HN.o q hq (by omega)⟩
    generalize (a[j]).2.check=ck at*;generalize (a[j]).1=x at*;have A:Yd (ah (wr.alloc (.cells #[.int .i64 x,.int .i64 k5,.int .i64 v5,.string J,.bool I,.slice A5 n5 c5,.slice B5 m5 d5,.slice X5 l5 e5] 37)) W.heap.size 27 (zX k Z s Y M X S N V U Q xl xc).toArray/\ah (wr.alloc (.cells #[.int .i64 x,.int .i64 k5,.int .i64 v5,.string J,.bool I,.slice A5 n5 c5,.slice B5 m5 d5,.slice X5 l5 e5] 37)) (W.heap.size+1) 28 #[.slice (some ⟨b,o,none⟩) n cb]/\ah (wr.alloc (.cells #[.int .i64 x,.int .i64 k5,.int .i64 v5,.string J,.bool I,.slice A5 n5 c5,.slice B5 m5 d5,.slice X5 l5 e5] 37)) (W.heap.size+2) 27 (zX 0 0 ⟨#[]⟩ false none 0 0 none 0 0 none 0 0).toArray/\zZ W (wr.alloc (.cells #[.int .i64 x,.int .i64 k5,.int .i64 v5,.string J,.bool I,.slice A5 n5 c5,.slice B5 m5 d5,.slice X5 l5 e5] 37))):=⟨P.o.1.to (ae wr _),P.o.2.1.to (ae wr _),P.o.2.2.1.to (ae wr _),P.o.2.2.2.trans ((ae wr _).mono P.o.2.2.2.size)⟩;have d6:Yd (ah (wr.alloc (.cells #[.int .i64 x,.int .i64 k5,.int .i64 v5,.string J,.bool I,.slice A5 n5 c5,.slice B5 m5 d5,.slice X5 l5 e5] 37)) wr.heap.size 37 #[.int .i64 x,.int .i64 k5,.int .i64 v5,.string J,.bool I,.slice A5 n5 c5,.slice B5 m5 d5,.slice X5 l5 e5]):=ah.new wr _ _;clear f3 a4 a3 a8 HN d2;by_cases hx:x<=lw
    ·have C:=zH (a9.o (by trivial) (b3.o hx));have d:Yd (ah (wr.alloc (.cells #[.int .i64 x,.int .i64 k5,.int .i64 v5,.string J,.bool I,.slice A5 n5 c5,.slice B5 m5 d5,.slice X5 l5 e5] 37)) (W.heap.size+2) 27 (zX 0 0 ⟨#[]⟩ false none 0 0 none 0 0 none 0 0).toArray):=A.o.2.2.1;have g8:decide (x<=lw)=true:=by simp[hx]
     clear b3 y b8 b4 P;obtain⟨r0,r1,r2,r3,r4,r5,r6⟩:=d.o.s7;obtain⟨z0,z1,z2,z3,z4,z5,z6⟩:=d.o.z7;go_wp2_with fail;refine bodyPost_ret (v:=.tuple #[.agg #[.int .i64 0,.int .i64 0,.string ⟨#[]⟩,.bool false,.slice none 0 0,.slice none 0 0,.slice none 0 0],.int .i64 2]) (by rw[results_cell_tmp rfl];go_simp) rfl ?_;exact⟨[.int .i64 0,.int .i64 0,.string ⟨#[]⟩,.bool false,.slice none 0 0,.slice none 0 0,.slice none 0 0],.zero,2,rfl,bF.zero _ _,C.o,(((((((A.o.2.2.2.setCell (zU _ 2) _).setCell (zU _ 2) _).setCell (zU _ 2) _).setCell (zU _ 2) _).setCell (zU _ 2) _).setCell (zU _ 2) _).setCell (zU _ 2) _)⟩
    ·have g8:decide (x<=lw)=false:=by simp[hx]
     have c0:=zH (b8.o hx);clear b3 b8 P hx;go_wp2_with fail;refine (b4.o _ (by exact g.o.trans (A.o.2.2.2.mono g.o.size))).mono ?_;rintro e w5 ⟨rfl,l⟩;have c:Yd (ah w5 W.heap.size 27 (zX k Z s Y M X S N V U Q xl xc).toArray/\ah w5 (W.heap.size+1) 28 #[.slice (some ⟨b,o,none⟩) n cb]/\ah w5 (W.heap.size+2) 27 (zX 0 0 ⟨#[]⟩ false none 0 0 none 0 0 none 0 0).toArray/\zZ W w5):=⟨A.o.1.to l,A.o.2.1.to l,A.o.2.2.1.to l,A.o.2.2.2.trans (l.mono A.o.2.2.2.size)⟩;have f8:=zH (d6.o.to l);clear l A d6 b4 y0 y1 y2 y3 y4 y5 y6 y7;by_cases b2:ck=0
     ·subst b2;have e4:=zH (c0.o rfl);have x0:=f8.o.cell 0;simp only[List.getElem?_toArray,List.getElem?_cons_zero]at x0;clear c0 y;go_wp2_with fail
      go_roundg (gk-1)
      case measure=>omega
      case rel=>exact⟨j+1,x,by omega,by go_num,rfl,e4.o.1,e4.o.2,c.o⟩
     ·have C:=zH (a9.o (by trivial) (y.o b2));have h5:(ck==0)=false:=zL b2;have d:Yd (ah w5 (W.heap.size+2) 27 (zX 0 0 ⟨#[]⟩ false none 0 0 none 0 0 none 0 0).toArray):=c.o.2.2.1;clear y c0 b2;obtain⟨r0,r1,r2,r3,r4,r5,r6⟩:=d.o.s7;obtain⟨z0,z1,z2,z3,z4,z5,z6⟩:=d.o.z7;go_wp2_with fail;refine bodyPost_ret (v:=.tuple #[.agg #[.int .i64 0,.int .i64 0,.string ⟨#[]⟩,.bool false,.slice none 0 0,.slice none 0 0,.slice none 0 0],.int .i64 2]) (by rw[results_cell_tmp rfl];go_simp) rfl ?_;exact⟨[.int .i64 0,.int .i64 0,.string ⟨#[]⟩,.bool false,.slice none 0 0,.slice none 0 0,.slice none 0 0],.zero,2,rfl,bF.zero _ _,C.o,(((((((c.o.2.2.2.setCell (zU _ 2) _).setCell (zU _ 2) _).setCell (zU _ 2) _).setCell (zU _ 2) _).setCell (zU _ 2) _).setCell (zU _ 2) _).setCell (zU _ 2) _)⟩
   ·obtain rfl:n=j:=by omega
    have HG:Yd (fM a):=fun q hq=>HN.o q hq (by rw[<-HL.o];exact hq);have D:=D HG.o;have p:=p HG.o;have h7:=b7.o HG.o;have h6:=a6.o.2;have f1:=a6.o.1;have E:=zH (E.o (by trivial) HG.o);have F:=zH (F.o (by trivial) HG.o);rw[f1]at E F;have a1:Yd (ah wr W.heap.size 27 (zX k Z s Y M X S N V U Q xl xc).toArray):=P.o.1;clear HN a8 HG a6 b7 a9 f1;obtain⟨y0,y1,y2,y3,y4,y5,y6⟩:=a1.o.s7;go_wp2_with fail;refine (c4.o _ (by exact g.o.trans (P.o.2.2.2.mono g.o.size))).mono ?_;rintro e w5 ⟨rfl,l⟩;have c:Yd (ah w5 W.heap.size 27 (zX k Z s Y M X S N V U Q xl xc).toArray/\ah w5 (W.heap.size+1) 28 #[.slice Ab n cb]/\ah w5 (W.heap.size+2) 27 (zX 0 0 ⟨#[]⟩ false none 0 0 none 0 0 none 0 0).toArray/\zZ W w5):=⟨P.o.1.to l,P.o.2.1.to l,P.o.2.2.1.to l,P.o.2.2.2.trans (l.mono P.o.2.2.2.size)⟩;have e0:Yd (ah w5 W.heap.size 27 (zX k Z s Y M X S N V U Q xl xc).toArray):=c.o.1;clear l P a1 c4 y0 y1 y2 y3 y4 y5 y6;obtain⟨y0,y1,y2,y3,y4,y5,y6⟩:=e0.o.s7;go_wp2_with fail;have e6:=c.o.2.1.cell 0;refine (D.o _ w5 (by exact g.o.trans (c.o.2.2.2.mono g.o.size)) (by exact e6) (by exact c.o.2.1.lt)).mono ?_;rintro e w6 ⟨rfl,a2⟩;have z:Yd (ah w6 W.heap.size 27 (zX k Z s Y M X S N V U Q xl xc).toArray/\ah w6 (W.heap.size+1) 28 #[.slice Ab n cb]/\ah w6 (W.heap.size+2) 27 (zX 0 0 ⟨#[]⟩ false none 0 0 none 0 0 none 0 0).toArray/\zZ W w6):=⟨c.o.1.to a2,c.o.2.1.to a2,c.o.2.2.1.to a2,c.o.2.2.2.trans (a2.mono c.o.2.2.2.size)⟩;have e1:Yd (ah w6 W.heap.size 27 (zX k Z s Y M X S N V U Q xl xc).toArray):=z.o.1;have d:Yd (ah w6 (W.heap.size+2) 27 (zX 0 0 ⟨#[]⟩ false none 0 0 none 0 0 none 0 0).toArray):=z.o.2.2.1;clear a2 c e0 D y0 y1 y2 y3 y4 y5 y6 e6;obtain⟨y0,y1,y2,y3,y4,y5,y6⟩:=e1.o.s7;by_cases b1:10000<tc+tg
    ·have g2:(10000:Int)<(tc:Int)+(tg:Int):=by omega
     have c3:=zH (E.o b1);clear b1 E F p;obtain⟨r0,r1,r2,r3,r4,r5,r6⟩:=d.o.s7;obtain⟨z0,z1,z2,z3,z4,z5,z6⟩:=d.o.z7;go_wp2_with fail;refine bodyPost_ret (v:=.tuple #[.agg #[.int .i64 0,.int .i64 0,.string ⟨#[]⟩,.bool false,.slice none 0 0,.slice none 0 0,.slice none 0 0],.int .i64 3]) (by rw[results_cell_tmp rfl];go_simp) rfl ?_;exact⟨[.int .i64 0,.int .i64 0,.string ⟨#[]⟩,.bool false,.slice none 0 0,.slice none 0 0,.slice none 0 0],.zero,3,rfl,bF.zero _ _,c3.o,(((((((z.o.2.2.2.setCell (zU _ 2) _).setCell (zU _ 2) _).setCell (zU _ 2) _).setCell (zU _ 2) _).setCell (zU _ 2) _).setCell (zU _ 2) _).setCell (zU _ 2) _)⟩
    ·have g2:¬(10000:Int)<(tc:Int)+(tg:Int):=by omega
     have c3:=zH (F.o (Nat.le_of_not_lt b1));clear b1 E F;go_wp2_with fail;have e7:=z.o.2.1.cell 0;refine (p.o _ w6 (by exact g.o.trans (z.o.2.2.2.mono g.o.size)) (by exact e7) (by exact z.o.2.1.lt)).mono ?_;rintro e w8 ⟨h4,rfl,d0,c7⟩;obtain⟨k8,v8,f5,f4,A8,n8,c8,B8,m8,d8,X8,l8,e8,g6⟩:=d0.tc.form;subst g6;have f6:Yd (zZ W w8):=z.o.2.2.2.trans (c7.mono z.o.2.2.2.size);have d4:=zH (d.o.to c7);have g0:=zH d0;have e2:=zH d.o.lt;clear c7 d0 z e1 d p e7 y0 y1 y2 y3 y4 y5 y6;obtain⟨r0,r1,r2,r3,r4,r5,r6⟩:=d4.o.s7;obtain⟨z0,z1,z2,z3,z4,z5,z6⟩:=d4.o.z7;go_wp2_with fail;refine bodyPost_ret (v:=.tuple #[.agg #[.int .i64 k8,.int .i64 v8,.string f5,.bool f4,.slice A8 n8 c8,.slice B8 m8 d8,.slice X8 l8 e8],.int .i64 0]) (by rw[results_cell_tmp rfl];go_simp) rfl ?_;refine⟨[.int .i64 k8,.int .i64 v8,.string f5,.bool f4,.slice A8 n8 c8,.slice B8 m8 d8,.slice X8 l8 e8],tr,0,rfl,((bF.of_tcf g0.o).to (by simp) fun b G _=>?_).mono fun b G _=>Or.inr ?_,c3.o,(((((((f6.o.setCell (zU _ 2) _).setCell (zU _ 2) _).setCell (zU _ 2) _).setCell (zU _ 2) _).setCell (zU _ 2) _).setCell (zU _ 2) _).setCell (zU _ 2) _)⟩
     ·have G:w6.heap.size+1<=b:=G;have g3:b≠W.heap.size+2:=by have:=e2.o;omega
      repeat rw[Below.heap_setCell _ _ _ b g3]
     ·have G:w6.heap.size+1<=b:=G;have:=e2.o;omega
 ·have C:=zH (c2.o hk);have h9:(tk==0)=false:=zL hk;have d:Yd (ah w1 (W.heap.size+2) 27 (zX 0 0 ⟨#[]⟩ false none 0 0 none 0 0 none 0 0).toArray):=a0.o.2.2.1;clear HS a7 b0 b5 b6 c2 a9 E F hk;obtain⟨r0,r1,r2,r3,r4,r5,r6⟩:=d.o.s7;obtain⟨z0,z1,z2,z3,z4,z5,z6⟩:=d.o.z7;go_wp2_with fail;refine bodyPost_ret (v:=.tuple #[.agg #[.int .i64 0,.int .i64 0,.string ⟨#[]⟩,.bool false,.slice none 0 0,.slice none 0 0,.slice none 0 0],.int .i64 tk]) (by rw[results_cell_tmp rfl];go_simp) rfl ?_;exact⟨[.int .i64 0,.int .i64 0,.string ⟨#[]⟩,.bool false,.slice none 0 0,.slice none 0 0,.slice none 0 0],.zero,tk,rfl,bF.zero _ _,C.o,(((((((a0.o.2.2.2.setCell (zU _ 2) _).setCell (zU _ 2) _).setCell (zU _ 2) _).setCell (zU _ 2) _).setCell (zU _ 2) _).setCell (zU _ 2) _).setCell (zU _ 2) _)⟩
def sR (v:Value):Option (DataW Value×List MemPlace):=some (.held v,[])
def fI (x:Int×List Value):Lit×DataW Value:=(.int .i64 x.1,.held (.agg x.2.toArray))
def bV {α:Type} (x:Int×α):List (Int×α)->List (Int×α)
 |[]=>[x]
 |y::r=>if x.1<y.1 then x::y::r else y::bV x r
theorem lJ {α:Type} (x:Int×α) (l:List (Int×α)):(bV x l).length=l.length+1:=by
 induction l with
 |nil=>rfl
 |cons y r a=>rw[bV];split<;>simp[a]
inductive gQ (w:World):List (Int×List Value)->List (Int×Tm)->Prop
 |nil:gQ w [] []
 |cons {v:Int} {cx:List Value} {t:Tm} {zs:List (Int×List Value)} {bs:List (Int×Tm)} (hv:aG v) (h:TC w t cx) (hr:gQ w zs bs):gQ w ((v,cx)::zs) ((v,t)::bs)
theorem gQ.len {w:World} {b:List (Int×List Value)} {a:List (Int×Tm)} (h:gQ w b a):b.length=a.length:=by
 induction h with
 |nil=>rfl
 |cons _ _ _ c=>simp[c]
theorem gQ.ins {w:World} {c:List (Int×List Value)} {b:List (Int×Tm)} (h:gQ w c b) {v:Int} {d:List Value} {t:Tm} (g:aG v) (f:TC w t d):gQ w (bV (v,d) c) (bV (v,t) b):=by
 induction h with
 |nil=>exact .cons g f .nil
 |@cons m i l c b a e j k=>
  rw[bV,bV]
  split
  ·exact .cons g f (.cons a e j)
  ·exact .cons a e k
theorem gQ.at {w:World} {c:List (Int×List Value)} {a:List (Int×Tm)} (h:gQ w c a) (v:Int):(fnd a v=none/\∀ z,(DataW.map (c.map fI)).atKey (.int .i64 v) z=z)\/∃ x b,fnd a v=some x/\TC w x b/\∀ z,(DataW.map (c.map fI)).atKey (.int .i64 v) z=.held (.agg b.toArray):=by
 induction h with
 |nil=>exact .inl ⟨rfl,fun z=>rfl⟩
 |@cons n d m c a k i o l=>
  by_cases e:n=v
  ·subst e;refine .inr ⟨m,d,by simp[fnd],i,fun z=>?_⟩;simp[DataW.atKey,fI,Lit.sameKey]
  ·rcases l with ⟨f,g⟩|⟨x,b,f,g,j⟩
   ·refine .inl ⟨by simpa[fnd,e] using f,fun z=>?_⟩;have:=g z;simpa[DataW.atKey,fI,Lit.sameKey,e] using this
   ·refine .inr ⟨x,b,by simpa[fnd,e] using f,g,fun z=>?_⟩;have:=j z;simpa[DataW.atKey,fI,Lit.sameKey,e] using this
theorem tI {w:World} {a:List (Int×List Value)} {b:List (Int×Tm)} (h:gQ w a b) {v:Int} (c:fnd b v=none):((a.map fI).filter fun p=>!p.1.sameKey (.int .i64 v))=a.map fI:=by
 induction h with
 |nil=>rfl
 |@cons i d l a b f j k g=>
  have e:¬i=v:=fun e=>by subst e;simp[fnd]at c
  have:=g (by simpa[fnd,e] using c);simp[fI,Lit.sameKey,e];simpa[fI,Lit.sameKey] using this
theorem tR (x:Int×List Value) (a:List (Int×List Value)):DataW.insert (fI x) (a.map fI)=(bV x a).map fI:=by
 induction a with
 |nil=>rfl
 |cons y r b=>
  rw[List.map_cons,DataW.insert,bV,b];by_cases h:x.1<y.1
  ·simp[fI,Lit.before,h]
  ·simp[fI,Lit.before,h]
def eD (w0 w:World) (b:Nat) (bs:List (Int×Tm)):Prop:=
 ∃ zs,w.ownsMap prog 3 sR b bs.length (.map (zs.map fI))/\gQ w0 zs bs
theorem eD.lt {c w:World} {b:Nat} {a:List (Int×Tm)} (h:eD c w b a):b<w.heap.size:=by
 obtain⟨d,h,_⟩:=h;exact h.lt
theorem eD.kept {d w w':World} {b:Nat} {a:List (Int×Tm)} (h:eD d w b a) (i:w'.heap[b]?=w.heap[b]?):eD d w' b a:=by
 obtain⟨k,⟨e,c,f,g⟩,j⟩:=h;exact⟨k,⟨e,c,i.trans f,g⟩,j⟩
theorem eD.below {c w w':World} {b:Nat} {a:List (Int×Tm)} (h:eD c w b a) (d:zZ w w'):eD c w' b a:=h.kept (d.block b h.lt)
theorem eD.drew {c w:World} {b:Nat} {a:List (Int×Tm)} (h:eD c w b a):eD c w.drew b a:=h
theorem eD.made (a w:World):eD a (w.alloc (.map #[] 0)) w.heap.size []:=⟨[],World.ownsMap_made w _ _ _,.nil⟩
theorem kQ {v:Int} (a:aG v):keyOf prog 3 (.int .i64 v)=some (.int .i64 v):=
 Maps.keyOf_int_mk underlying3 (by
  have h:=wrap64_wf v;rw[show wrap64 v=v by unfold aG at a;unfold wrap64;omega]at h;exact h)
theorem eD.look {m w:World} {b:Nat} {e:List (Int×Tm)} (h:eD m w b e) {v:Int} (t:aG v):
 (fnd e v=none/\(Instr.lookup 72 (.map (some b)) (.int .i64 v) true).run prog w=.ok (.tuple #[.agg #[.int .i64 0,.int .i64 0,.string ⟨#[]⟩,.bool false,.slice none 0 0,.slice none 0 0,.slice none 0 0],.bool false]) w)\/
 ∃ x d,fnd e v=some x/\TC m x d/\(Instr.lookup 72 (.map (some b)) (.int .i64 v) true).run prog w=.ok (.tuple #[.agg d.toArray,.bool true]) w:=by
 obtain⟨B,⟨A,f,q,F,_,o⟩,l⟩:=h;have k:=Maps.fit_look (R:=sR) true (Maps.int_keyed underlying3) underlying72 (zeroValue27 w) q F (kQ t);rw[<-o]at k;rcases k with ⟨a,_,c⟩|⟨n,y,_,_,a,p,c,_⟩
 ·rcases l.at v with ⟨g,_⟩|⟨x,d,_,_,j⟩
  ·exact .inl ⟨g,a⟩
  ·have:=(j .nil).symm.trans (c .nil);cases this
 ·have z:y=(.held n.val,[]):=(zI p).symm;subst z;rcases l.at v with ⟨_,i⟩|⟨x,d,g,i,j⟩
  ·have:=(i .nil).symm.trans (c .nil);cases this
  ·have:=(j .nil).symm.trans (c .nil);simp only[DataW.held.injEq]at this;rw[<-this]at a;exact .inr ⟨x,d,g,i,a⟩
theorem eD.put {f w:World} {b:Nat} {c:List (Int×Tm)} (h:eD f w b c) {v:Int} (j:aG v) (o:fnd c v=none) (n:c.length<maxLen) {t:Tm} {a:List Value} (q:TC f t a):
 ∃ z,(Instr.mapUpdate 72 (.map (some b)) (.int .i64 v) (.agg a.toArray)).run prog w=.ok () z/\eD f z b (bV (v,t) c)/\w.grownBy z (some b):=by
 obtain⟨g,p,k⟩:=h;obtain⟨z,l,i,m⟩:=p.update (Maps.int_keyed underlying3) underlying72 n (kQ j) (val:=.agg a.toArray) (d:=.held (.agg a.toArray)) (ps:=[]) rfl;refine⟨z,l,⟨bV (v,a) g,?_,k.ins j q⟩,m⟩;rw[lJ];have e:(DataW.map (g.map fI)).put (.int .i64 v) (.held (.agg a.toArray))=.map ((bV (v,a) g).map fI):=by
  rw[<-tR,DataW.put,tI k o];rfl
 rw[e]at i;exact i
theorem nI (xs a:List Nat) (N P:Value) (w:World) (V:Sl .u32 w N xs) (M:Sl .u32 w P a):
 Calls prog 114 #[N,P] w fun e w'=>e=.returned (.bool (tD xs a))/\∃ m,w'=w.drewN m:=by
 obtain⟨A,ca,rfl,Y,F,d⟩:=V;obtain⟨A',cb,rfl,Z,G,f⟩:=M;unfold maxLen at F G;generalize I:xs.length=n at*;generalize D:a.length=m at*;by_cases k:n=m
 ·subst k;have v:=zH (zW I D);have Q:=zH d;have S:=zH f;clear I D d f;have B:((n:Int) != (n:Int))=false:=by simp
  go_enter func114,ntmps114
  go_wp2
  go_loopg [13] n (fun g i wr=>∃ j m:Nat,g+j=n/\i=.int .i64 (j:Int)/\Yd (xs.take j=a.take j)/\Yd (wr=w.drewN m))
  case atStart=>exact⟨0,0,by omega,rfl,rfl,rfl⟩
  case round=>
   obtain⟨j,U,a2,rfl,J,T⟩:=hrel;obtain rfl:=T.o;by_cases z:j<n
   ·obtain⟨b,o,p,rfl,M,l,a0⟩:=Q.o.at_ (i:=j) z;obtain⟨b',o',q,rfl,X,t,a1⟩:=S.o.at_ (i:=j) z;have y:Yd (xs.getD j 0=p/\a.getD j 0=q):=⟨l,t⟩;clear l t;have a3:(0:Int)<=(j:Int):=by omega
    have a4:(j:Int)<(n:Int):=by omega
    by_cases c:p=q
    ·subst c;have C:((p:Int) != (p:Int))=false:=by simp
     go_wp2
     go_quiet (fail)
     go_wp2
     go_roundg (gk-1)
     case measure=>omega
     case rel=>exact⟨j+1,_,by omega,by go_num,xI (by rw[v.o.1];exact z) (by rw[v.o.2];exact z) J.o (y.o.1.trans y.o.2.symm),rfl⟩
    ·have C:((p:Int) != (q:Int))=true:=by rw[bne_iff_ne];omega
     have E:Yd (tD xs a=false):=nH (by rintro rfl;exact c (y.o.1.symm.trans y.o.2));clear c
     go_wp2
     go_quiet (fail)
     go_wp2
     go_ret;rw[E.o];exact⟨rfl,_,by rw[World.drewN_drewN]⟩
   ·obtain rfl:j=n:=by omega
    have E:Yd (tD xs a=true):=yT (by have h:=J.o;rwa [zG (by rw[v.o.1];exact zN _),zG (by rw[v.o.2];exact zN _)]at h)
    go_wp2
    go_ret;rw[E.o];exact⟨rfl,U,rfl⟩
 ·have B:((n:Int) != (m:Int))=true:=by rw[bne_iff_ne];omega
  have E:Yd (tD xs a=false):=nH (by rintro rfl;omega);clear I D k d f;go_enter func114,ntmps114
  go_wp2
  go_ret;rw[E.o];exact⟨rfl,0,rfl⟩
theorem iH (a b:LN):ik a b=true↔a=b:=by
 unfold ik tD;cases a;cases b;simp
theorem mC (a b:LN) (A B y B':Value) {w:World} (Y:Sl .u32 w A a.num) (Z:Sl .u32 w B a.den) (h3:Sl .u32 w y b.num) (h4:Sl .u32 w B' b.den) (W:World) (hW:zZ w W):
 Calls prog 84 #[.agg #[.bool a.neg,A,B],.agg #[.bool b.neg,y,B']] W fun e w'=>e=.returned (.bool (ik a b))/\zZ W w':=by
 have U:Yd (∀ i,zZ w i->Calls prog 114 #[A,y] i fun e w'=>e=.returned (.bool (tD a.num b.num))/\zZ i w'):=fun i k=>(nI a.num b.num A y i (Y.to k) (h3.to k)).mono fun e w' q=>⟨q.1,by obtain⟨m,rfl⟩:=q.2;exact aN zB _⟩;have HD:Yd (∀ i,zZ w i->Calls prog 114 #[B,B'] i fun e w'=>e=.returned (.bool (tD a.den b.den))/\zZ i w'):=fun i k=>(nI a.den b.den B B' i (Z.to k) (h4.to k)).mono fun e w' q=>⟨q.1,by obtain⟨m,rfl⟩:=q.2;exact aN zB _⟩;have j:=zH hW;have HS:Yd (ik a b=((a.neg==b.neg)&&(tD a.num b.num&&tD a.den b.den))):=rfl;obtain⟨z,P,rfl,_⟩:=Y;obtain⟨D,M,rfl,_⟩:=Z;obtain⟨C,Q,rfl,_⟩:=h3;obtain⟨E,N,rfl,_⟩:=h4;generalize ik a b=S at*;generalize tD a.num b.num=V at*;generalize tD a.den b.den=X at*;generalize a.num.length=F at*;generalize a.den.length=G at*;generalize b.num.length=I at*;generalize b.den.length=J at*;generalize a.neg=d at*;generalize b.neg=f at*;have g:Yd (zZ W ((W.alloc (.cells #[.bool d,.slice z F P,.slice D G M] 24)).alloc (.cells #[.bool f,.slice C I Q,.slice E J N] 24))):=ax W _ _;have p:Yd (ah ((W.alloc (.cells #[.bool d,.slice z F P,.slice D G M] 24)).alloc (.cells #[.bool f,.slice C I Q,.slice E J N] 24)) W.heap.size 24 #[.bool d,.slice z F P,.slice D G M]):=(ah.new W _ _).alloc _;have t:Yd (ah ((W.alloc (.cells #[.bool d,.slice z F P,.slice D G M] 24)).alloc (.cells #[.bool f,.slice C I Q,.slice E J N] 24)) (W.heap.size+1) 24 #[.bool f,.slice C I Q,.slice E J N]):=oT W _ _;clear hW;go_enter func84,ntmps84;by_cases n:d=f
 ·have k:(d==f)=true:=by simp[n]
  have c:Yd (S=(V&&X)):=by have:=HS.o;rw[k]at this;show _=_;simpa using this
  clear HS n;go_wp2_with fail;refine (U.o _ (by exact j.o.trans (g.o.mono j.o.size))).mono ?_;rintro e w1 ⟨rfl,l⟩;have h:Yd (zZ W w1):=g.o.trans (l.mono g.o.size);have k2:=(p.o.to l).cell 2;have k3:=(t.o.to l).cell 2;simp only[L3]at k2 k3;clear l g p t U;cases V with
  |true=>
   have o:Yd (S=X):=by have:=c.o;show _=_;simpa using this
   clear c;go_wp2_with fail;refine (HD.o _ (by exact j.o.trans (h.o.mono j.o.size))).mono ?_;rintro e w2 ⟨rfl,v⟩;have T:Yd (zZ W w2):=h.o.trans (v.mono h.o.size);clear v h k2 k3;obtain rfl:=o.o;go_wp2_with fail;go_ret;exact⟨rfl,T.o⟩
  |false=>
   have o:Yd (S=false):=by have:=c.o;show _=_;simpa using this
   clear c;obtain rfl:=o.o;go_wp2_with fail;go_ret;exact⟨rfl,h.o⟩
 ·have k:(d==f)=false:=zL n;have c:Yd (S=false):=by have:=HS.o;rw[k]at this;show _=_;simpa using this
  obtain rfl:=c.o;clear HS n c;go_wp2_with fail;go_ret;exact⟨rfl,g.o⟩
def Tm.hd:Tm->Tm->Bool
 |.mk k _ s n args,.mk k' _ s' n' args'=>decide (k=k'/\s.toList=s'.toList/\args.length=args'.length/\(k=2->ik n n'=true))
def Tm.args:Tm->List Tm
 |.mk _ _ _ _ args=>args
theorem pm {a:List (Int×Tm)} {v:Int} (h:fnd a v=none) (t:Tm) (u:Int):fnd (bV (v,t) a) u=if u=v then some t else fnd a u:=by
 induction a with
 |nil=>
  by_cases e:v=u
  ·subst e;simp[bV,fnd]
  ·have b:¬u=v:=fun q=>e q.symm;simp[bV,fnd,e,b]
 |cons y r c=>
  have d:¬y.1=v:=fun q=>by simp[fnd,q]at h
  have i:fnd r v=none:=by simpa[fnd,d] using h
  have c:=c i;rw[bV]
  split
  ·by_cases e:v=u
   ·subst e;simp[fnd]
   ·have b:¬u=v:=fun q=>e q.symm;simp[fnd,e,b]
  ·by_cases e:y.1=u
   ·subst e;simp[fnd,d]
   ·have f:fnd (y::bV (v,t) r) u=fnd (bV (v,t) r) u:=by simp[fnd,e]
    have g:fnd (y::r) u=fnd r u:=by simp[fnd,e]
    rw[f,g,c]
def CL (bs:List (Int×Tm)):Prop:=∀ v x,fnd bs v=some x->x.err0=0
theorem CL.nil:CL []:=fun v x h=>by simp[fnd]at h
theorem CL.ins {b:List (Int×Tm)} (h:CL b) {v:Int} (c:fnd b v=none) {t:Tm} (d:t.err0=0):CL (bV (v,t) b):=fun u x a=>by
 rw[pm c]at a;by_cases e:u=v
 ·rw[if_pos e]at a;cases a;exact d
 ·rw[if_neg e]at a;exact h u x a
theorem gp (w:World) (o:Obj) {T:TypeId} (cs:Array Value):ah ((w.alloc o).alloc (.cells cs T)) (w.heap.size+1) T cs:=by
 have:=ah.new (w.alloc o) T cs;rw[show (w.alloc o).heap.size=w.heap.size+1 by simp]at this;exact this
theorem eF {w w':World} (c:zZ w w') {p:Addr} {v:Value} (h:w.cell? p=some v):w'.cell? p=some v:=by
 have b:p.block<w.heap.size:=by
  rcases Nat.lt_or_ge p.block w.heap.size with a|a
  ·exact a
  ·simp[World.cell?,Array.getElem?_eq_none a]at h
 exact (c.cell b).trans h
theorem CC {a b:Int} (h:a≠0):pF a b=a:=by unfold pF;rw[if_pos h]
theorem CD {a b:Int} (h:a=0):pF a b=b:=by unfold pF;rw[if_neg (fun q=>q h)]
theorem mr (W:World) (v v2:Int) (s s2:ByteArray) (m d:Bool) (f g Ar p q c:Option Addr) (i n j o l b m3 y m4 z t a:Nat) (k k2:Int) (h:k≠k2) (b1:1<=k) (b2:k<=5) (b3:1<=k2) (b4:k2<=5):
 Calls prog 91 #[.agg #[.int .i64 k,.int .i64 v,.string s,.bool m,.slice f i n,.slice g j o,.slice Ar l b],.agg #[.int .i64 k2,.int .i64 v2,.string s2,.bool d,.slice p m3 y,.slice q m4 z,.slice c t a]] W fun e F=>e=.returned (.int .i64 (br k k2))/\zZ W F:=by
 have A:Yd (zZ W ((W.alloc (.cells #[.int .i64 k,.int .i64 v,.string s,.bool m,.slice f i n,.slice g j o,.slice Ar l b] 27)).alloc (.cells #[.int .i64 k2,.int .i64 v2,.string s2,.bool d,.slice p m3 y,.slice q m4 z,.slice c t a] 27))):=ax W _ _;have D:Yd (ah ((W.alloc (.cells #[.int .i64 k,.int .i64 v,.string s,.bool m,.slice f i n,.slice g j o,.slice Ar l b] 27)).alloc (.cells #[.int .i64 k2,.int .i64 v2,.string s2,.bool d,.slice p m3 y,.slice q m4 z,.slice c t a] 27)) W.heap.size 27 (zX k v s m f i n g j o Ar l b).toArray):=(ah.new W 27 #[.int .i64 k,.int .i64 v,.string s,.bool m,.slice f i n,.slice g j o,.slice Ar l b]).alloc _;have E:Yd (ah ((W.alloc (.cells #[.int .i64 k,.int .i64 v,.string s,.bool m,.slice f i n,.slice g j o,.slice Ar l b] 27)).alloc (.cells #[.int .i64 k2,.int .i64 v2,.string s2,.bool d,.slice p m3 y,.slice q m4 z,.slice c t a] 27)) (W.heap.size+1) 27 (zX k2 v2 s2 d p m3 y q m4 z c t a).toArray):=gp W _ _;have hw:IntKind.i64.wrap (k-k2)=k-k2:=by rw[IntKind.wrap_i64];omega
 have B:br (k-k2) 0=br k k2:=by unfold br;(repeat' split)<;>omega
 have G:(k != k2)=true:=by simp[h]
 have C:=zH B;clear h b1 b2 b3 b4 B;go_enter func91,ntmps91;go_wp2_with fail;refine (jU _ _).mono ?_;rintro e I ⟨rfl,rfl⟩;go_wp2_with fail;go_ret;exact⟨by rw[C.o];rfl,A.o⟩
theorem xf (W:World) (v v2:Int) (s s2:ByteArray) (j d:Bool) (f g Ar n o c:Option Addr) (h k i m l b m3 q m4 t p a:Nat) (b1:0<=v) (b2:v<=1073741824) (b3:0<=v2) (b4:v2<=1073741824):
 Calls prog 91 #[.agg #[.int .i64 1,.int .i64 v,.string s,.bool j,.slice f h k,.slice g i m,.slice Ar l b],.agg #[.int .i64 1,.int .i64 v2,.string s2,.bool d,.slice n m3 q,.slice o m4 t,.slice c p a]] W fun e D=>e=.returned (.int .i64 (br v v2))/\zZ W D:=by
 have y:Yd (zZ W ((W.alloc (.cells #[.int .i64 1,.int .i64 v,.string s,.bool j,.slice f h k,.slice g i m,.slice Ar l b] 27)).alloc (.cells #[.int .i64 1,.int .i64 v2,.string s2,.bool d,.slice n m3 q,.slice o m4 t,.slice c p a] 27))):=ax W _ _;have B:Yd (ah ((W.alloc (.cells #[.int .i64 1,.int .i64 v,.string s,.bool j,.slice f h k,.slice g i m,.slice Ar l b] 27)).alloc (.cells #[.int .i64 1,.int .i64 v2,.string s2,.bool d,.slice n m3 q,.slice o m4 t,.slice c p a] 27)) W.heap.size 27 (zX 1 v s j f h k g i m Ar l b).toArray):=(ah.new W 27 #[.int .i64 1,.int .i64 v,.string s,.bool j,.slice f h k,.slice g i m,.slice Ar l b]).alloc _;have C:Yd (ah ((W.alloc (.cells #[.int .i64 1,.int .i64 v,.string s,.bool j,.slice f h k,.slice g i m,.slice Ar l b] 27)).alloc (.cells #[.int .i64 1,.int .i64 v2,.string s2,.bool d,.slice n m3 q,.slice o m4 t,.slice c p a] 27)) (W.heap.size+1) 27 (zX 1 v2 s2 d n m3 q o m4 t c p a).toArray):=gp W _ _;have hw:IntKind.i64.wrap (v-v2)=v-v2:=by rw[IntKind.wrap_i64];omega
 have z:br (v-v2) 0=br v v2:=by unfold br;(repeat' split)<;>omega
 have A:=zH z;clear b1 b2 b3 b4 z;go_enter func91,ntmps91;go_wp2_with fail;refine (jU _ _).mono ?_;rintro e E ⟨rfl,rfl⟩;go_wp2_with fail;go_ret;exact⟨by rw[A.o];rfl,y.o⟩
theorem wZ (W:World) (v v2:Int) (s s2:ByteArray) (g a:Bool) (j k Ar q t i:Option Addr) (m o n p l f m3 z m4 A P b:Nat) (c:Int) (x y x2 V:Nat) (ho:∀ d,zZ W d->Calls prog 96 #[.agg #[.bool g,.slice j m o,.slice k n p]] d fun e w'=>∃ u,e=.returned u/\RV w' u g x y/\zZ d w')
 (J:∀ d,zZ W d->Calls prog 96 #[.agg #[.bool a,.slice q m3 z,.slice t m4 A]] d fun e w'=>∃ u,e=.returned u/\RV w' u a x2 V/\zZ d w')
 (hc:∀ d u u',RV d u g x y->RV d u' a x2 V->Calls prog 129 #[u,u'] d fun e w'=>e=.returned (.int .i64 c)/\zZ d w'):
 Calls prog 91 #[.agg #[.int .i64 2,.int .i64 v,.string s,.bool g,.slice j m o,.slice k n p,.slice Ar l f],.agg #[.int .i64 2,.int .i64 v2,.string s2,.bool a,.slice q m3 z,.slice t m4 A,.slice i P b]] W fun e d=>e=.returned (.int .i64 (c))/\zZ W d:=by
 have B:Yd (zZ W ((W.alloc (.cells #[.int .i64 2,.int .i64 v,.string s,.bool g,.slice j m o,.slice k n p,.slice Ar l f] 27)).alloc (.cells #[.int .i64 2,.int .i64 v2,.string s2,.bool a,.slice q m3 z,.slice t m4 A,.slice i P b] 27))):=ax W _ _;have C:Yd (ah ((W.alloc (.cells #[.int .i64 2,.int .i64 v,.string s,.bool g,.slice j m o,.slice k n p,.slice Ar l f] 27)).alloc (.cells #[.int .i64 2,.int .i64 v2,.string s2,.bool a,.slice q m3 z,.slice t m4 A,.slice i P b] 27)) W.heap.size 27 (zX 2 v s g j m o k n p Ar l f).toArray):=(ah.new W 27 #[.int .i64 2,.int .i64 v,.string s,.bool g,.slice j m o,.slice k n p,.slice Ar l f]).alloc _;have D:Yd (ah ((W.alloc (.cells #[.int .i64 2,.int .i64 v,.string s,.bool g,.slice j m o,.slice k n p,.slice Ar l f] 27)).alloc (.cells #[.int .i64 2,.int .i64 v2,.string s2,.bool a,.slice q m3 z,.slice t m4 A,.slice i P b] 27)) (W.heap.size+1) 27 (zX 2 v2 s2 a q m3 z t m4 A i P b).toArray):=gp W _ _;have HC:=zH hc;have HO:=zH ho;have S:=zH J;clear hc ho J;have HK:Yd (∀ T U:World,zZ T U->(fun w':World=>w'.cell? ⟨W.heap.size,3,none⟩=some (.bool g)/\w'.cell? ⟨W.heap.size,4,none⟩=some (.slice j m o)/\w'.cell? ⟨W.heap.size,5,none⟩=some (.slice k n p)/\w'.cell? ⟨W.heap.size+1,3,none⟩=some (.bool a)/\w'.cell? ⟨W.heap.size+1,4,none⟩=some (.slice q m3 z)/\w'.cell? ⟨W.heap.size+1,5,none⟩=some (.slice t m4 A)) T->(fun w':World=>w'.cell? ⟨W.heap.size,3,none⟩=some (.bool g)/\w'.cell? ⟨W.heap.size,4,none⟩=some (.slice j m o)/\w'.cell? ⟨W.heap.size,5,none⟩=some (.slice k n p)/\w'.cell? ⟨W.heap.size+1,3,none⟩=some (.bool a)/\w'.cell? ⟨W.heap.size+1,4,none⟩=some (.slice q m3 z)/\w'.cell? ⟨W.heap.size+1,5,none⟩=some (.slice t m4 A)) U):=fun T U G h=>by
  obtain⟨h0,h1,h2,h3,h4,h5⟩:=h;exact⟨eF G h0,eF G h1,eF G h2,eF G h3,eF G h4,eF G h5⟩
 have X:=C.o.cell 3;have Y:=C.o.cell 4;have Z:=C.o.cell 5;have b3:=D.o.cell 3;have b4:=D.o.cell 4;have b5:=D.o.cell 5;simp only[L3]at X Y Z b3 b4 b5;go_enter func91,ntmps91;go_wp2_with fail
 go_region_held3 (fun w'=>w'.cell? ⟨W.heap.size,3,none⟩=some (.bool g)/\w'.cell? ⟨W.heap.size,4,none⟩=some (.slice j m o)/\w'.cell? ⟨W.heap.size,5,none⟩=some (.slice k n p)/\w'.cell? ⟨W.heap.size+1,3,none⟩=some (.bool a)/\w'.cell? ⟨W.heap.size+1,4,none⟩=some (.slice q m3 z)/\w'.cell? ⟨W.heap.size+1,5,none⟩=some (.slice t m4 A))
  (first|go_keep|(refine HK.o _ _ (by assumption) ?_;go_keep))
  (first
   |(go_at_call 96;((with_reducible refine (HO.o _ (by exact B.o.drew)).mono ?_));rintro e y1 ⟨u1,rfl,M,E⟩)
   |(go_at_call 96;((with_reducible refine (S.o _ (by exact B.o.drew.trans (E.mono (by simp;omega)))).mono ?_));rintro e V ⟨u2,rfl,N,F⟩)
   |(go_at_call 129;((with_reducible refine (HC.o _ _ _ (by exact M.to F) (by exact N)).mono ?_));rintro e y3 ⟨rfl,I⟩))
 have Q:Yd (zZ W y3):=by
  have g1:=B.o.drew.trans (E.mono (by simp;omega));have g2:=g1.trans (F.mono g1.size);exact g2.trans (I.mono g2.size)
 clear E F I M N X Y Z b3 b4 b5;go_wp2_with fail;go_ret;exact⟨rfl,Q.o⟩
theorem mu (W:World) (v v2:Int) (s s2:ByteArray) (n f:Bool) (g i Ar q t d:Option Addr) (j o m p l c m3 z m4 A b a:Nat) (k:Int) (G:k≠1) (I:k≠2) (b1:l<=32) (b2:b<=32):
 Calls prog 91 #[.agg #[.int .i64 k,.int .i64 v,.string s,.bool n,.slice g j o,.slice i m p,.slice Ar l c],.agg #[.int .i64 k,.int .i64 v2,.string s2,.bool f,.slice q m3 z,.slice t m4 A,.slice d b a]] W fun e N=>e=.returned (.int .i64 (pF (br l b) (Lib.compareBytes s.data.toList s2.data.toList)))/\zZ W N:=by
 have y:Yd (zZ W ((W.alloc (.cells #[.int .i64 k,.int .i64 v,.string s,.bool n,.slice g j o,.slice i m p,.slice Ar l c] 27)).alloc (.cells #[.int .i64 k,.int .i64 v2,.string s2,.bool f,.slice q m3 z,.slice t m4 A,.slice d b a] 27))):=ax W _ _;have J:Yd (ah ((W.alloc (.cells #[.int .i64 k,.int .i64 v,.string s,.bool n,.slice g j o,.slice i m p,.slice Ar l c] 27)).alloc (.cells #[.int .i64 k,.int .i64 v2,.string s2,.bool f,.slice q m3 z,.slice t m4 A,.slice d b a] 27)) W.heap.size 27 (zX k v s n g j o i m p Ar l c).toArray):=(ah.new W 27 #[.int .i64 k,.int .i64 v,.string s,.bool n,.slice g j o,.slice i m p,.slice Ar l c]).alloc _;have M:Yd (ah ((W.alloc (.cells #[.int .i64 k,.int .i64 v,.string s,.bool n,.slice g j o,.slice i m p,.slice Ar l c] 27)).alloc (.cells #[.int .i64 k,.int .i64 v2,.string s2,.bool f,.slice q m3 z,.slice t m4 A,.slice d b a] 27)) (W.heap.size+1) 27 (zX k v2 s2 f q m3 z t m4 A d b a).toArray):=gp W _ _;have hw:IntKind.i64.wrap ((l:Int)-(b:Int))=(l:Int)-(b:Int):=by rw[IntKind.wrap_i64];omega
 have C:br ((l:Int)-(b:Int)) 0=br (l:Int) (b:Int):=by unfold br;(repeat' split)<;>omega
 have S:(k != k)=false:=by simp
 have P:(k==1)=false:=zL G;have Q:(k==2)=false:=zL I;clear G I;by_cases D:l=b
 ·subst D;have E:((l:Int) != (l:Int))=false:=by simp
  have B:Yd (pF (br l l) (Lib.compareBytes s.data.toList s2.data.toList)=Lib.compareBytes s.data.toList s2.data.toList):=CD ((bh _ _).2 rfl);clear C hw;generalize pF (br l l) (Lib.compareBytes s.data.toList s2.data.toList)=F at*;go_enter func91,ntmps91;go_wp2_with fail;refine (mE _ _ _).mono ?_;rintro e T ⟨rfl,rfl⟩;go_wp2_with fail;obtain rfl:=B.o;go_ret;exact⟨rfl,y.o⟩
 ·have E:((l:Int) != (b:Int))=true:=by simp;omega
  have B:Yd (pF (br l b) (Lib.compareBytes s.data.toList s2.data.toList)=br ((l:Int)-(b:Int)) 0):=by
   unfold Yd;rw[C];exact CC (fun h=>D (by have:=(bh _ _).1 h;omega))
  clear C D;generalize pF (br l b) (Lib.compareBytes s.data.toList s2.data.toList)=F at*;go_enter func91,ntmps91;go_wp2_with fail;refine (jU _ _).mono ?_;rintro e T ⟨rfl,rfl⟩;go_wp2_with fail;obtain rfl:=B.o;go_ret;exact⟨rfl,y.o⟩
def pN:Tm->Tm->Int
 |.mk k v s n args,.mk k' v' s' n' args'=>pF (br k k') (if k=1 then br v v' else if k=2 then yH n n' else pF (br args.length args'.length) (Lib.compareBytes s.data.toList s'.data.toList))
theorem kR {k v:Int} {s:ByteArray} {e:Bool} {a b:Nat} {d:Int} {c:Nat} (h:au k v s e a b d c=0):1<=k/\k<=5/\c<=32:=by
 rcases al h with ⟨rfl,_⟩|⟨_,_,_,_,⟨rfl,_⟩|⟨rfl,_⟩|⟨rfl,_⟩|⟨rfl,_⟩⟩<;>omega
theorem wY {w:World} {a:Tm} {ca:List Value} (ha:TC w a ca) (b:Tm) (cb:List Value) (g:TC w b cb) (ea:a.err0=0) (eb:b.err0=0) (W:World) (l:zZ w W):
 Calls prog 91 #[.agg ca.toArray,.agg cb.toArray] W fun e c=>e=.returned (.int .i64 (pN a b))/\zZ W c:=by
 cases ha with
 |mk k v s n a0 A C F j cs hk hv hs hA hC Z a3 hm hr ha=>
  cases g with
  |mk k2 p Q f U A2 C2 i d a1 a4 a8 a7 z B o Y a5 a6 a2=>
   obtain⟨na,la⟩:=bB ea;obtain⟨nb,lb⟩:=bB eb;have ka:=kR na;have kb:=kR nb;have S:∀ c,zZ W c->GV c (.agg #[.bool n.neg,A,C]) n:=fun c g=>⟨A,C,rfl,hA.to (l.trans (g.mono l.size)),hC.to (l.trans (g.mono l.size)),Z⟩;have T:∀ c,zZ W c->GV c (.agg #[.bool f.neg,A2,C2]) f:=fun c g=>⟨A2,C2,rfl,z.to (l.trans (g.mono l.size)),B.to (l.trans (g.mono l.size)),o⟩;obtain⟨D,J,rfl,_⟩:=hA;obtain⟨G,M,rfl,_⟩:=hC;obtain⟨E,N,rfl,_⟩:=z;obtain⟨I,P,rfl,_⟩:=B;rw[pN];by_cases m:k=k2
   ·subst m;rw[CD ((bh _ _).2 rfl)];by_cases V:k=1
    ·subst V;rw[if_pos rfl];have va:0<=v/\v<=1073741824:=by rcases al na with ⟨h,_⟩|⟨_,_,_,_,⟨h,q⟩|⟨h,_⟩|⟨h,_⟩|⟨h,_⟩⟩<;>first|omega|exact⟨q.1,q.2.1⟩
     have vb:0<=p/\p<=1073741824:=by rcases al nb with ⟨h,_⟩|⟨_,_,_,_,⟨h,q⟩|⟨h,_⟩|⟨h,_⟩|⟨h,_⟩⟩<;>first|omega|exact⟨q.1,q.2.1⟩
     exact xf W v p s Q n.neg f.neg D G F E I i _ J _ M _ j _ N _ P _ d va.1 va.2 vb.1 vb.2
    ·rw[if_neg V];by_cases X:k=2
     ·subst X;rw[if_pos rfl];have t:=kS na rfl;have y:=kS nb rfl;have ga:=LN.good Z t;have gb:=LN.good o y;have l1:=LN.len16 Z t;have l2:=LN.len16 o y;refine wZ W v p s Q n.neg f.neg D G F E I i _ J _ M _ j _ N _ P _ d (yH n f) n.x n.y f.x f.y (fun c g=>?_) (fun c g=>?_) (fun c u u' h h'=>?_)
      ·exact pM n _ c (S c g) (zC ga.2.2.1 (by omega)) (zC ga.2.2.2.1 (by omega))
      ·exact pM f _ c (T c g) (zC gb.2.2.1 (by omega)) (zC gb.2.2.2.1 (by omega))
      ·exact wU n.neg f.neg n.x n.y f.x f.y u u' c h h' (by omega) (by omega) (by omega) (by omega)
     ·rw[if_neg X];exact mu W v p s Q n.neg f.neg D G F E I i _ J _ M _ j _ N _ P _ d k V X ka.2.2 kb.2.2
   ·rw[CC (fun h=>m ((bh _ _).1 h))];exact mr W v p s Q n.neg f.neg D G F E I i _ J _ M _ j _ N _ P _ d k k2 m ka.1 ka.2.1 kb.1 kb.2.1
theorem yw {s:ByteArray} (h:s.size=0):s=⟨#[]⟩:=by
 cases s with
 |mk d=>
  have a:d.size=0:=h;rw[Array.eq_empty_of_size_eq_zero a]
theorem dP {s t:ByteArray} (h:s.toList=t.toList):s=t:=by
 rw[Lib.toList_data,Lib.toList_data]at h;cases s;cases t;simpa using h
theorem vf {n:LN} (d:n.neg=false) (e:n.num.length=0) (f:n.den.length=0):n=⟨false,[],[]⟩:=by
 cases n with
 |mk a b c=>
  simp only at d e f;rw[d,zF e,zF f]
theorem bU {k v:Int} {s:ByteArray} {n:LN} {f:Nat} (h:au k v s n.neg n.num.length n.den.length n.err f=0) (g:k≠1):v=0/\(k=2->s=⟨#[]⟩/\f=0/\n.err=0)/\(k≠2->n=⟨false,[],[]⟩):=by
 rcases al h with ⟨b,c,d,e,a⟩|⟨b,c,d,e,a⟩
 ·exact⟨c,fun _=>⟨yw d,a,e⟩,fun h=>absurd b h⟩
 ·refine⟨?_,fun h=>absurd h b,fun _=>vf c d e⟩;rcases a with a|a|a|a
  ·exact absurd a.1 g
  ·exact a.2.1
  ·exact a.2.1
  ·exact a.2.1
theorem ee {v:Int} {s:ByteArray} {n:LN} {b:Nat} (h:au 1 v s n.neg n.num.length n.den.length n.err b=0):s=⟨#[]⟩/\b=0/\n=⟨false,[],[]⟩:=by
 rcases al h with ⟨c,_⟩|⟨c,d,e,f,a⟩
 ·omega
 ·rcases a with a|a|a|a
  ·exact⟨yw a.2.2.2.1,a.2.2.2.2,vf d e f⟩
  ·omega
  ·omega
  ·omega
theorem ix (s t:ByteArray):s.data.toList=t.data.toList↔s.toList=t.toList:=by rw[Lib.toList_data,Lib.toList_data]
theorem Aj {k v:Int} {s:ByteArray} {n:LN} {args:List Tm} {t:Tm} (g:(Tm.mk k v s n args).fine) (e:t.fine) (f:k≠1):pN (.mk k v s n args) t=0↔(Tm.mk k v s n args).hd t=true:=by
 obtain⟨k2,p,o,m,i⟩:=t;rw[Tm.fine]at g e;rw[pN,Tm.hd,decide_eq_true_eq,cJ,bh,if_neg f];have c:=bU g.2.1 f;constructor
 ·rintro⟨rfl,h⟩;have a:=bU e.2.1 f;by_cases b:k=2
  ·rw[if_pos b,iw g.1 e.1 (c.2.1 b).2.2 (a.2.1 b).2.2]at h;refine⟨rfl,by rw[(c.2.1 b).1,(a.2.1 b).1],by rw[(c.2.1 b).2.1,(a.2.1 b).2.1],fun _=>(iH _ _).2 h⟩
  ·rw[if_neg b,cJ,bh,fP,ix]at h;exact⟨rfl,h.2,by omega,fun q=>absurd q b⟩
 ·rintro⟨rfl,j,b,l⟩;have a:=bU e.2.1 f;refine⟨rfl,?_⟩;by_cases d:k=2
  ·rw[if_pos d,iw g.1 e.1 (c.2.1 d).2.2 (a.2.1 d).2.2];exact (iH _ _).1 (l d)
  ·rw[if_neg d,cJ,bh,fP,ix];exact⟨by omega,j⟩
mutual
theorem Tm.cmp_eq:∀ (a b:Tm),a.fine->b.fine->a.cmp b=0->a=b
 |.mk k v s n args,.mk k2 v2 s2 n2 args2,ha,hb,h=>by
  rw[Tm.fine]at ha hb;rw[Tm.cmp,cJ,bh]at h;obtain⟨rfl,h⟩:=h;by_cases h1:k=1
  ·subst h1;rw[if_pos rfl,bh]at h;have q1:=ee ha.2.1;have q2:=ee hb.2.1;rw[h,q1.1,q2.1,q1.2.2,q2.2.2,zF q1.2.1,zF q2.2.1]
  ·rw[if_neg h1]at h;have r1:=bU ha.2.1 h1;have r2:=bU hb.2.1 h1;by_cases h2:k=2
   ·rw[if_pos h2,iw ha.1 hb.1 (r1.2.1 h2).2.2 (r2.2.1 h2).2.2]at h;rw[h,r1.1,r2.1,(r1.2.1 h2).1,(r2.2.1 h2).1,zF (r1.2.1 h2).2.1,zF (r2.2.1 h2).2.1]
   ·rw[if_neg h2,cJ,bh,cJ,fP,ix]at h;rw[r1.1,r2.1,r1.2.2 h2,r2.2.2 h2,dP h.2.1,qG args args2 (by omega) ha.2.2 hb.2.2 h.2.2]
theorem qG:∀ (a b:List Tm),a.length=b.length->ed a->ed b->nD a b=0->a=b
 |[],[],_,_,_,_=>rfl
 |[],_::_,h,_,_,_=>by simp at h
 |_::_,[],h,_,_,_=>by simp at h
 |t::l,t'::l',hl,ha,hb,h=>by
  rw[ed]at ha hb;rw[nD,cJ]at h;rw[t.cmp_eq t' ha.1 hb.1 h.1,qG l l' (by simpa using hl) ha.2 hb.2 h.2]
end
theorem eC.ins {k:List (Int×Tm)} (h:eC k) {v:Int} (D:fnd k v=none) (t:Tm):eC (bV (v,t) k):=by
 have p:∀ (l:List (Int×Tm)),l.Pairwise (fun a b=>a.1<b.1)->fnd l v=none->(bV (v,t) l).Pairwise (fun a b=>a.1<b.1):=by
  intro l
  induction l with
  |nil=>intro _ _;simp[bV]
  |cons y r o=>
   intro g A;have B:¬y.1=v:=fun q=>by simp[fnd,q]at A
   have C:fnd r v=none:=by simpa[fnd,B] using A
   rw[List.pairwise_cons]at g;rw[bV];by_cases e:v<y.1
   ·rw[if_pos e,List.pairwise_cons];refine⟨fun a c=>?_,List.pairwise_cons.2 g⟩;rcases List.mem_cons.1 c with rfl|c
    ·exact e
    ·have:=g.1 a c;show v<a.1;omega
   ·rw[if_neg e,List.pairwise_cons];refine⟨fun a c=>?_,o g.2 C⟩;have f:∀ (l:List (Int×Tm)) (a:Int×Tm),a∈bV (v,t) l->a=(v,t)\/a∈l:=by
     intro l
     induction l with
     |nil=>intro a c;simpa[bV] using c
     |cons z r o=>
      intro a c;rw[bV]at c
      split at c
      ·simpa using c
      ·rcases List.mem_cons.1 c with rfl|c
       ·simp
       ·rcases o a c with h|h
        ·exact .inl h
        ·exact .inr (by simp[h])
    rcases f r a c with rfl|c
    ·show y.1<v;omega
    ·exact g.1 a c
 have:=p k (List.pairwise_iff_getElem.2 fun i j m n d=>h i j m n d) D;intro i j m n d;exact List.pairwise_iff_getElem.1 this i j m n d
def uM (N:Nat) (bs:List (Int×Tm)):Prop:=∀ b∈bs,0<=b.1/\b.2.err0=0/\b.2.count<=N
theorem uM.good {a:List (Int×Tm)} (h:uM 10000 a) (d:eC a):fM a:=by
 intro j b;have c:=h _ (zQ b);refine⟨?_,?_⟩
 ·cases j with
  |zero=>simp only[gD];omega
  |succ j=>
   rw[fb (by omega)];exact d j (j+1) (by omega) b (by omega)
 ·unfold Tm.check;rw[if_neg (by omega)];exact c.2.1
theorem uM.nil (N:Nat):uM N []:=fun b a=>by cases a
end Go.Proofs.YtlhojoefhannnaaGreat
