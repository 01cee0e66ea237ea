/- The interner's memory: what is kept, two maps whose content does not matter. And 5 more texts. -/
import Derived.Lib.OwnKind
import Derived.Test.YtlhojoefhannnaaGreatJt6
set_option linter.unusedVariables false
set_option linter.unusedSimpArgs false
set_option maxRecDepth 100000
set_option maxHeartbeats 51200000
namespace Go.Proofs.YtlhojoefhannnaaGreat
open Go.RowKit NumB
theorem ju.sub {kt:TypeId} {KP KP':Value->Prop} {w:World} (K:ju kt KP w) (h:∀ v,KP' v->KP v):ju kt KP' w:=
 ⟨fun e a ha=>K.check e a (h a ha),fun a b ha hb=>K.equal a b (h a ha) (h b hb),K.und⟩
def zM (v:Value):Prop:=∃ i:Int,v=.int .i64 i/\an i
def og (w:World) (v:Value):Prop:=∃ b o cs,v=.pointer (some ⟨b,o,none⟩)/\w.heap[b]?=some (.cells cs 27 (0,0))
theorem og.ptr {w:World} {v:Value} (h:og w v):jP w v:=by
 obtain⟨b,o,cs,e,h⟩:=h;exact⟨b,o,cs,_,e,h⟩
theorem lX (w:World):ju 109 (og w) w:=(kk w).sub fun _ h=>h.ptr
theorem aw {w:World} {k:Nat} {o:Obj} (h:w.heap[k]?=some o):k<w.heap.size:=by
 rcases Nat.lt_or_ge k w.heap.size with h'|h'
 ·exact h'
 ·rw[Array.getElem?_eq_none h']at h;cases h
theorem ib.same {KP KP' VP:Value->Prop} {w w':World} {b n:Nat} (h:ib KP VP w b n) (hs:∀ o,w.heap[b]?=some o->w'.heap[b]?=some o) (hv:∀ v,KP v->KP' v):ib KP' VP w' b n:=by
 obtain⟨es,clock,h1,h2,h3⟩:=h;exact⟨es,clock,hs _ h1,h2,fun x hx=>⟨hv _ (h3 x hx).1,(h3 x hx).2⟩⟩
theorem ib.vals {KP VP VP':Value->Prop} {w:World} {b n:Nat} (h:ib KP VP w b n) (hv:∀ v,VP v->VP' v):ib KP VP' w b n:=by
 obtain⟨es,clock,h1,h2,h3⟩:=h;exact⟨es,clock,h1,h2,fun x hx=>⟨(h3 x hx).1,hv _ (h3 x hx).2⟩⟩
def aE (w:World) (p m1 m2 n:Nat):Prop:=(m1≠m2)/\af w p 186 #[.map (some m1),.map (some m2)]/\(∃ n1,n1<=n/\ib (og w) zM w m1 n1)/\(∃ n2,n2<=n/\ib wP zM w m2 n2)
def KN (m1 m2:Nat) (k:Nat):Prop:=k=m1\/k=m2
theorem ib.is {KP VP:Value->Prop} {w:World} {b n:Nat} (h:ib KP VP w b n):∃ es c,w.heap[b]?=some (.map es c):=by
 obtain⟨es,clock,h1,_⟩:=h;exact⟨es,clock,h1⟩
theorem aE.cells {w:World} {p m1 m2 n:Nat} (h:aE w p m1 m2 n) {k:Nat} {cs:Array Value} {T:TypeId} {f:Nat×Nat} (hk:w.heap[k]?=some (Obj.cells cs T f)):¬KN m1 m2 k:=by
 obtain⟨_,_,⟨_,_,h1⟩,⟨_,_,h2⟩⟩:=h;obtain⟨_,_,e1⟩:=h1.is;obtain⟨_,_,e2⟩:=h2.is;rintro (rfl|rfl)
 ·rw[e1]at hk;cases hk
 ·rw[e2]at hk;cases hk
def qF (o:Obj):Prop:=(∀ c f,o≠Obj.cells c 5 f)/\(∀ c f,o≠Obj.cells c 189 f)
theorem qF.of_cells {c:Array Value} {T:TypeId} {f:Nat×Nat} (h1:T≠5) (h2:T≠189):qF (Obj.cells c T f):=⟨fun c' f' e=>h1 (Obj.cells.inj e).2.1,fun c' f' e=>h2 (Obj.cells.inj e).2.1⟩
theorem qF.of_map {es:Array MapEntry} {c:Nat}:qF (Obj.map es c):=⟨fun c' f' e=>Obj.noConfusion e,fun c' f' e=>Obj.noConfusion e⟩
def rS (w w':World):Prop:=∀ (k:Nat) (o:Obj),w.heap[k]?=some o->qF o->w'.heap[k]?=some o
theorem aE.same {w w':World} {p m1 m2 n:Nat} (h:aE w p m1 m2 n) (hs:rS w w'):aE w' p m1 m2 n:=by
 obtain⟨h0,h1,⟨n1,e1,h2⟩,⟨n2,e2,h3⟩⟩:=h;refine⟨h0,hs p _ h1 (qF.of_cells (by decide) (by decide)),⟨n1,e1,h2.same (fun o ho=>?_) ?_⟩,⟨n2,e2,h3.same (fun o ho=>?_) (fun v h=>h)⟩⟩
 ·obtain⟨_,_,e⟩:=h2.is;rw[e]at ho;cases ho;exact hs _ _ e qF.of_map
 ·rintro v ⟨b,o,cs,e,hb⟩;exact⟨b,o,cs,e,hs _ _ hb (qF.of_cells (by decide) (by decide))⟩
 ·obtain⟨_,_,e⟩:=h3.is;rw[e]at ho;cases ho;exact hs _ _ e qF.of_map
theorem em {w w':World} {b:Nat} (h:Lib.OthersKept 5 (some b) w w') (hb:∃ c f,w.heap[b]?=some (Obj.cells c 189 f)):rS w w':=fun k o hk h1=>
 h k o hk (fun e=>by
  obtain⟨c,f,hc⟩:=hb;have e':k=b:=Option.some.inj e;subst e';rw[hk]at hc;exact h1.2 c f (Option.some.inj hc)) h1.1
theorem jY {w w':World} (h:Below w.heap.size w w'):rS w w':=fun k o hk _=>(h.block k (aw hk)).trans hk
theorem BD.is {w:World} {B b n:Nat} (h:BD w B b n):∃ c f,w.heap[b]?=some (Obj.cells c 189 f):=by
 obtain⟨l,_,h|h⟩:=h
 ·obtain⟨_,v,h,_⟩:=h;exact⟨_,_,h⟩
 ·obtain⟨_,v,h,_⟩:=h;exact⟨_,_,h⟩
theorem aE.others {w w':World} {p m1 m2 n B b k:Nat} (h:aE w p m1 m2 n) (ho:Lib.OthersKept 5 (some b) w w') (hd:BD w B b k):aE w' p m1 m2 n:=h.same (em ho hd.is)
theorem aE.below {w w':World} {p m1 m2 n:Nat} (h:aE w p m1 m2 n) (hb:Below w.heap.size w w'):aE w' p m1 m2 n:=h.same (jY hb)
theorem aE.drew {w:World} {p m1 m2 n:Nat} (h:aE w p m1 m2 n):aE w.drew p m1 m2 n:=h.same fun _ _ h _=>h
theorem af.others {w w':World} {g B b k:Nat} {T:TypeId} {cs:Array Value} (h:af w g T cs) (h1:T≠5) (h2:T≠189) (ho:Lib.OthersKept 5 (some b) w w') (hd:BD w B b k):af w' g T cs:=
 em ho hd.is g _ h (qF.of_cells h1 h2)
theorem aE.mono {w:World} {p m1 m2 n n':Nat} (h:aE w p m1 m2 n) (hn:n<=n'):aE w p m1 m2 n':=by
 obtain⟨h0,h1,⟨n1,e1,h2⟩,⟨n2,e2,h3⟩⟩:=h;exact⟨h0,h1,⟨n1,by omega,h2⟩,⟨n2,by omega,h3⟩⟩
theorem aE.form {w:World} {p m1 m2 n:Nat} (h:aE w p m1 m2 n) (s:ByteArray):∃ (i:Int) (ok:Bool),an i/\(Instr.lookup 114 (.map (some m2)) (.string s) true).run Tryz.prog w=.ok (.tuple #[.int .i64 i,.bool ok]) w:=by
 obtain⟨_,_,_,⟨n2,_,h⟩⟩:=h;obtain⟨v,ok,⟨i,rfl,hi⟩,h1,_⟩:=jj (km w) (mt:=114) (by kernel_rfl) (z:=.int .i64 0) (Tryz.zeroValue3 w) ⟨0,rfl,by unfold an;omega⟩ (k:=.string s) ⟨s,rfl⟩ h;exact⟨i,ok,hi,h1⟩
theorem aE.node {w:World} {p m1 m2 n:Nat} (h:aE w p m1 m2 n) {k:Value} (hk:og w k):∃ (i:Int) (ok:Bool),an i/\(Instr.lookup 108 (.map (some m1)) k true).run Tryz.prog w=.ok (.tuple #[.int .i64 i,.bool ok]) w:=by
 obtain⟨_,_,⟨n1,_,h⟩,_⟩:=h;obtain⟨v,ok,⟨i,rfl,hi⟩,h1,_⟩:=jj (lX w) (mt:=108) (by kernel_rfl) (z:=.int .i64 0) (Tryz.zeroValue3 w) ⟨0,rfl,by unfold an;omega⟩ (k:=k) hk h;exact⟨i,ok,hi,h1⟩
theorem aE.putForm {w:World} {p m1 m2 n:Nat} (h:aE w p m1 m2 n) (s:ByteArray) {i:Int} (hi:an i):∃ w',(Instr.mapUpdate 114 (.map (some m2)) (.string s) (.int .i64 i)).run Tryz.prog w=.ok () w'/\aE w' p m1 m2 (n+1)/\ah (fun k=>k=m2) w w':=by
 have hc:=@aE.cells _ _ _ _ _ h;obtain⟨h0,h1,⟨n1,e1,h2⟩,⟨n2,e2,h3⟩⟩:=h;obtain⟨w',n',hr,hM,hn',hk⟩:=gZ (et:=3) (km w) (mt:=114) (by kernel_rfl) (k:=.string s) (v:=.int .i64 i) ⟨s,rfl⟩ ⟨i,rfl,hi⟩ h3;have kp:∀ k o,w.heap[k]?=some o->k≠m2->w'.heap[k]?=some o:=fun k o h h'=>(hk.block k (aw h) h').trans h;refine⟨w',hr,⟨h0,hk.blk h1 (fun e=>hc h1 (.inr e)),⟨n1,by omega,h2.same (fun o ho=>kp _ _ ho h0) ?_⟩,⟨n',by omega,hM⟩⟩,hk⟩;rintro v ⟨b,o,cs,e,hb⟩;exact⟨b,o,cs,e,kp _ _ hb (fun e=>hc hb (.inr e))⟩
theorem aE.putNode {w:World} {p m1 m2 n:Nat} (h:aE w p m1 m2 n) {k:Value} (hkey:og w k) {i:Int} (hi:an i):∃ w',(Instr.mapUpdate 108 (.map (some m1)) k (.int .i64 i)).run Tryz.prog w=.ok () w'/\aE w' p m1 m2 (n+1)/\ah (fun k=>k=m1) w w':=by
 have hc:=@aE.cells _ _ _ _ _ h;obtain⟨h0,h1,⟨n1,e1,h2⟩,⟨n2,e2,h3⟩⟩:=h;obtain⟨w',n',hr,hM,hn',hk⟩:=gZ (et:=3) (lX w) (mt:=108) (by kernel_rfl) (k:=k) (v:=.int .i64 i) hkey ⟨i,rfl,hi⟩ h2;have kp:∀ k o,w.heap[k]?=some o->k≠m1->w'.heap[k]?=some o:=fun k o h h'=>(hk.block k (aw h) h').trans h;refine⟨w',hr,⟨h0,hk.blk h1 (fun e=>hc h1 (.inl e)),⟨n',by omega,hM.same (fun o h=>h) ?_⟩,⟨n2,by omega,h3.same (fun o ho=>kp _ _ ho (fun e=>h0 e.symm)) (fun v h=>h)⟩⟩,hk⟩;rintro v ⟨b,o,cs,e,hb⟩;exact⟨b,o,cs,e,kp _ _ hb (fun e=>hc hb (.inl e))⟩
theorem aE.len {w:World} {p m1 m2 n:Nat} (h:aE w p m1 m2 n):∃ es c,w.heap[m2]?=some (.map es c)/\es.size<=n:=by
 obtain⟨_,_,_,⟨n2,e2,⟨es,c,h1,h2,_⟩⟩⟩:=h;exact⟨es,c,h1,by omega⟩
theorem BD.drew {w:World} {B b n:Nat} (h:BD w B b n):BD w.drew B b n:=h
theorem BD.le {w:World} {B b n m:Nat} (h:BD w B b n) (hn:n<=m):BD w B b m:=by
 obtain⟨l,h1,h2⟩:=h;exact⟨l,by omega,h2⟩
theorem BD.new (w:World):BD (w.alloc (.cells #[.pointer none,.slice none 0 0] 189)) w.heap.size w.heap.size 0:=
 ⟨[],Nat.le_refl _,.inl ⟨Nat.le_refl _,.slice none 0 0,af.new w _ _,World.ownsRowF_of (World.ownsRow_nil _ _ _ _),by simp[Value.ownBlock]⟩⟩
theorem ah.thenB {p:Nat->Prop} {w y y':World} {B:Nat} (h:ah p w y) (hb:Below B y y') (hB:w.heap.size<=B):ah p w y':=
 ⟨hb.os.trans h.os,hb.tape.trans h.tape,hb.output.trans h.output,Nat.le_trans h.size hb.size,fun k hk hp=>(hb.block k (by omega)).trans (h.block k hk hp)⟩
theorem aE.nsc {w:World} {p m1 m2 n:Nat} (h:aE w p m1 m2 n):w.cell? ⟨p,0,none⟩=some (.map (some m1))/\w.cell? ⟨p,1,none⟩=some (.map (some m2)):=⟨h.2.1.cell 0,h.2.1.cell 1⟩
theorem kP {w y:World} {B b m p m1 m2 n T:Nat} {cs:Array Value} (hd:BD y B b m) (hn:aE y p m1 m2 n) (ht:af y T 27 cs) (hB:B<=y.heap.size) (hk:ah (KN m1 m2) w y) (hw:w.heap.size<=B):
 Calls Tryz.prog 146 #[.pointer (some ⟨b,0,none⟩)] y fun e y'=>∃ (s:ByteArray) (i:Int) (ok:Bool),e=.returned (.string s)/\Hid (an i)/\(Instr.lookup 114 (.map (some m2)) (.string s) true).run Tryz.prog y'=.ok (.tuple #[.int .i64 i,.bool ok]) y'/\Hid (BD y' B b m)/\Hid (aE y' p m1 m2 n)/\Hid (af y' T 27 cs)/\Hid (B<=y'.heap.size/\ah (KN m1 m2) w y')/\(y'.cell? ⟨p,0,none⟩=some (.map (some m1))/\y'.cell? ⟨p,1,none⟩=some (.map (some m2))):=by
 refine (i7 B b m y hd hB).mono ?_;rintro e y' ⟨s,rfl,h1,h2,h3⟩;have hn':=hn.others h3 hd;obtain⟨i,ok,hi,hl⟩:=hn'.form s;exact⟨s,i,ok,rfl,hi,hl,h1,hn',ht.others (by decide) (by decide) h3 hd,⟨Nat.le_trans hB h2.size,hk.thenB h2 hw⟩,hn'.nsc⟩
theorem nO {w y:World} {B b m p m1 m2 n T:Nat} {cs:Array Value} (hd:BD y B b m) (hn:aE y p m1 m2 n) (ht:af y T 27 cs) (hB:B<=y.heap.size) (hk:ah (KN m1 m2) w y) (hw:w.heap.size<=B) {i:Int} (hi:an i):
 Calls Tryz.prog 146 #[.pointer (some ⟨b,0,none⟩)] y fun e y'=>∃ (s:ByteArray) (z:World),e=.returned (.string s)/\(Instr.mapUpdate 114 (.map (some m2)) (.string s) (.int .i64 i)).run Tryz.prog y'=.ok () z/\Hid (BD z B b m)/\Hid (aE z p m1 m2 (n+1))/\Hid (af z T 27 cs)/\Hid (B<=z.heap.size/\ah (KN m1 m2) w z)/\(y'.cell? ⟨p,0,none⟩=some (.map (some m1))/\y'.cell? ⟨p,1,none⟩=some (.map (some m2)))/\(z.cell? ⟨p,0,none⟩=some (.map (some m1))/\z.cell? ⟨p,1,none⟩=some (.map (some m2))):=by
 refine (i7 B b m y hd hB).mono ?_;rintro e y' ⟨s,rfl,h1,h2,h3⟩;have hn':=hn.others h3 hd;have ht':=ht.others (by decide) (by decide) h3 hd;obtain⟨z,hr,hz,hkz⟩:=hn'.putForm s hi;have hp:∀ k cs T f,y'.heap[k]?=some (Obj.cells cs T f)->¬k=m2:=fun k cs T f hc e=>hn'.cells hc (.inr e);exact⟨s,z,rfl,hr,h1.kept hkz hp,hz,hkz.blk ht' (hp _ _ _ _ ht'),⟨Nat.le_trans (Nat.le_trans hB h2.size) hkz.size,(hk.thenB h2 hw).trans (hkz.mono fun k e=>.inr e)⟩,hn'.nsc,hz.nsc⟩
mutual
def Tm.count:Tm->Nat
 |.mk _ _ _ _ args=>1+al args
def al:List Tm->Nat
 |[]=>0
 |t::l=>t.count+al l
end
theorem oO (l:List Tm) (t:Tm):al (l++[t])=al l+t.count:=by
 induction l with
 |nil=>simp[al]
 |cons x l ih=>simp only[List.cons_append,al,ih];omega
theorem di {α:Type} (l:List α) {j:Nat} (hj:j<l.length):l.take (j+1)=l.take j++[l[j]]:=by rw[List.take_succ_eq_append_getElem hj]
theorem bF (l:List Tm) {j:Nat} (hj:j<l.length):al (l.take (j+1))=al (l.take j)+(l[j]).count:=by rw[di l hj,oO]
theorem cW (l:List Tm) (j:Nat):al (l.take j)<=al l:=by
 induction l generalizing j with
 |nil=>simp[al]
 |cons x l ih=>
  cases j with
  |zero=>simp[al]
  |succ j=>simp only[List.take_succ_cons,al];have:=ih j;omega
theorem seven {cs:List Value} (h:cs.length=7):∃ c0 c1 c2 c3 c4 c5 c6,cs=[c0,c1,c2,c3,c4,c5,c6]:=by
 match cs,h with
 |[c0,c1,c2,c3,c4,c5,c6],_=>exact⟨c0,c1,c2,c3,c4,c5,c6,rfl⟩
theorem TC.form {w:World} {t:Tm} {cs:List Value} (h:TC w t cs):∃ k v s b A1 n1 c1 B1 m1 d1 Ar l cap,cs=[.int .i64 k,.int .i64 v,.string s,.bool b,.slice A1 n1 c1,.slice B1 m1 d1,.slice Ar l cap]:=by
 cases h with
 |mk k v s n args A B Ar cap cs hk hv hs hA hB hn hcap hm hr ha=>
  obtain⟨A1,c1,rfl,_⟩:=hA;obtain⟨B1,d1,rfl,_⟩:=hB;exact⟨k,v,s,n.neg,A1,_,c1,B1,_,d1,Ar,_,cap,rfl⟩
theorem aO {w W:World} {args:List Tm} {Ar:Option Addr} {cs:Nat->List Value} (hr:0<args.length->∃ b o,Ar=some ⟨b,o,none⟩/\b<w.heap.size/\∀ i,i<args.length->∀ j,j<7->w.cell? ⟨b,o+i*7+j,none⟩=(cs i)[j]?)
 (ha:∀ i (h:i<args.length),TC w args[i] (cs i)) (hb:Below w.heap.size w W) {j:Nat} (hj:j<args.length):
 ∃ b o k v s ng A1 n1 c1 B1 m1 d1 Xr l cap,Ar=some ⟨b,o,none⟩/\cs j=[.int .i64 k,.int .i64 v,.string s,.bool ng,.slice A1 n1 c1,.slice B1 m1 d1,.slice Xr l cap]/\b<w.heap.size/\
  W.cell? ⟨b,o+j*7,none⟩=some (.int .i64 k)/\W.cell? ⟨b,o+j*7+1,none⟩=some (.int .i64 v)/\W.cell? ⟨b,o+j*7+2,none⟩=some (.string s)/\W.cell? ⟨b,o+j*7+3,none⟩=some (.bool ng)/\
  W.cell? ⟨b,o+j*7+4,none⟩=some (.slice A1 n1 c1)/\W.cell? ⟨b,o+j*7+5,none⟩=some (.slice B1 m1 d1)/\W.cell? ⟨b,o+j*7+6,none⟩=some (.slice Xr l cap):=by
 obtain⟨b,o,e,hlt,hc⟩:=hr (by omega);obtain⟨k,v,s,ng,A1,n1,c1,B1,m1,d1,Xr,l,cap,hf⟩:=(ha j hj).form;have h:=fun q (hq:q<7)=>(hb.cell (p:=⟨b,o+j*7+q,none⟩) hlt).trans (hc j hj q hq);rw[hf]at h;exact⟨b,o,k,v,s,ng,A1,n1,c1,B1,m1,d1,Xr,l,cap,e,hf,hlt,h 0 (by omega),h 1 (by omega),h 2 (by omega),h 3 (by omega),h 4 (by omega),h 5 (by omega),h 6 (by omega)⟩
theorem wm {w:World} {t:Tm} {cs:List Value} (h:TC w t cs):∀ (W:World) (most:Nat),Below w.heap.size w W->most<=1000000->
 Calls Tryz.prog 45 #[.agg cs.toArray,.int .i64 (most:Int)] W fun e W'=>e=.returned (.int .i64 ((min t.count (most+1):Nat):Int))/\Below W.heap.size W W':=by
 induction h with
 |mk k v s n args A B Ar cap cs hk hv hs hA hB hn hcap hm hr ha ih=>
  intro W most hW hmost;have HR:=zH hr;have HA:=zH ha;have IH:=zH ih;have HCT:Hid ((Tm.mk k v s n args).count=1+al args):=rfl;unfold maxLen at hm;have HWB:=zH hW;generalize (Tm.mk k v s n args).count=ct at*;generalize n.neg=ng at*;obtain⟨A1,q1,rfl,_⟩:=hA;obtain⟨B1,q2,rfl,_⟩:=hB;generalize n.num.length=m1 at*;generalize n.den.length=m2 at*;clear hr ha ih hn hk hv hs hW;obtain⟨l,hl⟩:∃ l,args.length=l:=⟨_,rfl⟩;rw[hl]at hcap ⊢;have HL:=zH hl;clear hl;have HBA:=zH (I W (.cells #[.int .i64 k,.int .i64 v,.string s,.bool ng,.slice A1 m1 q1,.slice B1 m2 q2,.slice Ar l cap] 27));go_enter Tryz.func45,Tryz.ntmps45;go_wp2_with fail
  go_loopg [5,11] l (fun gk s5 s11 wr=>∃ j c:Nat,gk+j=l/\s11=.int .i64 (j:Int)/\s5=.int .i64 (c:Int)/\c<=most+1/\Hid (c=min (1+al (args.take j)) (most+1))/\Hid (Below W.heap.size W wr))
  case atStart=>exact⟨0,1,by omega,rfl,rfl,by omega,by unfold Hid;rw[List.take_zero];simp only[al];omega,HBA.out⟩
  case round=>
   obtain⟨j,c,hgj,rfl,rfl,hcm,HC,HB⟩:=hrel;by_cases hj:j<l
   ·have hja:j<args.length:=by rw[HL.out];exact hj
    have HBW:=HWB.out.trans (HB.out.mono HWB.out.size);obtain⟨b,o,k',v',s',ng',A2,n2,c2,B2,m3,d2,Xr,xl,xc,hAr,hcs,hlt,e0,e1,e2,e3,e4,e5,e6⟩:=aO HR.out HA.out HBW hja;subst hAr;by_cases hc:most<c
    ·go_wp2_with fail;go_ret;have h1:=cW args j;have h2:=HC.out;have h3:=HCT.out;refine⟨?_,HB.out.alloc HB.out.size _⟩;have e:min ct (most+1)=most+1:=by omega
     rw[e];rfl
    ·have hsub:((most:Int)-(c:Int))=((most-c:Nat):Int):=by omega
     have HCALL:Hid (∀ W',Below wr.heap.size wr W'->Calls Tryz.prog 45 #[.agg #[.int .i64 k',.int .i64 v',.string s',.bool ng',.slice A2 n2 c2,.slice B2 m3 d2,.slice Xr xl xc],.int .i64 ((most:Int)-(c:Int))] W' fun e w'=>e=.returned (.int .i64 ((min (args[j]).count (most-c+1):Nat):Int))/\Below W'.heap.size W' w'):=fun W' hb=>by
      have:=IH.out j hja W' (most-c) (HBW.trans (hb.mono HBW.size)) (by omega);rw[hcs]at this;rw[hsub];exact this
     clear hsub;go_wp2_with fail;refine (HCALL.out _ (by exact I _ _)).mono ?_;rintro e w3 ⟨rfl,hb⟩;have HB3:=zH (HB.out.trans (((I wr (.cells #[.int .i64 k',.int .i64 v',.string s',.bool ng',.slice A2 n2 c2,.slice B2 m3 d2,.slice Xr xl xc] 27)).trans (hb.mono (I wr _).size)).mono HB.out.size));have h1:=bF args hja;generalize (args[j]).count=cj at*;have h2:=HC.out;obtain⟨z,hz,HZ⟩:∃ z:Nat,(min cj (most-c+1):Nat)=z/\Hid (c+z=min (1+al (args.take (j+1))) (most+1))/\c+z<=most+1:=⟨_,rfl,by show _=_;rw[h1];omega,by omega⟩;have hzb:=HZ.2;have HZ:=HZ.1;rw[hz];clear hz h1 h2 hb e0 e1 e2 e3 e4 e5 e6 HCALL;go_wp2_with fail
     go_roundg (gk-1)
     case measure=>omega
     case rel=>exact⟨j+1,c+z,by omega,by go_num,by go_num,hzb,HZ,HB3.out⟩
   ·obtain rfl:j=l:=by omega
    have h2:=HC.out;rw[List.take_of_length_le (by rw[HL.out];exact Nat.le_refl _),<-HCT.out]at h2;have hmin:min (c:Int) ((most:Int)+1)=(c:Int):=by omega
    subst h2;go_wp2_with fail;go_ret;exact⟨rfl,HB.out⟩
end Go.Proofs.YtlhojoefhannnaaGreat
namespace Go.Proofs.YtlhojoefhannnaaGreat
open Go Go.RowKit
section
variable {P:Program} {ops:Array Oper} {Q:Exit->Act->World->Prop} {md:Region.Mode} {S:World->Prop}
def uQ (P:Program) (md:Region.Mode) (ops:Array Oper) (Q:Exit->Act->World->Prop) (Inv:(Nat->Bool)->Act->World->Prop) (i:Nat) (o:Oper):Prop:=
 ∀ (L:Nat->Bool) (a:Act) (w:World),Inv L a w->L i=false->(∀ e∈o.after,Region.binds md e=true->L e.on=true)->
  ∀ K:Act->World->Prop,Shut (∀ a' w',Inv (fun j=>j==i||L j) a' w'->K a' w')->if Region.wanted o (yielded ops a.tmps)=true then Oper.wp P o a w K Q else K (a.put o.dst undef) w
def aN (P:Program) (md:Region.Mode) (ops:Array Oper) (Q:Exit->Act->World->Prop) (Inv:(Nat->Bool)->Act->World->Prop) (rs:List Nat):Prop:=
 ∀ i∈rs,∀ o,ops[i]?=some o->uQ P md ops Q Inv i o
theorem aN.nil {Inv:(Nat->Bool)->Act->World->Prop}:aN P md ops Q Inv []:=fun _ h=>by cases h
theorem aN.cons {Inv:(Nat->Bool)->Act->World->Prop} {i:Nat} {o:Oper} {rs:List Nat} (ho:ops[i]?=some o) (h:uQ P md ops Q Inv i o) (hs:aN P md ops Q Inv rs):aN P md ops Q Inv (i::rs):=fun j hj o' ho'=>by
 rcases List.mem_cons.1 hj with rfl|hj
 ·rw[ho]at ho';cases ho';exact h
 ·exact hs j hj o' ho'
def l9 (n:Nat) (listed:Array Bool):Nat:=((List.range n).filter fun i=>!listed.getD i false).length
theorem gA (listed:Array Bool) (i j:Nat) (hi:i<listed.size):(listed.setIfInBounds i true).getD j false=(j==i||listed.getD j false):=by
 by_cases h:j=i
 ·subst h;simp[hi]
 ·simp[Array.getElem?_setIfInBounds_ne (Ne.symm h),h]
theorem lR {p q:Nat->Bool}:∀ {l:List Nat} {i:Nat},i∈l->q i=false->p i=true->(∀ j,q j=true->p j=true)->(l.filter q).length<(l.filter p).length
 |x::l,i,hi,hq,hp,hle=>by
  have hmono:∀ l:List Nat,(l.filter q).length<=(l.filter p).length:=fun l=>by
   induction l with
   |nil=>simp
   |cons y l ih=>
    simp only[List.filter_cons];by_cases h1:q y=true
    ·simp[h1,hle y h1];exact ih
    ·by_cases h2:p y=true
     ·simp[h1,h2];omega
     ·simp[h1,h2];exact ih
  rcases List.mem_cons.1 hi with rfl|hi
  ·have:=hmono l;simp[List.filter_cons,hq,hp];omega
  ·have ih:=lR hi hq hp hle;simp only[List.filter_cons];by_cases h1:q x=true
   ·simp[h1,hle x h1];exact ih
   ·by_cases h2:p x=true
    ·simp[h1,h2];omega
    ·simp[h1,h2];exact ih
def mY (md:Region.Mode) (ops:Array Oper):Bool:=(List.range ops.size).all fun i=>((ops[i]?).map fun o=>o.after.all fun e=>!Region.binds md e||decide (e.on<i)).getD true
theorem mP {listed:Array Bool} (he:mY md ops=true) (hsz:listed.size=ops.size) (hr:Region.ready md ops listed=[]):∀ i,i<ops.size->listed.getD i false=true:=by
 intro i
 induction i using Nat.strongRecOn with
 |_ i ih=>
  intro hi;rcases hb:listed.getD i false with _|_
  ·exfalso;have hmem:i∈Region.ready md ops listed:=by
    refine mem_ready.2 ⟨?_,ops[i],by simp[hi],fun e hee hbd=>?_⟩
    ·have:i<listed.size:=by omega
     simp[this]at hb ⊢;exact hb
    ·have h1:=List.all_eq_true.1 he i (List.mem_range.2 hi);simp only[hi,Array.getElem?_eq_getElem,Option.map_some,Option.getD_some]at h1;have h2:=Array.all_eq_true'.1 h1 e hee;have h3:e.on<i:=by simpa[hbd] using h2
     exact ih e.on h3 (by omega)
   rw[hr]at hmem;cases hmem
  ·rfl
theorem rP (rs:List Nat) (Inv:(Nat->Bool)->Act->World->Prop) (hS:∀ L a w,Inv L a w->S w)
 (he:mY md ops=true) (hsteps:aN P md ops Q Inv rs) (hdone:∀ L a w,Inv L a w->(∀ i,i<ops.size->L i=true)->Q .normal a w):
 ∀ (fuel:Nat) (listed:Array Bool) (a:Act) (w:World),listed.size=ops.size->(∀ i,i<ops.size->listed.getD i false=false->i∈rs)->l9 ops.size listed<=fuel->Inv (fun j=>listed.getD j false) a w->wpAnyH P md ops Q S fuel listed a w:=by
 intro fuel
 induction fuel with
 |zero=>
  intro listed a w hsz hrs hl hI;have hall:∀ i,i<ops.size->listed.getD i false=true:=fun i hi=>by
   rcases hb:listed.getD i false with _|_
   ·exfalso;have:i∈(List.range ops.size).filter fun i=>!listed.getD i false:=List.mem_filter.2 ⟨List.mem_range.2 hi,by rw[hb];rfl⟩;have:=List.length_pos_of_mem this;unfold l9 at hl;omega
   ·rfl
  have hr:Region.ready md ops listed=[]:=by
   refine List.eq_nil_iff_forall_not_mem.2 fun i hi=>?_;obtain⟨h1,o,ho,_⟩:=mem_ready.1 hi;have hlt:i<ops.size:=by
    rcases Nat.lt_or_ge i ops.size with h|h
    ·exact h
    ·rw[Array.getElem?_eq_none h]at ho;cases ho
   have h2:=hall i hlt;have h3:i<listed.size:=by omega
   simp[h3]at h1 h2;rw[h1]at h2;cases h2
  exact⟨hr,hdone _ a w hI hall⟩
 |succ fuel ih=>
  intro listed a w hsz hrs hl hI;refine⟨fun hr=>hdone _ a w hI (mP he hsz hr),fun i hi=>?_⟩;obtain⟨h1,o,ho,hdep⟩:=mem_ready.1 hi;have hlt:i<ops.size:=by
   rcases Nat.lt_or_ge i ops.size with h|h
   ·exact h
   ·rw[Array.getElem?_eq_none h]at ho;cases ho
  have hlf:listed.getD i false=false:=by
   have h3:i<listed.size:=by omega
   simp[h3]at h1 ⊢;exact h1
  have hmem:=hrs i hlt hlf;have hfun:(fun j=>(listed.setIfInBounds i true).getD j false)=fun j=>j==i||listed.getD j false:=funext fun j=>gA listed i j (by omega);refine wpOp_step ho (fun K hK=>hsteps i hmem o ho (fun j=>listed.getD j false) a w hI hlf hdep K ?_);intro a' w' hI';refine hK a' w' ⟨hS _ _ _ hI',ih _ a' w' (by simp[hsz]) (fun j hj hjf=>hrs j hj ?_) ?_ (by rw[hfun];exact hI')⟩
  ·rw[gA listed i j (by omega)]at hjf;simp only[Bool.or_eq_false_iff]at hjf;exact hjf.2
  ·have:l9 ops.size (listed.setIfInBounds i true)<l9 ops.size listed:=by
    unfold l9;refine lR (i:=i) (List.mem_range.2 hlt) ?_ ?_ ?_
    ·rw[gA listed i i (by omega)];simp
    ·rw[hlf];rfl
    ·intro j hj;rw[gA listed i j (by omega)]at hj;simp only[Bool.not_or,Bool.and_eq_true]at hj;exact hj.2
   omega
theorem gw (rs:List Nat) (Inv:Act->(Nat->Bool)->Act->World->Prop) {fuel:Nat} {listed:Array Bool} {a0:Act} {w:World} (hsz:listed.size=ops.size) (hrs:((List.range ops.size).all fun i=>listed.getD i false||rs.contains i)=true) (hf:l9 ops.size listed<=fuel) (he:mY md ops=true)
 (hS:∀ L a w,Inv a0 L a w->S w) (hi:Inv a0 (fun j=>listed.getD j false) a0 w) (hsteps:aN P md ops Q (Inv a0) rs) (hdone:∀ L a w,Inv a0 L a w->(∀ i,i<ops.size->L i=true)->Q .normal a w):
 wpAnyH P md ops Q S fuel listed a0 w:=
 rP rs (Inv a0) hS he hsteps hdone fuel listed a0 w hsz (fun i hi hf=>by
  have:=List.all_eq_true.1 hrs i (List.mem_range.2 hi);rw[hf]at this;simpa using this) hf hi
end
end Go.Proofs.YtlhojoefhannnaaGreat
namespace Go.Proofs.YtlhojoefhannnaaGreat
open Go.RowKit NumB
theorem f9 {w w':World} {B n size:Nat} {e:TypeId} {v:Value} {xs:List Value} (hr:w.ownsRow B e size v n xs) (hb:Below w.heap.size w w'):w'.ownsRow B e size v n xs:=by
 obtain⟨h1,h2|⟨g,cap,cur,rfl,h3,h4,h5⟩⟩:=hr
 ·exact⟨h1,.inl h2⟩
 ·refine⟨h1,.inr ⟨g,cap,cur,rfl,h3,?_,h5⟩⟩;have hg:g<w.heap.size:=by
   rcases Nat.lt_or_ge g w.heap.size with h|h
   ·exact h
   ·rw[Array.getElem?_eq_none h]at h4;cases h4
  exact (hb.block g hg).trans h4
theorem eo {w:World} {B n size T i:Nat} {e:TypeId} {v u:Value} {xs:List Value} (hr:w.ownsRow B e size v n xs) (hT:T<B):(w.setCell ⟨T,i,none⟩ u).ownsRow B e size v n xs:=by
 obtain⟨h1,h2|⟨g,cap,cur,rfl,h3,h4,h5⟩⟩:=hr
 ·exact⟨h1,.inl h2⟩
 ·exact⟨h1,.inr ⟨g,cap,cur,rfl,h3,(Below.heap_setCell w ⟨T,i,none⟩ u g (by show g≠T;omega)).trans h4,h5⟩⟩
theorem bj {w:World} {B n size:Nat} {e:TypeId} {v:Value} {xs:List Value} (hr:w.ownsRow B e size v n xs):∃ A c,v=.slice A n c:=by
 rcases hr.2 with ⟨h,h0⟩|⟨g,cap,cur,h,_⟩
 ·subst h0;exact⟨none,0,h⟩
 ·exact⟨_,cap,h⟩
def aG (W:World) (T:Nat) (c0 c1 c2 c3 a b c6:Value) (xs ys:List Nat) (L:Nat->Bool) (s8 s9 s12 s13 s14 s15 s16 s17:Value) (W':World):Prop:=
 (ah (fun k=>k=T) W W'/\T<W.heap.size)/\af W' T 27 #[c0,c1,c2,c3,if L 10 then s9 else a,if L 13 then s13 else b,c6]/\
 (L 2=true->s8=a)/\(L 6=true->s12=b)/\(L 3=true->aK .u32 82 W' W.heap.size s9 xs)/\(L 7=true->aK .u32 82 W' W.heap.size s13 ys)/\
 (L 8=true->s14=.pointer (some ⟨T,3,none⟩))/\(L 9=true->s15=.pointer (some ⟨T,4,none⟩))/\(L 11=true->s16=.pointer (some ⟨T,3,none⟩))/\(L 12=true->s17=.pointer (some ⟨T,5,none⟩))/\
 (L 10=true->L 2=true/\L 3=true)/\(L 13=true->L 6=true/\L 7=true)
section
variable {W W' W2:World} {T:Nat} {c0 c1 c2 c3 a b c6:Value} {xs ys:List Nat} {L:Nat->Bool} {s8 s9 s12 s13 s14 s15 s16 s17:Value}
theorem aG.call3 (h:aG W T c0 c1 c2 c3 a b c6 xs ys L s8 s9 s12 s13 s14 s15 s16 s17 W') (hL:L 3=false) (hb:Below W'.heap.size W' W2) {v:Value} (hv:aK .u32 82 W2 W.heap.size v xs):aG W T c0 c1 c2 c3 a b c6 xs ys (fun j=>j==3||L j) s8 v s12 s13 s14 s15 s16 s17 W2:=by
 obtain⟨h1,h2,h3,h4,h5,h6,h7,h8,h9,h10,h11,h12⟩:=h;have n10:L 10=false:=by cases hh:L 10 with
  |false=>rfl
  |true=>have:=(h11 hh).2;rw[hL]at this;cases this
 rw[n10]at h2;refine⟨⟨h1.1.trans (ah.of_below hb),h1.2⟩,?_,h3,h4,fun _=>hv,fun h=>f9 (h6 h) hb,h7,h8,h9,h10,fun h=>absurd (n10.symm.trans h) (by simp),h12⟩;show af W2 _ _ #[c0,c1,c2,c3,if (false||L 10) then v else a,if (false||L 13) then s13 else b,c6];rw[Bool.false_or,Bool.false_or,n10];exact h2.to hb
theorem aG.call7 (h:aG W T c0 c1 c2 c3 a b c6 xs ys L s8 s9 s12 s13 s14 s15 s16 s17 W') (hL:L 7=false) (hb:Below W'.heap.size W' W2) {v:Value} (hv:aK .u32 82 W2 W.heap.size v ys):aG W T c0 c1 c2 c3 a b c6 xs ys (fun j=>j==7||L j) s8 s9 s12 v s14 s15 s16 s17 W2:=by
 obtain⟨h1,h2,h3,h4,h5,h6,h7,h8,h9,h10,h11,h12⟩:=h;have n13:L 13=false:=by cases hh:L 13 with
  |false=>rfl
  |true=>have:=(h12 hh).2;rw[hL]at this;cases this
 rw[n13]at h2;refine⟨⟨h1.1.trans (ah.of_below hb),h1.2⟩,?_,h3,h4,fun h=>f9 (h5 h) hb,fun _=>hv,h7,h8,h9,h10,h11,fun h=>absurd (n13.symm.trans h) (by simp)⟩;show af W2 _ _ #[c0,c1,c2,c3,if (false||L 10) then s9 else a,if (false||L 13) then v else b,c6];rw[Bool.false_or,Bool.false_or,n13];exact h2.to hb
theorem aG.store10 (h:aG W T c0 c1 c2 c3 a b c6 xs ys L s8 s9 s12 s13 s14 s15 s16 s17 W') (hL2:L 2=true) (hL3:L 3=true):aG W T c0 c1 c2 c3 a b c6 xs ys (fun j=>j==10||L j) s8 s9 s12 s13 s14 s15 s16 s17 (W'.setCell ⟨T,4,none⟩ s9):=by
 obtain⟨h1,h2,h3,h4,h5,h6,h7,h8,h9,h10,h11,h12⟩:=h;refine⟨⟨h1.1.trans (ah.setCell W' ⟨T,4,none⟩ _),h1.2⟩,?_,h3,h4,fun h=>eo (h5 h) h1.2,fun h=>eo (h6 h) h1.2,h7,h8,h9,h10,fun _=>⟨hL2,hL3⟩,h12⟩;have:=h2.set_ 4 s9;simpa using this
theorem aG.store13 (h:aG W T c0 c1 c2 c3 a b c6 xs ys L s8 s9 s12 s13 s14 s15 s16 s17 W') (hL6:L 6=true) (hL7:L 7=true):aG W T c0 c1 c2 c3 a b c6 xs ys (fun j=>j==13||L j) s8 s9 s12 s13 s14 s15 s16 s17 (W'.setCell ⟨T,5,none⟩ s13):=by
 obtain⟨h1,h2,h3,h4,h5,h6,h7,h8,h9,h10,h11,h12⟩:=h;refine⟨⟨h1.1.trans (ah.setCell W' ⟨T,5,none⟩ _),h1.2⟩,?_,h3,h4,fun h=>eo (h5 h) h1.2,fun h=>eo (h6 h) h1.2,h7,h8,h9,h10,h11,fun _=>⟨hL6,hL7⟩⟩;have:=h2.set_ 5 s13;simpa using this
theorem aG.load2 (h:aG W T c0 c1 c2 c3 a b c6 xs ys L s8 s9 s12 s13 s14 s15 s16 s17 W'):aG W T c0 c1 c2 c3 a b c6 xs ys (fun j=>j==2||L j) a s9 s12 s13 s14 s15 s16 s17 W':=by
 obtain⟨h1,h2,h3,h4,h5,h6,h7,h8,h9,h10,h11,h12⟩:=h;exact⟨h1,h2,fun _=>rfl,h4,h5,h6,h7,h8,h9,h10,fun h=>⟨rfl,(h11 h).2⟩,h12⟩
theorem aG.load6 (h:aG W T c0 c1 c2 c3 a b c6 xs ys L s8 s9 s12 s13 s14 s15 s16 s17 W'):aG W T c0 c1 c2 c3 a b c6 xs ys (fun j=>j==6||L j) s8 s9 b s13 s14 s15 s16 s17 W':=by
 obtain⟨h1,h2,h3,h4,h5,h6,h7,h8,h9,h10,h11,h12⟩:=h;exact⟨h1,h2,h3,fun _=>rfl,h5,h6,h7,h8,h9,h10,h11,fun h=>⟨rfl,(h12 h).2⟩⟩
theorem aG.cell4 (h:aG W T c0 c1 c2 c3 a b c6 xs ys L s8 s9 s12 s13 s14 s15 s16 s17 W') (hL:L 2=false):W'.cell? ⟨T,4,none⟩=some a:=by
 obtain⟨h1,h2,h3,h4,h5,h6,h7,h8,h9,h10,h11,h12⟩:=h;have n10:L 10=false:=by cases hh:L 10 with
  |false=>rfl
  |true=>have:=(h11 hh).1;rw[hL]at this;cases this
 rw[n10]at h2;exact h2.cell 4
theorem aG.cell5 (h:aG W T c0 c1 c2 c3 a b c6 xs ys L s8 s9 s12 s13 s14 s15 s16 s17 W') (hL:L 6=false):W'.cell? ⟨T,5,none⟩=some b:=by
 obtain⟨h1,h2,h3,h4,h5,h6,h7,h8,h9,h10,h11,h12⟩:=h;have n13:L 13=false:=by cases hh:L 13 with
  |false=>rfl
  |true=>have:=(h12 hh).1;rw[hL]at this;cases this
 rw[n13]at h2;exact h2.cell 5
theorem aG.addr8 (h:aG W T c0 c1 c2 c3 a b c6 xs ys L s8 s9 s12 s13 s14 s15 s16 s17 W'):aG W T c0 c1 c2 c3 a b c6 xs ys (fun j=>j==8||L j) s8 s9 s12 s13 (.pointer (some ⟨T,3,none⟩)) s15 s16 s17 W':=by
 obtain⟨h1,h2,h3,h4,h5,h6,h7,h8,h9,h10,h11,h12⟩:=h;exact⟨h1,h2,h3,h4,h5,h6,fun _=>rfl,h8,h9,h10,h11,h12⟩
theorem aG.addr9 (h:aG W T c0 c1 c2 c3 a b c6 xs ys L s8 s9 s12 s13 s14 s15 s16 s17 W'):aG W T c0 c1 c2 c3 a b c6 xs ys (fun j=>j==9||L j) s8 s9 s12 s13 s14 (.pointer (some ⟨T,4,none⟩)) s16 s17 W':=by
 obtain⟨h1,h2,h3,h4,h5,h6,h7,h8,h9,h10,h11,h12⟩:=h;exact⟨h1,h2,h3,h4,h5,h6,h7,fun _=>rfl,h9,h10,h11,h12⟩
theorem aG.addr11 (h:aG W T c0 c1 c2 c3 a b c6 xs ys L s8 s9 s12 s13 s14 s15 s16 s17 W'):aG W T c0 c1 c2 c3 a b c6 xs ys (fun j=>j==11||L j) s8 s9 s12 s13 s14 s15 (.pointer (some ⟨T,3,none⟩)) s17 W':=by
 obtain⟨h1,h2,h3,h4,h5,h6,h7,h8,h9,h10,h11,h12⟩:=h;exact⟨h1,h2,h3,h4,h5,h6,h7,h8,fun _=>rfl,h10,h11,h12⟩
theorem aG.addr12 (h:aG W T c0 c1 c2 c3 a b c6 xs ys L s8 s9 s12 s13 s14 s15 s16 s17 W'):aG W T c0 c1 c2 c3 a b c6 xs ys (fun j=>j==12||L j) s8 s9 s12 s13 s14 s15 s16 (.pointer (some ⟨T,5,none⟩)) W':=by
 obtain⟨h1,h2,h3,h4,h5,h6,h7,h8,h9,h10,h11,h12⟩:=h;exact⟨h1,h2,h3,h4,h5,h6,h7,h8,h9,fun _=>rfl,h11,h12⟩
theorem aG.done (h:aG W T c0 c1 c2 c3 a b c6 xs ys L s8 s9 s12 s13 s14 s15 s16 s17 W') (hall:∀ i,i<14->L i=true):ah (fun k=>k=T) W W'/\af W' T 27 #[c0,c1,c2,c3,s9,s13,c6]/\aK .u32 82 W' W.heap.size s9 xs/\aK .u32 82 W' W.heap.size s13 ys:=by
 obtain⟨h1,h2,h3,h4,h5,h6,h7,h8,h9,h10,h11,h12⟩:=h;rw[hall 10 (by omega),hall 13 (by omega)]at h2;exact⟨h1.1,h2,h5 (hall 3 (by omega)),h6 (hall 7 (by omega))⟩
end
def dP (ts:List (Option TypeId)) (o:Obj):Prop:=(∀ c T f,o=Obj.cells c T f->some T∉ts)/\(none∈ts->∀ es c,o≠Obj.map es c)
def ar (ts:List (Option TypeId)) (w w':World):Prop:=∀ (k:Nat) (o:Obj),w.heap[k]?=some o->dP ts o->w'.heap[k]?=some o
theorem ar.refl (ts:List (Option TypeId)) (w:World):ar ts w w:=fun _ _ h _=>h
theorem ar.trans {ts:List (Option TypeId)} {a b c:World} (h:ar ts a b) (k:ar ts b c):ar ts a c:=fun i o hi ho=>k i o (h i o hi ho) ho
theorem ar.mono {ts ts':List (Option TypeId)} {a b:World} (h:ar ts a b) (hs:∀ t∈ts,t∈ts'):ar ts' a b:=fun i o hi ho=>h i o hi ⟨fun c T f e hm=>ho.1 c T f e (hs _ hm),fun hm=>ho.2 (hs _ hm)⟩
theorem ar.of_below {ts:List (Option TypeId)} {a b:World} (h:Below a.heap.size a b):ar ts a b:=fun k o hk _=>(h.block k (aw hk)).trans hk
theorem ar.drew {ts:List (Option TypeId)} {a b:World} (h:ar ts a b):ar ts a b.drew:=h
theorem ar.setCell {ts:List (Option TypeId)} {a b:World} (h:ar ts a b) {p:Addr} {cs:Array Value} {T:TypeId} {f:Nat×Nat} (hp:b.heap[p.block]?=some (Obj.cells cs T f)) (hT:some T∈ts) (u:Value):ar ts a (b.setCell p u):=fun k o hk ho=>by
 have h1:=h k o hk ho;have hne:k≠p.block:=fun e=>by subst e;rw[hp]at h1;exact ho.1 cs T f (Option.some.inj h1).symm hT
 exact (Below.heap_setCell b p u k hne).trans h1
theorem ar.grown {ts:List (Option TypeId)} {a b c:World} (h:ar ts a b) {row:Option Nat} (hg:b.grownBy c row) (hr:∀ g,row=some g->∃ cs T f,b.heap[g]?=some (Obj.cells cs T f)/\some T∈ts):ar ts a c:=fun k o hk ho=>by
 have h1:=h k o hk ho;refine (hg.block k (aw h1) fun e=>?_).trans h1;obtain⟨cs,T,f,hc,hT⟩:=hr k e.symm;rw[h1]at hc;exact ho.1 cs T f (Option.some.inj hc) hT
theorem ar.kept {ts:List (Option TypeId)} {a b c:World} {p:Nat->Prop} (h:ar ts a b) (hk:ah p b c) (hp:∀ k,p k->∀ o,b.heap[k]?=some o->¬dP ts o):ar ts a c:=fun k o hk' ho=>by
 have h1:=h k o hk' ho;exact (hk.block k (aw h1) fun e=>hp k e o h1 ho).trans h1
theorem dP.cells {ts:List (Option TypeId)} {cs:Array Value} {T:TypeId} {f:Nat×Nat} (h:some T∉ts):dP ts (Obj.cells cs T f):=⟨fun c T' f' e=>by cases e;exact h,fun _ es c e=>Obj.noConfusion e⟩
theorem dP.map {ts:List (Option TypeId)} {es:Array MapEntry} {c:Nat} (h:none∉ts):dP ts (Obj.map es c):=⟨fun c T' f' e=>Obj.noConfusion e,fun hm=>absurd hm h⟩
theorem af.frT {ts:List (Option TypeId)} {w w':World} {g:Nat} {T:TypeId} {cs:Array Value} (hk:af w g T cs) (h:ar ts w w') (hT:some T∉ts):af w' g T cs:=h g _ hk (dP.cells hT)
theorem av {ts:List (Option TypeId)} {w w':World} {B n size:Nat} {e:TypeId} {v:Value} {xs:List Value} (hr:w.ownsRow B e size v n xs) (h:ar ts w w') (hT:some e∉ts):w'.ownsRow B e size v n xs:=by
 obtain⟨h1,h2|⟨g,cap,cur,rfl,h3,h4,h5⟩⟩:=hr
 ·exact⟨h1,.inl h2⟩
 ·exact⟨h1,.inr ⟨g,cap,cur,rfl,h3,h g _ h4 (dP.cells hT),h5⟩⟩
theorem aE.frT {ts:List (Option TypeId)} {w w':World} {p m1 m2 n:Nat} (hn:aE w p m1 m2 n) (h:ar ts w w') (h0:none∉ts) (h1:some 186∉ts) (h2:some 27∉ts):aE w' p m1 m2 n:=by
 obtain⟨a0,a1,⟨n1,e1,a2⟩,⟨n2,e2,a3⟩⟩:=hn;refine⟨a0,a1.frT h h1,⟨n1,e1,a2.same (fun o ho=>?_) ?_⟩,⟨n2,e2,a3.same (fun o ho=>?_) (fun v h=>h)⟩⟩
 ·obtain⟨_,_,e⟩:=a2.is;rw[e]at ho;cases ho;exact h _ _ e (dP.map h0)
 ·rintro v ⟨b,o,cs,e,hb⟩;exact⟨b,o,cs,e,h _ _ hb (dP.cells h2)⟩
 ·obtain⟨_,_,e⟩:=a3.is;rw[e]at ho;cases ho;exact h _ _ e (dP.map h0)
theorem aE.frame {ts:List (Option TypeId)} {w w':World} {p m1 m2 n:Nat} (hn:aE w p m1 m2 n) (hk:ah (KN m1 m2) w w') (h0:none∈ts):ar ts w w':=(ar.refl ts w).kept hk fun k e o ho hno=>by
 obtain⟨_,_,⟨_,_,a2⟩,⟨_,_,a3⟩⟩:=hn;rcases e with rfl|rfl
 ·obtain⟨_,_,e⟩:=a2.is;rw[e]at ho;exact hno.2 h0 _ _ (Option.some.inj ho).symm
 ·obtain⟨_,_,e⟩:=a3.is;rw[e]at ho;exact hno.2 h0 _ _ (Option.some.inj ho).symm
def zQ (G nv c:Nat):Value:=if nv=0 then .slice none 0 0 else .slice (some ⟨G,0,none⟩) nv c
theorem gB {G nv c:Nat} (h:0<nv):zQ G nv c=.slice (some ⟨G,0,none⟩) nv c:=if_neg (by omega)
structure dC (nv:Nat) (w:World) (B h G c:Nat) (tv:Value) (xs:List Value) (m:Nat) (ys:List Value):Prop where
 blk0:af w h 95 #[zQ G nv c,tv,.slice none 0 0]
 le:B<=h
 row0:w.ownsRow B 98 9 (zQ G nv c) nv xs
 trail:w.ownsRow B 130 10 tv m ys
theorem dC.blk {w:World} {nv B h G c m:Nat} {tv:Value} {xs ys:List Value} (hh:dC nv w B h G c tv xs m ys) (hv:0<nv:=by omega):af w h 95 #[.slice (some ⟨G,0,none⟩) nv c,tv,.slice none 0 0]:=by
 have:=hh.blk0
 rwa [gB hv]at this
theorem dC.row {w:World} {nv B h G c m:Nat} {tv:Value} {xs ys:List Value} (hh:dC nv w B h G c tv xs m ys) (hv:0<nv:=by omega):w.ownsRow B 98 9 (.slice (some ⟨G,0,none⟩) nv c) nv xs:=by
 have:=hh.row0
 rwa [gB hv]at this
theorem dC.of {w:World} {nv B h G c m:Nat} {tv:Value} {xs ys:List Value} (h1:af w h 95 #[.slice (some ⟨G,0,none⟩) nv c,tv,.slice none 0 0]) (h2:B<=h) (h3:w.ownsRow B 98 9 (.slice (some ⟨G,0,none⟩) nv c) nv xs) (h4:w.ownsRow B 130 10 tv m ys) (hv:0<nv:=by omega):dC nv w B h G c tv xs m ys:=
 ⟨by rw[gB hv];exact h1,h2,by rw[gB hv];exact h3,h4⟩
theorem dC.frT {ts:List (Option TypeId)} {w w':World} {nv B h G c m:Nat} {tv:Value} {xs ys:List Value} (hh:dC nv w B h G c tv xs m ys) (hf:ar ts w w') (h1:some 95∉ts) (h2:some 98∉ts) (h3:some 130∉ts):dC nv w' B h G c tv xs m ys:=
 ⟨hh.blk0.frT hf h1,hh.le,av hh.row0 hf h2,av hh.trail hf h3⟩
theorem dC.below {w w':World} {nv B h G c m:Nat} {tv:Value} {xs ys:List Value} (hh:dC nv w B h G c tv xs m ys) (hb:Below w.heap.size w w'):dC nv w' B h G c tv xs m ys:=hh.frT (ts:=[]) (ar.of_below hb) (by simp) (by simp) (by simp)
theorem dC.drew {w:World} {nv B h G c m:Nat} {tv:Value} {xs ys:List Value} (hh:dC nv w B h G c tv xs m ys):dC nv w.drew B h G c tv xs m ys:=hh.frT (ts:=[]) (fun _ _ h _=>h) (by simp) (by simp) (by simp)
theorem dC.cell {w:World} {nv B h G c m:Nat} {tv:Value} {xs ys:List Value} (hh:dC nv w B h G c tv xs m ys) {q:Nat} {u:Value} (hq:xs[q]?=some u):w.cell? ⟨G,q,none⟩=some u:=by
 have hl:=hh.row0.1;have:q<xs.length:=(List.getElem?_eq_some_iff.1 hq).1;have hv:0<nv:=by
  rcases Nat.eq_zero_or_pos nv with e|e
  ·subst e;omega
  ·exact e
 exact ((hh.row hv).cellAt q (by omega)).trans hq
abbrev HS:=dC 2
def qZ (v:Value):Int:=match v with|.int _ i=>i|_=>0
def qG (es:List MapEntry) (i:Int):Option Value:=(es.find? fun x=>qZ x.key==i).map (·.val)
def bQ (w:World) (b n:Nat) (f:Int->Option Value):Prop:=
 ∃ es clock,w.heap[b]?=some (.map es clock)/\es.size<=n/\(∀ x∈es.toList,∃ i:Int,x.key=.int .i64 i)/\∀ i,qG es.toList i=f i
theorem bQ.empty {w:World} {b:Nat} {c:Nat} (h:w.heap[b]?=some (.map #[] c)):bQ w b 0 (fun _=>none):=
 ⟨#[],c,h,Nat.le_refl _,fun x hx=>by simp at hx,fun i=>rfl⟩
theorem bQ.is {w:World} {b n:Nat} {f:Int->Option Value} (h:bQ w b n f):∃ es c,w.heap[b]?=some (.map es c):=by
 obtain⟨es,c,h,_⟩:=h;exact⟨es,c,h⟩
theorem bQ.keep {w w':World} {b n:Nat} {f:Int->Option Value} (h:bQ w b n f) (hs:w'.heap[b]?=w.heap[b]?):bQ w' b n f:=by
 obtain⟨es,c,h,r⟩:=h;exact⟨es,c,hs.trans h,r⟩
theorem bQ.mono {w:World} {b n n':Nat} {f:Int->Option Value} (h:bQ w b n f) (hn:n<=n'):bQ w b n' f:=by
 obtain⟨es,c,h,h2,r⟩:=h;exact⟨es,c,h,Nat.le_trans h2 hn,r⟩
theorem cE (e:MapEntry) (es:List MapEntry) (i:Int):qG (e::es) i=if qZ e.key=i then some e.val else qG es i:=by
 unfold qG;rw[List.find?_cons];by_cases h:qZ e.key=i
 ·simp[h]
 ·have h1:(qZ e.key==i)=false:=by simpa using h
  simp[h,h1]
theorem pg (i:Int):∀ (es:List MapEntry),(∀ x∈es,∃ j:Int,x.key=.int .i64 j)->∀ k,∃ r,Instr.findNow (.int .i64) (.int .i64 i) es k=some r/\(r=none->qG es i=none)/\
 ∀ j v,r=some (j,v)->k<=j/\qG es i=some v/\(∃ e,es[j-k]?=some e/\e.key=.int .i64 i)/\
  ∀ v' i',qG (es.modify (j-k) fun e=>{ e with key:=.int .i64 i,val:=v' }) i'=if i'=i then some v' else qG es i':=by
 intro es
 induction es with
 |nil=>intro _ k;exact⟨none,rfl,fun _=>rfl,fun j v h=>by cases h⟩
 |cons e es ih=>
  intro hes k;obtain⟨j0,hj0⟩:=hes e (by simp);have hs:Instr.sameNow (.int .i64) (.int .i64 i) e.key=some (i==j0):=by rw[hj0];simp[Instr.sameNow]
  have hk:qZ e.key=j0:=by rw[hj0];rfl
  by_cases h:i=j0
  ·subst h;refine⟨some (k,e.val),by unfold Instr.findNow;rw[hs];simp,(fun h=>by cases h),fun j v h=>?_⟩;simp only[Option.some.injEq,Prod.mk.injEq]at h;obtain⟨rfl,rfl⟩:=h;refine⟨Nat.le_refl _,by rw[cE,if_pos hk],⟨e,by simp,hj0⟩,fun v' i'=>?_⟩;rw[Nat.sub_self,List.modify_zero_cons,cE,cE,hk];show (if i=i' then some v' else qG es i')=_;by_cases h':i'=i
   ·rw[if_pos h'.symm,if_pos h']
   ·rw[if_neg (fun q:i=i'=>h' q.symm),if_neg h',if_neg (fun q:i=i'=>h' q.symm)]
  ·have h1:(i==j0)=false:=by simpa using h
   have h2:¬j0=i:=fun q=>h q.symm;obtain⟨r,hr,hr1,hr2⟩:=ih (fun x hx=>hes x (by simp[hx])) (k+1);refine⟨r,by unfold Instr.findNow;rw[hs,h1];exact hr,fun hn=>by rw[cE,hk,if_neg h2];exact hr1 hn,fun j v hj=>?_⟩;obtain⟨a1,a2,⟨e',a3,a4⟩,a5⟩:=hr2 j v hj;have e1:j-k=(j-(k+1))+1:=by omega
   refine⟨by omega,by rw[cE,hk,if_neg h2];exact a2,⟨e',by rw[e1];simpa using a3,a4⟩,fun v' i'=>?_⟩;rw[e1,List.modify_succ_cons,cE,cE,hk,a5 v' i'];by_cases h3:j0=i'
   ·subst h3;rw[if_pos rfl,if_neg h2,if_pos rfl]
   ·rw[if_neg h3,if_neg h3]
theorem jg (i:Int) {w:World} {es:List MapEntry} (hes:∀ x∈es,∃ j:Int,x.key=.int .i64 j):∃ r,(Instr.findKey 3 (.int .i64 i) es).run Tryz.prog w=.ok r w/\(r=none->qG es i=none)/\
 ∀ j v,r=some (j,v)->qG es i=some v/\(∃ e,es[j]?=some e/\e.key=.int .i64 i)/\
  ∀ v' i',qG (es.modify j fun e=>{ e with key:=.int .i64 i,val:=v' }) i'=if i'=i then some v' else qG es i':=by
 obtain⟨r,hr,h1,h2⟩:=pg i es hes 0;have hu:Tryz.prog.underlying 3=some (.int .i64):=by kernel_rfl
 exact⟨r,by simp[Instr.findKey,Sem.run_bind,run_underlying hu,Result.andThen_ok,hr,Sem.run_pure],h1,fun j v h=>(h2 j v h).2⟩
theorem iR {et mt:TypeId} {w:World} (hm:Tryz.prog.underlying mt=some (.map 3 et)) {z:Value} (hz:(zeroValue et).run Tryz.prog w=.ok z w) {b n:Nat} {f:Int->Option Value} (hM:bQ w b n f) (i:Int):
 (Instr.lookup mt (.map (some b)) (.int .i64 i) true).run Tryz.prog w=.ok (.tuple #[(f i).getD z,.bool (f i).isSome]) w/\(Instr.lookup mt (.map (some b)) (.int .i64 i) false).run Tryz.prog w=.ok ((f i).getD z) w:=by
 obtain⟨es,clock,hb,hn,hes,hf⟩:=hM;have hc:=fun e=>(kj w).check e (.int .i64 i) ⟨i,rfl⟩;obtain⟨r,hr,hr1,hr2⟩:=jg (w:=w) i hes;rw[<-hf i];cases r with
 |none=>
  rw[hr1 rfl];exact⟨by simp[Instr.lookup,Sem.run_bind,run_underlying hm,Result.andThen_ok,getObj,Sem.run,hb,hc,hr,hz],by simp[Instr.lookup,Sem.run_bind,run_underlying hm,Result.andThen_ok,getObj,Sem.run,hb,hc,hr,hz]⟩
 |some p=>
  obtain⟨j,v⟩:=p;rw[(hr2 j v rfl).1];exact⟨by simp[Instr.lookup,Sem.run_bind,run_underlying hm,Result.andThen_ok,getObj,Sem.run,hb,hc,hr],by simp[Instr.lookup,Sem.run_bind,run_underlying hm,Result.andThen_ok,getObj,Sem.run,hb,hc,hr]⟩
theorem uT (es:List MapEntry) (x:MapEntry) (i':Int):qG (es++[x]) i'=(qG es i').or (if qZ x.key=i' then some x.val else none):=by
 induction es with
 |nil=>rw[List.nil_append,cE];rfl
 |cons e es ih=>
  rw[List.cons_append,cE,cE,ih];by_cases h:qZ e.key=i'
  ·rw[if_pos h,if_pos h];rfl
  ·rw[if_neg h,if_neg h]
theorem fU {et mt:TypeId} {w:World} (hm:Tryz.prog.underlying mt=some (.map 3 et)) {b n:Nat} {f:Int->Option Value} (hM:bQ w b n f) (i:Int) (v:Value):
 ∃ w',(Instr.mapUpdate mt (.map (some b)) (.int .i64 i) v).run Tryz.prog w=.ok () w'/\bQ w' b (n+1) (fun j=>if j=i then some v else f j)/\ah (fun k=>k=b) w w':=by
 obtain⟨es,clock,hb,hn,hes,hf⟩:=hM;have hc:=fun e=>(kj w).check e (.int .i64 i) ⟨i,rfl⟩;have hbl:b<w.heap.size:=(Array.getElem?_eq_some_iff.1 hb).1;have hkept:∀ o:Obj,ah (fun i=>i=b) w (ak w b o):=fun o=>
  ⟨rfl,rfl,rfl,by simp[ak],fun i hi hp=>by
   have hp:¬b=i:=fun e=>hp e.symm;simp[ak,Array.getElem?_setIfInBounds_ne hp]⟩
 have hat:∀ o:Obj,(ak w b o).heap[b]?=some o:=fun o=>by simp[ak,hbl]
 obtain⟨r,hr,hr1,hr2⟩:=jg (w:=w) i hes;cases r with
 |none=>
  refine⟨ak w b (.map (es.push ⟨.int .i64 i,v,clock⟩) (clock+1)),?_,⟨_,_,hat _,by simp;omega,?_,fun i'=>?_⟩,hkept _⟩
  ·simp[Instr.mapUpdate,run_underlying hm,MapKept.run_getObj_map hb,hc,hr,MapKept.run_setObj_map _ hb,Result.andThen,ak]
  ·intro x hx;simp only[Array.toList_push,List.mem_append,List.mem_singleton]at hx;rcases hx with hx|rfl
   ·exact hes x hx
   ·exact⟨i,rfl⟩
  ·rw[Array.toList_push,uT,hf i'];have h0:=hr1 rfl;rw[hf i]at h0;show (f i').or (if i=i' then some v else none)=_;by_cases h:i'=i
   ·subst h;simp[h0]
   ·have h':¬i=i':=fun q=>h q.symm;simp[h,h']
 |some p=>
  obtain⟨j,v0⟩:=p;obtain⟨h1,⟨e,h2,h3⟩,h4⟩:=hr2 j v0 rfl;have hj:es[j]?=some e:=by simpa using h2
  refine⟨ak w b (.map (es.modify j fun e'=>{ e' with key:=.int .i64 i,val:=v }) clock),?_,⟨_,_,hat _,by simp;omega,?_,fun i'=>?_⟩,hkept _⟩
  ·simp[Instr.mapUpdate,run_underlying hm,MapKept.run_getObj_map hb,hc,hr,hj,Instr.keyThatStays,h3,Instr.sameBits,MapKept.run_setObj_map _ hb,Result.andThen,ak]
  ·intro x hx;rcases MapFrom.mem_modify hx with hx|⟨e',_,rfl⟩
   ·exact hes x hx
   ·exact⟨i,rfl⟩
  ·rw[Array.toList_modify,h4 v i',hf i']
end Go.Proofs.YtlhojoefhannnaaGreat
