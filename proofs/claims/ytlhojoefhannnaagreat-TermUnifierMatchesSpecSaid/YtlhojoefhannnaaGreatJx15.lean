/- (*heap.interner).name of any term: its number among the terms that have one. And 3 more texts. -/
import Derived.WideLaws
import Derived.Deep.Upon
import Derived.Test.YtlhojoefhannnaaGreatJx14
set_option linter.unusedVariables false
set_option linter.unusedSimpArgs false
set_option maxRecDepth 100000
set_option maxHeartbeats 51200000
namespace Go.Proofs.YtlhojoefhannnaaGreat
open Go.Proofs.Tryz Go.RowKit NumB
def cT (P:Nat->Prop) (w w':World):Prop:=w.heap.size<=w'.heap.size/\∀ b,P b->b<w.heap.size->w'.heap[b]?=w.heap[b]?
theorem cT.refl (P:Nat->Prop) (w:World):cT P w w:=⟨zN _,fun _ _ _=>rfl⟩
theorem cT.trans {P:Nat->Prop} {a b c:World} (h:cT P a b) (k:cT P b c):cT P a c:=⟨zC h.1 k.1,fun i e d=>(k.2 i e (zD d h.1)).trans (h.2 i e d)⟩
theorem ag.stay {P q:Nat->Prop} {w w':World} (h:ag q w w') (d:∀ k,P k->¬q k):cT P w w':=⟨h.size,fun b c a=>h.block b a (d b c)⟩
theorem cT.of_below {P:Nat->Prop} {w w':World} (h:zZ w w'):cT P w w':=⟨h.size,fun b _ a=>h.block b a⟩
theorem iK.stay {P:Nat->Prop} {w w':World} {v:Value} {xs:List Nat} (h:iK P w v xs) (a:cT P w w'):iK P w' v xs:=h.to a.1 a.2
theorem cU.stay {P:Nat->Prop} {f:Nat->Option Tm} {w w':World} {t:Tm} {cs:List Value} (h:cU P f w t cs) (a:cT P w w'):cU P f w' t cs:=h.to a.1 a.2
def DC (L:List Tm):Prop:=L.length<=1000000/\∀ t∈L,t.fine/\t.sm/\∀ x∈t.args,x∈L
theorem C8 {t:Tm} (h:t.sm):t.few:=by
 obtain⟨k,v,s,n,a⟩:=t;rw[Tm.sm]at h;exact⟨by omega,by omega⟩
theorem yt {f:Nat->Option Tm} {L:List Tm} {Ts:List Tm} {w y:World} {p h C T:Nat} {E:Array Value} (k v:Int) (s:ByteArray) (x:Bool) (j:Option Addr) (r n:Nat) (m:Option Addr) (z q:Nat) (c d l A:Nat) (M:0<l)
 (N:aB f L y p h C Ts) (P:ah y T 27 #[.int .i64 k,.int .i64 v,.string s,.bool x,.slice j r n,.slice m z q,.slice (some ⟨c,d,none⟩) l A]) (G:ah y c 27 E) (J:ag (KN h C) w y):
 Calls prog 63 #[.agg #[.int .i64 k,.int .i64 v,.string s,.bool x,.slice j r n,.slice m z q,.slice (some ⟨c,d,none⟩) l A]] y fun e b=>∃ (i:Nat) (D:Bool),e=.returned (.pointer (some ⟨c,d,none⟩))/\Yd (i<=L.length/\(D=true->∃ t,f c=some t/\Ts[i]?=some t))/\(Instr.lookup 108 (.map (some h)) (.pointer (some ⟨c,d,none⟩)) true).run prog b=.ok (.tuple #[.int .i64 (i:Int),.bool D]) b/\
  Yd (aB f L b p h C Ts)/\Yd (ah b T 27 (zX k v s x j r n m z q (some ⟨c,d,none⟩) l A).toArray)/\Yd (ag (KN h C) w b)/\(b.cell? ⟨p,0,none⟩=some (.map (some h))/\b.cell? ⟨T,0,none⟩=some (.int .i64 k)/\b.cell? ⟨T,1,none⟩=some (.int .i64 v)/\b.cell? ⟨T,2,none⟩=some (.string s)/\b.cell? ⟨T,3,none⟩=some (.bool x)/\b.cell? ⟨T,4,none⟩=some (.slice j r n)/\b.cell? ⟨T,5,none⟩=some (.slice m z q)/\b.cell? ⟨T,6,none⟩=some (.slice (some ⟨c,d,none⟩) l A)):=by
 refine (fD k v s x j r n m z q c d l A M y).mono ?_;rintro e b ⟨rfl,B⟩;have g:=N.below B;have a:=P.to B;obtain⟨i,D,I,O,F⟩:=g.lookNode (o:=d) (G.to B);exact⟨i,D,rfl,⟨I,F⟩,O,g,a,J.trans (ag.of_below B),g.nsc.1,a.cell 0,a.cell 1,a.cell 2,a.cell 3,a.cell 4,a.cell 5,a.cell 6⟩
theorem Ba {f:Nat->Option Tm} {L:List Tm} {Ts:List Tm} {w y:World} {p j F T i:Nat} {G:Array Value} {t:Tm} (k v:Int) (s:ByteArray) (B:Bool) (m:Option Addr) (A q:Nat) (n:Option Addr) (C r:Nat) (d g l D:Nat) (P:0<l)
 (Q:aB f L y p j F Ts) (U:ah y T 27 #[.int .i64 k,.int .i64 v,.string s,.bool B,.slice m A q,.slice n C r,.slice (some ⟨d,g,none⟩) l D]) (J:ah y d 27 G) (O:ag (KN j F) w y) (M:f d=some t) (N:Ts[i]?=some t):
 Calls prog 63 #[.agg #[.int .i64 k,.int .i64 v,.string s,.bool B,.slice m A q,.slice n C r,.slice (some ⟨d,g,none⟩) l D]] y fun e c=>∃ (z:World),e=.returned (.pointer (some ⟨d,g,none⟩))/\(Instr.mapUpdate 108 (.map (some j)) (.pointer (some ⟨d,g,none⟩)) (.int .i64 (i:Int))).run prog c=.ok () z/\
  Yd (aB f L z p j F Ts)/\Yd (ag (KN j F) w z)/\(c.cell? ⟨p,0,none⟩=some (.map (some j))/\c.cell? ⟨T,0,none⟩=some (.int .i64 k)/\c.cell? ⟨T,1,none⟩=some (.int .i64 v)/\c.cell? ⟨T,2,none⟩=some (.string s)/\c.cell? ⟨T,3,none⟩=some (.bool B)/\c.cell? ⟨T,4,none⟩=some (.slice m A q)/\c.cell? ⟨T,5,none⟩=some (.slice n C r)/\c.cell? ⟨T,6,none⟩=some (.slice (some ⟨d,g,none⟩) l D))/\(z.cell? ⟨p,0,none⟩=some (.map (some j))/\z.cell? ⟨T,0,none⟩=some (.int .i64 k)/\z.cell? ⟨T,1,none⟩=some (.int .i64 v)/\z.cell? ⟨T,2,none⟩=some (.string s)/\z.cell? ⟨T,3,none⟩=some (.bool B)/\z.cell? ⟨T,4,none⟩=some (.slice m A q)/\z.cell? ⟨T,5,none⟩=some (.slice n C r)/\z.cell? ⟨T,6,none⟩=some (.slice (some ⟨d,g,none⟩) l D)):=by
 refine (fD k v s B m A q n C r d g l D P y).mono ?_;rintro e c ⟨rfl,E⟩;have h:=Q.below E;have a:=U.to E;obtain⟨z,S,I,x⟩:=h.putNode (o:=g) (J.to E) M N;have b:=x.blk a (fun e=>h.cells a (.inl e));exact⟨z,rfl,S,I,(O.trans (ag.of_below E)).trans (x.mono fun k e=>.inl e),⟨h.nsc.1,a.cell 0,a.cell 1,a.cell 2,a.cell 3,a.cell 4,a.cell 5,a.cell 6⟩,I.nsc.1,b.cell 0,b.cell 1,b.cell 2,b.cell 3,b.cell 4,b.cell 5,b.cell 6⟩
theorem xH {f:Nat->Option Tm} {L:List Tm} {Ts:List Tm} {w y:World} {B b p g d T:Nat} {cs:Array Value} {l:List UInt8} {t:Tm} (A:L.length<=1000000) (z:dB Ts t l) (k:t.fine) (m:t.few) (j:BX y B b l) (F:aB f L y p g d Ts) (G:ah y T 27 cs) (q:B<=y.heap.size) (D:ag (KN g d) w y) (hw:w.heap.size<=B):
 Calls prog 146 #[.pointer (some ⟨b,0,none⟩)] y fun e a=>∃ (s:ByteArray) (i:Nat) (h:Bool),e=.returned (.string s)/\Yd (i<=L.length/\(h=true->Ts[i]?=some t)/\(h=false->t∉Ts))/\(Instr.lookup 114 (.map (some d)) (.string s) true).run prog a=.ok (.tuple #[.int .i64 (i:Int),.bool h]) a/\Yd (BX a B b l)/\Yd (aB f L a p g d Ts)/\Yd (ah a T 27 cs)/\Yd (B<=a.heap.size/\ag (KN g d) w a)/\(a.cell? ⟨p,0,none⟩=some (.map (some g))/\a.cell? ⟨p,1,none⟩=some (.map (some d))):=by
 refine (nu B b l y j q).mono ?_;rintro e a ⟨rfl,r,n,o⟩;have c:=F.others o j;obtain⟨i,h,C,E,v,x⟩:=c.lookForm A (t:=t) (s:=⟨l.toArray⟩) (by rw[Lib.toList_data];simpa using z) k m;exact⟨_,i,h,rfl,⟨C,v,x⟩,E,r,c,G.othersX (by decide) (by decide) o j,⟨zC q n.size,D.thenB n hw⟩,c.nsc⟩
theorem AG {f:Nat->Option Tm} {L:List Tm} {Ts:List Tm} {w y:World} {B b p g a T:Nat} {cs:Array Value} {l:List UInt8} {t:Tm} (C:L.length<=1000000) (A:dB Ts t l) (n:t.fine) (o:t.few) (m:t∉Ts) (F:t∈L) (j:BX y B b l) (G:aB f L y p g a Ts) (M:ah y T 27 cs) (v:B<=y.heap.size) (E:ag (KN g a) w y) (hw:w.heap.size<=B):
 Calls prog 146 #[.pointer (some ⟨b,0,none⟩)] y fun e i=>∃ (s:ByteArray) (z:World),e=.returned (.string s)/\(Instr.mapUpdate 114 (.map (some a)) (.string s) (.int .i64 (Ts.length:Int))).run prog i=.ok () z/\Yd (aB f L z p g a (Ts++[t]))/\Yd (ah z T 27 cs)/\Yd (B<=z.heap.size/\ag (KN g a) w z)/\(i.cell? ⟨p,0,none⟩=some (.map (some g))/\i.cell? ⟨p,1,none⟩=some (.map (some a)))/\(z.cell? ⟨p,0,none⟩=some (.map (some g))/\z.cell? ⟨p,1,none⟩=some (.map (some a))):=by
 refine (nu B b l y j v).mono ?_;rintro e i ⟨rfl,N,q,r⟩;have d:=G.others r j;have h:=M.othersX (by decide) (by decide) r j;obtain⟨z,J,x,c⟩:=d.putForm C (t:=t) (s:=⟨l.toArray⟩) (by rw[Lib.toList_data];simpa using A) n o m F;have I:∀ k cs T f,i.heap[k]?=some (Obj.cells cs T f)->¬k=a:=fun k cs T f D e=>d.cells D (.inr e);exact⟨_,z,rfl,J,x,c.blk h (I _ _ _ _ h),⟨zC (zC v q.size) c.size,(E.thenB q hw).trans (c.mono fun k e=>.inr e)⟩,d.nsc,x.nsc⟩
theorem Bp (v:Nat) (s:ByteArray) (n:LN):jN 1 (v:Int) s n []=[UInt8.ofNat (1:Int).toNat]++dW v:=by
 unfold jN;rw[if_pos rfl];rfl
theorem qU {k v:Int} {s:ByteArray} {n:LN} (a:k≠1) (b:k≠2) (c:k≠5):jN k v s n []=[UInt8.ofNat k.toNat]++s.data.toList:=by
 unfold jN;rw[if_neg a,if_neg b,if_neg c,Lib.toList_data];rfl
theorem yS {v:Int} {s:ByteArray} {n:LN} {a:List Nat} {l:Nat} (h:a.length=l):jN 5 v s n a=[UInt8.ofNat (5:Int).toNat]++dW l++dg a++s.data.toList:=by
 unfold jN;rw[if_neg (by decide),if_neg (by decide),if_pos rfl,Lib.toList_data,h];simp only[zJ,List.singleton_append];rfl
def sk (b:Bool):List UInt8:=if b=true then [1] else []
def gG (n:LN):Nat->List UInt8
 |0=>[]
 |1=>dW n.num.length++dg n.num
 |_=>dW n.num.length++dg n.num++(dW n.den.length++dg n.den)
theorem Bo {v:Int} {s:ByteArray} {n:LN}:jN 2 v s n []=[UInt8.ofNat (2:Int).toNat]++sk n.neg++gG n 2:=by
 unfold jN sk gG;rw[if_neg (by decide),if_pos rfl];simp only[zJ,List.singleton_append];rfl
theorem jR (l:List Nat) (x:Nat):dg (l++[x])=dg l++dW x:=by
 induction l with
 |nil=>rw[List.nil_append,dg,dg,dg,List.append_nil,List.nil_append]
 |cons y l a=>rw[List.cons_append,dg,a,dg,zJ]
theorem dI.take {Ts:List Tm} {a:List Nat} {l:List Tm} {j:Nat} (c:j<l.length) (h:dI Ts a (l.take j)) {i:Nat} (b:Ts[i]?=some l[j]):dI Ts (a++[i]) (l.take (j+1)):=by
 have:=h.add b;rw[List.take_add_one,zO c];exact this
theorem vh {P:Nat->Prop} {f:Nat->Option Tm} {L:List Tm} {w0:World} {p r y:Nat} (hP:∀ k,P k->¬KN r y k) (hL:DC L) {t:Tm} {cs:List Value} (h:cU P f w0 t cs):t∈L->∀ (w:World) (Ts:List Tm),cT P w0 w->aB f L w p r y Ts->
 Calls prog 116 #[.pointer (some ⟨p,0,none⟩),.agg cs.toArray] w fun e w'=>∃ (i:Nat) (Us:List Tm),e=.returned (.int .i64 (i:Int))/\i<=L.length/\aB f L w' p r y (Ts++Us)/\(Ts++Us)[i]?=some t/\ag (KN r y) w w':=by
 have f1:=zH hP;have d3:=zH hL;clear hP hL
 induction h with
 |mk k v s n c A B Ar d cs hk hv hs hA hB hn p5 hm hr ha ih=>
  intro i1 w Ts m3 h;obtain⟨h9,e5,k8⟩:=d3.o.2 _ i1;have c6:Yd ((Tm.mk k v s n c).fine/\(Tm.mk k v s n c).few/\(Tm.mk k v s n c)∈L):=⟨h9,C8 e5,i1⟩;have c5:Yd (∀ Us a2,dI Us a2 c->dB Us (Tm.mk k v s n c) (jN k v s n a2)):=fun Us a2 h=>⟨a2,h,rfl⟩;have M:=h9;rw[Tm.fine]at M;have M:=M.2.1;rw[Tm.sm]at e5;have IH:Yd (∀ i (h:i<c.length) (w:World) (Ts:List Tm),cT P w0 w->aB f L w p r y Ts->Calls prog 116 #[zY p,.agg (cs i).toArray] w fun e w'=>∃ (j:Nat) (Us:List Tm),e=.returned (.int .i64 (j:Int))/\j<=L.length/\aB f L w' p r y (Ts++Us)/\(Ts++Us)[j]?=some c[i]/\ag (KN r y) w w'):=fun i h=>ih i h (k8 _ (zQ h));clear ih k8 i1 h9;have HR:=zH hr;have HA:=zH ha;have j3:Yd (iK P w0 A n.num/\iK P w0 B n.den):=⟨hA,hB⟩;obtain⟨A1,c1,rfl,_⟩:=hA;obtain⟨B1,c2,rfl,_⟩:=hB;have l2:k=1\/k=2\/k=3\/k=4\/k=5:=by
   rcases al M with ⟨h,_⟩|⟨_,_,_,_,h|h|h|h⟩
   ·exact .inr (.inl h)
   ·exact .inl h.1
   ·exact .inr (.inr (.inl h.1))
   ·exact .inr (.inr (.inr (.inl h.1)))
   ·exact .inr (.inr (.inr (.inr h.1)))
  have b6:=zH M;have k4:Yd (n.num.length<=1000000/\n.den.length<=1000000/\n.ok):=⟨e5.1,e5.2.1,hn⟩;have e6:s.size<=5000:=by
   rcases al M with ⟨_,_,h,_⟩|⟨_,_,_,_,h|h|h|h⟩<;>omega
  have h0:=zH e6;clear e6;have HK:=zH l2;have d5:=zH m3;have HN:=zH h;unfold maxLen at hm;have p4:c.length<=32:=by
   rcases al M with ⟨_,_,_,_,h⟩|⟨_,_,_,_,h|h|h|h⟩<;>omega
  clear hr ha hk hv hs hn e5 M h m3 l2;have a5:=zH (ah.new w 27 #[.int .i64 k,.int .i64 v,.string s,.bool n.neg,.slice A1 n.num.length c1,.slice B1 n.den.length c2,.slice Ar c.length d]);have e9:Yd (aB f L (w.alloc (.cells #[.int .i64 k,.int .i64 v,.string s,.bool n.neg,.slice A1 n.num.length c1,.slice B1 n.den.length c2,.slice Ar c.length d] 27)) p r y Ts):=HN.o.below (ae w _);have f4:Yd (zZ w (w.alloc (.cells #[.int .i64 k,.int .i64 v,.string s,.bool n.neg,.slice A1 n.num.length c1,.slice B1 n.den.length c2,.slice Ar c.length d] 27))):=ae w _;obtain⟨G,f8⟩:∃ x,n.neg=x:=⟨_,rfl⟩;obtain⟨Q,f6⟩:∃ x,n.num.length=x:=⟨_,rfl⟩;obtain⟨S,f7⟩:∃ x,n.den.length=x:=⟨_,rfl⟩;obtain⟨l,hl⟩:∃ x,c.length=x:=⟨_,rfl⟩;rw[f8,f6,f7,hl]at a5 e9 f4;rw[hl]at p5 p4;rw[f8,f6,f7,hl];have n7:=zH f8;have n4:=zH f6;have n5:=zH f7;have HL:=zH hl;clear f8 f6 f7 hl;obtain⟨tt,j1⟩:∃ tt,Tm.mk k v s n c=tt:=⟨_,rfl⟩;rw[j1]at c6 c5 HR;rw[j1];clear j1;go_enter func116,ntmps116
  go_upto_if 19 with fail
  go_cut [] (fun wx=>∃ a:World,a=wx/\Yd (aB f L a p r y Ts)/\Yd (ah a w.heap.size 27 (zX k v s G A1 Q c1 B1 S c2 Ar l d).toArray)/\Yd (ag (KN r y) w a))
  case first=>
   by_cases e4:k=5
   ·subst e4;have b1:0<l:=by
     have:=b6.o;rw[HL.o]at this;rcases al this with ⟨h,_⟩|⟨_,_,_,_,h|h|h|h⟩<;>omega
    obtain⟨ab,d8,rfl,b4,c0,I,O⟩:=HR.o (by rw[HL.o];exact b1);have m8:=zH c0;have d1:Yd (ah w ab 27 d8):=(d5.o.2 ab b4 I.lt).trans I;clear b4 c0 I O;have o4:(w.alloc (.cells #[.int .i64 5,.int .i64 v,.string s,.bool G,.slice A1 Q c1,.slice B1 S c2,.slice (some ⟨ab,0,none⟩) l d] 27)).drew.cell? ⟨p,0,none⟩=some (.map (some r))/\(w.alloc (.cells #[.int .i64 5,.int .i64 v,.string s,.bool G,.slice A1 Q c1,.slice B1 S c2,.slice (some ⟨ab,0,none⟩) l d] 27)).drew.cell? ⟨w.heap.size,0,none⟩=some (.int .i64 5)/\(w.alloc (.cells #[.int .i64 5,.int .i64 v,.string s,.bool G,.slice A1 Q c1,.slice B1 S c2,.slice (some ⟨ab,0,none⟩) l d] 27)).drew.cell? ⟨w.heap.size,1,none⟩=some (.int .i64 v)/\(w.alloc (.cells #[.int .i64 5,.int .i64 v,.string s,.bool G,.slice A1 Q c1,.slice B1 S c2,.slice (some ⟨ab,0,none⟩) l d] 27)).drew.cell? ⟨w.heap.size,2,none⟩=some (.string s)/\(w.alloc (.cells #[.int .i64 5,.int .i64 v,.string s,.bool G,.slice A1 Q c1,.slice B1 S c2,.slice (some ⟨ab,0,none⟩) l d] 27)).drew.cell? ⟨w.heap.size,3,none⟩=some (.bool G)/\(w.alloc (.cells #[.int .i64 5,.int .i64 v,.string s,.bool G,.slice A1 Q c1,.slice B1 S c2,.slice (some ⟨ab,0,none⟩) l d] 27)).drew.cell? ⟨w.heap.size,4,none⟩=some (.slice A1 Q c1)/\(w.alloc (.cells #[.int .i64 5,.int .i64 v,.string s,.bool G,.slice A1 Q c1,.slice B1 S c2,.slice (some ⟨ab,0,none⟩) l d] 27)).drew.cell? ⟨w.heap.size,5,none⟩=some (.slice B1 S c2)/\(w.alloc (.cells #[.int .i64 5,.int .i64 v,.string s,.bool G,.slice A1 Q c1,.slice B1 S c2,.slice (some ⟨ab,0,none⟩) l d] 27)).drew.cell? ⟨w.heap.size,6,none⟩=some (.slice (some ⟨ab,0,none⟩) l d):=⟨e9.o.drew.nsc.1,a5.o.drew.cell 0,a5.o.drew.cell 1,a5.o.drew.cell 2,a5.o.drew.cell 3,a5.o.drew.cell 4,a5.o.drew.cell 5,a5.o.drew.cell 6⟩;have j5:=zH (yt (w:=w) 5 v s G A1 Q c1 B1 S c2 ab 0 l d b1 e9.o.drew a5.o.drew (d1.o.to f4.o.drew) (ag.of_below f4.o.drew));go_wp2_with fail
    go_region_held3 (fun w'=>w'.cell? ⟨p,0,none⟩=some (.map (some r))/\w'.cell? ⟨w.heap.size,0,none⟩=some (.int .i64 5)/\w'.cell? ⟨w.heap.size,1,none⟩=some (.int .i64 v)/\w'.cell? ⟨w.heap.size,2,none⟩=some (.string s)/\w'.cell? ⟨w.heap.size,3,none⟩=some (.bool G)/\w'.cell? ⟨w.heap.size,4,none⟩=some (.slice A1 Q c1)/\w'.cell? ⟨w.heap.size,5,none⟩=some (.slice B1 S c2)/\w'.cell? ⟨w.heap.size,6,none⟩=some (.slice (some ⟨ab,0,none⟩) l d))
     (first|assumption|(go_keep;done))
     (first
      |(go_at_call 63;(with_reducible refine j5.o.mono ?_);rintro e a ⟨i0,r0,rfl,l0,b1,f0,f2,d7,o5⟩))
    clear o4 j5 b1 o5;obtain⟨t0,t1,t2,t3,t4,t5,t6⟩:=f2.o.s7;cases r0 with
    |true=>
     go_wp2_with fail;go_ret;refine⟨i0,rfl,l0.out.1,[],by rw[List.append_nil];exact f0.o,?_,d7.o⟩;obtain⟨t',h1,h2⟩:=l0.out.2 (by trivial);rw[m8.o]at h1;cases h1;rw[List.append_nil];exact h2
    |false=>
     go_wp2_with fail
     go_meet
     case rel=>exact⟨a,rfl,f0,f2,d7⟩
   ·have q0:(k==5)=false:=zL e4;go_wp2_with fail
    go_meet
    case rel=>exact⟨_,rfl,e9,a5,ag.of_below f4.o⟩
  case rest=>
   obtain⟨a,rfl,f0,f2,d7⟩:=hcut;have e8:=zH (BX.new a);have f3:Yd (zZ a (a.alloc (.cells #[.pointer none,.slice none 0 0] 189))):=ae a _;have h3:=zH (f2.o.to f3.o);have Y:Yd (w.heap.size<=a.heap.size):=d7.o.size;have k6:Yd (Calls prog 143 #[.pointer (some ⟨a.heap.size,0,none⟩),.int .u8 (k % 256)] (a.alloc (.cells #[.pointer none,.slice none 0 0] 189)) fun e w'=>e=.returned .nilIface/\BX w' a.heap.size a.heap.size [UInt8.ofNat k.toNat]/\Below a.heap.size (a.alloc (.cells #[.pointer none,.slice none 0 0] 189)) w'/\Lib.OthersKept 5 (some a.heap.size) (a.alloc (.cells #[.pointer none,.slice none 0 0] 189)) w'):=by
    have hm:k % 256=((k.toNat % 256:Nat):Int):=by have:=HK.o;omega
    rw[hm,uP];exact iu a.heap.size a.heap.size [] _ _ e8.o (by simp) (by simp)
   obtain⟨t0,t1,t2,t3,t4,t5,t6⟩:=h3.o.s7;go_wp2_with fail;refine k6.o.mono ?_;rintro e y1 ⟨rfl,J,g,m⟩;have U:=zH J;have c7:=zH ((f0.o.below f3.o).others m e8.o);have b8:=zH (h3.o.othersX (by decide) (by decide) m e8.o);have V:Yd (a.heap.size<=y1.heap.size/\ag (KN r y) w y1):=⟨zC (by simp) g.size,(d7.o.trans (ag.of_below f3.o)).thenB g Y.o⟩;clear J g m t0 t1 t2 t3 t4 t5 t6 k6 e8 f3 h3;obtain⟨t0,t1,t2,t3,t4,t5,t6⟩:=b8.o.s7
   go_upto_block 0 with fail
   go_cut [] (fun wx=>∃ (z:World) (Us:List Tm) (fm:List UInt8),z=wx/\Yd (dB (Ts++Us) tt fm)/\Yd (BX z a.heap.size a.heap.size fm)/\Yd (aB f L z p r y (Ts++Us))/\Yd (ah z w.heap.size 27 (zX k v s G A1 Q c1 B1 S c2 Ar l d).toArray)/\Yd (a.heap.size<=z.heap.size/\ag (KN r y) w z))
   case first=>
    rcases HK.o with rfl|rfl|rfl|rfl|rfl
    ·have q5:0<=v/\v<=1073741824/\c.length=0:=by
      rcases al b6.o with ⟨h,_⟩|⟨_,_,_,_,h|h|h|h⟩<;>omega
     obtain⟨q7,r6,c4⟩:=q5;obtain⟨vn,q8⟩:=Int.eq_ofNat_of_zero_le q7;subst q8;go_wp2_with fail;refine (mb a.heap.size a.heap.size _ vn (by omega) y1 U.o (by simp) V.o.1).mono ?_;rintro e y2 ⟨rfl,J,g,m⟩;have F:=zH J;have C:=zH (c7.o.others m U.o);have D:=zH (b8.o.othersX (by decide) (by decide) m U.o);have E:Yd (a.heap.size<=y2.heap.size/\ag (KN r y) w y2):=⟨zC V.o.1 g.size,V.o.2.thenB g Y.o⟩;clear J g m;have a9:Yd (dB (Ts++[]) tt ([UInt8.ofNat (1:Int).toNat]++dW vn)):=by
      have h:=c5.o (Ts++[]) [] (by rw[zF c4];exact dI.nil _);rw[Bp]at h;exact h
     go_wp2_with fail
     go_meet
     case rel=>exact⟨y2,[],_,rfl,a9,F,(by rw[List.append_nil];exact C),D,E⟩
    ·have c4:c.length=0:=by
      rcases al b6.o with ⟨_,_,_,_,h⟩|⟨_,_,_,_,h|h|h|h⟩<;>omega
     go_upto_if 52 with fail
     go_cut [] (fun wx=>∃ z:World,z=wx/\Yd (BX z a.heap.size a.heap.size ([UInt8.ofNat (2:Int).toNat]++sk G))/\Yd (aB f L z p r y Ts)/\Yd (ah z w.heap.size 27 (zX 2 v s G A1 Q c1 B1 S c2 Ar l d).toArray)/\Yd (a.heap.size<=z.heap.size/\ag (KN r y) w z))
     case first=>
      cases G with
      |true=>
       have o1:Yd (Calls prog 143 #[.pointer (some ⟨a.heap.size,0,none⟩),.int .u8 1] y1 fun e w'=>e=.returned .nilIface/\BX w' a.heap.size a.heap.size ([UInt8.ofNat (2:Int).toNat]++[1])/\Below a.heap.size y1 w'/\Lib.OthersKept 5 (some a.heap.size) y1 w'):=iu a.heap.size a.heap.size _ 1 y1 U.o (by simp) V.o.1;go_wp2_with fail;refine o1.o.mono ?_;rintro e y2 ⟨rfl,J,g,m⟩;have F:=zH J;have C:=zH (c7.o.others m U.o);have D:=zH (b8.o.othersX (by decide) (by decide) m U.o);have E:Yd (a.heap.size<=y2.heap.size/\ag (KN r y) w y2):=⟨zC V.o.1 g.size,V.o.2.thenB g Y.o⟩;clear J g m;go_wp2_with fail
       go_meet
       case rel=>exact⟨y2,rfl,F,C,D,E⟩
      |false=>
       go_wp2_with fail
       go_meet
       case rel=>exact⟨y1,rfl,U,c7,b8,V⟩
     case rest=>
      obtain⟨z,rfl,m7,n9,k5,o2⟩:=hcut;clear t0 t1 t2 t3 t4 t5 t6;obtain⟨t0,t1,t2,t3,t4,t5,t6⟩:=k5.o.s7;go_wp2_with fail
      go_loopg [61] 2 (fun gk r3 wr=>∃ j:Nat,gk+j=2/\r3=.int .i64 (j:Int)/\Yd (BX wr a.heap.size a.heap.size ([UInt8.ofNat (2:Int).toNat]++sk G++gG n j))/\Yd (aB f L wr p r y Ts)/\Yd (ah wr w.heap.size 27 (zX 2 v s G A1 Q c1 B1 S c2 Ar l d).toArray)/\Yd (a.heap.size<=wr.heap.size/\ag (KN r y) w wr))
      case atStart=>exact⟨0,by omega,rfl,(by rw[gG,List.append_nil];exact m7),n9,k5,o2⟩
      case round=>
      obtain⟨j,p7,rfl,a0,b7,b3,X⟩:=hrel;have p9:j=0\/j=1\/j=2:=by omega
      rcases p9 with rfl|rfl|rfl
      ·have e7:n.num.length=Q:=n4.o;clear t0 t1 t2 t3 t4 t5 t6;have q6:(sk G).length<=1:=by unfold sk;split<;>simp
       have i2:=k4.o;have q4:(gG n 0).length<=6000000:=by unfold gG;simp[ei,eU]
       have p8:(Instr.index 193 (.agg #[.slice A1 Q c1,.slice B1 S c2]) (.int .i64 0)).run prog wr=.ok (.slice A1 Q c1) wr:=by kernel_rfl
       go_wp2_with fail;refine (mb a.heap.size a.heap.size _ Q (by omega) wr a0.o (by simp;omega) X.o.1).mono ?_;rintro e y2 ⟨rfl,J,g,m⟩;have F:=zH J;have C:=zH (b7.o.others m a0.o);have D:=zH (b3.o.othersX (by decide) (by decide) m a0.o);have E:Yd (a.heap.size<=y2.heap.size/\ag (KN r y) w y2):=⟨zC X.o.1 g.size,X.o.2.thenB g Y.o⟩;clear J g m;go_wp2_with fail
       go_loopg [70] Q (fun gk j2 wr=>∃ i:Nat,gk+i=Q/\j2=.int .i64 (i:Int)/\Yd (BX wr a.heap.size a.heap.size ([UInt8.ofNat (2:Int).toNat]++sk G++gG n 0++dW Q++dg (n.num.take i)))/\Yd (aB f L wr p r y Ts)/\Yd (ah wr w.heap.size 27 (zX 2 v s G A1 Q c1 B1 S c2 Ar l d).toArray)/\Yd (a.heap.size<=wr.heap.size/\ag (KN r y) w wr))
       case atStart=>exact⟨0,by omega,rfl,(by rw[List.take_zero,dg,List.append_nil];exact F),C,D,E⟩
       case round=>
        obtain⟨i,p6,rfl,a8,d4,d6,a4⟩:=hrel;by_cases hi:i<Q
        ·have i4:=j3.o.1.stay (d5.o.trans (a4.o.2.stay f1.o));obtain⟨Ax,cx,b0,_,_,Z⟩:=i4;obtain⟨b,o,h4,_,_,e2⟩:=Z (by omega);subst h4;simp only[Value.slice.injEq]at b0;obtain⟨b0,h5,h6⟩:=b0;clear h5 h6;subst b0;have g0:=e2 i (by omega);have c3:n.num[i]?=some (n.num.getD i 0):=by rw[List.getD_eq_getElem?_getD,zO (by omega)];rfl
         have q9:n.num.getD i 0<4294967296:=by
          have:=i2.2.2.1 (n.num.getD i 0) (List.mem_of_getElem? c3);unfold ai at this;exact this
         generalize n.num.getD i 0=x at*;have g9:=zH c3;clear c3 e2 Z;have o3:(i:Int)<(Q:Int):=by omega
         go_wp2_with fail;refine (mb a.heap.size a.heap.size _ x (by omega) wr a8.o (by simp[ei,eU,List.length_take];omega) a4.o.1).mono ?_;rintro e y3 ⟨rfl,J,g,m⟩;have a7:=zH J;have a1:=zH (d4.o.others m a8.o);have b2:=zH (d6.o.othersX (by decide) (by decide) m a8.o);have a3:Yd (a.heap.size<=y3.heap.size/\ag (KN r y) w y3):=⟨zC a4.o.1 g.size,a4.o.2.thenB g Y.o⟩;clear J g m;go_wp2_with fail
         go_roundg (gk-1)
         case measure=>omega
         case rel=>exact⟨i+1,by omega,by go_num,(by rw[List.take_add_one,g9.o,Option.toList_some,jR,<-zJ];exact a7),a1,b2,a3⟩
        ·obtain rfl:Q=i:=by omega
         have g8:Yd (BX wr a.heap.size a.heap.size ([UInt8.ofNat (2:Int).toNat]++sk G++gG n 1)):=by
          have h:=a8.o;rw[zG (Nat.le_of_eq e7)]at h;have e:[UInt8.ofNat (2:Int).toNat]++sk G++gG n 0++dW Q++dg n.num=[UInt8.ofNat (2:Int).toNat]++sk G++gG n 1:=by simp only[gG,e7,zJ,List.nil_append]
          rw[e]at h;exact h
         go_wp2_with fail
         go_roundg 1
         case measure=>omega
         case rel=>exact⟨1,by omega,by go_num,g8,d4,d6,a4⟩
      ·have e7:n.den.length=S:=n5.o;clear t0 t1 t2 t3 t4 t5 t6;have q6:(sk G).length<=1:=by unfold sk;split<;>simp
       have i2:=k4.o;have q4:(gG n 1).length<=6000000:=by unfold gG;simp[ei,eU];omega
       have p8:(Instr.index 193 (.agg #[.slice A1 Q c1,.slice B1 S c2]) (.int .i64 1)).run prog wr=.ok (.slice B1 S c2) wr:=by kernel_rfl
       go_wp2_with fail;refine (mb a.heap.size a.heap.size _ S (by omega) wr a0.o (by simp;omega) X.o.1).mono ?_;rintro e y2 ⟨rfl,J,g,m⟩;have F:=zH J;have C:=zH (b7.o.others m a0.o);have D:=zH (b3.o.othersX (by decide) (by decide) m a0.o);have E:Yd (a.heap.size<=y2.heap.size/\ag (KN r y) w y2):=⟨zC X.o.1 g.size,X.o.2.thenB g Y.o⟩;clear J g m;go_wp2_with fail
       go_loopg [70] S (fun gk j2 wr=>∃ i:Nat,gk+i=S/\j2=.int .i64 (i:Int)/\Yd (BX wr a.heap.size a.heap.size ([UInt8.ofNat (2:Int).toNat]++sk G++gG n 1++dW S++dg (n.den.take i)))/\Yd (aB f L wr p r y Ts)/\Yd (ah wr w.heap.size 27 (zX 2 v s G A1 Q c1 B1 S c2 Ar l d).toArray)/\Yd (a.heap.size<=wr.heap.size/\ag (KN r y) w wr))
       case atStart=>exact⟨0,by omega,rfl,(by rw[List.take_zero,dg,List.append_nil];exact F),C,D,E⟩
       case round=>
        obtain⟨i,p6,rfl,a8,d4,d6,a4⟩:=hrel;by_cases hi:i<S
        ·have i4:=j3.o.2.stay (d5.o.trans (a4.o.2.stay f1.o));obtain⟨Ax,cx,b0,_,_,Z⟩:=i4;obtain⟨b,o,h4,_,_,e2⟩:=Z (by omega);subst h4;simp only[Value.slice.injEq]at b0;obtain⟨b0,h5,h6⟩:=b0;clear h5 h6;subst b0;have g0:=e2 i (by omega);have c3:n.den[i]?=some (n.den.getD i 0):=by rw[List.getD_eq_getElem?_getD,zO (by omega)];rfl
         have q9:n.den.getD i 0<4294967296:=by
          have:=i2.2.2.2 (n.den.getD i 0) (List.mem_of_getElem? c3);unfold ai at this;exact this
         generalize n.den.getD i 0=x at*;have g9:=zH c3;clear c3 e2 Z;have o3:(i:Int)<(S:Int):=by omega
         go_wp2_with fail;refine (mb a.heap.size a.heap.size _ x (by omega) wr a8.o (by simp[ei,eU,List.length_take];omega) a4.o.1).mono ?_;rintro e y3 ⟨rfl,J,g,m⟩;have a7:=zH J;have a1:=zH (d4.o.others m a8.o);have b2:=zH (d6.o.othersX (by decide) (by decide) m a8.o);have a3:Yd (a.heap.size<=y3.heap.size/\ag (KN r y) w y3):=⟨zC a4.o.1 g.size,a4.o.2.thenB g Y.o⟩;clear J g m;go_wp2_with fail
         go_roundg (gk-1)
         case measure=>omega
         case rel=>exact⟨i+1,by omega,by go_num,(by rw[List.take_add_one,g9.o,Option.toList_some,jR,<-zJ];exact a7),a1,b2,a3⟩
        ·obtain rfl:S=i:=by omega
         have g8:Yd (BX wr a.heap.size a.heap.size ([UInt8.ofNat (2:Int).toNat]++sk G++gG n 2)):=by
          have h:=a8.o;rw[zG (Nat.le_of_eq e7)]at h;have e:[UInt8.ofNat (2:Int).toNat]++sk G++gG n 1++dW S++dg n.den=[UInt8.ofNat (2:Int).toNat]++sk G++gG n 2:=by simp only[gG,e7,zJ,List.nil_append]
          rw[e]at h;exact h
         go_wp2_with fail
         go_roundg 0
         case measure=>omega
         case rel=>exact⟨2,by omega,by go_num,g8,d4,d6,a4⟩
      ·have a9:Yd (dB (Ts++[]) tt ([UInt8.ofNat (2:Int).toNat]++sk G++gG n 2)):=by
        have h:=c5.o (Ts++[]) [] (by rw[zF c4];exact dI.nil _);rw[Bo,n7.o]at h;exact h
       clear t0 t1 t2 t3 t4 t5 t6;go_wp2_with fail
       go_meet
       case rel=>exact⟨wr,[],_,rfl,a9,a0,(by rw[List.append_nil];exact b7),b3,X⟩
    ·have c4:c.length=0:=by
      rcases al b6.o with ⟨h,_⟩|⟨_,_,_,_,h|h|h|h⟩<;>omega
     have e6:=h0.o;go_wp2_with fail;refine (fL a.heap.size a.heap.size _ s y1 U.o (by omega) (by simp) V.o.1).mono ?_;rintro e y2 ⟨rfl,J,g,m⟩;have F:=zH J;have C:=zH (c7.o.others m U.o);have D:=zH (b8.o.othersX (by decide) (by decide) m U.o);have E:Yd (a.heap.size<=y2.heap.size/\ag (KN r y) w y2):=⟨zC V.o.1 g.size,V.o.2.thenB g Y.o⟩;clear J g m;have a9:Yd (dB (Ts++[]) tt ([UInt8.ofNat (3:Int).toNat]++s.data.toList)):=by
      have h:=c5.o (Ts++[]) [] (by rw[zF c4];exact dI.nil _);rw[qU (by decide) (by decide) (by decide)]at h;exact h
     go_wp2_with fail
     go_meet
     case rel=>exact⟨y2,[],_,rfl,a9,F,(by rw[List.append_nil];exact C),D,E⟩
    ·have c4:c.length=0:=by
      rcases al b6.o with ⟨h,_⟩|⟨_,_,_,_,h|h|h|h⟩<;>omega
     have e6:=h0.o;go_wp2_with fail;refine (fL a.heap.size a.heap.size _ s y1 U.o (by omega) (by simp) V.o.1).mono ?_;rintro e y2 ⟨rfl,J,g,m⟩;have F:=zH J;have C:=zH (c7.o.others m U.o);have D:=zH (b8.o.othersX (by decide) (by decide) m U.o);have E:Yd (a.heap.size<=y2.heap.size/\ag (KN r y) w y2):=⟨zC V.o.1 g.size,V.o.2.thenB g Y.o⟩;clear J g m;have a9:Yd (dB (Ts++[]) tt ([UInt8.ofNat (4:Int).toNat]++s.data.toList)):=by
      have h:=c5.o (Ts++[]) [] (by rw[zF c4];exact dI.nil _);rw[qU (by decide) (by decide) (by decide)]at h;exact h
     go_wp2_with fail
     go_meet
     case rel=>exact⟨y2,[],_,rfl,a9,F,(by rw[List.append_nil];exact C),D,E⟩
    ·have b1:0<l:=by
      have:=b6.o;rw[HL.o]at this;rcases al this with ⟨h,_⟩|⟨_,_,_,_,h|h|h|h⟩<;>omega
     obtain⟨ab,d8,rfl,b4,c0,I,O⟩:=HR.o (by rw[HL.o];exact b1);have d1:Yd (∀ w',cT P w0 w'->ah w' ab 27 d8):=fun w' hs=>(hs.2 ab b4 I.lt).trans I;have m4:=zH O;clear b4 c0 I O;have e6:=h0.o;go_wp2_with fail;refine (mb a.heap.size a.heap.size _ l (by omega) y1 U.o (by simp) V.o.1).mono ?_;rintro e y2 ⟨rfl,J,g,m⟩;have F:=zH J;have C:=zH (c7.o.others m U.o);have D:=zH (b8.o.othersX (by decide) (by decide) m U.o);have E:Yd (a.heap.size<=y2.heap.size/\ag (KN r y) w y2):=⟨zC V.o.1 g.size,V.o.2.thenB g Y.o⟩;clear J g m;clear t0 t1 t2 t3 t4 t5 t6;obtain⟨t0,t1,t2,t3,t4,t5,t6⟩:=D.o.s7;go_wp2_with fail
     go_loopg [90] l (fun gk r4 wr=>∃ (j:Nat) (Us:List Tm) (a2:List Nat),gk+j=l/\r4=.int .i64 (j:Int)/\a2.length=j/\Yd (dI (Ts++Us) a2 (c.take j))/\Yd (BX wr a.heap.size a.heap.size ([UInt8.ofNat (5:Int).toNat]++dW l++dg a2))/\Yd (aB f L wr p r y (Ts++Us))/\Yd (ah wr w.heap.size 27 (zX 5 v s G A1 Q c1 B1 S c2 (some ⟨ab,0,none⟩) l d).toArray)/\Yd (a.heap.size<=wr.heap.size/\ag (KN r y) w wr))
     case atStart=>exact⟨0,[],[],by omega,rfl,rfl,(by rw[List.take_zero];exact dI.nil _),(by rw[dg,List.append_nil];exact F),(by rw[List.append_nil];exact C),D,E⟩
     case round=>
      clear t0 t1 t2 t3 t4 t5 t6;obtain⟨j,Us,a2,p7,rfl,l1,k0,a0,b7,b3,X⟩:=hrel;by_cases hj:j<l
      ·have f5:j<c.length:=by rw[HL.o];exact hj
       have j0:=d5.o.trans (X.o.2.stay f1.o);have k7:=d1.o wr j0;have a6:=zH (ae wr (.cells (cs j).toArray 27));have g7:=zH (IH.o j f5 (wr.alloc (.cells (cs j).toArray 27)) (Ts++Us) (j0.trans (cT.of_below a6.o)) (b7.o.below a6.o));have j6:=zH (ah.new wr 27 (cs j).toArray);obtain⟨k',v',s',r7,A',n',c',B',q',d',X',t7,r8,h8⟩:=(HA.o j f5).form;rw[h8]at g7 a6 j6;have HC:Yd (∀ q,q<7->wr.cell? ⟨ab,j*7+q,none⟩=(cs j)[q]?):=fun q hq=>(k7.cell _).trans (m4.o j f5 q hq);have g0:=HC.o 0 (by omega);have g1:=HC.o 1 (by omega);have g2:=HC.o 2 (by omega);have g3:=HC.o 3 (by omega);have g4:=HC.o 4 (by omega);have g5:=HC.o 5 (by omega);have g6:=HC.o 6 (by omega);rw[h8]at g0 g1 g2 g3 g4 g5 g6;simp only[List.getElem?_cons_zero,List.getElem?_cons_succ,Nat.add_zero]at g0 g1 g2 g3 g4 g5 g6;clear h8 HC k7 j0 j6;go_wp2_with fail;refine g7.o.mono ?_;rintro e y3 ⟨i3,Vs,rfl,d0,l7,k9,e3⟩;have a1:=zH l7;have n0:=zH k9;have n3:Yd (i3<=1000000):=zC d0 d3.o.1;have h7:=(b7.o.below a6.o);have a7:=zH ((a0.o.below a6.o).kept e3 (fun k cs T f hc=>h7.cells hc));have b2:=zH (e3.blk (b3.o.to a6.o) (fun e=>h7.cells (b3.o.to a6.o) e));have a3:Yd (a.heap.size<=y3.heap.size/\ag (KN r y) w y3):=⟨zC X.o.1 (zC a6.o.size e3.size),(X.o.2.trans (ag.of_below a6.o)).trans e3⟩;clear d0 l7 k9 e3 h7 g0 g1 g2 g3 g4 g5 g6 g7;go_wp2_with fail;refine (mb a.heap.size a.heap.size _ i3 (by have:=n3.o;omega) y3 a7.o (by simp[ei,eU];omega) a3.o.1).mono ?_;rintro e y4 ⟨rfl,J,g,m⟩;have m5:=zH J;have b5:=zH (a1.o.others m a7.o);have W:=zH (b2.o.othersX (by decide) (by decide) m a7.o);have c9:Yd (a.heap.size<=y4.heap.size/\ag (KN r y) w y4):=⟨zC a3.o.1 g.size,a3.o.2.thenB g Y.o⟩;clear J g m;go_wp2_with fail
       go_roundg (gk-1)
       case measure=>omega
       case rel=>exact⟨j+1,Us++Vs,a2++[i3],by omega,by go_num,by simp[l1],dI.take f5 (by rw[<-zJ];exact k0.o.more) (by rw[<-zJ];exact n0.o),(by rw[jR,<-zJ];exact m5),(by rw[<-zJ];exact b5),W,c9⟩
      ·obtain rfl:l=j:=by omega
       obtain⟨t0,t1,t2,t3,t4,t5,t6⟩:=b3.o.s7;go_wp2_with fail;refine (fL a.heap.size a.heap.size _ s wr a0.o (by omega) (by simp[ei,eU];omega) X.o.1).mono ?_;clear F C D E;rintro e y2 ⟨rfl,J,g,m⟩;have F:=zH J;have C:=zH (b7.o.others m a0.o);have D:=zH (b3.o.othersX (by decide) (by decide) m a0.o);have E:Yd (a.heap.size<=y2.heap.size/\ag (KN r y) w y2):=⟨zC X.o.1 g.size,X.o.2.thenB g Y.o⟩;clear J g m;clear t0 t1 t2 t3 t4 t5 t6;have a9:Yd (dB (Ts++Us) tt ([UInt8.ofNat (5:Int).toNat]++dW l++dg a2++s.data.toList)):=by
        have h:=c5.o (Ts++Us) a2 (by have h:=k0.o;rw[zG (by rw[HL.o];exact zN _)]at h;exact h);rw[yS l1]at h;exact h
       go_wp2_with fail
       go_meet
       case rel=>exact⟨y2,Us,_,rfl,a9,F,C,D,E⟩
   case rest=>
    obtain⟨z,Us,fm,rfl,j7,F,C,D,E⟩:=hcut;clear t0 t1 t2 t3 t4 t5 t6;have o6:z.drew.cell? ⟨p,0,none⟩=some (.map (some r))/\z.drew.cell? ⟨p,1,none⟩=some (.map (some y)):=C.o.drew.nsc;have c8:=zH (xH (w:=w) d3.o.1 j7.o c6.o.1 c6.o.2.1 F.o.drew C.o.drew D.o.drew E.o.1 E.o.2.drew Y.o);go_wp2_with fail
    go_region_held3 (fun w'=>w'.cell? ⟨p,0,none⟩=some (.map (some r))/\w'.cell? ⟨p,1,none⟩=some (.map (some y)))
     (first|assumption|(go_keep;done))
     (first
      |(go_at_call 146;(with_reducible refine c8.o.mono ?_);rintro e y3 ⟨s3,i3,r1,rfl,d0,q1,a7,a1,b2,a3,o7⟩))
    clear o6 c8 q1 o7
    go_upto_if 113 with fail
    go_cut [15] (fun r2 wx=>∃ (z':World) (i:Nat) (Vs:List Tm),z'=wx/\r2=.int .i64 (i:Int)/\Yd (i<=L.length/\(Ts++Vs)[i]?=some tt)/\Yd (aB f L z' p r y (Ts++Vs))/\Yd (ah z' w.heap.size 27 (zX k v s G A1 Q c1 B1 S c2 Ar l d).toArray)/\Yd (ag (KN r y) w z'))
    case first=>
     cases r1 with
     |true=>
      go_wp2_with fail
      go_meet
      case rel=>exact⟨y3,i3,Us,rfl,rfl,⟨d0.out.1,d0.out.2.1 (by trivial)⟩,a1,b2,a3.o.2⟩
     |false=>
      obtain⟨es,cl,l5,l6⟩:=a1.o.len;obtain⟨e0,e1⟩:=a1.o.nsc;have l4:(Builtin.len_ #[114] 3 #[.map (some y)]).run prog y3=.ok (.int .i64 ((Ts++Us).length:Int)) y3:=by
       rw[<-l6];exact run_len_map y3 _ _ y es cl (by kernel_rfl) l5
      clear l5 l6;have l3:=a1.o.le;have r5:=d3.o.1;have l8:tt∉Ts++Us:=d0.out.2.2 (by trivial);have c8:=zH (AG (w:=w) d3.o.1 j7.o c6.o.1 c6.o.2.1 l8 c6.o.2.2 a7.o.drew a1.o.drew b2.o.drew a3.o.1 a3.o.2.drew Y.o);clear l8;have k3:Yd ((Ts++Us).length<=L.length):=l3;obtain⟨N,hN⟩:∃ N,(Ts++Us).length=N:=⟨_,rfl⟩;rw[hN]at l4 c8 l3 k3;have n8:=zH hN;clear hN;go_wp2_with fail;have o8:y3.drew.cell? ⟨p,0,none⟩=some (.map (some r))/\y3.drew.cell? ⟨p,1,none⟩=some (.map (some y)):=a1.o.drew.nsc;clear e0 e1 l4
      go_region_held3 (fun w'=>w'.cell? ⟨p,0,none⟩=some (.map (some r))/\w'.cell? ⟨p,1,none⟩=some (.map (some y)))
       (first|assumption|(go_keep;done))
       (first
        |(go_at_call 146;(with_reducible refine c8.o.mono ?_);rintro e y5 ⟨s5,y4,rfl,q2,b5,W,c9,o9,p0⟩))
      clear o8 c8 q2 o9 p0;go_wp2_with fail
      go_meet
      case rel=>exact⟨y4,N,Us++[tt],rfl,rfl,⟨k3.o,by rw[<-zJ,<-n8.o];simp⟩,(by rw[<-zJ];exact b5),W,c9.o.2⟩
    case rest=>
     obtain⟨z',i,Vs,rfl,rfl,d2,b5,W,c9⟩:=hcut;have k1:Yd (ag (KN r y) w z'):=c9;by_cases e4:k=5
     ·subst e4;have b1:0<l:=by
       have:=b6.o;rw[HL.o]at this;rcases al this with ⟨h,_⟩|⟨_,_,_,_,h|h|h|h⟩<;>omega
      obtain⟨ab,d8,rfl,b4,c0,I,O⟩:=HR.o (by rw[HL.o];exact b1);have d1:Yd (ah z'.drew ab 27 d8):=((d5.o.trans (k1.o.stay f1.o)).2 ab b4 I.lt).trans I;have j4:=zH (Ba (w:=w) 5 v s G A1 Q c1 B1 S c2 ab 0 l d b1 b5.o.drew W.o.drew d1.o k1.o.drew c0 d2.o.2);clear b4 c0 I O;obtain⟨t0,t1,t2,t3,t4,t5,t6⟩:=W.o.s7;go_wp2_with fail;have p1:z'.drew.cell? ⟨p,0,none⟩=some (.map (some r))/\z'.drew.cell? ⟨w.heap.size,0,none⟩=some (.int .i64 5)/\z'.drew.cell? ⟨w.heap.size,1,none⟩=some (.int .i64 v)/\z'.drew.cell? ⟨w.heap.size,2,none⟩=some (.string s)/\z'.drew.cell? ⟨w.heap.size,3,none⟩=some (.bool G)/\z'.drew.cell? ⟨w.heap.size,4,none⟩=some (.slice A1 Q c1)/\z'.drew.cell? ⟨w.heap.size,5,none⟩=some (.slice B1 S c2)/\z'.drew.cell? ⟨w.heap.size,6,none⟩=some (.slice (some ⟨ab,0,none⟩) l d):=⟨b5.o.drew.nsc.1,W.o.drew.cell 0,W.o.drew.cell 1,W.o.drew.cell 2,W.o.drew.cell 3,W.o.drew.cell 4,W.o.drew.cell 5,W.o.drew.cell 6⟩;clear t0 t1 t2 t3 t4 t5 t6
      go_region_held3 (fun w'=>w'.cell? ⟨p,0,none⟩=some (.map (some r))/\w'.cell? ⟨w.heap.size,0,none⟩=some (.int .i64 5)/\w'.cell? ⟨w.heap.size,1,none⟩=some (.int .i64 v)/\w'.cell? ⟨w.heap.size,2,none⟩=some (.string s)/\w'.cell? ⟨w.heap.size,3,none⟩=some (.bool G)/\w'.cell? ⟨w.heap.size,4,none⟩=some (.slice A1 Q c1)/\w'.cell? ⟨w.heap.size,5,none⟩=some (.slice B1 S c2)/\w'.cell? ⟨w.heap.size,6,none⟩=some (.slice (some ⟨ab,0,none⟩) l d))
       (first|assumption|(go_keep;done))
       (first
        |(go_at_call 63;(with_reducible refine j4.o.mono ?_);rintro e y7 ⟨y8,rfl,q3,n6,o0,p2,p3⟩))
      clear p1 j4 q3 p2 p3;go_wp2_with fail;go_ret;exact⟨i,Vs,rfl,d2.o.1,n6.o,d2.o.2,o0.o⟩
     ·have q0:(k==5)=false:=zL e4;obtain⟨t0,t1,t2,t3,t4,t5,t6⟩:=W.o.s7;go_wp2_with fail;go_ret;exact⟨i,Vs,rfl,d2.o.1,b5.o,d2.o.2,c9.o⟩
def iP (cs:List Value):List Value:=.bool true::(cs++[.slice none 0 0])
structure qm (P:Nat->Prop) (f:Nat->Option Tm) (w:World) (nm:Nat) (xs:List Value) (b:Int->Option Tm):Prop where
 out:∀ v:Int,(v<0\/(nm:Int)<=v)->b v=none
 cell:∀ v:Nat,v<nm->(b v=none/\∀ q,q<9->xs[v*9+q]?=zc[q]?)\/∃ t cs,b v=some t/\cU P f w t cs/\∀ q,q<9->xs[v*9+q]?=(iP cs)[q]?
theorem qm.stay {P:Nat->Prop} {f:Nat->Option Tm} {w w':World} {nm:Nat} {xs:List Value} {b:Int->Option Tm} (h:qm P f w nm xs b) (g:cT P w w'):qm P f w' nm xs b:=
 ⟨h.out,fun v i=>(h.cell v i).imp id fun ⟨t,a,c,d,e⟩=>⟨t,a,c,d.stay g,e⟩⟩
def kg (nm:Nat) (L:List Tm):Prop:=DC L/\∀ t∈L,∀ v,t=.var v->0<=v/\v<(nm:Int)
def kX (L:List Tm) (b:Int->Option Tm):Prop:=∀ v t,b v=some t->t∈L/\∀ u,t=.var u->u<v
theorem aK {k v:Int} {s:ByteArray} {n:LN} {args:List Tm} (h:(Tm.mk k v s n args).fine) (a:k=1):Tm.mk k v s n args=.var v:=by
 have:=(Tm.mk k v s n args).cn_fine h;rw[Tm.cn]at this;exact this.1 a
theorem aS {k v u:Int} {s:ByteArray} {n:LN} {args:List Tm} (h:Tm.mk k v s n args=.var u):k=1/\v=u:=by
 unfold Tm.var at h;simp only[Tm.mk.injEq]at h;exact⟨h.1,h.2.1⟩
theorem lA {P:Nat->Prop} {f:Nat->Option Tm} {w:World} {nm:Nat} {xs:List Value} {b:Int->Option Tm} {L:List Tm} (hB:qm P f w nm xs b) (D:kg nm L) (hL:kX L b):∀ (N:Nat) (t:Tm) (cs:List Value),t∈L->cU P f w t cs->(∀ v,t=.var v->v.toNat<N)->
 ∃ n m a,kE nm xs n cs a/\dK b t m/\cU P f w m a/\m∈L/\∀ v,m=.var v->b v=none:=by
 intro N
 induction N with
 |zero=>
  intro t cs j l G;have d:=l;obtain⟨k,v,s,n,o⟩:=t;have I:=(D.1.2 _ j).1;by_cases c:k=1
  ·exact absurd (G v (aK I c)) (by omega)
  ·cases l with
   |mk _ _ _ _ _ A C Q p a _ _ _ y z=>
    obtain⟨O,T,rfl,_⟩:=y;obtain⟨S,U,rfl,_⟩:=z;exact⟨0,_,_,.other _ _ _ _ _ _ _ _ _ _ _ _ _ c,.stop fun u e=>absurd (aS e).1 c,d,j,fun u e=>absurd (aS e).1 c⟩
 |succ N ih=>
  intro t cs j l G;have d:=l;obtain⟨k,v,s,n,o⟩:=t;have I:=(D.1.2 _ j).1;by_cases c:k=1
  ·have F:=aK I c;have hr:=D.2 _ j v F;obtain⟨i,E⟩:=Int.eq_ofNat_of_zero_le hr.1;have h:i<nm:=by omega
   cases l with
   |mk _ _ _ _ _ A C Q p a _ _ _ y z=>
   obtain⟨O,T,rfl,_⟩:=y;obtain⟨S,U,rfl,_⟩:=z;rcases hB.cell i h with ⟨g,B⟩|⟨x,Y,g,B,V⟩
   ·rw[<-E]at g;refine⟨0,_,_,.free i _ _ _ _ _ _ _ _ _ _ _ _ _ c E h ?_,.stop fun u e=>?_,d,j,fun u e=>?_⟩
    ·have:=B 0 (by omega);rw[Nat.add_zero]at this;exact this
    ·rw[<-(aS e).2];exact g
    ·rw[<-(aS e).2];exact g
   ·rw[<-E]at g;have M:=hL v x g;obtain⟨X,m,r,Z,g2,g3,g4,g5⟩:=ih x Y M.1 B (fun u e=>by
     have h4:=M.2 u e;have h5:=(D.2 _ M.1 u e).1;have h6:=G v F;omega)
    obtain⟨pk,pv,ps,pn,pA,pa,pc,pB,pd,pe,pX,pl,pq,rfl⟩:=B.form;refine⟨X+1,m,r,.step X i _ _ _ _ _ _ _ _ _ _ _ _ _ pk pv ps pn pA pa pc pB pd pe pX pl pq _ c E h ?_ (fun q u W=>?_) Z,by rw[F];exact .step g g2,g3,g4,g5⟩
    ·have:=V 0 (by omega);rw[Nat.add_zero]at this;exact this
    ·have J:q<7:=(zK W).1;have:=V (q+1) (by omega);rw[show i*9+1+q=i*9+(q+1) by omega,this];unfold iP;rw[List.getElem?_cons_succ,List.getElem?_append_left (by simpa using J)];exact W
  ·cases l with
   |mk _ _ _ _ _ A C Q p a _ _ _ y z=>
    obtain⟨O,T,rfl,_⟩:=y;obtain⟨S,U,rfl,_⟩:=z;exact⟨0,_,_,.other _ _ _ _ _ _ _ _ _ _ _ _ _ c,.stop fun u e=>absurd (aS e).1 c,d,j,fun u e=>absurd (aS e).1 c⟩
theorem l9 {xs:List Value} {a u q:Nat} {b c n2 d e f g i j:Value} (k:a*9+8<xs.length) (l:q<9):(mZ xs a b c n2 d e f g i j)[u*9+q]?=if u=a then [b,c,n2,d,e,f,g,i,j][q]? else xs[u*9+q]?:=by
 unfold mZ;by_cases h:u=a
 ·subst h;rw[if_pos rfl];have:q=0\/q=1\/q=2\/q=3\/q=4\/q=5\/q=6\/q=7\/q=8:=by omega
  rcases this with rfl|rfl|rfl|rfl|rfl|rfl|rfl|rfl|rfl<;>simp[List.getElem?_set]<;>omega
 ·rw[if_neg h]
  repeat rw[List.getElem?_set_ne (by omega)]
theorem qm.upd {P:Nat->Prop} {f:Nat->Option Tm} {w:World} {nm:Nat} {xs:List Value} {b:Int->Option Tm} (h:qm P f w nm xs b) {c:Nat} (A:c<nm) (B:xs.length=nm*9) {t:Tm} {j k n2 l m n o:Value} (z:cU P f w t [j,k,n2,l,m,n,o]):qm P f w nm (mZ xs c (.bool true) j k n2 l m n o (.slice none 0 0)) (Go.Proofs.YtlhojoefhannnaaGreat.upd b c t):=by
 refine⟨fun v i=>?_,fun v i=>?_⟩
 ·unfold Go.Proofs.YtlhojoefhannnaaGreat.upd;rw[if_neg (by omega)];exact h.out v i
 ·by_cases e:v=c
  ·subst e;refine .inr ⟨t,[j,k,n2,l,m,n,o],by unfold Go.Proofs.YtlhojoefhannnaaGreat.upd;rw[if_pos rfl],z,fun q a=>?_⟩;rw[l9 (by omega) a,if_pos rfl];rfl
  ·have r:Go.Proofs.YtlhojoefhannnaaGreat.upd b c t v=b v:=by unfold Go.Proofs.YtlhojoefhannnaaGreat.upd;rw[if_neg (by omega)]
   rw[r];refine (h.cell v i).imp (fun ⟨d,g⟩=>⟨d,fun q a=>?_⟩) fun ⟨x,p,d,g,y⟩=>⟨x,p,d,g,fun q a=>?_⟩
   ·rw[l9 (by omega) a,if_neg e];exact g q a
   ·rw[l9 (by omega) a,if_neg e];exact y q a
def mL (b:Int->Option Tm) (v:Int) (Z:Tm->Prop) (x:Tm):Prop:=(∀ u,x=.var u->(b u=none->u≠v)/\∀ y,b u=some y->Z y)/\((∀ u,x≠.var u)->∀ a∈x.args,Z a)
theorem mL.mono {b:Int->Option Tm} {v:Int} {Z Y:Tm->Prop} {x:Tm} (h:mL b v Z x) (c:∀ y,Z y->Y y):mL b v Y x:=
 ⟨fun u e=>⟨(h.1 u e).1,fun y g=>c y ((h.1 u e).2 y g)⟩,fun f a d=>c a (h.2 f a d)⟩
theorem zr {u:Int} {l:List Tm} (h:dA u l):∃ a∈l,a.occ u:=by
 induction l with
 |nil=>rw[dA]at h;exact h.elim
 |cons t l d=>
  rw[dA]at h;rcases h with h|h
  ·exact⟨t,by simp,h⟩
  ·obtain⟨a,b,c⟩:=d h;exact⟨a,by simp[b],c⟩
theorem BT {u:Int} {l:List Tm} {a:Tm} (b:a∈l) (h:a.occ u):dA u l:=by
 induction l with
 |nil=>cases b
 |cons t l c=>
  rw[dA];rcases List.mem_cons.1 b with rfl|b
  ·exact .inl h
  ·exact .inr (c b)
theorem vm {u:Int} {x a:Tm} (f:∀ v,x≠.var v) (c:x.cn) (d:a∈x.args) (h:a.occ u):x.occ u:=by
 obtain⟨k,v,s,n,b⟩:=x;rw[Tm.cn]at c;rw[Tm.occ];exact .inr ⟨fun e=>f v (c.1 e),BT d h⟩
theorem eB.arg {b:Int->Option Tm} {v:Int} {x a:Tm} (e:∀ v,x≠.var v) (d:x.cn) (c:a∈x.args) (h:eB b v a):eB b v x:=by
 cases h with
 |here h=>exact .here (vm e d c h)
 |there h f g=>exact .there (vm e d c h) f g
theorem kT (v:Int):(Tm.var v).occ v:=by unfold Tm.var;rw[Tm.occ];exact .inl ⟨rfl,rfl⟩
mutual
theorem Tm.in_closed {b:Int->Option Tm} {v u:Int} {V:Tm->Prop} (hcl:∀ x,V x->x.cn/\mL b v V x):∀ (t:Tm),V t->t.occ u->V (.var u)
 |.mk k w s n args,hV,h=>by
  rw[Tm.occ]at h;rcases h with ⟨hk,rfl⟩|⟨hk,h⟩
  ·have:=(hcl _ hV).1;rw[Tm.cn]at this;rw[<-this.1 hk];exact hV
  ·exact kA hcl args (fun a ha=>(hcl _ hV).2.2 (fun q e=>hk (aS e).1) a ha) h
theorem kA {b:Int->Option Tm} {v u:Int} {V:Tm->Prop} (hcl:∀ x,V x->x.cn/\mL b v V x):∀ (l:List Tm),(∀ a∈l,V a)->dA u l->V (.var u)
 |[],_,h=>by rw[dA]at h;exact h.elim
 |t::l,hV,h=>by
  rw[dA]at h;rcases h with h|h
  ·exact t.in_closed hcl (hV t (by simp)) h
  ·exact kA hcl l (fun a ha=>hV a (by simp[ha])) h
end
theorem mL.no {b:Int->Option Tm} {v:Int} {V:Tm->Prop} (d:b v=none) (a:∀ x,V x->x.cn/\mL b v V x) {x:Tm} (h:eB b v x):V x->False:=by
 induction h with
 |here h=>intro c;exact ((a _ (Tm.in_closed a _ c h)).2.1 v rfl).1 d rfl
 |there h e _ f=>intro c;exact f (((a _ (Tm.in_closed a _ c h)).2.1 _ rfl).2 _ e)
structure eA (L:List Tm) (b:Int->Option Tm) (v:Int) (t:Tm) (S V:List Tm):Prop where
 stk:∀ x∈S,x∈L/\(eB b v x->eB b v t)
 vis:∀ x∈V,x∈L/\mL b v (fun y=>y∈V\/y∈S) x
 top:t∈V\/t∈S
theorem eA.start {L:List Tm} {b:Int->Option Tm} {v:Int} {t:Tm} (h:t∈L):eA L b v t [t] []:=
 ⟨fun x a=>by rw[List.mem_singleton]at a;subst a;exact⟨h,id⟩,fun x a=>(by cases a),.inr (by simp)⟩
theorem eA.none {L:List Tm} {b:Int->Option Tm} {v:Int} {t:Tm} {V:List Tm} (h:eA L b v t [] V) (d:b v=none) (c:∀ x∈L,x.fine):¬eB b v t:=fun e=>by
 have f:t∈V:=h.top.elim id fun h=>by cases h
 exact mL.no (V:=fun x=>x∈V) d (fun x a=>⟨x.cn_fine (c x (h.vis x a).1),(h.vis x a).2.mono fun y g=>g.elim id fun h=>by cases h⟩) e f
theorem eA.step {L:List Tm} {b:Int->Option Tm} {v:Int} {t x:Tm} {S V N:List Tm} (h:eA L b v t (S++[x]) V) (g:mL b v (fun y=>y∈V\/y=x\/y∈S\/y∈N) x) (e:∀ y∈N,y∈L/\(eB b v y->eB b v x)):eA L b v t (S++N) (x::V):=by
 have d:=h.stk x (by simp);refine⟨fun y c=>?_,fun y c=>?_,?_⟩
 ·rcases List.mem_append.1 c with c|c
  ·exact h.stk y (by simp[c])
  ·exact⟨(e y c).1,fun f=>d.2 ((e y c).2 f)⟩
 ·rcases List.mem_cons.1 c with rfl|c
  ·refine⟨d.1,g.mono fun z a=>?_⟩;rcases a with a|a|a|a
   ·exact .inl (by simp[a])
   ·exact .inl (by simp[a])
   ·exact .inr (by simp[a])
   ·exact .inr (by simp[a])
  ·refine⟨(h.vis y c).1,(h.vis y c).2.mono fun z a=>?_⟩;rcases a with a|a
   ·exact .inl (by simp[a])
   ·rcases List.mem_append.1 a with a|a
    ·exact .inr (by simp[a])
    ·rw[List.mem_singleton]at a;exact .inl (by simp[a])
 ·rcases h.top with h|h
  ·exact .inl (by simp[h])
  ·rcases List.mem_append.1 h with h|h
   ·exact .inr (by simp[h])
   ·rw[List.mem_singleton]at h;exact .inl (by simp[h])
theorem eA.again {L:List Tm} {b:Int->Option Tm} {v:Int} {t x:Tm} {S V:List Tm} (h:eA L b v t (S++[x]) V) (c:x∈V):eA L b v t (S++[]) (x::V):=by
 refine h.step ((h.vis x c).2.mono fun y a=>?_) fun y a=>by cases a
 rcases a with a|a
 ·exact .inl a
 ·rcases List.mem_append.1 a with a|a
  ·exact .inr (.inr (.inl a))
  ·rw[List.mem_singleton]at a;exact .inr (.inl a)
def bP (cs:Nat->List Value):Nat->List Value
 |0=>[]
 |l+1=>bP cs l++cs l
theorem dX {cs:Nat->List Value}:∀ {l:Nat},(∀ i,i<l->(cs i).length=7)->(bP cs l).length=l*7
 |0,_=>by rw[bP];rfl
 |l+1,h=>by
  rw[bP,zE,dX fun i hi=>h i (by omega),h l (by omega)];omega
theorem gJ {cs:Nat->List Value}:∀ {l:Nat},(∀ i,i<l->(cs i).length=7)->∀ {i q:Nat},i<l->q<7->(bP cs l)[i*7+q]?=(cs i)[q]?
 |0,_,i,q,hi,_=>by omega
 |l+1,h,i,q,hi,hq=>by
  have hl:=dX (l:=l) fun i hi=>h i (by omega);rw[bP];by_cases e:i=l
  ·subst e;rw[List.getElem?_append_right (by omega)]
   congr 1
   omega
  ·rw[List.getElem?_append_left (by omega)];exact gJ (fun i hi=>h i (by omega)) (by omega) hq
theorem mw {cs:Nat->List Value}:∀ {l:Nat} {u:Value},u∈bP cs l->∃ i,i<l/\u∈cs i
 |0,u,h=>by rw[bP]at h;cases h
 |l+1,u,h=>by
  rw[bP,List.mem_append]at h;rcases h with h|h
  ·obtain⟨i,hi,hu⟩:=mw h;exact⟨i,by omega,hu⟩
  ·exact⟨l,by omega,h⟩
theorem TC.one {w:World} {t:Tm} {cs:List Value} (h:TC w t cs):∀ u∈cs,u.oneCell'=true:=fun u a=>by
 obtain⟨k,v,s,m,c,j,f,d,i,g,e,l,b,rfl⟩:=h.form;simp only[List.mem_cons,List.not_mem_nil,or_false]at a;rcases a with rfl|rfl|rfl|rfl|rfl|rfl|rfl<;>rfl
theorem tN (w:World) (r:Option Nat):w.grownBy w r:=⟨rfl,rfl,rfl,zN _,fun _ _ _=>rfl⟩
theorem iM (w:World) {y:Array Oper} {k:List Oper} {o:Oper} {a:Act} {Q:Exit->Act->World->Prop} (q:o.guard=none) (s x:Operand)
 (U:o.op=.call { callee:=.builtin .append,args:=#[s,x],argTypes:=#[25,25] })
 (B:Nat) (p d n:Nat) (xs:List Value) (V:a.eval s=.slice (some ⟨p,0,none⟩) n d) (I:n<=d) (f:w.ownsRow B 27 7 (.slice (some ⟨p,0,none⟩) n d) n xs)
 (A:Option Addr) (l c:Nat) (ts:List Tm) (cs:Nat->List Value) (hl:ts.length=l) (X:a.eval x=.slice A l c) (t:0<ts.length->∃ b o,A=some ⟨b,o,none⟩/\b<w.heap.size/\∀ i,i<ts.length->∀ j,j<7->w.cell? ⟨b,o+i*7+j,none⟩=(cs i)[j]?) (W:∀ i (h:i<ts.length),TC w ts[i] (cs i))
 (D:n+l<=maxLen) (e:(n+l)*112<=140737488355328) (m:B<=w.heap.size)
 (h:∀ gv w',w'.ownsRow B 27 7 gv (n+l) (xs++bP cs l)->w.grownBy w' (some p)->wpList prog y Q k (a.put o.dst gv) w'):wpList prog y Q (o::k) a w:=by
 subst hl;obtain⟨S,r,M,N,O⟩:=info_parts dR;by_cases T:ts.length=0
 ·refine wpList_plain q fun K hK=>?_;have v:Src prog S.size 25 (.slice A 0 c) 0 [] w:=by
   cases A with
   |none=>exact Src.ofNil w underlying25 c
   |some Y=>exact Src.ofSlice w underlying25 Y 0 c [] (by simp) (fun j u C=>by simp at C) (by simp)
  have hr:=run_append_nothing (P:=prog) w 25 25 o.type 27 S underlying25 r (some ⟨p,0,none⟩) n d I (.slice A 0 c) v;have L:a.eval x=.slice A 0 c:=by rw[X,T]
  have hq:=h (.slice (some ⟨p,0,none⟩) n d) w (by rw[T,bP,List.append_nil];exact f) (tN _ _);unfold Oper.wp execOp;simp only[U,resolve,invoke,builtin,Sem.run_bind,Sem.run_pure,Result.andThen_ok,List.map_toArray,List.map_cons,List.map_nil,V,L,hr];exact hK _ _ hq
 ·obtain⟨b,of,rfl,a1,hc⟩:=t (by omega);have E:∀ i,i<ts.length->(cs i).length=7:=fun i G=>(W i G).len;refine wpList_append_lies w q s x 25 U B 27 S (.agg zt.toArray) 7 112 underlying25 r M N O rfl (by decide) _ n xs V f ⟨b,of,none⟩ ts.length c (bP cs ts.length) X (dX E) (fun j u C=>?_) (fun u J=>?_) (by omega) D e m _ rfl fun g Z w' z h2 _ _=>h _ w' z h2
  ·have a0:j<ts.length*7:=by
    have:=(zK C).1
    rwa [dX E]at this
   have F:j / 7*7+j % 7=j:=by omega
   have z:=hc (j / 7) (by omega) (j % 7) (by omega);rw[<-gJ E (by omega) (by omega),F,C]at z;rw[Go.WideShapes.add_plain,<-z]
   congr 2
   omega
  ·obtain⟨i,G,J⟩:=mw J;exact (W i G).one u J
end Go.Proofs.YtlhojoefhannnaaGreat
