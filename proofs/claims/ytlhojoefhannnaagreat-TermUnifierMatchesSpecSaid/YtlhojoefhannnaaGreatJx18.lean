/- (*heap.unifier).step at two compounds whose roots fit: their arguments' pairs are pushed. And 5 more texts. -/
import Derived.Test.YtlhojoefhannnaaGreatJx17
set_option linter.unusedVariables false
set_option linter.unusedSimpArgs false
set_option maxRecDepth 100000
set_option maxHeartbeats 51200000
namespace Go.Proofs.YtlhojoefhannnaaGreat
open Go.Proofs.Tryz Go.RowKit NumB
structure PN (och:Bool) (B h U:Nat) (f:Nat->Option Tm) (L:List Tm) (X Y xarr yarr:Array Value) (xb yb:Nat) (w:World) (N M st:Value) (Mt:List (Tm×Tm)) (n:Nat) (zs:List Value) (W:World):Prop where
 u:AS och W U h N M st
 x:ah W w.heap.size 27 X
 y:ah W (w.heap.size+1) 27 Y
 xr:ah W xb 27 xarr
 yr:ah W yb 27 yarr
 row:W.ownsRow B 101 14 st n zs
 nm:oP B f L W N M Mt
 fr:aD [some 106,some 101,none] w W
 be:Below B w W
 sz:B<=W.heap.size
theorem PN.below {och:Bool} {B h U:Nat} {f:Nat->Option Tm} {L:List Tm} {X Y b c:Array Value} {i j:Nat} {w:World} {N M e:Value} {Mt:List (Tm×Tm)} {n:Nat} {k:List Value} {W:World} {d:World} (g:PN och B h U f L X Y b c i j w N M e Mt n k W) (a:zZ W d):PN och B h U f L X Y b c i j w N M e Mt n k d:=
 ⟨ah.to g.u a,g.x.to a,g.y.to a,g.xr.to a,g.yr.to a,ay (ts:=[]) g.row (aD.of_below a) (by simp),g.nm.frT (ts:=[]) (aD.of_below a) (by simp) (by simp) (by simp),g.fr.trans (aD.of_below a),g.be.trans (a.mono g.sz),zC g.sz a.size⟩
theorem PN.drew {och:Bool} {B h U:Nat} {f:Nat->Option Tm} {L:List Tm} {X Y a b:Array Value} {d e:Nat} {w:World} {N M c:Value} {Mt:List (Tm×Tm)} {n:Nat} {i:List Value} {W:World} (g:PN och B h U f L X Y a b d e w N M c Mt n i W):PN och B h U f L X Y a b d e w N M c Mt n i W.drew:=g.below zB.drew
theorem PN.push {och:Bool} {B h U:Nat} {f:Nat->Option Tm} {L:List Tm} {X Y d e:Array Value} {r t:Nat} {w:World} {N M q:Value} {Mt:List (Tm×Tm)} {n:Nat} {F:List Value} {W:World} {c:Value} {m:Nat} {j:List Value} {b:World} (g:PN och B h U f L X Y d e r t w N M q Mt n F W) (C:B<=U) (l:W.grownBy b q.ownBlock) (E:b.ownsRow B 101 14 c m j):
 (ah b U 106 #[.pointer (some ⟨h,0,none⟩),.bool och,N,M,.slice none 0 0,q]/\ah b w.heap.size 27 X/\ah b (w.heap.size+1) 27 Y/\ah b r 27 d/\ah b t 27 e)/\PN och B h U f L X Y d e r t w N M c Mt m j (b.setCell ⟨U,5,none⟩ c):=by
 have i:aD [some 101] W b:=(aD.refl _ _).grown l fun k o=>by
  obtain⟨A,f,D⟩:=Lib.ownsRow_kind g.row k o;exact⟨A,_,f,D,by decide⟩
 have u1:=ah.frT g.u i (by decide);have u2:=u1.set_ 5 c;simp only[L1]at u2;have a:aD [some 106] b (b.setCell ⟨U,5,none⟩ c):=(aD.refl _ _).setCell (p:=⟨U,5,none⟩) u1 (by decide) _;have y:=g.x.frT i (by decide);have z:=g.y.frT i (by decide);have v:=g.xr.frT i (by decide);have x:=g.yr.frT i (by decide);exact⟨⟨u1,y,z,v,x⟩,⟨u2,y.frT a (by decide),z.frT a (by decide),v.frT a (by decide),x.frT a (by decide),ay E a (by decide),(g.nm.frT i (by decide) (by decide) (by decide)).frT a (by decide) (by decide) (by decide),(g.fr.trans (i.mono (by decide))).trans (a.mono (by decide)),(g.be.grown l g.sz (fun k o=>(g.row.lt k o).1)).setCell (p:=⟨U,5,none⟩) C _,zC g.sz (zC l.size (by simp))⟩⟩
theorem Ae (och:Bool) (B h U n l:Nat) (f:Nat->Option Tm) (L:List Tm) (N M Z:Value) (Mt Y:List (Tm×Tm)) (r:Bool) (T:List Value) (i:ByteArray) (hl:0<l) (g8:l<=100) (D:Int) (C:Bool) (t:Option Addr) (x y:Nat) (v:Option Addr) (z A c k o:Nat) (a:Array Value) (Q:Int) (P:Bool) (E:Option Addr) (G I:Nat) (F:Option Addr) (J O d m p:Nat) (b:Array Value) (pr:Nat->List Value)
 (e3:∀ j,j<l->∃ (fk fv:Int) (fs:ByteArray) (fn:Bool) (fA:Option Addr) (fa fc:Nat) (fB:Option Addr) (fd fe:Nat) (fX:Option Addr) (fl fq:Nat) (mk mv:Int) (ms:ByteArray) (mn:Bool) (mA:Option Addr) (ma mc:Nat) (mB:Option Addr) (md me:Nat) (mX:Option Addr) (ml mq:Nat),pr j=[(Value.int .i64 fk),(Value.int .i64 fv),(Value.string fs),(Value.bool fn),(Value.slice fA fa fc),(Value.slice fB fd fe),(Value.slice fX fl fq),(Value.int .i64 mk),(Value.int .i64 mv),(Value.string ms),(Value.bool mn),(Value.slice mA ma mc),(Value.slice mB md me),(Value.slice mX ml mq)]/\(∀ q,q<7->a[k+j*7+q]?=[(Value.int .i64 fk),(Value.int .i64 fv),(Value.string fs),(Value.bool fn),(Value.slice fA fa fc),(Value.slice fB fd fe),(Value.slice fX fl fq),(Value.int .i64 mk),(Value.int .i64 mv),(Value.string ms),(Value.bool mn),(Value.slice mA ma mc),(Value.slice mB md me),(Value.slice mX ml mq)][q]?)/\∀ q,q<7->b[m+j*7+q]?=[(Value.int .i64 fk),(Value.int .i64 fv),(Value.string fs),(Value.bool fn),(Value.slice fA fa fc),(Value.slice fB fd fe),(Value.slice fX fl fq),(Value.int .i64 mk),(Value.int .i64 mv),(Value.string ms),(Value.bool mn),(Value.slice mA ma mc),(Value.slice mB md me),(Value.slice mX ml mq)][7+q]?)
 (hn:n<=100000000000) (w:World) (hB:B<=U) (hx:ah w c 27 a) (hy:ah w d 27 b) (e5:c≠d) (hU:AS och w U h N M Z) (hM:oP B f L w N M Mt) (e4:w.ownsRow B 101 14 Z n T)
 (d8:∀ W,PN och B h U f L #[.int .i64 5,.int .i64 D,.string i,.bool C,.slice t x y,.slice v z A,.slice (some ⟨c,k,none⟩) l o] #[.int .i64 5,.int .i64 Q,.string i,.bool P,.slice E G I,.slice F J O,.slice (some ⟨d,m,none⟩) l p] a b c d w N M Z Mt n T W->Calls prog 85 #[.pointer (some ⟨U,0,none⟩),.agg #[.int .i64 5,.int .i64 D,.string i,.bool C,.slice t x y,.slice v z A,.slice (some ⟨c,k,none⟩) l o],.agg #[.int .i64 5,.int .i64 Q,.string i,.bool P,.slice E G I,.slice F J O,.slice (some ⟨d,m,none⟩) l p]] W fun e w'=>e=.returned (.bool r)/\∃ N' M',PN och B h U f L #[.int .i64 5,.int .i64 D,.string i,.bool C,.slice t x y,.slice v z A,.slice (some ⟨c,k,none⟩) l o] #[.int .i64 5,.int .i64 Q,.string i,.bool P,.slice E G I,.slice F J O,.slice (some ⟨d,m,none⟩) l p] a b c d w N' M' Z Y n T w'):
 Calls prog 58 #[.pointer (some ⟨U,0,none⟩),.agg #[.int .i64 5,.int .i64 D,.string i,.bool C,.slice t x y,.slice v z A,.slice (some ⟨c,k,none⟩) l o],.agg #[.int .i64 5,.int .i64 Q,.string i,.bool P,.slice E G I,.slice F J O,.slice (some ⟨d,m,none⟩) l p]] w fun e w'=>e=.returned (.bool true)/\(r=true->∃ N' M',PN och B h U f L #[.int .i64 5,.int .i64 D,.string i,.bool C,.slice t x y,.slice v z A,.slice (some ⟨c,k,none⟩) l o] #[.int .i64 5,.int .i64 Q,.string i,.bool P,.slice E G I,.slice F J O,.slice (some ⟨d,m,none⟩) l p] a b c d w N' M' Z Y n T w')/\(r=false->∃ N' M' g2,PN och B h U f L #[.int .i64 5,.int .i64 D,.string i,.bool C,.slice t x y,.slice v z A,.slice (some ⟨c,k,none⟩) l o] #[.int .i64 5,.int .i64 Q,.string i,.bool P,.slice E G I,.slice F J O,.slice (some ⟨d,m,none⟩) l p] a b c d w N' M' g2 Y (n+l) (T++rp pr l 0) w'):=by
 have HX:=zH hx;have HY:=zH hy;have HM:=zH hM;have c6:=zH d8;have HB:=zH hB;have f0:=zH e3;have f3:=zH e5;have a0:=zH (ax w (.cells #[.int .i64 5,.int .i64 D,.string i,.bool C,.slice t x y,.slice v z A,.slice (some ⟨c,k,none⟩) l o] 27) (.cells #[.int .i64 5,.int .i64 Q,.string i,.bool P,.slice E G I,.slice F J O,.slice (some ⟨d,m,none⟩) l p] 27));have f1:Yd (ah ((w.alloc (.cells #[.int .i64 5,.int .i64 D,.string i,.bool C,.slice t x y,.slice v z A,.slice (some ⟨c,k,none⟩) l o] 27)).alloc (.cells #[.int .i64 5,.int .i64 Q,.string i,.bool P,.slice E G I,.slice F J O,.slice (some ⟨d,m,none⟩) l p] 27)) w.heap.size 27 (zX 5 D i C t x y v z A (some ⟨c,k,none⟩) l o).toArray):=(ah.new w _ _).alloc _;have f2:Yd (ah ((w.alloc (.cells #[.int .i64 5,.int .i64 D,.string i,.bool C,.slice t x y,.slice v z A,.slice (some ⟨c,k,none⟩) l o] 27)).alloc (.cells #[.int .i64 5,.int .i64 Q,.string i,.bool P,.slice E G I,.slice F J O,.slice (some ⟨d,m,none⟩) l p] 27)) (w.heap.size+1) 27 (zX 5 Q i P E G I F J O (some ⟨d,m,none⟩) l p).toArray):=by
  have:=ah.new (w.alloc (.cells #[.int .i64 5,.int .i64 D,.string i,.bool C,.slice t x y,.slice v z A,.slice (some ⟨c,k,none⟩) l o] 27)) 27 #[.int .i64 5,.int .i64 Q,.string i,.bool P,.slice E G I,.slice F J O,.slice (some ⟨d,m,none⟩) l p];rw[show (w.alloc (.cells #[.int .i64 5,.int .i64 D,.string i,.bool C,.slice t x y,.slice v z A,.slice (some ⟨c,k,none⟩) l o] 27)).heap.size=w.heap.size+1 by simp]at this;exact this
 have c5:Yd (B<=w.heap.size):=zC hB (Nat.le_of_lt hU.lt);have b2:Yd (PN och B h U f L (zX 5 D i C t x y v z A (some ⟨c,k,none⟩) l o).toArray (zX 5 Q i P E G I F J O (some ⟨d,m,none⟩) l p).toArray a b c d w N M Z Mt n T ((w.alloc (.cells #[.int .i64 5,.int .i64 D,.string i,.bool C,.slice t x y,.slice v z A,.slice (some ⟨c,k,none⟩) l o] 27)).alloc (.cells #[.int .i64 5,.int .i64 Q,.string i,.bool P,.slice E G I,.slice F J O,.slice (some ⟨d,m,none⟩) l p] 27))):=⟨ah.to hU a0.o,f1.o,f2.o,HX.o.to a0.o,HY.o.to a0.o,ay (ts:=[]) e4 (aD.of_below a0.o) (by simp),HM.o.frT (ts:=[]) (aD.of_below a0.o) (by simp) (by simp) (by simp),aD.of_below a0.o,a0.o.mono c5.o,zC c5.o a0.o.size⟩;have a7:Yd (∀ N M Z Mt n zs W,PN och B h U f L (zX 5 D i C t x y v z A (some ⟨c,k,none⟩) l o).toArray (zX 5 Q i P E G I F J O (some ⟨d,m,none⟩) l p).toArray a b c d w N M Z Mt n zs W->(W.heap[c]?=some (Obj.cells a 27 (0,0))/\W.heap[d]?=some (Obj.cells b 27 (0,0))/\W.cell? ⟨w.heap.size,0,none⟩=some (.int .i64 5)/\W.cell? ⟨w.heap.size,1,none⟩=some (.int .i64 D)/\W.cell? ⟨w.heap.size,2,none⟩=some (.string i)/\W.cell? ⟨w.heap.size,3,none⟩=some (.bool C)/\W.cell? ⟨w.heap.size,4,none⟩=some (.slice t x y)/\W.cell? ⟨w.heap.size,5,none⟩=some (.slice v z A)/\W.cell? ⟨w.heap.size,6,none⟩=some (.slice (some ⟨c,k,none⟩) l o)/\W.cell? ⟨(w.heap.size+1),0,none⟩=some (.int .i64 5)/\W.cell? ⟨(w.heap.size+1),1,none⟩=some (.int .i64 Q)/\W.cell? ⟨(w.heap.size+1),2,none⟩=some (.string i)/\W.cell? ⟨(w.heap.size+1),3,none⟩=some (.bool P)/\W.cell? ⟨(w.heap.size+1),4,none⟩=some (.slice E G I)/\W.cell? ⟨(w.heap.size+1),5,none⟩=some (.slice F J O)/\W.cell? ⟨(w.heap.size+1),6,none⟩=some (.slice (some ⟨d,m,none⟩) l p))):=fun N M Z Mt n zs W g=>⟨g.xr,g.yr,g.x.cell 0,g.x.cell 1,g.x.cell 2,g.x.cell 3,g.x.cell 4,g.x.cell 5,g.x.cell 6,g.y.cell 0,g.y.cell 1,g.y.cell 2,g.y.cell 3,g.y.cell 4,g.y.cell 5,g.y.cell 6⟩;obtain⟨_,_,t0,t1,t2,t3,t4,t5,t6,q0,q1,q2,q3,q4,q5,q6⟩:=a7.o _ _ _ _ _ _ _ b2.o;have g0:=a7.o _ _ _ _ _ _ _ b2.o.drew;have g7:(0:Int)<(l:Int):=by omega
 clear hx hy hB hU e4 e3 e5 hM d8;obtain⟨i0,e0,e6,e7,e8⟩:=info_parts wG;have c7:=zH e0;have d5:=zH e6;have d6:=zH e7;have d7:=zH e8;clear e0 e6 e7 e8;go_enter func58,ntmps58;go_wp2_with fail;have f8:∀ W:World,W.heap[c]?=some (Obj.cells a 27 (0,0))->W.heap[d]?=some (Obj.cells b 27 (0,0))->(binOp .eql 109 (.pointer (some ⟨c,k,none⟩)) (.pointer (some ⟨d,m,none⟩))).run prog W=.ok (.bool false) W:=fun W h1 h2=>C4 f3.o h1 h2;have b3:Yd (PN och B h U f L (zX 5 D i C t x y v z A (some ⟨c,k,none⟩) l o).toArray (zX 5 Q i P E G I F J O (some ⟨d,m,none⟩) l p).toArray a b c d w N M Z Mt n T ((w.alloc (.cells #[.int .i64 5,.int .i64 D,.string i,.bool C,.slice t x y,.slice v z A,.slice (some ⟨c,k,none⟩) l o] 27)).alloc (.cells #[.int .i64 5,.int .i64 Q,.string i,.bool P,.slice E G I,.slice F J O,.slice (some ⟨d,m,none⟩) l p] 27)).drew):=b2.o.drew;have b0:Yd (∀ W,PN och B h U f L (zX 5 D i C t x y v z A (some ⟨c,k,none⟩) l o).toArray (zX 5 Q i P E G I F J O (some ⟨d,m,none⟩) l p).toArray a b c d w N M Z Mt n T W->Calls prog 63 #[.agg (zX 5 D i C t x y v z A (some ⟨c,k,none⟩) l o).toArray] W fun e w'=>e=.returned (.pointer (some ⟨c,k,none⟩))/\Yd (PN och B h U f L (zX 5 D i C t x y v z A (some ⟨c,k,none⟩) l o).toArray (zX 5 Q i P E G I F J O (some ⟨d,m,none⟩) l p).toArray a b c d w N M Z Mt n T w')/\(w'.heap[c]?=some (Obj.cells a 27 (0,0))/\w'.heap[d]?=some (Obj.cells b 27 (0,0))/\w'.cell? ⟨w.heap.size,0,none⟩=some (.int .i64 5)/\w'.cell? ⟨w.heap.size,1,none⟩=some (.int .i64 D)/\w'.cell? ⟨w.heap.size,2,none⟩=some (.string i)/\w'.cell? ⟨w.heap.size,3,none⟩=some (.bool C)/\w'.cell? ⟨w.heap.size,4,none⟩=some (.slice t x y)/\w'.cell? ⟨w.heap.size,5,none⟩=some (.slice v z A)/\w'.cell? ⟨w.heap.size,6,none⟩=some (.slice (some ⟨c,k,none⟩) l o)/\w'.cell? ⟨(w.heap.size+1),0,none⟩=some (.int .i64 5)/\w'.cell? ⟨(w.heap.size+1),1,none⟩=some (.int .i64 Q)/\w'.cell? ⟨(w.heap.size+1),2,none⟩=some (.string i)/\w'.cell? ⟨(w.heap.size+1),3,none⟩=some (.bool P)/\w'.cell? ⟨(w.heap.size+1),4,none⟩=some (.slice E G I)/\w'.cell? ⟨(w.heap.size+1),5,none⟩=some (.slice F J O)/\w'.cell? ⟨(w.heap.size+1),6,none⟩=some (.slice (some ⟨d,m,none⟩) l p))):=fun W g=>by
  refine (fD 5 D i C t x y v z A c k l o hl W).mono ?_;rintro e w' ⟨rfl,hb⟩;exact⟨rfl,g.below hb,a7.o _ _ _ _ _ _ _ (g.below hb)⟩
 have b1:Yd (∀ W,PN och B h U f L (zX 5 D i C t x y v z A (some ⟨c,k,none⟩) l o).toArray (zX 5 Q i P E G I F J O (some ⟨d,m,none⟩) l p).toArray a b c d w N M Z Mt n T W->Calls prog 63 #[.agg (zX 5 Q i P E G I F J O (some ⟨d,m,none⟩) l p).toArray] W fun e w'=>e=.returned (.pointer (some ⟨d,m,none⟩))/\Yd (PN och B h U f L (zX 5 D i C t x y v z A (some ⟨c,k,none⟩) l o).toArray (zX 5 Q i P E G I F J O (some ⟨d,m,none⟩) l p).toArray a b c d w N M Z Mt n T w')/\(w'.heap[c]?=some (Obj.cells a 27 (0,0))/\w'.heap[d]?=some (Obj.cells b 27 (0,0))/\w'.cell? ⟨w.heap.size,0,none⟩=some (.int .i64 5)/\w'.cell? ⟨w.heap.size,1,none⟩=some (.int .i64 D)/\w'.cell? ⟨w.heap.size,2,none⟩=some (.string i)/\w'.cell? ⟨w.heap.size,3,none⟩=some (.bool C)/\w'.cell? ⟨w.heap.size,4,none⟩=some (.slice t x y)/\w'.cell? ⟨w.heap.size,5,none⟩=some (.slice v z A)/\w'.cell? ⟨w.heap.size,6,none⟩=some (.slice (some ⟨c,k,none⟩) l o)/\w'.cell? ⟨(w.heap.size+1),0,none⟩=some (.int .i64 5)/\w'.cell? ⟨(w.heap.size+1),1,none⟩=some (.int .i64 Q)/\w'.cell? ⟨(w.heap.size+1),2,none⟩=some (.string i)/\w'.cell? ⟨(w.heap.size+1),3,none⟩=some (.bool P)/\w'.cell? ⟨(w.heap.size+1),4,none⟩=some (.slice E G I)/\w'.cell? ⟨(w.heap.size+1),5,none⟩=some (.slice F J O)/\w'.cell? ⟨(w.heap.size+1),6,none⟩=some (.slice (some ⟨d,m,none⟩) l p))):=fun W g=>by
  refine (fD 5 Q i P E G I F J O d m l p hl W).mono ?_;rintro e w' ⟨rfl,hb⟩;exact⟨rfl,g.below hb,a7.o _ _ _ _ _ _ _ (g.below hb)⟩
 have c4:Yd (∀ W,PN och B h U f L (zX 5 D i C t x y v z A (some ⟨c,k,none⟩) l o).toArray (zX 5 Q i P E G I F J O (some ⟨d,m,none⟩) l p).toArray a b c d w N M Z Mt n T W->Calls prog 85 #[zY U,.agg (zX 5 D i C t x y v z A (some ⟨c,k,none⟩) l o).toArray,.agg (zX 5 Q i P E G I F J O (some ⟨d,m,none⟩) l p).toArray] W fun e w'=>e=.returned (.bool r)/\Yd (∃ N M,PN och B h U f L (zX 5 D i C t x y v z A (some ⟨c,k,none⟩) l o).toArray (zX 5 Q i P E G I F J O (some ⟨d,m,none⟩) l p).toArray a b c d w N M Z Y n T w')/\(w'.heap[c]?=some (Obj.cells a 27 (0,0))/\w'.heap[d]?=some (Obj.cells b 27 (0,0))/\w'.cell? ⟨w.heap.size,0,none⟩=some (.int .i64 5)/\w'.cell? ⟨w.heap.size,1,none⟩=some (.int .i64 D)/\w'.cell? ⟨w.heap.size,2,none⟩=some (.string i)/\w'.cell? ⟨w.heap.size,3,none⟩=some (.bool C)/\w'.cell? ⟨w.heap.size,4,none⟩=some (.slice t x y)/\w'.cell? ⟨w.heap.size,5,none⟩=some (.slice v z A)/\w'.cell? ⟨w.heap.size,6,none⟩=some (.slice (some ⟨c,k,none⟩) l o)/\w'.cell? ⟨(w.heap.size+1),0,none⟩=some (.int .i64 5)/\w'.cell? ⟨(w.heap.size+1),1,none⟩=some (.int .i64 Q)/\w'.cell? ⟨(w.heap.size+1),2,none⟩=some (.string i)/\w'.cell? ⟨(w.heap.size+1),3,none⟩=some (.bool P)/\w'.cell? ⟨(w.heap.size+1),4,none⟩=some (.slice E G I)/\w'.cell? ⟨(w.heap.size+1),5,none⟩=some (.slice F J O)/\w'.cell? ⟨(w.heap.size+1),6,none⟩=some (.slice (some ⟨d,m,none⟩) l p))):=fun W g=>by
  refine (c6.o W g).mono ?_;rintro e w' ⟨rfl,N,M,hp⟩;exact⟨rfl,⟨N,M,hp⟩,a7.o _ _ _ _ _ _ _ hp⟩
 clear t0 t1 t2 t3 t4 t5 t6 q0 q1 q2 q3 q4 q5 q6
 go_region_held3 (fun w'=>w'.heap[c]?=some (Obj.cells a 27 (0,0))/\w'.heap[d]?=some (Obj.cells b 27 (0,0))/\w'.cell? ⟨w.heap.size,0,none⟩=some (.int .i64 5)/\w'.cell? ⟨w.heap.size,1,none⟩=some (.int .i64 D)/\w'.cell? ⟨w.heap.size,2,none⟩=some (.string i)/\w'.cell? ⟨w.heap.size,3,none⟩=some (.bool C)/\w'.cell? ⟨w.heap.size,4,none⟩=some (.slice t x y)/\w'.cell? ⟨w.heap.size,5,none⟩=some (.slice v z A)/\w'.cell? ⟨w.heap.size,6,none⟩=some (.slice (some ⟨c,k,none⟩) l o)/\w'.cell? ⟨(w.heap.size+1),0,none⟩=some (.int .i64 5)/\w'.cell? ⟨(w.heap.size+1),1,none⟩=some (.int .i64 Q)/\w'.cell? ⟨(w.heap.size+1),2,none⟩=some (.string i)/\w'.cell? ⟨(w.heap.size+1),3,none⟩=some (.bool P)/\w'.cell? ⟨(w.heap.size+1),4,none⟩=some (.slice E G I)/\w'.cell? ⟨(w.heap.size+1),5,none⟩=some (.slice F J O)/\w'.cell? ⟨(w.heap.size+1),6,none⟩=some (.slice (some ⟨d,m,none⟩) l p))
  (with_reducible assumption)
  (first
   |(go_at_call 63;(with_reducible refine (b0.o _ b3.o).mono ?_);rintro e y1 ⟨rfl,b5,f6⟩)
   |(go_at_call 63;(with_reducible refine (b1.o _ b5.o).mono ?_);rintro e y2 ⟨rfl,d3,f7⟩)
   |(go_at_call 63;(with_reducible refine (b1.o _ b3.o).mono ?_);rintro e y1 ⟨rfl,b5,f6⟩)
   |(go_at_call 63;(with_reducible refine (b0.o _ b5.o).mono ?_);rintro e y2 ⟨rfl,d3,f7⟩)
   |(go_at_call 85;(with_reducible refine (c4.o _ d3.o).mono ?_);rintro e y3 ⟨rfl,d1,a8⟩))
 obtain⟨N1,M1,e1⟩:=d1.o;have b6:Yd (PN och B h U f L (zX 5 D i C t x y v z A (some ⟨c,k,none⟩) l o).toArray (zX 5 Q i P E G I F J O (some ⟨d,m,none⟩) l p).toArray a b c d w N1 M1 Z Y n T y3):=e1;clear e1 d1 c4 b0 b1 b3 f8 g0 a8 c6;cases r with
 |true=>
  go_wp2_with fail;go_ret;exact⟨rfl,N1,M1,b6.o⟩
 |false=>
 have t6:=b6.o.x.cell 6;simp only[L3]at t6;go_wp2_with fail
 go_loopg [7] l (fun gk s7 wr=>∃ (a5:Value) (a3:List Value) (z7:Int),gk<=l/\s7=.int .i64 z7/\z7=(gk:Int)-1/\Yd (a3=T++rp pr l gk)/\Yd (PN och B h U f L (zX 5 D i C t x y v z A (some ⟨c,k,none⟩) l o).toArray (zX 5 Q i P E G I F J O (some ⟨d,m,none⟩) l p).toArray a b c d w N1 M1 a5 Y (n+(l-gk)) a3 wr))
 case atStart=>exact⟨Z,T,_,zN _,rfl,by go_num,by show _=_;simp[rp],by rw[Nat.sub_self];exact b6⟩
 case round=>
  clear t6;obtain⟨a5,a3,z7,g4,rfl,g1,b7,b4⟩:=hrel;by_cases hg:0<gk
  ·obtain⟨j,rfl⟩:∃ g,gk=g+1:=⟨gk-1,by omega⟩;obtain rfl:z7=(j:Int):=by omega
   clear g1;have g5:(0:Int)<=(j:Int):=by omega
   have g6:(j:Int)<(l:Int):=by omega
   obtain⟨fk,fv,fs,fn,fA,fa,fc,fB,fd,fe,fX,fl,fq,mk,mv,ms,mn,mA,ma,mc,mB,md,me,mX,ml,mq,e2,a1,a2⟩:=f0.o j (by omega);have a4:Yd (∀ W,ah W w.heap.size 27 (zX 5 D i C t x y v z A (some ⟨c,k,none⟩) l o).toArray->ah W (w.heap.size+1) 27 (zX 5 Q i P E G I F J O (some ⟨d,m,none⟩) l p).toArray->ah W c 27 a->ah W d 27 b->(W.cell? ⟨w.heap.size,6,none⟩=some (.slice (some ⟨c,k,none⟩) l o)/\W.cell? ⟨(w.heap.size+1),6,none⟩=some (.slice (some ⟨d,m,none⟩) l p)/\W.cell? ⟨c,k+j*7,none⟩=some (.int .i64 fk)/\W.cell? ⟨c,k+j*7+1,none⟩=some (.int .i64 fv)/\W.cell? ⟨c,k+j*7+2,none⟩=some (.string fs)/\W.cell? ⟨c,k+j*7+3,none⟩=some (.bool fn)/\W.cell? ⟨c,k+j*7+4,none⟩=some (.slice fA fa fc)/\W.cell? ⟨c,k+j*7+5,none⟩=some (.slice fB fd fe)/\W.cell? ⟨c,k+j*7+6,none⟩=some (.slice fX fl fq)/\W.cell? ⟨d,m+j*7,none⟩=some (.int .i64 mk)/\W.cell? ⟨d,m+j*7+1,none⟩=some (.int .i64 mv)/\W.cell? ⟨d,m+j*7+2,none⟩=some (.string ms)/\W.cell? ⟨d,m+j*7+3,none⟩=some (.bool mn)/\W.cell? ⟨d,m+j*7+4,none⟩=some (.slice mA ma mc)/\W.cell? ⟨d,m+j*7+5,none⟩=some (.slice mB md me)/\W.cell? ⟨d,m+j*7+6,none⟩=some (.slice mX ml mq))):=fun W h1 h2 h3 h4=>⟨h1.cell 6,h2.cell 6,(h3.cell _).trans (a1 0 (by decide)),(h3.cell _).trans (a1 1 (by decide)),(h3.cell _).trans (a1 2 (by decide)),(h3.cell _).trans (a1 3 (by decide)),(h3.cell _).trans (a1 4 (by decide)),(h3.cell _).trans (a1 5 (by decide)),(h3.cell _).trans (a1 6 (by decide)),(h4.cell _).trans (a2 0 (by decide)),(h4.cell _).trans (a2 1 (by decide)),(h4.cell _).trans (a2 2 (by decide)),(h4.cell _).trans (a2 3 (by decide)),(h4.cell _).trans (a2 4 (by decide)),(h4.cell _).trans (a2 5 (by decide)),(h4.cell _).trans (a2 6 (by decide))⟩;have d2:Yd (pr j=[(Value.int .i64 fk),(Value.int .i64 fv),(Value.string fs),(Value.bool fn),(Value.slice fA fa fc),(Value.slice fB fd fe),(Value.slice fX fl fq),(Value.int .i64 mk),(Value.int .i64 mv),(Value.string ms),(Value.bool mn),(Value.slice mA ma mc),(Value.slice mB md me),(Value.slice mX ml mq)]):=e2;clear e2 a1 a2;have a6:=zH b4.o.drew;have X:Yd (PN och B h U f L (zX 5 D i C t x y v z A (some ⟨c,k,none⟩) l o).toArray (zX 5 Q i P E G I F J O (some ⟨d,m,none⟩) l p).toArray a b c d w N1 M1 a5 Y (n+(l-(j+1))) a3 (wr.alloc (.cells #[(.int .i64 fk),(.int .i64 fv),(.string fs),(.bool fn),(.slice fA fa fc),(.slice fB fd fe),(.slice fX fl fq),(.int .i64 mk),(.int .i64 mv),(.string ms),(.bool mn),(.slice mA ma mc),(.slice mB md me),(.slice mX ml mq)] 101)).drew):=(b4.o.below (ae wr _)).drew;have f5:=a4.o _ a6.o.x a6.o.y a6.o.xr a6.o.yr;have a8:=a4.o _ X.o.x X.o.y X.o.xr X.o.yr;have u5:=a6.o.u.cell 5;have g3:=X.o.u.cell 5;simp only[L3]at u5 g3;have c9:Yd (∀ q u,[(Value.int .i64 fk),(Value.int .i64 fv),(Value.string fs),(Value.bool fn),(Value.slice fA fa fc),(Value.slice fB fd fe),(Value.slice fX fl fq),(Value.int .i64 mk),(Value.int .i64 mv),(Value.string ms),(Value.bool mn),(Value.slice mA ma mc),(Value.slice mB md me),(Value.slice mX ml mq)][q]?=some u->(wr.alloc (.cells #[(.int .i64 fk),(.int .i64 fv),(.string fs),(.bool fn),(.slice fA fa fc),(.slice fB fd fe),(.slice fX fl fq),(.int .i64 mk),(.int .i64 mv),(.string ms),(.bool mn),(.slice mA ma mc),(.slice mB md me),(.slice mX ml mq)] 101)).drew.cell? ((⟨wr.heap.size,0,none⟩:Addr).add q)=some u):=fun q u hq=>by
    have:=(ah.new wr 101 #[(.int .i64 fk),(.int .i64 fv),(.string fs),(.bool fn),(.slice fA fa fc),(.slice fB fd fe),(.slice fX fl fq),(.int .i64 mk),(.int .i64 mv),(.string ms),(.bool mn),(.slice mA ma mc),(.slice mB md me),(.slice mX ml mq)]).drew.cell q;rw[Go.WideShapes.add_plain,Nat.zero_add,this];simpa using hq
   have c8:Yd (∀ u∈[(Value.int .i64 fk),(Value.int .i64 fv),(Value.string fs),(Value.bool fn),(Value.slice fA fa fc),(Value.slice fB fd fe),(Value.slice fX fl fq),(Value.int .i64 mk),(Value.int .i64 mv),(Value.string ms),(Value.bool mn),(Value.slice mA ma mc),(Value.slice mB md me),(Value.slice mX ml mq)],u.oneCell'=true):=fun u hu=>by
    simp only[List.mem_cons,List.not_mem_nil,or_false]at hu;rcases hu with rfl|rfl|rfl|rfl|rfl|rfl|rfl|rfl|rfl|rfl|rfl|rfl|rfl|rfl<;>rfl
   have g9:n+(l-(j+1))+1<=200000000000:=by omega
   have d4:Yd (B<=(wr.alloc (.cells #[(.int .i64 fk),(.int .i64 fv),(.string fs),(.bool fn),(.slice fA fa fc),(.slice fB fd fe),(.slice fX fl fq),(.int .i64 mk),(.int .i64 mv),(.string ms),(.bool mn),(.slice mA ma mc),(.slice mB md me),(.slice mX ml mq)] 101)).drew.heap.size):=X.o.sz;have d0:Yd (∀ {e9:Value} W,PN och B h U f L (zX 5 D i C t x y v z A (some ⟨c,k,none⟩) l o).toArray (zX 5 Q i P E G I F J O (some ⟨d,m,none⟩) l p).toArray a b c d w N1 M1 e9 Y (n+(l-(j+1))+1) (a3++[(Value.int .i64 fk),(Value.int .i64 fv),(Value.string fs),(Value.bool fn),(Value.slice fA fa fc),(Value.slice fB fd fe),(Value.slice fX fl fq),(Value.int .i64 mk),(Value.int .i64 mv),(Value.string ms),(Value.bool mn),(Value.slice mA ma mc),(Value.slice mB md me),(Value.slice mX ml mq)]) W->PN och B h U f L (zX 5 D i C t x y v z A (some ⟨c,k,none⟩) l o).toArray (zX 5 Q i P E G I F J O (some ⟨d,m,none⟩) l p).toArray a b c d w N1 M1 e9 Y (n+(l-j)) (a3++[(Value.int .i64 fk),(Value.int .i64 fv),(Value.string fs),(Value.bool fn),(Value.slice fA fa fc),(Value.slice fB fd fe),(Value.slice fX fl fq),(Value.int .i64 mk),(Value.int .i64 mv),(Value.string ms),(Value.bool mn),(Value.slice mA ma mc),(Value.slice mB md me),(Value.slice mX ml mq)]) W):=fun W g=>by
    rw[show n+(l-j)=n+(l-(j+1))+1 by omega];exact g
   go_wp2_with fail;refine wp_region_held_drew (S:=fun w'=>w'.cell? ⟨w.heap.size,6,none⟩=some (.slice (some ⟨c,k,none⟩) l o)/\w'.cell? ⟨(w.heap.size+1),6,none⟩=some (.slice (some ⟨d,m,none⟩) l p)/\w'.cell? ⟨c,k+j*7,none⟩=some (.int .i64 fk)/\w'.cell? ⟨c,k+j*7+1,none⟩=some (.int .i64 fv)/\w'.cell? ⟨c,k+j*7+2,none⟩=some (.string fs)/\w'.cell? ⟨c,k+j*7+3,none⟩=some (.bool fn)/\w'.cell? ⟨c,k+j*7+4,none⟩=some (.slice fA fa fc)/\w'.cell? ⟨c,k+j*7+5,none⟩=some (.slice fB fd fe)/\w'.cell? ⟨c,k+j*7+6,none⟩=some (.slice fX fl fq)/\w'.cell? ⟨d,m+j*7,none⟩=some (.int .i64 mk)/\w'.cell? ⟨d,m+j*7+1,none⟩=some (.int .i64 mv)/\w'.cell? ⟨d,m+j*7+2,none⟩=some (.string ms)/\w'.cell? ⟨d,m+j*7+3,none⟩=some (.bool mn)/\w'.cell? ⟨d,m+j*7+4,none⟩=some (.slice mA ma mc)/\w'.cell? ⟨d,m+j*7+5,none⟩=some (.slice mB md me)/\w'.cell? ⟨d,m+j*7+6,none⟩=some (.slice mX ml mq)) (by kernel_rfl) f5 (fun hHeld=>?_)
   (refine zT 0 ?_;try simp only[Act.put,L1,L2])
   (refine zT 1 ?_;try simp only[Act.put,L1,L2])
   (refine zT 2 ?_;try simp only[Act.put,L1,L2])
   (refine zT 3 ?_;try simp only[Act.put,L1,L2])
   (refine zT 5 ?_;try simp only[Act.put,L1,L2])
   (refine zT 6 ?_;try simp only[Act.put,L1,L2])
   (refine zT 7 ?_;try simp only[Act.put,L1,L2])
   (refine zT 8 ?_;try simp only[Act.put,L1,L2])
   (refine zT 9 ?_;try simp only[Act.put,L1,L2])
   (refine zT 10 ?_;try simp only[Act.put,L1,L2])
   (refine zT 11 ?_;try simp only[Act.put,L1,L2])
   (refine zT 12 ?_;try simp only[Act.put,L1,L2])
   (refine zT 13 ?_;try simp only[Act.put,L1,L2])
   (refine zT 14 ?_;try simp only[Act.put,L1,L2])
   (refine zT 15 ?_;try simp only[Act.put,L1,L2])
   (refine wpAnyH_ready (rs:=[4,16]) (by kernel_rfl) (by simp) ?_;refine AllReadyH.cons rfl (fun K hK=>?_) (AllReadyH.cons rfl (fun K hK=>?_) AllReadyH.nil))
   ·go_simp;refine hK.out _ _ hHeld (fun hHeld=>?_);clear hK K
    (try simp only[Act.put,L1,L2])
    (refine zR 16 fun K hK=>?_)
    go_simp;refine hK.out _ _ a8 (fun hHeld=>?_);clear hK K
    (try simp only[Act.put,L1,L2])
    (refine zR 17 fun K hK=>?_)
    refine step_append_lies _ rfl _ _ 102 rfl B 101 i0 (.agg (zt++zt).toArray) 14 224 underlying102 c7.o d5.o d6.o d7.o rfl (by decide) a5 (n+(l-(j+1))) a3 rfl X.o.row ⟨wr.heap.size,0,none⟩ 1 1 [(Value.int .i64 fk),(Value.int .i64 fv),(Value.string fs),(Value.bool fn),(Value.slice fA fa fc),(Value.slice fB fd fe),(Value.slice fX fl fq),(Value.int .i64 mk),(Value.int .i64 mv),(Value.string ms),(Value.bool mn),(Value.slice mA ma mc),(Value.slice mB md me),(Value.slice mX ml mq)] rfl rfl c9.o c8.o (by decide) (by unfold maxLen;omega) (by omega) d4.o _ rfl ?_;intro g f4 w1 a9 V c1 c2;obtain⟨⟨v1,v2,v3,v4,v5⟩,v6⟩:=X.o.push HB.o V a9;have HV:=zH v6;have b8:=a4.o _ v2 v3 v4 v5;have c0:=a4.o _ v6.x v6.y v6.xr v6.yr;have c3:=v1.cell 5;simp only[L3]at c3;have z5:=v1.frozen 5;clear v1 v2 v3 v4 v5 v6 a9 V c1 c2;refine hK.out _ _ b8 (fun hHeld=>?_);clear hK K
    (try simp only[Act.put,L1,L2])
    (refine zT 18 ?_;try simp only[Act.put,L1,L2])
    (refine zT 19 ?_;try simp only[Act.put,L1,L2])
    (refine zR 20 fun K hK=>?_)
    go_simp;refine hK.out _ _ c0 (fun hHeld=>?_);clear hK K
    (try simp only[Act.put,L1,L2])
    (refine wpAnyH_done (by kernel_rfl) ?_ _)
    go_wp2_with fail
    go_roundg j
    case measure=>omega
    case rel=>
     refine⟨_,_,_,by omega,rfl,by omega,?_,d0.o _ HV.o⟩;show _=_;rw[b7.o,pQ pr (by omega:j<l),d2.o,zJ]
   ·go_simp;refine hK.out _ _ a8 (fun hHeld=>?_);clear hK K
    (try simp only[Act.put,L1,L2])
    (refine zR 4 fun K hK=>?_)
    go_simp;refine hK.out _ _ a8 (fun hHeld=>?_);clear hK K
    (try simp only[Act.put,L1,L2])
    (refine zR 17 fun K hK=>?_)
    refine step_append_lies _ rfl _ _ 102 rfl B 101 i0 (.agg (zt++zt).toArray) 14 224 underlying102 c7.o d5.o d6.o d7.o rfl (by decide) a5 (n+(l-(j+1))) a3 rfl X.o.row ⟨wr.heap.size,0,none⟩ 1 1 [(Value.int .i64 fk),(Value.int .i64 fv),(Value.string fs),(Value.bool fn),(Value.slice fA fa fc),(Value.slice fB fd fe),(Value.slice fX fl fq),(Value.int .i64 mk),(Value.int .i64 mv),(Value.string ms),(Value.bool mn),(Value.slice mA ma mc),(Value.slice mB md me),(Value.slice mX ml mq)] rfl rfl c9.o c8.o (by decide) (by unfold maxLen;omega) (by omega) d4.o _ rfl ?_;intro g f4 w1 a9 V c1 c2;obtain⟨⟨v1,v2,v3,v4,v5⟩,v6⟩:=X.o.push HB.o V a9;have HV:=zH v6;have b8:=a4.o _ v2 v3 v4 v5;have c0:=a4.o _ v6.x v6.y v6.xr v6.yr;have c3:=v1.cell 5;simp only[L3]at c3;have z5:=v1.frozen 5;clear v1 v2 v3 v4 v5 v6 a9 V c1 c2;refine hK.out _ _ b8 (fun hHeld=>?_);clear hK K
    (try simp only[Act.put,L1,L2])
    (refine zT 18 ?_;try simp only[Act.put,L1,L2])
    (refine zT 19 ?_;try simp only[Act.put,L1,L2])
    (refine zR 20 fun K hK=>?_)
    go_simp;refine hK.out _ _ c0 (fun hHeld=>?_);clear hK K
    (try simp only[Act.put,L1,L2])
    (refine wpAnyH_done (by kernel_rfl) ?_ _)
    go_wp2_with fail
    go_roundg j
    case measure=>omega
    case rel=>
     refine⟨_,_,_,by omega,rfl,by omega,?_,d0.o _ HV.o⟩;show _=_;rw[b7.o,pQ pr (by omega:j<l),d2.o,zJ]
  ·obtain rfl:gk=0:=by omega
   go_wp2_with fail;go_ret;have hz:=b7.o;subst hz;exact⟨rfl,N1,M1,a5,by simpa using b4.o⟩
theorem Ad (w:World) (a:Addr):(binOp .eql 109 (.pointer (some a)) (.pointer (some a))).run prog w=.ok (.bool true) w:=by
 have e:prog.underlying 109=some (.pointer 27):=by kernel_rfl
 have b:(prog.info? 27).map (fun i=>i.size)=some 7:=by kernel_rfl
 rcases hi:prog.info? 27 with _|j
 ·rw[hi]at b;cases b
 ·rw[hi]at b;have c:j.size≠0:=by
   have:j.size=7:=zI b;omega
  have h:∀ d:Nat,(Op.equalIn (d+1) 109 (.pointer (some a)) (.pointer (some a))).run prog w=.ok true w:=fun d=>by
   simp[Op.equalIn,run_underlying e,sizeOf,typeInfo,hi,c,run_sameAddr_same]
  simp only[binOp];simp[Op.equal,Op.maxDepth,h 9999]
theorem xG (U l:Nat) (b:ByteArray) (M:0<l) (m:Int) (j:Bool) (c:Option Addr) (f g:Nat) (d:Option Addr) (h i a k:Nat) (y:Int) (v:Bool) (n:Option Addr) (p q:Nat) (o:Option Addr) (r t x:Nat) (w:World):
 Calls prog 58 #[.pointer (some ⟨U,0,none⟩),.agg #[.int .i64 5,.int .i64 m,.string b,.bool j,.slice c f g,.slice d h i,.slice (some ⟨a,0,none⟩) l k],.agg #[.int .i64 5,.int .i64 y,.string b,.bool v,.slice n p q,.slice o r t,.slice (some ⟨a,0,none⟩) l x]] w fun e w'=>e=.returned (.bool true)/\zZ w w':=by
 have D:=zH (ax w (.cells #[.int .i64 5,.int .i64 m,.string b,.bool j,.slice c f g,.slice d h i,.slice (some ⟨a,0,none⟩) l k] 27) (.cells #[.int .i64 5,.int .i64 y,.string b,.bool v,.slice n p q,.slice o r t,.slice (some ⟨a,0,none⟩) l x] 27));have A:Yd (ah ((w.alloc (.cells #[.int .i64 5,.int .i64 m,.string b,.bool j,.slice c f g,.slice d h i,.slice (some ⟨a,0,none⟩) l k] 27)).alloc (.cells #[.int .i64 5,.int .i64 y,.string b,.bool v,.slice n p q,.slice o r t,.slice (some ⟨a,0,none⟩) l x] 27)) w.heap.size 27 (zX 5 m b j c f g d h i (some ⟨a,0,none⟩) l k).toArray):=(ah.new w _ _).alloc _;have B:Yd (ah ((w.alloc (.cells #[.int .i64 5,.int .i64 m,.string b,.bool j,.slice c f g,.slice d h i,.slice (some ⟨a,0,none⟩) l k] 27)).alloc (.cells #[.int .i64 5,.int .i64 y,.string b,.bool v,.slice n p q,.slice o r t,.slice (some ⟨a,0,none⟩) l x] 27)) (w.heap.size+1) 27 (zX 5 y b v n p q o r t (some ⟨a,0,none⟩) l x).toArray):=by
  have:=ah.new (w.alloc (.cells #[.int .i64 5,.int .i64 m,.string b,.bool j,.slice c f g,.slice d h i,.slice (some ⟨a,0,none⟩) l k] 27)) 27 #[.int .i64 5,.int .i64 y,.string b,.bool v,.slice n p q,.slice o r t,.slice (some ⟨a,0,none⟩) l x];rw[show (w.alloc (.cells #[.int .i64 5,.int .i64 m,.string b,.bool j,.slice c f g,.slice d h i,.slice (some ⟨a,0,none⟩) l k] 27)).heap.size=w.heap.size+1 by simp]at this;exact this
 have C:Yd (∀ W,Below ((w.alloc (.cells #[.int .i64 5,.int .i64 m,.string b,.bool j,.slice c f g,.slice d h i,.slice (some ⟨a,0,none⟩) l k] 27)).alloc (.cells #[.int .i64 5,.int .i64 y,.string b,.bool v,.slice n p q,.slice o r t,.slice (some ⟨a,0,none⟩) l x] 27)).heap.size ((w.alloc (.cells #[.int .i64 5,.int .i64 m,.string b,.bool j,.slice c f g,.slice d h i,.slice (some ⟨a,0,none⟩) l k] 27)).alloc (.cells #[.int .i64 5,.int .i64 y,.string b,.bool v,.slice n p q,.slice o r t,.slice (some ⟨a,0,none⟩) l x] 27)) W->(W.cell? ⟨w.heap.size,0,none⟩=some (.int .i64 5)/\W.cell? ⟨w.heap.size,1,none⟩=some (.int .i64 m)/\W.cell? ⟨w.heap.size,2,none⟩=some (.string b)/\W.cell? ⟨w.heap.size,3,none⟩=some (.bool j)/\W.cell? ⟨w.heap.size,4,none⟩=some (.slice c f g)/\W.cell? ⟨w.heap.size,5,none⟩=some (.slice d h i)/\W.cell? ⟨w.heap.size,6,none⟩=some (.slice (some ⟨a,0,none⟩) l k)/\W.cell? ⟨w.heap.size+1,0,none⟩=some (.int .i64 5)/\W.cell? ⟨w.heap.size+1,1,none⟩=some (.int .i64 y)/\W.cell? ⟨w.heap.size+1,2,none⟩=some (.string b)/\W.cell? ⟨w.heap.size+1,3,none⟩=some (.bool v)/\W.cell? ⟨w.heap.size+1,4,none⟩=some (.slice n p q)/\W.cell? ⟨w.heap.size+1,5,none⟩=some (.slice o r t)/\W.cell? ⟨w.heap.size+1,6,none⟩=some (.slice (some ⟨a,0,none⟩) l x))):=fun W z=>⟨(A.o.to z).cell 0,(A.o.to z).cell 1,(A.o.to z).cell 2,(A.o.to z).cell 3,(A.o.to z).cell 4,(A.o.to z).cell 5,(A.o.to z).cell 6,(B.o.to z).cell 0,(B.o.to z).cell 1,(B.o.to z).cell 2,(B.o.to z).cell 3,(B.o.to z).cell 4,(B.o.to z).cell 5,(B.o.to z).cell 6⟩;have I:=C.o _ zB.drew;have F:Yd (∀ W,Below ((w.alloc (.cells #[.int .i64 5,.int .i64 m,.string b,.bool j,.slice c f g,.slice d h i,.slice (some ⟨a,0,none⟩) l k] 27)).alloc (.cells #[.int .i64 5,.int .i64 y,.string b,.bool v,.slice n p q,.slice o r t,.slice (some ⟨a,0,none⟩) l x] 27)).heap.size ((w.alloc (.cells #[.int .i64 5,.int .i64 m,.string b,.bool j,.slice c f g,.slice d h i,.slice (some ⟨a,0,none⟩) l k] 27)).alloc (.cells #[.int .i64 5,.int .i64 y,.string b,.bool v,.slice n p q,.slice o r t,.slice (some ⟨a,0,none⟩) l x] 27)) W->Calls prog 63 #[.agg (zX 5 m b j c f g d h i (some ⟨a,0,none⟩) l k).toArray] W fun e w'=>e=.returned (.pointer (some ⟨a,0,none⟩))/\Yd (Below ((w.alloc (.cells #[.int .i64 5,.int .i64 m,.string b,.bool j,.slice c f g,.slice d h i,.slice (some ⟨a,0,none⟩) l k] 27)).alloc (.cells #[.int .i64 5,.int .i64 y,.string b,.bool v,.slice n p q,.slice o r t,.slice (some ⟨a,0,none⟩) l x] 27)).heap.size ((w.alloc (.cells #[.int .i64 5,.int .i64 m,.string b,.bool j,.slice c f g,.slice d h i,.slice (some ⟨a,0,none⟩) l k] 27)).alloc (.cells #[.int .i64 5,.int .i64 y,.string b,.bool v,.slice n p q,.slice o r t,.slice (some ⟨a,0,none⟩) l x] 27)) w')):=fun W E=>by
  refine (fD 5 m b j c f g d h i a 0 l k M W).mono ?_;rintro e w' ⟨rfl,z⟩;exact⟨rfl,E.trans (z.mono E.size)⟩
 have G:Yd (∀ W,Below ((w.alloc (.cells #[.int .i64 5,.int .i64 m,.string b,.bool j,.slice c f g,.slice d h i,.slice (some ⟨a,0,none⟩) l k] 27)).alloc (.cells #[.int .i64 5,.int .i64 y,.string b,.bool v,.slice n p q,.slice o r t,.slice (some ⟨a,0,none⟩) l x] 27)).heap.size ((w.alloc (.cells #[.int .i64 5,.int .i64 m,.string b,.bool j,.slice c f g,.slice d h i,.slice (some ⟨a,0,none⟩) l k] 27)).alloc (.cells #[.int .i64 5,.int .i64 y,.string b,.bool v,.slice n p q,.slice o r t,.slice (some ⟨a,0,none⟩) l x] 27)) W->Calls prog 63 #[.agg (zX 5 y b v n p q o r t (some ⟨a,0,none⟩) l x).toArray] W fun e w'=>e=.returned (.pointer (some ⟨a,0,none⟩))/\Yd (Below ((w.alloc (.cells #[.int .i64 5,.int .i64 m,.string b,.bool j,.slice c f g,.slice d h i,.slice (some ⟨a,0,none⟩) l k] 27)).alloc (.cells #[.int .i64 5,.int .i64 y,.string b,.bool v,.slice n p q,.slice o r t,.slice (some ⟨a,0,none⟩) l x] 27)).heap.size ((w.alloc (.cells #[.int .i64 5,.int .i64 m,.string b,.bool j,.slice c f g,.slice d h i,.slice (some ⟨a,0,none⟩) l k] 27)).alloc (.cells #[.int .i64 5,.int .i64 y,.string b,.bool v,.slice n p q,.slice o r t,.slice (some ⟨a,0,none⟩) l x] 27)) w')):=fun W E=>by
  refine (fD 5 y b v n p q o r t a 0 l x M W).mono ?_;rintro e w' ⟨rfl,z⟩;exact⟨rfl,E.trans (z.mono E.size)⟩
 have O:=fun W:World=>Ad W ⟨a,0,none⟩;have N:Below ((w.alloc (.cells #[.int .i64 5,.int .i64 m,.string b,.bool j,.slice c f g,.slice d h i,.slice (some ⟨a,0,none⟩) l k] 27)).alloc (.cells #[.int .i64 5,.int .i64 y,.string b,.bool v,.slice n p q,.slice o r t,.slice (some ⟨a,0,none⟩) l x] 27)).heap.size ((w.alloc (.cells #[.int .i64 5,.int .i64 m,.string b,.bool j,.slice c f g,.slice d h i,.slice (some ⟨a,0,none⟩) l k] 27)).alloc (.cells #[.int .i64 5,.int .i64 y,.string b,.bool v,.slice n p q,.slice o r t,.slice (some ⟨a,0,none⟩) l x] 27)) ((w.alloc (.cells #[.int .i64 5,.int .i64 m,.string b,.bool j,.slice c f g,.slice d h i,.slice (some ⟨a,0,none⟩) l k] 27)).alloc (.cells #[.int .i64 5,.int .i64 y,.string b,.bool v,.slice n p q,.slice o r t,.slice (some ⟨a,0,none⟩) l x] 27)).drew:=zB.drew;go_enter func58,ntmps58;go_wp2_with fail;refine wp_region_held_drew (S:=fun w'=>w'.cell? ⟨w.heap.size,0,none⟩=some (.int .i64 5)/\w'.cell? ⟨w.heap.size,1,none⟩=some (.int .i64 m)/\w'.cell? ⟨w.heap.size,2,none⟩=some (.string b)/\w'.cell? ⟨w.heap.size,3,none⟩=some (.bool j)/\w'.cell? ⟨w.heap.size,4,none⟩=some (.slice c f g)/\w'.cell? ⟨w.heap.size,5,none⟩=some (.slice d h i)/\w'.cell? ⟨w.heap.size,6,none⟩=some (.slice (some ⟨a,0,none⟩) l k)/\w'.cell? ⟨w.heap.size+1,0,none⟩=some (.int .i64 5)/\w'.cell? ⟨w.heap.size+1,1,none⟩=some (.int .i64 y)/\w'.cell? ⟨w.heap.size+1,2,none⟩=some (.string b)/\w'.cell? ⟨w.heap.size+1,3,none⟩=some (.bool v)/\w'.cell? ⟨w.heap.size+1,4,none⟩=some (.slice n p q)/\w'.cell? ⟨w.heap.size+1,5,none⟩=some (.slice o r t)/\w'.cell? ⟨w.heap.size+1,6,none⟩=some (.slice (some ⟨a,0,none⟩) l x)) (by kernel_rfl) I (fun hHeld=>?_)
 (refine zT 0 ?_;try simp only[Act.put,L1,L2])
 (refine zT 2 ?_;try simp only[Act.put,L1,L2])
 (refine zR 1 fun K hK=>?_)
 go_simp;refine (F.o _ N).mono ?_;rintro e P ⟨rfl,J⟩;refine hK.out _ _ (C.o _ J.out) (fun hHeld=>?_);clear hK K
 (try simp only[Act.put,L1,L2])
 (refine zR 3 fun K hK=>?_)
 go_simp;refine (G.o _ J.out).mono ?_;rintro e Q ⟨rfl,L⟩;refine hK.out _ _ (C.o _ L.out) (fun hHeld=>?_);clear hK K
 (try simp only[Act.put,L1,L2])
 (refine zT 4 ?_;try simp only[Act.put,L1,L2])
 (refine zT 5 ?_;try simp only[Act.put,L1,L2])
 (refine zS 6 ?_;try simp only[Act.put,L1,L2])
 (refine zS 7 ?_;try simp only[Act.put,L1,L2])
 (refine zS 8 ?_;try simp only[Act.put,L1,L2])
 (refine zS 9 ?_;try simp only[Act.put,L1,L2])
 (refine zT 10 ?_;try simp only[Act.put,L1,L2])
 (refine zT 11 ?_;try simp only[Act.put,L1,L2])
 (refine wpAnyH_done (by kernel_rfl) ?_ _)
 go_wp2_with fail;go_ret;exact⟨rfl,D.o.trans (L.out.mono D.o.size)⟩
theorem jJ.push {P:Nat->Prop} {f:Nat->Option Tm} {w:World} {k:List Value} {S:List (Tm×Tm)} (h:jJ P f w k S) {args args2:List Tm} (q:args.length=args2.length) {cs a:Nat->List Value} (l:∀ i (n:i<args.length),cU P f w args[i] (cs i)) (m:∀ i (n:i<args2.length),cU P f w args2[i] (a i)):
 ∀ d,d<=args.length->jJ P f w (k++rp (fun j=>cs j++a j) args.length (args.length-d)) ((args.zip args2).drop (args.length-d)++S):=by
 intro d
 induction d with
 |zero=>
  intro _;rw[Nat.sub_zero,List.drop_eq_nil_of_le (by rw[List.length_zip];omega)];have:rp (fun j=>cs j++a j) args.length args.length=[]:=by unfold rp;simp
  rw[this,List.append_nil];exact h
 |succ d o=>
  intro p;have b:=o (by omega);have c:args.length-(d+1)<args.length:=by omega
  have e:args.length-d=args.length-(d+1)+1:=by omega
  rw[e]at b;generalize args.length-(d+1)=g at*;rw[pQ _ c,List.drop_eq_getElem_cons (by rw[List.length_zip];omega),List.getElem_zip,<-zJ];exact .cons b (l g c) (m g (by omega))
theorem jJ.len {P:Nat->Prop} {f:Nat->Option Tm} {w:World} {a:List Value} {S:List (Tm×Tm)} (h:jJ P f w a S):a.length=S.length*14:=by
 induction h with
 |nil=>rfl
 |cons _ b c d=>rw[zE,zE,d,b.tc.len,c.tc.len,zV];omega
theorem UV.of_pn {och:Bool} {nm B h U G c:Nat} {f:Nat->Option Tm} {L:List Tm} {j:World} {b:Int->Option Tm} {S Mt:List (Tm×Tm)} {w:World} {X Y d e:Array Value} {A D:Nat} {N M n:Value} {a i:List (Tm×Tm)} {l:List Value} {w':World} (g:UV och nm B h U G c f L j b S Mt w) (q:PN och B h U f L X Y d e A D w N M n a i.length l w') (y:jJ (PT eo j) f w' l i):UV och nm B h U G c f L j b i a w':=by
 obtain⟨⟨_,_,_,z,C,E,_,m,t,v,x,_,_,_,_⟩,k,o,p,r,F⟩:=g;exact⟨⟨N,M,n,z,C,E,l,m,t.frT q.fr (by decide) (by decide) (by decide),v,x.stay (k.of_fr (q.fr.mono (by decide)) q.be.size),q.u,q.nm,q.row,y⟩,k.trans (k.of_fr (q.fr.mono (by decide)) q.be.size),o.trans (q.fr.mono (by decide)),p.trans q.be,r,q.sz⟩
theorem qa {och:Bool} {nm B h U G c:Nat} {f:Nat->Option Tm} {L:List Tm} {D:World} {b:Int->Option Tm} {S Mt:List (Tm×Tm)} {w:World} (hU:kg nm L) (g:UV och nm B h U G c f L D b S Mt w) {x y:Tm} {cx cy:List Value} (hx:cU (PT eo D) f w x cx) (hy:cU (PT eo D) f w y cy) (a9:x∈L) (c9:y∈L) (c4:∀ u,x≠.var u) (b4:x.args≠[]) (hh:x.hd y=true) (hS:S.length<=100000000000):
 Calls prog 58 #[.pointer (some ⟨U,0,none⟩),.agg cx.toArray,.agg cy.toArray] w fun e w'=>e=.returned (.bool true)/\uN och nm B h U G c f L D b S Mt x y w':=by
 have fx:=(hU.1.2 _ a9).1;have c8:=hx;have b1:=hy;cases hx with
 |mk k v s n a A C Ar Q cs hk hv hs hA hC hn d3 hm hr ha=>
 cases hy with
 |mk k2 I s2 p d A2 C2 d0 r T d5 e0 d8 b2 b3 d7 d4 d6 c6 a0=>
 have a7:=hh;rw[Cz,decide_eq_true_eq]at a7;obtain⟨rfl,c7,hl,_⟩:=a7;obtain rfl:=dP c7;have a8:a≠[]:=b4;have E:0<a.length:=List.length_pos_iff.2 a8;have c1:k=5:=Classical.byContradiction fun e=>a8 (fN fx e);subst c1;have c2:a.length<=100:=by
  have h:=fx;rw[Tm.fine]at h;rcases al h.2.1 with ⟨_,_,_,_,h⟩|⟨_,_,_,_,h|h|h|h⟩<;>omega
 obtain⟨xb,t,rfl,d1,c0,b5,b7⟩:=hr E;obtain⟨yb,z,rfl,d2,a6,b6,b8⟩:=c6 (by omega);obtain⟨A_,q1,rfl,-⟩:=hA;obtain⟨C_,q2,rfl,-⟩:=hC;obtain⟨J,q3,rfl,-⟩:=b2;obtain⟨O,q4,rfl,-⟩:=b3;by_cases b0:xb=yb
 ·subst b0;have e:(Tm.mk 5 v s n a)=.mk 5 I s p d:=by
   rw[c0]at a6;exact zI a6
  rw[<-hl];refine (xG U a.length s E v n.neg A_ n.num.length q1 C_ n.den.length q2 xb Q I p.neg J p.num.length q3 O p.den.length q4 r w).mono ?_;rintro e' w' ⟨rfl,hb⟩;exact⟨rfl,uN.same g hb fun _=>.inl e⟩
 ·obtain⟨⟨N,M,st,tv,xs,ys,zs,m,h1,h2,h3,h4,h5,h6,h7⟩,P,a2,a3,a4,a5⟩:=g;have g:UV och nm B h U G c f L D b S Mt w:=⟨⟨N,M,st,tv,xs,ys,zs,m,h1,h2,h3,h4,h5,h6,h7⟩,P,a2,a3,a4,a5⟩;rw[<-hl]at b1 ⊢;have c5:∀ j,j<a.length->∃ (fk fv:Int) (fs:ByteArray) (fn:Bool) (fA:Option Addr) (X Y:Nat) (fB:Option Addr) (Z fe:Nat) (V:Option Addr) (fl fq:Nat) (mk mv:Int) (ms:ByteArray) (mn:Bool) (mA:Option Addr) (ma mc:Nat) (mB:Option Addr) (md me:Nat) (mX:Option Addr) (ml mq:Nat),cs j++T j=[(Value.int .i64 fk),(Value.int .i64 fv),(Value.string fs),(Value.bool fn),(Value.slice fA X Y),(Value.slice fB Z fe),(Value.slice V fl fq),(Value.int .i64 mk),(Value.int .i64 mv),(Value.string ms),(Value.bool mn),(Value.slice mA ma mc),(Value.slice mB md me),(Value.slice mX ml mq)]/\(∀ q,q<7->t[0+j*7+q]?=[(Value.int .i64 fk),(Value.int .i64 fv),(Value.string fs),(Value.bool fn),(Value.slice fA X Y),(Value.slice fB Z fe),(Value.slice V fl fq),(Value.int .i64 mk),(Value.int .i64 mv),(Value.string ms),(Value.bool mn),(Value.slice mA ma mc),(Value.slice mB md me),(Value.slice mX ml mq)][q]?)/\∀ q,q<7->z[0+j*7+q]?=[(Value.int .i64 fk),(Value.int .i64 fv),(Value.string fs),(Value.bool fn),(Value.slice fA X Y),(Value.slice fB Z fe),(Value.slice V fl fq),(Value.int .i64 mk),(Value.int .i64 mv),(Value.string ms),(Value.bool mn),(Value.slice mA ma mc),(Value.slice mB md me),(Value.slice mX ml mq)][7+q]?:=fun j hj=>by
   obtain⟨fk,fv,fs,fn,fA,X,Y,fB,Z,fe,V,fl,fq,e1⟩:=(ha j hj).form;obtain⟨mk,mv,ms,mn,mA,ma,mc,mB,md,me,mX,ml,mq,e2⟩:=(a0 j (by omega)).form;refine⟨fk,fv,fs,fn,fA,X,Y,fB,Z,fe,V,fl,fq,mk,mv,ms,mn,mA,ma,mc,mB,md,me,mX,ml,mq,by rw[e1,e2];rfl,fun q hq=>?_,fun q hq=>?_⟩
   ·rw[Nat.zero_add,b7 j hj q hq,e1];have:q=0\/q=1\/q=2\/q=3\/q=4\/q=5\/q=6:=by omega
    rcases this with rfl|rfl|rfl|rfl|rfl|rfl|rfl<;>rfl
   ·rw[Nat.zero_add,b8 j (by omega) q hq,e2];have:q=0\/q=1\/q=2\/q=3\/q=4\/q=5\/q=6:=by omega
    rcases this with rfl|rfl|rfl|rfl|rfl|rfl|rfl<;>rfl
  refine (Ae och B h U S.length a.length f L N M st Mt (wO Mt (.mk 5 v s n a) (.mk 5 I s p d)) (rH Mt (.mk 5 v s n a) (.mk 5 I s p d)) zs s E c2 v n.neg A_ n.num.length q1 C_ n.den.length q2 xb 0 Q t I p.neg J p.num.length q3 O p.den.length q4 yb 0 r z (fun j=>cs j++T j) c5 hS w a4 b5 b6 b0 h4 h5 h6 fun W o=>?_).mono ?_
  ·have l:cT (PT eo D) w W:=P.of_fr (o.fr.mono (by decide)) o.be.size;refine (yh hU.1 (P.trans l) (c8.stay l) (b1.stay l) a9 c9 a4 o.u o.nm).mono ?_;rintro e w' ⟨N',M',rfl,hu,hn,F,hb⟩;exact⟨rfl,N',M',hu,o.x.frT F (by decide),o.y.frT F (by decide),o.xr.frT F (by decide),o.yr.frT F (by decide),ay o.row F (by decide),hn,o.fr.trans (F.mono (by decide)),o.be.trans hb,zC o.sz hb.size⟩
  ·rintro e w' ⟨rfl,p1,p2⟩;refine⟨rfl,?_⟩;cases hmt:rH Mt (.mk 5 v s n a) (.mk 5 I s p d) with
   |true=>
    obtain⟨N',M',q⟩:=p1 hmt;unfold wO at q;rw[if_pos hmt]at q;exact⟨b,[],Mt,g.of_pn q (h7.stay (P.of_fr (q.fr.mono (by decide)) q.be.size)),fun _=>.inl ⟨rfl,rfl,rfl,.inr (.inl (js.1 hmt))⟩⟩
   |false=>
    obtain⟨N',M',e3,q⟩:=p2 hmt;unfold wO at q;rw[if_neg (by rw[hmt];decide)]at q;have l:cT (PT eo D) w w':=P.of_fr (q.fr.mono (by decide)) q.be.size;have hz:=(h7.stay l).push hl (fun i hi=>(ha i hi).stay l) (fun i hi=>(a0 i hi).stay l) a.length zA;rw[Nat.sub_self,List.drop_zero]at hz;have c3:S.length+a.length=(a.zip d++S).length:=by rw[zE,List.length_zip];omega
    rw[c3]at q;exact⟨b,a.zip d,_,g.of_pn q hz,fun _=>.inr (.inr ⟨c4,hh,fun e=>(by rw[js.2 e]at hmt;cases hmt),rfl,rfl,rfl⟩)⟩
theorem Cp {och:Bool} {nm B h U G c:Nat} {f:Nat->Option Tm} {L:List Tm} {O:World} {b:Int->Option Tm} {S Mt:List (Tm×Tm)} {w:World} {Bl:List Nat} (l:kg nm L) (p:nm<=1000000) (hW:kX L b) (Z:∀ c x,f c=some x->c∈Bl) (n:Bl.length<=1000000) (g:UV och nm B h U G c f L O b S Mt w) {x y:Tm} {m cy:List Value} (r:cU (PT eo O) f w x m) (X:cU (PT eo O) f w y cy) (d:x∈L) (k:y∈L) (Q:∀ v,x=.var v->b v=none) (T:∀ v,y=.var v->b v=none) (hS:S.length<=100000000000):
 Calls prog 58 #[.pointer (some ⟨U,0,none⟩),.agg m.toArray,.agg cy.toArray] w fun e w'=>e=.returned (.bool (dJ och b x y))/\uN och nm B h U G c f L O b S Mt x y w':=by
 have a:∀ {x:Tm} {m:List Value},cU (PT eo O) f w x m->x∈L->(∃ v,x=.var v)->∃ (i:Nat) (N:ByteArray) (J:Bool) (t:Option Addr) (C D:Nat) (z:Option Addr) (E F:Nat) (A:Option Addr) (I M:Nat),i<nm/\x=.var i/\m=[.int .i64 1,.int .i64 (i:Int),.string N,.bool J,.slice t C D,.slice z E F,.slice A I M]:=fun {x m} r d ⟨v,e⟩=>by
  obtain⟨xk,xv,N,J,t,C,D,z,E,F,A,I,M,rfl⟩:=r.form;obtain⟨k_,v_,s_,n_,a0,A_,B_,Ar,cp,m,W,P,-⟩:=r.inv;simp only[List.cons.injEq,Value.int.injEq,true_and]at P;obtain⟨rfl,rfl,-⟩:=P;have h1:=aS (W.symm.trans e);obtain⟨h2,i,rfl,h3⟩:=l.var d W h1.1;obtain rfl:=h1.1;exact⟨i,N,J,t,C,D,z,E,F,A,I,M,h3,h2,rfl⟩
 by_cases vx:∃ v,x=.var v
 ·obtain⟨i,N,J,t,C,D,z,E,F,A,I,M,hi,rfl,rfl⟩:=a r d vx;by_cases Y:∃ v,y=.var v
  ·obtain⟨j,ys,yn,yA,ya,yc,yB,yd,ye,yX,yl,yq,hj,rfl,rfl⟩:=a X k Y;exact AF l p hW Z n g hi hj (Q _ rfl) (T _ rfl) d k N J t C D z E F A I M ys yn yA ya yc yB yd ye yX yl yq
  ·exact xF l p hW Z n g hi (Q _ rfl) X k (fun u e=>Y ⟨u,e⟩) N J t C D z E F A I M
 ·by_cases Y:∃ v,y=.var v
  ·obtain⟨j,ys,yn,yA,ya,yc,yB,yd,ye,yX,yl,yq,hj,rfl,rfl⟩:=a X k Y;exact uC l p hW Z n g hj (T _ rfl) r d (fun u e=>vx ⟨u,e⟩) ys yn yA ya yc yB yd ye yX yl yq
  ·have q:∀ u,x≠.var u:=fun u e=>vx ⟨u,e⟩;have V:∀ u,y≠.var u:=fun u e=>Y ⟨u,e⟩;by_cases o:x.args=[]\/x.hd y=false
   ·exact xE l g r X d k q V o
   ·have hh:x.hd y=true:=by
     cases h:x.hd y with
     |true=>rfl
     |false=>exact absurd (.inr h) o
    rw[sD (l.1.2 _ d).1 (l.1.2 _ k).1 q V,hh];exact qa l g r X d k q (fun h=>o (.inl h)) hh hS
inductive iZ (och:Bool) (E:Tm×Tm):(Int->Option Tm)->List (Tm×Tm)->List (Tm×Tm)->Prop
 |start:iZ och E (fun _=>none) [E] []
 |step {b b':Int->Option Tm} {S Mt S' Mt':List (Tm×Tm)} (h:iZ och E b S Mt) (s:DE och b S Mt b' S' Mt'):iZ och E b' S' Mt'
theorem iZ.inv {E:Tm×Tm} {b:Int->Option Tm} {S Mt:List (Tm×Tm)} (h:iZ true E b S Mt):dm E b S Mt:=by
 induction h with
 |start=>exact .start E
 |step _ s a=>exact a.stp s
structure jb (L:List Tm) (b:Int->Option Tm) (S Mt:List (Tm×Tm)):Prop where
 low:kX L b
 stk:∀ p∈S,p.1∈L/\p.2∈L
 met:∀ p∈Mt,p.1∈L/\p.2∈L
 nd:Mt.Nodup
theorem jb.start {L:List Tm} {x y:Tm} (b:x∈L) (c:y∈L):jb L (fun _=>none) [(x,y)] []:=
 ⟨fun v t h=>(by cases h),fun p a=>by rw[List.mem_singleton]at a;subst a;exact⟨b,c⟩,fun p h=>(by cases h),List.nodup_nil⟩
theorem jb.stp {nm:Nat} {L:List Tm} (m:kg nm L) {och:Bool} {b k:Int->Option Tm} {p x y:Tm} {q:Tm} {S Mt N d:List (Tm×Tm)} (h:jb L b ((p,q)::S) Mt) (i:x∈L) (j:y∈L) (A:qu och b x y Mt k N d):jb L k (N++S) d:=by
 have g:∀ r∈S,r.1∈L/\r.2∈L:=fun r c=>h.stk r (List.mem_cons_of_mem _ c);rcases A with ⟨rfl,rfl,rfl,_⟩|⟨v,t,B,n,_,o,rfl,rfl,rfl⟩|⟨_,_,w,rfl,rfl,rfl⟩
 ·exact⟨h.low,g,h.met,h.nd⟩
 ·refine⟨fun u z f=>?_,g,h.met,h.nd⟩;by_cases e:u=v
  ·subst e;rw[jA]at f;cases f;refine⟨?_,o⟩;rcases n with ⟨_,rfl⟩|⟨rfl,_⟩
   ·exact j
   ·exact i
  ·rw[qe e]at f;exact h.low u z f
 ·refine⟨h.low,fun r c=>?_,fun r c=>?_,List.nodup_cons.2 ⟨w,h.nd⟩⟩
  ·rcases List.mem_append.1 c with c|c
   ·have l:=List.of_mem_zip (a:=r.1) (b:=r.2) c;exact⟨(m.1.2 x i).2.2 _ l.1,(m.1.2 y j).2.2 _ l.2⟩
   ·exact g r c
  ·rcases List.mem_cons.1 c with rfl|c
   ·exact⟨i,j⟩
   ·exact h.met r c
def C3 (K:List Tm):List Tm->List (Tm×Tm)
 |[]=>[]
 |a::l=>(K.map fun b=>(a,b))++C3 K l
theorem vq (K:List Tm):∀ l,(C3 K l).length=l.length*K.length
 |[]=>by simp[C3]
 |a::l=>by rw[C3,zE,List.length_map,vq K l,zV,Nat.succ_mul];omega
theorem vu {K:List Tm} {a b:Tm} (hb:b∈K):∀ {l:List Tm},a∈l->(a,b)∈C3 K l
 |[],h=>by cases h
 |c::l,h=>by
  rw[C3,List.mem_append];rcases List.mem_cons.1 h with rfl|h
  ·exact .inl (List.mem_map.2 ⟨b,hb,rfl⟩)
  ·exact .inr (vu hb h)
theorem jb.few {L:List Tm} {b:Int->Option Tm} {S Mt:List (Tm×Tm)} (h:jb L b S Mt):Mt.length<=L.length*L.length:=by
 have:=fV Mt (C3 L L) h.nd fun p a=>vu (h.met p a).2 (h.met p a).1
 rwa [vq]at this
def mz (L:List Tm) (S Mt:List (Tm×Tm)):Nat:=33*(L.length*L.length-Mt.length)+S.length
theorem jb.mz {nm:Nat} {L:List Tm} (e:kg nm L) {och:Bool} {b i:Int->Option Tm} {p q x y:Tm} {S Mt N a:List (Tm×Tm)} (h:jb L b ((p,q)::S) Mt) (g:x∈L) (l:y∈L) (f:qu och b x y Mt i N a):mz L (N++S) a<Go.Proofs.YtlhojoefhannnaaGreat.mz L ((p,q)::S) Mt:=by
 have j:=(h.stp e g l f).few;unfold Go.Proofs.YtlhojoefhannnaaGreat.mz;rw[zE,zV];rcases f with ⟨_,rfl,rfl,_⟩|⟨_,_,_,_,_,_,_,rfl,rfl⟩|⟨_,_,_,_,rfl,rfl⟩
 ·simp
 ·simp
 ·have m:(x.args.zip y.args).length<=32:=by
   rw[List.length_zip];have d:=(e.1.2 x g).1;obtain⟨k,v,s,n,c⟩:=x;rw[Tm.fine]at d;have:c.length<=32:=by rcases al d.2.1 with ⟨_,_,_,_,h⟩|⟨_,_,_,_,h|h|h|h⟩<;>omega
   exact zC (Nat.min_le_left _ _) this
  rw[zV]at j ⊢;omega
theorem zm {L:List Tm} (a:L.length<=50000) {S Mt:List (Tm×Tm)} {gk:Nat} (c:gk<=33*(L.length*L.length)+1) (h:mz L S Mt<=gk):S.length<=100000000000:=by
 have b:L.length*L.length<=50000*50000:=Nat.mul_le_mul a a;unfold mz at h;omega
theorem nQ {R:Nat->Prop} {g:Nat} {u:Value} {w w':World} {t:Tm} {cs:List Value} (h:bF (fun b=>R b/\some b≠u.ownBlock) w t cs) (f:w.grownBy w' u.ownBlock) (d:u.ownBlock=some g\/g=w.heap.size):bF (fun b=>R b/\some b≠some g) w' t cs:=by
 have j:bF (fun b=>(R b/\some b≠u.ownBlock)/\some b≠some g) w t cs:=h.mono fun b a c=>⟨a,by
  rcases d with e|e
  ·rw[<-e];exact a.2
  ·intro i;simp at i;omega⟩
 exact (j.to f.size fun b a c=>f.block b c a.1.2).mono fun b a _=>⟨a.1.1,a.2⟩
theorem xg {P:Nat->Prop} {w:World} {B n:Nat} {m:Value} {xs:List Value} {ts:List Tm} {vals:Nat->List Value} (c:w.ownsRow B 27 7 m n xs) (k:ts.length=n) (z:∀ i,i<n->∀ q,q<7->xs[i*7+q]?=(vals i)[q]?) (y:∀ i (h:i<ts.length),bF P w ts[i] (vals i)):
 ∃ (Ar:Option Addr) (a:Nat) (vals:Nat->List Value),m=.slice Ar ts.length a/\ts.length<=a/\a<=maxLen/\(0<ts.length->∃ g,Ar=some ⟨g,0,none⟩/\B<=g/\g<w.heap.size/\∀ i,i<ts.length->∀ j,j<7->w.cell? ⟨g,i*7+j,none⟩=(vals i)[j]?)/\∀ i (h:i<ts.length),bF P w ts[i] (vals i):=by
 obtain⟨o,p|⟨g,a,d,e,r,t,f⟩⟩:=c
 ·obtain⟨rfl,e⟩:=p;subst e;obtain rfl:ts=[]:=by cases ts with
   |nil=>rfl
   |cons x l=>simp at k
  exact⟨none,0,fun _=>[],rfl,zN _,by unfold maxLen;omega,fun h=>absurd h (by simp),fun i h=>absurd h (by simp)⟩
 ·subst e;have c:w.ownsRow B 27 7 (.slice (some ⟨g,0,none⟩) n a) n xs:=⟨o,.inr ⟨g,a,d,rfl,r,t,f⟩⟩;have b:=Go.World.ownsRow.lt c g rfl;refine⟨some ⟨g,0,none⟩,a,vals,by rw[k],?_,?_,fun A=>⟨g,rfl,b.1,b.2,fun i C j v=>?_⟩,y⟩
  ·rw[k];exact f.1
  ·exact f.2.1
  ·rw[<-z i (by omega) j v];exact c.cellAt (i*7+j) (by omega)
end Go.Proofs.YtlhojoefhannnaaGreat
