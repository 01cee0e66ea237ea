/- Lib.compact at a list that does not fall: it rises, and holds the same. And 6 more texts. -/
import Derived.Lib.SlicesCompact
import Derived.Lib.SlKeysI
import Derived.Deep.AppendSrc
import Derived.Shelf.SlSortCmp.WholeK
import Derived.Ground.SlsfProg
import Derived.Shelf.SlSortCmp.NoneTotal
import Derived.Test.YtlhojoefhannnaaGreatJx21
set_option linter.unusedVariables false
set_option linter.unusedSimpArgs false
set_option maxRecDepth 100000
set_option maxHeartbeats 51200000
namespace Go.Proofs.YtlhojoefhannnaaGreat
theorem qJ {d:Array Int} (g:∀ i j,i<j->j<d.size->d[i]! <= d[j]!):∀ m,m<=d.size->(Lib.compactUpTo d m).Pairwise (· < ·)/\∀ x,x∈Lib.compactUpTo d m↔∃ j,j<m/\d[j]! =x:=by
 intro m
 induction m with
 |zero=>
  intro _;have:Lib.compactUpTo d 0=[]:=rfl;rw[this];exact⟨List.Pairwise.nil,fun x=>⟨fun h=>(by cases h),fun ⟨j,h,_⟩=>absurd h (by omega)⟩⟩
 |succ m n=>
  intro q;obtain⟨f,c⟩:=n (by omega);rw[Lib.compactUpTo_succ];by_cases a:Lib.keeps d m=true
  ·rw[if_pos a];refine⟨List.pairwise_append.2 ⟨f,List.pairwise_singleton _ _,fun x l y k=>?_⟩,fun x=>?_⟩
   ·rw[List.mem_singleton]at k;subst k;obtain⟨j,b,rfl⟩:=(c x).1 l;have o:d[m]! ≠ d[m-1]! :=by
     have:=a;simp only[Lib.keeps,decide_eq_true_eq]at this;rcases this with h|h
     ·omega
     ·exact h
    have p:=g (m-1) m (by omega) (by omega);by_cases e:j=m-1
    ·subst e;omega
    ·have:=g j (m-1) (by omega) (by omega);omega
   ·rw[List.mem_append,c x,List.mem_singleton];constructor
    ·rintro (⟨j,b,e⟩|rfl)
     ·exact⟨j,by omega,e⟩
     ·exact⟨m,by omega,rfl⟩
    ·rintro⟨j,b,rfl⟩;by_cases e:j=m
     ·subst e;exact .inr rfl
     ·exact .inl ⟨j,by omega,rfl⟩
  ·rw[if_neg a,List.append_nil];refine⟨f,fun x=>?_⟩;rw[c x];constructor
   ·rintro⟨j,b,e⟩;exact⟨j,by omega,e⟩
   ·rintro⟨j,b,rfl⟩;by_cases e:j=m
    ·subst e;simp only[Lib.keeps,decide_eq_true_eq,not_or,Decidable.not_not,ne_eq]at a;exact⟨j-1,by omega,a.2.symm⟩
    ·exact⟨j,by omega,rfl⟩
theorem lr {a:List Int} (h:a.Pairwise (· <= ·)):(Lib.compact a).Pairwise (· < ·)/\∀ x,x∈Lib.compact a↔x∈a:=by
 have g:∀ i j,i<j->j<a.toArray.size->a.toArray[i]! <= a.toArray[j]! :=fun i j c b=>by
  have d:j<a.length:=by simpa using b
  rw[getElem!_pos a.toArray i (by simp;omega),getElem!_pos a.toArray j b];simpa using List.pairwise_iff_getElem.1 h i j (by omega) d c
 obtain⟨e,f⟩:=qJ g a.length (by simp);refine⟨e,fun x=>?_⟩;show x∈Lib.compactUpTo a.toArray a.length↔_;rw[f x,List.mem_iff_getElem];constructor
 ·rintro⟨j,b,rfl⟩;exact⟨j,b,by rw[getElem!_pos a.toArray j (by simpa using b)];simp⟩
 ·rintro⟨j,b,rfl⟩;exact⟨j,b,by rw[getElem!_pos a.toArray j (by simpa using b)];simp⟩
theorem pG (d:List Int):(d.mergeSort fun x y=>decide (x<=y)).Pairwise (· <= ·):=by
 have h:=List.pairwise_mergeSort (le:=fun x y:Int=>decide (x<=y)) (fun a b c e f=>by simp at *;omega) (fun a b=>by simp;omega) d;exact h.imp fun h=>by simpa using h
theorem wN (a:List Int) (x:Int):x∈(a.mergeSort fun x y=>decide (x<=y))↔x∈a:=List.mem_mergeSort
end Go.Proofs.YtlhojoefhannnaaGreat
namespace Go.Proofs.YtlhojoefhannnaaGreat
open Go.Proofs.Tryz Go.RowKit Go.Shelf Go.Sort
theorem sB (l:Nat) (p:Value) (c:List Int) (C:c.length<=1000000) (w:World) (k:l<w.heap.size) (B:w.cell? ⟨l,0,none⟩=some p) (z:fC w.heap.size w p c):
 Calls prog 29 #[.func (.func 56) #[] #[.pointer (some ⟨l,0,none⟩)]] w fun e W'=>∃ v,e=.returned v/\W'.ownsRow w.heap.size 3 1 v c.length ((c.mergeSort fun x y=>decide (x<=y)).map (Value.int .i64))/\zZ w W':=by
 have q:=zH (qI l p c (by unfold maxLen;omega) (by omega) w k B z);clear k B z;go_enter func29,ntmps29;go_wp2_with fail;refine q.o.mono ?_;rintro e W ⟨v,rfl,b,A⟩;have m:=zH A;have f:=zH b;clear q A;rcases b.2 with ⟨rfl,M⟩|⟨n,g,I,rfl,a,d,D,E,F,G⟩
 ·have o:c=[]:=zF (by simpa using M);subst o;have i:=AnyM.slices_Sort_int_none sortI none 0 W;have HS:Yd (Calls prog 55 #[.slice none 0 0] W fun e h=>e=.returned (.tuple #[])/\h=W):=i;clear i b;simp only[List.length_nil]at*;go_wp2_with fail;refine HS.o.mono ?_;rintro e h ⟨rfl,rfl⟩;go_wp2_with fail;go_ret;exact⟨_,rfl,by simpa using f.o,m.o⟩
 ·have t:Holds (Value.int .i64) W n 0 c.toArray:=holds_of_block_i d (by simpa using G);have i:=AnyM.slices_Sort_int sortI n 0 g c W t (Array.getElem?_eq_some_iff.1 d).1 (by omega);have HS:Yd (Calls prog 55 #[.slice (some ⟨n,0,none⟩) c.length g] W fun e h=>e=.returned (.tuple #[])/\Yd (h.ownsRow w.heap.size 3 1 (.slice (some ⟨n,0,none⟩) c.length g) c.length ((c.mergeSort fun x y=>decide (x<=y)).map (Value.int .i64))/\zZ w h)):=by
   refine Calls.mono i ?_;rintro e h ⟨rfl,N,O,rfl⟩;exact⟨rfl,ownsRow_sorted_i (by simp) a d D E F,m.o.grown (grownBy_sorted_i _) m.o.size (fun j J=>by cases J;exact a)⟩
  clear i t b d D E F G a f m;go_wp2_with fail;refine HS.o.mono ?_;rintro e h ⟨rfl,r⟩;go_wp2_with fail;go_ret;exact⟨_,rfl,r.o.1,r.o.2⟩
theorem Am {w:World} {B T n k a g:Nat} {xs:List Value} (h:w.ownsRow B T 1 (.slice (some ⟨g,0,none⟩) n a) n xs) (r:k<=n):w.ownsRow B T 1 (.slice (some ⟨g,0,none⟩) k a) k (xs.take k):=by
 obtain⟨p,e|⟨o,c,b,d,f,i,q,j,l,m⟩⟩:=h
 ·cases e.1
 ·simp only[Value.slice.injEq,Option.some.injEq,Addr.mk.injEq,and_true,true_and]at d;obtain⟨rfl,rfl⟩:=d;refine⟨by rw[List.length_take];omega,.inr ⟨_,_,b,rfl,f,i,by omega,j,l,?_⟩⟩;rw[<-m,List.take_take,Nat.mul_one,Nat.min_eq_left (by omega)]
theorem lq (a:List Int):(Lib.compact a).length<=a.length:=by
 unfold Lib.compact Lib.compactUpTo;rw[List.length_map];refine zC (List.length_filter_le _ _) ?_;rw[List.length_range];exact zN _
theorem oW {B:Nat} {v:Value} (a:List Int) (p:a.length<=1000000) (w:World) (A:B<=w.heap.size) (c:w.ownsRow B 3 1 v a.length (a.map (Value.int .i64))):
 Calls prog 28 #[v] w fun e W'=>∃ y,e=.returned y/\W'.ownsRow B 3 1 y (Lib.compact a).length ((Lib.compact a).map (Value.int .i64))/\Below B w W'/\aD [some 3] w W':=by
 rcases c.2 with ⟨rfl,F⟩|⟨i,h,z,rfl,b,d,x,G,I,J⟩
 ·have o:a=[]:=zF (by simpa using F);subst o;have k:=AnyG.slices_Compact_int_empty compI none 0 w;refine Calls.mono k ?_;rintro e M ⟨rfl,rfl⟩;exact⟨_,rfl,c,Below.refl _ _,aD.refl _ _⟩
 ·have C:Holds (Value.int .i64) w i 0 a.toArray:=holds_of_block_i d (by simpa using J);have m:=lq a;have k:=AnyG.slices_Compact_int compI i 0 h a w C (by omega) x;refine Calls.mono k ?_;rintro e M ⟨rfl,q,rfl⟩;have E:(Lib.compact a++List.replicate (a.length-(Lib.compact a).length) 0).length=a.length:=by rw[zE,List.length_replicate];omega
  have l:∀ W:World,grow W #[]=W:=fun W=>by simp[grow]
  have r:=ownsRow_sorted_i (n:=q) (os:=#[]) (base:=B) (e:=3) E b d x G I;have f:=grownBy_sorted_i (w:=w) (g:=i) (n:=q) (os:=#[]) (Lib.compact a++List.replicate (a.length-(Lib.compact a).length) 0).toArray;rw[l]at r f;refine⟨_,rfl,?_,zB.grown f A fun j D=>by cases D;exact b,(aD.refl _ _).grown f fun g f=>by cases f;exact⟨_,_,_,d,by decide⟩⟩;have t:=Am r m;rw[<-List.map_take,List.take_left'  rfl]at t;exact t
end Go.Proofs.YtlhojoefhannnaaGreat
namespace Go.Proofs.YtlhojoefhannnaaGreat
open Go.Proofs.Tryz Go.RowKit NumB
def dw (W:World) (B:Nat) (v:Value) (l:List Int):Prop:=W.ownsRow B 3 1 v l.length (l.map (Value.int .i64))
theorem dw.below {W W':World} {B:Nat} {v:Value} {l:List Int} (h:dw W B v l) (a:zZ W W'):dw W' B v l:=ay (ts:=[]) h (aD.of_below a) (by simp)
theorem qy {w:World} {B:Nat} {v x:Value} {xs b:List Int} (q:B<=w.heap.size) (c:dw w B v xs) (p:dw w B x b) (T:xs.length+b.length<=1000000) (ty:TypeId):
 ∃ d w',(Builtin.append_ #[54,54] ty #[v,x]).run prog w=.ok d w'/\dw w' B d (xs++b)/\Below B w w'/\aD [some 3] w w':=by
 obtain⟨z,r,m,n,o⟩:=info_parts lI;rcases p.2 with ⟨rfl,E⟩|⟨g,e,D,rfl,J,M,N,O,Q,S⟩
 ·have:b=[]:=zF (by simpa using E);subst this;have h:=run_append_owned_none (P:=prog) (w:=w) B 54 ty 3 z 1 underlying54 r v xs.length _ c;exact⟨v,w,h,by rw[List.append_nil];exact c,Below.refl _ _,aD.refl _ _⟩
 ·obtain⟨d,w',G,I,A,U⟩:=run_append_own (P:=prog) (w:=w) B 54 ty 3 z (.int .i64 0) 1 8 underlying54 r m n o rfl (by decide) v xs.length _ c ⟨g,0,none⟩ b.length e (b.map (Value.int .i64)) (by simp) (fun j u t=>by
   have i:j<b.length:=by simpa using (zK t).1
   rw[Go.WideShapes.add_plain,Nat.zero_add];exact (p.cellAt j (by simpa using i)).trans t) (fun u y=>by
   rw[List.mem_map]at y;obtain⟨a,_,rfl⟩:=y;rfl) (by unfold maxLen;omega) (by omega) q
  refine⟨d,w',G,?_,zB.grown A q fun k l=>?_,(aD.refl _ _).grown A fun k l=>?_⟩
  ·unfold dw;rw[zE,List.map_append];exact I
  ·exact (c.lt k l).1
  ·obtain⟨C,f,F⟩:=Lib.ownsRow_kind c k l;exact⟨C,_,f,F,by decide⟩
theorem mH {o:Oper} {a:Act} {w:World} {K:Act->World->Prop} {Q:Exit->Act->World->Prop} (s x:Operand) (j:o.op=.call { callee:=.builtin .append,args:=#[s,x],argTypes:=#[54,54] })
 {v y:Value} {B:Nat} {xs d:List Int} (k:a.eval s=v) (l:a.eval x=y) (g:B<=w.heap.size) (e:dw w B v xs) (f:dw w B y d) (i:xs.length+d.length<=1000000) (h:∀ c w',dw w' B c (xs++d)->Below B w w'->aD [some 3] w w'->K (a.put o.dst c) w'):Oper.wp prog o a w K Q:=by
 obtain⟨c,w',b,m,n,p⟩:=qy g e f i o.type;unfold Oper.wp;simp[execOp,j,resolve,invoke,builtin,k,l,b,Result.andThen];exact h c w' m n p
def SF (B:Nat) (la lb:List Int) (W:World) (s27 s29 s30 s31 s32 s33:Value):Nat->Prop
 |0=>True
 |1=>dw W B s27 la
 |2=>dw W B s27 la/\dw W B s29 lb
 |3=>dw W B s30 (la++lb)
 |4=>(∃ k,s31=.func (.func 56) #[] #[.pointer (some ⟨k,0,none⟩)]/\k<W.heap.size/\W.cell? ⟨k,0,none⟩=some s30)/\dw W B s30 (la++lb)
 |5=>dw W B s32 ((la++lb).mergeSort fun x y=>decide (x<=y))
 |_=>dw W B s33 (Lib.compact ((la++lb).mergeSort fun x y=>decide (x<=y)))
theorem SF.frT {ts:List (Option TypeId)} {B:Nat} {la lb:List Int} {W W':World} {s27 s29 s30 s31 s32 s33:Value} {n:Nat} (h:SF B la lb W s27 s29 s30 s31 s32 s33 n) (j:W.heap.size<=W'.heap.size) (b:aD ts W W') (c:some 3∉ts) (d:n=4->ts=[]):SF B la lb W' s27 s29 s30 s31 s32 s33 n:=by
 match n,h with
 |0,_=>trivial
 |1,h=>exact ay h b c
 |2,h=>exact⟨ay h.1 b c,ay h.2 b c⟩
 |3,h=>exact ay h b c
 |4,h=>
  obtain⟨⟨k,e,g,f⟩,i⟩:=h;obtain rfl:=d rfl;refine⟨⟨k,e,by omega,?_⟩,ay i b c⟩;refine (World.cell?_of_block (a:=⟨k,0,none⟩) ?_).trans f;have:W.heap[k]?=some W.heap[k]:=zP g;rw[this];exact b k _ this ⟨by simp,by simp⟩
 |5,h=>exact ay h b c
 |n+6,h=>exact ay h b c
structure VI (w2:World) (la lb:List Int) (ca cb:Value) (L:Nat->Bool) (s26 s27 s28 s29 s30 s31 s32 s33 s8:Value) (W:World):Prop where
 be:zZ w2 W
 r0:L 0=true->s26=ca
 r2:L 2=true->s28=cb
 st:∃ n,n<=6/\L 1=decide (1<=n)/\L 3=decide (2<=n)/\L 4=decide (3<=n)/\L 5=decide (4<=n)/\L 6=decide (5<=n)/\L 7=decide (6<=n)/\SF w2.heap.size la lb W s27 s29 s30 s31 s32 s33 n
 r8:L 8=true->∃ k,s8=.pointer (some ⟨k,0,none⟩)/\w2.heap.size<=k/\ah W k 54 #[if L 9 then s33 else .slice none 0 0]
 o9:L 9=true->L 7=true/\L 8=true
section
variable {w2 W W':World} {la lb:List Int} {ca cb:Value} {L:Nat->Bool} {s26 s27 s28 s29 s30 s31 s32 s33 s8:Value}
theorem VI.n9 (h:VI w2 la lb ca cb L s26 s27 s28 s29 s30 s31 s32 s33 s8 W) (a:L 7=false):L 9=false:=by
 cases h9:L 9 with
 |false=>rfl
 |true=>rw[(h.o9 h9).1]at a;cases a
theorem VI.load0 (h:VI w2 la lb ca cb L s26 s27 s28 s29 s30 s31 s32 s33 s8 W):VI w2 la lb ca cb (fun j=>j==0||L j) ca s27 s28 s29 s30 s31 s32 s33 s8 W:=⟨h.be,fun _=>rfl,h.r2,h.st,h.r8,h.o9⟩
theorem VI.load2 (h:VI w2 la lb ca cb L s26 s27 s28 s29 s30 s31 s32 s33 s8 W):VI w2 la lb ca cb (fun j=>j==2||L j) s26 s27 cb s29 s30 s31 s32 s33 s8 W:=⟨h.be,h.r0,fun _=>rfl,h.st,h.r8,h.o9⟩
theorem VI.at (h:VI w2 la lb ca cb L s26 s27 s28 s29 s30 s31 s32 s33 s8 W) (n:Nat) (l:n<=5) (j:L (if n=0 then 1 else n+2)=false) (o:0<n->L (if n=1 then 1 else n+1)=true):SF w2.heap.size la lb W s27 s29 s30 s31 s32 s33 n:=by
 obtain⟨m,k,c,d,e,f,g,i,b⟩:=h.st;have a:m=n:=by
  rcases (by omega:n=0\/n=1\/n=2\/n=3\/n=4\/n=5) with rfl|rfl|rfl|rfl|rfl|rfl<;>simp_all<;>omega
 subst a;exact b
theorem VI.end (h:VI w2 la lb ca cb L s26 s27 s28 s29 s30 s31 s32 s33 s8 W) (c:L 7=true) (d:L 8=true) (e:L 9=true):dw W w2.heap.size s33 (Lib.compact ((la++lb).mergeSort fun x y=>decide (x<=y)))/\∃ k,s8=.pointer (some ⟨k,0,none⟩)/\w2.heap.size<=k/\ah W k 54 #[s33]:=by
 obtain⟨m,q,j,l,n,o,p,a,f⟩:=h.st;obtain⟨k,g,i,b⟩:=h.r8 d;rw[e,if_pos rfl]at b;rw[c]at a;obtain rfl:m=6:=by simp at a;omega
 exact⟨f,k,g,i,b⟩
theorem VI.next (h:VI w2 la lb ca cb L s26 s27 s28 s29 s30 s31 s32 s33 s8 W) (n:Nat) (I:n<=5) (F:L (if n=0 then 1 else n+2)=false) (J:0<n->L (if n=1 then 1 else n+1)=true) {b c d e f g:Value} (t:Below w2.heap.size W W') {ts:List (Option TypeId)} (v:aD ts W W') (x:some 54∉ts) (o:SF w2.heap.size la lb W s27 s29 s30 s31 s32 s33 n->SF w2.heap.size la lb W' b c d e f g (n+1)):VI w2 la lb ca cb (fun j=>j==(if n=0 then 1 else n+2)||L j) s26 b s28 c d e f g s8 W':=by
 obtain⟨m,G,A,B,C,D,E,q,w⟩:=h.st;have l:m=n:=by
  rcases (by omega:n=0\/n=1\/n=2\/n=3\/n=4\/n=5) with rfl|rfl|rfl|rfl|rfl|rfl<;>simp_all<;>omega
 subst l;have i:L 9=false:=h.n9 (by rw[q];simp;omega);refine⟨h.be.trans (t.mono zA),fun a=>h.r0 ?_,fun a=>h.r2 ?_,⟨m+1,by omega,?_,?_,?_,?_,?_,?_,o w⟩,fun a=>?_,fun a=>?_⟩
 ·rcases (by omega:m=0\/m=1\/m=2\/m=3\/m=4\/m=5) with rfl|rfl|rfl|rfl|rfl|rfl<;>simpa using a
 ·rcases (by omega:m=0\/m=1\/m=2\/m=3\/m=4\/m=5) with rfl|rfl|rfl|rfl|rfl|rfl<;>simpa using a
 iterate 6 (rcases (by omega:m=0\/m=1\/m=2\/m=3\/m=4\/m=5) with rfl|rfl|rfl|rfl|rfl|rfl<;>simp[*])
 ·obtain⟨k,y,z,p⟩:=h.r8 (by rcases (by omega:m=0\/m=1\/m=2\/m=3\/m=4\/m=5) with rfl|rfl|rfl|rfl|rfl|rfl<;>simpa using a);refine⟨k,y,z,?_⟩;have r:(9==(if m=0 then 1 else m+2)||L 9)=false:=by
   rcases (by omega:m=0\/m=1\/m=2\/m=3\/m=4\/m=5) with rfl|rfl|rfl|rfl|rfl|rfl<;>simp[i]
  rw[r];rw[i]at p;exact p.frT v x
 ·exfalso;rcases (by omega:m=0\/m=1\/m=2\/m=3\/m=4\/m=5) with rfl|rfl|rfl|rfl|rfl|rfl<;>simp[i]at a
theorem VI.alloc8 (h:VI w2 la lb ca cb L s26 s27 s28 s29 s30 s31 s32 s33 s8 W) (b:L 8=false):VI w2 la lb ca cb (fun j=>j==8||L j) s26 s27 s28 s29 s30 s31 s32 s33 (.pointer (some ⟨W.heap.size,0,none⟩)) (W.alloc (.cells #[.slice none 0 0] 54)):=by
 have a:L 9=false:=by
  cases a:L 9 with
  |false=>rfl
  |true=>rw[(h.o9 a).2]at b;cases b
 obtain⟨n,m,c,d,e,f,g,i,o⟩:=h.st;have l:=ae W (.cells #[.slice none 0 0] 54);refine⟨h.be.alloc h.be.size _,h.r0,h.r2,⟨n,m,c,d,e,f,g,i,o.frT (ts:=[]) (by simp) (aD.of_below l) (by simp) fun _=>rfl⟩,fun _=>⟨_,rfl,h.be.size,?_⟩,fun k=>⟨(h.o9 k).1,by simp⟩⟩;show ah _ _ _ #[if (false||L 9) then _ else _];rw[a];exact ah.new W _ _
theorem VI.store9 (h:VI w2 la lb ca cb L s26 s27 s28 s29 s30 s31 s32 s33 s8 W) (d:L 7=true) (f:L 8=true):∃ k,s8=.pointer (some ⟨k,0,none⟩)/\(∃ u,W.cell? ⟨k,0,none⟩=some u)/\W.frozen? ⟨k,0,none⟩=false/\(∃ m z o,s33=.slice m z o)/\VI w2 la lb ca cb (fun j=>j==9||L j) s26 s27 s28 s29 s30 s31 s32 s33 s8 (W.setCell ⟨k,0,none⟩ s33):=by
 obtain⟨k,i,l,b⟩:=h.r8 f;obtain⟨n,y,q,r,t,v,w,a,g⟩:=h.st;have x:=(aD.refl [some 54] W).setCell (p:=⟨k,0,none⟩) b (by decide) s33;refine⟨k,i,⟨_,b.cell 0⟩,b.frozen 0,?_,h.be.setCell (p:=⟨k,0,none⟩) l _,h.r0,h.r2,⟨n,y,q,r,t,v,w,a,g.frT (by simp) x (by decide) fun e=>?_⟩,fun _=>⟨k,i,l,?_⟩,fun _=>⟨d,f⟩⟩
 ·rw[d]at a;obtain rfl:n=6:=by simp at a;omega
  obtain⟨A,c,e⟩:=bQ g;exact⟨_,_,_,e⟩
 ·rw[d]at a;simp at a;omega
 ·have:=b.set_ 0 s33;simpa using this
end
def dM (W:World) (B:Nat) (v:Value) (l:List UInt8):Prop:=
 ∃ g cap,v=.slice (some ⟨g,0,none⟩) l.length cap/\B<=g/\l.length<=cap/\cap<=maxLen/\(∃ cs fz,W.heap[g]?=some (.cells cs 5 fz))/\(∀ j,j<cap->(W.cell? ⟨g,j,none⟩).isSome=true/\W.frozen? ⟨g,j,none⟩=false)/\∀ j (h:j<l.length),W.cell? ⟨g,j,none⟩=some (.int .u8 (l[j].toNat:Int))
theorem dM.keep {W W':World} {B:Nat} {v:Value} {l:List UInt8} (h:dM W B v l) (q:∀ (g:Nat) cs b,W.heap[g]?=some (Obj.cells cs 5 b)->W'.heap[g]?=W.heap[g]?):dM W' B v l:=by
 obtain⟨g,d,e,k,m,n,⟨cs,b,i⟩,o,p⟩:=h;have c:=q g cs b i;refine⟨g,d,e,k,m,n,⟨cs,b,c.trans i⟩,fun j f=>?_,fun j f=>(World.cell?_of_block (a:=⟨g,j,none⟩) c).trans (p j f)⟩;have r:=World.cell?_of_block (a:=⟨g,j,none⟩) c;have t:W'.frozen? ⟨g,j,none⟩=W.frozen? ⟨g,j,none⟩:=by unfold World.frozen?;rw[c]
 rw[r,t];exact o j f
theorem dM.below {W W':World} {B:Nat} {v:Value} {l:List UInt8} (h:dM W B v l) (a:zZ W W'):dM W' B v l:=h.keep fun g c d b=>a.block g (an b)
theorem dM.frT {ts:List (Option TypeId)} {W W':World} {B:Nat} {v:Value} {l:List UInt8} (h:dM W B v l) (b:aD ts W W') (c:some 5∉ts):dM W' B v l:=h.keep fun g d e a=>(b g _ a (eE.cells c)).trans a.symm
theorem dM.text {W:World} {B:Nat} {v:Value} {l:List UInt8} (h:dM W B v l):(convert 83 9 v).run prog W=.ok (.string ⟨l.toArray⟩) W:=by
 obtain⟨g,a,rfl,d,e,f,i,k,b⟩:=h;exact run_convert_bytes_back W _ _ 5 ⟨g,0,none⟩ a l underlying83 underlying5 underlying9 fun j c=>by
  rw[Go.WideShapes.add_plain,Nat.zero_add];exact b j c
theorem dM.made (s:ByteArray) (n:s.size<=1000000) (W:World):∃ v W',(convert 9 83 (.string s)).run prog W=.ok v W'/\dM W' W.heap.size v s.data.toList/\zZ W W':=by
 have h:=run_bytes_of_string (P:=prog) W 9 83 5 s underlying9 underlying83 underlying5;have m:=grownCap_ge W s.size 0 5;have e:=grownCap_le_maxLen W s.size 0 5 (by unfold maxLen;omega);generalize grownCap W s.size 0 5=a at*;have f:s.data.toList.length=s.size:=Array.length_toList;have g:(bytesRow s a).size=a:=by
  unfold bytesRow;rw[Array.size_append,Array.size_map,Array.size_replicate];have:s.data.size=s.size:=rfl;omega
 generalize c:World.alloc _ _=W' at h;have d:W'.heap[W.heap.size]?=some (.cells (bytesRow s a) 5 ((bytesRow s a).size,(bytesRow s a).size+1)):=by rw[<-c];exact heap_alloc_new W.drew _
 have l:zZ W W':=by rw[<-c];exact (Below.refl _ W).drew.alloc zA _
 clear c;have i:=fun j=>cell_of_row W' W.heap.size j _ _ _ d;refine⟨_,_,h,⟨W.heap.size,a,by rw[f],zN _,by omega,e,⟨_,_,d⟩,fun j k=>⟨?_,?_⟩,fun j k=>?_⟩,l⟩
 ·rw[i,zP (by omega)];rfl
 ·unfold World.frozen?;rw[d];simp only[g,Bool.and_eq_false_iff,decide_eq_false_iff_not];omega
 ·have b:j<s.data.size:=by simpa using k
  rw[i];unfold bytesRow;rw[Array.getElem?_append_left (by rw[Array.size_map];exact b),Array.getElem?_map,zP b];rfl
theorem ki {B g:Nat} {w:World} (hg:B<=g):∀ (vs:List Value) (o:Nat) (W:World),Below B w W->Below B w (W.setCells g o vs)
 |[],_,_,h=>h
 |v::r,o,W,h=>by
  rw[World.setCells];exact ki hg r (o+1) _ (h.setCell hg v)
theorem iU (g:Nat) (T:TypeId):∀ (vs:List Value) (o:Nat) (W:World),(∃ cs fz,W.heap[g]?=some (.cells cs T fz))->∃ cs fz,(W.setCells g o vs).heap[g]?=some (.cells cs T fz)
 |[],_,_,h=>h
 |v::r,o,W,⟨cs,fz,h⟩=>by
  rw[World.setCells];refine iU g T r (o+1) _ ⟨cs.setIfInBounds o v,fz,?_⟩;simp[World.setCell,Array.getElem?_modify,h]
theorem lg {W:World} {B:Nat} {v x:Value} {l m:List UInt8} (T:B<=W.heap.size) (h:dM W B v l) {E:TypeId} (V:Src prog 1 E x m.length (m.map fun b=>.int .u8 (b.toNat:Int)) W) (hl:l.length+m.length<=1000000) (ty:TypeId):
 ∃ Y W',(Builtin.append_ #[83,E] ty #[v,x]).run prog W=.ok Y W'/\dM W' B Y (l++m)/\Below B W W'/\aD [some 5] W W':=by
 obtain⟨g,c,rfl,O,h2,Z,Q,r,S⟩:=h;obtain⟨X,U,N,i,I⟩:=info_parts pC;have f:(m.map fun b=>Value.int .u8 (b.toNat:Int)).length=m.length:=by simp
 by_cases n:l.length+m.length<=c
 ·have q:=run_append_room_src (P:=prog) W 83 E ty 5 X underlying83 U g 0 l.length c x m.length _ (by rw[i];exact V) n (fun j a=>by
   rw[i,Nat.zero_add,Nat.mul_one];exact (r _ (by rw[f]at a;omega)).1) (fun j a=>by
   rw[i,Nat.zero_add,Nat.mul_one];exact (r _ (by rw[f]at a;omega)).2)
  rw[i,Nat.zero_add,Nat.mul_one]at q;have y:=World.cell?_setCells_in g (m.map fun b=>Value.int .u8 (b.toNat:Int)) l.length W fun j a=>(r _ (by rw[f]at a;omega)).1;refine⟨_,_,q,⟨g,c,by rw[zE],O,by rw[zE];exact n,Z,iU g _ _ _ _ Q,fun j a=>⟨?_,?_⟩,fun j a=>?_⟩,ki O _ _ _ zB,fun k o D ho=>?_⟩
  ·by_cases p:j<l.length+m.length/\l.length<=j
   ·have:=y (j-l.length) (by rw[f];omega);rw[show l.length+(j-l.length)=j by omega]at this;rw[this];rfl
   ·rw[World.cell?_setCells_out g _ _ _ _ fun _ _=>by rw[f];show j<_\/_<=j;omega];exact (r j a).1
  ·rw[World.frozen?_setCells];exact (r j a).2
  ·rw[zE]at a;by_cases p:j<l.length
   ·rw[World.cell?_setCells_out g _ _ _ _ fun _ _=>.inl p,List.getElem_append_left p];exact S j p
   ·have:=y (j-l.length) (by rw[f];omega);rw[show l.length+(j-l.length)=j by omega]at this;rw[this,List.getElem_append_right (by omega),List.getElem_map]
  ·obtain⟨cs,fz,C⟩:=Q;have M:k≠g:=fun e=>by
    subst e;rw[C]at D;cases D;exact ho.1 _ _ _ rfl (by simp)
   rw[World.heap_setCells_other W g _ _ (an D) M];exact D
 ·have J:∀ j u,(l.map fun b=>Value.int .u8 (b.toNat:Int))[j]?=some u->W.drew.cell? ((⟨g,0,none⟩:Addr).add j)=some u:=fun j u a=>by
   have z:j<l.length:=by simpa using (zK a).1
   rw[Go.WideShapes.add_plain,Nat.zero_add];rw[List.getElem?_map,zO z]at a;exact (S j z).trans a
  have w:=grownCap_ge W (l.length+m.length) c 5;have A:=grownCap_le_maxLen W (l.length+m.length) c 5 (by unfold maxLen;omega);have q:=run_append_grow_src (P:=prog) W 83 E ty 5 X (.int .u8 0) underlying83 U N (some ⟨g,0,none⟩) l.length c (l.map fun b=>.int .u8 (b.toNat:Int)) (by
   rw[i];exact run_firstCells_some W.drew 1 l.length _ l.length c _ (by simp) J) x m.length _ (by rw[i];exact V) (by omega) (by omega) (growslice_fits (by omega) (by rw[I];omega))
  generalize grownCap W (l.length+m.length) c 5=d at w A q;generalize F:World.alloc _ _=W' at q;have hz:(Builtin.zeroCells (Value.int .u8 0).cells (d-(l.length+m.length))).size=d-(l.length+m.length):=by simp[Builtin.zeroCells,Value.cells]
  have G:W'.heap[W.heap.size]?=some (.cells (((l.map fun b=>Value.int .u8 (b.toNat:Int))++m.map fun b=>Value.int .u8 (b.toNat:Int)).toArray++Builtin.zeroCells (Value.int .u8 0).cells (d-(l.length+m.length))) 5 (0,0)):=by rw[<-F];exact heap_alloc_new W.drew _
  have t:zZ W W':=by rw[<-F];exact (Below.refl _ W).drew.alloc zA _
  clear F;have C:=fun j=>cell_of_row W' W.heap.size j _ _ _ G;refine⟨_,_,q,⟨W.heap.size,d,by rw[zE],T,by rw[zE];exact w,A,⟨_,_,G⟩,fun j a=>⟨?_,?_⟩,fun j a=>?_⟩,t.mono T,aD.of_below t⟩
  ·rw[C,zP (by simp only[Array.size_append,List.size_toArray,zE,List.length_map,hz];omega)];rfl
  ·unfold World.frozen?;rw[G];simp
  ·rw[C,Array.getElem?_append_left (by simp only[List.size_toArray,zE,List.length_map];rw[zE]at a;exact a),<-List.map_append,List.getElem?_toArray,List.getElem?_map,zO a];rfl
theorem dM.mono {W:World} {B B':Nat} {v:Value} {l:List UInt8} (h:dM W B v l) (d:B'<=B):dM W B' v l:=by
 obtain⟨g,a,e,b,c⟩:=h;exact⟨g,a,e,zC d b,c⟩
theorem dM.put1 {W:World} {B:Nat} {v:Value} {l:List UInt8} (h:dM W B v l) (d:B<=W.heap.size) (o:l.length<=900000) (c:UInt8) {z:Int} (f:(c.toNat:Int)=z) (ty:TypeId):
 ∃ b W',(Builtin.append_ #[83,83] ty #[v,.slice (some ⟨W.heap.size,0,none⟩) 1 1]).run prog (W.alloc (.cells #[.int .u8 z] 5))=.ok b W'/\dM W' B b (l++[c])/\Below B W W'/\aD [some 5] W W':=by
 subst f;have a:=ae W (.cells #[.int .u8 (c.toNat:Int)] 5);obtain⟨b,W',g,i,k,n⟩:=lg (m:=[c]) (zC d a.size) (h.below a) (Src.ofSlice _ underlying83 ⟨W.heap.size,0,none⟩ 1 1 [.int .u8 (c.toNat:Int)] rfl (fun j u e=>by
  rw[Go.WideShapes.add_plain,Nat.zero_add,cell_of_row _ _ _ _ _ _ (heap_alloc_new W _)];simpa using e) (by simp[Value.oneCell'])) (by simp;omega) ty
 exact⟨b,W',g,i,(a.mono d).trans k,(aD.of_below a).trans n⟩
theorem dM.putS {W:World} {B:Nat} {v:Value} {l:List UInt8} (h:dM W B v l) (f:B<=W.heap.size) (s:List UInt8) (g:l.length+s.length<=1000000) (ty:TypeId):
 ∃ c W',(Builtin.append_ #[83,9] ty #[v,.string ⟨s.toArray⟩]).run prog W=.ok c W'/\dM W' B c (l++s)/\Below B W W'/\aD [some 5] W W':=by
 have a:=Src.ofString W underlying9 ⟨s.toArray⟩;have d:(⟨s.toArray⟩:ByteArray).size=s.length:=by simp[ByteArray.size]
 have e:byteCells ⟨s.toArray⟩=s.map fun b=>Value.int .u8 (b.toNat:Int):=rfl;rw[d,e]at a;exact lg (m:=s) f h a g ty
end Go.Proofs.YtlhojoefhannnaaGreat
namespace Go.Proofs
open Go.Shelf
def Tryz.sortB_ren:Go.Shelf.Ren:=⟨fun|6=>64|15=>81|14=>86|28=>110|29=>111|20=>117|21=>118|22=>119|23=>120|24=>121|25=>122|26=>123|27=>124|46=>147|47=>139|48=>140|49=>148|50=>149|57=>161|n=>n,fun|22=>28|24=>37|25=>112|3=>3|39=>79|0=>0|53=>82|55=>141|4=>4|46=>151|45=>150|50=>43|5=>5|9=>9|66=>179|70=>183|76=>204|77=>205|n=>n,fun|n=>n⟩
theorem Tryz.sortB:Go.Proofs.SlLaysF0.n6 Tryz.prog Tryz.sortB_ren:={
 mixed:=by kernel_rfl
 f6:=⟨Tryz.f64.name,by decide,Tryz.func64.trans (congrArg some (by kernel_rfl))⟩
 f14:=⟨Tryz.f86.name,by decide,Tryz.func86.trans (congrArg some (by kernel_rfl))⟩
 f15:=Tryz.func81.trans (congrArg some (by kernel_rfl))
 f20:=⟨Tryz.f117.name,by decide,Tryz.func117.trans (congrArg some (by kernel_rfl))⟩
 f21:=⟨Tryz.f118.name,by decide,Tryz.func118.trans (congrArg some (by kernel_rfl))⟩
 f22:=⟨Tryz.f119.name,by decide,Tryz.func119.trans (congrArg some (by kernel_rfl))⟩
 f23:=⟨Tryz.f120.name,by decide,Tryz.func120.trans (congrArg some (by kernel_rfl))⟩
 f24:=⟨Tryz.f121.name,by decide,Tryz.func121.trans (congrArg some (by kernel_rfl))⟩
 f25:=⟨Tryz.f122.name,by decide,Tryz.func122.trans (congrArg some (by kernel_rfl))⟩
 f26:=⟨Tryz.f123.name,by decide,Tryz.func123.trans (congrArg some (by kernel_rfl))⟩
 f27:=⟨Tryz.f124.name,by decide,Tryz.func124.trans (congrArg some (by kernel_rfl))⟩
 f28:=Tryz.func110.trans (congrArg some (by kernel_rfl))
 f29:=Tryz.func111.trans (congrArg some (by kernel_rfl))
 f46:=⟨Tryz.f147.name,by decide,Tryz.func147.trans (congrArg some (by kernel_rfl))⟩
 f47:=Tryz.func139.trans (congrArg some (by kernel_rfl))
 f48:=Tryz.func140.trans (congrArg some (by kernel_rfl))
 f49:=⟨Tryz.f148.name,by decide,Tryz.func148.trans (congrArg some (by kernel_rfl))⟩
 f50:=⟨Tryz.f149.name,by decide,Tryz.func149.trans (congrArg some (by kernel_rfl))⟩
 f57:=⟨Tryz.f161.name,by decide,Tryz.func161.trans (congrArg some (by kernel_rfl))⟩
 t0:=Tryz.underlying0
 a0:=Tryz.isAgg0
 z0:=Tryz.sizeOf0
 v0:=Tryz.zeroValue0
 t3:=Tryz.underlying3
 a3:=Tryz.isAgg3
 z3:=Tryz.sizeOf3
 v3:=Tryz.zeroValue3
 t4:=Tryz.underlying4
 a4:=Tryz.isAgg4
 z4:=Tryz.sizeOf4
 v4:=Tryz.zeroValue4
 t5:=Tryz.underlying5
 a5:=Tryz.isAgg5
 z5:=Tryz.sizeOf5
 v5:=Tryz.zeroValue5
 t9:=Tryz.underlying9
 a9:=Tryz.isAgg9
 z9:=Tryz.sizeOf9
 v9:=Tryz.zeroValue9
 t22:=Tryz.underlying28
 a22:=Tryz.isAgg28
 z22:=Tryz.sizeOf28
 v22:=Tryz.zeroValue28
 t25:=Tryz.underlying112
 a25:=Tryz.isAgg112
 z25:=Tryz.sizeOf112
 v25:=Tryz.zeroValue112
 t39:=Tryz.underlying79
 a39:=Tryz.isAgg79
 z39:=Tryz.sizeOf79
 v39:=Tryz.zeroValue79
 t45:=Tryz.underlying150
 a45:=Tryz.isAgg150
 z45:=Tryz.sizeOf150
 v45:=Tryz.zeroValue150
 t46:=Tryz.underlying151
 a46:=Tryz.isAgg151
 z46:=Tryz.sizeOf151
 v46:=Tryz.zeroValue151
 t50:=Tryz.underlying43
 a50:=Tryz.isAgg43
 z50:=Tryz.sizeOf43
 v50:=Tryz.zeroValue43
 t53:=Tryz.underlying82
 a53:=Tryz.isAgg82
 z53:=Tryz.sizeOf82
 v53:=Tryz.zeroValue82
 t55:=Tryz.underlying141
 a55:=Tryz.isAgg141
 z55:=Tryz.sizeOf141
 v55:=Tryz.zeroValue141
 t66:=Tryz.underlying179
 a66:=Tryz.isAgg179
 z66:=Tryz.sizeOf179
 v66:=Tryz.zeroValue179
 t70:=Tryz.underlying183
 a70:=Tryz.isAgg183
 z70:=Tryz.sizeOf183
 v70:=Tryz.zeroValue183
 t76:=Tryz.underlying204
 a76:=Tryz.isAgg204
 z76:=Tryz.sizeOf204
 v76:=Tryz.zeroValue204
 t77:=Tryz.underlying205
 a77:=Tryz.isAgg205
 z77:=Tryz.sizeOf205
 v77:=Tryz.zeroValue205 }
end Go.Proofs
namespace Go.Proofs.YtlhojoefhannnaaGreat
open Go.Proofs.Tryz Go.Shelf Go.RowKit Go.Lib Go.Sort NumB
structure jF where
 x:Int
 k:Int
 v:Int
 s:ByteArray
 ng:Bool
 A:Option Addr
 n:Nat
 c:Nat
 B:Option Addr
 m:Nat
 d:Nat
 X:Option Addr
 l:Nat
 e:Nat
instance:Inhabited jF:=⟨⟨0,0,0,⟨#[]⟩,false,none,0,0,none,0,0,none,0,0⟩⟩
def jF.cs (b:jF):List Value:=[.int .i64 b.k,.int .i64 b.v,.string b.s,.bool b.ng,.slice b.A b.n b.c,.slice b.B b.m b.d,.slice b.X b.l b.e]
def jF.enc (b:jF):List Value:=.int .i64 b.x::b.cs
def sZ (a b:jF):Int:=br a.x b.x
theorem kM (a b:jF):ltOf sZ a b=decide (a.x<b.x):=by
 unfold ltOf sZ;by_cases h:a.x<b.x
 ·simp[h,kP]
 ·simp[h,kP]
theorem yz:SWO (ltOf sZ) where
 irrefl x:=by rw[kM];simp
 trans x y z h1 h2:=by rw[kM]at *;simp at *;omega
 ntrans x y z h1 h2:=by rw[kM]at *;simp at *;omega
theorem sA (x y:jF) (W:World):Calls prog 65 #[.agg x.enc.toArray,.agg y.enc.toArray] W fun e w'=>e=.returned (.int .i64 (sZ x y))/\∃ q a,w'=grow (W.drewN q) a:=by
 have b:Yd (∀ W,Calls prog 16 #[.int .i64 x.x,.int .i64 y.x] W fun e w'=>e=.returned (.int .i64 (sZ x y))/\w'=W):=fun W=>lp x.x y.x W;generalize sZ x y=r at*;obtain⟨m,n,o,p,t,v,w,z,A,B,c,d,f,g⟩:=x;obtain⟨C,D,E,F,G,I,J,M,N,O,h,i,j,k⟩:=y;unfold jF.enc jF.cs;dsimp only at b ⊢;go_enter func65,ntmps65;go_wp2_with fail;refine (b.o _).mono ?_;rintro e l ⟨rfl,rfl⟩;go_wp2_with fail;go_ret;exact⟨rfl,0,_,by rw[alloc_eq_grow,alloc_eq_grow,grow_grow];rfl⟩
theorem px {α:Type} [Inhabited α] (enc:α->List Value) (k:Nat) (w:World) (g n:Nat) (d:Array α) (os:Array Obj):w.grownBy (sortWorldK enc k w g 0 n d os) (some g):=by
 unfold sortWorldK;refine⟨rfl,rfl,rfl,by simp[putRowK,putRow,mapBlock,ahead],fun i b a=>?_⟩;rw[heap_grow_old _ _ (by simpa[putRowK,putRow,mapBlock,ahead] using b)];have:g≠i:=fun e=>a (by rw[e]);simp[putRowK,putRow,mapBlock,ahead,Array.getElem?_modify,this]
theorem xD (g f:Nat) (d:List jF) (w:World) (B:HoldsK jF.enc 8 w g 0 d.toArray) (C:g<w.heap.size) (z:d.length<4611686018427387904):
 Calls prog 64 #[.slice (some ⟨g,0,none⟩) d.length f,.func (.func 65) #[] #[]] w fun e w'=>e=.returned (.tuple #[])/\∃ m:List jF,m.Perm d/\m.Pairwise (fun a b=>¬b.x<a.x)/\w.grownBy w' (some g)/\∀ i (h:i<m.length) q,q<8->w'.cell? ⟨g,i*8+q,none⟩=(m[i]).enc[q]?:=by
 have h:=AnyQ.slices_SortFunc sortB 8 isAgg37 sizeOf37 jF.enc (fun _=>rfl) (fun x v F=>by
  simp only[jF.enc,jF.cs,List.mem_cons,List.not_mem_nil,or_false]at F;rcases F with rfl|rfl|rfl|rfl|rfl|rfl|rfl|rfl<;>rfl) sZ yz 65 #[] g 0 f d.toArray w (enters_of func65 (by kernel_rfl) rfl) (fun _ _ _ _ x y=>sA x y _) B C (by simpa using z)
 have G:Calls prog 64 #[.slice (some ⟨g,0,none⟩) d.length f,.func (.func 65) #[] #[]] w _:=h;refine G.mono ?_;rintro e w' ⟨rfl,k,n,N,⟨M,_,J⟩,t,rfl⟩;have l:k.size=d.length:=by simpa using M
 refine⟨rfl,k.toList,?_,?_,px _ _ _ _ _ _ _,fun i o q E=>?_⟩
 ·simpa[Array.extract_eq_self_of_le,l] using J
 ·rw[List.pairwise_iff_getElem];intro i j o D p;have:=t i j (Nat.zero_le _) p (by simpa[l] using D);rw[kM,getElem!_pos k i (by simpa using o),getElem!_pos k j (by simpa using D)]at this;simpa using this
 ·have I:=holdsK_sortWorldK jF.enc 8 w g 0 n d.toArray k N C B (by simpa using l);have:=I.cell (i:=i) (c:=q) (by simpa using o) E;have A:=this.1;simp only[Nat.zero_add]at A;rw[A];have r:q<((k[i]!).enc).length:=E;rw[getElem!_pos k i (by simpa using o)]at r ⊢;rw[getElem!_pos _ q r];simp[zO r]
end Go.Proofs.YtlhojoefhannnaaGreat
namespace Go.Proofs.YtlhojoefhannnaaGreat
open Go.Proofs.Tryz Go.RowKit NumB
theorem u9:∀ {a b:List Int},a.Pairwise (· < ·)->b.Pairwise (· < ·)->(∀ v,v∈a↔v∈b)->a=b
 |[],[],_,_,_=>rfl
 |[],y::b,_,_,h=>absurd ((h y).2 (by simp)) (by simp)
 |x::a,[],_,_,h=>absurd ((h x).1 (by simp)) (by simp)
 |x::a,y::b,ha,hb,h=>by
  rw[List.pairwise_cons]at ha hb;have e:x=y:=by
   have h1:=(h x).1 (by simp);have h2:=(h y).2 (by simp);rw[List.mem_cons]at h1 h2;rcases h1 with h1|h1
   ·exact h1
   ·rcases h2 with h2|h2
    ·exact h2.symm
    ·have:=hb.1 x h1;have:=ha.1 y h2;omega
  subst e;rw[u9 ha.2 hb.2 fun v=>?_];have h3:=h v;rw[List.mem_cons,List.mem_cons]at h3;constructor
  ·intro hv;rcases h3.1 (.inr hv) with rfl|h4
   ·have:=ha.1 v hv;omega
   ·exact h4
  ·intro hv;rcases h3.2 (.inr hv) with rfl|h4
   ·have:=hb.1 v hv;omega
   ·exact h4
theorem eC.pair {b:List (Int×Tm)} (h:eC b):(b.map (·.1)).Pairwise (· < ·):=by
 rw[List.pairwise_iff_getElem];intro i j c d a;simp only[List.length_map]at c d;simpa using h i j c d a
theorem sC {g:List (Int×Tm)} {f:List (jF×Tm)} {d:List jF} (n:eC g) (k:d.Perm (f.map (·.1))) (q:d.Pairwise (fun a b=>¬b.x<a.x)) (m:f.Pairwise (fun a b=>a.1.x≠b.1.x)) (o:∀ v,(∃ p∈f,p.1.x=v)↔v∈g.map (·.1)):d.map (·.x)=g.map (·.1):=by
 refine u9 ?_ n.pair fun v=>?_
 ·have i:(f.map (·.1)).Pairwise (fun a b=>a.x≠b.x):=by rw[List.pairwise_map];exact m
  have j:d.Pairwise (fun a b=>a.x≠b.x):=(k.pairwise_iff (fun {a b} h=>fun e=>h e.symm)).2 i;rw[List.pairwise_map];exact (q.and j).imp fun {a b} h=>by have:=h.1;have:=h.2;omega
 ·rw[<-o];constructor
  ·intro h;obtain⟨b,l,rfl⟩:=List.mem_map.1 h;obtain⟨p,c,rfl⟩:=List.mem_map.1 (k.subset l);exact⟨p,c,rfl⟩
  ·rintro⟨p,c,rfl⟩;exact List.mem_map.2 ⟨p.1,k.symm.subset (List.mem_map.2 ⟨p,c,rfl⟩),rfl⟩
def AU (bs:List (Int×Tm)) (left:Lit->Bool) (gs:List (jF×Tm)):Prop:=
 (∀ p∈gs,fnd bs p.1.x=some p.2/\aG p.1.x/\left (.int .i64 p.1.x)=false)/\gs.Pairwise (fun a b=>a.1.x≠b.1.x)/\∀ v,v∈bs.map (·.1)->left (.int .i64 v)=true\/∃ p∈gs,p.1.x=v
theorem BA {a:List (Int×Tm)} {v:Int} {t:Tm} (h:fnd a v=some t):v∈a.map (·.1):=by
 unfold fnd at h;rw[Option.map_eq_some_iff]at h;obtain⟨p,c,rfl⟩:=h;have b:=List.find?_some c;simp only[beq_iff_eq]at b;exact List.mem_map.2 ⟨p,List.mem_of_find?_eq_some c,b⟩
theorem AU.add {d:List (Int×Tm)} {left:Lit->Bool} {g:List (jF×Tm)} (h:AU d left g) {p:jF×Tm} (k:fnd d p.1.x=some p.2) (n:aG p.1.x) (l:left (.int .i64 p.1.x)=true):AU d (fun z=>left z&&!z.sameKey (.int .i64 p.1.x)) (g++[p]):=by
 refine⟨fun q c=>?_,?_,fun v m=>?_⟩
 ·rcases List.mem_append.1 c with c|c
  ·have:=h.1 q c;exact⟨this.1,this.2.1,by simp[this.2.2]⟩
  ·rw[List.mem_singleton]at c;subst c;exact⟨k,n,by simp[Lit.sameKey]⟩
 ·rw[List.pairwise_append];refine⟨h.2.1,by simp,fun a j b i=>?_⟩;rw[List.mem_singleton]at i;subst i;intro e;have:=(h.1 a j).2.2;rw[e,l]at this;cases this
 ·by_cases e:v=p.1.x
  ·subst e;exact .inr ⟨p,by simp,rfl⟩
  ·rcases h.2.2 v m with f|⟨q,c,f⟩
   ·exact .inl (by simp[f,Lit.sameKey,e])
   ·exact .inr ⟨q,by simp[c],f⟩
theorem gQ.keys {w:World} {c:List (Int×List Value)} {a:List (Int×Tm)} (h:gQ w c a):∀ v,v∈a.map (·.1)->Maps.has (DataW.map (c.map fI)) (.int .i64 v)=true:=by
 induction h with
 |nil=>intro v b;simp at b
 |@cons i d l c a f j k g=>
  intro v b;rw[Maps.has_eq];by_cases e:v=i
  ·subst e;simp[fI,Lit.sameKey]
  ·have:=g v (by simpa[e] using b);rw[Maps.has_eq]at this;simp only[List.map_cons,List.any_cons,this,Bool.or_true]
theorem bF.grown {R:Nat->Prop} {w w':World} {a:Option Nat} {t:Tm} {cs:List Value} (h:bF R w t cs) (d:w.grownBy w' a) (f:∀ b,R b->some b≠a):bF R w' t cs:=h.to d.size fun b e c=>d.block b c (f b e)
theorem yY {w w':World} (h:zZ w w'):w.grownBy w' none:=⟨h.os,h.tape,h.output,h.size,fun i a _=>h.block i a⟩
theorem nR:(prog.info? 37).map (fun i=>(i.zero,i.size,i.bytes))=some (some (.agg (Value.int .i64 0::zt).toArray),8,120):=by kernel_rfl
theorem sK {w:World} (ms:Nat) {n:List (Int×Tm)} (hi:eC n) (g0:CL n) (n6:n.length<=1000000) (W:World) (hW:zZ w W) (hM:eD w W ms n):
 Calls prog 41 #[.map (some ms)] W fun e W'=>∃ ov,e=.returned ov/\BL W' ov n/\zZ W W':=by
 obtain⟨zs,o,hz⟩:=hM;have g7:Yd (∀ x cx,TC w x cx->x.err0=0->∀ W',zZ w W'->Calls prog 48 #[.agg cx.toArray] W' fun e w'=>∃ e0,e=.returned (.agg e0.toArray)/\gP (W'.heap.size+1) w' x e0/\zZ W' w'):=fun x cx hx he W' hb=>gR hx (hx.sm he) W' hb;have HZ:=zH hz;have HI:=zH hi;have k3:=zH g0;have d5:=zH hW;have i3:=zH o.lt;obtain⟨i0,e5,g3,g4,g5⟩:=info_parts nR;have h7:=zH e5;have k4:=zH g3;have k5:=zH g4;have k6:=zH g5;have h9:=zH hz.len;clear e5 g3 g4 g5 hz hi g0 hW;go_enter func41,ntmps41
 go_wp2_with (first
  |(at_range;refine wpList_range_own _ rfl _ 72 rfl 3 27 (Maps.int_keyed underlying3) underlying72 sR ms n.length _ rfl o ?_;intro w0 m5 B f7)
  |go_in)
 have c1:Yd (zZ W w0):=⟨B.os,B.tape,B.output,B.size,fun i hi=>B.block i hi (by simp)⟩;have d1:Yd (w0.heap.size=W.heap.size+1):=f7;clear B f7 o
 go_frame
 go_loopw [3] (fun v wr=>∃ (left:Lit->Bool) (b2:Nat) (d:List (jF×Tm)) (xs:List Value),wr.ranges prog 3 sR ms W.heap.size n.length (.map (zs.map fI)) left b2/\Yd (wr.ownsRow (W.heap.size+1) 37 8 v d.length xs)/\Yd (∀ i (h:i<d.length) q,q<8->xs[i*8+q]?=(d[i]).1.enc[q]?)/\Yd (∀ i (h:i<d.length),bF (fun b=>W.heap.size+1<=b/\some b≠v.ownBlock) wr (d[i]).2 (d[i]).1.cs)/\Yd (AU n left d)/\Yd (d.length+b2<=n.length)/\Yd (zZ W wr)/\Yd (W.heap.size+1<=wr.heap.size))
  (fun _ wr=>wr.rangeLeft ms W.heap.size)
 case atStart=>
  exact⟨_,_,[],[],m5,World.ownsRow_nil _ _ _ _,fun i h=>absurd h (by simp),fun i h=>absurd h (by simp),⟨fun p Z=>(by cases Z),List.Pairwise.nil,fun v hv=>.inl (HZ.o.keys v hv)⟩,by show _<=_;rw[Maps.size_eq];simp[h9.o],c1.o,Nat.le_of_eq d1.o.symm⟩
 case round=>
  clear c1 d1;obtain⟨left,b2,d,xs,a2,m,b1,b0,HG,a4,HB,d2⟩:=hrel;have c6:=zH a2.left_eq;have j5:=zH a2.ne
  go_wp2_with (first
   |(at_next;refine wpList_next_ranges _ rfl _ rfl 3 (Maps.int_keyed underlying3) sR (Value.int .i64) id (fun o0 kl h=>(by obtain⟨x,e,_⟩:=Maps.keyOf_int_inv underlying3 h;exact⟨x,e⟩)) (fun v y _=>⟨v,rfl⟩) ms W.heap.size n.length _ _ _ rfl a2 ?_ ?_)
   |go_in)
  ·intro l2 f1;have c4:Yd (∀ v,(∃ p∈d,p.1.x=v)↔v∈n.map (·.1)):=fun v=>⟨fun ⟨p,Z,e⟩=>e▸BA (HG.o.1 p Z).1,fun hv=>by
    rcases HG.o.2.2 v hv with h|h
    ·rw[f1]at h;cases h
    ·exact h⟩
   have g9:Yd (∀ p∈d,fnd n p.1.x=some p.2/\aG p.1.x):=fun p Z=>⟨(HG.o.1 p Z).1,(HG.o.1 p Z).2.1⟩;have g8:=zH HG.o.2.1;have i1:Yd (d.length<=1000000):=by have:=a4.o;show _<=_;omega
   clear a2 HG a4 c6 j5 l2 f1;rcases m.o.2 with ⟨n1,h0⟩|⟨g,V,k9,hv,e3,hb,h3,h4,h5,h6⟩
   ·subst n1;have B:d=[]:=zF h0;have g6:Yd (n=[]):=by
     show _=_;cases n with
     |nil=>rfl
     |cons b r=>
      obtain⟨p,Z,_⟩:=(c4.o b.1).2 (by simp);rw[B]at Z;cases Z
    have j0:=zH (fun w'=>AnyF.slices_SortFunc_none { sortB with } none 0 (.func (.func 65) #[] #[]) w')
    go_wp2_with (go_at_call 64;refine (j0.o _).mono ?_;rintro e w' ⟨rfl,rfl⟩)
    go_ret;rw[g6.o];exact⟨_,rfl,⟨none,0,fun _=>[],rfl,zN _,by unfold maxLen;omega,fun h=>absurd h (by simp),fun i h=>absurd h (by simp)⟩,HB.o⟩
   ·subst hv;have G:=m.o;have e4:=(Go.World.ownsRow.lt G g rfl).2;have e2:Go.Sort.HoldsK jF.enc 8 wr g 0 (d.map (·.1)).toArray:=by
     intro j hj;have e6:j<d.length*8:=by simpa using hj
     have h1:=b1.o (j / 8) (by omega) (j % 8) (by omega);have e1:j / 8*8+j % 8=j:=by omega
     rw[e1]at h1;refine⟨?_,G.frozenAt _⟩;have h2:=G.cellAt j e6;rw[Nat.zero_add,h2,h1,Go.Sort.get_flatK _ _ _ _ (by simpa using e6)];have hq:j / 8<(d.map (·.1)).toArray.size:=by simp;omega
     have hl:j % 8<(((d.map (·.1)).toArray[j / 8]!).enc).length:=Nat.mod_lt _ (by omega);rw[getElem!_pos (d.map (·.1)).toArray (j / 8) hq]at hl ⊢;rw[getElem!_pos (((d.map (·.1)).toArray[j / 8]'hq).enc) (j % 8) hl];simp only[List.getElem_toArray,List.getElem_map,id]at hl ⊢;exact zO hl
    have f8:=zH (xD g V (d.map (·.1)) wr e2 e4 (by have:=i1.o;simp;omega));have j6:Yd (Calls prog 64 #[.slice (some ⟨g,0,none⟩) d.length V,.func (.func 65) #[] #[]] wr fun e w'=>e=.returned (.tuple #[])/\Yd (∃ O:List jF,O.Perm (d.map (·.1))/\O.Pairwise (fun a b=>¬b.x<a.x)/\wr.grownBy w' (some g)/\∀ i (h:i<O.length) q,q<8->w'.cell? ⟨g,i*8+q,none⟩=(O[i]).enc[q]?)):=by
     have:=f8.out;rw[List.length_map]at this;exact this
    have a7:Yd (d.length<=V/\V<=maxLen/\W.heap.size+1<=g):=⟨h3,h4,e3⟩;clear f8 e2 hb h3 h4 h5 h6 e3 G m b1 k9
    go_wp2_with (go_at_call 64;refine j6.o.mono ?_;rintro e w' ⟨rfl,HQ⟩)
    go_ret;obtain⟨O,Z,b5,a5,l3⟩:=HQ.o;have b5:O.Pairwise (fun a b=>¬b.x<a.x):=b5.imp fun {a b} h=>by omega
    have f0:=sC HI.o Z b5 g8.o c4.o;have m2:O.length=n.length:=by have:=congrArg List.length f0;simpa using this
    have f2:d.length=n.length:=by rw[<-m2,Z.length_eq,List.length_map]
    have l1:zZ W w':=HB.o.grown a5 HB.o.size (fun k hk=>by cases hk;have:=a7.o.2.2;omega);refine⟨.slice (some ⟨g,0,none⟩) d.length V,rfl,⟨some ⟨g,0,none⟩,V,fun i=>if h:i<O.length then (O[i]).enc else [],by rw[f2],by rw[<-f2];exact a7.o.1,a7.o.2.1,fun h0=>⟨g,0,rfl,zD e4 a5.size,fun i hi j hj=>?_⟩,fun i h=>?_⟩,l1⟩
    ·have Y:i<O.length:=by omega
     dsimp only;rw[dif_pos Y,Nat.zero_add];exact l3 i Y j hj
    ·have Y:i<O.length:=by omega
     dsimp only;rw[dif_pos Y];have hk:(O[i]).x=(n[i]).1:=by
      have h1:(O.map (·.x))[i]?=(n.map (·.1))[i]?:=by rw[f0]
      simpa[Y,h] using h1
     obtain⟨p,f5,f4⟩:=List.mem_map.1 (Z.subset (zQ Y));obtain⟨q,hq,m4⟩:=List.getElem_of_mem f5;have hf:=g9.o p f5;rw[f4,hk,ji HI.o h rfl]at hf;have ht:(n[i]).2=p.2:=zI hf.1;have a0:=b0.o q hq;rw[m4]at a0;refine⟨(O[i]).cs,?_,hf.2,?_⟩
     ·rw[<-hk];rfl
     ·rw[ht,<-f4];exact (a0.to a5.size fun b hb a6=>a5.block b a6 fun e=>hb.2 (by rw[e];rfl)).tc
  ·intro x c kl ya yp w1 d6 e9 f3 hR X f6 a6 A n0 l4;obtain⟨x',n2,m1,g1⟩:=Maps.keyOf_int_inv underlying3 e9;cases n2;subst m1;have hy:ya=.held c:=by
    have:=zI hR;simp only[Prod.mk.injEq]at this;exact this.1.symm
   subst hy;have g2:aG x:=bounds_i64 g1;rcases HZ.o.at x with ⟨_,h2⟩|⟨t,cx,hf,a0,h3⟩
   ·have:=(h2 .nil).symm.trans (X .nil);cases this
   have hc:c=.agg cx.toArray:=by
    have:=(h3 .nil).symm.trans (X .nil);simp only[DataW.held.injEq]at this;exact this.symm
   subst hc;obtain⟨k7,v7,b8,b7,A7,n7,c7,B7,m7,d7,X7,l7,e7,l5⟩:=a0.form;subst l5;have HF:=zH hf;have HX:=zH g2;have c3:=zH (g7.o t _ a0 (k3.o x t hf));have i2:=zH f3;have c5:=zH a6;have a3:Yd (zZ W w1):=⟨A.os.trans HB.o.os,A.tape.trans HB.o.tape,A.output.trans HB.o.output,zC HB.o.size A.size,fun i hi=>(A.block i (zD hi HB.o.size) (by simp;omega)).trans (HB.o.block i hi)⟩;have d3:Yd (W.heap.size+1<=w1.heap.size):=zC d2.o A.size;have c9:Yd (w1.ownsRow (W.heap.size+1) 37 8 u3 d.length xs):=m.o.kept A (by
    cases hob:u3.ownBlock with
    |none=>exact .inl rfl
    |some g=>exact .inr fun e=>by have:=(Go.World.ownsRow.lt m.o g hob).1;simp at e;omega)
   have k1:Yd (∀ i (h:i<d.length),bF (fun b=>W.heap.size+1<=b/\some b≠u3.ownBlock) w1 (d[i]).2 (d[i]).1.cs):=fun i h=>(b0.o i h).grown A fun b hb=>by have:=hb.1;simp;omega
   clear hf a0 h3 X e9 g1 hR g2 f3 a6 HB d2 m b0 a2 A n0;have j3:=zH f6;clear f6;go_wp2_with fail;refine (c3.o _ (by exact d5.o.trans ((a3.o.trans ((ae w1 _).mono a3.o.size)).mono d5.o.size))).mono ?_;rintro e w8 ⟨n4,rfl,b6,b3⟩;obtain⟨P,U,l,f,D,T,J,E,S,M,I,Q,N,l6⟩:=b6.tc.form;subst l6;have a1:Yd (zZ w1 (w8.alloc (.cells #[.int .i64 x,.int .i64 P,.int .i64 U,.string l,.bool f,.slice D T J,.slice E S M,.slice I Q N] 37))):=((ae w1 (.cells #[.int .i64 k7,.int .i64 v7,.string b8,.bool b7,.slice A7 n7 c7,.slice B7 m7 d7,.slice X7 l7 e7] 27)).trans (b3.mono (ae w1 _).size)).trans ((ae w8 _).mono (zC (ae w1 (.cells #[.int .i64 k7,.int .i64 v7,.string b8,.bool b7,.slice A7 n7 c7,.slice B7 m7 d7,.slice X7 l7 e7] 27)).size b3.size));have d0:=zH (bJ c9.o a1.o);have i4:=zH (World.news_of_block (ah.new w8 37 #[.int .i64 x,.int .i64 P,.int .i64 U,.string l,.bool f,.slice D T J,.slice E S M,.slice I Q N]));have j1:Yd (∀ u∈[(Value.int .i64 x),(Value.int .i64 P),(Value.int .i64 U),(Value.string l),(Value.bool f),(Value.slice D T J),(Value.slice E S M),(Value.slice I Q N)],u.oneCell'=true):=fun u hu=>by
    simp only[List.mem_cons,List.not_mem_nil,or_false]at hu;rcases hu with rfl|rfl|rfl|rfl|rfl|rfl|rfl|rfl<;>rfl
   have F:Yd (∀ k,u3.ownBlock=some k->W.heap.size+1<=k/\k<w1.heap.size):=Go.World.ownsRow.lt c9.o;have j7:Yd (bF (fun b=>W.heap.size+1<=b/\some b≠u3.ownBlock) (w8.alloc (.cells #[.int .i64 x,.int .i64 P,.int .i64 U,.string l,.bool f,.slice D T J,.slice E S M,.slice I Q N] 37)) t (zX P U l f D T J E S M I Q N)):=((bF.of_tcf b6).mono (q:=(fun b=>W.heap.size+1<=b/\some b≠u3.ownBlock)) fun b hb _=>by
    have l0:(w1.alloc (.cells #[.int .i64 k7,.int .i64 v7,.string b8,.bool b7,.slice A7 n7 c7,.slice B7 m7 d7,.slice X7 l7 e7] 27)).heap.size+1<=b:=hb;have hq:w1.heap.size+1+1<=b:=by simpa using l0
    have:=d3.o;exact⟨by omega,fun e=>by have:=(F.o b e.symm).2;omega⟩).onto (ae w8 _)
   have k0:Yd (∀ i (h:i<d.length),bF (fun b=>W.heap.size+1<=b/\some b≠u3.ownBlock) (w8.alloc (.cells #[.int .i64 x,.int .i64 P,.int .i64 U,.string l,.bool f,.slice D T J,.slice E S M,.slice I Q N] 37)) (d[i]).2 (d[i]).1.cs):=fun i h=>(k1.o i h).onto a1.o;have j4:=zH (j3.o.kept (yY a1.o) (by simp) (by simp));have c2:Yd (zZ W (w8.alloc (.cells #[.int .i64 x,.int .i64 P,.int .i64 U,.string l,.bool f,.slice D T J,.slice E S M,.slice I Q N] 37))):=a3.o.trans (a1.o.mono a3.o.size);have h8:Yd (∀ w4,(w8.alloc (.cells #[.int .i64 x,.int .i64 P,.int .i64 U,.string l,.bool f,.slice D T J,.slice E S M,.slice I Q N] 37)).grownBy w4 u3.ownBlock->w4.ranges prog 3 sR ms W.heap.size n.length (.map (zs.map fI)) (fun z=>left z&&!z.sameKey (.int .i64 x)) d6/\zZ W w4):=fun w4 hg=>⟨j4.o.kept hg (fun e=>by have:=(F.o ms e.symm).1;have:=i3.o;omega) (fun e=>by have:=(F.o _ e.symm).1;omega),c2.o.grown hg c2.o.size (fun k hk=>by have:=(F.o k hk).1;omega)⟩;have n5:d.length<=1000000:=by have:=a4.o;omega
   have d4:Yd (W.heap.size+1<=(w8.alloc (.cells #[.int .i64 x,.int .i64 P,.int .i64 U,.string l,.bool f,.slice D T J,.slice E S M,.slice I Q N] 37)).heap.size):=zC d3.o a1.o.size;clear b6 b3 c3 l4
   go_wp2_with (at_builtin;go_must (refine wpList_append_lies _ rfl _ _ 28 rfl (W.heap.size+1) 37 i0 (.agg (Value.int .i64 0::zt).toArray) 8 120 underlying28 h7.o k4.o k5.o k6.o rfl (by decide) u3 d.length xs rfl d0.o ⟨w8.heap.size,0,none⟩ 1 1 [.int .i64 x,.int .i64 P,.int .i64 U,.string l,.bool f,.slice D T J,.slice E S M,.slice I Q N] rfl rfl i4.o j1.o (by decide) (by unfold maxLen;omega) (by omega) (by exact d4.o) _ rfl ?_);intro g n3 w4 o C X m3;have j2:=zH o;have a8:=zH C;have c0:=zH X;have a9:=zH (h8.o w4 C);clear o C X m3)
   go_roundw
   case measure=>rw[a9.o.1.left_eq,c6.o];exact c5.o
   case rel=>
    refine⟨_,d6,d++[((⟨x,P,U,l,f,D,T,J,E,S,M,I,Q,N⟩:jF),t)],xs++[(Value.int .i64 x),(Value.int .i64 P),(Value.int .i64 U),(Value.string l),(Value.bool f),(Value.slice D T J),(Value.slice E S M),(Value.slice I Q N)],a9.o.1,by rw[zE];exact j2.o,fun i h q hq=>?_,fun i h=>?_,HG.o.add (p:=((⟨x,P,U,l,f,D,T,J,E,S,M,I,Q,N⟩:jF),t)) HF.o HX.o i2.o,by have:=a4.o;have:=c5.o;show _<=_;simp;omega,a9.o.2,zC d4.o a8.o.size⟩
    ·have n9:xs.length=d.length*8:=d0.o.1;rw[zE,List.length_singleton]at h;by_cases b4:i=d.length
     ·subst b4;rw[List.getElem?_append_right (by omega),List.getElem_append_right zA];simp only[Nat.sub_self,List.getElem_cons_zero];show _=([.int .i64 x,.int .i64 P,.int .i64 U,.string l,.bool f,.slice D T J,.slice E S M,.slice I Q N]:List Value)[q]?
      congr 1
      omega
     ·rw[List.getElem?_append_left (by omega),List.getElem_append_left (by omega)];exact b1.o i (by omega) q hq
    ·rw[zE,List.length_singleton]at h;by_cases b4:i=d.length
     ·subst b4;rw[List.getElem_append_right zA];simp only[Nat.sub_self,List.getElem_cons_zero];exact nQ j7.o a8.o c0.o
     ·rw[List.getElem_append_left (by omega)];exact nQ (k0.o i (by omega)) a8.o c0.o
end Go.Proofs.YtlhojoefhannnaaGreat
