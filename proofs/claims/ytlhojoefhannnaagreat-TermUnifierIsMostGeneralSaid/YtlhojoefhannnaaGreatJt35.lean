/- fetterlocklaw2.bound. And 1 more texts. -/
import Derived.Shelf.SortM.Plain
import Derived.Shelf.SortM.SortNone
import Derived.Shelf.SlicesG.CompactI
import Derived.Ground.SlgmProg
import Derived.Ground.SlgnProg
import Derived.Test.YtlhojoefhannnaaGreatJt34
set_option linter.unusedVariables false
set_option linter.unusedSimpArgs false
set_option maxRecDepth 100000
set_option maxHeartbeats 51200000
namespace Go.Proofs.YtlhojoefhannnaaGreat
open Go.RowKit NumB
def SH (w:World) (B g h n:Nat):Prop:=∃ A c,af w g 86 #[.pointer (some ⟨h,0,none⟩)]/\dE w B h A n c (.slice none 0 0) (List.replicate n zc).flatten
theorem SH.below {w w':World} {B g h n:Nat} (hs:SH w B g h n) (hb:Below w.heap.size w w'):SH w' B g h n:=by
 obtain⟨A,c,h1,h2⟩:=hs;exact⟨A,c,h1.to hb,h2.kept (p:=fun _=>False) (ah.of_below hb) (fun h=>h) (fun _ _ h=>h)⟩
theorem zk (w:World):Calls Tryz.prog 21 #[] w fun e w'=>e=.returned (.pointer (some ⟨w.heap.size+1,0,none⟩))/\SH w' w.heap.size (w.heap.size+1) w.heap.size 0/\Below w.heap.size w w':=by
 refine (qp w).mono ?_;rintro e w' ⟨rfl,rfl⟩;have h1:af ((w.alloc (.cells #[.slice none 0 0,.slice none 0 0,.slice none 0 0] 95)).alloc (.cells #[.pointer (some ⟨w.heap.size,0,none⟩)] 86)) w.heap.size 95 #[.slice none 0 0,.slice none 0 0,.slice none 0 0]:=(af.new w _ _).alloc _;have h2:af ((w.alloc (.cells #[.slice none 0 0,.slice none 0 0,.slice none 0 0] 95)).alloc (.cells #[.pointer (some ⟨w.heap.size,0,none⟩)] 86)) (w.heap.size+1) 86 #[.pointer (some ⟨w.heap.size,0,none⟩)]:=by
  have:=af.new (w.alloc (.cells #[.slice none 0 0,.slice none 0 0,.slice none 0 0] 95)) 86 #[.pointer (some ⟨w.heap.size,0,none⟩)];rw[show (w.alloc (.cells #[.slice none 0 0,.slice none 0 0,.slice none 0 0] 95)).heap.size=w.heap.size+1 by simp]at this;exact this
 exact⟨rfl,⟨none,0,h2,h1,Nat.le_refl _,World.ownsRow_nil _ _ _ _⟩,am w _ _⟩
theorem qc (B g h n:Nat) (w:World) (hn:n<=1000) (hB:B<=w.heap.size) (hs:SH w B g h n):Calls Tryz.prog 22 #[.pointer (some ⟨g,0,none⟩)] w fun e w'=>e=.returned (.agg (vt n).toArray)/\SH w' B g h (n+1)/\Below B w w':=by
 obtain⟨A,c,h1,h2⟩:=hs;refine (tQ B g h A n c _ _ w (by omega) h1 h2).mono ?_;rintro e w' ⟨A',c',rfl,h3,hk⟩;refine⟨rfl,⟨A',c',hk.blk h1 ?_,?_⟩,hk.below hB ?_⟩
 ·rintro (e|⟨a,ha,e⟩)
  ·subst e;have e1:w.heap[g]?=some (.cells _ 86 (0,0)):=h1;have e2:w.heap[g]?=some (.cells _ 95 (0,0)):=h2.1;rw[e1]at e2;simp at e2
  ·exact iV h1 h2.2.2 (by decide) ⟨a,ha,e⟩
 ·rw[List.replicate_succ',List.flatten_append];simpa using h3
 ·rintro k (rfl|⟨a,ha,rfl⟩)
  ·exact h2.2.1
  ·exact (h2.row_lt ha).2
theorem SH.hs {w:World} {B g h:Nat} (hs:SH w B g h 2):∃ G c,af w g 86 #[.pointer (some ⟨h,0,none⟩)]/\HS w B h G c (.slice none 0 0) (zc++zc) 0 []:=by
 obtain⟨A,c,h1,h2,h3,h4⟩:=hs;obtain⟨G,cap,e⟩:=Joins.ownsRow_form h4 (by omega);cases e;exact⟨G,c,h1,h2,h3,h4,World.ownsRow_nil _ _ _ _⟩
def BJ (w:World) (z:Nat) (W:World):Prop:=SH W w.heap.size (w.heap.size+1) w.heap.size 2/\af W z 27 #[.int .i64 1,.int .i64 0,.string ⟨#[]⟩,.bool false,.slice none 0 0,.slice none 0 0,.slice none 0 0]/\af W (z+1) 27 #[.int .i64 1,.int .i64 1,.string ⟨#[]⟩,.bool false,.slice none 0 0,.slice none 0 0,.slice none 0 0]/\Below w.heap.size w W
theorem BJ.below {w W W':World} {z:Nat} (j:BJ w z W) (hb:Below W.heap.size W W'):BJ w z W':=⟨j.1.below hb,j.2.1.to hb,j.2.2.1.to hb,j.2.2.2.trans (hb.mono j.2.2.2.size)⟩
theorem Af {W:World} {b:Nat} (h:af W b 27 #[.int .i64 1,.int .i64 0,.string ⟨#[]⟩,.bool false,.slice none 0 0,.slice none 0 0,.slice none 0 0,.int .i64 3,.int .i64 0,.string ⟨#[97]⟩,.bool false,.slice none 0 0,.slice none 0 0,.slice none 0 0]):TC W (Tm.mk 5 0 ⟨#[102]⟩ ⟨false,[],[]⟩ [Tm.v 0,Tm.mk 3 0 ⟨#[97]⟩ ⟨false,[],[]⟩ []]) [(Value.int .i64 5),(Value.int .i64 0),(Value.string ⟨#[102]⟩),(Value.bool false),(Value.slice none 0 0),(Value.slice none 0 0),(Value.slice (some ⟨b,0,none⟩) 2 2)]:=
 .mk 5 0 ⟨#[102]⟩ ⟨false,[],[]⟩ [Tm.v 0,(Tm.mk 3 0 ⟨#[97]⟩ ⟨false,[],[]⟩ [])] (.slice none 0 0) (.slice none 0 0) (some ⟨b,0,none⟩) 2 (fun i=>if i=0 then [(Value.int .i64 1),(Value.int .i64 0),(Value.string ⟨#[]⟩),(Value.bool false),(Value.slice none 0 0),(Value.slice none 0 0),(Value.slice none 0 0)] else [(Value.int .i64 3),(Value.int .i64 0),(Value.string ⟨#[97]⟩),(Value.bool false),(Value.slice none 0 0),(Value.slice none 0 0),(Value.slice none 0 0)]) ⟨by decide,by decide⟩ ⟨by decide,by decide⟩ (by decide) (ga W) (ga W) ⟨fY,fY⟩ (Nat.le_refl _) (by decide)
  (fun _=>⟨b,0,rfl,h.lt,fun i hi j hj=>by
   have hi:i<2:=hi;rw[h.cell];have h01:i=0\/i=1:=by omega
   have h07:j=0\/j=1\/j=2\/j=3\/j=4\/j=5\/j=6:=by omega
   rcases h01 with rfl|rfl<;>rcases h07 with rfl|rfl|rfl|rfl|rfl|rfl|rfl<;>rfl⟩)
  (fun i hi=>by
   have hi:i<2:=hi;have:i=0\/i=1:=by omega
   rcases this with rfl|rfl
   ·exact yz W 0 ⟨by decide,by decide⟩
   ·exact .mk 3 0 ⟨#[97]⟩ ⟨false,[],[]⟩ [] (.slice none 0 0) (.slice none 0 0) none 0 (fun _=>[]) ⟨by decide,by decide⟩ ⟨by decide,by decide⟩ (by decide) (ga W) (ga W) ⟨fY,fY⟩ (Nat.le_refl _) (by decide) (fun h=>by simp at h) (fun i h=>by simp at h))
theorem Ag {W:World} {b:Nat} (h:af W b 27 #[.int .i64 1,.int .i64 1,.string ⟨#[]⟩,.bool false,.slice none 0 0,.slice none 0 0,.slice none 0 0,.int .i64 1,.int .i64 0,.string ⟨#[]⟩,.bool false,.slice none 0 0,.slice none 0 0,.slice none 0 0]):TC W (Tm.mk 5 0 ⟨#[102]⟩ ⟨false,[],[]⟩ [Tm.v 1,Tm.v 0]) [(Value.int .i64 5),(Value.int .i64 0),(Value.string ⟨#[102]⟩),(Value.bool false),(Value.slice none 0 0),(Value.slice none 0 0),(Value.slice (some ⟨b,0,none⟩) 2 2)]:=
 .mk 5 0 ⟨#[102]⟩ ⟨false,[],[]⟩ [Tm.v 1,Tm.v 0] (.slice none 0 0) (.slice none 0 0) (some ⟨b,0,none⟩) 2 (fun i=>if i=0 then [(Value.int .i64 1),(Value.int .i64 1),(Value.string ⟨#[]⟩),(Value.bool false),(Value.slice none 0 0),(Value.slice none 0 0),(Value.slice none 0 0)] else [(Value.int .i64 1),(Value.int .i64 0),(Value.string ⟨#[]⟩),(Value.bool false),(Value.slice none 0 0),(Value.slice none 0 0),(Value.slice none 0 0)]) ⟨by decide,by decide⟩ ⟨by decide,by decide⟩ (by decide) (ga W) (ga W) ⟨fY,fY⟩ (Nat.le_refl _) (by decide)
  (fun _=>⟨b,0,rfl,h.lt,fun i hi j hj=>by
   have hi:i<2:=hi;rw[h.cell];have h01:i=0\/i=1:=by omega
   have h07:j=0\/j=1\/j=2\/j=3\/j=4\/j=5\/j=6:=by omega
   rcases h01 with rfl|rfl<;>rcases h07 with rfl|rfl|rfl|rfl|rfl|rfl|rfl<;>rfl⟩)
  (fun i hi=>by
   have hi:i<2:=hi;have:i=0\/i=1:=by omega
   rcases this with rfl|rfl
   ·exact yz W 1 ⟨by decide,by decide⟩
   ·exact yz W 0 ⟨by decide,by decide⟩)
def BP (w:World) (z:Nat) (W:World):Prop:=(∃ (dk dv:Int) (ds:ByteArray) (dn:Bool) (dA:Option Addr) (da dc:Nat) (dB:Option Addr) (dd de:Nat) (dX:Option Addr) (dl dq:Nat) (G c:Nat) (tr:Value) (m:Nat) (ys:List Value),dk≠1/\dk≠5/\TC W (Tm.mk 3 0 ⟨#[97]⟩ ⟨false,[],[]⟩ []) [(Value.int .i64 dk),(Value.int .i64 dv),(Value.string ds),(Value.bool dn),(Value.slice dA da dc),(Value.slice dB dd de),(Value.slice dX dl dq)]/\HS W w.heap.size w.heap.size G c tr (jt dk dv ds dn (.slice dA da dc) (.slice dB dd de) (.slice dX dl dq)) m ys)/\af W (w.heap.size+1) 86 #[.pointer (some ⟨w.heap.size,0,none⟩)]/\af W z 27 #[.int .i64 1,.int .i64 0,.string ⟨#[]⟩,.bool false,.slice none 0 0,.slice none 0 0,.slice none 0 0]/\af W (z+1) 27 #[.int .i64 1,.int .i64 1,.string ⟨#[]⟩,.bool false,.slice none 0 0,.slice none 0 0,.slice none 0 0]/\Below w.heap.size w W
theorem BP.below {w W W':World} {z:Nat} (j:BP w z W) (hb:Below W.heap.size W W'):BP w z W':=by
 obtain⟨⟨dk,dv,ds,dn,dA,da,dc,dB,dd,de,dX,dl,dq,G,c,tr,m,ys,h1,h2,h3,h4⟩,h5,h6,h7,h8⟩:=j;exact⟨⟨dk,dv,ds,dn,dA,da,dc,dB,dd,de,dX,dl,dq,G,c,tr,m,ys,h1,h2,h3.to hb,h4.below hb⟩,h5.to hb,h6.to hb,h7.to hb,h8.trans (hb.mono h8.size)⟩
theorem jZ {w W:World} {z ba bb:Nat} (j:BJ w z W) (ha:af W ba 27 #[.int .i64 1,.int .i64 0,.string ⟨#[]⟩,.bool false,.slice none 0 0,.slice none 0 0,.slice none 0 0,.int .i64 3,.int .i64 0,.string ⟨#[97]⟩,.bool false,.slice none 0 0,.slice none 0 0,.slice none 0 0]) (hb:af W bb 27 #[.int .i64 1,.int .i64 1,.string ⟨#[]⟩,.bool false,.slice none 0 0,.slice none 0 0,.slice none 0 0,.int .i64 1,.int .i64 0,.string ⟨#[]⟩,.bool false,.slice none 0 0,.slice none 0 0,.slice none 0 0]):
 Calls Tryz.prog 23 #[.pointer (some ⟨(w.heap.size+1),0,none⟩),.agg #[.int .i64 5,.int .i64 0,.string ⟨#[102]⟩,.bool false,.slice none 0 0,.slice none 0 0,.slice (some ⟨ba,0,none⟩) 2 2],.agg #[.int .i64 5,.int .i64 0,.string ⟨#[102]⟩,.bool false,.slice none 0 0,.slice none 0 0,.slice (some ⟨bb,0,none⟩) 2 2],.bool false] W fun e w'=>e=.returned (.tuple #[.slice none 0 0,.bool true,.int .i64 0])/\BP w z w':=by
 obtain⟨G,c,hg,hs⟩:=j.1.hs;refine (rK w.heap.size (w.heap.size+1) w.heap.size G c ⟨#[102]⟩ ⟨#[97]⟩ (by decide) (by decide) false none 0 0 none 0 0 (some ⟨ba,0,none⟩) 2 false none 0 0 none 0 0 (some ⟨bb,0,none⟩) 2 W j.2.2.2.size hg hs (Af ha) (Ag hb)).mono ?_;rintro e w' ⟨rfl,⟨dk,dv,ds,dn,dA,da,dc,dB,dd,de,dX,dl,dq,tr,m,ys,h1,h2,h3,h4⟩,h5,h6,h7⟩;exact⟨rfl,⟨dk,dv,ds,dn,dA,da,dc,dB,dd,de,dX,dl,dq,G,c,tr,m,ys,h1,h2,h3,h4⟩,h5,j.2.1.frT h7 (by decide),j.2.2.1.frT h7 (by decide),j.2.2.2.trans h6⟩
theorem tj (w:World):Calls Tryz.prog 7 #[] w fun e w'=>e=.returned (.bool true)/\Below w.heap.size w w':=by
 go_enter Tryz.func7,Tryz.ntmps7;go_wp2_with fail;refine (zk _).mono ?_;rintro e w1 ⟨rfl,hs1,hb1⟩;have HS1:=zH hs1;have HB1:=zH hb1;clear hs1 hb1;go_wp2_with fail;refine (qc w.heap.size (w.heap.size+1) w.heap.size 0 w1 (by omega) HB1.out.size HS1.out).mono ?_;rintro e w2 ⟨rfl,hs2,hb2⟩;have HS2:=zH hs2;have HB2:=zH (HB1.out.trans hb2);clear hs2 hb2 HS1 HB1;unfold vt;go_wp2_with fail;refine (qc w.heap.size (w.heap.size+1) w.heap.size 1 w2 (by omega) HB2.out.size HS2.out).mono ?_;rintro e w3 ⟨rfl,hs3,hb3⟩;have HJ0:Hid (BJ w w3.heap.size ((w3.alloc (.cells #[.int .i64 1,.int .i64 0,.string ⟨#[]⟩,.bool false,.slice none 0 0,.slice none 0 0,.slice none 0 0] 27)).alloc (.cells #[.int .i64 1,.int .i64 1,.string ⟨#[]⟩,.bool false,.slice none 0 0,.slice none 0 0,.slice none 0 0] 27)).drew):=by
  have hb:=am w3 (.cells #[.int .i64 1,.int .i64 0,.string ⟨#[]⟩,.bool false,.slice none 0 0,.slice none 0 0,.slice none 0 0] 27) (.cells #[.int .i64 1,.int .i64 1,.string ⟨#[]⟩,.bool false,.slice none 0 0,.slice none 0 0,.slice none 0 0] 27);have h2:af ((w3.alloc (.cells #[.int .i64 1,.int .i64 0,.string ⟨#[]⟩,.bool false,.slice none 0 0,.slice none 0 0,.slice none 0 0] 27)).alloc (.cells #[.int .i64 1,.int .i64 1,.string ⟨#[]⟩,.bool false,.slice none 0 0,.slice none 0 0,.slice none 0 0] 27)).drew (w3.heap.size+1) 27 #[.int .i64 1,.int .i64 1,.string ⟨#[]⟩,.bool false,.slice none 0 0,.slice none 0 0,.slice none 0 0]:=by
   have:=(af.new (w3.alloc (.cells #[.int .i64 1,.int .i64 0,.string ⟨#[]⟩,.bool false,.slice none 0 0,.slice none 0 0,.slice none 0 0] 27)) 27 #[.int .i64 1,.int .i64 1,.string ⟨#[]⟩,.bool false,.slice none 0 0,.slice none 0 0,.slice none 0 0]).drew;rw[show (w3.alloc (.cells #[.int .i64 1,.int .i64 0,.string ⟨#[]⟩,.bool false,.slice none 0 0,.slice none 0 0,.slice none 0 0] 27)).heap.size=w3.heap.size+1 by simp]at this;exact this
  exact⟨hs3.below hb.drew,((af.new w3 _ _).alloc _).drew,h2,(HB2.out.trans hb3).trans (hb.drew.mono (HB2.out.trans hb3).size)⟩
 clear hs3 hb3 HS2 HB2;unfold vt;go_wp2_with fail;generalize w3.heap.size=z at HJ0 ⊢;have HSS:Hid (∀ W,BJ w z W->W.cell? ⟨z,0,none⟩=some (.int .i64 1)/\W.cell? ⟨z,1,none⟩=some (.int .i64 0)/\W.cell? ⟨z,2,none⟩=some (.string ⟨#[]⟩)/\W.cell? ⟨z,3,none⟩=some (.bool false)/\W.cell? ⟨z,4,none⟩=some (.slice none 0 0)/\W.cell? ⟨z,5,none⟩=some (.slice none 0 0)/\W.cell? ⟨z,6,none⟩=some (.slice none 0 0)/\W.cell? ⟨z+1,0,none⟩=some (.int .i64 1)/\W.cell? ⟨z+1,1,none⟩=some (.int .i64 1)/\W.cell? ⟨z+1,2,none⟩=some (.string ⟨#[]⟩)/\W.cell? ⟨z+1,3,none⟩=some (.bool false)/\W.cell? ⟨z+1,4,none⟩=some (.slice none 0 0)/\W.cell? ⟨z+1,5,none⟩=some (.slice none 0 0)/\W.cell? ⟨z+1,6,none⟩=some (.slice none 0 0)):=fun W j=>⟨j.2.1.cell 0,j.2.1.cell 1,j.2.1.cell 2,j.2.1.cell 3,j.2.1.cell 4,j.2.1.cell 5,j.2.1.cell 6,j.2.2.1.cell 0,j.2.2.1.cell 1,j.2.2.1.cell 2,j.2.2.1.cell 3,j.2.2.1.cell 4,j.2.2.1.cell 5,j.2.2.1.cell 6⟩;have HSP:Hid (∀ W,BP w z W->W.cell? ⟨z,0,none⟩=some (.int .i64 1)/\W.cell? ⟨z,1,none⟩=some (.int .i64 0)/\W.cell? ⟨z,2,none⟩=some (.string ⟨#[]⟩)/\W.cell? ⟨z,3,none⟩=some (.bool false)/\W.cell? ⟨z,4,none⟩=some (.slice none 0 0)/\W.cell? ⟨z,5,none⟩=some (.slice none 0 0)/\W.cell? ⟨z,6,none⟩=some (.slice none 0 0)/\W.cell? ⟨z+1,0,none⟩=some (.int .i64 1)/\W.cell? ⟨z+1,1,none⟩=some (.int .i64 1)/\W.cell? ⟨z+1,2,none⟩=some (.string ⟨#[]⟩)/\W.cell? ⟨z+1,3,none⟩=some (.bool false)/\W.cell? ⟨z+1,4,none⟩=some (.slice none 0 0)/\W.cell? ⟨z+1,5,none⟩=some (.slice none 0 0)/\W.cell? ⟨z+1,6,none⟩=some (.slice none 0 0)):=fun W j=>⟨j.2.2.1.cell 0,j.2.2.1.cell 1,j.2.2.1.cell 2,j.2.2.1.cell 3,j.2.2.1.cell 4,j.2.2.1.cell 5,j.2.2.1.cell 6,j.2.2.2.1.cell 0,j.2.2.2.1.cell 1,j.2.2.2.1.cell 2,j.2.2.2.1.cell 3,j.2.2.2.1.cell 4,j.2.2.2.1.cell 5,j.2.2.2.1.cell 6⟩;refine wp_region_held_drew (S:=fun W=>W.cell? ⟨z,0,none⟩=some (.int .i64 1)/\W.cell? ⟨z,1,none⟩=some (.int .i64 0)/\W.cell? ⟨z,2,none⟩=some (.string ⟨#[]⟩)/\W.cell? ⟨z,3,none⟩=some (.bool false)/\W.cell? ⟨z,4,none⟩=some (.slice none 0 0)/\W.cell? ⟨z,5,none⟩=some (.slice none 0 0)/\W.cell? ⟨z,6,none⟩=some (.slice none 0 0)/\W.cell? ⟨z+1,0,none⟩=some (.int .i64 1)/\W.cell? ⟨z+1,1,none⟩=some (.int .i64 1)/\W.cell? ⟨z+1,2,none⟩=some (.string ⟨#[]⟩)/\W.cell? ⟨z+1,3,none⟩=some (.bool false)/\W.cell? ⟨z+1,4,none⟩=some (.slice none 0 0)/\W.cell? ⟨z+1,5,none⟩=some (.slice none 0 0)/\W.cell? ⟨z+1,6,none⟩=some (.slice none 0 0)) (by kernel_rfl) (HSS.out _ HJ0.out) (fun hHeld=>?_);generalize World.drew _=y0 at HJ0 hHeld ⊢
 (refine zT 0 ?_;try simp only[Act.put,L1,L2])
 (refine zT 1 ?_;try simp only[Act.put,L1,L2])
 (refine zT 2 ?_;try simp only[Act.put,L1,L2])
 (refine zT 5 ?_;try simp only[Act.put,L1,L2])
 (refine zT 6 ?_;try simp only[Act.put,L1,L2])
 (refine wpAnyH_ready (rs:=[3,7]) (by kernel_rfl) (by simp) ?_;refine AllReadyH.cons rfl (fun K hK=>?_) (AllReadyH.cons rfl (fun K hK=>?_) AllReadyH.nil))
 ·go_simp;have HJ1:=zH (HJ0.out.below (I y0 (.cells #[.int .i64 1,.int .i64 0,.string ⟨#[]⟩,.bool false,.slice none 0 0,.slice none 0 0,.slice none 0 0,.int .i64 3,.int .i64 0,.string ⟨#[97]⟩,.bool false,.slice none 0 0,.slice none 0 0,.slice none 0 0] 27)));have HA1:=zH (af.new y0 27 #[.int .i64 1,.int .i64 0,.string ⟨#[]⟩,.bool false,.slice none 0 0,.slice none 0 0,.slice none 0 0,.int .i64 3,.int .i64 0,.string ⟨#[97]⟩,.bool false,.slice none 0 0,.slice none 0 0,.slice none 0 0]);refine hK.out _ _ (HSS.out _ HJ1.out) (fun hHeld=>?_);clear hK K
  (try simp only[Act.put,L1,L2])
  (refine wpAnyH_ready (rs:=[4,7]) (by kernel_rfl) (by simp) ?_;refine AllReadyH.cons rfl (fun K hK=>?_) (AllReadyH.cons rfl (fun K hK=>?_) AllReadyH.nil))
  ·go_simp;refine (eR ⟨#[102]⟩ _ 2 2 _).mono ?_;rintro e y4 ⟨rfl,hbb⟩;have HJ2:=zH (HJ1.out.below hbb);have HA2:=zH (HA1.out.to hbb);clear hbb;refine hK.out _ _ (HSS.out _ HJ2.out) (fun hHeld=>?_);clear hK K
   (try simp only[Act.put,L1,L2])
   (refine zR 7 fun K hK=>?_)
   go_simp;have HJ3:=zH (HJ2.out.below (I y4 (.cells #[.int .i64 1,.int .i64 1,.string ⟨#[]⟩,.bool false,.slice none 0 0,.slice none 0 0,.slice none 0 0,.int .i64 1,.int .i64 0,.string ⟨#[]⟩,.bool false,.slice none 0 0,.slice none 0 0,.slice none 0 0] 27)));have HA3:=zH (HA2.out.alloc (.cells #[.int .i64 1,.int .i64 1,.string ⟨#[]⟩,.bool false,.slice none 0 0,.slice none 0 0,.slice none 0 0,.int .i64 1,.int .i64 0,.string ⟨#[]⟩,.bool false,.slice none 0 0,.slice none 0 0,.slice none 0 0] 27));have HQ3:=zH (af.new y4 27 #[.int .i64 1,.int .i64 1,.string ⟨#[]⟩,.bool false,.slice none 0 0,.slice none 0 0,.slice none 0 0,.int .i64 1,.int .i64 0,.string ⟨#[]⟩,.bool false,.slice none 0 0,.slice none 0 0,.slice none 0 0]);refine hK.out _ _ (HSS.out _ HJ3.out) (fun hHeld=>?_);clear hK K
   (try simp only[Act.put,L1,L2])
   (refine zR 8 fun K hK=>?_)
   go_simp;refine (eR ⟨#[102]⟩ _ 2 2 _).mono ?_;rintro e y5 ⟨rfl,hbb⟩;have HJ4:=zH (HJ3.out.below hbb);have HA4:=zH (HA3.out.to hbb);have HQ4:=zH (HQ3.out.to hbb);clear hbb;refine hK.out _ _ (HSS.out _ HJ4.out) (fun hHeld=>?_);clear hK K
   (try simp only[Act.put,L1,L2])
   (refine zR 9 fun K hK=>?_)
   go_simp
   with_reducible refine (jZ HJ4.out HA4.out HQ4.out).mono ?_
   rintro e y9 ⟨rfl,hp9⟩;have HP:=zH hp9;clear hp9;refine hK.out _ _ (HSP.out _ HP.out) (fun hHeld=>?_);clear hK K
   (try simp only[Act.put,L1,L2])
   (refine zT 10 ?_;try simp only[Act.put,L1,L2])
   (refine zT 11 ?_;try simp only[Act.put,L1,L2])
   (refine zT 12 ?_;try simp only[Act.put,L1,L2])
   (refine zT 13 ?_;try simp only[Act.put,L1,L2])
   (refine zT 14 ?_;try simp only[Act.put,L1,L2])
   (refine zT 15 ?_;try simp only[Act.put,L1,L2])
   (refine zT 16 ?_;try simp only[Act.put,L1,L2])
   (refine wpAnyH_done (by kernel_rfl) ?_ _)
   clear hHeld HSS HSP;have HRS:Hid (Calls Tryz.prog 25 #[.pointer (some ⟨(w.heap.size+1),0,none⟩),.agg #[.int .i64 1,.int .i64 1,.string ⟨#[]⟩,.bool false,.slice none 0 0,.slice none 0 0,.slice none 0 0]] y9 fun e w1=>∃ (tn:Bool) (tA:Option Addr) (ta tc:Nat) (tB:Option Addr) (td te:Nat) (tX:Option Addr) (tl tq:Nat),e=.returned (.tuple #[.agg #[.int .i64 3,.int .i64 0,.string ⟨#[97]⟩,.bool tn,.slice tA ta tc,.slice tB td te,.slice tX tl tq],.int .i64 0])/\Hid (BP w z w1)):=by
    obtain⟨⟨dk,dv,ds,dn,dA,da,dc,dB,dd,de,dX,dl,dq,G,c,tr,m,ys,h1,h2,h3,h4⟩,h5,h6,h7,h8⟩:=HP.out;refine (fZ w.heap.size _ w.heap.size G c m tr ys dk dv ds dn dA da dc dB dd de dX dl dq h1 h2 3 0 ⟨#[97]⟩ ⟨false,[],[]⟩ [] y9 h5 h4 h3 (by simp[Tm.sm,sQ])).mono ?_;rintro e w1 ⟨⟨tn,tA,ta,tc,tB,td,te,tX,tl,tq,rfl⟩,hb⟩;exact⟨tn,tA,ta,tc,tB,td,te,tX,tl,tq,rfl,HP.out.below hb⟩
   obtain⟨u0,u1,u2,u3,u4,u5,u6⟩:=HP.out.2.2.2.1.s7;go_wp2_with fail;refine HRS.out.mono ?_;rintro e y10 ⟨tn,tA,ta,tc,tB,td,te,tX,tl,tq,rfl,HP2⟩;clear HRS u0 u1 u2 u3 u4 u5 u6;go_wp2_with fail;have HCN:Hid (Calls Tryz.prog 26 #[.pointer (some ⟨(w.heap.size+1),0,none⟩)] (y10.alloc (.cells #[.int .i64 3,.int .i64 0,.string ⟨#[97]⟩,.bool tn,.slice tA ta tc,.slice tB td te,.slice tX tl tq] 27)) fun e w1=>e=.returned (.int .i64 2)/\Hid (Below w.heap.size w w1)):=by
    obtain⟨⟨dk,dv,ds,dn,dA,da,dc,dB,dd,de,dX,dl,dq,G,c,tr,m,ys,h1,h2,h3,h4⟩,h5,h6,h7,h8⟩:=HP2.out.below (I y10 (.cells #[.int .i64 3,.int .i64 0,.string ⟨#[97]⟩,.bool tn,.slice tA ta tc,.slice tB td te,.slice tX tl tq] 27));obtain⟨At,nt,ct,rfl⟩:∃ A n c,tr=.slice A n c:=by
     rcases h4.trail.2 with ⟨h,_⟩|⟨g,cap,_,h,_⟩
     ·exact⟨_,_,_,h⟩
     ·exact⟨_,_,_,h⟩
    refine (iJ _ _ _ _ _ 2 c nt ct 0 0 _ h5 h4.blk).mono ?_;rintro e w1 ⟨rfl,rfl⟩;exact⟨rfl,h8⟩
   refine HCN.out.mono ?_;rintro e y11 ⟨rfl,HBW⟩;clear HCN HP2 HP;go_wp2_with fail;go_ret;exact⟨rfl,HBW.out⟩
  ·go_simp;have HJ2:=zH (HJ1.out.below (I (y0.alloc (.cells #[.int .i64 1,.int .i64 0,.string ⟨#[]⟩,.bool false,.slice none 0 0,.slice none 0 0,.slice none 0 0,.int .i64 3,.int .i64 0,.string ⟨#[97]⟩,.bool false,.slice none 0 0,.slice none 0 0,.slice none 0 0] 27)) (.cells #[.int .i64 1,.int .i64 1,.string ⟨#[]⟩,.bool false,.slice none 0 0,.slice none 0 0,.slice none 0 0,.int .i64 1,.int .i64 0,.string ⟨#[]⟩,.bool false,.slice none 0 0,.slice none 0 0,.slice none 0 0] 27)));have HA2:=zH (HA1.out.alloc (.cells #[.int .i64 1,.int .i64 1,.string ⟨#[]⟩,.bool false,.slice none 0 0,.slice none 0 0,.slice none 0 0,.int .i64 1,.int .i64 0,.string ⟨#[]⟩,.bool false,.slice none 0 0,.slice none 0 0,.slice none 0 0] 27));have hnb:=af.new (y0.alloc (.cells #[.int .i64 1,.int .i64 0,.string ⟨#[]⟩,.bool false,.slice none 0 0,.slice none 0 0,.slice none 0 0,.int .i64 3,.int .i64 0,.string ⟨#[97]⟩,.bool false,.slice none 0 0,.slice none 0 0,.slice none 0 0] 27)) 27 #[.int .i64 1,.int .i64 1,.string ⟨#[]⟩,.bool false,.slice none 0 0,.slice none 0 0,.slice none 0 0,.int .i64 1,.int .i64 0,.string ⟨#[]⟩,.bool false,.slice none 0 0,.slice none 0 0,.slice none 0 0];rw[show (y0.alloc (.cells #[.int .i64 1,.int .i64 0,.string ⟨#[]⟩,.bool false,.slice none 0 0,.slice none 0 0,.slice none 0 0,.int .i64 3,.int .i64 0,.string ⟨#[97]⟩,.bool false,.slice none 0 0,.slice none 0 0,.slice none 0 0] 27)).heap.size=y0.heap.size+1 by simp]at hnb;have HQ2:=zH hnb;clear hnb;refine hK.out _ _ (HSS.out _ HJ2.out) (fun hHeld=>?_);clear hK K
   (try simp only[Act.put,L1,L2])
   (refine zR 4 fun K hK=>?_)
   go_simp;refine (eR ⟨#[102]⟩ _ 2 2 _).mono ?_;rintro e y4 ⟨rfl,hbb⟩;have HJ3:=zH (HJ2.out.below hbb);have HA3:=zH (HA2.out.to hbb);have HQ3:=zH (HQ2.out.to hbb);clear hbb;refine hK.out _ _ (HSS.out _ HJ3.out) (fun hHeld=>?_);clear hK K
   (try simp only[Act.put,L1,L2])
   (refine zR 8 fun K hK=>?_)
   go_simp;refine (eR ⟨#[102]⟩ _ 2 2 _).mono ?_;rintro e y5 ⟨rfl,hbb⟩;have HJ4:=zH (HJ3.out.below hbb);have HA4:=zH (HA3.out.to hbb);have HQ4:=zH (HQ3.out.to hbb);clear hbb;refine hK.out _ _ (HSS.out _ HJ4.out) (fun hHeld=>?_);clear hK K
   (try simp only[Act.put,L1,L2])
   (refine zR 9 fun K hK=>?_)
   go_simp
   with_reducible refine (jZ HJ4.out HA4.out HQ4.out).mono ?_
   rintro e y9 ⟨rfl,hp9⟩;have HP:=zH hp9;clear hp9;refine hK.out _ _ (HSP.out _ HP.out) (fun hHeld=>?_);clear hK K
   (try simp only[Act.put,L1,L2])
   (refine zT 10 ?_;try simp only[Act.put,L1,L2])
   (refine zT 11 ?_;try simp only[Act.put,L1,L2])
   (refine zT 12 ?_;try simp only[Act.put,L1,L2])
   (refine zT 13 ?_;try simp only[Act.put,L1,L2])
   (refine zT 14 ?_;try simp only[Act.put,L1,L2])
   (refine zT 15 ?_;try simp only[Act.put,L1,L2])
   (refine zT 16 ?_;try simp only[Act.put,L1,L2])
   (refine wpAnyH_done (by kernel_rfl) ?_ _)
   clear hHeld HSS HSP;have HRS:Hid (Calls Tryz.prog 25 #[.pointer (some ⟨(w.heap.size+1),0,none⟩),.agg #[.int .i64 1,.int .i64 1,.string ⟨#[]⟩,.bool false,.slice none 0 0,.slice none 0 0,.slice none 0 0]] y9 fun e w1=>∃ (tn:Bool) (tA:Option Addr) (ta tc:Nat) (tB:Option Addr) (td te:Nat) (tX:Option Addr) (tl tq:Nat),e=.returned (.tuple #[.agg #[.int .i64 3,.int .i64 0,.string ⟨#[97]⟩,.bool tn,.slice tA ta tc,.slice tB td te,.slice tX tl tq],.int .i64 0])/\Hid (BP w z w1)):=by
    obtain⟨⟨dk,dv,ds,dn,dA,da,dc,dB,dd,de,dX,dl,dq,G,c,tr,m,ys,h1,h2,h3,h4⟩,h5,h6,h7,h8⟩:=HP.out;refine (fZ w.heap.size _ w.heap.size G c m tr ys dk dv ds dn dA da dc dB dd de dX dl dq h1 h2 3 0 ⟨#[97]⟩ ⟨false,[],[]⟩ [] y9 h5 h4 h3 (by simp[Tm.sm,sQ])).mono ?_;rintro e w1 ⟨⟨tn,tA,ta,tc,tB,td,te,tX,tl,tq,rfl⟩,hb⟩;exact⟨tn,tA,ta,tc,tB,td,te,tX,tl,tq,rfl,HP.out.below hb⟩
   obtain⟨u0,u1,u2,u3,u4,u5,u6⟩:=HP.out.2.2.2.1.s7;go_wp2_with fail;refine HRS.out.mono ?_;rintro e y10 ⟨tn,tA,ta,tc,tB,td,te,tX,tl,tq,rfl,HP2⟩;clear HRS u0 u1 u2 u3 u4 u5 u6;go_wp2_with fail;have HCN:Hid (Calls Tryz.prog 26 #[.pointer (some ⟨(w.heap.size+1),0,none⟩)] (y10.alloc (.cells #[.int .i64 3,.int .i64 0,.string ⟨#[97]⟩,.bool tn,.slice tA ta tc,.slice tB td te,.slice tX tl tq] 27)) fun e w1=>e=.returned (.int .i64 2)/\Hid (Below w.heap.size w w1)):=by
    obtain⟨⟨dk,dv,ds,dn,dA,da,dc,dB,dd,de,dX,dl,dq,G,c,tr,m,ys,h1,h2,h3,h4⟩,h5,h6,h7,h8⟩:=HP2.out.below (I y10 (.cells #[.int .i64 3,.int .i64 0,.string ⟨#[97]⟩,.bool tn,.slice tA ta tc,.slice tB td te,.slice tX tl tq] 27));obtain⟨At,nt,ct,rfl⟩:∃ A n c,tr=.slice A n c:=by
     rcases h4.trail.2 with ⟨h,_⟩|⟨g,cap,_,h,_⟩
     ·exact⟨_,_,_,h⟩
     ·exact⟨_,_,_,h⟩
    refine (iJ _ _ _ _ _ 2 c nt ct 0 0 _ h5 h4.blk).mono ?_;rintro e w1 ⟨rfl,rfl⟩;exact⟨rfl,h8⟩
   refine HCN.out.mono ?_;rintro e y11 ⟨rfl,HBW⟩;clear HCN HP2 HP;go_wp2_with fail;go_ret;exact⟨rfl,HBW.out⟩
 ·go_simp;have HJ1:=zH (HJ0.out.below (I y0 (.cells #[.int .i64 1,.int .i64 1,.string ⟨#[]⟩,.bool false,.slice none 0 0,.slice none 0 0,.slice none 0 0,.int .i64 1,.int .i64 0,.string ⟨#[]⟩,.bool false,.slice none 0 0,.slice none 0 0,.slice none 0 0] 27)));have HQ1:=zH (af.new y0 27 #[.int .i64 1,.int .i64 1,.string ⟨#[]⟩,.bool false,.slice none 0 0,.slice none 0 0,.slice none 0 0,.int .i64 1,.int .i64 0,.string ⟨#[]⟩,.bool false,.slice none 0 0,.slice none 0 0,.slice none 0 0]);refine hK.out _ _ (HSS.out _ HJ1.out) (fun hHeld=>?_);clear hK K
  (try simp only[Act.put,L1,L2])
  (refine zR 3 fun K hK=>?_)
  go_simp;have HJ2:=zH (HJ1.out.below (I (y0.alloc (.cells #[.int .i64 1,.int .i64 1,.string ⟨#[]⟩,.bool false,.slice none 0 0,.slice none 0 0,.slice none 0 0,.int .i64 1,.int .i64 0,.string ⟨#[]⟩,.bool false,.slice none 0 0,.slice none 0 0,.slice none 0 0] 27)) (.cells #[.int .i64 1,.int .i64 0,.string ⟨#[]⟩,.bool false,.slice none 0 0,.slice none 0 0,.slice none 0 0,.int .i64 3,.int .i64 0,.string ⟨#[97]⟩,.bool false,.slice none 0 0,.slice none 0 0,.slice none 0 0] 27)));have HQ2:=zH (HQ1.out.alloc (.cells #[.int .i64 1,.int .i64 0,.string ⟨#[]⟩,.bool false,.slice none 0 0,.slice none 0 0,.slice none 0 0,.int .i64 3,.int .i64 0,.string ⟨#[97]⟩,.bool false,.slice none 0 0,.slice none 0 0,.slice none 0 0] 27));have hnb:=af.new (y0.alloc (.cells #[.int .i64 1,.int .i64 1,.string ⟨#[]⟩,.bool false,.slice none 0 0,.slice none 0 0,.slice none 0 0,.int .i64 1,.int .i64 0,.string ⟨#[]⟩,.bool false,.slice none 0 0,.slice none 0 0,.slice none 0 0] 27)) 27 #[.int .i64 1,.int .i64 0,.string ⟨#[]⟩,.bool false,.slice none 0 0,.slice none 0 0,.slice none 0 0,.int .i64 3,.int .i64 0,.string ⟨#[97]⟩,.bool false,.slice none 0 0,.slice none 0 0,.slice none 0 0];rw[show (y0.alloc (.cells #[.int .i64 1,.int .i64 1,.string ⟨#[]⟩,.bool false,.slice none 0 0,.slice none 0 0,.slice none 0 0,.int .i64 1,.int .i64 0,.string ⟨#[]⟩,.bool false,.slice none 0 0,.slice none 0 0,.slice none 0 0] 27)).heap.size=y0.heap.size+1 by simp]at hnb;have HA2:=zH hnb;clear hnb;refine hK.out _ _ (HSS.out _ HJ2.out) (fun hHeld=>?_);clear hK K
  (try simp only[Act.put,L1,L2])
  (refine zR 4 fun K hK=>?_)
  go_simp;refine (eR ⟨#[102]⟩ _ 2 2 _).mono ?_;rintro e y4 ⟨rfl,hbb⟩;have HJ3:=zH (HJ2.out.below hbb);have HA3:=zH (HA2.out.to hbb);have HQ3:=zH (HQ2.out.to hbb);clear hbb;refine hK.out _ _ (HSS.out _ HJ3.out) (fun hHeld=>?_);clear hK K
  (try simp only[Act.put,L1,L2])
  (refine zR 8 fun K hK=>?_)
  go_simp;refine (eR ⟨#[102]⟩ _ 2 2 _).mono ?_;rintro e y5 ⟨rfl,hbb⟩;have HJ4:=zH (HJ3.out.below hbb);have HA4:=zH (HA3.out.to hbb);have HQ4:=zH (HQ3.out.to hbb);clear hbb;refine hK.out _ _ (HSS.out _ HJ4.out) (fun hHeld=>?_);clear hK K
  (try simp only[Act.put,L1,L2])
  (refine zR 9 fun K hK=>?_)
  go_simp
  with_reducible refine (jZ HJ4.out HA4.out HQ4.out).mono ?_
  rintro e y9 ⟨rfl,hp9⟩;have HP:=zH hp9;clear hp9;refine hK.out _ _ (HSP.out _ HP.out) (fun hHeld=>?_);clear hK K
  (try simp only[Act.put,L1,L2])
  (refine zT 10 ?_;try simp only[Act.put,L1,L2])
  (refine zT 11 ?_;try simp only[Act.put,L1,L2])
  (refine zT 12 ?_;try simp only[Act.put,L1,L2])
  (refine zT 13 ?_;try simp only[Act.put,L1,L2])
  (refine zT 14 ?_;try simp only[Act.put,L1,L2])
  (refine zT 15 ?_;try simp only[Act.put,L1,L2])
  (refine zT 16 ?_;try simp only[Act.put,L1,L2])
  (refine wpAnyH_done (by kernel_rfl) ?_ _)
  clear hHeld HSS HSP;have HRS:Hid (Calls Tryz.prog 25 #[.pointer (some ⟨(w.heap.size+1),0,none⟩),.agg #[.int .i64 1,.int .i64 1,.string ⟨#[]⟩,.bool false,.slice none 0 0,.slice none 0 0,.slice none 0 0]] y9 fun e w1=>∃ (tn:Bool) (tA:Option Addr) (ta tc:Nat) (tB:Option Addr) (td te:Nat) (tX:Option Addr) (tl tq:Nat),e=.returned (.tuple #[.agg #[.int .i64 3,.int .i64 0,.string ⟨#[97]⟩,.bool tn,.slice tA ta tc,.slice tB td te,.slice tX tl tq],.int .i64 0])/\Hid (BP w z w1)):=by
   obtain⟨⟨dk,dv,ds,dn,dA,da,dc,dB,dd,de,dX,dl,dq,G,c,tr,m,ys,h1,h2,h3,h4⟩,h5,h6,h7,h8⟩:=HP.out;refine (fZ w.heap.size _ w.heap.size G c m tr ys dk dv ds dn dA da dc dB dd de dX dl dq h1 h2 3 0 ⟨#[97]⟩ ⟨false,[],[]⟩ [] y9 h5 h4 h3 (by simp[Tm.sm,sQ])).mono ?_;rintro e w1 ⟨⟨tn,tA,ta,tc,tB,td,te,tX,tl,tq,rfl⟩,hb⟩;exact⟨tn,tA,ta,tc,tB,td,te,tX,tl,tq,rfl,HP.out.below hb⟩
  obtain⟨u0,u1,u2,u3,u4,u5,u6⟩:=HP.out.2.2.2.1.s7;go_wp2_with fail;refine HRS.out.mono ?_;rintro e y10 ⟨tn,tA,ta,tc,tB,td,te,tX,tl,tq,rfl,HP2⟩;clear HRS u0 u1 u2 u3 u4 u5 u6;go_wp2_with fail;have HCN:Hid (Calls Tryz.prog 26 #[.pointer (some ⟨(w.heap.size+1),0,none⟩)] (y10.alloc (.cells #[.int .i64 3,.int .i64 0,.string ⟨#[97]⟩,.bool tn,.slice tA ta tc,.slice tB td te,.slice tX tl tq] 27)) fun e w1=>e=.returned (.int .i64 2)/\Hid (Below w.heap.size w w1)):=by
   obtain⟨⟨dk,dv,ds,dn,dA,da,dc,dB,dd,de,dX,dl,dq,G,c,tr,m,ys,h1,h2,h3,h4⟩,h5,h6,h7,h8⟩:=HP2.out.below (I y10 (.cells #[.int .i64 3,.int .i64 0,.string ⟨#[97]⟩,.bool tn,.slice tA ta tc,.slice tB td te,.slice tX tl tq] 27));obtain⟨At,nt,ct,rfl⟩:∃ A n c,tr=.slice A n c:=by
    rcases h4.trail.2 with ⟨h,_⟩|⟨g,cap,_,h,_⟩
    ·exact⟨_,_,_,h⟩
    ·exact⟨_,_,_,h⟩
   refine (iJ _ _ _ _ _ 2 c nt ct 0 0 _ h5 h4.blk).mono ?_;rintro e w1 ⟨rfl,rfl⟩;exact⟨rfl,h8⟩
  refine HCN.out.mono ?_;rintro e y11 ⟨rfl,HBW⟩;clear HCN HP2 HP;go_wp2_with fail;go_ret;exact⟨rfl,HBW.out⟩
end Go.Proofs.YtlhojoefhannnaaGreat
namespace Go.Proofs
open Go.Shelf
def Tryz.sortI_ren:Go.Shelf.Ren:=⟨fun|5=>55|8=>81|7=>80|19=>110|20=>111|10=>101|11=>102|12=>103|13=>104|14=>105|15=>106|16=>107|17=>108|18=>109|30=>138|31=>139|32=>140|33=>141|34=>142|35=>47|40=>159|n=>n,fun|23=>54|25=>3|3=>3|32=>79|22=>54|0=>0|44=>82|46=>141|4=>4|36=>151|35=>150|41=>43|5=>5|9=>9|53=>179|57=>183|63=>204|64=>205|n=>n,fun|n=>n⟩
theorem Tryz.sortI:Go.Proofs.SlLaysM.n5 Tryz.prog Tryz.sortI_ren:={
 mixed:=by kernel_rfl
 f5:=⟨Tryz.f55.name,by decide,Tryz.func55.trans (congrArg some (by kernel_rfl))⟩
 f7:=⟨Tryz.f80.name,by decide,Tryz.func80.trans (congrArg some (by kernel_rfl))⟩
 f8:=Tryz.func81.trans (congrArg some (by kernel_rfl))
 f10:=⟨Tryz.f101.name,by decide,Tryz.func101.trans (congrArg some (by kernel_rfl))⟩
 f11:=⟨Tryz.f102.name,by decide,Tryz.func102.trans (congrArg some (by kernel_rfl))⟩
 f12:=⟨Tryz.f103.name,by decide,Tryz.func103.trans (congrArg some (by kernel_rfl))⟩
 f13:=⟨Tryz.f104.name,by decide,Tryz.func104.trans (congrArg some (by kernel_rfl))⟩
 f14:=⟨Tryz.f105.name,by decide,Tryz.func105.trans (congrArg some (by kernel_rfl))⟩
 f15:=⟨Tryz.f106.name,by decide,Tryz.func106.trans (congrArg some (by kernel_rfl))⟩
 f16:=⟨Tryz.f107.name,by decide,Tryz.func107.trans (congrArg some (by kernel_rfl))⟩
 f17:=⟨Tryz.f108.name,by decide,Tryz.func108.trans (congrArg some (by kernel_rfl))⟩
 f18:=⟨Tryz.f109.name,by decide,Tryz.func109.trans (congrArg some (by kernel_rfl))⟩
 f19:=Tryz.func110.trans (congrArg some (by kernel_rfl))
 f20:=Tryz.func111.trans (congrArg some (by kernel_rfl))
 f30:=⟨Tryz.f138.name,by decide,Tryz.func138.trans (congrArg some (by kernel_rfl))⟩
 f31:=Tryz.func139.trans (congrArg some (by kernel_rfl))
 f32:=Tryz.func140.trans (congrArg some (by kernel_rfl))
 f33:=⟨Tryz.f141.name,by decide,Tryz.func141.trans (congrArg some (by kernel_rfl))⟩
 f34:=⟨Tryz.f142.name,by decide,Tryz.func142.trans (congrArg some (by kernel_rfl))⟩
 f35:=⟨Tryz.f47.name,by decide,Tryz.func47.trans (congrArg some (by kernel_rfl))⟩
 f40:=⟨Tryz.f159.name,by decide,Tryz.func159.trans (congrArg some (by kernel_rfl))⟩
 t0:=Tryz.underlying0
 a0:=Tryz.isAgg0
 z0:=Tryz.sizeOf0
 v0:=Tryz.zeroValue0
 t3:=Tryz.underlying3
 a3:=Tryz.isAgg3
 z3:=Tryz.sizeOf3
 v3:=Tryz.zeroValue3
 t4:=Tryz.underlying4
 a4:=Tryz.isAgg4
 z4:=Tryz.sizeOf4
 v4:=Tryz.zeroValue4
 t5:=Tryz.underlying5
 a5:=Tryz.isAgg5
 z5:=Tryz.sizeOf5
 v5:=Tryz.zeroValue5
 t9:=Tryz.underlying9
 a9:=Tryz.isAgg9
 z9:=Tryz.sizeOf9
 v9:=Tryz.zeroValue9
 t22:=Tryz.underlying54
 a22:=Tryz.isAgg54
 z22:=Tryz.sizeOf54
 v22:=Tryz.zeroValue54
 t23:=Tryz.underlying54
 a23:=Tryz.isAgg54
 z23:=Tryz.sizeOf54
 v23:=Tryz.zeroValue54
 t25:=Tryz.underlying3
 a25:=Tryz.isAgg3
 z25:=Tryz.sizeOf3
 v25:=Tryz.zeroValue3
 t32:=Tryz.underlying79
 a32:=Tryz.isAgg79
 z32:=Tryz.sizeOf79
 v32:=Tryz.zeroValue79
 t35:=Tryz.underlying150
 a35:=Tryz.isAgg150
 z35:=Tryz.sizeOf150
 v35:=Tryz.zeroValue150
 t36:=Tryz.underlying151
 a36:=Tryz.isAgg151
 z36:=Tryz.sizeOf151
 v36:=Tryz.zeroValue151
 t41:=Tryz.underlying43
 a41:=Tryz.isAgg43
 z41:=Tryz.sizeOf43
 v41:=Tryz.zeroValue43
 t44:=Tryz.underlying82
 a44:=Tryz.isAgg82
 z44:=Tryz.sizeOf82
 v44:=Tryz.zeroValue82
 t46:=Tryz.underlying141
 a46:=Tryz.isAgg141
 z46:=Tryz.sizeOf141
 v46:=Tryz.zeroValue141
 t53:=Tryz.underlying179
 a53:=Tryz.isAgg179
 z53:=Tryz.sizeOf179
 v53:=Tryz.zeroValue179
 t57:=Tryz.underlying183
 a57:=Tryz.isAgg183
 z57:=Tryz.sizeOf183
 v57:=Tryz.zeroValue183
 t63:=Tryz.underlying204
 a63:=Tryz.isAgg204
 z63:=Tryz.sizeOf204
 v63:=Tryz.zeroValue204
 t64:=Tryz.underlying205
 a64:=Tryz.isAgg205
 z64:=Tryz.sizeOf205
 v64:=Tryz.zeroValue205 }
def Tryz.compI_ren:Go.Shelf.Ren:=⟨fun|43=>28|n=>n,fun|22=>54|23=>3|3=>3|4=>4|0=>0|n=>n,fun|n=>n⟩
theorem Tryz.compI:Go.Proofs.SlLaysN.n43 Tryz.prog Tryz.compI_ren:={
 mixed:=by kernel_rfl
 f43:=⟨Tryz.f28.name,by decide,Tryz.func28.trans (congrArg some (by kernel_rfl))⟩
 t0:=Tryz.underlying0
 a0:=Tryz.isAgg0
 z0:=Tryz.sizeOf0
 v0:=Tryz.zeroValue0
 t3:=Tryz.underlying3
 a3:=Tryz.isAgg3
 z3:=Tryz.sizeOf3
 v3:=Tryz.zeroValue3
 t4:=Tryz.underlying4
 a4:=Tryz.isAgg4
 z4:=Tryz.sizeOf4
 v4:=Tryz.zeroValue4
 t22:=Tryz.underlying54
 a22:=Tryz.isAgg54
 z22:=Tryz.sizeOf54
 v22:=Tryz.zeroValue54
 t23:=Tryz.underlying3
 a23:=Tryz.isAgg3
 z23:=Tryz.sizeOf3
 v23:=Tryz.zeroValue3
 i23:=by kernel_rfl }
end Go.Proofs
