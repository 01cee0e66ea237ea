/- (*heap.interner).name of any term: its number among the terms that have one. And 1 more texts. -/
import Derived.WideLaws
import Derived.Test.YtlhojoefhannnaaGreatJt18
set_option linter.unusedVariables false
set_option linter.unusedSimpArgs false
set_option maxRecDepth 100000
set_option maxHeartbeats 51200000
namespace Go.Proofs.YtlhojoefhannnaaGreat
open Go.RowKit NumB
def bU (P:Nat->Prop) (w w':World):Prop:=w.heap.size<=w'.heap.size/\∀ b,P b->b<w.heap.size->w'.heap[b]?=w.heap[b]?
theorem bU.refl (P:Nat->Prop) (w:World):bU P w w:=⟨Nat.le_refl _,fun _ _ _=>rfl⟩
theorem bU.trans {P:Nat->Prop} {a b c:World} (h:bU P a b) (k:bU P b c):bU P a c:=⟨Nat.le_trans h.1 k.1,fun i hp hi=>(k.2 i hp (Nat.lt_of_lt_of_le hi h.1)).trans (h.2 i hp hi)⟩
theorem ah.stay {P q:Nat->Prop} {w w':World} (h:ah q w w') (hp:∀ k,P k->¬q k):bU P w w':=⟨h.size,fun b hb hlt=>h.block b hlt (hp b hb)⟩
theorem bU.of_below {P:Nat->Prop} {w w':World} (h:Below w.heap.size w w'):bU P w w':=⟨h.size,fun b _ hlt=>h.block b hlt⟩
theorem iH.stay {P:Nat->Prop} {w w':World} {v:Value} {xs:List Nat} (h:iH P w v xs) (hs:bU P w w'):iH P w' v xs:=h.to hs.1 hs.2
theorem cw.stay {P:Nat->Prop} {f:Nat->Option Tm} {w w':World} {t:Tm} {cs:List Value} (h:cw P f w t cs) (hs:bU P w w'):cw P f w' t cs:=h.to hs.1 hs.2
def An (L:List Tm):Prop:=L.length<=1000000/\∀ t∈L,t.fine/\t.sm/\∀ x∈t.args,x∈L
theorem zp {t:Tm} (h:t.sm):t.few:=by
 obtain⟨k,v,s,n,args⟩:=t;rw[Tm.sm]at h;exact⟨by omega,by omega⟩
theorem uV {f:Nat->Option Tm} {L:List Tm} {Ts:List Tm} {w y:World} {p m1 m2 T:Nat} {arr:Array Value} (k v:Int) (s:ByteArray) (ng:Bool) (A1:Option Addr) (n1 c1:Nat) (B1:Option Addr) (q1 d1:Nat) (ab ao l xc:Nat) (hl:0<l)
 (hn:au f L y p m1 m2 Ts) (ht:af y T 27 #[.int .i64 k,.int .i64 v,.string s,.bool ng,.slice A1 n1 c1,.slice B1 q1 d1,.slice (some ⟨ab,ao,none⟩) l xc]) (ha:af y ab 27 arr) (hk:ah (KN m1 m2) w y):
 Calls Tryz.prog 63 #[.agg #[.int .i64 k,.int .i64 v,.string s,.bool ng,.slice A1 n1 c1,.slice B1 q1 d1,.slice (some ⟨ab,ao,none⟩) l xc]] y fun e y'=>∃ (i:Nat) (ok:Bool),e=.returned (.pointer (some ⟨ab,ao,none⟩))/\Hid (i<=L.length/\(ok=true->∃ t,f ab=some t/\Ts[i]?=some t))/\(Instr.lookup 108 (.map (some m1)) (.pointer (some ⟨ab,ao,none⟩)) true).run Tryz.prog y'=.ok (.tuple #[.int .i64 (i:Int),.bool ok]) y'/\
  Hid (au f L y' p m1 m2 Ts)/\Hid (af y' T 27 #[.int .i64 k,.int .i64 v,.string s,.bool ng,.slice A1 n1 c1,.slice B1 q1 d1,.slice (some ⟨ab,ao,none⟩) l xc])/\Hid (ah (KN m1 m2) w y')/\(y'.cell? ⟨p,0,none⟩=some (.map (some m1))/\y'.cell? ⟨T,0,none⟩=some (.int .i64 k)/\y'.cell? ⟨T,1,none⟩=some (.int .i64 v)/\y'.cell? ⟨T,2,none⟩=some (.string s)/\y'.cell? ⟨T,3,none⟩=some (.bool ng)/\y'.cell? ⟨T,4,none⟩=some (.slice A1 n1 c1)/\y'.cell? ⟨T,5,none⟩=some (.slice B1 q1 d1)/\y'.cell? ⟨T,6,none⟩=some (.slice (some ⟨ab,ao,none⟩) l xc)):=by
 refine (cQ k v s ng A1 n1 c1 B1 q1 d1 ab ao l xc hl y).mono ?_;rintro e y' ⟨rfl,hb⟩;have hn':=hn.below hb;have ht':=ht.to hb;obtain⟨i,ok,hi,hr,hok⟩:=hn'.lookNode (o:=ao) (ha.to hb);exact⟨i,ok,rfl,⟨hi,hok⟩,hr,hn',ht',hk.trans (ah.of_below hb),hn'.nsc.1,ht'.cell 0,ht'.cell 1,ht'.cell 2,ht'.cell 3,ht'.cell 4,ht'.cell 5,ht'.cell 6⟩
theorem wV {f:Nat->Option Tm} {L:List Tm} {Ts:List Tm} {w y:World} {p m1 m2 T i:Nat} {arr:Array Value} {t:Tm} (k v:Int) (s:ByteArray) (ng:Bool) (A1:Option Addr) (n1 c1:Nat) (B1:Option Addr) (q1 d1:Nat) (ab ao l xc:Nat) (hl:0<l)
 (hn:au f L y p m1 m2 Ts) (ht:af y T 27 #[.int .i64 k,.int .i64 v,.string s,.bool ng,.slice A1 n1 c1,.slice B1 q1 d1,.slice (some ⟨ab,ao,none⟩) l xc]) (ha:af y ab 27 arr) (hk:ah (KN m1 m2) w y) (hf:f ab=some t) (hi:Ts[i]?=some t):
 Calls Tryz.prog 63 #[.agg #[.int .i64 k,.int .i64 v,.string s,.bool ng,.slice A1 n1 c1,.slice B1 q1 d1,.slice (some ⟨ab,ao,none⟩) l xc]] y fun e y'=>∃ (z:World),e=.returned (.pointer (some ⟨ab,ao,none⟩))/\(Instr.mapUpdate 108 (.map (some m1)) (.pointer (some ⟨ab,ao,none⟩)) (.int .i64 (i:Int))).run Tryz.prog y'=.ok () z/\
  Hid (au f L z p m1 m2 Ts)/\Hid (ah (KN m1 m2) w z)/\(y'.cell? ⟨p,0,none⟩=some (.map (some m1))/\y'.cell? ⟨T,0,none⟩=some (.int .i64 k)/\y'.cell? ⟨T,1,none⟩=some (.int .i64 v)/\y'.cell? ⟨T,2,none⟩=some (.string s)/\y'.cell? ⟨T,3,none⟩=some (.bool ng)/\y'.cell? ⟨T,4,none⟩=some (.slice A1 n1 c1)/\y'.cell? ⟨T,5,none⟩=some (.slice B1 q1 d1)/\y'.cell? ⟨T,6,none⟩=some (.slice (some ⟨ab,ao,none⟩) l xc))/\(z.cell? ⟨p,0,none⟩=some (.map (some m1))/\z.cell? ⟨T,0,none⟩=some (.int .i64 k)/\z.cell? ⟨T,1,none⟩=some (.int .i64 v)/\z.cell? ⟨T,2,none⟩=some (.string s)/\z.cell? ⟨T,3,none⟩=some (.bool ng)/\z.cell? ⟨T,4,none⟩=some (.slice A1 n1 c1)/\z.cell? ⟨T,5,none⟩=some (.slice B1 q1 d1)/\z.cell? ⟨T,6,none⟩=some (.slice (some ⟨ab,ao,none⟩) l xc)):=by
 refine (cQ k v s ng A1 n1 c1 B1 q1 d1 ab ao l xc hl y).mono ?_;rintro e y' ⟨rfl,hb⟩;have hn':=hn.below hb;have ht':=ht.to hb;obtain⟨z,hr,hz,hkz⟩:=hn'.putNode (o:=ao) (ha.to hb) hf hi;have ht2:=hkz.blk ht' (fun e=>hn'.cells ht' (.inl e));exact⟨z,rfl,hr,hz,(hk.trans (ah.of_below hb)).trans (hkz.mono fun k e=>.inl e),⟨hn'.nsc.1,ht'.cell 0,ht'.cell 1,ht'.cell 2,ht'.cell 3,ht'.cell 4,ht'.cell 5,ht'.cell 6⟩,hz.nsc.1,ht2.cell 0,ht2.cell 1,ht2.cell 2,ht2.cell 3,ht2.cell 4,ht2.cell 5,ht2.cell 6⟩
theorem uE {f:Nat->Option Tm} {L:List Tm} {Ts:List Tm} {w y:World} {B b p m1 m2 T:Nat} {cs:Array Value} {l:List UInt8} {t:Tm} (hL:L.length<=1000000) (hF:cP Ts t l) (hti:t.fine) (htw:t.few) (hd:BX y B b l) (hn:au f L y p m1 m2 Ts) (ht:af y T 27 cs) (hB:B<=y.heap.size) (hk:ah (KN m1 m2) w y) (hw:w.heap.size<=B):
 Calls Tryz.prog 146 #[.pointer (some ⟨b,0,none⟩)] y fun e y'=>∃ (s:ByteArray) (i:Nat) (ok:Bool),e=.returned (.string s)/\Hid (i<=L.length/\(ok=true->Ts[i]?=some t)/\(ok=false->t∉Ts))/\(Instr.lookup 114 (.map (some m2)) (.string s) true).run Tryz.prog y'=.ok (.tuple #[.int .i64 (i:Int),.bool ok]) y'/\Hid (BX y' B b l)/\Hid (au f L y' p m1 m2 Ts)/\Hid (af y' T 27 cs)/\Hid (B<=y'.heap.size/\ah (KN m1 m2) w y')/\(y'.cell? ⟨p,0,none⟩=some (.map (some m1))/\y'.cell? ⟨p,1,none⟩=some (.map (some m2))):=by
 refine (lD B b l y hd hB).mono ?_;rintro e y' ⟨rfl,h1,h2,h3⟩;have hn':=hn.others h3 hd;obtain⟨i,ok,hi,hl,h4,h5⟩:=hn'.lookForm hL (t:=t) (s:=⟨l.toArray⟩) (by rw[Lib.toList_data];simpa using hF) hti htw;exact⟨_,i,ok,rfl,⟨hi,h4,h5⟩,hl,h1,hn',ht.othersX (by decide) (by decide) h3 hd,⟨Nat.le_trans hB h2.size,hk.thenB h2 hw⟩,hn'.nsc⟩
theorem wt {f:Nat->Option Tm} {L:List Tm} {Ts:List Tm} {w y:World} {B b p m1 m2 T:Nat} {cs:Array Value} {l:List UInt8} {t:Tm} (hL:L.length<=1000000) (hF:cP Ts t l) (hti:t.fine) (htw:t.few) (hno:t∉Ts) (hm:t∈L) (hd:BX y B b l) (hn:au f L y p m1 m2 Ts) (ht:af y T 27 cs) (hB:B<=y.heap.size) (hk:ah (KN m1 m2) w y) (hw:w.heap.size<=B):
 Calls Tryz.prog 146 #[.pointer (some ⟨b,0,none⟩)] y fun e y'=>∃ (s:ByteArray) (z:World),e=.returned (.string s)/\(Instr.mapUpdate 114 (.map (some m2)) (.string s) (.int .i64 (Ts.length:Int))).run Tryz.prog y'=.ok () z/\Hid (au f L z p m1 m2 (Ts++[t]))/\Hid (af z T 27 cs)/\Hid (B<=z.heap.size/\ah (KN m1 m2) w z)/\(y'.cell? ⟨p,0,none⟩=some (.map (some m1))/\y'.cell? ⟨p,1,none⟩=some (.map (some m2)))/\(z.cell? ⟨p,0,none⟩=some (.map (some m1))/\z.cell? ⟨p,1,none⟩=some (.map (some m2))):=by
 refine (lD B b l y hd hB).mono ?_;rintro e y' ⟨rfl,h1,h2,h3⟩;have hn':=hn.others h3 hd;have ht':=ht.othersX (by decide) (by decide) h3 hd;obtain⟨z,hr,hz,hkz⟩:=hn'.putForm hL (t:=t) (s:=⟨l.toArray⟩) (by rw[Lib.toList_data];simpa using hF) hti htw hno hm;have hp:∀ k cs T f,y'.heap[k]?=some (Obj.cells cs T f)->¬k=m2:=fun k cs T f hc e=>hn'.cells hc (.inr e);exact⟨_,z,rfl,hr,hz,hkz.blk ht' (hp _ _ _ _ ht'),⟨Nat.le_trans (Nat.le_trans hB h2.size) hkz.size,(hk.thenB h2 hw).trans (hkz.mono fun k e=>.inr e)⟩,hn'.nsc,hz.nsc⟩
theorem xu (v:Nat) (s:ByteArray) (n:LN):iP 1 (v:Int) s n []=[UInt8.ofNat (1:Int).toNat]++df v:=by
 unfold iP;rw[if_pos rfl];rfl
theorem oZ {k v:Int} {s:ByteArray} {n:LN} (h1:k≠1) (h2:k≠2) (h5:k≠5):iP k v s n []=[UInt8.ofNat k.toNat]++s.data.toList:=by
 unfold iP;rw[if_neg h1,if_neg h2,if_neg h5,Lib.toList_data];rfl
theorem vw {v:Int} {s:ByteArray} {n:LN} {idx:List Nat} {l:Nat} (h:idx.length=l):iP 5 v s n idx=[UInt8.ofNat (5:Int).toNat]++df l++cF idx++s.data.toList:=by
 unfold iP;rw[if_neg (by decide),if_neg (by decide),if_pos rfl,Lib.toList_data,h];simp only[List.append_assoc,List.singleton_append];rfl
def pZ (b:Bool):List UInt8:=if b=true then [1] else []
def fh (n:LN):Nat->List UInt8
 |0=>[]
 |1=>df n.num.length++cF n.num
 |_=>df n.num.length++cF n.num++(df n.den.length++cF n.den)
theorem xt {v:Int} {s:ByteArray} {n:LN}:iP 2 v s n []=[UInt8.ofNat (2:Int).toNat]++pZ n.neg++fh n 2:=by
 unfold iP pZ fh;rw[if_neg (by decide),if_pos rfl];simp only[List.append_assoc,List.singleton_append];rfl
theorem iT (l:List Nat) (x:Nat):cF (l++[x])=cF l++df x:=by
 induction l with
 |nil=>rw[List.nil_append,cF,cF,cF,List.append_nil,List.nil_append]
 |cons y l ih=>rw[List.cons_append,cF,ih,cF,List.append_assoc]
theorem cT.take {Ts:List Tm} {idx:List Nat} {l:List Tm} {j:Nat} (hj:j<l.length) (h:cT Ts idx (l.take j)) {i:Nat} (hi:Ts[i]?=some l[j]):cT Ts (idx++[i]) (l.take (j+1)):=by
 have:=h.add hi;rw[List.take_add_one,List.getElem?_eq_getElem hj];exact this
theorem sA {P:Nat->Prop} {f:Nat->Option Tm} {L:List Tm} {w0:World} {p m1 m2:Nat} (hP:∀ k,P k->¬KN m1 m2 k) (hL:An L) {t:Tm} {cs:List Value} (h:cw P f w0 t cs):t∈L->∀ (w:World) (Ts:List Tm),bU P w0 w->au f L w p m1 m2 Ts->
 Calls Tryz.prog 116 #[.pointer (some ⟨p,0,none⟩),.agg cs.toArray] w fun e w'=>∃ (i:Nat) (Us:List Tm),e=.returned (.int .i64 (i:Int))/\i<=L.length/\au f L w' p m1 m2 (Ts++Us)/\(Ts++Us)[i]?=some t/\ah (KN m1 m2) w w':=by
 have HPP:=zH hP;have HLL:=zH hL;clear hP hL
 induction h with
 |mk k v s n args A B Ar cap cs hk hv hs hA hB hn hcap hm hr ha ih=>
  intro hmem w Ts hst h;obtain⟨hfi,hsm,hcl⟩:=HLL.out.2 _ hmem;have HMEM:Hid ((Tm.mk k v s n args).fine/\(Tm.mk k v s n args).few/\(Tm.mk k v s n args)∈L):=⟨hfi,zp hsm,hmem⟩;have HFM:Hid (∀ Us idx,cT Us idx args->cP Us (Tm.mk k v s n args) (iP k v s n idx)):=fun Us idx h=>⟨idx,h,rfl⟩;have hnode:=hfi;rw[Tm.fine]at hnode;have hnode:=hnode.2.1;rw[Tm.sm]at hsm;have IH:Hid (∀ i (h:i<args.length) (w:World) (Ts:List Tm),bU P w0 w->au f L w p m1 m2 Ts->Calls Tryz.prog 116 #[.pointer (some ⟨p,0,none⟩),.agg (cs i).toArray] w fun e w'=>∃ (j:Nat) (Us:List Tm),e=.returned (.int .i64 (j:Int))/\j<=L.length/\au f L w' p m1 m2 (Ts++Us)/\(Ts++Us)[j]?=some args[i]/\ah (KN m1 m2) w w'):=fun i h=>ih i h (hcl _ (List.getElem_mem h));clear ih hcl hmem hfi;have HR:=zH hr;have HA:=zH ha;have HAB:Hid (iH P w0 A n.num/\iH P w0 B n.den):=⟨hA,hB⟩;obtain⟨A1,c1,rfl,_⟩:=hA;obtain⟨B1,c2,rfl,_⟩:=hB;have hks:k=1\/k=2\/k=3\/k=4\/k=5:=by
   rcases aj hnode with ⟨h,_⟩|⟨_,_,_,_,h|h|h|h⟩
   ·exact .inr (.inl h)
   ·exact .inl h.1
   ·exact .inr (.inr (.inl h.1))
   ·exact .inr (.inr (.inr (.inl h.1)))
   ·exact .inr (.inr (.inr (.inr h.1)))
  have HND:=zH hnode;have HSM:Hid (n.num.length<=1000000/\n.den.length<=1000000/\n.ok):=⟨hsm.1,hsm.2.1,hn⟩;have hss:s.size<=5000:=by
   rcases aj hnode with ⟨_,_,h,_⟩|⟨_,_,_,_,h|h|h|h⟩<;>omega
  have HSS:=zH hss;clear hss;have HK:=zH hks;have HST:=zH hst;have HN:=zH h;unfold maxLen at hm;have hal:args.length<=32:=by
   rcases aj hnode with ⟨_,_,_,_,h⟩|⟨_,_,_,_,h|h|h|h⟩<;>omega
  clear hr ha hk hv hs hn hsm hnode h hst hks;have HBT:=zH (af.new w 27 #[.int .i64 k,.int .i64 v,.string s,.bool n.neg,.slice A1 n.num.length c1,.slice B1 n.den.length c2,.slice Ar args.length cap]);have HNT:Hid (au f L (w.alloc (.cells #[.int .i64 k,.int .i64 v,.string s,.bool n.neg,.slice A1 n.num.length c1,.slice B1 n.den.length c2,.slice Ar args.length cap] 27)) p m1 m2 Ts):=HN.out.below (I w _);have HWT:Hid (Below w.heap.size w (w.alloc (.cells #[.int .i64 k,.int .i64 v,.string s,.bool n.neg,.slice A1 n.num.length c1,.slice B1 n.den.length c2,.slice Ar args.length cap] 27))):=I w _;obtain⟨ng,hng⟩:∃ x,n.neg=x:=⟨_,rfl⟩;obtain⟨n1,hn1⟩:∃ x,n.num.length=x:=⟨_,rfl⟩;obtain⟨n2,hn2⟩:∃ x,n.den.length=x:=⟨_,rfl⟩;obtain⟨l,hl⟩:∃ x,args.length=x:=⟨_,rfl⟩;rw[hng,hn1,hn2,hl]at HBT HNT HWT;rw[hl]at hcap hal;rw[hng,hn1,hn2,hl];have HNG:=zH hng;have HL1:=zH hn1;have HL2:=zH hn2;have HL:=zH hl;clear hng hn1 hn2 hl;obtain⟨tt,htt⟩:∃ tt,Tm.mk k v s n args=tt:=⟨_,rfl⟩;rw[htt]at HMEM HFM HR;rw[htt];clear htt;go_enter Tryz.func116,Tryz.ntmps116
  go_upto_if 19 with fail
  go_cut [] (fun wx=>∃ z0:World,z0=wx/\Hid (au f L z0 p m1 m2 Ts)/\Hid (af z0 w.heap.size 27 #[.int .i64 k,.int .i64 v,.string s,.bool ng,.slice A1 n1 c1,.slice B1 n2 c2,.slice Ar l cap])/\Hid (ah (KN m1 m2) w z0))
  case first=>
   by_cases hk5:k=5
   ·subst hk5;have hl0:0<l:=by
     have:=HND.out;rw[HL.out]at this;rcases aj this with ⟨h,_⟩|⟨_,_,_,_,h|h|h|h⟩<;>omega
    obtain⟨ab,arr,rfl,hPb,hfb,harr,hcells⟩:=HR.out (by rw[HL.out];exact hl0);have HFB:=zH hfb;have HARR:Hid (af w ab 27 arr):=(HST.out.2 ab hPb harr.lt).trans harr;clear hPb hfb harr hcells;have hS0:(w.alloc (.cells #[.int .i64 5,.int .i64 v,.string s,.bool ng,.slice A1 n1 c1,.slice B1 n2 c2,.slice (some ⟨ab,0,none⟩) l cap] 27)).drew.cell? ⟨p,0,none⟩=some (.map (some m1))/\(w.alloc (.cells #[.int .i64 5,.int .i64 v,.string s,.bool ng,.slice A1 n1 c1,.slice B1 n2 c2,.slice (some ⟨ab,0,none⟩) l cap] 27)).drew.cell? ⟨w.heap.size,0,none⟩=some (.int .i64 5)/\(w.alloc (.cells #[.int .i64 5,.int .i64 v,.string s,.bool ng,.slice A1 n1 c1,.slice B1 n2 c2,.slice (some ⟨ab,0,none⟩) l cap] 27)).drew.cell? ⟨w.heap.size,1,none⟩=some (.int .i64 v)/\(w.alloc (.cells #[.int .i64 5,.int .i64 v,.string s,.bool ng,.slice A1 n1 c1,.slice B1 n2 c2,.slice (some ⟨ab,0,none⟩) l cap] 27)).drew.cell? ⟨w.heap.size,2,none⟩=some (.string s)/\(w.alloc (.cells #[.int .i64 5,.int .i64 v,.string s,.bool ng,.slice A1 n1 c1,.slice B1 n2 c2,.slice (some ⟨ab,0,none⟩) l cap] 27)).drew.cell? ⟨w.heap.size,3,none⟩=some (.bool ng)/\(w.alloc (.cells #[.int .i64 5,.int .i64 v,.string s,.bool ng,.slice A1 n1 c1,.slice B1 n2 c2,.slice (some ⟨ab,0,none⟩) l cap] 27)).drew.cell? ⟨w.heap.size,4,none⟩=some (.slice A1 n1 c1)/\(w.alloc (.cells #[.int .i64 5,.int .i64 v,.string s,.bool ng,.slice A1 n1 c1,.slice B1 n2 c2,.slice (some ⟨ab,0,none⟩) l cap] 27)).drew.cell? ⟨w.heap.size,5,none⟩=some (.slice B1 n2 c2)/\(w.alloc (.cells #[.int .i64 5,.int .i64 v,.string s,.bool ng,.slice A1 n1 c1,.slice B1 n2 c2,.slice (some ⟨ab,0,none⟩) l cap] 27)).drew.cell? ⟨w.heap.size,6,none⟩=some (.slice (some ⟨ab,0,none⟩) l cap):=⟨HNT.out.drew.nsc.1,HBT.out.drew.cell 0,HBT.out.drew.cell 1,HBT.out.drew.cell 2,HBT.out.drew.cell 3,HBT.out.drew.cell 4,HBT.out.drew.cell 5,HBT.out.drew.cell 6⟩;have HAT0:=zH (uV (w:=w) 5 v s ng A1 n1 c1 B1 n2 c2 ab 0 l cap hl0 HNT.out.drew HBT.out.drew (HARR.out.to HWT.out.drew) (ah.of_below HWT.out.drew));go_wp2_with fail
    go_region_held3 (fun w'=>w'.cell? ⟨p,0,none⟩=some (.map (some m1))/\w'.cell? ⟨w.heap.size,0,none⟩=some (.int .i64 5)/\w'.cell? ⟨w.heap.size,1,none⟩=some (.int .i64 v)/\w'.cell? ⟨w.heap.size,2,none⟩=some (.string s)/\w'.cell? ⟨w.heap.size,3,none⟩=some (.bool ng)/\w'.cell? ⟨w.heap.size,4,none⟩=some (.slice A1 n1 c1)/\w'.cell? ⟨w.heap.size,5,none⟩=some (.slice B1 n2 c2)/\w'.cell? ⟨w.heap.size,6,none⟩=some (.slice (some ⟨ab,0,none⟩) l cap))
     (first|assumption|(go_keep;done))
     (first
      |(go_at_call 63;(with_reducible refine HAT0.out.mono ?_);rintro e z0 ⟨i0,ok0,rfl,hi0,hl0,HNZ,HTZ,HWZ,hS1⟩))
    clear hS0 HAT0 hl0 hS1;obtain⟨t0,t1,t2,t3,t4,t5,t6⟩:=HTZ.out.s7;cases ok0 with
    |true=>
     go_wp2_with fail;go_ret;refine⟨i0,rfl,hi0.out.1,[],by rw[List.append_nil];exact HNZ.out,?_,HWZ.out⟩;obtain⟨t',h1,h2⟩:=hi0.out.2 (by trivial);rw[HFB.out]at h1;cases h1;rw[List.append_nil];exact h2
    |false=>
     go_wp2_with fail
     go_meet
     case rel=>exact⟨z0,rfl,HNZ,HTZ,HWZ⟩
   ·have hkb:(k==5)=false:=beq_eq_false_iff_ne.2 hk5;go_wp2_with fail
    go_meet
    case rel=>exact⟨_,rfl,HNT,HBT,ah.of_below HWT.out⟩
  case rest=>
   obtain⟨z0,rfl,HNZ,HTZ,HWZ⟩:=hcut;have HB0:=zH (BX.new z0);have HW0:Hid (Below z0.heap.size z0 (z0.alloc (.cells #[.pointer none,.slice none 0 0] 189))):=I z0 _;have HT0:=zH (HTZ.out.to HW0.out);have HZ0:Hid (w.heap.size<=z0.heap.size):=HWZ.out.size;have HWB:Hid (Calls Tryz.prog 143 #[.pointer (some ⟨z0.heap.size,0,none⟩),.int .u8 (k % 256)] (z0.alloc (.cells #[.pointer none,.slice none 0 0] 189)) fun e w'=>e=.returned .nilIface/\BX w' z0.heap.size z0.heap.size [UInt8.ofNat k.toNat]/\Below z0.heap.size (z0.alloc (.cells #[.pointer none,.slice none 0 0] 189)) w'/\Lib.OthersKept 5 (some z0.heap.size) (z0.alloc (.cells #[.pointer none,.slice none 0 0] 189)) w'):=by
    have hm:k % 256=((k.toNat % 256:Nat):Int):=by have:=HK.out;omega
    rw[hm,rW];exact eA z0.heap.size z0.heap.size [] _ _ HB0.out (by simp) (by simp)
   obtain⟨t0,t1,t2,t3,t4,t5,t6⟩:=HT0.out.s7;go_wp2_with fail;refine HWB.out.mono ?_;rintro e y1 ⟨rfl,hd,hb,ho⟩;have HD1:=zH hd;have HN1:=zH ((HNZ.out.below HW0.out).others ho HB0.out);have HT1:=zH (HT0.out.othersX (by decide) (by decide) ho HB0.out);have HW1:Hid (z0.heap.size<=y1.heap.size/\ah (KN m1 m2) w y1):=⟨Nat.le_trans (by simp) hb.size,(HWZ.out.trans (ah.of_below HW0.out)).thenB hb HZ0.out⟩;clear hd hb ho t0 t1 t2 t3 t4 t5 t6 HWB HB0 HW0 HT0;obtain⟨t0,t1,t2,t3,t4,t5,t6⟩:=HT1.out.s7
   go_upto_block 0 with fail
   go_cut [] (fun wx=>∃ (z:World) (Us:List Tm) (fm:List UInt8),z=wx/\Hid (cP (Ts++Us) tt fm)/\Hid (BX z z0.heap.size z0.heap.size fm)/\Hid (au f L z p m1 m2 (Ts++Us))/\Hid (af z w.heap.size 27 #[.int .i64 k,.int .i64 v,.string s,.bool ng,.slice A1 n1 c1,.slice B1 n2 c2,.slice Ar l cap])/\Hid (z0.heap.size<=z.heap.size/\ah (KN m1 m2) w z))
   case first=>
    rcases HK.out with rfl|rfl|rfl|rfl|rfl
    ·have hpv:0<=v/\v<=1073741824/\args.length=0:=by
      rcases aj HND.out with ⟨h,_⟩|⟨_,_,_,_,h|h|h|h⟩<;>omega
     obtain⟨hv0,hv1,hna⟩:=hpv;obtain⟨vn,hvn⟩:=Int.eq_ofNat_of_zero_le hv0;subst hvn;go_wp2_with fail;refine (kI z0.heap.size z0.heap.size _ vn (by omega) y1 HD1.out (by simp) HW1.out.1).mono ?_;rintro e y2 ⟨rfl,hd,hb,ho⟩;have HD2:=zH hd;have HN2:=zH (HN1.out.others ho HD1.out);have HT2:=zH (HT1.out.othersX (by decide) (by decide) ho HD1.out);have HW2:Hid (z0.heap.size<=y2.heap.size/\ah (KN m1 m2) w y2):=⟨Nat.le_trans HW1.out.1 hb.size,HW1.out.2.thenB hb HZ0.out⟩;clear hd hb ho;have HFV:Hid (cP (Ts++[]) tt ([UInt8.ofNat (1:Int).toNat]++df vn)):=by
      have h:=HFM.out (Ts++[]) [] (by rw[List.eq_nil_of_length_eq_zero hna];exact cT.nil _);rw[xu]at h;exact h
     go_wp2_with fail
     go_meet
     case rel=>exact⟨y2,[],_,rfl,HFV,HD2,(by rw[List.append_nil];exact HN2),HT2,HW2⟩
    ·have hna:args.length=0:=by
      rcases aj HND.out with ⟨_,_,_,_,h⟩|⟨_,_,_,_,h|h|h|h⟩<;>omega
     go_upto_if 52 with fail
     go_cut [] (fun wx=>∃ z:World,z=wx/\Hid (BX z z0.heap.size z0.heap.size ([UInt8.ofNat (2:Int).toNat]++pZ ng))/\Hid (au f L z p m1 m2 Ts)/\Hid (af z w.heap.size 27 #[.int .i64 2,.int .i64 v,.string s,.bool ng,.slice A1 n1 c1,.slice B1 n2 c2,.slice Ar l cap])/\Hid (z0.heap.size<=z.heap.size/\ah (KN m1 m2) w z))
     case first=>
      cases ng with
      |true=>
       have HWB1:Hid (Calls Tryz.prog 143 #[.pointer (some ⟨z0.heap.size,0,none⟩),.int .u8 1] y1 fun e w'=>e=.returned .nilIface/\BX w' z0.heap.size z0.heap.size ([UInt8.ofNat (2:Int).toNat]++[1])/\Below z0.heap.size y1 w'/\Lib.OthersKept 5 (some z0.heap.size) y1 w'):=eA z0.heap.size z0.heap.size _ 1 y1 HD1.out (by simp) HW1.out.1;go_wp2_with fail;refine HWB1.out.mono ?_;rintro e y2 ⟨rfl,hd,hb,ho⟩;have HD2:=zH hd;have HN2:=zH (HN1.out.others ho HD1.out);have HT2:=zH (HT1.out.othersX (by decide) (by decide) ho HD1.out);have HW2:Hid (z0.heap.size<=y2.heap.size/\ah (KN m1 m2) w y2):=⟨Nat.le_trans HW1.out.1 hb.size,HW1.out.2.thenB hb HZ0.out⟩;clear hd hb ho;go_wp2_with fail
       go_meet
       case rel=>exact⟨y2,rfl,HD2,HN2,HT2,HW2⟩
      |false=>
       go_wp2_with fail
       go_meet
       case rel=>exact⟨y1,rfl,HD1,HN1,HT1,HW1⟩
     case rest=>
      obtain⟨z,rfl,HDs,HNs,HTs,HWs⟩:=hcut;clear t0 t1 t2 t3 t4 t5 t6;obtain⟨t0,t1,t2,t3,t4,t5,t6⟩:=HTs.out.s7;go_wp2_with fail
      go_loopg [61] 2 (fun gk s61 wr=>∃ j:Nat,gk+j=2/\s61=.int .i64 (j:Int)/\Hid (BX wr z0.heap.size z0.heap.size ([UInt8.ofNat (2:Int).toNat]++pZ ng++fh n j))/\Hid (au f L wr p m1 m2 Ts)/\Hid (af wr w.heap.size 27 #[.int .i64 2,.int .i64 v,.string s,.bool ng,.slice A1 n1 c1,.slice B1 n2 c2,.slice Ar l cap])/\Hid (z0.heap.size<=wr.heap.size/\ah (KN m1 m2) w wr))
      case atStart=>exact⟨0,by omega,rfl,(by rw[fh,List.append_nil];exact HDs),HNs,HTs,HWs⟩
      case round=>
      obtain⟨j,hgj,rfl,HDr,HNr,HTr,HWr⟩:=hrel;have hj3:j=0\/j=1\/j=2:=by omega
      rcases hj3 with rfl|rfl|rfl
      ·have hxs:n.num.length=n1:=HL1.out;clear t0 t1 t2 t3 t4 t5 t6;have hsg:(pZ ng).length<=1:=by unfold pZ;split<;>simp
       have hnl:=HSM.out;have hnb:(fh n 0).length<=6000000:=by unfold fh;simp[dz,dZ]
       have hidx:(Instr.index 193 (.agg #[.slice A1 n1 c1,.slice B1 n2 c2]) (.int .i64 0)).run Tryz.prog wr=.ok (.slice A1 n1 c1) wr:=by kernel_rfl
       go_wp2_with fail;refine (kI z0.heap.size z0.heap.size _ n1 (by omega) wr HDr.out (by simp;omega) HWr.out.1).mono ?_;rintro e y2 ⟨rfl,hd,hb,ho⟩;have HD2:=zH hd;have HN2:=zH (HNr.out.others ho HDr.out);have HT2:=zH (HTr.out.othersX (by decide) (by decide) ho HDr.out);have HW2:Hid (z0.heap.size<=y2.heap.size/\ah (KN m1 m2) w y2):=⟨Nat.le_trans HWr.out.1 hb.size,HWr.out.2.thenB hb HZ0.out⟩;clear hd hb ho;go_wp2_with fail
       go_loopg [70] n1 (fun gk s70 wr=>∃ i:Nat,gk+i=n1/\s70=.int .i64 (i:Int)/\Hid (BX wr z0.heap.size z0.heap.size ([UInt8.ofNat (2:Int).toNat]++pZ ng++fh n 0++df n1++cF (n.num.take i)))/\Hid (au f L wr p m1 m2 Ts)/\Hid (af wr w.heap.size 27 #[.int .i64 2,.int .i64 v,.string s,.bool ng,.slice A1 n1 c1,.slice B1 n2 c2,.slice Ar l cap])/\Hid (z0.heap.size<=wr.heap.size/\ah (KN m1 m2) w wr))
       case atStart=>exact⟨0,by omega,rfl,(by rw[List.take_zero,cF,List.append_nil];exact HD2),HN2,HT2,HW2⟩
       case round=>
        obtain⟨i,hgi,rfl,HDi,HNi,HTi,HWi⟩:=hrel;by_cases hi:i<n1
        ·have hsl:=HAB.out.1.stay (HST.out.trans (HWi.out.2.stay HPP.out));obtain⟨Ax,cx,hax,_,_,hcell0⟩:=hsl;obtain⟨b,o,hAx,_,_,hcell⟩:=hcell0 (by omega);subst hAx;simp only[Value.slice.injEq]at hax;obtain⟨hax,hax1,hax2⟩:=hax;clear hax1 hax2;subst hax;have g0:=hcell i (by omega);have hget:n.num[i]?=some (n.num.getD i 0):=by rw[List.getD_eq_getElem?_getD,List.getElem?_eq_getElem (by omega)];rfl
         have hx32:n.num.getD i 0<4294967296:=by
          have:=hnl.2.2.1 (n.num.getD i 0) (List.mem_of_getElem? hget);unfold ag at this;exact this
         generalize n.num.getD i 0=x at*;have HGX:=zH hget;clear hget hcell hcell0;have h0i:(i:Int)<(n1:Int):=by omega
         go_wp2_with fail;refine (kI z0.heap.size z0.heap.size _ x (by omega) wr HDi.out (by simp[dz,dZ,List.length_take];omega) HWi.out.1).mono ?_;rintro e y3 ⟨rfl,hd,hb,ho⟩;have HD3:=zH hd;have HN3:=zH (HNi.out.others ho HDi.out);have HT3:=zH (HTi.out.othersX (by decide) (by decide) ho HDi.out);have HW3:Hid (z0.heap.size<=y3.heap.size/\ah (KN m1 m2) w y3):=⟨Nat.le_trans HWi.out.1 hb.size,HWi.out.2.thenB hb HZ0.out⟩;clear hd hb ho;go_wp2_with fail
         go_roundg (gk-1)
         case measure=>omega
         case rel=>exact⟨i+1,by omega,by go_num,(by rw[List.take_add_one,HGX.out,Option.toList_some,iT,<-List.append_assoc];exact HD3),HN3,HT3,HW3⟩
        ·obtain rfl:n1=i:=by omega
         have HDf:Hid (BX wr z0.heap.size z0.heap.size ([UInt8.ofNat (2:Int).toNat]++pZ ng++fh n 1)):=by
          have h:=HDi.out;rw[List.take_of_length_le (Nat.le_of_eq hxs)]at h;have e:[UInt8.ofNat (2:Int).toNat]++pZ ng++fh n 0++df n1++cF n.num=[UInt8.ofNat (2:Int).toNat]++pZ ng++fh n 1:=by simp only[fh,hxs,List.append_assoc,List.nil_append]
          rw[e]at h;exact h
         go_wp2_with fail
         go_roundg 1
         case measure=>omega
         case rel=>exact⟨1,by omega,by go_num,HDf,HNi,HTi,HWi⟩
      ·have hxs:n.den.length=n2:=HL2.out;clear t0 t1 t2 t3 t4 t5 t6;have hsg:(pZ ng).length<=1:=by unfold pZ;split<;>simp
       have hnl:=HSM.out;have hnb:(fh n 1).length<=6000000:=by unfold fh;simp[dz,dZ];omega
       have hidx:(Instr.index 193 (.agg #[.slice A1 n1 c1,.slice B1 n2 c2]) (.int .i64 1)).run Tryz.prog wr=.ok (.slice B1 n2 c2) wr:=by kernel_rfl
       go_wp2_with fail;refine (kI z0.heap.size z0.heap.size _ n2 (by omega) wr HDr.out (by simp;omega) HWr.out.1).mono ?_;rintro e y2 ⟨rfl,hd,hb,ho⟩;have HD2:=zH hd;have HN2:=zH (HNr.out.others ho HDr.out);have HT2:=zH (HTr.out.othersX (by decide) (by decide) ho HDr.out);have HW2:Hid (z0.heap.size<=y2.heap.size/\ah (KN m1 m2) w y2):=⟨Nat.le_trans HWr.out.1 hb.size,HWr.out.2.thenB hb HZ0.out⟩;clear hd hb ho;go_wp2_with fail
       go_loopg [70] n2 (fun gk s70 wr=>∃ i:Nat,gk+i=n2/\s70=.int .i64 (i:Int)/\Hid (BX wr z0.heap.size z0.heap.size ([UInt8.ofNat (2:Int).toNat]++pZ ng++fh n 1++df n2++cF (n.den.take i)))/\Hid (au f L wr p m1 m2 Ts)/\Hid (af wr w.heap.size 27 #[.int .i64 2,.int .i64 v,.string s,.bool ng,.slice A1 n1 c1,.slice B1 n2 c2,.slice Ar l cap])/\Hid (z0.heap.size<=wr.heap.size/\ah (KN m1 m2) w wr))
       case atStart=>exact⟨0,by omega,rfl,(by rw[List.take_zero,cF,List.append_nil];exact HD2),HN2,HT2,HW2⟩
       case round=>
        obtain⟨i,hgi,rfl,HDi,HNi,HTi,HWi⟩:=hrel;by_cases hi:i<n2
        ·have hsl:=HAB.out.2.stay (HST.out.trans (HWi.out.2.stay HPP.out));obtain⟨Ax,cx,hax,_,_,hcell0⟩:=hsl;obtain⟨b,o,hAx,_,_,hcell⟩:=hcell0 (by omega);subst hAx;simp only[Value.slice.injEq]at hax;obtain⟨hax,hax1,hax2⟩:=hax;clear hax1 hax2;subst hax;have g0:=hcell i (by omega);have hget:n.den[i]?=some (n.den.getD i 0):=by rw[List.getD_eq_getElem?_getD,List.getElem?_eq_getElem (by omega)];rfl
         have hx32:n.den.getD i 0<4294967296:=by
          have:=hnl.2.2.2 (n.den.getD i 0) (List.mem_of_getElem? hget);unfold ag at this;exact this
         generalize n.den.getD i 0=x at*;have HGX:=zH hget;clear hget hcell hcell0;have h0i:(i:Int)<(n2:Int):=by omega
         go_wp2_with fail;refine (kI z0.heap.size z0.heap.size _ x (by omega) wr HDi.out (by simp[dz,dZ,List.length_take];omega) HWi.out.1).mono ?_;rintro e y3 ⟨rfl,hd,hb,ho⟩;have HD3:=zH hd;have HN3:=zH (HNi.out.others ho HDi.out);have HT3:=zH (HTi.out.othersX (by decide) (by decide) ho HDi.out);have HW3:Hid (z0.heap.size<=y3.heap.size/\ah (KN m1 m2) w y3):=⟨Nat.le_trans HWi.out.1 hb.size,HWi.out.2.thenB hb HZ0.out⟩;clear hd hb ho;go_wp2_with fail
         go_roundg (gk-1)
         case measure=>omega
         case rel=>exact⟨i+1,by omega,by go_num,(by rw[List.take_add_one,HGX.out,Option.toList_some,iT,<-List.append_assoc];exact HD3),HN3,HT3,HW3⟩
        ·obtain rfl:n2=i:=by omega
         have HDf:Hid (BX wr z0.heap.size z0.heap.size ([UInt8.ofNat (2:Int).toNat]++pZ ng++fh n 2)):=by
          have h:=HDi.out;rw[List.take_of_length_le (Nat.le_of_eq hxs)]at h;have e:[UInt8.ofNat (2:Int).toNat]++pZ ng++fh n 1++df n2++cF n.den=[UInt8.ofNat (2:Int).toNat]++pZ ng++fh n 2:=by simp only[fh,hxs,List.append_assoc,List.nil_append]
          rw[e]at h;exact h
         go_wp2_with fail
         go_roundg 0
         case measure=>omega
         case rel=>exact⟨2,by omega,by go_num,HDf,HNi,HTi,HWi⟩
      ·have HFV:Hid (cP (Ts++[]) tt ([UInt8.ofNat (2:Int).toNat]++pZ ng++fh n 2)):=by
        have h:=HFM.out (Ts++[]) [] (by rw[List.eq_nil_of_length_eq_zero hna];exact cT.nil _);rw[xt,HNG.out]at h;exact h
       clear t0 t1 t2 t3 t4 t5 t6;go_wp2_with fail
       go_meet
       case rel=>exact⟨wr,[],_,rfl,HFV,HDr,(by rw[List.append_nil];exact HNr),HTr,HWr⟩
    ·have hna:args.length=0:=by
      rcases aj HND.out with ⟨h,_⟩|⟨_,_,_,_,h|h|h|h⟩<;>omega
     have hss:=HSS.out;go_wp2_with fail;refine (dj z0.heap.size z0.heap.size _ s y1 HD1.out (by omega) (by simp) HW1.out.1).mono ?_;rintro e y2 ⟨rfl,hd,hb,ho⟩;have HD2:=zH hd;have HN2:=zH (HN1.out.others ho HD1.out);have HT2:=zH (HT1.out.othersX (by decide) (by decide) ho HD1.out);have HW2:Hid (z0.heap.size<=y2.heap.size/\ah (KN m1 m2) w y2):=⟨Nat.le_trans HW1.out.1 hb.size,HW1.out.2.thenB hb HZ0.out⟩;clear hd hb ho;have HFV:Hid (cP (Ts++[]) tt ([UInt8.ofNat (3:Int).toNat]++s.data.toList)):=by
      have h:=HFM.out (Ts++[]) [] (by rw[List.eq_nil_of_length_eq_zero hna];exact cT.nil _);rw[oZ (by decide) (by decide) (by decide)]at h;exact h
     go_wp2_with fail
     go_meet
     case rel=>exact⟨y2,[],_,rfl,HFV,HD2,(by rw[List.append_nil];exact HN2),HT2,HW2⟩
    ·have hna:args.length=0:=by
      rcases aj HND.out with ⟨h,_⟩|⟨_,_,_,_,h|h|h|h⟩<;>omega
     have hss:=HSS.out;go_wp2_with fail;refine (dj z0.heap.size z0.heap.size _ s y1 HD1.out (by omega) (by simp) HW1.out.1).mono ?_;rintro e y2 ⟨rfl,hd,hb,ho⟩;have HD2:=zH hd;have HN2:=zH (HN1.out.others ho HD1.out);have HT2:=zH (HT1.out.othersX (by decide) (by decide) ho HD1.out);have HW2:Hid (z0.heap.size<=y2.heap.size/\ah (KN m1 m2) w y2):=⟨Nat.le_trans HW1.out.1 hb.size,HW1.out.2.thenB hb HZ0.out⟩;clear hd hb ho;have HFV:Hid (cP (Ts++[]) tt ([UInt8.ofNat (4:Int).toNat]++s.data.toList)):=by
      have h:=HFM.out (Ts++[]) [] (by rw[List.eq_nil_of_length_eq_zero hna];exact cT.nil _);rw[oZ (by decide) (by decide) (by decide)]at h;exact h
     go_wp2_with fail
     go_meet
     case rel=>exact⟨y2,[],_,rfl,HFV,HD2,(by rw[List.append_nil];exact HN2),HT2,HW2⟩
    ·have hl0:0<l:=by
      have:=HND.out;rw[HL.out]at this;rcases aj this with ⟨h,_⟩|⟨_,_,_,_,h|h|h|h⟩<;>omega
     obtain⟨ab,arr,rfl,hPb,hfb,harr,hcells⟩:=HR.out (by rw[HL.out];exact hl0);have HARR:Hid (∀ w',bU P w0 w'->af w' ab 27 arr):=fun w' hs=>(hs.2 ab hPb harr.lt).trans harr;have HCL:=zH hcells;clear hPb hfb harr hcells;have hss:=HSS.out;go_wp2_with fail;refine (kI z0.heap.size z0.heap.size _ l (by omega) y1 HD1.out (by simp) HW1.out.1).mono ?_;rintro e y2 ⟨rfl,hd,hb,ho⟩;have HD2:=zH hd;have HN2:=zH (HN1.out.others ho HD1.out);have HT2:=zH (HT1.out.othersX (by decide) (by decide) ho HD1.out);have HW2:Hid (z0.heap.size<=y2.heap.size/\ah (KN m1 m2) w y2):=⟨Nat.le_trans HW1.out.1 hb.size,HW1.out.2.thenB hb HZ0.out⟩;clear hd hb ho;clear t0 t1 t2 t3 t4 t5 t6;obtain⟨t0,t1,t2,t3,t4,t5,t6⟩:=HT2.out.s7;go_wp2_with fail
     go_loopg [90] l (fun gk s90 wr=>∃ (j:Nat) (Us:List Tm) (idx:List Nat),gk+j=l/\s90=.int .i64 (j:Int)/\idx.length=j/\Hid (cT (Ts++Us) idx (args.take j))/\Hid (BX wr z0.heap.size z0.heap.size ([UInt8.ofNat (5:Int).toNat]++df l++cF idx))/\Hid (au f L wr p m1 m2 (Ts++Us))/\Hid (af wr w.heap.size 27 #[.int .i64 5,.int .i64 v,.string s,.bool ng,.slice A1 n1 c1,.slice B1 n2 c2,.slice (some ⟨ab,0,none⟩) l cap])/\Hid (z0.heap.size<=wr.heap.size/\ah (KN m1 m2) w wr))
     case atStart=>exact⟨0,[],[],by omega,rfl,rfl,(by rw[List.take_zero];exact cT.nil _),(by rw[cF,List.append_nil];exact HD2),(by rw[List.append_nil];exact HN2),HT2,HW2⟩
     case round=>
      clear t0 t1 t2 t3 t4 t5 t6;obtain⟨j,Us,idx,hgj,rfl,hix,HID,HDr,HNr,HTr,HWr⟩:=hrel;by_cases hj:j<l
      ·have hja:j<args.length:=by rw[HL.out];exact hj
       have hsr:=HST.out.trans (HWr.out.2.stay HPP.out);have hAr:=HARR.out wr hsr;have HBX:=zH (I wr (.cells (cs j).toArray 27));have HCALL:=zH (IH.out j hja (wr.alloc (.cells (cs j).toArray 27)) (Ts++Us) (hsr.trans (bU.of_below HBX.out)) (HNr.out.below HBX.out));have HBE:=zH (af.new wr 27 (cs j).toArray);obtain⟨k',v',s',ng',A',n',c',B',q',d',X',xl',xc',hcs⟩:=(HA.out j hja).form;rw[hcs]at HCALL HBX HBE;have HC:Hid (∀ q,q<7->wr.cell? ⟨ab,j*7+q,none⟩=(cs j)[q]?):=fun q hq=>(hAr.cell _).trans (HCL.out j hja q hq);have g0:=HC.out 0 (by omega);have g1:=HC.out 1 (by omega);have g2:=HC.out 2 (by omega);have g3:=HC.out 3 (by omega);have g4:=HC.out 4 (by omega);have g5:=HC.out 5 (by omega);have g6:=HC.out 6 (by omega);rw[hcs]at g0 g1 g2 g3 g4 g5 g6;simp only[List.getElem?_cons_zero,List.getElem?_cons_succ,Nat.add_zero]at g0 g1 g2 g3 g4 g5 g6;clear hcs HC hAr hsr HBE;go_wp2_with fail;refine HCALL.out.mono ?_;rintro e y3 ⟨i3,Vs,rfl,hi3,hn3,hg3,hk3⟩;have HN3:=zH hn3;have HG3:=zH hg3;have HI3:Hid (i3<=1000000):=Nat.le_trans hi3 HLL.out.1;have hc3:=(HNr.out.below HBX.out);have HD3:=zH ((HDr.out.below HBX.out).kept hk3 (fun k cs T f hc=>hc3.cells hc));have HT3:=zH (hk3.blk (HTr.out.to HBX.out) (fun e=>hc3.cells (HTr.out.to HBX.out) e));have HW3:Hid (z0.heap.size<=y3.heap.size/\ah (KN m1 m2) w y3):=⟨Nat.le_trans HWr.out.1 (Nat.le_trans HBX.out.size hk3.size),(HWr.out.2.trans (ah.of_below HBX.out)).trans hk3⟩;clear hi3 hn3 hg3 hk3 hc3 g0 g1 g2 g3 g4 g5 g6 HCALL;go_wp2_with fail;refine (kI z0.heap.size z0.heap.size _ i3 (by have:=HI3.out;omega) y3 HD3.out (by simp[dz,dZ];omega) HW3.out.1).mono ?_;rintro e y4 ⟨rfl,hd,hb,ho⟩;have HD4:=zH hd;have HN4:=zH (HN3.out.others ho HD3.out);have HT4:=zH (HT3.out.othersX (by decide) (by decide) ho HD3.out);have HW4:Hid (z0.heap.size<=y4.heap.size/\ah (KN m1 m2) w y4):=⟨Nat.le_trans HW3.out.1 hb.size,HW3.out.2.thenB hb HZ0.out⟩;clear hd hb ho;go_wp2_with fail
       go_roundg (gk-1)
       case measure=>omega
       case rel=>exact⟨j+1,Us++Vs,idx++[i3],by omega,by go_num,by simp[hix],cT.take hja (by rw[<-List.append_assoc];exact HID.out.more) (by rw[<-List.append_assoc];exact HG3.out),(by rw[iT,<-List.append_assoc];exact HD4),(by rw[<-List.append_assoc];exact HN4),HT4,HW4⟩
      ·obtain rfl:l=j:=by omega
       obtain⟨t0,t1,t2,t3,t4,t5,t6⟩:=HTr.out.s7;go_wp2_with fail;refine (dj z0.heap.size z0.heap.size _ s wr HDr.out (by omega) (by simp[dz,dZ];omega) HWr.out.1).mono ?_;clear HD2 HN2 HT2 HW2;rintro e y2 ⟨rfl,hd,hb,ho⟩;have HD2:=zH hd;have HN2:=zH (HNr.out.others ho HDr.out);have HT2:=zH (HTr.out.othersX (by decide) (by decide) ho HDr.out);have HW2:Hid (z0.heap.size<=y2.heap.size/\ah (KN m1 m2) w y2):=⟨Nat.le_trans HWr.out.1 hb.size,HWr.out.2.thenB hb HZ0.out⟩;clear hd hb ho;clear t0 t1 t2 t3 t4 t5 t6;have HFV:Hid (cP (Ts++Us) tt ([UInt8.ofNat (5:Int).toNat]++df l++cF idx++s.data.toList)):=by
        have h:=HFM.out (Ts++Us) idx (by have h:=HID.out;rw[List.take_of_length_le (by rw[HL.out];exact Nat.le_refl _)]at h;exact h);rw[vw hix]at h;exact h
       go_wp2_with fail
       go_meet
       case rel=>exact⟨y2,Us,_,rfl,HFV,HD2,HN2,HT2,HW2⟩
   case rest=>
    obtain⟨z,Us,fm,rfl,HFF,HD2,HN2,HT2,HW2⟩:=hcut;clear t0 t1 t2 t3 t4 t5 t6;have hS2:z.drew.cell? ⟨p,0,none⟩=some (.map (some m1))/\z.drew.cell? ⟨p,1,none⟩=some (.map (some m2)):=HN2.out.drew.nsc;have HSTR:=zH (uE (w:=w) HLL.out.1 HFF.out HMEM.out.1 HMEM.out.2.1 HD2.out.drew HN2.out.drew HT2.out.drew HW2.out.1 HW2.out.2.drew HZ0.out);go_wp2_with fail
    go_region_held3 (fun w'=>w'.cell? ⟨p,0,none⟩=some (.map (some m1))/\w'.cell? ⟨p,1,none⟩=some (.map (some m2)))
     (first|assumption|(go_keep;done))
     (first
      |(go_at_call 146;(with_reducible refine HSTR.out.mono ?_);rintro e y3 ⟨s3,i3,ok3,rfl,hi3,hl3,HD3,HN3,HT3,HW3,hS3⟩))
    clear hS2 HSTR hl3 hS3
    go_upto_if 113 with fail
    go_cut [15] (fun s15 wx=>∃ (z':World) (i:Nat) (Vs:List Tm),z'=wx/\s15=.int .i64 (i:Int)/\Hid (i<=L.length/\(Ts++Vs)[i]?=some tt)/\Hid (au f L z' p m1 m2 (Ts++Vs))/\Hid (af z' w.heap.size 27 #[.int .i64 k,.int .i64 v,.string s,.bool ng,.slice A1 n1 c1,.slice B1 n2 c2,.slice Ar l cap])/\Hid (ah (KN m1 m2) w z'))
    case first=>
     cases ok3 with
     |true=>
      go_wp2_with fail
      go_meet
      case rel=>exact⟨y3,i3,Us,rfl,rfl,⟨hi3.out.1,hi3.out.2.1 (by trivial)⟩,HN3,HT3,HW3.out.2⟩
     |false=>
      obtain⟨es,cl,hm2,hms⟩:=HN3.out.len;obtain⟨e0,e1⟩:=HN3.out.nsc;have hlen:(Builtin.len_ #[114] 3 #[.map (some m2)]).run Tryz.prog y3=.ok (.int .i64 ((Ts++Us).length:Int)) y3:=by
       rw[<-hms];exact run_len_map y3 _ _ m2 es cl (by kernel_rfl) hm2
      clear hm2 hms;have hle:=HN3.out.le;have hLl:=HLL.out.1;have hno:tt∉Ts++Us:=hi3.out.2.2 (by trivial);have HSTR:=zH (wt (w:=w) HLL.out.1 HFF.out HMEM.out.1 HMEM.out.2.1 hno HMEM.out.2.2 HD3.out.drew HN3.out.drew HT3.out.drew HW3.out.1 HW3.out.2.drew HZ0.out);clear hno;have HLE:Hid ((Ts++Us).length<=L.length):=hle;obtain⟨N,hN⟩:∃ N,(Ts++Us).length=N:=⟨_,rfl⟩;rw[hN]at hlen HSTR hle HLE;have HNN:=zH hN;clear hN;go_wp2_with fail;have hS4:y3.drew.cell? ⟨p,0,none⟩=some (.map (some m1))/\y3.drew.cell? ⟨p,1,none⟩=some (.map (some m2)):=HN3.out.drew.nsc;clear e0 e1 hlen
      go_region_held3 (fun w'=>w'.cell? ⟨p,0,none⟩=some (.map (some m1))/\w'.cell? ⟨p,1,none⟩=some (.map (some m2)))
       (first|assumption|(go_keep;done))
       (first
        |(go_at_call 146;(with_reducible refine HSTR.out.mono ?_);rintro e y5 ⟨s5,y4,rfl,hl5,HN4,HT4,HW4,hS5,hS6⟩))
      clear hS4 HSTR hl5 hS5 hS6;go_wp2_with fail
      go_meet
      case rel=>exact⟨y4,N,Us++[tt],rfl,rfl,⟨HLE.out,by rw[<-List.append_assoc,<-HNN.out];simp⟩,(by rw[<-List.append_assoc];exact HN4),HT4,HW4.out.2⟩
    case rest=>
     obtain⟨z',i,Vs,rfl,rfl,HII,HN4,HT4,HW4⟩:=hcut;have HKZ:Hid (ah (KN m1 m2) w z'):=HW4;by_cases hk5:k=5
     ·subst hk5;have hl0:0<l:=by
       have:=HND.out;rw[HL.out]at this;rcases aj this with ⟨h,_⟩|⟨_,_,_,_,h|h|h|h⟩<;>omega
      obtain⟨ab,arr,rfl,hPb,hfb,harr,hcells⟩:=HR.out (by rw[HL.out];exact hl0);have HARR:Hid (af z'.drew ab 27 arr):=((HST.out.trans (HKZ.out.stay HPP.out)).2 ab hPb harr.lt).trans harr;have HAT:=zH (wV (w:=w) 5 v s ng A1 n1 c1 B1 n2 c2 ab 0 l cap hl0 HN4.out.drew HT4.out.drew HARR.out HKZ.out.drew hfb HII.out.2);clear hPb hfb harr hcells;obtain⟨t0,t1,t2,t3,t4,t5,t6⟩:=HT4.out.s7;go_wp2_with fail;have hS7:z'.drew.cell? ⟨p,0,none⟩=some (.map (some m1))/\z'.drew.cell? ⟨w.heap.size,0,none⟩=some (.int .i64 5)/\z'.drew.cell? ⟨w.heap.size,1,none⟩=some (.int .i64 v)/\z'.drew.cell? ⟨w.heap.size,2,none⟩=some (.string s)/\z'.drew.cell? ⟨w.heap.size,3,none⟩=some (.bool ng)/\z'.drew.cell? ⟨w.heap.size,4,none⟩=some (.slice A1 n1 c1)/\z'.drew.cell? ⟨w.heap.size,5,none⟩=some (.slice B1 n2 c2)/\z'.drew.cell? ⟨w.heap.size,6,none⟩=some (.slice (some ⟨ab,0,none⟩) l cap):=⟨HN4.out.drew.nsc.1,HT4.out.drew.cell 0,HT4.out.drew.cell 1,HT4.out.drew.cell 2,HT4.out.drew.cell 3,HT4.out.drew.cell 4,HT4.out.drew.cell 5,HT4.out.drew.cell 6⟩;clear t0 t1 t2 t3 t4 t5 t6
      go_region_held3 (fun w'=>w'.cell? ⟨p,0,none⟩=some (.map (some m1))/\w'.cell? ⟨w.heap.size,0,none⟩=some (.int .i64 5)/\w'.cell? ⟨w.heap.size,1,none⟩=some (.int .i64 v)/\w'.cell? ⟨w.heap.size,2,none⟩=some (.string s)/\w'.cell? ⟨w.heap.size,3,none⟩=some (.bool ng)/\w'.cell? ⟨w.heap.size,4,none⟩=some (.slice A1 n1 c1)/\w'.cell? ⟨w.heap.size,5,none⟩=some (.slice B1 n2 c2)/\w'.cell? ⟨w.heap.size,6,none⟩=some (.slice (some ⟨ab,0,none⟩) l cap))
       (first|assumption|(go_keep;done))
       (first
        |(go_at_call 63;(with_reducible refine HAT.out.mono ?_);rintro e y7 ⟨y8,rfl,hl8,HN8,HW8,hS8,hS9⟩))
      clear hS7 HAT hl8 hS8 hS9;go_wp2_with fail;go_ret;exact⟨i,Vs,rfl,HII.out.1,HN8.out,HII.out.2,HW8.out⟩
     ·have hkb:(k==5)=false:=beq_eq_false_iff_ne.2 hk5;obtain⟨t0,t1,t2,t3,t4,t5,t6⟩:=HT4.out.s7;go_wp2_with fail;go_ret;exact⟨i,Vs,rfl,HII.out.1,HN4.out,HII.out.2,HW4.out⟩
def oz (cs:List Value):List Value:=.bool true::(cs++[.slice none 0 0])
structure qC (P:Nat->Prop) (f:Nat->Option Tm) (w:World) (nm:Nat) (xs:List Value) (b:Int->Option Tm):Prop where
 out:∀ v:Int,(v<0\/(nm:Int)<=v)->b v=none
 cell:∀ v:Nat,v<nm->(b v=none/\∀ q,q<9->xs[v*9+q]?=zc[q]?)\/∃ t cs,b v=some t/\cw P f w t cs/\∀ q,q<9->xs[v*9+q]?=(oz cs)[q]?
theorem qC.stay {P:Nat->Prop} {f:Nat->Option Tm} {w w':World} {nm:Nat} {xs:List Value} {b:Int->Option Tm} (h:qC P f w nm xs b) (hs:bU P w w'):qC P f w' nm xs b:=
 ⟨h.out,fun v hv=>(h.cell v hv).imp id fun ⟨t,cs,h1,h2,h3⟩=>⟨t,cs,h1,h2.stay hs,h3⟩⟩
def lm (nm:Nat) (L:List Tm):Prop:=An L/\∀ t∈L,∀ v,t=.var v->0<=v/\v<(nm:Int)
def rQ (L:List Tm) (b:Int->Option Tm):Prop:=∀ v t,b v=some t->t∈L/\∀ u,t=.var u->u<v
theorem aZ {k v:Int} {s:ByteArray} {n:LN} {args:List Tm} (h:(Tm.mk k v s n args).fine) (hk:k=1):Tm.mk k v s n args=.var v:=by
 have:=(Tm.mk k v s n args).cn_fine h;rw[Tm.cn]at this;exact this.1 hk
theorem bE {k v u:Int} {s:ByteArray} {n:LN} {args:List Tm} (h:Tm.mk k v s n args=.var u):k=1/\v=u:=by
 unfold Tm.var at h;simp only[Tm.mk.injEq]at h;exact⟨h.1,h.2.1⟩
theorem j6 {P:Nat->Prop} {f:Nat->Option Tm} {w:World} {nm:Nat} {xs:List Value} {b:Int->Option Tm} {L:List Tm} (hB:qC P f w nm xs b) (hU:lm nm L) (hL:rQ L b):∀ (N:Nat) (t:Tm) (cs:List Value),t∈L->cw P f w t cs->(∀ v,t=.var v->v.toNat<N)->
 ∃ n t' cs',gG nm xs n cs cs'/\jE b t t'/\cw P f w t' cs'/\t'∈L/\∀ v,t'=.var v->b v=none:=by
 intro N
 induction N with
 |zero=>
  intro t cs ht hc hN;have hc':=hc;obtain⟨k,v,s,n,args⟩:=t;have hf:=(hU.1.2 _ ht).1;by_cases hk:k=1
  ·exact absurd (hN v (aZ hf hk)) (by omega)
  ·cases hc with
   |mk _ _ _ _ _ A C Ar cap cs' _ _ _ hA hC=>
    obtain⟨A1,c1,rfl,_⟩:=hA;obtain⟨B1,c2,rfl,_⟩:=hC;exact⟨0,_,_,.other _ _ _ _ _ _ _ _ _ _ _ _ _ hk,.stop fun u e=>absurd (bE e).1 hk,hc',ht,fun u e=>absurd (bE e).1 hk⟩
 |succ N ih=>
  intro t cs ht hc hN;have hc':=hc;obtain⟨k,v,s,n,args⟩:=t;have hf:=(hU.1.2 _ ht).1;by_cases hk:k=1
  ·have ev:=aZ hf hk;have hr:=hU.2 _ ht v ev;obtain⟨i,hi⟩:=Int.eq_ofNat_of_zero_le hr.1;have hin:i<nm:=by omega
   cases hc with
   |mk _ _ _ _ _ A C Ar cap cs' _ _ _ hA hC=>
   obtain⟨A1,c1,rfl,_⟩:=hA;obtain⟨B1,c2,rfl,_⟩:=hC;rcases hB.cell i hin with ⟨h1,h2⟩|⟨x,cx,h1,h2,h3⟩
   ·rw[<-hi]at h1;refine⟨0,_,_,.free i _ _ _ _ _ _ _ _ _ _ _ _ _ hk hi hin ?_,.stop fun u e=>?_,hc',ht,fun u e=>?_⟩
    ·have:=h2 0 (by omega);rw[Nat.add_zero]at this;exact this
    ·rw[<-(bE e).2];exact h1
    ·rw[<-(bE e).2];exact h1
   ·rw[<-hi]at h1;have hx:=hL v x h1;obtain⟨n',t',cs'',g1,g2,g3,g4,g5⟩:=ih x cx hx.1 h2 (fun u e=>by
     have h4:=hx.2 u e;have h5:=(hU.2 _ hx.1 u e).1;have h6:=hN v ev;omega)
    obtain⟨pk,pv,ps,pn,pA,pa,pc,pB,pd,pe,pX,pl,pq,rfl⟩:=h2.form;refine⟨n'+1,t',cs'',.step n' i _ _ _ _ _ _ _ _ _ _ _ _ _ pk pv ps pn pA pa pc pB pd pe pX pl pq _ hk hi hin ?_ (fun q u hq=>?_) g1,by rw[ev];exact .step h1 g2,g3,g4,g5⟩
    ·have:=h3 0 (by omega);rw[Nat.add_zero]at this;exact this
    ·have hq7:q<7:=(List.getElem?_eq_some_iff.1 hq).1;have:=h3 (q+1) (by omega);rw[show i*9+1+q=i*9+(q+1) by omega,this];unfold oz;rw[List.getElem?_cons_succ,List.getElem?_append_left (by simpa using hq7)];exact hq
  ·cases hc with
   |mk _ _ _ _ _ A C Ar cap cs' _ _ _ hA hC=>
    obtain⟨A1,c1,rfl,_⟩:=hA;obtain⟨B1,c2,rfl,_⟩:=hC;exact⟨0,_,_,.other _ _ _ _ _ _ _ _ _ _ _ _ _ hk,.stop fun u e=>absurd (bE e).1 hk,hc',ht,fun u e=>absurd (bE e).1 hk⟩
theorem kH {xs:List Value} {vi u q:Nat} {n0 n1 n2 n3 n4 n5 n6 n7 n8:Value} (hl:vi*9+8<xs.length) (hq:q<9):(iS xs vi n0 n1 n2 n3 n4 n5 n6 n7 n8)[u*9+q]?=if u=vi then [n0,n1,n2,n3,n4,n5,n6,n7,n8][q]? else xs[u*9+q]?:=by
 unfold iS;by_cases h:u=vi
 ·subst h;rw[if_pos rfl];have:q=0\/q=1\/q=2\/q=3\/q=4\/q=5\/q=6\/q=7\/q=8:=by omega
  rcases this with rfl|rfl|rfl|rfl|rfl|rfl|rfl|rfl|rfl<;>simp[List.getElem?_set]<;>omega
 ·rw[if_neg h]
  repeat rw[List.getElem?_set_ne (by omega)]
theorem qC.upd {P:Nat->Prop} {f:Nat->Option Tm} {w:World} {nm:Nat} {xs:List Value} {b:Int->Option Tm} (h:qC P f w nm xs b) {vi:Nat} (hvi:vi<nm) (hl:xs.length=nm*9) {t:Tm} {n0 n1 n2 n3 n4 n5 n6:Value} (ht:cw P f w t [n0,n1,n2,n3,n4,n5,n6]):qC P f w nm (iS xs vi (.bool true) n0 n1 n2 n3 n4 n5 n6 (.slice none 0 0)) (Go.Proofs.YtlhojoefhannnaaGreat.upd b vi t):=by
 refine⟨fun v hv=>?_,fun v hv=>?_⟩
 ·unfold Go.Proofs.YtlhojoefhannnaaGreat.upd;rw[if_neg (by omega)];exact h.out v hv
 ·by_cases e:v=vi
  ·subst e;refine .inr ⟨t,[n0,n1,n2,n3,n4,n5,n6],by unfold Go.Proofs.YtlhojoefhannnaaGreat.upd;rw[if_pos rfl],ht,fun q hq=>?_⟩;rw[kH (by omega) hq,if_pos rfl];rfl
  ·have e2:Go.Proofs.YtlhojoefhannnaaGreat.upd b vi t v=b v:=by unfold Go.Proofs.YtlhojoefhannnaaGreat.upd;rw[if_neg (by omega)]
   rw[e2];refine (h.cell v hv).imp (fun ⟨h1,h2⟩=>⟨h1,fun q hq=>?_⟩) fun ⟨x,cs,h1,h2,h3⟩=>⟨x,cs,h1,h2,fun q hq=>?_⟩
   ·rw[kH (by omega) hq,if_neg e];exact h2 q hq
   ·rw[kH (by omega) hq,if_neg e];exact h3 q hq
end Go.Proofs.YtlhojoefhannnaaGreat
