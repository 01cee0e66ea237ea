/- Terms told by numbers: a list of different terms, and the bytes of a term whose arguments it holds. And 5 more texts. -/
import Derived.Test.YtlhojoefhannnaaGreatJt17
set_option linter.unusedVariables false
set_option linter.unusedSimpArgs false
set_option maxRecDepth 100000
set_option maxHeartbeats 51200000
namespace Go.Proofs.YtlhojoefhannnaaGreat
open Go.RowKit NumB
def cT (Ts:List Tm) (idx:List Nat) (l:List Tm):Prop:=idx.length=l.length/\∀ j (h:j<l.length) (h':j<idx.length),Ts[idx[j]]?=some l[j]
theorem cT.more {Ts Us:List Tm} {idx:List Nat} {l:List Tm} (h:cT Ts idx l):cT (Ts++Us) idx l:=⟨h.1,fun j h1 h2=>by
 have:=h.2 j h1 h2;have hlt:idx[j]<Ts.length:=(List.getElem?_eq_some_iff.1 this).1;rw[List.getElem?_append_left hlt];exact this⟩
theorem cT.nil (Ts:List Tm):cT Ts [] []:=⟨rfl,fun j h=>absurd h (by simp)⟩
theorem cT.add {Ts:List Tm} {idx:List Nat} {l:List Tm} (h:cT Ts idx l) {i:Nat} {t:Tm} (hi:Ts[i]?=some t):cT Ts (idx++[i]) (l++[t]):=by
 refine⟨by simp[h.1],fun j h1 h2=>?_⟩;rw[List.length_append,List.length_singleton]at h1;by_cases e:j=l.length
 ·subst e;rw[List.getElem_append_right (Nat.le_refl _),List.getElem_append_right (by rw[h.1];exact Nat.le_refl _)];simpa[h.1] using hi
 ·have h3:j<l.length:=by omega
  have h4:j<idx.length:=by rw[h.1];exact h3
  rw[List.getElem_append_left h4,List.getElem_append_left h3];exact h.2 j h3 h4
theorem cT.terms {Ts:List Tm} {idx:List Nat} {l m:List Tm} (h:cT Ts idx l) (h2:cT Ts idx m):l=m:=by
 refine List.ext_getElem (by rw[<-h.1,h2.1]) fun j h1 h3=>?_;have hj:j<idx.length:=by rw[h.1];exact h1
 have:=(h.2 j h1 hj).symm.trans (h2.2 j h3 hj);exact Option.some.inj this
theorem cT.lt {Ts:List Tm} {idx:List Nat} {l:List Tm} (h:cT Ts idx l):∀ x∈idx,x<Ts.length:=fun x hx=>by
 obtain⟨j,hj,rfl⟩:=List.getElem_of_mem hx;exact (List.getElem?_eq_some_iff.1 (h.2 j (by rw[<-h.1];exact hj) hj)).1
theorem cT.one {Ts:List Tm} (hd:Ts.Nodup) {idx idx2:List Nat} {l:List Tm} (h:cT Ts idx l) (h2:cT Ts idx2 l):idx=idx2:=by
 refine List.ext_getElem (by rw[h.1,h2.1]) fun j h1 h3=>?_;have hj:j<l.length:=by rw[<-h.1];exact h1
 have e1:=h.2 j hj h1;have e2:=h2.2 j hj h3;obtain⟨b1,c1⟩:=List.getElem?_eq_some_iff.1 e1;obtain⟨b2,c2⟩:=List.getElem?_eq_some_iff.1 e2;exact (List.getElem?_inj b1 hd).1 (e1.trans e2.symm)
def cP (Ts:List Tm):Tm->List UInt8->Prop
 |.mk k v s n args,f=>∃ idx,cT Ts idx args/\f=iP k v s n idx
theorem cP.more {Ts Us:List Tm} {t:Tm} {f:List UInt8} (h:cP Ts t f):cP (Ts++Us) t f:=by
 obtain⟨k,v,s,n,args⟩:=t;obtain⟨idx,h1,h2⟩:=h;exact⟨idx,h1.more,h2⟩
theorem cP.one {Ts:List Tm} (hd:Ts.Nodup) {t:Tm} {f g:List UInt8} (h:cP Ts t f) (h2:cP Ts t g):f=g:=by
 obtain⟨k,v,s,n,args⟩:=t;obtain⟨idx,h1,rfl⟩:=h;obtain⟨idx2,h3,rfl⟩:=h2;rw[h1.one hd h3]
def Tm.few:Tm->Prop
 |.mk _ _ _ n _=>n.num.length<1099511627776/\n.den.length<1099511627776
theorem cP.inj {Ts:List Tm} (hl:Ts.length<=1099511627776) {t u:Tm} (ht:t.fine) (hu:u.fine) (ft:t.few) (fu:u.few) {f:List UInt8} (h:cP Ts t f) (h2:cP Ts u f):t=u:=by
 obtain⟨k,v,s,n,args⟩:=t;obtain⟨k2,v2,s2,n2,args2⟩:=u;obtain⟨idx,h1,e1⟩:=h;obtain⟨idx2,h3,e2⟩:=h2;rw[Tm.fine]at ht hu;have hn:=ht.2.1;have hn2:=hu.2.1;rw[<-h1.1]at hn;rw[<-h3.1]at hn2;obtain⟨rfl,rfl,rfl,rfl,rfl⟩:=vu hn hn2 ht.1 hu.1 (fun x hx=>by have:=h1.lt x hx;omega) (fun x hx=>by have:=h3.lt x hx;omega) ⟨ft.1,ft.2,fu.1,fu.2⟩ (e1.symm.trans e2);rw[h1.terms h3]
structure qE (Ts:List Tm):Prop where
 nodup:Ts.Nodup
 fine:∀ t∈Ts,t.fine/\t.few/\∃ f,cP Ts t f
theorem qE.nil:qE []:=⟨List.nodup_nil,fun t h=>by cases h⟩
theorem qE.add {Ts:List Tm} (h:qE Ts) {t:Tm} (ht:t.fine) (hf:t.few) {f:List UInt8} (hF:cP Ts t f) (hn:t∉Ts):qE (Ts++[t]):=by
 refine⟨List.nodup_append.2 ⟨h.nodup,by simp,fun a ha b hb=>?_⟩,fun u hu=>?_⟩
 ·rw[List.mem_singleton]at hb;subst hb;intro e;subst e;exact hn ha
 ·rcases List.mem_append.1 hu with hu|hu
  ·obtain⟨q1,q2,g,q3⟩:=h.fine u hu;exact⟨q1,q2,g,q3.more⟩
  ·rw[List.mem_singleton]at hu;subst hu;exact⟨ht,hf,f,hF.more⟩
theorem BX.kept {p:Nat->Prop} {w w':World} {B b:Nat} {l:List UInt8} (h:BX w B b l) (hk:ah p w w') (hp:∀ k cs T f,w.heap[k]?=some (.cells cs T f)->¬p k):BX w' B b l:=by
 have one:∀ q,Lib.BuilderAtF 189 5 B b q (Lib.byteCells l) w->Lib.BuilderAtF 189 5 B b q (Lib.byteCells l) w':=by
  rintro q ⟨hB,v,hb,hown,hne⟩;have hlt:∀ k o,w.heap[k]?=some o->k<w.heap.size:=fun k o h=>by
   rcases Nat.lt_or_ge k w.heap.size with h'|h'
   ·exact h'
   ·rw[Array.getElem?_eq_none h']at h;cases h
  refine⟨hB,v,(hk.block b (hlt _ _ hb) (hp _ _ _ _ hb)).trans hb,?_,hne⟩;obtain⟨h1,h2|⟨g,cap,cur,fz,rfl,h3,h4,h5⟩⟩:=hown
  ·exact⟨h1,.inl h2⟩
  ·exact⟨h1,.inr ⟨g,cap,cur,fz,rfl,h3,(hk.block g (hlt _ _ h4) (hp _ _ _ _ h4)).trans h4,h5⟩⟩
 exact h.elim (fun x=>.inl (one _ x)) (fun x=>.inr (one _ x))
theorem BX.below {w w':World} {B b:Nat} {l:List UInt8} (h:BX w B b l) (hb:Below w.heap.size w w'):BX w' B b l:=h.kept (p:=fun _=>False) (ah.of_below hb) (fun _ _ _ _ _ h=>h)
theorem BX.drew {w:World} {B b:Nat} {l:List UInt8} (h:BX w B b l):BX w.drew B b l:=h
theorem BX.new (w:World):BX (w.alloc (.cells #[.pointer none,.slice none 0 0] 189)) w.heap.size w.heap.size []:=
 .inl ⟨Nat.le_refl _,.slice none 0 0,af.new w _ _,World.ownsRowF_of (World.ownsRow_nil _ _ _ _),by simp[Value.ownBlock]⟩
def pj (i j:Nat):List UInt8:=(df i).take j
theorem tP (i j:Nat) (hj:j<5):pj i (j+1)=pj i j++[UInt8.ofNat (i / 256 ^ j)]:=by
 have:j=0\/j=1\/j=2\/j=3\/j=4:=by omega
 rcases this with rfl|rfl|rfl|rfl|rfl<;>simp[pj,df]
theorem rW (i:Nat):(Value.int .u8 ((i % 256:Nat):Int))=.int .u8 ((UInt8.ofNat i).toNat:Int):=by
 rw[UInt8.toNat_ofNat']
theorem kI (B b:Nat) (l:List UInt8) (i:Nat) (hi:i<1099511627776) (w:World) (h:BX w B b l) (hn:l.length<=100000000) (hBw:B<=w.heap.size):
 Calls Tryz.prog 144 #[.int .i64 (i:Int),.pointer (some ⟨b,0,none⟩)] w fun e w'=>e=.returned (.tuple #[])/\BX w' B b (l++df i)/\Below B w w'/\Lib.OthersKept 5 (some b) w w':=by
 have HB:Hid (BX w B b (l++pj i 0)):=by show BX w B b (l++[]);rw[List.append_nil];exact h
 clear h;go_enter Tryz.func144,Tryz.ntmps144;go_wp2_with fail
 go_loopg [0,3] 5 (fun gk s0 s3 wr=>∃ (j z:Nat),gk+j=5/\s3=.int .i64 (j:Int)/\s0=.int .i64 (z:Int)/\Hid (z=i / 256 ^ j)/\z<1099511627776/\Hid (BX wr B b (l++pj i j))/\Hid (Below B w wr)/\Hid (Lib.OthersKept 5 (some b) w wr))
 case atStart=>exact⟨0,i,by omega,rfl,rfl,by show i=i / 1;omega,hi,HB,Below.refl _ _,Lib.OthersKept.refl _ _ _⟩
 case round=>
  obtain⟨j,z,hgj,rfl,rfl,HZ,hz,HD,HW,HO⟩:=hrel;by_cases hj:j<5
  ·have hm:((z:Int) % 256)=((z % 256:Nat):Int):=by omega
   have HWB:Hid (Calls Tryz.prog 143 #[.pointer (some ⟨b,0,none⟩),.int .u8 ((z:Int) % 256)] wr fun e w'=>e=.returned .nilIface/\BX w' B b (l++pj i (j+1))/\Below B wr w'/\Lib.OthersKept 5 (some b) wr w'):=by
    rw[hm,rW,tP i j hj,<-HZ.out,<-List.append_assoc];exact eA B b _ _ wr HD.out (by have:(pj i j).length<=5:=(by unfold pj;rw[List.length_take];omega);rw[List.length_append];omega) (by have:=HW.out.size;omega)
   clear hm;go_wp2_with fail;refine HWB.out.mono ?_;rintro e w2 ⟨rfl,hd,hb,ho⟩;have HD2:=zH hd;have HW2:=zH (HW.out.trans hb);have HO2:=zH (HO.out.trans ho);clear hd hb ho HWB;go_wp2_with fail
   go_roundg (gk-1)
   case measure=>omega
   case rel=>
    have HZ2:z / 256=i / 256 ^ (j+1):=by rw[HZ.out,Nat.div_div_eq_div_mul,Nat.pow_succ]
    exact⟨j+1,z / 256,by omega,by go_num,by go_num,HZ2,by omega,HD2,HW2,HO2⟩
  ·obtain rfl:j=5:=by omega
   go_wp2_with fail;unfold bodyPost;refine⟨rfl,.tuple #[],?_,rfl,HD.out,HW.out,HO.out⟩;simp[results,Tryz.f144]
end Go.Proofs.YtlhojoefhannnaaGreat
namespace Go.Proofs.YtlhojoefhannnaaGreat
open Go.RowKit NumB Classical
noncomputable def lC:List MapEntry->Value->Option Value
 |[],_=>none
 |e::es,k=>if e.key=k then some e.val else lC es k
structure iG (kt:TypeId) (KP:Value->Prop) (w:World):Prop where
 check:∀ (e:Bool) a,KP a->(Instr.checkKey e 10000 kt a).run Tryz.prog w=.ok () w
 equal:∀ a b,KP a->KP b->∃ r:Bool,(Op.equal kt a b).run Tryz.prog w=.ok r w/\(r=true↔a=b)
 now:∀ d a b r,Instr.sameNow d a b=some r->KP a->KP b->(r=true↔a=b)
 bits:∀ a,KP a->Instr.sameBits 10000 a a=true
 und:∃ d,Tryz.prog.underlying kt=some d
def wI (es:List MapEntry) (k:Value) (i:Nat) (r:Option (Nat×Value)):Prop:=
 (r=none->lC es k=none)/\∀ j v,r=some (j,v)->i<=j/\lC es k=some v/\(∃ e,es[j-i]?=some e/\e.key=k)/\∀ v' k',lC (es.modify (j-i) fun e=>{ e with key:=k,val:=v' }) k'=if k'=k then some v' else lC es k'
theorem wI.nil (k:Value) (i:Nat):wI [] k i none:=⟨fun _=>rfl,fun j v h=>by cases h⟩
theorem wI.hit {e:MapEntry} {k:Value} (h:e.key=k) (es:List MapEntry) (i:Nat):wI (e::es) k i (some (i,e.val)):=by
 refine⟨fun h=>(by cases h),fun j v hj=>?_⟩;simp only[Option.some.injEq,Prod.mk.injEq]at hj;obtain⟨rfl,rfl⟩:=hj;refine⟨Nat.le_refl _,by rw[lC,if_pos h],⟨e,by simp,h⟩,fun v' k'=>?_⟩;rw[Nat.sub_self,List.modify_zero_cons,lC,lC,h];by_cases h':k'=k
 ·rw[if_pos h'.symm,if_pos h']
 ·rw[if_neg (fun q=>h' q.symm),if_neg h',if_neg (fun q=>h' q.symm)]
theorem wI.miss {e:MapEntry} {k:Value} (h:e.key≠k) {es:List MapEntry} {i:Nat} {r:Option (Nat×Value)} (hr:wI es k (i+1) r):wI (e::es) k i r:=by
 refine⟨fun hn=>by rw[lC,if_neg h];exact hr.1 hn,fun j v hj=>?_⟩;obtain⟨a1,a2,⟨e',a3,a4⟩,a5⟩:=hr.2 j v hj;have e1:j-i=(j-(i+1))+1:=by omega
 refine⟨by omega,by rw[lC,if_neg h];exact a2,⟨e',by rw[e1];simpa using a3,a4⟩,fun v' k'=>?_⟩;rw[e1,List.modify_succ_cons,lC,lC,a5 v' k'];by_cases h3:e.key=k'
 ·rw[if_pos h3,if_pos h3,if_neg (fun q=>h (h3.trans q))]
 ·rw[if_neg h3,if_neg h3]
theorem tM {kt:TypeId} {KP:Value->Prop} {w:World} (K:iG kt KP w) {d:TypeDesc} {k:Value} (hk:KP k):∀ (es:List MapEntry),(∀ x∈es,KP x.key)->∀ i r,Instr.findNow d k es i=some r->wI es k i r:=by
 intro es
 induction es with
 |nil=>intro _ i r h;simp[Instr.findNow]at h;subst h;exact .nil k i
 |cons e es ih=>
  intro hes i r h;have he:=hes e (by simp);unfold Instr.findNow at h
  split at h
  ·next hs=>
   obtain rfl:=Option.some.inj h;exact .hit ((K.now _ _ _ _ hs hk he).1 rfl).symm es i
  ·next hs=>exact .miss (fun q=>by have:=(K.now _ _ _ _ hs hk he).2 q.symm;cases this) (ih (fun x hx=>hes x (by simp[hx])) _ _ h)
  ·cases h
theorem m0 {kt:TypeId} {KP:Value->Prop} {w:World} (K:iG kt KP w) {k:Value} (hk:KP k):∀ (es:List MapEntry),(∀ x∈es,KP x.key)->∀ i,∃ r,(Instr.findAsking kt k es i).run Tryz.prog w=.ok r w/\wI es k i r:=by
 intro es
 induction es with
 |nil=>intro _ i;exact⟨none,by simp[Instr.findAsking,Sem.run_pure],.nil k i⟩
 |cons e es ih=>
  intro hes i;obtain⟨r,hr,hr2⟩:=K.equal k e.key hk (hes e (by simp));cases r with
  |true=>exact⟨some (i,e.val),by simp[Instr.findAsking,Sem.run_bind,hr,Result.andThen_ok,Sem.run_pure],.hit (hr2.1 rfl).symm es i⟩
  |false=>
   obtain⟨q,hq,hq2⟩:=ih (fun x hx=>hes x (by simp[hx])) (i+1);exact⟨q,by simp[Instr.findAsking,Sem.run_bind,hr,Result.andThen_ok,hq],.miss (fun h=>by have:=hr2.2 h.symm;cases this) hq2⟩
theorem lS {kt:TypeId} {KP:Value->Prop} {w:World} (K:iG kt KP w) {k:Value} (hk:KP k) (es:List MapEntry) (hes:∀ x∈es,KP x.key):∃ r,(Instr.findKey kt k es).run Tryz.prog w=.ok r w/\wI es k 0 r:=by
 obtain⟨d,hd⟩:=K.und;cases hf:Instr.findNow d k es 0 with
 |some r=>exact⟨r,by simp[Instr.findKey,Sem.run_bind,run_underlying hd,Result.andThen_ok,hf,Sem.run_pure],tM K hk es hes 0 r hf⟩
 |none=>
  obtain⟨r,hr,h2⟩:=m0 K hk es hes 0;exact⟨r,by simp[Instr.findKey,Sem.run_bind,run_underlying hd,Result.andThen_ok,hf,hr],h2⟩
def bS (KP:Value->Prop) (w:World) (b n:Nat) (f:Value->Option Value):Prop:=
 ∃ es clock,w.heap[b]?=some (.map es clock)/\es.size=n/\(∀ x∈es.toList,KP x.key)/\∀ k,lC es.toList k=f k
theorem bS.empty {KP:Value->Prop} {w:World} {b c:Nat} (h:w.heap[b]?=some (.map #[] c)):bS KP w b 0 (fun _=>none):=
 ⟨#[],c,h,rfl,fun x hx=>by simp at hx,fun k=>rfl⟩
theorem bS.is {KP:Value->Prop} {w:World} {b n:Nat} {f:Value->Option Value} (h:bS KP w b n f):∃ es c,w.heap[b]?=some (.map es c)/\es.size=n:=by
 obtain⟨es,c,h,h2,_⟩:=h;exact⟨es,c,h,h2⟩
theorem bS.same {KP KP':Value->Prop} {w w':World} {b n:Nat} {f:Value->Option Value} (h:bS KP w b n f) (hs:∀ o,w.heap[b]?=some o->w'.heap[b]?=some o) (hv:∀ v,KP v->KP' v):bS KP' w' b n f:=by
 obtain⟨es,c,h,h2,h3,r⟩:=h;exact⟨es,c,hs _ h,h2,fun x hx=>hv _ (h3 x hx),r⟩
theorem bS.key {KP:Value->Prop} {w:World} {b n:Nat} {f:Value->Option Value} (h:bS KP w b n f) {k v:Value} (hf:f k=some v):KP k:=by
 obtain⟨es,c,_,_,h3,r⟩:=h;have key:∀ l:List MapEntry,(∀ x∈l,KP x.key)->lC l k=some v->KP k:=by
  intro l
  induction l with
  |nil=>intro _ h;cases h
  |cons e l ih=>
   intro hl h;rw[lC]at h;by_cases hk:e.key=k
   ·rw[<-hk];exact hl e (by simp)
   ·rw[if_neg hk]at h;exact ih (fun x hx=>hl x (by simp[hx])) h
 exact key _ h3 ((r k).trans hf)
theorem cM {kt et mt:TypeId} {KP:Value->Prop} {w:World} (K:iG kt KP w) (hm:Tryz.prog.underlying mt=some (.map kt et)) {z:Value} (hz:(zeroValue et).run Tryz.prog w=.ok z w) {k:Value} (hk:KP k) {b n:Nat} {f:Value->Option Value} (hM:bS KP w b n f):
 (Instr.lookup mt (.map (some b)) k true).run Tryz.prog w=.ok (.tuple #[(f k).getD z,.bool (f k).isSome]) w/\(Instr.lookup mt (.map (some b)) k false).run Tryz.prog w=.ok ((f k).getD z) w:=by
 obtain⟨es,clock,hb,hn,hes,hf⟩:=hM;obtain⟨r,hr,hr2⟩:=lS K hk es.toList hes;rw[<-hf k];cases r with
 |none=>
  rw[hr2.1 rfl];exact⟨by simp[Instr.lookup,Sem.run_bind,run_underlying hm,Result.andThen_ok,getObj,Sem.run,hb,K.check _ k hk,hr,hz],by simp[Instr.lookup,Sem.run_bind,run_underlying hm,Result.andThen_ok,getObj,Sem.run,hb,K.check _ k hk,hr,hz]⟩
 |some p=>
  obtain⟨j,v⟩:=p;rw[(hr2.2 j v rfl).2.1];exact⟨by simp[Instr.lookup,Sem.run_bind,run_underlying hm,Result.andThen_ok,getObj,Sem.run,hb,K.check _ k hk,hr],by simp[Instr.lookup,Sem.run_bind,run_underlying hm,Result.andThen_ok,getObj,Sem.run,hb,K.check _ k hk,hr]⟩
theorem uU (es:List MapEntry) (x:MapEntry) (k:Value):lC (es++[x]) k=(lC es k).or (if x.key=k then some x.val else none):=by
 induction es with
 |nil=>rw[List.nil_append,lC];rfl
 |cons e es ih=>
  rw[List.cons_append,lC,lC,ih];by_cases h:e.key=k
  ·rw[if_pos h,if_pos h];rfl
  ·rw[if_neg h,if_neg h]
theorem dt {kt et mt:TypeId} {KP:Value->Prop} {w:World} (K:iG kt KP w) (hm:Tryz.prog.underlying mt=some (.map kt et)) {k:Value} (hk:KP k) (v:Value) {b n:Nat} {f:Value->Option Value} (hM:bS KP w b n f):
 ∃ w',(Instr.mapUpdate mt (.map (some b)) k v).run Tryz.prog w=.ok () w'/\bS KP w' b (if (f k).isSome then n else n+1) (fun j=>if j=k then some v else f j)/\ah (fun k=>k=b) w w':=by
 obtain⟨es,clock,hb,hn,hes,hf⟩:=hM;have hbl:b<w.heap.size:=(Array.getElem?_eq_some_iff.1 hb).1;have hkept:∀ o:Obj,ah (fun i=>i=b) w (ak w b o):=fun o=>
  ⟨rfl,rfl,rfl,by simp[ak],fun i hi hp=>by
   have hp:¬b=i:=fun e=>hp e.symm;simp[ak,Array.getElem?_setIfInBounds_ne hp]⟩
 have hat:∀ o:Obj,(ak w b o).heap[b]?=some o:=fun o=>by simp[ak,hbl]
 obtain⟨r,hr,hr2⟩:=lS K hk es.toList hes;cases r with
 |none=>
  have h0:=hr2.1 rfl;rw[hf k]at h0;refine⟨ak w b (.map (es.push ⟨k,v,clock⟩) (clock+1)),?_,⟨_,_,hat _,by simp[h0,hn],?_,fun k'=>?_⟩,hkept _⟩
  ·simp[Instr.mapUpdate,run_underlying hm,MapKept.run_getObj_map hb,K.check false k hk,hr,MapKept.run_setObj_map _ hb,Result.andThen,ak]
  ·intro x hx;simp only[Array.toList_push,List.mem_append,List.mem_singleton]at hx;rcases hx with hx|rfl
   ·exact hes x hx
   ·exact hk
  ·rw[Array.toList_push,uU,hf k'];show (f k').or (if k=k' then some v else none)=_;by_cases h:k'=k
   ·subst h;simp[h0]
   ·have h':¬k=k':=fun q=>h q.symm;simp[h,h']
 |some p=>
  obtain⟨j,v0⟩:=p;obtain⟨_,h1,⟨e,h2,h3⟩,h4⟩:=hr2.2 j v0 rfl;rw[Nat.sub_zero]at h2 h4;rw[hf k]at h1;have hj:es[j]?=some e:=by simpa using h2
  refine⟨ak w b (.map (es.modify j fun e'=>{ e' with key:=k,val:=v }) clock),?_,⟨_,_,hat _,by simp[h1,hn],?_,fun k'=>?_⟩,hkept _⟩
  ·simp[Instr.mapUpdate,run_underlying hm,MapKept.run_getObj_map hb,K.check false k hk,hr,hj,Instr.keyThatStays,h3,K.bits k hk,MapKept.run_setObj_map _ hb,Result.andThen,ak]
  ·intro x hx;rcases MapFrom.mem_modify hx with hx|⟨e',_,rfl⟩
   ·exact hes x hx
   ·exact hk
  ·rw[Array.toList_modify,h4 v k',hf k']
theorem fI (s:ByteArray):(s==s)=true:=by
 cases s with
 |mk a=>exact (beq_self_eq_true a:(a==a)=true)
theorem pC (w:World):iG 9 wP w where
 check:=(km w).check
 equal:=fun a b ⟨s,h⟩ ⟨r,k⟩=>by
  subst h k;refine⟨s==r,?_,fun q=>by rw[ii q],fun q=>?_⟩
  ·have hu:Tryz.prog.underlying 9=some .string:=by kernel_rfl
   have h:∀ d:Nat,(Op.equalIn (d+1) 9 (.string s) (.string r)).run Tryz.prog w=.ok (s==r) w:=fun d=>by simp[Op.equalIn,run_underlying hu]
   exact h 9999
  ·obtain rfl:s=r:=Value.string.inj q;exact fI s
 now:=fun d a b r hs ⟨s,h⟩ ⟨u,k⟩=>by
  subst h k;cases d<;>simp[Instr.sameNow]at hs;subst hs;refine⟨fun q=>by rw[ii q],fun q=>?_⟩;obtain rfl:s=u:=Value.string.inj q;exact fI s
 bits:=fun a ⟨s,h⟩=>by subst h;exact fI s
 und:=⟨.string,by kernel_rfl⟩
theorem eP (w:World):iG 3 jO w where
 check:=(kj w).check
 equal:=fun a b ⟨s,h⟩ ⟨r,k⟩=>by
  subst h k;refine⟨s==r,?_,by simp⟩;have hu:Tryz.prog.underlying 3=some (.int .i64):=by kernel_rfl
  have h:∀ d:Nat,(Op.equalIn (d+1) 3 (.int .i64 s) (.int .i64 r)).run Tryz.prog w=.ok (s==r) w:=fun d=>by simp[Op.equalIn,run_underlying hu]
  exact h 9999
 now:=fun d a b r hs ⟨s,h⟩ ⟨u,k⟩=>by
  subst h k;cases d<;>simp[Instr.sameNow]at hs;subst hs;simp
 bits:=fun a ⟨s,h⟩=>by subst h;simp[Instr.sameBits]
 und:=⟨.int .i64,by kernel_rfl⟩
theorem fT (w:World):iG 109 (jP w) w where
 check:=(kk w).check
 equal:=fun a b ha hb=>by
  obtain⟨r,h1,h2⟩:=(kk w).equal a b ha hb;obtain⟨b1,o1,c1,t1,rfl,k1⟩:=ha;obtain⟨b2,o2,c2,t2,rfl,k2⟩:=hb;refine⟨r,h1,fun q=>?_,fun q=>?_⟩
  ·have:=h2 q;simp only[Instr.sameBits,beq_iff_eq]at this;rw[this]
  ·rw[<-q]at h1;have hu:Tryz.prog.underlying 109=some (.pointer 27):=by kernel_rfl
   have hj:(Tryz.prog.info? 27).map (fun i=>i.size)=some 7:=by kernel_rfl
   rcases hi:Tryz.prog.info? 27 with _|j
   ·rw[hi]at hj;cases hj
   ·have h:∀ d:Nat,(Op.equalIn (d+1) 109 (.pointer (some ⟨b1,o1,none⟩)) (.pointer (some ⟨b1,o1,none⟩))).run Tryz.prog w=.ok true w:=fun d=>by
     simp[Op.equalIn,run_underlying hu,sizeOf,typeInfo,hi,run_sameAddr_same]
    have:=(h 9999).symm.trans h1;simp only[Result.ok.injEq]at this;exact this.1.symm
 now:=fun d a b r hs ⟨_,_,_,_,h,_⟩ ⟨_,_,_,_,k,_⟩=>by
  subst h k;cases d<;>simp[Instr.sameNow]at hs
 bits:=fun a ⟨_,_,_,_,h,_⟩=>by subst h;simp[Instr.sameBits]
 und:=⟨.pointer 27,by kernel_rfl⟩
theorem pD (w:World):iG 134 kW w where
 check:=(ir w).check
 equal:=fun a b h k=>by
  obtain⟨⟨i,j,hx⟩,la,hla⟩:=h;obtain⟨_,lb,hlb⟩:=k;obtain⟨r,hr,hiff⟩:=Go.run_equal_deep w (m:=2) (by omega) (k:=134) (by kernel_rfl) (by kernel_rfl) hla hlb;refine⟨r,hr,fun q=>?_,fun q=>hiff.2 ?_⟩
  ·have e:la=lb:=hiff.1 q;exact nP.inj hla (e▸hlb)
  ·subst q;exact Option.some.inj (hla.symm.trans hlb)
 now:=fun d a b r hs h k=>by
  obtain⟨⟨i,j,hx⟩,_⟩:=h;subst hx;cases d<;>simp[Instr.sameNow]at hs
 bits:=fun a h=>by
  obtain⟨⟨i,j,hx⟩,_⟩:=h;subst hx;simp[Instr.sameBits]
 und:=⟨.array 2 3,by kernel_rfl⟩
end Go.Proofs.YtlhojoefhannnaaGreat
namespace Go.Proofs.YtlhojoefhannnaaGreat
open Go.RowKit NumB
inductive cw (p:Nat->Prop) (f:Nat->Option Tm) (w:World):Tm->List Value->Prop
 |mk (k v:Int) (s:ByteArray) (n:LN) (args:List Tm) (A B:Value) (Ar:Option Addr) (cap:Nat) (cs:Nat->List Value)
  (hk:an k) (hv:an v) (hs:s.size<=maxLen) (hA:iH p w A n.num) (hB:iH p w B n.den) (hn:n.ok)
  (hcap:args.length<=cap) (hm:cap<=maxLen)
  (hr:0<args.length->∃ b arr,Ar=some ⟨b,0,none⟩/\p b/\f b=some (.mk k v s n args)/\af w b 27 arr/\∀ i,i<args.length->∀ j,j<7->arr[i*7+j]?=(cs i)[j]?)
  (ha:∀ i (h:i<args.length),cw p f w args[i] (cs i)):
  cw p f w (.mk k v s n args) [.int .i64 k,.int .i64 v,.string s,.bool n.neg,A,B,.slice Ar args.length cap]
theorem cw.tcp {p:Nat->Prop} {f:Nat->Option Tm} {w:World} {t:Tm} {cs:List Value} (h:cw p f w t cs):cr p w t cs:=by
 induction h with
 |mk k v s n args A C Ar cap cs hk hv hs hA hC hn hcap hm hr ha ih=>
  refine .mk k v s n args A C Ar cap cs hk hv hs hA hC hn hcap hm (fun h0=>?_) ih;obtain⟨b,arr,e,hp,hf,harr,hc⟩:=hr h0;exact⟨b,0,e,hp,harr.lt,fun i hi j hj=>by rw[<-hc i hi j hj,harr.cell,Nat.zero_add]⟩
theorem cw.tc {p:Nat->Prop} {f:Nat->Option Tm} {w:World} {t:Tm} {cs:List Value} (h:cw p f w t cs):TC w t cs:=h.tcp.tc
theorem cw.to {p:Nat->Prop} {f:Nat->Option Tm} {w w':World} {t:Tm} {cs:List Value} (h:cw p f w t cs) (hs:w.heap.size<=w'.heap.size) (hb:∀ b,p b->b<w.heap.size->w'.heap[b]?=w.heap[b]?):cw p f w' t cs:=by
 induction h with
 |mk k v s n args A C Ar cap cs hk hv hs' hA hC hn hcap hm hr ha ih=>
  refine .mk k v s n args A C Ar cap cs hk hv hs' (hA.to hs hb) (hC.to hs hb) hn hcap hm (fun h0=>?_) ih;obtain⟨b,arr,e,hp,hf,harr,hc⟩:=hr h0;exact⟨b,arr,e,hp,hf,(hb b hp harr.lt).trans harr,hc⟩
theorem cw.mono {p q:Nat->Prop} {f g:Nat->Option Tm} {w:World} {t:Tm} {cs:List Value} (h:cw p f w t cs) (hpq:∀ b,p b->b<w.heap.size->q b) (hg:∀ b,p b->b<w.heap.size->g b=f b):cw q g w t cs:=by
 induction h with
 |mk k v s n args A C Ar cap cs hk hv hs' hA hC hn hcap hm hr ha ih=>
  refine .mk k v s n args A C Ar cap cs hk hv hs' (hA.mono hpq) (hC.mono hpq) hn hcap hm (fun h0=>?_) ih;obtain⟨b,arr,e,hp,hf,harr,hc⟩:=hr h0;exact⟨b,arr,e,hpq b hp harr.lt,(hg b hp harr.lt).trans hf,harr,hc⟩
theorem cw.kept {p q:Nat->Prop} {f:Nat->Option Tm} {w w':World} {t:Tm} {cs:List Value} (h:cw p f w t cs) (hk:ah q w w') (hp:∀ k,p k->¬q k):cw p f w' t cs:=h.to hk.size fun b hb hlt=>hk.block b hlt (hp b hb)
theorem cw.form {p:Nat->Prop} {f:Nat->Option Tm} {w:World} {t:Tm} {cs:List Value} (h:cw p f w t cs):∃ k v s ng A1 n1 c1 B1 m1 d1 Xr l cap,cs=[.int .i64 k,.int .i64 v,.string s,.bool ng,.slice A1 n1 c1,.slice B1 m1 d1,.slice Xr l cap]:=h.tc.form
theorem cw.var {p:Nat->Prop} {f:Nat->Option Tm} {w:World} {v:Int} (hv:an v):cw p f w (.var v) (vt v):=
 .mk 1 v ⟨#[]⟩ ⟨false,[],[]⟩ [] (.slice none 0 0) (.slice none 0 0) none 0 (fun _=>[]) ⟨by decide,by decide⟩ hv (by decide) (.nil_ p w) (.nil_ p w) ⟨Ok.nil,Ok.nil⟩ (Nat.le_refl _) (by decide) (fun h=>absurd h (by simp)) fun i h=>absurd h (by simp)
theorem iG.sub {kt:TypeId} {KP KP':Value->Prop} {w:World} (K:iG kt KP w) (h:∀ v,KP' v->KP v):iG kt KP' w:=
 ⟨fun e a ha=>K.check e a (h a ha),fun a b ha hb=>K.equal a b (h a ha) (h b hb),fun d a b r hs ha hb=>K.now d a b r hs (h a ha) (h b hb),fun a ha=>K.bits a (h a ha),K.und⟩
theorem lW (w:World):iG 109 (og w) w:=(fT w).sub fun _ h=>h.ptr
theorem fV {α:Type}:∀ (Ts L:List α),Ts.Nodup->(∀ t∈Ts,t∈L)->Ts.length<=L.length
 |[],_,_,_=>Nat.zero_le _
 |t::Ts,L,h,hs=>by
  obtain⟨A,B,e⟩:=List.append_of_mem (hs t (by simp));subst e;have hn:=List.nodup_cons.1 h;have:=fV Ts (A++B) hn.2 fun u hu=>by
   have h1:=hs u (by simp[hu]);rcases List.mem_append.1 h1 with h1|h1
   ·exact List.mem_append_left _ h1
   ·rcases List.mem_cons.1 h1 with rfl|h1
    ·exact absurd hu hn.1
    ·exact List.mem_append_right _ h1
  simp only[List.length_append,List.length_cons]at this ⊢;omega
structure au (f:Nat->Option Tm) (L:List Tm) (w:World) (p m1 m2:Nat) (Ts:List Tm):Prop where
 ne:m1≠m2
 blk:af w p 186 #[.map (some m1),.map (some m2)]
 node:∃ n g,bS (og w) w m1 n g/\∀ b o v,g (.pointer (some ⟨b,o,none⟩))=some v->∃ (i:Nat) (t:Tm),f b=some t/\Ts[i]?=some t/\v=.int .i64 (i:Int)
 form:∃ g,bS wP w m2 Ts.length g/\(∀ s v,g (.string s)=some v->∃ (i:Nat) (t:Tm),Ts[i]?=some t/\cP Ts t s.toList/\v=.int .i64 (i:Int))/\∀ (i:Nat) (t:Tm) (s:ByteArray),Ts[i]?=some t->cP Ts t s.toList->g (.string s)=some (.int .i64 (i:Int))
 namd:qE Ts
 sub:∀ t∈Ts,t∈L
theorem au.le {f:Nat->Option Tm} {L:List Tm} {w:World} {p m1 m2:Nat} {Ts:List Tm} (h:au f L w p m1 m2 Ts):Ts.length<=L.length:=fV _ _ h.namd.nodup h.sub
theorem au.cells {f:Nat->Option Tm} {L:List Tm} {w:World} {p m1 m2:Nat} {Ts:List Tm} (h:au f L w p m1 m2 Ts) {k:Nat} {cs:Array Value} {T:TypeId} {z:Nat×Nat} (hk:w.heap[k]?=some (Obj.cells cs T z)):¬KN m1 m2 k:=by
 obtain⟨_,_,h1,_⟩:=h.node;obtain⟨_,h2,_⟩:=h.form;obtain⟨_,_,e1,_⟩:=h1.is;obtain⟨_,_,e2,_⟩:=h2.is;rintro (rfl|rfl)
 ·rw[e1]at hk;cases hk
 ·rw[e2]at hk;cases hk
theorem au.same {f:Nat->Option Tm} {L:List Tm} {w w':World} {p m1 m2:Nat} {Ts:List Tm} (h:au f L w p m1 m2 Ts) (hs:rS w w'):au f L w' p m1 m2 Ts:=by
 obtain⟨h0,h1,⟨n,g,h2,h3⟩,⟨g2,h4,h5⟩,h6,h7⟩:=h;refine⟨h0,hs p _ h1 (qF.of_cells (by decide) (by decide)),⟨n,g,h2.same (fun o ho=>?_) ?_,h3⟩,⟨g2,h4.same (fun o ho=>?_) (fun v h=>h),h5⟩,h6,h7⟩
 ·obtain⟨_,_,e,_⟩:=h2.is;rw[e]at ho;cases ho;exact hs _ _ e qF.of_map
 ·rintro v ⟨b,o,cs,e,hb⟩;exact⟨b,o,cs,e,hs _ _ hb (qF.of_cells (by decide) (by decide))⟩
 ·obtain⟨_,_,e,_⟩:=h4.is;rw[e]at ho;cases ho;exact hs _ _ e qF.of_map
theorem BX.is {w:World} {B b:Nat} {l:List UInt8} (h:BX w B b l):∃ c f,w.heap[b]?=some (Obj.cells c 189 f):=by
 rcases h with h|h
 ·obtain⟨_,v,h,_⟩:=h;exact⟨_,_,h⟩
 ·obtain⟨_,v,h,_⟩:=h;exact⟨_,_,h⟩
theorem au.others {f:Nat->Option Tm} {L:List Tm} {w w':World} {p m1 m2 B b:Nat} {Ts:List Tm} {l:List UInt8} (h:au f L w p m1 m2 Ts) (ho:Lib.OthersKept 5 (some b) w w') (hd:BX w B b l):au f L w' p m1 m2 Ts:=h.same (em ho hd.is)
theorem au.below {f:Nat->Option Tm} {L:List Tm} {w w':World} {p m1 m2:Nat} {Ts:List Tm} (h:au f L w p m1 m2 Ts) (hb:Below w.heap.size w w'):au f L w' p m1 m2 Ts:=h.same (jY hb)
theorem au.drew {f:Nat->Option Tm} {L:List Tm} {w:World} {p m1 m2:Nat} {Ts:List Tm} (h:au f L w p m1 m2 Ts):au f L w.drew p m1 m2 Ts:=h.same fun _ _ h _=>h
theorem af.othersX {w w':World} {g B b:Nat} {T:TypeId} {cs:Array Value} {l:List UInt8} (h:af w g T cs) (h1:T≠5) (h2:T≠189) (ho:Lib.OthersKept 5 (some b) w w') (hd:BX w B b l):af w' g T cs:=
 em ho hd.is g _ h (qF.of_cells h1 h2)
theorem au.nsc {f:Nat->Option Tm} {L:List Tm} {w:World} {p m1 m2:Nat} {Ts:List Tm} (h:au f L w p m1 m2 Ts):w.cell? ⟨p,0,none⟩=some (.map (some m1))/\w.cell? ⟨p,1,none⟩=some (.map (some m2)):=⟨h.blk.cell 0,h.blk.cell 1⟩
theorem au.lookNode {f:Nat->Option Tm} {L:List Tm} {w:World} {p m1 m2:Nat} {Ts:List Tm} (h:au f L w p m1 m2 Ts) {b o:Nat} {arr:Array Value} (hb:af w b 27 arr):∃ (i:Nat) (ok:Bool),i<=L.length/\(Instr.lookup 108 (.map (some m1)) (.pointer (some ⟨b,o,none⟩)) true).run Tryz.prog w=.ok (.tuple #[.int .i64 (i:Int),.bool ok]) w/\(ok=true->∃ t,f b=some t/\Ts[i]?=some t):=by
 obtain⟨n,g,hM,hg⟩:=h.node;have hl:=(cM (lW w) (mt:=108) (by kernel_rfl) (z:=.int .i64 0) (Tryz.zeroValue3 w) (k:=.pointer (some ⟨b,o,none⟩)) ⟨b,o,arr,rfl,hb⟩ hM).1;cases hv:g (.pointer (some ⟨b,o,none⟩)) with
 |none=>rw[hv]at hl;exact⟨0,false,Nat.zero_le _,hl,fun h=>by cases h⟩
 |some v=>
  obtain⟨i,t,h1,h2,rfl⟩:=hg b o v hv;rw[hv]at hl;exact⟨i,true,Nat.le_trans (Nat.le_of_lt (List.getElem?_eq_some_iff.1 h2).1) h.le,hl,fun _=>⟨t,h1,h2⟩⟩
theorem au.lookForm {f:Nat->Option Tm} {L:List Tm} {w:World} {p m1 m2:Nat} {Ts:List Tm} (h:au f L w p m1 m2 Ts) (hL:L.length<=1000000) {t:Tm} {s:ByteArray} (hF:cP Ts t s.toList) (ht:t.fine) (hw:t.few):∃ (i:Nat) (ok:Bool),i<=L.length/\(Instr.lookup 114 (.map (some m2)) (.string s) true).run Tryz.prog w=.ok (.tuple #[.int .i64 (i:Int),.bool ok]) w/\(ok=true->Ts[i]?=some t)/\(ok=false->t∉Ts):=by
 obtain⟨g,hM,hg,hg2⟩:=h.form;have hle:=h.le;have hl:=(cM (pC w) (mt:=114) (by kernel_rfl) (z:=.int .i64 0) (Tryz.zeroValue3 w) (k:=.string s) ⟨s,rfl⟩ hM).1;cases hv:g (.string s) with
 |none=>
  rw[hv]at hl;refine⟨0,false,Nat.zero_le _,hl,fun h=>(by cases h),fun _ hm=>?_⟩;obtain⟨i,hi,e⟩:=List.getElem_of_mem hm;have:=hg2 i t s (by rw[List.getElem?_eq_getElem hi,e]) hF;rw[hv]at this;cases this
 |some v=>
  obtain⟨i,u,h1,h2,rfl⟩:=hg s v hv;rw[hv]at hl;have hi:=(List.getElem?_eq_some_iff.1 h1);obtain⟨hi1,hi2⟩:=hi;have hu:=h.namd.fine u (by rw[<-hi2];exact List.getElem_mem hi1);have e:=cP.inj (by omega) hu.1 ht hu.2.1 hw h2 hF;subst e;exact⟨i,true,by omega,hl,fun _=>h1,fun h=>by cases h⟩
theorem au.putForm {f:Nat->Option Tm} {L:List Tm} {w:World} {p m1 m2:Nat} {Ts:List Tm} (h:au f L w p m1 m2 Ts) (hL:L.length<=1000000) {t:Tm} {s:ByteArray} (hF:cP Ts t s.toList) (ht:t.fine) (hw:t.few) (hn:t∉Ts) (hm:t∈L):∃ w',(Instr.mapUpdate 114 (.map (some m2)) (.string s) (.int .i64 (Ts.length:Int))).run Tryz.prog w=.ok () w'/\au f L w' p m1 m2 (Ts++[t])/\ah (fun k=>k=m2) w w':=by
 have hc:=@au.cells _ _ _ _ _ _ _ h;have hle:=h.le;obtain⟨h0,h1,⟨n,g,h2,h3⟩,⟨g2,h4,h5,h6⟩,h7,h8⟩:=h;obtain⟨w',hr,hM,hk⟩:=dt (et:=3) (pC w) (mt:=114) (by kernel_rfl) (k:=.string s) ⟨s,rfl⟩ (.int .i64 (Ts.length:Int)) h4;have kp:∀ k o,w.heap[k]?=some o->k≠m2->w'.heap[k]?=some o:=fun k o h h'=>(hk.block k (aw h) h').trans h;have hv:g2 (.string s)=none:=by
  cases hv:g2 (.string s) with
  |none=>rfl
  |some v=>
   obtain⟨i,u,q1,q2,rfl⟩:=h5 s v hv;obtain⟨hi1,hi2⟩:=List.getElem?_eq_some_iff.1 q1;have hu:=h7.fine u (by rw[<-hi2];exact List.getElem_mem hi1);have e:=cP.inj (by omega) hu.1 ht hu.2.1 hw q2 hF;subst e;exact absurd (by rw[<-hi2];exact List.getElem_mem hi1) hn
 have h7':=h7.add ht hw hF hn;rw[hv]at hM;refine⟨w',hr,⟨h0,hk.blk h1 (fun e=>hc h1 (.inr e)),⟨n,g,h2.same (fun o ho=>kp _ _ ho h0) ?_,fun b o v hb=>?_⟩,⟨_,by simpa using hM,fun s' v hs'=>?_,fun i u s' hi hu=>?_⟩,h7',fun u hu=>?_⟩,hk⟩
 ·rintro v ⟨b,o,cs,e,hb⟩;exact⟨b,o,cs,e,kp _ _ hb (fun e=>hc hb (.inr e))⟩
 ·obtain⟨i,u,q1,q2,q3⟩:=h3 b o v hb;exact⟨i,u,q1,by rw[List.getElem?_append_left (List.getElem?_eq_some_iff.1 q2).1];exact q2,q3⟩
 ·by_cases e:(Value.string s')=.string s
  ·rw[if_pos e]at hs';obtain rfl:=Value.string.inj e;exact⟨Ts.length,t,by simp,hF.more,(Option.some.inj hs').symm⟩
  ·rw[if_neg e]at hs';obtain⟨i,u,q1,q2,q3⟩:=h5 s' v hs';exact⟨i,u,by rw[List.getElem?_append_left (List.getElem?_eq_some_iff.1 q1).1];exact q1,q2.more,q3⟩
 ·by_cases hl:i<Ts.length
  ·rw[List.getElem?_append_left hl]at hi;have hmem:u∈Ts:=by
    obtain⟨_,e⟩:=List.getElem?_eq_some_iff.1 hi;rw[<-e];exact List.getElem_mem _
   obtain⟨f1,f2,fm,hfm⟩:=h7.fine u hmem;have e1:s'.toList=fm:=cP.one h7'.nodup hu hfm.more;have hns:¬(Value.string s')=.string s:=fun e=>by
    obtain rfl:=Value.string.inj e;have:=cP.inj (by simp;omega) f1 ht f2 hw hu hF.more;subst this;exact hn hmem
   rw[if_neg hns];exact h6 i u s' hi (by rw[e1];exact hfm)
  ·have hlt:=(List.getElem?_eq_some_iff.1 hi).1;rw[List.length_append,List.length_singleton]at hlt;obtain rfl:i=Ts.length:=by omega
   have e:t=u:=by simpa using hi
   subst e;have e1:s'.toList=s.toList:=cP.one h7'.nodup hu hF.more;rw[cJ e1,if_pos rfl]
 ·rcases List.mem_append.1 hu with hu|hu
  ·exact h8 u hu
  ·rw[List.mem_singleton]at hu;subst hu;exact hm
theorem au.putNode {f:Nat->Option Tm} {L:List Tm} {w:World} {p m1 m2:Nat} {Ts:List Tm} (h:au f L w p m1 m2 Ts) {b o i:Nat} {arr:Array Value} {t:Tm} (hb:af w b 27 arr) (hf:f b=some t) (hi:Ts[i]?=some t):∃ w',(Instr.mapUpdate 108 (.map (some m1)) (.pointer (some ⟨b,o,none⟩)) (.int .i64 (i:Int))).run Tryz.prog w=.ok () w'/\au f L w' p m1 m2 Ts/\ah (fun k=>k=m1) w w':=by
 have hc:=@au.cells _ _ _ _ _ _ _ h;obtain⟨h0,h1,⟨n,g,h2,h3⟩,⟨g2,h4,h5⟩,h7,h8⟩:=h;obtain⟨w',hr,hM,hk⟩:=dt (et:=3) (lW w) (mt:=108) (by kernel_rfl) (k:=.pointer (some ⟨b,o,none⟩)) ⟨b,o,arr,rfl,hb⟩ (.int .i64 (i:Int)) h2;have kp:∀ k o,w.heap[k]?=some o->k≠m1->w'.heap[k]?=some o:=fun k o h h'=>(hk.block k (aw h) h').trans h;refine⟨w',hr,⟨h0,hk.blk h1 (fun e=>hc h1 (.inl e)),⟨_,_,hM.same (fun o h=>h) ?_,fun b' o' v hb'=>?_⟩,⟨g2,h4.same (fun o ho=>kp _ _ ho (fun e=>h0 e.symm)) (fun v h=>h),h5⟩,h7,h8⟩,hk⟩
 ·rintro v ⟨b,o,cs,e,hb⟩;exact⟨b,o,cs,e,kp _ _ hb (fun e=>hc hb (.inl e))⟩
 ·by_cases e:(Value.pointer (some ⟨b',o',none⟩))=.pointer (some ⟨b,o,none⟩)
  ·rw[if_pos e]at hb';simp only[Value.pointer.injEq,Option.some.injEq,Addr.mk.injEq]at e;obtain⟨rfl,_,_⟩:=e;exact⟨i,t,hf,hi,(Option.some.inj hb').symm⟩
  ·rw[if_neg e]at hb';exact h3 b' o' v hb'
theorem au.len {f:Nat->Option Tm} {L:List Tm} {w:World} {p m1 m2:Nat} {Ts:List Tm} (h:au f L w p m1 m2 Ts):∃ es c,w.heap[m2]?=some (.map es c)/\es.size=Ts.length:=by
 obtain⟨_,hM,_⟩:=h.form;exact hM.is
theorem au.new (f:Nat->Option Tm) (L:List Tm) (w:World):au f L (((w.alloc (.map #[] 0)).alloc (.map #[] 0)).alloc (.cells #[.map (some w.heap.size),.map (some (w.heap.size+1))] 186)) (w.heap.size+2) w.heap.size (w.heap.size+1) []:=by
 have hs:((w.alloc (.map #[] 0)).alloc (.map #[] 0)).heap.size=w.heap.size+2:=by simp
 have hb:=af.new ((w.alloc (.map #[] 0)).alloc (.map #[] 0)) 186 #[.map (some w.heap.size),.map (some (w.heap.size+1))];rw[hs]at hb;refine⟨by omega,hb,⟨0,_,.empty (c:=0) ?_,fun b o v h=>by cases h⟩,⟨_,.empty (c:=0) ?_,fun s v h=>(by cases h),fun i t s h=>(by simp at h)⟩,qE.nil,fun t h=>(by cases h)⟩
 ·rw[Lib.alloc_old _ _ _ (by simp;omega),Lib.alloc_old _ _ _ (by simp)];exact heap_alloc_new w _
 ·rw[Lib.alloc_old _ _ _ (by simp)];have h:=heap_alloc_new (w.alloc (.map #[] 0)) (.map #[] 0)
  rwa [show (w.alloc (.map #[] 0)).heap.size=w.heap.size+1 by simp]at h
theorem cQ (k v:Int) (s:ByteArray) (ng:Bool) (A1:Option Addr) (n1 c1:Nat) (B1:Option Addr) (q1 d1:Nat) (ab ao l xc:Nat) (hl:0<l) (w:World):
 Calls Tryz.prog 63 #[.agg #[.int .i64 k,.int .i64 v,.string s,.bool ng,.slice A1 n1 c1,.slice B1 q1 d1,.slice (some ⟨ab,ao,none⟩) l xc]] w fun e w'=>e=.returned (.pointer (some ⟨ab,ao,none⟩))/\Below w.heap.size w w':=by
 have h0:(0:Int)<(l:Int):=by omega
 go_enter Tryz.func63,Tryz.ntmps63;go_wp2_with fail;go_ret;exact⟨rfl,I w _⟩
theorem wU {w y:World} {p m1 m2 n T:Nat} {arr:Array Value} (k v:Int) (s:ByteArray) (ng:Bool) (A1:Option Addr) (n1 c1:Nat) (B1:Option Addr) (q1 d1:Nat) (ab ao l xc:Nat) (hl:0<l)
 (hn:aE y p m1 m2 n) (ht:af y T 27 #[.int .i64 k,.int .i64 v,.string s,.bool ng,.slice A1 n1 c1,.slice B1 q1 d1,.slice (some ⟨ab,ao,none⟩) l xc]) (ha:af y ab 27 arr) (hk:ah (KN m1 m2) w y):
 Calls Tryz.prog 63 #[.agg #[.int .i64 k,.int .i64 v,.string s,.bool ng,.slice A1 n1 c1,.slice B1 q1 d1,.slice (some ⟨ab,ao,none⟩) l xc]] y fun e y'=>∃ (i:Int) (ok:Bool),e=.returned (.pointer (some ⟨ab,ao,none⟩))/\Hid (an i)/\(Instr.lookup 108 (.map (some m1)) (.pointer (some ⟨ab,ao,none⟩)) true).run Tryz.prog y'=.ok (.tuple #[.int .i64 i,.bool ok]) y'/\
  Hid (aE y' p m1 m2 n)/\Hid (af y' T 27 #[.int .i64 k,.int .i64 v,.string s,.bool ng,.slice A1 n1 c1,.slice B1 q1 d1,.slice (some ⟨ab,ao,none⟩) l xc])/\Hid (af y' ab 27 arr)/\Hid (ah (KN m1 m2) w y')/\(y'.cell? ⟨p,0,none⟩=some (.map (some m1))/\y'.cell? ⟨T,0,none⟩=some (.int .i64 k)/\y'.cell? ⟨T,1,none⟩=some (.int .i64 v)/\y'.cell? ⟨T,2,none⟩=some (.string s)/\y'.cell? ⟨T,3,none⟩=some (.bool ng)/\y'.cell? ⟨T,4,none⟩=some (.slice A1 n1 c1)/\y'.cell? ⟨T,5,none⟩=some (.slice B1 q1 d1)/\y'.cell? ⟨T,6,none⟩=some (.slice (some ⟨ab,ao,none⟩) l xc)):=by
 refine (cQ k v s ng A1 n1 c1 B1 q1 d1 ab ao l xc hl y).mono ?_;rintro e y' ⟨rfl,hb⟩;have hn':=hn.below hb;have ha':=ha.to hb;have ht':=ht.to hb;obtain⟨i,ok,hi,hr⟩:=hn'.node (k:=.pointer (some ⟨ab,ao,none⟩)) ⟨ab,ao,arr,rfl,ha'⟩;exact⟨i,ok,rfl,hi,hr,hn',ht',ha',hk.trans (ah.of_below hb),hn'.nsc.1,ht'.cell 0,ht'.cell 1,ht'.cell 2,ht'.cell 3,ht'.cell 4,ht'.cell 5,ht'.cell 6⟩
theorem uY {w y:World} {p m1 m2 n T:Nat} {arr:Array Value} (k v:Int) (s:ByteArray) (ng:Bool) (A1:Option Addr) (n1 c1:Nat) (B1:Option Addr) (q1 d1:Nat) (ab ao l xc:Nat) (hl:0<l)
 (hn:aE y p m1 m2 n) (ht:af y T 27 #[.int .i64 k,.int .i64 v,.string s,.bool ng,.slice A1 n1 c1,.slice B1 q1 d1,.slice (some ⟨ab,ao,none⟩) l xc]) (ha:af y ab 27 arr) (hk:ah (KN m1 m2) w y) {i:Int} (hi:an i):
 Calls Tryz.prog 63 #[.agg #[.int .i64 k,.int .i64 v,.string s,.bool ng,.slice A1 n1 c1,.slice B1 q1 d1,.slice (some ⟨ab,ao,none⟩) l xc]] y fun e y'=>∃ (z:World),e=.returned (.pointer (some ⟨ab,ao,none⟩))/\(Instr.mapUpdate 108 (.map (some m1)) (.pointer (some ⟨ab,ao,none⟩)) (.int .i64 i)).run Tryz.prog y'=.ok () z/\
  Hid (aE z p m1 m2 (n+1))/\Hid (ah (KN m1 m2) w z)/\(y'.cell? ⟨p,0,none⟩=some (.map (some m1))/\y'.cell? ⟨T,0,none⟩=some (.int .i64 k)/\y'.cell? ⟨T,1,none⟩=some (.int .i64 v)/\y'.cell? ⟨T,2,none⟩=some (.string s)/\y'.cell? ⟨T,3,none⟩=some (.bool ng)/\y'.cell? ⟨T,4,none⟩=some (.slice A1 n1 c1)/\y'.cell? ⟨T,5,none⟩=some (.slice B1 q1 d1)/\y'.cell? ⟨T,6,none⟩=some (.slice (some ⟨ab,ao,none⟩) l xc))/\(z.cell? ⟨p,0,none⟩=some (.map (some m1))/\z.cell? ⟨T,0,none⟩=some (.int .i64 k)/\z.cell? ⟨T,1,none⟩=some (.int .i64 v)/\z.cell? ⟨T,2,none⟩=some (.string s)/\z.cell? ⟨T,3,none⟩=some (.bool ng)/\z.cell? ⟨T,4,none⟩=some (.slice A1 n1 c1)/\z.cell? ⟨T,5,none⟩=some (.slice B1 q1 d1)/\z.cell? ⟨T,6,none⟩=some (.slice (some ⟨ab,ao,none⟩) l xc)):=by
 refine (cQ k v s ng A1 n1 c1 B1 q1 d1 ab ao l xc hl y).mono ?_;rintro e y' ⟨rfl,hb⟩;have hn':=hn.below hb;have ha':=ha.to hb;have ht':=ht.to hb;obtain⟨z,hr,hz,hkz⟩:=hn'.putNode (k:=.pointer (some ⟨ab,ao,none⟩)) ⟨ab,ao,arr,rfl,ha'⟩ hi;have ht2:=hkz.blk ht' (fun e=>hn'.cells ht' (.inl e));exact⟨z,rfl,hr,hz,(hk.trans (ah.of_below hb)).trans (hkz.mono fun k e=>.inl e),⟨hn'.nsc.1,ht'.cell 0,ht'.cell 1,ht'.cell 2,ht'.cell 3,ht'.cell 4,ht'.cell 5,ht'.cell 6⟩,hz.nsc.1,ht2.cell 0,ht2.cell 1,ht2.cell 2,ht2.cell 3,ht2.cell 4,ht2.cell 5,ht2.cell 6⟩
end Go.Proofs.YtlhojoefhannnaaGreat
