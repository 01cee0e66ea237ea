/- The laws of matching, in plain Lean. -/
import Derived.Test.YtkfnpcilanheiaaGreatJo27
import Derived.Test.YtkfnpcilanheiaaGreatJo32
set_option linter.unusedVariables false
set_option linter.unusedSimpArgs false
set_option maxRecDepth 100000
namespace Go.Proofs.YtkfnpcilanheiaaGreat
open Go.RowKit NumB
theorem ba_nil {s : ByteArray} (h : s.size = 0) : s = ⟨#[]⟩ := by
  cases s with
  | mk d =>
    have hd : d.size = 0 := h
    rw [Array.eq_empty_of_size_eq_zero hd]
theorem ba_of_list {s t : ByteArray} (h : s.toList = t.toList) : s = t := by
  rw [Lib.toList_data, Lib.toList_data] at h
  cases s; cases t
  simpa using h
theorem ln_zero {n : LN} (h1 : n.neg = false) (h2 : n.num.length = 0) (h3 : n.den.length = 0) : n = ⟨false, [], []⟩ := by
  cases n with
  | mk a b c =>
    simp only at h1 h2 h3
    rw [h1, List.eq_nil_of_length_eq_zero h2, List.eq_nil_of_length_eq_zero h3]
theorem node_rest {k v : Int} {s : ByteArray} {n : LN} {na : Nat} (h : nodeE k v s n.neg n.num.length n.den.length n.err na = 0) (hk : k ≠ 1) : v = 0 ∧ (k = 2 → s = ⟨#[]⟩ ∧ na = 0 ∧ n.err = 0) ∧ (k ≠ 2 → n = ⟨false, [], []⟩) := by
  rcases node_parts h with ⟨h1, h2, h3, h4, h5⟩ | ⟨h1, h2, h3, h4, h5⟩
  · exact ⟨h2, fun _ => ⟨ba_nil h3, h5, h4⟩, fun h => absurd h1 h⟩
  · refine ⟨?_, fun h => absurd h h1, fun _ => ln_zero h2 h3 h4⟩
    rcases h5 with h5 | h5 | h5 | h5
    · exact absurd h5.1 hk
    · exact h5.2.1
    · exact h5.2.1
    · exact h5.2.1
theorem node_var {v : Int} {s : ByteArray} {n : LN} {na : Nat} (h : nodeE 1 v s n.neg n.num.length n.den.length n.err na = 0) : s = ⟨#[]⟩ ∧ na = 0 ∧ n = ⟨false, [], []⟩ := by
  rcases node_parts h with ⟨h1, _⟩ | ⟨h1, h2, h3, h4, h5⟩
  · omega
  · rcases h5 with h5 | h5 | h5 | h5
    · exact ⟨ba_nil h5.2.2.2.1, h5.2.2.2.2, ln_zero h2 h3 h4⟩
    · omega
    · omega
    · omega
theorem data_list (s t : ByteArray) : s.data.toList = t.data.toList ↔ s.toList = t.toList := by rw [Lib.toList_data, Lib.toList_data]
theorem roots_hd {k v : Int} {s : ByteArray} {n : LN} {args : List Tm} {t : Tm} (hp : (Tm.mk k v s n args).fine) (ht : t.fine) (hk : k ≠ 1) : rootsI (.mk k v s n args) t = 0 ↔ (Tm.mk k v s n args).hd t = true := by
  obtain ⟨k2, v2, s2, n2, args2⟩ := t
  rw [Tm.fine] at hp ht
  rw [rootsI, Tm.hd, decide_eq_true_eq, lex_zero, icmp_zero, if_neg hk]
  have hr1 := node_rest hp.2.1 hk
  constructor
  · rintro ⟨rfl, h⟩
    have hr2 := node_rest ht.2.1 hk
    by_cases h2 : k = 2
    · rw [if_pos h2, cmpS_zero hp.1 ht.1 (hr1.2.1 h2).2.2 (hr2.2.1 h2).2.2] at h
      refine ⟨rfl, by rw [(hr1.2.1 h2).1, (hr2.2.1 h2).1], by rw [(hr1.2.1 h2).2.1, (hr2.2.1 h2).2.1], fun _ => (sameB_iff _ _).2 h⟩
    · rw [if_neg h2, lex_zero, icmp_zero, cmpB_zero, data_list] at h
      exact ⟨rfl, h.2, by omega, fun q => absurd q h2⟩
  · rintro ⟨rfl, h1, h2, h3⟩
    have hr2 := node_rest ht.2.1 hk
    refine ⟨rfl, ?_⟩
    by_cases h4 : k = 2
    · rw [if_pos h4, cmpS_zero hp.1 ht.1 (hr1.2.1 h4).2.2 (hr2.2.1 h4).2.2]
      exact (sameB_iff _ _).1 (h3 h4)
    · rw [if_neg h4, lex_zero, icmp_zero, cmpB_zero, data_list]
      exact ⟨by omega, h1⟩
mutual
theorem Tm.cmp_eq : ∀ (a b : Tm), a.fine → b.fine → a.cmp b = 0 → a = b
  | .mk k v s n args, .mk k2 v2 s2 n2 args2, ha, hb, h => by
    rw [Tm.fine] at ha hb
    rw [Tm.cmp, lex_zero, icmp_zero] at h
    obtain ⟨rfl, h⟩ := h
    by_cases h1 : k = 1
    · subst h1
      rw [if_pos rfl, icmp_zero] at h
      have q1 := node_var ha.2.1
      have q2 := node_var hb.2.1
      rw [h, q1.1, q2.1, q1.2.2, q2.2.2, List.eq_nil_of_length_eq_zero q1.2.1, List.eq_nil_of_length_eq_zero q2.2.1]
    · rw [if_neg h1] at h
      have r1 := node_rest ha.2.1 h1
      have r2 := node_rest hb.2.1 h1
      by_cases h2 : k = 2
      · rw [if_pos h2, cmpS_zero ha.1 hb.1 (r1.2.1 h2).2.2 (r2.2.1 h2).2.2] at h
        rw [h, r1.1, r2.1, (r1.2.1 h2).1, (r2.2.1 h2).1, List.eq_nil_of_length_eq_zero (r1.2.1 h2).2.1, List.eq_nil_of_length_eq_zero (r2.2.1 h2).2.1]
      · rw [if_neg h2, lex_zero, icmp_zero, lex_zero, cmpB_zero, data_list] at h
        rw [r1.1, r2.1, r1.2.2 h2, r2.2.2 h2, ba_of_list h.2.1, cmpTs_eq args args2 (by omega) ha.2.2 hb.2.2 h.2.2]
theorem cmpTs_eq : ∀ (a b : List Tm), a.length = b.length → fines a → fines b → cmpTs a b = 0 → a = b
  | [], [], _, _, _, _ => rfl
  | [], _ :: _, h, _, _, _ => by simp at h
  | _ :: _, [], h, _, _, _ => by simp at h
  | t :: l, t' :: l', hl, ha, hb, h => by
    rw [fines] at ha hb
    rw [cmpTs, lex_zero] at h
    rw [t.cmp_eq t' ha.1 hb.1 h.1, cmpTs_eq l l' (by simpa using hl) ha.2 hb.2 h.2]
end
theorem Incr.ins {bs : List (Int × Tm)} (h : Incr bs) {v : Int} (hn : fnd bs v = none) (t : Tm) : Incr (insK (v, t) bs) := by
  have key : ∀ (l : List (Int × Tm)), l.Pairwise (fun a b => a.1 < b.1) → fnd l v = none → (insK (v, t) l).Pairwise (fun a b => a.1 < b.1) := by
    intro l
    induction l with
    | nil => intro _ _; simp [insK]
    | cons y r ih =>
      intro hp hf
      have e1 : ¬ y.1 = v := fun q => by simp [fnd, q] at hf
      have h2 : fnd r v = none := by simpa [fnd, e1] using hf
      rw [List.pairwise_cons] at hp
      rw [insK]
      by_cases hlt : v < y.1
      · rw [if_pos hlt, List.pairwise_cons]
        refine ⟨fun a ha => ?_, List.pairwise_cons.2 hp⟩
        rcases List.mem_cons.1 ha with rfl | ha
        · exact hlt
        · have := hp.1 a ha; show v < a.1; omega
      · rw [if_neg hlt, List.pairwise_cons]
        refine ⟨fun a ha => ?_, ih hp.2 h2⟩
        have hmem : ∀ (l : List (Int × Tm)) (a : Int × Tm), a ∈ insK (v, t) l → a = (v, t) ∨ a ∈ l := by
          intro l
          induction l with
          | nil => intro a ha; simpa [insK] using ha
          | cons z r ih =>
            intro a ha
            rw [insK] at ha
            split at ha
            · simpa using ha
            · rcases List.mem_cons.1 ha with rfl | ha
              · simp
              · rcases ih a ha with h | h
                · exact .inl h
                · exact .inr (by simp [h])
        rcases hmem r a ha with rfl | ha
        · show y.1 < v; omega
        · exact hp.1 a ha
  have := key bs (List.pairwise_iff_getElem.2 fun i j hi hj hij => h i j hi hj hij) hn
  intro i j hi hj hij
  exact List.pairwise_iff_getElem.1 this i j hi hj hij
def Vfi (bs : List (Int × Tm)) : Prop := ∀ v x, fnd bs v = some x → x.fine
mutual
theorem Tm.mat_law : ∀ (p t : Tm) (bs bs' : List (Int × Tm)), p.fine → t.fine → Vfi bs → p.mat t bs = some bs' → (Incr bs → Incr bs') ∧ Vfi bs' ∧ (∀ v x, fnd bs v = some x → fnd bs' v = some x) ∧ ∀ f : Int → Option Tm, (∀ v x, fnd bs' v = some x → f v = some x) → p.repl f = t
  | .mk k v s n args, t, bs, bs', hp, ht, hv, h => by
    rw [Tm.mat] at h
    by_cases hk : k = 1
    · rw [if_pos hk] at h
      cases hf : fnd bs v with
      | none =>
        rw [hf] at h
        cases h
        refine ⟨fun hi => hi.ins hf t, fun u x hx => ?_, fun u x hx => ?_, fun f hq => ?_⟩
        · rw [fnd_ins hf] at hx
          by_cases e : u = v
          · rw [if_pos e] at hx; cases hx; exact ht
          · rw [if_neg e] at hx; exact hv u x hx
        · rw [fnd_ins hf, if_neg (fun e => by subst e; rw [hf] at hx; cases hx)]; exact hx
        · rw [Tm.repl, if_pos hk, hq v t (by rw [fnd_ins hf, if_pos rfl])]
      | some x =>
        rw [hf] at h
        dsimp only at h
        by_cases hc : x.cmp t = 0
        · rw [if_pos hc] at h
          cases h
          refine ⟨fun hi => hi, hv, fun u y hy => hy, fun f hq => ?_⟩
          rw [Tm.repl, if_pos hk, hq v x hf]
          exact x.cmp_eq t (hv v x hf) ht hc
        · rw [if_neg hc] at h; cases h
    · rw [if_neg hk] at h
      by_cases hh : (Tm.mk k v s n args).hd t = true
      · rw [if_pos hh] at h
        obtain ⟨k2, v2, s2, n2, args2⟩ := t
        rw [Tm.hd, decide_eq_true_eq] at hh
        obtain ⟨rfl, h1, h2, h3⟩ := hh
        rw [Tm.fine] at hp ht
        have ih := matL_law args args2 bs bs' h2 hp.2.2 ht.2.2 hv h
        refine ⟨ih.1, ih.2.1, ih.2.2.1, fun f hq => ?_⟩
        have r1 := node_rest hp.2.1 hk
        have r2 := node_rest ht.2.1 hk
        have en : n = n2 := by
          by_cases h4 : k = 2
          · exact (sameB_iff _ _).1 (h3 h4)
          · rw [r1.2.2 h4, r2.2.2 h4]
        rw [Tm.repl, if_neg hk, ih.2.2.2 f hq, r1.1, r2.1, ba_of_list h1, en]
      · rw [if_neg hh] at h; cases h
theorem matL_law : ∀ (ps ts : List Tm) (bs bs' : List (Int × Tm)), ps.length = ts.length → fines ps → fines ts → Vfi bs → matL ps ts bs = some bs' → (Incr bs → Incr bs') ∧ Vfi bs' ∧ (∀ v x, fnd bs v = some x → fnd bs' v = some x) ∧ ∀ f : Int → Option Tm, (∀ v x, fnd bs' v = some x → f v = some x) → replL f ps = ts
  | [], [], bs, bs', _, _, _, hv, h => by
    rw [matL] at h
    cases h
    · exact ⟨fun hi => hi, hv, fun _ _ h => h, fun f _ => by rw [replL]⟩
    · intro p ps t ts h; cases h
  | [], _ :: _, _, _, h, _, _, _, _ => by simp at h
  | _ :: _, [], _, _, h, _, _, _, _ => by simp at h
  | p :: ps, t :: ts, bs, bs', hl, hp, ht, hv, h => by
    rw [fines] at hp ht
    rw [matL] at h
    cases hm : p.mat t bs with
    | none => rw [hm] at h; cases h
    | some b =>
      rw [hm] at h
      have h1 := p.mat_law t bs b hp.1 ht.1 hv hm
      have h2 := matL_law ps ts b bs' (by simpa using hl) hp.2 ht.2 h1.2.1 h
      refine ⟨fun hi => h2.1 (h1.1 hi), h2.2.1, fun v x hx => h2.2.2.1 v x (h1.2.2.1 v x hx), fun f hq => ?_⟩
      rw [replL, h1.2.2.2 f (fun v x hx => hq v x (h2.2.2.1 v x hx)), h2.2.2.2 f hq]
end
theorem insK_mem {x b : Int × Tm} {l : List (Int × Tm)} (h : b ∈ insK x l) : b = x ∨ b ∈ l := by
  induction l with
  | nil => simpa [insK] using h
  | cons z r ih =>
    rw [insK] at h
    split at h
    · simpa using h
    · rcases List.mem_cons.1 h with rfl | h
      · simp
      · rcases ih h with h | h
        · exact .inl h
        · exact .inr (by simp [h])
def Small (N : Nat) (bs : List (Int × Tm)) : Prop := ∀ b ∈ bs, 0 ≤ b.1 ∧ b.2.err0 = 0 ∧ b.2.count ≤ N
mutual
theorem Tm.mat_small (N : Nat) : ∀ (p t : Tm) (bs bs' : List (Int × Tm)), p.err0 = 0 → t.err0 = 0 → t.count ≤ N → Small N bs → p.mat t bs = some bs' → Small N bs'
  | .mk k v s n args, t, bs, bs', ep, et, hc, hs, h => by
    rw [Tm.mat] at h
    obtain ⟨np, hep⟩ := err0_node ep
    by_cases hk : k = 1
    · rw [if_pos hk] at h
      cases hf : fnd bs v with
      | none =>
        rw [hf] at h
        cases h
        intro b hb
        rcases insK_mem hb with rfl | hb
        · refine ⟨?_, et, hc⟩
          rcases node_parts np with ⟨q, _⟩ | ⟨_, _, _, _, ⟨_, q, _⟩ | ⟨q, _⟩ | ⟨q, _⟩ | ⟨q, _⟩⟩
          · omega
          · exact q
          · omega
          · omega
          · omega
        · exact hs b hb
      | some x =>
        rw [hf] at h
        dsimp only at h
        by_cases hx : x.cmp t = 0
        · rw [if_pos hx] at h; cases h; exact hs
        · rw [if_neg hx] at h; cases h
    · rw [if_neg hk] at h
      by_cases hh : (Tm.mk k v s n args).hd t = true
      · rw [if_pos hh] at h
        obtain ⟨k2, v2, s2, n2, args2⟩ := t
        obtain ⟨nt, het⟩ := err0_node et
        rw [Tm.count] at hc
        exact matL_small N args args2 bs bs' hep het (by omega) hs h
      · rw [if_neg hh] at h; cases h
theorem matL_small (N : Nat) : ∀ (ps ts : List Tm) (bs bs' : List (Int × Tm)), errL ps = 0 → errL ts = 0 → countL ts ≤ N → Small N bs → matL ps ts bs = some bs' → Small N bs'
  | [], ts, bs, bs', _, _, _, hs, h => by
    have : matL [] ts bs = some bs := by cases ts <;> rfl
    rw [this] at h
    cases h
    exact hs
  | p :: ps, [], bs, bs', _, _, _, hs, h => by
    have : matL (p :: ps) [] bs = some bs := rfl
    rw [this] at h
    cases h
    exact hs
  | p :: ps, t :: ts, bs, bs', ep, et, hc, hs, h => by
    have ep0 := errL_get ep (j := 0) (by simp)
    have et0 := errL_get et (j := 0) (by simp)
    simp only [List.getElem_cons_zero] at ep0 et0
    rw [errL, if_pos ep0] at ep
    rw [errL, if_pos et0] at et
    rw [countL] at hc
    rw [matL] at h
    cases hm : p.mat t bs with
    | none => rw [hm] at h; cases h
    | some b =>
      rw [hm] at h
      exact matL_small N ps ts b bs' ep et (by omega) (p.mat_small N t bs b ep0 et0 (by omega) hs hm) h
end
theorem Small.good {bs : List (Int × Tm)} (h : Small 10000 bs) (hi : Incr bs) : Good bs := by
  intro j hj
  have hb := h _ (List.getElem_mem hj)
  refine ⟨?_, ?_⟩
  · cases j with
    | zero => simp only [lastOf]; omega
    | succ j =>
      rw [lastOf_succ (by omega)]
      exact hi j (j + 1) (by omega) hj (by omega)
  · unfold Tm.check
    rw [if_neg (by omega)]
    exact hb.2.1
theorem Small.nil (N : Nat) : Small N [] := fun b hb => by cases hb
mutual
theorem Tm.mat_len : ∀ (p t : Tm) (bs bs' : List (Int × Tm)), p.mat t bs = some bs' → bs'.length ≤ bs.length + p.count
  | .mk k v s n args, t, bs, bs', h => by
    rw [Tm.mat] at h
    rw [Tm.count]
    by_cases hk : k = 1
    · rw [if_pos hk] at h
      cases hf : fnd bs v with
      | none => rw [hf] at h; cases h; rw [insK_len]; omega
      | some x =>
        rw [hf] at h
        dsimp only at h
        by_cases hx : x.cmp t = 0
        · rw [if_pos hx] at h; cases h; omega
        · rw [if_neg hx] at h; cases h
    · rw [if_neg hk] at h
      by_cases hh : (Tm.mk k v s n args).hd t = true
      · rw [if_pos hh] at h
        have := matL_len args t.args bs bs' h
        omega
      · rw [if_neg hh] at h; cases h
theorem matL_len : ∀ (ps ts : List Tm) (bs bs' : List (Int × Tm)), matL ps ts bs = some bs' → bs'.length ≤ bs.length + countL ps
  | [], ts, bs, bs', h => by
    have : matL [] ts bs = some bs := by cases ts <;> rfl
    rw [this] at h
    cases h
    exact Nat.le_add_right _ _
  | p :: ps, [], bs, bs', h => by
    have : matL (p :: ps) [] bs = some bs := rfl
    rw [this] at h
    cases h
    exact Nat.le_add_right _ _
  | p :: ps, t :: ts, bs, bs', h => by
    rw [matL] at h
    rw [countL]
    cases hm : p.mat t bs with
    | none => rw [hm] at h; cases h
    | some b =>
      rw [hm] at h
      have h1 := p.mat_len t bs b hm
      have h2 := matL_len ps ts b bs' h
      omega
end
end Go.Proofs.YtkfnpcilanheiaaGreat
