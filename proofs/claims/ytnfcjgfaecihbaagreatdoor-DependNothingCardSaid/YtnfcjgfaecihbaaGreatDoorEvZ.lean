/- EvZ: regions that draw their order: what has been reckoned, stage by stage. -/
import Derived.Test.YtnfcjgfaecihbaaGreatDoorEvY
set_option linter.unusedVariables false
set_option linter.unusedSimpArgs false
set_option linter.unusedSectionVars false
set_option linter.constructorNameAsVariable false
namespace Go.Ev
open Go
def SLt (s s' : Slots) : Prop := ∀ t v, s.get t = some v → s'.get t = some v
theorem SLt.refl (s : Slots) : SLt s s := fun _ _ h => h
theorem SLt.trans {a b c : Slots} (h : SLt a b) (h' : SLt b c) : SLt a c := fun t v e => h' t v (h t v e)
theorem OLe.refl (s : Os) : OLe s s := fun _ _ h => h
theorem OLe.trans {a b c : Os} (h : OLe a b) (h' : OLe b c) : OLe a c := fun t v e => h' t v (h t v e)
theorem Heap.get_at (h : Heap) (b x : Nat) : (h.at b).get x = h.get x := by cases h; rfl
theorem Heap.next_at (h : Heap) (b : Nat) : (h.at b).next = h.next := by cases h; rfl
theorem Heap.rs_at (h : Heap) (b : Nat) : (h.at b).rs = b := by cases h; rfl
theorem koOf_spec (P : Program) (ops : List Oper) (o : Oper) : (o.guard = none ∧ koOf P ops o = ⟨none, o.dst, opK P o.op⟩) ∨
    (∃ j want g t, o.guard = some (j, want) ∧ ops[j]? = some g ∧ g.dst = some t ∧ koOf P ops o = ⟨some (t, want), o.dst, opK P o.op⟩) ∨ koOf P ops o = ⟨none, o.dst, ⟨fun _ _ => .fail⟩⟩ := by
  unfold koOf
  cases hg : o.guard with
  | none => exact .inl ⟨rfl, rfl⟩
  | some g =>
    obtain ⟨j, want⟩ := g
    simp only
    cases hj : ops[j]? with
    | none => exact .inr (.inr rfl)
    | some g =>
      simp only
      cases hd : g.dst with
      | none => exact .inr (.inr rfl)
      | some t => exact .inr (.inl ⟨j, want, g, t, rfl, hj, hd, rfl⟩)
theorem ko_dst {P : Program} {ops : List Oper} {o : Oper} : (koOf P ops o).dst = o.dst := by
  rcases koOf_spec P ops o with ⟨_, e⟩ | ⟨j, want, g, t, _, _, _, e⟩ | e <;> rw [e]
theorem ko_op {P : Program} {ops : List Oper} {o : Oper} {s : Slots} {h h' : Heap} {v : Value} (e : (koOf P ops o).op.f s h = .val v h') : (koOf P ops o).op = opK P o.op := by
  rcases koOf_spec P ops o with ⟨_, e1⟩ | ⟨j, want, g, t, _, _, _, e1⟩ | e1
  · rw [e1]
  · rw [e1]
  · rw [e1] at e; cases e
def Mono (d : DOp) : Prop := ∀ s s' h v h', SLt s s' → d.o.op.f s h = .val v h' → d.o.op.f s' h = .val v h'
theorem Is.mono {P : Program} {ops : List Oper} {d : DOp} {o : Oper} (i : Is P ops d o) : Mono d := fun s s' h v h' hs e => by
  rw [i.o] at e ⊢
  have hop := ko_op e
  rw [hop] at e ⊢
  rcases opK_le (P := P) (h := h) o.op (s := s) (s' := s') (fun t _ v hv => hs t v hv) with h1 | h1
  · rw [h1] at e; cases e
  · rw [h1]; exact e
def Wants (d : DOp) (s : Slots) : Prop := d.o.g = none ∨ ∃ g, d.o.g = some g ∧ s.get g.1 = some (.bool g.2)
def NoW (d : DOp) (s : Slots) : Prop := ∃ g v, d.o.g = some g ∧ s.get g.1 = some v ∧ v ≠ .bool g.2
def Yes (base D : Nat) (as : List Nat) (C : Heap) (s : Slots) (os : Os) (d : DOp) (V : Value) : Prop :=
  ∃ hs, putsR base os (alOf as d.m D) C = some hs ∧ ((d.k = 1 ∧ ∃ h' O, d.o.op.f s (hs.at (base + d.i)) = .val V h' ∧ h'.get (base + d.i) = some O ∧ os.get d.i = some (some O)) ∨ (d.k ≠ 1 ∧ ∃ h', d.o.op.f s hs = .val V h'))
def Good (base n D : Nat) (as : List Nat) (C : Heap) (s : Slots) (os : Os) (d : DOp) : Prop :=
  ∃ V, (∀ t, d.o.dst = some t → t < n ∧ s.get t = some V) ∧ ((Wants d s ∧ Yes base D as C s os d V) ∨ (NoW d s ∧ V = .tuple ⟨[]⟩ ∧ (d.k = 1 → os.get d.i = some none)))
section
variable {base n D : Nat} {as : List Nat} {C : Heap} {s s' : Slots} {os os' : Os} {d : DOp} {φ : Exit → St → Prop}
theorem Good.mono (hm : Mono d) (hs : SLt s s') (ho : OLe os os') : Good base n D as C s os d → Good base n D as C s' os' d := by
  rintro ⟨V, h1, h2⟩
  refine ⟨V, fun t ht => ⟨(h1 t ht).1, hs t V (h1 t ht).2⟩, ?_⟩
  rcases h2 with ⟨hw, hs0, hp, hy⟩ | ⟨⟨g, v, hg, hv, hne⟩, hV, hk⟩
  · refine .inl ⟨?_, hs0, putsR_mono ho hp, ?_⟩
    · rcases hw with h | ⟨g, h, h'⟩
      · exact .inl h
      · exact .inr ⟨g, h, hs _ _ h'⟩
    · rcases hy with ⟨hk, h', O, e1, e2, e3⟩ | ⟨hk, h', e1⟩
      · exact .inl ⟨hk, h', O, hm _ _ _ _ _ hs e1, e2, ho _ _ e3⟩
      · exact .inr ⟨hk, h', hm _ _ _ _ _ hs e1⟩
  · exact .inr ⟨⟨g, v, hg, hs _ _ hv, hne⟩, hV, fun h => ho _ _ (hk h)⟩
theorem valO_ok {x : OR} {k : Value → Heap → R} (h : (valO x k).All φ) : ∃ v h', x = .val v h' ∧ (k v h').All φ := by
  unfold valO at h
  split at h
  · exact ⟨_, _, rfl, h⟩
  · exact h.elim
theorem putD_ok {dst : Option Tmp} {k : Slots → R} {v : Value} (h : (putD n dst s k v).All φ) :
    ∃ s', (k s').All φ ∧ (∀ t, dst = some t → t < n ∧ s'.get t = some v) ∧ ∀ t, dst ≠ some t → s'.get t = s.get t := by
  cases dst with
  | none => exact ⟨s, h, ⟨fun t e => (by cases e), fun _ _ => rfl⟩⟩
  | some t =>
    have h' : (cb (Nat.ble (Nat.succ t) n) (k (T.putP (some v) (pth t) s)) .no).All φ := h
    cases hb : Nat.ble (Nat.succ t) n with
    | false => rw [hb] at h'; exact h'.elim
    | true =>
      rw [hb] at h'
      refine ⟨_, h', fun u e => ?_, fun u e => ?_⟩
      · cases e
        exact ⟨Nat.le_of_ble_eq_true hb, by rw [T.get_put, if_pos rfl]⟩
      · rw [T.get_put, if_neg (fun e1 => e (by rw [e1]))]
theorem slt_put {dst : Option Tmp} (he : ∀ t, dst = some t → s.get t = none) (h2 : ∀ t, dst ≠ some t → s'.get t = s.get t) : SLt s s' := fun t u hu => by
  by_cases e : dst = some t
  · rw [he t e] at hu; cases hu
  · rw [h2 t e]; exact hu
theorem newR_ok {k : Slots → Os → R} (hm : Mono d) (he : ∀ t, d.o.dst = some t → s.get t = none) (hoe : os.get d.i = none) (hx : (newR base n D as C d s os k).All φ) :
    ∃ s' os', (k s' os').All φ ∧ SLt s s' ∧ OLe os os' ∧ Good base n D as C s' os' d ∧ (∀ t, d.o.dst ≠ some t → s'.get t = s.get t) ∧ ∀ j, j ≠ d.i → os'.get j = os.get j := by
  have hyes : Wants d s → (newV base n D as C d s os k).All φ → ∃ s' os', (k s' os').All φ ∧ SLt s s' ∧ OLe os os' ∧ Good base n D as C s' os' d ∧ (∀ t, d.o.dst ≠ some t → s'.get t = s.get t) ∧ ∀ j, j ≠ d.i → os'.get j = os.get j := by
    intro hw hx
    unfold newV at hx
    split at hx
    · exact hx.elim
    · rename_i hs hp
      have hwm : ∀ s', SLt s s' → Wants d s' := fun s' hs => by
        rcases hw with h | ⟨g, h, h'⟩
        · exact .inl h
        · exact .inr ⟨g, h, hs _ _ h'⟩
      rw [cb_eq] at hx
      by_cases hk : d.k = 1
      · rw [if_pos (by rw [hk]; rfl), fN_eq] at hx
        obtain ⟨v, h', e1, hx⟩ := valO_ok hx
        split at hx
        · rename_i O hO
          obtain ⟨s', hk', h1, h2⟩ := putD_ok hx
          have hsl := slt_put he h2
          have hol : OLe os (T.putP (some (some O)) (pth d.i) os) := fun j x hj => by
            rw [T.get_put, if_neg (fun e => by rw [e, hoe] at hj; cases hj)]; exact hj
          exact ⟨s', _, hk', hsl, hol, ⟨v, h1, .inl ⟨hwm s' hsl, hs, putsR_mono hol hp, .inl ⟨hk, h', O, hm _ _ _ _ _ hsl e1, hO, by rw [T.get_put, if_pos rfl]⟩⟩⟩, h2, fun j hj => by rw [T.get_put, if_neg hj]⟩
        · exact hx.elim
      · rw [if_neg (fun e => hk (Nat.eq_of_beq_eq_true e))] at hx
        obtain ⟨v, h', e1, hx⟩ := valO_ok hx
        obtain ⟨s', hk', h1, h2⟩ := putD_ok hx
        have hsl := slt_put he h2
        exact ⟨s', os, hk', hsl, .refl _, ⟨v, h1, .inl ⟨hwm s' hsl, hs, hp, .inr ⟨hk, h', hm _ _ _ _ _ hsl e1⟩⟩⟩, h2, fun _ _ => rfl⟩
  have hno : NoW d s → (newN n d s os k).All φ → ∃ s' os', (k s' os').All φ ∧ SLt s s' ∧ OLe os os' ∧ Good base n D as C s' os' d ∧ (∀ t, d.o.dst ≠ some t → s'.get t = s.get t) ∧ ∀ j, j ≠ d.i → os'.get j = os.get j := by
    rintro ⟨g, v, hg, hv, hne⟩ hx
    obtain ⟨s', hk', h1, h2⟩ := putD_ok hx
    have hsl := slt_put he h2
    rw [cb_eq] at hk'
    by_cases hk : d.k = 1
    · rw [if_pos (by rw [hk]; rfl)] at hk'
      have hol : OLe os (T.putP (some none) (pth d.i) os) := fun j x hj => by
        rw [T.get_put, if_neg (fun e => by rw [e, hoe] at hj; cases hj)]; exact hj
      exact ⟨s', _, hk', hsl, hol, ⟨_, h1, .inr ⟨⟨g, v, hg, hsl _ _ hv, hne⟩, rfl, fun _ => by rw [T.get_put, if_pos rfl]⟩⟩, h2, fun j hj => by rw [T.get_put, if_neg hj]⟩
    · rw [if_neg (fun e => hk (Nat.eq_of_beq_eq_true e))] at hk'
      exact ⟨s', os, hk', hsl, .refl _, ⟨_, h1, .inr ⟨⟨g, v, hg, hsl _ _ hv, hne⟩, rfl, fun e => absurd e hk⟩⟩, h2, fun _ _ => rfl⟩
  cases hg : d.o.g with
  | none =>
    have : newR base n D as C d s os k = newV base n D as C d s os k := by unfold newR; rw [hg]
    rw [this] at hx
    exact hyes (.inl hg) hx
  | some g =>
    have : newR base n D as C d s os k = wantR (s.get g.1) g.2 (newV base n D as C d s os k) (newN n d s os k) := by unfold newR; rw [hg]; rfl
    rw [this] at hx
    cases hv : s.get g.1 with
    | none => rw [hv] at hx; exact hx.elim
    | some v =>
      rw [hv] at hx
      by_cases hb : v = .bool g.2
      · subst hb
        have hbe : boolEq g.2 g.2 = true := by cases g.2 <;> rfl
        simp only [wantR, hbe, cb] at hx
        exact hyes (.inr ⟨g, hg, hv⟩) hx
      · refine hno ⟨g, v, hg, hv, hb⟩ ?_
        cases v with
        | bool b =>
          have hbe : boolEq b g.2 = false := by
            cases hb2 : g.2 <;> cases b <;> first | rfl | (exact absurd (by rw [hb2]) hb)
          simp only [wantR, hbe, cb] at hx
          exact hx
        | _ => exact hx
theorem newsR_ok {k : Slots → Os → R} : ∀ (l : List DOp) (s : Slots) (os : Os), (newsR base n D as C k l s os).All φ → (∀ d ∈ l, Mono d) → (∀ d ∈ l, ∀ t, d.o.dst = some t → s.get t = none) → (∀ d ∈ l, os.get d.i = none) →
    (l.Pairwise fun a b => a.i ≠ b.i ∧ ∀ t, a.o.dst = some t → b.o.dst ≠ some t) → ∃ s' os', (k s' os').All φ ∧ SLt s s' ∧ OLe os os' ∧ (∀ d ∈ l, Good base n D as C s' os' d) ∧ (∀ t, (∀ d ∈ l, d.o.dst ≠ some t) → s'.get t = s.get t) ∧
      ∀ j, (∀ d ∈ l, d.i ≠ j) → os'.get j = os.get j
  | [], s, os, hx, _, _, _, _ => ⟨s, os, hx, .refl _, .refl _, by simp, fun _ _ => rfl, fun _ _ => rfl⟩
  | d :: l, s, os, hx, hm, he, hoe, hp => by
    have hx' : (newR base n D as C d s os (newsR base n D as C k l)).All φ := hx
    obtain ⟨s1, os1, hk1, hs1, ho1, hg1, hf1, hq1⟩ := newR_ok (hm d (by simp)) (he d (by simp)) (hoe d (by simp)) hx'
    obtain ⟨hp1, hp2⟩ := List.pairwise_cons.1 hp
    obtain ⟨s2, os2, hk2, hs2, ho2, hg2, hf2, hq2⟩ := newsR_ok l s1 os1 hk1 (fun x hx => hm x (by simp [hx])) (fun x hx t ht => by
      rw [hf1 t fun e => (hp1 x hx).2 t e ht]; exact he x (by simp [hx]) t ht) (fun x hx => by
      rw [hq1 _ fun e => (hp1 x hx).1 e.symm]; exact hoe x (by simp [hx])) hp2
    refine ⟨s2, os2, hk2, hs1.trans hs2, ho1.trans ho2, fun x hx => ?_, fun t ht => ?_, fun j hj => ?_⟩
    · rcases List.mem_cons.1 hx with rfl | hx
      · exact hg1.mono (hm _ (by simp)) hs2 ho2
      · exact hg2 x hx
    · rw [hf2 t fun x hx => ht x (by simp [hx]), hf1 t (ht d (by simp))]
    · rw [hq2 j fun x hx => hj x (by simp [hx]), hq1 j fun e => hj d (by simp) e.symm]
theorem stageR_ok {pl : Pl} {prev : Option Nat} {em : Nat} {k : Slots → Os → R} (hx : (stageR pl base n prev em D C s os k).All φ) (hm : ∀ d ∈ newsL pl prev em, Mono d) (he : ∀ d ∈ newsL pl prev em, ∀ t, d.o.dst = some t → s.get t = none)
    (hoe : ∀ d ∈ newsL pl prev em, os.get d.i = none) (hp : (newsL pl prev em).Pairwise fun a b => a.i ≠ b.i ∧ ∀ t, a.o.dst = some t → b.o.dst ≠ some t) :
    ∃ s' os', (k s' os').All φ ∧ SLt s s' ∧ OLe os os' ∧ (∀ d ∈ newsL pl prev em, Good base n D pl.as C s' os' d) ∧ (∀ t, (∀ d ∈ newsL pl prev em, d.o.dst ≠ some t) → s'.get t = s.get t) ∧
      (∀ j, (∀ d ∈ newsL pl prev em, d.i ≠ j) → os'.get j = os.get j) ∧ ∀ d ∈ againL pl prev D, againB base D pl.as C s' os' d = true := by
  obtain ⟨s', os', h1, h2, h3, h4, h5, h6⟩ := newsR_ok _ s os hx hm he hoe hp
  rw [cb_eq] at h1
  by_cases ha : ((againL pl prev D).all (againB base D pl.as C s' os')) = true
  · rw [if_pos ha] at h1
    exact ⟨s', os', h1, h2, h3, h4, h5, h6, by simpa [List.all_eq_true] using ha⟩
  · rw [if_neg ha] at h1
    exact h1.elim
theorem alOf_mem {m j : Nat} : j ∈ alOf as m D ↔ j ∈ as ∧ tb m j = true ∧ tb D j = false := by
  unfold alOf
  simp [List.mem_filter]
theorem kindS_cases (P : Program) (op : Op) : kindS P op = 0 ∨ kindS P op = 1 ∨ kindS P op = 2 ∨ kindS P op = 3 := by
  cases op <;> simp only [kindS] <;> first
    | simp
    | (split <;> simp)
theorem puts_glo {C' : Heap} {l l' : List Nat} {hs hs' : Heap} (hg : Glo C C') (hb : gBase ≤ base) (h1 : putsR base os l C = some hs) (h2 : putsR base os l' C' = some hs') : Glo hs hs' := fun b hlt => by
  rw [putsR_keeps h2 b fun j _ => by omega, putsR_keeps h1 b fun j _ => by omega]; exact hg b hlt
theorem Is.kind {P : Program} {ops : List Oper} {d : DOp} {o : Oper} (i : Is P ops d o) (h3 : d.k ≠ 3) : isFin (finP ops) d.i = false ∧ d.k = kindS P o.op := by
  have := i.k
  unfold kOf at this
  cases hf : isFin (finP ops) d.i with
  | true => rw [hf] at this; exact absurd this h3
  | false => rw [hf] at this; exact ⟨rfl, this⟩
theorem Good.later {P : Program} {ops : List Oper} {o : Oper} {D' : Nat} {C' : Heap} (i : Is P ops d o) (h3 : d.k ≠ 3) (hg : Good base n D as C s os d) (hG : Glo C C') (hb : gBase ≤ base)
    (hD : ∀ j, tb D j = true → tb D' j = true) (ha : d.k = 2 → againB base D' as C' s os d = true) : Good base n D' as C' s os d := by
  obtain ⟨V, h1, h2⟩ := hg
  have hik := (i.kind h3).2
  rcases h2 with ⟨hw, hs, hp, hy⟩ | h2
  · obtain ⟨hs2, hp2⟩ := putsR_some (base := base) (os := os) (l := alOf as d.m D') (h := C') fun j hj => by
      obtain ⟨a1, a2, a3⟩ := alOf_mem.1 hj
      refine putsR_all hp j (alOf_mem.2 ⟨a1, a2, ?_⟩)
      cases hb : tb D j
      · rfl
      · rw [hD j hb] at a3; cases a3
    have hgl := puts_glo hG hb hp hp2
    have hpos := gBase_pos
    rcases hy with ⟨hk, h', O, e1, e2, e3⟩ | ⟨hk, h', e1⟩
    · have hop : d.o.op = opK P o.op := by rw [i.o] at e1 ⊢; exact ko_op e1
      rw [hop] at e1
      obtain ⟨O', g1, g2⟩ := kind1 (P := P) (s := s) (op := o.op) (by rw [← hik]; exact hk) (hs.at (base + d.i)) V h' (by rw [Heap.rs_at]; omega) e1
      have hO : O' = O := by
        rw [g1, Heap.get_new, if_pos (by rw [Heap.nx_eq, Heap.rs_at, if_neg (by omega)])] at e2
        cases e2; rfl
      have g3 := g2 (hs2.at (base + d.i)) (fun b hb => by rw [Heap.get_at, Heap.get_at]; exact hgl b hb) (by rw [Heap.rs_at, Heap.rs_at])
      refine ⟨V, h1, .inl ⟨hw, hs2, hp2, .inl ⟨hk, _, O, by rw [hop]; exact g3, ?_, e3⟩⟩⟩
      rw [Heap.get_new, if_pos (by rw [Heap.nx_eq, Heap.rs_at, if_neg (by omega)]), hO]
    · have hop : d.o.op = opK P o.op := by rw [i.o] at e1 ⊢; exact ko_op e1
      rcases kindS_cases P o.op with hk0 | hk0 | hk0 | hk0
      · obtain ⟨_, g2⟩ := kind0 (P := P) (s := s) hk0 hs hs2 V h' hgl (by rw [← hop]; exact e1)
        exact ⟨V, h1, .inl ⟨hw, hs2, hp2, .inr ⟨hk, _, by rw [hop]; exact g2⟩⟩⟩
      · exact absurd (hik.trans hk0) hk
      · have hag := ha (hik.trans hk0)
        have hav : againV base D' as C' s os d = true := by
          unfold againB at hag
          rcases hw with hw | ⟨g, hw, hw'⟩
          · rw [hw] at hag; exact hag
          · rw [hw] at hag
            have : s.getP (pth g.1) = some (.bool g.2) := hw'
            simp only [this] at hag
            rwa [show boolEq g.2 g.2 = true by cases g.2 <;> rfl] at hag
        unfold againV at hav
        rw [hp2] at hav
        simp only at hav
        split at hav
        · rename_i v h2 e2
          unfold sameB at hav
          cases hd : d.o.dst with
          | none => exact ⟨v, ⟨fun t ht => (by rw [hd] at ht; cases ht), .inl ⟨hw, hs2, hp2, .inr ⟨hk, h2, e2⟩⟩⟩⟩
          | some t =>
            rw [hd] at hav
            have hV := (h1 t hd).2
            have : s.getP (pth t) = some V := hV
            simp only [this] at hav
            have := eqV_eq hav
            subst this
            exact ⟨v, h1, .inl ⟨hw, hs2, hp2, .inr ⟨hk, h2, e2⟩⟩⟩
        · cases hav
      · exact absurd (hik.trans hk0) h3
  · exact ⟨V, h1, .inr h2⟩
end
structure EInv (P : Program) (ops : List Oper) (base n em D : Nat) (C : Heap) (s : Slots) (os : Os) : Prop where
  good : ∀ d ∈ (planD P ops).dops, d.k ≠ 3 → avail (planD P ops).ea d.m em = true → tb D d.i = false → Good base n D (planD P ops).as C s os d
  slot : ∀ d ∈ (planD P ops).dops, isFin (finP ops) d.i = false → (d.k = 3 → tb em d.i = false) → (d.k ≠ 3 → avail (planD P ops).ea d.m em = false) → ∀ t, d.o.dst = some t → s.get t = none
  entry : ∀ d ∈ (planD P ops).dops, d.k ≠ 3 → avail (planD P ops).ea d.m em = false → os.get d.i = none
section
variable {P : Program} {ops : List Oper} {base n : Nat} {φ : Exit → St → Prop}
theorem news_mem {pl : Pl} {prev : Option Nat} {em : Nat} {d : DOp} : d ∈ newsL pl prev em ↔ d ∈ pl.dops ∧ d.k < 3 ∧ avail pl.ea d.m em = true ∧ seen pl.ea d.m prev = false := by
  unfold newsL
  simp only [List.mem_filter, Bool.and_eq_true, Bool.not_eq_true']
  constructor
  · rintro ⟨h1, ⟨h2, h3⟩, h4⟩
    exact ⟨h1, (by simpa [Nat.blt] using h2 : d.k + 1 ≤ 3), h3, h4⟩
  · rintro ⟨h1, h2, h3, h4⟩
    exact ⟨h1, ⟨Nat.ble_eq_true_of_le h2, h3⟩, h4⟩
theorem again_mem {pl : Pl} {prev : Option Nat} {D : Nat} {d : DOp} : d ∈ againL pl prev D ↔ d ∈ pl.dops ∧ d.k = 2 ∧ seen pl.ea d.m prev = true ∧ tb D d.i = false := by
  unfold againL
  simp only [List.mem_filter, Bool.and_eq_true, Bool.not_eq_true']
  constructor
  · rintro ⟨h1, ⟨h2, h3⟩, h4⟩
    exact ⟨h1, Nat.eq_of_beq_eq_true h2, h3, h4⟩
  · rintro ⟨h1, h2, h3, h4⟩
    exact ⟨h1, ⟨by rw [h2]; rfl, h3⟩, h4⟩
theorem plan_pair (hu : uniqB ops = true) : (planD P ops).dops.Pairwise fun a b => a.i ≠ b.i ∧ ∀ t, a.o.dst = some t → b.o.dst ≠ some t := by
  refine List.Pairwise.imp_of_mem ?_ plan_sorted
  intro a b ha hb hlt
  refine ⟨by omega, fun t h1 h2 => ?_⟩
  obtain ⟨o, i1⟩ := plan_is ha
  obtain ⟨o', i2⟩ := plan_is hb
  rw [i1.o, ko_dst] at h1
  rw [i2.o, ko_dst] at h2
  exact uniqB_ne hu hlt i1.at_ i2.at_ h1 h2
theorem stage_inv {prev : Option Nat} {em D : Nat} {C : Heap} {s : Slots} {os : Os} {k : Slots → Os → R} (hu : uniqB ops = true) (hx : (stageR (planD P ops) base n prev em D C s os k).All φ)
    (hlt : ∀ m, seen (planD P ops).ea m prev = true → avail (planD P ops).ea m em = true)
    (hslot : ∀ d ∈ (planD P ops).dops, isFin (finP ops) d.i = false → (d.k = 3 → tb em d.i = false) → (d.k ≠ 3 → seen (planD P ops).ea d.m prev = false) → ∀ t, d.o.dst = some t → s.get t = none)
    (hentry : ∀ d ∈ (planD P ops).dops, d.k ≠ 3 → seen (planD P ops).ea d.m prev = false → os.get d.i = none)
    (hgood : ∀ s' os', SLt s s' → OLe os os' → ∀ d ∈ (planD P ops).dops, d.k ≠ 3 → seen (planD P ops).ea d.m prev = true → tb D d.i = false → (d.k = 2 → againB base D (planD P ops).as C s' os' d = true) → Good base n D (planD P ops).as C s' os' d) :
    ∃ s' os', (k s' os').All φ ∧ SLt s s' ∧ OLe os os' ∧ EInv P ops base n em D C s' os' ∧ ∀ t, (∀ d ∈ newsL (planD P ops) prev em, d.o.dst ≠ some t) → s'.get t = s.get t := by
  have hpl := plan_pair (P := P) hu
  obtain ⟨s', os', h1, h2, h3, h4, h5, h6, h7⟩ := stageR_ok hx (fun d hd => by
      obtain ⟨o, i⟩ := plan_is (news_mem.1 hd).1; exact i.mono) (fun d hd t ht => by
      obtain ⟨a1, a2, a3, a4⟩ := news_mem.1 hd
      obtain ⟨o, i⟩ := plan_is a1
      exact hslot d a1 (i.kind (by omega)).1 (fun e => by omega) (fun _ => a4) t ht) (fun d hd => by
      obtain ⟨a1, a2, a3, a4⟩ := news_mem.1 hd
      exact hentry d a1 (by omega) a4) (hpl.filter _)
  refine ⟨s', os', h1, h2, h3, ⟨fun d hd hk hav hD => ?_, fun d hd hnf hk3 hkn t ht => ?_, fun d hd hk hav => ?_⟩, h5⟩
  · cases hse : seen (planD P ops).ea d.m prev with
    | false =>
      refine h4 d (news_mem.2 ⟨hd, ?_, hav, hse⟩)
      obtain ⟨o, i⟩ := plan_is hd
      have := kindS_cases P o.op
      rw [← (i.kind hk).2] at this
      omega
    | true => exact hgood s' os' h2 h3 d hd hk hse hD fun hk2 => h7 d (again_mem.2 ⟨hd, hk2, hse, hD⟩)
  · rw [h5 t]
    · refine hslot d hd hnf hk3 (fun hk => ?_) t ht
      cases hse : seen (planD P ops).ea d.m prev with
      | false => rfl
      | true => rw [hlt _ hse] at hkn; exact (Bool.noConfusion (hkn hk))
    · intro x hxn hxt
      obtain ⟨a1, a2, a3, a4⟩ := news_mem.1 hxn
      obtain ⟨o, i1⟩ := plan_is hd
      obtain ⟨o', i2⟩ := plan_is a1
      have e1 := ht; have e2 := hxt
      rw [i1.o, ko_dst] at e1
      rw [i2.o, ko_dst] at e2
      rcases Nat.lt_trichotomy d.i x.i with h | h | h
      · exact uniqB_ne hu h i1.at_ i2.at_ e1 e2
      · have := plan_inj hd a1 h
        subst this
        rw [hkn (by omega)] at a3; cases a3
      · exact uniqB_ne hu h i2.at_ i1.at_ e2 e1
  · rw [h6 d.i]
    · refine hentry d hd hk ?_
      cases hse : seen (planD P ops).ea d.m prev with
      | false => rfl
      | true => rw [hlt _ hse] at hav; cases hav
    · intro x hxn e
      obtain ⟨a1, a2, a3, a4⟩ := news_mem.1 hxn
      have := plan_inj a1 hd e
      subst this
      rw [hav] at a3; cases a3
end
end Go.Ev
