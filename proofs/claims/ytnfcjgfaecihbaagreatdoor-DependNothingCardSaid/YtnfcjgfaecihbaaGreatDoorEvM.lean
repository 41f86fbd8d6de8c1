/- EvM: code that steers. -/
import Derived.Test.YtnfcjgfaecihbaaGreatDoorEvL
import Derived.LoopNIn
set_option linter.unusedVariables false
set_option linter.unusedSimpArgs false
set_option linter.unusedSectionVars false
set_option linter.constructorNameAsVariable false
namespace Go.Ev
open Go
abbrev Met (G : Heap → Prop) (ρ : Ren) (h : Heap) (fr : Fr) (w : World) (Q : Exit → Act → World → Prop) (e : Exit) (st' : St) : Prop :=
  ∀ ρ' a' w', StR G ρ' fr st' a' w' → Turn ρ h w ρ' st'.h w' → Q e a' w'
def Behind (G : Heap → Prop) (kn : St → R) (ke kg : Nat → St → R) (kr : St → R) (ρ : Ren) (fr : Fr) (ro : Option Nat) (h : Heap) (w : World) (Q : Exit → Act → World → Prop) (e : Exit) (a' : Act) (w' : World) : Prop :=
  ∃ ρ' st', StR G ρ' fr st' a' w' ∧ Turn ρ h w ρ' st'.h w' ∧ RoR ρ' fr.round ro ∧ match e with
    | .normal => (kn st').All (Met G ρ' st'.h fr w' Q)
    | .exit i => (ke i st').All (Met G ρ' st'.h fr w' Q)
    | .goto i => (kg i st').All (Met G ρ' st'.h fr w' Q)
    | .ret => (kr st').All (Met G ρ' st'.h fr w' Q)
    | _ => False
theorem RoR.mono {ρ ρ' : Ren} (e : Ext ρ ρ') {a b : Option Nat} : RoR ρ a b → RoR ρ' a b
  | .inl h => .inl h
  | .inr ⟨l, r, h1, h2, h3⟩ => .inr ⟨l, r, h1, e _ _ h2, h3⟩
section
variable {G : Heap → Prop} {P : Program} {ev : Code → Fr → St → R} {fr : Fr} {st : St} {ρ : Ren} {w : World} {a : Act} {Q : Exit → Act → World → Prop} {m : Nat} {ro : Option Nat}
theorem Met.later {ρ1 : Ren} {h h1 : Heap} {w1 : World} {r : R} (hT : Turn ρ h w ρ1 h1 w1) (x : r.All (Met G ρ h fr w Q)) : r.All (Met G ρ1 h1 fr w1 Q) :=
  R.All.mono (fun _ _ y ρ' a' w' hs ht => y ρ' a' w' hs (hT.trans ht)) x
theorem ev_bind {c : Code} {kn : St → R} {ke kg : Nat → St → R} {kr : St → R} (hev : CodeOK G P ev) (hS : StR G ρ fr st a w) (hR : RoR ρ fr.round ro)
    (h : ((ev c fr st).bind kn ke kg kr).All (Met G ρ st.h fr w Q)) : c.wpIn (fw ro) m P (Behind G kn ke kg kr ρ fr ro st.h w Q) a w := by
  refine hev c fr st ρ w a _ m ro hS hR (R.All.mono ?_ (R.all_bind h))
  intro e st' x ρ' a' w' hs ht
  refine ⟨ρ', st', hs, ht, hR.mono (ht.ext hS.sim), ?_⟩
  cases e with
  | normal => exact Met.later ht x
  | exit i => exact Met.later ht x
  | goto i => exact Met.later ht x
  | ret => exact Met.later ht x
  | panic c => exact x.elim
  | outgrown => exact x.elim
theorem seq_ok {x y : Code} (hev : CodeOK G P ev) (hS : StR G ρ fr st a w) (hR : RoR ρ fr.round ro) (h : (seqR ev x y fr st).All (Met G ρ st.h fr w Q)) : (Code.seq x y).wpIn (fw ro) m P Q a w := by
  refine wpIn_seq (wpIn_mono (ev_bind hev hS hR h) ?_)
  rintro e a' w' ⟨ρ', st', hs, ht, hr, x⟩
  cases e with
  | normal => exact hev y fr st' ρ' w' a' Q m ro hs hr x
  | exit i => exact x ρ' a' w' hs (.refl hs.sim)
  | goto i => exact x ρ' a' w' hs (.refl hs.sim)
  | ret => exact x ρ' a' w' hs (.refl hs.sim)
  | panic c => exact x.elim
  | outgrown => exact x.elim
theorem block_ok {id : Nat} {x : Code} (hev : CodeOK G P ev) (hS : StR G ρ fr st a w) (hR : RoR ρ fr.round ro) (h : (blockR ev id x fr st).All (Met G ρ st.h fr w Q)) : (Code.block id x).wpIn (fw ro) m P Q a w := by
  refine wpIn_block (wpIn_mono (ev_bind hev hS hR h) ?_)
  rintro e a' w' ⟨ρ', st', hs, ht, hr, x⟩
  cases e with
  | normal => exact x ρ' a' w' hs (.refl hs.sim)
  | exit i =>
    show (if i = id then Q .normal a' w' else Q (.exit i) a' w')
    simp only at x
    by_cases hi : i = id
    · rw [if_pos hi]
      rw [show Nat.beq i id = true from by simp [hi]] at x
      exact x ρ' a' w' hs (.refl hs.sim)
    · rw [if_neg hi]
      rw [show Nat.beq i id = false from by cases hb : Nat.beq i id; rfl; exact absurd (Nat.eq_of_beq_eq_true hb) hi] at x
      exact x ρ' a' w' hs (.refl hs.sim)
  | goto i => exact x ρ' a' w' hs (.refl hs.sim)
  | ret => exact x ρ' a' w' hs (.refl hs.sim)
  | panic c => exact x.elim
  | outgrown => exact x.elim
theorem cond_ok {c : Operand} {x y : Code} (hev : CodeOK G P ev) (hS : StR G ρ fr st a w) (hR : RoR ρ fr.round ro) (h : (condR ev c x y fr st).All (Met G ρ st.h fr w Q)) : (Code.cond c x y).wpIn (fw ro) m P Q a w := by
  unfold condR condV at h
  split at h
  · rename_i b hb
    have hv := opd_ok hS.sim hS.sl hb
    have hc : a.eval c = .bool b := by
      generalize a.eval c = v at hv
      cases hv
      rfl
    refine wpIn_cond hc ?_
    cases b
    · exact hev y fr st ρ w a Q m ro hS hR h
    · exact hev x fr st ρ w a Q m ro hS hR h
  · exact h.elim
def LoopOK (G : Heap → Prop) (P : Program) (n : Nat) (ev : Code → Fr → St → R) : Prop :=
  ∀ (c : Code) (fr : Fr) (st : St) (ρ : Ren) (w : World) (a : Act) (Q : Exit → Act → World → Prop) (m : Nat) (ro : Option Nat), StR G ρ fr st a w → RoR ρ fr.round ro →
    (ev (.loop c) fr st).All (Met G ρ st.h fr w Q) → Code.roundsIn (fw ro) m P c Q n a w
theorem loop_rounds {x : Code} {n : Nat} (hev : CodeOK G P ev) (hl : LoopOK G P n ev) (hS : StR G ρ fr st a w) (hR : RoR ρ fr.round ro) (h : (seqR ev x (.loop x) fr st).All (Met G ρ st.h fr w Q)) :
    Code.roundsIn (fw ro) m P x Q (n + 1) a w := by
  refine wpIn_mono (ev_bind hev hS hR h) ?_
  rintro e a' w' ⟨ρ', st', hs, ht, hr, x⟩
  cases e with
  | normal => exact hl _ fr st' ρ' w' a' Q m ro hs hr x
  | exit i => exact x ρ' a' w' hs (.refl hs.sim)
  | goto i => exact x ρ' a' w' hs (.refl hs.sim)
  | ret => exact x ρ' a' w' hs (.refl hs.sim)
  | panic c => exact x.elim
  | outgrown => exact x.elim
theorem stepR_scope {b : Frame} {k : List Item} {cs : List Frame} {c : Code} : step P (lone (b.atR a (.code (.scope c) :: k)) cs w) = .next (lone (b.atR a (.code c :: .inScope c :: k)) cs w) :=
  step_lone_go (by simp [stepG, stepG.exec, Frame.atR])
theorem stepR_inScope {b : Frame} {k : List Item} {cs : List Frame} {c : Code} : step P (lone (b.atR a (.inScope c :: k)) cs w) = .next (lone (b.atR a k) cs w) :=
  step_lone_go (by simp [stepG, stepG.exec, Frame.atR])
theorem scope_key {body : Code} (hev : CodeOK G P ev) : ∀ (n : Nat) {c : Code} {st : St} {ρ : Ren} {w : World} {a : Act}, StR G ρ fr st a w → RoR ρ fr.round ro →
    (scopeR ev body fr n c st).All (Met G ρ st.h fr w Q) → ∀ (b : Frame) (k : List Item) (cs : List Frame), b.roundOf = (fw ro).round → (fw ro).fn b.fn → (fw ro).room (cs.length + 1 + m) →
    ∃ e a' w', Q e a' w' ∧ ArrivesIn (Machine.fenced P (fw ro)) P (lone (b.atR a (.code c :: .inScope body :: k)) cs w) b k cs e a' w'
  | 0, _, _, _, _, _, _, _, h => h.elim
  | n + 1, c, st, ρ, w, a, hS, hR, h => by
    intro b k cs hro hb hr
    obtain ⟨e, a1, w1, ⟨ρ', st', hs, ht, hr', x⟩, harr⟩ := ev_bind (m := m) hev hS hR h b (.inScope body :: k) cs hro hb hr
    cases e with
    | normal => exact ⟨.normal, a1, w1, x ρ' a1 w1 hs (.refl hs.sim), StepsIn.trans harr (.one (fenced_calm hb hr rfl) stepR_inScope)⟩
    | exit i => exact ⟨.exit i, a1, w1, x ρ' a1 w1 hs (.refl hs.sim), fun k' hk => harr.1 k' (by simp [exitTo, hk]), fun hr hk => harr.2 hr (by simp [exitTo, hk])⟩
    | goto l =>
      simp only at x
      cases hf : findLabel body l with
      | none =>
        rw [hf] at x
        exact ⟨.goto l, a1, w1, x ρ' a1 w1 hs (.refl hs.sim), fun k' hk => harr.1 k' (by simp [gotoIn, hf, hk]), fun hr hk => harr.2 hr (by simp [gotoIn, hf, hk])⟩
      | some rest =>
        rw [hf] at x
        obtain ⟨e2, a2, w2, hq2, harr2⟩ := scope_key hev n (c := rest) hs hr' x b k cs hro hb hr
        exact ⟨e2, a2, w2, hq2, .of_steps (harr.1 _ (by simp [gotoIn, hf])) harr2⟩
    | ret => exact ⟨.ret, a1, w1, x ρ' a1 w1 hs (.refl hs.sim), harr⟩
    | panic c => exact x.elim
    | outgrown => exact x.elim
theorem scope_ok {n : Nat} {body : Code} (hev : CodeOK G P ev) (hS : StR G ρ fr st a w) (hR : RoR ρ fr.round ro) (h : (scopeR ev body fr n body st).All (Met G ρ st.h fr w Q)) : (Code.scope body).wpIn (fw ro) m P Q a w := by
  intro b k cs hro hb hr
  obtain ⟨e, a1, w1, hq, harr⟩ := scope_key (m := m) hev n hS hR h b k cs hro hb hr
  exact ⟨e, a1, w1, hq, .of_steps (.one (fenced_calm hb hr rfl) stepR_scope) harr⟩
end
end Go.Ev
