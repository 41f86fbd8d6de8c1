/- EvL: code. -/
import Derived.Test.YtnfcjgfaecihbaaGreatDoorEvK
import Derived.RangeFuncLeaves
import Derived.RangeFuncRecord
set_option linter.unusedVariables false
set_option linter.unusedSimpArgs false
set_option linter.unusedSectionVars false
set_option linter.constructorNameAsVariable false
namespace Go.Ev
open Go
def R.All (φ : Exit → St → Prop) : R → Prop
  | .no => False
  | .normal st => φ .normal st
  | .exit i st => φ (.exit i) st
  | .goto i st => φ (.goto i) st
  | .ret st => φ .ret st
  | .both a b => a.All φ ∧ b.All φ
def CR.All (φ : Value → Heap → Prop) : CR → Prop
  | .no => False
  | .yes v h => φ v h
  | .both a b => a.All φ ∧ b.All φ
theorem R.All.mono {φ ψ : Exit → St → Prop} (h : ∀ e st, φ e st → ψ e st) : ∀ {r : R}, r.All φ → r.All ψ
  | .no, x => x.elim
  | .normal st, x => h _ _ x
  | .exit i st, x => h _ _ x
  | .goto i st, x => h _ _ x
  | .ret st, x => h _ _ x
  | .both a b, x => ⟨R.All.mono h x.1, R.All.mono h x.2⟩
theorem CR.All.mono {φ ψ : Value → Heap → Prop} (h : ∀ v st, φ v st → ψ v st) : ∀ {r : CR}, r.All φ → r.All ψ
  | .no, x => x.elim
  | .yes v st, x => h _ _ x
  | .both a b, x => ⟨CR.All.mono h x.1, CR.All.mono h x.2⟩
theorem R.all_bind {φ : Exit → St → Prop} {kn : St → R} {ke kg : Nat → St → R} {kr : St → R} : ∀ {r : R}, (r.bind kn ke kg kr).All φ →
    r.All fun e st => match e with | .normal => (kn st).All φ | .exit i => (ke i st).All φ | .goto i => (kg i st).All φ | .ret => (kr st).All φ | _ => False
  | .no, x => x.elim
  | .normal st, x => x
  | .exit i st, x => x
  | .goto i st, x => x
  | .ret st, x => x
  | .both a b, x => ⟨R.all_bind (r := a) x.1, R.all_bind (r := b) x.2⟩
theorem R.all_toC {φ : Value → Heap → Prop} {kn : St → CR} {ke kg : Nat → St → CR} {kr : St → CR} : ∀ {r : R}, (r.toC kn ke kg kr).All φ →
    r.All fun e st => match e with | .normal => (kn st).All φ | .exit i => (ke i st).All φ | .goto i => (kg i st).All φ | .ret => (kr st).All φ | _ => False
  | .no, x => x.elim
  | .normal st, x => x
  | .exit i st, x => x
  | .goto i st, x => x
  | .ret st, x => x
  | .both a b, x => ⟨R.all_toC (r := a) x.1, R.all_toC (r := b) x.2⟩
theorem CR.all_toR {φ : Exit → St → Prop} {k : Value → Heap → R} : ∀ {x : CR}, (x.toR k).All φ → x.All fun v h => (k v h).All φ
  | .no, x => x.elim
  | .yes v st, x => x
  | .both a b, x => ⟨CR.all_toR (x := a) x.1, CR.all_toR (x := b) x.2⟩
inductive DR (ρ : Ren) : List Nat → List Deferred → Prop where
  | nil : DR ρ [] []
  | cons {b : Nat} {r : RB} {l : List Nat} {ds : List Deferred} (h : ρ b = some r) (hl : DR ρ l ds) : DR ρ (b :: l) ({ target := .collected r.id, args := #[] } :: ds)
theorem DR.mono {ρ ρ' : Ren} (e : Ext ρ ρ') {l : List Nat} {ds : List Deferred} (h : DR ρ l ds) : DR ρ' l ds := by
  induction h with
  | nil => exact .nil
  | cons h _ ih => exact .cons (e _ _ h) ih
structure StR (G : Heap → Prop) (ρ : Ren) (fr : Fr) (st : St) (a : Act) (w : World) : Prop where
  sim : Sim ρ st.h w
  sl : SlR ρ st.s fr.n a.tmps
  df : DR ρ st.d a.defers
  gl : G st.h
def fw (ro : Option Nat) : Fence := { Fence.wide with round := ro }
theorem fw_room (ro : Option Nat) (n : Nat) : (fw ro).room n := fun _ h => by simp [fw, Fence.wide] at h
def RoR (ρ : Ren) (a : Option Nat) (b : Option Nat) : Prop := (a = none ∧ b = none) ∨ ∃ l r, a = some l ∧ ρ l = some r ∧ b = some r.id
def CodeOK (G : Heap → Prop) (P : Program) (ev : Code → Fr → St → R) : Prop :=
  ∀ (c : Code) (fr : Fr) (st : St) (ρ : Ren) (w : World) (a : Act) (Q : Exit → Act → World → Prop) (m : Nat) (ro : Option Nat), StR G ρ fr st a w → RoR ρ fr.round ro →
    (ev c fr st).All (fun e st' => ∀ ρ' a' w', StR G ρ' fr st' a' w' → Turn ρ st.h w ρ' st'.h w' → Q e a' w') → c.wpIn (fw ro) m P Q a w
section
variable {P : Program} {ρ : Ren}
theorem SlR.put {s : Slots} {n : Nat} {tmps : Array Value} (h : SlR ρ s n tmps) {d : Nat} (hd : d < n) {v v' : Value} (hv : VR ρ v v') : SlR ρ (T.putP (some v) (pth d) s) n (tmps.setIfInBounds d v') := by
  refine ⟨by simp [h.1], fun t u ht => ?_⟩
  rw [T.get_put] at ht
  by_cases e : t = d
  · subst e
    rw [if_pos rfl] at ht; cases ht
    exact ⟨v', by simp [h.1, hd], hv⟩
  · rw [if_neg e] at ht
    obtain ⟨u', h1, h2⟩ := h.2 t u ht
    exact ⟨u', by rw [Array.getElem?_setIfInBounds_ne (Ne.symm e)]; exact h1, h2⟩
theorem setAll_ok : ∀ {ts : List Tmp} {vs vs' : List Value} {s : Slots} {n : Nat} {tmps : Array Value}, SlR ρ s n tmps → VRL ρ vs vs' → (∀ t ∈ ts, t < n) → SlR ρ (setAll s ts vs) n ((ts.zip vs').foldl (fun tm (p : Tmp × Value) => tm.setIfInBounds p.1 p.2) tmps)
  | [], _, _, _, _, _, h, _, _ => by simpa [setAll] using h
  | t :: ts, _, _, _, _, _, h, .nil, _ => by simpa [setAll] using h
  | t :: ts, _, _, _, _, _, h, .cons hv hl, ht => by
    simp only [setAll, List.zip_cons_cons, List.foldl_cons]
    exact setAll_ok (h.put (ht t (by simp)) hv) hl (fun x hx => ht x (by simp [hx]))
theorem ofList_ok : ∀ (args args' : List Value) (i : Nat) (s : Slots) (n : Nat) (tmps : Array Value), VRL ρ args args' → SlR ρ s n tmps → i + args.length ≤ n → (∀ j v, args'[j]? = some v → tmps[i + j]? = some v) → SlR ρ (T.ofList i args s) n tmps
  | [], _, _, _, _, _, .nil, h, _, _ => h
  | v :: args, _, i, s, n, tmps, .cons (v' := v') (l' := l') hv hl, h, hlen, hget => by
    simp only [T.ofList]
    refine ofList_ok args l' (i + 1) _ n tmps hl ?_ (by simp at hlen; omega) (fun j u hj => by
      have := hget (j + 1) u (by simpa using hj)
      rwa [show i + (j + 1) = i + 1 + j by omega] at this)
    refine ⟨h.1, fun t u ht => ?_⟩
    rw [T.get_set] at ht
    by_cases e : t = i
    · subst e
      rw [if_pos rfl] at ht; cases ht
      exact ⟨v', by simpa using hget 0 v' rfl, hv⟩
    · rw [if_neg e] at ht
      exact h.2 t u ht
theorem takeOff_ok {fn : Func} {tmps : Array Value} {R' : Ending → World → Prop} {m : Nat} {ro : Option Nat} : ∀ {l : List Nat} {ds : List Deferred} {h h' : Heap} {w : World}, Sim ρ h w → DR ρ l ds → takeOff l h = some h' →
    (∀ w', Turn ρ h w ρ h' w' → ∃ v, (results fn tmps).run P w' = .ok v w' ∧ R' (.returned v) w') → LeavesInM (fw ro) m P fn tmps R' ds .returning w
  | [], _, h, h', w, hs, .nil, e, hR => by
    cases e
    exact hR w (.refl hs)
  | b :: l, _, h, h', w, hs, .cons (r := r) hb hl, e, hR => by
    simp only [takeOff] at e
    split at e
    · rename_i hg
      split at e
      · rename_i h1 ht
        obtain ⟨o', g1, g2⟩ := hs.other hg hb
        cases g2
        have hT := Turn.obj hs hg hb .dfr0 ht
        refine ⟨by simp, .inl ⟨r.id, _, rfl, ?_, takeOff_ok (l := l) hT.sim hl e fun w' hT' => hR w' (hT.trans hT')⟩⟩
        simp only [Instr.takeDeferred, Sem.run_bind, run_getObj_of g1 (by simp), Result.andThen_ok]
        simp only [Sem.run_bind, run_setObj_of _ g1 (by simp), Result.andThen_ok, Sem.run_pure]
      · cases e
    · cases e
theorem resS_ok {s : Slots} {n : Nat} {tmps : Array Value} {h : Heap} {w : World} (hs : Sim ρ h w) (hl : SlR ρ s n tmps) : ∀ {rs : List ResultVar} {vs : List Value}, resS P s h rs = some vs →
    ∃ vs', (rs.mapM (fun | .tmp t => pure (tmps.getD t undef) | .cell a t => do loadVar t (← asAddr (tmps.getD a undef)) : ResultVar → Sem Value)).run P w = .ok vs' w ∧ VRL ρ vs vs'
  | [], vs, e => by cases e; exact ⟨[], by simp, .nil⟩
  | .tmp t :: rs, vs, e => by
    simp only [resS] at e
    split at e
    · rename_i v hv
      split at e
      · rename_i us hus
        cases e
        obtain ⟨v', h1, h2⟩ := hl.2 t v hv
        obtain ⟨us', h3, h4⟩ := resS_ok hs hl hus
        refine ⟨v' :: us', ?_, .cons h2 h4⟩
        have hg : tmps.getD t undef = v' := by simp [h1]
        simp only [List.mapM_cons, Sem.run_bind, Sem.run_pure, Result.andThen_ok, hg]
        simp only [h3, Result.andThen_ok, Sem.run_pure]
      · cases e
    · cases e
  | .cell c t :: rs, vs, e => by
    simp only [resS] at e
    split at e
    · rename_i p hp
      split at e
      · rename_i v hv
        split at e
        · rename_i us hus
          cases e
          obtain ⟨p', h1, h2⟩ := hl.2 c p hp
          obtain ⟨v', h5, h6⟩ := loadS_ok (P := P) hs t h2 hv
          obtain ⟨us', h3, h4⟩ := resS_ok hs hl hus
          refine ⟨v' :: us', ?_, .cons h6 h4⟩
          have hg : tmps.getD c undef = p' := by simp [h1]
          have h7 : (do loadVar t (← asAddr p') : Sem Value).run P w = .ok v' w := by
            cases p' <;> first
              | (rename_i q; cases q with
                 | some q => exact h5
                 | none => simp [Instr.loadAt, Instr.sureAddr] at h5)
              | (simp [Instr.loadAt, Instr.sureAddr] at h5)
          simp only [List.mapM_cons, hg]
          rw [Sem.run_bind, h7]
          simp only [Result.andThen_ok, Sem.run_bind, h3, Sem.run_pure]
        · cases e
      · cases e
    · cases e
end
end Go.Ev
