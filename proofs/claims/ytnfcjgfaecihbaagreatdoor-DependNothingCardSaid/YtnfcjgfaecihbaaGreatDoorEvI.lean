/- EvI: operations, one by one (maps). -/
import Derived.Test.YtnfcjgfaecihbaaGreatDoorEvH
set_option linter.unusedVariables false
set_option linter.unusedSimpArgs false
set_option linter.unusedSectionVars false
set_option linter.constructorNameAsVariable false
namespace Go.Ev
open Go
section
variable {P : Program} {ρ : Ren} {h : Heap} {w : World}
theorem pureP_bind {α β : Type} : ∀ (m : Sem α) (f : α → Sem β) {r : β}, pureP P (m >>= f) = some r → ∃ a, pureP P m = some a ∧ pureP P (f a) = some r
  | .pure a, f, r, e => ⟨a, rfl, e⟩
  | .program k, f, r, e => by
    obtain ⟨a, h1, h2⟩ := pureP_bind (k P) f (r := r) e
    exact ⟨a, h1, h2⟩
  | .mark _ k, f, r, e => by
    obtain ⟨a, h1, h2⟩ := pureP_bind k f (r := r) e
    exact ⟨a, h1, h2⟩
  | .load .., f, r, e => by cases e
  | .store .., f, r, e => by cases e
  | .new .., f, r, e => by cases e
  | .shape .., f, r, e => by cases e
  | .freeze .., f, r, e => by cases e
  | .frozen .., f, r, e => by cases e
  | .getObj .., f, r, e => by cases e
  | .setObj .., f, r, e => by cases e
  | .choose .., f, r, e => by cases e
  | .sys .., f, r, e => by cases e
  | .halt .., f, r, e => by cases e
theorem pureP_join {α β : Type} : ∀ (m : Sem α) (f : α → Sem β) {a : α} {r : β}, pureP P m = some a → pureP P (f a) = some r → pureP P (m >>= f) = some r
  | .pure a, f, a', r, e, e' => by cases e; exact e'
  | .program k, f, a', r, e, e' => pureP_join (k P) f e e'
  | .mark _ k, f, a', r, e, e' => pureP_join k f e e'
  | .load .., f, a', r, e, _ => by cases e
  | .store .., f, a', r, e, _ => by cases e
  | .new .., f, a', r, e, _ => by cases e
  | .shape .., f, a', r, e, _ => by cases e
  | .freeze .., f, a', r, e, _ => by cases e
  | .frozen .., f, a', r, e, _ => by cases e
  | .getObj .., f, a', r, e, _ => by cases e
  | .setObj .., f, a', r, e, _ => by cases e
  | .choose .., f, a', r, e, _ => by cases e
  | .sys .., f, a', r, e, _ => by cases e
  | .halt .., f, a', r, e, _ => by cases e
def FoR (ρ : Ren) : Option (Nat × Value) → Option (Nat × Value) → Prop
  | none, none => True
  | some (i, v), some (j, v') => i = j ∧ VR ρ v v'
  | _, _ => False
theorem findNow_ok (d : TypeDesc) (k : Value) : ∀ {es es' : List MapEntry}, ER ρ es es' → flatK es = true → ∀ i,
    (Instr.findNow d k es i = none ∧ Instr.findNow d k es' i = none) ∨ ∃ r r', Instr.findNow d k es i = some r ∧ Instr.findNow d k es' i = some r' ∧ FoR ρ r r'
  | _, _, .nil, _, i => .inr ⟨none, none, rfl, rfl, trivial⟩
  | _, _, .cons (k := k1) (k' := k1') hk hv hl, hf, i => by
    simp only [flatK, Bool.and_eq_true] at hf
    have := hk.flat hf.1; subst this
    simp only [Instr.findNow]
    cases Instr.sameNow d k k1' with
    | none => exact .inl ⟨rfl, rfl⟩
    | some b =>
      cases b with
      | true => exact .inr ⟨_, _, rfl, rfl, rfl, hv⟩
      | false => exact findNow_ok d k hl hf.2 (i + 1)
theorem findAsking_ok (t : TypeId) (k : Value) : ∀ {es es' : List MapEntry}, ER ρ es es' → flatK es = true → ∀ (i : Nat) {r : Option (Nat × Value)}, pureP P (Instr.findAsking t k es i) = some r →
    ∃ r', pureP P (Instr.findAsking t k es' i) = some r' ∧ FoR ρ r r'
  | _, _, .nil, _, i, r, e => by cases e; exact ⟨none, rfl, trivial⟩
  | _, _, .cons (k := k1) (k' := k1') hk hv hl, hf, i, r, e => by
    simp only [flatK, Bool.and_eq_true] at hf
    have := hk.flat hf.1; subst this
    obtain ⟨b, h1, h2⟩ := pureP_bind _ _ e
    cases b with
    | true =>
      cases h2
      exact ⟨_, pureP_join _ _ h1 rfl, rfl, hv⟩
    | false =>
      obtain ⟨r', h3, h4⟩ := findAsking_ok t k hl hf.2 (i + 1) h2
      exact ⟨r', pureP_join _ _ h1 h3, h4⟩
theorem findS_ok {kt : TypeId} {k k' : Value} {es es' : List MapEntry} {em : Bool} {r : Option (Nat × Value)} (hk : VR ρ k k') (he : ER ρ es es') (e : findS P kt k es em = some r) (w : World) :
    k' = k ∧ (Instr.checkKey em 10000 kt k).run P w = .ok () w ∧ ∃ r', (Instr.findKey kt k es').run P w = .ok r' w ∧ FoR ρ r r' := by
  unfold findS at e
  cases hf : (flat k && flatK es) with
  | false => simp [hf] at e
  | true =>
    simp only [hf, cond_true] at e
    simp only [Bool.and_eq_true] at hf
    split at e
    · rename_i u hu
      refine ⟨hk.flat hf.1, pureP_run _ hu, ?_⟩
      obtain ⟨d, h1, h2⟩ := pureP_bind _ _ e
      rcases findNow_ok (ρ := ρ) d k he hf.2 0 with ⟨g1, g2⟩ | ⟨q, q', g1, g2, g3⟩
      · rw [g1] at h2
        obtain ⟨r', h3, h4⟩ := findAsking_ok kt k he hf.2 0 h2
        refine ⟨r', pureP_run _ (pureP_join _ _ h1 ?_), h4⟩
        rw [g2]; exact h3
      · rw [g1] at h2
        cases h2
        refine ⟨q', pureP_run _ (pureP_join _ _ h1 ?_), g3⟩
        rw [g2]; rfl
    · cases e
theorem ER.empty {es es' : List MapEntry} (h : ER ρ es es') : (⟨es'⟩ : Array MapEntry).isEmpty = es.isEmpty := by cases h <;> rfl
theorem esOf_ok (hs : Sim ρ h w) {x x' : Value} {es : List MapEntry} (hx : VR ρ x x') (e : esOf h x = some es) :
    ∃ es', ER ρ es es' ∧ ((x' = .map none ∧ es' = []) ∨ ∃ r clock, x' = .map (some r) ∧ w.heap[r]? = some (.map ⟨es'⟩ clock)) := by
  unfold esOf at e
  split at e
  · cases e; exact ⟨[], .nil, .inl ⟨map0_inv hx, rfl⟩⟩
  · rename_i b
    split at e
    · rename_i es0 clock hg
      cases e
      obtain ⟨r, hr, rfl⟩ := map_inv hx
      obtain ⟨es', h1, h2⟩ := hs.map hg hr
      exact ⟨es', h2, .inr ⟨r.id, clock, rfl, h1⟩⟩
    · cases e
  · cases e
theorem lookup_ok (hs : Sim ρ h w) (t : TypeId) {x x' ix ix' v : Value} (ok : Bool) (hx : VR ρ x x') (hi : VR ρ ix ix') (e : lookupS P t x ix ok h = some v) : ∃ v', (Instr.lookup t x' ix' ok).run P w = .ok v' w ∧ VR ρ v v' := by
  unfold lookupS at e
  split at e
  · rename_i kt el hu
    split at e
    · rename_i es hes
      split at e
      · rename_i r hfd
        obtain ⟨es', he, hx'⟩ := esOf_ok hs hx hes
        obtain ⟨rfl, h1, r', h2, h3⟩ := findS_ok (P := P) hi he hfd w
        have hem := he.empty
        have hrun : (Instr.lookup t x' ix' ok).run P w = (do
            let (v, ok2) ← match r' with
              | some (_, v) => pure (v, true)
              | none => pure (← zeroValue el, false)
            pure (if ok then .tuple #[v, .bool ok2] else v) : Sem Value).run P w := by
          unfold Instr.lookup
          rcases hx' with ⟨rfl, rfl⟩ | ⟨rr, clock, rfl, hh⟩
          · have hem2 : (#[] : Array MapEntry).isEmpty = es.isEmpty := hem
            simp only [Sem.run_bind, und_run hu w, Result.andThen_ok, Sem.run_pure, hem2, h1]
            have h2' : (Instr.findKey kt ix' ((#[] : Array MapEntry).toList)).run P w = .ok r' w := h2
            simp only [h2', Result.andThen_ok]
            cases r' <;> rfl
          · simp only [Sem.run_bind, und_run hu w, Result.andThen_ok, run_getObj_of hh (by simp), Sem.run_pure, hem, h1]
            simp only [h2, Result.andThen_ok]
            cases r' <;> rfl
        rw [hrun]
        unfold foundS at e
        split at e
        · rename_i i v0
          cases r' with
          | none => exact h3.elim
          | some q =>
            obtain ⟨j, v0'⟩ := q
            obtain ⟨rfl, hv0⟩ := h3
            cases e
            refine ⟨if ok = true then .tuple #[v0', .bool true] else v0', by simp, ?_⟩
            cases ok
            · exact hv0
            · exact .tuple (.cons hv0 (.cons (.bool true) .nil))
        · cases r' with
          | some q => exact h3.elim
          | none =>
            split at e
            · rename_i z hz
              cases e
              obtain ⟨g1, g2⟩ := zeroT_run hz w
              refine ⟨if ok = true then .tuple #[z, .bool false] else z, by simp [g1], ?_⟩
              cases ok
              · exact .of_flat g2
              · exact .tuple (.cons (.of_flat g2) (.cons (.bool false) .nil))
            · cases e
      · cases e
    · cases e
  · cases e
theorem setE_eq (i : Nat) (f : MapEntry → MapEntry) : ∀ (es : List MapEntry), (⟨es⟩ : Array MapEntry).modify i f = ⟨setE i f es⟩ := by
  intro es
  apply Array.ext'
  rw [Array.toList_modify]
  show es.modify i f = setE i f es
  induction es generalizing i with
  | nil => cases i <;> rfl
  | cons e es ih =>
    cases i with
    | zero => rfl
    | succ i => simp only [List.modify_succ_cons, setE, ih]
theorem push_eq {α : Type} (l : List α) (x : α) : (⟨l⟩ : Array α).push x = ⟨l ++ [x]⟩ := by apply Array.ext'; simp
theorem setE_nil (i : Nat) (f : MapEntry → MapEntry) : setE i f [] = [] := by cases i <;> rfl
theorem setE_zero (f : MapEntry → MapEntry) (e : MapEntry) (es : List MapEntry) : setE 0 f (e :: es) = f e :: es := rfl
theorem setE_succ (i : Nat) (f : MapEntry → MapEntry) (e : MapEntry) (es : List MapEntry) : setE (i + 1) f (e :: es) = e :: setE i f es := rfl
theorem ER.set {f f' : MapEntry → MapEntry} (hf : ∀ k v b k' v', VR ρ k k' → VR ρ v v' → ∃ K V K' V', f ⟨k, v, b⟩ = ⟨K, V, b⟩ ∧ f' ⟨k', v', b⟩ = ⟨K', V', b⟩ ∧ VR ρ K K' ∧ VR ρ V V')
    (i : Nat) {es es' : List MapEntry} (h : ER ρ es es') : ER ρ (setE i f es) (setE i f' es') := by
  induction h generalizing i with
  | nil => rw [setE_nil, setE_nil]; exact .nil
  | cons hk hv hl ih =>
    cases i with
    | zero =>
      rw [setE_zero, setE_zero]
      obtain ⟨K, V, K', V', h1, h2, h3, h4⟩ := hf _ _ _ _ _ hk hv
      rw [h1, h2]
      exact .cons h3 h4 hl
    | succ i => rw [setE_succ, setE_succ]; exact .cons hk hv (ih i)
theorem ER.snoc {es es' : List MapEntry} (h : ER ρ es es') {k k' v v' : Value} {b : Nat} (hk : VR ρ k k') (hv : VR ρ v v') : ER ρ (es ++ [⟨k, v, b⟩]) (es' ++ [⟨k', v', b⟩]) := by
  induction h with
  | nil => exact .cons hk hv .nil
  | cons a b _ ih => exact .cons a b ih
theorem ER.get {es es' : List MapEntry} (h : ER ρ es es') : ∀ (i : Nat) {e : MapEntry}, es[i]? = some e → ∃ e', es'[i]? = some e' ∧ VR ρ e.key e'.key ∧ VR ρ e.val e'.val ∧ e'.born = e.born := by
  induction h with
  | nil => intro i e h; simp at h
  | cons a b _ ih =>
    intro i e h
    cases i with
    | zero => simp at h; subst h; exact ⟨_, rfl, a, b, rfl⟩
    | succ i => simpa using ih i (by simpa using h)
theorem stays_ok : ∀ (i : Nat) {k : Value} {es es' : List MapEntry}, ER ρ es es' → flatK es = true → stays i k es = true → ∃ e', es'[i]? = some e' ∧ Instr.sameBits 10000 e'.key k = true
  | _, _, _, _, .nil, _, e => by simp [stays] at e
  | 0, _, _, _, .cons hk hv hl, hf, e => by
    simp only [flatK, Bool.and_eq_true] at hf
    have := hk.flat hf.1; subst this
    exact ⟨_, rfl, by simpa [stays] using e⟩
  | i + 1, _, _, _, .cons hk hv hl, hf, e => by
    simp only [flatK, Bool.and_eq_true] at hf
    simpa using stays_ok i hl hf.2 (by simpa [stays] using e)
theorem findS_flat {kt : TypeId} {k : Value} {es : List MapEntry} {em : Bool} {r : Option (Nat × Value)} (e : findS P kt k es em = some r) : flat k = true ∧ flatK es = true := by
  unfold findS at e
  cases hf : (flat k && flatK es) with
  | false => simp [hf] at e
  | true => simpa using hf
theorem mapUpdate_ok (hs : Sim ρ h w) (t : TypeId) {m m' k k' v v' : Value} (hm : VR ρ m m') (hk : VR ρ k k') (hv : VR ρ v v') : USpec ρ h w (pu (updateS P t m k v h)) ((Instr.mapUpdate t m' k' v').run P w) := by
  cases e : updateS P t m k v h with
  | none => trivial
  | some h' =>
    unfold updateS at e
    split at e
    · rename_i kt el r0 hu
      split at e
      · rename_i es clock hg
        obtain ⟨r, hr, rfl⟩ := map_inv hm
        obtain ⟨es', g1, g2⟩ := hs.map hg hr
        split at e
        · rename_i i v0 hfd
          obtain ⟨rfl, h1, r', h2, h3⟩ := findS_ok (P := P) hk g2 hfd w
          obtain ⟨f1, f2⟩ := findS_flat hfd
          cases hst : stays i k' es with
          | false => simp [hst] at e
          | true =>
            simp only [hst, cond_true] at e
            obtain ⟨e', q1, q2⟩ := stays_ok i g2 f2 hst
            cases r' with
            | none => exact h3.elim
            | some q =>
              obtain ⟨j, v0'⟩ := q
              obtain ⟨rfl, hv0⟩ := h3
              have hT := Turn.obj hs hg hr (o' := .map ⟨setE i (fun e => { e with key := k', val := v' }) es'⟩ clock) (.map clock (ER.set (fun kk vv b kk' vv' a1 a2 => ⟨k', v, k', v', rfl, rfl, .of_flat f1, hv⟩) i g2)) e
              refine ⟨ρ, _, ?_, hT⟩
              have hkey : (((⟨es'⟩ : Array MapEntry)[i]?).map (·.key)).getD k' = e'.key := by simp [q1]
              simp only [Instr.mapUpdate, Sem.run_bind, und_run hu w, Result.andThen_ok, run_getObj_of g1 (by simp), h1]
              simp only [h2, Result.andThen_ok, Sem.run_bind, hkey, Instr.keyThatStays, q2, if_true, Sem.run_pure, setE_eq, run_setObj_of _ g1 (by simp)]
        · rename_i hfd
          obtain ⟨rfl, h1, r', h2, h3⟩ := findS_ok (P := P) hk g2 hfd w
          obtain ⟨f1, f2⟩ := findS_flat hfd
          cases r' with
          | some q => exact h3.elim
          | none =>
            have hT := Turn.obj hs hg hr (o' := .map ⟨es' ++ [{ key := k', val := v', born := clock }]⟩ (clock + 1)) (.map _ (g2.snoc (.of_flat f1) hv)) e
            refine ⟨ρ, _, ?_, hT⟩
            simp only [Instr.mapUpdate, Sem.run_bind, und_run hu w, Result.andThen_ok, run_getObj_of g1 (by simp), h1]
            simp only [h2, Result.andThen_ok, run_setObj_of _ g1 (by simp), push_eq]
        · cases e
      · cases e
    · cases e
theorem bornAt_eq : ∀ (i : Nat) {es es' : List MapEntry}, ER ρ es es' → bornAt i es = ((es'[i]?).map (·.born)).getD 0
  | _, _, _, .nil => by simp [bornAt]
  | 0, _, _, .cons _ _ _ => rfl
  | i + 1, _, _, .cons _ _ hl => by simpa [bornAt] using bornAt_eq i hl
theorem mapEntry_ok (hs : Sim ρ h w) (t : TypeId) {m m' k k' : Value} (hm : VR ρ m m') (hk : VR ρ k k') : VSpec ρ h w (entryS P t m k h) ((Instr.mapEntry t m' k').run P w) := by
  unfold entryS
  split
  · rename_i kt el r0 hu
    split
    · rename_i es clock hg
      obtain ⟨r, hr, rfl⟩ := map_inv hm
      obtain ⟨es', g1, g2⟩ := hs.map hg hr
      split
      · rename_i i v0 hfd
        obtain ⟨rfl, h1, r', h2, h3⟩ := findS_ok (P := P) hk g2 hfd w
        obtain ⟨f1, f2⟩ := findS_flat hfd
        cases hst : stays i k' es with
        | false => trivial
        | true =>
          simp only [cond_true]
          refine .ob fun h' e => ?_
          obtain ⟨e', q1, q2⟩ := stays_ok i g2 f2 hst
          cases r' with
          | none => exact h3.elim
          | some q =>
            obtain ⟨j, v0'⟩ := q
            obtain ⟨rfl, hv0⟩ := h3
            have hT := Turn.obj hs hg hr (o' := .map ⟨setE i (fun e => { e with key := k' }) es'⟩ clock) (.map clock (ER.set (fun kk vv b kk' vv' a1 a2 => ⟨k', vv, k', vv', rfl, rfl, .of_flat f1, a2⟩) i g2)) e
            refine ⟨ρ, .tuple #[v0', .int .i64 (.ofNat (bornAt i es))], _, ?_, hT, .tuple (.cons hv0 (.cons (.int _ _) .nil))⟩
            have hkey : (((⟨es'⟩ : Array MapEntry)[i]?).map (·.key)).getD k' = e'.key := by simp [q1]
            have hborn : bornAt i es = e'.born := by rw [bornAt_eq i g2, q1]; rfl
            simp only [Instr.mapEntry, Sem.run_bind, und_run hu w, Result.andThen_ok, run_getObj_of g1 (by simp), h1]
            simp only [h2, Result.andThen_ok, Sem.run_bind, hkey, Instr.keyThatStays, q2, if_true, Sem.run_pure, setE_eq, run_setObj_of _ g1 (by simp)]
            simp [q1, hborn, goInt]
      · rename_i hfd
        split
        · rename_i z hz
          obtain ⟨z1, z2⟩ := zeroT_run hz w
          obtain ⟨rfl, h1, r', h2, h3⟩ := findS_ok (P := P) hk g2 hfd w
          obtain ⟨f1, f2⟩ := findS_flat hfd
          refine .ob fun h' e => ?_
          cases r' with
          | some q => exact h3.elim
          | none =>
            have hT := Turn.obj hs hg hr (o' := .map ⟨es' ++ [{ key := k', val := z, born := clock }]⟩ (clock + 1)) (.map _ (g2.snoc (.of_flat f1) (.of_flat z2))) e
            refine ⟨ρ, .tuple #[z, .int .i64 (.ofNat clock)], _, ?_, hT, .tuple (.cons (.of_flat z2) (.cons (.int _ _) .nil))⟩
            simp only [Instr.mapEntry, Sem.run_bind, und_run hu w, Result.andThen_ok, run_getObj_of g1 (by simp), h1]
            simp only [h2, Result.andThen_ok, Sem.run_bind, z1, run_setObj_of _ g1 (by simp), push_eq, Sem.run_pure]
            rfl
        · trivial
      · trivial
    · trivial
  · trivial
theorem findBorn_ok (b : Nat) : ∀ {es es' : List MapEntry}, ER ρ es es' → ∀ (i : Nat) {j : Nat}, findBorn b es i = some j → i ≤ j ∧ es'.findIdx? (fun e => ((e.born : Int) == Int.ofNat b)) = some (j - i)
  | _, _, .nil, i, j, e => by cases e
  | _, _, .cons (b := b1) _ _ hl, i, j, e => by
    simp only [findBorn] at e
    cases hb : Nat.beq b1 b with
    | true =>
      simp only [hb, cond_true, Option.some.injEq] at e
      subst e
      have := Nat.eq_of_beq_eq_true hb
      subst this
      exact ⟨Nat.le_refl _, by simp [List.findIdx?_cons]⟩
    | false =>
      simp only [hb, cond_false] at e
      obtain ⟨h1, h2⟩ := findBorn_ok b hl (i + 1) e
      have hne : ((b1 : Int) == Int.ofNat b) = false := by
        rw [Bool.eq_false_iff]; intro h; simp at h; have : b1 = b := by omega
        rw [this] at hb; simp at hb
      refine ⟨by omega, ?_⟩
      rw [List.findIdx?_cons, hne, h2]
      simp; omega
theorem entryStore_ok (hs : Sim ρ h w) (t : TypeId) {m m' st st' v v' : Value} (hm : VR ρ m m') (hst : VR ρ st st') (hv : VR ρ v v') : USpec ρ h w (pu (entryStoreS m st v h)) ((Instr.entryStore t m' st' v').run P w) := by
  cases e : entryStoreS m st v h with
  | none => trivial
  | some h' =>
    unfold entryStoreS at e
    split at e
    · rename_i r0 b hb
      split at e
      · rename_i es clock hg
        split at e
        · rename_i i hi
          obtain ⟨r, hr, rfl⟩ := map_inv hm
          obtain ⟨es', g1, g2⟩ := hs.map hg hr
          obtain ⟨kk, rfl⟩ := natOf_some hb
          have := int_inv hst; subst this
          obtain ⟨_, hf⟩ := findBorn_ok b g2 0 hi
          have hT := Turn.obj hs hg hr (o' := .map ⟨setE i (fun e => { e with val := v' }) es'⟩ clock) (.map clock (ER.set (fun kk vv b kk' vv' a1 a2 => ⟨kk, v, kk', v', rfl, rfl, a1, hv⟩) i g2)) e
          refine ⟨ρ, _, ?_, hT⟩
          have hf' : (⟨es'⟩ : Array MapEntry).findIdx? (fun e => ((e.born : Int) == Int.ofNat b)) = some i := by
            rw [List.findIdx?_toArray]; simpa using hf
          simp only [Instr.entryStore, Sem.run_bind, run_getObj_of g1 (by simp), Result.andThen_ok, asInt, asIntOf, Sem.run_pure]
          simp only [hf', setE_eq, run_setObj_of _ g1 (by simp)]
        · cases e
      · cases e
    · cases e
theorem delete_ok (hs : Sim ρ h w) (t : TypeId) (u : List TypeId) (ty : TypeId) {m m' k k' : Value} (hm : VR ρ m m') (hk : VR ρ k k') : VSpec ρ h w (deleteS P t m k h) ((Builtin.delete_ ⟨t :: u⟩ ty ⟨[m', k']⟩).run P w) := by
  unfold deleteS
  split
  · rename_i kt el r0 hu
    split
    · rename_i es clock hg
      obtain ⟨r, hr, rfl⟩ := map_inv hm
      obtain ⟨es', g1, g2⟩ := hs.map hg hr
      split
      · rename_i i v0 hfd
        obtain ⟨rfl, h1, r', h2, h3⟩ := findS_ok (P := P) hk g2 hfd w
        refine .ob fun h' e => ?_
        cases r' with
        | none => exact h3.elim
        | some q =>
          obtain ⟨j, v0'⟩ := q
          obtain ⟨rfl, hv0⟩ := h3
          have her : ER ρ (es.eraseIdx i) (es'.eraseIdx i) := by
            clear hfd h2 e hv0 g1 h1 hg
            induction g2 generalizing i with
            | nil => simp; exact .nil
            | cons a b c ih =>
              cases i with
              | zero => simpa using c
              | succ i => simpa using ER.cons a b (ih i)
          have hT := Turn.obj hs hg hr (o' := .map ⟨es'.eraseIdx i⟩ clock) (.map clock her) e
          refine ⟨ρ, .tuple #[], _, ?_, hT, .tuple .nil⟩
          have hem := g2.empty
          have hera : (⟨es'⟩ : Array MapEntry).eraseIdxIfInBounds i = ⟨es'.eraseIdx i⟩ := by apply Array.ext'; simp
          unfold Builtin.delete_
          simp only [List.getElem?_toArray, List.getElem?_cons_zero, List.getElem?_cons_succ, Sem.run_bind, und_run hu w, Result.andThen_ok, run_getObj_of g1 (by simp), hem, h1]
          simp only [h2, Result.andThen_ok, Sem.run_bind, hera, run_setObj_of _ g1 (by simp), Sem.run_pure]
      · trivial
    · trivial
  · trivial
theorem newP_ok (hs : Sim ρ h w) (size k : Nat) {o : Ob} {o' : Obj} (ho : ∀ r, ObR ρ r o o') {r : Result Value} (hr : r = .ok (.pointer (some ⟨w.heap.size, 0, none⟩)) { w with heap := w.heap.push o' }) : VSpec ρ h w (newP h o) r :=
  newBlock hs size k _ _ (ho _) fun ρ' h1 h2 => ⟨ρ', _, _, hr, h2, .ptr 0 h1⟩
theorem range_ok (hs : Sim ρ h w) (t : TypeId) {x x' : Value} (hx : VR ρ x x') : VSpec ρ h w (rangeS P t x h) ((Instr.range t x').run P w) := by
  unfold rangeS
  split
  · rename_i l hu
    have := str_inv hx; subst this
    exact newP_ok hs 0 0 (fun r => .sIter l 0) (by simp [Instr.range, underlying, hu])
  · rename_i a b hu
    have := map0_inv hx; subst this
    exact newP_ok hs 0 0 (fun r => .mIter0 0 [] 0) (by simp [Instr.range, underlying, hu])
  · rename_i a b m hu
    split
    · rename_i es clock hg
      obtain ⟨r, hr, rfl⟩ := map_inv hx
      obtain ⟨es', g1, g2⟩ := hs.map hg hr
      exact newP_ok hs 0 0 (fun _ => .mIter clock [] clock hr) (by simp [Instr.range, underlying, hu, run_getObj_of g1 (by simp)])
    · trivial
  · trivial
end
end Go.Ev
