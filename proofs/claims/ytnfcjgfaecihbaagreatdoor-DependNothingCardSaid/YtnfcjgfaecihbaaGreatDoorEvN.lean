/- EvN: calls. -/
import Derived.Test.YtnfcjgfaecihbaaGreatDoorEvM
set_option linter.unusedVariables false
set_option linter.unusedSimpArgs false
set_option linter.unusedSectionVars false
set_option linter.constructorNameAsVariable false
namespace Go.Ev
open Go
def resF (tmps : Array Value) (r : ResultVar) : Sem Value :=
  @ResultVar.casesOn (fun _ => Sem Value) r (fun t => pure (tmps.getD t undef)) (fun a t => do loadVar t (← asAddr (tmps.getD a undef)))
theorem results_def (fn : Func) (tmps : Array Value) : results fn tmps = (do let vs ← Functor.map List.toArray (fn.results.toList.mapM (resF tmps)); pure (if h : vs.size = 1 then vs[0] else .tuple vs)) := by
  unfold results
  rw [Array.mapM_eq_mapM_toList]
  have e : ∀ (f g : ResultVar → Sem Value), f = g → Functor.map List.toArray (fn.results.toList.mapM f) = Functor.map List.toArray (fn.results.toList.mapM g) := fun f g h => by rw [h]
  rw [e _ (resF tmps) (by funext r; cases r <;> rfl)]
section
variable {G : Heap → Prop} {P : Program} {ev : Code → Fr → St → R} {ρ : Ren} {w : World}
theorem results_ok {s : Slots} {n : Nat} {fn : Func} {tmps : Array Value} {h : Heap} (hs : Sim ρ h w) (hl : SlR ρ s n tmps) {vs : List Value} (e : resS P s h fn.results.toList = some vs) :
    ∃ v', (results fn tmps).run P w = .ok v' w ∧ VR ρ (one vs) v' := by
  obtain ⟨vs', h1, h2⟩ := resS_ok hs hl e
  have e2 : ∀ (f g : ResultVar → Sem Value), f = g → (fn.results.toList.mapM f) = (fn.results.toList.mapM g) := fun f g h => by rw [h]
  rw [e2 _ (resF tmps) (by funext r; cases r <;> rfl)] at h1
  rw [results_def, Sem.run_bind, Sem.run_map, h1]
  match vs, vs', h2 with
  | [], _, .nil => exact ⟨_, rfl, .tuple .nil⟩
  | [v], _, .cons hv .nil => exact ⟨_, rfl, hv⟩
  | v :: u :: l, _, .cons hv (.cons hu hl) => exact ⟨_, rfl, .tuple (.cons hv (.cons hu hl))⟩
theorem callR_ok {f : FuncId} {args args' : List Value} {h : Heap} {Rr : Ending → World → Prop} {m : Nat} {ro : Option Nat} (hev : CodeOK G P ev) (hs : Sim ρ h w) (hG : G h) (ha : VRL ρ args args')
    (hx : (callR P ev f args h).All (fun v h' => ∀ ρ' w' v', Turn ρ h w ρ' h' w' → VR ρ' v v' → Rr (.returned v') w')) : CallsIn (fw ro) m P f ⟨args'⟩ w Rr := by
  suffices hg : CallsIn (fw none) m P f ⟨args'⟩ w Rr from hg
  unfold callR fnK at hx
  split at hx
  · exact hx.elim
  · rename_i fn hfn
    split at hx
    · exact hx.elim
    · rename_i c hc
      refine callsIn_of_wp_marks hfn hc trivial ?_
      have hlen := ha.length
      have hsz : ((⟨args'⟩ : Array Value) ++ Array.replicate (fn.ntmps - (⟨args'⟩ : Array Value).size) undef).size = Nat.max fn.ntmps args.length := by
        simp only [Array.size_append, Array.size_replicate, List.size_toArray, hlen]
        show args.length + (fn.ntmps - args.length) = max fn.ntmps args.length
        omega
      have hl : SlR ρ (T.ofList 0 args .e) (Nat.max fn.ntmps args.length) ((⟨args'⟩ : Array Value) ++ Array.replicate (fn.ntmps - (⟨args'⟩ : Array Value).size) undef) := by
        refine ofList_ok args args' 0 .e _ _ ha ⟨hsz, fun t v ht => ?_⟩ ?_ ?_
        · cases ht
        · have : args.length ≤ max fn.ntmps args.length := by omega
          simpa using this
        · intro j v hj
          have hj' : j < args'.length := by
            rcases Nat.lt_or_ge j args'.length with h | h
            · exact h
            · rw [List.getElem?_eq_none h] at hj; cases hj
          rw [Nat.zero_add, Array.getElem?_append_left (by simpa using hj')]
          simpa using hj
      refine hev c ⟨f, Nat.max fn.ntmps args.length, none⟩ ⟨T.ofList 0 args .e, h, []⟩ ρ w _ _ m none ⟨hs, hl, .nil, hG⟩ (.inl ⟨rfl, rfl⟩) (R.All.mono ?_ (R.all_toC hx))
      intro e st' x ρ' a' w' hS hT
      have hleave : ∀ (y : (match takeOff st'.d st'.h with | some h' => (match resS P st'.s h' fn.results.toList with | some vs => CR.yes (one vs) h' | none => .no) | none => .no).All (fun v h' => ∀ ρ' w' v', Turn ρ h w ρ' h' w' → VR ρ' v v' → Rr (.returned v') w')), LeavesInM (fw none) m P fn a'.tmps Rr a'.defers .returning w' := by
        intro y
        split at y
        · rename_i h' ht
          refine takeOff_ok hS.sim hS.df ht fun w2 hT2 => ?_
          split at y
          · rename_i vs hvs
            obtain ⟨v', h1, h2⟩ := results_ok hT2.sim hS.sl hvs
            exact ⟨v', h1, y ρ' w2 v' (hT.trans hT2) h2⟩
          · exact y.elim
        · exact y.elim
      cases e with
      | normal => exact hleave x
      | ret => exact hleave x
      | exit i => exact x.elim
      | goto i => exact x.elim
      | panic c => exact x.elim
      | outgrown => exact x.elim
end
end Go.Ev
