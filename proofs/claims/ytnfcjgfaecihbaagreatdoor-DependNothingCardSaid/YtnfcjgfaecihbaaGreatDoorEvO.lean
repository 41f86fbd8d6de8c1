/- EvO: rounds. -/
import Derived.Test.YtnfcjgfaecihbaaGreatDoorEvN
set_option linter.unusedVariables false
set_option linter.unusedSimpArgs false
set_option linter.unusedSectionVars false
set_option linter.constructorNameAsVariable false
namespace Go.Ev
open Go
section
variable {G : Heap → Prop} {P : Program} {ev : Code → Fr → St → R} {ρ : Ren} {w : World} {h : Heap}
theorem get_loop (hs : Sim ρ h w) {l : Nat} {r : SLoop} {rl : RB} (hg : h.get l = some (.loop r)) (hl : ρ l = some rl) :
    ∃ (l' : Loop) (rd : RB), w.heap[rl.id]? = some (.loop l') ∧ l'.state = r.state ∧ l'.pending = r.pending ∧ SlR ρ r.tmps r.ntmps l'.tmps ∧ l'.params = ⟨r.params⟩ ∧ l'.assign = r.assign ∧ l'.body = r.body ∧ ρ r.defers = some rd ∧ l'.defers = rd.id := by
  obtain ⟨o', g1, g2⟩ := hs.other hg hl
  cases g2 with
  | loop hst hp ht hps ha hb hd hd' => exact ⟨_, _, g1, hst, hp, ht, hps, ha, hb, hd, hd'⟩
theorem end_ok {fr : Fr} {st : St} {a : Act} {l : Nat} {rl : RB} {state : LoopState} {p : Option Code} {Rr : Ending → World → Prop} (hst : state = if p.isNone then .ready else .done) (hS : StR G ρ fr st a w) (hl : ρ l = some rl)
    (hx : (endR l state p st).All (fun v h' => ∀ ρ' w' v', Turn ρ st.h w ρ' h' w' → VR ρ' v v' → Rr (.returned v') w')) : ∃ v w', (Instr.endRound rl.id p).run P w = .ok v w' ∧ Rr (.returned v) w' := by
  unfold endR endS at hx
  split at hx
  · rename_i r hd hg
    split at hx
    · rename_i h' ht
      obtain ⟨l', rd, g1, g2, g3, g4, g5, g6, g7, g8, g9⟩ := get_loop hS.sim hg hl
      have hT := Turn.obj (o := .loop { r with state := state, pending := p }) (o' := .loop { l' with state := if p.isNone then .ready else .done, pending := p }) hS.sim hg hl (.loop hst.symm rfl g4 g5 g6 g7 g8 g9) ht
      exact ⟨_, _, run_endRound p g1, hx ρ _ _ hT (.bool _)⟩
    · exact hx.elim
  · exact hx.elim
theorem round_ok {l : Nat} {rl : RB} {args args' : List Value} {Rr : Ending → World → Prop} {m : Nat} {ro : Option Nat} (hev : CodeOK G P ev) (hK : ∀ h h', (∀ b, b < gBase → h'.get b = h.get b) → G h → G h')
    (hs : Sim ρ h w) (hG : G h) (hl : ρ l = some rl) (ha : VRL ρ args args')
    (hx : (roundR ev l args h).All (fun v h' => ∀ ρ' w' v', Turn ρ h w ρ' h' w' → VR ρ' v v' → Rr (.returned v') w')) :
    ∃ f tmps asn body, (Instr.yield rl.id ⟨args'⟩).run P w = .ok (.round rl.id f tmps asn body) w ∧ RoundIn (fw ro) m P rl.id f tmps asn body w Rr := by
  unfold roundR at hx
  split at hx
  · rename_i r hg
    obtain ⟨l', rd, g1, g2, g3, g4, g5, g6, g7, g8, g9⟩ := get_loop hs hg hl
    cases hb : (Nat.beq args.length r.params.length && r.params.all (fun t => Nat.blt t r.ntmps)) with
    | false => rw [hb] at hx; exact hx.elim
    | true =>
      rw [hb] at hx
      simp only [Bool.and_eq_true, List.all_eq_true] at hb
      have hlen := ha.length
      have hsz : (⟨args'⟩ : Array Value).size = l'.params.size := by rw [g5]; simpa [hlen] using Nat.eq_of_beq_eq_true hb.1
      refine ⟨_, _, _, _, run_yield g1 hsz, roundIn_of_wpIn trivial ?_⟩
      have hfold : ((l'.params.zip ⟨args'⟩).foldl (fun tmps (x : Tmp × Value) => tmps.setIfInBounds x.1 x.2) l'.tmps) = ((r.params.zip args').foldl (fun tm (p : Tmp × Value) => tm.setIfInBounds p.1 p.2) l'.tmps) := by
        rw [g5]; simp
      have hsl : SlR ρ (setAll r.tmps r.params args) r.ntmps ((l'.params.zip ⟨args'⟩).foldl (fun tmps (x : Tmp × Value) => tmps.setIfInBounds x.1 x.2) l'.tmps) := by
        rw [hfold]
        exact setAll_ok g4 ha fun t ht => by
          have := hb.2 t ht
          exact (by simpa [Nat.blt] using this : t + 1 ≤ r.ntmps)
      rw [g6, g7]
      refine hev r.assign ⟨r.fn, r.ntmps, some l⟩ ⟨setAll r.tmps r.params args, h, []⟩ ρ w _ _ m (some rl.id) ⟨hs, hsl, .nil, hG⟩ (.inr ⟨l, rl, rfl, hl, rfl⟩) (R.All.mono ?_ (R.all_toC hx))
      intro e st' x ρ' a' w' hS hT
      have hl' := hT.ext hs l rl hl
      cases e with
      | exit i => exact x.elim
      | goto i => exact x.elim
      | ret => exact x.elim
      | panic c => exact x.elim
      | outgrown => exact x.elim
      | normal =>
        simp only [bodyR] at x
        split at x
        · rename_i r2 hg2
          split at x
          · rename_i hst2
            split at x
            · rename_i h2 ht2
              obtain ⟨l2, rd2, k1, k2, k3, k4, k5, k6, k7, k8, k9⟩ := get_loop hS.sim hg2 hl'
              have hT2 := Turn.obj (o := .loop { r2 with state := .busy }) (o' := .loop { l2 with state := .busy }) hS.sim hg2 hl' (.loop rfl k3 k4 k5 k6 k7 k8 k9) ht2
              refine ⟨_, run_beginRound k1 (by rw [k2]; exact hst2), ?_⟩
              refine hev r.body ⟨r.fn, r.ntmps, some l⟩ ⟨st'.s, h2, st'.d⟩ ρ' _ _ _ m (some rl.id) ⟨hT2.sim, hS.sl, hS.df, hK _ _ hT2.keep hS.gl⟩ (.inr ⟨l, rl, rfl, hl', rfl⟩) (R.All.mono ?_ (R.all_toC x))
              intro e st3 y ρ3 a3 w3 hS3 hT3
              have hl3 := hT3.ext hT2.sim l rl hl'
              have hT13 := (hT.trans hT2).trans hT3
              cases e with
              | normal => exact end_ok rfl hS3 hl3 (CR.All.mono (fun v h' z ρ4 w4 v4 hT4 => z ρ4 w4 v4 (hT13.trans hT4)) y)
              | exit i => exact end_ok rfl hS3 hl3 (CR.All.mono (fun v h' z ρ4 w4 v4 hT4 => z ρ4 w4 v4 (hT13.trans hT4)) y)
              | goto i => exact end_ok rfl hS3 hl3 (CR.All.mono (fun v h' z ρ4 w4 v4 hT4 => z ρ4 w4 v4 (hT13.trans hT4)) y)
              | ret => exact end_ok rfl hS3 hl3 (CR.All.mono (fun v h' z ρ4 w4 v4 hT4 => z ρ4 w4 v4 (hT13.trans hT4)) y)
              | panic c => exact y.elim
              | outgrown => exact y.elim
            · exact x.elim
          · exact x.elim
        · exact x.elim
  · exact hx.elim
end
end Go.Ev
