/- EvU: the frame rule. -/
import Derived.Test.YtnfcjgfaecihbaaGreatDoorEvB
set_option linter.unusedVariables false
set_option linter.unusedSimpArgs false
set_option linter.unusedSectionVars false
set_option linter.constructorNameAsVariable false
namespace Go.Ev
open Go
section
variable {ρ ρ' : Ren} {h hs h' h2 : Heap} {w w' : World}
theorem framed_ob (s : Sim ρ h w) (t : Turn ρ hs w ρ' h' w') (hsub : ∀ b o, hs.get b = some o → h.get b = some o) (b : Nat) (o : Ob) (h0 : hs.get b = none) (h1 : h.get b = some o) :
    ∃ r o', ρ b = some r ∧ r.id < w.heap.size ∧ w.heap[r.id]? = some o' ∧ w'.heap[r.id]? = some o' ∧ ObR ρ r o o' := by
  obtain ⟨r, o', g1, g2, g3⟩ := s.obj b o h1
  have hlt := (Array.getElem?_eq_some_iff.1 g2).1
  refine ⟨r, o', g1, hlt, g2, (t.frame r.id hlt fun b1 o1 r1 _ k2 k3 e => ?_).trans g2, g3⟩
  have := s.inj b1 b o1 o r1 r (hsub _ _ k2) h1 k3 g1 e
  subst this
  rw [h0] at k2; cases k2
theorem framed_sim (s : Sim ρ h w) (t : Turn ρ hs w ρ' h' w') (hsub : ∀ b o, hs.get b = some o → h.get b = some o) (hn' : h'.next ≤ h2.next)
    (hg : ∀ b o, h2.get b = some o → h'.get b = some o ∨ (hs.get b = none ∧ h.get b = some o)) (hr2 : h2.rs = 0) : Sim ρ' h2 w' := by
  have hE := t.agree
  have hob := framed_ob s t hsub
  have himg : ∀ b o r b' o' r', h'.get b = some o → ρ' b = some r → hs.get b' = none → h.get b' = some o' → ρ b' = some r' → r.id = r'.id → b = b' := fun b o r b' o' r' h1 h2 h3 h4 h5 e => by
    obtain ⟨r1, o1, k1, k2, k3, _, _⟩ := hob b' o' h3 h4
    rw [h5] at k1; cases k1
    rcases Nat.lt_or_ge b gBase with hb | hb
    · rw [t.keep b hb] at h1
      have h1' := hsub _ _ h1
      obtain ⟨r2, o2, g1, _, _⟩ := s.obj b o h1'
      have := hE _ _ g1
      rw [h2] at this; cases this
      exact s.inj b b' o o' r r' h1' h4 g1 h5 e
    · rcases t.img b o r hb h1 h2 with g | ⟨b0, o0, r0, _, g1, g2, g3⟩
      · omega
      · have := s.inj b0 b' o0 o' r0 r' (hsub _ _ g1) h4 g2 h5 (g3.trans e)
        subst this
        rw [h3] at g1; cases g1
  refine ⟨fun b o hb => ?_, fun b b' o o' r r' h1 h2 h3 h4 h5 => ?_, fun b hb => t.sim.fresh b (Nat.le_trans hn' hb), t.sim.glob, Nat.le_trans t.sim.low hn', fun h => absurd hr2 h⟩
  · rcases hg b o hb with h1 | ⟨h1, h2⟩
    · exact t.sim.obj b o h1
    · obtain ⟨r, o', k1, _, _, k4, k5⟩ := hob b o h1 h2
      exact ⟨r, o', hE _ _ k1, k4, k5.mono hE⟩
  · rcases hg b o h1 with g1 | ⟨g1, g2⟩ <;> rcases hg b' o' h2 with f1 | ⟨f1, f2⟩
    · exact t.sim.inj b b' o o' r r' g1 f1 h3 h4 h5
    · obtain ⟨r1, _, k1, _⟩ := hob b' o' f1 f2
      have e1 := hE _ _ k1
      rw [h4] at e1; cases e1
      exact himg b o r b' o' _ g1 h3 f1 f2 k1 h5
    · obtain ⟨r1, _, k1, _⟩ := hob b o g1 g2
      have e1 := hE _ _ k1
      rw [h3] at e1; cases e1
      exact (himg b' o' r' b o _ f1 h4 g1 g2 k1 h5.symm).symm
    · obtain ⟨r1, _, k1, _⟩ := hob b o g1 g2
      obtain ⟨r2, _, k2, _⟩ := hob b' o' f1 f2
      have e1 := hE _ _ k1
      rw [h3] at e1; cases e1
      have e2 := hE _ _ k2
      rw [h4] at e2; cases e2
      exact s.inj b b' o o' r r' g2 f2 k1 k2 h5
theorem Turn.onto {ρ0 : Ren} {h0 : Heap} {w0 : World} (t0 : Turn ρ0 h0 w0 ρ h w) (t : Turn ρ hs w ρ' h' w') (hsub : ∀ b o, hs.get b = some o → h.get b = some o) (hn : h.next ≤ h2.next) (hn' : h'.next ≤ h2.next)
    (hg : ∀ b o, h2.get b = some o → h'.get b = some o ∨ (hs.get b = none ∧ h.get b = some o)) (hk : ∀ b, b < gBase → h2.get b = h.get b) (hr : hs.rs = 0 ∨ h0.next ≤ hs.rs) (hr2 : h2.rs = 0) (hns : h0.next ≤ hs.next) :
    Turn ρ0 h0 w0 ρ' h2 w' where
  agree b r hb := t.agree b r (t0.agree b r hb)
  next := Nat.le_trans t0.next hn
  sim := framed_sim t0.sim t hsub hn' hg hr2
  os := t.os.trans t0.os
  tape := t.tape.trans t0.tape
  output := t.output.trans t0.output
  size := Nat.le_trans t0.size t.size
  keep b hb := (hk b hb).trans (t0.keep b hb)
  frame k hlt hn := by
    rw [t.frame k (Nat.lt_of_lt_of_le hlt t0.size) fun b o r g1 g2 g3 e => ?_, t0.frame k hlt hn]
    rcases t0.img b o r g1 (hsub _ _ g2) g3 with h | ⟨b0, o0, r0, k1, k2, k3, k4⟩
    · omega
    · exact hn b0 o0 r0 k1 k2 k3 (k4.trans e)
  img b o r g1 g2 g3 := by
    have hold : ∀ b o r, gBase ≤ b → h.get b = some o → ρ b = some r → w0.heap.size ≤ r.id ∨ ∃ b0 o0 r0, gBase ≤ b0 ∧ h0.get b0 = some o0 ∧ ρ0 b0 = some r0 ∧ r0.id = r.id := t0.img
    rcases hg b o g2 with h1 | ⟨h1, h2⟩
    · rcases t.img b o r g1 h1 g3 with k | ⟨b0, o0, r0, k1, k2, k3, k4⟩
      · exact .inl (Nat.le_trans t0.size k)
      · rcases hold b0 o0 r0 k1 (hsub _ _ k2) k3 with k | ⟨b1, o1, r1, m1, m2, m3, m4⟩
        · exact .inl (by omega)
        · exact .inr ⟨b1, o1, r1, m1, m2, m3, m4.trans k4⟩
    · obtain ⟨r1, _, k1, _⟩ := framed_ob t0.sim t hsub b o h1 h2
      have e1 := t.agree _ _ k1
      rw [g3] at e1; cases e1
      exact hold b o r g1 h2 k1
  rs := .inl hr2
  low b g1 g2 g3 g4 := by
    refine t.low b g1 (by omega) (fun e => ?_) (t0.low b g1 g2 g3 g4)
    have := gBase_pos
    rcases hr with h | h <;> omega
theorem Sim.sub (s : Sim ρ h w) (hsub : ∀ b o, hs.get b = some o → h.get b = some o) (hn : hs.next = h.next) (hr : hs.rs ≠ 0 → gBase ≤ hs.rs ∧ hs.rs < h.next ∧ ρ hs.rs = none) : Sim ρ hs w :=
  ⟨fun b o hb => s.obj b o (hsub b o hb), fun b b' o o' r r' h1 h2 => s.inj b b' o o' r r' (hsub _ _ h1) (hsub _ _ h2), fun b hb => s.fresh b (by omega), s.glob, by rw [hn]; exact s.low, fun h => by rw [hn]; exact hr h⟩
end
end Go.Ev
