/- EvR: range over a function. -/
import Derived.Test.YtnfcjgfaecihbaaGreatDoorEvQ
set_option linter.unusedVariables false
set_option linter.unusedSimpArgs false
set_option linter.unusedSectionVars false
set_option linter.constructorNameAsVariable false
namespace Go.Ev
open Go
theorem DR.append {ρ : Ren} {l l2 : List Nat} {ds ds2 : List Deferred} (h : DR ρ l ds) (h2 : DR ρ l2 ds2) : DR ρ (l ++ l2) (ds ++ ds2) := by
  induction h with
  | nil => exact h2
  | cons h _ ih => exact .cons h ih
theorem resolve_range (e : Operand → Value) (g : Operand) (l : Nat) (he : e (.const (.func (.yield l) #[] #[])) = .func (.yield l) #[] #[] := by rfl) : resolve e (rangeCall g l) 0 = Deferred.ofValue (e g) #[.func (.yield l) #[] #[]] := by
  simp [resolve, he]
section
variable {G : Heap → Prop} {P : Program} {ev : Code → Fr → St → R} {ρ : Ren} {w : World} {a : Act} {Q : Exit → Act → World → Prop} {m : Nat} {ro : Option Nat} {fr : Fr} {st : St}
theorem enter_ok (hS : StR G ρ fr st a w) (hR : RoR ρ fr.round ro) {b : Nat} {h : Heap} {mark : List Nat} (he : enterS fr st = some (b, h, mark)) :
    ∃ ρ1 w1 rd dmark, Turn ρ st.h w ρ1 h w1 ∧ ρ1 b = some rd ∧ DR ρ1 mark dmark ∧ ∀ fn tmps ps asn body, (Instr.enterLoop fn tmps ps asn body ro).run P w = .ok (w1.heap.size, dmark) (w1.alloc (.loop { state := .ready, pending := none, fn := fn, tmps := tmps, params := ps, assign := asn, body := body, defers := rd.id })) := by
  unfold enterS at he
  split at he
  · rename_i hr
    cases he
    rcases hR with ⟨_, rfl⟩ | ⟨l, r, h1, _, _⟩
    · obtain ⟨ρ1, h1, h2⟩ := Turn.alloc hS.sim 0 0 (.dfr true) (.deferred (some [])) .dfr1
      refine ⟨ρ1, w.alloc (.deferred (some [])), _, _, h2, h1, .cons h1 .nil, fun fn tmps ps asn body => ?_⟩
      rw [World.size_alloc]
      exact run_enterLoop_outer fn tmps ps asn body
    · rw [hr] at h1; cases h1
  · rename_i l hr
    split at he
    · rename_i r hg
      cases he
      rcases hR with ⟨h1, _⟩ | ⟨l1, r1, h1, h2, rfl⟩
      · rw [hr] at h1; cases h1
      · rw [hr] at h1; cases h1
        obtain ⟨l', rd, g1, g2, g3, g4, g5, g6, g7, g8, g9⟩ := get_loop hS.sim hg h2
        refine ⟨ρ, w, rd, [], .refl hS.sim, g8, .nil, fun fn tmps ps asn body => ?_⟩
        simp [Instr.enterLoop, Sem.run_bind, run_getLoop g1, Result.andThen, run_newObj_alloc, g9]
    · cases he
theorem leave_ok {ρ0 : Ren} {w0 : World} {l : Nat} {rl : RB} {mark : List Nat} {dmark : List Deferred} {h : Heap} (hS : StR G ρ0 fr st a w0) (hd : DR ρ mark dmark) (hK : ∀ h h', (∀ b, b < gBase → h'.get b = h.get b) → G h → G h')
    (hT : Turn ρ0 st.h w0 ρ h w) (hl : ρ l = some rl) (hx : (leaveS l mark st h).All (Met G ρ0 st.h fr w0 Q)) : ∃ jump w4, (Instr.endLoop rl.id).run P w = .ok jump w4 ∧
      (match jump with | none => Q .normal { a with defers := dmark ++ a.defers } w4 | some c => c.wpIn (fw ro) m P Q { a with defers := dmark ++ a.defers } w4) := by
  unfold leaveS at hx
  split at hx
  · rename_i r hg
    obtain ⟨l', rd, g1, g2, g3, g4, g5, g6, g7, g8, g9⟩ := get_loop hT.sim hg hl
    split at hx
    · exact hx.elim
    · rename_i hst
      split at hx
      · exact hx.elim
      · rename_i h4 ht
        have hT4 := Turn.obj (o := .loop { r with state := .exhausted }) (o' := .loop { l' with state := .exhausted }) hT.sim hg hl (.loop rfl g3 g4 g5 g6 g7 g8 g9) ht
        have hTT := hT.trans hT4
        have hE := hT.ext hS.sim
        have hS4 : StR G ρ fr ⟨st.s, h4, mark ++ st.d⟩ { a with defers := dmark ++ a.defers } { w with heap := w.heap.setIfInBounds rl.id (.loop { l' with state := .exhausted }) } :=
          ⟨hT4.sim, hS.sl.mono hE, hd.append (hS.df.mono hE), hK _ _ hTT.keep hS.gl⟩
        have hrun := run_endLoop (P := P) g1 (by rw [g2]; exact fun e => hst e)
        refine ⟨r.pending, _, hrun.trans (congrArg (fun p => Result.ok p (w.putObj rl.id (.loop { l' with state := .exhausted }))) g3), ?_⟩
        split at hx
        · rename_i hp; rw [hp]; exact hx ρ _ _ hS4 hTT
        · rename_i hp; rw [hp]; exact wpIn_ret (hx ρ _ _ hS4 hTT)
        · rename_i hp; rw [hp]; exact wpIn_exit (hx ρ _ _ hS4 hTT)
        · rename_i hp; rw [hp]; exact wpIn_goto (hx ρ _ _ hS4 hTT)
        · exact hx.elim
  · exact hx.elim
theorem range_func_ok {g : Operand} {ps : Array Tmp} {asn body : Code} (hev : CodeOK G P ev) (hK : ∀ h h', (∀ b, b < gBase → h'.get b = h.get b) → G h → G h')
    (hS : StR G ρ fr st a w) (hR : RoR ρ fr.round ro) (hx : (rangeR P ev g ps.toList asn body fr st).All (Met G ρ st.h fr w Q)) : (Code.rangeFunc g ps asn body).wpIn (fw ro) m P Q a w := by
  unfold rangeR at hx
  split at hx
  · exact hx.elim
  · rename_i b h mark he
    split at hx
    · exact hx.elim
    · rename_i gv hgv
      rw [cb_eq] at hx
      by_cases hrs : Nat.beq h.rs 0 = true
      case neg => rw [if_neg hrs] at hx; exact hx.elim
      rw [if_pos hrs, fN_eq, fN_eq] at hx
      have hrs0 : h.rs = 0 := Nat.eq_of_beq_eq_true hrs
      have hnx : h.nx = h.next := by rw [Heap.nx_eq, if_pos hrs0]
      obtain ⟨ρ1, w1, rd, dmark, hT1, hb, hdm, hrun⟩ := enter_ok (P := P) hS hR he
      have hE1 := hT1.ext hS.sim
      refine wpIn_rangeFunc fun fn _ => ?_
      obtain ⟨ρ2, hl2, hT2⟩ := Turn.alloc hT1.sim 0 0 (.loop { state := .ready, pending := none, tmps := st.s, ntmps := fr.n, fn := fr.fn, params := ps.toList, assign := asn, body := body, defers := b }) (.loop { state := .ready, pending := none, fn := fn, tmps := a.tmps, params := ps, assign := asn, body := body, defers := rd.id })
        (.loop rfl rfl (hS.sl.mono hE1) rfl rfl rfl hb rfl)
      rw [hnx] at hl2
      have hE2 := hT2.ext hT1.sim
      have hgV : VR ρ2 gv (a.eval g) := ((opd_ok hS.sim hS.sl hgv).mono hE1).mono hE2
      have hcall := callS_ok (P := P) hT2.sim hgV (args := [.func (.yield h.next) #[] #[]]) (args' := [.func (.yield w1.heap.size) #[] #[]]) (.cons (.yield hl2) .nil)
      unfold rangeC at hx
      split at hx
      · rename_i f args h1 hc
        have hc' : callS P gv [.func (.yield h.next) #[] #[]] (h.new (.loop { state := .ready, pending := none, tmps := st.s, ntmps := fr.n, fn := fr.fn, params := ps.toList, assign := asn, body := body, defers := b })) = .call f args h1 := by
          rw [← hc]; unfold Heap.new Heap.set; rw [hnx, hrs0]; cases h; rfl
        rw [hc'] at hcall
        obtain ⟨args', e, e1, hargs⟩ := hcall
        subst e1
        cases hres : (Deferred.ofValue (a.eval g) #[.func (.yield w1.heap.size) #[] #[]]).run P (w1.alloc (.loop { state := .ready, pending := none, fn := fn, tmps := a.tmps, params := ps, assign := asn, body := body, defers := rd.id })) with
        | halt z w3 =>
          have e' := e
          rw [Sem.run_bind] at e'
          have : (Deferred.ofValue (a.eval g) ⟨[.func (.yield w1.heap.size) #[] #[]]⟩).run P { w1 with heap := w1.heap.push (.loop { state := .ready, pending := none, fn := fn, tmps := a.tmps, params := ps, assign := asn, body := body, defers := rd.id }) } = .halt z w3 := hres
          rw [this] at e'
          cases e'
        | ok d w3 =>
          have e' := e
          rw [Sem.run_bind] at e'
          have : (Deferred.ofValue (a.eval g) ⟨[.func (.yield w1.heap.size) #[] #[]]⟩).run P { w1 with heap := w1.heap.push (.loop { state := .ready, pending := none, fn := fn, tmps := a.tmps, params := ps, assign := asn, body := body, defers := rd.id }) } = .ok d w3 := hres
          rw [this] at e'
          refine ⟨_, _, _, d, w3, f, ⟨args'⟩, _, hrun _ _ _ _ _, (by rw [resolve_range a.eval g w1.heap.size rfl]; exact hres), fun _ _ => trivial, e', fun hd => by simp [fw, Fence.wide] at hd, ?_⟩
          refine callR_ok hev hT2.sim (hK _ _ (hT1.trans hT2).keep hS.gl) hargs (CR.All.mono ?_ (CR.all_toR hx))
          intro v h3 z ρ3 w4 v' hT3 hv
          have hE3 := hT3.ext hT2.sim
          exact leave_ok (rl := ⟨w1.heap.size, 0, 0⟩) hS ((hdm.mono hE2).mono hE3) hK ((hT1.trans hT2).trans hT3) (hE3 _ _ hl2) z
      · exact hx.elim
end
end Go.Ev
