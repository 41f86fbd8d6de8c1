/- The closed calls of DependNothing, out of the evaluator's theorems. -/
import Derived.Test.YtnfcjgfaecihbaaGreatDoorLawD
import Derived.Test.YtnfcjgfaecihbaaGreatDoorEvC49
import Derived.Lib.LaidTab
set_option linter.all false
set_option linter.all false
namespace Go.Proofs.YtnfcjgfaecihbaaGreatDoor
open Go.RowKit Go.Lib Go.Shelf Go.Sort Go.Ev
def Tab3 (w : World) : Prop := ∃ t fr, w.heap[3]? = some (.cells (Lib.pow10Tab.map fun z => Value.int .u64 z).toArray t fr)
theorem Tab3.of_tab {w : World} (h : Lib.TabIs Tryz.prog w "internal/strconv.uint64pow10" .u64 Lib.pow10Tab) : Tab3 w := by
  unfold Lib.TabIs World.var? at h
  have hg : Tryz.prog.globalNamed "internal/strconv.uint64pow10" = some 3 := by kernel_rfl
  rw [hg] at h
  simp only [Option.bind_some] at h
  split at h
  · rename_i cs t fr hc
    cases h
    exact ⟨t, fr, hc⟩
  · cases h
theorem Tab3.below {w w' : World} (h : Tab3 w) (hb : Below w.heap.size w w') : Tab3 w' := by
  obtain ⟨t, fr, h⟩ := h
  exact ⟨t, fr, (hb.block _ (Array.getElem?_eq_some_iff.1 h).1).trans h⟩
def ren3 : Ev.Ren := fun b => if b = 3 then some ⟨3, 20, 0⟩ else none
theorem gl_one : ∃ c, Ev.gl = [(3, .ro c)] ∧ flatL c = true ∧ c = Lib.pow10Tab.map fun z => Value.int .u64 z := ⟨_, rfl, by kernel_rfl, by kernel_rfl⟩
theorem Tab3.sim {w : World} (h : Tab3 w) : Ev.Sim ren3 Ev.G0 w := by
  obtain ⟨t, fr, h⟩ := h
  obtain ⟨c, hgl, hf, hc⟩ := gl_one
  have hmem : ∀ b o, Ev.G0.get b = some o → b = 3 ∧ o = .ro c := fun b o hb => by
    have := Ev.ofPairs_mem (l := Ev.gl) hb
    rw [hgl] at this
    simp only [List.mem_singleton, Prod.mk.injEq] at this
    exact this
  refine ⟨fun b o hb => ?_, fun b b' o o' r r' h1 h2 _ _ _ => ?_, fun b hb => ?_, fun b r hb hr => ?_, Nat.le_refl _, fun hr => absurd rfl hr⟩
  · obtain ⟨rfl, rfl⟩ := hmem b o hb
    refine ⟨_, _, rfl, h, ?_⟩
    rw [← hc]
    exact .ro (Ev.VRL.of_flat hf)
  · rw [(hmem b o h1).1, (hmem b' o' h2).1]
  · have hb : Ev.gBase ≤ b := hb
    unfold ren3
    rw [if_neg]
    intro e
    subst e
    exact absurd hb (by decide)
  · unfold ren3 at hr
    split at hr
    · rename_i e
      cases hr
      exact e.symm
    · cases hr
theorem call_of_entry {f : FuncId} {args : List Value} {v : Value} {w : World} (he : Ev.Entry Tryz.prog Ev.G0 f [] args v) (ha : flatL args = true) (hv : flat v = true) (h : Tab3 w) : Calls Tryz.prog f ⟨args⟩ w (Ret w v) := by
  refine (callsIn_wide (n := 0)).1 ?_
  have := he ren3 Ev.G0 w args h.sim (fun _ _ => rfl) (fun x hx => by simp at hx) (Ev.VRL.of_flat ha)
  refine Ev.callsIn_mono this ?_
  rintro e w' ⟨v', rfl, hr, hT⟩
  have := Ev.VR.flat hr hv
  subst this
  refine ⟨rfl, ⟨hT.os, hT.tape, hT.output, hT.size, fun k hk => hT.frame k hk fun b o r hb hg _ _ => ?_⟩⟩
  obtain ⟨c, hgl, _, _⟩ := gl_one
  have := Ev.ofPairs_mem (l := Ev.gl) hg
  rw [hgl] at this
  simp only [List.mem_singleton, Prod.mk.injEq] at this
  rw [this.1] at hb
  exact absurd hb (by decide)
theorem closedD_of {w : World} (h : Tab3 w) : ClosedD w :=
  ⟨fun W hb => call_of_entry (args := []) Ev.hhead rfl rfl (h.below hb), fun W hb => call_of_entry Ev.hfew (by kernel_rfl) rfl (h.below hb), fun W hb => call_of_entry Ev.hsame (by kernel_rfl) rfl (h.below hb)⟩
end Go.Proofs.YtnfcjgfaecihbaaGreatDoor
