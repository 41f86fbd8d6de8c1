/- EvS: the evaluator is sound. -/
import Derived.Test.YtnfcjgfaecihbaaGreatDoorEvR
set_option linter.unusedVariables false
set_option linter.unusedSimpArgs false
set_option linter.unusedSectionVars false
set_option linter.constructorNameAsVariable false
namespace Go.Ev
open Go
def DrawOK (G : Heap → Prop) (P : Program) (draw : Draw) : Prop :=
  ∀ (ev : Code → Fr → St → R), CodeOK G P ev → ∀ (id : Nat) (ops : Array Oper) (fr : Fr) (st : St) (ρ : Ren) (w : World) (a : Act) (Q : Exit → Act → World → Prop) (m : Nat) (ro : Option Nat), StR G ρ fr st a w → RoR ρ fr.round ro →
    ((draw ops.toList).f ev fr st).All (Met G ρ st.h fr w Q) → (Code.region id ops true).wpIn (fw ro) m P Q a w
section
variable {G : Heap → Prop} {P : Program} {ev : Code → Fr → St → R} {orc : Orc} {draw : Draw}
theorem loop_n {n : Nat} (hev : CodeOK G P ev) (hl : LoopOK G P n ev) : LoopOK G P (n + 1) (fun c => (codeK P orc draw c).f ev) := by
  intro c fr st ρ w a Q m ro hS hR hx
  exact loop_rounds hev hl hS hR hx
theorem codeK_ok {n : Nat} (hev : CodeOK G P ev) (hl : LoopOK G P n ev) (hK : ∀ h h', (∀ b, b < gBase → h'.get b = h.get b) → G h → G h') (ho : OrcOK G P orc) (hd : DrawOK G P draw) : CodeOK G P (fun c => (codeK P orc draw c).f ev) := by
  intro c fr st ρ w a Q m ro hS hR hx
  cases c with
  | skip => exact wpIn_skip (hx ρ a w hS (.refl hS.sim))
  | label l => exact wpIn_label (hx ρ a w hS (.refl hS.sim))
  | region id ops d =>
    cases d with
    | true => exact hd ev hev id ops fr st ρ w a Q m ro hS hR hx
    | false => exact regR_ok hev hK ho hS hx
  | seq x y => exact seq_ok hev hS hR hx
  | cond c x y => exact cond_ok hev hS hR hx
  | block id x => exact block_ok hev hS hR hx
  | loop x => exact wpIn_loop_rounds (n + 1) (loop_rounds hev hl hS hR hx)
  | exit i => exact wpIn_exit (hx ρ a w hS (.refl hS.sim))
  | goto i => exact wpIn_goto (hx ρ a w hS (.refl hS.sim))
  | scope x => exact scope_ok (n := 100000) hev hS hR hx
  | ret => exact wpIn_ret (hx ρ a w hS (.refl hS.sim))
  | rangeFunc g ps asn body => exact range_func_ok hev hK hS hR hx
  | _ => exact hx.elim
theorem run_ok (hK : ∀ h h', (∀ b, b < gBase → h'.get b = h.get b) → G h → G h') (ho : OrcOK G P orc) (hd : DrawOK G P draw) : ∀ n, CodeOK G P (run P orc draw n) ∧ LoopOK G P n (run P orc draw n)
  | 0 => ⟨fun _ _ _ _ _ _ _ _ _ _ _ hx => hx.elim, fun _ _ _ _ _ _ _ _ _ _ _ hx => hx.elim⟩
  | n + 1 => ⟨codeK_ok (run_ok hK ho hd n).1 (run_ok hK ho hd n).2 hK ho hd, loop_n (run_ok hK ho hd n).1 (run_ok hK ho hd n).2⟩
theorem run_call {ρ : Ren} {w : World} {h : Heap} {f : FuncId} {args args' : List Value} {n m : Nat} {Rr : Ending → World → Prop} (hK : ∀ h h', (∀ b, b < gBase → h'.get b = h.get b) → G h → G h') (ho : OrcOK G P orc) (hd : DrawOK G P draw)
    (hs : Sim ρ h w) (hG : G h) (ha : VRL ρ args args') (hx : (callR P (run P orc draw n) f args h).All (fun v h' => ∀ ρ' w' v', Turn ρ h w ρ' h' w' → VR ρ' v v' → Rr (.returned v') w')) : CallsIn (fw none) m P f ⟨args'⟩ w Rr :=
  callR_ok (run_ok hK ho hd n).1 hs hG ha hx
end
end Go.Ev
