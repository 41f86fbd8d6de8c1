/- EvP: operations of a region. -/
import Derived.Test.YtnfcjgfaecihbaaGreatDoorEvO
import Derived.OrdersIn
set_option linter.unusedVariables false
set_option linter.unusedSimpArgs false
set_option linter.unusedSectionVars false
set_option linter.constructorNameAsVariable false
namespace Go.Ev
open Go
theorem callsIn_any {P : Program} {ro ro' : Option Nat} {m m' : Nat} {f : FuncId} {args : Array Value} {w : World} {Rr : Ending → World → Prop} (h : CallsIn (fw ro) m P f args w Rr) : CallsIn (fw ro') m' P f args w Rr :=
  ⟨trivial, fun cs _ => h.2 cs (fw_room _ _)⟩
theorem callsIn_mono {P : Program} {F : Fence} {m : Nat} {f : FuncId} {args : Array Value} {w : World} {R1 R2 : Ending → World → Prop} (h : CallsIn F m P f args w R1) (hr : ∀ e w', R1 e w' → R2 e w') : CallsIn F m P f args w R2 :=
  ⟨h.1, fun cs hc => let ⟨e, w', fr, r, s, x⟩ := h.2 cs hc; ⟨e, w', fr, hr _ _ r, s, x⟩⟩
def OrcOK (G : Heap → Prop) (P : Program) (orc : Orc) : Prop :=
  ∀ f args h v, orc f args h = some v → ∀ (ρ : Ren) (w : World) (args' : List Value), Sim ρ h w → G h → VRL ρ args args' →
    CallsIn (fw none) 0 P f ⟨args'⟩ w (fun e w' => ∃ v', e = .returned v' ∧ VR ρ v v' ∧ Turn ρ h w ρ h w')
section
variable {G : Heap → Prop} {P : Program} {ev : Code → Fr → St → R} {orc : Orc} {ρ : Ren} {w : World} {a : Act} {Q : Exit → Act → World → Prop} {m : Nat} {ro : Option Nat}
theorem orR_ok {φ : Exit → St → Prop} {k : Value → Heap → R} {next : Act → World → Prop} {o : Oper} (hev : CodeOK G P ev) (hK : ∀ h h', (∀ b, b < gBase → h'.get b = h.get b) → G h → G h') (ho : OrcOK G P orc)
    {h : Heap} (hs : Sim ρ h w) (hG : G h) : ∀ {x : OR} {r : Result Next}, OpSpec P ρ h w x r → (orR P ev orc x k).All φ →
    (∀ v h' ρ' w' v', Turn ρ h w ρ' h' w' → VR ρ' v v' → (k v h').All φ → next (a.put o.dst v') w') → o.uponIn (fw ro) m P a next Q r
  | .fail, _, _, hx, _ => hx.elim
  | .val v h', _, ⟨ρ', v', w', e, hT, hv⟩, hx, hk => by
    subst e
    exact hk v h' ρ' w' v' hT hv hx
  | .skip h', _, ⟨ρ', w', e, hT⟩, hx, hk => by
    subst e
    exact hk _ h' ρ' w' _ hT (.tuple .nil) hx
  | .call f args h1, _, ⟨args', e, e1, hl⟩, hx, hk => by
    subst e; subst e1
    refine ⟨fun hd => by simp [fw, Fence.wide] at hd, ?_⟩
    cases hc : orc f args h1 with
    | none =>
      have hx' : ((callR P ev f args h1).toR k).All φ := by simpa only [orR, hc] using hx
      refine callR_ok hev hs hG hl (CR.All.mono ?_ (CR.all_toR hx'))
      intro v h' z ρ' w' v' hT hv
      exact hk v h' ρ' w' v' hT hv z
    | some v =>
      have hx' : (k v h1).All φ := by simpa only [orR, hc] using hx
      refine callsIn_mono (callsIn_any (ho f args h1 v hc ρ w args' hs hG hl)) ?_
      rintro e w' ⟨v', rfl, hv, hT⟩
      exact hk v h1 ρ w' v' hT hv hx'
  | .yld l args h1, _, ⟨rl, args', e1, hl, e, ha⟩, hx, hk => by
    subst e1; subst e
    have hx' : ((roundR ev l args h1).toR k).All φ := hx
    obtain ⟨f, tmps, asn, body, hrun, hround⟩ := round_ok (ro := ro) (m := m - 1) (Rr := fun e w'' => match e with | .returned v => next (a.put o.dst v) w'' | .panicked chain => Q (.panic chain) a w'' | .outgrown => LetsOut Q) hev hK hs hG hl ha (CR.All.mono (by
      intro v h' z ρ' w' v' hT hv
      exact hk v h' ρ' w' v' hT hv z) (CR.all_toR hx'))
    rw [hrun]
    exact ⟨fun hd => by simp [fw, Fence.wide] at hd, hround.mono fun e w' y => by cases e <;> exact y⟩
  | .both x y, _, .inl h1, hx, hk => orR_ok hev hK ho hs hG h1 (x := x) hx.1 hk
  | .both x y, _, .inr h1, hx, hk => orR_ok hev hK ho hs hG h1 (x := y) hx.2 hk
theorem putR_ok {φ : Exit → St → Prop} {n : Nat} {dst : Option Tmp} {s : Slots} {k : Slots → Heap → R} {v v' : Value} {h : Heap} (hl : SlR ρ s n a.tmps) (hv : VR ρ v v') (hx : (putR n dst s k v h).All φ) :
    ∃ s', SlR ρ s' n (a.put dst v').tmps ∧ (k s' h).All φ := by
  cases dst with
  | none => exact ⟨s, hl, hx⟩
  | some d =>
    cases hb : Nat.ble (Nat.succ d) n with
    | false => simp only [putR, hb, cb] at hx; exact hx.elim
    | true =>
      simp only [putR, hb, cb] at hx
      exact ⟨_, hl.put (Nat.le_of_ble_eq_true hb) hv, hx⟩
end
end Go.Ev
