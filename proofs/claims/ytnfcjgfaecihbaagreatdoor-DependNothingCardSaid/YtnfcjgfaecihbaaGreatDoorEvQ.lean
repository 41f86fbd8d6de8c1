/- EvQ: regions in one order. -/
import Derived.Test.YtnfcjgfaecihbaaGreatDoorEvP
set_option linter.unusedVariables false
set_option linter.unusedSimpArgs false
set_option linter.unusedSectionVars false
set_option linter.constructorNameAsVariable false
namespace Go.Ev
open Go
section
variable {G : Heap → Prop} {P : Program} {ev : Code → Fr → St → R} {orc : Orc} {ρ : Ren} {w : World} {a : Act} {Q : Exit → Act → World → Prop} {m : Nat} {ro : Option Nat}
theorem yielded_ok {ops : Array Oper} {tmps : Array Value} {s : Slots} {n j t : Nat} {g : Oper} {v : Value} (hl : SlR ρ s n tmps) (hj : ops[j]? = some g) (hd : g.dst = some t) (hv : s.get t = some v) :
    yielded ops tmps j = (match v with | .bool b => some b | _ => none) := by
  obtain ⟨v', h1, h2⟩ := hl.2 t v hv
  unfold yielded
  simp only [hj, Option.bind_some, hd, h1]
  cases h2 <;> rfl
theorem wpIn_of_upon {o : Oper} {next : Act → World → Prop} (hd : ∀ c, o.op ≠ .defer c) (h : o.uponIn (fw ro) m P a next Q ((execOp a.eval o).run P w)) : o.wpIn (fw ro) m P a w next Q :=
  ⟨fun _ _ => trivial, by rw [Oper.semAt_eq _ _ _ hd]; exact h⟩
theorem opK_nodefer {o : Op} {c : Call} {s : Slots} {h : Heap} (e : o = .defer c) : (opK P o).f s h = .fail := by subst e; rfl
theorem oneR_ok {ρ0 : Ren} {h0 : Heap} {w0 : World} {fr : Fr} {K : Slots → Heap → R} {next : Act → World → Prop} {o : Oper} {s : Slots} {h : Heap} {d : List Nat}
    (hev : CodeOK G P ev) (hK : ∀ h h', (∀ b, b < gBase → h'.get b = h.get b) → G h → G h') (ho : OrcOK G P orc) (hS : StR G ρ fr ⟨s, h, d⟩ a w) (hT0 : Turn ρ0 h0 w0 ρ h w)
    (hk : ∀ ρ' s' h' a' w', StR G ρ' fr ⟨s', h', d⟩ a' w' → Turn ρ h w ρ' h' w' → (K s' h').All (Met G ρ0 h0 fr w0 Q) → next a' w')
    (hx : (orR P ev orc ((opK P o.op).f s h) (putR fr.n o.dst s K)).All (Met G ρ0 h0 fr w0 Q)) : o.wpIn (fw ro) m P a w next Q := by
  refine wpIn_of_upon (fun c e => ?_) (orR_ok hev hK ho hS.sim hS.gl (opK_ok hS.sim hS.sl o) hx ?_)
  · rw [opK_nodefer e] at hx; exact hx.elim
  · intro v h' ρ' w' v' hT hv x
    have hE := hT.ext hS.sim
    obtain ⟨s', hs', x'⟩ := putR_ok (a := a) (hS.sl.mono hE) hv x
    exact hk ρ' s' h' _ w' ⟨hT.sim, hs', by
      have := hS.df.mono hE
      cases hd : o.dst <;> simpa [Act.put, hd] using this, hK _ _ hT.keep hS.gl⟩ hT x'
theorem opsR_ok {ops : Array Oper} {fr : Fr} {d : List Nat} (hev : CodeOK G P ev) (hK : ∀ h h', (∀ b, b < gBase → h'.get b = h.get b) → G h → G h') (ho : OrcOK G P orc) :
    ∀ (l : List Oper) (i : Nat) {ρ : Ren} {s : Slots} {h : Heap} {a : Act} {w : World}, ops.toList.drop i = l → StR G ρ fr ⟨s, h, d⟩ a w →
    (opsR P ev orc fr.n (fun s h => .normal ⟨s, h, d⟩) (l.map (koOf P ops.toList)) s h).All (Met G ρ h fr w Q) → wpOpsIn (fw ro) m P ops Q (List.range' i l.length) a w
  | [], i, ρ, s, h, a, w, _, hS, hx => hx ρ a w hS (.refl hS.sim)
  | o :: l, i, ρ, s, h, a, w, hd, hS, hx => by
    have hi : ops[i]? = some o := by
      have := congrArg (fun l => l[0]?) hd
      simpa [List.getElem?_drop] using this
    have hd' : ops.toList.drop (i + 1) = l := by
      have := congrArg List.tail hd
      simpa [List.tail_drop] using this
    have hnext : ∀ ρ' s' h' a' w', StR G ρ' fr ⟨s', h', d⟩ a' w' → Turn ρ h w ρ' h' w' → (opsR P ev orc fr.n (fun s h => .normal ⟨s, h, d⟩) (l.map (koOf P ops.toList)) s' h').All (Met G ρ h fr w Q) →
        wpOpsIn (fw ro) m P ops Q (List.range' (i + 1) l.length) a' w' := fun ρ' s' h' a' w' hS' hT x => opsR_ok hev hK ho l (i + 1) hd' hS' (Met.later hT x)
    simp only [List.length_cons, List.range'_succ]
    rw [wpOpsIn_cons]
    unfold wpOpIn
    simp only [hi]
    have hx' : (opR P ev orc fr.n (koOf P ops.toList o) s h (opsR P ev orc fr.n (fun s h => .normal ⟨s, h, d⟩) (l.map (koOf P ops.toList)))).All (Met G ρ h fr w Q) := hx
    unfold opR koOf at hx'
    cases hg : o.guard with
    | none =>
      rw [hg] at hx'
      rw [if_pos (by simp [Region.wanted, hg])]
      exact oneR_ok hev hK ho hS (.refl hS.sim) hnext hx'
    | some g =>
      obtain ⟨j, want⟩ := g
      rw [hg] at hx'
      simp only at hx'
      cases hj : ops.toList[j]? with
      | none => rw [hj] at hx'; exact hx'.elim
      | some og =>
        rw [hj] at hx'
        have hj' : ops[j]? = some og := by simpa using hj
        simp only at hx'
        cases hdst : og.dst with
        | none => rw [hdst] at hx'; exact hx'.elim
        | some t =>
          rw [hdst] at hx'
          simp only at hx'
          have hskip : ∀ {x : R}, x = putR fr.n o.dst s (opsR P ev orc fr.n (fun s h => .normal ⟨s, h, d⟩) (l.map (koOf P ops.toList))) (.tuple ⟨[]⟩) h → x.All (Met G ρ h fr w Q) →
              wpOpsIn (fw ro) m P ops Q (List.range' (i + 1) l.length) (a.put o.dst undef) w := by
            intro x e hx
            rw [e] at hx
            obtain ⟨s', hs', x'⟩ := putR_ok (a := a) (v' := undef) hS.sl (.tuple .nil) hx
            exact hnext ρ s' h _ w ⟨hS.sim, hs', by cases hd : o.dst <;> simpa [Act.put, hd] using hS.df, hS.gl⟩ (.refl hS.sim) x'
          cases hv : s.get t with
          | none =>
            have : s.getP (pth t) = none := hv
            rw [this] at hx'
            exact hx'.elim
          | some v =>
            have hv' : s.getP (pth t) = some v := hv
            rw [hv'] at hx'
            have hy := yielded_ok hS.sl hj' hdst hv
            have hw : Region.wanted o (yielded ops a.tmps) = (yielded ops a.tmps j == some want) := by simp [Region.wanted, hg]
            by_cases hb : v = .bool want
            · subst hb
              rw [if_pos (by rw [hw, hy]; simp)]
              have hbe : boolEq want want = true := by cases want <;> rfl
              simp only [wantR, hbe, cb] at hx'
              exact oneR_ok hev hK ho hS (.refl hS.sim) hnext hx'
            · have hno : ¬ Region.wanted o (yielded ops a.tmps) = true := by
                rw [hw, hy]
                cases v <;> simp
                rename_i b
                intro e; subst e; exact hb rfl
              rw [if_neg hno]
              refine ⟨fun _ _ => trivial, hskip rfl ?_⟩
              cases v with
              | bool b =>
                have hbe : boolEq b want = false := by cases b <;> cases want <;> first | rfl | exact absurd rfl hb
                simp only [wantR, hbe, cb] at hx'
                exact hx'
              | _ => exact hx'
theorem regR_ok {id : Nat} {ops : Array Oper} {fr : Fr} {st : St} (hev : CodeOK G P ev) (hK : ∀ h h', (∀ b, b < gBase → h'.get b = h.get b) → G h → G h') (ho : OrcOK G P orc)
    (hS : StR G ρ fr st a w) (hx : (regR P orc ev ops.toList fr st).All (Met G ρ st.h fr w Q)) : (Code.region id ops false).wpIn (fw ro) m P Q a w := by
  refine wpIn_region ?_
  rw [List.range_eq_range', show ops.size = ops.toList.length by simp]
  obtain ⟨s, h, d⟩ := st
  exact opsR_ok hev hK ho ops.toList 0 rfl hS hx
end
end Go.Ev
