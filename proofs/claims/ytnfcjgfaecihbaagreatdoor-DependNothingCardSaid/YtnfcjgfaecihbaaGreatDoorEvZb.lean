/- EvZb: regions that draw their order are met. -/
import Derived.Test.YtnfcjgfaecihbaaGreatDoorEvZa
set_option linter.unusedVariables false
set_option linter.unusedSimpArgs false
set_option linter.unusedSectionVars false
set_option linter.constructorNameAsVariable false
namespace Go.Ev
open Go
section
variable {F : Fence} {m : Nat} {P : Program} {ops : Array Oper} {md : Region.Mode}
def unlisted (listed : Array Bool) : Nat := (listed.toList.filter (!·)).length
theorem unlisted_set {listed : Array Bool} {i : Nat} (h : listed.getD i true = false) : unlisted (listed.setIfInBounds i true) + 1 = unlisted listed := by
  obtain ⟨l⟩ := listed
  have hl : l[i]? = some false := by
    cases e : l[i]? with
    | none => simp [e] at h
    | some b => simp [e] at h; rw [h]
  simp only [unlisted, List.setIfInBounds_toArray]
  clear h
  induction l generalizing i with
  | nil => simp at hl
  | cons b l ih =>
    cases i with
    | zero =>
      have hb : b = false := by simpa using hl
      subst hb
      simp
    | succ i =>
      have := ih (by simpa using hl)
      cases b <;> simp [this]
theorem ready_nil {listed : Array Bool} (h : unlisted listed = 0) : Region.ready md ops listed = [] := by
  cases hr : Region.ready md ops listed with
  | nil => rfl
  | cons i l =>
    have hi : i ∈ Region.ready md ops listed := by rw [hr]; simp
    have := unlisted_set (mem_ready.1 hi).1
    omega
theorem anyIn_of_inv {J : Array Bool → Act → World → Prop} {Q : Exit → Act → World → Prop} (hstep : ∀ listed a w i, i ∈ Region.ready md ops listed → J listed a w → wpOpIn F m P ops Q i (J (listed.setIfInBounds i true)) a w)
    (hend : ∀ listed a w, Region.ready md ops listed = [] → J listed a w → Q .normal a w) : ∀ (fuel : Nat) (listed : Array Bool) (a : Act) (w : World), unlisted listed ≤ fuel → J listed a w → wpAnyIn F m P md ops Q fuel listed a w
  | 0, listed, a, w, hu, h => ⟨ready_nil (by omega), hend _ _ _ (ready_nil (by omega)) h⟩
  | fuel + 1, listed, a, w, hu, h => ⟨fun h0 => hend _ _ _ h0 h, fun i hi => wpOpIn_mono (fun a' w' h' => anyIn_of_inv hstep hend fuel _ a' w' (by have := unlisted_set (mem_ready.1 hi).1; omega) h') (hstep _ _ _ _ hi h)⟩
end
section
variable {G : Heap → Prop} {P : Program} {ev : Code → Fr → St → R} {orc : Orc} {opsA : Array Oper} {base n : Nat} {ρ0 : Ren} {h0 : Heap} {w0 : World} {df : List Deferred} {listed : Array Bool} {a : Act} {w : World} {em D : Nat} {C : Heap} {s : Slots} {os : Os} {ρ : Ren} {Hp : Heap}
  {Q : Exit → Act → World → Prop} {m : Nat} {ro : Option Nat} {φ : Exit → St → Prop}
theorem putR_ok2 {dst : Option Tmp} {k : Slots → Heap → R} {v : Value} {h : Heap} (hx : (putR n dst s k v h).All φ) :
    ∃ s', (k s' h).All φ ∧ (∀ t, dst = some t → t < n ∧ s'.get t = some v) ∧ ∀ t, dst ≠ some t → s'.get t = s.get t := putD_ok (k := fun s => k s h) hx
theorem up_entry {d : DOp} {o : Oper} (hE : EInv P opsA.toList base n em D C s os) (hW : WInv P opsA.toList base n ρ0 h0 w0 df listed a w em D C s os ρ Hp) (hd : d ∈ (planD P opsA.toList).dops) (is : Is P opsA.toList d o) (hk : d.k = 1) (hu : Up listed d.i) (hD : tb D d.i = false) :
    ∃ y, os.get d.i = some y := by
  obtain ⟨V, _, h⟩ := hE.good d hd (by omega) (up_avail hW is hu) hD
  rcases h with ⟨_, hs, _, hy⟩ | ⟨_, _, h⟩
  · rcases hy with ⟨_, _, O, _, _, e⟩ | ⟨h, _⟩
    · exact ⟨_, e⟩
    · exact absurd hk h
  · exact ⟨_, h hk⟩
theorem step_eff {i : Nat} {d : DOp} {o : Oper} {K : Slots → Heap → R} (hev : CodeOK G P ev) (hK : ∀ h h', (∀ b, b < gBase → h'.get b = h.get b) → G h → G h') (ho : OrcOK G P orc) (hG0 : G h0) (hbase : h0.next = base) (hgb : gBase ≤ base)
    (hlk : looksB (finP opsA.toList) opsA.toList opsA.toList (masksL opsA.toList []) = true) (r : Rdy P opsA listed i d o) (h3 : d.k = 3)
    (hE : EInv P opsA.toList base n em D C s os) (hW : WInv P opsA.toList base n ρ0 h0 w0 df listed a w em D C s os ρ Hp) (hx : (effD P ev orc (planD P opsA.toList) base n D d C s os K).All φ) :
    wpOpIn (fw ro) m P opsA Q i (fun a' w' => ∃ ρ' s1 C1 Hp', (K s1 C1).All φ ∧ Glo C C1 ∧ (∀ t, o.dst ≠ some t → s1.get t = s.get t) ∧
      WInv P opsA.toList base n ρ0 h0 w0 df (listed.setIfInBounds i true) a' w' (Nat.lor em (bit d.i)) (Nat.lor D (Nat.lor d.m (bit d.i))) C1 s1 os ρ' Hp') a w := by
  have hmask := r.mask hW.cl
  have hdi := r.di
  have hlook := looks_sl hlk r.is hmask hW.sz2 hW.sl
  have hat : opsA.toList[i]? = some o := by simpa using r.at_
  have hlen : ∀ x ∈ (planD P opsA.toList).dops, x.i < opsA.toList.length := fun x hx => by
    obtain ⟨o1, i1⟩ := plan_is hx
    exact (List.getElem?_eq_some_iff.1 i1.at_).1
  have hpos := gBase_pos
  unfold effD at hx
  split at hx
  · exact hx.elim
  rename_i hs hp
  have hsub := al_sub hW hmask hp
  obtain ⟨hnx, hrs⟩ := putsR_next hp
  have hs0 : hs.rs = 0 := hrs.trans hW.crs
  have hsim : Sim ρ hs w := hW.t.sim.sub hsub (hnx.trans hW.nx.symm) fun h => absurd hs0 h
  have hGs : G hs := hK h0 hs (fun b hb => by
    rw [putsR_keeps hp b fun j _ => by omega, ← hp_low hW (by omega)]; exact hW.t.keep b hb) hG0
  have htb : ∀ j, tb (Nat.lor D (Nat.lor d.m (bit d.i))) j = (tb D j || (tb d.m j || decide (d.i = j))) := fun j => by rw [tb_lor, tb_lor, tb_bit]
  have hnew : ∀ ρ' C1 v' w' V s1, Turn ρ hs w ρ' C1 w' → VR ρ' V v' → (∀ t, o.dst = some t → t < n ∧ s1.get t = some V) → (∀ t, o.dst ≠ some t → s1.get t = s.get t) → (K s1 C1).All φ →
      ∃ ρ' s1 C1 Hp', (K s1 C1).All φ ∧ Glo C C1 ∧ (∀ t, o.dst ≠ some t → s1.get t = s.get t) ∧ WInv P opsA.toList base n ρ0 h0 w0 df (listed.setIfInBounds i true) (a.put o.dst v') w' (Nat.lor em (bit d.i)) (Nat.lor D (Nat.lor d.m (bit d.i))) C1 s1 os ρ' Hp' := by
    intro ρ' C1 v' w' V s1 hT hv hV1 hV2 hKx
    have hC1n : C.next ≤ C1.next := by rw [← hnx]; exact hT.next
    have hC1r : C1.rs = 0 := by
      rcases hT.rs with h | h
      · exact h
      · exact h.trans hs0
    have hmem : ∀ j, j ∈ ((planD P opsA.toList).as.filter fun j => listed.getD j false && !tb (Nat.lor D (Nat.lor d.m (bit d.i))) j) ↔ (∃ x ∈ (planD P opsA.toList).dops, x.k = 1 ∧ x.i = j) ∧ Up listed j ∧ tb (Nat.lor D (Nat.lor d.m (bit d.i))) j = false := fun j => by
      rw [List.mem_filter, as_mem]
      simp only [Bool.and_eq_true, Bool.not_eq_true']
      exact Iff.rfl
    have hDD : ∀ j, tb (Nat.lor D (Nat.lor d.m (bit d.i))) j = false → tb D j = false ∧ tb d.m j = false ∧ d.i ≠ j := fun j hj => by
      rw [htb] at hj
      simp only [Bool.or_eq_false_iff, decide_eq_false_iff_not] at hj
      exact ⟨hj.1, hj.2.1, hj.2.2⟩
    obtain ⟨Hp', hp'⟩ := putsR_some (base := base) (os := os) (h := C1) (l := (planD P opsA.toList).as.filter fun j => listed.getD j false && !tb (Nat.lor D (Nat.lor d.m (bit d.i))) j) fun j hj => by
      obtain ⟨⟨x, hx1, hx2, rfl⟩, h2, h3⟩ := (hmem j).1 hj
      obtain ⟨o1, i1⟩ := plan_is hx1
      exact up_entry hE hW hx1 i1 hx2 h2 (hDD _ h3).1
    have hsn : ∀ x ∈ (planD P opsA.toList).dops, x.k = 1 → tb (Nat.lor D (Nat.lor d.m (bit d.i))) x.i = false → hs.get (base + x.i) = none := fun x hx1 hk1 hD1 => by
      obtain ⟨q1, q2, q3⟩ := hDD _ hD1
      rw [putsR_keeps hp _ fun j hj e => by
        have : x.i = j := by omega
        rw [this] at q2
        rw [(alOf_mem.1 hj).2.1] at q2; cases q2]
      exact hW.cno x hx1 hk1 q1
    have hcno : ∀ x ∈ (planD P opsA.toList).dops, x.k = 1 → tb (Nat.lor D (Nat.lor d.m (bit d.i))) x.i = false → C1.get (base + x.i) = none := fun x hx1 hk1 hD1 => by
      obtain ⟨q1, q2, q3⟩ := hDD _ hD1
      cases hc : C1.get (base + x.i) with
      | none => rfl
      | some oc =>
        exfalso
        obtain ⟨rc, oc', k1, k2, _⟩ := hT.sim.obj _ _ hc
        by_cases hcase : Up listed x.i ∧ ∃ O, os.get x.i = some (some O)
        · obtain ⟨hu, O, hO⟩ := hcase
          have hin := hW.hpIn x hx1 hk1 hu q1 O hO
          obtain ⟨r2, o2', m1, m2, _⟩ := hW.t.sim.obj _ _ hin
          have := hT.agree _ _ m1
          rw [k1] at this; cases this
          have hlt := (Array.getElem?_eq_some_iff.1 m2).1
          rcases hT.img _ _ _ (by omega) hc k1 with h | ⟨b0, oo0, r0, e1, e2, e3, e4⟩
          · omega
          · have := hW.t.sim.inj _ _ _ _ _ _ (hsub _ _ e2) hin e3 m1 e4
            rw [this, hsn x hx1 hk1 hD1] at e2; cases e2
        · have hfr := hW.fr x hx1 hk1 (by
            by_cases hu : Up listed x.i
            · exact .inr fun O hO => hcase ⟨hu, O, hO⟩
            · exact .inl hu)
          have hlow := hT.low (base + x.i) (by omega) (by rw [hnx]; have := hW.low; have := hlen x hx1; omega) (by omega) hfr
          rw [k1] at hlow; cases hlow
    obtain ⟨hnx', hrs'⟩ := putsR_next hp'
    have hout := putsR_out hp'
    have hne : ∀ x ∈ (planD P opsA.toList).dops, x.k = 1 → i ≠ x.i := fun x hx1 hk1 e => by
      have := plan_inj r.mem hx1 (hdi.trans e)
      subst this
      omega
    refine ⟨ρ', s1, C1, Hp', hKx, fun b hb => ?_, hV2, ?_⟩
    · have h1 := hT.keep b hb
      rw [h1, putsR_keeps hp b fun j _ => by omega]
    refine ⟨by simpa using hW.sz, fun j hj => ?_, fun x hx1 hk1 => ?_, fun j hj => ?_, fun x hx1 hk1 hu hD1 o1 ho1 => ?_, fun b o1 hb => ?_, fun b o1 hb => ?_, hcno, hnx', hrs'.trans hC1r, hC1r, fun x hx1 hk1 hu => ?_, Nat.le_trans hW.low hC1n, ?_, by rw [put_size]; exact hW.sz2,
      sl_put hW.sz2 hW.sl hat hV1 hV2 hT.agree hv, by rw [put_df]; exact hW.df⟩
    · by_cases e : i = j
      · subst e
        exact fun o1 h1 e he hb => up_set (r.due o1 h1 e he hb)
      · exact fun o1 h1 e1 he hb => up_set (hW.cl j ((up_ne e).1 hj) o1 h1 e1 he hb)
    · rw [tb_lor, tb_bit]
      by_cases e : i = x.i
      · rw [← e, hdi]
        simp only [decide_true, Bool.or_true, iff_true]
        exact up_self r.lt
      · rw [up_ne e, hW.ef x hx1 hk1, decide_eq_false (by rw [hdi]; exact e), Bool.or_false]
    · rw [htb] at hj
      simp only [Bool.or_eq_true, decide_eq_true_eq] at hj
      rcases hj with hj | hj | hj
      · exact up_set (hW.dl j hj)
      · exact up_set (hmask j hj)
      · rw [← hj, hdi]; exact up_self r.lt
    · exact putsR_in ho1 hp' ((hmem _).2 ⟨⟨x, hx1, hk1, rfl⟩, (up_ne (hne x hx1 hk1)).1 hu, hD1⟩)
    · rcases hout b o1 hb with h | ⟨j, hj, e, ho1⟩
      · exact .inl h
      · obtain ⟨⟨x, hx1, hx2, rfl⟩, h2, h3⟩ := (hmem j).1 hj
        exact .inr ⟨x, hx1, hx2, up_set h2, h3, e, ho1⟩
    · rw [putsR_keeps hp' b fun j hj e => by
        obtain ⟨⟨x, hx1, hx2, rfl⟩, h2, h3⟩ := (hmem j).1 hj
        rw [e, hcno x hx1 hx2 h3] at hb; cases hb]
      exact hb
    · refine hT.low _ (by omega) (by rw [hnx]; have := hW.low; have := hlen x hx1; omega) (by omega) (hW.fr x hx1 hk1 ?_)
      rcases hu with h | h
      · exact .inl fun hu => h (up_set hu)
      · exact .inr h
    · refine Turn.onto hW.t hT hsub (by rw [hnx', hW.nx]; exact hC1n) (by rw [hnx']; exact Nat.le_refl _) (fun b o1 hb => ?_) (fun b hb => ?_) (.inl hs0) (hrs'.trans hC1r) (by rw [hnx, ← hW.nx]; exact hW.t.next)
      · rcases hout b o1 hb with h | ⟨j, hj, e, ho1⟩
        · exact .inl h
        · obtain ⟨⟨x, hx1, hx2, rfl⟩, h2, h3⟩ := (hmem j).1 hj
          subst e
          exact .inr ⟨hsn x hx1 hx2 h3, hW.hpIn x hx1 hx2 h2 (hDD _ h3).1 o1 ho1⟩
      · rw [putsR_keeps hp' b fun j _ => by omega, hT.keep b hb, putsR_keeps hp b fun j _ => by omega, hp_low hW (by omega)]
  unfold wpOpIn
  simp only [r.at_]
  have hdo : ∀ {x : R}, x = orR P ev orc (d.o.op.f s hs) (putR n d.o.dst s K) → x.All φ → d.o.op = opK P o.op → d.o.dst = o.dst → Region.wanted o (yielded opsA a.tmps) = true →
      o.wpIn (fw ro) m P a w (fun a' w' => ∃ ρ' s1 C1 Hp', (K s1 C1).All φ ∧ Glo C C1 ∧ (∀ t, o.dst ≠ some t → s1.get t = s.get t) ∧ WInv P opsA.toList base n ρ0 h0 w0 df (listed.setIfInBounds i true) a' w' (Nat.lor em (bit d.i)) (Nat.lor D (Nat.lor d.m (bit d.i))) C1 s1 os ρ' Hp') Q := by
    intro x e hx hop hdst hw
    rw [e, hop, hdst] at hx
    have hx2 : (orR P ev orc ((opK P o.op).f (restr s (o.looksAt opsA)) hs) (putR n o.dst s K)).All φ := by
      rcases opK_le (P := P) (h := hs) o.op (sle_restr (s := s) (opsA := opsA) o) with h | h
      · rw [h] at hx; exact hx.elim
      · rw [h]; exact hx
    refine wpIn_of_upon (fun c e => ?_) (orR_ok hev hK ho hsim hGs (opK_ok hsim hlook o) hx2 ?_)
    · rw [opK_nodefer e] at hx2; exact hx2.elim
    · intro v h' ρ' w' v' hT hv x
      obtain ⟨s1, k1, k2, k3⟩ := putR_ok2 x
      exact hnew ρ' h' v' w' v s1 hT hv k2 k3 k1
  have hno : ∀ {x : R}, x = putR n d.o.dst s K (.tuple ⟨[]⟩) hs → x.All φ → d.o.dst = o.dst → (∀ f, o.about P w a.eval = some f → (fw ro).fn f) ∧ ∃ ρ' s1 C1 Hp', (K s1 C1).All φ ∧ Glo C C1 ∧ (∀ t, o.dst ≠ some t → s1.get t = s.get t) ∧ WInv P opsA.toList base n ρ0 h0 w0 df (listed.setIfInBounds i true) (a.put o.dst undef) w (Nat.lor em (bit d.i)) (Nat.lor D (Nat.lor d.m (bit d.i))) C1 s1 os ρ' Hp' := by
    intro x e hx hdst
    rw [e, hdst] at hx
    obtain ⟨s1, k1, k2, k3⟩ := putR_ok2 hx
    exact ⟨fun _ _ => trivial, hnew ρ hs undef w _ s1 (.refl hsim) (.tuple .nil) k2 k3 k1⟩
  rcases wanted_of r.is hlook with e | ⟨hop, hdst, ⟨hg, hw⟩ | ⟨g, hg, hw⟩⟩
  · rw [e] at hx; exact hx.elim
  · rw [if_pos hw]
    exact hdo (by unfold opR; rw [hg]) hx hop hdst hw
  · have hx' : (wantR (s.get g.1) g.2 (orR P ev orc (d.o.op.f s hs) (putR n d.o.dst s K)) (putR n d.o.dst s K (.tuple ⟨[]⟩) hs)).All φ := by
      unfold opR at hx; rw [hg] at hx; exact hx
    cases hv : s.get g.1 with
    | none => rw [hv] at hx'; exact hx'.elim
    | some v =>
      rw [hv] at hx'
      by_cases hb : v = .bool g.2
      · rw [if_pos ((hw v hv).1 hb)]
        subst hb
        have hbe : boolEq g.2 g.2 = true := by cases g.2 <;> rfl
        simp only [wantR, hbe, cb] at hx'
        exact hdo rfl hx' hop hdst ((hw _ hv).1 rfl)
      · rw [if_neg ((hw v hv).2 hb)]
        cases v with
        | bool b =>
          have hbe : boolEq b g.2 = false := by
            cases hb2 : g.2 <;> cases b <;> first | rfl | (exact absurd (by rw [hb2]) hb)
          simp only [wantR, hbe, cb] at hx'
          exact hno rfl hx' hdst
        | _ => exact hno rfl hx' hdst
noncomputable def afterR (P : Program) (ev : Code → Fr → St → R) (orc : Orc) (pl : Pl) (base n : Nat) (dd : List Nat) (es : List DOp) (em D : Nat) (C : Heap) (s : Slots) (os : Os) : R := match es with
  | [] => endD pl base D dd C s os
  | e :: es => effD P ev orc pl base n D e C s os fun s h => fN (Nat.lor em (bit e.i)) fun em' => fN (Nat.lor D (Nat.lor e.m (bit e.i))) fun D' => stR P ev orc pl base n dd es (some em) em' D' h s os
theorem stR_eq {pl : Pl} {dd : List Nat} {es : List DOp} {prev : Option Nat} {h : Heap} : stR P ev orc pl base n dd es prev em D h s os = stageR pl base n prev em D h s os fun s os => afterR P ev orc pl base n dd es em D h s os := by cases es <;> rfl
def JInv (P : Program) (ev : Code → Fr → St → R) (orc : Orc) (opsA : Array Oper) (base n : Nat) (ρ0 : Ren) (h0 : Heap) (w0 : World) (df : List Deferred) (dd : List Nat) (φ : Exit → St → Prop) (listed : Array Bool) (a : Act) (w : World) : Prop :=
  ∃ es em D C s os ρ Hp, EInv P opsA.toList base n em D C s os ∧ WInv P opsA.toList base n ρ0 h0 w0 df listed a w em D C s os ρ Hp ∧ chainB (planD P opsA.toList).ea es em = true ∧ (∀ d ∈ (planD P opsA.toList).dops, d.k = 3 → tb em d.i = false → d ∈ es) ∧
    (∀ e ∈ es, e ∈ (planD P opsA.toList).dops ∧ e.k = 3 ∧ tb em e.i = false) ∧ (es.Pairwise fun a b => a.i < b.i) ∧ (afterR P ev orc (planD P opsA.toList) base n dd es em D C s os).All φ
theorem avail_mono {ea m em em' : Nat} (h : ∀ j, tb em j = true → tb em' j = true) (ha : avail ea m em = true) : avail ea m em' = true :=
  avail_iff.2 fun j h1 h2 => h j (avail_iff.1 ha j h1 h2)
theorem j_step {dd : List Nat} (hev : CodeOK G P ev) (hK : ∀ h h', (∀ b, b < gBase → h'.get b = h.get b) → G h → G h') (ho : OrcOK G P orc) (hG0 : G h0) (hbase : h0.next = base) (hgb : gBase ≤ base) (hu : uniqB opsA.toList = true)
    (hlk : looksB (finP opsA.toList) opsA.toList opsA.toList (masksL opsA.toList []) = true) {i : Nat} (hi : i ∈ Region.ready .any opsA listed) (hJ : JInv P ev orc opsA base n ρ0 h0 w0 df dd φ listed a w) :
    wpOpIn (fw ro) m P opsA Q i (JInv P ev orc opsA base n ρ0 h0 w0 df dd φ (listed.setIfInBounds i true)) a w := by
  obtain ⟨es, em, D, C, s, os, ρ, Hp, hE, hW, hch, hall, hes, hpw, hx⟩ := hJ
  obtain ⟨d, o, r⟩ := rdy_of (P := P) hi
  have hdi := r.di
  by_cases h3 : d.k = 3
  · have hmask := r.mask hW.cl
    have htd : tb em d.i = false := by
      cases hb : tb em d.i
      · rfl
      · exact absurd ((hW.ef d r.mem h3).2 hb) (by rw [hdi]; exact r.no)
    have hdm := hall d r.mem h3 htd
    cases es with
    | nil => simp at hdm
    | cons e es =>
      have hde : d = e := by
        rcases List.mem_cons.1 hdm with h | h
        · exact h
        · have := chain_head hch h
          obtain ⟨q1, q2, q3⟩ := hes e (by simp)
          rw [(hW.ef e q1 q2).1 (hmask _ this)] at q3; cases q3
      subst hde
      obtain ⟨hpw1, hpw2⟩ := List.pairwise_cons.1 hpw
      refine wpOpIn_mono ?_ (step_eff hev hK ho hG0 hbase hgb hlk r h3 hE hW hx)
      rintro a' w' ⟨ρ', s1, C1, Hp', hKx, hGl, hs1, hW'⟩
      simp only [fN_eq] at hKx
      rw [stR_eq] at hKx
      have hem : ∀ j, tb em j = true → tb (Nat.lor em (bit d.i)) j = true := fun j hj => by rw [tb_lor, hj]; rfl
      have hem' : ∀ j, tb (Nat.lor em (bit d.i)) j = false → tb em j = false ∧ d.i ≠ j := fun j hj => by
        rw [tb_lor, tb_bit] at hj
        simp only [Bool.or_eq_false_iff, decide_eq_false_iff_not] at hj
        exact hj
      have hD' : ∀ j, tb D j = true → tb (Nat.lor D (Nat.lor d.m (bit d.i))) j = true := fun j hj => by rw [tb_lor, hj]; rfl
      have hDn : ∀ j, tb (Nat.lor D (Nat.lor d.m (bit d.i))) j = false → tb D j = false := fun j hj => by
        cases hb : tb D j
        · rfl
        · rw [hD' j hb] at hj; cases hj
      have hdst : d.o.dst = o.dst := by rw [r.is.o, ko_dst]
      have hss1 : isFin (finP opsA.toList) d.i = false → SLt s s1 := fun hnf => slt_put (dst := o.dst) (fun t ht => hE.slot d r.mem hnf (fun _ => htd) (fun h => absurd h3 h) t (by rw [hdst]; exact ht)) hs1
      have hA : ∀ x ∈ (planD P opsA.toList).dops, isFin (finP opsA.toList) x.i = false → (x.k = 3 → tb (Nat.lor em (bit d.i)) x.i = false) → (x.k ≠ 3 → seen (planD P opsA.toList).ea x.m (some em) = false) → ∀ t, x.o.dst = some t → s1.get t = none := by
        intro x hx1 hnf hk3 hkn t ht
        have hne : d.i ≠ x.i := fun e => by
          have := plan_inj r.mem hx1 e
          subst this
          exact (hem' _ (hk3 h3)).2 rfl
        have h1 := hE.slot x hx1 hnf (fun hk => (hem' _ (hk3 hk)).1) hkn t ht
        rw [hs1 t fun e => ?_]
        · exact h1
        · obtain ⟨ox, ix⟩ := plan_is hx1
          rw [ix.o, ko_dst] at ht
          rcases Nat.lt_or_gt_of_ne hne with h | h
          · exact uniqB_ne hu h r.is.at_ ix.at_ e ht
          · exact uniqB_ne hu h ix.at_ r.is.at_ ht e
      have hB : ∀ s' os', SLt s1 s' → OLe os os' → ∀ x ∈ (planD P opsA.toList).dops, x.k ≠ 3 → seen (planD P opsA.toList).ea x.m (some em) = true → tb (Nat.lor D (Nat.lor d.m (bit d.i))) x.i = false →
          (x.k = 2 → againB base (Nat.lor D (Nat.lor d.m (bit d.i))) (planD P opsA.toList).as C1 s' os' x = true) → Good base n (Nat.lor D (Nat.lor d.m (bit d.i))) (planD P opsA.toList).as C1 s' os' x := by
        intro s' os' h1 h2 x hx1 hk hse hD1 hag
        obtain ⟨ox, ix⟩ := plan_is hx1
        have hnf : isFin (finP opsA.toList) d.i = false := by
          cases hf : isFin (finP opsA.toList) d.i with
          | false => rfl
          | true =>
            exfalso
            have hlt := (List.getElem?_eq_some_iff.1 ix.at_).1
            have hne : x.i ≠ d.i := fun e => hk (by rw [plan_inj hx1 r.mem e]; exact h3)
            have := (fin_all hf).2 x.i hlt hne
            rw [← r.is.m] at this
            rw [tb_lor, tb_lor, this] at hD1
            simp at hD1
        exact ((hE.good x hx1 hk hse (hDn _ hD1)).mono ix.mono ((hss1 hnf).trans h1) h2).later ix hk hGl hgb hD' hag
      obtain ⟨s2, os2, hx2, hs2, ho2, hE2, hf2⟩ := stage_inv hu hKx (fun m hm => avail_mono hem hm) hA (fun x hx1 hk hse => hE.entry x hx1 hk hse) hB
      refine ⟨es, _, _, C1, s2, os2, ρ', Hp', hE2, ?_, ?_, fun x hx1 hk3 htx => ?_, fun x hx1 => ?_, hpw2, hx2⟩
      · refine ⟨hW'.sz, hW'.cl, hW'.ef, hW'.dl, fun x hx1 hk1 hu1 hD1 o1 ho1 => ?_, fun b o1 hb => ?_, hW'.hpC, hW'.cno, hW'.nx, hW'.rs, hW'.crs, fun x hx1 hk1 hu1 => ?_, hW'.low, hW'.t, hW'.sz2, fun t v ht hup => ?_, hW'.df⟩
        · obtain ⟨ox, ix⟩ := plan_is hx1
          have hne : i ≠ x.i := fun e => by
            have := plan_inj r.mem hx1 (hdi.trans e)
            subst this
            omega
          obtain ⟨y, hy⟩ := up_entry hE hW hx1 ix hk1 ((up_ne hne).1 hu1) (hDn _ hD1)
          have := ho2 _ _ hy
          rw [ho1] at this; cases this
          exact hW'.hpIn x hx1 hk1 hu1 hD1 o1 hy
        · rcases hW'.hpOut b o1 hb with h | ⟨x, k1, k2, k3, k4, k5, k6⟩
          · exact .inl h
          · exact .inr ⟨x, k1, k2, k3, k4, k5, ho2 _ _ k6⟩
        · refine hW'.fr x hx1 hk1 ?_
          rcases hu1 with h | h
          · exact .inl h
          · exact .inr fun o1 ho1 => h o1 (ho2 _ _ ho1)
        · cases h1 : s1.get t with
          | some v1 =>
            have := hs2 t v1 h1
            rw [ht] at this; cases this
            exact hW'.sl t v h1 hup
          | none =>
            exfalso
            have : ∃ x ∈ newsL (planD P opsA.toList) (some em) (Nat.lor em (bit d.i)), x.o.dst = some t := by
              refine Classical.byContradiction fun hno => ?_
              have := hf2 t fun x hx1 e => hno ⟨x, hx1, e⟩
              rw [ht, h1] at this; cases this
            obtain ⟨x, hx1, hxd⟩ := this
            obtain ⟨q1, q2, q3, q4⟩ := news_mem.1 hx1
            obtain ⟨ox, ix⟩ := plan_is q1
            have hux : Up (listed.setIfInBounds i true) x.i := (hup x.i ox ix.at_ (by rw [ix.o, ko_dst] at hxd; exact hxd)).resolve_right (by rw [(ix.kind (by omega)).1]; exact Bool.false_ne_true)
            have hne : i ≠ x.i := fun e => by
              have := plan_inj r.mem q1 (hdi.trans e)
              subst this
              omega
            have := up_avail hW ix ((up_ne hne).1 hux)
            have q4' : avail (planD P opsA.toList).ea x.m em = false := q4
            rw [this] at q4'; cases q4'
      · simp only [chainB, Bool.and_eq_true] at hch
        exact hch.2
      · obtain ⟨q1, q2⟩ := hem' _ htx
        rcases List.mem_cons.1 (hall x hx1 hk3 q1) with h | h
        · subst h; exact absurd rfl q2
        · exact h
      · obtain ⟨q1, q2, q3⟩ := hes x (by simp [hx1])
        refine ⟨q1, q2, ?_⟩
        rw [tb_lor, tb_bit, q3, decide_eq_false (by have := hpw1 x hx1; omega)]; rfl
  · refine wpOpIn_mono ?_ (step_quiet hbase hgb hlk r h3 hE hW)
    rintro a' w' ⟨ρ', Hp', hW'⟩
    exact ⟨es, em, D, C, s, os, ρ', Hp', hE, hW', hch, hall, hes, hpw, hx⟩
theorem all_up (he : edgesB opsA.toList 0 = true) (hr : Region.ready .any opsA listed = []) (hsz : listed.size = opsA.toList.length) : ∀ i, i < opsA.toList.length → Up listed i := by
  intro i
  induction i using Nat.strongRecOn with
  | ind i ih =>
    intro hi
    refine Classical.byContradiction fun hno => ?_
    have hat : opsA[i]? = some opsA.toList[i] := by simp
    have : i ∈ Region.ready .any opsA listed := mem_ready.2 ⟨up_of (by omega) hno, _, hat, fun e he1 hb => by
      have := edgesB_lt he (k := i) (by simp) e he1 hb
      exact ih e.on (by omega) (by omega)⟩
    rw [hr] at this; cases this
theorem j_end {fr : Fr} {dd : List Nat} (hK : ∀ h h', (∀ b, b < gBase → h'.get b = h.get b) → G h → G h') (hG0 : G h0) (hgb : gBase ≤ base) (he : edgesB opsA.toList 0 = true) (hdr : DR ρ0 dd df) (hr : Region.ready .any opsA listed = [])
    (hJ : JInv P ev orc opsA base fr.n ρ0 h0 w0 df dd (Met G ρ0 h0 fr w0 Q) listed a w) : Q .normal a w := by
  obtain ⟨es, em, D, C, s, os, ρ, Hp, hE, hW, hch, hall, hes, hpw, hx⟩ := hJ
  have hup := all_up he hr hW.sz
  have hlen : ∀ x ∈ (planD P opsA.toList).dops, x.i < opsA.toList.length := fun x hx => by
    obtain ⟨o1, i1⟩ := plan_is hx
    exact (List.getElem?_eq_some_iff.1 i1.at_).1
  cases es with
  | cons e es =>
    obtain ⟨q1, q2, q3⟩ := hes e (by simp)
    rw [(hW.ef e q1 q2).1 (hup _ (hlen e q1))] at q3; cases q3
  | nil =>
    have hx : (endD (planD P opsA.toList) base D dd C s os).All (Met G ρ0 h0 fr w0 Q) := hx
    unfold endD at hx
    split at hx
    · exact hx.elim
    rename_i hf hp
    obtain ⟨hnx, hrs⟩ := putsR_next hp
    have hsub : ∀ b o, hf.get b = some o → Hp.get b = some o := fun b o hb => by
      rcases putsR_out hp b o hb with h | ⟨j, hj, rfl, ho⟩
      · exact hW.hpC b o h
      · have hj' : j ∈ (planD P opsA.toList).as ∧ tb D j = false := by simpa [restA, List.mem_filter] using hj
        obtain ⟨x, hx1, hk1, rfl⟩ := as_mem.1 hj'.1
        exact hW.hpIn x hx1 hk1 (hup _ (hlen x hx1)) hj'.2 o ho
    have ht : Turn ρ0 h0 w0 ρ hf w := Turn.onto hW.t (.refl hW.t.sim) (fun _ _ h => h) (by rw [hnx, hW.nx]; exact Nat.le_refl _) (by rw [hnx, hW.nx]; exact Nat.le_refl _) (fun b o hb => .inl (hsub b o hb))
      (fun b hb => by rw [putsR_keeps hp b fun j _ => by omega, hp_low hW (by omega)]) (.inl hW.rs) (hrs.trans hW.crs) hW.t.next
    exact hx ρ a w ⟨ht.sim, ⟨hW.sz2, fun t v h => hW.sl t v h fun i o hi _ => .inl (hup i (List.getElem?_eq_some_iff.1 hi).1)⟩, by rw [hW.df]; exact hdr.mono ht.agree, hK h0 hf ht.keep hG0⟩ ht
theorem clearR_get : ∀ (l : List Tmp) (s : Slots) (t : Tmp), (clearR l s).get t = if t ∈ l then none else s.get t
  | [], s, t => by simp [clearR]
  | d :: l, s, t => by
    have : clearR (d :: l) s = clearR l (T.putP none (pth d) s) := rfl
    rw [this, clearR_get l, T.get_put]
    by_cases e : t = d
    · simp [e]
    · simp [e]
theorem drawS_ok (hK : ∀ h h', (∀ b, b < gBase → h'.get b = h.get b) → G h → G h') (ho : OrcOK G P orc) : DrawOK G P (drawS P orc) := by
  intro ev hev id ops fr st ρ w a Q m ro hS hR hx
  unfold drawS at hx
  rw [cb_eq] at hx
  by_cases hok : okD P ops.toList = true
  case neg => rw [if_neg hok] at hx; exact hx.elim
  rw [if_pos hok] at hx
  simp only [okD, Bool.and_eq_true] at hok
  obtain ⟨⟨⟨⟨hm, he⟩, hu⟩, hlk⟩, hch⟩ := hok
  obtain ⟨s, ⟨nx, rs, t⟩, dd⟩ := st
  have hx' : (cb (Nat.beq rs 0) (fN nx fun base => fN (Nat.add base ops.toList.length) fun n' => stR P ev orc (planD P ops.toList) base fr.n dd (effsL (planD P ops.toList).dops) none 0 0 ⟨n', 0, t⟩ (clearR (planD P ops.toList).dsts s) .e) .no).All (Met G ρ ⟨nx, rs, t⟩ fr w Q) := hx
  rw [cb_eq] at hx'
  by_cases hr0 : Nat.beq rs 0 = true
  case neg => rw [if_neg hr0] at hx'; exact hx'.elim
  rw [if_pos hr0, fN_eq, fN_eq, stR_eq] at hx'
  have hrs : rs = 0 := Nat.eq_of_beq_eq_true hr0
  subst hrs
  have hsim : Sim ρ ⟨nx, 0, t⟩ w := hS.sim
  have hgb : gBase ≤ nx := hsim.low
  have hlen : ∀ x ∈ (planD P ops.toList).dops, x.i < ops.toList.length := fun x hx => by
    obtain ⟨o1, i1⟩ := plan_is hx
    exact (List.getElem?_eq_some_iff.1 i1.at_).1
  have hseen : ∀ m, seen (planD P ops.toList).ea m none = false := fun _ => rfl
  have hds : ∀ x ∈ (planD P ops.toList).dops, isFin (finP ops.toList) x.i = false → ∀ t, x.o.dst = some t → t ∈ (planD P ops.toList).dsts := fun x hx hnf t ht => by
    obtain ⟨o1, i1⟩ := plan_is hx
    rw [i1.o, ko_dst] at ht
    exact dstsL_mem (l := ops.toList) (i := 0) i1.at_ ht (by rw [Nat.zero_add]; exact hnf)
  obtain ⟨s2, os2, hx2, hs2, ho2, hE2, hf2⟩ := stage_inv hu hx' (fun m hm => by rw [hseen] at hm; cases hm) (fun x hx1 hnf _ _ t ht => by rw [clearR_get, if_pos (hds x hx1 hnf t ht)]) (fun x _ _ _ => T.get_e _)
    (fun s' os' _ _ x _ _ hse => by rw [hseen] at hse; cases hse)
  refine wpIn_region_any hm (anyIn_of_inv (J := JInv P ev orc ops nx fr.n ρ ⟨nx, 0, t⟩ w a.defers dd (Met G ρ ⟨nx, 0, t⟩ fr w Q)) (fun l a w i hi hJ => j_step hev hK ho hS.gl rfl hgb hu hlk hi hJ)
    (fun l a w hr hJ => j_end hK hS.gl hgb he hS.df hr hJ) _ _ _ _ ?_ ?_)
  · unfold unlisted
    refine Nat.le_trans (List.length_filter_le _ _) ?_
    simp
  · have hup0 : ∀ i, ¬ Up (Array.replicate ops.size false) i := fun i hu => by
      unfold Up at hu
      rcases Nat.lt_or_ge i ops.size with h | h
      · simp [h] at hu
      · simp [h] at hu
    have ht0 : Turn ρ ⟨nx, 0, t⟩ { w with drawn := w.drawn + 1 } ρ ⟨nx + ops.toList.length, 0, t⟩ { w with drawn := w.drawn + 1 } := by
      have hsim1 : Sim ρ ⟨nx, 0, t⟩ { w with drawn := w.drawn + 1 } := hsim.of_heap rfl
      exact Turn.onto (.refl hsim1) (.refl hsim1) (fun _ _ h => h) (Nat.le_add_right _ _) (Nat.le_add_right _ _) (fun b o hb => .inl hb) (fun _ _ => rfl) (.inl rfl) rfl (Nat.le_refl _)
    have hfree : ∀ b, nx ≤ b → ρ b = none := fun b hb => hsim.fresh b hb
    have hnone : ∀ b, nx ≤ b → (⟨nx + ops.toList.length, 0, t⟩ : Heap).get b = none := fun b hb => by
      cases h1 : (⟨nx + ops.toList.length, 0, t⟩ : Heap).get b with
      | none => rfl
      | some o =>
        obtain ⟨r, _, h2, _⟩ := hsim.obj b o h1
        rw [hfree b hb] at h2; cases h2
    refine ⟨effsL (planD P ops.toList).dops, 0, 0, ⟨nx + ops.toList.length, 0, t⟩, s2, os2, ρ, ⟨nx + ops.toList.length, 0, t⟩, hE2, ?_, hch, fun x hx1 hk _ => ?_, fun x hx1 => ?_, plan_sorted.filter _, hx2⟩
    · refine ⟨by simp, fun i hi => absurd hi (hup0 i), fun x _ _ => ⟨fun h => absurd h (hup0 _), fun h => (by rw [tb_zero] at h; cases h)⟩, fun j hj => (by rw [tb_zero] at hj; cases hj), fun x _ _ h => absurd h (hup0 _), fun b o h => .inl h, fun b o h => h,
        fun x hx1 _ _ => hnone _ (Nat.le_add_right _ _), rfl, rfl, rfl, fun x _ _ _ => hfree _ (Nat.le_add_right _ _), Nat.le_refl _, ht0.of_heap rfl rfl rfl rfl, hS.sl.1, fun t v ht hup => ?_, rfl⟩
      have h1 : (clearR (planD P ops.toList).dsts s).get t = some v := by
        rw [← hf2 t fun x hx1 e => ?_]
        · exact ht
        · obtain ⟨q1, _⟩ := news_mem.1 hx1
          obtain ⟨ox, ix⟩ := plan_is q1
          rw [ix.o, ko_dst] at e
          exact hup0 _ ((hup x.i ox ix.at_ e).resolve_right (by rw [(ix.kind (by omega)).1]; exact Bool.false_ne_true))
      rw [clearR_get] at h1
      split at h1
      · cases h1
      · exact hS.sl.2 t v h1
    · exact List.mem_filter.2 ⟨hx1, by rw [hk]; rfl⟩
    · obtain ⟨q1, q2⟩ := List.mem_filter.1 hx1
      exact ⟨q1, Nat.eq_of_beq_eq_true q2, tb_zero _⟩
end
end Go.Ev
