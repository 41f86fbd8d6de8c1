/- EvZa: regions that draw their order: the world, at each point of every order. -/
import Derived.Test.YtnfcjgfaecihbaaGreatDoorEvZ
set_option linter.unusedVariables false
set_option linter.unusedSimpArgs false
set_option linter.unusedSectionVars false
set_option linter.constructorNameAsVariable false
namespace Go.Ev
open Go
def Up (listed : Array Bool) (i : Nat) : Prop := listed.getD i false = true
section
variable {listed : Array Bool} {i j : Nat}
theorem up_set (h : Up listed j) : Up (listed.setIfInBounds i true) j := getD_set_true h
theorem up_self (h : i < listed.size) : Up (listed.setIfInBounds i true) i := by unfold Up; simp [h]
theorem up_ne (h : i ≠ j) : Up (listed.setIfInBounds i true) j ↔ Up listed j := by unfold Up; rw [getD_set_ne false h]
theorem not_up (h : listed.getD i true = false) : i < listed.size ∧ ¬ Up listed i := by
  rcases Nat.lt_or_ge i listed.size with hl | hl
  · refine ⟨hl, fun hu => ?_⟩
    unfold Up at hu
    simp [hl] at h hu
    rw [h] at hu; cases hu
  · simp [Array.getElem?_eq_none hl] at h
theorem up_of (hl : i < listed.size) (h : ¬ Up listed i) : listed.getD i true = false := by
  unfold Up at h
  simp [hl] at h ⊢
  exact h
end
noncomputable def restr (s : Slots) : List Tmp → Slots
  | [] => .e
  | t :: l => T.putP (s.get t) (pth t) (restr s l)
theorem restr_get (s : Slots) (t : Tmp) : ∀ l : List Tmp, (restr s l).get t = if t ∈ l then s.get t else none
  | [] => rfl
  | u :: l => by
    unfold restr
    rw [T.get_put, restr_get s t l]
    by_cases e : t = u
    · subst e; simp
    · simp [e]
theorem as_mem {P : Program} {ops : List Oper} {j : Nat} : j ∈ (planD P ops).as ↔ ∃ d ∈ (planD P ops).dops, d.k = 1 ∧ d.i = j := by
  show j ∈ ((planD P ops).dops.filter fun d => Nat.beq d.k 1).map DOp.i ↔ _
  simp only [List.mem_map, List.mem_filter]
  constructor
  · rintro ⟨d, ⟨h1, h2⟩, h3⟩; exact ⟨d, h1, Nat.eq_of_beq_eq_true h2, h3⟩
  · rintro ⟨d, h1, h2, h3⟩; exact ⟨d, ⟨h1, by rw [h2]; rfl⟩, h3⟩
structure WInv (P : Program) (ops : List Oper) (base n : Nat) (ρ0 : Ren) (h0 : Heap) (w0 : World) (df : List Deferred) (listed : Array Bool) (a : Act) (w : World) (em D : Nat) (C : Heap) (s : Slots) (os : Os) (ρ : Ren) (Hp : Heap) : Prop where
  sz : listed.size = ops.length
  cl : ∀ i, Up listed i → Due ops (Up listed) i
  ef : ∀ d ∈ (planD P ops).dops, d.k = 3 → (Up listed d.i ↔ tb em d.i = true)
  dl : ∀ j, tb D j = true → Up listed j
  hpIn : ∀ d ∈ (planD P ops).dops, d.k = 1 → Up listed d.i → tb D d.i = false → ∀ o, os.get d.i = some (some o) → Hp.get (base + d.i) = some o
  hpOut : ∀ b o, Hp.get b = some o → C.get b = some o ∨ ∃ d ∈ (planD P ops).dops, d.k = 1 ∧ Up listed d.i ∧ tb D d.i = false ∧ b = base + d.i ∧ os.get d.i = some (some o)
  hpC : ∀ b o, C.get b = some o → Hp.get b = some o
  cno : ∀ d ∈ (planD P ops).dops, d.k = 1 → tb D d.i = false → C.get (base + d.i) = none
  nx : Hp.next = C.next
  rs : Hp.rs = 0
  crs : C.rs = 0
  fr : ∀ d ∈ (planD P ops).dops, d.k = 1 → (¬ Up listed d.i ∨ ∀ o, os.get d.i ≠ some (some o)) → ρ (base + d.i) = none
  low : base + ops.length ≤ C.next
  t : Turn ρ0 h0 w0 ρ Hp w
  sz2 : a.tmps.size = n
  sl : ∀ t v, s.get t = some v → (∀ i o, ops[i]? = some o → o.dst = some t → Up listed i ∨ isFin (finP ops) i = true) → ∃ v', a.tmps[t]? = some v' ∧ VR ρ v v'
  df : a.defers = df
section
variable {P : Program} {opsA : Array Oper} {base n : Nat} {ρ0 : Ren} {h0 : Heap} {w0 : World} {df : List Deferred} {listed : Array Bool} {a : Act} {w : World} {em D : Nat} {C : Heap} {s : Slots} {os : Os} {ρ : Ren} {Hp : Heap}
  {Q : Exit → Act → World → Prop} {m : Nat} {ro : Option Nat}
theorem wanted_of {d : DOp} {o : Oper} (is : Is P opsA.toList d o) (hl : SlR ρ (restr s (o.looksAt opsA)) n a.tmps) : d.o = ⟨none, o.dst, ⟨fun _ _ => .fail⟩⟩ ∨
    (d.o.op = opK P o.op ∧ d.o.dst = o.dst ∧ ((d.o.g = none ∧ Region.wanted o (yielded opsA a.tmps) = true) ∨ ∃ g, d.o.g = some g ∧ ∀ v, s.get g.1 = some v → (v = .bool g.2 → Region.wanted o (yielded opsA a.tmps) = true) ∧ (v ≠ .bool g.2 → ¬ Region.wanted o (yielded opsA a.tmps) = true))) := by
  rcases koOf_spec P opsA.toList o with ⟨hg, e⟩ | ⟨j, want, g, t, hg, hj, hd, e⟩ | e
  · refine .inr ?_
    rw [is.o, e]
    exact ⟨rfl, rfl, .inl ⟨rfl, by simp [Region.wanted, hg]⟩⟩
  · refine .inr ?_
    rw [is.o, e]
    refine ⟨rfl, rfl, .inr ⟨(t, want), rfl, fun v hv => ?_⟩⟩
    have hj' : opsA[j]? = some g := by simpa using hj
    have hmem : t ∈ o.looksAt opsA := by
      unfold Oper.looksAt
      refine List.mem_append_right _ ?_
      simp [hg, hj', hd]
    have hy := yielded_ok (ops := opsA) (j := j) hl hj' hd (v := v) (by rw [restr_get, if_pos hmem]; exact hv)
    have hw : Region.wanted o (yielded opsA a.tmps) = (yielded opsA a.tmps j == some want) := by simp [Region.wanted, hg]
    refine ⟨fun e => ?_, fun hne => ?_⟩
    · subst e; rw [hw, hy]; simp
    · rw [hw, hy]
      cases v <;> simp
      rename_i b
      intro e; subst e; exact hne rfl
  · exact .inl (by rw [is.o, e])
theorem put_size (a : Act) (dst : Option Tmp) (v : Value) : (a.put dst v).tmps.size = a.tmps.size := by cases dst <;> simp [Act.put]
theorem put_df (a : Act) (dst : Option Tmp) (v : Value) : (a.put dst v).defers = a.defers := by cases dst <;> rfl
theorem put_self (a : Act) (t : Tmp) (v : Value) (h : t < a.tmps.size) : (a.put (some t) v).tmps[t]? = some v := by simp [Act.put, h]
theorem put_other (a : Act) (dst : Option Tmp) (t : Tmp) (v : Value) (h : dst ≠ some t) : (a.put dst v).tmps[t]? = a.tmps[t]? := by
  cases dst with
  | none => rfl
  | some u =>
    have : u ≠ t := fun e => h (by rw [e])
    simp only [Act.put]
    exact Array.getElem?_setIfInBounds_ne this
theorem sl_put {s1 : Slots} {ρ' : Ren} {i : Nat} {o : Oper} {V v' : Value} (hsz : a.tmps.size = n) (hsl : ∀ t v, s.get t = some v → (∀ i o, opsA.toList[i]? = some o → o.dst = some t → Up listed i ∨ isFin (finP opsA.toList) i = true) → ∃ v', a.tmps[t]? = some v' ∧ VR ρ v v')
    (hi : opsA.toList[i]? = some o) (h1 : ∀ t, o.dst = some t → t < n ∧ s1.get t = some V) (h2 : ∀ t, o.dst ≠ some t → s1.get t = s.get t) (hE : Ext ρ ρ') (hv : VR ρ' V v') :
    ∀ t v, s1.get t = some v → (∀ j o, opsA.toList[j]? = some o → o.dst = some t → Up (listed.setIfInBounds i true) j ∨ isFin (finP opsA.toList) j = true) → ∃ v'', (a.put o.dst v').tmps[t]? = some v'' ∧ VR ρ' v v'' := by
  intro t v ht hup
  by_cases hd : o.dst = some t
  · obtain ⟨g1, g2⟩ := h1 t hd
    rw [ht] at g2; cases g2
    exact ⟨v', by rw [hd]; exact put_self a t v' (by rw [hsz]; exact g1), hv⟩
  · rw [h2 t hd] at ht
    obtain ⟨v'', k1, k2⟩ := hsl t v ht fun j o1 hj hjd => by
      by_cases e : i = j
      · subst e
        rw [hi] at hj; cases hj
        exact absurd hjd hd
      · exact (hup j o1 hj hjd).imp (up_ne e).1 id
    exact ⟨v'', by rw [put_other a o.dst t v' hd]; exact k1, k2.mono hE⟩
theorem looks_sl {d : DOp} {o : Oper} (hlk : looksB (finP opsA.toList) opsA.toList opsA.toList (masksL opsA.toList []) = true) (is : Is P opsA.toList d o) (hmask : ∀ j, tb d.m j = true → Up listed j) (hsz : a.tmps.size = n)
    (hsl : ∀ t v, s.get t = some v → (∀ i o, opsA.toList[i]? = some o → o.dst = some t → Up listed i ∨ isFin (finP opsA.toList) i = true) → ∃ v', a.tmps[t]? = some v' ∧ VR ρ v v') : SlR ρ (restr s (o.looksAt opsA)) n a.tmps := by
  refine ⟨hsz, fun t v ht => ?_⟩
  rw [restr_get] at ht
  split at ht
  · rename_i hmem
    exact hsl t v ht fun j o1 hj hjd => (looksB_tb hlk is.at_ t hmem hj hjd).imp (fun h => hmask j (by rw [is.m]; exact h)) id
  · cases ht
theorem sle_restr (o : Oper) : SLe o.op.operands.toList s (restr s (o.looksAt opsA)) := fun t ht v hv => by
  rw [restr_get, if_pos]
  · exact hv
  · unfold Oper.looksAt
    exact List.mem_append_left _ (List.mem_filterMap.2 ⟨.tmp t, ht, rfl⟩)
theorem hp_low (hW : WInv P opsA.toList base n ρ0 h0 w0 df listed a w em D C s os ρ Hp) {b : Nat} (hb : b < base) : Hp.get b = C.get b := by
  cases h1 : Hp.get b with
  | some o =>
    rcases hW.hpOut b o h1 with h | ⟨d, _, _, _, _, e, _⟩
    · exact h.symm
    · omega
  | none =>
    cases h2 : C.get b with
    | none => rfl
    | some o => rw [hW.hpC b o h2] at h1; cases h1
theorem sub_get {h hs : Heap} (hsub : ∀ b o, hs.get b = some o → h.get b = some o) {b : Nat} {o : Ob} (hb : h.get b = some o) : hs.get b = some o ∨ hs.get b = none := by
  cases h1 : hs.get b with
  | none => exact .inr rfl
  | some o1 =>
    have := hsub b o1 h1
    rw [hb] at this; cases this
    exact .inl rfl
structure Rdy (P : Program) (opsA : Array Oper) (listed : Array Bool) (i : Nat) (d : DOp) (o : Oper) : Prop where
  mem : d ∈ (planD P opsA.toList).dops
  di : d.i = i
  is : Is P opsA.toList d o
  at_ : opsA[i]? = some o
  lt : i < listed.size
  no : ¬ Up listed i
  due : Due opsA.toList (Up listed) i
theorem rdy_of {i : Nat} (hi : i ∈ Region.ready .any opsA listed) : ∃ d o, Rdy P opsA listed i d o := by
  obtain ⟨hun, o, ho, hall⟩ := mem_ready.1 hi
  have ho' : opsA.toList[i]? = some o := by simpa using ho
  obtain ⟨d, hd, hdi, is⟩ := plan_has (P := P) ho'
  obtain ⟨h1, h2⟩ := not_up hun
  exact ⟨d, o, hd, hdi, is, ho, h1, h2, fun o1 h1 e he hb => by rw [ho'] at h1; cases h1; exact hall e he hb⟩
theorem Rdy.mask {i : Nat} {d : DOp} {o : Oper} (r : Rdy P opsA listed i d o) (hcl : ∀ i, Up listed i → Due opsA.toList (Up listed) i) : ∀ j, tb d.m j = true → Up listed j := fun j hj =>
  maskAt_in hcl r.due (by rw [← r.di, ← r.is.m]; exact hj)
theorem mask_avail {d : DOp} (hef : ∀ d ∈ (planD P opsA.toList).dops, d.k = 3 → (Up listed d.i ↔ tb em d.i = true)) (hm : ∀ j, tb d.m j = true → Up listed j) : avail (planD P opsA.toList).ea d.m em = true :=
  avail_iff.2 fun j h1 h2 => by
    obtain ⟨d', hd', hk', rfl⟩ := effM_tb.1 h2
    exact (hef d' hd' hk').1 (hm _ h1)
theorem up_avail {d : DOp} {o : Oper} (hW : WInv P opsA.toList base n ρ0 h0 w0 df listed a w em D C s os ρ Hp) (is : Is P opsA.toList d o) (hu : Up listed d.i) : avail (planD P opsA.toList).ea d.m em = true :=
  mask_avail hW.ef fun j hj => maskAt_in hW.cl (hW.cl _ hu) (by rw [← is.m]; exact hj)
theorem al_sub {m0 : Nat} {hs : Heap} (hW : WInv P opsA.toList base n ρ0 h0 w0 df listed a w em D C s os ρ Hp) (hm : ∀ j, tb m0 j = true → Up listed j) (hp : putsR base os (alOf (planD P opsA.toList).as m0 D) C = some hs) :
    ∀ b o, hs.get b = some o → Hp.get b = some o := fun b o hb => by
  rcases putsR_out hp b o hb with h | ⟨j, hj, rfl, ho⟩
  · exact hW.hpC b o h
  · obtain ⟨a1, a2, a3⟩ := alOf_mem.1 hj
    obtain ⟨d', hd', hk', rfl⟩ := as_mem.1 a1
    exact hW.hpIn d' hd' hk' (hm _ a2) a3 o ho
theorem step_quiet {i : Nat} {d : DOp} {o : Oper} (hbase : h0.next = base) (hgb : gBase ≤ base) (hlk : looksB (finP opsA.toList) opsA.toList opsA.toList (masksL opsA.toList []) = true) (r : Rdy P opsA listed i d o) (h3 : d.k ≠ 3)
    (hE : EInv P opsA.toList base n em D C s os) (hW : WInv P opsA.toList base n ρ0 h0 w0 df listed a w em D C s os ρ Hp) :
    wpOpIn (fw ro) m P opsA Q i (fun a' w' => ∃ ρ' Hp', WInv P opsA.toList base n ρ0 h0 w0 df (listed.setIfInBounds i true) a' w' em D C s os ρ' Hp') a w := by
  have hmask := r.mask hW.cl
  have hav := mask_avail hW.ef hmask
  have hdi := r.di
  have hD : tb D d.i = false := by
    cases hb : tb D d.i
    · rfl
    · exact absurd (hW.dl _ hb) (by rw [hdi]; exact r.no)
  obtain ⟨V, hV, hcase⟩ := hE.good d r.mem h3 hav hD
  have hlook := looks_sl hlk r.is hmask hW.sz2 hW.sl
  have hat : opsA.toList[i]? = some o := by simpa using r.at_
  have hdst : d.o.dst = o.dst := by rw [r.is.o, ko_dst]
  have hlen : ∀ x ∈ (planD P opsA.toList).dops, x.i < opsA.toList.length := fun x hx => by
    obtain ⟨o1, i1⟩ := plan_is hx
    exact (List.getElem?_eq_some_iff.1 i1.at_).1
  have hnew : ∀ ρ' Hp' v' w', Turn ρ0 h0 w0 ρ' Hp' w' → Ext ρ ρ' → VR ρ' V v' → Hp'.next = C.next → Hp'.rs = 0 →
      (∀ x ∈ (planD P opsA.toList).dops, x.k = 1 → Up (listed.setIfInBounds i true) x.i → tb D x.i = false → ∀ o, os.get x.i = some (some o) → Hp'.get (base + x.i) = some o) →
      (∀ b o, Hp'.get b = some o → C.get b = some o ∨ ∃ x ∈ (planD P opsA.toList).dops, x.k = 1 ∧ Up (listed.setIfInBounds i true) x.i ∧ tb D x.i = false ∧ b = base + x.i ∧ os.get x.i = some (some o)) →
      (∀ b o, C.get b = some o → Hp'.get b = some o) → (∀ x ∈ (planD P opsA.toList).dops, x.k = 1 → (¬ Up (listed.setIfInBounds i true) x.i ∨ ∀ o, os.get x.i ≠ some (some o)) → ρ' (base + x.i) = none) →
      WInv P opsA.toList base n ρ0 h0 w0 df (listed.setIfInBounds i true) (a.put o.dst v') w' em D C s os ρ' Hp' := by
    intro ρ' Hp' v' w' ht hx hv hnx hrs hin hout hC hfr
    refine ⟨by simpa using hW.sz, fun j hj => ?_, fun x hx3 hk3 => ?_, fun j hj => up_set (hW.dl j hj), hin, hout, hC, hW.cno, hnx, hrs, hW.crs, hfr, hW.low, ht, by rw [put_size]; exact hW.sz2,
      sl_put hW.sz2 hW.sl hat (fun t ht => hV t (by rw [hdst]; exact ht)) (fun _ _ => rfl) hx hv, by rw [put_df]; exact hW.df⟩
    · by_cases e : i = j
      · subst e
        exact fun o1 h1 e he hb => up_set (r.due o1 h1 e he hb)
      · exact fun o1 h1 e1 he hb => up_set (hW.cl j ((up_ne e).1 hj) o1 h1 e1 he hb)
    · have hne : i ≠ x.i := fun e => by
        have := plan_inj r.mem hx3 (hdi.trans e)
        subst this
        exact h3 hk3
      rw [up_ne hne]; exact hW.ef x hx3 hk3
  have hup : ∀ x ∈ (planD P opsA.toList).dops, x ≠ d → (Up (listed.setIfInBounds i true) x.i ↔ Up listed x.i) := fun x hx hne => up_ne fun e => hne (plan_inj hx r.mem (by rw [hdi, e]))
  unfold wpOpIn
  simp only [r.at_]
  have hwant := wanted_of r.is hlook
  rcases hcase with ⟨hw, hs, hp, hy⟩ | ⟨⟨g, v, hg, hv, hne⟩, rfl, hk⟩
  · have hsub := al_sub hW hmask hp
    obtain ⟨hnx, hrs⟩ := putsR_next hp
    have hop : d.o.op = opK P o.op := by
      rcases hy with ⟨_, _, _, e1, _⟩ | ⟨_, _, e1⟩ <;> (rw [r.is.o] at e1 ⊢; exact ko_op e1)
    have hwt : Region.wanted o (yielded opsA a.tmps) = true := by
      rcases hwant with e | ⟨_, _, ⟨_, h⟩ | ⟨g, hg, h⟩⟩
      · rcases hy with ⟨_, _, _, e1, _⟩ | ⟨_, _, e1⟩ <;> (rw [e] at e1; cases e1)
      · exact h
      · rcases hw with h1 | ⟨g', h1, h2⟩
        · rw [hg] at h1; cases h1
        · rw [hg] at h1; cases h1
          exact (h _ h2).1 rfl
    rw [if_pos hwt]
    have hrun : ∀ {X h' : Heap}, d.o.op.f s X = .val V h' → Sim ρ X w → (∀ ρ' v' w', Turn ρ X w ρ' h' w' → VR ρ' V v' → ∃ ρ2 Hp2, WInv P opsA.toList base n ρ0 h0 w0 df (listed.setIfInBounds i true) (a.put o.dst v') w' em D C s os ρ2 Hp2) →
        o.wpIn (fw ro) m P a w (fun a' w' => ∃ ρ' Hp', WInv P opsA.toList base n ρ0 h0 w0 df (listed.setIfInBounds i true) a' w' em D C s os ρ' Hp') Q := by
      intro X h' e1 hsim hk
      rw [hop] at e1
      have e2 : (opK P o.op).f (restr s (o.looksAt opsA)) X = .val V h' := by
        rcases opK_le (P := P) (h := X) o.op (sle_restr (s := s) (opsA := opsA) o) with h | h
        · rw [h] at e1; cases e1
        · rw [h]; exact e1
      refine wpIn_of_upon (fun c e => ?_) ?_
      · rw [opK_nodefer e] at e2; cases e2
      · have := opK_ok (P := P) hsim hlook o
        rw [e2] at this
        obtain ⟨ρ', v', w', hr, hT, hv⟩ := this
        rw [hr]
        exact hk ρ' v' w' hT hv
    rcases hy with ⟨hk, h', O, e1, e2, e3⟩ | ⟨hk, h', e1⟩
    ·
      have hil : base + d.i < C.next := by have := hW.low; have := hlen d r.mem; omega
      have hlays := kind1 (P := P) (s := s) (op := o.op) (by rw [← (r.is.kind h3).2]; exact hk)
      have hpos := gBase_pos
      have hXr : (hs.at (base + d.i)).rs = base + d.i := Heap.rs_at _ _
      have hXn : (hs.at (base + d.i)).next = C.next := (Heap.next_at _ _).trans hnx
      have hXnx : (hs.at (base + d.i)).nx = base + d.i := by rw [Heap.nx_eq, hXr, if_neg (by omega)]
      have hXs : ∀ b o, (hs.at (base + d.i)).get b = some o → Hp.get b = some o := fun b o hb => hsub b o (by rw [Heap.get_at] at hb; exact hb)
      obtain ⟨O', g1, _⟩ := hlays (hs.at (base + d.i)) V h' (by rw [hXr]; omega) (by rw [← hop]; exact e1)
      have hOO : O' = O := by
        rw [g1, Heap.get_new, if_pos hXnx.symm] at e2
        cases e2; rfl
      subst hOO
      have hCn : C.get (base + d.i) = none := hW.cno d r.mem hk hD
      have hfree : ρ (base + d.i) = none := hW.fr d r.mem hk (.inl (by rw [hdi]; exact r.no))
      refine hrun e1 (hW.t.sim.sub hXs (hXn.trans hW.nx.symm) fun _ => by rw [hXr]; exact ⟨by omega, by rw [hW.nx]; exact hil, hfree⟩) ?_
      intro ρ' v' w' hT hv
      subst g1
      have hnn : ((hs.at (base + d.i)).new O').next = C.next := by rw [Heap.next_new, hXr, if_neg (by omega)]; exact hXn
      refine ⟨ρ', Hp.set (base + d.i) O', hnew ρ' _ v' w' ?_ hT.agree hv hW.nx hW.rs ?_ ?_ ?_ ?_⟩
      · refine Turn.onto hW.t hT hXs (Nat.le_refl _) (by rw [hnn, Heap.next_set, hW.nx]; exact Nat.le_refl _) (fun b o1 hb => ?_) (fun b hb => by rw [Heap.get_set, if_neg (by omega)]) (.inr (by rw [hXr, hbase]; omega)) hW.rs (by rw [hXn, ← hW.nx]; exact hW.t.next)
        rw [Heap.get_set] at hb
        by_cases e : b = base + d.i
        · rw [if_pos e] at hb; cases hb
          exact .inl (by rw [Heap.get_new, if_pos (e.trans hXnx.symm)])
        · rw [if_neg e] at hb
          rcases sub_get hXs hb with h | h
          · exact .inl (by rw [Heap.get_new, if_neg (fun e1 => e (e1.trans hXnx))]; exact h)
          · exact .inr ⟨h, hb⟩
      · intro x hx hk1 hu hD1 o1 ho1
        rw [Heap.get_set]
        by_cases e : x = d
        · subst e
          rw [if_pos rfl]
          rw [e3] at ho1; cases ho1; rfl
        · rw [if_neg (fun e1 => e (plan_inj hx r.mem (by omega)))]
          exact hW.hpIn x hx hk1 ((hup x hx e).1 hu) hD1 o1 ho1
      · intro b o1 hb
        rw [Heap.get_set] at hb
        by_cases e : b = base + d.i
        · rw [if_pos e] at hb; cases hb
          exact .inr ⟨d, r.mem, hk, by rw [hdi]; exact up_self r.lt, hD, e, e3⟩
        · rw [if_neg e] at hb
          rcases hW.hpOut b o1 hb with h | ⟨x, hx, k1, k2, k3, k4, k5⟩
          · exact .inl h
          · exact .inr ⟨x, hx, k1, up_set k2, k3, k4, k5⟩
      · intro b o1 hb
        rw [Heap.get_set, if_neg (fun e => by rw [e, hCn] at hb; cases hb)]
        exact hW.hpC b o1 hb
      · intro x hx hk1 hu
        by_cases e : x = d
        · subst e
          rcases hu with h | h
          · exact absurd (by rw [hdi]; exact up_self r.lt) h
          · exact absurd e3 (h O')
        · refine hT.low _ (by omega) (by rw [hXn]; have := hW.low; have := hlen x hx; omega) (by rw [hXr]; exact fun e1 => e (plan_inj hx r.mem (by omega))) (hW.fr x hx hk1 ?_)
          rcases hu with h | h
          · exact .inl fun hu => h (up_set hu)
          · exact .inr h
    ·
      have hh : h' = hs := by
        rcases kindS_cases P o.op with hk0 | hk0 | hk0 | hk0
        · exact (kind0 (P := P) (s := s) hk0 hs hs V h' (fun _ _ => rfl) (by rw [← hop]; exact e1)).1
        · exact absurd ((r.is.kind h3).2.trans hk0) hk
        · exact kind2 (P := P) (s := s) hk0 hs V h' (by rw [← hop]; exact e1)
        · exact absurd ((r.is.kind h3).2.trans hk0) h3
      subst hh
      have hs0 : h'.rs = 0 := hrs.trans hW.crs
      refine hrun e1 (hW.t.sim.sub hsub (hnx.trans hW.nx.symm) fun h => absurd hs0 h) ?_
      intro ρ' v' w' hT hv
      have hpos := gBase_pos
      refine ⟨ρ', Hp, hnew ρ' _ v' w' ?_ hT.agree hv hW.nx hW.rs ?_ ?_ hW.hpC ?_⟩
      · refine Turn.onto hW.t hT hsub (Nat.le_refl _) (by rw [hnx, hW.nx]; exact Nat.le_refl _) (fun b o1 hb => ?_) (fun _ _ => rfl) (.inl hs0) hW.rs (by rw [hnx, ← hW.nx]; exact hW.t.next)
        rcases sub_get hsub hb with h | h
        · exact .inl h
        · exact .inr ⟨h, hb⟩
      · intro x hx hk1 hu hD1 o1 ho1
        exact hW.hpIn x hx hk1 ((hup x hx fun e => hk (e ▸ hk1)).1 hu) hD1 o1 ho1
      · intro b o1 hb
        rcases hW.hpOut b o1 hb with h | ⟨x, hx, k1, k2, k3, k4, k5⟩
        · exact .inl h
        · exact .inr ⟨x, hx, k1, up_set k2, k3, k4, k5⟩
      · intro x hx hk1 hu
        refine hT.low _ (by omega) (by rw [hnx]; have := hW.low; have := hlen x hx; omega) (by omega) (hW.fr x hx hk1 ?_)
        rcases hu with h | h
        · exact .inl fun hu => h (up_set hu)
        · exact .inr h
  ·
    have hwt : ¬ Region.wanted o (yielded opsA a.tmps) = true := by
      rcases hwant with e | ⟨_, _, ⟨h1, _⟩ | ⟨g', hg', h⟩⟩
      · rw [e] at hg; cases hg
      · rw [hg] at h1; cases h1
      · rw [hg] at hg'; cases hg'
        exact (h v hv).2 hne
    rw [if_neg hwt]
    refine ⟨fun _ _ => trivial, ρ, Hp, hnew ρ Hp undef w hW.t (fun _ _ h => h) (.tuple .nil) hW.nx hW.rs ?_ ?_ hW.hpC ?_⟩
    · intro x hx hk1 hu hD1 o1 ho1
      by_cases e : x = d
      · subst e; rw [hk hk1] at ho1; cases ho1
      · exact hW.hpIn x hx hk1 ((hup x hx e).1 hu) hD1 o1 ho1
    · intro b o1 hb
      rcases hW.hpOut b o1 hb with h | ⟨x, hx, k1, k2, k3, k4, k5⟩
      · exact .inl h
      · exact .inr ⟨x, hx, k1, up_set k2, k3, k4, k5⟩
    · intro x hx hk1 hu
      refine hW.fr x hx hk1 ?_
      rcases hu with h | h
      · exact .inl fun hu => h (up_set hu)
      · exact .inr h
end
end Go.Ev
