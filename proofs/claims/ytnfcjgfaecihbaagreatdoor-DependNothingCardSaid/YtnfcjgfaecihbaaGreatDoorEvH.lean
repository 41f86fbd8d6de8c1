/- EvH: append and copy, whole. -/
import Derived.Test.YtnfcjgfaecihbaaGreatDoorEvG
set_option linter.unusedVariables false
set_option linter.unusedSimpArgs false
set_option linter.unusedSectionVars false
set_option linter.constructorNameAsVariable false
namespace Go.Ev
open Go
section
variable {P : Program} {ρ : Ren} {h : Heap} {w : World}
theorem run_append_nil {sT xt : TypeId} {x' : Value} {e : TypeId} {k n by_ : Nat} {z0 : Value} {new new' : List Value} {ts : List TypeId} (A : AppR P sT xt e k by_ z0 ts) (N : NewR P ρ w xt x' k n (cellsOf z0) new new')
    (ty : TypeId) (hn0 : n = 0) : (Builtin.append_ ⟨ts⟩ ty ⟨[.slice none 0 0, x']⟩).run P w = .ok (.slice none 0 0) w := by
  obtain ⟨u, hts⟩ := A.ts
  subst hts
  subst hn0
  unfold Builtin.append_
  simp only [List.getElem?_toArray, List.getElem?_cons_zero, List.getElem?_cons_succ, Sem.run_bind, und_run A.hu w, Result.andThen_ok, sizeT_run A.hk w]
  cases N with
  | made kk hu hx hn hnew vr len =>
    subst hx
    have w1 : IntKind.i64.wrap (Int.ofNat 0) = Int.ofNat 0 := wrap_small .i64 0 (by decide)
    have h0 : ¬ (Int.ofNat 0 < 0) := by simp
    have hm1 : ¬ (Int.ofNat 0 * (A.inf.bytes : Int) > 2 ^ 48) := by simp
    have htn : (Int.ofNat 0).toNat = 0 := rfl
    have hz : 0 * k = 0 := Nat.zero_mul k
    simp only [und_run hu w, Result.andThen_ok, Sem.run_pure, if_true, Sem.run_bind, asInt, asIntOf, w1, h0, if_false, A.hti w, hm1, htn, Nat.add_zero, Nat.le_refl, Bool.not_true, Bool.false_eq_true, hz]
  | copied d hd hu hn hc vr len =>
    have hcw := hc w rfl
    cases d <;> first
      | exact absurd rfl (hd _)
      | simp only [und_run hu w, Result.andThen_ok, Sem.run_pure, Bool.false_eq_true, if_false, Sem.run_bind, hn, Nat.add_zero, Nat.le_refl, if_true, Bool.not_false, hcw]
theorem oneL_right : ∀ (a : List Value) {b : List Value}, oneL (a ++ b) = true → oneL b = true
  | [], _, e => e
  | x :: a, _, e => by simp only [List.cons_append, oneL, Bool.and_eq_true] at e; exact oneL_right a e.2
theorem NewR.vr {xt : TypeId} {x' : Value} {k n : Nat} {z new new' : List Value} (N : NewR P ρ w xt x' k n z new new') : VRL ρ new new' ∧ new.length = n * k := by
  cases N with
  | made _ _ _ _ _ vr len => exact ⟨vr, len⟩
  | copied _ _ _ _ _ vr len => exact ⟨vr, len⟩
theorem appendV_ok (hs : Sim ρ h w) {sT xt : TypeId} {s s' x' : Value} {e : TypeId} {k n by_ : Nat} {z0 : Value} {new new' : List Value} {ts : List TypeId} (A : AppR P sT xt e k by_ z0 ts) (N : NewR P ρ w xt x' k n (cellsOf z0) new new')
    (ty : TypeId) (hx : VR ρ s s') : VSpec ρ h w (appendV h k n new e s) ((Builtin.append_ ⟨ts⟩ ty ⟨[s', x']⟩).run P w) := by
  obtain ⟨hvr, hnl⟩ := N.vr
  have hnl' := hvr.length
  unfold appendV
  split
  · have := slice0_inv hx; subst this
    cases hb : Nat.beq n 0 with
    | true => exact .same hs (run_append_nil A N ty (Nat.eq_of_beq_eq_true hb)) (.slice0 0 0)
    | false =>
      simp only [cond_false]
      cases hb2 : Nat.ble n 1000000 with
      | false => trivial
      | true =>
        simp only [cond_true]
        have hn0 : n ≠ 0 := fun e => by rw [e] at hb; cases hb
        obtain ⟨q, hq, hrun⟩ := run_append_new A N ty (base := none) (len := 0) (cap := 0) (by omega) (by have := Nat.le_of_ble_eq_true hb2; omega) (old' := []) rfl
        rw [Nat.zero_add] at hq hrun
        rw [List.nil_append] at hrun
        refine newOpen0_ok (w1 := drawn1 w) hs hvr hq ?_ rfl rfl rfl rfl hrun
        rw [repeatL_length, A.hzl, hnl', hnl, ← Nat.add_mul]
        congr 1; omega
  · rename_i a len cap
    rw [fN_eq]
    have hadd : Nat.add len n = len + n := rfl
    rw [hadd]
    obtain ⟨b, off, r, cap', ha, hr, hs', hcap⟩ : ∃ b off r cap', a = ⟨b, off, none⟩ ∧ ρ b = some r ∧ s' = .slice (some ⟨r.id, off, none⟩) len cap' ∧ ((cap < many ∧ cap' = cap) ∨ (∃ c, cap = many + c ∧ c ≤ cap' ∧ off + cap' * r.k ≤ r.size)) := by
      cases hx with
      | slice off len cap h hc => exact ⟨_, _, _, _, rfl, h, rfl, .inl ⟨hc, rfl⟩⟩
      | sliceO off len c c' h hc hs => exact ⟨_, _, _, _, rfl, h, rfl, .inr ⟨c, rfl, hc, hs⟩⟩
    subst ha hs'
    cases hfit : Nat.ble (len + n) (bif Nat.ble many cap then Nat.sub cap many else cap) with
    | true =>
      simp only [cond_true]
      have hfit' := Nat.le_of_ble_eq_true hfit
      refine appendIn_ok (P := P) hs hr rfl hcap rfl hfit' hvr hnl fun w' hst => ?_
      refine run_append_in A N ty ?_ hst
      rcases hcap with ⟨h1, rfl⟩ | ⟨c, rfl, h2, h3⟩
      · cases hm : Nat.ble many cap' with
        | true => have := Nat.le_of_ble_eq_true hm; omega
        | false => rw [hm] at hfit'; exact hfit'
      · have hm : Nat.ble many (many + c) = true := Nat.ble_eq_true_of_le (Nat.le_add_right _ _)
        have hsub : Nat.sub (many + c) many = c := Nat.add_sub_cancel_left many c
        rw [hm, cond_true, hsub] at hfit'
        omega
    | false =>
      simp only [cond_false]
      have hnot : ¬ (len + n ≤ (bif Nat.ble many cap then Nat.sub cap many else cap)) := fun hle => by rw [Nat.ble_eq_true_of_le hle] at hfit; cases hfit
      cases hb2 : Nat.ble (len + n) 1000000 with
      | false => trivial
      | true =>
        simp only [cond_true]
        have hle6 := Nat.le_of_ble_eq_true hb2
        split
        · rename_i old hold
          rw [fL_eq]
          obtain ⟨old', ho1, ho2⟩ := firstS_ok (P := P) hs hx hold
          have hol : old.length = len * k := by
            unfold firstS at hold
            simp only [] at hold
            split at hold
            · obtain ⟨g1, rfl⟩ := tk_some hold
              rw [List.length_take]
              have : Nat.mul len k = len * k := rfl
              omega
            · cases hold
          have hol' := ho1.length
          have hlens : ∀ q, len + n ≤ q → (old' ++ new').length + (repeatL (cellsOf z0) (q - (len + n))).length = q * k := fun q hq => by
            rw [List.length_append, repeatL_length, A.hzl, hnl', hnl, hol', hol, ← Nat.add_mul, ← Nat.add_mul]
            congr 1; omega
          unfold appendNew
          rcases hcap with ⟨h1, rfl⟩ | ⟨c, rfl, h2, h3⟩
          · cases hm : Nat.ble many cap' with
            | true => have := Nat.le_of_ble_eq_true hm; omega
            | false =>
              simp only [cond_false]
              rw [hm, cond_false] at hnot
              obtain ⟨q, hq, hrun⟩ := run_append_new A N ty (base := some ⟨r.id, off, none⟩) hnot hle6 (ho2 (drawn1 w) rfl)
              rw [← List.append_assoc] at hrun
              exact newOpen0_ok (w1 := drawn1 w) hs (ho1.append hvr) hq (hlens q hq) rfl rfl rfl rfl hrun
          · have hm : Nat.ble many (many + c) = true := Nat.ble_eq_true_of_le (Nat.le_add_right _ _)
            have hsub : Nat.sub (many + c) many = c := Nat.add_sub_cancel_left many c
            rw [hm, cond_true, hsub] at hnot
            rw [hm]
            simp only [cond_true]
            split
            · rename_i b0 heq
              cases heq
              split
              · rename_i c0 n0 o0 el hg
                cases hb3 : (Nat.beq o0 (Nat.succ k) && Nat.ble gBase b && Nat.beq el e && oneL (old ++ new)) with
                | false => trivial
                | true =>
                  simp only [cond_true]
                  simp only [Bool.and_eq_true] at hb3
                  have hgb := Nat.le_of_ble_eq_true hb3.1.1.2
                  have hel : el = e := Nat.eq_of_beq_eq_true hb3.1.2
                  subst hel
                  obtain ⟨l, m, lo, hi, L⟩ := hs.cells hg hr
                  have hrk : r.k = k := L.k k (Nat.eq_of_beq_eq_true hb3.1.1.1)
                  by_cases hreal : len + n ≤ cap'
                  ·
                    have hcl := L.vr.length
                    have hold2 : old = c0.take (len * k) := by
                      unfold firstS at hold
                      simp only [hg] at hold
                      obtain ⟨g1, g2⟩ := tk_some hold
                      rw [g2, drp_eq]; rfl
                    have hlk : len * k ≤ c0.length := by
                      rw [hold2, List.length_take] at hol; omega
                    have hsz : len * k + n * k ≤ l.length + m.length := by
                      have h4 : (len + n) * k ≤ cap' * k := Nat.mul_le_mul_right k hreal
                      rw [Nat.add_mul] at h4
                      rw [hrk] at h3
                      rw [← L.size]; omega
                    have h1 : oneL new = true := oneL_right old hb3.2
                    have hst := L.store (P := P) (p := len * k) (xs := new') (by rw [hnl', hnl]; exact hsz) (hvr.oneL h1)
                    have hrun := run_append_in A N ty (a := ⟨r.id, 0, none⟩) hreal (by rw [add_addr, Nat.zero_add]; exact hst)
                    obtain ⟨ρ', g1, g2⟩ := renamed hs L hg hr hgb (c2 := old ++ new) (l2 := l.take (len * k) ++ new') (m2 := (l ++ m).drop (len * k + new'.length)) hrk (by rw [hold2]; exact (L.vr.take _).append hvr) (by simp; omega)
                    have hrow : (l ++ m).take (len * k) ++ new' ++ (l ++ m).drop (len * k + new'.length) = l.take (len * k) ++ new' ++ (l ++ m).drop (len * k + new'.length) := by
                      rw [List.take_append_of_le_length (by omega)]
                    rw [hrow] at hrun
                    unfold newOpen
                    rw [fN_eq, fN_eq, fN_eq, newB_eq]
                    exact ⟨ρ', _, _, hrun, g2, .sliceO 0 _ _ cap' g1 hreal h3⟩
                  · obtain ⟨q, hq, hrun⟩ := run_append_new A N ty (base := some ⟨r.id, 0, none⟩) hreal hle6 (ho2 (drawn1 w) rfl)
                    rw [← List.append_assoc] at hrun
                    have ht := Turn.drop hs b hgb
                    exact .trans ht (newOpen0_ok (w1 := drawn1 w) ht.sim (ho1.append hvr) hq (hlens q hq) rfl rfl rfl rfl hrun)
              · trivial
            · trivial
        · trivial
  · trivial
theorem append_ok (hs : Sim ρ h w) (sT : TypeId) (u : List TypeId) (ty : TypeId) {s s' x x' : Value} (hx : VR ρ s s') (hy : VR ρ x x') :
    VSpec ρ h w (appendS P sT u.head? s x h) ((Builtin.append_ ⟨sT :: u⟩ ty ⟨[s', x']⟩).run P w) := by
  unfold appendS
  split
  · rename_i e hu
    split
    · rename_i k z by_ hz hby
      cases hb : (Nat.ble by_ 1000000 && Nat.ble 1 by_) with
      | false => trivial
      | true =>
        simp only [cond_true]
        simp only [Bool.and_eq_true] at hb
        split
        · rename_i n new hnew
          obtain ⟨xt, new', hxt, N⟩ := newS_ok (P := P) hs hy hz hnew
          obtain ⟨z0, hz0, hk, rfl, hzl, hzf⟩ := zcells_run hz
          obtain ⟨inf, hinf, hbeq, hti⟩ := bytesT_run hby
          obtain ⟨u', rfl⟩ : ∃ u', u = xt :: u' := by
            cases u with
            | nil => cases hxt
            | cons y u' => exact ⟨u', by simp at hxt; rw [hxt]⟩
          exact appendV_ok hs ⟨⟨u', rfl⟩, hu, hk, fun w => (zeroT_run hz0 w).1, hzl, inf, hti, hbeq, Nat.le_of_ble_eq_true hb.1⟩ N ty hx
        · trivial
    · trivial
  · trivial
theorem copy_ok (hs : Sim ρ h w) (dT : TypeId) (u : List TypeId) (ty : TypeId) {d d' x x' : Value} (hd : VR ρ d d') (hx : VR ρ x x') :
    VSpec ρ h w (copyS P dT d x h) ((Builtin.copy_ ⟨dT :: u⟩ ty ⟨[d', x']⟩).run P w) := by
  unfold copyS
  split
  · rename_i e base dl dc hu
    split
    · rename_i k n0 hk hn0
      rw [fN_eq]
      have hn0' := lenS_ok (P := P) hx hn0 w
      have hmin : (bif Nat.ble n0 dl then n0 else dl) = Nat.min n0 dl := by
        cases hb : Nat.ble n0 dl with
        | true => simp [Nat.min_eq_left (Nat.le_of_ble_eq_true hb)]
        | false =>
          have : ¬ n0 ≤ dl := fun hle => by rw [Nat.ble_eq_true_of_le hle] at hb; cases hb
          simp [Nat.min_eq_right (show dl ≤ n0 by omega)]
      rw [hmin]
      split
      · trivial
      · rename_i l hl
        obtain ⟨l', h1, h2⟩ := firstS_ok (P := P) hs hx hl
        have hfw := h2 w rfl
        cases ho : oneL l with
        | false => trivial
        | true =>
          simp only [cond_true]
          split
          · have := slice0_inv hd; subst this
            refine .same hs ?_ (.int _ _)
            unfold Builtin.copy_
            simp only [List.getElem?_toArray, List.getElem?_cons_zero, List.getElem?_cons_succ, Sem.run_bind, und_run hu w, Result.andThen_ok, hn0', sizeT_run hk w, hfw, Sem.run_pure]
            rfl
          · rename_i b off
            split
            · rename_i c m o el hg
              split
              · rename_i c2 hov
                refine .ob fun h' ht => ?_
                obtain ⟨r, cap', hr, rfl, _⟩ := slice_inv hd
                obtain ⟨l1, mm, lo, hi, L⟩ := hs.cells hg hr
                obtain ⟨w', g1, g2⟩ := L.write (P := P) hs hg hr h1 hov ho ht
                refine ⟨ρ, _, w', ?_, g2, .int _ _⟩
                unfold Builtin.copy_
                simp only [List.getElem?_toArray, List.getElem?_cons_zero, List.getElem?_cons_succ, Sem.run_bind, und_run hu w, Result.andThen_ok, hn0', sizeT_run hk w, hfw, Sem.run_pure, g1]
                rfl
              · trivial
            · trivial
          · trivial
    · trivial
  · trivial
theorem map_inv {b : Nat} {v' : Value} (hv : VR ρ (.map (some b)) v') : ∃ r, ρ b = some r ∧ v' = .map (some r.id) := by cases hv with | map h => exact ⟨_, h, rfl⟩
theorem map0_inv {v' : Value} (hv : VR ρ (.map none) v') : v' = .map none := by cases hv; rfl
theorem Sim.map (hs : Sim ρ h w) {b : Nat} {es : List MapEntry} {clock : Nat} {r : RB} (hb : h.get b = some (.map es clock)) (hr : ρ b = some r) :
    ∃ es', w.heap[r.id]? = some (.map ⟨es'⟩ clock) ∧ ER ρ es es' := by
  obtain ⟨r', o', h1, h2, h3⟩ := hs.obj b _ hb
  rw [h1] at hr; cases hr
  cases h3 with
  | map clock h => exact ⟨_, h2, h⟩
theorem ER.length {es es' : List MapEntry} (h : ER ρ es es') : es'.length = es.length := by induction h <;> simp_all
theorem run_getObj_of {r : Nat} {o : Obj} (hr : w.heap[r]? = some o) (hc : ∀ c e f, o ≠ .cells c e f) : (getObj r).run P w = .ok o w := by
  cases o <;> first | exact absurd rfl (hc _ _ _) | simp [getObj, Sem.run, hr]
theorem run_setObj_of {r : Nat} {o : Obj} (o' : Obj) (hr : w.heap[r]? = some o) (hc : ∀ c e f, o ≠ .cells c e f) : (setObj r o').run P w = .ok () { w with heap := w.heap.setIfInBounds r o' } := by
  cases o <;> first | exact absurd rfl (hc _ _ _) | simp [setObj, Sem.run, hr]
theorem Turn.obj (hs : Sim ρ h w) {b : Nat} {o1 : Ob} {r : RB} (hb : h.get b = some o1) (hr : ρ b = some r) {o : Ob} {o' : Obj} (ho : ObR ρ r o o') {h' : Heap} (ht : h.turn b o = some h') :
    Turn ρ h w ρ h' { w with heap := w.heap.setIfInBounds r.id o' } := by
  obtain ⟨hg, rfl⟩ := turn_some ht
  obtain ⟨r1, o2, h1, h2, _⟩ := hs.obj b _ hb
  rw [hr] at h1; cases h1
  have hlt : r.id < w.heap.size := (Array.getElem?_eq_some_iff.1 h2).1
  exact Turn.write hs hb hr hg o o' _ ho rfl rfl rfl (by simp) (by simp [hlt]) (fun k hk => by simp [Array.getElem?_setIfInBounds_ne (Ne.symm hk)])
theorem lenB_ok (hs : Sim ρ h w) (t : TypeId) (u : List TypeId) (ty : TypeId) {x x' v : Value} (hx : VR ρ x x') (e : lenB P t x h = some v) : (Builtin.len_ ⟨t :: u⟩ ty ⟨[x']⟩).run P w = .ok v w ∧ flat v = true := by
  unfold lenB at e
  split at e
  · rename_i l hu
    rw [fN_eq] at e; cases e
    have := str_inv hx; subst this
    exact ⟨by simp [Builtin.len_, underlying, hu, goInt]; rfl, rfl⟩
  · rename_i n el hu; cases e; exact ⟨by simp [Builtin.len_, underlying, hu, goInt], rfl⟩
  · rename_i el b n cap hu; cases e
    refine ⟨?_, rfl⟩
    cases hx <;> simp [Builtin.len_, underlying, hu, goInt]
  · rename_i a hu
    split at e
    · rename_i n el hu2; cases e; exact ⟨by simp [Builtin.len_, underlying, hu, hu2, goInt], rfl⟩
    · cases e
  · rename_i k1 el hu; cases e
    have := map0_inv hx; subst this
    exact ⟨by simp [Builtin.len_, underlying, hu, goInt], rfl⟩
  · rename_i k1 el r0 hu
    split at e
    · rename_i es clock hg
      rw [fN_eq] at e; cases e
      obtain ⟨r, hr, rfl⟩ := map_inv hx
      obtain ⟨es', h1, h2⟩ := hs.map hg hr
      refine ⟨?_, rfl⟩
      simp [Builtin.len_, underlying, hu, run_getObj_of h1 (by simp), goInt, h2.length]
    · cases e
  · cases e
theorem capB_ok (t : TypeId) (u : List TypeId) (ty : TypeId) {x x' v : Value} (hx : VR ρ x x') (e : capB P t x = some v) : (Builtin.cap_ ⟨t :: u⟩ ty ⟨[x']⟩).run P w = .ok v w ∧ flat v = true := by
  unfold capB at e
  split at e
  · rename_i el b n cap hu
    cases hb : Nat.ble many cap with
    | true => simp [hb] at e
    | false =>
      simp only [hb, cond_false, Option.some.injEq] at e
      subst e
      have hlt : ¬ many ≤ cap := fun hle => by rw [Nat.ble_eq_true_of_le hle] at hb; cases hb
      refine ⟨?_, rfl⟩
      cases hx with
      | slice0 => simp [Builtin.cap_, underlying, hu, goInt]
      | slice off len cap h hc => simp [Builtin.cap_, underlying, hu, goInt]
      | sliceO off len c c' h hc hs => exact absurd (Nat.le_add_right _ _) hlt
  · cases e
end
end Go.Ev
