/- EvE: operations, one by one (slices, maps, append, conversions). -/
import Derived.Test.YtnfcjgfaecihbaaGreatDoorEvC
set_option linter.unusedVariables false
set_option linter.unusedSimpArgs false
set_option linter.unusedSectionVars false
set_option linter.constructorNameAsVariable false
namespace Go.Ev
open Go
section
variable {P : Program} {ρ : Ren} {h : Heap} {w : World}
theorem slice0_inv {n m : Nat} {v' : Value} (hv : VR ρ (.slice none n m) v') : v' = .slice none n m := by cases hv; rfl
abbrev ORel (ρ : Ren) (x x' : Option Value) : Prop := (x = none ∧ x' = none) ∨ ∃ v v', x = some v ∧ x' = some v' ∧ VR ρ v v'
theorem bnds_some {lo hi mx lo' hi' mx' : Option Value} (hlo : ORel ρ lo lo') (hhi : ORel ρ hi hi') (hmx : ORel ρ mx mx') {len cap : Nat} {K : Nat → Nat → Nat → Option Value} {v : Value} (e : bnds lo hi mx len cap K = some v) :
    ∃ l hh m, K l hh m = some v ∧ l ≤ hh ∧ hh ≤ m ∧ m ≤ cap ∧ (mx' ≠ none → hi' ≠ none) ∧
      ((lo' = none ∧ l = 0) ∨ ∃ k, lo' = some (.int k (.ofNat l))) ∧ ((hi' = none ∧ hh = len) ∨ ∃ k, hi' = some (.int k (.ofNat hh))) ∧ ((mx' = none ∧ m = cap) ∨ ∃ k, mx' = some (.int k (.ofNat m))) := by
  unfold bnds at e
  split at e
  · rename_i l hh m h1 h2 h3
    cases hc : (Nat.ble l hh && Nat.ble hh m && Nat.ble m cap && (mx.isNone || hi.isSome)) with
    | false => simp [hc] at e
    | true =>
      simp only [hc, cond_true] at e
      simp only [Bool.and_eq_true, Bool.or_eq_true] at hc
      obtain ⟨⟨⟨c1, c2⟩, c3⟩, c4⟩ := hc
      refine ⟨l, hh, m, e, Nat.le_of_ble_eq_true c1, Nat.le_of_ble_eq_true c2, Nat.le_of_ble_eq_true c3, ?_, bound_ok hlo h1, bound_ok hhi h2, bound_ok hmx h3⟩
      intro hn
      rcases c4 with c4 | c4
      · rcases hmx with ⟨_, h⟩ | ⟨_, _, h, _⟩
        · exact absurd h hn
        · rw [h] at c4; cases c4
      · rcases hhi with ⟨h, _⟩ | ⟨_, _, _, h, _⟩
        · rw [h] at c4; cases c4
        · rw [h]; simp
  · cases e
theorem opnS_k (hs : Sim ρ h w) {b k : Nat} {r : RB} (hr : ρ b = some r) (e : opnS h b k = true) : r.k = k := by
  unfold opnS at e
  split at e
  · rename_i c n o el hg
    obtain ⟨l, m, lo, hi, L⟩ := hs.cells hg hr
    exact L.k k (Nat.eq_of_beq_eq_true e)
  · cases e
theorem subAdd (M c a : Nat) (h : a ≤ c) : Nat.sub (M + c) a = M + (c - a) := Nat.add_sub_assoc h M
theorem mkSlice_ok {b off l hh m k : Nat} {r : RB} {v : Value} (hr : ρ b = some r) (hm : m < many) (e : mkSlice b off l hh m k = some v) :
    VR ρ v (.slice (some (if m = l then (⟨r.id, off, none⟩ : Addr) else (⟨r.id, off, none⟩ : Addr).add (l * k))) (hh - l) (m - l)) := by
  unfold mkSlice at e
  rw [fN_eq, fN_eq, fN_eq] at e
  cases e
  rw [add_addr]
  by_cases hml : m = l
  · subst hml
    simp only [Nat.beq_refl, cond_true, if_true]
    exact .slice _ _ _ hr (by show m - m < many; omega)
  · have hb : Nat.beq m l = false := by rw [Bool.eq_false_iff]; intro h; exact hml (Nat.eq_of_beq_eq_true h)
    simp only [hb, cond_false, if_neg hml]
    exact .slice _ _ _ hr (by show m - l < many; omega)
theorem sliceAt_ok (hs : Sim ρ h w) (t : TypeId) {x x' v : Value} {lo hi mx lo' hi' mx' : Option Value} (hx : VR ρ x x') (hlo : ORel ρ lo lo') (hhi : ORel ρ hi hi') (hmx : ORel ρ mx mx')
    (e : sliceS P t x lo hi mx h = some v) : ∃ v', (Instr.sliceAt t x' lo' hi' mx').run P w = .ok v' w ∧ VR ρ v v' := by
  unfold sliceS at e
  split at e
  ·
    rename_i hu
    have hund := und_run hu w
    split at e
    · rename_i l
      split at e
      · have hmx' : mx' = none := by rcases hmx with ⟨_, h⟩ | ⟨_, _, h, _⟩ <;> first | exact h | cases h
        subst hmx'
        obtain ⟨a, b, m, hK, h1, h2, h3, h4, g1, g2, g3⟩ := bnds_some hlo hhi hmx e
        rw [fL_eq] at hK
        cases hK
        have := str_inv hx; subst this
        refine ⟨.string ⟨⟨(l.drop a).take (b - a)⟩⟩, ?_, .string _⟩
        have hB := bounds_ok (P := P) (w := w) false (len := l.length) (cap := l.length) (m := l.length) g1 g2 (mx' := none) (.inl ⟨rfl, rfl⟩) h1 (by omega) (Nat.le_refl _) (by simp)
        have hsz : (⟨⟨l⟩⟩ : ByteArray).size = l.length := rfl
        have hex : (⟨⟨l⟩⟩ : ByteArray).extract a b = ⟨⟨(l.drop a).take (b - a)⟩⟩ := by
          apply ByteArray.ext
          rw [ByteArray.data_extract]
          apply Array.ext'
          simp [List.extract_eq_take_drop]
        simp only [Instr.sliceAt, Sem.run_bind, hund, Result.andThen_ok, Instr.slice, Option.isSome_none, Bool.false_eq_true, if_false, hsz, hB, Sem.run_pure, hex]
      · cases e
    · cases e
  ·
    rename_i el hu
    have hund := und_run hu w
    split at e
    · rename_i k hk
      have hsz := sizeT_run hk w
      split at e
      · obtain ⟨a, b, m, hK, h1, h2, h3, h4, g1, g2, g3⟩ := bnds_some hlo hhi hmx e
        cases hK
        have := slice0_inv hx; subst this
        refine ⟨.slice none 0 0, ?_, .slice0 _ _⟩
        have hB := bounds_ok (P := P) (w := w) true (len := 0) (cap := 0) g1 g2 g3 h1 h2 h3 h4
        have e0 : a = 0 := by omega
        have e1 : b = 0 := by omega
        have e2 : m = 0 := by omega
        subst e0 e1 e2
        simp only [Instr.sliceAt, Sem.run_bind, hund, Result.andThen_ok, Instr.slice, hB, hsz, Sem.run_pure, if_true]
      · rename_i b0 off len cap
        obtain ⟨r, cap', hr, rfl, hcap⟩ := slice_inv hx
        cases hmany : Nat.ble many cap with
        | true =>
          simp only [hmany, cond_true] at e
          have hle := Nat.le_of_ble_eq_true hmany
          rcases hcap with ⟨hc, _⟩ | ⟨c, rfl, hcc, hsz2⟩
          · omega
          · split at e
            · have hmx' : mx' = none := by rcases hmx with ⟨_, h⟩ | ⟨_, _, h, _⟩ <;> first | exact h | cases h
              subst hmx'
              obtain ⟨a, b, m, hK, h1, h2, h3, h4, g1, g2, g3⟩ := bnds_some hlo hhi hmx e
              have hsub : Nat.sub (many + c) many = c := by show many + c - many = c; omega
              rw [hsub] at h3
              have hB := bounds_ok (P := P) (w := w) true (len := len) (cap := cap') (m := cap') g1 g2 (mx' := none) (.inl ⟨rfl, rfl⟩) h1 (by omega) (Nat.le_refl _) (by simp)
              unfold openSlice at hK
              rw [hsub] at hK
              cases ha0 : Nat.beq a 0 with
              | true =>
                have : a = 0 := Nat.eq_of_beq_eq_true ha0
                subst this
                simp only [ha0, cond_true, Option.some.injEq] at hK
                subst hK
                refine ⟨.slice (some ⟨r.id, off, none⟩) b cap', ?_, .sliceO _ _ _ _ hr hcc hsz2⟩
                simp only [Instr.sliceAt, Sem.run_bind, hund, Result.andThen_ok, Instr.slice, hB, hsz, Sem.run_pure]
                simp [Addr.add]
              | false =>
                simp only [ha0, cond_false, fN_eq] at hK
                cases hb : (Nat.blt a c && opnS h b0 k) with
                | false => simp [hb] at hK
                | true =>
                  simp only [hb, cond_true, Option.some.injEq] at hK
                  subst hK
                  simp only [Bool.and_eq_true] at hb
                  have hac : a < c := by
                    have : a + 1 ≤ c := by simpa [Nat.blt] using hb.1
                    omega
                  have hrk : r.k = k := opnS_k hs hr hb.2
                  refine ⟨.slice (some ⟨r.id, off + a * k, none⟩) (b - a) (cap' - a), ?_, ?_⟩
                  · have hne : ¬ cap' = a := by omega
                    simp only [Instr.sliceAt, Sem.run_bind, hund, Result.andThen_ok, Instr.slice, hB, hsz, Sem.run_pure, if_neg hne, Option.map_some, add_addr]
                  · have hcap2 := subAdd many c a (Nat.le_of_lt hac)
                    rw [hcap2]
                    refine .sliceO _ _ _ _ hr (by omega) ?_
                    rw [hrk] at hsz2 ⊢
                    have hac' : a ≤ cap' := Nat.le_trans (Nat.le_of_lt hac) hcc
                    have : a * k + (cap' - a) * k = cap' * k := by rw [← Nat.add_mul, Nat.add_sub_cancel' hac']
                    show off + a * k + (cap' - a) * k ≤ r.size
                    omega
            · cases e
        | false =>
          simp only [hmany, cond_false] at e
          have hlt : ¬ many ≤ cap := fun h => by rw [Nat.ble_eq_true_of_le h] at hmany; cases hmany
          rcases hcap with ⟨hc, rfl⟩ | ⟨c, rfl, _⟩
          · obtain ⟨a, b, m, hK, h1, h2, h3, h4, g1, g2, g3⟩ := bnds_some hlo hhi hmx e
            have hB := bounds_ok (P := P) (w := w) true (len := len) (cap := cap') g1 g2 g3 h1 h2 h3 h4
            refine ⟨_, ?_, mkSlice_ok hr (by omega) hK⟩
            simp only [Instr.sliceAt, Sem.run_bind, hund, Result.andThen_ok, Instr.slice, hB, hsz, Sem.run_pure]
            split <;> rfl
          · omega
      · cases e
    · cases e
  ·
    rename_i n el hu
    have hund := und_run hu w
    split at e
    · rename_i k hk
      have hsz := sizeT_run hk w
      split at e
      · rename_i b0 off
        cases hmany : Nat.ble many n with
        | true => simp [hmany] at e
        | false =>
          simp only [hmany, cond_false] at e
          have hlt : ¬ many ≤ n := fun h => by rw [Nat.ble_eq_true_of_le h] at hmany; cases hmany
          obtain ⟨r, hr, rfl⟩ := ptr_inv hx
          obtain ⟨a, b, m, hK, h1, h2, h3, h4, g1, g2, g3⟩ := bnds_some hlo hhi hmx e
          have hB := bounds_ok (P := P) (w := w) false (len := n) (cap := n) g1 g2 g3 h1 h2 h3 h4
          refine ⟨_, ?_, mkSlice_ok hr (by omega) hK⟩
          simp only [Instr.sliceAt, Sem.run_bind, hund, Result.andThen_ok, Instr.sureAddr, hB, hsz, Sem.run_pure]
      · cases e
    · cases e
  · cases e
end
end Go.Ev
