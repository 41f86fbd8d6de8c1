/- EvF: operations, one by one (literals, make, append, copy). -/
import Derived.Test.YtnfcjgfaecihbaaGreatDoorEvE
set_option linter.unusedVariables false
set_option linter.unusedSimpArgs false
set_option linter.unusedSectionVars false
set_option linter.constructorNameAsVariable false
namespace Go.Ev
open Go
section
variable {P : Program} {ρ : Ren} {h : Heap} {w : World}
theorem fold_set (off : Nat) : ∀ (xs : List Value) (k : Nat) (l : List Value), off + k + xs.length ≤ l.length →
    (xs.zipIdx k).foldl (fun (cs : Array Value) (p : Value × Nat) => cs.setIfInBounds (off + p.2) p.1) ⟨l⟩ = ⟨l.take (off + k) ++ xs ++ l.drop (off + k + xs.length)⟩
  | [], k, l, _ => by simp
  | x :: xs, k, l, hl => by
    simp only [List.zipIdx_cons, List.foldl_cons, List.length_cons] at *
    have hset : (⟨l⟩ : Array Value).setIfInBounds (off + k) x = ⟨l.set (off + k) x⟩ := by
      rw [Array.setIfInBounds, dif_pos (show off + k < (⟨l⟩ : Array Value).size by simp; omega)]; rfl
    rw [hset, fold_set off xs (k + 1) (l.set (off + k) x) (by simp; omega)]
    congr 1
    have hlen : off + k < l.length := by omega
    have t1 : (l.set (off + k) x).take (off + (k + 1)) = l.take (off + k) ++ [x] := by
      rw [show off + (k + 1) = off + k + 1 by omega, List.take_add_one, List.take_set_of_le (Nat.le_refl _), List.getElem?_set_self hlen]; rfl
    have t2 : (l.set (off + k) x).drop (off + (k + 1) + xs.length) = l.drop (off + k + (xs.length + 1)) := by
      rw [List.drop_set_of_lt (by omega)]; congr 1; omega
    rw [t1, t2]; simp
theorem fill_ok (place place' : Nat → Option (Nat × Nat)) (hp : ∀ i, place i = place' i) : ∀ {ps ps' : List (Nat × Value)}, PR ρ ps ps' → ∀ {c c' r : List Value}, VRL ρ c c' → fillS place c ps = some r →
    ∃ r', Instr.fill place' ⟨c'⟩ ps' = some ⟨r'⟩ ∧ VRL ρ r r' := by
  intro ps ps' h
  induction h with
  | nil => intro c c' r hc e; simp [fillS] at e; subst e; exact ⟨c', rfl, hc⟩
  | cons hv _ ih =>
    rename_i i v v' l l' hl
    intro c c' r hc e
    simp only [fillS] at e
    cases hpl : place i with
    | none => simp [hpl] at e
    | some q =>
      obtain ⟨off, size⟩ := q
      simp only [hpl] at e
      cases hb : Nat.beq (cellsOf v).length size with
      | false => simp [hb] at e
      | true =>
        simp only [hb, cond_true] at e
        have hsz : (cellsOf v).length = size := Nat.eq_of_beq_eq_true hb
        split at e
        · rename_i c2 ho
          obtain ⟨hle, rfl⟩ := over_some ho
          have hl2 := hv.cells.length
          have hcl := hc.length
          have h2 := ih (((hc.take off).append hv.cells).append (hc.drop (off + (cellsOf v).length))) e
          obtain ⟨r', h3, h4⟩ := h2
          refine ⟨r', ?_, h4⟩
          have hcs : v'.cells.size = size := by rw [cells_eq]; show (cellsOf v').length = size; omega
          have hnot : ¬ (v'.cells.size ≠ size ∨ off + v'.cells.size > (⟨c'⟩ : Array Value).size) := by
            rw [hcs]; simp; omega
          have hfold : v'.cells.zipIdx.foldl (fun cs (c, j) => cs.setIfInBounds (off + j) c) (⟨c'⟩ : Array Value) = ⟨c'.take off ++ cellsOf v' ++ c'.drop (off + (cellsOf v).length)⟩ := by
            rw [cells_eq, ← Array.foldl_toList, Array.toList_zipIdx]
            have := fold_set off (cellsOf v') 0 c' (by omega)
            rw [Nat.add_zero, hl2] at this
            exact this
          unfold Instr.fill
          rw [← hp i, hpl]
          simp only [Bool.or_eq_true, decide_eq_true_eq, ne_eq]
          rw [if_neg (by simpa using hnot), hfold]
          exact h3
        · cases e
theorem nthP_eq : ∀ (i : Nat) (l : List (Nat × Nat)), nthP i l = l[i]?
  | _, [] => by simp [nthP]
  | 0, _ :: _ => rfl
  | i + 1, _ :: l => by simpa [nthP] using nthP_eq i l
theorem places_run : ∀ (l : List Field) {pl : List (Nat × Nat)}, placesL P l = some pl → (l.mapM (fun f => do pure (f.offset, ← sizeOf f.type) : Field → Sem (Nat × Nat))).run P w = .ok pl w
  | [], pl, e => by simp [placesL] at e; subst e; simp
  | f :: l, pl, e => by
    simp only [placesL] at e
    cases hk : sizeT P f.type with
    | none => simp [hk] at e
    | some k =>
      simp only [hk] at e
      cases hr : placesL P l with
      | none => simp [hr] at e
      | some r =>
        simp [hr] at e; subst e
        have ih := places_run l hr
        simp only [List.mapM_cons, Sem.run_bind, sizeT_run hk w, Result.andThen_ok, Sem.run_pure, ih]
theorem build_ok (t : TypeId) {ps ps' : List (Nat × Value)} (hps : PR ρ ps ps') {v : Value} (e : (buildS P t).f ps = some v) : ∃ v', (Instr.build t ⟨ps'⟩).run P w = .ok v' w ∧ VR ρ v v' := by
  unfold buildS at e
  split at e
  · simp at e
  · rename_i z hz
    obtain ⟨hz1, hz2⟩ := zeroT_run hz w
    have hzc : VRL ρ (cellsOf z) (cellsOf z) := VRL.of_flat (flatL_cells hz2)
    split at e
    · rename_i fs hu
      split at e
      · rename_i pl hpl
        simp only [aggO] at e
        split at e
        · rename_i c hc
          cases e
          obtain ⟨r', h1, h2⟩ := fill_ok (ρ := ρ) _ (fun i => (⟨pl⟩ : Array (Nat × Nat))[i]?) (fun i => by rw [nthP_eq]; simp) hps hzc hc
          refine ⟨.agg ⟨r'⟩, ?_, .agg h2⟩
          have hm : (fs.mapM (fun f => do pure (f.offset, ← sizeOf f.type) : Field → Sem (Nat × Nat))).run P w = .ok ⟨pl⟩ w := by
            rw [Array.mapM_eq_mapM_toList, Sem.run_map, places_run (w := w) _ hpl]
            rfl
          simp only [Instr.build, Sem.run_bind, hz1, Result.andThen_ok, und_run hu w, hm, cells_eq]
          simp only [h1]
          rfl
        · cases e
      · simp at e
    · rename_i n el hu
      split at e
      · rename_i k hk
        simp only [aggO] at e
        split at e
        · rename_i c hc
          cases e
          obtain ⟨r', h1, h2⟩ := fill_ok (ρ := ρ) _ (fun i => some (i * k, k)) (fun i => rfl) hps hzc hc
          refine ⟨.agg ⟨r'⟩, ?_, .agg h2⟩
          simp only [Instr.build, Sem.run_bind, hz1, Result.andThen_ok, und_run hu w, sizeT_run hk w, cells_eq]
          simp only [h1]
          rfl
        · cases e
      · simp at e
    · simp at e
theorem zcells_run {e : TypeId} {k : Nat} {z : List Value} (hz : zcells P e = some (k, z)) : ∃ z0, zeroT P e = some z0 ∧ sizeT P e = some k ∧ z = cellsOf z0 ∧ z.length = k ∧ flatL z = true := by
  unfold zcells at hz
  split at hz
  · rename_i k' z0 h1 h2
    cases hb : Nat.beq (cellsOf z0).length k' with
    | false => simp [hb] at hz
    | true =>
      simp only [hb, cond_true, Option.some.injEq, Prod.mk.injEq] at hz
      obtain ⟨rfl, rfl⟩ := hz
      refine ⟨z0, h2, h1, rfl, Nat.eq_of_beq_eq_true hb, flatL_cells ?_⟩
      unfold zeroT at h2
      split at h2
      · split at h2
        · rename_i z1 _
          cases hf : flat z1 with
          | false => simp [hf] at h2
          | true => simp [hf] at h2; subst h2; exact hf
        · cases h2
      · cases h2
  · cases hz
theorem repeatL_length (z : List Value) : ∀ n, (repeatL z n).length = n * z.length
  | 0 => by simp [repeatL]
  | n + 1 => by simp [repeatL, repeatL_length z n, Nat.succ_mul, Nat.add_comm]
theorem repeatL_get (z : List Value) : ∀ (n i : Nat), i < n * z.length → (repeatL z n)[i]? = z[i % z.length]?
  | 0, i, h => by simp at h
  | n + 1, i, h => by
    simp only [repeatL]
    have hz : 0 < z.length := by
      rcases Nat.eq_zero_or_pos z.length with h0 | h0
      · rw [h0] at h; simp at h
      · exact h0
    by_cases hi : i < z.length
    · rw [List.getElem?_append_left hi, Nat.mod_eq_of_lt hi]
    · have h' := h
      rw [Nat.succ_mul] at h'
      rw [List.getElem?_append_right (by omega), repeatL_get z n (i - z.length) (by omega), (Nat.mod_eq_sub_mod (show i ≥ z.length by omega)).symm]
theorem repeat_eq (z : List Value) (n : Nat) : (Array.range (n * z.length)).map (fun i => (⟨z⟩ : Array Value)[i % z.length]!) = ⟨repeatL z n⟩ := by
  apply Array.ext'
  apply List.ext_getElem?
  intro i
  simp only [Array.toList_map, Array.toList_range, List.getElem?_map]
  by_cases hi : i < n * z.length
  · have hz : 0 < z.length := by
      rcases Nat.eq_zero_or_pos z.length with h0 | h0
      · rw [h0] at hi; simp at hi
      · exact h0
    rw [repeatL_get z n i hi, List.getElem?_range hi]
    have hm : i % z.length < z.length := Nat.mod_lt _ hz
    rw [List.getElem?_eq_getElem hm]
    simp [hm]
  · rw [List.getElem?_eq_none (by simp; omega), List.getElem?_eq_none (by rw [repeatL_length]; omega)]
    rfl
theorem range0 (f : Nat → Value) : (Array.range 0).map f = ⟨[]⟩ := by simp
theorem flat_repeat {z : List Value} (hz : flatL z = true) : ∀ n, flatL (repeatL z n) = true
  | 0 => rfl
  | n + 1 => by
    have app : ∀ (a b : List Value), flatL a = true → flatL b = true → flatL (a ++ b) = true := by
      intro a
      induction a with
      | nil => intro b _ h; exact h
      | cons x a ih => intro b h1 h2; simp only [List.cons_append, flatL, Bool.and_eq_true] at *; exact ⟨h1.1, ih b h1.2 h2⟩
    exact app _ _ hz (flat_repeat hz n)
theorem buildSlice_ok (hs : Sim ρ h w) (t : TypeId) (len : Nat) {ps ps' : List (Nat × Value)} (hps : PR ρ ps ps') : VSpec ρ h w (buildSliceS P t len ps h) ((Instr.buildSlice t len ⟨ps'⟩).run P w) := by
  unfold buildSliceS
  split
  · rename_i el hu
    split
    · rename_i k z hz
      obtain ⟨z0, hz0, hk, rfl, hzl, hzf⟩ := zcells_run hz
      obtain ⟨hz1, _⟩ := zeroT_run hz0 w
      cases hb : (Nat.ble (Nat.mul len k) 16777216 && Nat.ble len 16777216) with
      | false => trivial
      | true =>
        simp only [cond_true]
        simp only [Bool.and_eq_true] at hb
        have hle : len * k ≤ 16777216 := Nat.le_of_ble_eq_true hb.1
        have hlen : len < many := Nat.lt_of_le_of_lt (Nat.le_of_ble_eq_true hb.2) (by decide)
        refine .ob fun c hc => ?_
        rw [fN_eq]
        obtain ⟨r', h1, h2⟩ := fill_ok (ρ := ρ) _ (fun i => some (i * k, k)) (fun i => rfl) hps (VRL.of_flat (flat_repeat hzf len)) hc
        refine newBlock hs r'.length 0 _ _ (cellsNew h2 el _ rfl) fun ρ' g1 g2 => ⟨ρ', _, _, ?_, g2, .slice 0 len len g1 hlen⟩
        have hnot : ¬ (len * k > 2 ^ 24) := by omega
        have hrep := repeat_eq (cellsOf z0) len
        rw [hzl] at hrep
        by_cases h0 : len * k = 0
        · have hr0 : repeatL (cellsOf z0) len = [] := List.eq_nil_of_length_eq_zero (by rw [repeatL_length, hzl, h0])
          rw [hr0] at h1
          simp only [Instr.buildSlice, Sem.run_bind, und_run hu w, Result.andThen_ok, sizeT_run hk w, if_neg hnot, if_pos h0, Sem.run_pure]
          simp only [h0, range0, h1]
          simp [newRow]
        · simp only [Instr.buildSlice, Sem.run_bind, und_run hu w, Result.andThen_ok, sizeT_run hk w, if_neg hnot, if_neg h0, hz1, Sem.run_pure, cells_eq]
          rw [show (⟨cellsOf z0⟩ : Array Value).size = k from hzl, hrep]
          simp only [h1]
          simp [newRow]
    · trivial
  · trivial
theorem bytesT_run {t : TypeId} {b : Nat} (e : bytesT P t = some b) : ∃ i, P.info? t = some i ∧ i.bytes = b ∧ ∀ w, (typeInfo t).run P w = .ok i w := by
  unfold bytesT at e
  cases hi : P.info? t with
  | none => simp [hi] at e
  | some i => simp [hi] at e; exact ⟨i, rfl, e, fun w => by simp [typeInfo, hi]⟩
theorem makeSlice_ok (hs : Sim ρ h w) (t : TypeId) {l l' c c' : Value} (hl : VR ρ l l') (hc : VR ρ c c') : VSpec ρ h w (makeSliceS P t l c h) ((Instr.makeSlice t l' c').run P w) := by
  unfold makeSliceS
  split
  · rename_i el hu
    split
    · rename_i k z by_ hz hby
      obtain ⟨z0, hz0, hk, rfl, hzl, hzf⟩ := zcells_run hz
      obtain ⟨hz1, _⟩ := zeroT_run hz0 w
      obtain ⟨inf, hinf, hbeq, hti⟩ := bytesT_run hby
      split
      · rename_i ln cn h1 h2
        obtain ⟨kl, rfl⟩ := natOf_some h1
        obtain ⟨kc, rfl⟩ := natOf_some h2
        have := int_inv hl; subst this
        have := int_inv hc; subst this
        cases hb : (Nat.ble ln cn && Nat.ble cn 1000000 && Nat.ble by_ 1000000) with
        | false => trivial
        | true =>
          simp only [cond_true, fL_eq, fN_eq]
          simp only [Bool.and_eq_true] at hb
          have b1 := Nat.le_of_ble_eq_true hb.1.1
          have b2 := Nat.le_of_ble_eq_true hb.1.2
          have b3 := Nat.le_of_ble_eq_true hb.2
          refine newBlock hs (repeatL (cellsOf z0) cn).length 0 _ _ (cellsNew (VRL.of_flat (flat_repeat hzf cn)) el _ rfl) fun ρ' g1 g2 => ⟨ρ', _, _, ?_, g2, .slice 0 ln cn g1 (Nat.lt_of_le_of_lt b2 (by decide))⟩
          have w1 : IntKind.i64.wrap (Int.ofNat ln) = Int.ofNat ln := wrap_small .i64 ln (by simp only [topOf]; omega)
          have w2 : IntKind.i64.wrap (Int.ofNat cn) = Int.ofNat cn := wrap_small .i64 cn (by simp only [topOf]; omega)
          have hmul : by_ * cn ≤ 1000000 * 1000000 := Nat.mul_le_mul b3 b2
          have hm1 : ¬ ((inf.bytes : Int) * Int.ofNat cn > 2 ^ 48) := by
            rw [hbeq]
            have : ((by_ : Int) * Int.ofNat cn) = ((by_ * cn : Nat) : Int) := by simp
            rw [this]; omega
          have hn0 : ¬ (Int.ofNat cn < 0) := by simp
          have hl0 : ¬ (Int.ofNat ln < 0) := by simp
          have hlc : ¬ (Int.ofNat ln > Int.ofNat cn) := by simp; omega
          have hrep := repeat_eq (cellsOf z0) cn
          rw [hzl] at hrep
          have htn : (Int.ofNat cn).toNat = cn := rfl
          have htl : (Int.ofNat ln).toNat = ln := rfl
          simp only [Instr.makeSlice, Sem.run_bind, und_run hu w, Result.andThen_ok, asInt, asIntOf, Sem.run_pure, hti w, w1, w2, hn0, hl0, hlc, hm1, decide_false, Bool.or_self, Bool.or_false, Bool.false_eq_true, if_false, run_askRoom, sizeT_run hk w, htn, htl]
          by_cases h0 : cn * k = 0
          · have hr0 : repeatL (cellsOf z0) cn = [] := List.eq_nil_of_length_eq_zero (by rw [repeatL_length, hzl, h0])
            rw [if_pos h0, hr0]
            simp only [h0, range0]
            simp [newRow]
          · rw [if_neg h0]
            simp only [Sem.run_bind, hz1, Result.andThen_ok, Sem.run_pure, cells_eq]
            rw [show (⟨cellsOf z0⟩ : Array Value).size = k from hzl, hrep]
            simp [newRow]
      · trivial
    · trivial
  · trivial
end
end Go.Ev
