/- Every call of DependNothing returns true and leaves its arguments as they read before, for every input: the tied card. Conditions: those of the given row alone (Go's library tables read as the program's text lays them, which TieD shows; each argument within the model's reach). -/
import Derived.Test.YtnfcjgfaecihbaaGreatDoorLaidD
import Derived.Test.YtnfcjgfaecihbaaGreatDoorOpenD
import Derived.Test.YtnfcjgfaecihbaaGreatDoorDependFacts
import Derived.Test.YtnfcjgfaecihbaaGreatDoorGoesD
import Derived.Test.YtnfcjgfaecihbaaGreatDoorWitF
import Derived.Test.YtnfcjgfaecihbaaGreatDoorTieD
import Derived.Test.YtnfcjgfaecihbaaGreatDoorCards
import Derived.ProofKit
import Derived.OpenShut
import Derived.LaidMore
import Derived.Lay
import Derived.SevenTiedAt
import Derived.Stop.Joined
import Derived.Carry
set_option linter.all false
set_option linter.all false
namespace Go.Proofs.YtnfcjgfaecihbaaGreatDoor
open Go.ChangeShapes Go.WideShapes Go.ChangeAt Go.RowKit
theorem own : ownKnob Tryz.prog.godebug = none := by kernel_rfl
section
variable {H : Type} {enc : TypeId × Value → H} {w : World} {spare : Nat → Bool} {held : Bool}
theorem open_int1 {k : Nat} {z : Int} {d : DataW H} {p : List MemPlace} (h : DataW.trod enc Tryz.prog w 0 spare held k 3 [.int .i64 z] = some (d, p)) : p = [] := by
  obtain ⟨n, h1, h2, h3⟩ := DataW.trod_int Tryz.underlying3 h
  exact congrArg Prod.snd h2
theorem open_trade1 {k : Nat} {cs : Array Value} {d : DataW H} {p : List MemPlace} (h : DataW.trod enc Tryz.prog w 0 spare held k 28 (Value.agg cs).cells.toList = some (d, p)) :
    ∃ id vr an K capn product count cur units from_ to_ signed rs, cs = (tradeCells id vr (.slice an K capn) product count cur units from_ to_ signed).toArray ∧ RolesAt w.heap.size w vr rs := by
  obtain ⟨id, vr, an, K, capn, product, count, cur, units, from_, to_, signed, rs, h1, h2⟩ := open_trade h
  exact ⟨id, vr, an, K, capn, product, count, cur, units, from_, to_, signed, rs, by rw [← h1]; rfl, h2⟩
end
set_option maxRecDepth 100000 in
theorem lifted (os : Os) (started : os.Started) (H : Type) (enc : TypeId × Value → H) :
    ReturnsInHanded {} Tryz.checked os 3 .any (fun w args => (Rows.dependNothingSpec.pre enc Tryz.prog Tryz.f3 Rows.dependNothingRow.domain false w args ∧ laidMetH Tryz.prog Rows.dependNothingRow.laid w) ∧ sizedMet enc Tryz.prog Tryz.f3 (OpenSpec.ofChange Rows.dependNothingSpec) false w args)
      (Rows.dependNothingSpec.post enc Tryz.prog Tryz.f3 false true false false) := by
  refine returnsInHanded_of_change_and (C := Tryz.checked) (X := fun w _ => laidMetH Tryz.prog Rows.dependNothingRow.laid w) (fun _ _ _ hh h => h.of_heap hh) own started (by as_aux_lemma => kernel_rfl) Tryz.func3
    (ChangeSpec.witness_shaped (enc := enc) (C := Tryz.checked) (os := os) (X := fun w _ => laidMetH Tryz.prog Rows.dependNothingRow.laid w) false (World.laidAll Tryz.prog os Rows.dependNothingRow.laid) #[.slice none 0 0, .agg #[.string ⟨#[]⟩, .slice none 0 0, .slice none 0 0, .string ⟨#[]⟩, .int .i64 0, .string ⟨#[]⟩, .int .i64 0, .int .i64 0, .int .i64 0, .int .i64 0], .int .i64 0, .int .i64 0] 8 (World.laidAll_os _ _ _)
      (wit_shaped os _) (by as_aux_lemma => kernel_rfl) (by as_aux_lemma => kernel_rfl) (by as_aux_lemma => kernel_rfl)
      (by rw [MakeChecks.laidMetH_plain _ _ _ (by kernel_rfl)]; exact laidMet_laidAll _ (wit_fits os) (wit_ifaces os))) ?_
  intro W base args ds gs before hval0 hW hc _ hL _
  have hval : ∀ (j : Nat) t v, Tryz.f3.params[j]? = some t → args[j]? = some v → Value.okWide Tryz.prog W .any base t v := hval0
  have hW' := hW
  obtain ⟨p, q, hA0, hV, rfl, _, _⟩ := hW
  have hA : DataW.TrodAll enc Tryz.prog W 0 (fun _ => true) true Tryz.f3.params.toList args.toList ds p := hA0
  rw [Tryz.params3] at hA hval
  obtain ⟨v0, v1, v2, v3, d0, d1, d2, d3, p0, p1, p2, p3, rfl, rfl, rfl, h0, h1, h2, h3⟩ := trodAll_four hA
  obtain ⟨rfl, rfl⟩ := trodVars_none hV
  have k0 := h0
  have k1 := h1
  have k2 := h2
  have k3 := h3
  obtain ⟨_, hf0⟩ := h0
  obtain ⟨_, hf1⟩ := h1
  obtain ⟨_, hf2⟩ := h2
  obtain ⟨_, hf3⟩ := h3
  obtain ⟨a0, lb, cb, rfl⟩ := okWide_slice Tryz.underlying22 (hval 0 22 v0 rfl rfl)
  obtain ⟨c1, rfl, _⟩ := okWide_struct Tryz.underlying28 (hval 1 28 v1 rfl rfl)
  obtain ⟨step, rfl⟩ := okWide_int Tryz.underlying3 (hval 2 3 v2 rfl rfl)
  obtain ⟨at_, rfl⟩ := okWide_int Tryz.underlying3 (hval 3 3 v3 rfl rfl)
  obtain ⟨vl, l, e0, hraw, _⟩ := open_vers hf0
  cases e0
  obtain ⟨id, vr, an, K, capn, product, count, cur, units, from_, to_, signed, rs, rfl, hr⟩ := open_trade1 hf1
  obtain rfl := open_int1 hf2
  obtain rfl := open_int1 hf3
  simp only [List.append_nil] at hW'
  have hlt : ∀ z ∈ p0 ++ p1, z.block < W.heap.size := fun z hz => by simpa using hW'.lt z (by simpa using hz)
  refine (dependNothing_any _ vr l id product cur rs an K capn count units from_ to_ signed step at_ W hraw hr (closedD_of (tab_of_laid hL))).mono ?_
  rintro e W' ⟨rfl, bel⟩
  have e1 : (Rows.dependNothingSpec).fn H ([d0, d1, d2, d3] ++ []) = { results := [.lit (.bool true)], args := [d0, d1, d2, d3] } := rfl
  refine ⟨_, rfl, _, _, _, [], p0 ++ (p1 ++ ([] ++ [])), [], (by simpa using hW'), ?_, ?_, ?_, bel.frame _, fun h => by cases h⟩
  · rw [e1]; exact trodAll_mk1 (shut_bool Tryz.underlying4 _)
  · rw [e1]; exact trodAll_mk4 (Below.trod laidOut (by as_aux_lemma => kernel_rfl) (of_decide_eq_true (by as_aux_lemma => kernel_rfl)) k0 bel (fun x hx => hlt x (by simp [hx]))) (Below.trod laidOut (by as_aux_lemma => kernel_rfl) (of_decide_eq_true (by as_aux_lemma => kernel_rfl)) k1 bel (fun x hx => hlt x (by simp [hx]))) (Below.trod laidOut (by as_aux_lemma => kernel_rfl) (of_decide_eq_true (by as_aux_lemma => kernel_rfl)) k2 bel (fun x hx => by cases hx)) (Below.trod laidOut (by as_aux_lemma => kernel_rfl) (of_decide_eq_true (by as_aux_lemma => kernel_rfl)) k3 bel (fun x hx => by cases hx))
  · rw [e1]; rfl
set_option maxRecDepth 100000 in
set_option maxHeartbeats 40000000 in
theorem depend_holds : Rows.DependNothingSaid :=
  OpenClaim.holds_of_wide 3 Tryz.f3 rfl rfl rfl rfl rfl rfl rfl ⟨rfl, rfl, rfl, rfl, rfl⟩ rfl rfl rfl rfl rfl depend_named Tryz.func3 depend_facts
    (of_decide_eq_true (by as_aux_lemma => kernel_rfl)) (by unfold Func.isWrapper; first | (rw [if_pos (by decide +kernel)]; kernel_rfl) | (rw [if_neg (by decide +kernel)]; exact ⟨rfl, rfl⟩))
    (fun os started H enc _ => lifted os started H enc)
theorem depend_card : Rows.DependNothingCardSaid :=
  Claim7.holds_tied_plain_at .later [] [.data, .data, .data, .data, .sentinel, .sentinel, .pinned, .pinned] true Rows.dependNothingCard.stood.harness true depend_holds (fun _ h => by cases h) (by kernel_rfl) (fun _ h => by cases h) depend_tie rfl ⟨rfl, rfl⟩ (by kernel_rfl) rfl
    (fun f fn hf hfn => by
      obtain rfl : f = 3 := Option.some.inj (depend_named.symm.trans hf) |>.symm
      obtain rfl : fn = Tryz.f3 := (Option.some.inj (Tryz.func3.symm.trans hfn)).symm
      exact ⟨by kernel_rfl, fun j t ht => by
        rw [Tryz.params3] at ht
        have hm : t ∈ [22, 28, 3, 3] := by simpa using Array.mem_of_getElem? ht
        have hall : ([22, 28, 3, 3].all fun u => !Tryz.prog.wantsStandIn u) = true := by kernel_rfl
        exact (show Tryz.prog.wantsStandIn t = false by simpa using List.all_eq_true.1 hall t hm)⟩)
    goesD
#print axioms depend_card
end Go.Proofs.YtnfcjgfaecihbaaGreatDoor
