/- The type of Go's plain errors, by its name: the first of the program's types that is called so (fifty types at a time). -/
import Derived.Test.YtnfcjgfaecihbaaGreatDoorRows
import GoSem.ClaimData
import Derived.KernelRfl
import Derived.ProofKit
set_option linter.all false
set_option linter.all false
namespace Go.Proofs.YtnfcjgfaecihbaaGreatDoor
def nameUp (P : Program) : Nat → TypeId → Option String
  | 0, _ => none
  | d + 1, t => match P.info? t with
    | some i => match i.desc with
      | .named n _ => some n
      | .pointer e => (nameUp P d e).map ("*" ++ ·)
      | .bool | .int _ | .float _ | .string => if i.str.isEmpty then none else some i.str
      | _ => none
    | none => none
theorem nameUp_of {P : Program} : ∀ (d : Nat) (t : TypeId) (x : String), P.typeName? d t = some x → nameUp P d t = some x
  | 0, t, x, h => by cases h
  | d + 1, t, x, h => by
    unfold Program.typeName? at h
    unfold nameUp
    cases hi : P.info? t with
    | none => rw [hi] at h; cases h
    | some i =>
      rw [hi] at h
      dsimp only at h ⊢
      cases hd : i.desc <;> rw [hd] at h <;> dsimp only at h ⊢ <;> first | exact h | cases h | skip
      · rename_i e
        cases he : P.typeName? d e with
        | none => rw [he] at h; cases h
        | some y =>
          rw [he] at h
          rw [nameUp_of d e y he]
          exact h
      · split at h
        · exact h
        · cases h
set_option maxRecDepth 100000
theorem nu0 : (List.range' 0 50).all (fun u => !(nameUp Tryz.prog 3 u == some "*errors.errorString")) = true := by kernel_rfl
theorem nu1 : (List.range' 50 50).all (fun u => !(nameUp Tryz.prog 3 u == some "*errors.errorString")) = true := by kernel_rfl
theorem nu2 : (List.range' 100 50).all (fun u => !(nameUp Tryz.prog 3 u == some "*errors.errorString")) = true := by kernel_rfl
theorem nu3 : (List.range' 150 50).all (fun u => !(nameUp Tryz.prog 3 u == some "*errors.errorString")) = true := by kernel_rfl
theorem nu4 : (List.range' 200 50).all (fun u => !(nameUp Tryz.prog 3 u == some "*errors.errorString")) = true := by kernel_rfl
theorem nu5 : (List.range' 250 50).all (fun u => !(nameUp Tryz.prog 3 u == some "*errors.errorString")) = true := by kernel_rfl
theorem nu6 : (List.range' 300 50).all (fun u => !(nameUp Tryz.prog 3 u == some "*errors.errorString")) = true := by kernel_rfl
theorem nu7 : (List.range' 350 50).all (fun u => !(nameUp Tryz.prog 3 u == some "*errors.errorString")) = true := by kernel_rfl
theorem nu8 : (List.range' 400 50).all (fun u => !(nameUp Tryz.prog 3 u == some "*errors.errorString")) = true := by kernel_rfl
theorem nu9 : (List.range' 450 50).all (fun u => !(nameUp Tryz.prog 3 u == some "*errors.errorString")) = true := by kernel_rfl
theorem nu10 : (List.range' 500 50).all (fun u => !(nameUp Tryz.prog 3 u == some "*errors.errorString")) = true := by kernel_rfl
theorem nu11 : (List.range' 550 50).all (fun u => !(nameUp Tryz.prog 3 u == some "*errors.errorString")) = true := by kernel_rfl
theorem nu12 : (List.range' 600 50).all (fun u => !(nameUp Tryz.prog 3 u == some "*errors.errorString")) = true := by kernel_rfl
theorem nu13 : (List.range' 650 50).all (fun u => !(nameUp Tryz.prog 3 u == some "*errors.errorString")) = true := by kernel_rfl
theorem nu14 : (List.range' 700 50).all (fun u => !(nameUp Tryz.prog 3 u == some "*errors.errorString")) = true := by kernel_rfl
theorem nu15 : (List.range' 750 1).all (fun u => !(nameUp Tryz.prog 3 u == some "*errors.errorString")) = true := by kernel_rfl
theorem nu_part {p : Nat → Bool} {a n : Nat} (h : (List.range' a n).all (fun g => !p g) = true) (g : Nat) (h1 : a ≤ g) (h2 : g < a + n) : p g = false := by
  have := List.all_eq_true.1 h g (by rw [List.mem_range'_1]; exact ⟨h1, h2⟩)
  simpa using this
theorem nu_all (g : Nat) (hg : g < 751) : (nameUp Tryz.prog 3 g == some "*errors.errorString") = false := by
  by_cases k0 : g < 50
  · exact nu_part (p := fun u => nameUp Tryz.prog 3 u == some "*errors.errorString") nu0 g (by omega) (by omega)
  by_cases k1 : g < 100
  · exact nu_part (p := fun u => nameUp Tryz.prog 3 u == some "*errors.errorString") nu1 g (by omega) (by omega)
  by_cases k2 : g < 150
  · exact nu_part (p := fun u => nameUp Tryz.prog 3 u == some "*errors.errorString") nu2 g (by omega) (by omega)
  by_cases k3 : g < 200
  · exact nu_part (p := fun u => nameUp Tryz.prog 3 u == some "*errors.errorString") nu3 g (by omega) (by omega)
  by_cases k4 : g < 250
  · exact nu_part (p := fun u => nameUp Tryz.prog 3 u == some "*errors.errorString") nu4 g (by omega) (by omega)
  by_cases k5 : g < 300
  · exact nu_part (p := fun u => nameUp Tryz.prog 3 u == some "*errors.errorString") nu5 g (by omega) (by omega)
  by_cases k6 : g < 350
  · exact nu_part (p := fun u => nameUp Tryz.prog 3 u == some "*errors.errorString") nu6 g (by omega) (by omega)
  by_cases k7 : g < 400
  · exact nu_part (p := fun u => nameUp Tryz.prog 3 u == some "*errors.errorString") nu7 g (by omega) (by omega)
  by_cases k8 : g < 450
  · exact nu_part (p := fun u => nameUp Tryz.prog 3 u == some "*errors.errorString") nu8 g (by omega) (by omega)
  by_cases k9 : g < 500
  · exact nu_part (p := fun u => nameUp Tryz.prog 3 u == some "*errors.errorString") nu9 g (by omega) (by omega)
  by_cases k10 : g < 550
  · exact nu_part (p := fun u => nameUp Tryz.prog 3 u == some "*errors.errorString") nu10 g (by omega) (by omega)
  by_cases k11 : g < 600
  · exact nu_part (p := fun u => nameUp Tryz.prog 3 u == some "*errors.errorString") nu11 g (by omega) (by omega)
  by_cases k12 : g < 650
  · exact nu_part (p := fun u => nameUp Tryz.prog 3 u == some "*errors.errorString") nu12 g (by omega) (by omega)
  by_cases k13 : g < 700
  · exact nu_part (p := fun u => nameUp Tryz.prog 3 u == some "*errors.errorString") nu13 g (by omega) (by omega)
  by_cases k14 : g < 750
  · exact nu_part (p := fun u => nameUp Tryz.prog 3 u == some "*errors.errorString") nu14 g (by omega) (by omega)
  exact nu_part (p := fun u => nameUp Tryz.prog 3 u == some "*errors.errorString") nu15 g (by omega) (by omega)
theorem sent_hit : (Tryz.prog.typeName? 3 751 == some "*errors.errorString") = true := by kernel_rfl
theorem sent_find : ((List.range Tryz.prog.types.size).find? fun u => Tryz.prog.typeName? 3 u == some "*errors.errorString") = some 751 := by
  have hs : Tryz.prog.types.size = 794 := by kernel_rfl
  rw [hs, List.find?_range_eq_some]
  refine ⟨sent_hit, by simp, fun j hj => ?_⟩
  have h := nu_all j hj
  cases ht : Tryz.prog.typeName? 3 j with
  | none => rfl
  | some x =>
    rw [nameUp_of 3 j x ht] at h
    simpa using h
end Go.Proofs.YtnfcjgfaecihbaaGreatDoor
