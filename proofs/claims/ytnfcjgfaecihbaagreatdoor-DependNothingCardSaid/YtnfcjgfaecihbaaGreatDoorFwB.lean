/- Sizes of layers 45, 46: FewTrade, words. -/
import Derived.Test.YtnfcjgfaecihbaaGreatDoorFwA
set_option linter.all false
set_option linter.all false
namespace Go.Proofs.YtnfcjgfaecihbaaGreatDoor
open Go.RowKit Go.Lib
def RetN (w : World) (e : Ending) (w' : World) : Prop := (∃ k : Int, e = .returned ↑k) ∧ Below w w w'
def RolesAt (B : Nat) (w : World) (v : Value) (rs : List (List UInt8 × Int)) : Prop :=
  ∃ a cap, v = .slice a rs.length cap ∧ rs.length ≤ cap ∧ cap ≤ 9223372036854775807 ∧
    (rs ≠ [] → ∃ b off, a = some ⟨b, off, none⟩ ∧ b < B ∧ ∀ j r, rs[j]? = some r → w.cell? ⟨b, off + j * 2, none⟩ = some ↑r.1 ∧ w.cell? ⟨b, off + j * 2 + 1, none⟩ = some ↑r.2)
def tradeCells (id : List UInt8) (vr vn : Value) (product : List UInt8) (count : Int) (cur : List UInt8) (units from_ to_ signed : Int) : List Value :=
  [↑id, vr, vn, ↑product, ↑count, ↑cur, ↑units, ↑from_, ↑to_, ↑signed]
set_option maxRecDepth 100000 in
set_option maxHeartbeats 4000000 in
theorem fewTrade_any (id product cur : List UInt8) (rs : List (List UInt8 × Int)) (vr : Value) (an : Option Addr) (K capn : Nat) (count units from_ to_ signed : Int) (w : World) (hr : RolesAt w w vr rs) :
    Calls Tryz.prog 14 #[.agg (tradeCells id vr (.slice an K capn) product count cur units from_ to_ signed).toArray] w (RetB w) := by
  obtain ⟨a, cap, rfl, hl, hcap, hne⟩ := hr
  have hne := a_Lib_hid hne
  obtain ⟨N, hN⟩ : ∃ N, rs.length = N := ⟨_, rfl⟩
  rw [hN] at hl ⊢
  have hN := a_Lib_hid hN
  obtain ⟨n1, hn1⟩ : ∃ m, id.length = m := ⟨_, rfl⟩
  obtain ⟨n2, hn2⟩ : ∃ m, product.length = m := ⟨_, rfl⟩
  obtain ⟨n3, hn3⟩ : ∃ m, cur.length = m := ⟨_, rfl⟩
  have hB0 := fun o => (a_Below_refl _ w).alloc (a_Nat_le_refl _) o
  dsimp only [tradeCells, List.toArray] at *
  go_enter Tryz.func14, Tryz.ntmps14
  go_wp2_with fail
  generalize hWd : w.alloc _ = W at *
  have c0 : W.cell? ⟨w, 0, none⟩ = some ↑id := by rw [← hWd]; exact cell_of (a_heap_alloc_last w _) 0
  have c1 : W.cell? ⟨w, 1, none⟩ = some (.slice a N cap) := by rw [← hWd]; exact cell_of (a_heap_alloc_last w _) 1
  have c2 : W.cell? ⟨w, 2, none⟩ = some (.slice an K capn) := by rw [← hWd]; exact cell_of (a_heap_alloc_last w _) 2
  have c3 : W.cell? ⟨w, 3, none⟩ = some ↑product := by rw [← hWd]; exact cell_of (a_heap_alloc_last w _) 3
  have c5 : W.cell? ⟨w, 5, none⟩ = some ↑cur := by rw [← hWd]; exact cell_of (a_heap_alloc_last w _) 5
  have hBW : Below w w W := by rw [← hWd]; exact hB0 _
  clear hWd hB0
  go_loopw [3] (fun i wr => ∃ k : Nat, k ≤ N ∧ k ≤ 20 ∧ i = ↑k ∧ wr = W) (fun i _ => 20 - (RowKit.intOf i).toNat)
  case atStart => exact ⟨0, a_Nat_zero_le _, a_Nat_zero_le _, rfl, rfl⟩
  case round =>
    obtain ⟨k, hk, hk20, rfl, rfl⟩ := hrel
    have hend : ∀ (X : Prop), (decide ((N : Int) ≤ 20) = false → X) → (decide ((N : Int) ≤ 20) = true → decide ((K : Int) ≤ 20) = false → X) → (decide ((N : Int) ≤ 20) = true → decide ((K : Int) ≤ 20) = true → decide ((n1 : Int) ≤ 100) = false → X) →
        (decide ((N : Int) ≤ 20) = true → decide ((K : Int) ≤ 20) = true → decide ((n1 : Int) ≤ 100) = true → decide ((n2 : Int) ≤ 100) = false → X) →
        (decide ((N : Int) ≤ 20) = true → decide ((K : Int) ≤ 20) = true → decide ((n1 : Int) ≤ 100) = true → decide ((n2 : Int) ≤ 100) = true → X) → X := by
      intro X h1 h2 h3 h4 h5
      cases q1 : decide ((N : Int) ≤ 20) with
      | false => exact h1 q1
      | true =>
        cases q2 : decide ((K : Int) ≤ 20) with
        | false => exact h2 q1 q2
        | true =>
          cases q3 : decide ((n1 : Int) ≤ 100) with
          | false => exact h3 q1 q2 q3
          | true =>
            cases q4 : decide ((n2 : Int) ≤ 100) with
            | false => exact h4 q1 q2 q3 q4
            | true => exact h5 q1 q2 q3 q4
    by_cases hlt : k < N
    · have p1 : decide ((k : Int) < (N : Int)) = true := by simp; omega
      by_cases h20 : k < 20
      · have p2 : decide ((k : Int) < 20) = true := by simp; omega
        obtain ⟨b, off, rfl, hbl, hcells⟩ := hne.out (by intro h; have := hN.out; simp [h] at this; omega)
        obtain ⟨x, hx⟩ : ∃ x, rs[k]? = some x := ⟨_, a_List_getElemQ_eq_getElem (by rw [hN.out]; exact hlt)⟩
        have hcell := (hBW.cell (p := ⟨b, off + k * 2, none⟩) hbl).trans (hcells k x hx).1
        clear hcells hx
        obtain ⟨m, hm⟩ : ∃ m, x.1.length = m := ⟨_, rfl⟩
        generalize x.1 = xs at *
        by_cases hm100 : m ≤ 100
        · have d : decide ((100 : Int) < (m : Int)) = false := by simp; omega
          clear hend
          go_wp2
          go_roundw
          case rel => exact ⟨k + 1, oM, oM, by go_num, by first | rfl | trivial⟩
          case measure => simp [RowKit.intOf]; omega
        · have d : decide ((100 : Int) < (m : Int)) = true := by simp; omega
          clear hend
          go_wp2
          go_ret
          exact ⟨⟨_, rfl⟩, hBW⟩
      · have p2 : decide ((k : Int) < 20) = false := by simp; omega
        refine hend _ ?_ ?_ ?_ ?_ ?_ <;> clear hend <;> intros <;> (go_wp2; go_ret; exact ⟨⟨_, rfl⟩, hBW⟩)
    · have p1 : decide ((k : Int) < (N : Int)) = false := by simp; omega
      refine hend _ ?_ ?_ ?_ ?_ ?_ <;> clear hend <;> intros <;> (go_wp2; go_ret; exact ⟨⟨_, rfl⟩, hBW⟩)
def EntriesAt (B : Nat) (w : World) (v : Value) (es : List CH.Entry) : Prop :=
  ∃ a cap, v = .slice a es.length cap ∧ es.length ≤ cap ∧ cap ≤ 9223372036854775807 ∧
    (es ≠ [] → ∃ b off, a = some ⟨b, off, none⟩ ∧ b < B ∧ ∀ j e, es[j]? = some e → ∃ vn, w.cell? ⟨b, off + j * 2, none⟩ = some ↑e.id ∧ w.cell? ⟨b, off + j * 2 + 1, none⟩ = some vn ∧ NamesRaw B w vn e.names)
set_option maxRecDepth 100000 in
set_option maxHeartbeats 4000000 in
theorem words46_any (v : Value) (es : List CH.Entry) (w : World) (hv : EntriesAt w w v es) : Calls Tryz.prog 15 #[v] w (RetN w) := by
  obtain ⟨a, cap, rfl, hl, hcap, hne⟩ := hv
  have hne := a_Lib_hid hne
  obtain ⟨N, hN⟩ : ∃ N, es.length = N := ⟨_, rfl⟩
  rw [hN] at hl ⊢
  have hN := a_Lib_hid hN
  go_enter Tryz.func15, Tryz.ntmps15
  go_wp2_with fail
  go_loopw [3, 4] (fun n i wr => ∃ (k : Nat) (m : Int), k ≤ N ∧ n = ↑m ∧ i = ↑k ∧ wr = w) (fun _ i _ => N - (RowKit.intOf i).toNat)
  case atStart => exact ⟨0, 0, a_Nat_zero_le _, rfl, rfl, rfl⟩
  case round =>
    obtain ⟨k, m, hk, rfl, rfl, rfl⟩ := hrel
    by_cases hlt : k < N
    · have p1 : decide ((k : Int) < (N : Int)) = true := by simp; omega
      obtain ⟨b, off, rfl, hbl, hcells⟩ := hne.out (by intro h; have := hN.out; simp [h] at this; omega)
      obtain ⟨x, hx⟩ : ∃ x, es[k]? = some x := ⟨_, a_List_getElemQ_eq_getElem (by rw [hN.out]; exact hlt)⟩
      obtain ⟨vn, e0, e1, hns⟩ := hcells k x hx
      obtain ⟨an, capn, rfl, hln, hcapn, hnn⟩ := hns
      clear hcells e0 hx
      have hnn := a_Lib_hid hnn
      obtain ⟨M, hM⟩ : ∃ M, x.names.length = M := ⟨_, rfl⟩
      rw [hM] at hln e1
      have hM := a_Lib_hid hM
      go_wp2_with fail
      go_loopw [3, 5] (fun n i w' => ∃ (j : Nat) (m : Int), j ≤ M ∧ n = ↑m ∧ i = ↑j ∧ w' = wr) (fun _ i _ => M - (RowKit.intOf i).toNat)
      case atStart => exact ⟨0, m, a_Nat_zero_le _, rfl, rfl, rfl⟩
      case round =>
        obtain ⟨j, m', hj, rfl, rfl, rfl⟩ := hrel
        by_cases hltj : j < M
        · have p2 : decide ((j : Int) < (M : Int)) = true := by simp; omega
          obtain ⟨bn, offn, rfl, hbln, hcn⟩ := hnn.out (by intro h; have := hM.out; simp [h] at this; omega)
          obtain ⟨y, hy⟩ : ∃ y, x.names[j]? = some y := ⟨_, a_List_getElemQ_eq_getElem (by rw [hM.out]; exact hltj)⟩
          obtain ⟨vw, g0, g1, aw, capw, rfl, _, _, _⟩ := hcn j y hy
          clear hcn g0 hy
          generalize y.words.length = L at *
          go_wp2
          go_roundw
          case rel => exact ⟨j + 1, _, oM, rfl, by go_num, by first | rfl | trivial⟩
          case measure => simp [RowKit.intOf]; omega
        · have p2 : decide ((j : Int) < (M : Int)) = false := by simp; omega
          go_wp2
          go_roundw
          case rel => exact ⟨k + 1, m', oM, rfl, by go_num, by first | rfl | trivial⟩
          case measure => simp [RowKit.intOf]; omega
    · have p1 : decide ((k : Int) < (N : Int)) = false := by simp; omega
      go_wp2
      go_ret
      exact ⟨⟨m, rfl⟩, a_Below_refl _ _⟩
end Go.Proofs.YtnfcjgfaecihbaaGreatDoor
