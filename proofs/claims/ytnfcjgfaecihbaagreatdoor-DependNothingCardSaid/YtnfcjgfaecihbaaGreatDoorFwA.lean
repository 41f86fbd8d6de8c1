/- Sizes of layers 44 to 46: small, nodes, Short. -/
import Derived.Test.YtnfcjgfaecihbaaGreatDoorLast
set_option linter.all false
set_option linter.all false
namespace Go.Proofs.YtnfcjgfaecihbaaGreatDoor
open Go.RowKit Go.Lib
def RetB (w : World) (e : Ending) (w' : World) : Prop := (∃ b, e = .returned (.bool b)) ∧ Below w w w'
def RetK (n : Int) (w : World) (e : Ending) (w' : World) : Prop := (∃ k : Int, 1 ≤ k ∧ k ≤ n + 1 ∧ e = .returned ↑k) ∧ Below w w w'
theorem lt_dec (a b : Nat) : decide ((a : Int) < (b : Int)) = decide (a < b) := by
  by_cases h : a < b
  · rw [a_decide_eq_true h, a_decide_eq_true oM]
  · rw [a_decide_eq_false h, a_decide_eq_false oM]
set_option maxRecDepth 100000 in
theorem nodes_any : ∀ (d : Nat) (f : CH.Formula) (vk : Value) (n : Int) (w : World), f.depth ≤ d → KidsAt w w f vk → 0 ≤ n → n ≤ 1000 →
    Calls Tryz.prog 40 #[.agg (formulaCells f vk), ↑n] w (RetK n w)
  | 0, f, vk, n, w, hd, hK, h0, h1 => by
    rw [depth_eq] at hd
    omega
  | d + 1, .mk op name cmp fn kids, vk, n, w, hd, hK, h0, h1 => by
    obtain ⟨a, cap, rfl, hl, hcap, hne⟩ := hK.form
    dsimp only [formulaCells, CH.Formula.op, CH.Formula.name, CH.Formula.cmp, CH.Formula.n, CH.Formula.kids] at *
    rw [depth_eq] at hd
    dsimp only [CH.Formula.kids] at hd
    have IH := a_Lib_hid (nodes_any d)
    have hdk := a_Lib_hid hd
    clear hd hK
    have hne := a_Lib_hid hne
    obtain ⟨N, hN⟩ : ∃ N, kids.length = N := ⟨_, rfl⟩
    rw [hN] at hl ⊢
    have hN := a_Lib_hid hN
    have hB0 := fun o => (a_Below_refl _ w).alloc (a_Nat_le_refl _) o
    go_enter Tryz.func40, Tryz.ntmps40
    go_wp2_with fail
    generalize hWd : w.alloc _ = W at *
    have c4 : W.cell? ⟨w, 4, none⟩ = some (.slice a N cap) := by rw [← hWd]; exact cell_of (a_heap_alloc_last w _) 4
    have hBW : Below w w W := by rw [← hWd]; exact hB0 _
    have hlW : w.heap.size < W.heap.size := by rw [← hWd]; simp
    clear hWd hB0
    go_loopw [5, 6] (fun kv i wr => ∃ (j : Nat) (k : Int), j ≤ N ∧ i = ↑j ∧ kv = ↑k ∧ 1 ≤ k ∧ k ≤ n + 1 ∧ Hid (Below W W wr)) (fun _ i _ => N - (RowKit.intOf i).toNat)
    case atStart => exact ⟨0, 1, a_Nat_zero_le _, rfl, rfl, oM, oM, a_Lib_hid (a_Below_refl _ _)⟩
    case round =>
      obtain ⟨j, k, hj, rfl, rfl, hk1, hk2, hBr⟩ := hrel
      have k4 := (hBr.out.cell (p := ⟨w, 4, none⟩) hlW).trans c4
      have hBw : Below w w wr := hBW.trans (hBr.out.mono hBW.size)
      by_cases hlt : j < N
      · have q2 : decide ((j : Int) < (N : Int)) = true := by simp; omega
        have hget : kids[j]? = some (kids[j]'(by rw [hN.out]; exact hlt)) := a_List_getElemQ_eq_getElem (by rw [hN.out]; exact hlt)
        generalize kids[j]'(by rw [hN.out]; exact hlt) = f at hget
        by_cases hkn : k ≤ n
        · have q3 : decide (k ≤ n) = true := by simpa using hkn
          obtain ⟨b, off, rfl, hbl, hrow⟩ := hne.out (by intro h; have := hN.out; simp [h] at this; omega)
          obtain ⟨vf, e0, e1, e2, e3, e4, hkf⟩ := RowAt.get kids b off j f hrow hget
          have k0 := (hBw.cell (p := ⟨b, off + j * 5, none⟩) hbl).trans e0
          have k1 := (hBw.cell (p := ⟨b, off + j * 5 + 1, none⟩) hbl).trans e1
          have k2 := (hBw.cell (p := ⟨b, off + j * 5 + 2, none⟩) hbl).trans e2
          have k3 := (hBw.cell (p := ⟨b, off + j * 5 + 3, none⟩) hbl).trans e3
          have k5 := (hBw.cell (p := ⟨b, off + j * 5 + 4, none⟩) hbl).trans e4
          have C := a_Lib_hid (IH.out f vf (n - k) wr (by have := depth_mem (a_List_mem_of_getElemQ hget); have := hdk.out; omega) (KidsAt.mono hBw.size _ _ (KidsAt.below hBw (a_Nat_le_refl _) _ _ hkf)) oM oM)
          obtain ⟨af, cf, rfl, _, _, _⟩ := hkf.form
          clear e0 e1 e2 e3 e4 hrow hget hkf IH
          dsimp only [formulaCells] at C
          generalize f.kids.length = nf at *
          generalize f.name = fname at *
          generalize f.op = fop at *
          generalize f.cmp = fcmp at *
          generalize f.n = ffn at *
          go_wp2_with fail
          refine C.out.mono ?_
          rintro e w1 ⟨⟨sz, hs1, hs2, rfl⟩, hb1⟩
          clear C
          have hB1 : Hid (Below W W w1) := a_Lib_hid (hBr.out.trans (hb1.mono hBr.out.size))
          go_wp2
          go_roundw
          case rel => exact ⟨j + 1, k + sz, oM, by go_num, by go_num, oM, oM, hB1⟩
          case measure => simp [RowKit.intOf]; omega
        · have q3 : decide (k ≤ n) = false := by simpa using hkn
          go_wp2
          go_ret
          exact ⟨⟨k, hk1, hk2, rfl⟩, hBw⟩
      · have q2 : decide ((j : Int) < (N : Int)) = false := by simp; omega
        go_wp2
        go_ret
        exact ⟨⟨k, hk1, hk2, rfl⟩, hBw⟩
set_option maxRecDepth 100000 in
set_option maxHeartbeats 4000000 in
theorem small_any (id : List UInt8) (ls : List CH.Name) (v : Value) (w : World) (hv : NamesRaw w w v ls) :
    Calls Tryz.prog 39 #[.agg #[↑id, v]] w (RetB w) := by
  obtain ⟨a, cap, rfl, hl, hcap, hne⟩ := hv
  have hne := a_Lib_hid hne
  obtain ⟨N, hN⟩ : ∃ N, ls.length = N := ⟨_, rfl⟩
  rw [hN] at hl ⊢
  have hN := a_Lib_hid hN
  obtain ⟨NI, hNI⟩ : ∃ m, id.length = m := ⟨_, rfl⟩
  have hB0 := fun o => (a_Below_refl _ w).alloc (a_Nat_le_refl _) o
  go_enter Tryz.func39, Tryz.ntmps39
  go_wp2_with fail
  generalize hWd : w.alloc _ = W at *
  have c0 : W.cell? ⟨w, 0, none⟩ = some ↑id := by rw [← hWd]; exact cell_of (a_heap_alloc_last w _) 0
  have c1 : W.cell? ⟨w, 1, none⟩ = some (.slice a N cap) := by rw [← hWd]; exact cell_of (a_heap_alloc_last w _) 1
  have hBW : Below w w W := by rw [← hWd]; exact hB0 _
  clear hWd hB0
  go_loopw [3] (fun i wr => ∃ k : Nat, k ≤ N ∧ i = ↑k ∧ wr = W) (fun i _ => N - (RowKit.intOf i).toNat)
  case atStart => exact ⟨0, a_Nat_zero_le _, rfl, rfl⟩
  case round =>
    obtain ⟨k, hk, rfl, rfl⟩ := hrel
    by_cases hlt : k < N
    · obtain ⟨b, off, rfl, hbl, hcells⟩ := hne.out (by intro h; have := hN.out; simp [h] at this; omega)
      obtain ⟨x, hx⟩ : ∃ x, ls[k]? = some x := ⟨_, a_List_getElemQ_eq_getElem (by rw [hN.out]; exact hlt)⟩
      obtain ⟨vw, e0, e1, hS⟩ := hcells k x hx
      have k1 := (hBW.cell (p := ⟨b, off + k * 2 + 1, none⟩) hbl).trans e1
      obtain ⟨aw, capw, rfl, hlw, hcapw, hnew⟩ := hS
      clear hcells e0 e1
      have hnew := a_Lib_hid hnew
      obtain ⟨M, hM⟩ : ∃ M, x.words.length = M := ⟨_, rfl⟩
      rw [hM] at hlw k1
      have hM := a_Lib_hid hM
      have hx := a_Lib_hid hx
      by_cases h4 : M ≤ 4
      · have q4 : decide ((4 : Int) < (M : Int)) = false := by simp; omega
        go_wp2_with fail
        go_loopw [4] (fun i w' => ∃ j : Nat, j ≤ M ∧ i = ↑j ∧ w' = wr) (fun i _ => M - (RowKit.intOf i).toNat)
        case atStart => exact ⟨0, a_Nat_zero_le _, rfl, rfl⟩
        case round =>
          obtain ⟨j, hj, rfl, rfl⟩ := hrel
          by_cases hltj : j < M
          · obtain ⟨bj, offj, rfl, hblj, hcj⟩ := hnew.out (by intro h; have := hM.out; simp [h] at this; omega)
            obtain ⟨l, hl'⟩ : ∃ l, x.words[j]? = some l := ⟨_, a_List_getElemQ_eq_getElem (by rw [hM.out]; exact hltj)⟩
            have hcell := (hBW.cell (p := ⟨bj, offj + j, none⟩) hblj).trans (hcj j l hl')
            clear hcj hl'
            obtain ⟨m, hm⟩ : ∃ m, l.length = m := ⟨_, rfl⟩
            by_cases h30 : m ≤ 30
            · have d : decide ((30 : Int) < (m : Int)) = false := by simp; omega
              go_wp2
              go_roundw
              case rel => exact ⟨j + 1, oM, by go_num, by first | rfl | trivial⟩
              case measure => simp [RowKit.intOf]; omega
            · have d : decide ((30 : Int) < (m : Int)) = true := by simp; omega
              go_wp2
              go_ret
              exact ⟨⟨_, rfl⟩, hBW⟩
          · go_wp2
            go_roundw
            case rel => exact ⟨k + 1, oM, by go_num, by first | rfl | trivial⟩
            case measure => simp [RowKit.intOf]; omega
      · have q4 : decide ((4 : Int) < (M : Int)) = true := by simp; omega
        go_wp2
        go_ret
        exact ⟨⟨_, rfl⟩, hBW⟩
    · by_cases hN4 : N ≤ 4
      · have q5 : decide ((N : Int) ≤ 4) = true := by simp; omega
        go_wp2
        go_ret
        exact ⟨⟨_, rfl⟩, hBW⟩
      · have q5 : decide ((N : Int) ≤ 4) = false := by simp; omega
        go_wp2
        go_ret
        exact ⟨⟨_, rfl⟩, hBW⟩
set_option maxRecDepth 100000 in
set_option maxHeartbeats 4000000 in
theorem licShort_any (l : CH.Licence) (vm vp : Value) (w : World) (hm : Strs w w vm l.measures) (hp : Strs w w vp l.parties) :
    Calls Tryz.prog 41 #[.agg (licCells l vm vp).toArray] w (RetB w) := by
  obtain ⟨am, capm, rfl, hlm, hcapm, hnem⟩ := hm
  obtain ⟨ap, capp, rfl, hlp, hcapp, hnep⟩ := hp
  have hnem := a_Lib_hid hnem
  have hnep := a_Lib_hid hnep
  obtain ⟨N, hN⟩ : ∃ N, l.measures.length = N := ⟨_, rfl⟩
  obtain ⟨M, hM⟩ : ∃ N, l.parties.length = N := ⟨_, rfl⟩
  rw [hN] at hlm ⊢
  rw [hM] at hlp ⊢
  have hN := a_Lib_hid hN
  have hM := a_Lib_hid hM
  obtain ⟨NI, hNI⟩ : ∃ m, l.id.length = m := ⟨_, rfl⟩
  have hB0 := fun o => (a_Below_refl _ w).alloc (a_Nat_le_refl _) o
  dsimp only [licCells, strV, intV, List.toArray] at *
  by_cases h60 : NI ≤ 60
  case neg =>
    have q1 : decide ((60 : Int) < (NI : Int)) = true := by simp; omega
    go_enter Tryz.func41, Tryz.ntmps41
    go_wp2
    go_ret
    exact ⟨⟨_, rfl⟩, hB0 _⟩
  have q1 : decide ((60 : Int) < (NI : Int)) = false := by simp; omega
  by_cases h14 : N ≤ 14
  case neg =>
    have q2 : decide ((14 : Int) < (N : Int)) = true := by simp; omega
    go_enter Tryz.func41, Tryz.ntmps41
    go_wp2
    go_ret
    exact ⟨⟨_, rfl⟩, hB0 _⟩
  have q2 : decide ((14 : Int) < (N : Int)) = false := by simp; omega
  by_cases h14' : M ≤ 14
  case neg =>
    have q3 : decide ((14 : Int) < (M : Int)) = true := by simp; omega
    go_enter Tryz.func41, Tryz.ntmps41
    go_wp2
    go_ret
    exact ⟨⟨_, rfl⟩, hB0 _⟩
  have q3 : decide ((14 : Int) < (M : Int)) = false := by simp; omega
  go_enter Tryz.func41, Tryz.ntmps41
  go_wp2_with fail
  generalize hWd : w.alloc _ = W at *
  have c1 : W.cell? ⟨w, 1, none⟩ = some (.slice am N capm) := by rw [← hWd]; exact cell_of (a_heap_alloc_last w _) 1
  have c2 : W.cell? ⟨w, 2, none⟩ = some (.slice ap M capp) := by rw [← hWd]; exact cell_of (a_heap_alloc_last w _) 2
  have hBW : Below w w W := by rw [← hWd]; exact hB0 _
  clear hWd hB0
  go_loopw [3] (fun i wr => ∃ k : Nat, k ≤ N ∧ i = ↑k ∧ wr = W) (fun i _ => N - (RowKit.intOf i).toNat)
  case atStart => exact ⟨0, a_Nat_zero_le _, rfl, rfl⟩
  case round =>
    obtain ⟨k, hk, rfl, rfl⟩ := hrel
    by_cases hlt : k < N
    · obtain ⟨b, off, rfl, hbl, hcells⟩ := hnem.out (by intro h; have := hN.out; simp [h] at this; omega)
      obtain ⟨x, hx⟩ : ∃ x, l.measures[k]? = some x := ⟨_, a_List_getElemQ_eq_getElem (by rw [hN.out]; exact hlt)⟩
      have hcell := (hBW.cell (p := ⟨b, off + k, none⟩) hbl).trans (hcells k x hx)
      clear hcells hx
      obtain ⟨m, hm⟩ : ∃ m, x.length = m := ⟨_, rfl⟩
      by_cases hm60 : m ≤ 60
      · have d : decide ((60 : Int) < (m : Int)) = false := by simp; omega
        go_wp2
        go_roundw
        case rel => exact ⟨k + 1, oM, by go_num, by first | rfl | trivial⟩
        case measure => simp [RowKit.intOf]; omega
      · have d : decide ((60 : Int) < (m : Int)) = true := by simp; omega
        go_wp2
        go_ret
        exact ⟨⟨_, rfl⟩, hBW⟩
    · go_wp2_with fail
      go_loopw [4] (fun i w' => ∃ k : Nat, k ≤ M ∧ i = ↑k ∧ w' = wr) (fun i _ => M - (RowKit.intOf i).toNat)
      case atStart => exact ⟨0, a_Nat_zero_le _, rfl, rfl⟩
      case round =>
        obtain ⟨j, hj, rfl, rfl⟩ := hrel
        by_cases hltj : j < M
        · obtain ⟨b, off, rfl, hbl, hcells⟩ := hnep.out (by intro h; have := hM.out; simp [h] at this; omega)
          obtain ⟨x, hx⟩ : ∃ x, l.parties[j]? = some x := ⟨_, a_List_getElemQ_eq_getElem (by rw [hM.out]; exact hltj)⟩
          have hcell := (hBW.cell (p := ⟨b, off + j, none⟩) hbl).trans (hcells j x hx)
          clear hcells hx
          obtain ⟨m, hm⟩ : ∃ m, x.length = m := ⟨_, rfl⟩
          by_cases hm60 : m ≤ 60
          · have d : decide ((60 : Int) < (m : Int)) = false := by simp; omega
            go_wp2
            go_roundw
            case rel => exact ⟨j + 1, oM, by go_num, by first | rfl | trivial⟩
            case measure => simp [RowKit.intOf]; omega
          · have d : decide ((60 : Int) < (m : Int)) = true := by simp; omega
            go_wp2
            go_ret
            exact ⟨⟨_, rfl⟩, hBW⟩
        · go_wp2
          go_ret
          exact ⟨⟨_, rfl⟩, hBW⟩
end Go.Proofs.YtnfcjgfaecihbaaGreatDoor
