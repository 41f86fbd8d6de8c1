/- Sizes of layer 46: Few, with a world that has no parties. -/
import Derived.Test.YtnfcjgfaecihbaaGreatDoorFwC
import Derived.Deep.Cut
set_option linter.all false
set_option linter.all false
namespace Go.Proofs.YtnfcjgfaecihbaaGreatDoor
open Go.RowKit Go.Lib Go.Shelf Go.Sort
theorem versRaw_at {B : Nat} {w w' : World} {v : Value} {ls : List CH.Version} (h : VersRaw B w v ls) (hb : Below B w w') (hB : B ≤ w'.heap.size) : VersRaw w' w' v ls := by
  obtain ⟨a, cap, h1, h2, h3, h4⟩ := h
  refine ⟨a, cap, h1, h2, h3, fun hne => ?_⟩
  obtain ⟨b, off, e, hlt, hx⟩ := h4 hne
  refine ⟨b, off, e, a_Nat_lt_of_lt_of_le hlt hB, fun j x hj => ?_⟩
  obtain ⟨s, c1, c2⟩ := hx j x hj
  exact ⟨s, fun i u hi => (hb.cell (p := ⟨b, off + j * 8 + i, none⟩) hlt).trans (c1 i u hi), ⟨(c2.acts.below hb (a_Nat_le_refl _)).mono hB, (c2.sig.below hb (a_Nat_le_refl _)).mono hB, (c2.path.below hb (a_Nat_le_refl _)).mono hB⟩⟩
theorem roles_at {B : Nat} {w w' : World} {v : Value} {rs : List (List UInt8 × Int)} (h : RolesAt B w v rs) (hb : Below B w w') (hB : B ≤ w'.heap.size) : RolesAt w' w' v rs := by
  obtain ⟨a, cap, h1, h2, h3, h4⟩ := h
  refine ⟨a, cap, h1, h2, h3, fun hne => ?_⟩
  obtain ⟨b, off, e, hlt, hx⟩ := h4 hne
  exact ⟨b, off, e, a_Nat_lt_of_lt_of_le hlt hB, fun j r hj => ⟨(hb.cell (p := ⟨b, off + j * 2, none⟩) hlt).trans (hx j r hj).1, (hb.cell (p := ⟨b, off + j * 2 + 1, none⟩) hlt).trans (hx j r hj).2⟩⟩
set_option maxRecDepth 100000 in
set_option maxHeartbeats 16000000 in
theorem few46_any (Z : List Value) (v vr : Value) (l : List CH.Version) (id product cur : List UInt8) (rs : List (List UInt8 × Int)) (an : Option Addr) (K capn : Nat) (count units from_ to_ signed : Int) (w : World)
    (hv : VersRaw w.heap.size w v l) (hr : RolesAt w.heap.size w vr rs) (hZ : Z.length = 17) (hZ8 : Z[8]? = some (.slice none 0 0)) (hZ1 : Z.toArray.toList.all (fun v => v.oneCell') = true)
    (F12 : ∀ W : World, Below w.heap.size w W → Calls Tryz.prog 12 #[.agg Z.toArray] W (RetB W)) :
    Calls Tryz.prog 5 #[.agg Z.toArray, v, .agg (tradeCells id vr (.slice an K capn) product count cur units from_ to_ signed).toArray] w (RetB w) := by
  have HV := a_Lib_hid fun (W : World) (hb : Below w.heap.size w W) => fewVersions_any v l W (versRaw_at hv hb hb.size)
  have HR := a_Lib_hid fun (W : World) (hb : Below w.heap.size w W) => fewTrade_any id product cur rs vr an K capn count units from_ to_ signed W (roles_at hr hb hb.size)
  have HW := a_Lib_hid fun (W : World) => words46_any (.slice none 0 0) [] W ⟨none, 0, rfl, a_Nat_le_refl _, dC, fun h => absurd rfl h⟩
  obtain ⟨a, cap, rfl, hl, hcap, hne⟩ := hv
  have hne := a_Lib_hid hne
  obtain ⟨N, hN⟩ : ∃ N, l.length = N := ⟨_, rfl⟩
  rw [hN] at hl HV ⊢
  have hN := a_Lib_hid hN
  obtain ⟨T, hT⟩ : ∃ T, tradeCells id vr (.slice an K capn) product count cur units from_ to_ signed = T := ⟨_, rfl⟩
  have hTl : T.length = 10 := by rw [← hT]; rfl
  have hT1 : T.toArray.toList.all (fun v => v.oneCell') = true := by
    obtain ⟨ar, cr, rfl, _⟩ := hr
    rw [← hT]; rfl
  rw [hT] at HR ⊢
  have hZ8 := a_Lib_hid hZ8
  have hT1 := a_Lib_hid hT1
  have hZ1 := a_Lib_hid hZ1
  have hlZ : (Tryz.prog.info? 46).map (·.size) = some Z.length := by rw [hZ]; kernel_rfl
  have hlT : (Tryz.prog.info? 28).map (·.size) = some T.length := by rw [hTl]; kernel_rfl
  have hZ := a_Lib_hid hZ
  have hTl := a_Lib_hid hTl
  have F12 := a_Lib_hid F12
  clear hr hT
  go_enter Tryz.func5, Tryz.ntmps5
  go_upto_region 1 with (fail)
  obtain ⟨W0, hW0⟩ : ∃ W0, (w.alloc (.cells Z.toArray 46)).alloc (.cells T.toArray 28) = W0 := ⟨_, rfl⟩
  have hb0 : Below w.heap.size w W0 := by rw [← hW0]; exact ((a_Below_refl _ w).alloc (a_Nat_le_refl _) _).alloc sM _
  have hblkT : W0.heap[w.heap.size + 1]? = some (.cells T.toArray 28 (0, 0)) := by
    rw [← hW0]
    have := a_heap_alloc_last (w.alloc (.cells Z.toArray 46)) (.cells T.toArray 28)
    simpa using this
  have hblkZ : W0.heap[w.heap.size]? = some (.cells Z.toArray 46 (0, 0)) := by
    rw [← hW0]
    have h1 := a_heap_alloc_last w (.cells Z.toArray 46)
    exact (((a_Below_refl _ (w.alloc (.cells Z.toArray 46))).alloc (a_Nat_le_refl _) (.cells T.toArray 28)).block _ sM).trans h1
  rw [hW0]
  clear hW0
  have hltT : w.heap.size + 1 < W0.heap.size := (a_Array_getElemQ_eq_some_iff.1 hblkT).1
  have RA : Hid (∀ (W : World) (g : Nat) (L : List Value) (t : TypeId), W.heap[g]? = some (.cells L.toArray t (0, 0)) → W.rangeAt g 0 L) := a_Lib_hid fun W g L t hW i u hi => (cell_of hW _).trans (by rw [a_Nat_zero_add]; simpa using hi)
  have r1 := a_Lib_hid (RA.out W0 _ Z _ hblkZ)
  go_wp2_with (refine a_wpList_load_mid rfl 46 _ rfl w.heap.size 0 rfl Z _ r1.out Tryz.underlying46 rfl hlZ ?_)
  refine (F12.out W0 hb0).mono ?_
  rintro e w1 ⟨⟨b1, rfl⟩, hb1⟩
  have hB1 : Below w.heap.size w w1 := hb0.trans (hb1.mono hb0.size)
  have hZ1' := (hb1.block _ oM).trans hblkZ
  have hT1' := (hb1.block _ hltT).trans hblkT
  have hl1 : w.heap.size + 1 < w1.heap.size := a_Nat_lt_of_lt_of_le hltT hb1.size
  clear hb1 r1 F12
  cases b1 with
  | false =>
    go_wp2
    go_ret
    exact ⟨⟨_, rfl⟩, hB1⟩
  | true =>
  go_wp2_with fail
  refine (HV.out w1 hB1).mono ?_
  rintro e w2 ⟨⟨b2, rfl⟩, hb2⟩
  have hB2 : Below w.heap.size w w2 := hB1.trans (hb2.mono hB1.size)
  have hZ2' := (hb2.block _ oM).trans hZ1'
  have hT2' := (hb2.block _ hl1).trans hT1'
  have hl2 : w.heap.size + 1 < w2.heap.size := a_Nat_lt_of_lt_of_le hl1 hb2.size
  clear hb2 HV
  cases b2 with
  | false =>
    go_wp2
    go_ret
    exact ⟨⟨_, rfl⟩, hB2⟩
  | true =>
  have r2 := a_Lib_hid (RA.out w2 _ T _ hT2')
  go_wp2_with (refine wpList_load_midg rfl 28 _ rfl (w.heap.size + 1) 0 rfl T _ r2.out Tryz.underlying28 rfl hlT ?_)
  refine (HR.out w2 hB2).mono ?_
  rintro e w3 ⟨⟨b3, rfl⟩, hb3⟩
  have hB3 : Below w.heap.size w w3 := hB2.trans (hb3.mono hB2.size)
  have hZ3' := (hb3.block _ oM).trans hZ2'
  have hl3 : w.heap.size + 1 < w3.heap.size := a_Nat_lt_of_lt_of_le hl2 hb3.size
  clear hb3 HR r2
  cases b3 with
  | false =>
    go_wp2
    go_ret
    exact ⟨⟨_, rfl⟩, hB3⟩
  | true =>
  have c8 : w3.cell? ⟨w.heap.size, 8, none⟩ = some (.slice none 0 0) := (cell_of hZ3' 8).trans (by simpa using hZ8.out)
  go_wp2_with fail
  refine (HW.out w3).mono ?_
  rintro e w4 ⟨⟨z, rfl⟩, hb4⟩
  have hB4 : Below w.heap.size w w4 := hB3.trans (hb4.mono hB3.size)
  clear hb4 c8 HW
  by_cases hz : 24 < z
  case pos =>
    have d : decide ((24 : Int) < z) = true := by simpa using hz
    go_wp2
    go_ret
    exact ⟨⟨_, rfl⟩, hB4⟩
  have d : decide ((24 : Int) < z) = false := by simpa using hz
  go_wp2_with fail
  clear d hz hZ1' hT1' hZ2' hT2' hZ3' hblkZ hblkT RA
  have hB4 := a_Lib_hid hB4
  go_loopw [7, 8] (fun n i wr => ∃ (k : Nat) (m : Int), k ≤ N ∧ n = .int .i64 m ∧ i = .int .i64 k ∧ Hid (Below w.heap.size w wr)) (fun _ i _ => N - (RowKit.intOf i).toNat)
  case atStart => exact ⟨0, 0, a_Nat_zero_le _, rfl, rfl, hB4⟩
  case round =>
    clear hB4
    obtain ⟨k, q, hk, rfl, rfl, hBr⟩ := hrel
    by_cases hlt : k < N
    case neg =>
      have p1 : decide ((k : Int) < (N : Int)) = false := by simp; omega
      go_wp2
      go_ret
      exact ⟨⟨_, rfl⟩, hBr.out⟩
    have p1 : decide ((k : Int) < (N : Int)) = true := by simp; omega
    obtain ⟨b, off, rfl, hbl, hcells⟩ := hne.out (by intro h; have := hN.out; simp [h] at this; omega)
    obtain ⟨x, hx⟩ : ∃ x, l[k]? = some x := ⟨_, a_List_getElemQ_eq_getElem (by rw [hN.out]; exact hlt)⟩
    obtain ⟨⟨va, v1, v2⟩, hc, hat⟩ := hcells k x hx
    have KC := a_Lib_hid fun (W : World) (hb : Below w.heap.size w W) => (hb.cell (p := ⟨b, off + k * 8 + 4, none⟩) hbl).trans (hc 4 _ rfl)
    clear hcells hc
    obtain ⟨xa, ya, e1, hla, hca, hna⟩ := hat.acts
    change va = _ at e1
    subst e1
    clear hat
    have hna := a_Lib_hid hna
    obtain ⟨M, hM⟩ : ∃ M, x.acts.length = M := ⟨_, rfl⟩
    rw [hM] at hla KC
    have hM := a_Lib_hid hM
    have k4 := KC.out wr hBr.out
    try dsimp only at k4
    go_wp2_with fail
    clear k4
    go_loopw [7, 9] (fun n i w' => ∃ (j : Nat) (m : Int), j ≤ M ∧ n = .int .i64 m ∧ i = .int .i64 j ∧ Hid (Below w.heap.size w w')) (fun _ i _ => M - (RowKit.intOf i).toNat)
    case atStart => exact ⟨0, q, a_Nat_zero_le _, rfl, rfl, hBr⟩
    case round =>
      clear hBr
      obtain ⟨j, q', hj, rfl, rfl, hBj⟩ := hrel
      have k4 := KC.out wr hBj.out
      try dsimp only at k4
      by_cases hltj : j < M
      case neg =>
        have p2 : decide ((j : Int) < (M : Int)) = false := by simp; omega
        go_wp2
        go_roundw
        case rel => exact ⟨k + 1, q', oM, rfl, by go_num, hBj⟩
        case measure => simp [RowKit.intOf]; omega
      have p2 : decide ((j : Int) < (M : Int)) = true := by simp; omega
      obtain ⟨bj, offj, rfl, hblj, hcj⟩ := hna.out (by intro h; have := hM.out; simp [h] at this; omega)
      obtain ⟨y, hy⟩ : ∃ y, x.acts[j]? = some y := ⟨_, a_List_getElemQ_eq_getElem (by rw [hM.out]; exact hltj)⟩
      obtain ⟨sx, hcy, haty⟩ := hcj j y hy
      have HA := a_Lib_hid fun (W : World) (hb : Below w.heap.size w W) => (haty.below hb (a_Nat_le_refl _)).mono hb.size
      obtain ⟨LL, hLL⟩ : ∃ LL, [strV y.change.entry.id, sx.vn] = LL := ⟨_, rfl⟩
      have hrg : wr.rangeAt bj (offj + j * 37 + 3) LL := fun i u hi => by
        rw [← hLL] at hi
        rcases i with _ | _ | i
        · exact (hBj.out.cell (p := ⟨bj, offj + j * 37 + 3, none⟩) hblj).trans (hcy 3 _ hi)
        · exact (hBj.out.cell (p := ⟨bj, offj + j * 37 + 4, none⟩) hblj).trans (hcy 4 _ hi)
        · simp at hi
      have hl2' : LL.length = 2 := by rw [← hLL]; rfl
      have hi62 : (Tryz.prog.info? 62).map (·.size) = some LL.length := by rw [hl2']; kernel_rfl
      have hLL := a_Lib_hid hLL
      have hrg := a_Lib_hid hrg
      clear hcj hcy haty hy
      go_wp2_with (refine a_wpList_load_mid rfl 62 _ rfl bj (offj + j * 37 + 3) rfl LL _ hrg.out Tryz.underlying62 rfl hi62 ?_)
      rw [fold_new LL _ (by rw [hl2']; rfl)]
      have hbW : Below w.heap.size w (wr.alloc (.cells LL.toArray 62)) := hBj.out.alloc hBj.out.size _
      have F := words46_any (.slice (some ⟨wr.heap.size, 0, none⟩) 1 1) [y.change.entry] (wr.alloc (.cells LL.toArray 62)) ⟨some ⟨wr.heap.size, 0, none⟩, 1, rfl, sM, dC, fun _ => ⟨wr.heap.size, 0, rfl, sM, fun i e he => by
        rcases i with _ | i
        · simp at he
          subst he
          have h0 := rng_new wr LL 62
          refine ⟨sx.vn, ?_, ?_, (HA.out _ hbW).names⟩
          · have := h0 0 (strV y.change.entry.id) (by rw [← hLL.out]; rfl)
            simpa using this
          · have := h0 1 sx.vn (by rw [← hLL.out]; rfl)
            simpa using this
        · simp at he⟩⟩
      refine F.mono ?_
      rintro e w5 ⟨⟨z', rfl⟩, hb5⟩
      have hB5 := a_Lib_hid (hbW.trans (hb5.mono hbW.size))
      clear F hb5 k4 hbW
      go_wp2
      go_roundw
      case rel => exact ⟨j + 1, _, oM, rfl, by go_num, hB5⟩
      case measure => simp [RowKit.intOf]; omega
end Go.Proofs.YtnfcjgfaecihbaaGreatDoor
