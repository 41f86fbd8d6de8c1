/- Sizes of layer 44: FewVersions. -/
import Derived.Test.YtnfcjgfaecihbaaGreatDoorFwB
import Derived.Deep.Cut
set_option linter.all false
set_option linter.all false
namespace Go.Proofs.YtnfcjgfaecihbaaGreatDoor
open Go.RowKit Go.Lib Go.Shelf Go.Sort
set_option maxRecDepth 100000 in
set_option maxHeartbeats 16000000 in
theorem fewVersions_any (v : Value) (l : List CH.Version) (w : World) (hv : VersRaw w.heap.size w v l) :
    Calls Tryz.prog 13 #[v, .int .i64 8] w (RetB w) := by
  obtain ⟨a, cap, rfl, hl, hcap, hne⟩ := hv
  have hne := a_Lib_hid hne
  obtain ⟨N, hN⟩ : ∃ N, l.length = N := ⟨_, rfl⟩
  rw [hN] at hl ⊢
  have hN := a_Lib_hid hN
  by_cases h8 : N ≤ 8
  case neg =>
    have q8 : decide ((8 : Int) < (N : Int)) = true := by simp; omega
    go_enter Tryz.func13, Tryz.ntmps13
    go_wp2
    go_ret
    exact ⟨⟨_, rfl⟩, a_Below_refl _ _⟩
  have q8 : decide ((8 : Int) < (N : Int)) = false := by simp; omega
  go_enter Tryz.func13, Tryz.ntmps13
  go_wp2_with fail
  go_loopw [5] (fun i wr => ∃ k : Nat, k ≤ N ∧ i = .int .i64 k ∧ Hid (Below w.heap.size w wr)) (fun i _ => N - (RowKit.intOf i).toNat)
  case atStart => exact ⟨0, a_Nat_zero_le _, rfl, a_Lib_hid (a_Below_refl _ _)⟩
  case round =>
    obtain ⟨k, hk, rfl, hBr⟩ := hrel
    by_cases hlt : k < N
    · have p1 : decide ((k : Int) < (N : Int)) = true := by simp; omega
      obtain ⟨b, off, rfl, hbl, hcells⟩ := hne.out (by intro h; have := hN.out; simp [h] at this; omega)
      obtain ⟨x, hx⟩ : ∃ x, l[k]? = some x := ⟨_, a_List_getElemQ_eq_getElem (by rw [hN.out]; exact hlt)⟩
      obtain ⟨⟨va, v1, v2⟩, hc, hat⟩ := hcells k x hx
      have KC := a_Lib_hid fun (W : World) (hb : Below w.heap.size w W) (i : Nat) (u : Value) (hi : (verCells x ⟨va, v1, v2⟩)[i]? = some u) => (hb.cell (p := ⟨b, off + k * 8 + i, none⟩) hbl).trans (hc i u hi)
      clear hcells hc
      obtain ⟨xa, ya, e1, hla, hca, hna⟩ := hat.acts
      obtain ⟨x1, y1, e2, _, _⟩ := hat.sig.form
      obtain ⟨x2, y2, e3, _, _⟩ := hat.path.form
      change va = _ at e1
      change v1 = _ at e2
      change v2 = _ at e3
      subst e1 e2 e3
      clear hat
      have hna := a_Lib_hid hna
      obtain ⟨M, hM⟩ : ∃ M, x.acts.length = M := ⟨_, rfl⟩
      rw [hM] at hla KC
      have hM := a_Lib_hid hM
      generalize x.sel.sig.length = n1 at *
      generalize x.sel.path.length = n2 at *
      obtain ⟨n3, hn3⟩ : ∃ m, x.prev.length = m := ⟨_, rfl⟩
      have k3 := KC.out wr hBr.out 3 _ rfl
      have k4 := KC.out wr hBr.out 4 _ rfl
      have k6 := KC.out wr hBr.out 6 _ rfl
      have k7 := KC.out wr hBr.out 7 _ rfl
      try dsimp only at k3
      try dsimp only at k4
      try dsimp only at k6
      try dsimp only at k7
      by_cases h5 : M ≤ 5
      case neg =>
        have q1 : decide ((5 : Int) < (M : Int)) = true := by simp; omega
        go_wp2
        go_ret
        exact ⟨⟨_, rfl⟩, hBr.out⟩
      have q1 : decide ((5 : Int) < (M : Int)) = false := by simp; omega
      by_cases h60 : n3 ≤ 60
      case neg =>
        have q2 : decide ((60 : Int) < (n3 : Int)) = true := by simp; omega
        go_wp2
        go_ret
        exact ⟨⟨_, rfl⟩, hBr.out⟩
      have q2 : decide ((60 : Int) < (n3 : Int)) = false := by simp; omega
      by_cases h30 : n1 ≤ 30
      case neg =>
        have q3 : decide ((30 : Int) < (n1 : Int)) = true := by simp; omega
        go_wp2
        go_ret
        exact ⟨⟨_, rfl⟩, hBr.out⟩
      have q3 : decide ((30 : Int) < (n1 : Int)) = false := by simp; omega
      by_cases h30' : n2 ≤ 30
      case neg =>
        have q4 : decide ((30 : Int) < (n2 : Int)) = true := by simp; omega
        go_wp2
        go_ret
        exact ⟨⟨_, rfl⟩, hBr.out⟩
      have q4 : decide ((30 : Int) < (n2 : Int)) = false := by simp; omega
      go_wp2_with fail
      clear k3 k4 k6 k7 q1 q2 q3 q4
      go_loopw [6] (fun i w' => ∃ j : Nat, j ≤ M ∧ i = .int .i64 j ∧ Hid (Below w.heap.size w w')) (fun i _ => M - (RowKit.intOf i).toNat)
      case atStart => exact ⟨0, a_Nat_zero_le _, rfl, hBr⟩
      case round =>
        clear hBr
        obtain ⟨j, hj, rfl, hBj⟩ := hrel
        have k4 := KC.out wr hBj.out 4 _ rfl
        try dsimp only at k4
        by_cases hltj : j < M
        case neg =>
          have p2 : decide ((j : Int) < (M : Int)) = false := by simp; omega
          go_wp2
          go_roundw
          case rel => exact ⟨k + 1, oM, by go_num, hBj⟩
          case measure => simp [RowKit.intOf]; omega
        have p2 : decide ((j : Int) < (M : Int)) = true := by simp; omega
        obtain ⟨bj, offj, rfl, hblj, hcj⟩ := hna.out (by intro h; have := hM.out; simp [h] at this; omega)
        obtain ⟨y, hy⟩ : ∃ y, x.acts[j]? = some y := ⟨_, a_List_getElemQ_eq_getElem (by rw [hM.out]; exact hltj)⟩
        obtain ⟨sx, hcy, haty⟩ := hcj j y hy
        have hrg : wr.rangeAt bj (offj + j * 37) (actCells y sx) := fun i u hi => (hBj.out.cell (p := ⟨bj, offj + j * 37 + i, none⟩) hblj).trans (hcy i u hi)
        have hlen : (Tryz.prog.info? 91).map (·.size) = some (actCells y sx).length := kR
        have h1c := a_Lib_hid (actCells_oneR haty)
        have hlenA : (actCells y sx).length = 37 := rfl
        have HA := a_Lib_hid fun (W : World) (hb : Below w.heap.size w W) => (haty.below hb (a_Nat_le_refl _)).mono hb.size
        clear hcj hcy haty hy
        obtain ⟨vn, vk, vm, vp, vj⟩ := sx
        have n35 : (actCells y ⟨vn, vk, vm, vp, vj⟩)[35]? = some (.string ⟨y.id.toArray⟩) := rfl
        have n2' : (actCells y ⟨vn, vk, vm, vp, vj⟩)[2]? = some (.string ⟨y.change.id.toArray⟩) := rfl
        have n6 : (actCells y ⟨vn, vk, vm, vp, vj⟩)[6]? = some (.string ⟨y.measure.id.toArray⟩) := rfl
        have n7 : (actCells y ⟨vn, vk, vm, vp, vj⟩)[7]? = some (.string ⟨y.measure.authority.toArray⟩) := rfl
        have n9 : (actCells y ⟨vn, vk, vm, vp, vj⟩)[9]? = some (.string ⟨y.measure.target.toArray⟩) := rfl
        generalize hC : actCells y { vn := vn, vk := vk, vm := vm, vp := vp, vj := vj } = C at *
        have hrg := a_Lib_hid hrg
        have hC := a_Lib_hid hC
        go_upto_region 12 with (first | refine a_wpList_load_mid rfl 91 _ rfl bj (offj + j * 37) rfl C _ hrg.out Tryz.underlying91 rfl hlen ?_ | refine wpList_store_new rfl 91 _ _ rfl C rfl rfl (by rw [hlenA]; rfl) hlen h1c.out ?_)
        have hb0 : Below w.heap.size w (wr.alloc (.cells C.toArray 91)) := hBj.out.alloc hBj.out.size _
        have hblk : (wr.alloc (.cells C.toArray 91)).heap[wr.heap.size]? = some (.cells C.toArray 91 (0, 0)) := a_heap_alloc_last wr _
        generalize wr.alloc (.cells C.toArray 91) = W1 at *
        have hlt1 : wr.heap.size < W1.heap.size := (a_Array_getElemQ_eq_some_iff.1 hblk).1
        have CC : Hid (∀ (W : World), W.heap[wr.heap.size]? = some (.cells C.toArray 91 (0, 0)) → ∀ (i : Nat) (u : Value), C[i]? = some u → W.cell? ⟨wr.heap.size, i, none⟩ = some u) := a_Lib_hid fun W hW i u hu => (cell_of hW i).trans (by simpa using hu)
        clear hrg k4
        have RB : Hid (∀ (W : World), W.heap[wr.heap.size]? = some (.cells C.toArray 91 (0, 0)) → W.rangeAt wr.heap.size 3 [strV y.change.entry.id, vn] ∧ W.rangeAt wr.heap.size 10 (formulaCells y.measure.when_ vk).toList ∧ W.rangeAt wr.heap.size 18 (licCells y.licence vm vp) ∧ W.rangeAt wr.heap.size 25 (holdCells y.holding vj)) := a_Lib_hid fun W hW => by
          have h0 : W.rangeAt wr.heap.size 0 (actCells y { vn := vn, vk := vk, vm := vm, vp := vp, vj := vj }) := fun i u hi => by
            rw [hC.out] at hi
            rw [a_Nat_zero_add]
            exact CC.out W hW i u hi
          have q1 := rng_right (l := [intV y.kind]) h0 1 rfl
          have q2 := rng_right (l := changeCells y.change vn) q1 6 rfl
          have q3 := rng_right (l := measureCells y.measure vk) q2 18 rfl
          have q4 := rng_right (l := licCells y.licence vm vp) q3 25 rfl
          have q5 := rng_left (l := measureCells y.measure vk) q2
          have q6 := rng_right (l := [strV y.measure.id, strV y.measure.authority, intV y.measure.kind, strV y.measure.target]) (m := (formulaCells y.measure.when_ vk).toList ++ [intV y.measure.start, intV y.measure.until_, intV y.measure.wind]) q5 10 rfl
          have q7 := rng_left (l := changeCells y.change vn) q1
          have q8 := rng_right (l := [.int .i64 y.change.kind, .string ⟨y.change.id.toArray⟩]) (m := [strV y.change.entry.id, vn, .int .i64 y.change.pos]) q7 3 rfl
          have q9 := rng_left (l := [strV y.change.entry.id, vn]) (m := [.int .i64 y.change.pos]) q8
          exact ⟨q9, rng_left q6, rng_left q3, rng_left q4⟩
        have F1 := a_Lib_hid (small_any y.change.entry.id y.change.entry.names vn W1 (HA.out W1 hb0).names)
        have F2 := a_Lib_hid fun (W : World) (hb : Below w.heap.size w W) => nodes_any y.measure.when_.depth y.measure.when_ vk 60 W (a_Nat_le_refl _) (HA.out W hb).kids dC dC
        have F3 := a_Lib_hid fun (W : World) (hb : Below w.heap.size w W) => licShort_any y.licence vm vp W (HA.out W hb).lm (HA.out W hb).lp
        obtain ⟨r1, _, _, _⟩ := RB.out W1 hblk
        have r1 := a_Lib_hid r1
        have hi62 : (Tryz.prog.info? 62).map (·.size) = some 2 := kR
        have hi75 : (Tryz.prog.info? 75).map (·.size) = some 5 := kR
        have hi87 : (Tryz.prog.info? 87).map (·.size) = some 7 := kR
        have hi89 : (Tryz.prog.info? 89).map (·.size) = some 10 := kR
        go_wp2_with (refine a_wpList_load_mid rfl 62 _ rfl wr.heap.size 3 rfl [strV y.change.entry.id, vn] _ r1.out Tryz.underlying62 rfl hi62 ?_)
        refine F1.out.mono ?_
        rintro e w3 ⟨⟨b1, rfl⟩, hb3⟩
        have hblk3 := (hb3.block _ hlt1).trans hblk
        have hbW3 : Below w.heap.size w w3 := hb0.trans (hb3.mono hb0.size)
        have hlt3 : wr.heap.size < w3.heap.size := a_Nat_lt_of_lt_of_le hlt1 hb3.size
        clear F1 r1 hb3
        cases b1 with
        | false =>
          go_wp2
          go_ret
          exact ⟨⟨_, rfl⟩, hbW3⟩
        | true =>
          obtain ⟨_, r2, _, _⟩ := RB.out w3 hblk3
          have r2 := a_Lib_hid r2
          go_wp2_with (refine wpList_load_midg rfl 75 _ rfl wr.heap.size 10 rfl (formulaCells y.measure.when_ vk).toList _ r2.out Tryz.underlying75 rfl hi75 ?_)
          refine (F2.out w3 hbW3).mono ?_
          rintro e w4 ⟨⟨z, hz1, hz2, rfl⟩, hb4⟩
          have hblk4 := (hb4.block _ hlt3).trans hblk3
          have hbW4 : Below w.heap.size w w4 := hbW3.trans (hb4.mono hbW3.size)
          have hlt4 : wr.heap.size < w4.heap.size := a_Nat_lt_of_lt_of_le hlt3 hb4.size
          clear F2 r2 hb4
          by_cases hz : 60 < z
          case pos =>
            have d : decide ((60 : Int) < z) = true := by simpa using hz
            go_wp2
            go_ret
            exact ⟨⟨_, rfl⟩, hbW4⟩
          have d : decide ((60 : Int) < z) = false := by simpa using hz
          obtain ⟨_, _, r3, _⟩ := RB.out w4 hblk4
          have r3 := a_Lib_hid r3
          go_wp2_with (refine wpList_load_midg rfl 87 _ rfl wr.heap.size 18 rfl (licCells y.licence vm vp) _ r3.out Tryz.underlying87 rfl hi87 ?_)
          refine (F3.out w4 hbW4).mono ?_
          rintro e w5 ⟨⟨b3, rfl⟩, hb5⟩
          have hblk5 := (hb5.block _ hlt4).trans hblk4
          have hbW5 : Below w.heap.size w w5 := hbW4.trans (hb5.mono hbW4.size)
          have hlt5 : wr.heap.size < w5.heap.size := a_Nat_lt_of_lt_of_le hlt4 hb5.size
          clear F3 r3 hb5 d
          cases b3 with
          | false =>
            go_wp2
            go_ret
            exact ⟨⟨_, rfl⟩, hbW5⟩
          | true =>
            obtain ⟨_, _, _, r4⟩ := RB.out w5 hblk5
            generalize hLL : holdCells y.holding vj = LL at *
            have hlen10 : LL.length = 10 := by rw [← hLL]; rfl
            have hLL := a_Lib_hid hLL
            have hi89' : (Tryz.prog.info? 89).map (·.size) = some LL.length := by rw [hlen10]; exact hi89
            have r4 := a_Lib_hid r4
            go_wp2_with (refine wpList_load_midg rfl 89 _ rfl wr.heap.size 25 rfl LL _ r4.out Tryz.underlying89 rfl hi89' ?_)
            rw [fold_new LL _ (by rw [hlen10]; rfl)]
            have hbb : Below w5.heap.size w5 (w5.alloc (.cells LL.toArray 89)) := (a_Below_refl _ w5).alloc (a_Nat_le_refl _) _
            have hbW8 : Below w.heap.size w (w5.alloc (.cells LL.toArray 89)) := hbW5.trans (hbb.mono hbW5.size)
            have hblk8 := (hbb.block _ hlt5).trans hblk5
            have hlt8 : wr.heap.size < (w5.alloc (.cells LL.toArray 89)).heap.size := a_Nat_lt_of_lt_of_le hlt5 hbb.size
            have F6 := a_Lib_hid (fewHold_any (.slice (some ⟨w5.heap.size, 0, none⟩) 1 1) y.holding (w5.alloc (.cells LL.toArray 89)) ⟨w5.heap.size, vj, rfl, sM, fun i u hi => by
              rw [hLL.out] at hi
              have := rng_new w5 LL 89 i u hi
              rwa [a_Nat_zero_add] at this, (HA.out _ hbW8).hj⟩)
            refine F6.out.mono ?_
            generalize CH.fewHold y.holding = b6
            rintro e w8 ⟨rfl, hb8⟩
            have hblk9 := (hb8.block _ hlt8).trans hblk8
            have hbW9 : Below w.heap.size w w8 := hbW8.trans (hb8.mono hbW8.size)
            clear F6 hb8 hbb r4
            have k35 := CC.out w8 hblk9 35 _ n35
            have k2 := CC.out w8 hblk9 2 _ n2'
            have k6 := CC.out w8 hblk9 6 _ n6
            have k7 := CC.out w8 hblk9 7 _ n7
            have k9 := CC.out w8 hblk9 9 _ n9
            cases b6 with
            | false =>
              go_wp2
              go_ret
              exact ⟨⟨_, rfl⟩, hbW9⟩
            | true =>
              obtain ⟨m1, hm1⟩ : ∃ m, y.id.length = m := ⟨_, rfl⟩
              obtain ⟨m2, hm2⟩ : ∃ m, y.change.id.length = m := ⟨_, rfl⟩
              obtain ⟨m3, hm3⟩ : ∃ m, y.measure.id.length = m := ⟨_, rfl⟩
              obtain ⟨m4, hm4⟩ : ∃ m, y.measure.authority.length = m := ⟨_, rfl⟩
              obtain ⟨m5, hm5⟩ : ∃ m, y.measure.target.length = m := ⟨_, rfl⟩
              by_cases h1 : m1 ≤ 60
              case neg =>
                have q1 : decide ((60 : Int) < (m1 : Int)) = true := by simp; omega
                go_wp2
                go_ret
                exact ⟨⟨_, rfl⟩, hbW9⟩
              have q1 : decide ((60 : Int) < (m1 : Int)) = false := by simp; omega
              by_cases h2 : m2 ≤ 60
              case neg =>
                have q2 : decide ((60 : Int) < (m2 : Int)) = true := by simp; omega
                go_wp2
                go_ret
                exact ⟨⟨_, rfl⟩, hbW9⟩
              have q2 : decide ((60 : Int) < (m2 : Int)) = false := by simp; omega
              clear CC RB HA KC
              go_wp2_with fail
              · go_ret
                exact ⟨⟨_, rfl⟩, hbW9⟩
              · exact ⟨⟨j + 1, oM, by go_num, a_Lib_hid hbW9⟩, by simp [RowKit.intOf]; omega⟩
    · have p1 : decide ((k : Int) < (N : Int)) = false := by simp; omega
      go_wp2
      go_ret
      exact ⟨⟨_, rfl⟩, hBr.out⟩
end Go.Proofs.YtnfcjgfaecihbaaGreatDoor
