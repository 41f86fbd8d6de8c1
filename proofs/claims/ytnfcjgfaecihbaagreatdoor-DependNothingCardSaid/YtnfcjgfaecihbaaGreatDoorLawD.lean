/- DependNothing: a memo that is nil refuses everything. -/
import Derived.Test.YtnfcjgfaecihbaaGreatDoorFwD
set_option linter.all false
set_option linter.all false
namespace Go.Proofs.YtnfcjgfaecihbaaGreatDoor
open Go.RowKit Go.Lib Go.Shelf Go.Sort
def worldZero : List Value := [.slice none 0 0, .slice none 0 0, .slice none 0 0, .int .i64 0, .int .i64 0, .int .i64 0, .int .i64 0, .slice none 0 0, .slice none 0 0, .slice none 0 0, .slice none 0 0, .slice none 0 0, .string ⟨#[]⟩, .slice none 0 0, .int .i64 0, .int .i64 0, .int .i64 0]
def screenZero : List Value := [.string ⟨#[]⟩, .int .i64 0, .int .i64 0, .slice none 0 0, .slice none 0 0, .int .i64 0, .slice none 0 0, .slice none 0 0, .slice none 0 0]
structure ClosedD (w : World) : Prop where
  head : ∀ W : World, Below w.heap.size w W → Calls Tryz.prog 4 #[] W (Ret W (.bool true))
  few : ∀ W : World, Below w.heap.size w W → Calls Tryz.prog 12 #[.agg worldZero.toArray] W (Ret W (.bool true))
  same : ∀ W : World, Below w.heap.size w W → Calls Tryz.prog 7 #[.agg screenZero.toArray, .agg screenZero.toArray] W (Ret W (.bool true))
theorem res_agg_tmp {P : Program} {fn : Func} {p u : Tmp} {ty : TypeId} (h : fn.results = #[.cell p ty, .tmp u]) (tmps : Array Value) (w : World) (a : Addr) (x : Value)
    (hp : tmps.getD p undef = .pointer (some a)) (hl : (loadVar ty a).run P w = .ok x w) : (results fn tmps).run P w = .ok (.tuple #[x, tmps.getD u undef]) w := by
  simp only [results, h]
  have hp' : tmps[p]?.getD undef = .pointer (some a) := by simpa using hp
  simp [asAddr]
  rw [hp']
  simp [Result.andThen, hl]
set_option maxRecDepth 100000 in
set_option maxHeartbeats 16000000 in
theorem screenNil_any (v : Value) (T : List Value) (step at_ : Int) (w : World) (hT : T.length = 10) :
    Calls Tryz.prog 6 #[.pointer none, v, .agg T.toArray, .int .i64 step, .int .i64 at_] w (Ret w (.tuple #[.agg screenZero.toArray, .int .i64 1])) := by
  have hB0 := fun o => (Below.refl _ w).alloc (Nat.le_refl _) o
  have hT := Lib.hid hT
  go_enter Tryz.func6, Tryz.ntmps6
  go_wp2_with fail
  have hrZ : ∀ o, ((w.alloc o).alloc (.cells screenZero.toArray 53)).rangeAt (w.heap.size + 1) 0 screenZero := fun o => by
    have := rng_new (w.alloc o) screenZero 53
    simpa using this
  have hi : (Tryz.prog.info? 53).map (·.size) = some screenZero.length := by kernel_rfl
  refine bodyPost_ret (res_agg_tmp rfl _ _ ⟨w.heap.size + 1, 0, none⟩ _ rfl (run_loadVar_mid _ (w.heap.size + 1) 0 53 screenZero _ (hrZ _) Tryz.underlying53 rfl hi)) rfl ?_
  exact ⟨rfl, ((Below.refl _ w).alloc (Nat.le_refl _) _).alloc (by simp) _⟩
set_option maxRecDepth 100000 in
theorem workNil_any (w : World) : Calls Tryz.prog 8 #[.pointer none] w (Ret w (.int .i64 0)) := by
  go_enter Tryz.func8, Tryz.ntmps8
  go_wp2
  go_ret
  exact ⟨rfl, Below.refl _ _⟩
set_option maxRecDepth 100000 in
set_option maxHeartbeats 16000000 in
theorem dependNothing_any (v vr : Value) (l : List CH.Version) (id product cur : List UInt8) (rs : List (List UInt8 × Int)) (an : Option Addr) (K capn : Nat) (count units from_ to_ signed step at_ : Int) (w : World)
    (hv : VersRaw w.heap.size w v l) (hr : RolesAt w.heap.size w vr rs) (hC : ClosedD w) :
    Calls Tryz.prog 3 #[v, .agg (tradeCells id vr (.slice an K capn) product count cur units from_ to_ signed).toArray, .int .i64 step, .int .i64 at_] w (Ret w (.bool true)) := by
  have HF := Lib.hid fun (W : World) (hb : Below w.heap.size w W) => few46_any worldZero v vr l id product cur rs an K capn count units from_ to_ signed W (versRaw_at hv hb hb.size) (roles_at hr hb hb.size) rfl rfl (by kernel_rfl) fun W' hb' => ((hC.few W' (hb.trans (hb'.mono hb.size))).mono fun e w' h => ⟨⟨true, h.1⟩, h.2⟩)
  have HH := Lib.hid hC.head
  have HS := Lib.hid hC.same
  clear hC hv
  obtain ⟨T, hT⟩ : ∃ T, tradeCells id vr (.slice an K capn) product count cur units from_ to_ signed = T := ⟨_, rfl⟩
  have hTl : T.length = 10 := by rw [← hT]; rfl
  rw [hT] at HF ⊢
  have hlT : (Tryz.prog.info? 28).map (·.size) = some T.length := by rw [hTl]; kernel_rfl
  have HN := Lib.hid fun (W : World) => screenNil_any v T step at_ W hTl
  have hTl := Lib.hid hTl
  clear hr hT
  go_enter Tryz.func3, Tryz.ntmps3
  go_wp2_with fail
  have hb0 : Below w.heap.size w (w.alloc (.cells T.toArray 28)) := (Below.refl _ w).alloc (Nat.le_refl _) _
  have hblk : (w.alloc (.cells T.toArray 28)).heap[w.heap.size]? = some (.cells T.toArray 28 (0, 0)) := heap_alloc_last w _
  generalize w.alloc (.cells T.toArray 28) = W0 at *
  have hlt : w.heap.size < W0.heap.size := (Array.getElem?_eq_some_iff.1 hblk).1
  have RA : Hid (∀ (W : World), W.heap[w.heap.size]? = some (.cells T.toArray 28 (0, 0)) → W.rangeAt w.heap.size 0 T) := Lib.hid fun W hW i u hi => (cell_of hW _).trans (by rw [Nat.zero_add]; simpa using hi)
  refine (HH.out W0 hb0).mono ?_
  rintro e w1 ⟨rfl, hb1⟩
  have hB1 : Below w.heap.size w w1 := hb0.trans (hb1.mono hb0.size)
  have hk1 := (hb1.block _ hlt).trans hblk
  have hl1 : w.heap.size < w1.heap.size := Nat.lt_of_lt_of_le hlt hb1.size
  clear hb1 HH
  have r1 := Lib.hid (RA.out w1 hk1)
  go_wp2_with (refine wpList_load_mid rfl 28 _ rfl w.heap.size 0 rfl T _ r1.out Tryz.underlying28 rfl hlT ?_)
  refine (HF.out w1 hB1).mono ?_
  rintro e w2 ⟨⟨b, rfl⟩, hb2⟩
  have hB2 : Below w.heap.size w w2 := hB1.trans (hb2.mono hB1.size)
  have hk2 := (hb2.block _ hl1).trans hk1
  have hl2 : w.heap.size < w2.heap.size := Nat.lt_of_lt_of_le hl1 hb2.size
  clear hb2 HF r1 hk1 hblk
  cases b with
  | false =>
    go_wp2
    go_ret
    exact ⟨rfl, hB2⟩
  | true =>
    have r2 := Lib.hid (RA.out w2 hk2)
    clear RA
    go_wp2_with (refine wpList_load_mid rfl 28 _ rfl w.heap.size 0 rfl T _ r2.out Tryz.underlying28 rfl hlT ?_)
    refine (HN.out w2).mono ?_
    rintro e w3 ⟨rfl, hb3⟩
    have hB3 : Below w.heap.size w w3 := hB2.trans (hb3.mono hB2.size)
    clear hb3 HN r2 hk2
    have hi : (Tryz.prog.info? 53).map (·.size) = some screenZero.length := by kernel_rfl
    have h1 : ∀ u ∈ screenZero, u.oneCell' = true := List.all_eq_true.1 (by rfl)
    have hb4 : Below w3.heap.size w3 (w3.alloc (.cells screenZero.toArray 53)) := (Below.refl _ w3).alloc (Nat.le_refl _) _
    have hB4 : Below w.heap.size w (w3.alloc (.cells screenZero.toArray 53)) := hB3.trans (hb4.mono hB3.size)
    have r4 := Lib.hid (rng_new w3 screenZero 53)
    have F := HS.out _ hB4
    clear HS
    go_wp2_with (first | refine wpList_store_new rfl 53 _ _ rfl screenZero rfl rfl (by rfl) hi h1 ?_ | refine wpList_load_midg rfl 53 _ rfl w3.heap.size 0 rfl screenZero _ r4.out Tryz.underlying53 rfl hi ?_)
    refine F.mono ?_
    rintro e w5 ⟨rfl, hb5⟩
    have hB5 : Below w.heap.size w w5 := hB4.trans (hb5.mono hB4.size)
    clear F hb5 r4
    go_wp2_with fail
    refine (workNil_any w5).mono ?_
    rintro e w6 ⟨rfl, hb6⟩
    go_wp2
    go_ret
    exact ⟨rfl, hB5.trans (hb6.mono hB5.size)⟩
end Go.Proofs.YtnfcjgfaecihbaaGreatDoor
