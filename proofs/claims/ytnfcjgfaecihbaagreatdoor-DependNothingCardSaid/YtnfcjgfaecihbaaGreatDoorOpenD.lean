/- A trade among the arguments, out of its data. -/
import Derived.Test.YtnfcjgfaecihbaaGreatDoorFwB
set_option linter.all false
set_option linter.all false
namespace Go.Proofs.YtnfcjgfaecihbaaGreatDoor
open Go.RowKit Go.Lib Go.Shelf Go.Sort Go.Deep Go.WideShapes
section
variable {H : Type} {enc : TypeId × Value → H} {w : World} {spare : Nat → Bool} {held : Bool}
theorem open_roles {k : Nat} {cs : List Value} {y : DataW H × List MemPlace} (h : DataW.trod enc Tryz.prog w 0 spare held k 23 cs = some y) : ∃ v rs, cs = [v] ∧ RolesAt w.heap.size w v rs := by
  obtain ⟨a, len, cap, rfl, h1, h2, h3⟩ := open_sl (C := 2) Tryz.underlying23 (by kernel_rfl) (by decide) h
  by_cases h0 : len = 0
  · subst h0
    exact ⟨_, [], rfl, ⟨a, cap, rfl, h1, h2, fun hne => absurd rfl hne⟩⟩
  · obtain ⟨b, off, rfl, hb, hx⟩ := h3 h0
    obtain ⟨rs, hl, hp⟩ := list_of (p := fun j (r : List UInt8 × Int) => w.cell? ⟨b, off + j * 2, none⟩ = some (.string ⟨r.1.toArray⟩) ∧ w.cell? ⟨b, off + j * 2 + 1, none⟩ = some (.int .i64 r.2)) len (fun j hj => by
      obtain ⟨cs', k', y', _, hlen, hc, ht⟩ := hx j hj
      obtain ⟨_, _, _, t0⟩ := open_fld Tryz.underlying98 ht 0 9 0 1 rfl (by kernel_rfl)
      obtain ⟨_, _, _, t1⟩ := open_fld Tryz.underlying98 ht 1 3 1 1 rfl (by kernel_rfl)
      match cs', hlen with
      | [c0, c1], _ =>
        obtain ⟨s, e0, _⟩ := open_s t0
        obtain ⟨n, e1, _⟩ := open_i t1
        simp at e0 e1
        subst e0 e1
        exact ⟨(s, n), hc 0 _ rfl, hc 1 _ rfl⟩)
    exact ⟨_, rs, rfl, ⟨_, cap, by rw [hl], by omega, h2, fun _ => ⟨b, off, rfl, hb, hp⟩⟩⟩
theorem open_trade {k : Nat} {cs : List Value} {y : DataW H × List MemPlace} (ht : DataW.trod enc Tryz.prog w 0 spare held k 28 cs = some y) :
    ∃ id vr an K capn product count cur units from_ to_ signed rs, cs = tradeCells id vr (.slice an K capn) product count cur units from_ to_ signed ∧ RolesAt w.heap.size w vr rs := by
  have hlen := open_len Tryz.underlying28 ht 10 (by kernel_rfl)
  obtain ⟨_, _, _, t0⟩ := open_fld Tryz.underlying28 ht 0 9 0 1 rfl (by kernel_rfl)
  obtain ⟨_, _, _, t1⟩ := open_fld Tryz.underlying28 ht 1 23 1 1 rfl (by kernel_rfl)
  obtain ⟨_, _, _, t2⟩ := open_fld Tryz.underlying28 ht 2 24 2 1 rfl (by kernel_rfl)
  obtain ⟨_, _, _, t3⟩ := open_fld Tryz.underlying28 ht 3 9 3 1 rfl (by kernel_rfl)
  obtain ⟨_, _, _, t4⟩ := open_fld Tryz.underlying28 ht 4 3 4 1 rfl (by kernel_rfl)
  obtain ⟨_, _, _, t5⟩ := open_fld Tryz.underlying28 ht 5 26 5 2 rfl (by kernel_rfl)
  obtain ⟨_, _, _, u0⟩ := open_fld Tryz.underlying26 t5 0 9 0 1 rfl (by kernel_rfl)
  obtain ⟨_, _, _, u1⟩ := open_fld Tryz.underlying26 t5 1 3 1 1 rfl (by kernel_rfl)
  obtain ⟨_, _, _, t6⟩ := open_fld Tryz.underlying28 ht 6 3 7 1 rfl (by kernel_rfl)
  obtain ⟨_, _, _, t7⟩ := open_fld Tryz.underlying28 ht 7 3 8 1 rfl (by kernel_rfl)
  obtain ⟨_, _, _, t8⟩ := open_fld Tryz.underlying28 ht 8 3 9 1 rfl (by kernel_rfl)
  obtain ⟨x0, e0, _⟩ := open_s t0
  obtain ⟨vr, rs, e1, hr⟩ := open_roles t1
  obtain ⟨an, K, capn, e2, _, _, _⟩ := open_sl (C := 1) Tryz.underlying24 (by kernel_rfl) (by decide) t2
  obtain ⟨x3, e3, _⟩ := open_s t3
  obtain ⟨x4, e4, _⟩ := open_i t4
  obtain ⟨x5, e5, _⟩ := open_s u0
  obtain ⟨x6, e6, _⟩ := open_i u1
  obtain ⟨x7, e7, _⟩ := open_i t6
  obtain ⟨x8, e8, _⟩ := open_i t7
  obtain ⟨x9, e9, _⟩ := open_i t8
  match cs, hlen with
  | [c0, c1, c2, c3, c4, c5, c6, c7, c8, c9], _ =>
    simp at e0 e1 e2 e3 e4 e5 e6 e7 e8 e9
    subst e0 e1 e2 e3 e4 e5 e6 e7 e8 e9
    exact ⟨x0, _, an, K, capn, x3, x4, x5, x6, x7, x8, x9, rs, rfl, hr⟩
end
end Go.Proofs.YtnfcjgfaecihbaaGreatDoor
