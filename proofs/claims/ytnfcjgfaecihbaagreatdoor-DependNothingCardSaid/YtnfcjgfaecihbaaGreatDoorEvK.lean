/- EvK: calls, builtin calls, and all operations. -/
import Derived.Test.YtnfcjgfaecihbaaGreatDoorEvJ
set_option linter.unusedVariables false
set_option linter.unusedSimpArgs false
set_option linter.unusedSectionVars false
set_option linter.constructorNameAsVariable false
namespace Go.Ev
open Go
section
variable {P : Program} {ρ : Ren} {h : Heap} {w : World}
theorem digits_size : ∀ (n t : Nat) (acc : Array Value), (Extern.BytealgMakeNoZero.digits n t acc).size = acc.size + n
  | 0, _, acc => rfl
  | n + 1, t, acc => by
    unfold Extern.BytealgMakeNoZero.digits
    rw [digits_size n]; simp; omega
theorem ext_ok (hs : Sim ρ h w) {f : FuncId} {fn : Func} (hf : P.funcs[f]? = some fn) (hn : (fn.name == "runtime.NumGoroutine") = false) (hb : fn.body = none) {args args' : List Value} (ha : VRL ρ args args') :
    OpSpec P ρ h w ((extK P fn).f args h) ((callFunc f ⟨args'⟩).run P w) := by
  have hcall : ∀ e, Extern.findNext fn = none → Extern.find fn = some e → (callFunc f ⟨args'⟩).run P w = (do let v ← e ⟨args'⟩; pure (.value v) : Sem Next).run P w := by
    intro e h1 h2
    unfold callFunc
    simp only [Sem.run_bind, run_program, Result.andThen_ok, hf, hn, Bool.false_eq_true, if_false, hb, Option.isNone_none, if_true, run_mark, h1, h2]
  unfold extK
  split
  · rename_i e h1 h2
    rw [hcall e h1 h2]
    cases hname : (fn.name == "internal/abi.NoEscape") with
    | true =>
      simp only [cond_true]
      have := find_noEscape (by simpa using hname) h2
      subst this
      split
      · rename_i p
        cases ha with
        | cons h hl =>
          cases hl
          exact .ofV (.same hs rfl h)
      · trivial
    | false =>
      simp only [cond_false]
      cases hname2 : (fn.name == "internal/bytealg.MakeNoZero") with
      | true =>
        simp only [cond_true]
        have := find_makeNoZero (by simpa using hname2) h2
        subst this
        split
        · rename_i t u ht
          split
          · rename_i el hu
            simp only []
            split
            · rename_i n
              cases hle : Nat.ble n 1000000 with
              | false => trivial
              | true =>
                simp only [cond_true]
                have hn6 := Nat.le_of_ble_eq_true hle
                cases ha with
                | cons h hl =>
                  cases hl
                  have := int_inv h; subst this
                  obtain ⟨q, hq, hch⟩ := draw_cap (P := P) (w := w) n 0 el
                  have h0 : fn.resultTypes[0]? = some t := by
                    rw [← Array.getElem?_toList, ht]; rfl
                  obtain ⟨bs, hbs⟩ : ∃ bs, (choose (.extern "internal/bytealg.MakeNoZero.bytes" 0)).run P (drawn1 w) = .ok bs (drawn1 (drawn1 w)) := ⟨_, by rw [run_choose]; rfl⟩
                  have hdig := digits_size q bs #[]
                  refine .ofV (newOpen0_ok (w1 := drawn1 (drawn1 w)) hs .nil hq (m := (Extern.BytealgMakeNoZero.digits q bs #[]).toList) (by simp [hdig]) rfl rfl rfl rfl ?_)
                  have htn : (Int.ofNat n).toNat = n := rfl
                  have hneg : (decide (Int.ofNat n < 0) || decide (Int.ofNat n > 2 ^ 48)) = false := by
                    simp; omega
                  have hdef : Extern.BytealgMakeNoZero.makeNoZero fn.params fn.resultTypes ⟨[.int .i64 (.ofNat n)]⟩ = (do
                      let some t := fn.resultTypes[0]? | stuck "bytealg.MakeNoZero: no result type"
                      let .slice elem ← underlying t | stuck "bytealg.MakeNoZero: slice type expected"
                      if (decide (Int.ofNat n < 0) || decide (Int.ofNat n > 2 ^ 48)) = true then runtimePanic (.error "makeslice: len out of range")
                      let cap ← choose (.appendCap (Int.ofNat n).toNat 0 elem)
                      askRoom cap
                      let bytes ← choose (.extern "internal/bytealg.MakeNoZero.bytes" 0)
                      let a ← newRow elem (Extern.BytealgMakeNoZero.digits cap bytes #[])
                      pure (.slice (some a) (Int.ofNat n).toNat cap) : Sem Value) := rfl
                  rw [hdef]
                  simp only [Sem.run_bind, h0, und_run hu w, Result.andThen_ok, hneg, Bool.false_eq_true, if_false, htn, hch, run_askRoom, hbs]
                  simp [newRow]
                  rfl
            · trivial
          · trivial
        · trivial
      | false =>
        simp only [cond_false]
        cases hfl : flatL args with
        | false => trivial
        | true =>
          have := ha.flat hfl; subst this
          exact .ofV (.pvf hs fun v hv => pureP_run _ hv)
  · trivial
theorem callK_ok (hs : Sim ρ h w) (f : FuncId) {args args' : List Value} (ha : VRL ρ args args') : OpSpec P ρ h w ((callK P f).f args h) ((callFunc f ⟨args'⟩).run P w) := by
  unfold callK
  split
  · trivial
  · rename_i fn hf
    cases hn : (fn.name == "runtime.NumGoroutine") with
    | true => trivial
    | false =>
      simp only [cond_false]
      split
      · rename_i c hb
        refine ⟨args', ?_, rfl, ha⟩
        unfold callFunc
        simp only [Sem.run_bind, run_program, Result.andThen_ok, hf, hn, Bool.false_eq_true, if_false, hb, Option.isNone_some]
        rfl
      · rename_i hb
        exact ext_ok hs hf hn hb ha
theorem callS_ok (hs : Sim ρ h w) {f f' : Value} {args args' : List Value} (hf : VR ρ f f') (ha : VRL ρ args args') : OpSpec P ρ h w (callS P f args h) ((do let d ← Deferred.ofValue f' ⟨args'⟩; invoke d.target d.args : Sem Next).run P w) := by
  unfold callS
  split
  · rename_i g first cap
    cases hf with
    | func _ h1 h2 =>
      have := callK_ok (P := P) hs g (app3 h1 ha h2)
      simpa [Deferred.ofValue, invoke] using this
  · rename_i l
    cases hf with
    | yield hr =>
      refine ⟨_, args', rfl, hr, ?_, ha⟩
      simp [Deferred.ofValue, invoke]
  · trivial
theorem sliceV_inv {a : Addr} {n c : Nat} {v' : Value} (hx : VR ρ (.slice (some a) n c) v') : ∃ b off r cap', a = ⟨b, off, none⟩ ∧ ρ b = some r ∧ v' = .slice (some ⟨r.id, off, none⟩) n cap' ∧
    ((c < many ∧ cap' = c) ∨ (∃ c0, c = many + c0 ∧ c0 ≤ cap' ∧ off + cap' * r.k ≤ r.size)) := by
  cases hx with
  | slice off len cap h hc => exact ⟨_, _, _, _, rfl, h, rfl, .inl ⟨hc, rfl⟩⟩
  | sliceO off len c c' h hc hs => exact ⟨_, _, _, _, rfl, h, rfl, .inr ⟨c, rfl, hc, hs⟩⟩
theorem Turn.spent (hs : Sim ρ h w) {b : Nat} {o1 : Ob} {r : RB} (hb : h.get b = some o1) (hr : ρ b = some r) (hg : gBase ≤ b) {w' : World} (hos : w'.os = w.os) (htape : w'.tape = w.tape) (hout : w'.output = w.output) (hsz : w'.heap.size = w.heap.size)
    (hsame : ∀ k, k ≠ r.id → w'.heap[k]? = w.heap[k]?) : Turn ρ h w ρ (h.del b) w' := by
  have hget : ∀ x o2, (h.del b).get x = some o2 → x ≠ b ∧ h.get x = some o2 := fun x o2 hx => by
    rw [Heap.get_del] at hx
    by_cases e : x = b
    · rw [if_pos e] at hx; cases hx
    · rw [if_neg e] at hx; exact ⟨e, hx⟩
  refine ⟨fun _ _ h => h, Nat.le_refl _, ⟨fun x o2 hx => ?_, fun x x' o2 o3 r2 r3 h1 h2 => hs.inj x x' o2 o3 r2 r3 (hget _ _ h1).2 (hget _ _ h2).2, hs.fresh, hs.glob, hs.low, hs.res⟩,
    hos, htape, hout, by omega, fun x hx => by rw [Heap.get_del, if_neg (by omega)], fun k hk hn => hsame k fun e => hn b o1 r hg hb hr e.symm, fun x o2 r2 hgx hx hr2 => .inr ⟨x, o2, r2, hgx, (hget _ _ hx).2, hr2, rfl⟩, .inr rfl, fun _ _ _ _ h => h⟩
  obtain ⟨hne, hx⟩ := hget x o2 hx
  obtain ⟨r2, o3, h1, h2, h3⟩ := hs.obj x o2 hx
  exact ⟨r2, o3, h1, (hsame _ fun e => hne (hs.inj x b o2 o1 r2 r hx hb h1 hr e)).trans h2, h3⟩
theorem loadBytes_ok (a : Nat) : ∀ (ns : List Nat) (off : Nat) (acc : ByteArray), (∀ j n, ns[j]? = some n → w.cell? ⟨a, off + j, none⟩ = some (.int .u8 (.ofNat n))) →
    (loadBytes ⟨a, off, none⟩ acc ns.length).run P w = .ok ⟨⟨acc.data.toList ++ ns.map UInt8.ofNat⟩⟩ w
  | [], off, acc, _ => by simp [loadBytes]
  | n :: ns, off, acc, hc => by
    have h0 := hc 0 n rfl
    have ih := loadBytes_ok a ns (off + 1) (acc.push (UInt8.ofNat n)) (fun j m hj => by
      have := hc (j + 1) m (by simpa using hj)
      rwa [show off + (j + 1) = off + 1 + j by omega] at this)
    simp only [List.length_cons, loadBytes, Sem.run_bind, run_load]
    rw [Nat.add_zero] at h0
    rw [h0]
    simp only [Result.andThen_ok, add_addr]
    have hb : (Int.ofNat n).toNat.toUInt8 = UInt8.ofNat n := rfl
    rw [hb, ih]
    congr 1
    show ByteArray.mk ⟨(acc.data.push _).toList ++ _⟩ = _
    simp
theorem liesAt_self {u : TypeId} {count off n : Nat} (hu : P.cellsOf u = 1) (hle : off + n ≤ count) : liesAt P P.depth u (count / 1) off u n = true := by
  have hd : P.depth = (2 * (P.types.size + Made.depth) + 1) + 1 := rfl
  rw [hd]
  unfold liesAt
  have hrow : rowAt P (sameLayout P ((2 * (P.types.size + Made.depth) + 1) + 1) · u) ((2 * (P.types.size + Made.depth) + 1) + 1) u (count / 1) off n = true := by
    unfold rowAt
    have hsame : sameLayout P ((2 * (P.types.size + Made.depth) + 1) + 1) u u = true := by unfold sameLayout; simp
    simp [hu, hsame, hle, Nat.mod_one]
  rw [hd, hrow]
  rfl
theorem unsafeString_ok (hs : Sim ρ h w) (t : TypeId) (u : List TypeId) (ty : TypeId) {p : Option Addr} {p' : Value} {n : Nat} (hp : VR ρ (.pointer p) p') (hn : n ≤ 1000000) :
    VSpec ρ h w (unsafeStringS P t p n h) ((Builtin.unsafeString_ ⟨t :: u⟩ ty ⟨[p', .int .i64 (.ofNat n)]⟩).run P w) := by
  obtain ⟨q, rfl⟩ : ∃ q, p' = .pointer q := by cases hp <;> exact ⟨_, rfl⟩
  have hdef : Builtin.unsafeString_ ⟨t :: u⟩ ty ⟨[.pointer q, .int .i64 (.ofNat n)]⟩ = (do
      let n ← asInt (.int .i64 (.ofNat n))
      if n < 0 then runtimePanic (.error "unsafe.String: len out of range")
      if n > IntKind.i64.max then unsupported (.unsafePointer "String: a length above the largest int")
      match q with
      | none =>
        if n = 0 then pure (.string .empty)
        else runtimePanic (.error "unsafe.String: ptr is nil and len is not zero")
      | some a =>
        if n = 0 then pure (.string .empty)
        else if ← variablesAt a (← elemOf t) n.toNat then do
          let s ← loadBytes a .empty n.toNat
          freeze a n.toNat
          pure (.string s)
        else unsupported (.unsafePointer "String: not so many bytes at ptr") : Sem Value) := rfl
  rw [hdef]
  have h0 : ¬ (Int.ofNat n < 0) := by simp
  have hmax : ¬ (Int.ofNat n > IntKind.i64.max) := by
    have : IntKind.i64.max = 9223372036854775807 := by decide
    rw [this]; simp; omega
  unfold unsafeStringS
  cases hb : Nat.beq n 0 with
  | true =>
    have hn0 : n = 0 := Nat.eq_of_beq_eq_true hb
    subst hn0
    refine .same hs ?_ (.string _)
    have hz : (Int.ofNat 0 : Int) = 0 := rfl
    cases q <;> (simp only [Sem.run_bind, asInt, asIntOf, Sem.run_pure, Result.andThen_ok, h0, if_false, hmax, hz, if_true]; rfl)
  | false =>
    simp only [cond_false]
    have hn0 : ¬ (Int.ofNat n = 0) := fun e => by have : n = 0 := Int.ofNat.inj e; rw [this] at hb; cases hb
    split
    · rename_i b off el hu
      split
      · rename_i hk
        cases hc : (Nat.ble gBase b && elemS h b el) with
        | false => trivial
        | true =>
          simp only [cond_true]
          simp only [Bool.and_eq_true] at hc
          have hg := Nat.le_of_ble_eq_true hc.1
          refine .ob fun bs hbs => ?_
          obtain ⟨hu8, c, m, o, el', ns, hgb, h1, h2, rfl⟩ := textS_ok hbs
          have hel : el = el' := by
            have := hc.2
            unfold elemS at this
            rw [hgb] at this
            exact Nat.eq_of_beq_eq_true this
          subst hel
          obtain ⟨r, hr, hq⟩ := ptr_inv hp
          cases hq
          obtain ⟨l, mm, lo, hi, L⟩ := hs.cells hgb hr
          have hcl := L.vr.length
          rw [List.length_drop] at h2
          have hnl : ns.length = n := by
            have := congrArg List.length h1
            simp at this; omega
          have hcells : ∀ j k, ns[j]? = some k → w.cell? ⟨r.id, off + j, none⟩ = some (.int .u8 (.ofNat k)) := fun j k hj => by
            have hjl : j < ns.length := (List.getElem?_eq_some_iff.1 hj).1
            have hv := (L.vr.drop off).take n
            rw [h1] at hv
            have hl := VRL.ints ns hv
            have h3 : ((l.drop off).take n)[j]? = some (.int .u8 (.ofNat k)) := by rw [hl, List.getElem?_map, hj]; rfl
            rw [List.getElem?_take, if_pos (by omega), List.getElem?_drop] at h3
            rw [L.cell, List.getElem?_append_left (by omega)]; exact h3
          have hload := loadBytes_ok (P := P) (w := w) r.id ns off .empty hcells
          rw [hnl] at hload
          have hcellsOf : P.cellsOf el = 1 := by
            obtain ⟨i, hi1, hi2⟩ := info_size hk
            simp [Program.cellsOf, hi1, hi2]
          have hsh : w.shape? r.id = some (el, l.length + mm.length) := by simp [World.shape?, L.heap]
          have hne : ¬ n = 0 := fun e => hn0 (by rw [e]; rfl)
          have hvar : (variablesAt ⟨r.id, off, none⟩ el n).run P w = .ok true w := by
            unfold variablesAt
            simp only [Sem.run_bind, run_program, Result.andThen_ok, run_shape, hsh, hcellsOf, Sem.run_pure]
            rw [liesAt_self hcellsOf (by omega)]
          have hT : Turn ρ h w ρ (h.del b) (w.freeze ⟨r.id, off, none⟩ n) := by
            refine Turn.spent hs hgb hr hg ?_ ?_ ?_ ?_ ?_ <;> simp only [World.freeze, if_neg hne]
            · simp
            · intro k hk2
              rw [Array.getElem?_modify, if_neg (Ne.symm hk2)]
          refine ⟨ρ, .string ⟨⟨ns.map UInt8.ofNat⟩⟩, _, ?_, hT, .string _⟩
          have htn : (Int.ofNat n).toNat = n := rfl
          simp only [Sem.run_bind, asInt, asIntOf, Sem.run_pure, Result.andThen_ok, h0, if_false, hmax, if_neg hn0, elemOf, und_run hu w, htn, hvar, if_true, hload, run_freeze]
          rfl
      · trivial
    · trivial
theorem builtin_ok (hs : Sim ρ h w) (b : Builtin) (ts : List TypeId) (ty : TypeId) (cs : Array Bool) {args args' : List Value} (ha : VRL ρ args args') : OpSpec P ρ h w (builtinS P b ts args h) ((builtin b ⟨ts⟩ ty cs ⟨args'⟩).run P w) := by
  unfold builtinS
  split
  · rename_i t u s x
    cases ha with
    | cons h1 hl => cases hl with
      | cons h2 hl => cases hl; exact .ofV (append_ok hs t u ty h1 h2)
  · rename_i t u d x
    cases ha with
    | cons h1 hl => cases hl with
      | cons h2 hl => cases hl; exact .ofV (copy_ok hs t u ty h1 h2)
  · rename_i t u x
    cases ha with
    | cons h1 hl =>
      cases hl
      exact .ofV (.pv hs fun v hv => by obtain ⟨a, b⟩ := lenB_ok (P := P) hs t u ty h1 hv; exact ⟨v, a, .of_flat b⟩)
  · rename_i t u x
    cases ha with
    | cons h1 hl =>
      cases hl
      exact .ofV (.pv hs fun v hv => by obtain ⟨a, b⟩ := capB_ok (P := P) (w := w) t u ty h1 hv; exact ⟨v, a, .of_flat b⟩)
  · rename_i t u m k
    cases ha with
    | cons h1 hl => cases hl with
      | cons h2 hl => cases hl; exact .ofV (delete_ok hs t u ty h1 h2)
  · rename_i n m
    cases ha with
    | cons h1 hl =>
      cases hl
      have := slice0_inv h1; subst this
      exact .ofV (.same hs rfl .ptr0)
  · rename_i a n c
    cases ha with
    | cons h1 hl =>
      cases hl
      cases hb : (Nat.beq c 0 || Nat.beq c many) with
      | true => trivial
      | false =>
        simp only [cond_false]
        simp only [Bool.or_eq_false_iff] at hb
        obtain ⟨b, off, r, cap', rfl, hr, rfl, hcap⟩ := sliceV_inv h1
        have hc0 : cap' ≠ 0 := by
          rcases hcap with ⟨_, rfl⟩ | ⟨c0, rfl, hc, _⟩
          · intro e; rw [e] at hb; cases hb.1
          · intro e
            have : c0 = 0 := by omega
            rw [this] at hb
            have := hb.2
            simp at this
        refine .ofV (.same hs (v' := .pointer (some ⟨r.id, off, none⟩)) ?_ (.ptr off hr))
        have hdef : Builtin.unsafeSliceData_ ⟨ts⟩ ty ⟨[.slice (some ⟨r.id, off, none⟩) n cap']⟩ = (if cap' ≠ 0 then pure (.pointer (some ⟨r.id, off, none⟩)) else do
            if (← viewAt r.id).isSome then pure (.pointer (some ⟨r.id, off, none⟩))
            else pure (.pointer (some ⟨← newObj (.view ⟨r.id, off, none⟩ (← elemOf ty)), 0, none⟩)) : Sem Value) := by
          show (if cap' ≠ 0 then _ else _) = _
          split
          · rfl
          · rename_i hh; exact absurd hc0 hh
        rw [hdef, if_pos hc0]
        rfl
  · rename_i t u p n
    cases ha with
    | cons h1 hl => cases hl with
      | cons h2 hl =>
        cases hl
        have := int_inv h2; subst this
        cases hb : Nat.ble n 1000000 with
        | false => trivial
        | true => exact .ofV (unsafeString_ok hs t u ty h1 (Nat.le_of_ble_eq_true hb))
  · cases hfl : flatL args with
    | false => trivial
    | true =>
      have := ha.flat hfl; subst this
      exact .ofV (.pvf hs fun v hv => pureP_run _ hv)
  · cases hfl : flatL args with
    | false => trivial
    | true =>
      have := ha.flat hfl; subst this
      exact .ofV (.pvf hs fun v hv => pureP_run _ hv)
  · trivial
variable {s : Slots} {n : Nat} {a : Act}
theorem toArray_map (l : Array Operand) (f : Operand → Value) : l.map f = ⟨l.toList.map f⟩ := by apply Array.ext'; simp
theorem o1s (hs : Sim ρ h w) (hl : SlR ρ s n a.tmps) {r : Result Next} (x : Operand) {k : Value → OR} (hk : ∀ v, VR ρ v (a.eval x) → OpSpec P ρ h w (k v) r) : OpSpec P ρ h w (o1 x s h k) r :=
  o1_ok (Φ := fun q => OpSpec P ρ h w q r) trivial hs hl x hk
theorem o2s (hs : Sim ρ h w) (hl : SlR ρ s n a.tmps) {r : Result Next} (x y : Operand) {k : Value → Value → OR} (hk : ∀ v u, VR ρ v (a.eval x) → VR ρ u (a.eval y) → OpSpec P ρ h w (k v u) r) : OpSpec P ρ h w (o2 x y s h k) r :=
  o2_ok (Φ := fun q => OpSpec P ρ h w q r) trivial hs hl x y hk
theorem oLs (hs : Sim ρ h w) (hl : SlR ρ s n a.tmps) {r : Result Next} (l : List Operand) {k : List Value → OR} (hk : ∀ vs, VRL ρ vs (l.map a.eval) → OpSpec P ρ h w (k vs) r) : OpSpec P ρ h w (oL l s h k) r :=
  oL_ok (Φ := fun q => OpSpec P ρ h w q r) trivial hs hl l hk
theorem oPs (hs : Sim ρ h w) (hl : SlR ρ s n a.tmps) {r : Result Next} (l : List (Nat × Operand)) {k : List (Nat × Value) → OR} (hk : ∀ vs, PR ρ vs (l.map fun p => (p.1, a.eval p.2)) → OpSpec P ρ h w (k vs) r) : OpSpec P ρ h w (oP l s h k) r :=
  oP_ok (Φ := fun q => OpSpec P ρ h w q r) trivial hs hl l hk
theorem oos (hs : Sim ρ h w) (hl : SlR ρ s n a.tmps) {r : Result Next} (y : Option Operand) {k : Option Value → OR} (hk : ∀ v, ORel ρ v (y.map a.eval) → OpSpec P ρ h w (k v) r) : OpSpec P ρ h w (oo y s h k) r :=
  oo_ok (Φ := fun q => OpSpec P ρ h w q r) trivial hs hl y (fun e => hk none (.inl ⟨rfl, by rw [e]; rfl⟩)) (fun z v e hv => hk (some v) (.inr ⟨v, _, rfl, by rw [e]; rfl, hv⟩))
set_option maxHeartbeats 4000000 in
theorem opK_ok (hs : Sim ρ h w) (hl : SlR ρ s n a.tmps) (o : Oper) : OpSpec P ρ h w ((opK P o.op).f s h) ((execOp a.eval o).run P w) := by
  obtain ⟨dst, op, ty, pos, after, guard⟩ := o
  cases op with
  | move x => exact o1s hs hl x fun v hv => ⟨ρ, _, w, rfl, .refl hs, hv⟩
  | assign x => exact o1s hs hl x fun v hv => ⟨ρ, _, w, rfl, .refl hs, hv⟩
  | pick c x y =>
    refine o1s hs hl c fun v hv => ?_
    unfold pickS
    split
    · have hc : a.eval c = .bool true := by generalize a.eval c = q at hv; cases hv; rfl
      exact o1s hs hl x fun v hv => ⟨ρ, _, w, by simp [execOp, hc, asBool], .refl hs, hv⟩
    · have hc : a.eval c = .bool false := by generalize a.eval c = q at hv; cases hv; rfl
      exact o1s hs hl y fun v hv => ⟨ρ, _, w, by simp [execOp, hc, asBool], .refl hs, hv⟩
    · trivial
  | alloc t => exact .ofV (alloc_ok hs t)
  | box t x => exact o1s hs hl x fun v hv => .ofV (box_ok hs t hv)
  | build t ps =>
    have he : (ps.map fun (i, x) => (i, a.eval x)) = ⟨ps.toList.map fun p => (p.1, a.eval p.2)⟩ := by apply Array.ext'; simp
    show OpSpec P ρ h w (oP ps.toList s h fun ps => pv h ((buildS P t).f ps)) ((do let v ← Instr.build t (ps.map fun (i, x) => (i, a.eval x)); pure (.value v) : Sem Next).run P w)
    rw [he]
    exact oPs hs hl ps.toList fun vs hvs => .ofV (.pv hs fun v hv => build_ok t hvs hv)
  | buildSlice t len ps =>
    have he : (ps.map fun (i, x) => (i, a.eval x)) = ⟨ps.toList.map fun p => (p.1, a.eval p.2)⟩ := by apply Array.ext'; simp
    show OpSpec P ρ h w (oP ps.toList s h fun ps => buildSliceS P t len ps h) ((do let v ← Instr.buildSlice t len (ps.map fun (i, x) => (i, a.eval x)); pure (.value v) : Sem Next).run P w)
    rw [he]
    exact oPs hs hl ps.toList fun vs hvs => .ofV (buildSlice_ok hs t len hvs)
  | load t x => exact o1s hs hl x fun v hv => .ofV (.pv hs fun u hu => loadS_ok hs t hv hu)
  | store t x y => exact o2s hs hl x y fun v u hv hu => .ofU (storeS_ok hs t hv hu)
  | nilCheck x => exact o1s hs hl x fun v hv => nil_ok hs hv rfl rfl
  | binOp op t x y yt => exact o2s hs hl x y fun v u hv hu => .ofV (bin_ok hs op t x y hv hu)
  | unOp op t x => exact o1s hs hl x fun v hv => .ofV (un_ok hs op hv)
  | convert b c x => exact o1s hs hl x fun v hv => .ofV (conv_ok hs b c hv)
  | makeInterface t x => exact o1s hs hl x fun v hv => .ofV (iface_ok hs t hv)
  | makeFunc fn x y =>
    show OpSpec P ρ h w _ ((do let v ← Instr.makeFunc fn (x.map a.eval) (y.map a.eval); pure (.value v) : Sem Next).run P w)
    rw [toArray_map, toArray_map]
    exact oLs hs hl x.toList fun vs hvs => oLs hs hl y.toList fun us hus => .ofV (func_ok hs fn hvs hus)
  | makeMap t r => exact oos hs hl r fun v hv => .ofV (makeMap_ok hs t hv)
  | makeSlice t x y => exact o2s hs hl x y fun v u hv hu => .ofV (makeSlice_ok hs t hv hu)
  | slice t x lo hi mx => exact o1s hs hl x fun v hv => oos hs hl lo fun l hl' => oos hs hl hi fun hh hh' => oos hs hl mx fun m hm' => .ofV (.pv hs fun u hu => sliceAt_ok hs t hv hl' hh' hm' hu)
  | fieldAddr t x f => exact o1s hs hl x fun v hv => .ofV (.pv hs fun u hu => fieldAddr_ok t f hv hu)
  | field t x f => exact o1s hs hl x fun v hv => .ofV (.pv hs fun u hu => field_ok t f hv hu)
  | indexAddr t x i => exact o2s hs hl x i fun v u hv hu => .ofV (.pv hs fun q hq => indexAddr_ok t hv hu hq)
  | index t x i => exact o2s hs hl x i fun v u hv hu => .ofV (.pv hs fun q hq => index_ok t hv hu hq)
  | lookup t x i ok => exact o2s hs hl x i fun v u hv hu => .ofV (.pv hs fun q hq => lookup_ok hs t ok hv hu hq)
  | mapUpdate t m k x => exact o2s hs hl m k fun v u hv hu => o1s hs hl x fun z hz => .ofU (mapUpdate_ok hs t hv hu hz)
  | insert t m k x => exact o2s hs hl m k fun v u hv hu => o1s hs hl x fun z hz => .ofU (mapUpdate_ok hs t hv hu hz)
  | mapEntry t m k => exact o2s hs hl m k fun v u hv hu => .ofV (mapEntry_ok hs t hv hu)
  | entryStore t m st x => exact o2s hs hl m st fun v u hv hu => o1s hs hl x fun z hz => .ofU (entryStore_ok hs t hv hu hz)
  | range t x => exact o1s hs hl x fun v hv => .ofV (range_ok hs t hv)
  | next it b => exact o1s hs hl it fun v hv => .ofV (next_ok hs b ty hv)
  | entry it => exact o1s hs hl it fun v hv => .ofV (entry_ok hs hv)
  | typeAssert x xt t ok => exact o1s hs hl x fun v hv => .ofV (assert_ok hs hv xt t ok)
  | extract x i => exact o1s hs hl x fun v hv => .ofV (extract_ok hs hv i)
  | call c =>
    show OpSpec P ρ h w (callC P c s h) _
    unfold callC
    split
    · rename_i f hc
      refine o1s hs hl f fun v hv => oLs hs hl c.args.toList fun vs hvs => ?_
      have := callS_ok (P := P) hs hv hvs
      simpa [execOp, resolve, hc, toArray_map] using this
    · rename_i b hc
      refine oLs hs hl c.args.toList fun vs hvs => ?_
      have := fun cs => builtin_ok (P := P) hs b c.argTypes.toList ty cs hvs
      simp only [execOp, resolve, hc, toArray_map, invoke, Sem.run_bind, Sem.run_pure, Result.andThen_ok]
      exact this _
    · trivial
  | _ => trivial
end
end Go.Ev
