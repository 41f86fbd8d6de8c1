/- EvG: operations, one by one (append, copy). -/
import Derived.Test.YtnfcjgfaecihbaaGreatDoorEvF
set_option linter.unusedVariables false
set_option linter.unusedSimpArgs false
set_option linter.unusedSectionVars false
set_option linter.constructorNameAsVariable false
namespace Go.Ev
open Go
section
variable {P : Program} {ρ : Ren} {h : Heap} {w : World}
theorem Sim.of_heap (hs : Sim ρ h w) {w1 : World} (e : w1.heap = w.heap) : Sim ρ h w1 :=
  ⟨fun b o hb => by rw [e]; exact hs.obj b o hb, hs.inj, hs.fresh, hs.glob, hs.low, hs.res⟩
theorem Turn.of_heap {ρ' : Ren} {h' : Heap} {w1 w' : World} (t : Turn ρ h w1 ρ' h' w') (e : w1.heap = w.heap) (eo : w1.os = w.os) (et : w1.tape = w.tape) (eu : w1.output = w.output) : Turn ρ h w ρ' h' w' :=
  ⟨t.agree, t.next, t.sim, t.os.trans eo, t.tape.trans et, t.output.trans eu, by rw [← e]; exact t.size, t.keep, fun k hk hn => by rw [t.frame k (by rw [e]; exact hk) hn, e], fun b o r hg hb hr => by rw [← e]; exact t.img b o r hg hb hr, t.rs, t.low⟩
theorem lenS_ok {x x' : Value} (hx : VR ρ x x') {n : Nat} (e : lenS x = some n) (w : World) : (Builtin.lenOf x').run P w = .ok n w := by
  unfold lenS at e
  split at e
  · cases e; cases hx <;> rfl
  · cases e; have := str_inv hx; subst this; rfl
  · cases e
theorem firstS_ok (hs : Sim ρ h w) {x x' : Value} (hx : VR ρ x x') {k n : Nat} {c : List Value} (e : firstS k n x h = some c) : ∃ c', VRL ρ c c' ∧ ∀ w1 : World, w1.heap = w.heap → (Builtin.firstCells k n x').run P w1 = .ok ⟨c'⟩ w1 := by
  unfold firstS at e
  split at e
  · cases e
    have := slice0_inv hx; subst this
    exact ⟨[], .nil, fun _ _ => rfl⟩
  · rename_i b off len cap
    split at e
    · rename_i c0 n0 o0 el hg
      obtain ⟨r, cap', hr, rfl, _⟩ := slice_inv hx
      rw [drp_eq] at e
      obtain ⟨hle, rfl⟩ := tk_some e
      obtain ⟨l, m, lo, hi, L⟩ := hs.cells hg hr
      rw [List.length_drop] at hle
      have hm : Nat.mul n k = n * k := rfl
      refine ⟨(l.drop off).take (n * k), (L.vr.drop off).take _, fun w1 hw1 => ?_⟩
      obtain ⟨l1, m1, lo1, hi1, L1⟩ := (hs.of_heap hw1).cells hg hr
      have hh := L.heap
      have hh1 := L1.heap
      rw [hw1, hh] at hh1
      simp only [Option.some.injEq, Obj.cells.injEq, Array.mk.injEq] at hh1
      have hcl := L.vr.length
      have hcl1 := L1.vr.length
      have hll : l1 = l := by
        have h1 := congrArg (List.take c0.length) hh1.1
        rw [List.take_left' hcl, List.take_left' hcl1] at h1
        exact h1.symm
      subst hll
      by_cases hz : n * k = 0
      · rw [hz]; simp [Builtin.firstCells, loadCells, loadCellsFrom, hz]
      · have := L1.load (P := P) (off := off) (k := n * k) (by rw [hm] at hle; omega)
        simpa [Builtin.firstCells] using this
    · cases e
  · rename_i l
    cases e
    have := str_inv hx; subst this
    refine ⟨(l.take n).map fun b => .int .u8 (.ofNat b.toNat), ?_, fun w1 _ => ?_⟩
    · generalize l.take n = q
      induction q with
      | nil => exact .nil
      | cons b q ih => exact .cons (.int _ _) ih
    · have hex : (⟨⟨l⟩⟩ : ByteArray).extract 0 n = ⟨⟨l.take n⟩⟩ := by
        apply ByteArray.ext
        rw [ByteArray.data_extract]
        apply Array.ext'
        simp [List.extract_eq_take_drop]
      simp only [Builtin.firstCells, hex, Sem.run_pure]
      congr 1
      apply Array.ext'
      simp
  · cases e
inductive NewR (P : Program) (ρ : Ren) (w : World) (xt : TypeId) (x' : Value) (k n : Nat) (z new new' : List Value) : Prop where
  | made (kk : IntKind) (hu : P.underlying xt = some (.int kk)) (hx : x' = .int .i64 (.ofNat n)) (hn : n ≤ 1000000) (hnew : new' = repeatL z n) (vr : VRL ρ new new') (len : new.length = n * k)
  | copied (d : TypeDesc) (hd : ∀ kk, d ≠ .int kk) (hu : P.underlying xt = some d) (hn : (Builtin.lenOf x').run P w = .ok n w)
      (hc : ∀ w1 : World, w1.heap = w.heap → (Builtin.firstCells k n x').run P w1 = .ok ⟨new'⟩ w1) (vr : VRL ρ new new') (len : new.length = n * k)
theorem newS_ok (hs : Sim ρ h w) {x x' : Value} (hx : VR ρ x x') {e : TypeId} {k n : Nat} {z new : List Value} {xT : Option TypeId} (hz : zcells P e = some (k, z)) (he : newS P k z xT x h = some (n, new)) :
    ∃ xt new', xT = some xt ∧ NewR P ρ w xt x' k n z new new' := by
  obtain ⟨z0, hz0, hk, rfl, hzl, hzf⟩ := zcells_run hz
  unfold newS at he
  split at he
  · cases he
  · rename_i xt
    split at he
    · cases he
    · rename_i kk hu
      split at he
      · rename_i n0
        cases hb : Nat.ble n0 1000000 with
        | false => simp [hb] at he
        | true =>
          simp only [hb, cond_true, Option.some.injEq, Prod.mk.injEq] at he
          obtain ⟨rfl, rfl⟩ := he
          have := int_inv hx; subst this
          exact ⟨xt, repeatL (cellsOf z0) n0, rfl, .made kk hu rfl (Nat.le_of_ble_eq_true hb) rfl (VRL.of_flat (flat_repeat hzf n0)) (by rw [repeatL_length, hzl])⟩
      · cases he
    · rename_i d hd hu
      split at he
      · rename_i n0 hn
        split at he
        · rename_i l hl
          cases hb : Nat.beq l.length (Nat.mul n0 k) with
          | false => simp only [hb, cond_false] at he; cases he
          | true =>
            simp only [hb, cond_true, Option.some.injEq, Prod.mk.injEq] at he
            obtain ⟨rfl, rfl⟩ := he
            obtain ⟨c', h1, h2⟩ := firstS_ok (P := P) hs hx hl
            exact ⟨xt, c', rfl, .copied d (fun kk e => hd kk e) hu (lenS_ok hx hn w) h2 h1 (Nat.eq_of_beq_eq_true hb)⟩
        · cases he
      · cases he
theorem growBy_le (n c : Nat) (h : c < n) : Builtin.growBy n 4 c ≤ 4 * n + 2000 := by
  simp only [Builtin.growBy]
  repeat' split
  all_goals omega
theorem nsc_le (n c : Nat) (h : c < n) : Builtin.nextslicecap n c ≤ 4 * n + 2000 := by
  unfold Builtin.nextslicecap
  split
  · omega
  · split
    · omega
    · exact growBy_le n c h
theorem VRL.repeat_append {l l' m m' : List Value} (h1 : VRL ρ l l') (h2 : VRL ρ m m') : VRL ρ (l ++ m) (l' ++ m') := h1.append h2
theorem appendIn_ok (hs : Sim ρ h w) {b off len cap cap' k n need : Nat} {opn : Bool} {r : RB} {new new' : List Value} (hr : ρ b = some r) (hopn : opn = Nat.ble many cap)
    (hcap : (cap < many ∧ cap' = cap) ∨ (∃ c, cap = many + c ∧ c ≤ cap' ∧ off + cap' * r.k ≤ r.size)) (hneed : need = len + n) (hfit : need ≤ (bif opn then Nat.sub cap many else cap)) (hv : VRL ρ new new') (hl : new.length = n * k) {res : Result Value}
    (hres : ∀ w', (storeCells ((⟨r.id, off, none⟩ : Addr).add (len * k)) new').run P w = .ok () w' → res = .ok (.slice (some ⟨r.id, off, none⟩) need cap') w') :
    VSpec ρ h w (appendIn h opn (some ⟨b, off, none⟩) k len need cap new) res := by
  unfold appendIn
  simp only []
  split
  · rename_i c m o el hg
    obtain ⟨l, mm, lo, hi, L⟩ := hs.cells hg hr
    have hvr : VR ρ (.slice (some ⟨b, off, none⟩) need cap) (.slice (some ⟨r.id, off, none⟩) need cap') := by
      rcases hcap with ⟨h1, rfl⟩ | ⟨c1, rfl, h2, h3⟩
      · exact .slice _ _ _ hr h1
      · exact .sliceO _ _ _ _ hr h2 h3
    cases h1 : oneL new with
    | false => trivial
    | true =>
      simp only [cond_true]
      split
      · rename_i c2 ho
        refine .ob fun h' ht => ?_
        obtain ⟨w', g1, g2⟩ := L.write (P := P) hs hg hr hv ho h1 ht
        refine ⟨ρ, _, w', hres w' ?_, g2, hvr⟩
        rw [add_addr]; exact g1
      · cases hb : (opn && Nat.beq o (Nat.succ k)) with
        | false => trivial
        | true =>
          simp only [cond_true]
          simp only [Bool.and_eq_true] at hb
          split
          · rename_i c0 hc0
            refine .ob fun h' ht => ?_
            obtain ⟨hp, rfl⟩ := tk_some hc0
            obtain ⟨hgb, rfl⟩ := turn_some ht
            have hcl := L.vr.length
            have hnl := hv.length
            have hrk : r.k = k := L.k k (Nat.eq_of_beq_eq_true hb.2)
            have hpk : Nat.add off (Nat.mul len k) = off + len * k := rfl
            rw [hpk] at hp ⊢
            have hsize : off + len * k + n * k ≤ l.length + mm.length := by
              rcases hcap with ⟨h1, _⟩ | ⟨c1, rfl, h2, h3⟩
              · have := hb.1; rw [hopn] at this; have := Nat.le_of_ble_eq_true this; omega
              · rw [hb.1] at hfit
                have hsub : Nat.sub (many + c1) many = c1 := Nat.add_sub_cancel_left many c1
                simp only [cond_true, hsub] at hfit
                have h4 : need * k ≤ cap' * k := Nat.mul_le_mul_right k (Nat.le_trans hfit h2)
                rw [hneed, Nat.add_mul] at h4
                rw [hrk] at h3
                rw [← L.size]; omega
            refine ⟨ρ, _, _, hres _ ?_, L.turn hs hg hr hgb (c2 := c.take (off + len * k) ++ new) (l2 := l.take (off + len * k) ++ new') (m2 := (l ++ mm).drop (off + len * k + new'.length)) (n2 := _) ((L.vr.take _).append hv) rfl (fun e => by have := Nat.eq_of_beq_eq_true hb.2; omega) (by simp; omega), hvr⟩
            rw [add_addr, L.store (P := P) (by rw [hnl, hl]; exact hsize) (hv.oneL h1)]
            rw [List.take_append_of_le_length (by omega)]
          · trivial
  · trivial
theorem zeroCells_eq (z0 : Value) (n : Nat) : Builtin.zeroCells z0.cells n = ⟨repeatL (cellsOf z0) n⟩ := by
  unfold Builtin.zeroCells
  rw [cells_eq]
  exact repeat_eq (cellsOf z0) n
structure AppR (P : Program) (sT xt : TypeId) (e : TypeId) (k by_ : Nat) (z0 : Value) (ts : List TypeId) where
  ts : ∃ u, ts = sT :: xt :: u
  hu : P.underlying sT = some (.slice e)
  hk : sizeT P e = some k
  hz0 : ∀ w, (zeroValue e).run P w = .ok z0 w
  hzl : (cellsOf z0).length = k
  inf : TypeInfo
  hti : ∀ w, (typeInfo e).run P w = .ok inf w
  hby : inf.bytes = by_
  hb : by_ ≤ 1000000
theorem run_append_in {sT xt : TypeId} {x' : Value} {e : TypeId} {k n by_ : Nat} {z0 : Value} {new new' : List Value} {ts : List TypeId} (A : AppR P sT xt e k by_ z0 ts) (N : NewR P ρ w xt x' k n (cellsOf z0) new new')
    (ty : TypeId) {a : Addr} {len cap : Nat} (hle : len + n ≤ cap) {w' : World} (hst : (storeCells (a.add (len * k)) new').run P w = .ok () w') :
    (Builtin.append_ ⟨ts⟩ ty ⟨[.slice (some a) len cap, x']⟩).run P w = .ok (.slice (some a) (len + n) cap) w' := by
  obtain ⟨u, hts⟩ := A.ts
  subst hts
  unfold Builtin.append_
  simp only [List.getElem?_toArray, List.getElem?_cons_zero, List.getElem?_cons_succ, Sem.run_bind, und_run A.hu w, Result.andThen_ok, sizeT_run A.hk w]
  cases N with
  | made kk hu hx hn hnew vr len =>
    subst hx
    have w1 : IntKind.i64.wrap (Int.ofNat n) = Int.ofNat n := wrap_small .i64 n (by simp only [topOf]; omega)
    have h0 : ¬ (Int.ofNat n < 0) := by simp
    have hmul : n * by_ ≤ 1000000 * 1000000 := Nat.mul_le_mul hn A.hb
    have hm1 : ¬ (Int.ofNat n * (A.inf.bytes : Int) > 2 ^ 48) := by
      rw [A.hby]
      have : (Int.ofNat n * (by_ : Int)) = ((n * by_ : Nat) : Int) := by simp
      rw [this]; omega
    have htn : (Int.ofNat n).toNat = n := rfl
    simp only [und_run hu w, Result.andThen_ok, Sem.run_pure, if_true, Sem.run_bind, asInt, asIntOf, w1, h0, if_false, A.hti w, hm1, htn, hle, Bool.not_true, Bool.false_eq_true]
    by_cases hz : n * k = 0
    · have : new' = [] := by rw [hnew]; exact List.eq_nil_of_length_eq_zero (by rw [repeatL_length, A.hzl, hz])
      subst this
      simp only [if_pos hz, Sem.run_pure, Result.andThen_ok, hst]
    · simp only [if_neg hz, Sem.run_bind, A.hz0 w, Result.andThen_ok, Sem.run_pure, zeroCells_eq, ← hnew, hst]
  | copied d hd hu hn hc vr len =>
    have hcw := hc w rfl
    cases d <;> first
      | exact absurd rfl (hd _)
      | simp only [und_run hu w, Result.andThen_ok, Sem.run_pure, Bool.false_eq_true, if_false, Sem.run_bind, hn, hle, if_true, Bool.not_false, hcw, hst]
abbrev drawn1 (w : World) : World := { w with drawn := w.drawn + 1 }
theorem run_append_new {sT xt : TypeId} {x' : Value} {e : TypeId} {k n by_ : Nat} {z0 : Value} {new new' : List Value} {ts : List TypeId} (A : AppR P sT xt e k by_ z0 ts) (N : NewR P ρ w xt x' k n (cellsOf z0) new new')
    (ty : TypeId) {base : Option Addr} {len cap : Nat} (hgt : ¬ len + n ≤ cap) (hle : len + n ≤ 1000000) {old' : List Value}
    (hold : (Builtin.firstCells k len (.slice base len cap)).run P (drawn1 w) = .ok ⟨old'⟩ (drawn1 w)) :
    ∃ newCap, len + n ≤ newCap ∧ (Builtin.append_ ⟨ts⟩ ty ⟨[.slice base len cap, x']⟩).run P w =
      .ok (.slice (some ⟨w.heap.size, 0, none⟩) (len + n) newCap) { drawn1 w with heap := w.heap.push (.cells ⟨old' ++ (new' ++ repeatL (cellsOf z0) (newCap - (len + n)))⟩ e) } := by
  obtain ⟨u, hts⟩ := A.ts
  subst hts
  refine ⟨(len + n) + w.tape w.drawn (.appendCap (len + n) cap e) % (2 ^ 63 - (len + n)), Nat.le_add_right _ _, ?_⟩
  have hnsc : ¬ (Builtin.nextslicecap (len + n) cap * A.inf.bytes > 2 ^ 48) := by
    have h1 := nsc_le (len + n) cap (by omega)
    rw [A.hby]
    have h2 : Builtin.nextslicecap (len + n) cap * by_ ≤ (4 * 1000000 + 2000) * 1000000 := Nat.mul_le_mul (by omega) A.hb
    omega
  have hmax : ¬ (((len + n : Nat) : Int) > IntKind.i64.max) := by
    have : IntKind.i64.max = 9223372036854775807 := by decide
    rw [this]; omega
  have hforced : (Question.appendCap (len + n) cap e).forced = false := rfl
  have hcut : ∀ t, (Question.appendCap (len + n) cap e).cut t = (len + n) + t % (2 ^ 63 - (len + n)) := fun _ => rfl
  unfold Builtin.append_
  simp only [List.getElem?_toArray, List.getElem?_cons_zero, List.getElem?_cons_succ, Sem.run_bind, und_run A.hu w, Result.andThen_ok, sizeT_run A.hk w]
  generalize hq : (len + n) + w.tape w.drawn (.appendCap (len + n) cap e) % (2 ^ 63 - (len + n)) = q
  have hch : (choose (Question.appendCap (len + n) cap e)).run P w = .ok q (drawn1 w) := by
    rw [run_choose, hforced, if_neg (by simp), hcut, hq]
  cases N with
  | made kk hu hx hn hnew vr len' =>
    subst hx
    have w1 : IntKind.i64.wrap (Int.ofNat n) = Int.ofNat n := wrap_small .i64 n (by simp only [topOf]; omega)
    have h0 : ¬ (Int.ofNat n < 0) := by simp
    have hmul : n * by_ ≤ 1000000 * 1000000 := Nat.mul_le_mul hn A.hb
    have hm1 : ¬ (Int.ofNat n * (A.inf.bytes : Int) > 2 ^ 48) := by
      rw [A.hby]
      have : (Int.ofNat n * (by_ : Int)) = ((n * by_ : Nat) : Int) := by simp
      rw [this]; omega
    have htn : (Int.ofNat n).toNat = n := rfl
    simp only [und_run hu w, Result.andThen_ok, Sem.run_pure, if_true, Sem.run_bind, asInt, asIntOf, w1, h0, if_false, A.hti w, hm1, htn, if_neg hgt, hmax, false_and, hnsc, hch, A.hti (drawn1 w), run_askRoom, hold, Bool.not_true, Bool.false_eq_true]
    by_cases hz : n * k = 0
    · have : new' = [] := by rw [hnew]; exact List.eq_nil_of_length_eq_zero (by rw [repeatL_length, A.hzl, hz])
      subst this
      simp only [if_pos hz, Sem.run_pure, Result.andThen_ok, Sem.run_bind, A.hz0 (drawn1 w), zeroCells_eq]
      simp [newRow]
      rfl
    · simp only [if_neg hz, Sem.run_bind, A.hz0 (drawn1 w), Result.andThen_ok, Sem.run_pure, zeroCells_eq, ← hnew]
      simp [newRow]
      rfl
  | copied d hd hu hn hc vr len' =>
    have hcw := hc (drawn1 w) rfl
    cases d <;> first
      | exact absurd rfl (hd _)
      | (simp only [und_run hu w, Result.andThen_ok, Sem.run_pure, Bool.false_eq_true, if_false, Sem.run_bind, hn, if_neg hgt, A.hti w, hmax, false_and, hnsc, hch, A.hti (drawn1 w), run_askRoom, hold, Bool.not_false, if_true, hcw, A.hz0 (drawn1 w), zeroCells_eq]
         simp [newRow]
         rfl)
theorem newOpen_ok (hs : Sim ρ h w) {n k cap' : Nat} {c c' m : List Value} {e : TypeId} {lo hi : Nat} {w1 : World} (hc : VRL ρ c c') (hcap : n ≤ cap') (hsz : c'.length + m.length = cap' * k) (hfz : hi ≤ lo ∨ c'.length + m.length ≤ lo)
    (hw : w1.heap = w.heap) (ho : w1.os = w.os) (ht : w1.tape = w.tape) (hu : w1.output = w.output) {r : Result Value} (hr : r = .ok (.slice (some ⟨w.heap.size, 0, none⟩) n cap') { w1 with heap := w.heap.push (.cells ⟨c' ++ m⟩ e (lo, hi)) }) :
    VSpec ρ h w (newOpen h n k c e) r := by
  unfold newOpen
  rw [fN_eq, fN_eq, fN_eq]
  have hs1 := hs.of_heap hw
  obtain ⟨ρ', h1, h2⟩ := Turn.alloc hs1 (cap' * k) k (.cells c c.length (Nat.succ k) e) (.cells ⟨c' ++ m⟩ e (lo, hi)) (by
    rw [hw]
    exact .cells hc rfl (fun h => by cases h) (fun j hj => by have := Nat.succ.inj hj; exact this) hsz.symm hfz)
  rw [newB_eq]
  rw [hw] at h1 h2
  refine ⟨ρ', _, _, hr, h2.of_heap hw ho ht hu, .sliceO 0 n n cap' h1 hcap (by simp)⟩
theorem newOpen0_ok (hs : Sim ρ h w) {n k cap' : Nat} {c c' m : List Value} {e : TypeId} {w1 : World} (hc : VRL ρ c c') (hcap : n ≤ cap') (hsz : c'.length + m.length = cap' * k)
    (hw : w1.heap = w.heap) (ho : w1.os = w.os) (ht : w1.tape = w.tape) (hu : w1.output = w.output) {r : Result Value} (hr : r = .ok (.slice (some ⟨w.heap.size, 0, none⟩) n cap') { w1 with heap := w.heap.push (.cells ⟨c' ++ m⟩ e) }) :
    VSpec ρ h w (newOpen h n k c e) r := newOpen_ok (lo := 0) (hi := 0) hs hc hcap hsz (.inl (Nat.le_refl _)) hw ho ht hu hr
theorem VSpec.trans {ρ1 : Ren} {h1 : Heap} {w1 : World} (t : Turn ρ h w ρ1 h1 w1) : ∀ {x : OR} {r : Result Value}, VSpec ρ1 h1 w1 x r → VSpec ρ h w x r
  | .fail, _, _ => trivial
  | .val _ _, _, hv => by obtain ⟨ρ', v', w', a, b, c⟩ := hv; exact ⟨ρ', v', w', a, t.trans b, c⟩
  | .both _ _, _, hv => hv.imp (VSpec.trans t) (VSpec.trans t)
  | .skip _, _, hv => hv.elim
  | .call _ _ _, _, hv => hv.elim
  | .yld _ _ _, _, hv => hv.elim
theorem renamed (hs : Sim ρ h w) {b : Nat} {r : RB} {c : List Value} {n opn : Nat} {e : TypeId} {l m : List Value} {lo hi : Nat} (L : Lies ρ w r c n opn e l m lo hi) (hb : h.get b = some (.cells c n opn e)) (hr : ρ b = some r) (hg : gBase ≤ b)
    {c2 l2 m2 : List Value} {k : Nat} (hk : r.k = k) (hv : VRL ρ c2 l2) (hlen : l2.length + m2.length = l.length + m.length) :
    ∃ ρ', ρ' h.nx = some r ∧ Turn ρ h w ρ' ((h.del b).new (.cells c2 c2.length (Nat.succ k) e)) (w.setRow r.id (l2 ++ m2).toArray) := by
  let ρ' : Ren := fun x => if x = h.nx then some r else ρ x
  have hlow := hs.low
  have hdn : (h.del b).nx = h.nx := rfl
  obtain ⟨hxg, hxn, hfree⟩ : gBase ≤ h.nx ∧ h.nx < ((h.del b).new (.cells c2 c2.length (Nat.succ k) e)).next ∧ ρ h.nx = none := by
    rw [Heap.nx_eq, Heap.next_new, Heap.rs_del, Heap.next_del]
    by_cases e : h.rs = 0
    · simp only [if_pos e]; exact ⟨hlow, Nat.lt_succ_self _, hs.fresh _ (Nat.le_refl _)⟩
    · simp only [if_neg e]; exact hs.res e
  have hnn : h.next ≤ ((h.del b).new (.cells c2 c2.length (Nat.succ k) e)).next := by rw [Heap.next_new, Heap.next_del]; split <;> omega
  have hext : Ext ρ ρ' := fun x y hx => by
    simp only [ρ']; rw [if_neg (fun e => by rw [e, hfree] at hx; cases hx)]; exact hx
  have hnew : (w.setRow r.id (l2 ++ m2).toArray).heap[r.id]? = some (.cells (l2 ++ m2).toArray e (lo, hi)) := setRow_heap w r.id _ _ e _ L.heap
  have hother : ∀ k, k ≠ r.id → (w.setRow r.id (l2 ++ m2).toArray).heap[k]? = w.heap[k]? := fun k hk => setRow_other w r.id k _ hk
  have hget : ∀ x o1, ((h.del b).new (.cells c2 c2.length (Nat.succ k) e)).get x = some o1 → (x = h.nx ∧ o1 = .cells c2 c2.length (Nat.succ k) e) ∨ (x ≠ h.nx ∧ x ≠ b ∧ h.get x = some o1) := fun x o1 hx => by
    rw [Heap.get_new, hdn] at hx
    by_cases e1 : x = h.nx
    · rw [if_pos e1] at hx; exact .inl ⟨e1, by cases hx; rfl⟩
    · rw [if_neg e1, Heap.get_del] at hx
      by_cases e2 : x = b
      · rw [if_pos e2] at hx; cases hx
      · rw [if_neg e2] at hx; exact .inr ⟨e1, e2, hx⟩
  have hapart : ∀ x o1 r1, x ≠ b → h.get x = some o1 → ρ x = some r1 → r1.id ≠ r.id := fun x o1 r1 hne hx hr1 he => hne (hs.inj x b o1 _ r1 r hx hb hr1 hr he)
  refine ⟨ρ', by simp [ρ'], ⟨hext, hnn, ⟨fun x o1 hx => ?_, fun x x' o1 o2 r1 r2 h1 h2 h3 h4 h5 => ?_, fun x hx => ?_, fun x r1 hx hr1 => ?_, Nat.le_trans hlow hnn, fun hr => absurd (Heap.rs_new _ _) hr⟩, rfl, rfl, rfl, by simp, fun x hx => ?_, fun k hk hn => hother k fun e1 => hn b _ r hg hb hr e1.symm, fun x o1 r1 hgx hx hr1 => ?_, .inl rfl, fun x hgx hx hne h0 => ?_⟩⟩
  · rcases hget x o1 hx with ⟨rfl, rfl⟩ | ⟨hne, hne2, hx⟩
    · exact ⟨r, _, by simp [ρ'], hnew, .cells (hv.mono hext) rfl (fun h => by cases h) (fun j hj => by rw [hk]; exact Nat.succ.inj hj) (by rw [L.size, hlen]) (by rw [hlen]; exact L.free)⟩
    · obtain ⟨r1, o2, h1, h2, h3⟩ := hs.obj x o1 hx
      exact ⟨r1, o2, hext _ _ h1, (hother _ (hapart x o1 r1 hne2 hx h1)).trans h2, h3.mono hext⟩
  · rcases hget x o1 h1 with ⟨e1, _⟩ | ⟨hne, hne2, g1⟩ <;> rcases hget x' o2 h2 with ⟨e2, _⟩ | ⟨hne', hne2', g2⟩
    · exact e1.trans e2.symm
    · simp only [ρ', if_pos e1, if_neg hne', Option.some.injEq] at h3 h4
      subst h3
      exact absurd h5.symm (hapart x' o2 r2 hne2' g2 h4)
    · simp only [ρ', if_pos e2, if_neg hne, Option.some.injEq] at h3 h4
      subst h4
      exact absurd h5 (hapart x o1 r1 hne2 g1 h3)
    · simp only [ρ', if_neg hne, if_neg hne'] at h3 h4
      exact hs.inj x x' o1 o2 r1 r2 g1 g2 h3 h4 h5
  · simp only [ρ']
    rw [if_neg (by omega)]; exact hs.fresh x (by omega)
  · simp only [ρ'] at hr1
    rw [if_neg (by omega)] at hr1; exact hs.glob x r1 hx hr1
  · have := hs.lt hr
    rw [Heap.get_new, hdn, if_neg (by omega), Heap.get_del, if_neg (by omega)]
  · rcases hget x o1 hx with ⟨e1, _⟩ | ⟨hne, hne2, hx⟩
    · simp only [ρ', if_pos e1, Option.some.injEq] at hr1; subst hr1; exact .inr ⟨b, _, r, hg, hb, hr, rfl⟩
    · simp only [ρ', if_neg hne] at hr1; exact .inr ⟨x, o1, r1, hgx, hx, hr1, rfl⟩
  · simp only [ρ']
    rw [if_neg]; exact h0
    rw [Heap.nx_eq]
    by_cases e : h.rs = 0
    · rw [if_pos e]; omega
    · rw [if_neg e]; exact hne
end
end Go.Ev
