/- EvJ: operations, one by one (walks, conversions, calls), and all of them. -/
import Derived.Test.YtnfcjgfaecihbaaGreatDoorEvI
set_option linter.unusedVariables false
set_option linter.unusedSimpArgs false
set_option linter.unusedSectionVars false
set_option linter.constructorNameAsVariable false
namespace Go.Ev
open Go
section
variable {P : Program} {ρ : Ren} {h : Heap} {w : World}
theorem Sim.other (hs : Sim ρ h w) {b : Nat} {o : Ob} {r : RB} (hb : h.get b = some o) (hr : ρ b = some r) : ∃ o', w.heap[r.id]? = some o' ∧ ObR ρ r o o' := by
  obtain ⟨r', o', h1, h2, h3⟩ := hs.obj b _ hb
  rw [h1] at hr; cases hr
  exact ⟨o', h2, h3⟩
theorem unseen_eq (seen : List Nat) : ∀ {es es' : List MapEntry}, ER ρ es es' → ER ρ (unseen seen es) (es'.filter fun e => !(⟨seen⟩ : Array Nat).contains e.born)
  | _, _, .nil => .nil
  | _, _, .cons (b := b) hk hv hl => by
    have ih := unseen_eq seen hl
    have hany : seen.any (Nat.beq b) = (⟨seen⟩ : Array Nat).contains b := by
      rw [List.contains_toArray, List.contains_eq_any_beq]
      congr 1; funext x; rw [Bool.eq_iff_iff]; simp
    simp only [unseen, List.filter_cons]
    rw [hany]
    cases (⟨seen⟩ : Array Nat).contains b with
    | true => simpa using ih
    | false => simpa using ER.cons hk hv ih
theorem bornAll_eq (since : Nat) : ∀ {es es' : List MapEntry}, ER ρ es es' → bornAll since es = true → ∀ e ∈ es', e.born < since
  | _, _, .nil, _, e, he => by cases he
  | _, _, .cons _ _ hl, hb, e, he => by
    simp only [bornAll, Bool.and_eq_true] at hb
    rcases List.mem_cons.1 he with rfl | h
    · have := Nat.le_of_ble_eq_true hb.1; exact this
    · exact bornAll_eq since hl hb.2 e h
theorem each_ok {m r since : Nat} {seen : List Nat} {res : Result Value} : ∀ (es : List MapEntry) (e : MapEntry) (i : Nat) {ei : MapEntry}, (e :: es)[i]? = some ei → VSpec ρ h w (thisM m r since seen h ei) res → VSpec ρ h w (eachM m r since seen h e es) res
  | [], e, 0, ei, hi, hv => by simp at hi; subst hi; exact hv
  | [], e, i + 1, ei, hi, hv => by simp at hi
  | e' :: es, e, 0, ei, hi, hv => by simp at hi; subst hi; exact .inl hv
  | e' :: es, e, i + 1, ei, hi, hv => .inr (each_ok es e' i (by simpa using hi) hv)
theorem next_ok (hs : Sim ρ h w) {it it' : Value} (isS : Bool) (ty : TypeId) (hit : VR ρ it it') : VSpec ρ h w (nextS it isS h) ((Instr.next it' isS ty).run P w) := by
  unfold nextS
  split
  · rename_i b
    obtain ⟨r, hr, rfl⟩ := ptr_inv hit
    split
    · rename_i l pos hg
      obtain ⟨o', h1, h2⟩ := hs.other hg hr
      cases h2
      cases hb : Nat.blt pos l.length with
      | true =>
        have hlt : pos < (⟨⟨l⟩⟩ : ByteArray).size := by
          have : pos + 1 ≤ l.length := by simpa [Nat.blt] using hb
          show pos < l.length; omega
        simp only [cond_true, fN_eq]
        refine .ob fun h' e => ?_
        have hT := Turn.obj hs hg hr (.sIter l (pos + (Utf8.decode ⟨⟨l⟩⟩ pos).2)) e
        refine ⟨ρ, _, _, ?_, hT, .tuple (.cons (.bool true) (.cons (.int _ _) (.cons (.int _ _) .nil)))⟩
        unfold Instr.next
        simp only [Sem.run_bind, run_getObj_of h1 (by simp), Result.andThen_ok, if_pos hlt]
        simp only [Sem.run_bind, run_setObj_of _ h1 (by simp), Result.andThen_ok]
        rfl
      | false =>
        have hlt : ¬ pos < (⟨⟨l⟩⟩ : ByteArray).size := by
          intro hc
          have : pos < l.length := hc
          have : Nat.blt pos l.length = true := by simp [Nat.blt]; omega
          rw [this] at hb; cases hb
        refine .same hs ?_ (.tuple (.cons (.bool false) .nil))
        unfold Instr.next
        simp only [Sem.run_bind, run_getObj_of h1 (by simp), Result.andThen_ok, if_neg hlt]
        rfl
    · rename_i a1 a2 a3 hg
      obtain ⟨o', h1, h2⟩ := hs.other hg hr
      cases h2
      refine .same hs ?_ (.tuple (.cons (.bool false) .nil))
      unfold Instr.next
      simp only [Sem.run_bind, run_getObj_of h1 (by simp), Result.andThen_ok]
      rfl
    · rename_i m since seen last hg
      obtain ⟨o', h1, h2⟩ := hs.other hg hr
      cases h2
      rename_i rm hm
      unfold nextM
      split
      · rename_i es clock hgm
        obtain ⟨es', g1, g2⟩ := hs.map hgm hm
        cases hb : (Nat.beq clock since && Nat.beq last since && bornAll since es) with
        | false => trivial
        | true =>
          simp only [cond_true]
          simp only [Bool.and_eq_true] at hb
          have e1 : clock = since := Nat.eq_of_beq_eq_true hb.1.1
          have e2 : last = since := Nat.eq_of_beq_eq_true hb.1.2
          subst e1 e2
          have hall := bornAll_eq _ g2 hb.2
          have hun := unseen_eq seen g2
          generalize hL : (es'.filter fun e => !(⟨seen⟩ : Array Nat).contains e.born) = L at hun
          have hLs : ∀ e ∈ L, e.born < last := fun e he => hall e (by rw [← hL] at he; exact (List.mem_filter.1 he).1)
          have hcond : (!(⟨seen⟩ : Array Nat).isEmpty && !(⟨es'⟩ : Array MapEntry).isEmpty && (⟨es'⟩ : Array MapEntry).all (fun e => decide (e.born ≥ last))) = false := by
            cases es' with
            | nil => simp
            | cons e0 es0 =>
              have : ¬ e0.born ≥ last := by have := hall e0 (by simp); omega
              simp [this]
          have hleft : (⟨es'⟩ : Array MapEntry).filter (fun e => !(⟨seen⟩ : Array Nat).contains e.born) = ⟨L⟩ := by rw [List.filter_toArray, hL]
          have hold : (⟨L⟩ : Array MapEntry).filter (fun e => decide (e.born < last)) = ⟨L⟩ := by
            rw [List.filter_toArray]; congr 1
            exact List.filter_eq_self.2 fun e he => by simpa using hLs e he
          have hnew : (⟨L⟩ : Array MapEntry).filter (fun e => decide (e.born ≥ last)) = #[] := by
            rw [List.filter_toArray]
            rw [List.filter_eq_nil_iff.2 fun e he => by have := hLs e he; simp; omega]
          have hrun : (Instr.next (.pointer (some ⟨r.id, 0, none⟩)) false ty).run P w =
              (do match ((if (⟨L⟩ : Array MapEntry).isEmpty then #[none] else #[]) ++ ((⟨L⟩ : Array MapEntry) ++ #[]).map some)[← choose (.mapNext ((if (⟨L⟩ : Array MapEntry).isEmpty then #[none] else #[]) ++ ((⟨L⟩ : Array MapEntry) ++ #[]).map some).size)]? with
                | some (some e) =>
                  setObj r.id (.mapIter (some rm.id) last ((⟨seen⟩ : Array Nat).push e.born) last)
                  pure (.tuple #[.bool true, e.key, e.val])
                | some none => pure (.tuple #[.bool false])
                | none => stuck "Next: no such candidate" : Sem Value).run P w := by
            unfold Instr.next
            simp only [Sem.run_bind, run_getObj_of h1 (by simp), Result.andThen_ok]
            simp only [Sem.run_bind, run_getObj_of g1 (by simp), Result.andThen_ok]
            simp only [hcond, Bool.false_eq_true, if_false, hleft, hold, hnew, Sem.run_bind]
            rfl
          rw [hrun]
          cases L with
          | nil =>
            generalize hq : unseen seen es = q at hun
            cases hun
            refine .same hs ?_ (.tuple (.cons (.bool false) .nil))
            simp [Question.forced]
          | cons e0 L0 =>
            generalize hq : unseen seen es = q at hun
            cases q with
            | nil => cases hun
            | cons d0 q0 =>
              have hcand : ((if (⟨e0 :: L0⟩ : Array MapEntry).isEmpty then #[none] else #[]) ++ ((⟨e0 :: L0⟩ : Array MapEntry) ++ #[]).map some) = (⟨(e0 :: L0).map some⟩ : Array (Option MapEntry)) := by simp
              rw [hcand]
              obtain ⟨i, w1, hch, hi, hw1, ho1, ht1, hu1⟩ : ∃ i w1, (choose (.mapNext (⟨(e0 :: L0).map some⟩ : Array (Option MapEntry)).size)).run P w = .ok i w1 ∧ i < (e0 :: L0).length ∧ w1.heap = w.heap ∧ w1.os = w.os ∧ w1.tape = w.tape ∧ w1.output = w.output := by
                rw [run_choose]
                have hsz : (⟨(e0 :: L0).map some⟩ : Array (Option MapEntry)).size = (e0 :: L0).length := by simp
                rw [hsz]
                split
                · exact ⟨0, w, rfl, by simp, rfl, rfl, rfl, rfl⟩
                · exact ⟨_, _, rfl, Nat.mod_lt _ (by simp), rfl, rfl, rfl, rfl⟩
              simp only [Sem.run_bind, hch, Result.andThen_ok]
              have hei : (e0 :: L0)[i]? = some (e0 :: L0)[i] := List.getElem?_eq_getElem hi
              have hc2 : (⟨(e0 :: L0).map some⟩ : Array (Option MapEntry))[i]? = some (some (e0 :: L0)[i]) := by
                rw [List.getElem?_toArray, List.getElem?_map, hei]; rfl
              simp only [hc2]
              have hlen := hun.length
              have hiq : i < (d0 :: q0).length := by rw [← hlen]; exact hi
              obtain ⟨e', k1, k2, k3, k4⟩ := hun.get i (List.getElem?_eq_getElem hiq)
              rw [hei] at k1; cases k1
              refine each_ok q0 d0 i (List.getElem?_eq_getElem hiq) ?_
              unfold thisM
              refine .ob fun h' e => ?_
              have h1' : w1.heap[r.id]? = some (.mapIter (some rm.id) last ⟨seen⟩ last) := by rw [hw1]; exact h1
              have hT := Turn.obj (hs.of_heap hw1) hg hr (.mIter last (seen ++ [(d0 :: q0)[i].born]) last hm) e
              refine ⟨ρ, .tuple #[.bool true, (e0 :: L0)[i].key, (e0 :: L0)[i].val], _, ?_, hT.of_heap hw1 ho1 ht1 hu1, .tuple (.cons (.bool true) (.cons k2 (.cons k3 .nil)))⟩
              simp only [Sem.run_bind, push_eq, k4, run_setObj_of _ h1' (by simp), Result.andThen_ok, Sem.run_pure]
      · trivial
    · trivial
  · trivial
theorem lastN_eq : ∀ (l : List Nat), lastN l = l.getLast?
  | [] => rfl
  | [x] => rfl
  | x :: y :: l => by simp only [lastN, List.getLast?_cons_cons]; exact lastN_eq (y :: l)
theorem findB_ok (b : Nat) : ∀ {es es' : List MapEntry}, ER ρ es es' → ∀ {e : MapEntry}, findB b es = some e → ∃ e', es'.find? (fun x => x.born == b) = some e' ∧ VR ρ e.key e'.key ∧ VR ρ e.val e'.val
  | _, _, .nil, e, h => by cases h
  | _, _, .cons (k' := k1) (v' := v1) (b := b1) hk hv hl, e, h => by
    simp only [findB] at h
    cases hb : Nat.beq b1 b with
    | true =>
      simp only [hb, cond_true, Option.some.injEq] at h
      subst h
      have := Nat.eq_of_beq_eq_true hb
      subst this
      exact ⟨⟨k1, v1, b1⟩, by simp, hk, hv⟩
    | false =>
      simp only [hb, cond_false] at h
      obtain ⟨e', h1, h2, h3⟩ := findB_ok b hl h
      have hne : (b1 == b) = false := by rw [Bool.eq_false_iff]; intro hh; simp at hh; rw [hh] at hb; simp at hb
      exact ⟨e', by rw [List.find?_cons]; simp [hne, h1], h2, h3⟩
theorem entry_ok (hs : Sim ρ h w) {it it' : Value} (hit : VR ρ it it') : VSpec ρ h w (entS it h) ((Instr.entry it').run P w) := by
  unfold entS
  split
  · rename_i b
    obtain ⟨r, hr, rfl⟩ := ptr_inv hit
    split
    · rename_i m since seen stepped hg
      obtain ⟨o', h1, h2⟩ := hs.other hg hr
      cases h2
      rename_i rm hm
      split
      · rename_i es clock st hgm hst
        obtain ⟨es', g1, g2⟩ := hs.map hgm hm
        cases hb : Nat.beq clock stepped with
        | false => trivial
        | true =>
          simp only [cond_true]
          have e1 : clock = stepped := Nat.eq_of_beq_eq_true hb
          split
          · rename_i e he
            obtain ⟨e', k1, k2, k3⟩ := findB_ok st g2 he
            refine .same hs (v' := .tuple #[e'.key, e'.val]) ?_ (.tuple (.cons k2 (.cons k3 .nil)))
            have hback : (⟨seen⟩ : Array Nat).back? = some st := by
              rw [← hst, lastN_eq]; simp
            have hfind : (⟨es'⟩ : Array MapEntry).find? (fun x => x.born == st) = some e' := by rw [List.find?_toArray]; exact k1
            have hne : (clock != stepped) = false := by rw [e1]; simp
            unfold Instr.entry
            simp only [Sem.run_bind, run_getObj_of h1 (by simp), Result.andThen_ok, hback]
            simp only [Sem.run_bind, run_getObj_of g1 (by simp), Result.andThen_ok, hne, Bool.false_eq_true, if_false, hfind, Sem.run_pure]
          · trivial
      · trivial
    · trivial
  · trivial
theorem bytesL_some : ∀ {l : List Value} {bs : List UInt8}, bytesL l = some bs → ∃ ns : List Nat, l = ns.map (fun n => Value.int .u8 (.ofNat n)) ∧ bs = ns.map UInt8.ofNat
  | [], bs, e => by cases e; exact ⟨[], rfl, rfl⟩
  | v :: l, bs, e => by
    unfold bytesL at e
    split at e
    · rename_i heq; cases heq
    · rename_i n l1 heq
      injection heq with h1 h2
      subst h1 h2
      split at e
      · rename_i r hr
        cases e
        obtain ⟨ns, h1, h2⟩ := bytesL_some hr
        exact ⟨n :: ns, by rw [h1]; rfl, by rw [h2]; rfl⟩
      · cases e
    · cases e
theorem push_fold : ∀ (ns : List Nat) (s : ByteArray), (ns.map (Int.ofNat)).foldl (fun r n => r.push (UInt8.ofNat n.toNat)) s = ⟨⟨s.data.toList ++ ns.map UInt8.ofNat⟩⟩
  | [], s => by simp
  | n :: ns, s => by
    simp only [List.map_cons, List.foldl_cons]
    rw [push_fold ns]
    show ByteArray.mk ⟨(s.data.push _).toList ++ _⟩ = _
    simp
theorem textS_ok {b off n : Nat} {e : TypeId} {bs : List UInt8} (ht : textS P h b off n e = some bs) :
    P.underlying e = some (.int .u8) ∧ ∃ (c : List Value) (m o : Nat) (el : TypeId) (ns : List Nat), h.get b = some (.cells c m o el) ∧ (c.drop off).take n = ns.map (fun n => Value.int .u8 (.ofNat n)) ∧ n ≤ (c.drop off).length ∧ bs = ns.map UInt8.ofNat := by
  unfold textS at ht
  split at ht
  · rename_i c m o el hu hg
    split at ht
    · rename_i l hl
      rw [drp_eq] at hl
      obtain ⟨h1, rfl⟩ := tk_some hl
      obtain ⟨ns, h2, h3⟩ := bytesL_some ht
      exact ⟨hu, c, m, o, el, ns, hg, h2, h1, h3⟩
    · cases ht
  · cases ht
theorem VRL.ints : ∀ (ns : List Nat) {l' : List Value}, VRL ρ (ns.map (fun n => Value.int .u8 (.ofNat n))) l' → l' = ns.map (fun n => Value.int .u8 (.ofNat n))
  | [], _, .nil => rfl
  | n :: ns, _, .cons h hl => by rw [int_inv h, VRL.ints ns hl]; rfl
theorem text_load (hs : Sim ρ h w) {b off n : Nat} {r : RB} (hr : ρ b = some r) {c : List Value} {m o : Nat} {el : TypeId} {ns : List Nat} (hg : h.get b = some (.cells c m o el)) (h1 : (c.drop off).take n = ns.map (fun n => Value.int .u8 (.ofNat n))) (h2 : n ≤ (c.drop off).length) :
    (loadCells ⟨r.id, off, none⟩ n).run P w = .ok (ns.map (fun n => Value.int .u8 (.ofNat n))).toArray w := by
  obtain ⟨l, mm, lo, hi, L⟩ := hs.cells hg hr
  have hv := (L.vr.drop off).take n
  rw [h1] at hv
  have hl := VRL.ints ns hv
  by_cases hn : n = 0
  · subst hn
    have : ns = [] := by simp at h1; exact h1
    subst this
    rfl
  · rw [List.length_drop] at h2
    have := L.load (P := P) (off := off) (k := n) (by omega)
    rw [this, hl]
theorem newBytes_ok (hs : Sim ρ h w) (c : List Value) (hc : flatL c = true) (e : TypeId) (q : Nat) (hq : c.length ≤ q) (m : List Value) (hm : m.length = q - c.length) {lo hi : Nat} (hf : hi ≤ lo ∨ c.length + m.length ≤ lo) {r : Result Value}
    (hr : r = .ok (.slice (some ⟨w.heap.size, 0, none⟩) c.length q) { drawn1 w with heap := w.heap.push (.cells ⟨c ++ m⟩ e (lo, hi)) }) : VSpec ρ h w (newBytes h c e) r := by
  unfold newBytes
  rw [fN_eq]
  exact newOpen_ok (w1 := drawn1 w) hs (VRL.of_flat hc) hq (by rw [hm]; omega) hf rfl rfl rfl rfl hr
theorem flat_bytes : ∀ (l : List UInt8), flatL (l.map fun b => Value.int .u8 (.ofNat b.toNat)) = true
  | [] => rfl
  | _ :: l => by simp only [List.map_cons, flatL, flat, Bool.true_and]; exact flat_bytes l
theorem push_modify {α : Type} (a : Array α) (x : α) (f : α → α) : (a.push x).modify a.size f = a.push (f x) := by
  apply Array.ext_getElem?
  intro i
  simp only [Array.getElem?_modify, Array.getElem?_push]
  by_cases h : i = a.size
  · subst h; simp
  · simp [h, Ne.symm h]
theorem draw_cap (need old : Nat) (e : TypeId) : ∃ q, need ≤ q ∧ (choose (.appendCap need old e)).run P w = .ok q (drawn1 w) :=
  ⟨need + w.tape w.drawn (.appendCap need old e) % (2 ^ 63 - need), Nat.le_add_right _ _, by rw [run_choose]; rfl⟩
theorem flat_runes (s : ByteArray) : ∀ (bound i : Nat) (acc : Array Value), flatL acc.toList = true → flatL (Conv.runesFrom s bound i acc).toList = true
  | 0, _, acc, ha => ha
  | bound + 1, i, acc, ha => by
    unfold Conv.runesFrom
    split
    · refine flat_runes s bound _ _ ?_
      have app : ∀ (a b : List Value), flatL a = true → flatL b = true → flatL (a ++ b) = true := by
        intro a
        induction a with
        | nil => intro b _ h; exact h
        | cons x a ih => intro b h1 h2; simp only [List.cons_append, flatL, Bool.and_eq_true] at *; exact ⟨h1.1, ih b h1.2 h2⟩
      rw [Array.toList_push]
      exact app _ _ ha rfl
    · exact ha
theorem ptr_ok (hs : Sim ρ h w) {a b : TypeId} {da db : TypeDesc} (ha : P.underlying a = some da) (hb : P.underlying b = some db) {x x' : Value} (hx : VR ρ x x') : VSpec ρ h w (ptrS P da db x h) ((Go.convert a b x').run P w) := by
  unfold ptrS
  split
  · rename_i t blk off
    split
    · rename_i c n e k hg hk
      cases hlt : Nat.blt off n with
      | false => trivial
      | true =>
        simp only [cond_true]
        obtain ⟨r, hr, rfl⟩ := ptr_inv hx
        obtain ⟨l, m, lo, hi, L⟩ := hs.cells hg hr
        have hm := L.shut rfl
        subst hm
        refine .same hs ?_ (.ptr off hr)
        have hsh : w.shape? r.id = some (e, l.length) := by simp [World.shape?, L.heap]
        have hoff : ¬ (off ≥ l.length) := by
          have h1 : off + 1 ≤ n := by simpa [Nat.blt] using hlt
          have := L.vr.length; have := L.n; omega
        unfold Go.convert
        simp only [Sem.run_bind, und_run ha w, und_run hb w, Result.andThen_ok, Conv.unsafePointer, Conv.seenAt, viewAt, cellsIn, run_shape, hsh, Option.isSome_some, if_true, Sem.run_pure, sizeT_run hk w]
        simp [hoff]
    · trivial
  · rename_i u blk off
    split
    · rename_i c n e k hg hk
      cases hlt : liesAt P P.depth e (n / P.cellsOf e) off u 1 with
      | false => trivial
      | true =>
        simp only [cond_true]
        obtain ⟨r, hr, rfl⟩ := ptr_inv hx
        obtain ⟨l, m, lo, hi, L⟩ := hs.cells hg hr
        have hm := L.shut rfl
        subst hm
        refine .same hs ?_ (.ptr off hr)
        have hln : l.length = n := by rw [L.vr.length, L.n]
        have hsh : w.shape? r.id = some (e, n) := by simp [World.shape?, L.heap, hln]
        unfold Go.convert
        simp only [Sem.run_bind, und_run ha w, und_run hb w, Result.andThen_ok, Conv.unsafePointer, Conv.seenAt, viewAt, run_shape, hsh, Option.isSome_some, if_true, Sem.run_pure, sizeT_run hk w, variablesAt, run_program, hlt]
        simp
    · trivial
  · trivial
theorem convK_ok (hs : Sim ρ h w) {a b : TypeId} {da db : TypeDesc} (ha : P.underlying a = some da) (hb : P.underlying b = some db) {x x' : Value} (hx : VR ρ x x') : VSpec ρ h w (convK P da db x h) ((Go.convert a b x').run P w) := by
  unfold convK
  split
  · rename_i e l
    have := str_inv hx; subst this
    split
    · rename_i hu
      rw [fL_eq]
      obtain ⟨q, hq, hch⟩ := draw_cap (P := P) (w := w) l.length 0 e
      have hlen : (l.map fun b => Value.int .u8 (.ofNat b.toNat)).length = l.length := by simp
      refine newBytes_ok hs _ (flat_bytes l) e q (by rw [hlen]; exact hq) (List.replicate (q - l.length) (.int .u8 0)) (by simp) (lo := q) (hi := q + 1) (.inr (by simp; omega)) ?_
      have hsz : (⟨⟨l⟩⟩ : ByteArray).size = l.length := rfl
      have hcells : ((⟨⟨l⟩⟩ : ByteArray).data.map (fun b => Value.int .u8 b.toNat) ++ Array.replicate (q - l.length) (.int .u8 0)) = ⟨(l.map fun b => Value.int .u8 (.ofNat b.toNat)) ++ List.replicate (q - l.length) (.int .u8 0)⟩ := by
        apply Array.ext'; simp
      unfold Go.convert
      have htot : (⟨(l.map fun b => Value.int .u8 (.ofNat b.toNat)) ++ List.replicate (q - l.length) (.int .u8 0)⟩ : Array Value).size = q := by simp; omega
      have hshape : (World.shape? { drawn1 w with heap := w.heap.push (.cells ⟨(l.map fun b => Value.int .u8 (.ofNat b.toNat)) ++ List.replicate (q - l.length) (.int .u8 0)⟩ e) } w.heap.size) = some (e, q) := by
        simp only [World.shape?, Array.getElem?_push_size, htot]
      simp only [Sem.run_bind, und_run ha w, und_run hb w, Result.andThen_ok, und_run hu w, Conv.stringToBytes, hsz, hch, newRow, run_newObj, Sem.run_pure, hcells, markStringish, run_shape]
      rw [hshape]
      simp only [run_freeze, Result.andThen_ok, hlen]
      congr 1
      simp only [World.freeze, show ¬ ((1 : Nat) = 0) from by decide, if_false]
      rw [push_modify]
      rfl
    · rename_i hu
      rw [fL_eq]
      obtain ⟨q, hq, hch⟩ := draw_cap (P := P) (w := w) (Conv.runesFrom ⟨⟨l⟩⟩ l.length 0 #[]).size 0 e
      have hlen : (Conv.runesFrom ⟨⟨l⟩⟩ l.length 0 #[]).toList.length = (Conv.runesFrom ⟨⟨l⟩⟩ l.length 0 #[]).size := by simp
      refine newBytes_ok hs _ (flat_runes _ _ _ _ rfl) e q (by rw [hlen]; exact hq) (List.replicate (q - (Conv.runesFrom ⟨⟨l⟩⟩ l.length 0 #[]).size) (.int .i32 0)) (by simp) (lo := 0) (hi := 0) (.inl (Nat.le_refl _)) ?_
      have hsz : (⟨⟨l⟩⟩ : ByteArray).size = l.length := rfl
      have hcells : (Conv.runesFrom ⟨⟨l⟩⟩ l.length 0 #[] ++ Array.replicate (q - (Conv.runesFrom ⟨⟨l⟩⟩ l.length 0 #[]).size) (.int .i32 0)) = ⟨(Conv.runesFrom ⟨⟨l⟩⟩ l.length 0 #[]).toList ++ List.replicate (q - (Conv.runesFrom ⟨⟨l⟩⟩ l.length 0 #[]).size) (.int .i32 0)⟩ := by
        apply Array.ext'; simp
      unfold Go.convert
      simp only [Sem.run_bind, und_run ha w, und_run hb w, Result.andThen_ok, und_run hu w, Conv.stringToRunes, hsz, hch, newRow, run_newObj, Sem.run_pure, hcells, hlen]
    · trivial
  · rename_i e blk off n cap
    unfold strS
    refine .ob fun bs hbs => ?_
    obtain ⟨hu, c, m, o, el, ns, hg, h1, h2, rfl⟩ := textS_ok hbs
    obtain ⟨r, cap', hr, rfl, _⟩ := slice_inv hx
    refine .same hs ?_ (.string _)
    rw [run_convert_bytes_string w a b e (some ⟨r.id, off, none⟩) n cap' ha hu hb]
    have hl := text_load (P := P) hs hr hg h1 h2
    have := run_bytesToString (P := P) w ⟨r.id, off, none⟩ n cap' (ns.map Int.ofNat) (by rw [hl]; simp)
    rw [this, push_fold]
    rfl
  · exact ptr_ok hs ha hb hx
theorem conv_ok (hs : Sim ρ h w) (a b : TypeId) {x x' : Value} (hx : VR ρ x x') : VSpec ρ h w (convS P a b x h) ((Go.convert a b x').run P w) := by
  unfold convS
  split
  · rename_i e ha hb
    exact convK_ok hs ha hb hx
  · rename_i da db _ ha hb
    cases hf : flat x with
    | true =>
      have := hx.flat hf; subst this
      exact .pvf hs fun v hv => pureP_run _ hv
    | false => exact convK_ok hs ha hb hx
  · trivial
theorem app3 {a a' b b' c c' : List Value} (h1 : VRL ρ a a') (h2 : VRL ρ b b') (h3 : VRL ρ c c') : VRL ρ (a ++ b ++ c) (a' ++ b' ++ c') := (h1.append h2).append h3
theorem find_noEscape {fn : Func} {e : Array Value → Sem Value} (hn : fn.name = "internal/abi.NoEscape") (he : Extern.find fn = some e) : e = Extern.AbiNoEscape.same := by
  unfold Extern.find at he
  rw [hn] at he
  have h1 : Extern.allGenericRows.lookup "internal/abi.NoEscape" = none := by kernel_rfl
  have h2 : Extern.allTypedRows.lookup "internal/abi.NoEscape" = none := by kernel_rfl
  have h3 : Extern.allRows.lookup "internal/abi.NoEscape" = some Extern.AbiNoEscape.same := by kernel_rfl
  simp only [h1, h2, h3] at he
  simpa using he.symm
theorem find_makeNoZero {fn : Func} {e : Array Value → Sem Value} (hn : fn.name = "internal/bytealg.MakeNoZero") (he : Extern.find fn = some e) : e = Extern.BytealgMakeNoZero.makeNoZero fn.params fn.resultTypes := by
  unfold Extern.find at he
  rw [hn] at he
  have h1 : Extern.allGenericRows.lookup "internal/bytealg.MakeNoZero" = none := by kernel_rfl
  have h2 : Extern.allTypedRows.lookup "internal/bytealg.MakeNoZero" = some Extern.BytealgMakeNoZero.makeNoZero := by kernel_rfl
  simp only [h1, h2] at he
  simpa using he.symm
end
end Go.Ev
