/- EvW: what an operation's value hangs on. -/
import Derived.Test.YtnfcjgfaecihbaaGreatDoorEvK
import Derived.Test.YtnfcjgfaecihbaaGreatDoorEvX
set_option linter.unusedVariables false
set_option linter.unusedSimpArgs false
set_option linter.unusedSectionVars false
set_option linter.constructorNameAsVariable false
namespace Go.Ev
open Go
def SLe (l : List Operand) (s s' : Slots) : Prop := ∀ t, .tmp t ∈ l → ∀ v, s.get t = some v → s'.get t = some v
def Same (x y : OR) : Prop := x = .fail ∨ y = x
section
variable {P : Program} {s s' : Slots} {h : Heap}
theorem opd_le {x : Operand} {v : Value} (hx : ∀ t, x = .tmp t → ∀ v, s.get t = some v → s'.get t = some v) (e : (opd x).f s h = some v) : (opd x).f s' h = some v := by
  cases x with
  | tmp t => exact hx t rfl v e
  | const c =>
    simp only [opd] at e ⊢
    cases hc : flat c <;> rw [hc] at e <;> exact e
  | global g => exact e
  | func f => exact e
theorem o1_le {x : Operand} {k k' : Value → OR} (hx : ∀ t, x = .tmp t → ∀ v, s.get t = some v → s'.get t = some v) (hk : ∀ v, Same (k v) (k' v)) : Same (o1 x s h k) (o1 x s' h k') := by
  unfold o1
  cases e : (opd x).f s h with
  | none => exact .inl rfl
  | some v => rw [opd_le hx e]; exact hk v
theorem o2_le {x y : Operand} {k k' : Value → Value → OR} (hx : ∀ t, x = .tmp t → ∀ v, s.get t = some v → s'.get t = some v) (hy : ∀ t, y = .tmp t → ∀ v, s.get t = some v → s'.get t = some v)
    (hk : ∀ v u, Same (k v u) (k' v u)) : Same (o2 x y s h k) (o2 x y s' h k') := o1_le hx fun v => o1_le hy fun u => hk v u
theorem oL_le : ∀ {l : List Operand} {k k' : List Value → OR}, SLe l s s' → (∀ vs, Same (k vs) (k' vs)) → Same (oL l s h k) (oL l s' h k')
  | [], _, _, _, hk => hk []
  | _ :: _, _, _, hl, hk => o1_le (fun t e => hl t (by simp [e])) fun v => oL_le (fun t ht => hl t (by simp [ht])) fun vs => hk (v :: vs)
theorem oP_le : ∀ {l : List (Nat × Operand)} {k k' : List (Nat × Value) → OR}, SLe (l.map (·.2)) s s' → (∀ vs, Same (k vs) (k' vs)) → Same (oP l s h k) (oP l s' h k')
  | [], _, _, _, hk => hk []
  | _ :: _, _, _, hl, hk => o1_le (fun t e => hl t (by simp [e])) fun v => oP_le (fun t ht => hl t (by simp at ht ⊢; exact .inr ht)) fun vs => hk (_ :: vs)
theorem oo_le {x : Option Operand} {k k' : Option Value → OR} (hx : ∀ t, x = some (.tmp t) → ∀ v, s.get t = some v → s'.get t = some v) (hk : ∀ v, Same (k v) (k' v)) : Same (oo x s h k) (oo x s' h k') := by
  cases x with
  | none => exact hk none
  | some x => exact o1_le (fun t e => hx t (by rw [e])) fun v => hk (some v)
theorem Same.rfl {x : OR} : Same x x := .inr (Eq.refl x)
theorem opK_le (op : Op) (hl : SLe op.operands.toList s s') : Same ((opK P op).f s h) ((opK P op).f s' h) := by
  have one : ∀ {x : Operand}, x ∈ op.operands.toList → ∀ t, x = .tmp t → ∀ v, s.get t = some v → s'.get t = some v := fun hx t e => hl t (e ▸ hx)
  cases op with
  | move x => exact o1_le (one (by simp [Op.operands])) fun _ => .rfl
  | assign x => exact o1_le (one (by simp [Op.operands])) fun _ => .rfl
  | pick c x y =>
    refine o1_le (one (by simp [Op.operands])) fun v => ?_
    unfold pickS
    split
    · exact o1_le (one (by simp [Op.operands])) fun _ => .rfl
    · exact o1_le (one (by simp [Op.operands])) fun _ => .rfl
    · exact .rfl
  | alloc t => exact .rfl
  | box t x => exact o1_le (one (by simp [Op.operands])) fun _ => .rfl
  | build t ps => exact oP_le (fun t ht => hl t (by simpa [Op.operands] using ht)) fun _ => .rfl
  | buildSlice t len ps => exact oP_le (fun t ht => hl t (by simpa [Op.operands] using ht)) fun _ => .rfl
  | load t x => exact o1_le (one (by simp [Op.operands])) fun _ => .rfl
  | store t x y => exact o2_le (one (by simp [Op.operands])) (one (by simp [Op.operands])) fun _ _ => .rfl
  | nilCheck x => exact o1_le (one (by simp [Op.operands])) fun _ => .rfl
  | binOp op t x y yt => exact o2_le (one (by simp [Op.operands])) (one (by simp [Op.operands])) fun _ _ => .rfl
  | unOp op t x => exact o1_le (one (by simp [Op.operands])) fun _ => .rfl
  | convert b c x => exact o1_le (one (by simp [Op.operands])) fun _ => .rfl
  | makeInterface t x => exact o1_le (one (by simp [Op.operands])) fun _ => .rfl
  | makeFunc fn x y => exact oL_le (fun t ht => hl t (by simp [Op.operands] at ht ⊢; exact .inl ht)) fun vs => oL_le (fun t ht => hl t (by simp [Op.operands] at ht ⊢; exact .inr ht)) fun us => .rfl
  | makeMap t r => exact oo_le (k := fun r => makeMapS P t r h) (x := r) (fun t e => hl t (by simp [Op.operands, e])) fun _ => .rfl
  | makeSlice t x y => exact o2_le (one (by simp [Op.operands])) (one (by simp [Op.operands])) fun _ _ => .rfl
  | slice t x lo hi mx =>
    exact o1_le (one (by simp [Op.operands])) fun v => oo_le (fun t e => hl t (by simp [Op.operands, e])) fun l => oo_le (fun t e => hl t (by simp [Op.operands, e])) fun hh => oo_le (fun t e => hl t (by simp [Op.operands, e])) fun m => .rfl
  | fieldAddr t x f => exact o1_le (one (by simp [Op.operands])) fun _ => .rfl
  | field t x f => exact o1_le (one (by simp [Op.operands])) fun _ => .rfl
  | indexAddr t x i => exact o2_le (one (by simp [Op.operands])) (one (by simp [Op.operands])) fun _ _ => .rfl
  | index t x i => exact o2_le (one (by simp [Op.operands])) (one (by simp [Op.operands])) fun _ _ => .rfl
  | lookup t x i ok => exact o2_le (one (by simp [Op.operands])) (one (by simp [Op.operands])) fun _ _ => .rfl
  | mapUpdate t m k x => exact o2_le (one (by simp [Op.operands])) (one (by simp [Op.operands])) fun _ _ => o1_le (one (by simp [Op.operands])) fun _ => .rfl
  | insert t m k x => exact o2_le (one (by simp [Op.operands])) (one (by simp [Op.operands])) fun _ _ => o1_le (one (by simp [Op.operands])) fun _ => .rfl
  | mapEntry t m k => exact o2_le (one (by simp [Op.operands])) (one (by simp [Op.operands])) fun _ _ => .rfl
  | entryStore t m st x => exact o2_le (one (by simp [Op.operands])) (one (by simp [Op.operands])) fun _ _ => o1_le (one (by simp [Op.operands])) fun _ => .rfl
  | range t x => exact o1_le (one (by simp [Op.operands])) fun _ => .rfl
  | next it b => exact o1_le (one (by simp [Op.operands])) fun _ => .rfl
  | entry it => exact o1_le (one (by simp [Op.operands])) fun _ => .rfl
  | typeAssert x xt t ok => exact o1_le (one (by simp [Op.operands])) fun _ => .rfl
  | extract x i => exact o1_le (one (by simp [Op.operands])) fun _ => .rfl
  | call c =>
    show Same (callC P c s h) (callC P c s' h)
    unfold callC
    split
    · rename_i f hc
      exact o1_le (one (by simp [Op.operands, Call.operands, hc])) fun v => oL_le (fun t ht => hl t (by simp [Op.operands, Call.operands, hc]; exact .inr (by simpa using ht))) fun _ => .rfl
    · rename_i b hc
      exact oL_le (fun t ht => hl t (by simp [Op.operands, Call.operands, hc]; simpa using ht)) fun _ => .rfl
    · exact .rfl
  | _ => exact .rfl
end
def Glo (h h2 : Heap) : Prop := ∀ b, b < gBase → h2.get b = h.get b
def Still (X : Heap → OR) : Prop := ∀ h h2 v h', Glo h h2 → X h = .val v h' → h' = h ∧ X h2 = .val v h2
def Reads (X : Heap → OR) : Prop := ∀ h v h', X h = .val v h' → h' = h
def Lays (X : Heap → OR) : Prop := ∀ h v h', h.rs ≠ 0 → X h = .val v h' → ∃ O, h' = h.new O ∧ ∀ h2, Glo h h2 → h2.rs = h.rs → X h2 = .val v (h2.new O)
section
variable {P : Program} {s : Slots}
theorem opd_glo {x : Operand} {h h2 : Heap} (g : Glo h h2) : (opd x).f s h2 = (opd x).f s h := by
  cases x with
  | tmp t => rfl
  | const c => simp only [opd]; cases flat c <;> rfl
  | global n =>
    simp only [opd]
    cases hn : Nat.ble (Nat.succ n) gBase with
    | false => rfl
    | true => rw [g n (Nat.le_of_ble_eq_true hn)]
  | func f => rfl
theorem Still.fail : Still fun _ => .fail := fun _ _ _ _ _ e => by cases e
theorem Still.val (v : Value) : Still fun h => .val v h := fun _ _ _ _ _ e => by cases e; exact ⟨rfl, rfl⟩
theorem Still.pv (x : Option Value) : Still fun h => pv h x := by
  cases x with
  | none => exact .fail
  | some v => exact .val v
theorem Still.pvf (x : Option Value) : Still fun h => pvf h x := by
  cases x with
  | none => exact .fail
  | some v =>
    show Still fun h => bif flat v then .val v h else .fail
    cases flat v
    · exact .fail
    · exact .val v
theorem Still.o1 {x : Operand} {k : Value → Heap → OR} (hk : ∀ v, Still (k v)) : Still fun h => o1 x s h fun v => k v h := by
  intro h h2 v h' g e
  simp only [Ev.o1] at e ⊢
  rw [opd_glo g]
  cases ho : (opd x).f s h with
  | none => rw [ho] at e; cases e
  | some u => rw [ho] at e; exact hk u h h2 v h' g e
theorem Still.o2 {x y : Operand} {k : Value → Value → Heap → OR} (hk : ∀ v u, Still (k v u)) : Still fun h => o2 x y s h fun v u => k v u h := Still.o1 (k := fun v h => Ev.o1 y s h fun u => k v u h) fun v => Still.o1 (hk v)
theorem Still.oL : ∀ {l : List Operand} {k : List Value → Heap → OR}, (∀ v, Still (k v)) → Still fun h => oL l s h fun v => k v h
  | [], _, hk => hk []
  | _ :: l, k, hk => Still.o1 (k := fun v h => Ev.oL l s h fun vs => k (v :: vs) h) fun v => Still.oL fun vs => hk (v :: vs)
theorem Still.oP : ∀ {l : List (Nat × Operand)} {k : List (Nat × Value) → Heap → OR}, (∀ v, Still (k v)) → Still fun h => oP l s h fun v => k v h
  | [], _, hk => hk []
  | x :: l, k, hk => Still.o1 (k := fun v h => Ev.oP l s h fun vs => k ((x.1, v) :: vs) h) fun v => Still.oP fun vs => hk ((x.1, v) :: vs)
theorem Reads.fail : Reads fun _ => .fail := fun _ _ _ e => by cases e
theorem Reads.val (v : Value) : Reads fun h => .val v h := fun _ _ _ e => by cases e; rfl
theorem Reads.pv (x : Heap → Option Value) : Reads fun h => pv h (x h) := fun h v h' e => by
  simp only [Ev.pv] at e
  cases hx : x h with
  | none => rw [hx] at e; cases e
  | some v => rw [hx] at e; cases e; rfl
theorem Reads.pvf (x : Heap → Option Value) : Reads fun h => pvf h (x h) := fun h v h' e => by
  simp only [Ev.pvf] at e
  cases hx : x h with
  | none => rw [hx] at e; cases e
  | some v =>
    rw [hx] at e
    cases hf : flat v with
    | false => simp only [ob, hf] at e; cases e
    | true => simp only [ob, hf] at e; cases e; rfl
theorem Reads.o1 {x : Operand} {k : Value → Heap → OR} (hk : ∀ v, Reads (k v)) : Reads fun h => o1 x s h fun v => k v h := by
  intro h v h' e
  simp only [Ev.o1] at e
  cases ho : (opd x).f s h with
  | none => rw [ho] at e; cases e
  | some u => rw [ho] at e; exact hk u h v h' e
theorem Reads.o2 {x y : Operand} {k : Value → Value → Heap → OR} (hk : ∀ v u, Reads (k v u)) : Reads fun h => o2 x y s h fun v u => k v u h := Reads.o1 (k := fun v h => Ev.o1 y s h fun u => k v u h) fun v => Reads.o1 (hk v)
theorem Reads.oo {x : Option Operand} {k : Option Value → Heap → OR} (hk : ∀ v, Reads (k v)) : Reads fun h => oo x s h fun v => k v h := by
  cases x with
  | none => exact hk none
  | some x => exact Reads.o1 fun v => hk (some v)
theorem Reads.oL : ∀ {l : List Operand} {k : List Value → Heap → OR}, (∀ v, Reads (k v)) → Reads fun h => oL l s h fun v => k v h
  | [], _, hk => hk []
  | _ :: l, k, hk => Reads.o1 (k := fun v h => Ev.oL l s h fun vs => k (v :: vs) h) fun v => Reads.oL fun vs => hk (v :: vs)
theorem Lays.fail : Lays fun _ => .fail := fun _ _ _ _ e => by cases e
theorem Lays.newB (o : Ob) (f : Nat → Value) : Lays fun h => newB h o fun b h => .val (f b) h := by
  intro h v h' hr e
  simp only [newB_eq] at e
  cases e
  refine ⟨o, rfl, fun h2 _ h2r => ?_⟩
  simp only [newB_eq]
  have : h2.nx = h.nx := by rw [Heap.nx_eq, Heap.nx_eq, h2r, if_neg hr, if_neg hr]
  rw [this]
theorem Lays.o1 {x : Operand} {k : Value → Heap → OR} (hk : ∀ v, Lays (k v)) : Lays fun h => o1 x s h fun v => k v h := by
  intro h v h' hr e
  simp only [Ev.o1] at e
  cases ho : (opd x).f s h with
  | none => rw [ho] at e; cases e
  | some u =>
    rw [ho] at e
    obtain ⟨O, h1, h2⟩ := hk u h v h' hr e
    refine ⟨O, h1, fun h2' g hr2 => ?_⟩
    simp only [Ev.o1]
    rw [opd_glo g, ho]
    exact h2 h2' g hr2
theorem Lays.o2 {x y : Operand} {k : Value → Value → Heap → OR} (hk : ∀ v u, Lays (k v u)) : Lays fun h => o2 x y s h fun v u => k v u h := Lays.o1 (k := fun v h => Ev.o1 y s h fun u => k v u h) fun v => Lays.o1 (hk v)
theorem Lays.oo {x : Option Operand} {k : Option Value → Heap → OR} (hk : ∀ v, Lays (k v)) : Lays fun h => oo x s h fun v => k v h := by
  cases x with
  | none => exact hk none
  | some x => exact Lays.o1 fun v => hk (some v)
theorem Lays.oP : ∀ {l : List (Nat × Operand)} {k : List (Nat × Value) → Heap → OR}, (∀ v, Lays (k v)) → Lays fun h => oP l s h fun v => k v h
  | [], _, hk => hk []
  | x :: l, k, hk => Lays.o1 (k := fun v h => Ev.oP l s h fun vs => k ((x.1, v) :: vs) h) fun v => Lays.oP fun vs => hk ((x.1, v) :: vs)
theorem Lays.newCells (c : List Value) (e : TypeId) : Lays fun h => newCells h c e := by
  unfold Ev.newCells
  simp only [fN_eq]
  exact .newB _ _
theorem Lays.newOpen (n k : Nat) (c : List Value) (e : TypeId) : Lays fun h => newOpen h n k c e := by
  unfold Ev.newOpen
  simp only [fN_eq]
  exact .newB _ _
theorem still_bin (op : BinOp) (t : TypeId) (x y : Operand) (a b : Value) : Still fun h => binS P op t x y a b h := by
  unfold binS slowBin
  cases fast op a b with
  | some v => exact .val v
  | none =>
    show Still fun h => bif flat a && flat b then _ else _
    cases flat a && flat b
    · show Still fun h => match op with | .eql => ob (eqS P t a b) fun r => .val (.bool r) h | .neq => ob (eqS P t a b) fun r => .val (.bool (!r)) h | _ => .fail
      cases op <;> first | exact .fail | (cases eqS P t a b <;> first | exact .fail | exact .val _)
    · exact .pvf _
theorem still_nil (x : Value) : Still fun h => nilS x h := by
  unfold nilS
  split <;> first | exact .fail | exact .val _
theorem still_assert (x : Value) (t : TypeId) (ok : Bool) : Still fun h => assertS P x t ok h := by
  unfold assertS
  split
  · exact .fail
  · rename_i d v _ _
    show Still fun h => bif Nat.beq d t then _ else _
    cases Nat.beq d t
    · show Still fun h => bif ok then ob (zeroT P t) _ else _
      cases ok
      · exact .fail
      · cases zeroT P t
        · exact .fail
        · exact .val _
    · exact .val _
  · exact .fail
theorem still_iface (t : TypeId) (x : Value) : Still fun h => ifaceS P t x h := by
  unfold ifaceS
  split <;> first | exact .fail | exact .val _
theorem still_extract (x : Value) (i : Nat) : Still fun h => extractS x i h := by
  unfold extractS
  split <;> first | exact .fail | exact .pv _
theorem still_un (op : UnOp) (a : Value) : Still fun h => bif flat a then pvf h (pureP P (Op.unary op a)) else .fail := by
  cases flat a
  · exact .fail
  · exact .pvf _
theorem kind0 {op : Op} (hk : kindS P op = 0) : Still fun h => (opK P op).f s h := by
  cases op with
  | move x => exact .o1 fun v => .val v
  | assign x => exact .o1 fun v => .val v
  | pick c x y =>
    refine Still.o1 (k := fun v h => pickS v x y s h) fun v => ?_
    unfold pickS
    split
    · exact .o1 fun v => .val v
    · exact .o1 fun v => .val v
    · exact .fail
  | build t ps => exact .oP fun v => .pv _
  | nilCheck x => exact .o1 fun v => still_nil v
  | binOp op t x y yt => exact .o2 fun v u => still_bin op t x y v u
  | unOp op t x => exact .o1 fun v => still_un op v
  | makeInterface t x => exact .o1 fun v => still_iface t v
  | makeFunc fn x y => exact .oL fun vs => .oL fun us => by cases fn <;> first | exact .fail | exact .val _
  | fieldAddr t x f => exact .o1 fun v => .pv _
  | field t x f => exact .o1 fun v => .pv _
  | indexAddr t x i => exact .o2 fun v u => .pv _
  | index t x i => exact .o2 fun v u => .pv _
  | typeAssert x xt t ok => exact .o1 fun v => still_assert v t ok
  | extract x i => exact .o1 fun v => still_extract v i
  | convert b c x =>
    simp only [kindS] at hk
    split at hk <;> cases hk
  | call c =>
    simp only [kindS] at hk
    split at hk <;> cases hk
  | _ => cases hk
theorem lays_buildSlice (t : TypeId) (n : Nat) (ps : List (Nat × Value)) : Lays fun h => buildSliceS P t n ps h := by
  unfold buildSliceS
  split
  · split
    · rename_i k z _
      show Lays fun h => bif Nat.ble (Nat.mul n k) 16777216 && Nat.ble n 16777216 then _ else _
      cases Nat.ble (Nat.mul n k) 16777216 && Nat.ble n 16777216
      · exact .fail
      · simp only [cond_true]
        cases fillS (fun i => some (Nat.mul i k, k)) (repeatL z n) ps
        · exact .fail
        · simp only [ob_some, fN_eq]; exact .newB _ _
    · exact .fail
  · exact .fail
theorem lays_makeMap (t : TypeId) (r : Option Value) : Lays fun h => makeMapS P t r h := by
  unfold makeMapS
  split
  · exact .newB _ _
  · split
    · exact .newB _ _
    · exact .fail
  · exact .fail
theorem lays_makeSlice (t : TypeId) (l c : Value) : Lays fun h => makeSliceS P t l c h := by
  unfold makeSliceS
  split
  · split
    · split
      · show Lays fun h => bif (_ : Bool) then _ else _
        generalize (Nat.ble _ _ && Nat.ble _ 1000000 && Nat.ble _ 1000000) = q
        cases q
        · exact .fail
        · simp only [cond_true, fL_eq, fN_eq]; exact .newB _ _
      · exact .fail
    · exact .fail
  · exact .fail
theorem kind1 {op : Op} (hk : kindS P op = 1) : Lays fun h => (opK P op).f s h := by
  cases op with
  | alloc t =>
    show Lays fun h => (allocS P t).f h
    unfold allocS
    cases zeroT P t with
    | none => exact .fail
    | some z => exact .newCells _ _
  | box t x => exact .o1 fun v => .newCells _ _
  | buildSlice t n ps => exact .oP fun v => lays_buildSlice t n v
  | makeMap t r => exact .oo fun v => lays_makeMap t v
  | makeSlice t x y => exact .o2 fun v u => lays_makeSlice t v u
  | convert b c x =>
    simp only [kindS] at hk
    split at hk
    · rename_i e he1 he2
      refine Lays.o1 (k := fun v h => convS P b c v h) fun v => ?_
      unfold convS
      simp only [he1, he2]
      show Lays fun h => convK P .string (.slice e) v h
      unfold convK
      split
      · split
        · simp only [fL_eq, newBytes, fN_eq]; exact .newOpen _ _ _ _
        · simp only [fL_eq, newBytes, fN_eq]; exact .newOpen _ _ _ _
        · exact .fail
      · rename_i h _; cases h
      · unfold ptrS; split <;> first | exact .fail | (rename_i h _ _ _; cases h) | (rename_i h _ _ _ _; cases h)
    · cases hk
  | call c =>
    simp only [kindS] at hk
    split at hk <;> cases hk
  | _ => cases hk
theorem reads_str (x : Heap → Option (List UInt8)) : Reads fun h => strS h (x h) := fun h v h' e => by
  simp only [strS] at e
  cases hx : x h with
  | none => rw [hx] at e; cases e
  | some v => rw [hx] at e; cases e; rfl
theorem reads_ptr (a b : TypeDesc) (x : Value) : Reads fun h => ptrS P a b x h := by
  intro h v h' e
  unfold ptrS at e
  split at e
  · simp only [] at e
    split at e
    · rename_i n _ _ _ _
      revert e
      cases Nat.blt _ n <;> intro e
      · cases e
      · cases e; rfl
    · cases e
  · simp only [] at e
    split at e
    · revert e
      generalize liesAt P P.depth _ _ _ _ _ = q
      cases q <;> intro e
      · cases e
      · cases e; rfl
    · cases e
  · cases e
theorem reads_conv (b c : TypeId) (hn : ∀ e, P.underlying b = some .string → P.underlying c = some (.slice e) → False) (v : Value) : Reads fun h => convS P b c v h := by
  unfold convS
  split
  · rename_i e h1 h2; exact (hn _ h1 h2).elim
  · rename_i da db h1 h2 h3
    show Reads fun h => bif flat v then _ else _
    cases flat v
    · show Reads fun h => convK P da db v h
      unfold convK
      split
      · exact (hn _ h2 h3).elim
      · exact reads_str _
      · exact reads_ptr _ _ _
    · exact .pvf _
  · exact .fail
theorem reads_ent (it : Value) : Reads fun h => entS it h := by
  intro h v h' e
  unfold entS at e
  split at e
  · simp only [] at e
    split at e
    · split at e
      · revert e
        generalize Nat.beq _ _ = q
        cases q <;> intro e
        · cases e
        · simp only [cond_true] at e
          split at e
          · cases e; rfl
          · cases e
      · cases e
    · cases e
  · cases e
theorem reads_minmax (x : Bool) (y : Option Value) : Reads fun h => bif x then pvf h y else .fail := by
  cases x
  · exact .fail
  · exact .pvf _
theorem reads_len (ts : List TypeId) (vs : List Value) : Reads fun h => builtinS P .len ts vs h := by
  cases ts with
  | nil => exact .fail
  | cons t u =>
    cases vs with
    | nil => exact .fail
    | cons x l =>
      cases l with
      | nil => exact .pv _
      | cons y l => exact .fail
theorem reads_cap (ts : List TypeId) (vs : List Value) : Reads fun h => builtinS P .cap ts vs h := by
  cases ts with
  | nil => exact .fail
  | cons t u =>
    cases vs with
    | nil => exact .fail
    | cons x l =>
      cases l with
      | nil => exact .pv _
      | cons y l => exact .fail
theorem kind2 {op : Op} (hk : kindS P op = 2) : Reads fun h => (opK P op).f s h := by
  cases op with
  | load t x => exact .o1 fun v => .pv _
  | entry x => exact .o1 fun v => reads_ent v
  | slice t x lo hi mx => exact .o1 fun v => .oo fun l => .oo fun hh => .oo fun m => .pv _
  | lookup t x i ok => exact .o2 fun v u => .pv _
  | convert b c x =>
    simp only [kindS] at hk
    split at hk
    · cases hk
    · rename_i hn
      exact .o1 fun v => reads_conv b c (fun e h1 h2 => hn e h1 h2) v
  | call c =>
    simp only [kindS] at hk
    split at hk
    · rename_i hc
      show Reads fun h => callC P c s h
      unfold callC; rw [hc]
      exact .oL (k := fun vs h => builtinS P .len c.argTypes.toList vs h) fun vs => reads_len _ _
    · rename_i hc
      show Reads fun h => callC P c s h
      unfold callC; rw [hc]
      exact .oL (k := fun vs h => builtinS P .cap c.argTypes.toList vs h) fun vs => reads_cap _ _
    · rename_i hc
      show Reads fun h => callC P c s h
      unfold callC; rw [hc]
      exact .oL (k := fun vs h => builtinS P .min c.argTypes.toList vs h) fun vs => reads_minmax _ _
    · rename_i hc
      show Reads fun h => callC P c s h
      unfold callC; rw [hc]
      exact .oL (k := fun vs h => builtinS P .max c.argTypes.toList vs h) fun vs => reads_minmax _ _
    · cases hk
  | _ => cases hk
end
end Go.Ev
