/- EvB: what a state of the evaluator says of a world. -/
import Derived.Test.YtnfcjgfaecihbaaGreatDoorEvA
set_option linter.unusedVariables false
set_option linter.unusedSimpArgs false
set_option linter.unusedSectionVars false
set_option linter.constructorNameAsVariable false
namespace Go.Ev
open Go
theorem T.putP_o {α : Type} (t : T α) (x : Option α) : T.putP x .o t = match t with | .e => .n .e x .e | .n l _ r => .n l x r := by cases t <;> rfl
theorem T.putP_l {α : Type} (t : T α) (x : Option α) (p : Pth) : T.putP x (.l p) t = match t with | .e => .n (T.putP x p .e) none .e | .n l v r => .n (T.putP x p l) v r := by cases t <;> rfl
theorem T.putP_r {α : Type} (t : T α) (x : Option α) (p : Pth) : T.putP x (.r p) t = match t with | .e => .n .e none (T.putP x p .e) | .n l v r => .n l v (T.putP x p r) := by cases t <;> rfl
theorem T.getP_e {α : Type} (p : Pth) : (T.e : T α).getP p = none := rfl
theorem T.getP_o {α : Type} (l r : T α) (v : Option α) : (T.n l v r).getP .o = v := rfl
theorem T.getP_l {α : Type} (l r : T α) (v : Option α) (p : Pth) : (T.n l v r).getP (.l p) = l.getP p := rfl
theorem T.getP_r {α : Type} (l r : T α) (v : Option α) (p : Pth) : (T.n l v r).getP (.r p) = r.getP p := rfl
theorem T.getP_same {α : Type} (x : Option α) : ∀ (p : Pth) (t : T α), (T.putP x p t).getP p = x
  | .o, t => by rw [T.putP_o]; cases t <;> rfl
  | .l p, t => by rw [T.putP_l]; cases t <;> simp only [T.getP_l] <;> exact T.getP_same x p _
  | .r p, t => by rw [T.putP_r]; cases t <;> simp only [T.getP_r] <;> exact T.getP_same x p _
theorem T.getP_other {α : Type} (x : Option α) : ∀ (p q : Pth) (t : T α), q ≠ p → (T.putP x p t).getP q = t.getP q
  | .o, q, t, h => by
    rw [T.putP_o]
    cases q with
    | o => exact absurd rfl h
    | l q => cases t <;> rfl
    | r q => cases t <;> rfl
  | .l p, q, t, h => by
    rw [T.putP_l]
    cases q with
    | o => cases t <;> rfl
    | r q => cases t <;> rfl
    | l q =>
      have hne : q ≠ p := fun e => h (by rw [e])
      cases t with
      | e => simp only [T.getP_l, T.getP_e]; exact T.getP_other x p q .e hne
      | n l v r => simp only [T.getP_l]; exact T.getP_other x p q l hne
  | .r p, q, t, h => by
    rw [T.putP_r]
    cases q with
    | o => cases t <;> rfl
    | l q => cases t <;> rfl
    | r q =>
      have hne : q ≠ p := fun e => h (by rw [e])
      cases t with
      | e => simp only [T.getP_r, T.getP_e]; exact T.getP_other x p q .e hne
      | n l v r => simp only [T.getP_r]; exact T.getP_other x p q r hne
def unP : Pth → Nat
  | .o => 0
  | .l p => 2 * unP p + 1
  | .r p => 2 * unP p + 2
theorem unP_pthF : ∀ (f i : Nat), i ≤ f → unP (pthF f i) = i := by
  intro f
  induction f with
  | zero => intro i h; have : i = 0 := by omega
            subst this; rfl
  | succ f ih =>
    intro i h
    have hs : pthF (f + 1) i = cb (Nat.beq i 0) .o (cb (Nat.beq (Nat.mod i 2) 1) (.l (pthF f (Nat.div i 2))) (.r (pthF f (Nat.sub (Nat.div i 2) 1)))) := rfl
    have hd : Nat.div i 2 = i / 2 := rfl
    have hm : Nat.mod i 2 = i % 2 := rfl
    have hsb : Nat.sub (Nat.div i 2) 1 = i / 2 - 1 := rfl
    rw [hs, hsb, hd, hm]
    by_cases h0 : i = 0
    · subst h0; rfl
    · have hb0 : Nat.beq i 0 = false := by rw [Bool.eq_false_iff]; simpa using h0
      rw [hb0]
      by_cases h1 : i % 2 = 1
      · rw [h1]
        show unP (.l (pthF f (i / 2))) = i
        simp only [unP]
        rw [ih _ (by omega)]; omega
      · have hb1 : Nat.beq (i % 2) 1 = false := by rw [Bool.eq_false_iff]; simpa using h1
        rw [hb1]
        show unP (.r (pthF f (i / 2 - 1))) = i
        simp only [unP]
        rw [ih _ (by omega)]; omega
theorem unP_pth (i : Nat) : unP (pth i) = i := unP_pthF i i (Nat.le_refl _)
theorem pth_inj {i j : Nat} (h : pth i = pth j) : i = j := by rw [← unP_pth i, h, unP_pth]
theorem T.get_put {α : Type} (x : Option α) (t : T α) (i j : Nat) : (T.putP x (pth i) t).get j = if j = i then x else t.get j := by
  by_cases h : j = i
  · subst h; rw [if_pos rfl]; exact T.getP_same x _ t
  · rw [if_neg h]; exact T.getP_other x _ _ t fun e => h (pth_inj e)
theorem T.get_set {α : Type} (t : T α) (i j : Nat) (x : α) : (t.set i x).get j = if j = i then some x else t.get j := T.get_put _ _ _ _
theorem T.get_e {α : Type} (j : Nat) : (T.e : T α).get j = none := rfl
theorem fN_eq {α : Type} (n : Nat) (K : Nat → α) : fN n K = K n := by cases n <;> rfl
theorem fL_eq {α β : Type} : ∀ (l : List β) (K : List β → α), fL l K = K l
  | [], _ => rfl
  | x :: l, K => fL_eq l fun t => K (x :: t)
theorem cb_eq {α : Type} (b : Bool) (x y : α) : cb b x y = if b then x else y := by cases b <;> rfl
theorem drp_eq {β : Type} : ∀ (n : Nat) (l : List β), drp n l = l.drop n
  | 0, _ => rfl
  | n + 1, [] => by simp; rfl
  | n + 1, _ :: l => drp_eq n l
theorem tk_eq {β : Type} : ∀ (n : Nat) (l : List β), tk n l = if n ≤ l.length then some (l.take n) else none
  | 0, l => by simp; rfl
  | n + 1, [] => rfl
  | n + 1, x :: l => by
    have : tk (n + 1) (x :: l) = @Option.casesOn (List β) (fun _ => Option (List β)) (tk n l) none (fun r => some (x :: r)) := rfl
    rw [this, tk_eq n l]
    by_cases h : n ≤ l.length
    · simp [h]
    · simp [h]
theorem tk_some {β : Type} {n : Nat} {l r : List β} (h : tk n l = some r) : n ≤ l.length ∧ r = l.take n := by
  rw [tk_eq] at h
  by_cases hn : n ≤ l.length
  · simp [hn] at h; exact ⟨hn, h.symm⟩
  · simp [hn] at h
theorem ob_none {α : Type} (f : α → OR) : ob none f = .fail := rfl
theorem ob_some {α : Type} (a : α) (f : α → OR) : ob (some a) f = f a := rfl
structure RB where
  id : Nat
  size : Nat
  k : Nat
abbrev Ren := Nat → Option RB
mutual
inductive VR (ρ : Ren) : Value → Value → Prop where
  | bool (b : Bool) : VR ρ (.bool b) (.bool b)
  | int (k : IntKind) (n : Int) : VR ρ (.int k n) (.int k n)
  | float (k : FloatKind) (n : Nat) : VR ρ (.float k n) (.float k n)
  | complex (k : FloatKind) (n m : Nat) : VR ρ (.complex k n m) (.complex k n m)
  | string (s : ByteArray) : VR ρ (.string s) (.string s)
  | ptr0 : VR ρ (.pointer none) (.pointer none)
  | ptr {b : Nat} {r : RB} (off : Nat) (h : ρ b = some r) : VR ρ (.pointer (some ⟨b, off, none⟩)) (.pointer (some ⟨r.id, off, none⟩))
  | slice0 (n m : Nat) : VR ρ (.slice none n m) (.slice none n m)
  | slice {b : Nat} {r : RB} (off len cap : Nat) (h : ρ b = some r) (hc : cap < many) : VR ρ (.slice (some ⟨b, off, none⟩) len cap) (.slice (some ⟨r.id, off, none⟩) len cap)
  | sliceO {b : Nat} {r : RB} (off len c c' : Nat) (h : ρ b = some r) (hc : c ≤ c') (hs : off + c' * r.k ≤ r.size) :
      VR ρ (.slice (some ⟨b, off, none⟩) len (many + c)) (.slice (some ⟨r.id, off, none⟩) len c')
  | map0 : VR ρ (.map none) (.map none)
  | map {b : Nat} {r : RB} (h : ρ b = some r) : VR ρ (.map (some b)) (.map (some r.id))
  | chan0 : VR ρ (.chan none) (.chan none)
  | func (f : FuncId) {l l' m m' : List Value} (h : VRL ρ l l') (h' : VRL ρ m m') : VR ρ (.func (.func f) ⟨l⟩ ⟨m⟩) (.func (.func f) ⟨l'⟩ ⟨m'⟩)
  | yield {b : Nat} {r : RB} (h : ρ b = some r) : VR ρ (.func (.yield b) ⟨[]⟩ ⟨[]⟩) (.func (.yield r.id) ⟨[]⟩ ⟨[]⟩)
  | nilFunc : VR ρ .nilFunc .nilFunc
  | iface (t : TypeId) {v v' : Value} (h : VR ρ v v') : VR ρ (.iface t v) (.iface t v')
  | nilIface : VR ρ .nilIface .nilIface
  | agg {l l' : List Value} (h : VRL ρ l l') : VR ρ (.agg ⟨l⟩) (.agg ⟨l'⟩)
  | tuple {l l' : List Value} (h : VRL ρ l l') : VR ρ (.tuple ⟨l⟩) (.tuple ⟨l'⟩)
inductive VRL (ρ : Ren) : List Value → List Value → Prop where
  | nil : VRL ρ [] []
  | cons {v v' : Value} {l l' : List Value} (h : VR ρ v v') (hl : VRL ρ l l') : VRL ρ (v :: l) (v' :: l')
end
def Ext (ρ ρ' : Ren) : Prop := ∀ b r, ρ b = some r → ρ' b = some r
mutual
theorem VR.mono {ρ ρ' : Ren} (e : Ext ρ ρ') : ∀ {v v' : Value}, VR ρ v v' → VR ρ' v v'
  | _, _, .bool b => .bool b
  | _, _, .int k n => .int k n
  | _, _, .float k n => .float k n
  | _, _, .complex k n m => .complex k n m
  | _, _, .string s => .string s
  | _, _, .ptr0 => .ptr0
  | _, _, .ptr off h => .ptr off (e _ _ h)
  | _, _, .slice0 n m => .slice0 n m
  | _, _, .slice off len cap h hc => .slice off len cap (e _ _ h) hc
  | _, _, .sliceO off len c c' h hc hs => .sliceO off len c c' (e _ _ h) hc hs
  | _, _, .map0 => .map0
  | _, _, .map h => .map (e _ _ h)
  | _, _, .chan0 => .chan0
  | _, _, .func f h h' => .func f (VRL.mono e h) (VRL.mono e h')
  | _, _, .yield h => .yield (e _ _ h)
  | _, _, .nilFunc => .nilFunc
  | _, _, .iface t h => .iface t (VR.mono e h)
  | _, _, .nilIface => .nilIface
  | _, _, .agg h => .agg (VRL.mono e h)
  | _, _, .tuple h => .tuple (VRL.mono e h)
theorem VRL.mono {ρ ρ' : Ren} (e : Ext ρ ρ') : ∀ {l l' : List Value}, VRL ρ l l' → VRL ρ' l l'
  | _, _, .nil => .nil
  | _, _, .cons h hl => .cons (VR.mono e h) (VRL.mono e hl)
end
mutual
theorem VR.flat {ρ : Ren} : ∀ {v v' : Value}, VR ρ v v' → flat v = true → v' = v
  | _, _, .bool b, _ => rfl
  | _, _, .int k n, _ => rfl
  | _, _, .float k n, _ => rfl
  | _, _, .complex k n m, _ => rfl
  | _, _, .string s, _ => rfl
  | _, _, .ptr0, _ => rfl
  | _, _, .ptr off h, f => by simp [Ev.flat] at f
  | _, _, .slice0 n m, _ => rfl
  | _, _, .slice off len cap h hc, f => by simp [Ev.flat] at f
  | _, _, .sliceO off len c c' h hc hs, f => by simp [Ev.flat] at f
  | _, _, .map0, _ => rfl
  | _, _, .map h, f => by simp [Ev.flat] at f
  | _, _, .chan0, _ => rfl
  | _, _, .func f h h', g => by
    simp only [Ev.flat, Bool.and_eq_true] at g
    rw [VRL.flat h g.1, VRL.flat h' g.2]
  | _, _, .yield h, f => by simp [Ev.flat] at f
  | _, _, .nilFunc, _ => rfl
  | _, _, .iface t h, f => by rw [VR.flat h (by simpa [Ev.flat] using f)]
  | _, _, .nilIface, _ => rfl
  | _, _, .agg h, f => by rw [VRL.flat h (by simpa [Ev.flat] using f)]
  | _, _, .tuple h, f => by rw [VRL.flat h (by simpa [Ev.flat] using f)]
theorem VRL.flat {ρ : Ren} : ∀ {l l' : List Value}, VRL ρ l l' → flatL l = true → l' = l
  | _, _, .nil, _ => rfl
  | _, _, .cons h hl, f => by
    simp only [Ev.flatL, Bool.and_eq_true] at f
    rw [VR.flat h f.1, VRL.flat hl f.2]
end
theorem VRL.get {ρ : Ren} : ∀ {l l' : List Value}, VRL ρ l l' → ∀ (i : Nat) (v : Value), l[i]? = some v → ∃ v', l'[i]? = some v' ∧ VR ρ v v'
  | _, _, .nil, i, v, h => by simp at h
  | _, _, .cons h hl, 0, v, e => by simp at e; subst e; exact ⟨_, rfl, h⟩
  | _, _, .cons h hl, i + 1, v, e => by simpa using VRL.get hl i v (by simpa using e)
theorem VRL.length {ρ : Ren} : ∀ {l l' : List Value}, VRL ρ l l' → l'.length = l.length
  | _, _, .nil => rfl
  | _, _, .cons _ hl => by simp [VRL.length hl]
theorem VRL.append {ρ : Ren} : ∀ {l l' m m' : List Value}, VRL ρ l l' → VRL ρ m m' → VRL ρ (l ++ m) (l' ++ m')
  | _, _, _, _, .nil, h => h
  | _, _, _, _, .cons h hl, h' => .cons h (VRL.append hl h')
theorem VRL.take {ρ : Ren} : ∀ {l l' : List Value}, VRL ρ l l' → ∀ n, VRL ρ (l.take n) (l'.take n)
  | _, _, .nil, n => by simp; exact .nil
  | _, _, .cons h hl, 0 => .nil
  | _, _, .cons h hl, n + 1 => .cons h (VRL.take hl n)
theorem VRL.drop {ρ : Ren} : ∀ {l l' : List Value}, VRL ρ l l' → ∀ n, VRL ρ (l.drop n) (l'.drop n)
  | _, _, .nil, n => by simp; exact .nil
  | _, _, .cons h hl, 0 => .cons h hl
  | _, _, .cons h hl, n + 1 => VRL.drop hl n
inductive ER (ρ : Ren) : List MapEntry → List MapEntry → Prop where
  | nil : ER ρ [] []
  | cons {k k' v v' : Value} {b : Nat} {l l' : List MapEntry} (hk : VR ρ k k') (hv : VR ρ v v') (hl : ER ρ l l') : ER ρ (⟨k, v, b⟩ :: l) (⟨k', v', b⟩ :: l')
def SlR (ρ : Ren) (s : Slots) (n : Nat) (tmps : Array Value) : Prop := tmps.size = n ∧ ∀ t v, s.get t = some v → ∃ v', tmps[t]? = some v' ∧ VR ρ v v'
inductive ObR (ρ : Ren) (r : RB) : Ob → Obj → Prop where
  | cells {c l m : List Value} {n opn : Nat} {e : TypeId} {lo hi : Nat} (h : VRL ρ c l) (hn : n = c.length) (ho : opn = 0 → m = []) (hk : ∀ k, opn = k + 1 → r.k = k)
      (hs : r.size = l.length + m.length) (hf : hi ≤ lo ∨ l.length + m.length ≤ lo) : ObR ρ r (.cells c n opn e) (.cells ⟨l ++ m⟩ e (lo, hi))
  | map {es es' : List MapEntry} (clock : Nat) (h : ER ρ es es') : ObR ρ r (.map es clock) (.map ⟨es'⟩ clock)
  | sIter (s : List UInt8) (pos : Nat) : ObR ρ r (.sIter s pos) (.stringIter ⟨⟨s⟩⟩ pos)
  | mIter0 (since : Nat) (seen : List Nat) (stepped : Nat) : ObR ρ r (.mIter none since seen stepped) (.mapIter none since ⟨seen⟩ stepped)
  | mIter {m : Nat} {rm : RB} (since : Nat) (seen : List Nat) (stepped : Nat) (h : ρ m = some rm) : ObR ρ r (.mIter (some m) since seen stepped) (.mapIter (some rm.id) since ⟨seen⟩ stepped)
  | loop {l : SLoop} {l' : Loop} {rd : RB} (hst : l'.state = l.state) (hp : l'.pending = l.pending) (ht : SlR ρ l.tmps l.ntmps l'.tmps) (hps : l'.params = ⟨l.params⟩) (ha : l'.assign = l.assign) (hb : l'.body = l.body)
      (hd : ρ l.defers = some rd) (hd' : l'.defers = rd.id) : ObR ρ r (.loop l) (.loop l')
  | dfr1 : ObR ρ r (.dfr true) (.deferred (some []))
  | dfr0 : ObR ρ r (.dfr false) (.deferred none)
  | ro {c l : List Value} {e : TypeId} {fr : Nat × Nat} (h : VRL ρ c l) : ObR ρ r (.ro c) (.cells ⟨l⟩ e fr)
theorem SlR.mono {ρ ρ' : Ren} (e : Ext ρ ρ') {s : Slots} {n : Nat} {tmps : Array Value} (h : SlR ρ s n tmps) : SlR ρ' s n tmps :=
  ⟨h.1, fun t v ht => let ⟨v', a, b⟩ := h.2 t v ht; ⟨v', a, b.mono e⟩⟩
theorem ER.mono {ρ ρ' : Ren} (e : Ext ρ ρ') {l l' : List MapEntry} (h : ER ρ l l') : ER ρ' l l' := by
  induction h with
  | nil => exact .nil
  | cons hk hv _ ih => exact .cons (hk.mono e) (hv.mono e) ih
theorem ObR.mono {ρ ρ' : Ren} (e : Ext ρ ρ') {r : RB} {o : Ob} {o' : Obj} (h : ObR ρ r o o') : ObR ρ' r o o' := by
  cases h with
  | cells h hn ho hk hs hf => exact .cells (h.mono e) hn ho hk hs hf
  | map clock h => exact .map clock (h.mono e)
  | sIter s pos => exact .sIter s pos
  | mIter0 a b c => exact .mIter0 a b c
  | mIter a b c h => exact .mIter a b c (e _ _ h)
  | loop hst hp ht hps ha hb hd hd' => exact .loop hst hp (ht.mono e) hps ha hb (e _ _ hd) hd'
  | dfr1 => exact .dfr1
  | dfr0 => exact .dfr0
  | ro h => exact .ro (h.mono e)
structure Sim (ρ : Ren) (h : Heap) (w : World) : Prop where
  obj : ∀ b o, h.get b = some o → ∃ r o', ρ b = some r ∧ w.heap[r.id]? = some o' ∧ ObR ρ r o o'
  inj : ∀ b b' o o' r r', h.get b = some o → h.get b' = some o' → ρ b = some r → ρ b' = some r' → r.id = r'.id → b = b'
  fresh : ∀ b, h.next ≤ b → ρ b = none
  glob : ∀ b r, b < gBase → ρ b = some r → r.id = b
  low : gBase ≤ h.next
  res : h.rs ≠ 0 → gBase ≤ h.rs ∧ h.rs < h.next ∧ ρ h.rs = none
structure Turn (ρ : Ren) (h : Heap) (w : World) (ρ' : Ren) (h' : Heap) (w' : World) : Prop where
  agree : Ext ρ ρ'
  next : h.next ≤ h'.next
  sim : Sim ρ' h' w'
  os : w'.os = w.os
  tape : w'.tape = w.tape
  output : w'.output = w.output
  size : w.heap.size ≤ w'.heap.size
  keep : ∀ b, b < gBase → h'.get b = h.get b
  frame : ∀ k, k < w.heap.size → (∀ b o r, gBase ≤ b → h.get b = some o → ρ b = some r → r.id ≠ k) → w'.heap[k]? = w.heap[k]?
  img : ∀ b o r, gBase ≤ b → h'.get b = some o → ρ' b = some r → w.heap.size ≤ r.id ∨ ∃ b0 o0 r0, gBase ≤ b0 ∧ h.get b0 = some o0 ∧ ρ b0 = some r0 ∧ r0.id = r.id
  rs : h'.rs = 0 ∨ h'.rs = h.rs
  low : ∀ b, gBase ≤ b → b < h.next → b ≠ h.rs → ρ b = none → ρ' b = none
theorem Turn.ext {ρ ρ' : Ren} {h h' : Heap} {w w' : World} (_ : Sim ρ h w) (t : Turn ρ h w ρ' h' w') : Ext ρ ρ' := t.agree
theorem Turn.refl {ρ : Ren} {h : Heap} {w : World} (hs : Sim ρ h w) : Turn ρ h w ρ h w :=
  ⟨fun _ _ h => h, Nat.le_refl _, hs, rfl, rfl, rfl, Nat.le_refl _, fun _ _ => rfl, fun _ _ _ => rfl, fun b o r hb h1 hr => .inr ⟨b, o, r, hb, h1, hr, rfl⟩, .inr rfl, fun _ _ _ _ h => h⟩
theorem gBase_pos : 0 < gBase := by decide
theorem Turn.trans {ρ ρ1 ρ2 : Ren} {h h1 h2 : Heap} {w w1 w2 : World} (a : Turn ρ h w ρ1 h1 w1) (b : Turn ρ1 h1 w1 ρ2 h2 w2) : Turn ρ h w ρ2 h2 w2 where
  agree k r hk := b.agree k r (a.agree k r hk)
  next := Nat.le_trans a.next b.next
  sim := b.sim
  os := b.os.trans a.os
  tape := b.tape.trans a.tape
  output := b.output.trans a.output
  size := Nat.le_trans a.size b.size
  keep k hk := (b.keep k hk).trans (a.keep k hk)
  frame k hk hn := by
    rw [b.frame k (Nat.lt_of_lt_of_le hk a.size) fun x o r hg hx hr e => ?_, a.frame k hk hn]
    rcases a.img x o r hg hx hr with h | ⟨b0, o0, r0, hg0, h0, hr0, e0⟩
    · omega
    · exact hn b0 o0 r0 hg0 h0 hr0 (e0.trans e)
  img x o r hg hx hr := by
    rcases b.img x o r hg hx hr with h | ⟨b0, o0, r0, hg0, h0, hr0, e0⟩
    · exact .inl (Nat.le_trans a.size h)
    · rcases a.img b0 o0 r0 hg0 h0 hr0 with h | ⟨b1, o1, r1, hg1, h1, hr1, e1⟩
      · exact .inl (by omega)
      · exact .inr ⟨b1, o1, r1, hg1, h1, hr1, e1.trans e0⟩
  rs := by
    rcases b.rs with h | h
    · exact .inl h
    · rcases a.rs with h1 | h1
      · exact .inl (h.trans h1)
      · exact .inr (h.trans h1)
  low x hg hx hn h0 := by
    refine b.low x hg (Nat.lt_of_lt_of_le hx a.next) (fun e => ?_) (a.low x hg hx hn h0)
    have := gBase_pos
    rcases a.rs with h | h
    · omega
    · exact hn (e.trans h)
theorem Heap.get_set (h : Heap) (b b' : Nat) (o : Ob) : (h.set b o).get b' = if b' = b then some o else h.get b' := T.get_put _ _ _ _
theorem Heap.get_del (h : Heap) (b b' : Nat) : (h.del b).get b' = if b' = b then none else h.get b' := T.get_put _ _ _ _
theorem Heap.get_new (h : Heap) (b' : Nat) (o : Ob) : (h.new o).get b' = if b' = h.nx then some o else h.get b' := T.get_put _ _ _ _
theorem Heap.nx_eq (h : Heap) : h.nx = if h.rs = 0 then h.next else h.rs := by
  unfold Heap.nx; rw [cb_eq]
  by_cases e : h.rs = 0
  · rw [e]; rfl
  · rw [if_neg e, if_neg]; intro h; exact e (Nat.eq_of_beq_eq_true h)
theorem Heap.next_new (h : Heap) (o : Ob) : (h.new o).next = if h.rs = 0 then h.next + 1 else h.next := by
  show cb (Nat.beq h.rs 0) _ _ = _
  rw [cb_eq]
  by_cases e : h.rs = 0
  · rw [e]; rfl
  · rw [if_neg e, if_neg]; intro h; exact e (Nat.eq_of_beq_eq_true h)
theorem Heap.rs_new (h : Heap) (o : Ob) : (h.new o).rs = 0 := rfl
theorem Heap.rs_set (h : Heap) (b : Nat) (o : Ob) : (h.set b o).rs = h.rs := rfl
theorem Heap.rs_del (h : Heap) (b : Nat) : (h.del b).rs = h.rs := rfl
theorem Heap.next_set (h : Heap) (b : Nat) (o : Ob) : (h.set b o).next = h.next := rfl
theorem Heap.next_del (h : Heap) (b : Nat) : (h.del b).next = h.next := rfl
theorem newB_eq (h : Heap) (o : Ob) (k : Nat → Heap → OR) : newB h o k = k h.nx (h.new o) := by
  cases h with
  | mk n r t =>
    show cb (Nat.beq r 0) (fN n (fun b => fN (Nat.succ b) fun n => k b ⟨n, 0, T.putP (some o) (pth b) t⟩)) (fN r fun b => k b ⟨n, 0, T.putP (some o) (pth b) t⟩) = _
    rw [fN_eq, fN_eq, fN_eq]
    unfold Heap.new Heap.nx
    cases Nat.beq r 0 <;> rfl
theorem Sim.lt {ρ : Ren} {h : Heap} {w : World} (s : Sim ρ h w) {b : Nat} {r : RB} (hb : ρ b = some r) : b < h.next := by
  rcases Nat.lt_or_ge b h.next with hlt | hge
  · exact hlt
  · rw [s.fresh b hge] at hb; cases hb
theorem Turn.alloc {ρ : Ren} {h : Heap} {w : World} (s : Sim ρ h w) (size k : Nat) (o : Ob) (o' : Obj)
    (ho : ObR ρ ⟨w.heap.size, size, k⟩ o o') : ∃ ρ', ρ' h.nx = some ⟨w.heap.size, size, k⟩ ∧ Turn ρ h w ρ' (h.new o) { w with heap := w.heap.push o' } := by
  let ρ' : Ren := fun b => if b = h.nx then some ⟨w.heap.size, size, k⟩ else ρ b
  have hlow := s.low
  obtain ⟨hxg, hxn, hfree⟩ : gBase ≤ h.nx ∧ h.nx < (h.new o).next ∧ ρ h.nx = none := by
    rw [Heap.nx_eq, Heap.next_new]
    by_cases e : h.rs = 0
    · simp only [if_pos e]; exact ⟨hlow, Nat.lt_succ_self _, s.fresh _ (Nat.le_refl _)⟩
    · simp only [if_neg e]; exact s.res e
  have hnn : h.next ≤ (h.new o).next := by rw [Heap.next_new]; split <;> omega
  have e : Ext ρ ρ' := fun b r hb => by
    simp only [ρ']; rw [if_neg (fun e => by rw [e, hfree] at hb; cases hb)]; exact hb
  refine ⟨ρ', by simp [ρ'], ?_⟩
  have hget : ∀ b o1, (h.new o).get b = some o1 → (b = h.nx ∧ o1 = o) ∨ (b ≠ h.nx ∧ h.get b = some o1) := fun b o1 hb => by
    rw [Heap.get_new] at hb
    by_cases e : b = h.nx
    · rw [if_pos e] at hb; exact .inl ⟨e, by cases hb; rfl⟩
    · rw [if_neg e] at hb; exact .inr ⟨e, hb⟩
  have hold : ∀ k, k < w.heap.size → (w.heap.push o')[k]? = w.heap[k]? := fun k hk => by rw [Array.getElem?_push, if_neg (by omega)]
  have hlt : ∀ b o1 r, h.get b = some o1 → ρ b = some r → r.id < w.heap.size := fun b o1 r hb hr => by
    obtain ⟨r1, o2, h1, h2, _⟩ := s.obj b o1 hb
    rw [h1] at hr; cases hr
    exact (Array.getElem?_eq_some_iff.1 h2).1
  refine ⟨e, hnn, ⟨fun b o1 hb => ?_, fun b b' o1 o2 r r' h1 h2 h3 h4 h5 => ?_, fun b hb => ?_, fun b r hb hr => ?_, Nat.le_trans hlow hnn, fun hr => absurd (Heap.rs_new h o) hr⟩, rfl, rfl, rfl, by simp, fun b hb => ?_, fun k hk _ => hold k hk, fun b o1 r hg hb hr => ?_, .inl rfl, fun b hg hb hne h0 => ?_⟩
  · rcases hget b o1 hb with ⟨rfl, rfl⟩ | ⟨hne, hb⟩
    · exact ⟨_, o', by simp [ρ'], by simp, ho.mono e⟩
    · obtain ⟨r1, o2, h1, h2, h3⟩ := s.obj b o1 hb
      exact ⟨r1, o2, e _ _ h1, (hold _ (Array.getElem?_eq_some_iff.1 h2).1).trans h2, h3.mono e⟩
  · rcases hget b o1 h1 with ⟨e1, _⟩ | ⟨hne, g1⟩ <;> rcases hget b' o2 h2 with ⟨e2, _⟩ | ⟨hne', g2⟩
    · exact e1.trans e2.symm
    · simp only [ρ', if_pos e1, if_neg hne', Option.some.injEq] at h3 h4
      subst h3
      have := hlt _ _ _ g2 h4
      simp only at h5; omega
    · simp only [ρ', if_pos e2, if_neg hne, Option.some.injEq] at h3 h4
      subst h4
      have := hlt _ _ _ g1 h3
      simp only at h5; omega
    · simp only [ρ', if_neg hne, if_neg hne'] at h3 h4
      exact s.inj b b' o1 o2 r r' g1 g2 h3 h4 h5
  · simp only [ρ']
    rw [if_neg (by omega)]; exact s.fresh b (by omega)
  · simp only [ρ'] at hr
    rw [if_neg (by omega)] at hr; exact s.glob b r hb hr
  · rw [Heap.get_new, if_neg (by omega)]
  · rcases hget b o1 hb with ⟨rfl, rfl⟩ | ⟨hne, hb⟩
    · simp only [ρ', if_true, Option.some.injEq] at hr; subst hr; exact .inl (Nat.le_refl _)
    · simp only [ρ', if_neg hne] at hr; exact .inr ⟨b, o1, r, hg, hb, hr, rfl⟩
  · simp only [ρ']
    rw [if_neg]; exact h0
    rw [Heap.nx_eq]
    by_cases e : h.rs = 0
    · rw [if_pos e]; omega
    · rw [if_neg e]; exact hne
theorem Turn.write {ρ : Ren} {h : Heap} {w : World} (s : Sim ρ h w) {b : Nat} {o1 : Ob} {r : RB} (hb : h.get b = some o1) (hr : ρ b = some r) (hg : gBase ≤ b) (o : Ob) (o' : Obj) (w' : World)
    (ho : ObR ρ r o o') (hos : w'.os = w.os) (htape : w'.tape = w.tape) (hout : w'.output = w.output) (hsz : w'.heap.size = w.heap.size)
    (hnew : w'.heap[r.id]? = some o') (hsame : ∀ k, k ≠ r.id → w'.heap[k]? = w.heap[k]?) : Turn ρ h w ρ (h.set b o) w' := by
  have hget : ∀ x o2, (h.set b o).get x = some o2 → (x = b ∧ o2 = o) ∨ (x ≠ b ∧ h.get x = some o2) := fun x o2 hx => by
    rw [Heap.get_set] at hx
    by_cases e : x = b
    · rw [if_pos e] at hx; exact .inl ⟨e, by cases hx; rfl⟩
    · rw [if_neg e] at hx; exact .inr ⟨e, hx⟩
  have hlive : ∀ x o2, (h.set b o).get x = some o2 → ∃ o3, h.get x = some o3 := fun x o2 hx => by
    rcases hget x o2 hx with ⟨rfl, _⟩ | ⟨_, h⟩
    · exact ⟨_, hb⟩
    · exact ⟨_, h⟩
  refine ⟨fun _ _ h => h, Nat.le_refl _, ⟨fun x o2 hx => ?_, fun x x' o2 o3 r2 r3 h1 h2 h3 h4 h5 => ?_, fun x hx => s.fresh x hx, fun x r2 hx hr2 => s.glob x r2 hx hr2, s.low, s.res⟩, hos, htape, hout, by omega, fun x hx => ?_, fun k hk hn => ?_, fun x o2 r2 hgx hx hr2 => ?_, .inr rfl, fun _ _ _ _ h => h⟩
  · rcases hget x o2 hx with ⟨rfl, rfl⟩ | ⟨hne, hx⟩
    · exact ⟨r, o', hr, hnew, ho⟩
    · obtain ⟨r2, o3, h1, h2, h3⟩ := s.obj x o2 hx
      refine ⟨r2, o3, h1, (hsame _ fun e => hne ?_).trans h2, h3⟩
      exact s.inj x b o2 o1 r2 r hx hb h1 hr e
  · obtain ⟨o4, h1⟩ := hlive x o2 h1
    obtain ⟨o5, h2⟩ := hlive x' o3 h2
    exact s.inj x x' o4 o5 r2 r3 h1 h2 h3 h4 h5
  · rw [Heap.get_set, if_neg (by omega)]
  · exact hsame k fun e => hn b o1 r hg hb hr e.symm
  · obtain ⟨o4, h1⟩ := hlive x o2 hx
    exact .inr ⟨x, o4, r2, hgx, h1, hr2, rfl⟩
theorem Turn.drop {ρ : Ren} {h : Heap} {w : World} (s : Sim ρ h w) (b : Nat) (hg : gBase ≤ b) : Turn ρ h w ρ (h.del b) w := by
  have hget : ∀ x o2, (h.del b).get x = some o2 → h.get x = some o2 := fun x o2 hx => by
    rw [Heap.get_del] at hx
    by_cases e : x = b
    · rw [if_pos e] at hx; cases hx
    · rw [if_neg e] at hx; exact hx
  exact ⟨fun _ _ h => h, Nat.le_refl _, ⟨fun x o2 hx => s.obj x o2 (hget x o2 hx), fun x x' o2 o3 r2 r3 h1 h2 => s.inj x x' o2 o3 r2 r3 (hget _ _ h1) (hget _ _ h2), s.fresh, s.glob, s.low, s.res⟩,
    rfl, rfl, rfl, Nat.le_refl _, fun x hx => by rw [Heap.get_del, if_neg (by omega)], fun _ _ _ => rfl, fun x o2 r2 hgx hx hr => .inr ⟨x, o2, r2, hgx, hget _ _ hx, hr, rfl⟩, .inr rfl, fun _ _ _ _ h => h⟩
end Go.Ev
