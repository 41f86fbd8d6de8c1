/- EvC: operations, one by one. -/
import Derived.Test.YtnfcjgfaecihbaaGreatDoorEvB
set_option linter.unusedVariables false
set_option linter.unusedSimpArgs false
set_option linter.unusedSectionVars false
set_option linter.constructorNameAsVariable false
namespace Go.Ev
open Go
def OpSpec (P : Program) (ρ : Ren) (h : Heap) (w : World) : OR → Result Next → Prop
  | .fail, _ => True
  | .val v h', r => ∃ ρ' v' w', r = .ok (.value v') w' ∧ Turn ρ h w ρ' h' w' ∧ VR ρ' v v'
  | .skip h', r => ∃ ρ' w', r = .ok .skip w' ∧ Turn ρ h w ρ' h' w'
  | .call f args h', r => ∃ args', r = .ok (.enter f ⟨args'⟩) w ∧ h' = h ∧ VRL ρ args args'
  | .yld l args h', r => ∃ (rl : RB) (args' : List Value), h' = h ∧ ρ l = some rl ∧ r = (Instr.yield rl.id ⟨args'⟩).run P w ∧ VRL ρ args args'
  | .both x y, r => OpSpec P ρ h w x r ∨ OpSpec P ρ h w y r
def VSpec (ρ : Ren) (h : Heap) (w : World) : OR → Result Value → Prop
  | .fail, _ => True
  | .val v h', r => ∃ ρ' v' w', r = .ok v' w' ∧ Turn ρ h w ρ' h' w' ∧ VR ρ' v v'
  | .both x y, r => VSpec ρ h w x r ∨ VSpec ρ h w y r
  | _, _ => False
def USpec (ρ : Ren) (h : Heap) (w : World) : OR → Result Unit → Prop
  | .fail, _ => True
  | .skip h', r => ∃ ρ' w', r = .ok () w' ∧ Turn ρ h w ρ' h' w'
  | _, _ => False
inductive PR (ρ : Ren) : List (Nat × Value) → List (Nat × Value) → Prop where
  | nil : PR ρ [] []
  | cons {i : Nat} {v v' : Value} {l l' : List (Nat × Value)} (h : VR ρ v v') (hl : PR ρ l l') : PR ρ ((i, v) :: l) ((i, v') :: l')
section
variable {P : Program} {ρ : Ren} {h : Heap} {w : World}
theorem OpSpec.ofV {x : OR} {m : Sem Value} (hv : VSpec ρ h w x (m.run P w)) : OpSpec P ρ h w x ((do let v ← m; pure (.value v) : Sem Next).run P w) := by
  induction x with
  | fail => trivial
  | val v h' =>
    obtain ⟨ρ', v', w', hr, ht, hv⟩ := hv
    exact ⟨ρ', v', w', by simp [hr], ht, hv⟩
  | both x y ihx ihy => exact hv.imp ihx ihy
  | skip _ => exact hv.elim
  | call _ _ _ => exact hv.elim
  | yld _ _ _ => exact hv.elim
theorem OpSpec.ofU {x : OR} {m : Sem Unit} (hv : USpec ρ h w x (m.run P w)) : OpSpec P ρ h w x ((do m; pure .skip : Sem Next).run P w) := by
  cases x with
  | fail => trivial
  | skip h' =>
    obtain ⟨ρ', w', hr, ht⟩ := hv
    exact ⟨ρ', w', by simp [hr], ht⟩
  | val _ _ => exact hv.elim
  | both _ _ => exact hv.elim
  | call _ _ _ => exact hv.elim
  | yld _ _ _ => exact hv.elim
theorem VSpec.same (hs : Sim ρ h w) {v v' : Value} {r : Result Value} (hr : r = .ok v' w) (hv : VR ρ v v') : VSpec ρ h w (.val v h) r := ⟨ρ, v', w, hr, .refl hs, hv⟩
theorem VSpec.pv (hs : Sim ρ h w) {x : Option Value} {r : Result Value} (hx : ∀ v, x = some v → ∃ v', r = .ok v' w ∧ VR ρ v v') : VSpec ρ h w (pv h x) r := by
  cases x with
  | none => trivial
  | some v => obtain ⟨v', hr, hv⟩ := hx v rfl; exact .same hs hr hv
theorem VSpec.ob {α : Type} {x : Option α} {f : α → OR} {r : Result Value} (hx : ∀ a, x = some a → VSpec ρ h w (f a) r) : VSpec ρ h w (ob x f) r := by
  cases x with
  | none => trivial
  | some a => exact hx a rfl
mutual
theorem VR.of_flat : ∀ {v : Value}, flat v = true → VR ρ v v
  | .bool b, _ => .bool b
  | .int k n, _ => .int k n
  | .float k n, _ => .float k n
  | .complex k n m, _ => .complex k n m
  | .string s, _ => .string s
  | .pointer none, _ => .ptr0
  | .pointer (some _), f => by simp [flat] at f
  | .slice none n m, _ => .slice0 n m
  | .slice (some _) _ _, f => by simp [flat] at f
  | .map none, _ => .map0
  | .map (some _), f => by simp [flat] at f
  | .chan none, _ => .chan0
  | .chan (some _), f => by simp [flat] at f
  | .func (.func f) ⟨l⟩ ⟨m⟩, g => by
    simp only [flat, Bool.and_eq_true] at g
    exact .func f (VRL.of_flat g.1) (VRL.of_flat g.2)
  | .func (.method _) _ _, f => by simp [flat] at f
  | .func (.methodOf _ _) _ _, f => by simp [flat] at f
  | .func (.via _ _ _ _) _ _, f => by simp [flat] at f
  | .func (.yield _) _ _, f => by simp [flat] at f
  | .nilFunc, _ => .nilFunc
  | .iface t v, f => .iface t (VR.of_flat (by simpa [flat] using f))
  | .nilIface, _ => .nilIface
  | .agg ⟨l⟩, f => .agg (VRL.of_flat (by simpa [flat] using f))
  | .tuple ⟨l⟩, f => .tuple (VRL.of_flat (by simpa [flat] using f))
theorem VRL.of_flat : ∀ {l : List Value}, flatL l = true → VRL ρ l l
  | [], _ => .nil
  | v :: l, f => by
    simp only [flatL, Bool.and_eq_true] at f
    exact .cons (VR.of_flat f.1) (VRL.of_flat f.2)
end
theorem VSpec.pvf (hs : Sim ρ h w) {x : Option Value} {r : Result Value} (hx : ∀ v, x = some v → r = .ok v w) : VSpec ρ h w (pvf h x) r := by
  cases x with
  | none => trivial
  | some v =>
    show VSpec ρ h w (bif flat v then .val v h else .fail) r
    cases hf : flat v with
    | false => trivial
    | true => exact .same hs (hx v rfl) (.of_flat hf)
theorem pureP_run {α : Type} : ∀ (m : Sem α) {v : α}, pureP P m = some v → m.run P w = .ok v w
  | .pure a, v, e => by simp [pureP] at e; subst e; rfl
  | .program k, v, e => by simp only [pureP] at e; exact pureP_run (k P) e
  | .mark _ k, v, e => by simp only [pureP] at e; exact pureP_run k e
  | .load .., v, e => by simp [pureP] at e
  | .store .., v, e => by simp [pureP] at e
  | .new .., v, e => by simp [pureP] at e
  | .shape .., v, e => by simp [pureP] at e
  | .freeze .., v, e => by simp [pureP] at e
  | .frozen .., v, e => by simp [pureP] at e
  | .getObj .., v, e => by simp [pureP] at e
  | .setObj .., v, e => by simp [pureP] at e
  | .choose .., v, e => by simp [pureP] at e
  | .sys .., v, e => by simp [pureP] at e
  | .halt .., v, e => by simp [pureP] at e
variable {s : Slots} {n : Nat} {a : Act}
theorem opd_ok (hs : Sim ρ h w) (hl : SlR ρ s n a.tmps) {x : Operand} {v : Value} (e : (opd x).f s h = some v) : VR ρ v (a.eval x) := by
  cases x with
  | tmp t =>
    obtain ⟨v', h1, h2⟩ := hl.2 t v e
    simpa [Act.eval, h1] using h2
  | const c =>
    simp only [opd] at e
    cases hf : flat c with
    | false => simp [hf] at e
    | true => simp [hf] at e; subst e; exact .of_flat hf
  | global g =>
    simp only [opd] at e
    cases hg : Nat.ble (Nat.succ g) gBase with
    | false => simp [hg] at e
    | true =>
      simp only [hg, cond_true] at e
      have hlt : g < gBase := by have := Nat.le_of_ble_eq_true hg; omega
      cases ho : h.get g with
      | none => simp [ho] at e
      | some o =>
        simp [ho] at e; subst e
        obtain ⟨r, o', h1, _, _⟩ := hs.obj g o ho
        have := hs.glob g r hlt h1
        simp only [Act.eval]
        have hp := VR.ptr (ρ := ρ) 0 h1
        rwa [this] at hp
  | func f =>
    simp only [opd, Option.some.injEq] at e
    subst e
    exact .func f .nil .nil
theorem o1_ok {Φ : OR → Prop} (hf : Φ .fail) (hs : Sim ρ h w) (hl : SlR ρ s n a.tmps) (x : Operand) {k : Value → OR} (hk : ∀ v, VR ρ v (a.eval x) → Φ (k v)) : Φ (o1 x s h k) := by
  unfold o1
  cases e : (opd x).f s h with
  | none => exact hf
  | some v => exact hk v (opd_ok hs hl e)
theorem o2_ok {Φ : OR → Prop} (hf : Φ .fail) (hs : Sim ρ h w) (hl : SlR ρ s n a.tmps) (x y : Operand) {k : Value → Value → OR} (hk : ∀ v u, VR ρ v (a.eval x) → VR ρ u (a.eval y) → Φ (k v u)) : Φ (o2 x y s h k) :=
  o1_ok hf hs hl x fun v hv => o1_ok hf hs hl y fun u hu => hk v u hv hu
theorem oL_ok {Φ : OR → Prop} (hf : Φ .fail) (hs : Sim ρ h w) (hl : SlR ρ s n a.tmps) : ∀ (l : List Operand) {k : List Value → OR}, (∀ vs, VRL ρ vs (l.map a.eval) → Φ (k vs)) → Φ (oL l s h k)
  | [], _, hk => hk [] .nil
  | x :: l, _, hk => o1_ok hf hs hl x fun v hv => oL_ok hf hs hl l fun vs hvs => hk (v :: vs) (.cons hv hvs)
theorem oP_ok {Φ : OR → Prop} (hf : Φ .fail) (hs : Sim ρ h w) (hl : SlR ρ s n a.tmps) : ∀ (l : List (Nat × Operand)) {k : List (Nat × Value) → OR},
    (∀ vs, PR ρ vs (l.map fun p => (p.1, a.eval p.2)) → Φ (k vs)) → Φ (oP l s h k)
  | [], _, hk => hk [] .nil
  | x :: l, _, hk => o1_ok hf hs hl x.2 fun v hv => oP_ok hf hs hl l fun vs hvs => hk ((x.1, v) :: vs) (.cons hv hvs)
theorem oo_ok {Φ : OR → Prop} (hf : Φ .fail) (hs : Sim ρ h w) (hl : SlR ρ s n a.tmps) (x : Option Operand) {k : Option Value → OR}
    (h0 : x = none → Φ (k none)) (hk : ∀ y v, x = some y → VR ρ v (a.eval y) → Φ (k (some v))) : Φ (oo x s h k) := by
  cases x with
  | none => exact h0 rfl
  | some y => exact o1_ok hf hs hl y fun v hv => hk y v rfl hv
theorem sizeT_run {t : TypeId} {k : Nat} (e : sizeT P t = some k) (w : World) : (sizeOf t).run P w = .ok k w := by
  unfold sizeT at e
  cases hi : P.info? t with
  | none => simp [hi] at e
  | some i => simp [hi] at e; simp [sizeOf, typeInfo, hi, e]
theorem info_size {t : TypeId} {k : Nat} (e : sizeT P t = some k) : ∃ i, P.info? t = some i ∧ i.size = k := by
  unfold sizeT at e
  cases hi : P.info? t with
  | none => simp [hi] at e
  | some i => simp [hi] at e; exact ⟨i, rfl, e⟩
theorem zeroT_run {t : TypeId} {z : Value} (e : zeroT P t = some z) (w : World) : (zeroValue t).run P w = .ok z w ∧ flat z = true := by
  unfold zeroT at e
  cases hi : P.info? t with
  | none => simp [hi] at e
  | some i =>
    simp only [hi] at e
    cases hz : i.zero with
    | none => simp [hz] at e
    | some z' =>
      simp only [hz] at e
      cases hf : flat z' with
      | false => simp [hf] at e
      | true => simp [hf] at e; subst e; exact ⟨by simp [zeroValue, typeInfo, hi, hz], hf⟩
theorem und_run {t : TypeId} {d : TypeDesc} (e : P.underlying t = some d) (w : World) : (underlying t).run P w = .ok d w := by simp [underlying, e]
theorem aggT_run {t : TypeId} {b : Bool} (e : aggT P t = some b) (w : World) : (isAgg t).run P w = .ok b w := by
  unfold aggT at e
  cases hd : P.underlying t with
  | none => simp [hd] at e
  | some d => cases d <;> simp [hd] at e <;> subst e <;> simp [isAgg, underlying, hd]
theorem cells_eq (v : Value) : v.cells = ⟨cellsOf v⟩ := by cases v <;> rfl
theorem VR.cells {v v' : Value} (hv : VR ρ v v') : VRL ρ (cellsOf v) (cellsOf v') := by
  cases hv with
  | agg hl => exact hl
  | bool b => exact .cons (.bool b) .nil
  | int k n => exact .cons (.int k n) .nil
  | float k n => exact .cons (.float k n) .nil
  | complex k n m => exact .cons (.complex k n m) .nil
  | string s => exact .cons (.string s) .nil
  | ptr0 => exact .cons .ptr0 .nil
  | ptr off h => exact .cons (.ptr off h) .nil
  | slice0 n m => exact .cons (.slice0 n m) .nil
  | slice off len cap h hc => exact .cons (.slice off len cap h hc) .nil
  | sliceO off len c c' h hc hs => exact .cons (.sliceO off len c c' h hc hs) .nil
  | map0 => exact .cons .map0 .nil
  | map h => exact .cons (.map h) .nil
  | chan0 => exact .cons .chan0 .nil
  | func f h h' => exact .cons (.func f h h') .nil
  | yield h => exact .cons (.yield h) .nil
  | nilFunc => exact .cons .nilFunc .nil
  | iface t h => exact .cons (.iface t h) .nil
  | nilIface => exact .cons .nilIface .nil
  | tuple h => exact .cons (.tuple h) .nil
theorem flatL_cells {v : Value} (hf : flat v = true) : flatL (cellsOf v) = true := by
  cases v <;> first
    | (simp only [cellsOf, flatL, Bool.and_true]; exact hf)
    | (rename_i a; cases a; simpa [cellsOf, flat] using hf)
theorem newBlock (hs : Sim ρ h w) (size k : Nat) (o : Ob) (o' : Obj) (ho : ObR ρ ⟨w.heap.size, size, k⟩ o o') {K : Nat → Heap → OR} {r : Result Value}
    (hk : ∀ ρ', ρ' h.nx = some ⟨w.heap.size, size, k⟩ → Turn ρ h w ρ' (h.new o) { w with heap := w.heap.push o' } → VSpec ρ h w (K h.nx (h.new o)) r) : VSpec ρ h w (newB h o K) r := by
  obtain ⟨ρ', h1, h2⟩ := Turn.alloc hs size k o o' ho
  rw [newB_eq]; exact hk ρ' h1 h2
theorem cellsNew {c c' : List Value} (hc : VRL ρ c c') (e : TypeId) (r : RB) (hr : r.size = c'.length) : ObR ρ r (.cells c c.length 0 e) (.cells ⟨c'⟩ e) := by
  have := ObR.cells (ρ := ρ) (r := r) (c := c) (l := c') (m := []) (n := c.length) (opn := 0) (e := e) (lo := 0) (hi := 0) hc rfl (fun _ => rfl) (fun k hk => by omega) (by simpa using hr) (.inl (Nat.le_refl _))
  simpa using this
theorem newCells_ok (hs : Sim ρ h w) {c c' : List Value} (hc : VRL ρ c c') (e : TypeId) {r : Result Value}
    (hr : r = .ok (.pointer (some ⟨w.heap.size, 0, none⟩)) { w with heap := w.heap.push (.cells ⟨c'⟩ e) }) : VSpec ρ h w (newCells h c e) r := by
  unfold newCells
  rw [fN_eq]
  exact newBlock hs c'.length 0 _ _ (cellsNew hc e _ rfl) fun ρ' h1 h2 => ⟨ρ', _, _, hr, h2, .ptr 0 h1⟩
theorem alloc_ok (hs : Sim ρ h w) (t : TypeId) : VSpec ρ h w ((allocS P t).f h) ((Instr.alloc t true (.tuple #[])).run P w) := by
  unfold allocS
  cases e : zeroT P t with
  | none => trivial
  | some z =>
    obtain ⟨h1, h2⟩ := zeroT_run e w
    exact newCells_ok hs (VRL.of_flat (flatL_cells h2)) t (by simp [Instr.alloc, h1, newVar, newRow, cells_eq])
theorem box_ok (hs : Sim ρ h w) (t : TypeId) {v v' : Value} (hv : VR ρ v v') : VSpec ρ h w (newCells h (cellsOf v) t) ((Instr.box t v').run P w) :=
  newCells_ok hs hv.cells t (by simp [Instr.box, newVar, newRow, cells_eq])
theorem ptr_inv {b off : Nat} {v' : Value} (hv : VR ρ (.pointer (some ⟨b, off, none⟩)) v') : ∃ r, ρ b = some r ∧ v' = .pointer (some ⟨r.id, off, none⟩) := by
  cases hv with
  | ptr off h => exact ⟨_, h, rfl⟩
structure Lies (ρ : Ren) (w : World) (r : RB) (c : List Value) (n opn : Nat) (e : TypeId) (l m : List Value) (lo hi : Nat) : Prop where
  heap : w.heap[r.id]? = some (.cells ⟨l ++ m⟩ e (lo, hi))
  vr : VRL ρ c l
  n : n = c.length
  shut : opn = 0 → m = []
  k : ∀ k, opn = k + 1 → r.k = k
  size : r.size = l.length + m.length
  free : hi ≤ lo ∨ l.length + m.length ≤ lo
theorem Sim.cells (hs : Sim ρ h w) {b : Nat} {c : List Value} {n opn : Nat} {e : TypeId} {r : RB} (hb : h.get b = some (.cells c n opn e)) (hr : ρ b = some r) :
    ∃ l m lo hi, Lies ρ w r c n opn e l m lo hi := by
  obtain ⟨r', o', h1, h2, h3⟩ := hs.obj b _ hb
  rw [h1] at hr; cases hr
  cases h3 with
  | cells h hn ho hk hsz hf => exact ⟨_, _, _, _, h2, h, hn, ho, hk, hsz, hf⟩
theorem add_addr (b off i : Nat) : (⟨b, off, none⟩ : Addr).add i = ⟨b, off + i, none⟩ := by unfold Addr.add; split <;> simp_all
theorem Lies.cell {r : RB} {c : List Value} {n opn : Nat} {e : TypeId} {l m : List Value} {lo hi : Nat} (L : Lies ρ w r c n opn e l m lo hi) (i : Nat) : w.cell? ⟨r.id, i, none⟩ = (l ++ m)[i]? := by
  simp [World.cell?, L.heap]
theorem Lies.frozen {r : RB} {c : List Value} {n opn : Nat} {e : TypeId} {l m : List Value} {lo hi : Nat} (L : Lies ρ w r c n opn e l m lo hi) (i : Nat) (hi' : i < l.length + m.length) : w.frozen? ⟨r.id, i, none⟩ = false := by
  simp only [World.frozen?, L.heap, Bool.and_eq_false_iff, decide_eq_false_iff_not]
  rcases L.free with h | h <;> omega
theorem Lies.load {r : RB} {c : List Value} {n opn : Nat} {e : TypeId} {l m : List Value} {lo hi : Nat} (L : Lies ρ w r c n opn e l m lo hi) {off k : Nat} (hk : off + k ≤ c.length) :
    (loadCells ⟨r.id, off, none⟩ k).run P w = .ok ⟨(l.drop off).take k⟩ w := by
  have hlen := L.vr.length
  have h1 : ((l.drop off).take k).length = k := by simp; omega
  have := run_loadCells_list (P := P) w ⟨r.id, off, none⟩ ((l.drop off).take k) (fun j v hj => by
    rw [add_addr, L.cell]
    have hjk : j < k := by rw [← h1]; exact (List.getElem?_eq_some_iff.1 hj).1
    rw [List.getElem?_take, if_pos hjk, List.getElem?_drop] at hj
    rw [List.getElem?_append_left (by omega)]; exact hj)
  rw [h1] at this
  exact this
theorem loadS_ok (hs : Sim ρ h w) (t : TypeId) {p p' : Value} (hp : VR ρ p p') {v : Value} (e : (loadS P t).f p h = some v) : ∃ v', (Instr.loadAt t p').run P w = .ok v' w ∧ VR ρ v v' := by
  unfold loadS at e
  cases ha : aggT P t with
  | none => simp [ha] at e
  | some b =>
    have hrun := aggT_run ha w
    cases b with
    | true =>
      simp only [ha] at e
      cases hk : sizeT P t with
      | none => simp [hk] at e
      | some k =>
        simp only [hk] at e
        split at e
        · rename_i b off
          split at e
          · rename_i c n opn el hg
            split at e
            · rename_i l hl
              cases e
              obtain ⟨r, hr, rfl⟩ := ptr_inv hp
              obtain ⟨l1, m, lo, hi, L⟩ := hs.cells hg hr
              rw [drp_eq] at hl
              obtain ⟨hle, rfl⟩ := tk_some hl
              rw [List.length_drop] at hle
              refine ⟨.agg ⟨(l1.drop off).take k⟩, ?_, .agg ((L.vr.drop off).take k)⟩
              by_cases hk0 : k = 0
              · subst hk0
                simp [Instr.loadAt, Instr.sureAddr, loadVar, hrun, sizeT_run hk w, loadCells, loadCellsFrom]
              · simp [Instr.loadAt, Instr.sureAddr, loadVar, hrun, sizeT_run hk w, L.load (P := P) (off := off) (k := k) (by omega)]
            · cases e
          · cases e
        · cases e
    | false =>
      simp only [ha] at e
      split at e
      · rename_i b off
        split at e
        · rename_i c n opn el hg
          split at e
          · rename_i v0 tl hl
            cases e
            obtain ⟨r, hr, rfl⟩ := ptr_inv hp
            obtain ⟨l1, m, lo, hi, L⟩ := hs.cells hg hr
            rw [drp_eq] at hl
            have hc : c[off]? = some v := by
              have := congrArg (fun x => x[0]?) hl
              simpa using this
            obtain ⟨v', h1, h2⟩ := L.vr.get off v hc
            have hlt : off < l1.length := (List.getElem?_eq_some_iff.1 h1).1
            refine ⟨v', ?_, h2⟩
            simp [Instr.loadAt, Instr.sureAddr, loadVar, hrun, L.cell, List.getElem?_append_left hlt, h1]
          · cases e
        · rename_i c hg
          split at e
          · rename_i v0 tl hl
            cases e
            obtain ⟨r, hr, rfl⟩ := ptr_inv hp
            obtain ⟨r', o', g1, g2, g3⟩ := hs.obj _ _ hg
            rw [hr] at g1; cases g1
            cases g3 with
            | ro hvr =>
              rw [drp_eq] at hl
              have hc : c[off]? = some v := by
                have := congrArg (fun x => x[0]?) hl
                simpa using this
              obtain ⟨v', h1, h2⟩ := hvr.get off v hc
              refine ⟨v', ?_, h2⟩
              simp [Instr.loadAt, Instr.sureAddr, loadVar, hrun, World.cell?, g2, h1]
          · cases e
        · cases e
      · cases e
theorem run_storeCells_gen (P : Program) (g o : Nat) (t : TypeId) (lo hi : Nat) : ∀ (vs : List Value) (i : Nat) (cur : Array Value) (w : World), w.heap[g]? = some (.cells cur t (lo, hi)) → o + i + vs.length ≤ cur.size → (hi ≤ lo ∨ cur.size ≤ lo) → (∀ v ∈ vs, v.oneCell' = true) →
    (storeCells ⟨g, o, none⟩ vs i).run P w = .ok () (w.setRow g (cur.toList.take (o + i) ++ vs ++ cur.toList.drop (o + i + vs.length)).toArray)
  | [], i, cur, w, hg, _, _, _ => by
    simp only [storeCells, List.append_nil, List.length_nil, Nat.add_zero, List.take_append_drop, Array.toArray_toList]
    rw [setRow_self w g cur t (lo, hi) hg]
    rfl
  | v :: rest, i, cur, w, hg, hl, hf, h1 => by
    have hi' : o + i < cur.size := by simp at hl; omega
    have hcell : w.cell? ⟨g, o + i, none⟩ = some cur[o + i] := by simp [World.cell?, hg, hi']
    have hfro : w.frozen? ⟨g, o + i, none⟩ = false := by
      simp only [World.frozen?, hg, Bool.and_eq_false_iff, decide_eq_false_iff_not]
      rcases hf with h | h <;> omega
    have hst : (store ((⟨g, o, none⟩ : Addr).add i) v).run P w = .ok () (w.setRow g (cur.setIfInBounds (o + i) v)) := by
      rw [add_addr, run_store P w _ v _ (h1 v (by simp)), hcell]
      simp [hfro, setCell_eq_setRow w g (o + i) cur t (lo, hi) v hg]
    have ih := run_storeCells_gen P g o t lo hi rest (i + 1) (cur.setIfInBounds (o + i) v) (w.setRow g (cur.setIfInBounds (o + i) v)) (setRow_heap w g cur _ t _ hg) (by simp at hl ⊢; omega) (by simpa using hf) (fun x hx => h1 x (by simp [hx]))
    simp only [storeCells, Sem.run_bind, hst, Result.andThen_ok, ih, setRow_setRow]
    congr 2
    rw [Array.toList_setIfInBounds]
    have e1 : o + (i + 1) = o + i + 1 := by omega
    have e2 : o + (i + 1) + rest.length = o + i + (rest.length + 1) := by omega
    rw [e2, e1]
    have hlen : o + i < cur.toList.length := by simpa using hi'
    have t1 : (cur.toList.set (o + i) v).take (o + i + 1) = cur.toList.take (o + i) ++ [v] := by
      rw [List.take_add_one, List.take_set_of_le (Nat.le_refl _), List.getElem?_set_self hlen]
      rfl
    have t2 : (cur.toList.set (o + i) v).drop (o + i + (rest.length + 1)) = cur.toList.drop (o + i + (rest.length + 1)) := by
      rw [List.drop_set_of_lt (by omega)]
    rw [t1, t2]
    simp
theorem over_some {xs : List Value} : ∀ {off : Nat} {c c' : List Value}, over xs off c = some c' → off + xs.length ≤ c.length ∧ c' = c.take off ++ xs ++ c.drop (off + xs.length)
  | 0, c, c', e => by
    have key : ∀ (xs c c' : List Value), over.ovr xs c = some c' → xs.length ≤ c.length ∧ c' = xs ++ c.drop xs.length := by
      intro xs
      induction xs with
      | nil => intro c c' e; simp [over.ovr] at e; subst e; simp
      | cons x xs ih =>
        intro c c' e
        cases c with
        | nil => simp [over.ovr] at e
        | cons y c =>
          simp only [over.ovr] at e
          cases h : over.ovr xs c with
          | none => simp [h] at e
          | some r =>
            simp [h] at e; subst e
            obtain ⟨h1, h2⟩ := ih c r h
            exact ⟨by simpa using h1, by simp [h2]⟩
    obtain ⟨h1, h2⟩ := key xs c c' (by simpa [over] using e)
    exact ⟨by simpa using h1, by simpa using h2⟩
  | n + 1, [], c', e => by simp [over] at e
  | n + 1, v :: c, c', e => by
    simp only [over] at e
    cases h : over xs n c with
    | none => simp [h] at e
    | some r =>
      simp [h] at e; subst e
      obtain ⟨h1, h2⟩ := over_some h
      exact ⟨by simp; omega, by rw [h2]; simp [show n + 1 + xs.length = n + xs.length + 1 by omega]⟩
theorem oneL_all : ∀ {l : List Value}, oneL l = true → ∀ v ∈ l, v.oneCell' = true
  | [], _, v, hv => by cases hv
  | x :: l, e, v, hv => by
    simp only [oneL, Bool.and_eq_true] at e
    rcases List.mem_cons.1 hv with rfl | h
    · exact e.1
    · exact oneL_all e.2 v h
theorem VR.oneCell {v v' : Value} (hv : VR ρ v v') (h : v.oneCell' = true) : v'.oneCell' = true := by
  cases hv <;> first | rfl | (simp [Value.oneCell'] at h)
theorem VRL.oneL : ∀ {l l' : List Value}, VRL ρ l l' → oneL l = true → oneL l' = true
  | _, _, .nil, _ => rfl
  | _, _, .cons h hl, e => by
    simp only [Ev.oneL, Bool.and_eq_true] at e ⊢
    exact ⟨h.oneCell e.1, VRL.oneL hl e.2⟩
theorem turn_some {b : Nat} {o : Ob} {h' : Heap} (e : h.turn b o = some h') : gBase ≤ b ∧ h' = h.set b o := by
  unfold Heap.turn at e
  cases hb : Nat.ble gBase b with
  | false => simp [hb] at e
  | true => simp [hb] at e; exact ⟨Nat.le_of_ble_eq_true hb, e.symm⟩
theorem Lies.store {r : RB} {c : List Value} {n opn : Nat} {e : TypeId} {l m : List Value} {lo hi : Nat} (L : Lies ρ w r c n opn e l m lo hi) {p : Nat} {xs : List Value} (hp : p + xs.length ≤ l.length + m.length) (h1 : oneL xs = true) :
    (storeCells ⟨r.id, p, none⟩ xs).run P w = .ok () (w.setRow r.id ((l ++ m).take p ++ xs ++ (l ++ m).drop (p + xs.length)).toArray) := by
  have := run_storeCells_gen P r.id p e lo hi xs 0 ⟨l ++ m⟩ w L.heap (by simpa using hp) (by simpa using L.free) (oneL_all h1)
  simpa using this
theorem Lies.turn (hs : Sim ρ h w) {b : Nat} {r : RB} {c : List Value} {n opn : Nat} {e : TypeId} {l m : List Value} {lo hi : Nat} (L : Lies ρ w r c n opn e l m lo hi) (hb : h.get b = some (.cells c n opn e)) (hr : ρ b = some r) (hg : gBase ≤ b)
    {c2 l2 m2 : List Value} {n2 : Nat} (hv : VRL ρ c2 l2) (hn : n2 = c2.length) (hm : opn = 0 → m2 = []) (hlen : l2.length + m2.length = l.length + m.length) :
    Turn ρ h w ρ (h.set b (.cells c2 n2 opn e)) (w.setRow r.id (l2 ++ m2).toArray) :=
  Turn.write hs hb hr hg _ (.cells ⟨l2 ++ m2⟩ e (lo, hi)) _ (.cells hv hn hm L.k (by rw [L.size, hlen]) (by rw [hlen]; exact L.free)) rfl rfl rfl (setRow_size _ _ _) (setRow_heap w r.id _ _ e _ L.heap) (fun k hk => setRow_other w r.id k _ hk)
theorem Lies.write (hs : Sim ρ h w) {b : Nat} {r : RB} {c : List Value} {n opn : Nat} {e : TypeId} {l m : List Value} {lo hi : Nat} (L : Lies ρ w r c n opn e l m lo hi) (hb : h.get b = some (.cells c n opn e)) (hr : ρ b = some r)
    {p : Nat} {xs xs' c2 : List Value} (hx : VRL ρ xs xs') (ho : over xs p c = some c2) (h1 : oneL xs = true) {h' : Heap} (ht : h.turn b (.cells c2 n opn e) = some h') :
    ∃ w', (storeCells ⟨r.id, p, none⟩ xs').run P w = .ok () w' ∧ Turn ρ h w ρ h' w' := by
  obtain ⟨hle, rfl⟩ := over_some ho
  obtain ⟨hg, rfl⟩ := turn_some ht
  have hxl := hx.length
  have hcl := L.vr.length
  refine ⟨_, L.store (by omega) (hx.oneL h1), ?_⟩
  have hT := L.turn hs hb hr hg (c2 := c.take p ++ xs ++ c.drop (p + xs.length)) (l2 := l.take p ++ xs' ++ l.drop (p + xs.length)) (m2 := m) (n2 := n) (((L.vr.take p).append hx).append (L.vr.drop _)) (by rw [L.n]; simp; omega) L.shut (by simp; omega)
  have e1 : (l ++ m).take p ++ xs' ++ (l ++ m).drop (p + xs'.length) = l.take p ++ xs' ++ l.drop (p + xs.length) ++ m := by
    rw [List.take_append_of_le_length (by omega), hxl, List.drop_append_of_le_length (by omega)]
    simp
  rw [e1]; exact hT
theorem storeS_ok (hs : Sim ρ h w) (t : TypeId) {p p' v v' : Value} (hp : VR ρ p p') (hv : VR ρ v v') : USpec ρ h w (pu ((storeS P t).f p v h)) ((Instr.storeAt t p' v').run P w) := by
  cases e : (storeS P t).f p v h with
  | none => trivial
  | some h' =>
    unfold storeS at e
    cases hk : sizeT P t with
    | none => simp [hk] at e
    | some k =>
      simp only [hk] at e
      split at e
      · rename_i b off
        split at e
        · rename_i c n opn el hg
          cases hc : (Nat.beq (cellsOf v).length k && oneL (cellsOf v)) with
          | false => simp [hc] at e
          | true =>
            simp only [hc, cond_true] at e
            simp only [Bool.and_eq_true] at hc
            have hlen : (cellsOf v).length = k := Nat.eq_of_beq_eq_true hc.1
            split at e
            · rename_i c2 ho
              obtain ⟨r, hr, rfl⟩ := ptr_inv hp
              obtain ⟨l1, m, lo, hi, L⟩ := hs.cells hg hr
              obtain ⟨w', h1, h2⟩ := L.write (P := P) hs hg hr hv.cells ho hc.2 e
              refine ⟨ρ, w', ?_, h2⟩
              have hl' : (cellsOf v').length = k := by rw [hv.cells.length, hlen]
              simp [Instr.storeAt, Instr.sureAddr, storeVar, sizeT_run hk w, cells_eq, hl', h1]
            · cases e
        · cases e
      · cases e
theorem nthF_eq : ∀ (i : Nat) (l : List Field), nthF i l = l[i]?
  | _, [] => by simp [nthF]
  | 0, _ :: _ => rfl
  | i + 1, _ :: l => by simpa [nthF] using nthF_eq i l
theorem fieldAddr_ok (t : TypeId) (f : Nat) {x x' v : Value} (hx : VR ρ x x') (e : (fieldAddrS P t f).f x = some v) : ∃ v', (Instr.fieldAt t x' f).run P w = .ok v' w ∧ VR ρ v v' := by
  unfold fieldAddrS at e
  split at e
  · rename_i fs hu
    split at e
    · rename_i fd hf
      split at e
      · rename_i k hk
        simp only [] at e
        split at e
        · rename_i b off
          rw [fN_eq] at e
          cases e
          obtain ⟨r, hr, rfl⟩ := ptr_inv hx
          rw [nthF_eq, Array.getElem?_toList] at hf
          refine ⟨.pointer (some ⟨r.id, off + fd.offset, none⟩), ?_, .ptr _ hr⟩
          simp [Instr.fieldAt, underlying, hu, hf, Instr.sureAddr, fieldPlace, sizeT_run hk w, add_addr]
        · cases e
      · simp at e
    · simp at e
  · simp at e
theorem int_inv {k : IntKind} {n : Int} {v' : Value} (hv : VR ρ (.int k n) v') : v' = .int k n := by cases hv; rfl
theorem natOf_some {v : Value} {i : Nat} (e : natOf v = some i) : ∃ k, v = .int k (.ofNat i) := by
  unfold natOf at e
  split at e
  · cases e; exact ⟨_, rfl⟩
  · cases e
theorem slice_inv {b off len cap : Nat} {v' : Value} (hv : VR ρ (.slice (some ⟨b, off, none⟩) len cap) v') : ∃ r cap', ρ b = some r ∧ v' = .slice (some ⟨r.id, off, none⟩) len cap' ∧
    ((cap < many ∧ cap' = cap) ∨ (∃ c, cap = many + c ∧ c ≤ cap' ∧ off + cap' * r.k ≤ r.size)) := by
  cases hv with
  | slice off len cap h hc => exact ⟨_, _, h, rfl, .inl ⟨hc, rfl⟩⟩
  | sliceO off len c c' h hc hs => exact ⟨_, _, h, rfl, .inr ⟨c, rfl, hc, hs⟩⟩
theorem indexAddr_ok (t : TypeId) {x x' ix ix' v : Value} (hx : VR ρ x x') (hi : VR ρ ix ix') (e : (indexAddrS P t).f x ix = some v) : ∃ v', (Instr.indexAt t x' ix').run P w = .ok v' w ∧ VR ρ v v' := by
  unfold indexAddrS at e
  split at e
  · rename_i len el hu
    split at e
    · rename_i k hk
      simp only [] at e
      split at e
      · rename_i i hn
        obtain ⟨ki, rfl⟩ := natOf_some hn
        have := int_inv hi; subst this
        split at e
        · rename_i b off
          cases hb : Nat.blt i len with
          | false => simp [hb] at e
          | true =>
            simp only [hb, cond_true, fN_eq] at e
            cases e
            have hlt : i < len := by
              have : i + 1 ≤ len := by simpa [Nat.blt] using hb
              omega
            obtain ⟨r, hr, rfl⟩ := ptr_inv hx
            refine ⟨.pointer (some ⟨r.id, off + i * k, none⟩), ?_, .ptr _ hr⟩
            have h0 : (0 : Int) ≤ Int.ofNat i := Int.natCast_nonneg i
            have h1 : (Int.ofNat i) < (len : Int) := Int.ofNat_lt.2 hlt
            simp only [Instr.indexAt, asIntOf, Sem.run_bind, Sem.run_pure, Result.andThen_ok, und_run hu w, Instr.sureAddr, h0, h1, and_self, if_true, sizeT_run hk w, add_addr]
            simp
        · cases e
      · cases e
    · simp at e
  · rename_i el hu
    split at e
    · rename_i k hk
      simp only [] at e
      split at e
      · rename_i i hn
        obtain ⟨ki, rfl⟩ := natOf_some hn
        have := int_inv hi; subst this
        split at e
        · rename_i b off len cap
          cases hb : Nat.blt i len with
          | false => simp [hb] at e
          | true =>
            simp only [hb, cond_true, fN_eq] at e
            cases e
            have hlt : i < len := by
              have : i + 1 ≤ len := by simpa [Nat.blt] using hb
              omega
            obtain ⟨r, cap', hr, rfl, _⟩ := slice_inv hx
            refine ⟨.pointer (some ⟨r.id, off + i * k, none⟩), ?_, .ptr _ hr⟩
            have h0 : (0 : Int) ≤ Int.ofNat i := Int.natCast_nonneg i
            have h1 : (Int.ofNat i) < (len : Int) := Int.ofNat_lt.2 hlt
            simp only [Instr.indexAt, asIntOf, Sem.run_bind, Sem.run_pure, Result.andThen_ok, und_run hu w, h0, h1, and_self, if_true, sizeT_run hk w, add_addr]
            simp
        · cases e
      · cases e
    · simp at e
  · simp at e
theorem agg_inv {l : List Value} {v' : Value} (hv : VR ρ (.agg ⟨l⟩) v') : ∃ l', v' = .agg ⟨l'⟩ ∧ VRL ρ l l' := by cases hv with | agg h => exact ⟨_, rfl, h⟩
theorem tuple_inv {l : List Value} {v' : Value} (hv : VR ρ (.tuple ⟨l⟩) v') : ∃ l', v' = .tuple ⟨l'⟩ ∧ VRL ρ l l' := by cases hv with | tuple h => exact ⟨_, rfl, h⟩
theorem part_ok {t : TypeId} {c c' : List Value} {off : Nat} {v : Value} (hc : VRL ρ c c') (e : partS P t c off = some v) : ∃ v', (part t ⟨c'⟩ off).run P w = .ok v' w ∧ VR ρ v v' := by
  unfold partS at e
  split at e
  · rename_i ha
    split at e
    · rename_i k hk
      split at e
      · rename_i l hl
        cases e
        rw [drp_eq] at hl
        obtain ⟨hle, rfl⟩ := tk_some hl
        refine ⟨.agg ⟨(c'.drop off).take k⟩, ?_, .agg ((hc.drop off).take k)⟩
        have hex : (⟨c'⟩ : Array Value).extract off (off + k) = ⟨(c'.drop off).take k⟩ := by
          apply Array.ext'
          simp [List.extract_eq_take_drop]
        simp only [part, Sem.run_bind, aggT_run ha w, Result.andThen_ok, if_true, sizeT_run hk w, hex, Sem.run_pure]
      · cases e
    · cases e
  · rename_i ha
    split at e
    · rename_i v0 tl hl
      cases e
      rw [drp_eq] at hl
      have h0 : c[off]? = some v := by
        have := congrArg (fun x => x[0]?) hl
        simpa using this
      obtain ⟨v', h1, h2⟩ := hc.get off v h0
      refine ⟨v', ?_, h2⟩
      simp [part, aggT_run ha w, h1]
    · cases e
  · cases e
theorem field_ok (t : TypeId) (f : Nat) {x x' v : Value} (hx : VR ρ x x') (e : (fieldS P t f).f x = some v) : ∃ v', (Instr.field t x' f).run P w = .ok v' w ∧ VR ρ v v' := by
  unfold fieldS at e
  split at e
  · rename_i fs hu
    split at e
    · rename_i fd hf
      rw [nthF_eq, Array.getElem?_toList] at hf
      have key : ∀ c, x = .agg ⟨c⟩ → partS P fd.type c fd.offset = some v → ∃ v', (Instr.field t x' f).run P w = .ok v' w ∧ VR ρ v v' := fun c hc hp => by
        subst hc
        obtain ⟨c', rfl, hcc⟩ := agg_inv hx
        obtain ⟨v', h1, h2⟩ := part_ok (P := P) (w := w) hcc hp
        exact ⟨v', by simp [Instr.field, underlying, hu, hf, asAgg, h1], h2⟩
      split at e
      · rename_i ha
        split at e
        · rename_i k hk
          simp only [] at e
          split at e
          · rename_i c
            exact key c rfl (by unfold partS; simp only [ha, hk]; exact e)
          · cases e
        · simp at e
      · rename_i ha
        simp only [] at e
        split at e
        · rename_i c
          exact key c rfl (by unfold partS; simp only [ha]; exact e)
        · cases e
      · simp at e
    · simp at e
  · simp at e
theorem byte_get (l : List UInt8) (i : Nat) : (⟨⟨l⟩⟩ : ByteArray)[i]? = l[i]? := by
  by_cases hi : i < l.length
  · have h1 : i < (⟨⟨l⟩⟩ : ByteArray).size := hi
    rw [getElem?_pos _ i h1, List.getElem?_eq_getElem hi]; rfl
  · have h1 : ¬ i < (⟨⟨l⟩⟩ : ByteArray).size := hi
    rw [getElem?_neg _ i h1, List.getElem?_eq_none (by omega)]
theorem str_inv {s : ByteArray} {v' : Value} (hv : VR ρ (.string s) v') : v' = .string s := by cases hv; rfl
theorem index_ok (t : TypeId) {x x' ix ix' v : Value} (hx : VR ρ x x') (hi : VR ρ ix ix') (e : (indexS P t).f x ix = some v) : ∃ v', (Instr.index t x' ix').run P w = .ok v' w ∧ VR ρ v v' := by
  unfold indexS at e
  split at e
  · rename_i len el hu
    split at e
    · rename_i k hk
      simp only [] at e
      split at e
      · rename_i i hn
        obtain ⟨ki, rfl⟩ := natOf_some hn
        have := int_inv hi; subst this
        split at e
        · rename_i c
          cases hb : Nat.blt i len with
          | false => simp [hb] at e
          | true =>
            simp only [hb, cond_true] at e
            have hlt : i < len := by
              have : i + 1 ≤ len := by simpa [Nat.blt] using hb
              omega
            obtain ⟨c', rfl, hcc⟩ := agg_inv hx
            obtain ⟨v', h1, h2⟩ := part_ok (P := P) (w := w) hcc e
            refine ⟨v', ?_, h2⟩
            have h0 : (0 : Int) ≤ Int.ofNat i := Int.natCast_nonneg i
            have h3 : (Int.ofNat i) < (len : Int) := Int.ofNat_lt.2 hlt
            have h4 : (Int.ofNat i).toNat = i := rfl
            have h5 : (part el ⟨c'⟩ (i * k)).run P w = .ok v' w := h1
            simp only [Instr.index, asIntOf, Sem.run_bind, Sem.run_pure, Result.andThen_ok, und_run hu w, h0, h3, and_self, if_true, sizeT_run hk w, h4, h5]
        · cases e
      · cases e
    · simp at e
  · rename_i hu
    simp only [] at e
    split at e
    · rename_i i hn
      obtain ⟨ki, rfl⟩ := natOf_some hn
      have := int_inv hi; subst this
      split at e
      · rename_i l
        split at e
        · rename_i b tl hl
          rw [fN_eq] at e
          cases e
          have := str_inv hx; subst this
          rw [drp_eq] at hl
          have h0 : l[i]? = some b := by
            have := congrArg (fun x => x[0]?) hl
            simpa using this
          refine ⟨.int .u8 (.ofNat b.toNat), ?_, .int _ _⟩
          have h1 : (0 : Int) ≤ Int.ofNat i := Int.natCast_nonneg i
          have h4 : (Int.ofNat i).toNat = i := rfl
          simp only [Instr.index, asIntOf, Sem.run_bind, Sem.run_pure, Result.andThen_ok, und_run hu w, h1, if_true, h4, byte_get, h0]
          rfl
        · cases e
      · cases e
    · cases e
  · simp at e
theorem nth_eq : ∀ (i : Nat) (l : List Value), nth i l = l[i]?
  | _, [] => by simp [nth]
  | 0, _ :: _ => rfl
  | i + 1, _ :: l => by simpa [nth] using nth_eq i l
theorem extract_ok (hs : Sim ρ h w) {x x' : Value} (hx : VR ρ x x') (i : Nat) : VSpec ρ h w (extractS x i h) ((Instr.extract x' i).run P w) := by
  unfold extractS
  split
  · rename_i l
    obtain ⟨l', rfl, hl⟩ := tuple_inv hx
    refine .pv hs fun v hv => ?_
    rw [nth_eq] at hv
    obtain ⟨v', h1, h2⟩ := hl.get i v hv
    exact ⟨v', by simp [Instr.extract, h1], h2⟩
  · trivial
theorem iface_ok (hs : Sim ρ h w) (t : TypeId) {x x' : Value} (hx : VR ρ x x') : VSpec ρ h w (ifaceS P t x h) ((Instr.makeInterface t x').run P w) := by
  unfold ifaceS
  split
  · trivial
  · rename_i d hd hu
    refine .same hs ?_ (.iface t hx)
    unfold Instr.makeInterface
    simp only [Sem.run_bind, und_run hu w, Result.andThen_ok]
    cases d <;> first | rfl | exact absurd rfl (hd _)
  · trivial
theorem assert_ok (hs : Sim ρ h w) {x x' : Value} (hx : VR ρ x x') (xt t : TypeId) (ok : Bool) : VSpec ρ h w (assertS P x t ok h) ((Instr.typeAssert x' xt t ok).run P w) := by
  unfold assertS
  split
  · trivial
  · rename_i d dt v hd hu
    cases hx with
    | iface _ hv =>
      rename_i v'
      have hund := und_run hu w
      cases hb : Nat.beq dt t with
      | true =>
        have hdt : dt = t := Nat.eq_of_beq_eq_true hb
        simp only [cond_true]
        refine .same hs (v' := if ok then .tuple #[v', .bool true] else v') ?_ ?_
        · unfold Instr.typeAssert
          simp only [Sem.run_bind, hund, Result.andThen_ok]
          cases d <;> first | (simp [hdt]; done) | exact absurd rfl (hd _)
        · cases ok
          · exact hv
          · exact .tuple (.cons hv (.cons (.bool true) .nil))
      | false =>
        have hdt : ¬ dt = t := fun e => by rw [e] at hb; simp at hb
        simp only [cond_false]
        cases ok with
        | false => trivial
        | true =>
          simp only [cond_true]
          refine .ob fun z hz => ?_
          obtain ⟨h1, h2⟩ := zeroT_run hz w
          refine .same hs (v' := .tuple #[z, .bool false]) ?_ (.tuple (.cons (.of_flat h2) (.cons (.bool false) .nil)))
          unfold Instr.typeAssert
          simp only [Sem.run_bind, hund, Result.andThen_ok]
          cases d <;> first | (simp [hdt, h1]; done) | exact absurd rfl (hd _)
  · trivial
theorem nil_ok (hs : Sim ρ h w) {x x' : Value} (hx : VR ρ x x') {o : Oper} {y : Operand} {f : Operand → Value} (ho : o.op = .nilCheck y) (hy : f y = x') : OpSpec P ρ h w (nilS x h) ((execOp f o).run P w) := by
  unfold nilS
  cases hx <;> simp only [] <;> first
    | trivial
    | (rename_i hh; exact ⟨ρ, _, w, by simp [execOp, ho, hy], .refl hs, .ptr _ hh⟩)
    | (rename_i h1 h2; exact ⟨ρ, _, w, by simp [execOp, ho, hy], .refl hs, .func _ h1 h2⟩)
    | (rename_i hh; exact ⟨ρ, _, w, by simp [execOp, ho, hy], .refl hs, .yield hh⟩)
    | (rename_i hh; exact ⟨ρ, _, w, by simp [execOp, ho, hy], .refl hs, .iface _ hh⟩)
    | exact ⟨ρ, .map none, w, by simp [execOp, ho, hy], .refl hs, .map0⟩
    | (rename_i hh; exact ⟨ρ, _, w, by simp [execOp, ho, hy], .refl hs, .map hh⟩)
theorem wrap_small (k : IntKind) (c : Nat) (hc : c < topOf k) : k.wrap (Int.ofNat c) = Int.ofNat c := by
  have hlt : (Int.ofNat c : Int) < topOf k := Int.ofNat_lt.2 hc
  have h0 : (0 : Int) ≤ Int.ofNat c := Int.natCast_nonneg c
  generalize Int.ofNat c = z at *
  have h2 : z % (2 ^ k.bits : Int) = z := Int.emod_eq_of_lt h0 (by cases k <;> simp only [topOf] at hlt <;> simp only [IntKind.bits] <;> omega)
  unfold IntKind.wrap
  simp only [h2]
  rw [if_neg]
  cases k <;> simp only [topOf] at hlt <;> simp only [IntKind.bits, IntKind.signed, Bool.true_and, Bool.false_and, decide_eq_true_eq, ge_iff_le, Bool.false_eq_true, not_false_eq_true] <;> omega
theorem kindEq_eq {a b : IntKind} (h : kindEq a b = true) : a = b := by cases a <;> cases b <;> simp [kindEq] at h <;> rfl
theorem okI_some {k : IntKind} {c : Nat} {v : Value} (e : okI k c = some v) : v = .int k (.ofNat c) ∧ c < topOf k := by
  unfold okI at e
  rw [fN_eq, cb_eq] at e
  by_cases hb : Nat.ble (Nat.succ c) (topOf k) = true
  · rw [if_pos hb] at e
    cases e
    have := Nat.le_of_ble_eq_true hb
    exact ⟨rfl, by omega⟩
  · rw [if_neg hb] at e; cases e
theorem natK_some {v : Value} {f : IntKind → Nat → Option Value} {u : Value} (e : natK v f = some u) : ∃ k n, v = .int k (.ofNat n) ∧ f k n = some u := by
  unfold natK at e
  split at e
  · exact ⟨_, _, rfl, e⟩
  · cases e
theorem guard_int (op : BinOp) (t : TypeId) (x y : Operand) (k k' : IntKind) (a b : Int) : (eqGuard op t x y (.int k a) (.int k' b)).run P w = .ok () w := by
  unfold eqGuard
  cases op <;> simp
theorem fast_ok {op : BinOp} {a b v : Value} (e : fast op a b = some v) (t : TypeId) (x y : Operand) : (do eqGuard op t x y a b; binOp op t a b : Sem Value).run P w = .ok v w ∧ flat a = true ∧ flat b = true ∧ flat v = true := by
  unfold fast at e
  obtain ⟨k, n, rfl, e1⟩ := natK_some e
  obtain ⟨k', m, rfl, e2⟩ := natK_some e1
  clear e e1
  have e := e2
  clear e2
  rw [cb_eq] at e
  by_cases hk : kindEq k k' = true
  · rw [if_pos hk] at e
    have := kindEq_eq hk; subst this
    simp only [Sem.run_bind, guard_int, Result.andThen_ok]
    cases op <;> simp only [fastI] at e
    case add =>
      obtain ⟨rfl, hlt⟩ := okI_some e
      refine ⟨?_, rfl, rfl, rfl⟩
      have := wrap_small k _ hlt
      simp only [binOp, ne_eq, not_true_eq_false, if_false, Op.intArith, Sem.run_pure]
      rw [show (Int.ofNat n + Int.ofNat m : Int) = Int.ofNat (Nat.add n m) from rfl, this]
    case sub =>
      rw [cb_eq] at e
      by_cases hb : Nat.ble m n = true
      · rw [if_pos hb] at e
        obtain ⟨rfl, hlt⟩ := okI_some e
        have hle := Nat.le_of_ble_eq_true hb
        refine ⟨?_, rfl, rfl, rfl⟩
        have := wrap_small k _ hlt
        simp only [binOp, ne_eq, not_true_eq_false, if_false, Op.intArith, Sem.run_pure]
        rw [show (Int.ofNat n - Int.ofNat m : Int) = Int.ofNat (Nat.sub n m) from (Int.ofNat_sub hle).symm, this]
      · rw [if_neg hb] at e; cases e
    case mul =>
      obtain ⟨rfl, hlt⟩ := okI_some e
      refine ⟨?_, rfl, rfl, rfl⟩
      have := wrap_small k _ hlt
      simp only [binOp, ne_eq, not_true_eq_false, if_false, Op.intArith, Sem.run_pure]
      rw [show (Int.ofNat n * Int.ofNat m : Int) = Int.ofNat (Nat.mul n m) from rfl, this]
    case quo =>
      rw [cb_eq] at e
      by_cases hb : Nat.beq m 0 = true
      · rw [if_pos hb] at e; cases e
      · rw [if_neg hb] at e
        obtain ⟨rfl, hlt⟩ := okI_some e
        have hm : ¬ (Int.ofNat m = 0) := fun h => hb (by have : m = 0 := Int.ofNat.inj h; rw [this]; rfl)
        refine ⟨?_, rfl, rfl, rfl⟩
        have := wrap_small k _ hlt
        simp only [binOp, ne_eq, not_true_eq_false, if_false, Op.intDiv, hm, Sem.run_pure]
        rw [show ((Int.ofNat n).tdiv (Int.ofNat m) : Int) = Int.ofNat (Nat.div n m) from rfl, this]
    case rem =>
      rw [cb_eq] at e
      by_cases hb : Nat.beq m 0 = true
      · rw [if_pos hb] at e; cases e
      · rw [if_neg hb] at e
        obtain ⟨rfl, hlt⟩ := okI_some e
        have hm : ¬ (Int.ofNat m = 0) := fun h => hb (by have : m = 0 := Int.ofNat.inj h; rw [this]; rfl)
        refine ⟨?_, rfl, rfl, rfl⟩
        simp only [binOp, ne_eq, not_true_eq_false, if_false, Op.intDiv, hm, Sem.run_pure]
        rfl
    case eql =>
      cases e
      refine ⟨?_, rfl, rfl, rfl⟩
      simp only [binOp, ne_eq, not_true_eq_false, if_false, Op.intCmp, Sem.run_pure]
      congr 2
      rw [Bool.eq_iff_iff]; simp; omega
    case neq =>
      cases e
      refine ⟨?_, rfl, rfl, rfl⟩
      simp only [binOp, ne_eq, not_true_eq_false, if_false, Op.intCmp, Sem.run_pure, cb_eq]
      congr 2
      rw [Bool.eq_iff_iff]; simp; omega
    case lss =>
      cases e
      refine ⟨?_, rfl, rfl, rfl⟩
      simp only [binOp, ne_eq, not_true_eq_false, if_false, Op.intCmp, Sem.run_pure]
      congr 2
      rw [Bool.eq_iff_iff]; simp; omega
    case leq =>
      cases e
      refine ⟨?_, rfl, rfl, rfl⟩
      simp only [binOp, ne_eq, not_true_eq_false, if_false, Op.intCmp, Sem.run_pure]
      congr 2
      rw [Bool.eq_iff_iff]; simp
    case gtr =>
      cases e
      refine ⟨?_, rfl, rfl, rfl⟩
      simp only [binOp, ne_eq, not_true_eq_false, if_false, Op.intCmp, Sem.run_pure]
      congr 2
      rw [Bool.eq_iff_iff]; simp; omega
    case geq =>
      cases e
      refine ⟨?_, rfl, rfl, rfl⟩
      simp only [binOp, ne_eq, not_true_eq_false, if_false, Op.intCmp, Sem.run_pure]
      congr 2
      rw [Bool.eq_iff_iff]; simp
    all_goals cases e
  · rw [if_neg hk] at e; cases e
theorem eqS_ok (t : TypeId) {a a' b b' : Value} (ha : VR ρ a a') (hb : VR ρ b b') {r : Bool} (e : eqS P t a b = some r) :
    (Op.equal t a' b').run P w = .ok r w ∧ ∀ (op : BinOp) (x y : Operand), (eqGuard op t x y a' b').run P w = .ok () w := by
  have one : ((Op.equalIn (9999 + 1) t a' b').run P w = .ok r w) → (Op.equal t a' b').run P w = .ok r w := fun h => h
  unfold eqS at e
  split at e
  · rename_i d hu
    have hund := und_run hu w
    unfold eqK at e
    split at e
    · cases e; cases ha; cases hb
      refine ⟨one ?_, fun op x y => by unfold eqGuard; cases op <;> rfl⟩
      unfold Op.equalIn; simp only [Sem.run_bind, hund, Result.andThen_ok]; rfl
    · cases e; cases ha; cases hb
      refine ⟨one ?_, fun op x y => by unfold eqGuard; cases op <;> rfl⟩
      unfold Op.equalIn; simp only [Sem.run_bind, hund, Result.andThen_ok]; rfl
    · rename_i el u o v p
      split at e
      · rename_i k hk
        cases hab : Nat.beq u v with
        | false => simp [hab] at e
        | true =>
          simp only [hab, cond_true, Option.some.injEq] at e
          have huv := Nat.eq_of_beq_eq_true hab
          subst huv
          obtain ⟨r1, h1, rfl⟩ := ptr_inv ha
          obtain ⟨r2, h2, rfl⟩ := ptr_inv hb
          rw [h1] at h2; cases h2
          refine ⟨one ?_, fun op x y => by unfold eqGuard; cases op <;> rfl⟩
          unfold Op.equalIn; simp only [Sem.run_bind, hund, Result.andThen_ok, sizeT_run hk w]
          simp [sameAddr, ← e]
          rw [Bool.eq_iff_iff]; simp
      · cases e
    · cases e; cases ha; cases hb <;>
      (refine ⟨one ?_, fun op x y => by unfold eqGuard; cases op <;> rfl⟩
       unfold Op.equalIn; simp only [Sem.run_bind, hund, Result.andThen_ok]; rfl)
    · cases e; cases hb; cases ha <;>
      (refine ⟨one ?_, fun op x y => by unfold eqGuard; cases op <;> rfl⟩
       unfold Op.equalIn; simp only [Sem.run_bind, hund, Result.andThen_ok]; rfl)
    all_goals first
      | (cases e; cases ha <;> cases hb <;>
         (refine ⟨one ?_, fun op x y => by unfold eqGuard; cases op <;> rfl⟩
          unfold Op.equalIn; simp only [Sem.run_bind, hund, Result.andThen_ok]; rfl))
      | cases e
  · cases e
theorem bin_ok (hs : Sim ρ h w) (op : BinOp) (t : TypeId) (x y : Operand) {a a' b b' : Value} (ha : VR ρ a a') (hb : VR ρ b b') :
    VSpec ρ h w (binS P op t x y a b h) ((do eqGuard op t x y a' b'; binOp op t a' b' : Sem Value).run P w) := by
  unfold binS
  cases e : fast op a b with
  | some v =>
    obtain ⟨h1, h2, h3, h4⟩ := fast_ok (P := P) (w := w) e t x y
    have := ha.flat h2; subst this
    have := hb.flat h3; subst this
    exact .same hs h1 (.of_flat h4)
  | none =>
    simp only []
    unfold slowBin
    cases hf : (flat a && flat b) with
    | true =>
      simp only [Bool.and_eq_true] at hf
      have := ha.flat hf.1; subst this
      have := hb.flat hf.2; subst this
      exact .pvf hs fun v hv => pureP_run _ hv
    | false =>
      simp only [cond_false]
      split
      · refine .ob fun r hr => ?_
        obtain ⟨h1, h2⟩ := eqS_ok (P := P) (w := w) t ha hb hr
        refine .same hs ?_ (.bool r)
        have h3 : binOp .eql t a' b' = (do pure (.bool (← Op.equal t a' b')) : Sem Value) := by
          cases ha <;> cases hb <;> first | rfl | (simp [flat] at hf)
        simp [h2, h3, h1]
      · refine .ob fun r hr => ?_
        obtain ⟨h1, h2⟩ := eqS_ok (P := P) (w := w) t ha hb hr
        refine .same hs ?_ (.bool (!r))
        have h3 : binOp .neq t a' b' = (do pure (.bool (!(← Op.equal t a' b'))) : Sem Value) := by
          cases ha <;> cases hb <;> first | rfl | (simp [flat] at hf)
        simp [h2, h3, h1]
      · trivial
theorem un_ok (hs : Sim ρ h w) (op : UnOp) {a a' : Value} (ha : VR ρ a a') : VSpec ρ h w (bif flat a then pvf h (pureP P (Op.unary op a)) else .fail) ((Op.unary op a').run P w) := by
  cases hf : flat a with
  | false => trivial
  | true =>
    have := ha.flat hf; subst this
    exact .pvf hs fun v hv => pureP_run _ hv
theorem func_ok (hs : Sim ρ h w) (fn : Fn) {a a' b b' : List Value} (ha : VRL ρ a a') (hb : VRL ρ b b') :
    VSpec ρ h w (match fn with | .func _ => .val (.func fn ⟨a⟩ ⟨b⟩) h | _ => .fail) ((Instr.makeFunc fn ⟨a'⟩ ⟨b'⟩).run P w) := by
  cases fn with
  | func f => exact .same hs rfl (.func f ha hb)
  | _ => trivial
theorem map_new (hs : Sim ρ h w) {r : Result Value} (hr : r = .ok (.map (some w.heap.size)) { w with heap := w.heap.push (.map #[] 0) }) : VSpec ρ h w (newB h (.map [] 0) fun b h => .val (.map (some b)) h) r :=
  newBlock hs 0 0 _ _ (.map 0 .nil) fun ρ' h1 h2 => ⟨ρ', _, _, hr, h2, .map h1⟩
theorem makeMap_ok (hs : Sim ρ h w) (t : TypeId) {x : Option Value} {x' : Option Value} (hx : (x = none ∧ x' = none) ∨ ∃ v v', x = some v ∧ x' = some v' ∧ VR ρ v v') : VSpec ρ h w (makeMapS P t x h) ((Instr.makeMap t x').run P w) := by
  rcases hx with ⟨rfl, rfl⟩ | ⟨v, v', rfl, rfl, hv⟩
  · exact map_new hs (by simp [Instr.makeMap])
  · unfold makeMapS
    split
    · rename_i e; cases e
    · rename_i k n e
      cases e
      have := int_inv hv; subst this
      split
      · rename_i d1 d2 hu
        exact map_new hs (by simp [Instr.makeMap, underlying, hu, asInt, asIntOf])
      · trivial
    · trivial
theorem bound_ok {x x' : Option Value} {d n : Nat} (hx : (x = none ∧ x' = none) ∨ ∃ v v', x = some v ∧ x' = some v' ∧ VR ρ v v') (e : bound x d = some n) :
    (x' = none ∧ n = d) ∨ ∃ k, x' = some (.int k (.ofNat n)) := by
  unfold bound at e
  rcases hx with ⟨rfl, rfl⟩ | ⟨v, v', rfl, rfl, hv⟩
  · cases e; exact .inl ⟨rfl, rfl⟩
  · obtain ⟨k, rfl⟩ := natOf_some e
    have := int_inv hv; subst this
    exact .inr ⟨k, rfl⟩
theorem sliceBound_ok (k : IntKind) (i y : Nat) (c : BoundsCode) (hi : i ≤ y) : (Instr.sliceBound (.int k (.ofNat i)) y c).run P w = .ok i w := by
  have h0 : (0 : Int) ≤ Int.ofNat i := Int.natCast_nonneg i
  have h1 : (Int.ofNat i) ≤ (y : Int) := Int.ofNat_le.2 hi
  simp only [Instr.sliceBound, asIntOf, Sem.run_bind, Sem.run_pure, Result.andThen_ok, h0, h1, and_self, if_true]
  rfl
theorem sliceBound_ok' (k : IntKind) (i y : Nat) (c : BoundsCode) (hi : i ≤ y) : (Instr.sliceBound (.int k (i : Int)) y c).run P w = .ok i w := sliceBound_ok k i y c hi
theorem bounds_ok (isS : Bool) {len cap l hh m : Nat} {lo' hi' mx' : Option Value}
    (hl : (lo' = none ∧ l = 0) ∨ ∃ k, lo' = some (.int k (.ofNat l))) (hh' : (hi' = none ∧ hh = len) ∨ ∃ k, hi' = some (.int k (.ofNat hh))) (hm : (mx' = none ∧ m = cap) ∨ ∃ k, mx' = some (.int k (.ofNat m)))
    (h1 : l ≤ hh) (h2 : hh ≤ m) (h3 : m ≤ cap) (h4 : mx' ≠ none → hi' ≠ none) : (Instr.sliceBounds isS len cap lo' hi' mx').run P w = .ok (l, hh, m) w := by
  unfold Instr.sliceBounds
  rcases hm with ⟨rfl, rfl⟩ | ⟨km, rfl⟩
  · rcases hh' with ⟨rfl, rfl⟩ | ⟨kh, rfl⟩ <;> rcases hl with ⟨rfl, rfl⟩ | ⟨kl, rfl⟩ <;>
      simp [sliceBound_ok', h1, h2]
  · rcases hh' with ⟨rfl, rfl⟩ | ⟨kh, rfl⟩
    · exact absurd rfl (h4 (by simp))
    · rcases hl with ⟨rfl, rfl⟩ | ⟨kl, rfl⟩ <;> simp [sliceBound_ok', h1, h2, h3]
end
end Go.Ev
