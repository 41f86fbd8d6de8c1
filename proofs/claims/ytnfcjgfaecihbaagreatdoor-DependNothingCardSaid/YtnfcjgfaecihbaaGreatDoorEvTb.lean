/- EvTb: a table of known calls. -/
import Derived.Test.YtnfcjgfaecihbaaGreatDoorEvV
import Derived.Test.YtnfcjgfaecihbaaGreatDoorEvZb
set_option linter.unusedVariables false
set_option linter.unusedSimpArgs false
set_option linter.unusedSectionVars false
set_option linter.constructorNameAsVariable false
namespace Go.Ev
open Go
noncomputable section
mutual
def inV (d : Nat → Bool) : Value → Bool
  | .pointer (some ⟨b, _, none⟩) => d b
  | .slice (some ⟨b, _, none⟩) _ _ => d b
  | .map (some b) => d b
  | .iface _ v => inV d v
  | .agg ⟨l⟩ => inL d l
  | .tuple ⟨l⟩ => inL d l
  | .func (.func _) ⟨l⟩ ⟨m⟩ => inL d l && inL d m
  | v => flat v
def inL (d : Nat → Bool) : List Value → Bool
  | [] => true
  | v :: l => inV d v && inL d l
end
def inE (d : Nat → Bool) : List MapEntry → Bool
  | [] => true
  | e :: l => inV d e.key && inV d e.val && inE d l
def inO (d : Nat → Bool) : Ob → Bool
  | .cells c _ _ _ => inL d c
  | .map es _ => inE d es
  | .ro c => inL d c
  | _ => false
section
variable {d : Nat → Bool} {ρ ρ' : Ren} (hd : ∀ b r, d b = true → ρ b = some r → ρ' b = some r)
include hd
mutual
theorem VR.swap : ∀ {v v' : Value}, VR ρ v v' → inV d v = true → VR ρ' v v'
  | _, _, .bool b, _ => .bool b
  | _, _, .int k n, _ => .int k n
  | _, _, .float k n, _ => .float k n
  | _, _, .complex k n m, _ => .complex k n m
  | _, _, .string s, _ => .string s
  | _, _, .ptr0, _ => .ptr0
  | _, _, .ptr off h, f => .ptr off (hd _ _ (by simpa [inV] using f) h)
  | _, _, .slice0 n m, _ => .slice0 n m
  | _, _, .slice off len cap h hc, f => .slice off len cap (hd _ _ (by simpa [inV] using f) h) hc
  | _, _, .sliceO off len c c' h hc hs, f => .sliceO off len c c' (hd _ _ (by simpa [inV] using f) h) hc hs
  | _, _, .map0, _ => .map0
  | _, _, .map h, f => .map (hd _ _ (by simpa [inV] using f) h)
  | _, _, .chan0, _ => .chan0
  | _, _, .func g h h', f => by
    simp only [inV, Bool.and_eq_true] at f
    exact .func g (VRL.swap h f.1) (VRL.swap h' f.2)
  | _, _, .yield h, f => by simp [inV, flat] at f
  | _, _, .nilFunc, _ => .nilFunc
  | _, _, .iface t h, f => .iface t (VR.swap h (by simpa [inV] using f))
  | _, _, .nilIface, _ => .nilIface
  | _, _, .agg h, f => .agg (VRL.swap h (by simpa [inV] using f))
  | _, _, .tuple h, f => .tuple (VRL.swap h (by simpa [inV] using f))
theorem VRL.swap : ∀ {l l' : List Value}, VRL ρ l l' → inL d l = true → VRL ρ' l l'
  | _, _, .nil, _ => .nil
  | _, _, .cons h hl, f => by
    simp only [inL, Bool.and_eq_true] at f
    exact .cons (VR.swap h f.1) (VRL.swap hl f.2)
end
theorem ER.swap {l l' : List MapEntry} (h : ER ρ l l') : inE d l = true → ER ρ' l l' := by
  induction h with
  | nil => exact fun _ => .nil
  | cons hk hv _ ih =>
    intro f
    simp only [inE, Bool.and_eq_true] at f
    exact .cons (hk.swap hd f.1.1) (hv.swap hd f.1.2) (ih f.2)
theorem ObR.swap {r : RB} {o : Ob} {o' : Obj} (h : ObR ρ r o o') (f : inO d o = true) : ObR ρ' r o o' := by
  cases h with
  | cells h hn ho hk hs hf => exact .cells (h.swap hd f) hn ho hk hs hf
  | map clock h => exact .map clock (h.swap hd f)
  | ro h => exact .ro (h.swap hd f)
  | _ => cases f
end
def ofPairs (l : List (Nat × Ob)) : T Ob := @List.rec (Nat × Ob) (fun _ => T Ob) .e (fun x _ ih => T.putP (some x.2) (pth x.1) ih) l
def heapOf (n : Nat) (l : List (Nat × Ob)) : Heap := ⟨n, nat_lit 0, ofPairs l⟩
theorem ofPairs_mem : ∀ {l : List (Nat × Ob)} {b : Nat} {o : Ob}, (ofPairs l).get b = some o → (b, o) ∈ l
  | [], b, o, h => by cases h
  | x :: l, b, o, h => by
    have h : (T.putP (some x.2) (pth x.1) (ofPairs l)).get b = some o := h
    rw [T.get_put] at h
    by_cases e : b = x.1
    · rw [if_pos e] at h; cases h; rw [e]; simp
    · rw [if_neg e] at h; exact List.mem_cons_of_mem _ (ofPairs_mem h)
def eqE : List MapEntry → List MapEntry → Bool
  | [], [] => true
  | a :: l, b :: m => eqV a.key b.key && eqV a.val b.val && Nat.beq a.born b.born && eqE l m
  | _, _ => false
theorem eqE_eq : ∀ {l m : List MapEntry}, eqE l m = true → l = m
  | [], [], _ => rfl
  | [], _ :: _, h => by cases h
  | _ :: _, [], h => by cases h
  | ⟨k, v, n⟩ :: l, ⟨k', v', n'⟩ :: m, h => by
    simp only [eqE, Bool.and_eq_true] at h
    rw [eqE_eq h.2, eqV_eq h.1.1.1, eqV_eq h.1.1.2, Nat.eq_of_beq_eq_true h.1.2]
def eqO : Ob → Ob → Bool
  | .cells c n k e, .cells c' n' k' e' => eqL c c' && Nat.beq n n' && Nat.beq k k' && Nat.beq e e'
  | .map es n, .map es' n' => eqE es es' && Nat.beq n n'
  | _, _ => false
theorem eqO_eq {a b : Ob} (h : eqO a b = true) : a = b := by
  cases a <;> cases b <;> simp only [eqO, Bool.and_eq_true] at h <;> first
    | (rw [eqL_eq h.1.1.1, Nat.eq_of_beq_eq_true h.1.1.2, Nat.eq_of_beq_eq_true h.1.2, Nat.eq_of_beq_eq_true h.2])
    | (rw [eqE_eq h.1, Nat.eq_of_beq_eq_true h.2])
    | (exact absurd h Bool.false_ne_true)
def subB (h : Heap) (l : List (Nat × Ob)) : Bool := @List.rec (Nat × Ob) (fun _ => Bool) true (fun x _ ih => match h.get x.1 with
  | some o => cb (eqO o x.2) ih false
  | none => false) l
theorem subB_get {h : Heap} : ∀ {l : List (Nat × Ob)}, subB h l = true → ∀ x ∈ l, h.get x.1 = some x.2
  | [], _, x, hx => by simp at hx
  | y :: l, hb, x, hx => by
    have hb : (match h.get y.1 with | some o => cb (eqO o y.2) (subB h l) false | none => false) = true := hb
    cases hg : h.get y.1 with
    | none => rw [hg] at hb; cases hb
    | some o =>
      rw [hg] at hb
      simp only at hb
      rw [cb_eq] at hb
      by_cases he : eqO o y.2 = true
      · rw [if_pos he] at hb
        rcases List.mem_cons.1 hx with rfl | hx
        · rw [hg, eqO_eq he]
        · exact subB_get hb x hx
      · rw [if_neg he] at hb; cases hb
def allV (v : Value) (fr : List (Nat × Ob)) (x : CR) : Bool := @CR.rec (fun _ => Bool) false (fun u h => cb (eqV u v) (subB h fr) false) (fun _ _ a b => cb a b false) x
theorem allV_all {v : Value} {fr : List (Nat × Ob)} : ∀ {x : CR}, allV v fr x = true → x.All fun u h => u = v ∧ ∀ y ∈ fr, h.get y.1 = some y.2
  | .no, h => by cases h
  | .yes u h', h => by
    have h : cb (eqV u v) (subB h' fr) false = true := h
    rw [cb_eq] at h
    by_cases ha : eqV u v = true
    · rw [if_pos ha] at h; exact ⟨eqV_eq ha, subB_get h⟩
    · rw [if_neg ha] at h; cases h
  | .both a b, h => by
    have h : cb (allV v fr a) (allV v fr b) false = true := h
    rw [cb_eq] at h
    by_cases ha : allV v fr a = true
    · rw [if_pos ha] at h; exact ⟨allV_all ha, allV_all h⟩
    · rw [if_neg ha] at h; cases h
def Entry (P : Program) (g0 : Heap) (f : FuncId) (fr : List (Nat × Ob)) (args : List Value) (v : Value) : Prop :=
  ∀ (ρ : Ren) (h : Heap) (w : World) (args' : List Value), Sim ρ h w → Globs g0 h → (∀ x ∈ fr, h.get x.1 = some x.2) → VRL ρ args args' →
    CallsIn (fw none) 0 P f ⟨args'⟩ w (fun e w' => ∃ v', e = .returned v' ∧ VR ρ v v' ∧ Turn ρ h w ρ h w')
structure En where
  fr : List (Nat × Ob)
  a : List Value
  v : Value
abbrev Tab := T (List En)
def findA (args : List Value) (h : Heap) (l : List En) : Option Value :=
  @List.rec En (fun _ => Option Value) none (fun x _ ih => cb (eqL args x.a) (cb (subB h x.fr) (some x.v) ih) ih) l
def orcT (t : Tab) : Orc := fun f args h => match t.getP (pth f) with
  | none => none
  | some l => findA args h l
def addE (t : Tab) (f : FuncId) (e : En) : Tab := T.putP (some (e :: (match t.getP (pth f) with | none => [] | some l => l))) (pth f) t
section
variable {P : Program} {g0 : Heap}
theorem orcT_e : OrcOK (Globs g0) P (orcT .e) := fun f args h v e => by cases e
theorem OrcOK.add {t : Tab} {f : FuncId} {e : En} (h : OrcOK (Globs g0) P (orcT t)) (he : Entry P g0 f e.fr e.a e.v) : OrcOK (Globs g0) P (orcT (addE t f e)) := by
  intro f' args hp v' ho
  have hget : (addE t f e).getP (pth f') = if f' = f then some (e :: (match t.getP (pth f) with | none => [] | some l => l)) else t.getP (pth f') := T.get_put _ t f f'
  have ho' : (match (addE t f e).getP (pth f') with | none => none | some l => findA args hp l) = some v' := ho
  rw [hget] at ho'
  by_cases hf : f' = f
  · subst hf
    rw [if_pos rfl] at ho'
    have ho' : cb (eqL args e.a) (cb (subB hp e.fr) (some e.v) (findA args hp (match t.getP (pth f') with | none => [] | some l => l))) (findA args hp (match t.getP (pth f') with | none => [] | some l => l)) = some v' := ho'
    have hold : findA args hp (match t.getP (pth f') with | none => [] | some l => l) = some v' → orcT t f' args hp = some v' := fun ho' => by
      show (match t.getP (pth f') with | none => none | some l => findA args hp l) = some v'
      cases hg : t.getP (pth f') with
      | none => rw [hg] at ho'; cases ho'
      | some l => rw [hg] at ho'; exact ho'
    rw [cb_eq] at ho'
    by_cases hq : eqL args e.a = true
    · rw [if_pos hq, cb_eq] at ho'
      by_cases hs : subB hp e.fr = true
      · rw [if_pos hs] at ho'
        cases ho'
        rw [eqL_eq hq]
        exact fun ρ w args' hsim hG ha => he ρ hp w args' hsim hG (subB_get hs) ha
      · rw [if_neg hs] at ho'
        exact h f' args hp v' (hold ho')
    · rw [if_neg hq] at ho'
      exact h f' args hp v' (hold ho')
  · rw [if_neg hf] at ho'
    exact h f' args hp v' ho'
def okE (gl : List (Nat × Ob)) (n : Nat) (e : En) : Bool :=
  let d : Nat → Bool := fun b => match (ofPairs (e.fr ++ gl)).getP (pth b) with | some _ => true | none => false
  Nat.ble gBase n && gl.all (fun x => Nat.blt x.1 gBase && inO d x.2) && e.fr.all (fun x => Nat.ble gBase x.1 && Nat.blt x.1 n && inO d x.2) && inL d e.a && inV d e.v
theorem Entry.of {gl : List (Nat × Ob)} {t : Tab} {n m : Nat} {f : FuncId} {e : En} (ho : OrcOK (Globs (heapOf gBase gl)) P (orcT t)) (hc : okE gl n e = true)
    (hx : allV e.v e.fr (callR P (run P (orcT t) (drawS P (orcT t)) m) f e.a (heapOf n (e.fr ++ gl))) = true) : Entry P (heapOf gBase gl) f e.fr e.a e.v := by
  intro ρ h w args' hs hG hfr ha
  simp only [okE, Bool.and_eq_true, List.all_eq_true] at hc
  obtain ⟨⟨⟨⟨hn, hgl⟩, hfe⟩, hina⟩, hinv⟩ := hc
  have hn : gBase ≤ n := Nat.le_of_ble_eq_true hn
  generalize hH : heapOf n (e.fr ++ gl) = hp at hx
  have hmem : ∀ b o, hp.get b = some o → (b, o) ∈ e.fr ∨ (b, o) ∈ gl := fun b o hb => by
    subst hH
    exact List.mem_append.1 (ofPairs_mem hb)
  have hglow : ∀ b, b < gBase → hp.get b = (heapOf gBase gl).get b := fun b hb => by
    subst hH
    have key : ∀ l : List (Nat × Ob), (∀ x ∈ l, gBase ≤ x.1) → (ofPairs (l ++ gl)).get b = (ofPairs gl).get b := by
      intro l
      induction l with
      | nil => intro _; rfl
      | cons x l ih =>
        intro hl
        have : (ofPairs (x :: l ++ gl)).get b = (T.putP (some x.2) (pth x.1) (ofPairs (l ++ gl))).get b := rfl
        rw [this, T.get_put, if_neg (by have := hl x (by simp); omega)]
        exact ih fun y hy => hl y (by simp [hy])
    exact key e.fr fun x hx => Nat.le_of_ble_eq_true (hfe x hx).1.1
  have hsub : ∀ b o, hp.get b = some o → h.get b = some o := fun b o hb => by
    rcases Nat.lt_or_ge b gBase with hlt | hge
    · rw [hG b hlt, ← hglow b hlt]; exact hb
    · rcases hmem b o hb with h1 | h1
      · exact hfr _ h1
      · have := Nat.le_of_ble_eq_true (hgl _ h1).1
        simp only at this; omega
  have hnx : hp.next = n ∧ hp.rs = 0 := by subst hH; exact ⟨rfl, rfl⟩
  have hlt : ∀ b o, hp.get b = some o → b < n := fun b o hb => by
    rcases hmem b o hb with h1 | h1
    · exact Nat.le_of_ble_eq_true (hfe _ h1).1.2
    · have := Nat.le_of_ble_eq_true (hgl _ h1).1
      simp only at this; omega
  have hclosed : ∀ b o, hp.get b = some o → inO (fun b => match hp.get b with | some _ => true | none => false) o = true := fun b o hb => by
    have h1 := hmem b o hb
    subst hH
    rcases h1 with h1 | h1
    · exact (hfe _ h1).2
    · exact (hgl _ h1).2
  have hina : inL (fun b => match hp.get b with | some _ => true | none => false) e.a = true := by subst hH; exact hina
  have hinv : inV (fun b => match hp.get b with | some _ => true | none => false) e.v = true := by subst hH; exact hinv
  have hgl1 : ∀ b o, (b, o) ∈ gl → b < gBase := fun b o hb => Nat.le_of_ble_eq_true (hgl _ hb).1
  clear hfe hgl hH
  have hd1 : ∀ b r, (match hp.get b with | some _ => true | none => false) = true → ρ b = some r → (fun b => match hp.get b with | some _ => ρ b | none => none) b = some r := fun b r h1 h2 => by
    cases hg : hp.get b with
    | none => rw [hg] at h1; cases h1
    | some o => simp only [hg]; exact h2
  generalize hρ : (fun b => match hp.get b with | some _ => ρ b | none => none : Ren) = ρ1 at hd1
  have hρ1 : ∀ b r, ρ1 b = some r → ρ b = some r ∧ ∃ o, hp.get b = some o := fun b r hb => by
    subst hρ
    simp only at hb
    cases hg : hp.get b with
    | none => rw [hg] at hb; cases hb
    | some o => rw [hg] at hb; exact ⟨hb, o, rfl⟩
  have hs1 : Sim ρ1 hp w := by
    refine ⟨fun b o hb => ?_, fun b b' o o' r r' h1 h2 h3 h4 h5 => hs.inj b b' o o' r r' (hsub _ _ h1) (hsub _ _ h2) (hρ1 _ _ h3).1 (hρ1 _ _ h4).1 h5, fun b hb => ?_, fun b r hb hr => hs.glob b r hb (hρ1 _ _ hr).1, by rw [hnx.1]; exact hn, fun hr => absurd hnx.2 hr⟩
    · obtain ⟨r, o', k1, k2, k3⟩ := hs.obj b o (hsub b o hb)
      exact ⟨r, o', hd1 b r (by rw [hb]) k1, k2, k3.swap hd1 (hclosed b o hb)⟩
    · cases hr : ρ1 b with
      | none => rfl
      | some r =>
        obtain ⟨_, o, ho⟩ := hρ1 b r hr
        have := hlt b o ho
        rw [hnx.1] at hb; omega
  refine run_call (n := m) (globs_keep (heapOf gBase gl)) ho (drawS_ok (globs_keep (heapOf gBase gl)) ho) hs1 (fun b hb => hglow b hb) (ha.swap hd1 hina) (CR.All.mono ?_ (allV_all hx))
  rintro u h' ⟨rfl, hkeep⟩ ρ' w' v' hT hv
  have hback : ∀ b r, (match hp.get b with | some _ => true | none => false) = true → ρ' b = some r → ρ b = some r := fun b r h1 h2 => by
    cases hg : hp.get b with
    | none => rw [hg] at h1; cases h1
    | some o =>
      obtain ⟨r1, _, k1, _⟩ := hs1.obj b o hg
      have := hT.agree _ _ k1
      rw [h2] at this; cases this
      exact (hρ1 _ _ k1).1
  refine ⟨v', rfl, hv.swap hback hinv, ⟨fun _ _ h => h, Nat.le_refl _, ⟨fun b o hb => ?_, hs.inj, hs.fresh, hs.glob, hs.low, hs.res⟩, hT.os, hT.tape, hT.output, hT.size, fun _ _ => rfl, fun k hk hne => ?_, fun b o r hb h1 hr => .inr ⟨b, o, r, hb, h1, hr, rfl⟩, .inr rfl, fun _ _ _ _ h => h⟩⟩
  · obtain ⟨r, o', k1, k2, k3⟩ := hs.obj b o hb
    cases hg : hp.get b with
    | some o2 =>
      have := hsub b o2 hg
      rw [hb] at this; cases this
      have hg' : h'.get b = some o := by
        rcases Nat.lt_or_ge b gBase with hl | hge
        · rw [hT.keep b hl]; exact hg
        · rcases hmem b o hg with h1 | h1
          · exact hkeep _ h1
          · have := hgl1 b o h1
            omega
      obtain ⟨r1, o1', m1, m2, m3⟩ := hT.sim.obj b o hg'
      have := hback b r1 (by rw [hg]) m1
      rw [k1] at this; cases this
      exact ⟨r, o1', k1, m2, m3.swap hback (hclosed b o hg)⟩
    | none =>
      refine ⟨r, o', k1, (hT.frame r.id (Array.getElem?_eq_some_iff.1 k2).1 fun b1 o1 r1 _ g2 g3 e => ?_).trans k2, k3⟩
      have := hs.inj b1 b o1 o r1 r (hsub _ _ g2) hb (hρ1 _ _ g3).1 k1 e
      subst this
      rw [hg] at g2; cases g2
  · exact hT.frame k hk fun b o r g1 g2 g3 => hne b o r g1 (hsub _ _ g2) (hρ1 _ _ g3).1
end
end
end Go.Ev
