/- EvA: an evaluator of closed calls: what a call computes, up to the names of the blocks that it makes. The definitions. -/
import Derived.WalkKit
set_option linter.unusedVariables false
set_option linter.unusedSimpArgs false
set_option linter.unusedSectionVars false
set_option linter.constructorNameAsVariable false
namespace Go.Ev
open Go
noncomputable section
inductive T (α : Type) where
  | e
  | n (l : T α) (v : Option α) (r : T α)
inductive Pth where
  | o
  | l (p : Pth)
  | r (p : Pth)
def cb {α : Type} (b : Bool) (x y : α) : α := @Bool.rec (fun _ => α) y x b
def pthF (f : Nat) : Nat → Pth := @Nat.rec (fun _ => Nat → Pth) (fun _ => .o) (fun _ ih i =>
  cb (Nat.beq i (nat_lit 0)) .o (cb (Nat.beq (Nat.mod i (nat_lit 2)) (nat_lit 1)) (.l (ih (Nat.div i (nat_lit 2)))) (.r (ih (Nat.sub (Nat.div i (nat_lit 2)) (nat_lit 1)))))) f
def pth (i : Nat) : Pth := pthF i i
def T.getP {α : Type} (t : T α) : Pth → Option α :=
  @T.rec α (fun _ => Pth → Option α) (fun _ => none) (fun _ v _ gl gr p => @Pth.casesOn (fun _ => Option α) p v gl gr) t
def T.get {α : Type} (t : T α) (i : Nat) : Option α := t.getP (pth i)
def T.putP {α : Type} (x : Option α) (p : Pth) : T α → T α :=
  @Pth.rec (fun _ => T α → T α) (fun t => @T.casesOn α (fun _ => T α) t (.n .e x .e) (fun l _ r => .n l x r))
    (fun _ ih t => @T.casesOn α (fun _ => T α) t (.n (ih .e) none .e) (fun l v r => .n (ih l) v r))
    (fun _ ih t => @T.casesOn α (fun _ => T α) t (.n .e none (ih .e)) (fun l v r => .n l v (ih r))) p
def fN {α : Type} (n : Nat) (K : Nat → α) : α := @Nat.rec (fun _ => α) (K (nat_lit 0)) (fun m _ => K (Nat.succ m)) n
def fL {α β : Type} (l : List β) : (List β → α) → α := @List.rec β (fun _ => (List β → α) → α) (fun K => K []) (fun x _ ih K => ih fun t => K (x :: t)) l
def drp {β : Type} (n : Nat) : List β → List β := @Nat.rec (fun _ => List β → List β) (fun l => l) (fun _ ih l => @List.casesOn β (fun _ => List β) l [] (fun _ l => ih l)) n
def tk {β : Type} (n : Nat) : List β → Option (List β) := @Nat.rec (fun _ => List β → Option (List β)) (fun _ => some []) (fun _ ih l => @List.casesOn β (fun _ => Option (List β)) l none (fun v l => @Option.casesOn (List β) (fun _ => Option (List β)) (ih l) none (fun r => some (v :: r)))) n
def T.set {α : Type} (t : T α) (i : Nat) (x : α) : T α := T.putP (some x) (pth i) t
def T.del {α : Type} (t : T α) (i : Nat) : T α := T.putP none (pth i) t
def T.ofList {α : Type} : Nat → List α → T α → T α
  | _, [], t => t
  | i, x :: l, t => T.ofList (i + 1) l (t.set i x)
abbrev Slots := T Value
structure SLoop where
  state : LoopState
  pending : Option Code
  fn : FuncId
  tmps : Slots
  ntmps : Nat
  params : List Tmp
  assign : Code
  body : Code
  defers : Nat
inductive Ob where
  | cells (c : List Value) (n : Nat) (opn : Nat) (elem : TypeId)
  | map (es : List MapEntry) (clock : Nat)
  | sIter (s : List UInt8) (pos : Nat)
  | mIter (m : Option Nat) (since : Nat) (seen : List Nat) (stepped : Nat)
  | loop (l : SLoop)
  | dfr (left : Bool)
  | ro (c : List Value)
def gBase : Nat := nat_lit 32
structure Heap where
  next : Nat
  rs : Nat
  t : T Ob
def Heap.get (h : Heap) (b : Nat) : Option Ob := h.t.getP (pth b)
def Heap.set (h : Heap) (b : Nat) (o : Ob) : Heap := @Heap.casesOn (fun _ => Heap) h fun n r t => ⟨n, r, T.putP (some o) (pth b) t⟩
def Heap.del (h : Heap) (b : Nat) : Heap := @Heap.casesOn (fun _ => Heap) h fun n r t => ⟨n, r, T.putP none (pth b) t⟩
def Heap.nx (h : Heap) : Nat := cb (Nat.beq h.rs (nat_lit 0)) h.next h.rs
def Heap.new (h : Heap) (o : Ob) : Heap := ⟨cb (Nat.beq h.rs (nat_lit 0)) (Nat.succ h.next) h.next, nat_lit 0, T.putP (some o) (pth h.nx) h.t⟩
def Heap.at (h : Heap) (b : Nat) : Heap := @Heap.casesOn (fun _ => Heap) h fun n _ t => ⟨n, b, t⟩
mutual
def flat : Value → Bool
  | .bool _ | .int .. | .float .. | .complex .. | .string _ | .nilFunc | .nilIface | .pointer none | .map none | .slice none _ _ | .chan none => true
  | .iface _ v => flat v
  | .agg ⟨l⟩ => flatL l
  | .tuple ⟨l⟩ => flatL l
  | .func (.func _) ⟨l⟩ ⟨m⟩ => flatL l && flatL m
  | _ => false
def flatL : List Value → Bool
  | [] => true
  | v :: l => flat v && flatL l
end
def pureP {α : Type} (P : Program) : Sem α → Option α
  | .pure a => some a
  | .program k => pureP P (k P)
  | .mark _ k => pureP P k
  | _ => none
inductive OR where
  | fail
  | val (v : Value) (h : Heap)
  | skip (h : Heap)
  | call (f : FuncId) (args : List Value) (h : Heap)
  | yld (l : Nat) (args : List Value) (h : Heap)
  | both (x y : OR)
def ob {α : Type} (x : Option α) (f : α → OR) : OR := @Option.rec α (fun _ => OR) .fail f x
def newB (h : Heap) (o : Ob) (k : Nat → Heap → OR) : OR :=
  @Heap.casesOn (fun _ => OR) h fun n r t => cb (Nat.beq r (nat_lit 0)) (fN n fun b => fN (Nat.succ b) fun n => k b ⟨n, nat_lit 0, T.putP (some o) (pth b) t⟩) (fN r fun b => k b ⟨n, nat_lit 0, T.putP (some o) (pth b) t⟩)
def many : Nat := 1180591620717411303424
structure VB where
  f : Slots → Heap → Option Value
def opd (x : Operand) : VB :=
  match x with
  | .tmp t => ⟨fun s _ => s.getP (pth t)⟩
  | .const v => bif flat v then ⟨fun _ _ => some v⟩ else ⟨fun _ _ => none⟩
  | .global g => ⟨fun _ h => bif Nat.ble (Nat.succ g) gBase then match h.get g with
      | some _ => some (.pointer (some ⟨g, 0, none⟩))
      | none => none
    else none⟩
  | .func f => ⟨fun _ _ => some (.func (.func f) #[] #[])⟩
def o1 (x : Operand) (s : Slots) (h : Heap) (k : Value → OR) : OR := ob ((opd x).f s h) k
def o2 (x y : Operand) (s : Slots) (h : Heap) (k : Value → Value → OR) : OR := o1 x s h fun a => o1 y s h fun b => k a b
def oL : List Operand → Slots → Heap → (List Value → OR) → OR
  | [], _, _, k => k []
  | x :: l, s, h, k => o1 x s h fun v => oL l s h fun vs => k (v :: vs)
def oo (x : Option Operand) (s : Slots) (h : Heap) (k : Option Value → OR) : OR := match x with
  | none => k none
  | some x => o1 x s h fun v => k (some v)
def oP : List (Nat × Operand) → Slots → Heap → (List (Nat × Value) → OR) → OR
  | [], _, _, k => k []
  | x :: l, s, h, k => o1 x.2 s h fun v => oP l s h fun vs => k ((x.1, v) :: vs)
def pv (h : Heap) (x : Option Value) : OR := ob x fun v => .val v h
def pvf (h : Heap) (x : Option Value) : OR := ob x fun v => bif flat v then .val v h else .fail
def pu (x : Option Heap) : OR := ob x .skip
def aggT (P : Program) (t : TypeId) : Option Bool :=
  match P.underlying t with
  | some (.struct _) | some (.array _ _) => some true
  | some _ => some false
  | none => none
def sizeT (P : Program) (t : TypeId) : Option Nat := match P.info? t with | some i => some i.size | none => none
def zeroT (P : Program) (t : TypeId) : Option Value := match P.info? t with
  | some i => match i.zero with | some z => bif flat z then some z else none | none => none
  | none => none
def cellsOf : Value → List Value
  | .agg ⟨l⟩ => l
  | v => [v]
def over (xs : List Value) : Nat → List Value → Option (List Value)
  | 0, l => ovr xs l
  | n + 1, l => match l with
    | [] => none
    | v :: l => match over xs n l with | some r => some (v :: r) | none => none
where ovr : List Value → List Value → Option (List Value)
  | [], l => some l
  | x :: xs, l => match l with
    | [] => none
    | _ :: l => match ovr xs l with | some r => some (x :: r) | none => none
def oneL : List Value → Bool
  | [] => true
  | v :: l => v.oneCell' && oneL l
structure LB where
  f : Value → Heap → Option Value
def loadS (P : Program) (t : TypeId) : LB :=
  match aggT P t with
  | some true => match sizeT P t with
    | some k => ⟨fun a h => match a with
      | .pointer (some ⟨b, off, none⟩) => match h.get b with
        | some (.cells c _ _ _) => match tk k (drp off c) with
          | some l => some (.agg ⟨l⟩)
          | none => none
        | _ => none
      | _ => none⟩
    | none => ⟨fun _ _ => none⟩
  | some false => ⟨fun a h => match a with
    | .pointer (some ⟨b, off, none⟩) => match h.get b with
      | some (.cells c _ _ _) => match drp off c with
        | v :: _ => some v
        | [] => none
      | some (.ro c) => match drp off c with
        | v :: _ => some v
        | [] => none
      | _ => none
    | _ => none⟩
  | none => ⟨fun _ _ => none⟩
def Heap.turn (h : Heap) (b : Nat) (o : Ob) : Option Heap := bif Nat.ble gBase b then some (h.set b o) else none
structure SB where
  f : Value → Value → Heap → Option Heap
def storeS (P : Program) (t : TypeId) : SB :=
  match sizeT P t with
  | some k => ⟨fun a v h => match a with
    | .pointer (some ⟨b, off, none⟩) => match h.get b with
      | some (.cells c n opn e) => bif Nat.beq (cellsOf v).length k && oneL (cellsOf v) then match over (cellsOf v) off c with
          | some c' => h.turn b (.cells c' n opn e)
          | none => none
        else none
      | _ => none
    | _ => none⟩
  | none => ⟨fun _ _ _ => none⟩
def fillS (place : Nat → Option (Nat × Nat)) (c : List Value) : List (Nat × Value) → Option (List Value)
  | [] => some c
  | (i, v) :: rest => match place i with
    | none => none
    | some (off, size) => let l := cellsOf v
      bif Nat.beq l.length size then match over l off c with
        | some c' => fillS place c' rest
        | none => none
      else none
def repeatL (z : List Value) : Nat → List Value
  | 0 => []
  | n + 1 => z ++ repeatL z n
def nthF : Nat → List Field → Option Field
  | _, [] => none
  | 0, f :: _ => some f
  | n + 1, _ :: l => nthF n l
def placesL (P : Program) : List Field → Option (List (Nat × Nat))
  | [] => some []
  | f :: l => match sizeT P f.type with
    | some k => match placesL P l with | some r => some ((f.offset, k) :: r) | none => none
    | none => none
def nthP : Nat → List (Nat × Nat) → Option (Nat × Nat)
  | _, [] => none
  | 0, p :: _ => some p
  | n + 1, _ :: l => nthP n l
structure PB where
  f : List (Nat × Value) → Option Value
def aggO (x : Option (List Value)) : Option Value := match x with | some c => some (.agg ⟨c⟩) | none => none
def buildS (P : Program) (t : TypeId) : PB :=
  match zeroT P t with
  | none => ⟨fun _ => none⟩
  | some z => match P.underlying t with
    | some (.struct fs) => match placesL P fs.toList with
      | some pl => ⟨fun ps => aggO (fillS (fun i => nthP i pl) (cellsOf z) ps)⟩
      | none => ⟨fun _ => none⟩
    | some (.array _ e) => match sizeT P e with
      | some k => ⟨fun ps => aggO (fillS (fun i => some (Nat.mul i k, k)) (cellsOf z) ps)⟩
      | none => ⟨fun _ => none⟩
    | _ => ⟨fun _ => none⟩
def zcells (P : Program) (e : TypeId) : Option (Nat × List Value) :=
  match sizeT P e, zeroT P e with
  | some k, some z => bif Nat.beq (cellsOf z).length k then some (k, cellsOf z) else none
  | _, _ => none
def bytesT (P : Program) (t : TypeId) : Option Nat := match P.info? t with | some i => some i.bytes | none => none
def newCells (h : Heap) (c : List Value) (e : TypeId) : OR := fN c.length fun n => newB h (.cells c n 0 e) fun b h => .val (.pointer (some ⟨b, nat_lit 0, none⟩)) h
structure AB where
  f : Heap → OR
def allocS (P : Program) (t : TypeId) : AB :=
  match zeroT P t with
  | some z => ⟨fun h => newCells h (cellsOf z) t⟩
  | none => ⟨fun _ => .fail⟩
def buildSliceS (P : Program) (t : TypeId) (len : Nat) (ps : List (Nat × Value)) (h : Heap) : OR :=
  match P.underlying t with
  | some (.slice e) => match zcells P e with
    | some (k, z) => bif Nat.ble (Nat.mul len k) 16777216 && Nat.ble len 16777216 then
        ob (fillS (fun i => some (Nat.mul i k, k)) (repeatL z len) ps) fun c => fN c.length fun n => newB h (.cells c n 0 e) fun b h => .val (.slice (some ⟨b, nat_lit 0, none⟩) len len) h
      else .fail
    | none => .fail
  | _ => .fail
def partS (P : Program) (t : TypeId) (c : List Value) (off : Nat) : Option Value :=
  match aggT P t with
  | some true => match sizeT P t with
    | some k => match tk k (drp off c) with | some l => some (.agg ⟨l⟩) | none => none
    | none => none
  | some false => match drp off c with | v :: _ => some v | [] => none
  | none => none
def natOf : Value → Option Nat
  | .int _ (.ofNat n) => some n
  | _ => none
structure IB where
  f : Value → Value → Option Value
def indexAddrS (P : Program) (t : TypeId) : IB :=
  match P.underlying t with
  | some (.array len e) => match sizeT P e with
    | some k => ⟨fun x ix => match natOf ix with
      | some i => match x with
        | .pointer (some ⟨b, off, none⟩) => bif Nat.blt i len then fN (Nat.add off (Nat.mul i k)) fun o => some (.pointer (some ⟨b, o, none⟩)) else none
        | _ => none
      | none => none⟩
    | none => ⟨fun _ _ => none⟩
  | some (.slice e) => match sizeT P e with
    | some k => ⟨fun x ix => match natOf ix with
      | some i => match x with
        | .slice (some ⟨b, off, none⟩) len _ => bif Nat.blt i len then fN (Nat.add off (Nat.mul i k)) fun o => some (.pointer (some ⟨b, o, none⟩)) else none
        | _ => none
      | none => none⟩
    | none => ⟨fun _ _ => none⟩
  | _ => ⟨fun _ _ => none⟩
structure UB where
  f : Value → Option Value
def fieldAddrS (P : Program) (t : TypeId) (f : Nat) : UB :=
  match P.underlying t with
  | some (.struct fs) => match nthF f fs.toList with
    | some f => match sizeT P f.type with
      | some (Nat.succ _) => ⟨fun x => match x with
        | .pointer (some ⟨b, off, none⟩) => fN (Nat.add off f.offset) fun o => some (.pointer (some ⟨b, o, none⟩))
        | _ => none⟩
      | _ => ⟨fun _ => none⟩
    | none => ⟨fun _ => none⟩
  | _ => ⟨fun _ => none⟩
def fieldS (P : Program) (t : TypeId) (f : Nat) : UB :=
  match P.underlying t with
  | some (.struct fs) => match nthF f fs.toList with
    | some f => match aggT P f.type with
      | some true => match sizeT P f.type with
        | some k => ⟨fun x => match x with
          | .agg ⟨c⟩ => match tk k (drp f.offset c) with | some l => some (.agg ⟨l⟩) | none => none
          | _ => none⟩
        | none => ⟨fun _ => none⟩
      | some false => ⟨fun x => match x with
        | .agg ⟨c⟩ => match drp f.offset c with | v :: _ => some v | [] => none
        | _ => none⟩
      | none => ⟨fun _ => none⟩
    | none => ⟨fun _ => none⟩
  | _ => ⟨fun _ => none⟩
def indexS (P : Program) (t : TypeId) : IB :=
  match P.underlying t with
  | some (.array len e) => match sizeT P e with
    | some k => ⟨fun x ix => match natOf ix with
      | some i => match x with
        | .agg ⟨c⟩ => bif Nat.blt i len then partS P e c (Nat.mul i k) else none
        | _ => none
      | none => none⟩
    | none => ⟨fun _ _ => none⟩
  | some .string => ⟨fun x ix => match natOf ix with
    | some i => match x with
      | .string ⟨⟨l⟩⟩ => match drp i l with
        | b :: _ => fN b.toNat fun n => some (.int .u8 (.ofNat n))
        | [] => none
      | _ => none
    | none => none⟩
  | _ => ⟨fun _ _ => none⟩
def bound (x : Option Value) (d : Nat) : Option Nat := match x with | none => some d | some v => natOf v
def bnds (lo hi mx : Option Value) (len cap : Nat) (K : Nat → Nat → Nat → Option Value) : Option Value :=
  match bound lo 0, bound hi len, bound mx cap with
  | some l, some h, some m => bif Nat.ble l h && Nat.ble h m && Nat.ble m cap && (mx.isNone || hi.isSome) then K l h m else none
  | _, _, _ => none
def mkSlice (b off l h m k : Nat) : Option Value :=
  fN (bif Nat.beq m l then off else Nat.add off (Nat.mul l k)) fun o => fN (Nat.sub h l) fun n => fN (Nat.sub m l) fun c => some (.slice (some ⟨b, o, none⟩) n c)
def opnS (h : Heap) (b k : Nat) : Bool := match h.get b with
  | some (.cells _ _ o _) => Nat.beq o (Nat.succ k)
  | _ => false
def openSlice (hp : Heap) (b off cap l h k : Nat) : Option Value :=
  bif Nat.beq l 0 then some (.slice (some ⟨b, off, none⟩) h cap)
  else bif Nat.blt l (Nat.sub cap many) && opnS hp b k then fN (Nat.add off (Nat.mul l k)) fun o => fN (Nat.sub h l) fun n => fN (Nat.sub cap l) fun c => some (.slice (some ⟨b, o, none⟩) n c)
  else none
def sliceS (P : Program) (t : TypeId) (x : Value) (lo hi mx : Option Value) (hp : Heap) : Option Value :=
  match P.underlying t with
  | some .string => match x with
    | .string ⟨⟨l⟩⟩ => match mx with
      | none => bnds lo hi none l.length l.length fun a b _ => fL ((l.drop a).take (Nat.sub b a)) fun r => some (.string ⟨⟨r⟩⟩)
      | some _ => none
    | _ => none
  | some (.slice e) => match sizeT P e with
    | some k => match x with
      | .slice none 0 0 => bnds lo hi mx 0 0 fun _ _ _ => some (.slice none 0 0)
      | .slice (some ⟨b, off, none⟩) len cap =>
        bif Nat.ble many cap then
          match mx with
          | none => bnds lo hi none len (Nat.sub cap many) fun l h _ => openSlice hp b off cap l h k
          | some _ => none
        else bnds lo hi mx len cap fun l h m => mkSlice b off l h m k
      | _ => none
    | none => none
  | some (.array n e) => match sizeT P e with
    | some k => match x with
      | .pointer (some ⟨b, off, none⟩) => bif Nat.ble many n then none else bnds lo hi mx n n fun l h m => mkSlice b off l h m k
      | _ => none
    | none => none
  | _ => none
def eqK (P : Program) (d : TypeDesc) (x y : Value) : Option Bool :=
  match d, x, y with
  | .pointer _, .pointer none, .pointer (some _) => some false
  | .pointer _, .pointer (some _), .pointer none => some false
  | .pointer e, .pointer (some ⟨a, o, none⟩), .pointer (some ⟨b, p, none⟩) => match sizeT P e with
    | some (Nat.succ _) => bif Nat.beq a b then some (Nat.beq o p) else none
    | _ => none
  | .slice _, .slice none _ _, .slice (some _) _ _ => some false
  | .slice _, .slice (some _) _ _, .slice none _ _ => some false
  | .map _ _, .map none, .map (some _) => some false
  | .map _ _, .map (some _), .map none => some false
  | .func _ _ _, .nilFunc, .func _ _ _ => some false
  | .func _ _ _, .func _ _ _, .nilFunc => some false
  | .interface _, .nilIface, .iface _ _ => some false
  | .interface _, .iface _ _, .nilIface => some false
  | _, _, _ => none
def eqS (P : Program) (t : TypeId) (x y : Value) : Option Bool := match P.underlying t with
  | some d => eqK P d x y
  | none => none
def flatK : List MapEntry → Bool
  | [] => true
  | e :: es => flat e.key && flatK es
def findS (P : Program) (t : TypeId) (k : Value) (es : List MapEntry) (empty : Bool) : Option (Option (Nat × Value)) :=
  bif flat k && flatK es then match pureP P (Instr.checkKey empty 10000 t k) with
    | some _ => pureP P (Instr.findKey t k es)
    | none => none
  else none
def esOf (h : Heap) (x : Value) : Option (List MapEntry) := match x with
  | .map none => some []
  | .map (some r) => match h.get r with | some (.map es _) => some es | _ => none
  | _ => none
def foundS (P : Program) (el : TypeId) (ok : Bool) (r : Option (Nat × Value)) : Option Value := match r with
  | some (_, v) => some (if ok then .tuple ⟨[v, .bool true]⟩ else v)
  | none => match zeroT P el with | some z => some (if ok then .tuple ⟨[z, .bool false]⟩ else z) | none => none
def lookupS (P : Program) (t : TypeId) (x ix : Value) (ok : Bool) (h : Heap) : Option Value :=
  match P.underlying t with
  | some (.map kt e) => match esOf h x with
    | some es => match findS P kt ix es es.isEmpty with
      | some r => foundS P e ok r
      | none => none
    | none => none
  | _ => none
def stays : Nat → Value → List MapEntry → Bool
  | _, _, [] => false
  | 0, k, e :: _ => Instr.sameBits 10000 e.key k
  | i + 1, k, _ :: es => stays i k es
def setE (i : Nat) (f : MapEntry → MapEntry) : List MapEntry → List MapEntry
  | [] => []
  | e :: es => match i with | 0 => f e :: es | i + 1 => e :: setE i f es
def updateS (P : Program) (t : TypeId) (m k v : Value) (h : Heap) : Option Heap :=
  match P.underlying t, m with
  | some (.map kt _), .map (some r) => match h.get r with
    | some (.map es clock) => match findS P kt k es false with
      | some (some (i, _)) => bif stays i k es then h.turn r (.map (setE i (fun e => { e with key := k, val := v }) es) clock) else none
      | some none => h.turn r (.map (es ++ [{ key := k, val := v, born := clock }]) (Nat.succ clock))
      | none => none
    | _ => none
  | _, _ => none
def bornAt : Nat → List MapEntry → Nat
  | _, [] => 0
  | 0, e :: _ => e.born
  | n + 1, _ :: es => bornAt n es
def entryS (P : Program) (t : TypeId) (m k : Value) (h : Heap) : OR :=
  match P.underlying t, m with
  | some (.map kt e), .map (some r) => match h.get r with
    | some (.map es clock) => match findS P kt k es false with
      | some (some (i, v)) => bif stays i k es then ob (h.turn r (.map (setE i (fun e => { e with key := k }) es) clock)) (.val (.tuple ⟨[v, .int .i64 (.ofNat (bornAt i es))]⟩)) else .fail
      | some none => match zeroT P e with
        | some z => ob (h.turn r (.map (es ++ [{ key := k, val := z, born := clock }]) (Nat.succ clock))) (.val (.tuple ⟨[z, .int .i64 (.ofNat clock)]⟩))
        | none => .fail
      | none => .fail
    | _ => .fail
  | _, _ => .fail
def findBorn (b : Nat) : List MapEntry → Nat → Option Nat
  | [], _ => none
  | e :: es, i => bif Nat.beq e.born b then some i else findBorn b es (Nat.succ i)
def entryStoreS (m st v : Value) (h : Heap) : Option Heap :=
  match m, natOf st with
  | .map (some r), some b => match h.get r with
    | some (.map es clock) => match findBorn b es 0 with
      | some i => h.turn r (.map (setE i (fun e => { e with val := v }) es) clock)
      | none => none
    | _ => none
  | _, _ => none
def firstS (k n : Nat) (x : Value) (h : Heap) : Option (List Value) :=
  match x with
  | .slice none _ _ => some []
  | .slice (some ⟨b, off, none⟩) _ _ => match h.get b with
    | some (.cells c _ _ _) => tk (Nat.mul n k) (drp off c)
    | _ => none
  | .string ⟨⟨l⟩⟩ => some ((l.take n).map fun b => .int .u8 (.ofNat b.toNat))
  | _ => none
def lenS : Value → Option Nat
  | .slice _ n _ => some n
  | .string ⟨⟨l⟩⟩ => some l.length
  | _ => none
def newS (P : Program) (k : Nat) (z : List Value) (xT : Option TypeId) (x : Value) (h : Heap) : Option (Nat × List Value) :=
  match xT with
  | none => none
  | some t => match P.underlying t with
    | none => none
    | some (.int _) => match x with
      | .int .i64 (.ofNat n) => bif Nat.ble n 1000000 then some (n, repeatL z n) else none
      | _ => none
    | some _ => match lenS x with
      | some n => match firstS k n x h with
        | some l => bif Nat.beq l.length (Nat.mul n k) then some (n, l) else none
        | none => none
      | none => none
def newOpen (h : Heap) (n k : Nat) (c : List Value) (e : TypeId) : OR :=
  fN (Nat.succ k) fun o => fN c.length fun m => fN (Nat.add many n) fun cap => newB h (.cells c m o e) fun b h => .val (.slice (some ⟨b, nat_lit 0, none⟩) n cap) h
def appendNew (h : Heap) (opn : Bool) (base : Option Addr) (k need : Nat) (c : List Value) (e : TypeId) : OR :=
  bif opn then
    match base with
    | some ⟨b, 0, none⟩ => match h.get b with
      | some (.cells _ _ o el) => bif Nat.beq o (Nat.succ k) && Nat.ble gBase b && Nat.beq el e && oneL c then
          newOpen (h.del b) need k c e
        else .fail
      | _ => .fail
    | _ => .fail
  else newOpen h need k c e
def appendIn (h : Heap) (opn : Bool) (base : Option Addr) (k len need cap : Nat) (new : List Value) : OR :=
  match base with
  | some ⟨b, off, none⟩ => match h.get b with
    | some (.cells c m o el) => bif oneL new then match over new (Nat.add off (Nat.mul len k)) c with
      | some c' => ob (h.turn b (.cells c' m o el)) (.val (.slice (some ⟨b, off, none⟩) need cap))
      | none => bif opn && Nat.beq o (Nat.succ k) then match tk (Nat.add off (Nat.mul len k)) c with
          | some c0 => ob (h.turn b (.cells (c0 ++ new) (c0 ++ new).length o el)) (.val (.slice (some ⟨b, off, none⟩) need cap))
          | none => .fail
        else .fail
      else .fail
    | _ => .fail
  | _ => .fail
def appendV (h : Heap) (k n : Nat) (new : List Value) (e : TypeId) (s : Value) : OR :=
  match s with
  | .slice none 0 0 => bif Nat.beq n 0 then .val (.slice none 0 0) h else bif Nat.ble n 1000000 then newOpen h n k new e else .fail
  | .slice (some a) len cap => fN (Nat.add len n) fun need =>
    bif Nat.ble need (bif Nat.ble many cap then Nat.sub cap many else cap) then appendIn h (Nat.ble many cap) (some a) k len need cap new
    else bif Nat.ble need 1000000 then match firstS k len s h with
      | some old => fL (old ++ new) fun c => appendNew h (Nat.ble many cap) (some a) k need c e
      | none => .fail
    else .fail
  | _ => .fail
def appendS (P : Program) (sT : TypeId) (xT : Option TypeId) (s x : Value) (h : Heap) : OR :=
  match P.underlying sT with
  | some (.slice e) => match zcells P e, bytesT P e with
    | some (k, z), some by_ => bif Nat.ble by_ 1000000 && Nat.ble 1 by_ then match newS P k z xT x h with
        | some (n, new) => appendV h k n new e s
        | none => .fail
      else .fail
    | _, _ => .fail
  | _ => .fail
def copyS (P : Program) (dT : TypeId) (d x : Value) (h : Heap) : OR :=
  match P.underlying dT, d with
  | some (.slice e), .slice base dl _ => match sizeT P e, lenS x with
    | some k, some n0 => fN (bif Nat.ble n0 dl then n0 else dl) fun n =>
      match firstS k n x h with
      | none => .fail
      | some l => bif oneL l then match base with
        | none => .val (.int .i64 (.ofNat n)) h
        | some ⟨b, off, none⟩ => match h.get b with
          | some (.cells c m o el) => match over l off c with
            | some c' => ob (h.turn b (.cells c' m o el)) (.val (.int .i64 (.ofNat n)))
            | none => .fail
          | _ => .fail
        | _ => .fail
        else .fail
    | _, _ => .fail
  | _, _ => .fail
def lenB (P : Program) (t : TypeId) (x : Value) (h : Heap) : Option Value :=
  match P.underlying t, x with
  | some .string, .string ⟨⟨l⟩⟩ => fN l.length fun n => some (.int .i64 (.ofNat n))
  | some (.array n _), _ => some (.int .i64 (.ofNat n))
  | some (.slice _), .slice _ n _ => some (.int .i64 (.ofNat n))
  | some (.pointer a), _ => match P.underlying a with | some (.array n _) => some (.int .i64 (.ofNat n)) | _ => none
  | some (.map _ _), .map none => some (.int .i64 (.ofNat 0))
  | some (.map _ _), .map (some r) => match h.get r with | some (.map es _) => fN es.length fun n => some (.int .i64 (.ofNat n)) | _ => none
  | _, _ => none
def capB (P : Program) (t : TypeId) (x : Value) : Option Value :=
  match P.underlying t, x with
  | some (.slice _), .slice _ _ n => bif Nat.ble many n then none else some (.int .i64 (.ofNat n))
  | _, _ => none
def makeSliceS (P : Program) (t : TypeId) (l c : Value) (h : Heap) : OR :=
  match P.underlying t with
  | some (.slice e) => match zcells P e, bytesT P e with
    | some (_, z), some by_ => match natOf l, natOf c with
      | some l, some c => bif Nat.ble l c && Nat.ble c 1000000 && Nat.ble by_ 1000000 then
          fL (repeatL z c) fun cs => fN cs.length fun n => newB h (.cells cs n 0 e) fun b h => .val (.slice (some ⟨b, nat_lit 0, none⟩) l c) h
        else .fail
      | _, _ => .fail
    | _, _ => .fail
  | _ => .fail
def nth : Nat → List Value → Option Value
  | _, [] => none
  | 0, v :: _ => some v
  | n + 1, _ :: l => nth n l
def lastN : List Nat → Option Nat
  | [] => none
  | [x] => some x
  | _ :: l => lastN l
def findB (b : Nat) : List MapEntry → Option MapEntry
  | [] => none
  | e :: es => bif Nat.beq e.born b then some e else findB b es
def bytesL : List Value → Option (List UInt8)
  | [] => some []
  | .int .u8 (.ofNat n) :: l => match bytesL l with | some r => some (UInt8.ofNat n :: r) | none => none
  | _ => none
def strS (h : Heap) (x : Option (List UInt8)) : OR := ob x fun bs => .val (.string ⟨⟨bs⟩⟩) h
def textS (P : Program) (h : Heap) (b off n : Nat) (e : TypeId) : Option (List UInt8) :=
  match P.underlying e, h.get b with
  | some (.int .u8), some (.cells c _ _ _) => match tk n (drp off c) with
      | some l => bytesL l
      | none => none
  | _, _ => none
def elemS (h : Heap) (b : Nat) (e : TypeId) : Bool := match h.get b with
  | some (.cells _ _ _ e') => Nat.beq e e'
  | _ => false
def unsafeStringS (P : Program) (t : TypeId) (p : Option Addr) (n : Nat) (h : Heap) : OR :=
  bif Nat.beq n 0 then .val (.string ⟨⟨[]⟩⟩) h else
    match p, P.underlying t with
    | some ⟨b, off, none⟩, some (.pointer u) => match sizeT P u with
      | some 1 => bif Nat.ble gBase b && elemS h b u then ob (textS P h b off n u) fun bs => .val (.string ⟨⟨bs⟩⟩) (h.del b) else .fail
      | _ => .fail
    | _, _ => .fail
def deleteS (P : Program) (t : TypeId) (m k : Value) (h : Heap) : OR :=
  match P.underlying t, m with
  | some (.map kt _), .map (some r) => match h.get r with
    | some (.map es clock) => match findS P kt k es es.isEmpty with
      | some (some (i, _)) => ob (h.turn r (.map (es.eraseIdx i) clock)) (.val (.tuple ⟨[]⟩))
      | _ => .fail
    | _ => .fail
  | _, _ => .fail
def builtinS (P : Program) (b : Builtin) (ts : List TypeId) (vs : List Value) (h : Heap) : OR :=
  match b, ts, vs with
  | .append, t :: u, s :: x :: [] => appendS P t u.head? s x h
  | .copy, t :: _, d :: x :: [] => copyS P t d x h
  | .len, t :: _, x :: [] => pv h (lenB P t x h)
  | .cap, t :: _, x :: [] => pv h (capB P t x)
  | .delete, t :: _, m :: k :: [] => deleteS P t m k h
  | .unsafeSliceData, _, .slice none _ _ :: [] => .val (.pointer none) h
  | .unsafeSliceData, _, .slice (some a) _ c :: [] => bif Nat.beq c 0 || Nat.beq c many then .fail else .val (.pointer (some a)) h
  | .unsafeString, t :: _, .pointer p :: .int .i64 (.ofNat n) :: [] => bif Nat.ble n 1000000 then unsafeStringS P t p n h else .fail
  | .min, ts, vs => bif flatL vs then pvf h (pureP P (Builtin.min_ ts.toArray 0 vs.toArray)) else .fail
  | .max, ts, vs => bif flatL vs then pvf h (pureP P (Builtin.max_ ts.toArray 0 vs.toArray)) else .fail
  | _, _, _ => .fail
structure KB where
  f : List Value → Heap → OR
def extK (P : Program) (fn : Func) : KB :=
  match Extern.findNext fn, Extern.find fn with
  | none, some e => bif fn.name == "internal/abi.NoEscape" then ⟨fun args h => match args with
      | [.pointer p] => .val (.pointer p) h
      | _ => .fail⟩
    else bif fn.name == "internal/bytealg.MakeNoZero" then
      match fn.resultTypes.toList with
      | t :: _ => match P.underlying t with
        | some (.slice el) => ⟨fun args h => match args with
          | [.int .i64 (.ofNat n)] => bif Nat.ble n 1000000 then newOpen h n 1 [] el else .fail
          | _ => .fail⟩
        | _ => ⟨fun _ _ => .fail⟩
      | [] => ⟨fun _ _ => .fail⟩
    else ⟨fun args h => bif flatL args then pvf h (pureP P (e ⟨args⟩)) else .fail⟩
  | _, _ => ⟨fun _ _ => .fail⟩
def callK (P : Program) (f : FuncId) : KB :=
  match P.funcs[f]? with
  | none => ⟨fun _ _ => .fail⟩
  | some fn => bif fn.name == "runtime.NumGoroutine" then ⟨fun _ _ => .fail⟩ else match fn.body with
    | some _ => ⟨fun args h => .call f args h⟩
    | none => extK P fn
def callS (P : Program) (f : Value) (args : List Value) (h : Heap) : OR :=
  match f with
  | .func (.func f) ⟨first⟩ ⟨cap⟩ => (callK P f).f (first ++ args ++ cap) h
  | .func (.yield l) ⟨[]⟩ ⟨[]⟩ => .yld l args h
  | _ => .fail
def topOf (k : IntKind) : Nat := match k with
  | .i8 => 128 | .i16 => 32768 | .i32 => 2147483648 | .i64 => 9223372036854775808
  | .u8 => 256 | .u16 => 65536 | .u32 => 4294967296 | .u64 => 18446744073709551616
structure FI where
  f : IntKind → Nat → Nat → Option Value
def okI (k : IntKind) (c : Nat) : Option Value := fN c fun c => cb (Nat.ble (Nat.succ c) (topOf k)) (some (.int k (.ofNat c))) none
def fastI (op : BinOp) : FI :=
  match op with
  | .eql => ⟨fun _ a b => some (.bool (Nat.beq a b))⟩
  | .neq => ⟨fun _ a b => some (.bool (cb (Nat.beq a b) false true))⟩
  | .lss => ⟨fun _ a b => some (.bool (Nat.ble (Nat.succ a) b))⟩
  | .leq => ⟨fun _ a b => some (.bool (Nat.ble a b))⟩
  | .gtr => ⟨fun _ a b => some (.bool (Nat.ble (Nat.succ b) a))⟩
  | .geq => ⟨fun _ a b => some (.bool (Nat.ble b a))⟩
  | .add => ⟨fun k a b => okI k (Nat.add a b)⟩
  | .sub => ⟨fun k a b => cb (Nat.ble b a) (okI k (Nat.sub a b)) none⟩
  | .mul => ⟨fun k a b => okI k (Nat.mul a b)⟩
  | .quo => ⟨fun k a b => cb (Nat.beq b (nat_lit 0)) none (okI k (Nat.div a b))⟩
  | .rem => ⟨fun k a b => cb (Nat.beq b (nat_lit 0)) none (okI k (Nat.mod a b))⟩
  | _ => ⟨fun _ _ _ => none⟩
def kindEq (a b : IntKind) : Bool := match a, b with
  | .i64, .i64 | .u8, .u8 | .u64, .u64 | .i32, .i32 | .u32, .u32 => true
  | _, _ => false
def natK (v : Value) (k : IntKind → Nat → Option Value) : Option Value := match v with
  | .int i (.ofNat n) => k i n
  | _ => none
def fast (op : BinOp) (a b : Value) : Option Value := natK a fun k x => natK b fun k' y => cb (kindEq k k') ((fastI op).f k x y) none
def slowBin (P : Program) (op : BinOp) (t : TypeId) (x y : Operand) (a b : Value) (h : Heap) : OR :=
  bif flat a && flat b then pvf h (pureP P (do eqGuard op t x y a b; binOp op t a b))
  else match op with
    | .eql => ob (eqS P t a b) fun r => .val (.bool r) h
    | .neq => ob (eqS P t a b) fun r => .val (.bool (!r)) h
    | _ => .fail
def binS (P : Program) (op : BinOp) (t : TypeId) (x y : Operand) (a b : Value) (h : Heap) : OR :=
  match fast op a b with
  | some v => .val v h
  | none => slowBin P op t x y a b h
def nilS (x : Value) (h : Heap) : OR := match x with
  | .pointer (some a) => .val (.pointer (some a)) h
  | .func (.func f) a b => .val (.func (.func f) a b) h
  | .func (.yield f) a b => .val (.func (.yield f) a b) h
  | .iface t x => .val (.iface t x) h
  | .map m => .val (.map m) h
  | _ => .fail
def newBytes (h : Heap) (c : List Value) (e : TypeId) : OR := fN c.length fun n => newOpen h n 1 c e
def ptrS (P : Program) (a b : TypeDesc) (x : Value) (h : Heap) : OR :=
  match a, b, x with
  | .pointer t, .unsafePointer, .pointer (some ⟨b, off, none⟩) => match h.get b, sizeT P t with
    | some (.cells _ n 0 _), some (Nat.succ _) => bif Nat.blt off n then .val (.pointer (some ⟨b, off, none⟩)) h else .fail
    | _, _ => .fail
  | .unsafePointer, .pointer u, .pointer (some ⟨b, off, none⟩) => match h.get b, sizeT P u with
    | some (.cells _ n 0 e), some (Nat.succ _) => bif liesAt P P.depth e (n / P.cellsOf e) off u 1 then .val (.pointer (some ⟨b, off, none⟩)) h else .fail
    | _, _ => .fail
  | _, _, _ => .fail
def convK (P : Program) (a b : TypeDesc) (x : Value) (h : Heap) : OR :=
  match a, b, x with
  | .string, .slice e, .string ⟨⟨l⟩⟩ => match P.underlying e with
    | some (.int .u8) => fL (l.map fun b => Value.int .u8 (.ofNat b.toNat)) fun c => newBytes h c e
    | some (.int .i32) => fL (Conv.runesFrom ⟨⟨l⟩⟩ l.length 0 #[]).toList fun c => newBytes h c e
    | _ => .fail
  | .slice e, .string, .slice (some ⟨b, off, none⟩) n _ => strS h (textS P h b off n e)
  | a, b, x => ptrS P a b x h
def convS (P : Program) (a b : TypeId) (x : Value) (h : Heap) : OR :=
  match P.underlying a, P.underlying b with
  | some .string, some (.slice e) => convK P .string (.slice e) x h
  | some da, some db => bif flat x then pvf h (pureP P (Go.convert a b x)) else convK P da db x h
  | _, _ => .fail
def ifaceS (P : Program) (t : TypeId) (x : Value) (h : Heap) : OR := match P.underlying t with
  | some (.interface _) => .fail
  | some _ => .val (.iface t x) h
  | none => .fail
def newP (h : Heap) (o : Ob) : OR := newB h o fun b h => .val (.pointer (some ⟨b, nat_lit 0, none⟩)) h
def rangeS (P : Program) (t : TypeId) (x : Value) (h : Heap) : OR :=
  match P.underlying t, x with
  | some .string, .string ⟨⟨l⟩⟩ => newP h (.sIter l 0)
  | some (.map _ _), .map none => newP h (.mIter none 0 [] 0)
  | some (.map _ _), .map (some m) => match h.get m with
    | some (.map _ clock) => newP h (.mIter (some m) clock [] clock)
    | _ => .fail
  | _, _ => .fail
def unseen (seen : List Nat) : List MapEntry → List MapEntry
  | [] => []
  | e :: es => bif seen.any (Nat.beq e.born) then unseen seen es else e :: unseen seen es
def bornAll (since : Nat) : List MapEntry → Bool
  | [] => true
  | e :: es => Nat.ble (Nat.succ e.born) since && bornAll since es
def thisM (m r : Nat) (since : Nat) (seen : List Nat) (h : Heap) (e : MapEntry) : OR :=
  ob (h.turn r (.mIter (some m) since (seen ++ [e.born]) since)) (.val (.tuple ⟨[.bool true, e.key, e.val]⟩))
def eachM (m r : Nat) (since : Nat) (seen : List Nat) (h : Heap) (e : MapEntry) : List MapEntry → OR
  | [] => thisM m r since seen h e
  | e' :: es => .both (thisM m r since seen h e) (eachM m r since seen h e' es)
def nextM (m r : Nat) (since : Nat) (seen : List Nat) (last : Nat) (h : Heap) : OR :=
  match h.get m with
  | some (.map es clock) => bif Nat.beq clock since && Nat.beq last since && bornAll since es then
      match unseen seen es with
      | [] => .val (.tuple ⟨[.bool false]⟩) h
      | e :: es => eachM m r since seen h e es
    else .fail
  | _ => .fail
def nextS (it : Value) (isS : Bool) (h : Heap) : OR :=
  match it with
  | .pointer (some ⟨r, 0, none⟩) => match h.get r, isS with
    | some (.sIter l pos), true => bif Nat.blt pos l.length then
        fN (Nat.add pos (Utf8.decode ⟨⟨l⟩⟩ pos).2) fun p => fN (Utf8.decode ⟨⟨l⟩⟩ pos).1 fun c => ob (h.turn r (.sIter l p)) (.val (.tuple ⟨[.bool true, .int .i64 (.ofNat pos), .int .i32 (.ofNat c)]⟩))
      else .val (.tuple ⟨[.bool false]⟩) h
    | some (.mIter none _ _ _), false => .val (.tuple ⟨[.bool false]⟩) h
    | some (.mIter (some m) since seen last), false => nextM m r since seen last h
    | _, _ => .fail
  | _ => .fail
def entS (it : Value) (h : Heap) : OR :=
  match it with
  | .pointer (some ⟨r, 0, none⟩) => match h.get r with
    | some (.mIter (some m) _ seen stepped) => match h.get m, lastN seen with
      | some (.map es clock), some st => bif Nat.beq clock stepped then
          match findB st es with | some e => .val (.tuple ⟨[e.key, e.val]⟩) h | none => .fail
        else .fail
      | _, _ => .fail
    | _ => .fail
  | _ => .fail
def assertS (P : Program) (x : Value) (t : TypeId) (ok : Bool) (h : Heap) : OR :=
  match P.underlying t, x with
  | some (.interface _), _ => .fail
  | some _, .iface d v => bif Nat.beq d t then .val (if ok then .tuple ⟨[v, .bool true]⟩ else v) h
    else bif ok then ob (zeroT P t) fun z => .val (.tuple ⟨[z, .bool false]⟩) h else .fail
  | _, _ => .fail
def pickS (c : Value) (a b : Operand) (s : Slots) (h : Heap) : OR := match c with
  | .bool true => o1 a s h fun v => .val v h
  | .bool false => o1 b s h fun v => .val v h
  | _ => .fail
def extractS (x : Value) (i : Nat) (h : Heap) : OR := match x with
  | .tuple ⟨l⟩ => pv h (nth i l)
  | _ => .fail
def makeMapS (P : Program) (t : TypeId) (r : Option Value) (h : Heap) : OR :=
  match r with
  | none => newB h (.map [] 0) fun b h => .val (.map (some b)) h
  | some (.int _ _) => match P.underlying t with
    | some (.map _ _) => newB h (.map [] 0) fun b h => .val (.map (some b)) h
    | _ => .fail
  | _ => .fail
def callC (P : Program) (c : Call) (s : Slots) (h : Heap) : OR :=
  match c.callee with
  | .value f => o1 f s h fun f => oL c.args.toList s h fun args => callS P f args h
  | .builtin b => oL c.args.toList s h fun args => builtinS P b c.argTypes.toList args h
  | _ => .fail
structure OB where
  f : Slots → Heap → OR
def opK (P : Program) (op : Op) : OB :=
  match op with
  | .move x | .assign x => ⟨fun s h => o1 x s h fun v => .val v h⟩
  | .pick c a b => ⟨fun s h => o1 c s h fun c => pickS c a b s h⟩
  | .alloc t => ⟨fun _ h => (allocS P t).f h⟩
  | .box t x => ⟨fun s h => o1 x s h fun v => newCells h (cellsOf v) t⟩
  | .build t ps => ⟨fun s h => oP ps.toList s h fun ps => pv h ((buildS P t).f ps)⟩
  | .buildSlice t n ps => ⟨fun s h => oP ps.toList s h fun ps => buildSliceS P t n ps h⟩
  | .load t a => ⟨fun s h => o1 a s h fun a => pv h ((loadS P t).f a h)⟩
  | .store t a x => ⟨fun s h => o2 a x s h fun a x => pu ((storeS P t).f a x h)⟩
  | .nilCheck x => ⟨fun s h => o1 x s h fun v => nilS v h⟩
  | .binOp op t x y _ => ⟨fun s h => o2 x y s h fun a b => binS P op t x y a b h⟩
  | .unOp op _ x => ⟨fun s h => o1 x s h fun a => bif flat a then pvf h (pureP P (Op.unary op a)) else .fail⟩
  | .convert a b x => ⟨fun s h => o1 x s h fun x => convS P a b x h⟩
  | .makeInterface t x => ⟨fun s h => o1 x s h fun x => ifaceS P t x h⟩
  | .makeFunc fn a b => ⟨fun s h => oL a.toList s h fun a => oL b.toList s h fun b => match fn with
      | .func _ => .val (.func fn ⟨a⟩ ⟨b⟩) h
      | _ => .fail⟩
  | .makeMap t r => ⟨fun s h => oo r s h fun r => makeMapS P t r h⟩
  | .makeSlice t l c => ⟨fun s h => o2 l c s h fun l c => makeSliceS P t l c h⟩
  | .slice t x lo hi mx => ⟨fun s h => o1 x s h fun x => oo lo s h fun lo => oo hi s h fun hi => oo mx s h fun mx => pv h (sliceS P t x lo hi mx h)⟩
  | .fieldAddr t x f => ⟨fun s h => o1 x s h fun x => pv h ((fieldAddrS P t f).f x)⟩
  | .field t x f => ⟨fun s h => o1 x s h fun x => pv h ((fieldS P t f).f x)⟩
  | .indexAddr t x i => ⟨fun s h => o2 x i s h fun x i => pv h ((indexAddrS P t).f x i)⟩
  | .index t x i => ⟨fun s h => o2 x i s h fun x i => pv h ((indexS P t).f x i)⟩
  | .lookup t x i ok => ⟨fun s h => o2 x i s h fun x i => pv h (lookupS P t x i ok h)⟩
  | .mapUpdate t m k x | .insert t m k x => ⟨fun s h => o2 m k s h fun m k => o1 x s h fun x => pu (updateS P t m k x h)⟩
  | .mapEntry t m k => ⟨fun s h => o2 m k s h fun m k => entryS P t m k h⟩
  | .entryStore _ m st x => ⟨fun s h => o2 m st s h fun m st => o1 x s h fun x => pu (entryStoreS m st x h)⟩
  | .range t x => ⟨fun s h => o1 x s h fun x => rangeS P t x h⟩
  | .next it b => ⟨fun s h => o1 it s h fun it => nextS it b h⟩
  | .entry it => ⟨fun s h => o1 it s h fun it => entS it h⟩
  | .typeAssert x _ t ok => ⟨fun s h => o1 x s h fun x => assertS P x t ok h⟩
  | .extract x i => ⟨fun s h => o1 x s h fun x => extractS x i h⟩
  | .call c => ⟨fun s h => callC P c s h⟩
  | _ => ⟨fun _ _ => .fail⟩
structure Fr where
  fn : FuncId
  n : Nat
  round : Option Nat
structure St where
  s : Slots
  h : Heap
  d : List Nat
inductive R where
  | no
  | normal (st : St)
  | exit (id : Nat) (st : St)
  | goto (l : Nat) (st : St)
  | ret (st : St)
  | both (x y : R)
inductive CR where
  | no
  | yes (v : Value) (h : Heap)
  | both (x y : CR)
def R.bind (r : R) (kn : St → R) (ke kg : Nat → St → R) (kr : St → R) : R := @R.rec (fun _ => R) .no kn ke kg kr (fun _ _ a b => .both a b) r
def R.toC (r : R) (kn : St → CR) (ke kg : Nat → St → CR) (kr : St → CR) : CR := @R.rec (fun _ => CR) .no kn ke kg kr (fun _ _ a b => .both a b) r
def CR.toR (x : CR) (k : Value → Heap → R) : R := @CR.rec (fun _ => R) .no k (fun _ _ a b => .both a b) x
structure KO where
  g : Option (Tmp × Bool)
  dst : Option Tmp
  op : OB
def koOf (P : Program) (ops : List Oper) (o : Oper) : KO :=
  match o.guard with
  | none => ⟨none, o.dst, opK P o.op⟩
  | some (j, want) => match ops[j]? with
    | some g => match g.dst with
      | some t => ⟨some (t, want), o.dst, opK P o.op⟩
      | none => ⟨none, o.dst, ⟨fun _ _ => .fail⟩⟩
    | none => ⟨none, o.dst, ⟨fun _ _ => .fail⟩⟩
def resS (P : Program) (s : Slots) (h : Heap) : List ResultVar → Option (List Value)
  | [] => some []
  | .tmp t :: l => match s.get t with
    | some v => match resS P s h l with | some vs => some (v :: vs) | none => none
    | none => none
  | .cell a t :: l => match s.get a with
    | some p => match (loadS P t).f p h with
      | some v => match resS P s h l with | some vs => some (v :: vs) | none => none
      | none => none
    | none => none
def one : List Value → Value
  | [v] => v
  | l => .tuple ⟨l⟩
def takeOff : List Nat → Heap → Option Heap
  | [], h => some h
  | b :: l, h => match h.get b with
    | some (.dfr true) => match h.turn b (.dfr false) with | some h => takeOff l h | none => none
    | _ => none
def isRet (r : R) (k : St → CR) : CR := r.toC k (fun _ _ => .no) (fun _ _ => .no) k
def callB (P : Program) (f : FuncId) (c : Code) (n : Nat) (rs : List ResultVar) (ev : Code → Fr → St → R) (args : List Value) (h : Heap) : CR :=
  isRet (ev c ⟨f, Nat.max n args.length, none⟩ ⟨T.ofList 0 args .e, h, []⟩) fun st => match takeOff st.d st.h with
    | some h' => match resS P st.s h' rs with
      | some vs => .yes (one vs) h'
      | none => .no
    | none => .no
structure FB where
  f : (Code → Fr → St → R) → List Value → Heap → CR
def fnK (P : Program) (f : FuncId) : FB :=
  match P.funcs[f]? with
  | none => ⟨fun _ _ _ => .no⟩
  | some fn => match fn.body with
    | none => ⟨fun _ _ _ => .no⟩
    | some c => ⟨callB P f c fn.ntmps fn.results.toList⟩
def callR (P : Program) (ev : Code → Fr → St → R) (f : FuncId) (args : List Value) (h : Heap) : CR := (fnK P f).f ev args h
def setAll (s : Slots) : List Tmp → List Value → Slots
  | t :: ts, v :: vs => setAll (s.set t v) ts vs
  | _, _ => s
def endS (l : Nat) (r : SLoop) (state : LoopState) (p : Option Code) (h : Heap) : CR :=
  match h.turn l (.loop { r with state := state, pending := p }) with
  | some h => .yes (.bool p.isNone) h
  | none => .no
def endR (l : Nat) (state : LoopState) (p : Option Code) (st : St) : CR :=
  match st.d, st.h.get l with
  | [], some (.loop r) => endS l r state p st.h
  | _, _ => .no
def bodyR (ev : Code → Fr → St → R) (l : Nat) (body : Code) (fn : FuncId) (n : Nat) (st : St) : CR :=
  match st.h.get l with
  | some (.loop r) => match r.state with
    | .ready => match st.h.turn l (.loop { r with state := .busy }) with
      | some h => (ev body ⟨fn, n, some l⟩ ⟨st.s, h, st.d⟩).toC (endR l .ready none) (fun i => endR l .done (some (.exit i))) (fun i => endR l .done (some (.goto i))) (endR l .done (some .ret))
      | none => .no
    | _ => .no
  | _ => .no
def roundR (ev : Code → Fr → St → R) (l : Nat) (args : List Value) (h : Heap) : CR :=
  match h.get l with
  | some (.loop r) => bif Nat.beq args.length r.params.length && r.params.all (fun t => Nat.blt t r.ntmps) then
      (ev r.assign ⟨r.fn, r.ntmps, some l⟩ ⟨setAll r.tmps r.params args, h, []⟩).toC (bodyR ev l r.body r.fn r.ntmps) (fun _ _ => .no) (fun _ _ => .no) (fun _ => .no)
    else .no
  | _ => .no
abbrev Orc := FuncId → List Value → Heap → Option Value
def orR (P : Program) (ev : Code → Fr → St → R) (orc : Orc) (x : OR) (k : Value → Heap → R) : R :=
  @OR.rec (fun _ => R) .no k (fun h => k (.tuple ⟨[]⟩) h)
    (fun f args h => @Option.casesOn Value (fun _ => R) (orc f args h) ((callR P ev f args h).toR k) fun v => k v h)
    (fun l args h => (roundR ev l args h).toR k) (fun _ _ a b => .both a b) x
def putR (n : Nat) (dst : Option Tmp) (s : Slots) (k : Slots → Heap → R) (v : Value) (h : Heap) : R :=
  @Option.casesOn Tmp (fun _ => R) dst (k s h) fun d => cb (Nat.ble (Nat.succ d) n) (k (T.putP (some v) (pth d) s) h) .no
def boolEq (b want : Bool) : Bool := cb b want (cb want false true)
def wantR (v : Option Value) (want : Bool) (yes no : R) : R :=
  match v with
  | some (.bool b) => cb (boolEq b want) yes no
  | some _ => no
  | none => .no
def opR (P : Program) (ev : Code → Fr → St → R) (orc : Orc) (n : Nat) (o : KO) (s : Slots) (h : Heap) (k : Slots → Heap → R) : R :=
  @Option.casesOn (Tmp × Bool) (fun _ => R) o.g (orR P ev orc (o.op.f s h) (putR n o.dst s k))
    fun g => wantR (s.getP (pth g.1)) g.2 (orR P ev orc (o.op.f s h) (putR n o.dst s k)) (putR n o.dst s k (.tuple ⟨[]⟩) h)
def opsR (P : Program) (ev : Code → Fr → St → R) (orc : Orc) (n : Nat) (K : Slots → Heap → R) (l : List KO) : Slots → Heap → R :=
  @List.rec KO (fun _ => Slots → Heap → R) K (fun o _ ih s h => opR P ev orc n o s h ih) l
def regR (P : Program) (orc : Orc) (ev : Code → Fr → St → R) (ops : List Oper) (fr : Fr) (st : St) : R :=
  @St.casesOn (fun _ => R) st fun s h d => opsR P ev orc fr.n (fun s h => .normal ⟨s, h, d⟩) (ops.map (koOf P ops)) s h
def seqR (ev : Code → Fr → St → R) (a b : Code) (fr : Fr) (st : St) : R :=
  (ev a fr st).bind (fun st => ev b fr st) .exit .goto .ret
def condV (v : Option Value) (x y : R) : R :=
  match v with
  | some (.bool b) => cb b x y
  | _ => .no
def condR (ev : Code → Fr → St → R) (c : Operand) (a b : Code) (fr : Fr) (st : St) : R :=
  condV ((opd c).f st.s st.h) (ev a fr st) (ev b fr st)
def blockR (ev : Code → Fr → St → R) (id : Nat) (body : Code) (fr : Fr) (st : St) : R :=
  (ev body fr st).bind .normal (fun i st => cb (Nat.beq i id) (.normal st) (.exit i st)) .goto .ret
def scopeR (ev : Code → Fr → St → R) (body : Code) (fr : Fr) (n : Nat) : Code → St → R :=
  @Nat.rec (fun _ => Code → St → R) (fun _ _ => .no) (fun _ ih c st => (ev c fr st).bind .normal .exit
    (fun l st => @Option.casesOn Code (fun _ => R) (findLabel body l) (.goto l st) fun rest => ih rest st) .ret) n
def enterS (fr : Fr) (st : St) : Option (Nat × Heap × List Nat) :=
  match fr.round with
  | none => some (st.h.nx, st.h.new (.dfr true), [st.h.nx])
  | some l => match st.h.get l with
    | some (.loop r) => some (r.defers, st.h, [])
    | _ => none
def leaveS (l : Nat) (mark : List Nat) (st : St) (h : Heap) : R :=
  match h.get l with
  | some (.loop r) => match r.state with
    | .busy => .no
    | _ => match h.turn l (.loop { r with state := .exhausted }) with
      | none => .no
      | some h => match r.pending with
        | none => .normal ⟨st.s, h, mark ++ st.d⟩
        | some .ret => .ret ⟨st.s, h, mark ++ st.d⟩
        | some (.exit i) => .exit i ⟨st.s, h, mark ++ st.d⟩
        | some (.goto i) => .goto i ⟨st.s, h, mark ++ st.d⟩
        | _ => .no
  | _ => .no
def rangeC (P : Program) (ev : Code → Fr → St → R) (g : Value) (l b : Nat) (mark : List Nat) (ps : List Tmp) (asn body : Code) (fr : Fr) (st : St) (h : Heap) : R :=
  match callS P g [.func (.yield l) #[] #[]] (h.set l (.loop { state := .ready, pending := none, tmps := st.s, ntmps := fr.n, fn := fr.fn, params := ps, assign := asn, body := body, defers := b })) with
  | .call f args h1 => (callR P ev f args h1).toR fun _ h2 => leaveS l mark st h2
  | _ => .no
def rangeR (P : Program) (ev : Code → Fr → St → R) (g : Operand) (ps : List Tmp) (asn body : Code) (fr : Fr) (st : St) : R :=
  match enterS fr st with
  | none => .no
  | some (b, h, mark) => match (opd g).f st.s st.h with
    | none => .no
    | some g => cb (Nat.beq h.rs (nat_lit 0)) (fN b fun b => fN h.next fun l => rangeC P ev g l b mark ps asn body fr st ⟨Nat.succ l, nat_lit 0, h.t⟩) .no
structure CB where
  f : (Code → Fr → St → R) → Fr → St → R
abbrev Draw := List Oper → CB
def codeK (P : Program) (orc : Orc) (draw : Draw) (c : Code) : CB :=
  match c with
  | .skip | .label _ => ⟨fun _ _ st => .normal st⟩
  | .region _ ops true => draw ops.toList
  | .region _ ops false => ⟨fun ev fr st => regR P orc ev ops.toList fr st⟩
  | .seq a b => ⟨fun ev fr st => seqR ev a b fr st⟩
  | .cond c a b => ⟨fun ev fr st => condR ev c a b fr st⟩
  | .block id body => ⟨fun ev fr st => blockR ev id body fr st⟩
  | .loop body => ⟨fun ev fr st => seqR ev body (.loop body) fr st⟩
  | .exit id => ⟨fun _ _ st => .exit id st⟩
  | .goto l => ⟨fun _ _ st => .goto l st⟩
  | .scope body => ⟨fun ev fr st => scopeR ev body fr 100000 body st⟩
  | .ret => ⟨fun _ _ st => .ret st⟩
  | .rangeFunc g ps asn body => ⟨fun ev fr st => rangeR P ev g ps.toList asn body fr st⟩
  | _ => ⟨fun _ _ _ => .no⟩
def run (P : Program) (orc : Orc) (draw : Draw) (n : Nat) : Code → Fr → St → R :=
  @Nat.rec (fun _ => Code → Fr → St → R) (fun _ _ _ => .no) (fun _ ev c => (codeK P orc draw c).f ev) n
def noOrc : Orc := fun _ _ _ => none
end
end Go.Ev
