/- EvX: regions that draw their order: definitions. -/
import Derived.Test.YtnfcjgfaecihbaaGreatDoorEvA
import Derived.Orders
set_option linter.unusedVariables false
set_option linter.unusedSimpArgs false
set_option linter.unusedSectionVars false
set_option linter.constructorNameAsVariable false
namespace Go.Ev
open Go
noncomputable section
def kindS (P : Program) (op : Op) : Nat := match op with
  | .move _ | .assign _ | .pick .. | .build .. | .fieldAddr .. | .field .. | .unOp .. | .makeInterface .. | .makeFunc .. | .extract .. | .nilCheck _ | .binOp .. | .indexAddr .. | .index .. | .typeAssert .. => 0
  | .alloc _ | .box .. | .buildSlice .. | .makeMap .. | .makeSlice .. => 1
  | .load .. | .entry _ | .slice .. | .lookup .. => 2
  | .convert a b _ => match P.underlying a, P.underlying b with
    | some .string, some (.slice _) => 1
    | _, _ => 2
  | .call c => match c.callee with
    | .builtin .len | .builtin .cap | .builtin .min | .builtin .max => 2
    | _ => 3
  | _ => 3
def intEq (a b : Int) : Bool := match a, b with
  | .ofNat a, .ofNat b => Nat.beq a b
  | .negSucc a, .negSucc b => Nat.beq a b
  | _, _ => false
def bytesEq : List UInt8 → List UInt8 → Bool
  | [], [] => true
  | a :: l, b :: m => Nat.beq a.toNat b.toNat && bytesEq l m
  | _, _ => false
mutual
def eqV : Value → Value → Bool
  | .bool a, .bool b => boolEq a b
  | .int k a, .int k' b => decide (k = k') && intEq a b
  | .string ⟨⟨a⟩⟩, .string ⟨⟨b⟩⟩ => bytesEq a b
  | .pointer none, .pointer none => true
  | .pointer (some ⟨a, o, none⟩), .pointer (some ⟨b, p, none⟩) => Nat.beq a b && Nat.beq o p
  | .slice none n m, .slice none n' m' => Nat.beq n n' && Nat.beq m m'
  | .slice (some ⟨a, o, none⟩) n m, .slice (some ⟨b, p, none⟩) n' m' => Nat.beq a b && Nat.beq o p && Nat.beq n n' && Nat.beq m m'
  | .map none, .map none => true
  | .map (some a), .map (some b) => Nat.beq a b
  | .func (.func f) ⟨l⟩ ⟨m⟩, .func (.func g) ⟨l'⟩ ⟨m'⟩ => Nat.beq f g && eqL l l' && eqL m m'
  | .nilFunc, .nilFunc => true
  | .iface t v, .iface u w => Nat.beq t u && eqV v w
  | .nilIface, .nilIface => true
  | .agg ⟨l⟩, .agg ⟨m⟩ => eqL l m
  | .tuple ⟨l⟩, .tuple ⟨m⟩ => eqL l m
  | _, _ => false
def eqL : List Value → List Value → Bool
  | [], [] => true
  | v :: l, w :: m => eqV v w && eqL l m
  | _, _ => false
end
def bit (i : Nat) : Nat := Nat.pow (nat_lit 2) i
def tb (m j : Nat) : Bool := Nat.beq (Nat.mod (Nat.shiftRight m j) (nat_lit 2)) (nat_lit 1)
def edgeM (acc : List Nat) : List Edge → Nat → Nat
  | [], m => m
  | e :: l, m => bif Region.binds .any e then edgeM acc l (Nat.lor (Nat.lor m (bit e.on)) (acc.getD e.on 0)) else edgeM acc l m
def masksL : List Oper → List Nat → List Nat
  | [], acc => acc
  | o :: l, acc => fN (edgeM acc o.after.toList 0) fun m => masksL l (acc ++ [m])
structure DOp where
  i : Nat
  m : Nat
  k : Nat
  o : KO
def finOf (n : Nat) (ms : List Nat) : Option Nat := match n with
  | 0 => none
  | n + 1 => bif Nat.beq (Nat.succ (ms.getD n 0)) (bit n) then some n else none
def isFin (f : Option Nat) (i : Nat) : Bool := match f with
  | none => false
  | some j => Nat.beq i j
def kOf (P : Program) (f : Option Nat) (i : Nat) (op : Op) : Nat := bif isFin f i then 3 else kindS P op
def dopsL (P : Program) (ops : List Oper) (f : Option Nat) : List Oper → List Nat → Nat → List DOp
  | o :: l, m :: ms, i => ⟨i, m, kOf P f i o.op, koOf P ops o⟩ :: fN (Nat.succ i) fun i => dopsL P ops f l ms i
  | _, _, _ => []
def dstIn (f : Option Nat) (t : Tmp) (m : Nat) : List Oper → Nat → Bool
  | [], _ => true
  | o :: l, j => (match o.dst with | some d => bif Nat.beq d t then tb m j || isFin f j else true | none => true) && dstIn f t m l (Nat.succ j)
def dstsL (f : Option Nat) : List Oper → Nat → List Tmp
  | [], _ => []
  | o :: l, i => match o.dst with
    | none => dstsL f l (Nat.succ i)
    | some d => bif isFin f i then dstsL f l (Nat.succ i) else d :: dstsL f l (Nat.succ i)
def looksB (f : Option Nat) (ops : List Oper) : List Oper → List Nat → Bool
  | [], _ => true
  | o :: l, m :: ms => (o.looksAt ⟨ops⟩).all (fun t => dstIn f t m ops 0) && looksB f ops l ms
  | _ :: _, [] => false
def edgesB : List Oper → Nat → Bool
  | [], _ => true
  | o :: l, i => o.after.toList.all (fun e => bif Region.binds .any e then Nat.blt e.on i else true) && edgesB l (Nat.succ i)
def uniqB : List Oper → Bool
  | [] => true
  | o :: l => (match o.dst with | some d => l.all (fun o' => match o'.dst with | some d' => bif Nat.beq d d' then false else true | none => true) | none => true) && uniqB l
def effM : List DOp → Nat
  | [] => 0
  | d :: l => bif Nat.beq d.k 3 then Nat.lor (bit d.i) (effM l) else effM l
def chainB (ea : Nat) : List DOp → Nat → Bool
  | [], _ => true
  | e :: l, em => Nat.beq (Nat.land e.m ea) em && chainB ea l (Nat.lor em (bit e.i))
def effsL (dops : List DOp) : List DOp := dops.filter fun d => Nat.beq d.k 3
structure Pl where
  dops : List DOp
  ea : Nat
  as : List Nat
  dsts : List Tmp
def finP (ops : List Oper) : Option Nat := finOf ops.length (masksL ops [])
def planD (P : Program) (ops : List Oper) : Pl :=
  let dops := dopsL P ops (finP ops) ops (masksL ops []) 0
  ⟨dops, effM dops, (dops.filter fun d => Nat.beq d.k 1).map DOp.i, dstsL (finP ops) ops 0⟩
def okD (P : Program) (ops : List Oper) : Bool :=
  P.follows .mixedOrders && edgesB ops 0 && uniqB ops && looksB (finP ops) ops ops (masksL ops []) && chainB (planD P ops).ea (effsL (planD P ops).dops) 0
def avail (ea m em : Nat) : Bool := Nat.beq (Nat.lor (Nat.land m ea) em) em
def seen (ea m : Nat) (prev : Option Nat) : Bool := match prev with | none => false | some p => avail ea m p
def newsL (pl : Pl) (prev : Option Nat) (em : Nat) : List DOp := pl.dops.filter fun d => Nat.blt d.k 3 && avail pl.ea d.m em && !seen pl.ea d.m prev
def againL (pl : Pl) (prev : Option Nat) (D : Nat) : List DOp := pl.dops.filter fun d => Nat.beq d.k 2 && seen pl.ea d.m prev && !tb D d.i
def alOf (as : List Nat) (m D : Nat) : List Nat := as.filter fun j => tb m j && !tb D j
def restA (as : List Nat) (D : Nat) : List Nat := as.filter fun j => !tb D j
abbrev Os := T (Option Ob)
def valO (x : OR) (k : Value → Heap → R) : R := match x with
  | .val v h => k v h
  | _ => .no
def putD (n : Nat) (dst : Option Tmp) (s : Slots) (k : Slots → R) (v : Value) : R :=
  @Option.casesOn Tmp (fun _ => R) dst (k s) fun d => cb (Nat.ble (Nat.succ d) n) (k (T.putP (some v) (pth d) s)) .no
def putsR (base : Nat) (os : Os) (l : List Nat) : Heap → Option Heap :=
  @List.rec Nat (fun _ => Heap → Option Heap) some (fun j _ ih h => @Option.casesOn (Option Ob) (fun _ => Option Heap) (os.getP (pth j)) none fun x => @Option.casesOn Ob (fun _ => Option Heap) x (ih h) fun o => fN (Nat.add base j) fun b => ih (h.set b o)) l
def clearR (l : List Tmp) : Slots → Slots := @List.rec Tmp (fun _ => Slots → Slots) (fun s => s) (fun d _ ih s => ih (T.putP none (pth d) s)) l
def newV (base n D : Nat) (as : List Nat) (h : Heap) (d : DOp) (s : Slots) (os : Os) (k : Slots → Os → R) : R :=
  match putsR base os (alOf as d.m D) h with
  | none => .no
  | some hs => cb (Nat.beq d.k 1)
      (fN (Nat.add base d.i) fun b => valO (d.o.op.f s (hs.at b)) fun v h' => match h'.get b with
        | some o => putD n d.o.dst s (fun s => k s (T.putP (some (some o)) (pth d.i) os)) v
        | none => .no)
      (valO (d.o.op.f s hs) fun v _ => putD n d.o.dst s (fun s => k s os) v)
def newN (n : Nat) (d : DOp) (s : Slots) (os : Os) (k : Slots → Os → R) : R :=
  putD n d.o.dst s (fun s => k s (cb (Nat.beq d.k 1) (T.putP (some none) (pth d.i) os) os)) (.tuple ⟨[]⟩)
def newR (base n D : Nat) (as : List Nat) (h : Heap) (d : DOp) (s : Slots) (os : Os) (k : Slots → Os → R) : R :=
  @Option.casesOn (Tmp × Bool) (fun _ => R) d.o.g (newV base n D as h d s os k) fun g => wantR (s.getP (pth g.1)) g.2 (newV base n D as h d s os k) (newN n d s os k)
def sameB (dst : Option Tmp) (s : Slots) (v : Value) : Bool := match dst with
  | none => true
  | some t => match s.getP (pth t) with
    | some u => eqV v u
    | none => false
def againV (base D : Nat) (as : List Nat) (h : Heap) (s : Slots) (os : Os) (d : DOp) : Bool :=
  match putsR base os (alOf as d.m D) h with
  | none => false
  | some hs => match d.o.op.f s hs with
    | .val v _ => sameB d.o.dst s v
    | _ => false
def againB (base D : Nat) (as : List Nat) (h : Heap) (s : Slots) (os : Os) (d : DOp) : Bool :=
  match d.o.g with
  | none => againV base D as h s os d
  | some g => match s.getP (pth g.1) with
    | some (.bool b) => cb (boolEq b g.2) (againV base D as h s os d) true
    | _ => true
def newsR (base n D : Nat) (as : List Nat) (h : Heap) (k : Slots → Os → R) (l : List DOp) : Slots → Os → R :=
  @List.rec DOp (fun _ => Slots → Os → R) k (fun d _ ih s os => newR base n D as h d s os ih) l
def stageR (pl : Pl) (base n : Nat) (prev : Option Nat) (em D : Nat) (h : Heap) (s : Slots) (os : Os) (k : Slots → Os → R) : R :=
  newsR base n D pl.as h (fun s os => cb ((againL pl prev D).all (againB base D pl.as h s os)) (k s os) .no) (newsL pl prev em) s os
def endD (pl : Pl) (base D : Nat) (d : List Nat) (h : Heap) (s : Slots) (os : Os) : R :=
  match putsR base os (restA pl.as D) h with
  | none => .no
  | some h => .normal ⟨s, h, d⟩
def effD (P : Program) (ev : Code → Fr → St → R) (orc : Orc) (pl : Pl) (base n D : Nat) (e : DOp) (h : Heap) (s : Slots) (os : Os) (k : Slots → Heap → R) : R :=
  match putsR base os (alOf pl.as e.m D) h with
  | none => .no
  | some hs => opR P ev orc n e.o s hs k
def stR (P : Program) (ev : Code → Fr → St → R) (orc : Orc) (pl : Pl) (base n : Nat) (d : List Nat) (es : List DOp) : Option Nat → Nat → Nat → Heap → Slots → Os → R :=
  @List.rec DOp (fun _ => Option Nat → Nat → Nat → Heap → Slots → Os → R)
    (fun prev em D h s os => stageR pl base n prev em D h s os fun s os => endD pl base D d h s os)
    (fun e _ ih prev em D h s os => stageR pl base n prev em D h s os fun s os => effD P ev orc pl base n D e h s os fun s h =>
      fN (Nat.lor em (bit e.i)) fun em' => fN (Nat.lor D (Nat.lor e.m (bit e.i))) fun D' => ih (some em) em' D' h s os) es
def drawK (P : Program) (orc : Orc) (len : Nat) (pl : Pl) : CB :=
  ⟨fun ev fr st => @St.casesOn (fun _ => R) st fun s h d => @Heap.casesOn (fun _ => R) h fun n r t => cb (Nat.beq r (nat_lit 0))
    (fN n fun base => fN (Nat.add base len) fun n' => stR P ev orc pl base fr.n d (effsL pl.dops) none 0 0 ⟨n', nat_lit 0, t⟩ (clearR pl.dsts s) .e) .no⟩
def drawS (P : Program) (orc : Orc) : Draw := fun ops => cb (okD P ops) (drawK P orc ops.length (planD P ops)) ⟨fun _ _ _ => .no⟩
end
end Go.Ev
