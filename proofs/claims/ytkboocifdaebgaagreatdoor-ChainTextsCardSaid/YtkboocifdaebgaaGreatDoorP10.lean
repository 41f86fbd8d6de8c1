/- ChainTexts, part 11 of 31. -/
import Derived.Test.YtkboocifdaebgaaGreatDoorP09
import Derived.Laws.CopyOwn
set_option linter.all false
set_option maxHeartbeats 40000000
set_option maxRecDepth 100000
open Go renaming undef -> ZA, World -> ZB, Value -> ZC, TypeId -> ZJ
open Go.Act renaming put -> ZF
namespace Go.Proofs.Y
section
open Go.Lib Go.Proofs.Tryz Go.RowKit Go.Shelf Go.Sort CH
section
open CH
variable {P:Program} {ops:Array Oper} {S:ZB->Prop} {Q:Exit->Act->ZB->Prop}
structure fG (ops:Array Oper) (l:Array Bool) (F a:Act):Prop where
 defers:a.defers=F.defers
 size:a.tmps.size=F.tmps.size
 slot:∀ k,(∀ i o,ops[i]?=some o->o.dst=some k->l.getD i false=true)->a.tmps[k]?=F.tmps[k]?
def Tp (ops:Array Oper) (i:Nat):Bool:=((ops.getD i default).looksAt ops).all fun k=>(List.range ops.size).all fun j=>(ops.getD j default).dst != some k||Region.waitsFor .any ops i j
def Ffi (ops:Array Oper):Bool:=(List.range ops.size).all fun i=>(ops.getD i default).after.all fun e=>!Region.binds .any e||decide (e.on<i)
theorem Ev0 {i:Nat} {o:Oper} (h:ops[i]?=some o):ops.getD i default=o:=by simp [Gq,h]
theorem Vn {l:Array Bool} {j i:Nat} (h:j∈Region.ready .any ops l) (hw:Region.waitsFor .any ops j i=true):l.getD i false=true:=by obtain⟨_,o,ho,hall⟩:=Jd.1 h;obtain⟨oj,hj,e,he,hb,hon⟩:=Region.waitsFor_spec hw;obtain rfl:oj=o:=Gh (hj.symm.trans ho);rw [<- hon];exact hall e he hb
theorem fG.same {l:Array Bool} {F a:Act} (h:fG ops l F a) {i:Nat} {o:Oper} (ho:ops[i]?=some o) (hr:i∈Region.ready .any ops l) (hk:Tp ops i=true) (hs:∀ cs b,o.op≠.select cs b) : execOp a.eval o=execOp F.eval o/\Region.wanted o (yielded ops a.tmps)=Region.wanted o (yielded ops F.tmps):=by
 have key:∀ k∈o.looksAt ops,a.tmps[k]?=F.tmps[k]?:=fun k hkm=>h.slot k fun j oj hj hdst=>by unfold Tp at hk;rw [Ev0 ho] at hk;have h2:=Dj.1 (Dj.1 hk k hkm) j (Jl.2 (aZ hj));rw [Ev0 hj,hdst] at h2;exact Vn hr (by simpa using h2)
 refine⟨execOp_congr o hs fun x hx=>?_,?_⟩
 ·cases x with
  |tmp t =>have:=key t (Pj _ (List.mem_filterMap.2 ⟨.tmp t,by simpa using hx,rfl⟩));show a.tmps.getD t ZA=F.tmps.getD t ZA;rw [Gq,Gq,this]
  |_=>rfl
 ·unfold Region.wanted;cases hg:o.guard with
  |none=>rfl
  |some gw =>
   obtain⟨g,want⟩:=gw;have:yielded ops a.tmps g=yielded ops F.tmps g:=by
    unfold yielded;cases ht:(ops[g]?).bind (·.dst) with
    |none=>rfl
    |some t =>have:=key t (by simp [Oper.looksAt,hg,ht]);simp [this]
   simp only [this]
theorem fG.put {l:Array Bool} {F a:Act} (h:fG ops l F a) {i:Nat} {o:Oper} {v:ZC} (ho:ops[i]?=some o) (hv:∀ k,o.dst=some k->F.tmps[k]?=some v):fG ops (l.setIfInBounds i true) F (a.put o.dst v):=by
 have old:∀ k,o.dst≠some k->(∀ j oj,ops[j]?=some oj->oj.dst=some k->(l.setIfInBounds i true).getD j false=true)->a.tmps[k]?=F.tmps[k]?:=fun k hne hk=>h.slot k fun j oj hj hjd=>by have:=hk j oj hj hjd;rwa [getD_set_ne false fun e=>by subst e;rw [ho] at hj;cases hj;exact hne hjd] at this
 cases hd:o.dst with
 |none=>exact⟨h.defers,h.size,fun k hk=>old k (by rw [hd];intro h;cases h) hk⟩
 |some t =>
  refine⟨h.defers,by simp [ZF,h.size],fun k hk=>?_⟩;by_cases e:t=k;·subst e;have ht:t<F.tmps.size:=(Jw.1 (hv t hd)).1;rw [hv t hd];simp [ZF,h.size,ht]
  ·rw [show (a.put (some t) v).tmps[k]?=a.tmps[k]? by simp [ZF,Iw e]];exact old k (by rw [hd];intro h;cases h;exact e rfl) hk
theorem fG.turn {l:Array Bool} {F a:Act} (h:fG ops l F a) (k:Nat) (v:ZC) {i:Nat} {o:Oper} (ho:ops[i]?=some o) (hd:o.dst=some k) (hl:l.getD i false=false):fG ops l (F.put (some k) v) a:=by
 refine⟨h.defers,by simp [ZF,h.size],fun q hq=>?_⟩;by_cases e:k=q;·subst e;rw [hq i o ho hd] at hl;cases hl
 ·rw [show (F.put (some k) v).tmps[q]?=F.tmps[q]? by simp [ZF,Iw e]];exact h.slot q hq
theorem fG.all {l:Array Bool} {F a:Act} (h:fG ops l F a) (hl:∀ i,i<ops.size->l.getD i false=true):a=F:=by have e:a.tmps=F.tmps:=Array.ext_getElem? fun k=>h.slot k fun i o ho _=>hl i (aZ ho);have e2:=h.defers;obtain⟨t,d⟩:=a;obtain⟨t',d'⟩:=F;dsimp only at e e2;rw [e,e2]
theorem quiet_step {l:Array Bool} {F a:Act} {w:ZB} {i:Nat} {o:Oper} {v:ZC} {K:Act->ZB->Prop} (h:fG ops l F a) (ho:ops[i]?=some o) (hr:i∈Region.ready .any ops l) (hk:Tp ops i=true) (hs:∀ cs b,o.op≠.select cs b) (hy:YieldsIf P ops S o v F) (hv:∀ k,o.dst=some k->F.tmps[k]?=some v) (hS:S w) (hK:∀ a',fG ops (l.setIfInBounds i true) F a'->K a' w):wpOp P ops Q i K a w := (hy.of_same (h.same ho hr hk hs).1 (h.same ho hr hk hs).2).wpOp ho hS (hK _ (h.put ho hv))
theorem New {l:Array Bool} (hb:Ffi ops=true) (hs:l.size=ops.size) (h0:Region.ready .any ops l=[]):∀ i,i<ops.size->l.getD i false=true:=by
 intro i;induction i using Nat.strongRecOn with
 |ind i ih =>
  intro hi;cases hl:l.getD i false with
  |true=>rfl
  |false =>
   have ho:ops[i]?=some ops[i]:=Eo hi;have hm:i∈Region.ready .any ops l:=Jd.2 ⟨getD_in oM hl,ops[i],ho,fun e he hbd=>by
    unfold Ffi at hb;have h1:=Dj.1 hb i (Jl.2 hi);rw [Ev0 ho] at h1;have h2:e.on<i:=by have:=Array.all_eq_true_iff_forall_mem.1 h1 e he;rw [hbd] at this;simpa using this
    exact ih e.on h2 oM⟩
   rw [h0] at hm;cases hm
end
section
open CH
variable {ops:Array Oper} {S:ZB->Prop} {F:Act} {l:List Nat}
def gv (y:Bool) (v:ZC):ZC:=if y=true then ZA else v
def Qf (ops:Array Oper) (S:ZB->Prop) (F:Act) (i:Nat):Prop:=∃ k v,(ops.getD i default).dst=some k/\F.tmps[k]?=some v/\YieldsIf prog ops S (ops.getD i default) v F
abbrev Qs (ops:Array Oper) (S:ZB->Prop) (F:Act) (l:List Nat):Prop:=∀ i∈l,Qf ops S F i
def oT:Op->ZJ|.fieldAddr T _ _=>T|.load T _=>T|.binOp _ T _ _ _=>T|.call c=>c.argTypes.getD 0 0|_=>0
def oT2:Op->ZJ|.binOp _ _ _ _ T=>T|_=>0
def oX:Op->Operand|.fieldAddr _ x _=>x|.load _ x=>x|.binOp _ _ x _ _=>x|.move x=>x|.pick c _ _=>c|.call c=>c.args.getD 0 (.const ZA)|_=>.const ZA
def oY:Op->Operand|.binOp _ _ _ y _=>y|.pick _ _ y=>y|_=>.const ZA
def oF:Op->Nat|.fieldAddr _ _ f=>f|_=>0
theorem u1 (i:Nat) (y:Bool) (v:ZC) (h:y=false->∀ W,S W->(execOp F.eval (ops.getD i default)).run prog W=.ok (.value v) W) (t:Qs ops S F l) (hk:(ops.getD i default).dst=some ((ops.getD i default).dst.getD 0):=by kernel_rfl) (hv:F.tmps[(ops.getD i default).dst.getD 0]?=some (gv y v):=by kernel_rfl) (hw:Region.wanted (ops.getD i default) (yielded ops F.tmps)=(some y==some false):=by kernel_rfl):Qs ops S F (i::l) := List.forall_mem_cons.2 ⟨⟨_,_,hk,hv,Flb hw h⟩,t⟩
theorem u0 (i:Nat) (v:ZC) (h:∀ W,S W->(execOp F.eval (ops.getD i default)).run prog W=.ok (.value v) W) (t:Qs ops S F l) (hk:(ops.getD i default).dst=some ((ops.getD i default).dst.getD 0):=by kernel_rfl) (hv:F.tmps[(ops.getD i default).dst.getD 0]?=some v:=by kernel_rfl) (hw:Region.wanted (ops.getD i default) (yielded ops F.tmps)=true:=by kernel_rfl):Qs ops S F (i::l) := List.forall_mem_cons.2 ⟨⟨_,_,hk,hv,Y4 hw h⟩,t⟩
theorem xI {y:Bool} {v x:ZC} (h:x=gv y v) (e:y=false):x=v:=by rw [h,e];rfl
theorem uF (i:Nat) (y:Bool) (v:ZC) (t:Qs ops S F l) (hop:(ops.getD i default).op=.fieldAddr (oT (ops.getD i default).op) (oX (ops.getD i default).op) (oF (ops.getD i default).op):=by kernel_rfl) (hr:∀ W,(Instr.fieldAt (oT (ops.getD i default).op) (F.eval (oX (ops.getD i default).op)) (oF (ops.getD i default).op)).run prog W=.ok v W:=by exact fun _=>by kernel_rfl) (hk:(ops.getD i default).dst=some ((ops.getD i default).dst.getD 0):=by kernel_rfl) (hv:F.tmps[(ops.getD i default).dst.getD 0]?=some (gv y v):=by kernel_rfl) (hw:Region.wanted (ops.getD i default) (yielded ops F.tmps)=(some y==some false):=by kernel_rfl):Qs ops S F (i::l) := u1 i y v (fun _ W _=>Ash hop rfl (hr W)) t hk hv hw
theorem uG (i:Nat) (y:Bool) (vx v:ZC) (t:Qs ops S F l) (hop:(ops.getD i default).op=.fieldAddr (oT (ops.getD i default).op) (oX (ops.getD i default).op) (oF (ops.getD i default).op):=by kernel_rfl) (hx:F.eval (oX (ops.getD i default).op)=gv y vx:=by kernel_rfl) (hr:∀ W,(Instr.fieldAt (oT (ops.getD i default).op) vx (oF (ops.getD i default).op)).run prog W=.ok v W:=by exact fun _=>by kernel_rfl) (hk:(ops.getD i default).dst=some ((ops.getD i default).dst.getD 0):=by kernel_rfl) (hv:F.tmps[(ops.getD i default).dst.getD 0]?=some (gv y v):=by kernel_rfl) (hw:Region.wanted (ops.getD i default) (yielded ops F.tmps)=(some y==some false):=by kernel_rfl):Qs ops S F (i::l) := u1 i y v (fun e W _=>Ash hop (xI hx e) (hr W)) t hk hv hw
theorem uL (i:Nat) (y:Bool) (v:ZC) {T:ZJ} {vx:ZC} (h:∀ W,S W->(Instr.loadAt T vx).run prog W=.ok v W) (t:Qs ops S F l) (hop:(ops.getD i default).op=.load T (oX (ops.getD i default).op):=by kernel_rfl) (hx:F.eval (oX (ops.getD i default).op)=gv y vx:=by kernel_rfl) (hk:(ops.getD i default).dst=some ((ops.getD i default).dst.getD 0):=by kernel_rfl) (hv:F.tmps[(ops.getD i default).dst.getD 0]?=some (gv y v):=by kernel_rfl) (hw:Region.wanted (ops.getD i default) (yielded ops F.tmps)=(some y==some false):=by kernel_rfl):Qs ops S F (i::l) := u1 i y v (fun e W hS=>I46 hop (xI hx e) (h W hS)) t hk hv hw
theorem uB (i:Nat) (y:Bool) {v:ZC} {op:BinOp} {T:ZJ} {vx vy:ZC} (h:∀ W,(binOp op T vx vy).run prog W=.ok v W) (t:Qs ops S F l) (hop:(ops.getD i default).op=.binOp op T (oX (ops.getD i default).op) (oY (ops.getD i default).op) (oT2 (ops.getD i default).op):=by kernel_rfl) (hx:F.eval (oX (ops.getD i default).op)=gv y vx:=by kernel_rfl) (hy:F.eval (oY (ops.getD i default).op)=vy:=by kernel_rfl) (hg:∀ W,(eqGuard op T (oX (ops.getD i default).op) (oY (ops.getD i default).op) vx vy).run prog W=.ok () W:=by exact fun _=>by kernel_rfl) (hk:(ops.getD i default).dst=some ((ops.getD i default).dst.getD 0):=by kernel_rfl) (hv:F.tmps[(ops.getD i default).dst.getD 0]?=some (gv y v):=by kernel_rfl) (hw:Region.wanted (ops.getD i default) (yielded ops F.tmps)=(some y==some false):=by kernel_rfl):Qs ops S F (i::l) := u1 i y v (fun e W _=>Mzr hop (xI hx e) hy (hg W) (h W)) t hk hv hw
theorem un (i:Nat) (y:Bool) (s:Option Addr) (n c:Nat) {T e:ZJ} (hu:prog.underlying T=some (.slice e)) (t:Qs ops S F l) (hop:(ops.getD i default).op=.call { callee:=.builtin .len,args:=#[oX (ops.getD i default).op],argTypes:=#[T] }:=by kernel_rfl) (hx:F.eval (oX (ops.getD i default).op)=gv y (.slice s n c):=by kernel_rfl) (hk:(ops.getD i default).dst=some ((ops.getD i default).dst.getD 0):=by kernel_rfl) (hv:F.tmps[(ops.getD i default).dst.getD 0]?=some (gv y ↑n):=by kernel_rfl) (hw:Region.wanted (ops.getD i default) (yielded ops F.tmps)=(some y==some false):=by kernel_rfl):Qs ops S F (i::l) := u1 i y ↑n (fun e W _=>Raw hu hop (xI hx e)) t hk hv hw
theorem uf (i:Nat) (v:ZC) (t:Qs ops S F l) (hop:(ops.getD i default).op=.fieldAddr (oT (ops.getD i default).op) (oX (ops.getD i default).op) (oF (ops.getD i default).op):=by kernel_rfl) (hr:∀ W,(Instr.fieldAt (oT (ops.getD i default).op) (F.eval (oX (ops.getD i default).op)) (oF (ops.getD i default).op)).run prog W=.ok v W:=by exact fun _=>by kernel_rfl) (hk:(ops.getD i default).dst=some ((ops.getD i default).dst.getD 0):=by kernel_rfl) (hv:F.tmps[(ops.getD i default).dst.getD 0]?=some v:=by kernel_rfl) (hw:Region.wanted (ops.getD i default) (yielded ops F.tmps)=true:=by kernel_rfl):Qs ops S F (i::l) := u0 i v (fun W _=>Ash hop rfl (hr W)) t hk hv hw
theorem ul (i:Nat) (v:ZC) {T:ZJ} {vx:ZC} (h:∀ W,S W->(Instr.loadAt T vx).run prog W=.ok v W) (t:Qs ops S F l) (hop:(ops.getD i default).op=.load T (oX (ops.getD i default).op):=by kernel_rfl) (hx:F.eval (oX (ops.getD i default).op)=vx:=by kernel_rfl) (hk:(ops.getD i default).dst=some ((ops.getD i default).dst.getD 0):=by kernel_rfl) (hv:F.tmps[(ops.getD i default).dst.getD 0]?=some v:=by kernel_rfl) (hw:Region.wanted (ops.getD i default) (yielded ops F.tmps)=true:=by kernel_rfl):Qs ops S F (i::l) := u0 i v (fun W hS=>I46 hop hx (h W hS)) t hk hv hw
theorem ub (i:Nat) {v:ZC} {op:BinOp} {T:ZJ} {vx vy:ZC} (h:∀ W,(binOp op T vx vy).run prog W=.ok v W) (t:Qs ops S F l) (hop:(ops.getD i default).op=.binOp op T (oX (ops.getD i default).op) (oY (ops.getD i default).op) (oT2 (ops.getD i default).op):=by kernel_rfl) (hx:F.eval (oX (ops.getD i default).op)=vx:=by kernel_rfl) (hy:F.eval (oY (ops.getD i default).op)=vy:=by kernel_rfl) (hg:∀ W,(eqGuard op T (oX (ops.getD i default).op) (oY (ops.getD i default).op) vx vy).run prog W=.ok () W:=by exact fun _=>by kernel_rfl) (hk:(ops.getD i default).dst=some ((ops.getD i default).dst.getD 0):=by kernel_rfl) (hv:F.tmps[(ops.getD i default).dst.getD 0]?=some v:=by kernel_rfl) (hw:Region.wanted (ops.getD i default) (yielded ops F.tmps)=true:=by kernel_rfl):Qs ops S F (i::l) := u0 i v (fun W _=>Mzr hop hx hy (hg W) (h W)) t hk hv hw
theorem um (i:Nat) (t:Qs ops S F l) (hop:(ops.getD i default).op=.move (oX (ops.getD i default).op):=by kernel_rfl) (hk:(ops.getD i default).dst=some ((ops.getD i default).dst.getD 0):=by kernel_rfl) (hv:F.tmps[(ops.getD i default).dst.getD 0]?=some (F.eval (oX (ops.getD i default).op)):=by kernel_rfl) (hw:Region.wanted (ops.getD i default) (yielded ops F.tmps)=true:=by kernel_rfl):Qs ops S F (i::l) := u0 i _ (fun W _=>I45 hop rfl) t hk hv hw
theorem up (i:Nat) (b x:Bool) (t:Qs ops S F l) (hop:(ops.getD i default).op=.pick (oX (ops.getD i default).op) (.const (.bool true)) (oY (ops.getD i default).op):=by kernel_rfl) (hc:F.eval (oX (ops.getD i default).op)=.bool b:=by kernel_rfl) (hy:F.eval (oY (ops.getD i default).op)=gv b (.bool x):=by kernel_rfl) (hk:(ops.getD i default).dst=some ((ops.getD i default).dst.getD 0):=by kernel_rfl) (hv:F.tmps[(ops.getD i default).dst.getD 0]?=some (.bool (b||x)):=by kernel_rfl) (hw:Region.wanted (ops.getD i default) (yielded ops F.tmps)=true:=by kernel_rfl):Qs ops S F (i::l) := u0 i (.bool (b||x)) (fun W _=>(I44 hop hc rfl hy).trans (by cases b <;> rfl)) t hk hv hw
theorem uk (i:Nat) (v:ZC) (hr:∀ W,(execOp F.eval (ops.getD i default)).run prog W=.ok (.value v) W) (t:Qs ops S F l) (hk:(ops.getD i default).dst=some ((ops.getD i default).dst.getD 0):=by kernel_rfl) (hv:F.tmps[(ops.getD i default).dst.getD 0]?=some v:=by kernel_rfl) (hw:Region.wanted (ops.getD i default) (yielded ops F.tmps)=true:=by kernel_rfl):Qs ops S F (i::l) := u0 i v (fun W _=>hr W) t hk hv hw
end
def Kn1 (ops:Array Oper) (F:Act):Act:={ F with tmps:=(F.tmps.toList.zipIdx.map fun p=>if ops.any (fun o=>o.dst==some p.2) then ZA else p.1).toArray }
theorem fG.start {ops:Array Oper} {l:Array Bool} {F:Act} (h:∀ i,l.getD i false=false):fG ops l F (Kn1 ops F):=by
 refine⟨rfl,by simp [Kn1],fun k hk=>?_⟩;have hn:ops.any (fun o=>o.dst==some k)=false:=by rw [Bool.eq_false_iff];intro he;obtain⟨i,hi,h2⟩:=Array.any_eq_true.1 he;have:=hk i ops[i] (Eo hi) (by simpa using h2);rw [h i] at this;cases this
 simp only [Kn1,Hy,Es,List.getElem?_zipIdx,Jv];have hn':∀ z:Nat,z=k->ops.any (fun o=>o.dst==some z)=false:=fun z e=>by rw [e,hn]
 cases F.tmps[k]? with
 |none=>rfl
 |some u =>simp only [Gz];rw [hn' _ oM];rfl
end
section
open Go.Lib Go.Proofs.Tryz Go.RowKit Go.Shelf Go.Sort CH
section
open CH
variable {P:Program} {ops:Array Oper} {a:Act} {o:Oper} {Q:Exit->Act->ZB->Prop} {K:Act->ZB->Prop}
theorem Ta {i:Nat} {v:ZC} {w w':ZB} (hi:ops[i]?=some o) (hw:Region.wanted o (yielded ops a.tmps)=true) (hr:(execOp a.eval o).run P w=.ok (.value v) w') (h:K (a.put o.dst v) w'):wpOp P ops Q i K a w:=by unfold wpOp;simp only [hi,hw,if_true,Oper.wp,hr,Oper.upon];exact .inl h
theorem Ch5 {i:Nat} {w w':ZB} (hi:ops[i]?=some o) (hw:Region.wanted o (yielded ops a.tmps)=true) (hr:(execOp a.eval o).run P w=.ok .skip w') (h:K (a.put o.dst ZA) w'):wpOp P ops Q i K a w:=by unfold wpOp;simp only [hi,hw,if_true,Oper.wp,hr,Oper.upon];exact .inl h
theorem Hnd {i f:Nat} {args:Array ZC} {w:ZB} {v:ZC} (hi:ops[i]?=some o) (hw:Region.wanted o (yielded ops a.tmps)=true) (hr:(execOp a.eval o).run P w=.ok (.enter f args) w) (hc:Calls P f args w (Ret w v)) (h:∀ w',Below w w w'->K (a.put o.dst v) w'):wpOp P ops Q i K a w:=by unfold wpOp;simp only [hi,hw,if_true,Oper.wp,hr,Oper.upon];exact .inl (hc.mono fun e w' ⟨he,hb⟩=>by subst he;exact h w' hb)
theorem Len {T:ZJ} {m k x:Operand} {vm vk vx:ZC} {w w':ZB} (hop:o.op=.insert T m k x) (hm:a.eval m=vm) (hk:a.eval k=vk) (hx:a.eval x=vx) (hr:(Instr.mapUpdate T vm vk vx).run P w=.ok () w'):(execOp a.eval o).run P w=.ok .skip w':=by unfold execOp;simp [hop,hm,hk,hx,hr]
end
theorem I21 {P:Program} {o:Oper} {a:Act} {T:ZJ} {w:ZB} {v:ZC} {w':ZB} (hop:o.op=.makeMap T none) (hr:(Instr.makeMap T none).run P w=.ok v w'):(execOp a.eval o).run P w=.ok (.value v) w':=by unfold execOp;simp [hop,hr]
theorem C10 {P:Program} {o:Oper} {a:Act} {x:Operand} {v:ZC} {w:ZB} (hop:o.op=.assign x) (hx:a.eval x=v):(execOp a.eval o).run P w=.ok (.value v) w:=by unfold execOp;simp [hop,hx]
noncomputable def dW:Array Oper:=((Tryz.f44.body).bind (Fl · 2)).getD #[]
noncomputable abbrev Yf (i:Nat):Oper:=dW.getD i default
def Pt:Array Bool:=Array.replicate 123 false
theorem Era {w:ZB} {b:Nat} {m0 m1 m2 m3 m4 m5 m6 m7 m8 m9 m10 m11:ZC} (h:∀ i,w.cell? ⟨b,i,none⟩=#[m0,m1,m2,m3,m4,m5,m6,m7,m8,m9,m10,m11][i]?):(Instr.loadAt 60 (.pointer (some ⟨b,0,none⟩))).run prog w=.ok (.agg #[m0,m1,m2,m3,m4,m5,m6,m7,m8,m9,m10,m11]) w:=by go_simp
structure UnD where
 kd:ZC
 ck:Int
 ci:Q00
 ei:Q00
 an:Option Addr
 nn:Nat
 cn:Nat
 cp:Int
 m0:ZC
 m1:ZC
 m2:ZC
 m3:ZC
 m4:ZC
 m5:ZC
 m6:ZC
 m7:ZC
 m8:ZC
 m9:ZC
 m10:ZC
 m11:ZC
 li:Q00
 am:Option Addr
 nm:Nat
 cm:Nat
 ap:Option Addr
 np:Nat
 cq:Nat
 lq:Int
 lu:Int
 lf:Int
 lt:Int
 h0:Q00
 h1:Q00
 h2:Q00
 h3:Q00
 h4:Q00
 aj:Option Addr
 nj:Nat
 cj:Nat
 h6:Int
 h7:Int
 h8:Int
 h9:Int
 id:Q00
 n:Int
 named:Bool
def UnD.xc1 (d:UnD):Bool:=(d.ck != 0)
def UnD.xc2 (d:UnD):Bool:=(d.ci != [])
def UnD.yc2 (d:UnD):Bool:=(d.xc1)||(d.xc2)
def UnD.xc3 (d:UnD):Bool:=(d.cp != 0)
def UnD.yc3 (d:UnD):Bool:=(d.yc2)||(d.xc3)
def UnD.xc4 (d:UnD):Bool:=(d.ei != [])
def UnD.yc4 (d:UnD):Bool:=(d.yc3)||(d.xc4)
def UnD.xc5 (d:UnD):Bool:=decide (0<d.nn)
def UnD.yc5 (d:UnD):Bool:=(d.yc4)||(d.xc5)
def UnD.xl1 (d:UnD):Bool:=(d.li != [])
def UnD.xl2 (d:UnD):Bool:=decide (0<d.nm)
def UnD.yl2 (d:UnD):Bool:=(d.xl1)||(d.xl2)
def UnD.xl3 (d:UnD):Bool:=decide (0<d.np)
def UnD.yl3 (d:UnD):Bool:=(d.yl2)||(d.xl3)
def UnD.xl4 (d:UnD):Bool:=(d.lq != 0)
def UnD.yl4 (d:UnD):Bool:=(d.yl3)||(d.xl4)
def UnD.xl5 (d:UnD):Bool:=(d.lu != 0)
def UnD.yl5 (d:UnD):Bool:=(d.yl4)||(d.xl5)
def UnD.xl6 (d:UnD):Bool:=(d.lf != 0)
def UnD.yl6 (d:UnD):Bool:=(d.yl5)||(d.xl6)
def UnD.xl7 (d:UnD):Bool:=(d.lt != 0)
def UnD.yl7 (d:UnD):Bool:=(d.yl6)||(d.xl7)
def UnD.xh1 (d:UnD):Bool:=(d.h0 != [])
def UnD.xh2 (d:UnD):Bool:=(d.h1 != [])
def UnD.yh2 (d:UnD):Bool:=(d.xh1)||(d.xh2)
def UnD.xh3 (d:UnD):Bool:=(d.h2 != [])
def UnD.yh3 (d:UnD):Bool:=(d.yh2)||(d.xh3)
def UnD.xh4 (d:UnD):Bool:=(d.h3 != [])
def UnD.yh4 (d:UnD):Bool:=(d.yh3)||(d.xh4)
def UnD.xh5 (d:UnD):Bool:=(d.h4 != [])
def UnD.yh5 (d:UnD):Bool:=(d.yh4)||(d.xh5)
def UnD.xh6 (d:UnD):Bool:=decide (0<d.nj)
def UnD.yh6 (d:UnD):Bool:=(d.yh5)||(d.xh6)
def UnD.xh7 (d:UnD):Bool:=(d.h6 != 0)
def UnD.yh7 (d:UnD):Bool:=(d.yh6)||(d.xh7)
def UnD.xh8 (d:UnD):Bool:=(d.h7 != 0)
def UnD.yh8 (d:UnD):Bool:=(d.yh7)||(d.xh8)
def UnD.xh9 (d:UnD):Bool:=(d.h8 != 0)
def UnD.yh9 (d:UnD):Bool:=(d.yh8)||(d.xh9)
def UnD.CU (d:UnD):Bool:=(d.h9 != 0)
def UnD.zQ (d:UnD):Bool:=(d.yh9)||(d.CU)
def xU (d:UnD):Array ZC:=#[↑d.ck,↑d.ci,↑d.ei,.slice d.an d.nn d.cn,↑d.cp]
def oZ (d:UnD):Array ZC:=#[d.m0,d.m1,d.m2,d.m3,d.m4,d.m5,d.m6,d.m7,d.m8,d.m9,d.m10,d.m11]
def xQ (d:UnD):Array ZC:=#[↑d.li,.slice d.am d.nm d.cm,.slice d.ap d.np d.cq,↑d.lq,↑d.lu,↑d.lf,↑d.lt]
def xR (d:UnD):Array ZC:=#[↑d.h0,↑d.h1,↑d.h2,↑d.h3,↑d.h4,.slice d.aj d.nj d.cj,↑d.h6,↑d.h7,↑d.h8,↑d.h9]
def nK (d:UnD):Array ZC:=#[d.kd,↑d.ck,↑d.ci,↑d.ei,.slice d.an d.nn d.cn,↑d.cp,d.m0,d.m1,d.m2,d.m3,d.m4,d.m5,d.m6,d.m7,d.m8,d.m9,d.m10,d.m11,↑d.li,.slice d.am d.nm d.cm,.slice d.ap d.np d.cq,↑d.lq,↑d.lu,↑d.lf,↑d.lt,↑d.h0,↑d.h1,↑d.h2,↑d.h3,↑d.h4,.slice d.aj d.nj d.cj,↑d.h6,↑d.h7,↑d.h8,↑d.h9,↑d.id,↑d.n]
structure UnP where
 p3:Nat
 p4:Nat
 p5:Nat
 p6:Nat
 B:Nat
 t:Nat->ZC
structure UnS (d:UnD) (p:UnP) (W:ZB):Prop where
 c:∀ i,W.cell? ⟨p.p3,i,none⟩=(xU d)[i]?
 m:∀ i,W.cell? ⟨p.p4,i,none⟩=(oZ d)[i]?
 l:∀ i,W.cell? ⟨p.p5,i,none⟩=(xQ d)[i]?
 h:∀ i,W.cell? ⟨p.p6,i,none⟩=(xR d)[i]?
def unQ:List Nat:=[1,2,3,4,5,6,7,8,9,10,11,12,13,14,15,16,17,18,19,20,21,22,23,24,25,26,28,29,31,33,34,35,36,37,38,39,40,41,42,43,44,45,46,47,48,49,50,51,52,53,54,55,56,57,58,59,60,61,62,63,64,65,66,67,69,70,71,72,73,74,75,76,77,78,79,80,81,82,83,84,85,86,87,88,89,90,91,92,93,94,95,96,97,98,99,100,101,102,103,104,105,106,107,108,109,110,111,112,113,114,115,116,117,119]
def P3 (p:UnP) (i:Nat):ZC:=.pointer (some ⟨p.p3,i,none⟩)
def P4 (p:UnP) (i:Nat):ZC:=.pointer (some ⟨p.p4,i,none⟩)
def P5 (p:UnP) (i:Nat):ZC:=.pointer (some ⟨p.p5,i,none⟩)
def P6 (p:UnP) (i:Nat):ZC:=.pointer (some ⟨p.p6,i,none⟩)
def unH (d:UnD) (p:UnP) (z:Bool) (v28 gq v8:ZC):Act:={ tmps:=([.agg (nK d),.pointer (some ⟨p.B,0,none⟩),.bool false,P3 p 0,P4 p 0,P5 p 0,P6 p 0,.bool d.named,v8,ZA,ZA,ZA,p.t 12,p.t 13,p.t 14,p.t 15,p.t 16,p.t 17,p.t 18,p.t 19,p.t 20,p.t 21,p.t 22,p.t 23,p.t 24,p.t 25,p.t 26,p.t 27,v28,P3 p 0,↑d.ck,.bool d.xc1,.bool d.xc1,gv d.xc1 (P3 p 1),gv d.xc1 ↑d.ci,gv d.xc1 (.bool d.xc2),.bool d.yc2,.bool d.yc2,gv d.yc2 (P3 p 4),gv d.yc2 ↑d.cp,gv d.yc2 (.bool d.xc3),.bool d.yc3,.bool d.yc3,gv d.yc3 (P3 p 2),gv d.yc3 (P3 p 2),gv d.yc3 ↑d.ei,gv d.yc3 (.bool d.xc4),.bool d.yc4,.bool d.yc4,gv d.yc4 (P3 p 2),gv d.yc4 (P3 p 3),gv d.yc4 (.slice d.an d.nn d.cn),gv d.yc4 ↑d.nn,gv d.yc4 (.bool d.xc5),.bool d.yc5,.agg (oZ d),.agg Fk,.bool z,.bool (!z),P5 p 0,↑d.li,.bool d.xl1,.bool d.xl1,gv d.xl1 (P5 p 1),gv d.xl1 (.slice d.am d.nm d.cm),gv d.xl1 ↑d.nm,gv d.xl1 (.bool d.xl2),.bool d.yl2,.bool d.yl2,gv d.yl2 (P5 p 2),gv d.yl2 (.slice d.ap d.np d.cq),gv d.yl2 ↑d.np,gv d.yl2 (.bool d.xl3),.bool d.yl3,.bool d.yl3,gv d.yl3 (P5 p 3),gv d.yl3 ↑d.lq,gv d.yl3 (.bool d.xl4),.bool d.yl4,.bool d.yl4,gv d.yl4 (P5 p 4),gv d.yl4 ↑d.lu,gv d.yl4 (.bool d.xl5),.bool d.yl5,.bool d.yl5,gv d.yl5 (P5 p 5),gv d.yl5 ↑d.lf,gv d.yl5 (.bool d.xl6),.bool d.yl6,.bool d.yl6,gv d.yl6 (P5 p 6),gv d.yl6 ↑d.lt,gv d.yl6 (.bool d.xl7),.bool d.yl7,P6 p 0,↑d.h0,.bool d.xh1,.bool d.xh1,gv d.xh1 (P6 p 1),gv d.xh1 ↑d.h1,gv d.xh1 (.bool d.xh2),.bool d.yh2,.bool d.yh2,gv d.yh2 (P6 p 2),gv d.yh2 ↑d.h2,gv d.yh2 (.bool d.xh3),.bool d.yh3,.bool d.yh3,gv d.yh3 (P6 p 3),gv d.yh3 ↑d.h3,gv d.yh3 (.bool d.xh4),.bool d.yh4,.bool d.yh4,gv d.yh4 (P6 p 4),gv d.yh4 ↑d.h4,gv d.yh4 (.bool d.xh5),.bool d.yh5,.bool d.yh5,gv d.yh5 (P6 p 5),gv d.yh5 (.slice d.aj d.nj d.cj),gv d.yh5 ↑d.nj,gv d.yh5 (.bool d.xh6),.bool d.yh6,.bool d.yh6,gv d.yh6 (P6 p 6),gv d.yh6 ↑d.h6,gv d.yh6 (.bool d.xh7),.bool d.yh7,.bool d.yh7,gv d.yh7 (P6 p 7),gv d.yh7 ↑d.h7,gv d.yh7 (.bool d.xh8),.bool d.yh8,.bool d.yh8,gv d.yh8 (P6 p 8),gv d.yh8 ↑d.h8,gv d.yh8 (.bool d.xh9),.bool d.yh9,.bool d.yh9,gv d.yh9 (P6 p 9),gv d.yh9 ↑d.h9,gv d.yh9 (.bool d.CU),.bool d.zQ,.bool d.named,gq]++List.replicate 23 ZA).toArray,defers:=[] }
noncomputable def vP (d:UnD) (p:UnP):Act:=Kn1 dW (unH d p true ZA ZA ZA)
theorem yH {i:Nat} (h:i<123):dW[i]?=some (Yf i):=by have hs:dW.size=123:=kR;unfold Yf;rw [Gq,Eo oM];rfl
section
open CH
variable {d:UnD} {p:UnP} {z:Bool} {v28 gq v8:ZC}
theorem Lzv (d:UnD) (p:UnP) (z:Bool) (v28 gq v8:ZC):Qs dW (UnS d p) (unH d p z v28 gq v8) unQ := uf 1 (P3 p 0) <| ul 2 ↑d.ck (fun _ h=>Kg (h.c 0)) <| ub 3 (Kf d.ck) <| um 4 <| uF 5 d.xc1 (P3 p 1) <| uL 6 d.xc1 ↑d.ci (fun _ h=>Mo (h.c 1)) <| uB 7 d.xc1 (Mm d.ci) <| up 8 d.xc1 d.xc2 <| um 9 <| uF 10 d.yc2 (P3 p 4) <| uL 11 d.yc2 ↑d.cp (fun _ h=>Kg (h.c 4)) <| uB 12 d.yc2 (Kf d.cp) <| up 13 d.yc2 d.xc3 <| um 14 <| uF 15 d.yc3 (P3 p 2) <| uG 16 d.yc3 (P3 p 2) (P3 p 2) <| uL 17 d.yc3 ↑d.ei (fun _ h=>Mo (h.c 2)) <| uB 18 d.yc3 (Mm d.ei) <| up 19 d.yc3 d.xc4 <| um 20 <| uF 21 d.yc4 (P3 p 2) <| uG 22 d.yc4 (P3 p 2) (P3 p 3) <| uL 23 d.yc4 (.slice d.an d.nn d.cn) (fun _ h=>I05 (h.c 3)) <| un 24 d.yc4 d.an d.nn d.cn underlying51 <| uB 25 d.yc4 (U9 d.nn) <| up 26 d.yc4 d.xc5 <| ul 28 (.agg (oZ d)) (fun _ h=>Era h.m) <| uk 29 (.agg Fk) (fun _=>by kernel_rfl) <| uk 31 (.bool (!z)) (fun _=>by kernel_rfl) <| uf 33 (P5 p 0) <| ul 34 ↑d.li (fun _ h=>Mo (h.l 0)) <| ub 35 (Mm d.li) <| um 36 <| uF 37 d.xl1 (P5 p 1) <| uL 38 d.xl1 (.slice d.am d.nm d.cm) (fun _ h=>Wy (h.l 1)) <| un 39 d.xl1 d.am d.nm d.cm underlying23 <| uB 40 d.xl1 (U9 d.nm) <| up 41 d.xl1 d.xl2 <| um 42 <| uF 43 d.yl2 (P5 p 2) <| uL 44 d.yl2 (.slice d.ap d.np d.cq) (fun _ h=>Wy (h.l 2)) <| un 45 d.yl2 d.ap d.np d.cq underlying23 <| uB 46 d.yl2 (U9 d.np) <| up 47 d.yl2 d.xl3 <| um 48 <| uF 49 d.yl3 (P5 p 3) <| uL 50 d.yl3 ↑d.lq (fun _ h=>Kg (h.l 3)) <| uB 51 d.yl3 (Kf d.lq) <| up 52 d.yl3 d.xl4 <| um 53 <| uF 54 d.yl4 (P5 p 4) <| uL 55 d.yl4 ↑d.lu (fun _ h=>Kg (h.l 4)) <| uB 56 d.yl4 (Kf d.lu) <| up 57 d.yl4 d.xl5 <| um 58 <| uF 59 d.yl5 (P5 p 5) <| uL 60 d.yl5 ↑d.lf (fun _ h=>Kg (h.l 5)) <| uB 61 d.yl5 (Kf d.lf) <| up 62 d.yl5 d.xl6 <| um 63 <| uF 64 d.yl6 (P5 p 6) <| uL 65 d.yl6 ↑d.lt (fun _ h=>Kg (h.l 6)) <| uB 66 d.yl6 (Kf d.lt) <| up 67 d.yl6 d.xl7 <| uf 69 (P6 p 0) <| ul 70 ↑d.h0 (fun _ h=>Mo (h.h 0)) <| ub 71 (Mm d.h0) <| um 72 <| uF 73 d.xh1 (P6 p 1) <| uL 74 d.xh1 ↑d.h1 (fun _ h=>Mo (h.h 1)) <| uB 75 d.xh1 (Mm d.h1) <| up 76 d.xh1 d.xh2 <| um 77 <| uF 78 d.yh2 (P6 p 2) <| uL 79 d.yh2 ↑d.h2 (fun _ h=>Mo (h.h 2)) <| uB 80 d.yh2 (Mm d.h2) <| up 81 d.yh2 d.xh3 <| um 82 <| uF 83 d.yh3 (P6 p 3) <| uL 84 d.yh3 ↑d.h3 (fun _ h=>Mo (h.h 3)) <| uB 85 d.yh3 (Mm d.h3) <| up 86 d.yh3 d.xh4 <| um 87 <| uF 88 d.yh4 (P6 p 4) <| uL 89 d.yh4 ↑d.h4 (fun _ h=>Mo (h.h 4)) <| uB 90 d.yh4 (Mm d.h4) <| up 91 d.yh4 d.xh5 <| um 92 <| uF 93 d.yh5 (P6 p 5) <| uL 94 d.yh5 (.slice d.aj d.nj d.cj) (fun _ h=>Wy (h.h 5)) <| un 95 d.yh5 d.aj d.nj d.cj underlying23 <| uB 96 d.yh5 (U9 d.nj) <| up 97 d.yh5 d.xh6 <| um 98 <| uF 99 d.yh6 (P6 p 6) <| uL 100 d.yh6 ↑d.h6 (fun _ h=>Kg (h.h 6)) <| uB 101 d.yh6 (Kf d.h6) <| up 102 d.yh6 d.xh7 <| um 103 <| uF 104 d.yh7 (P6 p 7) <| uL 105 d.yh7 ↑d.h7 (fun _ h=>Kg (h.h 7)) <| uB 106 d.yh7 (Kf d.h7) <| up 107 d.yh7 d.xh8 <| um 108 <| uF 109 d.yh8 (P6 p 8) <| uL 110 d.yh8 ↑d.h8 (fun _ h=>Kg (h.h 8)) <| uB 111 d.yh8 (Kf d.h8) <| up 112 d.yh8 d.xh9 <| um 113 <| uF 114 d.yh9 (P6 p 9) <| uL 115 d.yh9 ↑d.h9 (fun _ h=>Kg (h.h 9)) <| uB 116 d.yh9 (Kf d.h9) <| up 117 d.yh9 d.CU <| um 119 <| List.forall_mem_nil _
end
def iV (d:UnD) (z:Bool):List (Nat × Int × Bool):=[(27,1,d.yc5),(32,2,!z),(68,4,d.yl7),(118,6,d.zQ),(120,7,d.named)]
structure Ent (d:UnD) (z:Bool) (kx:Array Bool) (kvs:List (Int × ZC)):Prop where
 nodup:(kvs.map (·.1)).Nodup
 mem:∀ k v,(k,v)∈kvs↔∃ i b,(i,k,b)∈iV d z/\kx.getD i false=true/\v=.bool b
structure UnJ (d:UnD) (p:UnP) (z:Bool) (X:ZB) (kx:Array Bool) (a:Act) (w:ZB):Prop where
 size:kx.size=123
 below:Below X X w
 first:∀ i,i∈[27,32,68,118,120,121,122]->kx.getD i false=true->kx.getD 0 false=true
 second:kx.getD 122 false=true->kx.getD 121 false=true
 frame:∃ v28 gq v8,fG dW kx (unH d p z v28 gq v8) a/\(kx.getD 0 false=true->∃ r kvs,v28=.map (some r)/\X.heap.size<=r/\Cq aI r w kvs/\Ent d z kx kvs)/\(kx.getD 121 false=true->gq=v28)/\(kx.getD 122 false=true->v8=v28)
theorem UnS.below {d:UnD} {p:UnP} {B:Nat} {w w':ZB} (h:UnS d p w) (hb:Below B w w') (hp:p.p3<B/\p.p4<B/\p.p5<B/\p.p6<B):UnS d p w' := ⟨fun i=>(hb.cell (p:=⟨p.p3,i,none⟩) hp.1).trans (h.c i),fun i=>(hb.cell (p:=⟨p.p4,i,none⟩) hp.2.1).trans (h.m i),fun i=>(hb.cell (p:=⟨p.p5,i,none⟩) hp.2.2.1).trans (h.l i),fun i=>(hb.cell (p:=⟨p.p6,i,none⟩) hp.2.2.2).trans (h.h i)⟩
theorem iC {l:Array Bool} {i:Nat} (h:i<l.size):(l.setIfInBounds i true).getD i false=true:=by simp [h]
theorem I59 (d:UnD) (p:UnP) (z:Bool) (v28 gq v8 u:ZC):(unH d p z v28 gq v8).put (some 28) u=unH d p z u gq v8:=kR
theorem Hvm (d:UnD) (p:UnP) (z:Bool) (v28 gq v8 u:ZC):(unH d p z v28 gq v8).put (some 144) u=unH d p z v28 u v8:=kR
theorem L34 (d:UnD) (p:UnP) (z:Bool) (v28 gq v8 u:ZC):(unH d p z v28 gq v8).put (some 8) u=unH d p z v28 gq u:=kR
theorem Hte:dW.size=123:=kR
theorem L3b:((List.range 123).all (Tp dW))=true:=kR
theorem P9 {i:Nat} (h:i<123):Tp dW i=true:=Dj.1 L3b i (Jl.2 h)
theorem Ww {k:Int}:∀ (kvs:List (Int × ZC)) (i:Nat),(∀ v,(k,v) ∉ kvs)->Bp k kvs i=none
 |[],_,_=>rfl
 |(a,v)::l,i,h=>by
  have hne:(k==a)=false:=by
   rw [Dl]
   rintro rfl
   exact h v sM
  rw [Bp,hne]
  exact Ww l (i+1) fun v hv=>h v (Bv _ hv)
set_option maxRecDepth 10000 in
theorem I58 {d:UnD} {z:Bool} {i j:Nat} {k:Int} {b c:Bool} (h1:(i,k,b)∈iV d z) (h2:(j,k,c)∈iV d z):i=j/\b=c:=by simp only [iV,Az,Bo,Ey,Ib] at h1 h2;rcases h1 with⟨rfl,rfl,rfl⟩|⟨rfl,rfl,rfl⟩|⟨rfl,rfl,rfl⟩|⟨rfl,rfl,rfl⟩|⟨rfl,rfl,rfl⟩ <;> rcases h2 with⟨rfl,h,rfl⟩|⟨rfl,h,rfl⟩|⟨rfl,h,rfl⟩|⟨rfl,h,rfl⟩|⟨rfl,h,rfl⟩ <;> first|exact⟨rfl,rfl⟩|(exact absurd h dC)
set_option maxRecDepth 10000 in
theorem Qc {d:UnD} {z:Bool} {i:Nat} {k:Int} {b:Bool} (h:(i,k,b)∈iV d z):i∈[27,32,68,118,120]:=by simp only [iV,Az,Bo,Ey,Ib] at h;rcases h with⟨rfl,_⟩|⟨rfl,_⟩|⟨rfl,_⟩|⟨rfl,_⟩|⟨rfl,_⟩ <;> decide
theorem Ch {l:Array Bool} {i j:Nat} (h:(l.setIfInBounds i true).getD j false=true) (hne:i≠j):l.getD j false=true:=by rwa [getD_set_ne false hne] at h
theorem Ent.other {d:UnD} {z:Bool} {kx:Array Bool} {kvs:List (Int × ZC)} (h:Ent d z kx kvs) {i:Nat} (hi:i ∉ [27,32,68,118,120]):Ent d z (kx.setIfInBounds i true) kvs:=by
 refine⟨h.nodup,fun k v=>?_⟩;rw [h.mem];constructor;·rintro⟨j,b,hj,hl,e⟩;exact⟨j,b,hj,Ia hl,e⟩
 ·rintro⟨j,b,hj,hl,e⟩;exact⟨j,b,hj,Ch hl fun e'=>hi (e' ▸ Qc hj),e⟩
section
open CH
variable {d:UnD} {p:UnP} {z:Bool} {X:ZB} {Q:Exit->Act->ZB->Prop} {kx:Array Bool} {a:Act} {w:ZB}
theorem UnJ.next {v28 gq v8:ZC} {w':ZB} {i:Nat} {a':Act} (hJ:UnJ d p z X kx a w) (hf:(kx.getD 0 false=true->∃ r kvs,v28=.map (some r)/\X.heap.size<=r/\Cq aI r w kvs/\Ent d z kx kvs)/\(kx.getD 121 false=true->gq=v28)/\(kx.getD 122 false=true->v8=v28)) (hb:Below w w w') (hi:i ∉ [0,27,32,68,118,120,121,122]) (hA:fG dW (kx.setIfInBounds i true) (unH d p z v28 gq v8) a'):UnJ d p z X (kx.setIfInBounds i true) a' w':=by have hn:∀ j,j∈[0,27,32,68,118,120,121,122]->i≠j:=fun j hj e=>hi (e ▸ hj);obtain⟨h2,h3,h4⟩:=hf;refine⟨by simp [hJ.size],hJ.below.trans (hb.mono hJ.below.size),fun j hj hl=>Ia (hJ.first j hj (Ch hl (hn j (Bv _ hj)))),fun hl=>Ia (hJ.second (Ch hl (hn 122 dC))),v28,gq,v8,hA,fun hl=>?_,fun hl=>h3 (Ch hl (hn 121 dC)),fun hl=>h4 (Ch hl (hn 122 dC))⟩;obtain⟨r,kvs,e,hr,hm,hE⟩:=h2 (Ch hl (hn 0 dC));exact⟨r,kvs,e,hr,hm.below hb,hE.other fun h=>hn i (by revert h;simp only [Az,Bo,Ey];omega) rfl⟩
theorem Sn (i:Nat) (k:Int) (b:Bool) (s:Nat) (hp:p.p3<X.heap.size/\p.p4<X.heap.size/\p.p5<X.heap.size/\p.p6<X.heap.size) (hS:UnS d p X) (hr:i∈Region.ready .any dW kx) (hJ:UnJ d p z X kx a w) (hin:(i,k,b)∈iV d z) (hlt:i<123:=by decide) (hop:(Yf i).op=.insert 172 (.tmp 28) (.const ↑k) (.tmp s):=by kernel_rfl) (hd:(Yf i).dst=none:=by kernel_rfl) (hw:Region.waitsFor .any dW i 0=true:=by kernel_rfl) (hg:∀ v28 gq v8,Region.wanted (Yf i) (yielded dW (unH d p z v28 gq v8).tmps)=true:=by exact fun _ _ _=>by kernel_rfl) (h28:∀ v28 gq v8,(unH d p z v28 gq v8).eval (.tmp 28)=v28:=by exact fun _ _ _=>by kernel_rfl) (hx:∀ v28 gq v8,(unH d p z v28 gq v8).eval (.tmp s)=.bool b:=by exact fun _ _ _=>by kernel_rfl):wpOp prog dW Q i (fun a' w'=>UnS d p w'/\UnJ d p z X (kx.setIfInBounds i true) a' w') a w:=by
 have h0:=Vn hr hw;have ho:=yH hlt;have hun:kx.getD i false=false:=getD_both (Jd.1 hr).1;obtain⟨v28,gq,v8,hA,hm,h1,h2⟩:=hJ.frame;obtain⟨e1,e2⟩:=hA.same ho hr (P9 hlt) (by rw [hop];intro _ _ h;cases h);obtain⟨r,kvs,rfl,hrX,hmap,hent⟩:=hm h0;have hno:∀ v,(k,v) ∉ kvs:=fun v hv=>by obtain⟨j,c,hj,hl,_⟩:=(hent.mem k v).1 hv;obtain⟨rfl,_⟩:=I58 hin hj;rw [hun] at hl;cases hl
 obtain⟨o,hrun,hmap'⟩:=Yi Wo underlying172 hmap k (.bool b) (Ww kvs 0 hno);have hb':=Bn hJ.below hrX o;have hsz:i<kx.size:=by rw [hJ.size];exact hlt
 refine Ch5 ho (e2.trans (hg _ _ _)) (by rw [e1];exact Len hop (h28 _ _ _) rfl (hx _ _ _) hrun) ⟨hS.below hb' hp,?_⟩;have hi:=Qc hin;have yP:i≠122:=fun e=>by rw [e] at hi;simp at hi
 have DL:i≠121:=fun e=>by rw [e] at hi;simp at hi
 refine⟨by simp [hJ.size],hb',fun j hj hl=>Ia h0,fun hl=>Ia (hJ.second (Ch hl yP)),_,_,_,hA.put ho (by rw [hd];intro k h;cases h),fun _=>⟨r,_,rfl,hrX,hmap',?_,?_⟩,fun hl=>h1 (Ch hl DL),fun hl=>h2 (Ch hl yP)⟩;·rw [Gi,La];refine⟨hent.nodup,sM,?_⟩;intro x hx y hy e;simp only [Gg,Ja,Ad] at hy;obtain⟨⟨k',v'⟩,hm',rfl⟩:=Ew.1 hx;dsimp only at e;subst hy e;exact hno v' hm'
 ·intro k' v';rw [Bz,Ad,Ib];constructor
  ·rintro (h|⟨rfl,rfl⟩);·obtain⟨j,c,hj,hl,hv⟩:=(hent.mem k' v').1 h;exact⟨j,c,hj,Ia hl,hv⟩
   ·exact⟨i,b,hin,iC hsz,rfl⟩
  ·rintro⟨j,c,hj,hl,rfl⟩;by_cases hij:i=j;·subst hij;refine .inr ?_;simp only [iV,Az,Bo,Ey,Ib] at hin hj;rcases hin with⟨rfl,rfl,rfl⟩|⟨rfl,rfl,rfl⟩|⟨rfl,rfl,rfl⟩|⟨rfl,rfl,rfl⟩|⟨rfl,rfl,rfl⟩ <;> simp at hj <;> exact⟨hj.1,by rw [hj.2]⟩
   ·exact .inl ((hent.mem k' _).2 ⟨j,c,hj,Ch hl hij,rfl⟩)
theorem Oer (hp:p.p3<X.heap.size/\p.p4<X.heap.size/\p.p5<X.heap.size/\p.p6<X.heap.size) (hS:UnS d p X) (hr:0∈Region.ready .any dW kx) (hJ:UnJ d p z X kx a w):wpOp prog dW Q 0 (fun a' w'=>UnS d p w'/\UnJ d p z X (kx.setIfInBounds 0 true) a' w') a w:=by
 have hun:kx.getD 0 false=false:=getD_both (Jd.1 hr).1;have ho:=yH (i:=0) dC;have hop:(Yf 0).op=.makeMap 172 none:=kR;have hd:(Yf 0).dst=some 28:=kR;obtain⟨v28,gq,v8,hA,hm,h1,h2⟩:=hJ.frame;obtain⟨_,e2⟩:=hA.same ho hr (P9 dC) (by rw [hop];intro _ _ h;cases h);have hb':=hJ.below.alloc hJ.below.size (.map #[] 0);have hsz:0<kx.size:=by rw [hJ.size];omega
 have qE:∀ i,i∈[27,32,68,118,120,121,122]->kx.getD i false=true->False:=fun i hi hl=>by have:=hJ.first i hi hl;rw [hun] at this;cases this
 have hA':=hA.turn 28 (.map (some w.heap.size)) ho hd hun;rw [I59] at hA';refine Ta (v:=.map (some w.heap.size)) (w':=w.alloc (.map #[] 0)) ho (e2.trans kR) (I21 hop (by have:=@Hz prog;simp [this])) ⟨hS.below hb' hp,?_⟩;refine⟨by simp [hJ.size],hb',fun j hj hl=>iC hsz,fun hl=>(qE 122 dC (Ch hl dC)).elim,_,_,_,hA'.put ho (by rw [hd];intro k h;cases h;kernel_rfl),fun _=>⟨w,[],rfl,hJ.below.size,I01 aI w,sM,?_⟩,fun hl=>(qE 121 dC (Ch hl dC)).elim,fun hl=>(qE 122 dC (Ch hl dC)).elim⟩;intro k v;refine⟨fun h=>(by cases h),?_⟩;rintro⟨i,b,hi,hl,_⟩;have hm:=Qc hi;have hne:0≠i:=fun e=>by rw [<- e] at hm;exact absurd hm dC
 exact (qE i (by revert hm;simp;intro h;rcases h with rfl|rfl|rfl|rfl|rfl <;> simp) (Ch hl hne)).elim
theorem Pwc (hp:p.p3<X.heap.size/\p.p4<X.heap.size/\p.p5<X.heap.size/\p.p6<X.heap.size) (hS:UnS d p X) (hr:121∈Region.ready .any dW kx) (hJ:UnJ d p z X kx a w):wpOp prog dW Q 121 (fun a' w'=>UnS d p w'/\UnJ d p z X (kx.setIfInBounds 121 true) a' w') a w:=by
 have h0:=Vn hr (i:=0) kR;have hun:kx.getD 121 false=false:=getD_both (Jd.1 hr).1;have ho:=yH (i:=121) dC;have hop:(Yf 121).op=.move (.tmp 28):=kR;have hd:(Yf 121).dst=some 144:=kR;obtain⟨v28,gq,v8,hA,hm,h1,h2⟩:=hJ.frame;obtain⟨e1,e2⟩:=hA.same ho hr (P9 dC) (by rw [hop];intro _ _ h;cases h);obtain⟨r,kvs,hv,hrX,hmap,hent⟩:=hm h0;have hsz:121<kx.size:=by rw [hJ.size];omega
 have hA':=hA.turn 144 v28 ho hd hun;rw [Hvm] at hA';refine Ta (v:=v28) (w':=w) ho (e2.trans kR) (by rw [e1];exact I45 hop kR) ⟨hS.below hJ.below hp,?_⟩;exact⟨by simp [hJ.size],hJ.below,fun j hj hl=>Ia h0,fun hl=>iC hsz,_,_,_,hA'.put ho (by rw [hd];intro k h;cases h;kernel_rfl),fun _=>⟨r,kvs,hv,hrX,hmap,hent.other dC⟩,fun _=>rfl,fun hl=>h2 (Ch hl dC)⟩
theorem Put (hp:p.p3<X.heap.size/\p.p4<X.heap.size/\p.p5<X.heap.size/\p.p6<X.heap.size) (hS:UnS d p X) (hr:122∈Region.ready .any dW kx) (hJ:UnJ d p z X kx a w):wpOp prog dW Q 122 (fun a' w'=>UnS d p w'/\UnJ d p z X (kx.setIfInBounds 122 true) a' w') a w:=by have FM:=Vn hr (i:=121) kR;have h0:=hJ.first 121 dC FM;have hun:kx.getD 122 false=false:=getD_both (Jd.1 hr).1;have ho:=yH (i:=122) dC;have hop:(Yf 122).op=.assign (.tmp 144):=kR;have hd:(Yf 122).dst=some 8:=kR;obtain⟨v28,gq,v8,hA,hm,h1,h2⟩:=hJ.frame;obtain⟨e1,e2⟩:=hA.same ho hr (P9 dC) (by rw [hop];intro _ _ h;cases h);obtain⟨r,kvs,hv,hrX,hmap,hent⟩:=hm h0;have RQ:=h1 FM;subst RQ;have hA':=hA.turn 8 gq ho hd hun;rw [L34] at hA';refine Ta (v:=gq) (w':=w) ho (e2.trans kR) (by rw [e1];exact C10 hop kR) ⟨hS.below hJ.below hp,?_⟩;exact⟨by simp [hJ.size],hJ.below,fun j hj hl=>Ia h0,fun hl=>Ia FM,_,_,_,hA'.put ho (by rw [hd];intro k h;cases h;kernel_rfl),fun _=>⟨r,kvs,hv,hrX,hmap,hent.other dC⟩,fun _=>rfl,fun _=>rfl⟩
theorem Ody (hp:p.p3<X.heap.size/\p.p4<X.heap.size/\p.p5<X.heap.size/\p.p6<X.heap.size) (hS:UnS d p X) (sN:∀ W,Below X X W->Calls prog 101 #[.agg (oZ d),.agg Fk] W (Ret W (.bool z))) (kx:Array Bool) (a:Act) (w:ZB) (i:Nat) (hr:i∈Region.ready .any dW kx) (hJ:UnJ d p z X kx a w):wpOp prog dW Q i (fun a' w'=>UnS d p w'/\UnJ d p z X (kx.setIfInBounds i true) a' w') a w:=by
 obtain⟨hun,o,ho,_⟩:=Jd.1 hr;have hlt:i<123:=by rw [<- Hte];exact (aZ ho)
 have hsel:Region.noSelect dW=true:=kR;have ho':=yH hlt;have hns:=fun cs b=>Region.noSelect_spec hsel i _ cs b ho';have hcase:=(show ∀ i,i<123->i∈[0,27,32,68,118,120,121,122]\/i ∉ [0,27,32,68,118,120,121,122]/\(i=30\/i∈unQ) by decide +kernel) i hlt;rcases hcase with hi|⟨hi,rfl|hq⟩
 ·simp only [Az,Bo,Ey] at hi;rcases hi with rfl|rfl|rfl|rfl|rfl|rfl|rfl|rfl;·exact Oer hp hS hr hJ
  ·exact Sn 27 1 d.yc5 54 hp hS hr hJ (by simp [iV])
  ·exact Sn 32 2 (!z) 58 hp hS hr hJ (by simp [iV])
  ·exact Sn 68 4 d.yl7 93 hp hS hr hJ (by simp [iV])
  ·exact Sn 118 6 d.zQ 142 hp hS hr hJ (by simp [iV])
  ·exact Sn 120 7 d.named 143 hp hS hr hJ (by simp [iV])
  ·exact Pwc hp hS hr hJ
  ·exact Put hp hS hr hJ
 ·obtain⟨v28,gq,v8,hA,hf⟩:=hJ.frame;obtain⟨e1,e2⟩:=hA.same ho' hr (P9 hlt) hns;refine Hnd (v:=.bool z) ho' (e2.trans kR) (by rw [e1];kernel_rfl) (sN w hJ.below) fun w' hb'=>⟨hS.below (hJ.below.trans (hb'.mono hJ.below.size)) hp,hJ.next hf hb' hi (hA.put ho' fun k hk=>?_)⟩
  rw [show (Yf 30).dst=some 57 by kernel_rfl] at hk;cases hk;kernel_rfl
 ·obtain⟨v28,gq,v8,hA,hf⟩:=hJ.frame;obtain⟨k,v,hk,hv,hy⟩:=Lzv d p z v28 gq v8 i hq;exact quiet_step hA ho' hr (P9 hlt) hns hy (by rw [hk];intro k' h;cases h;exact hv) (hS.below hJ.below hp) fun a' hA'=>⟨hS.below hJ.below hp,hJ.next hf (Ac _ _) hi hA'⟩
def Non (d:UnD) (p:UnP) (z:Bool) (X:ZB) (Q:Exit->Act->ZB->Prop):Prop := ∀ w' r kvs,Below X X w'->Cq aI r w' kvs->(kvs.map (·.1)).Nodup->(∀ k v,(k,v)∈kvs↔∃ i b,(i,k,b)∈iV d z/\v=.bool b)->Q .normal (unH d p z (.map (some r)) (.map (some r)) (.map (some r))) w'
theorem Pub (H:Non d p z X Q) (kx:Array Bool) (a:Act) (w:ZB) (h0:Region.ready .any dW kx=[]) (hJ:UnJ d p z X kx a w):Q .normal a w:=by
 have hall:=New (by kernel_rfl:Ffi dW=true) (hJ.size.trans Hte.symm) h0;obtain⟨v28,gq,v8,hA,hm,h1,h2⟩:=hJ.frame;have e:=hA.all hall;rw [Hte] at hall;obtain⟨r,kvs,rfl,hrX,hmap,hent⟩:=hm (hall 0 dC);rw [e,h1 (hall 121 dC),h2 (hall 122 dC)];refine H w r kvs hJ.below hmap hent.nodup fun k v=>?_;rw [hent.mem];constructor;·rintro⟨i,b,hi,_,e⟩;exact⟨i,b,hi,e⟩
 ·rintro⟨i,b,hi,e⟩;exact⟨i,b,hi,hall i (by have:=Qc hi;simp only [Az,Bo,Ey] at this;omega),e⟩
end
theorem Vx (i:Nat) (h:Pt.getD i false=true):False:=by unfold Pt at h;rw [Gq,Array.getElem?_replicate] at h;split at h <;> cases h
theorem Lt4 (d:UnD) (p:UnP) (z:Bool):fG dW Pt (unH d p z ZA ZA ZA) (vP d p) := (by kernel_rfl:Kn1 dW (unH d p z ZA ZA ZA)=vP d p) ▸ fG.start fun i=>Bool.eq_false_iff.2 (Vx i)
theorem I57 (d:UnD) (p:UnP) (z:Bool) (X:ZB) (Q:Exit->Act->ZB->Prop) (hp:p.p3<X.heap.size/\p.p4<X.heap.size/\p.p5<X.heap.size/\p.p6<X.heap.size) (hS:UnS d p X) (sN:∀ W,Below X X W->Calls prog 101 #[.agg (oZ d),.agg Fk] W (Ret W (.bool z))) (H:Non d p z X Q):wpAnyH prog .any dW Q (UnS d p) 123 Pt (vP d p) X := Ys (J:=UnJ d p z X) (fun l a w i hi hJ=>Ody hp hS sN l a w i hi hJ) (fun l a w h0 hJ=>Pub H l a w h0 hJ) 123 Pt (vP d p) X nah ⟨by simp [Pt],Ac _ _,fun i _ h=>(Vx i h).elim,fun h=>(Vx _ h).elim,ZA,ZA,ZA,Lt4 d p z,fun h=>(Vx _ h).elim,fun h=>(Vx _ h).elim,fun h=>(Vx _ h).elim⟩
end
section
open Go.Lib Go.Proofs.Tryz Go.RowKit Go.Shelf Go.Sort CH
theorem Kdd {P:Program} {T q:Nat} {t:ZJ} {cur cs:Array ZC} {w:ZB} (hsz:(P.info? T).map (·.size)=some cs.size) (hq:w.heap[q]?=some (.cells cur t (0,0))) (hc:cur.size=cs.size) (h1:∀ v∈cs.toList,v.oneCell'=true) : (Instr.storeAt T (.pointer (some ⟨q,0,none⟩)) (.agg cs)).run P w=.ok () (w.setRow q cs):=by
 have hst:=run_storeCells_at (P:=P) q 0 t cs.toList 0 cur w hq naf h1;cases hi:P.info? T with
 |none=>simp [hi] at hsz
 |some i =>
  have his:i.size=cs.size:=by simpa [hi] using hsz
  simp only [Ba,Ic,Eu] at hst;rw [show cur.toList.drop cs.toList.length=[] from by simp [hc],Fj,Array.toArray_toList] at hst;simp [Instr.storeAt,storeVar,sizeOf,typeInfo,hi,his,Value.cells,Instr.sureAddr,hst]
theorem Mx9 {P:Program} {o:Oper} {a:Act} {T:ZJ} {x y:Operand} {vx vy:ZC} {w w':ZB} (hop:o.op=.store T x y) (hx:a.eval x=vx) (hy:a.eval y=vy) (hr:(Instr.storeAt T vx vy).run P w=.ok () w'):(execOp a.eval o).run P w=.ok .skip w':=by unfold execOp;simp [hop,hx,hy,hr]
theorem Key {w:ZB} {q:Nat} {cur cs:Array ZC} {t:ZJ} (hq:w.heap[q]?=some (.cells cur t (0,0))):(w.setRow q cs).heap[q]?=some (.cells cs t (0,0)):=setRow_heap w q cur cs t (0,0) hq
theorem su {B q:Nat} {w0 w:ZB} (hb:Below B w0 w) (h:B<=q) (cs:Array ZC):Below B w0 (w.setRow q cs):=below_setRow hb h cs
end
section
open Go.Lib Go.Proofs.Tryz Go.RowKit Go.Shelf Go.Sort CH
noncomputable def Lb:Array Oper:=((Tryz.f44.body).bind (Fl · 1)).getD #[]
noncomputable abbrev qc (i:Nat):Oper:=Lb.getD i default
def So:Array Bool:=Array.replicate 25 false
def rJ (d:UnD) (B:Nat) (W:ZB):Prop:=∀ i,W.cell? ⟨B,i,none⟩=(nK d)[i]?
def unT:Nat->ZJ|0=>55|1=>60|2=>62|_=>50
def unC (d:UnD):Nat->Array ZC|0=>xU d|1=>oZ d|2=>xQ d|_=>xR d
def unO:Nat->Nat|0=>1|1=>6|2=>18|_=>25
theorem ld1 {d:UnD} {B:Nat} {W:ZB} (h:rJ d B W) (j:Nat) (hj:j<4):(Instr.loadAt (unT j) (.pointer (some ⟨B,unO j,none⟩))).run prog W=.ok (.agg (unC d j)) W:=by unfold rJ nK at h;rcases (oM:j=0\/j=1\/j=2\/j=3) with rfl|rfl|rfl|rfl <;> simp only [unT,unC,unO,xU,oZ,xQ,xR] <;> go_simp
def sV (d:UnD) (B:Nat):Nat->ZC
 |12=>.pointer (some ⟨B,1,none⟩)
 |13=>.agg (xU d)
 |14=>.pointer (some ⟨B,6,none⟩)
 |15=>.agg (oZ d)
 |16=>.pointer (some ⟨B,18,none⟩)
 |17=>.agg (xQ d)
 |18=>.pointer (some ⟨B,25,none⟩)
 |19=>.agg (xR d)
 |20=>.pointer (some ⟨B,35,none⟩)
 |21=>↑d.id
 |22=>.bool (d.id != [])
 |23=>.bool (d.id != [])
 |24=>(ite (d.id != []) ZA (.pointer (some ⟨B,36,none⟩)))
 |25=>(ite (d.id != []) ZA ↑d.n)
 |26=>(ite (d.id != []) ZA (.bool (d.n != 0)))
 |27=>.bool d.named
 |_=>ZA
def rQ (d:UnD) (B:Nat) (v:Nat->ZC):Act:={ tmps:=([.agg (nK d),.pointer (some ⟨B,0,none⟩),.bool false,v 0,v 1,v 2,v 3,.bool d.named,ZA,ZA,ZA,ZA]++(List.range 16).map (fun i=>sV d B (i+12))++List.replicate 140 ZA).toArray,defers:=[] }
noncomputable def BP (d:UnD) (B:Nat):Act:=Kn1 Lb (rQ d B fun _=>ZA)
def zO (P:Program) (T:ZJ):Array ZC:=match (P.info? T).bind (·.zero) with|some (.agg Z)=>Z|_=>#[]
theorem Bsr {P:Program} {T:ZJ} {Z:Array ZC} {w:ZB} (hz:(P.info? T).bind (·.zero)=some (.agg Z)) : (Instr.alloc T true (.tuple #[])).run P w=.ok (.pointer (some ⟨w,0,none⟩)) (w.alloc (.cells Z T (0,0))):=by
 cases hi:P.info? T with
 |none=>simp [hi] at hz
 |some i =>
  have h:i.zero=some (.agg Z):=by simpa [hi] using hz
  simp [Instr.alloc,zeroValue,typeInfo,hi,h,newVar,Value.cells,newRow]
theorem M10 {P:Program} {o:Oper} {a:Act} {T:ZJ} {w w':ZB} {v:ZC} (hop:o.op=.alloc T) (hr:(Instr.alloc T true (.tuple #[])).run P w=.ok v w'):(execOp a.eval o).run P w=.ok (.value v) w':=by unfold execOp;simp [hop,hr]
theorem Bin (w:ZB) (o:Obj):(w.alloc o).heap[w.heap.size]?=some o:=by simp only [World.alloc,Dh,Qy]
def Blk (X w:ZB) (al st:Prop) (T:ZJ) (C:Array ZC) (v:ZC):Prop:=al->∃ q cur,v=.pointer (some ⟨q,0,none⟩)/\X.heap.size<=q/\w.heap[q]?=some (.cells cur T (0,0))/\cur.size=C.size/\(st->cur=C)
theorem Blk.mono {X w:ZB} {al st al' st':Prop} {T:ZJ} {C:Array ZC} {v:ZC} (h:Blk X w al st T C v) (ha:al'->al) (hs:st'->st):Blk X w al' st' T C v:=fun h'=>by obtain⟨q,cur,hv,hq,hc,hz,hl⟩:=h (ha h');exact⟨q,cur,hv,hq,hc,hz,fun h=>hl (hs h)⟩
theorem Blk.alloc {X w:ZB} {al st:Prop} {T:ZJ} {C:Array ZC} {v:ZC} (h:Blk X w al st T C v) (o:Obj):Blk X (w.alloc o) al st T C v:=fun ha=>by
 obtain⟨q,cur,hv,hq,hc,hs,hl⟩:=h ha;refine⟨q,cur,hv,hq,?_,hs,hl⟩;have hlt:q<w.heap.size:=(aZ hc)
 simp only [World.alloc,Dh];rw [Ai oM];exact hc
theorem Blk.row {X w:ZB} {al st:Prop} {T U:ZJ} {C cs cur':Array ZC} {v:ZC} {q':Nat} (h:Blk X w al st T C v) (hne:T≠U) (hq':w.heap[q']?=some (.cells cur' U (0,0))):Blk X (w.setRow q' cs) al st T C v:=fun ha=>by
 obtain⟨q,cur,hv,hq,hc,hs,hl⟩:=h ha;refine⟨q,cur,hv,hq,?_,hs,hl⟩;have:q≠q':=fun e=>by subst e;rw [hc] at hq';simp only [G6,Obj.cells.injEq] at hq';exact hne hq'.2.1
 rw [setRow_other w _ _ _ this];exact hc
theorem fO {w:ZB} {q:Nat} {C:Array ZC} {t:ZJ} (h:w.heap[q]?=some (.cells C t (0,0))) (i:Nat):w.cell? ⟨q,i,none⟩=C[i]?:=by simp [World.cell?,h]
def CW:List Nat:=[0,1,2,3,4,5,6,7,8,9,10,11,12,13,14,15,24]
theorem I60 (d:UnD) (B:Nat) (v:Nat->ZC) (hn:d.named=(d.id != []||d.n != 0)):Qs Lb (rJ d B) (rQ d B v) CW := uf 0 (.pointer (some ⟨B,1,none⟩)) <| ul 1 (.agg (xU d)) (fun _ h=>ld1 h 0 dC) <| uf 2 (.pointer (some ⟨B,6,none⟩)) <| ul 3 (.agg (oZ d)) (fun _ h=>ld1 h 1 dC) <| uf 4 (.pointer (some ⟨B,18,none⟩)) <| ul 5 (.agg (xQ d)) (fun _ h=>ld1 h 2 dC) <| uf 6 (.pointer (some ⟨B,25,none⟩)) <| ul 7 (.agg (xR d)) (fun _ h=>ld1 h 3 dC) <| uf 8 (.pointer (some ⟨B,35,none⟩)) <| ul 9 ↑d.id (fun _ h=>Mo (h 35)) <| ub 10 (Mm d.id) <| um 11 <| uF 12 (d.id != []) (.pointer (some ⟨B,36,none⟩)) <| uL 13 (d.id != []) ↑d.n (fun _ h=>Kg (h 36)) <| uB 14 (d.id != []) (Kf d.n) <| u0 15 (.bool d.named) (fun W _=>(I44 (c:=.tmp 23) (x:=.const (.bool true)) (y:=.tmp 26) (b:=(d.id != [])) kR kR (by kernel_rfl:_=.bool true) (by kernel_rfl:_=gv (d.id != []) (.bool (d.n != 0)))).trans (by rw [hn];cases d.id != [] <;> rfl)) <| uk 24 (.bool d.named) (fun _=>C10 (x:=.tmp 27) kR kR) (List.forall_mem_nil _)
structure BI (d:UnD) (B:Nat) (X:ZB) (kx:Array Bool) (a:Act) (w:ZB):Prop where
 size:kx.size=25
 below:Below X X w
 ord:∀ j,j<4->kx.getD (20+j) false=true->kx.getD (16+j) false=true
 frame:∃ v:Nat->ZC,fG Lb kx (rQ d B v) a/\∀ j,j<4->Blk X w (kx.getD (16+j) false=true) (kx.getD (20+j) false=true) (unT j) (unC d j) (v j)
theorem rJ.below {d:UnD} {B K:Nat} {w w':ZB} (h:rJ d B w) (hb:Below K w w') (h3:B<K):rJ d B w':=fun i=>(hb.cell (p:=⟨B,i,none⟩) h3).trans (h i)
theorem Yt:Lb.size=25:=kR
theorem GK {i:Nat} (h:i<25):Lb[i]?=some (qc i):=by have hs:=Yt;rw [qc,Gq,Eo oM];rfl
def yG (v:Nat->ZC) (j:Nat) (u:ZC):Nat->ZC:=fun i=>if i=j then u else v i
theorem K22 {p:Nat->Prop} (h0:p 0) (h1:p 1) (h2:p 2) (h3:p 3):∀ j,j<4->p j:=fun j hj=>by rcases (oM:j=0\/j=1\/j=2\/j=3) with rfl|rfl|rfl|rfl <;> assumption
theorem Old (d:UnD) (B:Nat) (v:Nat->ZC) (u:ZC):∀ j,j<4->(rQ d B v).put (some (3+j)) u=rQ d B (yG v j u):=K22 kR kR kR kR
theorem Fn2 (d:UnD) (B:Nat) (v:Nat->ZC):∀ j,j<4->(rQ d B v).tmps[3+j]?=some (v j)/\(rQ d B v).eval (.tmp (3+j))=v j/\(rQ d B v).eval (.tmp (13+2*j))=.agg (unC d j):=K22 ⟨kR,kR,kR⟩ ⟨kR,kR,kR⟩ ⟨kR,kR,kR⟩ ⟨kR,kR,kR⟩
def Mk (j:Nat):Prop:=(qc (16+j)).op=.alloc (unT j)/\(qc (16+j)).dst=some (3+j)/\(qc (16+j)).guard=none/\(prog.info? (unT j)).bind (·.zero)=some (.agg (zO prog (unT j)))
def Fi (j:Nat):Prop:=(qc (20+j)).op=.store (unT j) (.tmp (3+j)) (.tmp (13+2*j))/\(qc (20+j)).dst=none/\(qc (20+j)).guard=none/\Region.waitsFor .any Lb (20+j) (16+j)=true
theorem Qua:∀ j,j<4->Mk j:=K22 ⟨kR,kR,kR,kR⟩ ⟨kR,kR,kR,kR⟩ ⟨kR,kR,kR,kR⟩ ⟨kR,kR,kR,kR⟩
theorem Ran:∀ j,j<4->Fi j:=K22 ⟨kR,kR,kR,kR⟩ ⟨kR,kR,kR,kR⟩ ⟨kR,kR,kR,kR⟩ ⟨kR,kR,kR,kR⟩
theorem Fn1 (d:UnD):∀ j,j<4->(zO prog (unT j)).size=(unC d j).size/\(prog.info? (unT j)).map (·.size)=some (unC d j).size:=K22 ⟨kR,kR⟩ ⟨kR,kR⟩ ⟨kR,kR⟩ ⟨kR,kR⟩
theorem Ok0 (d:UnD) (hm:∀ v∈(oZ d).toList,v.oneCell'=true):∀ j,j<4->∀ v∈(unC d j).toList,v.oneCell'=true:=by refine K22 ?_ hm ?_ ?_ <;> intro v hv <;> simp only [unC,xU,xQ,xR,Az,Bo,Ey] at hv <;> rcases hv with rfl|rfl|rfl|rfl|rfl|hv <;> (try rfl) <;> (try rcases hv with rfl|rfl|rfl|rfl|rfl) <;> (try rfl) <;> (try rcases hv with rfl|rfl) <;> rfl
theorem Xn {o:Oper} {y:Nat->Option Bool} (h:o.guard=none):Region.wanted o y=true:=by unfold Region.wanted;rw [h]
section
open CH
variable {d:UnD} {B:Nat} {X:ZB} {Q:Exit->Act->ZB->Prop} (hB:B<X.heap.size) (hS:rJ d B X) (hm:∀ v∈(oZ d).toList,v.oneCell'=true) (hn:d.named=(d.id != []||d.n != 0))
include hB hS hm hn
theorem L38 (kx:Array Bool) (a:Act) (w:ZB) (i:Nat) (hr:i∈Region.ready .any Lb kx) (hJ:BI d B X kx a w):wpOp prog Lb Q i (fun a' w'=>rJ d B w'/\BI d B X (kx.setIfInBounds i true) a' w') a w:=by
 obtain⟨hun,o,ho',_⟩:=Jd.1 hr;have hlt:i<25:=by rw [<- Yt];exact (aZ ho')
 replace hun:kx.getD i false=false:=getD_both hun;have ho:=GK hlt;have hns:=fun cs b=>Region.noSelect_spec (by kernel_rfl:Region.noSelect Lb=true) i _ cs b ho;have hlk:Tp Lb i=true:=Dj.1 (by kernel_rfl:((List.range 25).all (Tp Lb))=true) i (Jl.2 hlt);obtain⟨v,hA,hb⟩:=hJ.frame;obtain⟨e1,e2⟩:=hA.same ho hr hlk hns;have hsz:i<kx.size:=by rw [hJ.size];exact hlt
 have hcase:i∈CW/\(∀ j,j<4->i≠16+j/\i≠20+j)\/(∃ j,j<4/\i=16+j)\/∃ j,j<4/\i=20+j:=by
  rcases J8 i 16 with h|h;·exact .inl ⟨(by decide +kernel:∀ i,i<16->i∈CW) i h,fun j hj=>by omega⟩
  ·rcases J8 i 20 with h2|h2;·exact .inr (.inl ⟨i - 16,oM,oM⟩)
   ·rcases J8 i 24 with h3|h3;·exact .inr (.inr ⟨i - 20,oM,oM⟩)
    ·obtain rfl:i=24:=oM;exact .inl ⟨dC,fun j hj=>by omega⟩
 rcases hcase with⟨hq,hne⟩|⟨j,hj,rfl⟩|⟨j,hj,rfl⟩;·obtain⟨k,u,hk,hv,hy⟩:=I60 d B v hn i hq;exact quiet_step hA ho hr hlk hns hy (by rw [hk];intro k' h;cases h;exact hv) (hS.below hJ.below hB) fun a' hA'=>⟨hS.below hJ.below hB,by simp [hJ.size],hJ.below,fun j hj h=>Ia (hJ.ord j hj (Ch h (hne j hj).2)),v,hA',fun j hj=>(hb j hj).mono (fun h=>Ch h (hne j hj).1) (fun h=>Ch h (hne j hj).2)⟩
 ·obtain⟨m1,m2,m3,m4⟩:=Qua j hj;have hb':=hJ.below.alloc hJ.below.size (.cells (zO prog (unT j)) (unT j) (0,0));have hA':=hA.turn (3+j) (.pointer (some ⟨w,0,none⟩)) ho m2 hun;rw [Old d B v _ j hj] at hA';refine Ta (v:=.pointer (some ⟨w,0,none⟩)) (w':=w.alloc (.cells (zO prog (unT j)) (unT j) (0,0))) ho (Xn m3) (M10 m1 (Bsr m4)) ⟨hS.below hb' hB,by simp [hJ.size],hb',fun j' hj' h=>?_,yG v j (.pointer (some ⟨w,0,none⟩)),hA'.put ho (by rw [m2];intro k' h;cases h;rw [(Fn2 d B _ j hj).1,yG,Ah rfl]),fun j' hj'=>?_⟩
  ·by_cases e:j'=j;·subst e;exact iC hsz
   ·exact Ia (hJ.ord j' hj' (Ch h oM))
  ·by_cases e:j'=j;·subst e;exact fun _=>⟨w,_,by rw [yG,Ah rfl],hJ.below.size,Bin w _,(Fn1 d j' hj).1,fun hst=>by have:=hJ.ord j' hj (Ch hst oM);rw [hun] at this;cases this⟩
   ·rw [yG,Ai e];exact ((hb j' hj').alloc _).mono (fun h=>Ch h oM) (fun h=>Ch h oM)
 ·obtain⟨m1,m2,m3,m4⟩:=Ran j hj;have hal:=Vn hr m4;obtain⟨q,cur,hv,hq,hc,hs,_⟩:=hb j hj hal;obtain⟨_,s1,s2⟩:=Fn2 d B v j hj;have hb':=su hJ.below hq (unC d j);refine Ch5 (w':=w.setRow q (unC d j)) ho (Xn m3) (by rw [e1];exact Mx9 m1 (s1.trans hv) s2 (Kdd (Fn1 d j hj).2 hc hs (Ok0 d hm j hj))) ⟨hS.below hb' hB,by simp [hJ.size],hb',fun j' hj' h=>?_,v,hA.put ho (by rw [m2];intro k h;cases h),fun j' hj'=>?_⟩
  ·by_cases e:j'=j;·subst e;exact Ia hal
   ·exact Ia (hJ.ord j' hj' (Ch h oM))
  ·by_cases e:j'=j;·subst e;exact fun _=>⟨q,_,hv,hq,Key hc,rfl,fun _=>rfl⟩
   ·exact ((hb j' hj').row ((dC:∀ a,a<4->∀ b,b<4->a≠b->unT a≠unT b) j' hj' j hj e) hc).mono (fun h=>Ch h oM) (fun h=>Ch h oM)
def I49 (d:UnD) (B:Nat) (X:ZB) (Q:Exit->Act->ZB->Prop):Prop := ∀ w' p3 p4 p5 p6,Below X X w'->p3<w'.heap.size->p4<w'.heap.size->p5<w'.heap.size->p6<w'.heap.size->UnS d ⟨p3,p4,p5,p6,B,sV d B⟩ w'->Q .normal (vP d ⟨p3,p4,p5,p6,B,sV d B⟩) w'
omit hB hS hm hn in
theorem Opn (H:I49 d B X Q) (kx:Array Bool) (a:Act) (w:ZB) (h0:Region.ready .any Lb kx=[]) (hJ:BI d B X kx a w):Q .normal a w:=by
 have hall:=New (by kernel_rfl:Ffi Lb=true) (hJ.size.trans Yt.symm) h0;obtain⟨v,hA,hb⟩:=hJ.frame;rw [hA.all hall];rw [Yt] at hall;have key:∀ j,j<4->∃ q,v j=.pointer (some ⟨q,0,none⟩)/\w.heap[q]?=some (.cells (unC d j) (unT j) (0,0)):=fun j hj=>by obtain⟨q,cur,hv,_,hc,_,e⟩:=hb j hj (hall _ oM);exact⟨q,hv,by rw [hc,e (hall _ oM)]⟩
 obtain⟨q3,g3,h3⟩:=key 0 dC;obtain⟨q4,g4,h4⟩:=key 1 dC;obtain⟨q5,g5,h5⟩:=key 2 dC;obtain⟨q6,g6,h6⟩:=key 3 dC;have e:rQ d B v=vP d ⟨q3,q4,q5,q6,B,sV d B⟩:=by unfold rQ;rw [g3,g4,g5,g6];kernel_rfl
 rw [e];exact H w q3 q4 q5 q6 hJ.below (aZ h3) (aZ h4) (aZ h5) (aZ h6) ⟨fO h3,fO h4,fO h5,fO h6⟩
theorem Hvr (H:I49 d B X Q):wpAnyH prog .any Lb Q (rJ d B) 25 So (BP d B) X:=by
 have no:∀ i,So.getD i false=false:=fun i=>by unfold So;rw [Gq,Array.getElem?_replicate];split <;> rfl
 have no':∀ i,So.getD i false=true->False:=fun i h=>by rw [no i] at h;cases h
 exact Ys (J:=BI d B X) (fun l a w i hi hJ=>L38 hB hS hm hn l a w i hi hJ) (fun l a w h0 hJ=>Opn H l a w h0 hJ) _ _ _ _ nah ⟨by decide +kernel,.refl _ _,fun j _ h=>(no' _ h).elim,_,fG.start no,fun j _ h=>(no' _ h).elim⟩
end
end
section
open Go.Lib Go.Proofs.Tryz Go.RowKit Go.Shelf Go.Sort CH
def xP:ZC->Bool
 |.bool b=>b
 |_=>false
noncomputable def Del:Code:=match Tryz.f44.body with|some (.seq _ (.seq _ (.seq _ (.seq _ (.seq _ r)))))=>r|_=>.skip
theorem Hmy {P:Program} {c c':Code} {Q:Exit->Act->ZB->Prop} {a a':Act} {w:ZB} (hc:c'=c) (ha:a'=a) (h:c'.wp P Q a' w):c.wp P Q a w:=by subst hc ha;exact h
theorem R0 {w:ZB} {q:Nat} {m:Option Nat} {s c:Nat} {seen:Array Nat} (h:w.heap[q]?=some (.mapIter m s seen c)):w.iterSeen q=seen:=by simp [World.iterSeen,h]
def unL (s:Nat->ZC) (B r:Nat) (u:ZC):Act:={ tmps:=#[s 0,.pointer (some ⟨B,0,none⟩),.bool false,s 3,s 4,s 5,s 6,s 7,.map (some r),u,s 10,s 11,s 12,s 13,s 14,s 15,s 16,s 17,s 18,s 19,s 20,s 21,s 22,s 23,s 24,s 25,s 26,s 27,s 28,s 29,s 30,s 31,s 32,s 33,s 34,s 35,s 36,s 37,s 38,s 39,s 40,s 41,s 42,s 43,s 44,s 45,s 46,s 47,s 48,s 49,s 50,s 51,s 52,s 53,s 54,s 55,s 56,s 57,s 58,s 59,s 60,s 61,s 62,s 63,s 64,s 65,s 66,s 67,s 68,s 69,s 70,s 71,s 72,s 73,s 74,s 75,s 76,s 77,s 78,s 79,s 80,s 81,s 82,s 83,s 84,s 85,s 86,s 87,s 88,s 89,s 90,s 91,s 92,s 93,s 94,s 95,s 96,s 97,s 98,s 99,s 100,s 101,s 102,s 103,s 104,s 105,s 106,s 107,s 108,s 109,s 110,s 111,s 112,s 113,s 114,s 115,s 116,s 117,s 118,s 119,s 120,s 121,s 122,s 123,s 124,s 125,s 126,s 127,s 128,s 129,s 130,s 131,s 132,s 133,s 134,s 135,s 136,s 137,s 138,s 139,s 140,s 141,s 142,s 143,s 144,s 145,s 146,s 147,s 148,s 149,s 150,s 151,s 152,s 153,s 154,s 155,s 156,s 157,s 158,s 159,s 160,s 161,s 162,s 163,s 164,s 165,s 166,s 167],defers:=[] }
theorem Off (s:Nat->ZC) (B r:Nat) (u:Int) (kvs:List (Int × ZC)) (w0 w:ZB) (hb0:Below w0 w0 w) (hmap:Cq aI r w kvs) (BU:∀ k v,(k,v)∈kvs->∃ b,v=.bool b) : Del.wp prog (bodyPost prog Tryz.f44 (Ret w0 (.bool (!(kvs.any fun p=>p.1 != u&&xP p.2))))) (unL s B r ↑u) w:=by
 obtain⟨es,clock,hb,hes,hold,hbn⟩:=hmap;have hrg:=run_range_map (P:=prog) w 172 3 4 r es clock underlying172 hb;unfold Del unL Tryz.f44;dsimp only [];go_wp2;have hkv:∀ e∈es.toList,∃ k b,(k,Value.bool b)∈kvs/\e.key=↑k/\e.val=.bool b:=fun e he=>by have:(e.key,e.val)∈kvs.map (fun p=>(aI p.1,p.2)):=hes ▸ Ew.2 ⟨e,he,rfl⟩;obtain⟨⟨k,v⟩,hk,e1⟩:=Ew.1 this;obtain⟨b,rfl⟩:=BU k v hk;simp only [Ib] at e1;exact⟨k,b,hk,e1.1.symm,e1.2.symm⟩
 have yO:r<w.heap.size:=(aZ hb)
 have hne:w.heap.size≠r:=oM;go_loopw [] (fun w'=>∃ (seen:Array Nat),w'.heap[w.heap.size]?=some (.mapIter (some r) clock seen clock)/\w'.heap[r]?=some (.map es clock)/\Below w0 w0 w'/\∀ x∈es.toList,seen.contains x.born=true->∀ (k:Int) b,x.key=↑k->x.val=.bool b->(k != u&&b)=false) (fun w'=>(leftOf es (w'.iterSeen w)).size);case atStart=>exact⟨#[],Ag _ _,((MapKept.heap_alloc w _).2 r yO).trans hb,hb0.alloc hb0.size _,fun x _ h=>by simp at h⟩
 case round =>
  obtain⟨seen,hit,hbr,hbw,hno⟩:=hrel;have law:=fun ty=>_root_.Go.run_next_at (P:=prog) wr ty w r clock clock seen es clock hit hbr hold nR;rcases law 0 with⟨h0,hrun⟩|⟨e,he,w1,hal,hrun⟩
  ·have hnx:∀ ty,(Instr.next (.pointer (some ⟨w,0,none⟩)) false ty).run prog wr=_:=fun _=>hrun;go_wp2;go_ret;have hf:(kvs.any fun p=>p.1 != u&&xP p.2)=false:=by rw [Jz];rintro⟨k,v⟩ hx;obtain⟨b,rfl⟩:=BU k v hx;have:(aI k,Value.bool b)∈es.toList.map (fun e=>(e.key,e.val)):=hes ▸ Ew.2 ⟨(k,.bool b),hx,rfl⟩;obtain⟨e,he,e1⟩:=Ew.1 this;simp only [Ib] at e1;simpa [xP] using hno e he (all_seen es seen h0 e he) k b e1.1 e1.2
   rw [hf];exact⟨rfl,hbw⟩
  ·obtain⟨k,b,hkb,hkey,hval⟩:=hkv e (Om he).1;rw [hkey,hval] at hrun;have hnx:∀ ty,(Instr.next (.pointer (some ⟨w,0,none⟩)) false ty).run prog wr=_:=fun _=>hrun;have DW:w1.heap[w.heap.size]?=some (.mapIter (some r) clock seen clock):=by rcases hal with rfl|rfl <;> exact hit
   have hr1:w1.heap[r]?=some (.map es clock):=by rcases hal with rfl|rfl <;> exact hbr
   have yZ:Below w0 w0 w1:=by rcases hal with rfl|rfl;exact hbw;exact hbw.drew
   have hset:=MapKept.heap_set (o':=.mapIter (some r) clock (seen.push e.born) clock) DW;have EF:Below w0 w0 (ChangeMaps.setBlock w1 w (.mapIter (some r) clock (seen.push e.born) clock)):=⟨yZ.os,yZ.tape,yZ.output,by simpa [ChangeMaps.setBlock] using yZ.size,fun k hk=>(hset.2 k (by have:=hb0.size;omega)).trans (yZ.block k hk)⟩
   have hen:=_root_.Go.run_entry_at (P:=prog) (ChangeMaps.setBlock w1 w (.mapIter (some r) clock (seen.push e.born) clock)) w.heap.size r clock seen es clock e hset.1 ((hset.2 r (fun e1=>hne e1.symm)).trans hr1) (Om he).1 hbn;rw [hkey,hval] at hen;cases b
   ·go_wp2;go_roundw;case rel =>
     refine⟨seen.push e.born,hset.1,(hset.2 r (fun e1=>hne e1.symm)).trans hr1,EF,fun x hx hc k' b' hk' hv'=>?_⟩;rw [contains_push] at hc;rcases Ej _ _ ▸ hc with h1|h1;·exact hno x hx h1 k' b' hk' hv'
     ·have:x=e:=born_inj hbn hx (Om he).1 (Eh.1 h1);subst this;rw [hkey] at hk';rw [hval] at hv';cases hk';cases hv';simp
    case measure=>rw [R0 (w:=ChangeMaps.setBlock w1 w (.mapIter (some r) clock (seen.push e.born) clock)) hset.1,R0 hit];exact left_shrinks es seen e he
   ·go_wp2;·rename_i hne';go_ret;have ht:(kvs.any fun p=>p.1 != u&&xP p.2)=true:=Jm.2 ⟨(k,.bool true),hkb,by simpa [xP] using hne'⟩;rw [ht];exact⟨rfl,EF⟩
    ·rename_i heq;go_roundw;case rel =>
      refine⟨seen.push e.born,hset.1,(hset.2 r (fun e1=>hne e1.symm)).trans hr1,EF,fun x hx hc k' b' hk' hv'=>?_⟩;rw [contains_push] at hc;rcases Ej _ _ ▸ hc with h1|h1;·exact hno x hx h1 k' b' hk' hv'
      ·have:x=e:=born_inj hbn hx (Om he).1 (Eh.1 h1);subst this;rw [hkey] at hk';rw [hval] at hv';cases hk';cases hv';simpa using heq
     case measure=>rw [R0 (w:=ChangeMaps.setBlock w1 w (.mapIter (some r) clock (seen.push e.born) clock)) hset.1,R0 hit];exact left_shrinks es seen e he
def Ps (k:Int):Int:=if k=3\/k=5 then 7 else k
def uz (d:UnD) (z:Bool) (k:Int):Bool:=!((iV d z).any fun p=>p.2.1 != Ps k&&p.2.2)
theorem L3c {d:UnD} {z:Bool} {u:Int} {kvs:List (Int × ZC)} (hmem:∀ k v,(k,v)∈kvs↔∃ i b,(i,k,b)∈iV d z/\v=.bool b):(kvs.any fun p=>p.1 != u&&xP p.2)=(iV d z).any fun p=>p.2.1 != u&&p.2.2:=by
 rw [Fv,Jm,Jm];constructor;·rintro⟨⟨k,v⟩,hk,h⟩;obtain⟨i,b,hi,rfl⟩:=(hmem k v).1 hk;exact⟨(i,k,b),hi,h⟩
 ·rintro⟨⟨i,k,b⟩,hi,h⟩;exact⟨(k,.bool b),(hmem k _).2 ⟨i,b,hi,rfl⟩,h⟩
noncomputable def un3:Code:=match Tryz.f44.body with|some (.seq _ (.seq _ (.seq _ (.seq r _))))=>r|_=>.skip
noncomputable def GI:Code:=match Tryz.f44.body with|some (.seq _ (.seq _ (.seq _ (.seq _ (.seq r _)))))=>r|_=>.skip
def RV (d:UnD) (k:Int):Prop:=d.kd=↑k
theorem Htd (d:UnD) (z:Bool) (k:Int) (w:ZB) (hkd:RV d k) (hnamed:d.named=(d.id != []||d.n != 0)) (hm:∀ v∈(oZ d).toList,v.oneCell'=true) (sN:∀ W,Below w w W->Calls prog 101 #[.agg #[d.m0,d.m1,d.m2,d.m3,d.m4,d.m5,d.m6,d.m7,d.m8,d.m9,d.m10,d.m11],.agg Fk] W (Ret W (.bool z))):Calls prog 44 #[.agg (nK d)] w (Ret w (.bool (uz d z k))):=by
 unfold nK;go_in;go_wp2;rename_i K hK;have hS0:rJ d w (w.alloc (.cells (nK d) 64 (0,0))).drew:=fun i=>fO (Bin w _) i;have hB0:Below w w (w.alloc (.cells (nK d) 64 (0,0))).drew:=(Ac w w |>.alloc nR _).drew;have hlt:w.heap.size<(w.alloc (.cells (nK d) 64 (0,0))).drew.heap.size:=(Jw.1 (Bin w _)).1;refine wp_region_noPanic (Ui (ops:=Lb) kR (Dt (S:=rJ d w) kR hS0 (fun _=>Dcy (a':=BP d w) (listed':=So) kR kR (Hvr hlt hS0 hm hnamed ?_))));intro w1 p3 p4 p5 p6 hb1 l3 l4 l5 l6 hS1;have KJ:=hS0.below hb1 hlt;have hB1:Below w w w1:=hB0.trans (hb1.mono hB0.size);have hlt1:=Af hlt hb1.size;refine hK _ _ ?_;clear hK;refine wp_seq (wp_region_noPanic (Ui (ops:=dW) kR (Dt (S:=UnS d ⟨p3,p4,p5,p6,w.heap.size,sV d w⟩) kR (hS1.below (Ac _ _).drew ⟨l3,l4,l5,l6⟩) (fun QM=>Dcy (a':=vP d ⟨p3,p4,p5,p6,w.heap.size,sV d w⟩) (listed':=Pt) rfl kR (I57 d ⟨p3,p4,p5,p6,w.heap.size,sV d w⟩ z w1.drew _ ⟨l3,l4,l5,l6⟩ QM (fun W hW=>sN W ((hB1.drew).trans (hW.mono (hB1.drew).size))) ?_)))));intro w2 r kvs hb2 hmap hnd hmem;have KI:=KJ.below ((Ac w1 w1).drew.trans hb2) hlt1;have hB2:Below w w w2:=(hB1.drew).trans (hb2.mono (hB1.drew).size);have hc0:w2.cell? ⟨w,0,none⟩=some ↑k:=(KI 0).trans (congrArg some hkd);obtain⟨s,hs⟩:∃ s:Nat->ZC,unH d ⟨p3,p4,p5,p6,w.heap.size,sV d w⟩ z (.map (some r)) (.map (some r)) (.map (some r))=unL s w r (s 9):=⟨fun i=>(unH d ⟨p3,p4,p5,p6,w.heap.size,sV d w⟩ z (.map (some r)) (.map (some r)) (.map (some r))).tmps.getD i ZA,kR⟩
 rw [hs];unfold unL;clear hs;have hl:=fun s u=>Off s w r u kvs w w2 hB2 hmap (fun k v h=>by obtain⟨_,b,_,rfl⟩:=(hmem k v).1 h;exact⟨b,rfl⟩);simp only [L3c hmem] at hl;have hl':∀ (a:Act) (u:Int),u=Ps k->a=unL (fun i=>a.tmps.getD i ZA) w.heap.size r ↑u->Del.wp prog (bodyPost prog Tryz.f44 (Ret w (.bool (uz d z k)))) a w2:=fun a u hu ha=>by rw [ha];subst hu;exact hl _ _
 clear hl hmap hnd hmem KI KJ hS0 hS1 sN hm hkd;refine Hmy (c':=.seq un3 (.seq GI Del)) kR rfl ?_;generalize bodyPost prog Tryz.f44 (Ret w (.bool (uz d z k)))=Q at hl' ⊢;unfold un3 GI Tryz.f44;dsimp only [];go_wp2;·rename_i h3;exact hl' _ 7 (by unfold Ps;rw [if_pos (.inl h3)]) kR
 ·rename_i h3 h5;exact hl' _ 7 (by unfold Ps;rw [if_pos (by simpa using h5)]) kR
 ·rename_i h3 h5;exact hl' _ k (by unfold Ps;rw [if_neg (by simpa using h5)]) kR
def uD (a:Q02) (an:Option Addr) (cn:Nat) (ak:Option Addr) (ck:Nat) (am:Option Addr) (cm:Nat) (ap:Option Addr) (cp:Nat) (aj:Option Addr) (cj:Nat):UnD:={ kd:=aI a.kind,ck:=a.change.kind,ci:=a.change.id,ei:=a.change.entry.id,an:=an,nn:=a.change.entry.names.length,cn:=cn,cp:=a.change.pos,m0:=ay a.measure.id,m1:=ay a.measure.authority,m2:=aI a.measure.kind,m3:=ay a.measure.target,m4:=aI a.measure.aB.op,m5:=ay a.measure.aB.name,m6:=aI a.measure.aB.cmp,m7:=aI a.measure.aB.n,m8:=.slice ak a.measure.aB.kids.length ck,m9:=aI a.measure.start,m10:=aI a.measure.aF,m11:=aI a.measure.aQ,li:=a.licence.id,am:=am,nm:=a.licence.measures.length,cm:=cm,ap:=ap,np:=a.licence.aO.length,cq:=cp,lq:=a.licence.quota,lu:=a.licence.uses,lf:=a.licence.start,lt:=a.licence.aF,h0:=a.holding.id,h1:=a.holding.company,h2:=a.holding.holder,h3:=a.holding.aH,h4:=a.holding.aJ,aj:=aj,nj:=a.holding.joint.length,cj:=cj,h6:=a.holding.capital,h7:=a.holding.dV,h8:=a.holding.start,h9:=a.holding.stop,id:=a.id,n:=a.n,named:=(a.id != []||a.n != 0) }
theorem Htw (a:Q02) (an:Option Addr) (cn:Nat) (ak:Option Addr) (ck:Nat) (am:Option Addr) (cm:Nat) (ap:Option Addr) (cp:Nat) (aj:Option Addr) (cj:Nat):uz (uD a an cn ak ck am cm ap cp aj cj) (dI a.measure) a.kind=CH.unused a:=by
 have e1:(uD a an cn ak ck am cm ap cp aj cj).yc5=iJ a.change:=rfl;have e2:(uD a an cn ak ck am cm ap cp aj cj).yl7=gK a.licence:=rfl;have e3:(uD a an cn ak ck am cm ap cp aj cj).zQ=gQ a.holding:=rfl;have e4:(uD a an cn ak ck am cm ap cp aj cj).named=(a.id != []||a.n != 0):=rfl;unfold uz iV CH.unused;rw [e1,e2,e3,e4];generalize (uD a an cn ak ck am cm ap cp aj cj)=d;show _=(!(iJ a.change&&(1:Int) != Ps a.kind)&&!(!dI a.measure&&(2:Int) != Ps a.kind)&&!(gK a.licence&&(4:Int) != Ps a.kind)&&!(gQ a.holding&&(6:Int) != Ps a.kind)&&!((a.id != []||a.n != 0)&&(7:Int) != Ps a.kind))
 generalize Ps a.kind=u;generalize iJ a.change=x1;generalize dI a.measure=x2;generalize gK a.licence=x3;generalize gQ a.holding=x4;generalize (a.id != []||a.n != 0)=x5;simp only [List.any_cons,List.any_nil,Bool.or_false];generalize ((1:Int) != u)=y1;generalize ((2:Int) != u)=y2;generalize ((4:Int) != u)=y3;generalize ((6:Int) != u)=y4;generalize ((7:Int) != u)=y5;revert x1 x2 x3 x4 x5 y1 y2 y3 y4 y5;decide
theorem Ch3 (a:Q02) (s:gV) (w:ZB) (hG:Gc w) (h:dG w w a s) : Calls prog 44 #[.agg (A4 a s).toArray] w (Ret w (.bool (CH.unused a))):=by obtain⟨vn,vk,vm,vp,vj⟩:=s;obtain⟨an,cn,hn,_,_⟩:=h.names.form;obtain⟨ak,ck,hk,hk1,hk2,_⟩:=Ax.form h.meas.kids;obtain⟨am,cm,hm,_,_⟩:=h.lm.form;obtain⟨ap,cp,hp,_,_⟩:=h.lp.form;obtain⟨aj,cj,hj,_,_⟩:=h.hj.form;have oC:=h.meas.nums;change vn=_ at hn;change vk=_ at hk;change vm=_ at hm;change vp=_ at hp;change vj=_ at hj;clear h;subst hn hk hm hp hj;have S:=fun (W:ZB) (hb:Below w w W)=>Q5 a.measure ak _ ck W (hG.gl.below hb) oC rfl (Aj hk1 hk2);have U:=Htd (uD a an cn ak ck am cm ap cp aj cj) (dI a.measure) a.kind w rfl rfl (by intro v hv;simp only [oZ,uD,Az,Bo,Ey] at hv;rcases hv with rfl|rfl|rfl|rfl|rfl|rfl|rfl|rfl|rfl|rfl|rfl|rfl <;> rfl) (fun W hW=>S W hW);rw [Htw] at U;exact U
end
end Go.Proofs.Y
