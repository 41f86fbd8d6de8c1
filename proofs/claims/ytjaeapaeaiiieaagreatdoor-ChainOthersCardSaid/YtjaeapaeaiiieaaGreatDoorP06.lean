/-
  ChainOthers: the proof, part 7 of 16.
-/
import Derived.Test.YtjaeapaeaiiieaaGreatDoorP05
import Derived.OrdersHeld
import Derived.Deep.RegionHeld3
set_option linter.unusedSimpArgs false
set_option linter.unusedVariables false
set_option maxHeartbeats 40000000
set_option maxRecDepth 100000
namespace Go.Proofs.YtjaeapaeaiiieaaGreatDoor
section
open Go.Lib Go.Proofs.Tryz Go.RowKit Go.Shelf Go.Sort
def Cx:Code→Nat→Option (Array Oper)
 | .region id ops _,k=>if id=k then some ops else none
 | .seq a b,k=>match Cx a k with|some x=>some x|none=>Cx b k
 | .cond _ a b,k=>match Cx a k with|some x=>some x|none=>Cx b k
 | .block _ b,k=>Cx b k
 | .loop b,k=>Cx b k
 | .scope b,k=>Cx b k
 | _,_=>none
section
variable {P:Program} {ops:Array Oper} {md:Region.Mode} {S:World→Prop} {a:Act} {o:Oper} {Q:Exit→Act→World→Prop}
theorem Jz {ops':Array Oper} {id:Nat} {w:World} (h:ops'=ops) (hh:(Code.region id ops true).wp P Q a w):(Code.region id ops' true).wp P Q a w:=h ▸ hh
theorem Ay {fuel:Nat} {listed listed':Array Bool} {a a':Act} {w:World} (ha:a'=a) (hl:listed'=listed) (h:wpAnyH P md ops Q S fuel listed' a' w):wpAnyH P md ops Q S fuel listed a w:=by subst ha hl;exact h
theorem Ac {v:Value} (hg:Region.wanted o (yielded ops a.tmps)=true) (h:∀ w,S w→(execOp a.eval o).run P w=.ok (.value v) w):YieldsIf P ops S o v a:=.inl ⟨hg,h⟩
theorem Ae {y:Bool} {x:Value} (hw:Region.wanted o (yielded ops a.tmps)=(some y==some false)) (h:y=false→∀ w,S w→(execOp a.eval o).run P w=.ok (.value x) w):YieldsIf P ops S o (if y=true then undef else x) a:=by
 cases y with
 | false=>exact .inl ⟨hw,h rfl⟩
 | true=>exact .inr ⟨hw,rfl⟩
theorem A5 {T:TypeId} {x:Operand} {f:Nat} {vx v:Value} {w:World} (hop:o.op=.fieldAddr T x f) (hx:a.eval x=vx) (hr:(Instr.fieldAt T vx f).run P w=.ok v w):(execOp a.eval o).run P w=.ok (.value v) w:=by
 unfold execOp;simp [hop,hx,hr]
theorem Be {T:TypeId} {x:Operand} {vx v:Value} {w:World} (hop:o.op=.load T x) (hx:a.eval x=vx) (hr:(Instr.loadAt T vx).run P w=.ok v w):(execOp a.eval o).run P w=.ok (.value v) w:=by
 unfold execOp;simp [hop,hx,hr]
theorem Ce {op:BinOp} {T T':TypeId} {x y:Operand} {vx vy v:Value} {w:World} (hop:o.op=.binOp op T x y T') (hx:a.eval x=vx) (hy:a.eval y=vy) (hg:(eqGuard op T x y vx vy).run P w=.ok () w) (hr:(binOp op T vx vy).run P w=.ok v w):(execOp a.eval o).run P w=.ok (.value v) w:=by
 unfold execOp;simp [hop,hx,hy,hg,hr]
theorem Bv {x:Operand} {v:Value} {w:World} (hop:o.op=.move x) (hx:a.eval x=v):(execOp a.eval o).run P w=.ok (.value v) w:=by
 unfold execOp;simp [hop,hx]
theorem Cb {c x y:Operand} {b:Bool} {vx vy:Value} {w:World} (hop:o.op=.pick c x y) (hc:a.eval c=.bool b) (hx:a.eval x=vx) (hy:a.eval y=vy):(execOp a.eval o).run P w=.ok (.value (if b=true then vx else vy)) w:=by
 unfold execOp;simp [hop,hc,hx,hy,asBool]
theorem ex_len {x:Operand} {T e:TypeId} {s:Option Addr} {n c:Nat} {w:World} (hu:P.underlying T=some (.slice e)) (hop:o.op=.call { callee:=.builtin .len,args:=#[x],argTypes:=#[T] }) (hx:a.eval x=.slice s n c):(execOp a.eval o).run P w=.ok (.value (.int .i64 n)) w:=by
 unfold execOp
 simp only [hop,resolve,invoke,builtin,Sem.run_bind,Sem.run_pure,Result.andThen_ok,List.map_toArray,List.map_cons,List.map_nil,hx]
 simp [Builtin.len_,run_underlying hu,goInt]
theorem De {J:Array Bool→Act→World→Prop} (hstep:∀ listed a w i,i∈Region.ready md ops listed→J listed a w→wpOp P ops Q i (fun a' w'=>S w'∧J (listed.setIfInBounds i true) a' w') a w)
  (hend:∀ listed a w,Region.ready md ops listed=[]→J listed a w→Q .normal a w):∀ (fuel:Nat) (listed:Array Bool) (a:Act) (w:World),Hs listed≤fuel→J listed a w→wpAnyH P md ops Q S fuel listed a w
 | 0,listed,a,w,hu,h=>⟨ready_nil (by omega),hend _ _ _ (ready_nil (by omega)) h⟩
 | fuel+1,listed,a,w,hu,h=>⟨fun h0=>hend _ _ _ h0 h,fun i hi=>wpOp_mono (fun a' w' h'=>⟨h'.1,De hstep hend fuel _ a' w' (by have:=J4 (mem_ready.1 hi).1;omega) h'.2⟩) (hstep _ _ _ _ hi h)⟩
end
theorem C9 {w:World} {b o:Nat} {v:Value} (h:w.cell? ⟨b,o,none⟩=some v):(Instr.loadAt 3 (.pointer (some ⟨b,o,none⟩))).run prog w=.ok v w:=by go_simp
theorem Ec {w:World} {b o:Nat} {v:Value} (h:w.cell? ⟨b,o,none⟩=some v):(Instr.loadAt 9 (.pointer (some ⟨b,o,none⟩))).run prog w=.ok v w:=by go_simp
theorem Lc {w:World} {b o:Nat} {v:Value} (h:w.cell? ⟨b,o,none⟩=some v):(Instr.loadAt 22 (.pointer (some ⟨b,o,none⟩))).run prog w=.ok v w:=by go_simp
theorem load_names {w:World} {b o:Nat} {v:Value} (h:w.cell? ⟨b,o,none⟩=some v):(Instr.loadAt 54 (.pointer (some ⟨b,o,none⟩))).run prog w=.ok v w:=by go_simp
theorem C8 (n:Int) (w:World):(binOp .neq 3 (.int .i64 n) (.int .i64 0)).run prog w=.ok (.bool (n != 0)) w:=by go_simp
theorem Kt (n:Nat) (w:World):(binOp .gtr 3 (.int .i64 n) (.int .i64 0)).run prog w=.ok (.bool (decide (0<n))) w:=by go_simp
theorem Ea (s:List UInt8) (w:World):(binOp .neq 9 (.string ⟨s.toArray⟩) (.string ⟨#[]⟩)).run prog w=.ok (.bool (s != [])) w:=by
 have:(binOp .neq 9 (.string ⟨s.toArray⟩) (.string ⟨#[]⟩)).run prog w=.ok (.bool (!s.isEmpty)) w:=by go_simp
 rw [this]
 cases s <;> rfl
end
end Go.Proofs.YtjaeapaeaiiieaaGreatDoor
