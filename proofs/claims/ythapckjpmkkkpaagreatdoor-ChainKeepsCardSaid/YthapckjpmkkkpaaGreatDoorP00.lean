/-
  ChainKeeps: the proof, part 1 of 25.
-/
import Derived.Test.YthapckjpmkkkpaaGreatDoorProg
import Derived.WalkKit
import Derived.Deep.RegionHeld
import Derived.Deep.WholeRow
import Derived.Lib.QuietBelow
import Derived.Lib.Hide
set_option linter.unusedSimpArgs false
set_option linter.unusedVariables false
set_option maxHeartbeats 40000000
set_option maxRecDepth 100000
set_option linter.defProp false
theorem kR {P:Prop} (h:P:=by kernel_rfl):P:=h
theorem oM {P:Prop} (h:P:=by omega):P:=h
theorem sM {P:Prop} (h:P:=by simp):P:=h
theorem dC {P:Prop} (h:P:=by decide):P:=h
theorem rF {P:Prop} (h:P:=by rfl):P:=h
instance cW : Coe Go.World Nat := ⟨fun w => w.heap.size⟩
instance cS : Coe (List UInt8) Go.Value := ⟨fun l => .string ⟨l.toArray⟩⟩
instance cI : Coe Int Go.Value := ⟨fun n => .int .i64 n⟩
instance cN : Coe Nat Go.Value := ⟨fun n => .int .i64 n⟩
def Gw:=@List.append_nil
def Ih:=@of_decide_eq_true
def Aw:=@if_pos
def Ak:=@if_neg
def Hw:=@Option.some.inj
def Kz:=@Array.mem_of_getElem?
def Dt:=@List.all_eq_true
def Ce:=@Go.wpAnyH_take
def Fj:=@Go.wpAnyH_ready
def Ci:=@Go.AllReadyH.cons
def Ey:=@Go.AllReadyH.nil
def Bv:=@Nat.le_refl
def Ah:=@Nat.lt_of_lt_of_le
def Ag:=@Nat.le_trans
def N9:=@Array.getElem?_eq_some_iff
def Js:=@List.getElem?_eq_some_iff
def Ad:=@List.getElem?_eq_getElem
def J7:=@Nat.mod_lt
def J8:=@Nat.lt_of_le_of_lt
def Le:=@Nat.div_eq_of_lt
def Lc:=@Nat.pow_le_pow_right
def J3:=@List.replicate_succ
def I5:=@List.take_succ_cons
def Aj:=@List.length_append
def Eo:=@List.take_add_one
def Ar:=@List.length_cons
def Fb:=@Array.getElem?_modify
def Ee:=@List.mem_map
def Ec:=@Go.run_underlying
def Gm:=@List.drop_eq_getElem_cons
def Il:=@Array.length_toList
def Nc:=@Nat.lt_or_ge
def Jv:=@Nat.pow_succ
def Ny:=@Nat.mul_comm
def Gs:=@Go.World.cell?_alloc_past
def Ac:=@Go.RowKit.Below.refl
def Fz:=@Array.getElem?_eq_getElem
def Aa:=@Go.Lib.hid
def Ld:=@Nat.mod_eq_of_lt
def Ic:=@List.getElem?_drop
def Jg:=@Array.getElem?_toList
def Iq:=@Go.IntKind.wrap_u64
def Jq:=@Go.World.cell?_setCell_same'
def Iu:=@Go.World.frozen?_alloc_past
def Je:=@Go.World.frozen?_setCell
def Jt:=@Go.ByteArray.extract_mk
def Di:=@List.take_of_length_le
def H7:=@List.take_zero
def Dn:=@List.nil_append
def Dc:=@List.length_map
def Dy:=@List.length_take
def Bl:=@Nat.zero_add
def G6:=@Nat.le_of_lt
def Cj:=@Go.World.cell?_alloc_at
def Kq:=@Go.World.frozen?_alloc_at
def Bg:=@Nat.zero_le
def F8:=@Bool.eq_iff_iff
def Dl:=@beq_iff_eq
def Ap:=@List.mem_of_getElem?
def Dz:=@List.length_singleton
def Bo:=@List.length_nil
def Cc:=@Go.World.size_alloc
def Ll:=@Nat.add_assoc
def Lh:=@List.mem_of_mem_drop
def Hy:=@List.mem_of_mem_take
def Jj:=@Go.World.ownsRow_nil
def Df:=@List.length_eq_zero_iff
def Gy:=@Go.World.ownsRow.cellAt
def Jp:=@Go.info_parts
def Iz:=@Go.World.ownsRow.alloc
def I8:=@List.any_eq_true
def Jl:=@List.ext_getElem?
def D7:=@Go.World.ownsRow.lt
def Nh:=@List.map_map
def Fh:=@List.map_append
def Ew:=@List.map_cons
def Hz:=@List.map_nil
def Dp:=@List.mem_append
def Lm:=@List.sum_cons
def Dj:=@Nat.mul_le_mul_right
def Gg:=@List.getElem?_map
def Hg:=@Option.map_some
def Eu:=@Option.some.injEq
def Gp:=@Prod.mk.injEq
def Gj:=@List.getElem?_eq_none
def Ja:=@List.drop_eq_nil_of_le
def Ei:=@List.length_drop
def Gf:=@List.findIdx?_eq_some_iff_getElem
def Gx:=@beq_eq_false_iff_ne
def Aq:=@decide_eq_false
def He:=@Nat.add_sub_cancel_left
def Ij:=@List.all_append
def Jh:=@List.all_cons
def Lr:=@List.getElem_of_mem
def Nl:=@List.mem_range
def Jw:=@List.getElem_mem
def Jo:=@List.all_eq_false
def Fp:=@List.getElem?_cons_zero
def Fq:=@List.getElem?_cons_succ
def A8:=@List.mem_cons
def F9:=@UInt8.toNat_lt
def a_Bool_true_and:=@Bool.true_and
def Eh:=@decide_eq_decide
def Dv:=@Go.below_regrown
def Cm:=@Go.World.cell?_alloc_mark
def Ns:=@if_true
def Bd:=@Go.wp_region_quiet_below
def C9:=@Go.wpQuiet_nil
def Bj:=@Go.Calls.regrown_of
def Hl:=@Nat.add_zero
def Am:=@Bool.and_eq_true
def Bq:=@decide_eq_true_eq
def Dw:=@Bool.or_eq_true
def Lj:=@List.contains_eq_mem
def Ba:=@List.not_mem_nil
def Dh:=@or_false
def Es:=@decide_eq_false_iff_not
def Au:=@Go.bodyPost_ret
def Hf:=@Go.run_loadVar_mid
def Ed:=@Go.World.rangeAt_setCells_same
def Ai:=@Go.heap_alloc_last
def Hu:=@List.size_toArray
def I7:=@List.drop_zero
def Az:=@decide_eq_true
def Dk:=@Array.getElem?_push
def Eb:=@Array.size_push
def N8:=@List.foldl_cons
def Gv:=@Option.toList_some
def Dx:=@List.take_length
def Ko:=@Array.all_eq_true'
def En:=@Nat.lt_of_succ_lt
def G5:=@Nat.le_succ
def Ip:=@Nat.ne_of_lt
def Fe:=@Nat.lt_succ_self
def Bh:=@Go.wpList_load_mid
def Gn:=@Go.wpList_store_mid
def H6:=@Array.getElem?_setIfInBounds_ne
def H8:=@Array.getElem?_eq_none
def Gh:=@Bool.or_eq_false_iff
def G8:=@Go.mem_ready
def Ae:=@Go.cell_regrown
def J4:=@List.drop_succ_cons
def Jb:=@Go.Sem.run_bind
def H9:=@Go.Result.andThen_ok
def Ji:=@Bool.not_true
def Ie:=@Bool.false_eq_true
def Na:=@if_false
def Nb:=@Go.Sem.run_pure
def F7:=@List.take_append_drop
def Ea:=@Bool.not_eq_true'
def Bc:=@Go.results_tmp2
def Ir:=@ByteArray.size_append
def Gt:=@Go.MapKept.run_getObj_map
def Kt:=@Go.MapKept.run_setObj_map
def Mc:=@List.length_set
def Iw:=@Go.Oper.semAt_some
def Nq:=@Go.callsIn_of_wp
def Hq:=@Array.replicate_succ
def Ho:=@Array.replicate_zero
def Ia:=@List.push_toArray
def Ht:=@List.append_toArray
def Dq:=@List.cons_append
def Io:=@Go.callsIn_wide
def Fv:=@List.getElem?_append_left
def Nv:=@Go.results_none
def Et:=@List.getElem?_append_right
def J6:=@Go.World.ownsRow.kept
def Me:=@Go.wpIn_wide
def Ez:=@Go.RowKit.Below.alloc
def D8:=@Go.World.cell?_setCell_far
def D6:=@Go.wpAnyH_done
def G9:=@List.getElem?_toArray
def Jz:=@Go.RowKit.Below.heap_alloc
def Nj:=@List.all_nil
def Lp:=@Bool.and_true
def Ig:=@Go.RowKit.run_makeMap
def Gq:=@Go.World.cell?_alloc_some
def bH:=@Go.heap_setCell_other
def Ku:=@List.length_pos_of_mem
def Jm:=@List.any_eq_false
def Bz:=@List.mem_singleton
def Ky:=@not_or
def Ef:=@Go.World.block_lt_of_cell?
def Kw:=@Array.toList_push
def Jk:=@List.nodup_append
def Gz:=@Go.World.setCell_alloc_at
def Em:=@Go.all_oneCell_toArray
def Lu:=@List.nodup_cons
def Iy:=@List.mem_cons_of_mem
def Kv:=@Nat.lt_trichotomy
def Jr:=@List.pairwise_append
def Gi:=@List.mem_iff_getElem?
def Ib:=@List.pairwise_iff_getElem
def I9:=@List.filter_eq_nil_iff
def Jd:=@List.filter_append
def Jc:=@List.pairwise_cons
def Nw:=@Option.map_none
def Nr:=@Option.getD_none
def J9:=@Bool.not_eq_false'
def Jf:=@Bool.and_eq_false_iff
def Ep:=@List.flatMap_cons
def G7:=@List.flatMap_nil
def Kr:=@Option.map_eq_some_iff
def Ik:=@List.flatMap_append
def D9:=@List.append_assoc
def Ej:=@Go.wp_region_held_drew
def Gu:=@Go.RowKit.Below.drew
def Fg:=@Go.RowKit.Below.setCell
def Fa:=@Array.getD_eq_getD_getElem?
def Cb:=@Go.getD_set_true
def J5:=@Bool.false_or
def N7:=@List.mem_append_left
def Nu:=@List.mem_append_right
def Nk:=@Go.wpAnyH_all
def fA:=@Go.cell_of_row
def Oc:=@Go.mem_left
def Ju:=@Go.results_tmp
def La:=@Option.getD_some
def Ii:=@Bool.not_eq_false
def Nz:=@Nat.le_of_eq
def Ls:=@List.getElem?_range
def Jy:=@List.getElem?_take_of_lt
theorem nR {n:Nat}:n<=n:=Nat.le_refl n
theorem aZ {α:Type} {xs:Array α} {i:Nat} {b:α} (h:xs[i]?=some b):i<xs.size:=(Array.getElem?_eq_some_iff.1 h).1
theorem lS {α:Type} {xs:List α} {i:Nat} {b:α} (h:xs[i]?=some b):i<xs.length:=(List.getElem?_eq_some_iff.1 h).1
namespace Go.Proofs.YthapckjpmkkkpaaGreatDoor
theorem tk {P:Program} {md:Region.Mode} {ops:Array Oper} {S:World->Prop} {Q:Exit->Act->World->Prop} {fuel:Nat} {listed:Array Bool} {a:Act} {w:World} {oi:Oper} {v:Value} (i:Nat) (hi:ops[i]?=some oi) (hw:Region.wanted oi (yielded ops a.tmps)=true) (hS:S w) (hy:∀ w,S w->(execOp a.eval oi).run P w=.ok (.value v) w) (h:wpAnyH P md ops Q S fuel (listed.setIfInBounds i true) (a.put oi.dst v) w) (hs:Region.noSelect ops=true:=by kernel_rfl) (hf:Region.free md ops listed i=true:=by kernel_rfl) (hr:(Region.ready md ops listed).contains i=true:=by kernel_rfl) (hQ:∀ c a w,Q (.panic c) (a.put oi.dst v) w->Q (.panic c) a w:=by exact fun _ _ _ h=>h):wpAnyH P md ops Q S (fuel+1) listed a w := wpAnyH_take hi hs hf hr hQ (Or.inl ⟨hw,hy⟩) hS h
theorem rk {P:Program} {md:Region.Mode} {ops:Array Oper} {S:World->Prop} {Q:Exit->Act->World->Prop} {fuel:Nat} {listed:Array Bool} {a:Act} {w:World} {o:Oper} (i:Nat) (ho:ops[i]?=some o) (h:∀ K':Act->World->Prop,Shut (∀ a w,S w->(S w->wpAnyH P md ops Q S fuel (listed.setIfInBounds i true) a w)->K' a w)->if Region.wanted o (yielded ops a.tmps)=true then Oper.wp P o a w K' Q else K' (a.put o.dst undef) w) (hr:Region.ready md ops listed=[i]:=by kernel_rfl):wpAnyH P md ops Q S (fuel+1) listed a w := wpAnyH_ready hr (List.cons_ne_nil _ _) (AllReadyH.cons ho h AllReadyH.nil)
theorem pA {α:Type} (l:List α) (i:Nat) (a:α):l.toArray.setIfInBounds i a=(l.set i a).toArray:=List.setIfInBounds_toArray _ _ _
theorem pB {α:Type} (a b:α) (l:List α):(a::l).set 0 b=b::l:=rfl
theorem pC {α:Type} (a b:α) (l:List α) (n:Nat):(a::l).set (n+1) b=a::l.set n b:=rfl
end Go.Proofs.YthapckjpmkkkpaaGreatDoor
