/- Short names and laws of states that the walks of DependNothing stand on, part 1 of 3. -/
import Derived.Test.YtnfcjgfaecihbaaGreatDoorProg
import Derived.WalkKit
import Derived.Deep.RegionHeld
import Derived.Deep.WholeRow
import Derived.Lib.QuietBelow
import Derived.Lib.Hide
set_option linter.unusedSimpArgs false
set_option linter.unusedVariables false
set_option maxHeartbeats 40000000
set_option maxRecDepth 100000
set_option linter.defProp false
theorem kR {P:Prop} (h:P:=by kernel_rfl):P:=h
theorem oM {P:Prop} (h:P:=by omega):P:=h
theorem sM {P:Prop} (h:P:=by simp):P:=h
theorem dC {P:Prop} (h:P:=by decide):P:=h
theorem rF {P:Prop} (h:P:=by rfl):P:=h
instance cW : Coe Go.World Nat := ⟨fun w => w.heap.size⟩
instance cS : Coe (List UInt8) Go.Value := ⟨fun l => .string ⟨l.toArray⟩⟩
instance cI : Coe Int Go.Value := ⟨fun n => .int .i64 n⟩
instance cN : Coe Nat Go.Value := ⟨fun n => .int .i64 n⟩
def a_Bool_not_false:=@Bool.not_false
def a_if_pos:=@if_pos
def a_if_neg:=@if_neg
def a_List_all_eq_true:=@List.all_eq_true
def a_Nat_le_refl:=@Nat.le_refl
def a_Nat_lt_of_lt_of_le:=@Nat.lt_of_lt_of_le
def a_Nat_le_trans:=@Nat.le_trans
def a_Array_getElemQ_eq_some_iff:=@Array.getElem?_eq_some_iff
def a_List_getElemQ_eq_some_iff:=@List.getElem?_eq_some_iff
def a_List_getElemQ_eq_getElem:=@List.getElem?_eq_getElem
def a_Nat_lt_of_le_of_lt:=@Nat.lt_of_le_of_lt
def a_Nat_div_eq_of_lt:=@Nat.div_eq_of_lt
def a_List_length_append:=@List.length_append
def a_List_take_add_one:=@List.take_add_one
def a_Array_getElemQ_modify:=@Array.getElem?_modify
def a_List_drop_eq_getElem_cons:=@List.drop_eq_getElem_cons
def a_Array_length_toList:=@Array.length_toList
def a_Nat_lt_or_ge:=@Nat.lt_or_ge
def a_Below_refl:=@Go.RowKit.Below.refl
def a_Array_getElemQ_eq_getElem:=@Array.getElem?_eq_getElem
def a_Lib_hid:=@Go.Lib.hid
def a_List_getElemQ_drop:=@List.getElem?_drop
def a_List_take_of_length_le:=@List.take_of_length_le
def a_List_nil_append:=@List.nil_append
def a_Nat_zero_add:=@Nat.zero_add
def a_Nat_zero_le:=@Nat.zero_le
def a_List_mem_of_getElemQ:=@List.mem_of_getElem?
def a_List_length_singleton:=@List.length_singleton
def a_List_length_nil:=@List.length_nil
def a_Nat_add_assoc:=@Nat.add_assoc
def a_World_ownsRow_nil:=@Go.World.ownsRow_nil
def a_List_length_eq_zero_iff:=@List.length_eq_zero_iff
def a_World_ownsRow_cellAt:=@Go.World.ownsRow.cellAt
def a_World_ownsRow_alloc:=@Go.World.ownsRow.alloc
def a_Option_map_some:=@Option.map_some
def a_Option_some_injEq:=@Option.some.injEq
def a_Prod_mk_injEq:=@Prod.mk.injEq
def a_List_getElemQ_eq_none:=@List.getElem?_eq_none
def a_decide_eq_false:=@decide_eq_false
def a_List_all_append:=@List.all_append
def a_List_all_eq_false:=@List.all_eq_false
def a_List_getElemQ_cons_zero:=@List.getElem?_cons_zero
def a_List_getElemQ_cons_succ:=@List.getElem?_cons_succ
def a_List_mem_cons:=@List.mem_cons
def a_Nat_add_zero:=@Nat.add_zero
def a_heap_alloc_last:=@Go.heap_alloc_last
def a_List_drop_zero:=@List.drop_zero
def a_decide_eq_true:=@decide_eq_true
def a_List_foldl_cons:=@List.foldl_cons
def a_List_take_length:=@List.take_length
def a_wpList_load_mid:=@Go.wpList_load_mid
def a_wpList_store_mid:=@Go.wpList_store_mid
def a_Bool_not_true:=@Bool.not_true
def a_List_take_append_drop:=@List.take_append_drop
def a_Oper_semAt_some:=@Go.Oper.semAt_some
def a_List_getElemQ_append_left:=@List.getElem?_append_left
def a_List_getElemQ_append_right:=@List.getElem?_append_right
def a_World_ownsRow_kept:=@Go.World.ownsRow.kept
def a_heap_setCell_other:=@Go.heap_setCell_other
def a_World_block_lt_of_cellQ:=@Go.World.block_lt_of_cell?
def a_World_setCell_alloc_at:=@Go.World.setCell_alloc_at
def a_all_oneCell_toArray:=@Go.all_oneCell_toArray
def a_Nat_lt_trichotomy:=@Nat.lt_trichotomy
def a_List_mem_iff_getElemQ:=@List.mem_iff_getElem?
namespace Go.Proofs.YtnfcjgfaecihbaaGreatDoor
section
theorem pA {α:Type} (l:List α) (i:Nat) (a:α):l.toArray.setIfInBounds i a=(l.set i a).toArray:=List.setIfInBounds_toArray _ _ _
theorem pB {α:Type} (a b:α) (l:List α):(a::l).set 0 b=b::l:=rfl
theorem pC {α:Type} (a b:α) (l:List α) (n:Nat):(a::l).set (n+1) b=a::l.set n b:=rfl
theorem pD {α:Type} (l:List α) (i:Nat) (h:i<l.toArray.size):l.toArray[i]=l[i]'(by simpa using h):=rfl
theorem pE {α:Type} (a:α) (l:List α) (h:0<(a::l).length):(a::l)[0]=a:=rfl
theorem pF {α:Type} (a:α) (l:List α) (n:Nat) (h:n+1<(a::l).length):(a::l)[n+1]=l[n]'(Nat.lt_of_succ_lt_succ h):=rfl
attribute [push_cast] Act.put pA pB pC pD pE pF
end
end Go.Proofs.YtnfcjgfaecihbaaGreatDoor
namespace CH
section
def mix1 (s n:Nat):Nat:=((s ^^^ n)*2862933555777941757) % 18446744073709551616
def mix2 (x:Nat):Nat:=((x ^^^ x / 4294967296)*3935559000370003845) % 18446744073709551616
def mix3 (y:Nat):Nat:=y ^^^ y / 536870912
def mix (s n:Nat):Nat:=mix3 (mix2 (mix1 s n))
def be8 (l:List UInt8):Nat := ((((((((l.getD 0 0).toNat*256+(l.getD 1 0).toNat)*256+(l.getD 2 0).toNat)*256+(l.getD 3 0).toNat)*256+(l.getD 4 0).toNat)*256+(l.getD 5 0).toNat)*256+(l.getD 6 0).toNat)*256+(l.getD 7 0).toNat)
def absorb:Nat->Nat->List UInt8->Nat
 |0,s,_=>s
 |k+1,s,l=>absorb k (mix s (be8 l)) (l.drop 8)
def sumN (l:List UInt8):Nat:=absorb (l.length / 8+1) (2611923443488327891 ^^^ l.length) l
def hexDigit (n:Nat):UInt8:=if n<10 then UInt8.ofNat (48+n) else UInt8.ofNat (87+n)
def hexK:Nat->Nat->List UInt8
 |0,_=>[]
 |k+1,n=>hexK k (n / 16)++[hexDigit (n % 16)]
def sum (l:List UInt8):List UInt8:=hexK 16 (sumN l)
theorem hexK_succ (k n:Nat):hexK (k+1) n=hexDigit (n / 16 ^ k % 16)::hexK k n:=by
 induction k generalizing n with
 |zero=>simp [hexK]
 |succ k ih =>rw [hexK,ih,hexK,Nat.div_div_eq_div_mul,<- Nat.pow_succ'];rfl
def pack (f:Int->List UInt8):List (List UInt8)->List UInt8
 |[]=>[]
 |l::r=>f l.length++[58]++l++pack f r
theorem take_snoc_at {α:Type} (ls:List α) (k:Nat) (l:α) (h:ls[k]?=some l):ls.take (k+1)=ls.take k++[l]:=by rw [a_List_take_add_one,h];rfl
def chain:Nat->List UInt8->List UInt8
 |0,l=>l
 |n+1,l=>chain n (sum l)
end
end CH
