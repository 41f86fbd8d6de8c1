/-
  ChainSeals: the proof, part 3 of 15.
-/
import Derived.Test.YtjepldaciejieaaGreatDoorP01
import Derived.Test.YtjepldaciejieaaGreatDoorProg
import Derived.Shelf.Strings.SlTrimAscii
import Derived.WalkKit
import Derived.WalkSpells
import Derived.WalkLawsBesides
import Derived.Outline
import Derived.Lib.Hide
import Derived.Lib.AppendIntMem
import Derived.LoopTactic
import Derived.RegionTactic
import Derived.Deep.RegionLaw
import Derived.Deep.WholeRow
import Derived.Lib.ItoaNum
import Derived.Deep.RegionWith
import Derived.Lib.ItoaLen
import Derived.Maps.AppendAt
import Derived.Deep.QuietTactic
import Derived.BigQuiet
import Derived.Laws.EntriesVeiled
import Derived.Lib.QuietBelow
import Derived.Lib.DecodeN
import Derived.RangeFuncRecord
import Derived.Deep.MidRow
set_option linter.unusedSimpArgs false
set_option linter.unusedVariables false
set_option maxHeartbeats 40000000
set_option maxRecDepth 100000
namespace Go.Proofs.YtjepldaciejieaaGreatDoor
section
open Go.Lib Go.Proofs.Tryz Go.RowKit Go.Shelf
theorem cell_of {w:World} {g:Nat} {cs:Array Value} {t:TypeId} {fr:Nat × Nat} (h:w.heap[g]?=some (.cells cs t fr)) (o:Nat):w.cell? ⟨g,o,none⟩=cs[o]?:=by
 simp [World.cell?,h]
theorem Aj {w:World} {g:Nat} {cs:Array Value} {t:TypeId} (h:w.heap[g]?=some (.cells cs t (0,0))) (o:Nat):w.frozen? ⟨g,o,none⟩=false:=by
 simp [World.frozen?,h]
theorem Ai (w:World) (g o:Nat) (v:Value) (cs:Array Value) (t:TypeId) (fr:Nat × Nat) (hg:w.heap[g]?=some (.cells cs t fr)) :
  (w.setCell ⟨g,o,none⟩ v).heap[g]?=some (.cells (cs.setIfInBounds o v) t fr):=by
 have hlt:g<w.heap.size:=(aZ hg)
 simp only [World.setCell]
 rw [Array.getElem?_modify,if_pos rfl,hg]
 rfl
theorem ret_int {k:IntKind} {a b:Int} (h:a=b):Ending.returned (.int k a)=.returned (.int k b):=by rw [h]
theorem run_copy_string {P:Program} (w:World) (dT sT ty elem:TypeId) (g o dLen dCap:Nat) (s:ByteArray) (cur:Array Value) (t:TypeId) (cs:List Value)
  (hu:P.underlying dT=some (.slice elem)) (hs:(P.info? elem).map (·.size)=some 1)
  (hg:w.heap[g]?=some (.cells cur t (0,0))) (hcs:cs=((s.extract 0 (Nat.min s.size dLen)).data.map fun b=>Value.int .u8 b.toNat).toList)
  (hfit:o+cs.length≤cur.size) :
  (Builtin.copy_ #[dT,sT] ty #[.slice (some ⟨g,o,none⟩) dLen dCap,.string s]).run P w =
   .ok (goInt (Nat.min s.size dLen)) (w.setRow g (cur.toList.take o++cs++cur.toList.drop (o+cs.length)).toArray):=by
 have h1:∀ v∈cs,v.oneCell'=true:=by
  subst hcs
  intro v hv
  rw [Array.toList_map] at hv
  obtain⟨b,_,rfl⟩:=List.mem_map.1 hv
  rfl
 have hst:=run_storeCells_at P g o t cs 0 cur w hg (by simpa using hfit) h1
 cases hq:P.info? elem with
 | none=>simp [hq] at hs
 | some i =>
  have hi:i.size=1:=by simpa [hq] using hs
  rw [hcs] at hst
  simp [Builtin.copy_,run_underlying hu,Builtin.lenOf,Builtin.firstCells,sizeOf,typeInfo,hq]
  simp at hst
  simp [hst,hcs]
structure Gl (w:World):Prop where
 size:9≤w.heap.size
 db:w.cell? ⟨5,15,none⟩=some (.int .u8 4)
 pow10:Lib.TabIs prog w "internal/strconv.uint64pow10" .u64 Lib.pow10Tab
 utf8:Lib.Utf8Tabs 2 3 w
theorem Gl.below {w w':World} (h:Gl w) (hb:Below w.heap.size w w'):Gl w' where
 size:=nT h.size hb.size
 db:=(hb.cell (nL (by decide) h.size)).trans h.db
 pow10:=var?_below hb (by kernel_rfl) (g:=0) (nL (by decide) h.size) h.pow10
 utf8:=⟨fun c hc=>(hb.cell (p:=⟨_,c,none⟩) (nL (by simp) h.size)).trans (h.utf8.1 c hc),fun i hi=>⟨(hb.cell (p:=⟨_,2*i,none⟩) (nL (by simp) h.size)).trans (h.utf8.2 i hi).1,(hb.cell (p:=⟨_,2*i+1,none⟩) (nL (by simp) h.size)).trans (h.utf8.2 i hi).2⟩⟩
def Ret (w:World) (v:Value) (e:Ending) (w':World):Prop:=e=.returned v∧Below w.heap.size w w'
def Strs (B:Nat) (w:World) (v:Value) (ls:List (List UInt8)):Prop :=
 ∃ a cap,v=.slice a ls.length cap∧ls.length≤cap∧cap≤9223372036854775807 ∧
  (ls≠[]→∃ b off,a=some ⟨b,off,none⟩∧b<B∧∀ j l,ls[j]?=some l→w.cell? ⟨b,off+j,none⟩=some (.string ⟨l.toArray⟩))
theorem Strs.below {B B':Nat} {w w':World} {v:Value} {ls:List (List UInt8)} (h:Strs B w v ls) (hb:Below B' w w') (hB:B≤B'):Strs B w' v ls:=by
 obtain⟨a,cap,hv,h1,h2,h3⟩:=h
 refine⟨a,cap,hv,h1,h2,fun hne=>?_⟩
 obtain⟨b,off,ha,hlt,hc⟩:=h3 hne
 exact⟨b,off,ha,hlt,fun j l hj=>(hb.cell (p:=⟨b,off+j,none⟩) (nL hlt hB)).trans (hc j l hj)⟩
theorem Strs.mono {B B':Nat} {w:World} {v:Value} {ls:List (List UInt8)} (h:Strs B w v ls) (hB:B≤B'):Strs B' w v ls:=by
 obtain⟨a,cap,hv,h1,h2,h3⟩:=h
 refine⟨a,cap,hv,h1,h2,fun hne=>?_⟩
 obtain⟨b,off,ha,hlt,hc⟩:=h3 hne
 exact⟨b,off,ha,nL hlt hB,hc⟩
theorem Bn (B b:Nat) (bs:List Value) (s:ByteArray) (w:World) (h:Lib.IsBuilder 124 5 B b bs w) (hlen:bs.length+s.size≤140737488355328) (hBw:B≤w.heap.size) :
  Calls prog 59 #[.pointer (some ⟨b,0,none⟩),.string s] w fun e w'=>e=.returned (.tuple #[.int .i64 s.size,.nilIface])∧(Lib.BuilderAt 124 5 B b (.pointer (some ⟨b,0,none⟩)) (bs++Lib.strCells s) w'∧Below B w w') :=
 Any.Builder_WriteString (P:=prog) (ρ:=Tryz.lays105_ren) { lays105 with } Tryz.Builder_Extra_105 B b bs s w h hlen hBw
theorem builder_WriteByte (B b:Nat) (bs:List Value) (c:Int) (w:World) (h:Lib.IsBuilder 124 5 B b bs w) (hlen:bs.length+1≤140737488355328) (hBw:B≤w.heap.size) :
  Calls prog 104 #[.pointer (some ⟨b,0,none⟩),.int .u8 c] w fun e w'=>e=.returned .nilIface∧(Lib.BuilderAt 124 5 B b (.pointer (some ⟨b,0,none⟩)) (bs++[.int .u8 c]) w'∧Below B w w') :=
 Any.Builder_WriteByte (P:=prog) (ρ:=Tryz.lays159_ren) { lays159 with } Tryz.Builder_Extra_159 B b bs c w h hlen hBw
theorem ownsRow_below {w w':World} {base:Nat} {e:TypeId} {size:Nat} {v:Value} {n:Nat} {xs:List Value} (h:w.ownsRow base e size v n xs) (hb:Below w.heap.size w w'):w'.ownsRow base e size v n xs :=
 h.kept ⟨hb.os,hb.tape,hb.output,hb.size,fun k hk _=>hb.block k hk⟩ (row:=none) (by cases v.ownBlock <;> simp)
theorem Bh {T e:TypeId} {B b:Nat} {bs:List Value} {w w':World} (h:Lib.IsBuilder T e B b bs w) (hb:Below w.heap.size w w'):Lib.IsBuilder T e B b bs w':=by
 have key:∀ p,Lib.BuilderAt T e B b p bs w→Lib.BuilderAt T e B b p bs w':=fun p hp=>by
  have hlt:=hp.lt
  obtain⟨h1,v,h2,h3,h4⟩:=hp
  exact⟨h1,v,(hb.block b hlt).trans h2,ownsRow_below h3 hb,h4⟩
 rcases h with h|h
 ·exact .inl (key _ h)
 ·exact .inr (key _ h)
theorem Ce (n:Int) (w:World) (h0:-9223372036854775808≤n) (h1:n≤9223372036854775807) (hG:Gl w) :
  Calls prog 81 #[.int .i64 n] w (Ret w (.string ⟨(Lib.itoa n).toArray⟩)) :=
 (Tryz.strconv_Itoa n h0 h1 w hG.pow10).mono fun e w' ⟨he,k,os,hw⟩=>⟨he,by rw [hw];exact below_grow _ _ nR _ _⟩
end
section
open Go.Proofs.Tryz Go.RowKit
theorem tz16 (w:World) (hc:w.cell? ⟨5,15,none⟩=some (.int .u8 4)) :
  Calls prog 200 #[.int .u64 16] w fun e w'=>e=.returned (.int .i64 4)∧w=w':=by
 have e1:IntKind.u64.wrap (bits BinOp.and IntKind.u64 16 (IntKind.u64.wrap (-16))*285870213051353865) / 288230376151711744=15:=by decide +kernel
 go_enter func200,ntmps200
 go_wp2
 go_ret
 exact⟨rfl,rfl⟩
theorem digit_at (q:Nat) (h:q<16):((ByteArray.mk #[48,49,50,51,52,53,54,55,56,57,97,98,99,100,101,102,103,104,105,106,107,108,109,110,111,112,113,114,115,116,117,118,119,120,121,122])[q]'(nL h (by decide)))=CH.hexDigit q:=by
 rcases q with _|_|_|_|_|_|_|_|_|_|_|_|_|_|_|_|q
 all_goals first|rfl|omega
theorem pow2_16 (w:World):Calls prog 199 #[.int .i64 16] w fun e w'=>e=.returned (.bool true)∧w=w':=by
 have e1:bits BinOp.and IntKind.i64 16 15=0:=by decide +kernel
 go_enter func199,ntmps199
 go_wp2
 go_ret
 exact⟨rfl,rfl⟩
def HexRet (n:Nat) (w:World) (e:Ending) (w':World):Prop :=
 ∃ d:Nat,1≤d∧d≤16∧n<16 ^ d∧e=.returned (.tuple #[.slice none 0 0,.string ⟨(CH.hexK d n).toArray⟩])∧Below w.heap.size w w'
structure HexInv (n k q m:Nat) (cs:Array Value) (wr:World) (g:Nat):Prop where
 q_eq:q=n / 16 ^ k
 mkk:m+k=65
 pos:k=0∨16 ^ k≤n
 size:cs.size=65
 tail:cs.toList.drop m=(CH.hexK k n).map (fun b=>Value.int .u8 (b.toNat:Int))
 heap:wr.heap[g]?=some (.cells cs 267 (0,0))
theorem drop_set_pred {α:Type} (l:List α) (m:Nat) (v:α) (hm:1≤m) (h:m≤l.length):(l.set (m - 1) v).drop (m - 1)=v::l.drop m:=by
 obtain⟨j,rfl⟩:∃ j,m=j+1:=⟨m - 1,by omega⟩
 rw [Nat.add_sub_cancel,List.drop_eq_getElem_cons (by simp;omega)]
 simp [List.drop_set]
theorem HexInv.put {n k q m g:Nat} {cs:Array Value} {wr:World} (h:HexInv n k q m cs wr g) (hm:1≤m) :
  (cs.setIfInBounds (m - 1) (Value.int .u8 ((CH.hexDigit (q % 16)).toNat:Int))).toList.drop (m - 1)=(CH.hexK (k+1) n).map (fun b=>Value.int .u8 (b.toNat:Int)):=by
 have hs:=h.size
 rw [Array.toList_setIfInBounds,drop_set_pred _ _ _ hm (by rw [Array.length_toList,hs];have:=h.mkk;omega),h.tail,CH.hexK_succ,h.q_eq]
 rfl
theorem HexInv.small {n k q m g:Nat} {cs:Array Value} {wr:World} (h:HexInv n k q m cs wr g) (hq:1≤q) (hn:n<18446744073709551616):k≤15:=by
 have e:=h.q_eq
 have h1:16 ^ k≤n:=by
  rcases Nat.lt_or_ge n (16 ^ k) with hlt|hge
  ·rw [Nat.div_eq_of_lt hlt] at e;omega
  ·exact hge
 have h2:16 ^ k<16 ^ 16:=Nat.lt_of_le_of_lt h1 (by simpa using hn)
 have:=(Nat.pow_lt_pow_iff_right (by decide:1<16)).1 h2
 omega
theorem HexInv.le15 {n k q m g:Nat} {cs:Array Value} {wr:World} (h:HexInv n k q m cs wr g) (hn:n<18446744073709551616):k≤15:=by
 rcases h.pos with h1|h1
 ·omega
 ·have h2:16 ^ k<16 ^ 16:=Nat.lt_of_le_of_lt h1 (by simpa using hn)
  have:=(Nat.pow_lt_pow_iff_right (by decide:1<16)).1 h2
  omega
theorem HexInv.step {n k q m g:Nat} {cs:Array Value} {wr:World} (h:HexInv n k q m cs wr g) (hq:16≤q) (hm:1≤m) :
  HexInv n (k+1) (q / 16) (m - 1) (cs.setIfInBounds (m - 1) (Value.int .u8 ((CH.hexDigit (q % 16)).toNat:Int))) (wr.setCell ⟨g,m - 1,none⟩ (Value.int .u8 ((CH.hexDigit (q % 16)).toNat:Int))) g where
 q_eq:=by rw [h.q_eq,Nat.div_div_eq_div_mul,← Nat.pow_succ]
 mkk:=by have:=h.mkk;omega
 pos:=by
  right
  have e:=h.q_eq
  rw [e] at hq
  rw [Nat.pow_succ]
  have:=(Nat.le_div_iff_mul_le (Nat.pow_pos (by decide:0<16))).1 hq
  rwa [Nat.mul_comm] at this
 size:=by simp [h.size]
 tail:=h.put hm
 heap:=Ai _ _ _ _ _ _ _ h.heap
theorem formatBits_16 (n:Nat) (w:World) (hn:n<18446744073709551616) (hg5:5<w.heap.size) (hc:w.cell? ⟨5,15,none⟩=some (.int .u8 4)) :
  Calls prog 161 #[.slice none 0 0,.int .u64 n,.int .i64 16,.bool false,.bool false] w (HexRet n w):=by
 go_enter func161,ntmps161
 go_wp2_with fail
 refine (pow2_16 _).mono ?_
 rintro e w' ⟨rfl,rfl⟩
 go_wp2_with fail
 refine (tz16 _ (by rw [World.cell?_alloc_past _ _ _ hg5];exact hc)).mono ?_
 rintro e w' ⟨rfl,rfl⟩
 go_wp2_with fail
 go_loopw [1,13] (fun u i wr=>∃ (k q m:Nat) (cs:Array Value),u=.int .u64 q∧i=.int .i64 m∧q<18446744073709551616∧49≤m∧m≤65∧(k=0∨m<65)∧HexInv n k q m cs wr w.heap.size∧Below w.heap.size w wr) (fun u _ _=>(RowKit.intOf u).toNat)
 case atStart=>exact⟨0,n,65,Tryz.zeroCells267,rfl,rfl,hn,by omega,by omega,.inl rfl,⟨by simp,rfl,.inl rfl,by kernel_rfl,by kernel_rfl,Array.getElem?_push_size⟩,(Below.refl _ _).alloc nR _⟩
 case round =>
  obtain⟨k,q,m,cs,rfl,rfl,hq,hm1,hm2,hk0,hinv,hb⟩:=hrel
  by_cases hlt:16≤q
  ·have hcell:wr.cell? ⟨w.heap.size,m - 1,none⟩=cs[m - 1]?:=by simp [World.cell?,hinv.heap]
   have hsz:=hinv.size
   obtain⟨old,hold⟩:∃ old,cs[m - 1]?=some old:=⟨_,Array.getElem?_eq_getElem (by omega)⟩
   rw [hold] at hcell
   clear hold hsz
   have hfr:wr.frozen? ⟨w.heap.size,m - 1,none⟩=false:=by simp [World.frozen?,hinv.heap]
   have HI:=Lib.hid hinv
   clear hinv
   have hand:bits BinOp.and IntKind.u64 (q:Int) 15=((q % 16:Nat):Int):=by
    rw [show (15:Int)=((15:Nat):Int) from rfl,bits_and_u64_nat _ _ hq (by decide),nat_mask4]
   have hlo:(0:Int)≤((q % 16:Nat):Int):=by omega
   have hhi:((q % 16:Nat):Int)<36:=by omega
   go_wp2
   have hk:=HI.out.small (by omega) hn
   have hmk:=HI.out.mkk
   have hst:=HI.out.step hlt (by omega)
   rw [digit_at _ (Nat.mod_lt _ (by decide))]
   refine⟨⟨k+1,q / 16,m - 1,_,by go_num,by go_num,by omega,?_,by omega,.inr (by omega),hst,hb.setCell nR _⟩,?_⟩
   ·rcases Nat.lt_or_ge k 15 with h|h
    ·omega
    ·have:=hst.small (by omega) hn;omega
   ·simp [RowKit.intOf];omega
  ·obtain⟨j,rfl⟩:∃ j,m=j+1:=⟨m - 1,by omega⟩
   have hput:=hinv.put (by omega)
   have hmk:=hinv.mkk
   have hqe:=hinv.q_eq
   rw [Nat.add_sub_cancel,Nat.mod_eq_of_lt (by omega)] at hput
   have hcell:wr.cell? ⟨w.heap.size,j,none⟩=cs[j]?:=by simp [World.cell?,hinv.heap]
   have hsz:=hinv.size
   obtain⟨old,hold⟩:∃ old,cs[j]?=some old:=⟨_,Array.getElem?_eq_getElem (by omega)⟩
   rw [hold] at hcell
   have hfr:wr.frozen? ⟨w.heap.size,j,none⟩=false:=by simp [World.frozen?,hinv.heap]
   have hheap:=Ai wr w.heap.size j (Value.int .u8 ((CH.hexDigit q).toNat:Int)) _ _ _ hinv.heap
   have hjk:CH.hexK (k+1) n=CH.hexK (65 - j) n:=by congr 1;omega
   have hcv:=run_convert_bytes_back (P:=prog) (wr.setCell ⟨w.heap.size,j,none⟩ (Value.int .u8 ((CH.hexDigit q).toNat:Int))) 122 9 5 ⟨w.heap.size,j,none⟩ (65 - j) (CH.hexK (65 - j) n) underlying122 underlying5 underlying9 (fun i hi=>by
    have hi':i<(CH.hexK (k+1) n).length:=by rw [hjk];exact hi
    have hge:(CH.hexK (65 - j) n)[i]=(CH.hexK (k+1) n)[i]:=by simp only [hjk]
    rw [hge]
    have h1:(cs.setIfInBounds j (Value.int .u8 ((CH.hexDigit q).toNat:Int))).toList[j+i]?=some (Value.int .u8 (((CH.hexK (k+1) n)[i]).toNat:Int)):=by
     rw [← List.getElem?_drop,hput]
     simp [hi']
    rw [show (⟨w.heap.size,j,none⟩:Addr).add i=⟨w.heap.size,j+i,none⟩ from by simp [Addr.add],cell_of hheap]
    rw [← Array.getElem?_toList]
    exact h1)
   rw [CH.length_hexK] at hcv
   have hn':n<16 ^ (65 - j):=by
    rw [show 65 - j=k+1 from by omega,Nat.pow_succ]
    have:=(Nat.div_lt_iff_lt_mul (Nat.pow_pos (by decide:0<16))).1 (show n / 16 ^ k<16 by rw [← hqe];omega)
    rwa [Nat.mul_comm] at this
   have hk16:k≤15:=hinv.le15 hn
   have hq16:q<16:=by omega
   have hdig:=digit_at q hq16
   have HN:=Lib.hid hn'
   clear hinv hput hold hsz hheap hjk hqe hn'
   have hhi:(q:Int)<36:=by omega
   have hj1:(0:Int)≤(j:Int):=by omega
   have hj2:(j:Int)≤65:=by omega
   have hj3:¬ (65=j):=by omega
   go_wp2
   go_ret2
   exact⟨65 - j,by omega,by omega,HN.out,rfl,hb.setCell nR _⟩
theorem formatUint_16 (n:Nat) (w:World) (hn:n<18446744073709551616) (hg5:5<w.heap.size) (hc:w.cell? ⟨5,15,none⟩=some (.int .u8 4)) :
  Calls prog 63 #[.int .u64 n,.int .i64 16] w fun e w' =>
   ∃ d:Nat,1≤d∧d≤16∧n<16 ^ d∧e=.returned (.string ⟨(CH.hexK d n).toArray⟩)∧Below w.heap.size w w':=by
 go_enter func63,ntmps63
 go_wp2_with (first|(go_at_call 161;refine (formatBits_16 n _ hn hg5 hc).mono ?_;rintro e w' ⟨d,h1,h2,h3,rfl,hb⟩)|go_in)
 go_ret
 exact⟨d,h1,h2,h3,rfl,hb⟩
end
section
open Go.Lib Go.Proofs.Tryz Go.RowKit
theorem or_step (X b:Nat) (hX:X<72057594037927936) (hb:b<256):bits .or .u64 (IntKind.u64.wrap ((X:Int)*256)) (IntKind.u64.wrap (b:Int))=((X*256+b:Nat):Int):=by
 have e1:IntKind.u64.wrap ((X:Int)*256)=((X*256:Nat):Int):=by rw [IntKind.wrap_u64];omega
 have e2:IntKind.u64.wrap (b:Int)=(b:Int):=by rw [IntKind.wrap_u64];omega
 rw [e1,e2,bits_or_u64_nat _ _ (by omega) (by omega),nat_join 8 (X*256) b (by omega) (by omega)]
theorem mul_step (s n M:Nat) (hs:s<18446744073709551616) (hn:n<18446744073709551616):IntKind.u64.wrap (bits .xor .u64 (s:Int) (n:Int)*(M:Int))=(((s ^^^ n)*M % 18446744073709551616:Nat):Int):=by
 rw [bits_xor_u64_nat _ _ hs hn,IntKind.wrap_u64]
 omega
theorem or_zero (b:Nat) (hb:b<256):bits .or .u64 0 (IntKind.u64.wrap (b:Int))=(b:Int):=by
 have:=or_step 0 b (by decide) hb
 have e0:IntKind.u64.wrap (((0:Nat):Int)*256)=0:=by rw [IntKind.wrap_u64];rfl
 rw [e0] at this
 simpa using this
theorem be8_walk (b0 b1 b2 b3 b4 b5 b6 b7:UInt8) :
  bits .or .u64 (IntKind.u64.wrap (bits .or .u64 (IntKind.u64.wrap (bits .or .u64 (IntKind.u64.wrap (bits .or .u64 (IntKind.u64.wrap (bits .or .u64 (IntKind.u64.wrap (bits .or .u64 (IntKind.u64.wrap (bits .or .u64 (IntKind.u64.wrap (bits .or .u64 0 (IntKind.u64.wrap (b0.toNat:Int))*256)) (IntKind.u64.wrap (b1.toNat:Int))*256)) (IntKind.u64.wrap (b2.toNat:Int))*256)) (IntKind.u64.wrap (b3.toNat:Int))*256)) (IntKind.u64.wrap (b4.toNat:Int))*256)) (IntKind.u64.wrap (b5.toNat:Int))*256)) (IntKind.u64.wrap (b6.toNat:Int))*256)) (IntKind.u64.wrap (b7.toNat:Int))=((CH.be8 [b0,b1,b2,b3,b4,b5,b6,b7]:Nat):Int):=by
 have h0:=CH.u8_lt b0;have h1:=CH.u8_lt b1;have h2:=CH.u8_lt b2;have h3:=CH.u8_lt b3
 have h4:=CH.u8_lt b4;have h5:=CH.u8_lt b5;have h6:=CH.u8_lt b6;have h7:=CH.u8_lt b7
 rw [or_zero _ h0,or_step _ _ (by omega) h1,or_step _ _ (by omega) h2,or_step _ _ (by omega) h3,or_step _ _ (by omega) h4,or_step _ _ (by omega) h5,or_step _ _ (by omega) h6,or_step _ _ (by omega) h7]
 rfl
theorem mix_walk (s n:Nat) (hs:s<18446744073709551616) (hn:n<18446744073709551616) :
  bits .xor .u64 (IntKind.u64.wrap (bits .xor .u64 (IntKind.u64.wrap (bits .xor .u64 (s:Int) (n:Int)*2862933555777941757)) (IntKind.u64.wrap (bits .xor .u64 (s:Int) (n:Int)*2862933555777941757) / 4294967296)*3935559000370003845))
   (IntKind.u64.wrap (bits .xor .u64 (IntKind.u64.wrap (bits .xor .u64 (s:Int) (n:Int)*2862933555777941757)) (IntKind.u64.wrap (bits .xor .u64 (s:Int) (n:Int)*2862933555777941757) / 4294967296)*3935559000370003845) / 536870912)=((CH.mix s n:Nat):Int):=by
 have e1:=mul_step s n 2862933555777941757 hs hn
 rw [show ((2862933555777941757:Nat):Int)=2862933555777941757 from rfl] at e1
 rw [e1]
 have hx:=CH.mix1_lt s n
 unfold CH.mix
 rw [show (s ^^^ n)*2862933555777941757 % 18446744073709551616=CH.mix1 s n from rfl]
 generalize CH.mix1 s n=x at hx
 have e2:((x:Int) / 4294967296)=((x / 4294967296:Nat):Int):=by omega
 rw [e2]
 have e3:=mul_step x (x / 4294967296) 3935559000370003845 hx (by omega)
 rw [show ((3935559000370003845:Nat):Int)=3935559000370003845 from rfl] at e3
 rw [e3]
 have hy:=CH.mix2_lt x
 rw [show (x ^^^ x / 4294967296)*3935559000370003845 % 18446744073709551616=CH.mix2 x from rfl]
 generalize CH.mix2 x=y at hy
 have e4:((y:Int) / 536870912)=((y / 536870912:Nat):Int):=by omega
 rw [e4,bits_xor_u64_nat _ _ hy (by omega)]
 rfl
theorem take_any (b0 b1 b2 b3 b4 b5 b6 b7:UInt8) (s B:Nat) (w:World) (hB:B<w.heap.size) (hs:s<18446744073709551616)
  (hc:w.cell? ⟨B,0,none⟩=some (.int .u64 s)) (hf:w.frozen? ⟨B,0,none⟩=false) :
  Calls prog 62 #[.pointer (some ⟨B,0,none⟩),.agg #[.int .u8 b0.toNat,.int .u8 b1.toNat,.int .u8 b2.toNat,.int .u8 b3.toNat,.int .u8 b4.toNat,.int .u8 b5.toNat,.int .u8 b6.toNat,.int .u8 b7.toNat]] w fun e w' =>
   e=.returned (.tuple #[])∧Below B w w'∧w'.cell? ⟨B,0,none⟩=some (.int .u64 (CH.mix s (CH.be8 [b0,b1,b2,b3,b4,b5,b6,b7]):Nat))∧w'.frozen? ⟨B,0,none⟩=false:=by
 go_enter func62,ntmps62
 go_wp2
 refine wp_loop_rounds 9 ?_
 iterate 9 (try rw [rounds_succ];go_wp2)
 go_end0
 rw [be8_walk,mix_walk _ _ hs (CH.be8_lt _)]
 refine⟨rfl,((Below.refl B w).setCell nR _).alloc (by simp;omega) _,?_,?_⟩
 ·rw [World.cell?_alloc_past _ _ _ (by simpa using hB)]
  exact World.cell?_setCell_same' _ _ _ (by rw [hc];rfl)
 ·rw [World.frozen?_alloc_past _ _ _ (by simpa using hB),World.frozen?_setCell]
  exact hf
theorem pad8 {α:Type} (f:UInt8→α) (l:List UInt8) :
  (l.take 8).map f++([f 0,f 0,f 0,f 0,f 0,f 0,f 0,f 0].drop (min l.length 8))=[f (l.getD 0 0),f (l.getD 1 0),f (l.getD 2 0),f (l.getD 3 0),f (l.getD 4 0),f (l.getD 5 0),f (l.getD 6 0),f (l.getD 7 0)]:=by
 rcases l with _|⟨a,_|⟨b,_|⟨c,_|⟨d,_|⟨e,_|⟨g,_|⟨h,_|⟨i,l⟩⟩⟩⟩⟩⟩⟩⟩ <;> simp
theorem copy8 (text:List UInt8) (a:Nat) (W:World) (ty:TypeId) :
  (Builtin.copy_ #[122,9] ty #[.slice (some ⟨W.heap.size,0,none⟩) 8 8,.string ((ByteArray.mk text.toArray).extract a text.length)]).run prog
   (W.alloc (.cells #[.int .u8 0,.int .u8 0,.int .u8 0,.int .u8 0,.int .u8 0,.int .u8 0,.int .u8 0,.int .u8 0] 181)).drew =
  .ok (goInt (Nat.min (text.length - a) 8)) ((W.alloc (.cells #[.int .u8 ((text.drop a).getD 0 0).toNat,.int .u8 ((text.drop a).getD 1 0).toNat,.int .u8 ((text.drop a).getD 2 0).toNat,.int .u8 ((text.drop a).getD 3 0).toNat,.int .u8 ((text.drop a).getD 4 0).toNat,.int .u8 ((text.drop a).getD 5 0).toNat,.int .u8 ((text.drop a).getD 6 0).toNat,.int .u8 ((text.drop a).getD 7 0).toNat] 181)).drew):=by
 rw [ByteArray.extract_mk]
 have hl:(List.take (text.length - a) (List.drop a text))=text.drop a:=List.take_of_length_le (by simp)
 rw [hl]
 generalize hX:text.drop a=X
 have hXl:X.length=text.length - a:=by rw [← hX];simp
 have hg:((W.alloc (.cells #[.int .u8 0,.int .u8 0,.int .u8 0,.int .u8 0,.int .u8 0,.int .u8 0,.int .u8 0,.int .u8 0] 181)).drew).heap[W.heap.size]?=some (.cells #[.int .u8 0,.int .u8 0,.int .u8 0,.int .u8 0,.int .u8 0,.int .u8 0,.int .u8 0,.int .u8 0] 181 (0,0)):=by
  show (W.heap.push _)[W.heap.size]?=_
  simp
 have hcs:(X.take 8).map (fun b=>Value.int .u8 (b.toNat:Int))=(((ByteArray.mk X.toArray).extract 0 (Nat.min (ByteArray.mk X.toArray).size 8)).data.map fun b=>Value.int .u8 b.toNat).toList:=by
  rw [ByteArray.extract_mk]
  simp [ByteArray.size]
  exact Nat.min_comm _ _
 rw [run_copy_string _ _ _ _ _ W.heap.size 0 8 8 _ _ _ _ underlying122 (by kernel_rfl) hg hcs (by simp;omega),← hXl]
 have e:=pad8 (fun b=>Value.int .u8 (b.toNat:Int)) X
 have hsz:(ByteArray.mk X.toArray).size=X.length:=by simp [ByteArray.size]
 rw [hsz]
 have e':(List.take 0 (#[Value.int .u8 0,.int .u8 0,.int .u8 0,.int .u8 0,.int .u8 0,.int .u8 0,.int .u8 0,.int .u8 0]:Array Value).toList++(X.take 8).map (fun b=>Value.int .u8 (b.toNat:Int))++List.drop (0+((X.take 8).map (fun b=>Value.int .u8 (b.toNat:Int))).length) (#[Value.int .u8 0,.int .u8 0,.int .u8 0,.int .u8 0,.int .u8 0,.int .u8 0,.int .u8 0,.int .u8 0]:Array Value).toList)
   = [.int .u8 (X.getD 0 0).toNat,.int .u8 (X.getD 1 0).toNat,.int .u8 (X.getD 2 0).toNat,.int .u8 (X.getD 3 0).toNat,.int .u8 (X.getD 4 0).toNat,.int .u8 (X.getD 5 0).toNat,.int .u8 (X.getD 6 0).toNat,.int .u8 (X.getD 7 0).toNat]:=by
  rw [← e]
  simp only [List.take_zero,List.nil_append,List.length_map,List.length_take,Nat.zero_add,Nat.min_comm 8 X.length]
  rfl
 rw [e']
 congr 1
 exact congrArg World.drew (World.setRow_alloc_new W _ _ _)
theorem blocks_any (text:List UInt8) (s B:Nat) (w:World) (hB:B<w.heap.size) (hs:s<18446744073709551616) (hlen:text.length≤140737488355328)
  (hc:w.cell? ⟨B,0,none⟩=some (.int .u64 s)) (hf:w.frozen? ⟨B,0,none⟩=false) :
  Calls prog 61 #[.string ⟨text.toArray⟩,.func (.func 62) #[.pointer (some ⟨B,0,none⟩)] #[]] w fun e w' =>
   e=.returned (.tuple #[])∧Below B w w'∧w'.cell? ⟨B,0,none⟩=some (.int .u64 (CH.absorb (text.length / 8+1) s text:Nat))∧w'.frozen? ⟨B,0,none⟩=false:=by
 go_enter func61,ntmps61
 go_wp2
 go_loopw [4] (fun i wr=>∃ k:Nat,i=.int .i64 (8*k:Nat)∧8*k≤text.length+8∧Below B w wr∧B<wr.heap.size∧wr.cell? ⟨B,0,none⟩=some (.int .u64 (CH.absorb k s text:Nat))∧wr.frozen? ⟨B,0,none⟩=false) (fun i _=>text.length+8 - (RowKit.intOf i).toNat)
 case atStart=>exact⟨0,rfl,by omega,Below.refl _ _,hB,hc,hf⟩
 case round =>
  obtain⟨k,rfl,hk,hb,hB',hc',hf'⟩:=hrel
  by_cases hlt:8*k≤text.length
  ·have hcp:=copy8 text (8*k) wr
   go_wp2
   go_region
   go_wp2_with fail
   refine (take_any _ _ _ _ _ _ _ _ (CH.absorb k s text) B _ (by simp;omega) (CH.absorb_lt k s text hs) ?_ ?_).mono ?_
   ·show (wr.alloc _).cell? _=_
    rw [World.cell?_alloc_past _ _ _ hB'];exact hc'
   ·show (wr.alloc _).frozen? _=_
    rw [World.frozen?_alloc_past _ _ _ hB'];exact hf'
   rintro e w' ⟨rfl,hb1,hc1,hf1⟩
   go_wp2
   go_roundw
   case rel =>
    refine⟨k+1,by go_num,by omega,(((hb.alloc (Nat.le_of_lt hB') _).drew).trans hb1),?_,?_,hf1⟩
    ·have:=hb1.size;simp at this;omega
    ·rw [hc1,CH.absorb_succ']
     simp [CH.be8]
   case measure=>simp [RowKit.intOf];omega
  ·have e:text.length / 8+1=k:=by omega
   go_wp2
   go_end0
   exact⟨rfl,hb,by rw [e];exact hc',hf'⟩
theorem repeatL_zeros (c:Nat):Lib.repeatL [48] c=List.replicate c 48:=by
 induction c with
 | zero=>rfl
 | succ c ih=>rw [Lib.repeatL,ih];rfl
theorem sum_any (l:List UInt8) (w:World) (hG:Gl w) (hlen:l.length≤140737488355328) :
  Calls prog 28 #[.string ⟨l.toArray⟩] w (Ret w (.string ⟨(CH.sum l).toArray⟩)):=by
 have hx:bits BinOp.xor IntKind.u64 2611923443488327891 (l.length:Int)=((2611923443488327891 ^^^ l.length:Nat):Int) :=
  bits_xor_u64_nat 2611923443488327891 _ (by decide) (by omega)
 have hs:2611923443488327891 ^^^ l.length<18446744073709551616:=CH.xor_lt64 (by decide) (by omega)
 have hfin:∀ d,d≤16→CH.absorb (l.length / 8+1) (2611923443488327891 ^^^ l.length) l<16 ^ d→Lib.repeatL [48] (16 - d)++CH.hexK d (CH.absorb (l.length / 8+1) (2611923443488327891 ^^^ l.length) l)=CH.sum l:=fun d hd hlt=>by
  rw [repeatL_zeros,← CH.hexK_add _ _ _ hlt,Nat.sub_add_cancel hd]
  rfl
 generalize hS:2611923443488327891 ^^^ l.length=s at hx hs hfin
 have hst:=CH.absorb_lt (l.length / 8+1) s l hs
 have HF:=hid hfin
 have hg:=hG.size
 clear hS hfin
 go_enter func28,ntmps28
 go_wp2_with fail
 refine (blocks_any l s w.heap.size _ (by simp) hs hlen (by rw [World.cell?_alloc_at _ _ _ _ rfl];rfl) (World.frozen?_alloc_at _ _ _ _ rfl)).mono ?_
 rintro e w1 ⟨rfl,hb1,hc1,hf1⟩
 have hb1':Below w.heap.size w w1:=((Below.refl _ _).alloc nR _).trans hb1
 have hG1:=hG.below hb1'
 clear hx hb1
 generalize CH.absorb (l.length / 8+1) s l=n at HF hst hc1
 go_wp2_with fail
 refine (formatUint_16 n w1 hst (nL (by decide) hG1.size) hG1.db).mono ?_
 rintro e w2 ⟨d,hd1,hd2,hd3,rfl,hb2⟩
 have hlenK:(CH.hexK d n).length=d:=CH.length_hexK _ _
 have hfin:=HF.out d hd2 hd3
 have hfl:=congrArg List.length hfin
 rw [List.length_append,hlenK,CH.length_sum] at hfl
 have H3:=hid hfin
 clear HF hd3 hfin
 go_wp2_with fail
 rw [show (16:Int) - (d:Int)=((16 - d:Nat):Int) from by omega]
 refine (Tryz.strings_Repeat ⟨#[48]⟩ (16 - d) w2 (by omega) (by simp [ByteArray.size];omega)).mono ?_
 rintro e w3 ⟨rfl,hb3⟩
 have hb3':Below w.heap.size w w3:=(hb1'.trans (hb2.mono hb1'.size)).trans (hb3.mono (nT hb1'.size hb2.size))
 have hrl:(Lib.repeatL [48] (16 - d)).length≤16:=by omega
 generalize hR:Lib.repeatL [48] (16 - d)=R at H3 hrl
 have hlenK':(CH.hexK d n).length≤16:=by omega
 generalize hK:CH.hexK d n=Kx at H3 hlenK'
 clear hb1' hb2 hb3 hG1 hc1 hf1 hfl hlenK hK hR
 go_wp2
 go_ret
 refine⟨?_,hb3'⟩
 rw [← H3.out,ByteArray.mk_append_mk]
 rfl
theorem Ez (l:List UInt8) (n:Nat) (w:World) (hG:Gl w) (hn:n≤1000) (hlen:l.length≤140737488355328) :
  Calls prog 46 #[.string ⟨l.toArray⟩,.int .i64 n] w (Ret w (.string ⟨(CH.chain n l).toArray⟩)):=by
 go_enter func46,ntmps46
 go_wp2_with fail
 go_loopw [0,8] (fun s i wr=>∃ (k:Nat) (t:List UInt8),k≤n∧i=.int .i64 k∧s=.string ⟨t.toArray⟩∧t.length≤140737488355328∧Hid (t=CH.chain k l)∧Below w.heap.size w wr) (fun _ i _=>n - (RowKit.intOf i).toNat)
 case atStart=>exact⟨0,l,Nat.zero_le _,rfl,rfl,hlen,rfl,Below.refl _ _⟩
 case round =>
  obtain⟨k,t,hk,rfl,rfl,ht,hH,hb⟩:=hrel
  by_cases hlt:k<n
  ·go_wp2_with fail
   refine (sum_any t _ (hG.below hb) ht).mono ?_
   rintro e w1 ⟨rfl,hb1⟩
   go_wp2
   go_roundw
   case rel=>exact⟨k+1,CH.sum t,by omega,by go_num,rfl,by rw [CH.length_sum];omega,by rw [hH.out,← CH.chain_succ'];exact rfl,hb.trans (hb1.mono hb.size)⟩
   case measure=>simp [RowKit.intOf];omega
  ·have e:k=n:=by omega
   have hfin:t=CH.chain n l:=by rw [← e];exact hH.out
   have HF:=hid hfin
   clear e hfin hH
   go_wp2
   go_ret
   exact⟨by rw [← HF.out];rfl,hb⟩
def hexSet:List UInt8:=[48,49,50,51,52,53,54,55,56,57,97,98,99,100,101,102]
theorem dropWhile_nil {α:Type} (p:α→Bool) (l:List α):(l.dropWhile p=[])↔∀ x∈l,p x=true:=by
 induction l with
 | nil=>simp
 | cons x r ih=>by_cases h:p x <;> simp [List.dropWhile,h,ih]
theorem trimS_nil (l cs:List UInt8):Lib.trimS l cs=[]↔∀ x∈l,cs.contains x=true:=by
 have h1:Lib.trimS l cs=[]↔Lib.trimRightS l cs=[]:=by
  constructor
  ·intro h
   unfold Lib.trimS Lib.trimLeftS at h
   rw [dropWhile_nil] at h
   unfold Lib.trimRightS at h ⊢
   rcases hr:l.reverse.dropWhile (cs.contains ·) with _|⟨y,ys⟩
   ·rfl
   ·have hy:¬ cs.contains y=true:=by
     have:=List.head?_dropWhile_not (cs.contains ·) l.reverse
     rw [hr] at this
     simpa using this
    exact (hy (h y (by rw [hr];simp))).elim
  ·intro h
   unfold Lib.trimS
   rw [h]
   rfl
 rw [h1]
 unfold Lib.trimRightS
 rw [List.reverse_eq_nil_iff,dropWhile_nil]
 simp
theorem hexSet_contains (c:UInt8):hexSet.contains c=CH.isHex c:=by
 have h:∀ n:Fin 256,hexSet.contains (UInt8.ofNat n.val)=CH.isHex (UInt8.ofNat n.val):=by decide +kernel
 have:=h ⟨c.toNat,c.toNat_lt⟩
 simpa using this
theorem isDigest_trim (l:List UInt8):(Lib.trimS l hexSet==[])=l.all CH.isHex:=by
 rw [Bool.eq_iff_iff,beq_iff_eq,trimS_nil,List.all_eq_true]
 simp only [hexSet_contains]
theorem is_any (l:List UInt8) (w:World) (hlen:l.length≤9223372036854775807) :
  Calls prog 58 #[.string ⟨l.toArray⟩] w (Ret w (.bool (CH.isDigest l))):=by
 have hfin:CH.isDigest l=(l.length==16&&(Lib.trimS l hexSet==[])):=by rw [isDigest_trim];rfl
 rw [hfin]
 generalize hT:Lib.trimS l hexSet=T
 by_cases h16:l.length=16
 ·have hb:((l.length:Int)==16)=true:=by simp [h16]
  have hb':(l.length==16)=true:=by simp [h16]
  rw [hb']
  clear hb' hfin
  go_enter func58,ntmps58
  go_wp2_with fail
  refine (Any.strings_Trim_laid lays160 (by kernel_rfl) ⟨l.toArray⟩ ⟨hexSet.toArray⟩ w (by simpa [ByteArray.size] using hlen) (by decide) (fun j b hj=>by
   have h:∀ x∈hexSet,x.toNat<128:=by decide
   exact h b (List.mem_of_getElem? (by simpa using hj)))).mono ?_
  rintro e w' ⟨rfl,hb1⟩
  have hT':Lib.trimS (ByteArray.mk l.toArray).data.toList (ByteArray.mk hexSet.toArray).data.toList=T:=hT
  rw [hT']
  clear hT hT'
  go_wp2
  go_ret
  exact⟨by simp,hb1⟩
 ·have hb:((l.length:Int)==16)=false:=by simp;omega
  have hb':(l.length==16)=false:=by simp;omega
  rw [hb']
  clear hb' hfin hT
  go_enter func58,ntmps58
  go_wp2_with fail
  go_ret
  exact⟨by simp,Below.refl _ _⟩
theorem list_any (v:Value) (ls:List (List UInt8)) (w:World) (hG:Gl w) (hv:Strs w.heap.size w v ls) (hlen:(CH.pack Lib.itoa ls).length≤140737488355328) :
  Calls prog 54 #[v] w (Ret w (.string ⟨(CH.sum (CH.pack Lib.itoa ls)).toArray⟩)):=by
 have hv0:=hv
 obtain⟨a,cap,rfl,hl,hcap,hne⟩:=hv
 have hll:ls.length≤9223372036854775807:=by omega
 go_enter func54,ntmps54
 go_wp2_with fail
 go_loopw [8] (fun i wr=>∃ (k:Nat),k≤ls.length∧i=.int .i64 k∧Lib.IsBuilder 124 5 w.heap.size w.heap.size (Lib.byteCells (CH.pack Lib.itoa (ls.take k))) wr∧w.heap.size<wr.heap.size∧Below w.heap.size w wr) (fun i _=>ls.length - (RowKit.intOf i).toNat)
 case atStart=>exact⟨0,Nat.zero_le _,rfl,Lib.fresh_isBuilder _ _ w,by simp,(Below.refl _ _).alloc nR _⟩
 case round =>
  obtain⟨k,hk,rfl,hB,hsz,hb⟩:=hrel
  by_cases hlt:k<ls.length
  ·obtain⟨b,off,rfl,hbl,hcells⟩:=hne (by intro h;simp [h] at hlt)
   obtain⟨l,hl'⟩:∃ l,ls[k]?=some l:=⟨_,lZ hlt⟩
   have hcell:wr.cell? ⟨b,off+k,none⟩=some (.string ⟨l.toArray⟩):=(hb.cell (p:=⟨b,off+k,none⟩) hbl).trans (hcells k l hl')
   have hts:=CH.take_snoc_at ls k l hl'
   have hle:=CH.pack_take_le Lib.itoa ls (k+1)
   rw [hts,CH.pack_snoc] at hle
   have hpk:CH.pack Lib.itoa (ls.take (k+1))=CH.pack Lib.itoa (ls.take k)++(Lib.itoa l.length++[58]++l):=by rw [hts,CH.pack_snoc]
   have HP:=hid hpk
   simp only [List.length_append,List.length_singleton] at hle
   clear hts hpk hcells hl'
   generalize CH.pack Lib.itoa (ls.take k)=Pk at HP hle hB
   go_wp2_with fail
   refine (Ce _ _ (by omega) (by omega) (hG.below hb)).mono ?_
   rintro e w1 ⟨rfl,hb1⟩
   have hB1:=Bh hB hb1
   have hs1:=hb1.size
   go_wp2_with fail
   refine (Bn _ _ _ _ _ hB1 (by simp [Lib.byteCells,ByteArray.size];omega) (by omega)).mono ?_
   rintro e w2 ⟨rfl,hB2,hb2⟩
   have hs2:=hb2.size
   go_wp2_with fail
   refine (builder_WriteByte _ _ _ _ _ (.inr hB2) (by simp [Lib.byteCells,Lib.strCells];omega) (by omega)).mono ?_
   rintro e w3 ⟨rfl,hB3,hb3⟩
   have hs3:=hb3.size
   go_wp2_with fail
   refine (Bn _ _ _ _ _ (.inr hB3) (by simp [Lib.byteCells,Lib.strCells,ByteArray.size];omega) (by omega)).mono ?_
   rintro e w4 ⟨rfl,hB4,hb4⟩
   have hs4:=hb4.size
   have hbf:Below w.heap.size w w4:=(((hb.trans (hb1.mono (by omega))).trans hb2).trans hb3).trans hb4
   have hB5:Lib.IsBuilder 124 5 w.heap.size w.heap.size (Lib.byteCells (CH.pack Lib.itoa (ls.take (k+1)))) w4:=by
    rw [HP.out]
    refine .inr ?_
    have e:Lib.byteCells (Pk++(Lib.itoa l.length++[58]++l))=Lib.byteCells Pk++Lib.strCells ⟨(Lib.itoa l.length).toArray⟩++[Value.int .u8 58]++Lib.strCells ⟨l.toArray⟩:=by
     simp [Lib.byteCells,Lib.strCells]
    rw [e]
    exact hB4
   clear hB1 hB2 hB3 hB4 hb1 hb2 hb3 hb4 hB hb HP
   go_wp2
   go_roundw
   case rel=>exact⟨k+1,by omega,by go_num,hB5,by omega,hbf⟩
   case measure=>simp [RowKit.intOf];omega
  ·have e:ls.take k=ls:=List.take_of_length_le (by omega)
   rw [e] at hB
   clear e hne hv0
   go_wp2_with fail
   refine (Tryz.Builder_String_any _ _ _ _ hB (by omega)).mono ?_
   rintro e w1 ⟨rfl,hb1⟩
   have hb1':Below w.heap.size w w1:=hb.trans hb1
   go_wp2_with fail
   refine (sum_any _ _ (hG.below hb1') hlen).mono ?_
   rintro e w2 ⟨rfl,hb2⟩
   go_wp2
   go_ret
   exact⟨rfl,hb1'.trans (hb2.mono hb1'.size)⟩
end
end Go.Proofs.YtjepldaciejieaaGreatDoor
namespace CH
section
def dl (ls:List (List UInt8)):List UInt8:=sum (pack Go.Lib.itoa ls)
def tEmpty:List UInt8:=[101,109,112,116,121]
def tLeaf:List UInt8:=[108,101,97,102]
def tNode:List UInt8:=[110,111,100,101]
def halfL:Nat→Nat→Nat→Nat
 | 0,_,k=>k
 | f+1,n,k=>if 2*k<n then halfL f n (2*k) else k
def half (n:Nat):Nat:=halfL n n 1
theorem halfL_done (f n k:Nat) (h:¬ 2*k<n):halfL f n k=k:=by
 cases f with
 | zero=>rfl
 | succ f=>simp [halfL,h]
theorem halfL_lt (f n k:Nat) (h:k<n):halfL f n k<n:=by
 induction f generalizing k with
 | zero=>exact h
 | succ f ih =>
  unfold halfL
  split
  ·exact ih _ (by omega)
  ·exact h
theorem halfL_ge (f n k:Nat):k≤halfL f n k:=by
 induction f generalizing k with
 | zero=>exact Nat.le_refl _
 | succ f ih =>
  unfold halfL
  split
  ·have:=ih (2*k);omega
  ·exact Nat.le_refl _
theorem half_pos (n:Nat):1≤half n:=halfL_ge _ _ _
theorem half_lt (n:Nat) (h:2≤n):half n<n:=halfL_lt _ _ _ (by omega)
def node (a b:List UInt8):List UInt8:=dl [tNode,a,b]
def rootF:Nat→List (List UInt8)→List UInt8
 | 0,_=>[]
 | f+1,ls=>match ls with
  | []=>dl [tEmpty]
  | [x]=>dl [tLeaf,x]
  | x::y::r=>node (rootF f ((x::y::r).take (half (r.length+2)))) (rootF f ((x::y::r).drop (half (r.length+2))))
def root (ls:List (List UInt8)):List UInt8:=rootF (ls.length+1) ls
theorem rootF_fuel (f:Nat):∀ (g:Nat) (ls:List (List UInt8)),ls.length<f→ls.length<g→rootF f ls=rootF g ls:=by
 induction f with
 | zero=>intro g ls h;omega
 | succ f ih =>
  intro g ls hf hg
  cases g with
  | zero=>omega
  | succ g =>
   match ls with
   | []=>rfl
   | [x]=>rfl
   | x::y::r =>
    have h1:=half_pos (r.length+2)
    have h2:=half_lt (r.length+2) (by omega)
    simp only [List.length_cons] at hf hg
    simp only [rootF]
    rw [ih g _ (by simp;omega) (by simp;omega),ih g _ (by simp;omega) (by simp;omega)]
theorem root_two (ls:List (List UInt8)) (h:2≤ls.length):root ls=node (root (ls.take (half ls.length))) (root (ls.drop (half ls.length))):=by
 match ls,h with
 | x::y::r,_ =>
  have h1:=half_pos (r.length+2)
  have h2:=half_lt (r.length+2) (by omega)
  unfold root
  simp only [List.length_cons] at *
  rw [rootF]
  rw [rootF_fuel (r.length+1+1) (((x::y::r).take (half (r.length+2))).length+1) _ (by simp;omega) (by omega),
   rootF_fuel (r.length+1+1) (((x::y::r).drop (half (r.length+2))).length+1) _ (by simp;omega) (by omega)]
theorem length_dl (ls:List (List UInt8)):(dl ls).length=16:=length_sum _
theorem length_node (a b:List UInt8):(node a b).length=16:=length_sum _
theorem length_root (ls:List (List UInt8)):(root ls).length=16:=by
 rcases ls with _|⟨x,_|⟨y,r⟩⟩
 ·exact length_dl _
 ·exact length_dl _
 ·rw [root_two _ (by simp)];exact length_node _ _
def pathF:Nat→List (List UInt8)→Nat→List (List UInt8)
 | 0,_,_=>[]
 | f+1,ls,i =>
  if ls.length≤1 then []
  else if i<half ls.length then root (ls.drop (half ls.length))::pathF f (ls.take (half ls.length)) i
  else root (ls.take (half ls.length))::pathF f (ls.drop (half ls.length)) (i - half ls.length)
def path (ls:List (List UInt8)) (i:Nat):List (List UInt8):=(pathF ls.length ls i).reverse
theorem pathF_left (f:Nat) (ls:List (List UInt8)) (i:Nat) (h:2≤ls.length) (hi:i<half ls.length):pathF (f+1) ls i=root (ls.drop (half ls.length))::pathF f (ls.take (half ls.length)) i:=by
 rw [pathF,if_neg (by omega),if_pos hi]
theorem pathF_right (f:Nat) (ls:List (List UInt8)) (i:Nat) (h:2≤ls.length) (hi:¬ i<half ls.length):pathF (f+1) ls i=root (ls.take (half ls.length))::pathF f (ls.drop (half ls.length)) (i - half ls.length):=by
 rw [pathF,if_neg (by omega),if_neg hi]
theorem pathF_one (f:Nat) (ls:List (List UInt8)) (i:Nat) (h:ls.length≤1):pathF f ls i=[]:=by
 cases f with
 | zero=>rfl
 | succ f=>rw [pathF,if_pos h]
abbrev PSt:=List (List UInt8) × Bool
def nextD (s:PSt):List UInt8 × PSt :=
 match s.1.getLast? with
 | none=>([],([],true))
 | some d=>(d,(s.1.dropLast,s.2||d.isEmpty))
def upF (leaf:List UInt8):Nat→Nat→Nat→PSt→List UInt8 × PSt
 | 0,_,_,s=>([],s)
 | f+1,n,i,s =>
  if n=1 then (dl [tLeaf,leaf],s)
  else if i<half n then
   (node (upF leaf f (half n) i (nextD s).2).1 (nextD s).1,(upF leaf f (half n) i (nextD s).2).2)
  else
   (node (nextD s).1 (upF leaf f (n - half n) (i - half n) (nextD s).2).1,(upF leaf f (n - half n) (i - half n) (nextD s).2).2)
def treeCheck (root:List UInt8) (n i:Nat) (leaf:List UInt8) (path:List (List UInt8)):Bool :=
 path.all isDigest&&((upF leaf n n i (path,false)).1==root&&(!(upF leaf n n i (path,false)).2.2&&(upF leaf n n i (path,false)).2.1.isEmpty))
end
end CH
namespace Go.Proofs.YtjepldaciejieaaGreatDoor
section
open Go.Lib Go.Proofs.Tryz Go.RowKit
theorem half_any (n:Nat) (w:World) (hn:n≤2305843009213693952):Calls prog 55 #[.int .i64 n] w fun e w'=>e=.returned (.int .i64 (CH.half n))∧w=w':=by
 go_enter func55,ntmps55
 go_wp2
 go_loop [3] (fun t=>∃ k f:Nat,t=.int .i64 k∧1≤k∧k≤2305843009213693952∧Hid (n≤k*2 ^ f∧CH.halfL f n k=CH.half n)) (fun t=>n - (RowKit.intOf t).toNat)
 case atStart=>exact⟨1,n,rfl,by omega,by omega,by rw [Nat.one_mul];exact Nat.le_of_lt Nat.lt_two_pow_self,rfl⟩
 case round =>
  obtain⟨k,f,rfl,hk,hk2,hH⟩:=hrel
  by_cases hlt:2*k<n
  ·go_wp2
   go_round
   case rel =>
    obtain⟨h1,h2⟩:=hH.out
    cases f with
    | zero=>simp at h1;omega
    | succ f =>
     refine⟨2*k,f,by go_num,by omega,by omega,?_,?_⟩
     ·rw [Nat.pow_succ] at h1;rw [Nat.mul_comm 2 k,Nat.mul_assoc,Nat.mul_comm 2];exact h1
     ·rw [CH.halfL,if_pos hlt] at h2;exact h2
   case measure=>simp [RowKit.intOf];omega
  ·go_wp2
   go_ret
   exact⟨ret_int (by rw [← hH.out.2,CH.halfL_done _ _ _ hlt]),rfl⟩
theorem A8 (w:World) (o:Obj):Below w.heap.size w (w.alloc o):=(Below.refl _ _).alloc nR _
theorem pack_le (ls:List (List UInt8)) (m:Nat) (h:∀ l∈ls,l.length≤m) (hm:m≤140737488355328):(CH.pack Lib.itoa ls).length≤ls.length*(m+22):=by
 induction ls with
 | nil=>simp [CH.pack]
 | cons x r ih =>
  have h1:=h x (by simp)
  have h2:=Lib.itoa_length_le (x.length:Int) (by omega) (by omega)
  have h3:=ih (fun l hl=>h l (by simp [hl]))
  simp only [CH.pack,List.length_append,List.length_cons,List.length_nil]
  rw [Nat.add_mul]
  omega
theorem strs_lit (w:World) (cs:List (List UInt8)) (t:TypeId) (h:cs.length≤1000) :
  Strs (w.heap.size+1) (w.alloc (.cells (cs.map fun l=>Value.string ⟨l.toArray⟩).toArray t)) (.slice (some ⟨w.heap.size,0,none⟩) cs.length cs.length) cs:=by
 refine⟨_,_,rfl,Nat.le_refl _,by omega,fun _=>⟨_,_,rfl,by omega,fun j l hj=>?_⟩⟩
 rw [World.cell?_alloc_at _ _ _ _ rfl]
 simp [hj]
theorem node_any (a b:List UInt8) (w:World) (hG:Gl w) (ha:a.length≤1000000) (hb:b.length≤1000000) :
  Calls prog 56 #[.string ⟨a.toArray⟩,.string ⟨b.toArray⟩] w (Ret w (.string ⟨(CH.node a b).toArray⟩)):=by
 go_enter func56,ntmps56
 go_wp2_with fail
 refine (list_any _ [CH.tNode,a,b] _ (hG.below (A8 w _)) (by rw [World.size_alloc];exact strs_lit w [CH.tNode,a,b] 9 (by simp)) ?_).mono ?_
 ·have:=pack_le [CH.tNode,a,b] 1000000 (by intro l hl;simp at hl;rcases hl with rfl|rfl|rfl;decide;exact ha;exact hb) (by decide)
  simp at this ⊢
  omega
 rintro e w' ⟨rfl,hb1⟩
 go_wp2
 go_ret
 exact⟨rfl,(A8 w _).trans (hb1.mono (by simp))⟩
theorem Strs.take {B:Nat} {w:World} {a:Option Addr} {n cap:Nat} {ls:List (List UInt8)} (h:Strs B w (.slice a n cap) ls) (k:Nat) (hk:k≤ls.length):Strs B w (.slice a k cap) (ls.take k):=by
 obtain⟨a',cap',hv,h1,h2,h3⟩:=h
 cases hv
 refine⟨a,cap,by simp [Nat.min_eq_left hk],by simp;omega,h2,fun hne=>?_⟩
 obtain⟨b,off,ha,hb,hc⟩:=h3 (by rintro rfl;simp at hne)
 exact⟨b,off,ha,hb,fun j l hj=>hc j l (by rw [List.getElem?_take] at hj;split at hj;exact hj;cases hj)⟩
theorem Strs.drop {B:Nat} {w:World} {b off n cap:Nat} {ls:List (List UInt8)} (h:Strs B w (.slice (some ⟨b,off,none⟩) n cap) ls) (k:Nat) (hk:k<ls.length):Strs B w (.slice (some ⟨b,off+k,none⟩) (n - k) (cap - k)) (ls.drop k):=by
 obtain⟨a',cap',hv,h1,h2,h3⟩:=h
 cases hv
 refine⟨some ⟨b,off+k,none⟩,cap - k,by simp,by simp;omega,by omega,fun _=>?_⟩
 obtain⟨b',off',ha,hb,hc⟩:=h3 (by rintro rfl;simp at hk)
 cases ha
 exact⟨b,off+k,rfl,hb,fun j l hj=>by rw [List.getElem?_drop] at hj;rw [Nat.add_assoc];exact hc _ l hj⟩
theorem root_any (f:Nat):∀ (v:Value) (ls:List (List UInt8)) (w:World),ls.length<f→Gl w→Strs w.heap.size w v ls→ls.length≤1000000→(∀ l∈ls,l.length≤1000000) →
  Calls prog 25 #[v] w (Ret w (.string ⟨(CH.root ls).toArray⟩)):=by
 induction f with
 | zero=>intro v ls w h;omega
 | succ f ih =>
  intro v ls w hf hG hv hn hl
  have IH:=hid ih
  clear ih
  have hv0:=hv
  obtain⟨a,cap,rfl,hlc,hcap,hne⟩:=hv
  by_cases h0:ls=[]
  ·subst h0
   go_enter func25,ntmps25
   go_wp2_with fail
   refine (list_any _ [CH.tEmpty] _ (hG.below (A8 w _)) (by rw [World.size_alloc];exact strs_lit w [CH.tEmpty] 9 (by simp)) (by decide +kernel)).mono ?_
   rintro e w' ⟨rfl,hb1⟩
   go_wp2
   go_ret
   exact⟨rfl,(A8 w _).trans (hb1.mono (by simp))⟩
  ·obtain⟨b,off,rfl,hb,hc⟩:=hne h0
   by_cases h1:ls.length=1
   ·obtain⟨x,rfl⟩:=List.length_eq_one_iff.1 h1
    have hcx:w.cell? ⟨b,off,none⟩=some (.string ⟨x.toArray⟩):=hc 0 x rfl
    clear hc
    have hx:=hl x (by simp)
    go_enter func25,ntmps25
    go_wp2_with fail
    refine (list_any _ [CH.tLeaf,x] _ (hG.below (A8 w _)) (by rw [World.size_alloc];exact strs_lit w [CH.tLeaf,x] 9 (by simp)) ?_).mono ?_
    ·have:=pack_le [CH.tLeaf,x] 1000000 (by intro l hl;simp at hl;rcases hl with rfl|rfl;decide;exact hx) (by decide)
     simp at this ⊢
     omega
    rintro e w' ⟨rfl,hb1⟩
    go_wp2
    go_ret
    exact⟨rfl,(A8 w _).trans (hb1.mono (by simp))⟩
   ·have h2:2≤ls.length:=by cases ls with|nil=>exact absurd rfl h0|cons x r=>simp at h1 ⊢;cases r with|nil=>simp at h1|cons=>simp
    have e0:((ls.length:Int)==0)=false:=by simp;omega
    have e1:((ls.length:Int)==1)=false:=by simp;omega
    have hfin:=CH.root_two ls h2
    have hk1:=CH.half_pos ls.length
    have hk2:=CH.half_lt ls.length h2
    have HF:=hid hfin
    clear hfin hne hc h0 h1
    go_enter func25,ntmps25
    go_wp2_with fail
    refine (half_any ls.length w (by omega)).mono ?_
    rintro e w' ⟨rfl,rfl⟩
    generalize CH.half ls.length=k at HF hk1 hk2
    have hkc:¬ (cap=k):=by omega
    go_wp2_with fail
    have hbd:Below w.heap.size w w.drew:=(Below.refl _ _).drew
    have hSt:Strs w.drew.heap.size w.drew _ _:=(hv0.take k (by omega)).below hbd nR
    have hSd:Strs w.drew.heap.size w.drew _ _:=(hv0.drop k (by omega)).below hbd nR
    have HSt:=hid hSt
    have HSd:=hid hSd
    have HL:=hid hl
    have HG:=hid (hG.below hbd)
    clear hSt hSd hv0 hl hG
    go_region_with (first
     |(go_at_call 56;refine (node_any _ _ _ ?_ (by rw [CH.length_root];decide) (by rw [CH.length_root];decide)).mono ?_;exact (HG.out.below (hb1.trans (hb2.mono hb1.size)));rintro e w3 ⟨rfl,hb3⟩)
     |(go_at_call_of 25 (ls.length - k);refine (IH.out _ (ls.drop k) _ (by simp;omega) ?_ ?_ (by simp;omega) (fun l hl=>HL.out l (List.mem_of_mem_drop hl))).mono ?_;exact HG.out.below hb1;exact (HSd.out.below hb1 nR).mono hb1.size;rintro e w2 ⟨rfl,hb2⟩)
     |(go_at_call 25;refine (IH.out _ (ls.take k) _ (by simp;omega) ?_ ?_ (by simp;omega) (fun l hl=>HL.out l (List.mem_of_mem_take hl))).mono ?_;exact HG.out;exact HSt.out;rintro e w1 ⟨rfl,hb1⟩))
    all_goals go_wp2
    all_goals go_ret
    all_goals exact⟨by rw [HF.out];rfl,((hbd.trans hb1).trans (hb2.mono hb1.size)).trans (hb3.mono (nT hb1.size hb2.size))⟩
abbrev strV (l:List UInt8):Value:=.string ⟨l.toArray⟩
def Ag (base:Nat) (w:World) (v:Value) (ls:List (List UInt8)):Prop:=w.ownsRow base 9 1 v ls.length (ls.map strV)
theorem Ag.nil (base:Nat) (w:World):Ag base w (.slice none 0 0) []:=World.ownsRow_nil w base _ _
theorem Ag.below {base:Nat} {w w':World} {v:Value} {ls:List (List UInt8)} (h:Ag base w v ls) (hb:Below w.heap.size w w'):Ag base w' v ls:=ownsRow_below h hb
theorem Ag.strs {base:Nat} {w:World} {v:Value} {ls:List (List UInt8)} (h:Ag base w v ls):Strs w.heap.size w v ls:=by
 have h':=h
 obtain⟨hlen,⟨rfl,h0⟩|⟨g,cap,cur,rfl,hb,hg,hn,hc,hsz,htk⟩⟩:=h
 ·exact⟨none,0,by rw [h0],by omega,by omega,fun hne=>absurd (List.length_eq_zero_iff.1 h0) hne⟩
 ·have hlt:g<w.heap.size:=(aZ hg)
  refine⟨_,cap,rfl,hn,by unfold maxLen at hc;omega,fun _=>⟨g,0,rfl,hlt,fun j l hj=>?_⟩⟩
  have hjl:j<ls.length:=(lS hj)
  rw [Nat.zero_add,World.ownsRow.cellAt h' j (by omega)]
  simp [hj]
theorem strInfo:(prog.info? 9).map (fun i=>(i.zero,i.size,i.bytes))=some (some (.string ⟨#[]⟩),1,16):=by kernel_rfl
theorem A9 {w:World} {ops:Array Oper} {rest:List Oper} {o:Oper} {a:Act} {Q:Exit→Act→World→Prop} (hgd:o.guard=none) (s x:Operand)
  (ho:o.op=.call { callee:=.builtin .append,args:=#[s,x],argTypes:=#[25,25] })
  (base:Nat) (v:Value) (ls:List (List UInt8)) (hs:a.eval s=v) (hown:Ag base w v ls) (g c:Nat) (l:List UInt8) (hx:a.eval x=.slice (some ⟨g,0,none⟩) 1 c)
  (hcell:w.cell? ⟨g,0,none⟩=some (strV l)) (hlen:ls.length≤1099511627776) (hbase:base≤w.heap.size)
  (h:∀ v' w',Ag base w' v' (ls++[l])→w.grownBy w' v.ownBlock→(v'.ownBlock=v.ownBlock∨v'.ownBlock=some w.heap.size)→wpList prog ops Q rest (a.put o.dst v') w') :
  wpList prog ops Q (o::rest) a w:=by
 obtain⟨i,hi,hz0,hz1,hz2⟩:=info_parts strInfo
 refine wpList_append_own_at w hgd s x 25 ho base 9 i _ 1 16 underlying25 hi hz0 hz1 hz2 rfl (by decide) v ls.length _ hs hown ⟨g,0,none⟩ 1 c [strV l] hx rfl ?_ ?_ ?_ ?_ hbase ?_
 ·intro j u hj
  rcases j with _|j
  ·simp at hj;subst hj;simpa [Addr.add] using hcell
  ·simp at hj
 ·intro u hu;simp at hu;subst hu;rfl
 ·unfold maxLen;omega
 ·omega
 ·intro v' w' h1 h2 _ h4
  exact h v' w' (by unfold Ag;simpa using h1) h2 h4
theorem Ag.alloc {base:Nat} {w:World} {v:Value} {ls:List (List UInt8)} (h:Ag base w v ls) (o:Obj):Ag base (w.alloc o) v ls:=World.ownsRow.alloc h o
theorem Ag.form {base:Nat} {w:World} {v:Value} {ls:List (List UInt8)} (h:Ag base w v ls):∃ a cap,v=.slice a ls.length cap∧ls.length≤cap∧cap≤9223372036854775807∧(ls≠[]→∃ g,a=some ⟨g,0,none⟩∧base≤g∧g<w.heap.size):=by
 obtain⟨hlen,⟨rfl,h0⟩|⟨g,cap,cur,rfl,hb,hg,hn,hc,hsz,htk⟩⟩:=h
 ·exact⟨none,0,by rw [h0],by omega,by omega,fun hne=>absurd (List.length_eq_zero_iff.1 h0) hne⟩
 ·exact⟨_,cap,rfl,hn,by unfold maxLen at hc;omega,fun _=>⟨g,rfl,hb,(aZ hg)⟩⟩
def AnyRet (w:World) (b:Bool) (e:Ending) (w':World):Prop:=∃ i:Int,e=.returned (.int .i64 i)∧(decide (0≤i)=b)∧Below w.heap.size w w'
def PredS (g:Nat) (m:Nat) (p:List UInt8→Bool):Prop :=
 (∀ args w,(callFunc g args).run prog w=.ok (.enter g args) w)∧∀ l w,Gl w→l.length≤m→Calls prog g #[.string ⟨l.toArray⟩] w (Ret w (.bool (p l)))
theorem any_take_succ {α:Type} (p:α→Bool) (ls:List α) (k:Nat) (x:α) (h:ls[k]?=some x):(ls.take (k+1)).any p=((ls.take k).any p||p x):=by
 rw [CH.take_snoc_at ls k x h,List.any_append];simp
theorem indexFunc_S (g m:Nat) (p:List UInt8→Bool) (hp:PredS g m p) (v:Value) (ls:List (List UInt8)) (w:World) (hG:Gl w) (hv:Strs w.heap.size w v ls) (hm:∀ l∈ls,l.length≤m) :
  Calls prog 112 #[v,.func (.func g) #[] #[]] w (AnyRet w (ls.any p)):=by
 obtain⟨heg,hcall⟩:=hp
 have HC:=hid hcall
 have HM:=hid hm
 clear hcall hm
 obtain⟨a,cap,rfl,hl,hcap,hne⟩:=hv
 go_enter func112,ntmps112
 go_wp2_with fail
 go_loopw [8] (fun i wr=>∃ k:Nat,k≤ls.length∧i=.int .i64 k∧Hid ((ls.take k).any p=false)∧Below w.heap.size w wr) (fun i _=>ls.length - (RowKit.intOf i).toNat)
 case atStart=>exact⟨0,Nat.zero_le _,rfl,rfl,Below.refl _ _⟩
 case round =>
  obtain⟨k,hk,rfl,hH,hb⟩:=hrel
  by_cases hlt:k<ls.length
  ·obtain⟨b,off,rfl,hbl,hcells⟩:=hne (by intro h;simp [h] at hlt)
   obtain⟨l,hl'⟩:∃ l,ls[k]?=some l:=⟨_,lZ hlt⟩
   have hcell:wr.cell? ⟨b,off+k,none⟩=some (.string ⟨l.toArray⟩):=(hb.cell (p:=⟨b,off+k,none⟩) hbl).trans (hcells k l hl')
   have hmem:l∈ls:=List.mem_of_getElem? hl'
   have HT:=hid (any_take_succ p ls k l hl')
   clear hcells hl'
   go_wp2_with fail
   refine (HC.out l _ (hG.below hb) (HM.out l hmem)).mono ?_
   rintro e w1 ⟨rfl,hb1⟩
   have hb1':=hb.trans (hb1.mono hb.size)
   rcases hpl:p l with _|_
   ·have HT':Hid ((ls.take (k+1)).any p=false):=by rw [HT.out,hH.out,hpl];exact rfl
    clear hpl
    go_wp2
    go_roundw
    case rel=>exact⟨k+1,by omega,by go_num,HT',hb1'⟩
    case measure=>simp [RowKit.intOf];omega
   ·have hfin:ls.any p=true:=List.any_eq_true.2 ⟨l,hmem,hpl⟩
    have HF:=hid hfin
    clear hpl hfin
    go_wp2
    go_ret
    exact⟨k,rfl,by rw [HF.out];simp,hb1'⟩
  ·have hfin:ls.any p=false:=by have:=hH.out;rwa [List.take_of_length_le (by omega)] at this
   have HF:=hid hfin
   clear hfin hH hne
   go_wp2
   go_ret
   exact⟨-1,rfl,by rw [HF.out];rfl,hb⟩
theorem containsFunc_S (g m:Nat) (p:List UInt8→Bool) (hp:PredS g m p) (v:Value) (ls:List (List UInt8)) (w:World) (hG:Gl w) (hv:Strs w.heap.size w v ls) (hm:∀ l∈ls,l.length≤m) :
  Calls prog 66 #[v,.func (.func g) #[] #[]] w (Ret w (.bool (ls.any p))):=by
 have hI:=indexFunc_S g m p hp v ls w hG hv hm
 have HI:=hid hI
 clear hI hp hv hm
 go_enter func66,ntmps66
 go_wp2_with fail
 refine HI.out.mono ?_
 rintro e w1 ⟨i,rfl,hi,hb⟩
 have HH:=hid hi
 clear hi
 go_wp2
 go_ret
 exact⟨by rw [← HH.out];rfl,hb⟩
theorem indexFunc_D (g m:Nat) (p:List UInt8→Bool) (hp:PredS g m p) (v:Value) (ls:List (List UInt8)) (w:World) (hG:Gl w) (hv:Strs w.heap.size w v ls) (hm:∀ l∈ls,l.length≤m) :
  Calls prog 202 #[v,.func (.func g) #[] #[]] w (AnyRet w (ls.any p)):=by
 obtain⟨heg,hcall⟩:=hp
 have HC:=hid hcall
 have HM:=hid hm
 clear hcall hm
 obtain⟨a,cap,rfl,hl,hcap,hne⟩:=hv
 go_enter func202,ntmps202
 go_wp2_with fail
 go_loopw [8] (fun i wr=>∃ k:Nat,k≤ls.length∧i=.int .i64 k∧Hid ((ls.take k).any p=false)∧Below w.heap.size w wr) (fun i _=>ls.length - (RowKit.intOf i).toNat)
 case atStart=>exact⟨0,Nat.zero_le _,rfl,rfl,Below.refl _ _⟩
 case round =>
  obtain⟨k,hk,rfl,hH,hb⟩:=hrel
  by_cases hlt:k<ls.length
  ·obtain⟨b,off,rfl,hbl,hcells⟩:=hne (by intro h;simp [h] at hlt)
   obtain⟨l,hl'⟩:∃ l,ls[k]?=some l:=⟨_,lZ hlt⟩
   have hcell:wr.cell? ⟨b,off+k,none⟩=some (.string ⟨l.toArray⟩):=(hb.cell (p:=⟨b,off+k,none⟩) hbl).trans (hcells k l hl')
   have hmem:l∈ls:=List.mem_of_getElem? hl'
   have HT:=hid (any_take_succ p ls k l hl')
   clear hcells hl'
   go_wp2_with fail
   refine (HC.out l _ (hG.below hb) (HM.out l hmem)).mono ?_
   rintro e w1 ⟨rfl,hb1⟩
   have hb1':=hb.trans (hb1.mono hb.size)
   rcases hpl:p l with _|_
   ·have HT':Hid ((ls.take (k+1)).any p=false):=by rw [HT.out,hH.out,hpl];exact rfl
    clear hpl
    go_wp2
    go_roundw
    case rel=>exact⟨k+1,by omega,by go_num,HT',hb1'⟩
    case measure=>simp [RowKit.intOf];omega
   ·have hfin:ls.any p=true:=List.any_eq_true.2 ⟨l,hmem,hpl⟩
    have HF:=hid hfin
    clear hpl hfin
    go_wp2
    go_ret
    exact⟨k,rfl,by rw [HF.out];simp,hb1'⟩
  ·have hfin:ls.any p=false:=by have:=hH.out;rwa [List.take_of_length_le (by omega)] at this
   have HF:=hid hfin
   clear hfin hH hne
   go_wp2
   go_ret
   exact⟨-1,rfl,by rw [HF.out];rfl,hb⟩
theorem containsFunc_D (g m:Nat) (p:List UInt8→Bool) (hp:PredS g m p) (v:Value) (ls:List (List UInt8)) (w:World) (hG:Gl w) (hv:Strs w.heap.size w v ls) (hm:∀ l∈ls,l.length≤m) :
  Calls prog 166 #[v,.func (.func g) #[] #[]] w (Ret w (.bool (ls.any p))):=by
 have hI:=indexFunc_D g m p hp v ls w hG hv hm
 have HI:=hid hI
 clear hI hp hv hm
 go_enter func166,ntmps166
 go_wp2_with fail
 refine HI.out.mono ?_
 rintro e w1 ⟨i,rfl,hi,hb⟩
 have HH:=hid hi
 clear hi
 go_wp2
 go_ret
 exact⟨by rw [← HH.out];rfl,hb⟩
theorem pred_proper:PredS 167 9223372036854775807 (fun l=>!CH.isDigest l):=by
 refine⟨enters_of func167 (by kernel_rfl) rfl,fun l w hG hl=>?_⟩
 go_enter func167,ntmps167
 go_wp2_with fail
 refine (is_any l w hl).mono ?_
 rintro e w1 ⟨rfl,hb⟩
 go_wp2
 go_ret
 exact⟨rfl,hb⟩
theorem pred_odd:PredS 67 9223372036854775807 (fun l=>!CH.isDigest l):=by
 refine⟨enters_of func67 (by kernel_rfl) rfl,fun l w hG hl=>?_⟩
 go_enter func67,ntmps67
 go_wp2_with fail
 refine (is_any l w hl).mono ?_
 rintro e w1 ⟨rfl,hb⟩
 go_wp2
 go_ret
 exact⟨rfl,hb⟩
end
section
open Go.Lib Go.Proofs.Tryz Go.RowKit Go.Sort
theorem below_setCells {B b:Nat} {w0:World} (hb:B≤b):∀ (vs:List Value) (o:Nat) (w:World),Below B w0 w→Below B w0 (w.setCells b o vs)
 | [],_,_,h=>h
 | _::r,o,_,h=>below_setCells hb r (o+1) _ (h.setCell (p:=⟨b,o,none⟩) hb _)
theorem size_setCells (b:Nat):∀ (vs:List Value) (o:Nat) (w:World),(w.setCells b o vs).heap.size=w.heap.size
 | [],_,_=>rfl
 | _::r,o,w=>by rw [World.setCells,size_setCells b r];simp
theorem reverse_any (base:Nat) (v:Value) (ls:List (List UInt8)) (w:World) (hv:Ag base w v ls) :
  Calls prog 99 #[v] w fun e w'=>e=.returned (.tuple #[])∧Strs w'.heap.size w' v ls.reverse∧Below base w w':=by
 have hS:=hv.strs
 have hown:=hv
 obtain⟨a,cap,rfl,hl,hcap,hne⟩:=hv.form
 by_cases h0:ls=[]
 ·subst h0
  refine (Tryz.slices_Reverse_string_empty a cap w).mono ?_
  rintro e w' ⟨rfl,rfl⟩
  exact⟨rfl,by simpa using hS,Below.refl _ _⟩
 ·obtain⟨g,rfl,hb,hlt⟩:=hne h0
  have hc:∀ i,i<ls.length→w.cell? ⟨g,0+i,none⟩=some (.string ⟨(ls.getD i []).toArray⟩):=fun i hi=>by
   obtain⟨a',cap',e,_,_,h3⟩:=hS
   cases e
   obtain⟨b',off',e',_,hcell⟩:=h3 h0
   cases e'
   exact hcell i _ (by simp [hi])
  refine (Tryz.slices_Reverse_string_cells g 0 ls.length cap (fun i=>⟨(ls.getD i []).toArray⟩) w (by omega) hc (fun j _=>by rw [Nat.zero_add];exact World.ownsRow.frozenAt hown j)).mono ?_
  rintro e w' ⟨rfl,q,rfl⟩
  have hso:Lib.strsOf (fun i=>⟨(ls.getD i []).toArray⟩) ls.length=ls:=by
   apply List.ext_getElem?
   intro i
   unfold Lib.strsOf
   by_cases hi:i<ls.length
   ·simp [hi]
   ·simp [hi]
  rw [hso]
  refine⟨rfl,?_,below_setCells hb _ _ _ (below_drewN (Below.refl _ _) q)⟩
  refine⟨_,cap,by simp,by simpa using hl,hcap,fun _=>⟨g,0,rfl,by rw [size_setCells];exact hlt,fun j l hj=>?_⟩⟩
  have hjl:j<ls.reverse.length:=(lS hj)
  have:=World.cell?_setCells_in g (ls.reverse.map encStr) 0 (w.drewN q) (fun i hi=>by
   have:=hc i (by simpa using hi)
   show (w.cell? ⟨g,0+i,none⟩).isSome=true
   rw [this];rfl) j (by simpa using hjl)
  rw [this,List.getElem_map]
  have e2:ls.reverse[j]=l:=by rw [lZ hjl] at hj;exact Option.some.inj hj
  rw [e2]
def sliceLen:Value→Nat
 | .slice _ n _=>n
 | _=>0
structure PathInv (ls:List (List UInt8)) (i:Nat) (ls':List (List UInt8)) (i':Nat) (out:List (List UInt8)):Prop where
 same:∃ f,ls'.length≤f∧out++CH.pathF f ls' i'=CH.pathF ls.length ls i
 sub:∀ l∈ls',l∈ls
 few:out.length+ls'.length≤ls.length
def PathRet (w:World) (ls:List (List UInt8)) (e:Ending) (w':World):Prop:=∃ v,e=.returned (.tuple #[v,.int .i64 0])∧Strs w'.heap.size w' v ls∧Below w.heap.size w w'
theorem PathInv.left {ls ls' out:List (List UInt8)} {i i':Nat} (h:PathInv ls i ls' i' out) (h2:2≤ls'.length) (hi:i'<CH.half ls'.length):PathInv ls i (ls'.take (CH.half ls'.length)) i' (out++[CH.root (ls'.drop (CH.half ls'.length))]):=by
 obtain⟨⟨f,hf,e⟩,hs,hw⟩:=h
 have h3:=CH.half_lt ls'.length h2
 refine⟨?_,fun l hl=>hs l (List.mem_of_mem_take hl),by simp;omega⟩
 cases f with
 | zero=>omega
 | succ f=>exact⟨f,by simp;omega,by rw [← e,CH.pathF_left f ls' i' h2 hi];simp⟩
theorem PathInv.right {ls ls' out:List (List UInt8)} {i i':Nat} (h:PathInv ls i ls' i' out) (h2:2≤ls'.length) (hi:¬ i'<CH.half ls'.length):PathInv ls i (ls'.drop (CH.half ls'.length)) (i' - CH.half ls'.length) (out++[CH.root (ls'.take (CH.half ls'.length))]):=by
 obtain⟨⟨f,hf,e⟩,hs,hw⟩:=h
 have h3:=CH.half_pos ls'.length
 have h4:=CH.half_lt ls'.length h2
 refine⟨?_,fun l hl=>hs l (List.mem_of_mem_drop hl),by simp;omega⟩
 cases f with
 | zero=>omega
 | succ f=>exact⟨f,by simp;omega,by rw [← e,CH.pathF_right f ls' i' h2 hi];simp⟩
theorem path_any (v:Value) (ls:List (List UInt8)) (i:Nat) (w:World) (hG:Gl w) (hv:Strs w.heap.size w v ls) (hi:i<ls.length) (hn:ls.length≤1000000) (hl:∀ l∈ls,l.length≤1000000) :
  Calls prog 48 #[v,.int .i64 i] w (PathRet w (CH.path ls i)):=by
 have hv0:=hv
 obtain⟨a,cap,rfl,hlc,hcap,hne⟩:=hv
 obtain⟨b,off,rfl,hb,hc⟩:=hne (by rintro rfl;simp at hi)
 have HL:=hid hl
 clear hne hc hl
 have d1:decide ((i:Int)<0)=false:=by simp
 have d2:decide (ls.length≤i)=false:=by simp;omega
 go_enter func48,ntmps48
 go_wp2_with fail
 go_loopw [0,1,6] (fun lv iv ov wr=>∃ (ls':List (List UInt8)) (i' off' cap':Nat) (out:List (List UInt8)),lv=.slice (some ⟨b,off',none⟩) ls'.length cap'∧iv=.int .i64 i'∧Strs w.heap.size wr lv ls'∧i'<ls'.length∧ls'.length≤1000000∧cap'≤9223372036854775807∧ls'.length≤cap'∧Ag w.heap.size wr ov out∧Hid (PathInv ls i ls' i' out)∧Below w.heap.size w wr) (fun lv _ _ _=>sliceLen lv)
 case atStart=>exact⟨ls,i,off,cap,[],rfl,rfl,hv0,hi,hn,hcap,hlc,Ag.nil _ _,⟨⟨_,Nat.le_refl _,rfl⟩,fun _ h=>h,by simp⟩,Below.refl _ _⟩
 case round =>
  obtain⟨ls',i',off',cap',out,rfl,rfl,hS,hi',hn',hcap',hlc',hO,hI,hbw⟩:=hrel
  have hG':=hG.below hbw
  have hsz:=hbw.size
  by_cases h2:2≤ls'.length
  ·have hgt:(1:Int)<(ls'.length:Int):=by omega
   have hk1:=CH.half_pos ls'.length
   have hk2:=CH.half_lt ls'.length h2
   have hfew:=hI.out.few
   go_wp2_with fail
   refine (half_any ls'.length wr (by omega)).mono ?_
   rintro e w' ⟨rfl,rfl⟩
   by_cases hlt:i'<CH.half ls'.length
   ·have hinv:=hI.out.left h2 hlt
    have hSd:=hS.drop (CH.half ls'.length) (by omega)
    have hSt:=hS.take (CH.half ls'.length) (by omega)
    have hll:(ls'.take (CH.half ls'.length)).length=CH.half ls'.length:=by simp;omega
    have HI:=hid hinv
    have HSd:=hid (hSd.mono hsz)
    have HSt:=hid hSt
    have HLL:=hid hll
    have hsub:∀ l∈ls'.drop (CH.half ls'.length),l.length≤1000000:=fun l hl=>HL.out l (hI.out.sub l (List.mem_of_mem_drop hl))
    have HSU:=hid hsub
    have hdl:(ls'.drop (CH.half ls'.length)).length<ls'.length+1:=by simp;omega
    have hdl2:(ls'.drop (CH.half ls'.length)).length≤1000000:=by simp;omega
    clear hinv hSd hSt hll hsub hI hS
    generalize CH.half ls'.length=k at *
    generalize ls'.take k=lt at *
    generalize ls'.drop k=ld at *
    have hkc:¬ (cap'=k):=by omega
    go_wp2_with fail
    refine (root_any _ _ ld wr hdl hG' HSd.out hdl2 HSU.out).mono ?_
    rintro e w1 ⟨rfl,hb1⟩
    have hO1:=(hO.below hb1).alloc (.cells #[.string ⟨(CH.root ld).toArray⟩] 9)
    have hs1:=hb1.size
    go_wp2_with (at_builtin;refine A9 rfl _ _ rfl w.heap.size _ out rfl hO1 w1.heap.size 1 (CH.root ld) rfl ?c1 ?c2 ?c3 ?_)
    case c1=>rw [World.cell?_alloc_at _ _ _ _ rfl];rfl
    case c2=>omega
    case c3=>simp;omega
    intro v' w2 hO2 hg2 hat2
    have hbf:Below w.heap.size wr w2:=((hb1.mono hsz).alloc (by omega) _).grown hg2 (by simp;omega) (fun j hj=>(World.ownsRow.lt hO1 j hj).1)
    have hS2:=HSt.out.below hbf nR
    have hbf':=hbw.trans hbf
    clear hO1 hg2 hat2 hb1 hbf HSd HSt HSU hG' hO hdl hdl2
    go_wp2
    go_roundw
    case rel=>exact⟨lt,i',off',cap',out++[CH.root ld],by rw [HLL.out],rfl,hS2,by rw [HLL.out];exact hlt,by rw [HLL.out];omega,hcap',by rw [HLL.out];omega,hO2,HI.out,hbf'⟩
    case measure=>simp [sliceLen];omega
   ·have hinv:=hI.out.right h2 hlt
    have hSd:=hS.drop (CH.half ls'.length) (by omega)
    have hSt:=hS.take (CH.half ls'.length) (by omega)
    have hll:(ls'.drop (CH.half ls'.length)).length=ls'.length - CH.half ls'.length:=by simp
    have HI:=hid hinv
    have HSd:=hid hSd
    have HSt:=hid (hSt.mono hsz)
    have HLL:=hid hll
    have hsub:∀ l∈ls'.take (CH.half ls'.length),l.length≤1000000:=fun l hl=>HL.out l (hI.out.sub l (List.mem_of_mem_take hl))
    have HSU:=hid hsub
    have hdl:(ls'.take (CH.half ls'.length)).length<ls'.length+1:=by simp;omega
    have hdl2:(ls'.take (CH.half ls'.length)).length≤1000000:=by simp;omega
    clear hinv hSd hSt hll hsub hI hS
    generalize CH.half ls'.length=k at *
    generalize ls'.take k=lt at *
    generalize ls'.drop k=ld at *
    have hkc:¬ (cap'=k):=by omega
    have hge:(k:Int)≤(i':Int):=by omega
    go_wp2_with fail
    refine (root_any _ _ lt wr hdl hG' HSt.out hdl2 HSU.out).mono ?_
    rintro e w1 ⟨rfl,hb1⟩
    have hO1:=(hO.below hb1).alloc (.cells #[.string ⟨(CH.root lt).toArray⟩] 9)
    have hs1:=hb1.size
    go_wp2_with (at_builtin;refine A9 rfl _ _ rfl w.heap.size _ out rfl hO1 w1.heap.size 1 (CH.root lt) rfl ?c1 ?c2 ?c3 ?_)
    case c1=>rw [World.cell?_alloc_at _ _ _ _ rfl];rfl
    case c2=>omega
    case c3=>simp;omega
    intro v' w2 hO2 hg2 hat2
    have hbf:Below w.heap.size wr w2:=((hb1.mono hsz).alloc (by omega) _).grown hg2 (by simp;omega) (fun j hj=>(World.ownsRow.lt hO1 j hj).1)
    have hS2:=HSd.out.below hbf nR
    have hbf':=hbw.trans hbf
    clear hO1 hg2 hat2 hb1 hbf HSd HSt HSU hG' hO hdl hdl2
    go_wp2
    go_roundw
    case rel=>exact⟨ld,i' - k,off'+k,cap' - k,out++[CH.root lt],by rw [HLL.out],by go_num,hS2,by rw [HLL.out];omega,by rw [HLL.out];omega,by omega,by rw [HLL.out];omega,hO2,HI.out,hbf'⟩
    case measure=>simp [sliceLen];omega
  ·have hle:¬ (1:Int)<(ls'.length:Int):=by omega
   have hfin:CH.path ls i=out.reverse:=by
    obtain⟨f,_,e⟩:=hI.out.same
    rw [CH.pathF_one f ls' i' (by omega),List.append_nil] at e
    rw [CH.path,← e]
   have HF:=hid hfin
   clear hfin
   go_wp2_with fail
   refine (reverse_any w.heap.size _ out wr hO).mono ?_
   rintro e w1 ⟨rfl,hS1,hb1⟩
   go_wp2
   go_ret2
   exact⟨u6,rfl,by rw [HF.out];exact hS1,hbw.trans hb1⟩
structure KeepBut (S:Nat→Prop) (w w':World):Prop where
 os:w'.os=w.os
 tape:w'.tape=w.tape
 output:w'.output=w.output
 size:w.heap.size≤w'.heap.size
 block:∀ k,k<w.heap.size→¬ S k→w'.heap[k]?=w.heap[k]?
theorem KeepBut.refl (S:Nat→Prop) (w:World):KeepBut S w w:=⟨rfl,rfl,rfl,Nat.le_refl _,fun _ _ _=>rfl⟩
theorem KeepBut.trans {S:Nat→Prop} {a b c:World} (h:KeepBut S a b) (k:KeepBut S b c):KeepBut S a c :=
 ⟨k.os.trans h.os,k.tape.trans h.tape,k.output.trans h.output,nT h.size k.size,fun j hj hs=>(k.block j (nL hj h.size) hs).trans (h.block j hj hs)⟩
theorem KeepBut.of_below {S:Nat→Prop} {w w':World} (h:Below w.heap.size w w'):KeepBut S w w':=⟨h.os,h.tape,h.output,h.size,fun k hk _=>h.block k hk⟩
theorem KeepBut.drew {S:Nat→Prop} {a w:World} (h:KeepBut S a w):KeepBut S a w.drew:=⟨h.os,h.tape,h.output,h.size,h.block⟩
theorem KeepBut.setCell {S:Nat→Prop} {a w:World} (h:KeepBut S a w) {p:Addr} (hp:S p.block) (u:Value):KeepBut S a (w.setCell p u) :=
 ⟨h.os,h.tape,h.output,by simpa using h.size,fun k hk hs=>by rw [Below.heap_setCell w p u k (fun e=>hs (e ▸ hp))];exact h.block k hk hs⟩
theorem KeepBut.cell {S:Nat→Prop} {w w':World} (h:KeepBut S w w') {p:Addr} (hp:p.block<w.heap.size) (hs:¬ S p.block):w'.cell? p=w.cell? p:=World.cell?_of_block (w:=w) (h.block p.block hp hs)
theorem KeepBut.below {S:Nat→Prop} {w w':World} {B:Nat} (h:KeepBut S w w') (hB:B≤w.heap.size) (hS:∀ k,S k→B≤k):Below B w w' :=
 ⟨h.os,h.tape,h.output,h.size,fun k hk=>h.block k (by omega) (fun hs=>by have:=hS k hs;omega)⟩
structure Pf (L Pb:Nat) (w:World) (s:CH.PSt):Prop where
 lt:L<Pb
 lt':Pb<w.heap.size
 l:∃ v,w.cell? ⟨L,0,none⟩=some v∧Strs L w v s.1
 p0:w.cell? ⟨Pb,0,none⟩=some (.pointer (some ⟨L,0,none⟩))
 p1:w.cell? ⟨Pb,1,none⟩=some (.bool s.2)
 fl:w.frozen? ⟨L,0,none⟩=false
 fp:w.frozen? ⟨Pb,1,none⟩=false
def PopRet (L:Nat) (w:World) (rest:List (List UInt8)) (e:Ending) (w':World):Prop :=
 e=.returned (.string ⟨((rest.getLast?).getD []).toArray⟩)∧KeepBut (·=L) w w'∧(∃ v,w'.cell? ⟨L,0,none⟩=some v∧Strs L w' v rest.dropLast)∧w'.frozen? ⟨L,0,none⟩=false
theorem pop_any (L:Nat) (v:Value) (rest:List (List UInt8)) (w:World) (hL:L<w.heap.size) (hc:w.cell? ⟨L,0,none⟩=some v) (hf:w.frozen? ⟨L,0,none⟩=false) (hv:Strs L w v rest) :
  Calls prog 168 #[.pointer (some ⟨L,0,none⟩)] w (PopRet L w rest):=by
 have hv0:=hv
 obtain⟨a,cap,rfl,hl,hcap,hne⟩:=hv
 by_cases h0:rest=[]
 ·subst h0
  go_enter func168,ntmps168
  go_wp2
  go_ret
  exact⟨rfl,KeepBut.refl _ _,⟨_,hc,hv0⟩,hf⟩
 ·obtain⟨b,off,rfl,hb,hcells⟩:=hne h0
  obtain⟨n,hn⟩:∃ n,rest.length=n+1:=⟨rest.length - 1,by have:=List.length_pos_iff.2 h0;omega⟩
  obtain⟨d,hd⟩:∃ d,rest.getLast?=some d:=⟨_,List.getLast?_eq_some_getLast h0⟩
  have hdn:rest[n]?=some d:=by rw [List.getLast?_eq_getElem?,hn] at hd;exact hd
  have hcd:=hcells n d hdn
  have hne0:((n:Int)+1==0)=false:=by simp;omega
  have hi1:(0:Int)≤(n:Int):=by omega
  have hi2:(n:Int)<(n:Int)+1:=by omega
  rw [hn] at hc hl
  clear hne hcells
  have HV:=hid hv0
  clear hv0
  go_enter func168,ntmps168
  go_wp2
  go_quiet (fail)
  go_wp2
  go_region
  go_wp2
  go_ret
  have hk:KeepBut (·=L) w ((w.drewN (nq+1)).setCell ⟨L,0,none⟩ (.slice (some ⟨b,off,none⟩) n cap)) :=
   (KeepBut.of_below (S:=(·=L)) (below_drewN (Below.refl _ w) _)).setCell (p:=⟨L,0,none⟩) (show L=L from rfl) _
  have hdl:rest.dropLast=rest.take n:=by rw [List.dropLast_eq_take,hn];rfl
  refine⟨by rw [hd];rfl,hk,⟨_,World.cell?_setCell_same' _ _ _ (by show (w.cell? _).isSome=true;rw [hc];rfl),?_⟩,by rw [World.frozen?_setCell];exact hf⟩
  rw [hdl]
  exact (HV.out.take n (by omega)).below (hk.below (by omega) (fun k e=>by omega)) nR
def NextRet (L Pb:Nat) (w:World) (s:CH.PSt) (e:Ending) (w':World):Prop :=
 e=.returned (.string ⟨(CH.nextD s).1.toArray⟩)∧KeepBut (fun k=>k=L∨k=Pb) w w'∧Pf L Pb w' (CH.nextD s).2
theorem nextD_last (s:CH.PSt):(CH.nextD s).1=(s.1.getLast?).getD []∧(CH.nextD s).2.1=s.1.dropLast∧(CH.nextD s).2.2=(s.2||((s.1.getLast?).getD []).isEmpty):=by
 unfold CH.nextD
 cases h:s.1.getLast? with
 | none =>
  have:s.1=[]:=by simpa using h
  simp [this]
 | some d=>simp
theorem next_any (L Pb:Nat) (w:World) (s:CH.PSt) (h:Pf L Pb w s) :
  Calls prog 115 #[.pointer (some ⟨Pb,0,none⟩)] w (NextRet L Pb w s):=by
 obtain⟨hlt,hlt',⟨v,hcl,hv⟩,hp0,hp1,hfl,hfp⟩:=h
 obtain⟨e1,e2,e3⟩:=nextD_last s
 generalize hd:(s.1.getLast?).getD []=d at *
 go_enter func115,ntmps115
 go_wp2_with fail
 refine (pop_any L v s.1 w (by omega) hcl hfl hv).mono ?_
 rintro e w1 ⟨rfl,hk1,⟨v1,hc1,hv1⟩,hf1⟩
 rw [hd]
 have hs1:=hk1.size
 have hp1':w1.cell? ⟨Pb,1,none⟩=some (.bool s.2):=(hk1.cell (p:=⟨Pb,1,none⟩) hlt' (fun e=>by simp at e;omega)).trans hp1
 have hp0':w1.cell? ⟨Pb,0,none⟩=some (.pointer (some ⟨L,0,none⟩)):=(hk1.cell (p:=⟨Pb,0,none⟩) hlt' (fun e=>by simp at e;omega)).trans hp0
 have hfp':w1.frozen? ⟨Pb,1,none⟩=false:=(World.frozen?_of_block (hk1.block Pb hlt' (fun e=>by omega))).trans hfp
 have HE:=hid (And.intro e1 (And.intro e2 e3))
 clear e1 e2 e3 hd hp0 hp1 hcl hv hfp hfl
 have hne:L≠Pb:=by omega
 have hfin:∀ w2:World,w2=w1.setCell ⟨Pb,1,none⟩ (.bool (s.2||d.isEmpty))→NextRet L Pb w s (.returned (.string ⟨d.toArray⟩)) w2:=fun w2 hw2=>by
  subst hw2
  obtain⟨e1,e2,e3⟩:=HE.out
  refine⟨by rw [e1],(KeepBut.trans ⟨hk1.os,hk1.tape,hk1.output,hk1.size,fun k hk hs=>hk1.block k hk (fun e=>hs (.inl e))⟩ ((KeepBut.refl _ w1).setCell (.inr rfl) _)),?_⟩
  have hkb:Below L w1 (w1.setCell ⟨Pb,1,none⟩ (.bool (s.2||d.isEmpty))):=(Below.refl L w1).setCell (by show L≤Pb;omega) _
  refine⟨hlt,by simp;omega,⟨v1,?_,by rw [e2];exact hv1.below hkb nR⟩,?_,?_,?_,?_⟩
  ·rw [World.cell?_setCell_other _ _ _ _ (by simp)];exact hc1
  ·rw [World.cell?_setCell_other _ _ _ _ (by simp)];exact hp0'
  ·rw [e3];exact World.cell?_setCell_same' _ _ _ (by rw [hp1'];rfl)
  ·rw [World.frozen?_setCell];exact hf1
  ·rw [World.frozen?_setCell];exact hfp'
 have HF:=hid hfin
 clear hfin HE hk1 hv1 hc1
 rcases hs2:s.2 with _|_
 ·rw [hs2] at hp1' HF
  rcases hde:d.isEmpty with _|_
  all_goals
   rw [hde] at HF
   go_wp2
   go_ret
   exact HF.out _ rfl
 ·rw [hs2] at hp1' HF
  go_wp2
  go_ret
  exact HF.out _ rfl
theorem done_any (L Pb:Nat) (w:World) (s:CH.PSt) (h:Pf L Pb w s) :
  Calls prog 116 #[.pointer (some ⟨Pb,0,none⟩)] w fun e w'=>e=.returned (.bool (!s.2&&s.1.isEmpty))∧w=w':=by
 obtain⟨hlt,hlt',⟨v,hcl,hv⟩,hp0,hp1,hfl,hfp⟩:=h
 obtain⟨a,cap,rfl,hl,hcap,hne⟩:=hv
 rcases hs2:s.2 with _|_
 ·rw [hs2] at hp1
  by_cases h0:s.1=[]
  ·have e:((s.1.length:Int)==0)=true:=by simp [h0]
   have e':s.1.isEmpty=true:=by simp [h0]
   clear h0 hne
   go_enter func116,ntmps116
   go_wp2
   go_ret
   exact⟨by rw [e'];rfl,rfl⟩
  ·have e:((s.1.length:Int)==0)=false:=by simp;exact h0
   have e':s.1.isEmpty=false:=by simp;exact h0
   clear h0 hne
   go_enter func116,ntmps116
   go_wp2
   go_ret
   exact⟨by rw [e'];rfl,rfl⟩
 ·rw [hs2] at hp1
  clear hne
  go_enter func116,ntmps116
  go_wp2
  go_ret
  exact⟨rfl,rfl⟩
theorem proper_any (v:Value) (ls:List (List UInt8)) (w:World) (hG:Gl w) (hv:Strs w.heap.size w v ls) (hl:∀ l∈ls,l.length≤9223372036854775807) :
  Calls prog 113 #[v] w (Ret w (.bool (ls.all CH.isDigest))):=by
 have hC:=containsFunc_D _ _ _ pred_proper v ls w hG hv hl
 have HC:=hid hC
 clear hC hv hl
 go_enter func113,ntmps113
 go_wp2_with fail
 refine HC.out.mono ?_
 rintro e w1 ⟨rfl,hb⟩
 have e:(!ls.any fun l=>!CH.isDigest l)=ls.all CH.isDigest:=by rw [List.all_eq_not_any_not]
 have HE:=hid e
 clear e HC
 generalize (ls.any fun l=>!CH.isDigest l)=x at HE
 go_wp2
 go_ret
 exact⟨by rw [← HE.out];rfl,hb⟩
structure UpEnv (L Pb B0 B4 B5:Nat) (leaf:List UInt8) (w:World):Prop where
 lt0:B0<L
 lt4:Pb<B4
 lt5:B4<B5
 lt:B5<w.heap.size
 c0:w.cell? ⟨B0,0,none⟩=some (.string ⟨leaf.toArray⟩)
 c4:w.cell? ⟨B4,0,none⟩=some (.pointer (some ⟨Pb,0,none⟩))
 c5:w.cell? ⟨B5,0,none⟩=some (.func (.func 114) #[] #[.pointer (some ⟨B0,0,none⟩),.pointer (some ⟨B4,0,none⟩),.pointer (some ⟨B5,0,none⟩)])
theorem UpEnv.keep {L Pb B0 B4 B5:Nat} {leaf:List UInt8} {w w':World} (h:UpEnv L Pb B0 B4 B5 leaf w) (hlt:L<Pb) (hk:KeepBut (fun k=>k=L∨k=Pb) w w'):UpEnv L Pb B0 B4 B5 leaf w':=by
 obtain⟨a,b,c,d,e,f,g⟩:=h
 have hs:=hk.size
 exact⟨a,b,c,by omega,(hk.cell (p:=⟨B0,0,none⟩) (by show B0<_;omega) (by show ¬ (B0=L∨B0=Pb);omega)).trans e,(hk.cell (p:=⟨B4,0,none⟩) (by show B4<_;omega) (by show ¬ (B4=L∨B4=Pb);omega)).trans f,(hk.cell (p:=⟨B5,0,none⟩) (by show B5<_;omega) (by show ¬ (B5=L∨B5=Pb);omega)).trans g⟩
theorem Pf.keep {L Pb:Nat} {s:CH.PSt} {w w':World} (h:Pf L Pb w s) (hb:Below w.heap.size w w'):Pf L Pb w' s:=by
 obtain⟨a,b,⟨v,c,c'⟩,d,e,f,g⟩:=h
 have hs:=hb.size
 exact⟨a,by omega,⟨v,(hb.cell (p:=⟨L,0,none⟩) (by show L<_;omega)).trans c,c'.below hb (by omega)⟩,(hb.cell (p:=⟨Pb,0,none⟩) b).trans d,(hb.cell (p:=⟨Pb,1,none⟩) b).trans e,(hb.frozen (p:=⟨L,0,none⟩) (by show L<_;omega)).trans f,(hb.frozen (p:=⟨Pb,1,none⟩) b).trans g⟩
def UpRet (L Pb:Nat) (w:World) (r:List UInt8 × CH.PSt) (e:Ending) (w':World):Prop :=
 e=.returned (.string ⟨r.1.toArray⟩)∧KeepBut (fun k=>k=L∨k=Pb) w w'∧Pf L Pb w' r.2
theorem upF_len (leaf:List UInt8) (f n i:Nat) (s:CH.PSt):(CH.upF leaf f n i s).1.length≤1000000:=by
 cases f with
 | zero=>simp [CH.upF]
 | succ f =>
  unfold CH.upF
  split
  ·rw [CH.length_dl];decide
  ·split
   ·rw [CH.length_node];decide
   ·rw [CH.length_node];decide
theorem Gl.low {w w':World} {B:Nat} (h:Gl w) (hb:Below B w w') (hB:9≤B):Gl w' where
 size:=nT h.size hb.size
 db:=(hb.cell (nL (by decide) hB)).trans h.db
 pow10:=var?_below hb (by kernel_rfl) (g:=0) (nL (by decide) hB) h.pow10
 utf8:=⟨fun c hc=>(hb.cell (p:=⟨_,c,none⟩) (nL (by simp) hB)).trans (h.utf8.1 c hc),fun i hi=>⟨(hb.cell (p:=⟨_,2*i,none⟩) (nL (by simp) hB)).trans (h.utf8.2 i hi).1,(hb.cell (p:=⟨_,2*i+1,none⟩) (nL (by simp) hB)).trans (h.utf8.2 i hi).2⟩⟩
theorem up_any (L Pb B0 B4 B5:Nat) (leaf:List UInt8) (hleaf:leaf.length≤1000000) (f:Nat):∀ (n i:Nat) (s:CH.PSt) (w:World),1≤n→i<n→n≤f→n≤1000000→Gl w→9≤L→(∀ d∈s.1,d.length≤1000000)→UpEnv L Pb B0 B4 B5 leaf w→Pf L Pb w s →
  Calls prog 114 #[.int .i64 n,.int .i64 i,.pointer (some ⟨B0,0,none⟩),.pointer (some ⟨B4,0,none⟩),.pointer (some ⟨B5,0,none⟩)] w (UpRet L Pb w (CH.upF leaf f n i s)):=by
 induction f with
 | zero=>intro n i s w h1 h2 h3;omega
 | succ f ih =>
  intro n i s w h1 hi hf hn hG h9 hd hE hP
  have IH:=hid ih
  clear ih
  by_cases hn1:n=1
  ·subst hn1
   have e:CH.upF leaf (f+1) 1 i s=(CH.dl [CH.tLeaf,leaf],s):=by rw [CH.upF,if_pos rfl]
   rw [e]
   have hc0:=hE.c0
   clear e hE
   go_enter func114,ntmps114
   go_wp2_with fail
   refine (list_any _ [CH.tLeaf,leaf] _ (hG.below (A8 w _)) (by rw [World.size_alloc];exact strs_lit w [CH.tLeaf,leaf] 9 (by simp)) ?_).mono ?_
   ·have:=pack_le [CH.tLeaf,leaf] 1000000 (by intro l hl;simp at hl;rcases hl with rfl|rfl;decide;exact hleaf) (by decide)
    simp at this ⊢
    omega
   rintro e w' ⟨rfl,hb1⟩
   have hb1':=(A8 w _).trans (hb1.mono (by simp))
   go_wp2
   go_ret
   exact⟨rfl,KeepBut.of_below hb1',hP.keep hb1'⟩
  ·have e1:((n:Int)==1)=false:=by simp;omega
   have hk1:=CH.half_pos n
   have hk2:=CH.half_lt n (by omega)
   have hlen:(CH.nextD s).1.length≤1000000:=by
    rw [(nextD_last s).1]
    cases hx:s.1.getLast? with
    | none=>simp
    | some d=>exact hd d (List.mem_of_getLast? hx)
   have hd':∀ d∈(CH.nextD s).2.1,d.length≤1000000:=fun d hm=>hd d (by rw [(nextD_last s).2.1] at hm;exact List.dropLast_subset _ hm)
   have HD:=hid hd'
   have hPlt:=hP.lt
   clear hd hd'
   have hc4:=hE.c4
   have hbd:Below w.heap.size w w.drew:=(Below.refl _ _).drew
   have HPd:=hid (hP.keep hbd)
   have hElt4:=hE.lt4
   have hElt5:=hE.lt5
   have hElt:=hE.lt
   have HE:=hid hE
   have HG:=hid hG
   clear hE hG hP
   rw [CH.upF,if_neg hn1]
   by_cases hik:i<CH.half n
   ·rw [if_pos hik]
    generalize hk:CH.half n=k at *
    go_enter func114,ntmps114
    go_wp2_with fail
    go_region_with (first
     |(go_at_call 55;refine (half_any n _ (by omega)).mono ?_;rw [hk];rintro e w' ⟨rfl,rfl⟩)
     |(go_at_call 115;refine (next_any L Pb _ s ?_).mono ?_;exact HPd.out;rintro e w1 ⟨rfl,hk1',hP1⟩))
    all_goals
     clear hk hc4
     have hkw:KeepBut (fun k=>k=L∨k=Pb) w w1:=(KeepBut.of_below hbd).trans hk1'
     have hE1:=HE.out.keep hPlt hkw
     have hG1:Gl w1:=HG.out.low (hkw.below (B:=L) (by omega) (fun k e=>by omega)) h9
     have hc5:=hE1.c5
     have HE1:=hid hE1
     have hs1:=hkw.size
     clear hE1 hk1' hbd
     go_wp2_with fail
     refine (IH.out k i (CH.nextD s).2 w1 (by omega) (by omega) (by omega) (by omega) hG1 h9 HD.out HE1.out hP1).mono ?_
     rintro e w2 ⟨rfl,hk2',hP2⟩
     have hG2:Gl w2:=hG1.low (hk2'.below (B:=L) (by omega) (fun k e=>by omega)) h9
     have hl2:=upF_len leaf f k i (CH.nextD s).2
     generalize CH.upF leaf f k i (CH.nextD s).2=r at *
     go_wp2_with fail
     refine (node_any _ _ w2 hG2 hl2 hlen).mono ?_
     rintro e w3 ⟨rfl,hb3⟩
     go_wp2
     go_ret
     exact⟨rfl,(hkw.trans hk2').trans (KeepBut.of_below hb3),hP2.keep hb3⟩
   ·rw [if_neg hik]
    have hge:((CH.half n:Nat):Int)≤(i:Int):=by omega
    generalize hk:CH.half n=k at *
    go_enter func114,ntmps114
    go_wp2_with fail
    go_region_with (first
     |(go_at_call 55;refine (half_any n _ (by omega)).mono ?_;rw [hk];rintro e w' ⟨rfl,rfl⟩)
     |(go_at_call 115;refine (next_any L Pb _ s ?_).mono ?_;exact HPd.out;rintro e w1 ⟨rfl,hk1',hP1⟩))
    all_goals
     clear hk hc4
     have hkw:KeepBut (fun k=>k=L∨k=Pb) w w1:=(KeepBut.of_below hbd).trans hk1'
     have hE1:=HE.out.keep hPlt hkw
     have hG1:Gl w1:=HG.out.low (hkw.below (B:=L) (by omega) (fun k e=>by omega)) h9
     have hc5:=hE1.c5
     have HE1:=hid hE1
     have hs1:=hkw.size
     clear hE1 hk1' hbd
     go_wp2_with fail
     rw [show ((n:Int) - (k:Int))=((n - k:Nat):Int) from by omega,show ((i:Int) - (k:Int))=((i - k:Nat):Int) from by omega]
     refine (IH.out (n - k) (i - k) (CH.nextD s).2 w1 (by omega) (by omega) (by omega) (by omega) hG1 h9 HD.out HE1.out hP1).mono ?_
     rintro e w2 ⟨rfl,hk2',hP2⟩
     have hG2:Gl w2:=hG1.low (hk2'.below (B:=L) (by omega) (fun k e=>by omega)) h9
     have hl2:=upF_len leaf f (n - k) (i - k) (CH.nextD s).2
     generalize CH.upF leaf f (n - k) (i - k) (CH.nextD s).2=r at *
     go_wp2_with fail
     refine (node_any _ _ w2 hG2 hlen hl2).mono ?_
     rintro e w3 ⟨rfl,hb3⟩
     go_wp2
     go_ret
     exact⟨rfl,(hkw.trans hk2').trans (KeepBut.of_below hb3),hP2.keep hb3⟩
def OwnRet (w:World) (ls:List (List UInt8)) (e:Ending) (w':World):Prop:=∃ v,e=.returned v∧Ag w.heap.size w' v ls∧Below w.heap.size w w'
theorem clone_any (v:Value) (ls:List (List UInt8)) (w:World) (hv:Strs w.heap.size w v ls) (hn:ls.length≤1099511627776) :
  Calls prog 31 #[v] w (OwnRet w ls):=by
 obtain⟨a,cap,rfl,hl,hcap,hne⟩:=hv
 by_cases h0:ls=[]
 ·subst h0
  cases a with
  | none =>
   refine (Tryz.slices_Clone_string_nil 0 cap w).mono ?_
   rintro e w' ⟨rfl,rfl⟩
   exact⟨_,rfl,Ag.nil _ _,Below.refl _ _⟩
  | some a =>
   refine (Tryz.slices_Clone_string_zero a cap w).mono ?_
   rintro e w' ⟨v',rfl,ho,_,hb⟩
   exact⟨_,rfl,ho,hb⟩
 ·obtain⟨b,off,rfl,hb,hc⟩:=hne h0
  refine (Tryz.slices_Clone_string b off ls.length cap (ls.map fun l=>⟨l.toArray⟩) w (by simp) (by omega) (fun j hj=>?_)).mono ?_
  ·have hj':j<ls.length:=by simpa using hj
   rw [hc j ls[j] (lZ hj')]
   simp [hj']
  ·rintro e w' ⟨v',rfl,ho,_,hb'⟩
   refine⟨_,rfl,?_,hb'⟩
   unfold Ag
   have:((ls.map fun l=>(⟨l.toArray⟩:ByteArray)).take ls.length).map Value.string=ls.map strV:=by
    rw [List.take_of_length_le (by simp),List.map_map];rfl
   rwa [this] at ho
def C7 (w2:World) (L B0:Nat):World :=
 ((w2.alloc (.cells #[.pointer (some ⟨L,0,none⟩),.bool false] 193)).alloc (.cells #[.pointer (some ⟨w2.heap.size,0,none⟩)] 190)).alloc
  (.cells #[.func (.func 114) #[] #[.pointer (some ⟨B0,0,none⟩),.pointer (some ⟨w2.heap.size+1,0,none⟩),.pointer (some ⟨w2.heap.size+1+1,0,none⟩)]] 194)
theorem upWorld_env (w2:World) (L B0:Nat) (leaf:List UInt8) (path:List (List UInt8)) (v:Value) (h0:B0<L) (hL:L<w2.heap.size) (hleaf:w2.cell? ⟨B0,0,none⟩=some (.string ⟨leaf.toArray⟩))
  (hLc:w2.cell? ⟨L,0,none⟩=some v) (hLf:w2.frozen? ⟨L,0,none⟩=false) (hv:Strs L w2 v path) :
  Below w2.heap.size w2 (C7 w2 L B0)∧UpEnv L w2.heap.size B0 (w2.heap.size+1) (w2.heap.size+1+1) leaf (C7 w2 L B0)∧Pf L w2.heap.size (C7 w2 L B0) (path,false):=by
 have hb:Below w2.heap.size w2 (C7 w2 L B0):=(((Below.refl _ _).alloc nR _).alloc (by simp) _).alloc (by simp;omega) _
 have hsz:(C7 w2 L B0).heap.size=w2.heap.size+1+1+1:=by unfold C7;simp
 refine⟨hb,⟨h0,by omega,by omega,by omega,(hb.cell (p:=⟨B0,0,none⟩) (by show B0<_;omega)).trans hleaf,?_,?_⟩,⟨hL,by omega,⟨v,(hb.cell (p:=⟨L,0,none⟩) hL).trans hLc,hv.below hb (by omega)⟩,?_,?_,(hb.frozen (p:=⟨L,0,none⟩) hL).trans hLf,?_⟩⟩
 ·unfold C7
  rw [World.cell?_alloc_past _ _ _ (by simp),World.cell?_alloc_at _ _ _ _ (by simp)];rfl
 ·unfold C7
  rw [World.cell?_alloc_at _ _ _ _ (by simp)];rfl
 ·unfold C7
  rw [World.cell?_alloc_past _ _ _ (by simp;omega),World.cell?_alloc_past _ _ _ (by simp),World.cell?_alloc_at _ _ _ _ rfl];rfl
 ·unfold C7
  rw [World.cell?_alloc_past _ _ _ (by simp;omega),World.cell?_alloc_past _ _ _ (by simp),World.cell?_alloc_at _ _ _ _ rfl];rfl
 ·unfold C7
  rw [World.frozen?_alloc_past _ _ _ (by simp;omega),World.frozen?_alloc_past _ _ _ (by simp)];exact World.frozen?_alloc_at _ _ _ _ rfl
theorem treeCheck_any (root leaf:List UInt8) (n i:Nat) (v:Value) (path:List (List UInt8)) (w:World) (hG:Gl w) (hi:i<n) (hn:n≤1000000) (hleaf:leaf.length≤1000000) (hv:Strs w.heap.size w v path) (hp:path.length≤1000000) (hd:∀ d∈path,d.length≤1000000) :
  Calls prog 68 #[.string ⟨root.toArray⟩,.int .i64 n,.int .i64 i,.string ⟨leaf.toArray⟩,v] w (Ret w (.bool (CH.treeCheck root n i leaf path))):=by
 have hv1:=(hv.below (A8 w (.cells #[.string ⟨leaf.toArray⟩] 9)) nR).mono (B':=(w.alloc (.cells #[.string ⟨leaf.toArray⟩] 9)).heap.size) (by simp)
 have HV:=hid hv1
 have HD:=hid hd
 have d1:decide ((1000000:Int)<(n:Int))=false:=by simp;omega
 have d2:decide ((i:Int)<0)=false:=by simp
 have d3:decide (n≤i)=false:=by simp;omega
 clear hv1 hv hd
 go_enter func68,ntmps68
 go_wp2_with fail
 refine (clone_any v path _ HV.out (by omega)).mono ?_
 rintro e w1 ⟨v1,rfl,hO,hb1⟩
 have hs1:=hb1.size
 rw [World.size_alloc] at hs1 hO hb1
 have hG1:=(hG.below (A8 w _)).below (by rw [World.size_alloc];exact hb1)
 obtain⟨a1,cap1,hv1,hl1,hc1,hne1⟩:=hO.form
 subst hv1
 have hS:=hO.strs
 go_wp2_with fail
 have hbA:=A8 w1 (.cells #[Value.slice a1 path.length cap1] 189)
 refine (proper_any _ path _ (hG1.below hbA) ((hS.below hbA nR).mono (by simp)) (fun l hl=>by have:=HD.out l hl;omega)).mono ?_
 rintro e w2 ⟨rfl,hb2⟩
 have hs2:=hb2.size
 rw [World.size_alloc] at hs2 hb2
 have hLc:w2.cell? ⟨w1.heap.size,0,none⟩=some (.slice a1 path.length cap1):=by
  rw [hb2.cell (p:=⟨w1.heap.size,0,none⟩) (by simp),World.cell?_alloc_at _ _ _ _ rfl];rfl
 have hLf:w2.frozen? ⟨w1.heap.size,0,none⟩=false:=by
  rw [hb2.frozen (p:=⟨w1.heap.size,0,none⟩) (by simp)];exact World.frozen?_alloc_at _ _ _ _ rfl
 have hLeaf:w2.cell? ⟨w.heap.size,0,none⟩=some (.string ⟨leaf.toArray⟩):=by
  rw [hb2.cell (p:=⟨w.heap.size,0,none⟩) (by show w.heap.size<_;omega),World.cell?_alloc_past _ _ _ (by show w.heap.size<_;omega),hb1.cell (p:=⟨w.heap.size,0,none⟩) (by show w.heap.size<_;omega),World.cell?_alloc_at _ _ _ _ rfl];rfl
 have hS2:Strs w1.heap.size w2 (.slice a1 path.length cap1) path:=hS.below (hbA.trans (hb2.mono (by omega))) nR
 have hG2:Gl w2:=(hG1.below hbA).below (by rw [World.size_alloc];exact hb2)
 have hbW:Below w.heap.size w w2:=(((A8 w _).trans (hb1.mono (by omega))).trans (hbA.mono (by omega))).trans (hb2.mono (by omega))
 have hGs:=hG.size
 rcases hall:path.all CH.isDigest with _|_
 ·have e:CH.treeCheck root n i leaf path=false:=by unfold CH.treeCheck;rw [hall];rfl
  have HE:=hid e
  clear e hS2 hS hO hG1 hG2 hb1 hb2 hbA hLc hLf hLeaf HV
  go_wp2
  go_ret
  exact⟨by rw [HE.out];rfl,hbW⟩
 ·have e:CH.treeCheck root n i leaf path=((CH.upF leaf n n i (path,false)).1==root&&(!(CH.upF leaf n n i (path,false)).2.2&&(CH.upF leaf n n i (path,false)).2.1.isEmpty)):=by unfold CH.treeCheck;rw [hall];rfl
  have HE:=hid e
  have HS2:=hid hS2
  clear e hS hO hG1 hb1 hb2 hbA HV hall hS2
  obtain⟨hbU,hEnv,hPf⟩:=upWorld_env w2 w1.heap.size w.heap.size leaf path _ (by omega) (by omega) hLeaf hLc hLf HS2.out
  have hGU:=hG2.below hbU
  have HU:=hid (And.intro hEnv hPf)
  have HGU:=hid hGU
  clear hEnv hPf hGU hG2 HS2
  go_wp2_with fail
  refine (up_any w1.heap.size w2.heap.size w.heap.size (w2.heap.size+1) (w2.heap.size+1+1) leaf hleaf n n i (path,false) (C7 w2 w1.heap.size w.heap.size) (by omega) hi nR hn HGU.out (by omega) HD.out HU.out.1 HU.out.2).mono ?_
  rintro e w4 ⟨rfl,hk4,hP4⟩
  have hb4:Below w.heap.size (C7 w2 w1.heap.size w.heap.size) w4:=hk4.below (by have:=hbU.size;omega) (fun k e=>by omega)
  have hE4:=HU.out.1.keep (by omega) hk4
  have hc4:=hE4.c4
  have hbF:=(hbW.trans (hbU.mono (by omega))).trans hb4
  generalize CH.upF leaf n n i (path,false)=r at *
  have HP:=hid hP4
  clear hP4 hE4 hb4 hk4 HU HGU hbU hbW
  rcases heq:(r.1==root) with _|_
  ·have HB:Hid (CH.treeCheck root n i leaf path=false):=by rw [HE.out,heq];exact rfl
   clear HE HP
   go_wp2
   go_ret
   exact⟨by rw [HB.out];rfl,hbF⟩
  ·have HB:Hid (CH.treeCheck root n i leaf path=(!r.2.2&&r.2.1.isEmpty)):=by rw [HE.out,heq];exact rfl
   clear HE
   go_wp2_with fail
   refine (done_any _ _ w4 r.2 HP.out).mono ?_
   rintro e w5 ⟨rfl,rfl⟩
   generalize (!r.2.2&&r.2.1.isEmpty)=z at HB ⊢
   go_wp2
   go_ret
   exact⟨by rw [HB.out];rfl,hbF⟩
end
end Go.Proofs.YtjepldaciejieaaGreatDoor
namespace CH
section
def start (secret:List UInt8) (i k:Nat):List UInt8:=dl [secret,Go.Lib.itoa i,Go.Lib.itoa k]
def otKey (secret:List UInt8) (i:Nat):List UInt8:=dl ((List.range 18).map fun k=>chain 15 (start secret i k))
def keys (secret:List UInt8) (h:Nat):List (List UInt8):=(List.range (2 ^ h)).map (otKey secret)
def pub (secret:List UInt8) (h:Nat):List UInt8:=root (keys secret h)
def hexVal (c:UInt8):Nat:=if c.toNat<97 then c.toNat - 48 else c.toNat - 87
def digits (m:List UInt8):List Nat :=
 let d:=(sum m).map hexVal
 let rest:=(d.map fun x=>15 - x).sum
 d++[rest / 16,rest % 16]
def sig (secret:List UInt8) (i:Nat) (m:List UInt8):List (List UInt8) :=
 ((digits m).zipIdx).map fun x=>chain x.1 (start secret i x.2)
def ends (s:List (List UInt8)) (m:List UInt8):List (List UInt8) :=
 ((digits m).zip s).map fun x=>chain (15 - x.1) x.2
theorem length_start (secret:List UInt8) (i k:Nat):(start secret i k).length=16:=length_dl _
theorem length_otKey (secret:List UInt8) (i:Nat):(otKey secret i).length=16:=length_dl _
theorem length_keys (secret:List UInt8) (h:Nat):(keys secret h).length=2 ^ h:=by simp [keys]
theorem length_chain (n:Nat) (l:List UInt8) (h:l.length=16):(chain n l).length=16:=by
 cases n with
 | zero=>exact h
 | succ n=>rw [chain_succ'];exact length_sum _
theorem hexVal_digit (n:Nat) (h:n<16):hexVal (hexDigit n)=n:=by
 have:∀ k:Fin 16,hexVal (hexDigit k.val)=k.val:=by decide +kernel
 exact this ⟨n,h⟩
def hexVals:Nat→Nat→List Nat
 | 0,_=>[]
 | k+1,n=>hexVals k (n / 16)++[n % 16]
theorem hexK_vals (k n:Nat):(hexK k n).map hexVal=hexVals k n:=by
 induction k generalizing n with
 | zero=>rfl
 | succ k ih=>simp only [hexK,hexVals,List.map_append,ih,List.map_cons,List.map_nil,hexVal_digit _ (Nat.mod_lt n (by decide:0<16))]
theorem hexVals_lt (k n:Nat):∀ x∈hexVals k n,x≤15:=by
 induction k generalizing n with
 | zero=>simp [hexVals]
 | succ k ih =>
  intro x hx
  rcases List.mem_append.1 hx with h|h
  ·exact ih _ x h
  ·simp at h;omega
def dig16 (m:List UInt8):List Nat:=(sum m).map hexVal
theorem length_dig16 (m:List UInt8):(dig16 m).length=16:=by simp [dig16,length_sum]
theorem dig16_le (m:List UInt8):∀ x∈dig16 m,x≤15:=by
 unfold dig16 sum;rw [hexK_vals];exact hexVals_lt _ _
def lack (m:List UInt8) (k:Nat):Nat:=(((dig16 m).take k).map fun x=>15 - x).sum
theorem sum_le_of {l:List Nat} {c:Nat} (h:∀ x∈l,x≤c):l.sum≤l.length*c:=by
 induction l with
 | nil=>simp
 | cons x r ih =>
  have h1:=h x (by simp)
  have h2:=ih (fun y hy=>h y (by simp [hy]))
  simp only [List.sum_cons,List.length_cons]
  rw [Nat.add_mul]
  omega
theorem lack_le (m:List UInt8) (k:Nat):lack m k≤240:=by
 have h:=sum_le_of (l:=((dig16 m).take k).map fun x=>15 - x) (c:=15) (by intro x hx;obtain⟨y,_,rfl⟩:=List.mem_map.1 hx;omega)
 have hl:(((dig16 m).take k).map fun x=>15 - x).length≤16:=by
  rw [List.length_map,List.length_take,length_dig16];omega
 unfold lack
 have:=Nat.mul_le_mul_right 15 hl
 omega
theorem lack_succ (m:List UInt8) (k d:Nat) (h:(dig16 m)[k]?=some d):lack m (k+1)=lack m k+(15 - d):=by
 unfold lack
 rw [take_snoc_at _ _ _ h,List.map_append,List.sum_append]
 simp
theorem digits_eq (m:List UInt8):digits m=dig16 m++[lack m 16 / 16,lack m 16 % 16]:=by
 have:lack m 16=((dig16 m).map fun x=>15 - x).sum:=by
  unfold lack
  rw [List.take_of_length_le (by rw [length_dig16];exact Nat.le_refl _)]
 rw [this]
 rfl
theorem length_digits (m:List UInt8):(digits m).length=18:=by rw [digits_eq];simp [length_dig16]
theorem digits_le (m:List UInt8):∀ x∈digits m,x≤15:=by
 intro x hx
 rw [digits_eq] at hx
 have:=lack_le m 16
 rcases List.mem_append.1 hx with h|h
 ·exact dig16_le m x h
 ·simp at h;omega
def dpairs (m:List UInt8):List (Fin 18 × Fin 16):=(List.finRange 18).map fun i=>(i,Fin.ofNat 16 ((digits m).getD i.val 0))
theorem dpairs_at (m:List UInt8) (k d:Nat) (hk:k<18) (h:(digits m)[k]?=some d):∃ hd:d<16,(dpairs m)[k]?=some (⟨k,hk⟩,⟨d,hd⟩):=by
 have hd:d<16:=by have:=digits_le m d (List.mem_of_getElem? h);omega
 refine⟨hd,?_⟩
 unfold dpairs
 rw [List.getElem?_map,List.getElem?_eq_getElem (by simpa using hk)]
 have e:(digits m).getD k 0=d:=by simp [h]
 simp only [List.getElem_finRange,Option.map_some,Option.some.injEq,Prod.mk.injEq,Fin.cast_mk,true_and]
 apply Fin.ext
 show (digits m).getD k 0 % 16=d
 rw [e];omega
theorem length_dpairs (m:List UInt8):(dpairs m).length=18:=by simp [dpairs]
def cls (c:UInt8):Nat :=
 if (97≤c.toNat∧c.toNat≤122)∨(65≤c.toNat∧c.toNat≤90) then 3
 else if 48≤c.toNat∧c.toNat≤57 then 4
 else if c.toNat=95 then 5
 else if c.toNat=32∨c.toNat=9∨c.toNat=10 then 1
 else if c.toNat=35 then 2
 else if c.toNat=34 then 6
 else if c.toNat=33 then 7
 else if c.toNat=60∨c.toNat=62 then 8
 else if c.toNat∈[59,44,46,58,40,41,91,93,123,125,61,43,45] then 9
 else 0
def clsAt (s:List UInt8) (i:Nat):Nat:=match s[i]? with|none=>0|some c=>cls c
def whil (s:List UInt8) (set:List Nat) (i:Nat):Nat:=i+((s.drop i).takeWhile fun c=>set.contains (cls c)).length
theorem clsAt_lt (s:List UInt8) (i:Nat) (c:UInt8) (h:s[i]?=some c):clsAt s i=cls c:=by unfold clsAt;rw [h]
theorem clsAt_ge (s:List UInt8) (i:Nat) (h:s.length≤i):clsAt s i=0:=by unfold clsAt;rw [List.getElem?_eq_none h]
theorem drop_at (s:List UInt8) (i:Nat) (c:UInt8) (h:s[i]?=some c):s.drop i=c::s.drop (i+1):=by
 obtain⟨hi,e⟩:=List.getElem?_eq_some_iff.1 h
 rw [← e];exact List.drop_eq_getElem_cons hi
theorem whil_go (s:List UInt8) (set:List Nat) (i:Nat) (hi:i<s.length) (h:set.contains (clsAt s i)=true):whil s set i=whil s set (i+1):=by
 have hg:=List.getElem?_eq_getElem hi
 rw [clsAt_lt s i _ hg] at h
 unfold whil
 rw [drop_at s i _ hg,List.takeWhile_cons,if_pos h]
 simp;omega
theorem whil_stop (s:List UInt8) (set:List Nat) (i:Nat) (h:s.length≤i∨set.contains (clsAt s i)=false):whil s set i=i:=by
 unfold whil
 by_cases hi:i<s.length
 ·have hg:=List.getElem?_eq_getElem hi
  rcases h with h|h
  ·omega
  ·rw [clsAt_lt s i _ hg] at h
   rw [drop_at s i _ hg,List.takeWhile_cons,if_neg (by rw [h];decide)]
   simp
 ·rw [List.drop_eq_nil_of_le (by omega)];simp
theorem whil_ge (s:List UInt8) (set:List Nat) (i:Nat):i≤whil s set i:=Nat.le_add_right _ _
theorem whil_le (s:List UInt8) (set:List Nat) (i:Nat) (h:i≤s.length):whil s set i≤s.length:=by
 unfold whil
 have:=(List.takeWhile_sublist (fun c=>set.contains (cls c)) (l:=s.drop i)).length_le
 rw [List.length_drop] at this
 omega
def gapF (s:List UInt8):Nat→Nat→Nat
 | 0,i=>i
 | f+1,i =>
  if clsAt s (whil s [1] i)=2 then
   match (s.drop (whil s [1] i)).findIdx? (·==10) with
   | none=>s.length
   | some n=>gapF s f (whil s [1] i+n)
  else whil s [1] i
def gap (s:List UInt8) (i:Nat):Nat:=gapF s (s.length+1 - i) i
structure Tok where
 kind:Nat
 pos:Nat
 n:Nat
 text:List UInt8
deriving DecidableEq
def dec (l:List UInt8):Nat:=l.foldl (fun n c=>n*10+(c.toNat - 48)) 0
def next (s:List UInt8) (i:Nat):Except Nat (Tok × Nat) :=
 if clsAt s i=3 then
  if whil s [3,4,5] i - i > 24 then .error 2 else .ok (⟨1,i,0,(s.drop i).take (whil s [3,4,5] i - i)⟩,whil s [3,4,5] i)
 else if clsAt s i=4 then
  if whil s [4] i - i > 13∨clsAt s (whil s [4] i)=3∨clsAt s (whil s [4] i)=5 then .error 4
  else .ok (⟨2,i,dec ((s.drop i).take (whil s [4] i - i)),(s.drop i).take (whil s [4] i - i)⟩,whil s [4] i)
 else if clsAt s i=6 then
  match (s.drop (i+1)).findIdx? (fun c=>c==34||c==10) with
  | none=>.error 6
  | some n=>if (s.drop (i+1))[n]?=some 10 then .error 6 else if n > 400 then .error 2 else .ok (⟨3,i,0,(s.drop (i+1)).take n⟩,i+n+2)
 else if clsAt s i=7∨clsAt s i=8 then
  if s[i+1]?=some 61 then .ok (⟨4,i,0,(s.drop i).take 2⟩,i+2)
  else if clsAt s i=7 then .error 3 else .ok (⟨4,i,0,(s.drop i).take 1⟩,i+1)
 else if clsAt s i=9 then .ok (⟨4,i,0,(s.drop i).take 1⟩,i+1)
 else .error 3
theorem gapF_ge (s:List UInt8):∀ f i,i≤gapF s f i∨gapF s f i=s.length:=by
 intro f
 induction f with
 | zero=>intro i;left;exact Nat.le_refl _
 | succ f ih =>
  intro i
  have hw:=whil_ge s [1] i
  unfold gapF
  split
  ·split
   ·right;rfl
   ·rename_i n _
    rcases ih (whil s [1] i+n) with h|h
    ·left;omega
    ·right;exact h
  ·left;exact hw
theorem gapF_le (s:List UInt8):∀ f i,i≤s.length→gapF s f i≤s.length:=by
 intro f
 induction f with
 | zero=>intro i h;exact h
 | succ f ih =>
  intro i h
  have hw:=whil_le s [1] i h
  unfold gapF
  split
  ·split
   ·exact Nat.le_refl _
   ·rename_i n hn
    have:=(List.findIdx?_eq_some_iff_getElem.1 hn).1
    rw [List.length_drop] at this
    exact ih _ (by omega)
  ·exact hw
theorem gap_ge (s:List UInt8) (i:Nat) (h:i≤s.length):i≤gap s i:=by
 rcases gapF_ge s (s.length+1 - i) i with h1|h1
 ·exact h1
 ·unfold gap;omega
theorem gap_le (s:List UInt8) (i:Nat) (h:i≤s.length):gap s i≤s.length:=gapF_le s _ i h
theorem gapF_fuel (s:List UInt8):∀ f g i,i≤s.length→s.length<f+i→s.length<g+i→gapF s f i=gapF s g i:=by
 intro f
 induction f with
 | zero=>intro g i h h1;omega
 | succ f ih =>
  intro g i h h1 h2
  cases g with
  | zero=>omega
  | succ g =>
   have hw:=whil_ge s [1] i
   have hl:=whil_le s [1] i h
   show (if _ then _ else _)=(if _ then _ else _)
   by_cases hc:clsAt s (whil s [1] i)=2
   ·rw [if_pos hc,if_pos hc]
    cases hf:(s.drop (whil s [1] i)).findIdx? (·==10) with
    | none=>rfl
    | some n =>
     show gapF s f _=gapF s g _
     obtain⟨hn,hb,_⟩:=List.findIdx?_eq_some_iff_getElem.1 hf
     rw [List.length_drop] at hn
     have hn0:n≠0:=by
      intro e
      subst e
      have hlt:whil s [1] i<s.length:=by omega
      have hg:=List.getElem?_eq_getElem hlt
      rw [clsAt_lt s _ _ hg] at hc
      have:s[whil s [1] i]=10:=by simpa using hb
      rw [this] at hc
      exact absurd hc (by decide)
     exact ih g _ (by omega) (by omega) (by omega)
   ·rw [if_neg hc,if_neg hc]
theorem gap_stop (s:List UInt8) (i:Nat) (h:i≤s.length) (hc:clsAt s (whil s [1] i)≠2):gap s i=whil s [1] i:=by
 unfold gap
 obtain⟨f,e⟩:∃ f,s.length+1 - i=f+1:=⟨s.length - i,by omega⟩
 rw [e];unfold gapF;rw [if_neg hc]
theorem gap_none (s:List UInt8) (i:Nat) (h:i≤s.length) (hc:clsAt s (whil s [1] i)=2) (hf:(s.drop (whil s [1] i)).findIdx? (·==10)=none):gap s i=s.length:=by
 unfold gap
 obtain⟨f,e⟩:∃ f,s.length+1 - i=f+1:=⟨s.length - i,by omega⟩
 rw [e];unfold gapF;rw [if_pos hc,hf]
theorem gap_some (s:List UInt8) (i n:Nat) (h:i≤s.length) (hc:clsAt s (whil s [1] i)=2) (hf:(s.drop (whil s [1] i)).findIdx? (·==10)=some n) :
  gap s i=gap s (whil s [1] i+n)∧i<whil s [1] i+n∧whil s [1] i+n<s.length:=by
 have hw:=whil_ge s [1] i
 obtain⟨hn,hb,_⟩:=List.findIdx?_eq_some_iff_getElem.1 hf
 rw [List.length_drop] at hn
 have hn0:n≠0:=by
  intro e
  subst e
  have hlt:whil s [1] i<s.length:=by omega
  have hg:=List.getElem?_eq_getElem hlt
  rw [clsAt_lt s _ _ hg] at hc
  have:s[whil s [1] i]=10:=by simpa using hb
  rw [this] at hc
  exact absurd hc (by decide)
 refine⟨?_,by omega,by omega⟩
 unfold gap
 obtain⟨f,e⟩:∃ f,s.length+1 - i=f+1:=⟨s.length - i,by omega⟩
 have:gapF s (f+1) i=gapF s f (whil s [1] i+n):=by
  conv=>lhs;unfold gapF
  rw [if_pos hc,hf]
 rw [e,this]
 exact gapF_fuel s _ _ _ (by omega) (by omega) (by omega)
def lexF (s:List UInt8):Nat→Nat→List Tok→Except (Nat × Nat) (List Tok)
 | 0,_,out=>.ok out
 | f+1,i,out =>
  if i<s.length then
   match next s i with
   | .error e=>.error (e,i)
   | .ok (t,j)=>if out.length=5000 then .error (2,i) else lexF s f (gap s j) (out++[t])
  else .ok out
def lex (s:List UInt8):Except (Nat × Nat) (List Tok):=lexF s (s.length+1) (gap s 0) []
theorem next_ok (s:List UInt8) (i:Nat) (hi:i<s.length) (t:Tok) (j:Nat) (h:next s i=.ok (t,j)):i<j∧j≤s.length:=by
 have h3:clsAt s i=3→i<whil s [3,4,5] i:=fun e=>by
  rw [whil_go s _ i hi (by rw [e];rfl)];exact whil_ge _ _ _
 have h4:clsAt s i=4→i<whil s [4] i:=fun e=>by
  rw [whil_go s _ i hi (by rw [e];rfl)];exact whil_ge _ _ _
 have l3:=whil_le s [3,4,5] i (by omega)
 have l4:=whil_le s [4] i (by omega)
 unfold next at h
 split at h
 ·rename_i e
  split at h
  ·cases h
  ·cases h;exact⟨h3 e,l3⟩
 split at h
 ·rename_i e
  split at h
  ·cases h
  ·cases h;exact⟨h4 e,l4⟩
 split at h
 ·split at h
  ·cases h
  ·rename_i n hn
   obtain⟨hn,_⟩:=List.findIdx?_eq_some_iff_getElem.1 hn
   rw [List.length_drop] at hn
   split at h
   ·cases h
   split at h
   ·cases h
   ·cases h;omega
 split at h
 ·split at h
  ·rename_i e
   have:=(List.getElem?_eq_some_iff.1 e).1
   cases h;omega
  ·split at h
   ·cases h
   ·cases h;omega
 split at h
 ·cases h;omega
 ·cases h
def ident (s:List UInt8):Bool :=
 decide (s.length≤20000)&&(match lex s with
  | .ok [t]=>t.kind==1&&t.text==s
  | _=>false)
abbrev Str:=List UInt8
structure Name where
 script:Int
 words:List Str
structure Entry where
 id:Str
 names:List Name
structure Change where
 kind:Int
 id:Str
 entry:Entry
 pos:Int
inductive Formula where
 | mk (op:Int) (name:Str) (cmp n:Int) (kids:List Formula)
structure Measure where
 id:Str
 authority:Str
 kind:Int
 target:Str
 when_:Formula
 start:Int
 until_:Int
 wind:Int
structure Licence where
 id:Str
 measures:List Str
 parties:List Str
 quota:Int
 uses:Int
 start:Int
 until_:Int
structure Holding where
 id:Str
 company:Str
 holder:Str
 nominee:Str
 pledged:Str
 joint:List Str
 capital:Int
 votes:Int
 start:Int
 stop:Int
structure Act where
 kind:Int
 change:Change
 measure:Measure
 licence:Licence
 holding:Holding
 id:Str
 n:Int
structure Seal where
 index:Int
 sig:List Str
 path:List Str
structure Version where
 authority:Int
 number:Int
 pos:Int
 prev:Str
 acts:List Act
 sel:Seal
def isIn (s:Str) (i:Nat) (set:Str):Bool:=match s[i]? with|none=>false|some c=>set.contains c
def smalls:Str:=([97,98,99,100,101,102,103,104,105,106,107,108,109,110,111,112,113,114,115,116,117,118,119,120,121,122]:List UInt8)
def isLetter0 (s:Str):Bool:=match s[0]? with|none=>false|some c=>smalls.contains c||smalls.contains (c+32)&&decide (65≤c.toNat)&&decide (c.toNat≤90)
def slen (script:Int) (s:Str):Nat :=
 if script=1 then (if isIn s 0 smalls then 1 else 0)
 else if script=2 then (if isLetter0 s then (if isIn s 1 [39,96,94] then 2 else 1) else 0)
 else if script=3 then (if isIn s 0 ([98,100,102,103,104,106,107,108,109,110,112,113,114,115,116,119,120,121,122,39]:List UInt8) then 1 else 0)
 else if script=4 then
  (if isIn s 0 ([107,115,116,110,104,109,121,114,119,103,122,100,98,112]:List UInt8)&&isIn s 1 ([97,105,117,101,111]:List UInt8) then 2 else if isIn s 0 ([97,105,117,101,111]:List UInt8)||isIn s 0 [110] then 1 else 0)
 else 0
def letters (script:Int):Nat→Str→List Str × Str
 | 0,s=>([],s)
 | f+1,s=>if slen script s=0 then ([],s) else
   ((s.take (slen script s))::(letters script f (s.drop (slen script s))).1,(letters script f (s.drop (slen script s))).2)
def wordOk (script:Int) (s:Str):Bool :=
 (letters script 13 s).2==[]&&!((letters script 13 s).1==[])&&decide ((letters script 13 s).1.length≤12)
def nameOk (n:Name):Bool:=n.words.all (wordOk n.script)&&(decide (0<n.words.length)&&decide (n.words.length≤6))
def title (k:Int):Str:=if k=1 then ([112,108,97,105,110]:List UInt8) else if k=2 then ([99,97,115,101,100]:List UInt8) else if k=3 then ([97,98,106,97,100]:List UInt8) else if k=4 then ([115,121,108,108,97,98]:List UInt8) else []
def join (sep:Str):List Str→Str
 | []=>[]
 | [x]=>x
 | x::y::l=>x++sep++join sep (y::l)
def nameText (n:Name):Str:=title n.script++[58]++join [32] n.words
def isInstant (t:Int):Bool:=decide (0≤t)&&decide (t≤144001439)
def entryOk (e:Entry):Bool:=ident e.id&&(decide (0<e.names.length)&&(decide (e.names.length≤8)&&!(e.names.any fun n=>!nameOk n)))
def changeOk (c:Change):Bool :=
 let entry:=c.kind==1||c.kind==3
 let dated:=c.kind==1||c.kind==2
 if !ident c.id||decide (c.kind<1)||decide (c.kind > 4) then false
 else if entry&&(c.entry.id != c.id||!entryOk c.entry) then false
 else if !entry&&(c.entry.id != []||decide (0<c.entry.names.length)) then false
 else dated&&isInstant c.pos||!dated&&c.pos==0
def kindWord (k:Int):Str:=if k=1 then ([97,100,100]:List UInt8) else if k=2 then ([114,101,109,111,118,101]:List UInt8) else if k=3 then ([99,111,114,114,101,99,116]:List UInt8) else if k=4 then ([118,111,105,100]:List UInt8) else []
def changeText (c:Change):Option Str :=
 if changeOk c then
  some (join [32] ([kindWord c.kind,c.id]++(if c.kind==1||c.kind==2 then [Go.Lib.itoa c.pos] else [])++c.entry.names.map (fun n=>[34]++nameText n++[34]))++[59])
 else none
def isKey (s:Str):Bool:=[([111,114]:List UInt8),([97,110,100]:List UInt8),([110,111,116]:List UInt8),([116,114,117,101]:List UInt8),([102,97,108,115,101]:List UInt8)].contains s
def nodeOk (op:Int) (name:Str) (cmp n:Int) (kids:Nat):Bool :=
 if op=3 then kids==0&&(decide (1≤cmp)&&(decide (cmp≤6)&&(ident name&&!isKey name)))
 else if name != []||cmp != 0||n != 0 then false
 else if op=1∨op=2 then kids==0
 else if op=4 then kids==1
 else (op==5||op==6)&&decide (2≤kids)
mutual
def Formula.count:Formula→Nat
 | .mk _ _ _ _ kids=>1+countAll kids
def countAll:List Formula→Nat
 | []=>0
 | f::l=>f.count+countAll l
end
mutual
def Formula.depth:Formula→Nat
 | .mk _ _ _ _ kids=>1+depthAll kids
def depthAll:List Formula→Nat
 | []=>0
 | f::l=>max f.depth (depthAll l)
end
mutual
def Formula.ok:Formula→Bool
 | .mk op name cmp n kids=>nodeOk op name cmp n kids.length&&!(op==3&&(decide (n<0)||decide (n > 1000000)||isKey name))&&okAll kids
def okAll:List Formula→Bool
 | []=>true
 | f::l=>f.ok&&okAll l
end
def cmpWord (k:Int):Str:=if k=1 then ([61]:List UInt8) else if k=2 then ([33,61]:List UInt8) else if k=3 then ([60]:List UInt8) else if k=4 then ([60,61]:List UInt8) else if k=5 then ([62]:List UInt8) else if k=6 then ([62,61]:List UInt8) else []
def Formula.op:Formula→Int|.mk op _ _ _ _=>op
def Formula.name:Formula→Str|.mk _ name _ _ _=>name
def Formula.cmp:Formula→Int|.mk _ _ cmp _ _=>cmp
def Formula.n:Formula→Int|.mk _ _ _ n _=>n
def Formula.kids:Formula→List Formula|.mk _ _ _ _ kids=>kids
mutual
def Formula.text:Formula→Str
 | .mk op name cmp n kids =>
  if op=1 then ([116,114,117,101]:List UInt8) else if op=2 then ([102,97,108,115,101]:List UInt8)
  else if op=3 then name++[32]++cmpWord cmp++[32]++Go.Lib.itoa n
  else if op=4 then ([110,111,116,32]:List UInt8)++((textAll op kids)[0]?.getD [])
  else if op=5 then join ([32,97,110,100,32]:List UInt8) (textAll op kids)
  else join ([32,111,114,32]:List UInt8) (textAll op kids)
def textAll (op:Int):List Formula→List Str
 | []=>[]
 | f::l=>(if f.op==6||f.op==5&&op != 6 then [40]++f.text++[41] else f.text)::textAll op l
end
def formulaText (f:Formula):Option Str :=
 if decide (f.count > 200)||decide (f.depth > 20) then none else if f.ok then some f.text else none
def letterB (c:UInt8):Bool:=(decide (97≤c.toNat)&&decide (c.toNat≤122))||(decide (65≤c.toNat)&&decide (c.toNat≤90))
def tailB (c:UInt8):Bool:=letterB c||((decide (48≤c.toNat)&&decide (c.toNat≤57))||c==95)
def isName (s:Str):Bool :=
 match s with
 | []=>false
 | c::l=>letterB c&&l.all tailB&&decide (s.length≤24)
def letterM (c:UInt8):Bool:=decide (97≤(c ||| 32).toNat)&&decide ((c ||| 32).toNat≤122)
def tailM (c:UInt8):Bool:=letterM c||((decide (48≤c.toNat)&&decide (c.toNat≤57))||c==95)
def isNameM (s:Str):Bool :=
 match s with
 | []=>false
 | c::l=>letterM c&&l.all tailM&&decide (s.length≤24)
def measureNamed (m:Measure):Bool :=
 let ok:=isNameM m.id&&isNameM m.authority
 if m.kind=1 then ok&&m.target==[]
 else if m.kind=2 then ok&&(isNameM m.target&&m.target != m.id)
 else if m.kind=3 then ok&&(isNameM m.target&&m.target != m.authority)
 else false
def measureDated (m:Measure):Bool :=
 let u:=m.until_==-1||decide (m.until_ > m.start)&&decide (m.until_≤100000)
 decide (m.start ≥ 0)&&(decide (m.start≤100000)&&(u&&(decide (m.wind ≥ 0)&&decide (m.wind≤if m.kind=1 then 400 else 0))))
def measureWord (k:Int):Str:=if k=1 then ([102,111,114,98,105,100]:List UInt8) else if k=2 then ([101,120,101,109,112,116]:List UInt8) else if k=3 then ([98,108,111,99,107]:List UInt8) else []
def measureText (m:Measure):Option Str :=
 match formulaText m.when_ with
 | none=>none
 | some t =>
  if measureNamed m&&measureDated m then
   some (join [32] ([measureWord m.kind]++(if m.target != [] then [m.target] else [])++[m.id,([111,102]:List UInt8),m.authority] ++
    (if m.when_.op != 1 then [([105,102]:List UInt8),t] else [])++[([102,114,111,109]:List UInt8),Go.Lib.itoa m.start]++(if m.until_ ≥ 0 then [([117,110,116,105,108]:List UInt8),Go.Lib.itoa m.until_] else []) ++
    (if m.wind > 0 then [([119,105,110,100]:List UInt8),Go.Lib.itoa m.wind] else []))++[59])
  else none
def measureZero (m:Measure):Bool :=
 [m.id,m.authority,m.target,Go.Lib.itoa m.kind,Go.Lib.itoa m.start,Go.Lib.itoa m.until_,Go.Lib.itoa m.wind]==[[],[],[],[48],[48],[48],[48]] &&
  (m.when_.op==0&&m.when_.name==[]&&m.when_.cmp==0&&m.when_.n==0&&m.when_.kids.length==0)
def Dx:List Str→Bool
 | []=>true
 | x::l=>!l.contains x&&Dx l
def namesOk (l:List Str):Bool:=l.all isName&&Dx l
def within (n most:Int):Bool:=decide (0≤n)&&decide (n≤most)
def licenceOk (l:Licence):Bool :=
 let lists:=namesOk l.measures&&namesOk l.parties&&(decide (0<l.measures.length)&&decide (l.measures.length≤12)&&decide (l.parties.length≤60))
 isName l.id&&lists&&within l.quota 1000000000&&within l.uses 1000&&within l.start 144001439&&within l.until_ 144001439&&decide (l.start<l.until_)
def holdingOk (h:Holding):Bool :=
 isName h.id&&isName h.company&&isName h.holder&&(h.nominee==[]||isName h.nominee)&&(h.pledged==[]||isName h.pledged)&&decide (h.joint.length≤4) &&
  !(h.nominee != []&&decide (0<h.joint.length))&&(h.joint.all isName&&Dx (h.holder::h.joint)) &&
  !((h.holder::h.joint).contains h.company||h.company==h.nominee||!within h.capital 100||!within h.votes 100) &&
  (within h.start 100000&&(h.stop==-1||within h.stop 100000&&decide (h.stop > h.start)))
inductive Word where
 | int (n:Int)
 | str (s:Str)
 | strs (l:List Str)
def Word.texts:Word→List Str
 | .int n=>if n = -1 then [[45]] else [Go.Lib.itoa n]
 | .str s=>[if s=[] then [45] else s]
 | .strs l=>l
def words (l:List Word):Str:=join [32] (l.flatMap Word.texts)
def dirtyChange (c:Change):Bool:=c.kind != 0||c.id != []||c.pos != 0||c.entry.id != []||decide (0<c.entry.names.length)
def dirtyLicence (l:Licence):Bool:=l.id != []||decide (0<l.measures.length)||decide (0<l.parties.length)||l.quota != 0||l.uses != 0||l.start != 0||l.until_ != 0
def dirtyHolding (h:Holding):Bool:=h.id != []||h.company != []||h.holder != []||h.nominee != []||h.pledged != []||decide (0<h.joint.length)||h.capital != 0||h.votes != 0||h.start != 0||h.stop != 0
def unused (a:Act):Bool :=
 let used:=if a.kind=3∨a.kind=5 then 7 else a.kind
 !(dirtyChange a.change&&(1:Int) != used)&&!(!measureZero a.measure&&(2:Int) != used)&&!(dirtyLicence a.licence&&(4:Int) != used)&&!(dirtyHolding a.holding&&(6:Int) != used)&&!((a.id != []||a.n != 0)&&(7:Int) != used)
def endWord (k:Int):Str:=if k=5 then ([114,101,118,111,107,101]:List UInt8) else if k=3 then ([114,101,112,101,97,108]:List UInt8) else if k=7 then ([101,110,100]:List UInt8) else []
def actText (a:Act):Option Str :=
 if !unused a then none
 else if a.kind=1 then (changeText a.change).map (([99,104,97,110,103,101,32]:List UInt8)++·)
 else if a.kind=2 then (measureText a.measure).map (([109,101,97,115,117,114,101,32]:List UInt8)++·)
 else if a.kind=4 then
  if licenceOk a.licence then
   some (words [.str ([108,105,99,101,110,99,101]:List UInt8),.str a.licence.id,.int a.licence.quota,.int a.licence.uses,.int a.licence.start,.int a.licence.until_,.int a.licence.measures.length,.strs a.licence.measures,.strs a.licence.parties]++[59])
  else none
 else if a.kind=6 then
  if holdingOk a.holding then
   some (words [.str ([104,111,108,100,105,110,103]:List UInt8),.str a.holding.id,.str a.holding.company,.str a.holding.holder,.str a.holding.nominee,.str a.holding.pledged,.int a.holding.capital,.int a.holding.votes,.int a.holding.start,.int a.holding.stop,.strs a.holding.joint]++[59])
  else none
 else if a.kind=5∨a.kind=3∨a.kind=7 then
  if ident a.id&&within a.n (if a.kind=5 then 144001439 else 100000) then some (words [.str (endWord a.kind),.str a.id,.int a.n]++[59]) else none
 else none
def allActs:List Act→Option Str
 | []=>some []
 | a::l=>match actText a with
  | none=>none
  | some t=>(allActs l).map (t++[10]++·)
def bare (v:Version):Option Str :=
 if !(within v.authority 5&&(decide (1≤v.number)&&decide (v.number≤200))&&isInstant v.pos&&decide (v.acts.length≤40))||((v.number==1) != (v.prev==[]))||(v.prev != []&&!isDigest v.prev) then none
 else (allActs v.acts).map (words [.str ([118,101,114,115,105,111,110]:List UInt8),.int v.authority,.int v.number,.int v.pos,.str v.prev]++[10]++·)
def digests (l:List Str) (most:Nat):Bool:=decide (l.length≤most)&&!(l.any fun s=>!isDigest s)
def vText (v:Version):Except Int Str :=
 match bare v with
 | none=>.error 1
 | some s =>
  if within v.sel.index 255&&digests v.sel.sig 18&&digests v.sel.path 8 then
   let t:=s++words [.str ([115,101,97,108]:List UInt8),.int v.sel.index,.strs v.sel.sig,.str [47],.strs v.sel.path]++[10]
   if t.length > 20000 then .error 2 else .ok t
  else .error 1
theorem beq_toNat (a b:UInt8):(a==b)=decide (a.toNat=b.toNat):=by
 by_cases h:a=b
 ·subst h;simp
 ·rw [beq_eq_false_iff_ne.2 h,decide_eq_false (fun e=>h (UInt8.toNat_inj.1 e))]
theorem cls_four (c:UInt8) (h:cls c=4):48≤c.toNat∧c.toNat≤57:=by
 unfold cls at h
 split at h
 ·cases h
 split at h
 ·assumption
 ·exfalso
  repeat (split at h;· cases h)
  cases h
theorem whil_mem (s:List UInt8) (set:List Nat) (i:Nat):∀ c∈(s.drop i).take (whil s set i - i),set.contains (cls c)=true:=by
 intro c hc
 unfold whil at hc
 rw [Nat.add_sub_cancel_left] at hc
 have:(s.drop i).take ((s.drop i).takeWhile fun c=>set.contains (cls c)).length=(s.drop i).takeWhile fun c=>set.contains (cls c):=by
  rw [← List.prefix_iff_eq_take.1 (List.takeWhile_prefix _)]
 rw [this] at hc
 exact List.all_eq_true.1 List.all_takeWhile c hc
def upTo (a t:UInt8→Bool) (s:List UInt8) (k:Nat):Bool:=(List.range k).all fun j=>match s[j]? with|none=>true|some c=>if j=0 then a c else t c
theorem upTo_zero (a t:UInt8→Bool) (s:List UInt8):upTo a t s 0=true:=rfl
theorem upTo_succ (a t:UInt8→Bool) (s:List UInt8) (k:Nat) (c:UInt8) (h:s[k]?=some c):upTo a t s (k+1)=(upTo a t s k&&(if k=0 then a c else t c)):=by
 unfold upTo
 rw [List.range_succ,List.all_append]
 simp [h]
theorem upTo_cons (a t:UInt8→Bool) (c:UInt8) (l:List UInt8):upTo a t (c::l) (l.length+1)=(a c&&l.all t):=by
 unfold upTo
 rw [List.range_succ_eq_map,List.all_cons,List.all_map]
 congr 1
 have:(List.range l.length).all ((fun j=>match (c::l)[j]? with|none=>true|some c=>if j=0 then a c else t c) ∘ Nat.succ)=(List.range l.length).all fun j=>match l[j]? with|none=>true|some c=>t c:=by
  apply List.all_congr rfl
  intro j
  simp
 rw [this]
 clear this
 apply Bool.eq_iff_iff.2
 rw [List.all_eq_true,List.all_eq_true]
 constructor
 ·intro h x hx
  obtain⟨j,hj,e⟩:=List.getElem_of_mem hx
  have:=h j (List.mem_range.2 hj)
  rw [List.getElem?_eq_getElem hj,e] at this
  exact this
 ·intro h j hj
  rw [List.mem_range] at hj
  rw [List.getElem?_eq_getElem hj]
  exact h _ (List.getElem_mem hj)
theorem upTo_false (a t:UInt8→Bool) (s:List UInt8) (k:Nat) (c:UInt8) (h:s[k]?=some c) (hc:(if k=0 then a c else t c)=false):upTo a t s s.length=false:=by
 unfold upTo
 rw [List.all_eq_false]
 exact⟨k,List.mem_range.2 (List.getElem?_eq_some_iff.1 h).1,by rw [h];simpa using hc⟩
theorem isName_eq (s:List UInt8):isName s=(upTo letterB tailB s s.length&&(s != []&&decide (s.length≤24))):=by
 cases s with
 | nil=>rfl
 | cons c l =>
  rw [List.length_cons,upTo_cons]
  unfold isName
  rw [show (c::l != [])=true from rfl]
  simp
theorem isNameM_eq (s:List UInt8):isNameM s=(upTo letterM tailM s s.length&&(s != []&&decide (s.length≤24))):=by
 cases s with
 | nil=>rfl
 | cons c l =>
  rw [List.length_cons,upTo_cons]
  unfold isNameM
  rw [show (c::l != [])=true from rfl]
  simp
end
end CH
namespace Go.Proofs.YtjepldaciejieaaGreatDoor
section
open Go.Lib Go.Proofs.Tryz Go.RowKit
theorem Ck (s:List UInt8):s.isEmpty=!(s != []):=by cases s <;> rfl
mutual
def Am (B:Nat) (w:World):CH.Formula→Value→Prop
 | .mk _ _ _ _ kids,v=>∃ a cap,v=.slice a kids.length cap∧kids.length≤cap∧cap≤9223372036854775807∧(kids≠[]→∃ b off,a=some ⟨b,off,none⟩∧b<B∧RowAt B w kids b off)
def RowAt (B:Nat) (w:World):List CH.Formula→Nat→Nat→Prop
 | [],_,_=>True
 | f::l,b,off=>(∃ vk,w.cell? ⟨b,off,none⟩=some (.int .i64 f.op)∧w.cell? ⟨b,off+1,none⟩=some (.string ⟨f.name.toArray⟩)∧w.cell? ⟨b,off+2,none⟩=some (.int .i64 f.cmp)∧w.cell? ⟨b,off+3,none⟩=some (.int .i64 f.n)∧w.cell? ⟨b,off+4,none⟩=some vk∧Am B w f vk)∧RowAt B w l b (off+5)
end
mutual
theorem Am.below {B B':Nat} {w w':World} (hb:Below B' w w') (hB:B≤B'):∀ (f:CH.Formula) (v:Value),Am B w f v→Am B w' f v
 | .mk _ _ _ _ kids,v,h=>by
  unfold Am at h ⊢
  obtain⟨a,cap,h1,h2,h3,h4⟩:=h
  refine⟨a,cap,h1,h2,h3,fun hne=>?_⟩
  obtain⟨b,off,e,hlt,hr⟩:=h4 hne
  exact⟨b,off,e,hlt,RowAt.below hb hB kids b off hlt hr⟩
theorem RowAt.below {B B':Nat} {w w':World} (hb:Below B' w w') (hB:B≤B'):∀ (l:List CH.Formula) (b off:Nat),b<B→RowAt B w l b off→RowAt B w' l b off
 | [],_,_,_,_=>by unfold RowAt;trivial
 | f::l,b,off,hlt,h=>by
  unfold RowAt at h ⊢
  obtain⟨⟨vk,c0,c1,c2,c3,c4,hk⟩,hr⟩:=h
  have hc:=fun o=>hb.cell (p:=⟨b,o,none⟩) (nL hlt hB)
  exact⟨⟨vk,(hc _).trans c0,(hc _).trans c1,(hc _).trans c2,(hc _).trans c3,(hc _).trans c4,Am.below hb hB f vk hk⟩,RowAt.below hb hB l b (off+5) hlt hr⟩
end
mutual
theorem Am.mono {B B':Nat} {w:World} (hB:B≤B'):∀ (f:CH.Formula) (v:Value),Am B w f v→Am B' w f v
 | .mk _ _ _ _ kids,v,h=>by
  unfold Am at h ⊢
  obtain⟨a,cap,h1,h2,h3,h4⟩:=h
  refine⟨a,cap,h1,h2,h3,fun hne=>?_⟩
  obtain⟨b,off,e,hlt,hr⟩:=h4 hne
  exact⟨b,off,e,nL hlt hB,RowAt.mono hB kids b off hr⟩
theorem RowAt.mono {B B':Nat} {w:World} (hB:B≤B'):∀ (l:List CH.Formula) (b off:Nat),RowAt B w l b off→RowAt B' w l b off
 | [],_,_,_=>by unfold RowAt;trivial
 | f::l,b,off,h=>by
  unfold RowAt at h ⊢
  obtain⟨⟨vk,c0,c1,c2,c3,c4,hk⟩,hr⟩:=h
  exact⟨⟨vk,c0,c1,c2,c3,c4,Am.mono hB f vk hk⟩,RowAt.mono hB l b (off+5) hr⟩
end
theorem Am.form {B:Nat} {w:World} {f:CH.Formula} {v:Value} (h:Am B w f v):∃ a cap,v=.slice a f.kids.length cap∧f.kids.length≤cap∧cap≤9223372036854775807∧(f.kids≠[]→∃ b off,a=some ⟨b,off,none⟩∧b<B∧RowAt B w f.kids b off):=by
 cases f with
 | mk op name cmp n kids=>unfold Am at h;exact h
theorem RowAt.get {B:Nat} {w:World}:∀ (l:List CH.Formula) (b off j:Nat) (f:CH.Formula),RowAt B w l b off→l[j]?=some f →
  ∃ vk,w.cell? ⟨b,off+j*5,none⟩=some (.int .i64 f.op)∧w.cell? ⟨b,off+j*5+1,none⟩=some (.string ⟨f.name.toArray⟩)∧w.cell? ⟨b,off+j*5+2,none⟩=some (.int .i64 f.cmp)∧w.cell? ⟨b,off+j*5+3,none⟩=some (.int .i64 f.n)∧w.cell? ⟨b,off+j*5+4,none⟩=some vk∧Am B w f vk
 | [],_,_,_,_,_,h=>by simp at h
 | g::l,b,off,0,f,h,hj=>by
  unfold RowAt at h
  simp only [List.getElem?_cons_zero,Option.some.injEq] at hj
  subst hj
  simpa using h.1
 | g::l,b,off,j+1,f,h,hj=>by
  unfold RowAt at h
  simp only [List.getElem?_cons_succ] at hj
  have:=RowAt.get l b (off+5) j f h.2 hj
  rw [show off+(j+1)*5=off+5+j*5 from by omega]
  exact this
def Af (f:CH.Formula) (vk:Value):Array Value:=#[.int .i64 f.op,.string ⟨f.name.toArray⟩,.int .i64 f.cmp,.int .i64 f.n,vk]
theorem count_pos (f:CH.Formula):1≤f.count:=by cases f with|mk _ _ _ _ kids=>unfold CH.Formula.count;omega
theorem Em (l m:List CH.Formula):CH.countAll (l++m)=CH.countAll l+CH.countAll m:=by
 induction l with
 | nil=>simp [CH.countAll]
 | cons f l ih=>simp [CH.countAll,ih];omega
theorem depthAll_append (l m:List CH.Formula):CH.depthAll (l++m)=max (CH.depthAll l) (CH.depthAll m):=by
 induction l with
 | nil=>simp [CH.depthAll]
 | cons f l ih=>simp [CH.depthAll,ih]
theorem depth_mem {l:List CH.Formula} {f:CH.Formula} (h:f∈l):f.depth≤CH.depthAll l:=by
 induction l with
 | nil=>cases h
 | cons g l ih =>
  simp only [CH.depthAll]
  rcases List.mem_cons.1 h with rfl|h
  ·omega
  ·have:=ih h;omega
theorem count_mem {l:List CH.Formula} {f:CH.Formula} (h:f∈l):f.count≤CH.countAll l:=by
 induction l with
 | nil=>cases h
 | cons g l ih =>
  simp only [CH.countAll]
  rcases List.mem_cons.1 h with rfl|h
  ·omega
  ·have:=ih h;omega
theorem count_eq (f:CH.Formula):f.count=1+CH.countAll f.kids:=by cases f with|mk _ _ _ _ kids=>rfl
theorem Dh (f:CH.Formula):f.depth=1+CH.depthAll f.kids:=by cases f with|mk _ _ _ _ kids=>rfl
theorem okf_eq (f:CH.Formula):f.ok=(CH.nodeOk f.op f.name f.cmp f.n f.kids.length&&!(f.op==3&&(decide (f.n<0)||decide (f.n > 1000000)||CH.isKey f.name))&&CH.okAll f.kids):=by cases f with|mk _ _ _ _ kids=>rfl
theorem Fe (l:List CH.Formula):l.length≤CH.countAll l:=by
 induction l with
 | nil=>simp
 | cons f l ih=>have:=count_pos f;simp only [CH.countAll,List.length_cons];omega
theorem byte_at (s:List UInt8) (k:Nat) (hk:k<s.length) (c:UInt8) (h:s[k]?=some c):(⟨s.toArray⟩:ByteArray)[k]'(by show k<s.toArray.size;simpa using hk)=c:=by
 rw [lZ hk] at h
 show s.toArray[k]'(by simpa using hk)=c
 simpa using h
theorem licName_any (s:List UInt8) (w:World) (hs:s.length≤4611686018427387904) :
  Calls prog 89 #[.string ⟨s.toArray⟩] w (fun e w'=>e=.returned (.bool (CH.isName s))∧w'=w):=by
 go_enter func89,ntmps89
 go_wp2_with fail
 go_loopw [8] (fun iv wr=>∃ k:Nat,k≤s.length∧iv=.int .i64 k∧Hid (CH.upTo CH.letterB CH.tailB s k=true)∧wr=w) (fun iv _=>s.length - (RowKit.intOf iv).toNat)
 case atStart=>exact⟨0,Nat.zero_le _,rfl,hid (CH.upTo_zero _ _ _),rfl⟩
 case round =>
  obtain⟨k,hk,rfl,hu,rfl⟩:=hrel
  by_cases hlt:k<s.length
  ·obtain⟨ch,hch⟩:∃ ch,s[k]?=some ch:=⟨_,lZ hlt⟩
   have hgk:=byte_at s k hlt ch hch
   have Hch:=hid hch
   clear hch
   have hcb:=UInt8.toNat_lt ch
   have good:∀ b:Bool,(if k=0 then CH.letterB ch else CH.tailB ch)=b→(b=true→CH.upTo CH.letterB CH.tailB s (k+1)=true)∧(b=false→CH.isName s=false):=fun b hb =>
    ⟨fun h=>by rw [CH.upTo_succ _ _ _ _ _ Hch.out,hu.out,hb,h];rfl,fun h=>by rw [CH.isName_eq,CH.upTo_false _ _ _ _ _ Hch.out (hb.trans h)];rfl⟩
   have G:=hid good
   clear good
   by_cases hk0:k=0
   ·subst hk0
    rcases (by omega:(0≤ch.toNat∧ch.toNat≤47)∨(48≤ch.toNat∧ch.toNat≤57)∨(58≤ch.toNat∧ch.toNat≤64)∨(65≤ch.toNat∧ch.toNat≤90)∨(91≤ch.toNat∧ch.toNat≤94)∨(95≤ch.toNat∧ch.toNat≤95)∨(96≤ch.toNat∧ch.toNat≤96)∨(97≤ch.toNat∧ch.toNat≤122)∨(123≤ch.toNat∧ch.toNat≤255)) with⟨r1,r2⟩|⟨r1,r2⟩|⟨r1,r2⟩|⟨r1,r2⟩|⟨r1,r2⟩|⟨r1,r2⟩|⟨r1,r2⟩|⟨r1,r2⟩|⟨r1,r2⟩
    ·have hv:=G.out false (by rw [if_pos rfl];simp [CH.letterB,CH.tailB,CH.beq_toNat];omega)
     have g97:(decide ((97:Int)≤(ch.toNat:Int)))=false:=by simp;omega
     have l122:(decide ((ch.toNat:Int)≤(122:Int)))=true:=by simp;omega
     have g65:(decide ((65:Int)≤(ch.toNat:Int)))=false:=by simp;omega
     have l90:(decide ((ch.toNat:Int)≤(90:Int)))=true:=by simp;omega
     have n95:((ch.toNat:Int) != (95:Int))=true:=by simp;omega
     have l48:(decide ((ch.toNat:Int)<(48:Int)))=true:=by simp;omega
     have g57:(decide ((57:Int)<(ch.toNat:Int)))=false:=by simp;omega
     have HV:=hid (hv.2 rfl)
     clear hv
     go_wp2
     go_ret
     exact⟨by rw [HV.out];rfl,rfl⟩
    ·have hv:=G.out false (by rw [if_pos rfl];simp [CH.letterB,CH.tailB,CH.beq_toNat];omega)
     have g97:(decide ((97:Int)≤(ch.toNat:Int)))=false:=by simp;omega
     have l122:(decide ((ch.toNat:Int)≤(122:Int)))=true:=by simp;omega
     have g65:(decide ((65:Int)≤(ch.toNat:Int)))=false:=by simp;omega
     have l90:(decide ((ch.toNat:Int)≤(90:Int)))=true:=by simp;omega
     have n95:((ch.toNat:Int) != (95:Int))=true:=by simp;omega
     have l48:(decide ((ch.toNat:Int)<(48:Int)))=false:=by simp;omega
     have g57:(decide ((57:Int)<(ch.toNat:Int)))=false:=by simp;omega
     have HV:=hid (hv.2 rfl)
     clear hv
     go_wp2
     go_ret
     exact⟨by rw [HV.out];rfl,rfl⟩
    ·have hv:=G.out false (by rw [if_pos rfl];simp [CH.letterB,CH.tailB,CH.beq_toNat];omega)
     have g97:(decide ((97:Int)≤(ch.toNat:Int)))=false:=by simp;omega
     have l122:(decide ((ch.toNat:Int)≤(122:Int)))=true:=by simp;omega
     have g65:(decide ((65:Int)≤(ch.toNat:Int)))=false:=by simp;omega
     have l90:(decide ((ch.toNat:Int)≤(90:Int)))=true:=by simp;omega
     have n95:((ch.toNat:Int) != (95:Int))=true:=by simp;omega
     have l48:(decide ((ch.toNat:Int)<(48:Int)))=false:=by simp;omega
     have g57:(decide ((57:Int)<(ch.toNat:Int)))=true:=by simp;omega
     have HV:=hid (hv.2 rfl)
     clear hv
     go_wp2
     go_ret
     exact⟨by rw [HV.out];rfl,rfl⟩
    ·have hv:=G.out true (by rw [if_pos rfl];simp [CH.letterB,CH.tailB,CH.beq_toNat];omega)
     have g97:(decide ((97:Int)≤(ch.toNat:Int)))=false:=by simp;omega
     have l122:(decide ((ch.toNat:Int)≤(122:Int)))=true:=by simp;omega
     have g65:(decide ((65:Int)≤(ch.toNat:Int)))=true:=by simp;omega
     have l90:(decide ((ch.toNat:Int)≤(90:Int)))=true:=by simp;omega
     have n95:((ch.toNat:Int) != (95:Int))=true:=by simp;omega
     have l48:(decide ((ch.toNat:Int)<(48:Int)))=false:=by simp;omega
     have g57:(decide ((57:Int)<(ch.toNat:Int)))=true:=by simp;omega
     have HV:Hid (CH.upTo CH.letterB CH.tailB s (0+1)=true):=hid (hv.1 rfl)
     clear hv
     go_wp2
     go_roundw
     case rel=>exact⟨0+1,by omega,by go_num,HV,trivial⟩
     case measure=>simp [RowKit.intOf];omega
    ·have hv:=G.out false (by rw [if_pos rfl];simp [CH.letterB,CH.tailB,CH.beq_toNat];omega)
     have g97:(decide ((97:Int)≤(ch.toNat:Int)))=false:=by simp;omega
     have l122:(decide ((ch.toNat:Int)≤(122:Int)))=true:=by simp;omega
     have g65:(decide ((65:Int)≤(ch.toNat:Int)))=true:=by simp;omega
     have l90:(decide ((ch.toNat:Int)≤(90:Int)))=false:=by simp;omega
     have n95:((ch.toNat:Int) != (95:Int))=true:=by simp;omega
     have l48:(decide ((ch.toNat:Int)<(48:Int)))=false:=by simp;omega
     have g57:(decide ((57:Int)<(ch.toNat:Int)))=true:=by simp;omega
     have HV:=hid (hv.2 rfl)
     clear hv
     go_wp2
     go_ret
     exact⟨by rw [HV.out];rfl,rfl⟩
    ·have hv:=G.out false (by rw [if_pos rfl];simp [CH.letterB,CH.tailB,CH.beq_toNat];omega)
     have g97:(decide ((97:Int)≤(ch.toNat:Int)))=false:=by simp;omega
     have l122:(decide ((ch.toNat:Int)≤(122:Int)))=true:=by simp;omega
     have g65:(decide ((65:Int)≤(ch.toNat:Int)))=true:=by simp;omega
     have l90:(decide ((ch.toNat:Int)≤(90:Int)))=false:=by simp;omega
     have n95:((ch.toNat:Int) != (95:Int))=false:=by simp;omega
     have l48:(decide ((ch.toNat:Int)<(48:Int)))=false:=by simp;omega
     have g57:(decide ((57:Int)<(ch.toNat:Int)))=true:=by simp;omega
     have HV:=hid (hv.2 rfl)
     clear hv
     go_wp2
     go_ret
     exact⟨by rw [HV.out];rfl,rfl⟩
    ·have hv:=G.out false (by rw [if_pos rfl];simp [CH.letterB,CH.tailB,CH.beq_toNat];omega)
     have g97:(decide ((97:Int)≤(ch.toNat:Int)))=false:=by simp;omega
     have l122:(decide ((ch.toNat:Int)≤(122:Int)))=true:=by simp;omega
     have g65:(decide ((65:Int)≤(ch.toNat:Int)))=true:=by simp;omega
     have l90:(decide ((ch.toNat:Int)≤(90:Int)))=false:=by simp;omega
     have n95:((ch.toNat:Int) != (95:Int))=true:=by simp;omega
     have l48:(decide ((ch.toNat:Int)<(48:Int)))=false:=by simp;omega
     have g57:(decide ((57:Int)<(ch.toNat:Int)))=true:=by simp;omega
     have HV:=hid (hv.2 rfl)
     clear hv
     go_wp2
     go_ret
     exact⟨by rw [HV.out];rfl,rfl⟩
    ·have hv:=G.out true (by rw [if_pos rfl];simp [CH.letterB,CH.tailB,CH.beq_toNat];omega)
     have g97:(decide ((97:Int)≤(ch.toNat:Int)))=true:=by simp;omega
     have l122:(decide ((ch.toNat:Int)≤(122:Int)))=true:=by simp;omega
     have g65:(decide ((65:Int)≤(ch.toNat:Int)))=true:=by simp;omega
     have l90:(decide ((ch.toNat:Int)≤(90:Int)))=false:=by simp;omega
     have n95:((ch.toNat:Int) != (95:Int))=true:=by simp;omega
     have l48:(decide ((ch.toNat:Int)<(48:Int)))=false:=by simp;omega
     have g57:(decide ((57:Int)<(ch.toNat:Int)))=true:=by simp;omega
     have HV:Hid (CH.upTo CH.letterB CH.tailB s (0+1)=true):=hid (hv.1 rfl)
     clear hv
     go_wp2
     go_roundw
     case rel=>exact⟨0+1,by omega,by go_num,HV,trivial⟩
     case measure=>simp [RowKit.intOf];omega
    ·have hv:=G.out false (by rw [if_pos rfl];simp [CH.letterB,CH.tailB,CH.beq_toNat];omega)
     have g97:(decide ((97:Int)≤(ch.toNat:Int)))=true:=by simp;omega
     have l122:(decide ((ch.toNat:Int)≤(122:Int)))=false:=by simp;omega
     have g65:(decide ((65:Int)≤(ch.toNat:Int)))=true:=by simp;omega
     have l90:(decide ((ch.toNat:Int)≤(90:Int)))=false:=by simp;omega
     have n95:((ch.toNat:Int) != (95:Int))=true:=by simp;omega
     have l48:(decide ((ch.toNat:Int)<(48:Int)))=false:=by simp;omega
     have g57:(decide ((57:Int)<(ch.toNat:Int)))=true:=by simp;omega
     have HV:=hid (hv.2 rfl)
     clear hv
     go_wp2
     go_ret
     exact⟨by rw [HV.out];rfl,rfl⟩
   ·have z0:((k:Int)==0)=false:=by simp;omega
    rcases (by omega:(0≤ch.toNat∧ch.toNat≤47)∨(48≤ch.toNat∧ch.toNat≤57)∨(58≤ch.toNat∧ch.toNat≤64)∨(65≤ch.toNat∧ch.toNat≤90)∨(91≤ch.toNat∧ch.toNat≤94)∨(95≤ch.toNat∧ch.toNat≤95)∨(96≤ch.toNat∧ch.toNat≤96)∨(97≤ch.toNat∧ch.toNat≤122)∨(123≤ch.toNat∧ch.toNat≤255)) with⟨r1,r2⟩|⟨r1,r2⟩|⟨r1,r2⟩|⟨r1,r2⟩|⟨r1,r2⟩|⟨r1,r2⟩|⟨r1,r2⟩|⟨r1,r2⟩|⟨r1,r2⟩
    ·have hv:=G.out false (by rw [if_neg hk0];simp [CH.letterB,CH.tailB,CH.beq_toNat];omega)
     have g97:(decide ((97:Int)≤(ch.toNat:Int)))=false:=by simp;omega
     have l122:(decide ((ch.toNat:Int)≤(122:Int)))=true:=by simp;omega
     have g65:(decide ((65:Int)≤(ch.toNat:Int)))=false:=by simp;omega
     have l90:(decide ((ch.toNat:Int)≤(90:Int)))=true:=by simp;omega
     have n95:((ch.toNat:Int) != (95:Int))=true:=by simp;omega
     have l48:(decide ((ch.toNat:Int)<(48:Int)))=true:=by simp;omega
     have g57:(decide ((57:Int)<(ch.toNat:Int)))=false:=by simp;omega
     have HV:=hid (hv.2 rfl)
     clear hv
     go_wp2
     go_ret
     exact⟨by rw [HV.out];rfl,rfl⟩
    ·have hv:=G.out true (by rw [if_neg hk0];simp [CH.letterB,CH.tailB,CH.beq_toNat];omega)
     have g97:(decide ((97:Int)≤(ch.toNat:Int)))=false:=by simp;omega
     have l122:(decide ((ch.toNat:Int)≤(122:Int)))=true:=by simp;omega
     have g65:(decide ((65:Int)≤(ch.toNat:Int)))=false:=by simp;omega
     have l90:(decide ((ch.toNat:Int)≤(90:Int)))=true:=by simp;omega
     have n95:((ch.toNat:Int) != (95:Int))=true:=by simp;omega
     have l48:(decide ((ch.toNat:Int)<(48:Int)))=false:=by simp;omega
     have g57:(decide ((57:Int)<(ch.toNat:Int)))=false:=by simp;omega
     have HV:Hid (CH.upTo CH.letterB CH.tailB s (k+1)=true):=hid (hv.1 rfl)
     clear hv
     go_wp2
     go_roundw
     case rel=>exact⟨k+1,by omega,by go_num,HV,trivial⟩
     case measure=>simp [RowKit.intOf];omega
    ·have hv:=G.out false (by rw [if_neg hk0];simp [CH.letterB,CH.tailB,CH.beq_toNat];omega)
     have g97:(decide ((97:Int)≤(ch.toNat:Int)))=false:=by simp;omega
     have l122:(decide ((ch.toNat:Int)≤(122:Int)))=true:=by simp;omega
     have g65:(decide ((65:Int)≤(ch.toNat:Int)))=false:=by simp;omega
     have l90:(decide ((ch.toNat:Int)≤(90:Int)))=true:=by simp;omega
     have n95:((ch.toNat:Int) != (95:Int))=true:=by simp;omega
     have l48:(decide ((ch.toNat:Int)<(48:Int)))=false:=by simp;omega
     have g57:(decide ((57:Int)<(ch.toNat:Int)))=true:=by simp;omega
     have HV:=hid (hv.2 rfl)
     clear hv
     go_wp2
     go_ret
     exact⟨by rw [HV.out];rfl,rfl⟩
    ·have hv:=G.out true (by rw [if_neg hk0];simp [CH.letterB,CH.tailB,CH.beq_toNat];omega)
     have g97:(decide ((97:Int)≤(ch.toNat:Int)))=false:=by simp;omega
     have l122:(decide ((ch.toNat:Int)≤(122:Int)))=true:=by simp;omega
     have g65:(decide ((65:Int)≤(ch.toNat:Int)))=true:=by simp;omega
     have l90:(decide ((ch.toNat:Int)≤(90:Int)))=true:=by simp;omega
     have n95:((ch.toNat:Int) != (95:Int))=true:=by simp;omega
     have l48:(decide ((ch.toNat:Int)<(48:Int)))=false:=by simp;omega
     have g57:(decide ((57:Int)<(ch.toNat:Int)))=true:=by simp;omega
     have HV:Hid (CH.upTo CH.letterB CH.tailB s (k+1)=true):=hid (hv.1 rfl)
     clear hv
     go_wp2
     go_roundw
     case rel=>exact⟨k+1,by omega,by go_num,HV,trivial⟩
     case measure=>simp [RowKit.intOf];omega
    ·have hv:=G.out false (by rw [if_neg hk0];simp [CH.letterB,CH.tailB,CH.beq_toNat];omega)
     have g97:(decide ((97:Int)≤(ch.toNat:Int)))=false:=by simp;omega
     have l122:(decide ((ch.toNat:Int)≤(122:Int)))=true:=by simp;omega
     have g65:(decide ((65:Int)≤(ch.toNat:Int)))=true:=by simp;omega
     have l90:(decide ((ch.toNat:Int)≤(90:Int)))=false:=by simp;omega
     have n95:((ch.toNat:Int) != (95:Int))=true:=by simp;omega
     have l48:(decide ((ch.toNat:Int)<(48:Int)))=false:=by simp;omega
     have g57:(decide ((57:Int)<(ch.toNat:Int)))=true:=by simp;omega
     have HV:=hid (hv.2 rfl)
     clear hv
     go_wp2
     go_ret
     exact⟨by rw [HV.out];rfl,rfl⟩
    ·have hv:=G.out true (by rw [if_neg hk0];simp [CH.letterB,CH.tailB,CH.beq_toNat];omega)
     have g97:(decide ((97:Int)≤(ch.toNat:Int)))=false:=by simp;omega
     have l122:(decide ((ch.toNat:Int)≤(122:Int)))=true:=by simp;omega
     have g65:(decide ((65:Int)≤(ch.toNat:Int)))=true:=by simp;omega
     have l90:(decide ((ch.toNat:Int)≤(90:Int)))=false:=by simp;omega
     have n95:((ch.toNat:Int) != (95:Int))=false:=by simp;omega
     have l48:(decide ((ch.toNat:Int)<(48:Int)))=false:=by simp;omega
     have g57:(decide ((57:Int)<(ch.toNat:Int)))=true:=by simp;omega
     have HV:Hid (CH.upTo CH.letterB CH.tailB s (k+1)=true):=hid (hv.1 rfl)
     clear hv
     go_wp2
     go_roundw
     case rel=>exact⟨k+1,by omega,by go_num,HV,trivial⟩
     case measure=>simp [RowKit.intOf];omega
    ·have hv:=G.out false (by rw [if_neg hk0];simp [CH.letterB,CH.tailB,CH.beq_toNat];omega)
     have g97:(decide ((97:Int)≤(ch.toNat:Int)))=false:=by simp;omega
     have l122:(decide ((ch.toNat:Int)≤(122:Int)))=true:=by simp;omega
     have g65:(decide ((65:Int)≤(ch.toNat:Int)))=true:=by simp;omega
     have l90:(decide ((ch.toNat:Int)≤(90:Int)))=false:=by simp;omega
     have n95:((ch.toNat:Int) != (95:Int))=true:=by simp;omega
     have l48:(decide ((ch.toNat:Int)<(48:Int)))=false:=by simp;omega
     have g57:(decide ((57:Int)<(ch.toNat:Int)))=true:=by simp;omega
     have HV:=hid (hv.2 rfl)
     clear hv
     go_wp2
     go_ret
     exact⟨by rw [HV.out];rfl,rfl⟩
    ·have hv:=G.out true (by rw [if_neg hk0];simp [CH.letterB,CH.tailB,CH.beq_toNat];omega)
     have g97:(decide ((97:Int)≤(ch.toNat:Int)))=true:=by simp;omega
     have l122:(decide ((ch.toNat:Int)≤(122:Int)))=true:=by simp;omega
     have g65:(decide ((65:Int)≤(ch.toNat:Int)))=true:=by simp;omega
     have l90:(decide ((ch.toNat:Int)≤(90:Int)))=false:=by simp;omega
     have n95:((ch.toNat:Int) != (95:Int))=true:=by simp;omega
     have l48:(decide ((ch.toNat:Int)<(48:Int)))=false:=by simp;omega
     have g57:(decide ((57:Int)<(ch.toNat:Int)))=true:=by simp;omega
     have HV:Hid (CH.upTo CH.letterB CH.tailB s (k+1)=true):=hid (hv.1 rfl)
     clear hv
     go_wp2
     go_roundw
     case rel=>exact⟨k+1,by omega,by go_num,HV,trivial⟩
     case measure=>simp [RowKit.intOf];omega
    ·have hv:=G.out false (by rw [if_neg hk0];simp [CH.letterB,CH.tailB,CH.beq_toNat];omega)
     have g97:(decide ((97:Int)≤(ch.toNat:Int)))=true:=by simp;omega
     have l122:(decide ((ch.toNat:Int)≤(122:Int)))=false:=by simp;omega
     have g65:(decide ((65:Int)≤(ch.toNat:Int)))=true:=by simp;omega
     have l90:(decide ((ch.toNat:Int)≤(90:Int)))=false:=by simp;omega
     have n95:((ch.toNat:Int) != (95:Int))=true:=by simp;omega
     have l48:(decide ((ch.toNat:Int)<(48:Int)))=false:=by simp;omega
     have g57:(decide ((57:Int)<(ch.toNat:Int)))=true:=by simp;omega
     have HV:=hid (hv.2 rfl)
     clear hv
     go_wp2
     go_ret
     exact⟨by rw [HV.out];rfl,rfl⟩
  ·have e:k=s.length:=by omega
   subst e
   have hres:CH.isName s=(s != []&&decide (s.length≤24)):=by rw [CH.isName_eq,hu.out];rfl
   have Hr:=hid hres
   clear hres
   cases s with
   | nil =>
    go_wp2
    go_ret
    exact⟨by rw [Hr.out];rfl,rfl⟩
   | cons c l =>
    have z1:((⟨(c::l).toArray⟩:ByteArray) != ⟨#[]⟩)=true:=rfl
    go_wp2
    go_ret
    refine⟨?_,rfl⟩
    rw [Hr.out]
    simp
    rw [show (c::l != [])=true from rfl,Bool.true_and]
    exact decide_eq_decide.2 (by omega)
theorem regName_any (s:List UInt8) (w:World) (hs:s.length≤4611686018427387904) :
  Calls prog 137 #[.string ⟨s.toArray⟩] w (fun e w'=>e=.returned (.bool (CH.isName s))∧w'=w):=by
 go_enter func137,ntmps137
 go_wp2_with fail
 go_loopw [8] (fun iv wr=>∃ k:Nat,k≤s.length∧iv=.int .i64 k∧Hid (CH.upTo CH.letterB CH.tailB s k=true)∧wr=w) (fun iv _=>s.length - (RowKit.intOf iv).toNat)
 case atStart=>exact⟨0,Nat.zero_le _,rfl,hid (CH.upTo_zero _ _ _),rfl⟩
 case round =>
  obtain⟨k,hk,rfl,hu,rfl⟩:=hrel
  by_cases hlt:k<s.length
  ·obtain⟨ch,hch⟩:∃ ch,s[k]?=some ch:=⟨_,lZ hlt⟩
   have hgk:=byte_at s k hlt ch hch
   have Hch:=hid hch
   clear hch
   have hcb:=UInt8.toNat_lt ch
   have good:∀ b:Bool,(if k=0 then CH.letterB ch else CH.tailB ch)=b→(b=true→CH.upTo CH.letterB CH.tailB s (k+1)=true)∧(b=false→CH.isName s=false):=fun b hb =>
    ⟨fun h=>by rw [CH.upTo_succ _ _ _ _ _ Hch.out,hu.out,hb,h];rfl,fun h=>by rw [CH.isName_eq,CH.upTo_false _ _ _ _ _ Hch.out (hb.trans h)];rfl⟩
   have G:=hid good
   clear good
   by_cases hk0:k=0
   ·subst hk0
    rcases (by omega:(0≤ch.toNat∧ch.toNat≤47)∨(48≤ch.toNat∧ch.toNat≤57)∨(58≤ch.toNat∧ch.toNat≤64)∨(65≤ch.toNat∧ch.toNat≤90)∨(91≤ch.toNat∧ch.toNat≤94)∨(95≤ch.toNat∧ch.toNat≤95)∨(96≤ch.toNat∧ch.toNat≤96)∨(97≤ch.toNat∧ch.toNat≤122)∨(123≤ch.toNat∧ch.toNat≤255)) with⟨r1,r2⟩|⟨r1,r2⟩|⟨r1,r2⟩|⟨r1,r2⟩|⟨r1,r2⟩|⟨r1,r2⟩|⟨r1,r2⟩|⟨r1,r2⟩|⟨r1,r2⟩
    ·have hv:=G.out false (by rw [if_pos rfl];simp [CH.letterB,CH.tailB,CH.beq_toNat];omega)
     have g97:(decide ((97:Int)≤(ch.toNat:Int)))=false:=by simp;omega
     have l122:(decide ((ch.toNat:Int)≤(122:Int)))=true:=by simp;omega
     have g65:(decide ((65:Int)≤(ch.toNat:Int)))=false:=by simp;omega
     have l90:(decide ((ch.toNat:Int)≤(90:Int)))=true:=by simp;omega
     have n95:((ch.toNat:Int) != (95:Int))=true:=by simp;omega
     have l48:(decide ((ch.toNat:Int)<(48:Int)))=true:=by simp;omega
     have g57:(decide ((57:Int)<(ch.toNat:Int)))=false:=by simp;omega
     have HV:=hid (hv.2 rfl)
     clear hv
     go_wp2
     go_ret
     exact⟨by rw [HV.out];rfl,rfl⟩
    ·have hv:=G.out false (by rw [if_pos rfl];simp [CH.letterB,CH.tailB,CH.beq_toNat];omega)
     have g97:(decide ((97:Int)≤(ch.toNat:Int)))=false:=by simp;omega
     have l122:(decide ((ch.toNat:Int)≤(122:Int)))=true:=by simp;omega
     have g65:(decide ((65:Int)≤(ch.toNat:Int)))=false:=by simp;omega
     have l90:(decide ((ch.toNat:Int)≤(90:Int)))=true:=by simp;omega
     have n95:((ch.toNat:Int) != (95:Int))=true:=by simp;omega
     have l48:(decide ((ch.toNat:Int)<(48:Int)))=false:=by simp;omega
     have g57:(decide ((57:Int)<(ch.toNat:Int)))=false:=by simp;omega
     have HV:=hid (hv.2 rfl)
     clear hv
     go_wp2
     go_ret
     exact⟨by rw [HV.out];rfl,rfl⟩
    ·have hv:=G.out false (by rw [if_pos rfl];simp [CH.letterB,CH.tailB,CH.beq_toNat];omega)
     have g97:(decide ((97:Int)≤(ch.toNat:Int)))=false:=by simp;omega
     have l122:(decide ((ch.toNat:Int)≤(122:Int)))=true:=by simp;omega
     have g65:(decide ((65:Int)≤(ch.toNat:Int)))=false:=by simp;omega
     have l90:(decide ((ch.toNat:Int)≤(90:Int)))=true:=by simp;omega
     have n95:((ch.toNat:Int) != (95:Int))=true:=by simp;omega
     have l48:(decide ((ch.toNat:Int)<(48:Int)))=false:=by simp;omega
     have g57:(decide ((57:Int)<(ch.toNat:Int)))=true:=by simp;omega
     have HV:=hid (hv.2 rfl)
     clear hv
     go_wp2
     go_ret
     exact⟨by rw [HV.out];rfl,rfl⟩
    ·have hv:=G.out true (by rw [if_pos rfl];simp [CH.letterB,CH.tailB,CH.beq_toNat];omega)
     have g97:(decide ((97:Int)≤(ch.toNat:Int)))=false:=by simp;omega
     have l122:(decide ((ch.toNat:Int)≤(122:Int)))=true:=by simp;omega
     have g65:(decide ((65:Int)≤(ch.toNat:Int)))=true:=by simp;omega
     have l90:(decide ((ch.toNat:Int)≤(90:Int)))=true:=by simp;omega
     have n95:((ch.toNat:Int) != (95:Int))=true:=by simp;omega
     have l48:(decide ((ch.toNat:Int)<(48:Int)))=false:=by simp;omega
     have g57:(decide ((57:Int)<(ch.toNat:Int)))=true:=by simp;omega
     have HV:Hid (CH.upTo CH.letterB CH.tailB s (0+1)=true):=hid (hv.1 rfl)
     clear hv
     go_wp2
     go_roundw
     case rel=>exact⟨0+1,by omega,by go_num,HV,trivial⟩
     case measure=>simp [RowKit.intOf];omega
    ·have hv:=G.out false (by rw [if_pos rfl];simp [CH.letterB,CH.tailB,CH.beq_toNat];omega)
     have g97:(decide ((97:Int)≤(ch.toNat:Int)))=false:=by simp;omega
     have l122:(decide ((ch.toNat:Int)≤(122:Int)))=true:=by simp;omega
     have g65:(decide ((65:Int)≤(ch.toNat:Int)))=true:=by simp;omega
     have l90:(decide ((ch.toNat:Int)≤(90:Int)))=false:=by simp;omega
     have n95:((ch.toNat:Int) != (95:Int))=true:=by simp;omega
     have l48:(decide ((ch.toNat:Int)<(48:Int)))=false:=by simp;omega
     have g57:(decide ((57:Int)<(ch.toNat:Int)))=true:=by simp;omega
     have HV:=hid (hv.2 rfl)
     clear hv
     go_wp2
     go_ret
     exact⟨by rw [HV.out];rfl,rfl⟩
    ·have hv:=G.out false (by rw [if_pos rfl];simp [CH.letterB,CH.tailB,CH.beq_toNat];omega)
     have g97:(decide ((97:Int)≤(ch.toNat:Int)))=false:=by simp;omega
     have l122:(decide ((ch.toNat:Int)≤(122:Int)))=true:=by simp;omega
     have g65:(decide ((65:Int)≤(ch.toNat:Int)))=true:=by simp;omega
     have l90:(decide ((ch.toNat:Int)≤(90:Int)))=false:=by simp;omega
     have n95:((ch.toNat:Int) != (95:Int))=false:=by simp;omega
     have l48:(decide ((ch.toNat:Int)<(48:Int)))=false:=by simp;omega
     have g57:(decide ((57:Int)<(ch.toNat:Int)))=true:=by simp;omega
     have HV:=hid (hv.2 rfl)
     clear hv
     go_wp2
     go_ret
     exact⟨by rw [HV.out];rfl,rfl⟩
    ·have hv:=G.out false (by rw [if_pos rfl];simp [CH.letterB,CH.tailB,CH.beq_toNat];omega)
     have g97:(decide ((97:Int)≤(ch.toNat:Int)))=false:=by simp;omega
     have l122:(decide ((ch.toNat:Int)≤(122:Int)))=true:=by simp;omega
     have g65:(decide ((65:Int)≤(ch.toNat:Int)))=true:=by simp;omega
     have l90:(decide ((ch.toNat:Int)≤(90:Int)))=false:=by simp;omega
     have n95:((ch.toNat:Int) != (95:Int))=true:=by simp;omega
     have l48:(decide ((ch.toNat:Int)<(48:Int)))=false:=by simp;omega
     have g57:(decide ((57:Int)<(ch.toNat:Int)))=true:=by simp;omega
     have HV:=hid (hv.2 rfl)
     clear hv
     go_wp2
     go_ret
     exact⟨by rw [HV.out];rfl,rfl⟩
    ·have hv:=G.out true (by rw [if_pos rfl];simp [CH.letterB,CH.tailB,CH.beq_toNat];omega)
     have g97:(decide ((97:Int)≤(ch.toNat:Int)))=true:=by simp;omega
     have l122:(decide ((ch.toNat:Int)≤(122:Int)))=true:=by simp;omega
     have g65:(decide ((65:Int)≤(ch.toNat:Int)))=true:=by simp;omega
     have l90:(decide ((ch.toNat:Int)≤(90:Int)))=false:=by simp;omega
     have n95:((ch.toNat:Int) != (95:Int))=true:=by simp;omega
     have l48:(decide ((ch.toNat:Int)<(48:Int)))=false:=by simp;omega
     have g57:(decide ((57:Int)<(ch.toNat:Int)))=true:=by simp;omega
     have HV:Hid (CH.upTo CH.letterB CH.tailB s (0+1)=true):=hid (hv.1 rfl)
     clear hv
     go_wp2
     go_roundw
     case rel=>exact⟨0+1,by omega,by go_num,HV,trivial⟩
     case measure=>simp [RowKit.intOf];omega
    ·have hv:=G.out false (by rw [if_pos rfl];simp [CH.letterB,CH.tailB,CH.beq_toNat];omega)
     have g97:(decide ((97:Int)≤(ch.toNat:Int)))=true:=by simp;omega
     have l122:(decide ((ch.toNat:Int)≤(122:Int)))=false:=by simp;omega
     have g65:(decide ((65:Int)≤(ch.toNat:Int)))=true:=by simp;omega
     have l90:(decide ((ch.toNat:Int)≤(90:Int)))=false:=by simp;omega
     have n95:((ch.toNat:Int) != (95:Int))=true:=by simp;omega
     have l48:(decide ((ch.toNat:Int)<(48:Int)))=false:=by simp;omega
     have g57:(decide ((57:Int)<(ch.toNat:Int)))=true:=by simp;omega
     have HV:=hid (hv.2 rfl)
     clear hv
     go_wp2
     go_ret
     exact⟨by rw [HV.out];rfl,rfl⟩
   ·have z0:((k:Int)==0)=false:=by simp;omega
    rcases (by omega:(0≤ch.toNat∧ch.toNat≤47)∨(48≤ch.toNat∧ch.toNat≤57)∨(58≤ch.toNat∧ch.toNat≤64)∨(65≤ch.toNat∧ch.toNat≤90)∨(91≤ch.toNat∧ch.toNat≤94)∨(95≤ch.toNat∧ch.toNat≤95)∨(96≤ch.toNat∧ch.toNat≤96)∨(97≤ch.toNat∧ch.toNat≤122)∨(123≤ch.toNat∧ch.toNat≤255)) with⟨r1,r2⟩|⟨r1,r2⟩|⟨r1,r2⟩|⟨r1,r2⟩|⟨r1,r2⟩|⟨r1,r2⟩|⟨r1,r2⟩|⟨r1,r2⟩|⟨r1,r2⟩
    ·have hv:=G.out false (by rw [if_neg hk0];simp [CH.letterB,CH.tailB,CH.beq_toNat];omega)
     have g97:(decide ((97:Int)≤(ch.toNat:Int)))=false:=by simp;omega
     have l122:(decide ((ch.toNat:Int)≤(122:Int)))=true:=by simp;omega
     have g65:(decide ((65:Int)≤(ch.toNat:Int)))=false:=by simp;omega
     have l90:(decide ((ch.toNat:Int)≤(90:Int)))=true:=by simp;omega
     have n95:((ch.toNat:Int) != (95:Int))=true:=by simp;omega
     have l48:(decide ((ch.toNat:Int)<(48:Int)))=true:=by simp;omega
     have g57:(decide ((57:Int)<(ch.toNat:Int)))=false:=by simp;omega
     have HV:=hid (hv.2 rfl)
     clear hv
     go_wp2
     go_ret
     exact⟨by rw [HV.out];rfl,rfl⟩
    ·have hv:=G.out true (by rw [if_neg hk0];simp [CH.letterB,CH.tailB,CH.beq_toNat];omega)
     have g97:(decide ((97:Int)≤(ch.toNat:Int)))=false:=by simp;omega
     have l122:(decide ((ch.toNat:Int)≤(122:Int)))=true:=by simp;omega
     have g65:(decide ((65:Int)≤(ch.toNat:Int)))=false:=by simp;omega
     have l90:(decide ((ch.toNat:Int)≤(90:Int)))=true:=by simp;omega
     have n95:((ch.toNat:Int) != (95:Int))=true:=by simp;omega
     have l48:(decide ((ch.toNat:Int)<(48:Int)))=false:=by simp;omega
     have g57:(decide ((57:Int)<(ch.toNat:Int)))=false:=by simp;omega
     have HV:Hid (CH.upTo CH.letterB CH.tailB s (k+1)=true):=hid (hv.1 rfl)
     clear hv
     go_wp2
     go_roundw
     case rel=>exact⟨k+1,by omega,by go_num,HV,trivial⟩
     case measure=>simp [RowKit.intOf];omega
    ·have hv:=G.out false (by rw [if_neg hk0];simp [CH.letterB,CH.tailB,CH.beq_toNat];omega)
     have g97:(decide ((97:Int)≤(ch.toNat:Int)))=false:=by simp;omega
     have l122:(decide ((ch.toNat:Int)≤(122:Int)))=true:=by simp;omega
     have g65:(decide ((65:Int)≤(ch.toNat:Int)))=false:=by simp;omega
     have l90:(decide ((ch.toNat:Int)≤(90:Int)))=true:=by simp;omega
     have n95:((ch.toNat:Int) != (95:Int))=true:=by simp;omega
     have l48:(decide ((ch.toNat:Int)<(48:Int)))=false:=by simp;omega
     have g57:(decide ((57:Int)<(ch.toNat:Int)))=true:=by simp;omega
     have HV:=hid (hv.2 rfl)
     clear hv
     go_wp2
     go_ret
     exact⟨by rw [HV.out];rfl,rfl⟩
    ·have hv:=G.out true (by rw [if_neg hk0];simp [CH.letterB,CH.tailB,CH.beq_toNat];omega)
     have g97:(decide ((97:Int)≤(ch.toNat:Int)))=false:=by simp;omega
     have l122:(decide ((ch.toNat:Int)≤(122:Int)))=true:=by simp;omega
     have g65:(decide ((65:Int)≤(ch.toNat:Int)))=true:=by simp;omega
     have l90:(decide ((ch.toNat:Int)≤(90:Int)))=true:=by simp;omega
     have n95:((ch.toNat:Int) != (95:Int))=true:=by simp;omega
     have l48:(decide ((ch.toNat:Int)<(48:Int)))=false:=by simp;omega
     have g57:(decide ((57:Int)<(ch.toNat:Int)))=true:=by simp;omega
     have HV:Hid (CH.upTo CH.letterB CH.tailB s (k+1)=true):=hid (hv.1 rfl)
     clear hv
     go_wp2
     go_roundw
     case rel=>exact⟨k+1,by omega,by go_num,HV,trivial⟩
     case measure=>simp [RowKit.intOf];omega
    ·have hv:=G.out false (by rw [if_neg hk0];simp [CH.letterB,CH.tailB,CH.beq_toNat];omega)
     have g97:(decide ((97:Int)≤(ch.toNat:Int)))=false:=by simp;omega
     have l122:(decide ((ch.toNat:Int)≤(122:Int)))=true:=by simp;omega
     have g65:(decide ((65:Int)≤(ch.toNat:Int)))=true:=by simp;omega
     have l90:(decide ((ch.toNat:Int)≤(90:Int)))=false:=by simp;omega
     have n95:((ch.toNat:Int) != (95:Int))=true:=by simp;omega
     have l48:(decide ((ch.toNat:Int)<(48:Int)))=false:=by simp;omega
     have g57:(decide ((57:Int)<(ch.toNat:Int)))=true:=by simp;omega
     have HV:=hid (hv.2 rfl)
     clear hv
     go_wp2
     go_ret
     exact⟨by rw [HV.out];rfl,rfl⟩
    ·have hv:=G.out true (by rw [if_neg hk0];simp [CH.letterB,CH.tailB,CH.beq_toNat];omega)
     have g97:(decide ((97:Int)≤(ch.toNat:Int)))=false:=by simp;omega
     have l122:(decide ((ch.toNat:Int)≤(122:Int)))=true:=by simp;omega
     have g65:(decide ((65:Int)≤(ch.toNat:Int)))=true:=by simp;omega
     have l90:(decide ((ch.toNat:Int)≤(90:Int)))=false:=by simp;omega
     have n95:((ch.toNat:Int) != (95:Int))=false:=by simp;omega
     have l48:(decide ((ch.toNat:Int)<(48:Int)))=false:=by simp;omega
     have g57:(decide ((57:Int)<(ch.toNat:Int)))=true:=by simp;omega
     have HV:Hid (CH.upTo CH.letterB CH.tailB s (k+1)=true):=hid (hv.1 rfl)
     clear hv
     go_wp2
     go_roundw
     case rel=>exact⟨k+1,by omega,by go_num,HV,trivial⟩
     case measure=>simp [RowKit.intOf];omega
    ·have hv:=G.out false (by rw [if_neg hk0];simp [CH.letterB,CH.tailB,CH.beq_toNat];omega)
     have g97:(decide ((97:Int)≤(ch.toNat:Int)))=false:=by simp;omega
     have l122:(decide ((ch.toNat:Int)≤(122:Int)))=true:=by simp;omega
     have g65:(decide ((65:Int)≤(ch.toNat:Int)))=true:=by simp;omega
     have l90:(decide ((ch.toNat:Int)≤(90:Int)))=false:=by simp;omega
     have n95:((ch.toNat:Int) != (95:Int))=true:=by simp;omega
     have l48:(decide ((ch.toNat:Int)<(48:Int)))=false:=by simp;omega
     have g57:(decide ((57:Int)<(ch.toNat:Int)))=true:=by simp;omega
     have HV:=hid (hv.2 rfl)
     clear hv
     go_wp2
     go_ret
     exact⟨by rw [HV.out];rfl,rfl⟩
    ·have hv:=G.out true (by rw [if_neg hk0];simp [CH.letterB,CH.tailB,CH.beq_toNat];omega)
     have g97:(decide ((97:Int)≤(ch.toNat:Int)))=true:=by simp;omega
     have l122:(decide ((ch.toNat:Int)≤(122:Int)))=true:=by simp;omega
     have g65:(decide ((65:Int)≤(ch.toNat:Int)))=true:=by simp;omega
     have l90:(decide ((ch.toNat:Int)≤(90:Int)))=false:=by simp;omega
     have n95:((ch.toNat:Int) != (95:Int))=true:=by simp;omega
     have l48:(decide ((ch.toNat:Int)<(48:Int)))=false:=by simp;omega
     have g57:(decide ((57:Int)<(ch.toNat:Int)))=true:=by simp;omega
     have HV:Hid (CH.upTo CH.letterB CH.tailB s (k+1)=true):=hid (hv.1 rfl)
     clear hv
     go_wp2
     go_roundw
     case rel=>exact⟨k+1,by omega,by go_num,HV,trivial⟩
     case measure=>simp [RowKit.intOf];omega
    ·have hv:=G.out false (by rw [if_neg hk0];simp [CH.letterB,CH.tailB,CH.beq_toNat];omega)
     have g97:(decide ((97:Int)≤(ch.toNat:Int)))=true:=by simp;omega
     have l122:(decide ((ch.toNat:Int)≤(122:Int)))=false:=by simp;omega
     have g65:(decide ((65:Int)≤(ch.toNat:Int)))=true:=by simp;omega
     have l90:(decide ((ch.toNat:Int)≤(90:Int)))=false:=by simp;omega
     have n95:((ch.toNat:Int) != (95:Int))=true:=by simp;omega
     have l48:(decide ((ch.toNat:Int)<(48:Int)))=false:=by simp;omega
     have g57:(decide ((57:Int)<(ch.toNat:Int)))=true:=by simp;omega
     have HV:=hid (hv.2 rfl)
     clear hv
     go_wp2
     go_ret
     exact⟨by rw [HV.out];rfl,rfl⟩
  ·have e:k=s.length:=by omega
   subst e
   have hres:CH.isName s=(s != []&&decide (s.length≤24)):=by rw [CH.isName_eq,hu.out];rfl
   have Hr:=hid hres
   clear hres
   cases s with
   | nil =>
    go_wp2
    go_ret
    exact⟨by rw [Hr.out];rfl,rfl⟩
   | cons c l =>
    have z1:((⟨(c::l).toArray⟩:ByteArray) != ⟨#[]⟩)=true:=rfl
    go_wp2
    go_ret
    refine⟨?_,rfl⟩
    rw [Hr.out]
    simp
    rw [show (c::l != [])=true from rfl,Bool.true_and]
    exact decide_eq_decide.2 (by omega)
end
section
open Go.Lib Go.Proofs.Tryz Go.RowKit Go.Shelf Go.Sort
theorem Ae {w w':World} (h:∃ p:Regrown,w'=grow (redrawn w p.d) p.os):Below w.heap.size w w':=by
 obtain⟨p,rfl⟩:=h
 exact below_regrown w p.d p.os
structure Scan (b:Nat) (s:List UInt8) (w:World):Prop where
 lt:b<w.heap.size
 text:w.cell? ⟨b,0,none⟩=some (.string ⟨s.toArray⟩)
 cls:∀ c:UInt8,w.cell? ⟨b,1+c.toNat,none⟩=some (.int .i64 (CH.cls c))
theorem Scan.below {b:Nat} {s:List UInt8} {w w':World} (h:Scan b s w) (hb:Below w.heap.size w w'):Scan b s w' :=
 ⟨nL h.lt hb.size,(hb.cell (p:=⟨b,0,none⟩) h.lt).trans h.text,fun c=>(hb.cell (p:=⟨b,1+c.toNat,none⟩) h.lt).trans (h.cls c)⟩
theorem at_any (b i:Nat) (s:List UInt8) (w:World) (hs:s.length≤1000000) (hi:i≤1000000) (hS:Scan b s w) :
  Calls prog 187 #[.pointer (some ⟨b,0,none⟩),.int .i64 i] w (Ret w (.int .i64 (CH.clsAt s i))):=by
 have ht:=hS.text
 go_enter func187,ntmps187
 by_cases hlt:i<s.length
 ·obtain⟨ch,hch⟩:∃ ch,s[i]?=some ch:=⟨_,lZ hlt⟩
  have hgk:=byte_at s i hlt ch hch
  have hc:=hS.cls ch
  have hcb:=UInt8.toNat_lt ch
  have hchi:((ch.toNat:Nat):Int)<256:=by omega
  have d1:decide ((s.length:Int)≤(i:Int))=false:=by simp;omega
  have hv:=CH.clsAt_lt s i ch hch
  have HV:=hid hv
  clear hv hch hS
  go_wp2_with fail
  go_quiet (fail)
  go_wp2
  go_ret
  exact⟨by rw [HV.out];rfl,below_drewN (Below.refl _ _) _⟩
 ·have d1:decide ((s.length:Int)≤(i:Int))=true:=by simp;omega
  have hv:=CH.clsAt_ge s i (by omega)
  have HV:=hid hv
  clear hv hS
  go_wp2
  go_ret
  exact⟨by rw [HV.out];rfl,Below.refl _ _⟩
structure Nums (g:Nat) (cl:List Nat) (w:World):Prop where
 lt:g<w.heap.size
 cells:∀ j,j<cl.length→w.cell? ⟨g,0+j,none⟩=some (.int .i64 ((cl.map Int.ofNat).getD j 0))
theorem Nums.below {g:Nat} {cl:List Nat} {w w':World} (h:Nums g cl w) (hb:Below w.heap.size w w'):Nums g cl w' :=
 ⟨nL h.lt hb.size,fun j hj=>(hb.cell (p:=⟨g,0+j,none⟩) h.lt).trans (h.cells j hj)⟩
theorem contains_map (cl:List Nat) (x:Nat):(((cl.map Int.ofNat).take cl.length).contains (x:Int))=cl.contains x:=by
 rw [List.take_of_length_le (by simp)]
 rw [Bool.eq_iff_iff]
 simp
 constructor
 ·rintro⟨a,h,e⟩
  have:a=x:=by omega
  rw [← this];exact h
 ·intro h;exact⟨x,h,rfl⟩
theorem while_any (b i g cap:Nat) (s:List UInt8) (cl:List Nat) (w:World) (hs:s.length≤1000000) (hi:i≤s.length) (hcl:cl.length≤10) (hS:Scan b s w) (hN:Nums g cl w) :
  Calls prog 186 #[.pointer (some ⟨b,0,none⟩),.int .i64 i,.slice (some ⟨g,0,none⟩) cl.length cap] w (Ret w (.int .i64 (CH.whil s cl i))):=by
 go_enter func186,ntmps186
 generalize hcn:cl.length=cn at *
 go_wp2_with fail
 go_loopw [1] (fun iv wr=>∃ k:Nat,k≤s.length∧iv=.int .i64 k∧Hid (CH.whil s cl k=CH.whil s cl i)∧Below w.heap.size w wr) (fun iv _=>s.length - (RowKit.intOf iv).toNat)
 case atStart=>exact⟨i,hi,rfl,hid rfl,Below.refl _ _⟩
 case round =>
  obtain⟨k,hk,rfl,hu,hb⟩:=hrel
  have hS1:=hS.below hb
  have hN1:=hN.below hb
  have ht:=hS1.text
  by_cases hlt:k<s.length
  ·have d1:decide ((k:Int)<(s.length:Int))=true:=by simp;omega
   have A:=hid (at_any b k s wr hs (by omega) hS1)
   clear hS hS1
   go_wp2_with fail
   refine A.out.mono ?_
   rintro e w1 ⟨rfl,hb1⟩
   have hN2:=hN1.below hb1
   have C:=hid (Tryz.slices_Contains_int g 0 cn cap (cl.map Int.ofNat) (CH.clsAt s k) w1 (by simp;omega) (by omega) (fun j hj=>hN2.cells j (by simpa using hj)))
   clear A hN hN1 hN2
   generalize hx:CH.clsAt s k=x at *
   go_wp2_with fail
   refine C.out.mono ?_
   clear C
   rw [← hcn,contains_map]
   rintro e w2 ⟨rfl,hw2⟩
   subst hw2
   have hb2:=hb.trans (hb1.mono hb.size)
   cases hc:cl.contains x with
   | true =>
    have hg:=hu.out
    rw [CH.whil_go s cl k hlt (by rw [hx];exact hc)] at hg
    have HG:=hid hg
    clear hg hu
    go_wp2
    go_roundw
    case rel=>exact⟨k+1,by omega,by go_num,HG,hb2⟩
    case measure=>simp [RowKit.intOf];omega
   | false =>
    have hg:=hu.out
    rw [CH.whil_stop s cl k (.inr (by rw [hx];exact hc))] at hg
    have HG:=hid hg
    clear hg hu
    go_wp2
    go_ret
    exact⟨by rw [← HG.out];rfl,hb2⟩
  ·have d1:decide ((k:Int)<(s.length:Int))=false:=by simp;omega
   have hg:=hu.out
   rw [CH.whil_stop s cl k (.inl (by omega))] at hg
   have HG:=hid hg
   clear hg hu hS hS1 hN hN1
   go_wp2
   go_ret
   exact⟨by rw [← HG.out];rfl,hb⟩
theorem extract_drop (s:List UInt8) (p:Nat):(ByteArray.mk s.toArray).extract p s.length=⟨(s.drop p).toArray⟩:=by
 rw [ByteArray.extract_mk]
 simp
 rw [List.take_of_length_le (by simp)]
theorem Cf (s:List UInt8) (p q:Nat):(ByteArray.mk s.toArray).extract p q=⟨((s.drop p).take (q - p)).toArray⟩:=by
 rw [ByteArray.extract_mk]
theorem indexByte_eq (c:UInt8):∀ l:List UInt8,Lib.indexByte l c=match l.findIdx? (·==c) with|none=>-1|some n=>(n:Int):=by
 intro l
 induction l with
 | nil=>rfl
 | cons b l ih =>
  rw [Lib.indexByte,List.findIdx?_cons,ih]
  by_cases h:b==c
  ·simp [h]
  ·cases hf:l.findIdx? (·==c) with
   | none=>simp [h]
   | some n =>
    have:¬ ((n:Int) = -1):=by omega
    simp [h,this]
theorem nums_alloc (w:World) (cl:List Nat) (t:TypeId):Nums w.heap.size cl (w.alloc (.cells (cl.map fun c=>Value.int .i64 (c:Nat)).toArray t)):=by
 refine⟨by simp,fun j hj=>?_⟩
 rw [World.cell?_alloc_mark]
 simp [hj]
theorem gap_any (b i:Nat) (s:List UInt8) (w:World) (hs:s.length≤1000000) (hi:i≤s.length) (hS:Scan b s w) :
  Calls prog 146 #[.pointer (some ⟨b,0,none⟩),.int .i64 i] w (Ret w (.int .i64 (CH.gap s i))):=by
 have hBa:∀ o,Below w.heap.size w (w.alloc o):=fun o=>(Below.refl _ w).alloc nR _
 have A:=hid fun t=>while_any b i w.heap.size 1 s [1] (w.alloc (.cells #[.int .i64 1] t)) hs hi (by decide) (hS.below (hBa _)) (nums_alloc w [1] t)
 go_enter func146,ntmps146
 go_wp2_with fail
 refine (A.out _).mono ?_
 rintro e w1 ⟨rfl,hb1⟩
 have hb1':=(hBa _).trans (hb1.mono (by simp))
 clear hb1 A hBa
 have hwl:=CH.whil_le s [1] i hi
 generalize hpp:CH.whil s [1] i=p at *
 go_wp2_with fail
 go_loopw [1] (fun iv wr=>∃ k:Nat,k≤s.length∧CH.whil s [1] k≤s.length∧iv=.int .i64 (CH.whil s [1] k)∧Hid (CH.gap s k=CH.gap s i)∧Below w.heap.size w wr) (fun iv _=>s.length+1 - (RowKit.intOf iv).toNat)
 case atStart=>exact⟨i,hi,by rw [hpp];exact hwl,by rw [hpp],hid rfl,hb1'⟩
 case round =>
  obtain⟨k,hk,hkl,rfl,hu,hb⟩:=hrel
  have hkge:=CH.whil_ge s [1] k
  have hS1:=hS.below hb
  have ht:=hS1.text
  have A:=hid (at_any b (CH.whil s [1] k) s wr hs (by omega) hS1)
  have hq:∃ q,Hid (q=CH.whil s [1] k):=⟨_,hid rfl⟩
  obtain⟨q,hq⟩:=hq
  rw [← hq.out] at A hkl hkge ⊢
  clear hS1
  go_wp2_with fail
  refine A.out.mono ?_
  rintro e w1 ⟨rfl,hb1⟩
  clear A
  have hbn:=hb.trans (hb1.mono hb.size)
  have hS2:=hS.below hbn
  have ht2:=hS2.text
  by_cases hc:CH.clsAt s q=2
  ·have hlt:q<s.length:=by
    apply Classical.byContradiction
    intro hn
    rw [CH.clsAt_ge s q (by omega)] at hc
    exact absurd hc (by decide)
   rw [hc]
   cases hf:(s.drop q).findIdx? (·==10) with
   | none =>
    have HR:=hid (hu.out.symm.trans (CH.gap_none s k hk (by rw [← hq.out];exact hc) (by rw [← hq.out];exact hf)))
    have hI:Lib.indexByte (ByteArray.mk (s.drop q).toArray).data.toList ((10:Int).toNat.toUInt8) = -1:=by
     show Lib.indexByte (s.drop q) 10 = -1
     rw [indexByte_eq,hf]
    have C:=hid (Tryz.strings_IndexByte ((ByteArray.mk s.toArray).extract q s.length) 10 w1)
    rw [extract_drop,hI] at C
    clear hu hc hf hI hS2
    go_wp2_with fail
    rw [extract_drop]
    refine C.out.mono ?_
    rintro e w2 ⟨rfl,hw2⟩
    subst hw2
    clear C
    go_wp2
    go_ret
    exact⟨by rw [HR.out];rfl,hbn⟩
   | some n =>
    obtain⟨g1,g2,g3⟩:=CH.gap_some s k n hk (by rw [← hq.out];exact hc) (by rw [← hq.out];exact hf)
    rw [← hq.out] at g1 g2 g3
    have HR:=hid (g1.symm.trans hu.out)
    have hI:Lib.indexByte (ByteArray.mk (s.drop q).toArray).data.toList ((10:Int).toNat.toUInt8)=n:=by
     show Lib.indexByte (s.drop q) 10=n
     rw [indexByte_eq,hf]
    have C:=hid (Tryz.strings_IndexByte ((ByteArray.mk s.toArray).extract q s.length) 10 w1)
    rw [extract_drop,hI] at C
    have hw:=CH.whil_ge s [1] (q+n)
    have hwl2:=CH.whil_le s [1] (q+n) (by omega)
    have hn0:n≠0:=by
     intro e
     subst e
     obtain⟨_,hb0,_⟩:=List.findIdx?_eq_some_iff_getElem.1 hf
     have hg:=lZ hlt
     rw [CH.clsAt_lt s _ _ hg] at hc
     have:s[q]=10:=by simpa using hb0
     rw [this] at hc
     exact absurd hc (by decide)
    clear hu hc hf hI g1
    have d1:decide ((n:Int)<0)=false:=by simp
    have hBa:∀ o,Below w1.heap.size w1 (w1.alloc o):=fun o=>(Below.refl _ w1).alloc nR _
    have A:=hid fun t=>while_any b (q+n) w1.heap.size 1 s [1] (w1.alloc (.cells #[.int .i64 1] t)) hs (by omega) (by decide) (hS2.below (hBa _)) (nums_alloc w1 [1] t)
    clear hS2
    go_wp2_with fail
    rw [extract_drop]
    refine C.out.mono ?_
    rintro e w2 ⟨rfl,hw2⟩
    subst hw2
    clear C
    go_wp2_with fail
    refine (A.out _).mono ?_
    rintro e w3 ⟨rfl,hb3⟩
    clear A
    have hb3':=hbn.trans (((hBa _).trans (hb3.mono (by simp))).mono hbn.size)
    clear hb3
    go_wp2
    go_roundw
    case rel=>exact⟨q+n,by omega,hwl2,rfl,HR,hb3'⟩
    case measure=>simp [RowKit.intOf];omega
  ·have d1:((CH.clsAt s q:Int)==2)=false:=by simp;omega
   have HR:=hid (hu.out.symm.trans (CH.gap_stop s k hk (by rw [← hq.out];exact hc)))
   rw [← hq.out] at HR
   generalize CH.clsAt s q=x at *
   clear hS2
   go_wp2
   go_ret
   exact⟨by rw [HR.out];rfl,hbn⟩
set_option maxRecDepth 1000000 in
theorem indexRune_high (r:Int) (w:World) (h0:128≤r) (h1:r≤1114111) :
  Calls prog 224 #[.string ⟨#[34,10]⟩,.int .i32 r] w (Ret w (.int .i64 (-1))):=by
 by_cases he:r=65533
 ·subst he
  go_enter func224,ntmps224
  go_wp2_with fail
  go_loopg [5,6] 2 (fun g _ _ wx=>∃ i:Nat,i+g=2∧wx=w.iter ⟨#[34,10]⟩ i)
  case atStart=>exact⟨0,rfl,rfl⟩
  case round =>
   obtain⟨i,hig,rfl⟩:=hrel
   rcases gk with _|_|_|g
   ·obtain rfl:i=2:=by omega
    have hnx:=fun ty=>run_next_end (P:=prog) w ⟨#[34,10]⟩ 2 ty (by decide)
    go_wp2
    go_ret
    exact⟨rfl,(Below.refl _ _).alloc nR _⟩
   ·obtain rfl:i=1:=by omega
    have hnx:=fun ty=>run_next_ascii (P:=prog) w ⟨#[34,10]⟩ 1 ty (by decide) (by decide)
    go_wp2
    go_roundg 0
    case measure=>omega
    case rel=>exact⟨2,by omega,rfl⟩
   ·obtain rfl:i=0:=by omega
    have hnx:=fun ty=>run_next_ascii (P:=prog) w ⟨#[34,10]⟩ 0 ty (by decide) (by decide)
    go_wp2
    go_roundg 1
    case measure=>omega
    case rel=>exact⟨1,by omega,rfl⟩
   ·omega
 ·have V:=Tryz.utf8_ValidRune r w
  obtain⟨v,hv⟩:∃ v,Lib.validRune r=v:=⟨_,rfl⟩
  rw [hv] at V
  have hb1:(r==65533)=false:=by simpa using he
  have hb2:decide (r<128)=false:=by simp;omega
  cases v with
  | false =>
   clear hv
   go_enter func224,ntmps224
   go_wp2_with fail
   refine V.mono ?_
   rintro e w' ⟨rfl,hw⟩
   rw [hw]
   clear V hw
   go_wp2
   go_ret
   exact⟨rfl,Below.refl _ _⟩
  | true =>
   clear hv
   go_enter func224,ntmps224
   go_wp2_with fail
   refine V.mono ?_
   rintro e w' ⟨rfl,hw⟩
   rw [hw]
   clear V hw
   by_cases hlt:r<2048
   ·have hen:Utf8.encode r=⟨#[UInt8.ofNat (192+r.toNat / 64),UInt8.ofNat (128+r.toNat % 64)]⟩:=by
     have hval:Utf8.valid r=true:=by simp [Utf8.valid];omega
     unfold Utf8.encode
     simp only [hval,if_true]
     rw [if_neg (by omega),if_pos (by omega)]
    generalize UInt8.ofNat (192+r.toNat / 64)=b1 at hen
    obtain⟨b2,hb2'⟩:∃ b2,UInt8.ofNat (128+r.toNat % 64)=b2:=⟨_,rfl⟩
    have hb3:128≤b2.toNat:=by rw [← hb2'];simp [UInt8.toNat_ofNat'];omega
    rw [hb2'] at hen
    clear hb2'
    have hne:((10:Int) != (b2.toNat:Int))=true:=by simp;omega
    go_wp2_with fail
    go_step3
    go_wp2_with fail
    go_loopg [9] 0 (fun g v wx=>wx=w∧v=.int .i64 1)
    case atStart=>exact⟨rfl,rfl⟩
    case round =>
     obtain⟨rfl,rfl⟩:=hrel
     go_wp2_with fail
     go_step3
     go_wp2_with fail
     have hx1:∀ h,(⟨#[34,10]⟩:ByteArray)[1]'h=10:=fun _=>rfl
     have hx2:∀ h,(⟨#[b1,b2]⟩:ByteArray)[1]'h=b2:=fun _=>rfl
     refine wp_region_quiet_below (by kernel_rfl) (by kernel_rfl) ?_
     repeat (quiet_step (fail))
     refine wpQuiet_nil ?_
     intro wq hbq
     replace hbq:=Ae hbq
     go_wp2_with fail
     have hw2:IntKind.i64.wrap 2=2:=by decide
     have hbq1:=hbq
     clear hbq
     generalize wq=wq1 at *
     have IB:∀ (W:World),Calls prog 98 #[.string ⟨#[]⟩,.int .u8 (b2.toNat:Int)] W (fun e w'=>e=.returned (.int .i64 (-1))∧Below W.heap.size W w'):=fun W=>(Tryz.strings_IndexByte ⟨#[]⟩ (b2.toNat:Int) W).mono fun e w' ⟨h1,h2⟩=>⟨h1,h2 ▸ Below.refl _ _⟩
     refine wp_region_quiet_below (by kernel_rfl) (by kernel_rfl) ?_
     repeat (quiet_step (exact Calls.regrown_of (IB _)))
     refine wpQuiet_nil ?_
     intro wq hbq
     replace hbq:=Ae hbq
     go_wp2_with fail
     rw [Exit.noGoto_ret]
     go_wp2_with fail
     rw [Exit.noGoto_ret]
     go_ret
     exact⟨rfl,hbq1.trans (hbq.mono hbq1.size)⟩
   ·obtain⟨E,hE⟩:∃ E,Utf8.encode r=E:=⟨_,rfl⟩
    have hE3:3≤E.size∧E.size≤4:=by
     rw [← hE]
     unfold Utf8.encode
     cases hv:Utf8.valid r
     ·exact (by decide:3≤(Utf8.encode (-1)).size∧(Utf8.encode (-1)).size≤4)
     ·simp only [if_true]
      rw [if_neg (by omega),if_neg (by omega)]
      split
      ·exact⟨Nat.le_refl 3,show 3≤4 by omega⟩
      ·exact⟨show 3≤4 by omega,Nat.le_refl 4⟩
    have hE':=hid hE
    go_wp2_with fail
    go_step3
    go_wp2_with fail
    go_loopg [9] 0 (fun g v wx=>wx=w∧v=.int .i64 ((E.size:Int) - 1))
    case atStart=>exact⟨rfl,rfl⟩
    case round =>
     obtain⟨rfl,rfl⟩:=hrel
     go_wp2_with fail
     rw [Exit.noGoto_ret]
     go_ret
     exact⟨rfl,Below.refl _ _⟩
theorem get!_lt (s:ByteArray) (k:Nat) (h:k<s.size):s.get! k=s[k]'h:=by
 simp [ByteArray.get!,getElem!_pos,h]
 rfl
theorem decode_high (s:ByteArray) (i:Nat) (h:i<s.size) (h128:128≤(s[i]'h).toNat) :
  128≤(Utf8.decode s i).1∧(Utf8.decode s i).1≤1114111∧1≤(Utf8.decode s i).2∧i+(Utf8.decode s i).2≤s.size∧∀ j,i≤j→j<i+(Utf8.decode s i).2→128≤(s.get! j).toNat:=by
 have g0:128≤(s.get! i).toNat:=by rw [get!_lt s i h];exact h128
 have one:∀ (r:Nat),128≤r→r≤1114111→128≤(r,1).1∧(r,1).1≤1114111∧1≤(r,1).2∧i+(r,1).2≤s.size∧∀ j,i≤j→j<i+(r,1).2→128≤(s.get! j).toNat:=fun r h1 h2 =>
  ⟨h1,h2,Nat.le_refl _,h,fun j hj1 hj2=>by have e:j=i:=(by dsimp only at hj2;omega);subst e;exact g0⟩
 have b0:=(s.get! i).toNat_lt
 unfold Utf8.decode
 simp only [Nat.add_zero,Utf8.runeError]
 rw [if_neg (by omega)]
 split
 ·rename_i hc
  simp only [Bool.and_eq_true,decide_eq_true_eq,beq_iff_eq] at hc
  obtain⟨hb,hl1,hc1⟩:=hc
  split
  ·refine⟨by omega,by omega,by omega,by omega,fun j hj1 hj2=>?_⟩
   rcases (by omega:j=i∨j=i+1) with rfl|rfl
   ·exact g0
   ·omega
  ·exact one _ (by decide) (by decide)
 ·split
  ·rename_i hc
   simp only [Bool.and_eq_true,decide_eq_true_eq,beq_iff_eq] at hc
   obtain⟨⟨hb,hl1,hc1⟩,hl2,hc2⟩:=hc
   split
   ·refine⟨by simp_all;omega,by omega,by omega,by omega,fun j hj1 hj2=>?_⟩
    rcases (by omega:j=i∨j=i+1∨j=i+2) with rfl|rfl|rfl
    ·exact g0
    ·omega
    ·omega
   ·exact one _ (by decide) (by decide)
  ·split
   ·rename_i hc
    simp only [Bool.and_eq_true,decide_eq_true_eq,beq_iff_eq] at hc
    obtain⟨⟨⟨hb,hl1,hc1⟩,hl2,hc2⟩,hl3,hc3⟩:=hc
    split
    ·rename_i hv
     simp only [Bool.and_eq_true,decide_eq_true_eq,Utf8.valid,Bool.or_eq_true] at hv
     refine⟨by omega,by omega,by omega,by omega,fun j hj1 hj2=>?_⟩
     rcases (by omega:j=i∨j=i+1∨j=i+2∨j=i+3) with rfl|rfl|rfl|rfl
     ·exact g0
     ·omega
     ·omega
     ·omega
    ·exact one _ (by decide) (by decide)
   ·exact one _ (by decide) (by decide)
theorem run_next_at {P:Program} {w:World} {B:Nat} {s:ByteArray} {pos:Nat} (hB:w.heap[B]?=some (.stringIter s pos)) (ty:TypeId) (h:pos<s.size) :
  (Instr.next (.pointer (some ⟨B,0,none⟩)) true ty).run P w =
   .ok (.tuple #[.bool true,.int .i64 pos,.int .i32 (Utf8.decode s pos).1]) (w.putObj B (.stringIter s (pos+(Utf8.decode s pos).2))):=by
 simp [Instr.next,getObj,setObj,Sem.run,hB,Result.andThen,h,goInt,World.putObj]
theorem run_next_at_end {P:Program} {w:World} {B:Nat} {s:ByteArray} {pos:Nat} (hB:w.heap[B]?=some (.stringIter s pos)) (ty:TypeId) (h:¬ pos<s.size) :
  (Instr.next (.pointer (some ⟨B,0,none⟩)) true ty).run P w=.ok (.tuple #[.bool false]) w:=by
 simp [Instr.next,getObj,Sem.run,hB,h]
theorem putObj_below0 {w w1:World} {B r:Nat} (h:Below B w w1) (hr:B≤r) (o:Obj):Below B w (w1.putObj r o) :=
 ⟨h.os,h.tape,h.output,by simp [World.putObj];exact h.size,fun k hk=>by rw [World.putObj_heap_other (by omega)];exact h.block k hk⟩
def IterRel (s:ByteArray) (w:World) (g:Nat) (wx:World):Prop :=
 ∃ i:Nat,s.size≤i+g∧i≤s.size∧Below w.heap.size w wx∧wx.heap[w.heap.size]?=some (.stringIter s i)∧Lib.NoAny s.data.toList [34,10] i
set_option maxRecDepth 1000000 in
theorem indexAny_short (s:ByteArray) (w:World) (h8:s.size≤8) :
  Calls prog 189 #[.string s,.string ⟨#[34,10]⟩] w (Ret w (.int .i64 (Lib.indexAny s.data.toList [34,10]))):=by
 have h8z:decide ((8:Int)<(s.size:Int))=false:=decide_eq_false (by omega)
 have SA:=fun (n:Int) (W:World)=>Any.strings_shouldUseASCIISet (P:=prog) (ρ:=Tryz.lays153_ren) { lays153 with } n W
 have HI:=fun (r:Int) (W:World)=>indexRune_high r W
 have HI:=hid HI
 have HA:=hid fun (r:Int) (W:World)=>Tryz.strings_IndexRune_ascii ⟨#[34,10]⟩ r W
 have SA:=hid SA
 obtain⟨R,hR⟩:∃ R,Hid (Lib.indexAny s.data.toList [34,10]=R):=⟨_,hid rfl⟩
 rw [hR.out]
 go_enter func189,ntmps189
 go_wp2_with fail
 refine (SA.out _ _).mono ?_
 rintro e w' ⟨rfl,hw⟩
 rw [hw,h8z]
 clear hw SA
 go_wp2_with fail
 go_loopg [9,10] s.size (fun g _ _ wx=>IterRel s w g wx)
 case atStart=>exact⟨0,by omega,by omega,(Below.refl _ _).alloc nR _,World.iter_heap w s 0,Lib.NoAny.zero _ _⟩
 case round =>
  obtain⟨i,hig,hile,hb,hit,hno⟩:=hrel
  have HN:=hid hno
  have Hit:=hid hit
  have hsz:w.heap.size<wr.heap.size:=(aZ hit)
  clear hno
  by_cases hi:i<s.size
  ·cases gk with
   | zero=>omega
   | succ g =>
    have hnx:=fun ty=>run_next_at (P:=prog) hit ty hi
    have hbp:=fun o=>putObj_below0 hb (Nat.le_refl w.heap.size) o
    have hip:=fun o=>World.putObj_heap_same (w:=wr) (o:=o) hsz
    obtain⟨x,hx⟩:∃ x:UInt8,s[i]'hi=x:=⟨_,rfl⟩
    have Hx:Hid (s.data.toList[i]?=some x):=hid (by rw [← hx];exact Lib.data_getElem? s i hi)
    by_cases hx1:x.toNat<128
    ·have hd:=decode_ascii s i hi (by rw [hx];exact hx1)
     rw [hd,hx] at hnx
     dsimp only at hnx
     have hcon:=Lib.contains_iff_indexByte [34,10] x
     have hback:((x.toNat:Int)).toNat.toUInt8=x:=by simp
     clear hit hd hx
     cases hin:List.contains [34,10] x with
     | false =>
      rw [hin] at hcon
      have hlt:decide ((0:Int)≤Lib.indexByte [34,10] x)=false:=hcon.symm
      clear hcon
      go_wp2_with fail
      refine (HA.out _ _ (by omega) (by omega)).mono ?_
      rintro e w' ⟨rfl,hw⟩
      rw [hw,hback]
      clear hw
      go_wp2
      go_roundg g
      case measure=>omega
      case rel=>exact⟨i+1,by omega,by omega,hbp _,hip _,HN.out.succ Hx.out hin⟩
     | true =>
      rw [hin] at hcon
      have hlt:decide ((0:Int)≤Lib.indexByte [34,10] x)=true:=hcon.symm
      clear hcon
      go_wp2_with fail
      refine (HA.out _ _ (by omega) (by omega)).mono ?_
      rintro e w' ⟨rfl,hw⟩
      rw [hw,hback]
      clear hw
      go_wp2
      go_ret
      exact⟨ret_int (by rw [← hR.out,Lib.indexAny_hit HN.out Hx.out hin]),hbp _⟩
    ·have hd:=decode_high s i hi (by rw [hx];omega)
     obtain⟨d1,hd1⟩:∃ d,(Utf8.decode s i).1=d:=⟨_,rfl⟩
     obtain⟨d2,hd2⟩:∃ d,(Utf8.decode s i).2=d:=⟨_,rfl⟩
     rw [hd1,hd2] at hnx
     rw [hd1,hd2] at hd
     obtain⟨e1,e2,e3,e4,e5⟩:=hd
     have HN2:Hid (Lib.NoAny s.data.toList [34,10] (i+d2)):=hid fun j b hj hb'=>by
      by_cases hji:j<i
      ·exact HN.out j b hji hb'
      ·have h1:=e5 j (by omega) hj
       have h2:j<s.size:=by omega
       rw [get!_lt s j h2] at h1
       rw [Lib.data_getElem? s j h2] at hb'
       cases hb'
       generalize s[j]=c at h1
       simp only [List.contains_eq_mem,List.mem_cons,List.not_mem_nil,or_false,decide_eq_false_iff_not]
       rintro (rfl|rfl) <;> exact absurd h1 (by decide)
     clear hit hx hd1 hd2 e5 Hx
     go_wp2_with fail
     refine (HI.out _ _ (by omega) (by omega)).mono ?_
     rintro e w1 ⟨rfl,hb1⟩
     have hB2:Below w.heap.size w w1:=(hbp _).trans (hb1.mono (hbp _).size)
     have hI2:=(hb1.block w.heap.size (by simp [World.putObj];exact hsz)).trans (hip _)
     clear hnx hbp hip
     go_wp2
     go_roundg g
     case measure=>omega
     case rel=>exact⟨i+d2,by omega,by omega,hB2,hI2,HN2.out⟩
  ·obtain rfl:i=s.size:=by omega
   have hnx:=fun ty=>run_next_at_end (P:=prog) hit ty hi
   clear hit
   go_wp2
   go_ret
   exact⟨ret_int (by rw [← hR.out,Lib.indexAny_none (by rw [← Lib.size_eq];exact HN.out)]),hb⟩
theorem indexAny_any (s:List UInt8) (w:World) (hs:s.length≤1000000) :
  Calls prog 189 #[.string ⟨s.toArray⟩,.string ⟨#[34,10]⟩] w (Ret w (.int .i64 (Lib.indexAny s [34,10]))):=by
 have hz:(⟨s.toArray⟩:ByteArray).size=s.length:=by simp [ByteArray.size]
 by_cases h8:s.length≤8
 ·have:=indexAny_short ⟨s.toArray⟩ w (by omega)
  simpa using this
 ·have:=Tryz.strings_IndexAny_long (fun w=>by kernel_rfl) ⟨s.toArray⟩ ⟨#[34,10]⟩ w (by decide) (by omega) (by omega) (by decide) (fun j b hj=>by
   rcases j with _|_|j
   ·cases hj;decide
   ·cases hj;decide
   ·simp at hj)
  refine this.mono fun e w' ⟨h1,h2⟩=>⟨by simpa using h1,?_⟩
  rw [h2]
  exact ((Below.refl _ _).alloc nR _).alloc (by simp) _
end
section
open Go.Lib Go.Proofs.Tryz Go.RowKit Go.Shelf
theorem two_boxesL (w:World) (o1 o2:Obj):((w.alloc o1).alloc o2).heap[w.heap.size]?=some o1∧((w.alloc o1).alloc o2).heap[w.heap.size+1]?=some o2:=by
 simp only [World.alloc,Array.getElem?_push,Array.size_push]
 exact⟨by rw [if_neg (by omega),if_pos trivial],by rw [if_pos trivial]⟩
theorem C9 {P:Program} {fn:Func} {p:Tmp} {ty:TypeId} (h:fn.results=#[.cell p ty]) (tmps:Array Value) (w:World) (a:Addr) (v:Value)
  (hp:tmps.getD p undef=.pointer (some a)) (hl:(loadVar ty a).run P w=.ok v w):(results fn tmps).run P w=.ok v w:=by
 simp only [results,h]
 have hp':tmps[p]?.getD undef=.pointer (some a):=by simpa using hp
 simp [asAddr]
 rw [hp']
 simpa [Result.andThen] using hl
def Bi (c:Nat) (s:List UInt8) (cs:Array Value):Array Value:=s.foldl (fun cs ch=>cs.setIfInBounds ch.toNat (.int .i64 c)) cs
theorem B7 (c:Nat) (s:List UInt8):∀ cs:Array Value,(Bi c s cs).size=cs.size:=by
 induction s with
 | nil=>intro cs;rfl
 | cons x r ih=>intro cs;unfold Bi at *;rw [List.foldl_cons,ih];simp
theorem setAll_snoc (c:Nat) (s:List UInt8) (x:UInt8) (cs:Array Value):Bi c (s++[x]) cs=(Bi c s cs).setIfInBounds x.toNat (.int .i64 c):=by
 simp [Bi]
theorem Co (c:Nat) (s:List UInt8):∀ cs:Array Value,(∀ v∈cs,v.oneCell'=true)→∀ v∈Bi c s cs,v.oneCell'=true:=by
 induction s with
 | nil=>intro cs h;exact h
 | cons x r ih =>
  intro cs h
  unfold Bi at *
  rw [List.foldl_cons]
  refine ih _ (fun v hv=>?_)
  rcases Array.mem_or_eq_of_mem_setIfInBounds hv with h1|h1
  ·exact h v h1
  ·rw [h1];rfl
theorem set_any (s:List UInt8) (c b:Nat) (cs:Array Value) (w:World) (hlen:s.length≤1000000) (hb:w.heap[b]?=some (.cells cs 213 (0,0))) (hsz:cs.size=256) :
  Calls prog 185 #[.string ⟨s.toArray⟩,.int .i64 c,.pointer (some ⟨b,0,none⟩)] w (fun e w'=>e=.returned (.tuple #[])∧w'.heap[b]?=some (.cells (Bi c s cs) 213 (0,0))∧KeepBut (·=b) w w'):=by
 go_enter func185,ntmps185
 go_wp2_with fail
 go_loopw [5] (fun kv wr=>∃ k:Nat,k≤s.length∧kv=.int .i64 k∧wr.heap[b]?=some (.cells (Bi c (s.take k) cs) 213 (0,0))∧KeepBut (·=b) w wr) (fun kv _=>s.length - (RowKit.intOf kv).toNat)
 case atStart=>exact⟨0,Nat.zero_le _,rfl,by simpa [Bi] using hb,KeepBut.refl _ _⟩
 case round =>
  obtain⟨k,hk,rfl,hbk,hkp⟩:=hrel
  by_cases hlt:k<s.length
  ·have hcs:(Bi c (s.take k) cs).size=256:=by rw [B7];exact hsz
   obtain⟨ch,hch⟩:∃ ch,s[k]?=some ch:=⟨_,lZ hlt⟩
   have hchb:ch.toNat<256:=UInt8.toNat_lt ch
   obtain⟨u,hu⟩:∃ u,(Bi c (s.take k) cs)[ch.toNat]?=some u:=⟨_,Array.getElem?_eq_getElem (by rw [hcs];exact hchb)⟩
   have hgk:(⟨s.toArray⟩:ByteArray)[k]'(by show k<s.toArray.size;simpa using hlt)=ch:=by
    rw [lZ hlt] at hch
    show s.toArray[k]'(by simpa using hlt)=ch
    simpa using hch
   have hchi:((ch.toNat:Nat):Int)<256:=by omega
   have hcell:wr.cell? ⟨b,ch.toNat,none⟩=some u:=by rw [cell_of hbk];exact hu
   have hfro:wr.frozen? ⟨b,ch.toNat,none⟩=false:=Aj hbk _
   generalize hcs':Bi c (s.take k) cs=cs' at *
   clear hb
   go_wp2_with fail
   refine⟨⟨k+1,by omega,by go_num,?_,hkp.setCell rfl _⟩,by simp [RowKit.intOf];omega⟩
   have:=Ai wr b ch.toNat (.int .i64 c) _ _ _ hbk
   rw [this,List.take_add_one,hch,Option.toList_some,setAll_snoc,hcs']
  ·have e:k=s.length:=by omega
   subst e
   rw [List.take_length] at hbk
   go_wp2
   go_end0
   exact⟨rfl,hbk,hkp⟩
noncomputable def Bv:Array Value:=(Bi 9 [59,44,46,58,40,41,91,93,123,125,61,43,45] (Bi 8 [60,62] (Bi 7 [33] (Bi 6 [34] (Bi 2 [35] (Bi 1 [32,9,10] (Bi 5 [95] (Bi 4 [48,49,50,51,52,53,54,55,56,57] (Bi 3 [97,98,99,100,101,102,103,104,105,106,107,108,109,110,111,112,113,114,115,116,117,118,119,120,121,122,65,66,67,68,69,70,71,72,73,74,75,76,77,78,79,80,81,82,83,84,85,86,87,88,89,90] Tryz.zeroCells213)))))))))
theorem classes_any (w:World):Calls prog 145 #[] w (fun e w'=>e=.returned (.agg Bv)∧Below w.heap.size w w'):=by
 obtain⟨cs0,E0⟩:∃ x,Hid (x=Tryz.zeroCells213):=⟨_,hid rfl⟩
 have z0:cs0.size=256:=by rw [E0.out];kernel_rfl
 have z00:=z0
 have o0:∀ v∈cs0,v.oneCell'=true:=by
  rw [E0.out]
  exact fun v hv=>Array.all_eq_true'.1 (by kernel_rfl:Tryz.zeroCells213.all (·.oneCell')=true) v hv
 go_enter func145,ntmps145
 go_wp2_with fail
 rw [← E0.out]
 have hB:=two_boxesL w (.cells cs0 213) (.cells cs0 213)
 have b0:Below w.heap.size w ((w.alloc (.cells cs0 213)).alloc (.cells cs0 213)):=((Below.refl _ w).alloc nR _).alloc (by simp) _
 have hs0:w.heap.size+1<((w.alloc (.cells cs0 213)).alloc (.cells cs0 213)).heap.size:=by simp
 generalize (w.alloc (.cells cs0 213)).alloc (.cells cs0 213)=w0 at *
 obtain⟨r0,c0⟩:=hB
 refine (set_any [97,98,99,100,101,102,103,104,105,106,107,108,109,110,111,112,113,114,115,116,117,118,119,120,121,122,65,66,67,68,69,70,71,72,73,74,75,76,77,78,79,80,81,82,83,84,85,86,87,88,89,90] 3 (w.heap.size+1) _ w0 (by decide) c0 z0).mono ?_
 rintro e w1 ⟨rfl,c1,k1⟩
 have b1:=b0.trans (k1.below (B:=w.heap.size) (Nat.le_of_lt (Nat.lt_of_succ_lt hs0)) (fun k e=>by rw [e];exact Nat.le_succ _))
 have hs1:w.heap.size+1<w1.heap.size:=nL hs0 k1.size
 have r1:=(k1.block w.heap.size (Nat.lt_of_succ_lt hs0) (Nat.ne_of_lt (Nat.lt_succ_self _))).trans r0
 have z1:=(B7 3 [97,98,99,100,101,102,103,104,105,106,107,108,109,110,111,112,113,114,115,116,117,118,119,120,121,122,65,66,67,68,69,70,71,72,73,74,75,76,77,78,79,80,81,82,83,84,85,86,87,88,89,90] cs0).trans z0
 obtain⟨cs1,E1⟩:∃ x,Hid (x=Bi 3 [97,98,99,100,101,102,103,104,105,106,107,108,109,110,111,112,113,114,115,116,117,118,119,120,121,122,65,66,67,68,69,70,71,72,73,74,75,76,77,78,79,80,81,82,83,84,85,86,87,88,89,90] cs0):=⟨_,hid rfl⟩
 rw [← E1.out] at c1 z1
 have o1:∀ v∈cs1,v.oneCell'=true:=by rw [E1.out];exact Co _ _ _ o0
 clear o0
 clear k1 b0 c0 r0 z0 hs0
 go_wp2_with fail
 refine (set_any [48,49,50,51,52,53,54,55,56,57] 4 (w.heap.size+1) _ w1 (by decide) c1 z1).mono ?_
 rintro e w2 ⟨rfl,c2,k2⟩
 have b2:=b1.trans (k2.below (B:=w.heap.size) (Nat.le_of_lt (Nat.lt_of_succ_lt hs1)) (fun k e=>by rw [e];exact Nat.le_succ _))
 have hs2:w.heap.size+1<w2.heap.size:=nL hs1 k2.size
 have r2:=(k2.block w.heap.size (Nat.lt_of_succ_lt hs1) (Nat.ne_of_lt (Nat.lt_succ_self _))).trans r1
 have z2:=(B7 4 [48,49,50,51,52,53,54,55,56,57] cs1).trans z1
 obtain⟨cs2,E2⟩:∃ x,Hid (x=Bi 4 [48,49,50,51,52,53,54,55,56,57] cs1):=⟨_,hid rfl⟩
 rw [← E2.out] at c2 z2
 have o2:∀ v∈cs2,v.oneCell'=true:=by rw [E2.out];exact Co _ _ _ o1
 clear o1
 clear k2 b1 c1 r1 z1 hs1
 go_wp2_with fail
 refine (set_any [95] 5 (w.heap.size+1) _ w2 (by decide) c2 z2).mono ?_
 rintro e w3 ⟨rfl,c3,k3⟩
 have b3:=b2.trans (k3.below (B:=w.heap.size) (Nat.le_of_lt (Nat.lt_of_succ_lt hs2)) (fun k e=>by rw [e];exact Nat.le_succ _))
 have hs3:w.heap.size+1<w3.heap.size:=nL hs2 k3.size
 have r3:=(k3.block w.heap.size (Nat.lt_of_succ_lt hs2) (Nat.ne_of_lt (Nat.lt_succ_self _))).trans r2
 have z3:=(B7 5 [95] cs2).trans z2
 obtain⟨cs3,E3⟩:∃ x,Hid (x=Bi 5 [95] cs2):=⟨_,hid rfl⟩
 rw [← E3.out] at c3 z3
 have o3:∀ v∈cs3,v.oneCell'=true:=by rw [E3.out];exact Co _ _ _ o2
 clear o2
 clear k3 b2 c2 r2 z2 hs2
 go_wp2_with fail
 refine (set_any [32,9,10] 1 (w.heap.size+1) _ w3 (by decide) c3 z3).mono ?_
 rintro e w4 ⟨rfl,c4,k4⟩
 have b4:=b3.trans (k4.below (B:=w.heap.size) (Nat.le_of_lt (Nat.lt_of_succ_lt hs3)) (fun k e=>by rw [e];exact Nat.le_succ _))
 have hs4:w.heap.size+1<w4.heap.size:=nL hs3 k4.size
 have r4:=(k4.block w.heap.size (Nat.lt_of_succ_lt hs3) (Nat.ne_of_lt (Nat.lt_succ_self _))).trans r3
 have z4:=(B7 1 [32,9,10] cs3).trans z3
 obtain⟨cs4,E4⟩:∃ x,Hid (x=Bi 1 [32,9,10] cs3):=⟨_,hid rfl⟩
 rw [← E4.out] at c4 z4
 have o4:∀ v∈cs4,v.oneCell'=true:=by rw [E4.out];exact Co _ _ _ o3
 clear o3
 clear k4 b3 c3 r3 z3 hs3
 go_wp2_with fail
 refine (set_any [35] 2 (w.heap.size+1) _ w4 (by decide) c4 z4).mono ?_
 rintro e w5 ⟨rfl,c5,k5⟩
 have b5:=b4.trans (k5.below (B:=w.heap.size) (Nat.le_of_lt (Nat.lt_of_succ_lt hs4)) (fun k e=>by rw [e];exact Nat.le_succ _))
 have hs5:w.heap.size+1<w5.heap.size:=nL hs4 k5.size
 have r5:=(k5.block w.heap.size (Nat.lt_of_succ_lt hs4) (Nat.ne_of_lt (Nat.lt_succ_self _))).trans r4
 have z5:=(B7 2 [35] cs4).trans z4
 obtain⟨cs5,E5⟩:∃ x,Hid (x=Bi 2 [35] cs4):=⟨_,hid rfl⟩
 rw [← E5.out] at c5 z5
 have o5:∀ v∈cs5,v.oneCell'=true:=by rw [E5.out];exact Co _ _ _ o4
 clear o4
 clear k5 b4 c4 r4 z4 hs4
 go_wp2_with fail
 refine (set_any [34] 6 (w.heap.size+1) _ w5 (by decide) c5 z5).mono ?_
 rintro e w6 ⟨rfl,c6,k6⟩
 have b6:=b5.trans (k6.below (B:=w.heap.size) (Nat.le_of_lt (Nat.lt_of_succ_lt hs5)) (fun k e=>by rw [e];exact Nat.le_succ _))
 have hs6:w.heap.size+1<w6.heap.size:=nL hs5 k6.size
 have r6:=(k6.block w.heap.size (Nat.lt_of_succ_lt hs5) (Nat.ne_of_lt (Nat.lt_succ_self _))).trans r5
 have z6:=(B7 6 [34] cs5).trans z5
 obtain⟨cs6,E6⟩:∃ x,Hid (x=Bi 6 [34] cs5):=⟨_,hid rfl⟩
 rw [← E6.out] at c6 z6
 have o6:∀ v∈cs6,v.oneCell'=true:=by rw [E6.out];exact Co _ _ _ o5
 clear o5
 clear k6 b5 c5 r5 z5 hs5
 go_wp2_with fail
 refine (set_any [33] 7 (w.heap.size+1) _ w6 (by decide) c6 z6).mono ?_
 rintro e w7 ⟨rfl,c7,k7⟩
 have b7:=b6.trans (k7.below (B:=w.heap.size) (Nat.le_of_lt (Nat.lt_of_succ_lt hs6)) (fun k e=>by rw [e];exact Nat.le_succ _))
 have hs7:w.heap.size+1<w7.heap.size:=nL hs6 k7.size
 have r7:=(k7.block w.heap.size (Nat.lt_of_succ_lt hs6) (Nat.ne_of_lt (Nat.lt_succ_self _))).trans r6
 have z7:=(B7 7 [33] cs6).trans z6
 obtain⟨cs7,E7⟩:∃ x,Hid (x=Bi 7 [33] cs6):=⟨_,hid rfl⟩
 rw [← E7.out] at c7 z7
 have o7:∀ v∈cs7,v.oneCell'=true:=by rw [E7.out];exact Co _ _ _ o6
 clear o6
 clear k7 b6 c6 r6 z6 hs6
 go_wp2_with fail
 refine (set_any [60,62] 8 (w.heap.size+1) _ w7 (by decide) c7 z7).mono ?_
 rintro e w8 ⟨rfl,c8,k8⟩
 have b8:=b7.trans (k8.below (B:=w.heap.size) (Nat.le_of_lt (Nat.lt_of_succ_lt hs7)) (fun k e=>by rw [e];exact Nat.le_succ _))
 have hs8:w.heap.size+1<w8.heap.size:=nL hs7 k8.size
 have r8:=(k8.block w.heap.size (Nat.lt_of_succ_lt hs7) (Nat.ne_of_lt (Nat.lt_succ_self _))).trans r7
 have z8:=(B7 8 [60,62] cs7).trans z7
 obtain⟨cs8,E8⟩:∃ x,Hid (x=Bi 8 [60,62] cs7):=⟨_,hid rfl⟩
 rw [← E8.out] at c8 z8
 have o8:∀ v∈cs8,v.oneCell'=true:=by rw [E8.out];exact Co _ _ _ o7
 clear o7
 clear k8 b7 c7 r7 z7 hs7
 go_wp2_with fail
 refine (set_any [59,44,46,58,40,41,91,93,123,125,61,43,45] 9 (w.heap.size+1) _ w8 (by decide) c8 z8).mono ?_
 rintro e w9 ⟨rfl,c9,k9⟩
 have b9:=b8.trans (k9.below (B:=w.heap.size) (Nat.le_of_lt (Nat.lt_of_succ_lt hs8)) (fun k e=>by rw [e];exact Nat.le_succ _))
 have hs9:w.heap.size+1<w9.heap.size:=nL hs8 k9.size
 have r9:=(k9.block w.heap.size (Nat.lt_of_succ_lt hs8) (Nat.ne_of_lt (Nat.lt_succ_self _))).trans r8
 have z9:=(B7 9 [59,44,46,58,40,41,91,93,123,125,61,43,45] cs8).trans z8
 obtain⟨cs9,E9⟩:∃ x,Hid (x=Bi 9 [59,44,46,58,40,41,91,93,123,125,61,43,45] cs8):=⟨_,hid rfl⟩
 rw [← E9.out] at c9 z9
 have o9:∀ v∈cs9,v.oneCell'=true:=by rw [E9.out];exact Co _ _ _ o8
 clear o8
 clear k9 b8 c8 r8 z8 hs8
 have hra:w9.rangeAt (w.heap.size+1) 0 cs9.toList:=fun j v hj=>by
  rw [Nat.zero_add,cell_of c9 j];simpa using hj
 have hi9:(prog.info? 213).map (·.size)=some cs9.toList.length:=by
  rw [Array.length_toList,z9];kernel_rfl
 have hi9':(prog.info? 213).map (·.size)=some cs9.size:=by rw [z9];kernel_rfl
 have ho9:cs9.all (·.oneCell')=true:=Array.all_eq_true'.2 o9
 have hth:w9.there w.heap.size 0 cs9.size:=fun j hj=>by
  rw [Nat.zero_add,cell_of r9 j,Aj r9 j]
  rw [z9] at hj
  simp [Array.getElem?_eq_getElem (show j<cs0.size by rw [z00];exact hj)]
 go_wp2_with (first|refine wpList_load_mid rfl _ _ rfl (w.heap.size+1) 0 rfl cs9.toList _ hra underlying213 rfl hi9 ?_|refine wpList_store_mid rfl _ _ _ rfl w.heap.size 0 cs9 rfl rfl hth hi9' ho9 ?_)
 refine bodyPost_ret (C9 (p:=0) (ty:=213) rfl _ _ ⟨w.heap.size,0,none⟩ _ rfl (run_loadVar_mid _ w.heap.size 0 213 cs9.toList _ (World.rangeAt_setCells_same w9 _ 0 _ (by simpa using hth)) underlying213 rfl hi9)) rfl ?_
 refine⟨?_,below_setCells nR _ _ _ b9⟩
 rw [Array.toArray_toList,E9.out,E8.out,E7.out,E6.out,E5.out,E4.out,E3.out,E2.out,E1.out,E0.out]
 rfl
theorem classCells_eq:Bv=((List.range 256).map fun n=>Value.int .i64 (CH.cls n.toUInt8:Nat)).toArray:=by kernel_rfl
theorem classCells_at (c:UInt8):Bv[c.toNat]?=some (.int .i64 (CH.cls c:Nat)):=by
 rw [classCells_eq]
 simp [UInt8.toNat_lt c]
theorem En:Bv.size=256:=by rw [classCells_eq];simp
theorem classCells_one:∀ v∈Bv,v.oneCell'=true:=by
 rw [classCells_eq]
 intro v hv
 simp at hv
 obtain⟨n,_,rfl⟩:=hv
 rfl
end
end Go.Proofs.YtjepldaciejieaaGreatDoor
