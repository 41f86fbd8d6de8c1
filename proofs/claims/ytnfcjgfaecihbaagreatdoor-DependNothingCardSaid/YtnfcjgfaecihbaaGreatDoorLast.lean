/- What the walks of DependNothing stand on, part 3 of 3: lists, names, formulas, acts and versions in memory, and how arguments are opened. -/
import Derived.Test.YtnfcjgfaecihbaaGreatDoorP01
import Derived.WalkSpells
import Derived.WalkLawsBesides
import Derived.Lib.AppendIntMem
import Derived.Lib.ItoaLen
import Derived.Laws.EntriesVeiled
import Derived.Deep.RegionHeld3
import Derived.StillTail
import Derived.RangeFuncNested
import Derived.RangeFuncBound
import Derived.Shelf.RegionOpen
import Derived.OwnWalkIn
import Derived.LoopNIn
import Derived.LoopIn
import Derived.DataShut
import Derived.Deep.Strs
set_option linter.unusedSimpArgs false
set_option linter.unusedVariables false
set_option maxHeartbeats 40000000
set_option maxRecDepth 100000
namespace Go.Proofs.YtnfcjgfaecihbaaGreatDoor
section
open Go.Lib Go.Proofs.Tryz Go.RowKit Go.Shelf
theorem cell_of {w:World} {g:Nat} {cs:Array Value} {t:TypeId} {fr:Nat × Nat} (h:w.heap[g]?=some (.cells cs t fr)) (o:Nat):w.cell? ⟨g,o,none⟩=cs[o]?:=by simp [World.cell?,h]
theorem frozen_of {w:World} {g:Nat} {cs:Array Value} {t:TypeId} (h:w.heap[g]?=some (.cells cs t (0,0))) (o:Nat):w.frozen? ⟨g,o,none⟩=false:=by simp [World.frozen?,h]
theorem heap_setCell_at (w:World) (g o:Nat) (v:Value) (cs:Array Value) (t:TypeId) (fr:Nat × Nat) (hg:w.heap[g]?=some (.cells cs t fr)) : (w.setCell ⟨g,o,none⟩ v).heap[g]?=some (.cells (cs.setIfInBounds o v) t fr):=by have hlt:g<w.heap.size:=(a_Array_getElemQ_eq_some_iff.1 hg).1;simp only [World.setCell];rw [a_Array_getElemQ_modify,a_if_pos rfl,hg];rfl
def Ret (w:World) (v:Value) (e:Ending) (w':World):Prop:=e=.returned v/\Below w w w'
def Strs (B:Nat) (w:World) (v:Value) (ls:List (List UInt8)):Prop := ∃ a cap,v=.slice a ls.length cap/\ls.length<=cap/\cap<=9223372036854775807 /\ (ls≠[]->∃ b off,a=some ⟨b,off,none⟩/\b<B/\∀ j l,ls[j]?=some l->w.cell? ⟨b,off+j,none⟩=some (.string ⟨l.toArray⟩))
theorem Strs.below {B B':Nat} {w w':World} {v:Value} {ls:List (List UInt8)} (h:Strs B w v ls) (hb:Below B' w w') (hB:B<=B'):Strs B w' v ls:=by obtain⟨a,cap,hv,h1,h2,h3⟩:=h;refine⟨a,cap,hv,h1,h2,fun hne=>?_⟩;obtain⟨b,off,ha,hlt,hc⟩:=h3 hne;exact⟨b,off,ha,hlt,fun j l hj=>(hb.cell (p:=⟨b,off+j,none⟩) (a_Nat_lt_of_lt_of_le hlt hB)).trans (hc j l hj)⟩
theorem Strs.mono {B B':Nat} {w:World} {v:Value} {ls:List (List UInt8)} (h:Strs B w v ls) (hB:B<=B'):Strs B' w v ls:=by obtain⟨a,cap,hv,h1,h2,h3⟩:=h;refine⟨a,cap,hv,h1,h2,fun hne=>?_⟩;obtain⟨b,off,ha,hlt,hc⟩:=h3 hne;exact⟨b,off,ha,a_Nat_lt_of_lt_of_le hlt hB,hc⟩
theorem ownsRow_below {w w':World} {base:Nat} {e:TypeId} {size:Nat} {v:Value} {n:Nat} {xs:List Value} (h:w.ownsRow base e size v n xs) (hb:Below w w w'):w'.ownsRow base e size v n xs := h.kept ⟨hb.os,hb.tape,hb.output,hb.size,fun k hk _=>hb.block k hk⟩ (row:=none) (by cases v.ownBlock <;> simp)
end
section
open Go.Proofs.Tryz Go.RowKit
structure HexInv (n k q m:Nat) (cs:Array Value) (wr:World) (g:Nat):Prop where
 q_eq:q=n / 16 ^ k
 mkk:m+k=65
 pos:k=0\/16 ^ k<=n
 size:cs.size=65
 tail:cs.toList.drop m=(CH.hexK k n).map (fun b=>Value.int .u8 (b.toNat:Int))
 heap:wr.heap[g]?=some (.cells cs 739 (0,0))
theorem drop_set_pred {α:Type} (l:List α) (m:Nat) (v:α) (hm:1<=m) (h:m<=l.length):(l.set (m - 1) v).drop (m - 1)=v::l.drop m:=by
 obtain⟨j,rfl⟩:∃ j,m=j+1:=⟨m - 1,oM⟩
 rw [Nat.add_sub_cancel,a_List_drop_eq_getElem_cons (by simp;omega)];simp [List.drop_set]
theorem HexInv.put {n k q m g:Nat} {cs:Array Value} {wr:World} (h:HexInv n k q m cs wr g) (hm:1<=m) : (cs.setIfInBounds (m - 1) (Value.int .u8 ((CH.hexDigit (q % 16)).toNat:Int))).toList.drop (m - 1)=(CH.hexK (k+1) n).map (fun b=>Value.int .u8 (b.toNat:Int)):=by have hs:=h.size;rw [Array.toList_setIfInBounds,drop_set_pred _ _ _ hm (by rw [a_Array_length_toList,hs];have:=h.mkk;omega),h.tail,CH.hexK_succ,h.q_eq];rfl
theorem HexInv.small {n k q m g:Nat} {cs:Array Value} {wr:World} (h:HexInv n k q m cs wr g) (hq:1<=q) (hn:n<18446744073709551616):k<=15:=by
 have e:=h.q_eq;have h1:16 ^ k<=n:=by
  rcases a_Nat_lt_or_ge n (16 ^ k) with hlt|hge;·rw [a_Nat_div_eq_of_lt hlt] at e;omega
  ·exact hge
 have h2:16 ^ k<16 ^ 16:=a_Nat_lt_of_le_of_lt h1 (by simpa using hn);have:=(Nat.pow_lt_pow_iff_right (dC:1<16)).1 h2;omega
end
section
open Go.Lib Go.Proofs.Tryz Go.RowKit
abbrev strV (l:List UInt8):Value:=↑l
def OwnStrs (base:Nat) (w:World) (v:Value) (ls:List (List UInt8)):Prop:=w.ownsRow base 9 1 v ls.length (ls.map strV)
theorem OwnStrs.nil (base:Nat) (w:World):OwnStrs base w (.slice none 0 0) []:=a_World_ownsRow_nil w base _ _
theorem OwnStrs.below {base:Nat} {w w':World} {v:Value} {ls:List (List UInt8)} (h:OwnStrs base w v ls) (hb:Below w w w'):OwnStrs base w' v ls:=ownsRow_below h hb
theorem OwnStrs.strs {base:Nat} {w:World} {v:Value} {ls:List (List UInt8)} (h:OwnStrs base w v ls):Strs w w v ls:=by
 have h':=h;obtain⟨hlen,⟨rfl,h0⟩|⟨g,cap,cur,rfl,hb,hg,hn,hc,hsz,htk⟩⟩:=h;·exact⟨none,0,by rw [h0],oM,oM,fun hne=>absurd (a_List_length_eq_zero_iff.1 h0) hne⟩
 ·have hlt:g<w.heap.size:=(a_Array_getElemQ_eq_some_iff.1 hg).1;refine⟨_,cap,rfl,hn,by unfold maxLen at hc;omega,fun _=>⟨g,0,rfl,hlt,fun j l hj=>?_⟩⟩;have hjl:j<ls.length:=(a_List_getElemQ_eq_some_iff.1 hj).1;rw [a_Nat_zero_add,a_World_ownsRow_cellAt h' j oM];simp [hj]
theorem OwnStrs.alloc {base:Nat} {w:World} {v:Value} {ls:List (List UInt8)} (h:OwnStrs base w v ls) (o:Obj):OwnStrs base (w.alloc o) v ls:=a_World_ownsRow_alloc h o
theorem OwnStrs.form {base:Nat} {w:World} {v:Value} {ls:List (List UInt8)} (h:OwnStrs base w v ls):∃ a cap,v=.slice a ls.length cap/\ls.length<=cap/\cap<=9223372036854775807/\(ls≠[]->∃ g,a=some ⟨g,0,none⟩/\base<=g/\g<w.heap.size):=by
 obtain⟨hlen,⟨rfl,h0⟩|⟨g,cap,cur,rfl,hb,hg,hn,hc,hsz,htk⟩⟩:=h;·exact⟨none,0,by rw [h0],oM,oM,fun hne=>absurd (a_List_length_eq_zero_iff.1 h0) hne⟩
 ·exact⟨_,cap,rfl,hn,by unfold maxLen at hc;omega,fun _=>⟨g,rfl,hb,(Array.getElem?_eq_some_iff.1 hg).1⟩⟩
end
end Go.Proofs.YtnfcjgfaecihbaaGreatDoor
namespace CH
section
def dl (ls:List (List UInt8)):List UInt8:=sum (pack Go.Lib.itoa ls)
def tEmpty:List UInt8:=[101,109,112,116,121]
def tLeaf:List UInt8:=[108,101,97,102]
def tNode:List UInt8:=[110,111,100,101]
def halfL:Nat->Nat->Nat->Nat
 |0,_,k=>k
 |f+1,n,k=>if 2*k<n then halfL f n (2*k) else k
def half (n:Nat):Nat:=halfL n n 1
def node (a b:List UInt8):List UInt8:=dl [tNode,a,b]
def rootF:Nat->List (List UInt8)->List UInt8
 |0,_=>[]
 |f+1,ls=>match ls with
  |[]=>dl [tEmpty]
  |[x]=>dl [tLeaf,x]
  |x::y::r=>node (rootF f ((x::y::r).take (half (r.length+2)))) (rootF f ((x::y::r).drop (half (r.length+2))))
def root (ls:List (List UInt8)):List UInt8:=rootF (ls.length+1) ls
def pathF:Nat->List (List UInt8)->Nat->List (List UInt8)
 |0,_,_=>[]
 |f+1,ls,i =>
  if ls.length<=1 then []
  else if i<half ls.length then root (ls.drop (half ls.length))::pathF f (ls.take (half ls.length)) i
  else root (ls.take (half ls.length))::pathF f (ls.drop (half ls.length)) (i - half ls.length)
def path (ls:List (List UInt8)) (i:Nat):List (List UInt8):=(pathF ls.length ls i).reverse
def start (secret:List UInt8) (i k:Nat):List UInt8:=dl [secret,Go.Lib.itoa i,Go.Lib.itoa k]
def hexVal (c:UInt8):Nat:=if c.toNat<97 then c.toNat - 48 else c.toNat - 87
def digits (m:List UInt8):List Nat :=
 let d:=(sum m).map hexVal
 let rest:=(d.map fun x=>15 - x).sum
 d++[rest / 16,rest % 16]
def sig (secret:List UInt8) (i:Nat) (m:List UInt8):List (List UInt8) := ((digits m).zipIdx).map fun x=>chain x.1 (start secret i x.2)
def cls (c:UInt8):Nat :=
 if (97<=c.toNat/\c.toNat<=122)\/(65<=c.toNat/\c.toNat<=90) then 3
 else if 48<=c.toNat/\c.toNat<=57 then 4
 else if c.toNat=95 then 5
 else if c.toNat=32\/c.toNat=9\/c.toNat=10 then 1
 else if c.toNat=35 then 2
 else if c.toNat=34 then 6
 else if c.toNat=33 then 7
 else if c.toNat=60\/c.toNat=62 then 8
 else if c.toNat∈[59,44,46,58,40,41,91,93,123,125,61,43,45] then 9
 else 0
structure Tok where
 kind:Nat
 pos:Nat
 n:Nat
 text:List UInt8
deriving DecidableEq
abbrev Str:=List UInt8
structure Name where
 script:Int
 words:List Str
structure Entry where
 id:Str
 names:List Name
structure Change where
 kind:Int
 id:Str
 entry:Entry
 pos:Int
inductive Formula where
 |mk (op:Int) (name:Str) (cmp n:Int) (kids:List Formula)
structure Measure where
 id:Str
 authority:Str
 kind:Int
 target:Str
 when_:Formula
 start:Int
 until_:Int
 wind:Int
structure Licence where
 id:Str
 measures:List Str
 parties:List Str
 quota:Int
 uses:Int
 start:Int
 until_:Int
structure Holding where
 id:Str
 company:Str
 holder:Str
 nominee:Str
 pledged:Str
 joint:List Str
 capital:Int
 votes:Int
 start:Int
 stop:Int
structure Act where
 kind:Int
 change:Change
 measure:Measure
 licence:Licence
 holding:Holding
 id:Str
 n:Int
structure Seal where
 index:Int
 sig:List Str
 path:List Str
structure Version where
 authority:Int
 number:Int
 pos:Int
 prev:Str
 acts:List Act
 sel:Seal
def isIn (s:Str) (i:Nat) (set:Str):Bool:=match s[i]? with|none=>false|some c=>set.contains c
def smalls:Str:=([97,98,99,100,101,102,103,104,105,106,107,108,109,110,111,112,113,114,115,116,117,118,119,120,121,122]:List UInt8)
def isLetter0 (s:Str):Bool:=match s[0]? with|none=>false|some c=>smalls.contains c||smalls.contains (c+32)&&decide (65<=c.toNat)&&decide (c.toNat<=90)
def slen (script:Int) (s:Str):Nat :=
 if script=1 then (if isIn s 0 smalls then 1 else 0)
 else if script=2 then (if isLetter0 s then (if isIn s 1 [39,96,94] then 2 else 1) else 0)
 else if script=3 then (if isIn s 0 ([98,100,102,103,104,106,107,108,109,110,112,113,114,115,116,119,120,121,122,39]:List UInt8) then 1 else 0)
 else if script=4 then
  (if isIn s 0 ([107,115,116,110,104,109,121,114,119,103,122,100,98,112]:List UInt8)&&isIn s 1 ([97,105,117,101,111]:List UInt8) then 2 else if isIn s 0 ([97,105,117,101,111]:List UInt8)||isIn s 0 [110] then 1 else 0)
 else 0
def letters (script:Int):Nat->Str->List Str × Str
 |0,s=>([],s)
 |f+1,s=>if slen script s=0 then ([],s) else
   ((s.take (slen script s))::(letters script f (s.drop (slen script s))).1,(letters script f (s.drop (slen script s))).2)
def join (sep:Str):List Str->Str
 |[]=>[]
 |[x]=>x
 |x::y::l=>x++sep++join sep (y::l)
mutual
def Formula.count:Formula->Nat
 |.mk _ _ _ _ kids=>1+countAll kids
def countAll:List Formula->Nat
 |[]=>0
 |f::l=>f.count+countAll l
end
mutual
def Formula.depth:Formula->Nat
 |.mk _ _ _ _ kids=>1+depthAll kids
def depthAll:List Formula->Nat
 |[]=>0
 |f::l=>max f.depth (depthAll l)
end
def cmpWord (k:Int):Str:=if k=1 then ([61]:List UInt8) else if k=2 then ([33,61]:List UInt8) else if k=3 then ([60]:List UInt8) else if k=4 then ([60,61]:List UInt8) else if k=5 then ([62]:List UInt8) else if k=6 then ([62,61]:List UInt8) else []
def Formula.op:Formula->Int|.mk op _ _ _ _=>op
def Formula.name:Formula->Str|.mk _ name _ _ _=>name
def Formula.cmp:Formula->Int|.mk _ _ cmp _ _=>cmp
def Formula.n:Formula->Int|.mk _ _ _ n _=>n
def Formula.kids:Formula->List Formula|.mk _ _ _ _ kids=>kids
mutual
def Formula.text:Formula->Str
 |.mk op name cmp n kids =>
  if op=1 then ([116,114,117,101]:List UInt8) else if op=2 then ([102,97,108,115,101]:List UInt8)
  else if op=3 then name++[32]++cmpWord cmp++[32]++Go.Lib.itoa n
  else if op=4 then ([110,111,116,32]:List UInt8)++((textAll op kids)[0]?.getD [])
  else if op=5 then join ([32,97,110,100,32]:List UInt8) (textAll op kids)
  else join ([32,111,114,32]:List UInt8) (textAll op kids)
def textAll (op:Int):List Formula->List Str
 |[]=>[]
 |f::l=>(if f.op==6||f.op==5&&op != 6 then [40]++f.text++[41] else f.text)::textAll op l
end
inductive Word where
 |int (n:Int)
 |str (s:Str)
 |strs (l:List Str)
def Word.texts:Word->List Str
 |.int n=>if n = -1 then [[45]] else [Go.Lib.itoa n]
 |.str s=>[if s=[] then [45] else s]
 |.strs l=>l
def words (l:List Word):Str:=join [32] (l.flatMap Word.texts)
end
end CH
namespace Go.Proofs.YtnfcjgfaecihbaaGreatDoor
section
open Go.Lib Go.Proofs.Tryz Go.RowKit
mutual
def KidsAt (B:Nat) (w:World):CH.Formula->Value->Prop
 |.mk _ _ _ _ kids,v=>∃ a cap,v=.slice a kids.length cap/\kids.length<=cap/\cap<=9223372036854775807/\(kids≠[]->∃ b off,a=some ⟨b,off,none⟩/\b<B/\RowAt B w kids b off)
def RowAt (B:Nat) (w:World):List CH.Formula->Nat->Nat->Prop
 |[],_,_=>True
 |f::l,b,off=>(∃ vk,w.cell? ⟨b,off,none⟩=some ↑f.op/\w.cell? ⟨b,off+1,none⟩=some ↑f.name/\w.cell? ⟨b,off+2,none⟩=some ↑f.cmp/\w.cell? ⟨b,off+3,none⟩=some ↑f.n/\w.cell? ⟨b,off+4,none⟩=some vk/\KidsAt B w f vk)/\RowAt B w l b (off+5)
end
mutual
theorem KidsAt.below {B B':Nat} {w w':World} (hb:Below B' w w') (hB:B<=B'):∀ (f:CH.Formula) (v:Value),KidsAt B w f v->KidsAt B w' f v
 |.mk _ _ _ _ kids,v,h=>by
  unfold KidsAt at h ⊢
  obtain⟨a,cap,h1,h2,h3,h4⟩:=h
  refine⟨a,cap,h1,h2,h3,fun hne=>?_⟩
  obtain⟨b,off,e,hlt,hr⟩:=h4 hne
  exact⟨b,off,e,hlt,RowAt.below hb hB kids b off hlt hr⟩
theorem RowAt.below {B B':Nat} {w w':World} (hb:Below B' w w') (hB:B<=B'):∀ (l:List CH.Formula) (b off:Nat),b<B->RowAt B w l b off->RowAt B w' l b off
 |[],_,_,_,_=>by unfold RowAt;trivial
 |f::l,b,off,hlt,h=>by
  unfold RowAt at h ⊢
  obtain⟨⟨vk,c0,c1,c2,c3,c4,hk⟩,hr⟩:=h
  have hc:=fun o=>hb.cell (p:=⟨b,o,none⟩) (a_Nat_lt_of_lt_of_le hlt hB)
  exact⟨⟨vk,(hc _).trans c0,(hc _).trans c1,(hc _).trans c2,(hc _).trans c3,(hc _).trans c4,KidsAt.below hb hB f vk hk⟩,RowAt.below hb hB l b (off+5) hlt hr⟩
end
mutual
theorem KidsAt.mono {B B':Nat} {w:World} (hB:B<=B'):∀ (f:CH.Formula) (v:Value),KidsAt B w f v->KidsAt B' w f v
 |.mk _ _ _ _ kids,v,h=>by
  unfold KidsAt at h ⊢
  obtain⟨a,cap,h1,h2,h3,h4⟩:=h
  refine⟨a,cap,h1,h2,h3,fun hne=>?_⟩
  obtain⟨b,off,e,hlt,hr⟩:=h4 hne
  exact⟨b,off,e,a_Nat_lt_of_lt_of_le hlt hB,RowAt.mono hB kids b off hr⟩
theorem RowAt.mono {B B':Nat} {w:World} (hB:B<=B'):∀ (l:List CH.Formula) (b off:Nat),RowAt B w l b off->RowAt B' w l b off
 |[],_,_,_=>by unfold RowAt;trivial
 |f::l,b,off,h=>by
  unfold RowAt at h ⊢
  obtain⟨⟨vk,c0,c1,c2,c3,c4,hk⟩,hr⟩:=h
  exact⟨⟨vk,c0,c1,c2,c3,c4,KidsAt.mono hB f vk hk⟩,RowAt.mono hB l b (off+5) hr⟩
end
theorem KidsAt.form {B:Nat} {w:World} {f:CH.Formula} {v:Value} (h:KidsAt B w f v):∃ a cap,v=.slice a f.kids.length cap/\f.kids.length<=cap/\cap<=9223372036854775807/\(f.kids≠[]->∃ b off,a=some ⟨b,off,none⟩/\b<B/\RowAt B w f.kids b off):=by
 cases f with
 |mk op name cmp n kids=>unfold KidsAt at h;exact h
theorem RowAt.get {B:Nat} {w:World}:∀ (l:List CH.Formula) (b off j:Nat) (f:CH.Formula),RowAt B w l b off->l[j]?=some f ->
  ∃ vk,w.cell? ⟨b,off+j*5,none⟩=some ↑f.op/\w.cell? ⟨b,off+j*5+1,none⟩=some ↑f.name/\w.cell? ⟨b,off+j*5+2,none⟩=some ↑f.cmp/\w.cell? ⟨b,off+j*5+3,none⟩=some ↑f.n/\w.cell? ⟨b,off+j*5+4,none⟩=some vk/\KidsAt B w f vk
 |[],_,_,_,_,_,h=>by simp at h
 |g::l,b,off,0,f,h,hj=>by
  unfold RowAt at h
  simp only [a_List_getElemQ_cons_zero,a_Option_some_injEq] at hj
  subst hj
  simpa using h.1
 |g::l,b,off,j+1,f,h,hj=>by
  unfold RowAt at h
  simp only [a_List_getElemQ_cons_succ] at hj
  have:=RowAt.get l b (off+5) j f h.2 hj
  rw [show off+(j+1)*5=off+5+j*5 from by omega]
  exact this
def formulaCells (f:CH.Formula) (vk:Value):Array Value:=#[↑f.op,↑f.name,↑f.cmp,↑f.n,vk]
theorem depth_mem {l:List CH.Formula} {f:CH.Formula} (h:f∈l):f.depth<=CH.depthAll l:=by
 induction l with
 |nil=>cases h
 |cons g l ih =>
  simp only [CH.depthAll];rcases a_List_mem_cons.1 h with rfl|h;·omega
  ·have:=ih h;omega
theorem depth_eq (f:CH.Formula):f.depth=1+CH.depthAll f.kids:=by cases f with|mk _ _ _ _ kids=>rfl
def NamesRaw (B:Nat) (w:World) (v:Value) (ns:List CH.Name):Prop := ∃ a cap,v=.slice a ns.length cap/\ns.length<=cap/\cap<=9223372036854775807 /\ (ns≠[]->∃ b off,a=some ⟨b,off,none⟩/\b<B/\∀ j n,ns[j]?=some n->∃ vw,w.cell? ⟨b,off+j*2,none⟩=some ↑n.script/\w.cell? ⟨b,off+j*2+1,none⟩=some vw/\Strs B w vw n.words)
theorem Strs.take {B:Nat} {w:World} {a:Option Addr} {n cap:Nat} {ls:List (List UInt8)} (h:Strs B w (.slice a n cap) ls) (k:Nat) (hk:k<=ls.length):Strs B w (.slice a k cap) (ls.take k):=by obtain⟨a',cap',hv,h1,h2,h3⟩:=h;cases hv;refine⟨a,cap,by simp [Nat.min_eq_left hk],by simp;omega,h2,fun hne=>?_⟩;obtain⟨b,off,ha,hb,hc⟩:=h3 (by rintro rfl;simp at hne);exact⟨b,off,ha,hb,fun j l hj=>hc j l (by rw [List.getElem?_take] at hj;split at hj;exact hj;cases hj)⟩
theorem Strs.drop {B:Nat} {w:World} {b off n cap:Nat} {ls:List (List UInt8)} (h:Strs B w (.slice (some ⟨b,off,none⟩) n cap) ls) (k:Nat) (hk:k<ls.length):Strs B w (.slice (some ⟨b,off+k,none⟩) (n - k) (cap - k)) (ls.drop k):=by obtain⟨a',cap',hv,h1,h2,h3⟩:=h;cases hv;refine⟨some ⟨b,off+k,none⟩,cap - k,sM,by simp;omega,oM,fun _=>?_⟩;obtain⟨b',off',ha,hb,hc⟩:=h3 (by rintro rfl;simp at hk);cases ha;exact⟨b,off+k,rfl,hb,fun j l hj=>by rw [a_List_getElemQ_drop] at hj;rw [a_Nat_add_assoc];exact hc _ l hj⟩
end
end Go.Proofs.YtnfcjgfaecihbaaGreatDoor
namespace CH
end CH
namespace Go.Proofs.YtnfcjgfaecihbaaGreatDoor
open Go.RowKit Go.Lib
end Go.Proofs.YtnfcjgfaecihbaaGreatDoor
namespace CH
theorem all_take_snoc {α:Type} (p:α->Bool) (l:List α) (k:Nat) (x:α) (h:l[k]?=some x):(l.take (k+1)).all p=((l.take k).all p&&p x):=by rw [CH.take_snoc_at l k x h,a_List_all_append];simp
theorem all_false_of {α:Type} (p:α->Bool) (l:List α) (k:Nat) (x:α) (h:l[k]?=some x) (hp:p x=false):l.all p=false:=by rw [a_List_all_eq_false];exact⟨x,a_List_mem_of_getElemQ h,by simp [hp]⟩
end CH
namespace Go.Proofs.YtnfcjgfaecihbaaGreatDoor
open Go.RowKit Go.Lib
end Go.Proofs.YtnfcjgfaecihbaaGreatDoor
namespace Go.Proofs.YtnfcjgfaecihbaaGreatDoor
section
open Go.Lib Go.Proofs.Tryz Go.RowKit Go.Shelf Go.Sort
structure Scan (b:Nat) (s:List UInt8) (w:World):Prop where
 lt:b<w.heap.size
 text:w.cell? ⟨b,0,none⟩=some ↑s
 cls:∀ c:UInt8,w.cell? ⟨b,1+c.toNat,none⟩=some (.int .i64 (CH.cls c))
theorem Scan.below {b:Nat} {s:List UInt8} {w w':World} (h:Scan b s w) (hb:Below w w w'):Scan b s w' := ⟨a_Nat_lt_of_lt_of_le h.lt hb.size,(hb.cell (p:=⟨b,0,none⟩) h.lt).trans h.text,fun c=>(hb.cell (p:=⟨b,1+c.toNat,none⟩) h.lt).trans (h.cls c)⟩
structure Nums (g:Nat) (cl:List Nat) (w:World):Prop where
 lt:g<w.heap.size
 cells:∀ j,j<cl.length->w.cell? ⟨g,0+j,none⟩=some (.int .i64 ((cl.map Int.ofNat).getD j 0))
theorem Nums.below {g:Nat} {cl:List Nat} {w w':World} (h:Nums g cl w) (hb:Below w w w'):Nums g cl w' := ⟨a_Nat_lt_of_lt_of_le h.lt hb.size,fun j hj=>(hb.cell (p:=⟨g,0+j,none⟩) h.lt).trans (h.cells j hj)⟩
def tokCells (t:CH.Tok):List Value:=[↑t.kind,↑t.pos,↑t.n,↑t.text]
def OwnToks (base:Nat) (w:World) (v:Value) (ts:List CH.Tok):Prop:=w.ownsRow base 383 4 v ts.length (ts.flatMap tokCells)
theorem OwnToks.form {base:Nat} {w:World} {v:Value} {ts:List CH.Tok} (h:OwnToks base w v ts):∃ a cap,v=.slice a ts.length cap/\ts.length<=cap/\cap<=9223372036854775807:=by
 obtain⟨hlen,⟨rfl,h0⟩|⟨g,cap,cur,rfl,hb,hg,hn,hc,hsz,htk⟩⟩:=h;·exact⟨none,0,by rw [h0],oM,oM⟩
 ·exact⟨_,cap,rfl,hn,by unfold maxLen at hc;omega⟩
theorem OwnToks.mono {base base':Nat} {w:World} {v:Value} {ts:List CH.Tok} (h:OwnToks base w v ts) (hb:base'<=base):OwnToks base' w v ts:=by
 obtain⟨hlen,⟨h0,h1⟩|⟨g,cap,cur,h1,hb',h2⟩⟩:=h;·exact⟨hlen,.inl ⟨h0,h1⟩⟩
 ·exact⟨hlen,.inr ⟨g,cap,cur,h1,a_Nat_le_trans hb hb',h2⟩⟩
theorem OwnToks.cellAt {base:Nat} {w:World} {a:Option Addr} {n cap:Nat} {t:CH.Tok} (h:OwnToks base w (.slice a n cap) [t]) : ∃ g,a=some ⟨g,0,none⟩/\w.cell? ⟨g,0,none⟩=some ↑t.kind/\w.cell? ⟨g,3,none⟩=some ↑t.text:=by
 have h':=h;obtain⟨hlen,⟨e,h0⟩|⟨g,cap',cur,e,hb,hg,hn,hc,hsz,htk⟩⟩:=h;·simp at h0
 ·injection e with e1 e2 e3;subst e1;subst e2;subst e3;refine⟨g,rfl,?_,?_⟩;·exact a_World_ownsRow_cellAt h' 0 sM
  ·exact a_World_ownsRow_cellAt h' 3 sM
end
section
open Go.Lib Go.Proofs.Tryz Go.RowKit Go.Sort
structure KeepBut (S:Nat->Prop) (w w':World):Prop where
 os:w'.os=w.os
 tape:w'.tape=w.tape
 output:w'.output=w.output
 size:w.heap.size<=w'.heap.size
 block:∀ k,k<w.heap.size->¬ S k->w'.heap[k]?=w.heap[k]?
theorem KeepBut.refl (S:Nat->Prop) (w:World):KeepBut S w w:=⟨rfl,rfl,rfl,a_Nat_le_refl _,fun _ _ _=>rfl⟩
theorem KeepBut.trans {S:Nat->Prop} {a b c:World} (h:KeepBut S a b) (k:KeepBut S b c):KeepBut S a c := ⟨k.os.trans h.os,k.tape.trans h.tape,k.output.trans h.output,a_Nat_le_trans h.size k.size,fun j hj hs=>(k.block j (a_Nat_lt_of_lt_of_le hj h.size) hs).trans (h.block j hj hs)⟩
theorem KeepBut.setCell {S:Nat->Prop} {a w:World} (h:KeepBut S a w) {p:Addr} (hp:S p.block) (u:Value):KeepBut S a (w.setCell p u) := ⟨h.os,h.tape,h.output,by simpa using h.size,fun k hk hs=>by rw [Below.heap_setCell w p u k (fun e=>hs (e ▸ hp))];exact h.block k hk hs⟩
theorem KeepBut.cell {S:Nat->Prop} {w w':World} (h:KeepBut S w w') {p:Addr} (hp:p.block<w.heap.size) (hs:¬ S p.block):w'.cell? p=w.cell? p:=World.cell?_of_block (w:=w) (h.block p.block hp hs)
theorem KeepBut.below {S:Nat->Prop} {w w':World} {B:Nat} (h:KeepBut S w w') (hB:B<=w.heap.size) (hS:∀ k,S k->B<=k):Below B w w' := ⟨h.os,h.tape,h.output,h.size,fun k hk=>h.block k oM (fun hs=>by have:=hS k hs;omega)⟩
end
section
open Go.Lib Go.Proofs.Tryz Go.RowKit Go.Shelf Go.Sort
def MapOf {α:Type} (emb:α->Value) (r:Nat) (w:World) (kvs:List (α × Value)):Prop := ∃ (es:Array MapEntry) (clock:Nat),w.heap[r]?=some (.map es clock)/\es.toList.map (fun e=>(e.key,e.val))=kvs.map (fun p=>(emb p.1,p.2))
theorem MapOf.below {α:Type} {emb:α->Value} {r:Nat} {w w':World} {kvs:List (α × Value)} (h:MapOf emb r w kvs) (hb:Below w w w'):MapOf emb r w' kvs:=by obtain⟨es,clock,h1,h2⟩:=h;exact⟨es,clock,(hb.block r (a_Array_getElemQ_eq_some_iff.1 h1).1).trans h1,h2⟩
theorem MapOf.lt {α:Type} {emb:α->Value} {r:Nat} {w:World} {kvs:List (α × Value)} (h:MapOf emb r w kvs):r<w.heap.size:=by obtain⟨es,clock,h1,_⟩:=h;exact (a_Array_getElemQ_eq_some_iff.1 h1).1
abbrev intV (n:Int):Value:=↑n
def Short (ls:List (List UInt8)):Prop:=ls.length<=100000/\∀ l∈ls,l.length<=20000
theorem Strs.form {B:Nat} {w:World} {v:Value} {ls:List (List UInt8)} (h:Strs B w v ls):∃ a cap,v=.slice a ls.length cap/\ls.length<=cap/\cap<=9223372036854775807:=by obtain⟨a,cap,h1,h2,h3,_⟩:=h;exact⟨a,cap,h1,h2,h3⟩
end
end Go.Proofs.YtnfcjgfaecihbaaGreatDoor
namespace CH
end CH
namespace Go.Proofs.YtnfcjgfaecihbaaGreatDoor
open Go.RowKit Go.Lib Go.Shelf Go.Sort
end Go.Proofs.YtnfcjgfaecihbaaGreatDoor
namespace CH
end CH
namespace Go.Proofs.YtnfcjgfaecihbaaGreatDoor
open Go.RowKit Go.Lib Go.Shelf Go.Sort
def holdCells (h:CH.Holding) (vj:Value):List Value:=[strV h.id,strV h.company,strV h.holder,strV h.nominee,strV h.pledged,vj,intV h.capital,intV h.votes,intV h.start,intV h.stop]
structure HoldSmall (h:CH.Holding):Prop where
 id:h.id.length<=20000
 company:h.company.length<=20000
 holder:h.holder.length<=20000
 nominee:h.nominee.length<=20000
 pledged:h.pledged.length<=20000
 joint:Short h.joint
end Go.Proofs.YtnfcjgfaecihbaaGreatDoor
namespace Go.Proofs.YtnfcjgfaecihbaaGreatDoor
section
end
section
open Go.Lib Go.Maps Go.Proofs.Tryz Go.RowKit Go.Shelf Go.Sort
end
section
open Go.Lib Go.Proofs.Tryz Go.RowKit Go.Shelf Go.Sort
def Hold1 (B:Nat) (w:World) (v:Value) (h:CH.Holding):Prop := ∃ (b:Nat) (vj:Value),v=.slice (some ⟨b,0,none⟩) 1 1/\b<B/\(∀ j x,(holdCells h vj)[j]?=some x->w.cell? ⟨b,j,none⟩=some x)/\Strs B w vj h.joint
theorem own_new (w:World) (ls:List (List UInt8)) (h:ls.length<=1000000):OwnStrs w (w.alloc (.cells (ls.map strV).toArray 9)) (.slice (some ⟨w,0,none⟩) ls.length ls.length) ls:=by
 refine⟨sM,.inr ⟨w,ls.length,(ls.map strV).toArray,rfl,a_Nat_le_refl _,a_heap_alloc_last _ _,a_Nat_le_refl _,?_,?_,?_⟩⟩;·unfold maxLen;omega
 ·simp
 ·simp [a_List_take_of_length_le]
end
end Go.Proofs.YtnfcjgfaecihbaaGreatDoor
namespace CH
def fewHold (h:Holding):Bool := (decide (h.id.length<=60)&&(decide (h.company.length<=60)&&(decide (h.holder.length<=60)&&(decide (h.nominee.length<=60)&&(decide (h.pledged.length<=60)&&decide (h.joint.length<=10))))))&&h.joint.all (fun s=>decide (s.length<=60))
end CH
namespace Go.Proofs.YtnfcjgfaecihbaaGreatDoor
open Go.RowKit Go.Lib Go.Shelf Go.Sort
theorem gt60 (m:Nat):decide ((60:Int)<(m:Int))=!decide (m<=60):=by
 by_cases h:m<=60;·rw [a_decide_eq_true h,a_decide_eq_false oM];rfl
 ·rw [a_decide_eq_false h,a_decide_eq_true oM];rfl
theorem gt10 (m:Nat):decide ((10:Int)<(m:Int))=!decide (m<=10):=by
 by_cases h:m<=10;·rw [a_decide_eq_true h,a_decide_eq_false oM];rfl
 ·rw [a_decide_eq_false h,a_decide_eq_true oM];rfl
theorem fewHold_any (v:Value) (h:CH.Holding) (w:World) (hv:Hold1 w w v h) : Calls Tryz.prog 42 #[v,.int .i64 1] w (Ret w (.bool (CH.fewHold h))):=by
 obtain⟨b,vj,rfl,hb,hc,hj⟩:=hv;obtain⟨a,cap,rfl,hl,hcap,hne⟩:=hj;obtain⟨R,hR⟩:∃ R,Hid (CH.fewHold h=R):=⟨_,a_Lib_hid rfl⟩
 rw [hR.out];have x0:=hc 0 _ rfl;have x1:=hc 1 _ rfl;have x2:=hc 2 _ rfl;have x3:=hc 3 _ rfl;have x4:=hc 4 _ rfl;have x5:=hc 5 _ rfl;have x6:=hc 6 _ rfl;have x7:=hc 7 _ rfl;have x8:=hc 8 _ rfl;have x9:=hc 9 _ rfl;clear hc;have hR1:Hid (((decide (h.id.length<=60)&&(decide (h.company.length<=60)&&(decide (h.holder.length<=60)&&(decide (h.nominee.length<=60)&&(decide (h.pledged.length<=60)&&decide (h.joint.length<=10))))))&&h.joint.all (fun s=>decide (s.length<=60)))=R):=a_Lib_hid hR.out;clear hR;have hne:=a_Lib_hid hne;obtain⟨N,hN⟩:∃ N,h.joint.length=N:=⟨_,rfl⟩
 rw [hN] at hl hR1;rw [hN] at x5;have hN:=a_Lib_hid hN;obtain⟨r0,h0⟩:∃ r,decide (h.id.length<=60)=r:=⟨_,rfl⟩
 obtain⟨r1,h1⟩:∃ r,decide (h.company.length<=60)=r:=⟨_,rfl⟩
 obtain⟨r2,h2⟩:∃ r,decide (h.holder.length<=60)=r:=⟨_,rfl⟩
 obtain⟨r3,h3⟩:∃ r,decide (h.nominee.length<=60)=r:=⟨_,rfl⟩
 obtain⟨r4,h4⟩:∃ r,decide (h.pledged.length<=60)=r:=⟨_,rfl⟩
 obtain⟨r5,h5⟩:∃ r,decide (N<=10)=r:=⟨_,rfl⟩
 rw [h0,h1,h2,h3,h4,h5] at hR1;have g0:=gt60 h.id.length;have g1:=gt60 h.company.length;have g2:=gt60 h.holder.length;have g3:=gt60 h.nominee.length;have g4:=gt60 h.pledged.length;have g5:=gt10 N;rw [h0] at g0;rw [h1] at g1;rw [h2] at g2;rw [h3] at g3;rw [h4] at g4;rw [h5] at g5;clear h0 h1 h2 h3 h4 h5;generalize hji:h.joint=joint at *;generalize h.id=s0 at *;generalize h.company=s1 at *;generalize h.holder=s2 at *;generalize h.nominee=s3 at *;generalize h.pledged=s4 at *;have hB0:=fun o=>(a_Below_refl _ w).alloc (a_Nat_le_refl _) o;rcases (by cases r0 <;> cases r1 <;> cases r2 <;> cases r3 <;> cases r4 <;> cases r5 <;> simp:(r0=false)\/(r0=true/\r1=false)\/(r0=true/\r1=true/\r2=false)\/(r0=true/\r1=true/\r2=true/\r3=false)\/(r0=true/\r1=true/\r2=true/\r3=true/\r4=false)\/(r0=true/\r1=true/\r2=true/\r3=true/\r4=true/\r5=false)\/(r0=true/\r1=true/\r2=true/\r3=true/\r4=true/\r5=true)) with rfl|⟨rfl,rfl⟩|⟨rfl,rfl,rfl⟩|⟨rfl,rfl,rfl,rfl⟩|⟨rfl,rfl,rfl,rfl,rfl⟩|⟨rfl,rfl,rfl,rfl,rfl,rfl⟩|⟨rfl,rfl,rfl,rfl,rfl,rfl⟩;iterate 6
  ·simp only [a_Bool_not_false,a_Bool_not_true] at g0 g1 g2 g3 g4 g5
   go_enter Tryz.func42,Tryz.ntmps42
   go_wp2_with fail
   go_loopw [5] (fun i wr=>i=.int .i64 0/\wr=w) (fun _ _=>0)
   case atStart=>exact⟨rfl,rfl⟩
   case round =>
    obtain⟨rfl,rfl⟩:=hrel
    go_wp2
    go_ret
    exact⟨by rw [<- hR1.out];rfl,hB0 _⟩
 simp only [a_Bool_not_false,a_Bool_not_true] at g0 g1 g2 g3 g4 g5;have hR2:Hid (joint.all (fun s=>decide (s.length<=60))=R):=a_Lib_hid (by rw [<- hR1.out];rfl);clear hR1;go_enter Tryz.func42,Tryz.ntmps42;go_wp2_with fail;go_loopw [5] (fun i wr=>∃ k:Nat,k<=1/\i=↑k/\Hid (Below w w wr)/\(k=1->Hid (R=true))) (fun i _=>1 - (RowKit.intOf i).toNat);case atStart=>exact⟨0,a_Nat_zero_le _,rfl,a_Lib_hid (a_Below_refl _ _),fun h=>by omega⟩
 case round =>
  obtain⟨k,hk,rfl,hBr,hI⟩:=hrel;have y0:=(hBr.out.cell (p:=⟨b,0,none⟩) hb).trans x0;have y1:=(hBr.out.cell (p:=⟨b,1,none⟩) hb).trans x1;have y2:=(hBr.out.cell (p:=⟨b,2,none⟩) hb).trans x2;have y3:=(hBr.out.cell (p:=⟨b,3,none⟩) hb).trans x3;have y4:=(hBr.out.cell (p:=⟨b,4,none⟩) hb).trans x4;have y5:=(hBr.out.cell (p:=⟨b,5,none⟩) hb).trans x5;have y6:=(hBr.out.cell (p:=⟨b,6,none⟩) hb).trans x6;have y7:=(hBr.out.cell (p:=⟨b,7,none⟩) hb).trans x7;have y8:=(hBr.out.cell (p:=⟨b,8,none⟩) hb).trans x8;have y9:=(hBr.out.cell (p:=⟨b,9,none⟩) hb).trans x9;rcases (oM:k=0\/k=1) with rfl|rfl
  ·go_wp2_with fail;generalize hWd:wr.alloc _=W at *;have c5:W.cell? ⟨wr,5,none⟩=some (.slice a N cap):=by rw [<- hWd];exact cell_of (a_heap_alloc_last wr _) 5
   have hBW:Below w w W:=by rw [<- hWd];exact hBr.out.alloc hBr.out.size _
   clear hWd y0 y1 y2 y3 y4 y5 y6 y7 y8 y9 x0 x1 x2 x3 x4 x5 x6 x7 x8 x9;go_loopw [7] (fun i w'=>∃ j:Nat,j<=N/\i=↑j/\w'=W/\Hid ((joint.take j).all (fun s=>decide (s.length<=60))=true)) (fun i _=>N - (RowKit.intOf i).toNat);case atStart=>exact⟨0,a_Nat_zero_le _,rfl,rfl,a_Lib_hid rfl⟩
   case round =>
    obtain⟨j,hj,rfl,rfl,hJ⟩:=hrel;by_cases hlt:j<N
    ·obtain⟨bj,off,rfl,hbl,hcells⟩:=hne.out (by intro h;have:=hN.out;simp [h] at this;omega);obtain⟨l,hl'⟩:∃ l,joint[j]?=some l:=⟨_,a_List_getElemQ_eq_getElem (by rw [hN.out];exact hlt)⟩
     have hcell:=(hBW.cell (p:=⟨bj,off+j,none⟩) hbl).trans (hcells j l hl');clear hcells;have hl':=a_Lib_hid hl';obtain⟨m,hm⟩:∃ m,l.length=m:=⟨_,rfl⟩
     by_cases h60:m<=60
     ·have d:decide ((60:Int)<(m:Int))=false:=by simp;omega
      have hJ':Hid ((joint.take (j+1)).all (fun s=>decide (s.length<=60))=true):=a_Lib_hid (by rw [CH.all_take_snoc _ joint j l hl'.out,hJ.out,hm];simpa using h60);go_wp2;go_roundw;case rel=>exact⟨j+1,oM,by go_num,by first|rfl|trivial,hJ'⟩
      case measure=>simp [RowKit.intOf];omega
     ·have d:decide ((60:Int)<(m:Int))=true:=by simp;omega
      go_wp2;go_ret;exact⟨by rw [<- hR2.out,CH.all_false_of _ joint j l hl'.out (by rw [hm];simpa using h60)];rfl,hBW⟩
    ·have hall:Hid (R=true):=a_Lib_hid (by have:=hJ.out;rw [show j=N from by omega,<- hN.out,a_List_take_length] at this;exact hR2.out.symm.trans this);go_wp2;go_roundw;case rel=>exact⟨1,oM,by go_num,a_Lib_hid hBW,fun _=>hall⟩
     case measure=>simp [RowKit.intOf]
  ·have hT:=(hI rfl).out;subst hT;go_wp2;go_ret;exact⟨rfl,hBr.out⟩
end Go.Proofs.YtnfcjgfaecihbaaGreatDoor
namespace Go.Proofs.YtnfcjgfaecihbaaGreatDoor
section
open Go.Lib Go.Proofs.Tryz Go.RowKit Go.Shelf Go.Sort
section
variable {P:Program} {ops:Array Oper} {md:Region.Mode} {C:World->Prop}
end
end
section
open Go.Lib Go.Proofs.Tryz Go.RowKit Go.Shelf Go.Sort
def measureCells (m:CH.Measure) (vk:Value):List Value := [↑m.id,↑m.authority,↑m.kind,↑m.target,↑m.when_.op,↑m.when_.name,↑m.when_.cmp,↑m.when_.n,vk,↑m.start,↑m.until_,↑m.wind]
structure MeasureNums (m:CH.Measure):Prop where
 k:-9223372036854775808<=m.kind/\m.kind<=9223372036854775807
 s:-9223372036854775808<=m.start/\m.start<=9223372036854775807
 u:-9223372036854775808<=m.until_/\m.until_<=9223372036854775807
 w:-9223372036854775808<=m.wind/\m.wind<=9223372036854775807
mutual
def ShortF:CH.Formula->Prop
 |.mk _ name _ _ kids=>name.length<=20000/\ShortAll kids
def ShortAll:List CH.Formula->Prop
 |[]=>True
 |f::l=>ShortF f/\ShortAll l
end
theorem ShortF.name {f:CH.Formula} (h:ShortF f):f.name.length<=20000:=by cases f with|mk op name cmp n kids=>unfold ShortF at h;exact h.1
theorem ShortF.kids {f:CH.Formula} (h:ShortF f):ShortAll f.kids:=by cases f with|mk op name cmp n kids=>unfold ShortF at h;exact h.2
end
section
open Go.Lib Go.Proofs.Tryz Go.RowKit Go.Shelf
attribute [local go_sem] a_Oper_semAt_some
end
section
open Go.Lib Go.Proofs.Tryz Go.RowKit Go.Shelf
end
section
open Go.Lib Go.Proofs.Tryz Go.RowKit Go.Shelf
attribute [local go_sem] a_Oper_semAt_some
theorem grownBy_setCellA (w:World) (p:Addr) (u:Value):w.grownBy (w.setCell p u) (some p.block) := ⟨rfl,rfl,rfl,by simp [World.setCell],fun k _ hk=>by simp only [World.setCell];rw [a_Array_getElemQ_modify,a_if_neg (fun e=>hk (by rw [e]))]⟩
theorem OwnStrs.ownBlock {base:Nat} {w:World} {v:Value} {ls:List (List UInt8)} (h:OwnStrs base w v ls):∀ j,v.ownBlock=some j->base<=j/\∃ cs t fr,w.heap[j]?=some (.cells cs t fr):=by
 intro j hj;obtain⟨hlen,⟨rfl,h0⟩|⟨g,cap,cur,rfl,hb,hg,rest⟩⟩:=h;·cases hj
 ·simp only [Value.ownBlock,a_Option_some_injEq] at hj;subst hj;exact⟨hb,_,_,_,hg⟩
theorem OwnStrs.setFar {base:Nat} {w:World} {v:Value} {ls:List (List UInt8)} (h:OwnStrs base w v ls) {g:Nat} (hg:g<base) (o:Nat) (u:Value):OwnStrs base (w.setCell ⟨g,o,none⟩ u) v ls:=by refine a_World_ownsRow_kept h (grownBy_setCellA w ⟨g,o,none⟩ u) (.inr fun e=>?_);have h9:base<=g:=(h.ownBlock _ e).1;omega
theorem setCell_heap_ne (w:World) (p:Addr) (u:Value) (k:Nat) (hk:k≠p.block):(w.setCell p u).heap[k]?=w.heap[k]?:=by simp only [World.setCell];rw [a_Array_getElemQ_modify,a_if_neg (fun e=>hk e.symm)]
end
section
open Go.Lib Go.Proofs.Tryz Go.RowKit Go.Shelf
variable {F:Fence} {n:Nat} {P:Program}
end
section
open Go.Lib Go.Proofs.Tryz Go.RowKit Go.Shelf
attribute [local go_sem] a_Oper_semAt_some
end
section
open Go.Lib Go.Proofs.Tryz Go.RowKit Go.Shelf
attribute [local go_sem] a_Oper_semAt_some
structure LetI (w:World) (k:Int) (s:List UInt8) (pre:List (List UInt8)) (W:World):Prop where
 le:w.heap.size+4<=W.heap.size
 out:∃ v,W.heap[w.heap.size]?=some (.cells #[v] 49 (0,0))/\OwnStrs (w+4) W v pre
 rest:W.heap[w.heap.size+1]?=some (.cells #[.string ⟨((CH.letters k pre.length s).2).toArray⟩] 9 (0,0))
 below:Below w w W
theorem LetI.set (w:World) (k:Int) (s:List UInt8) (pre:List (List UInt8)) (W:World) (u:Value) (h:LetI w k s pre W):LetI w k s pre (W.setCell ⟨w+3,0,none⟩ u):=by obtain⟨hle,⟨v,hv,hO⟩,hrest,hb⟩:=h;refine⟨by simp [World.setCell];exact hle,⟨v,(setCell_heap_ne _ _ _ _ (by show w.heap.size≠w.heap.size+3;omega)).trans hv,hO.setFar oM _ _⟩,(setCell_heap_ne _ _ _ _ (by show w.heap.size+1≠w.heap.size+3;omega)).trans hrest,hb.setCell (by show w.heap.size<=w.heap.size+3;omega) _⟩
end
section
open Go.Lib Go.Proofs.Tryz Go.RowKit Go.Shelf Go.Sort
structure SizeVars (bn bd bv:Nat) (w:World) (N D:Int):Prop where
 n:w.heap[bn]?=some (.cells #[↑N] 3 (0,0))
 d:w.heap[bd]?=some (.cells #[↑D] 3 (0,0))
 v:w.heap[bv]?=some (.cells #[.func (.func 483) #[] #[.pointer (some ⟨bn,0,none⟩),.pointer (some ⟨bd,0,none⟩),.pointer (some ⟨bv,0,none⟩)]] 705 (0,0))
 nd:bn≠bd
 nv:bn≠bv
 dv:bd≠bv
theorem SizeVars.below {bn bd bv:Nat} {w w':World} {N D:Int} (h:SizeVars bn bd bv w N D) (hb:Below w w w'):SizeVars bn bd bv w' N D := ⟨(hb.block bn (a_Array_getElemQ_eq_some_iff.1 h.n).1).trans h.n,(hb.block bd (a_Array_getElemQ_eq_some_iff.1 h.d).1).trans h.d,(hb.block bv (a_Array_getElemQ_eq_some_iff.1 h.v).1).trans h.v,h.nd,h.nv,h.dv⟩
theorem a_heap_setCell_other (w:World) (g o k:Nat) (v:Value) (h:g≠k):(w.setCell ⟨g,o,none⟩ v).heap[k]?=w.heap[k]?:=by simp only [World.setCell];rw [a_Array_getElemQ_modify,a_if_neg h]
theorem SizeVars.set {bn bd bv:Nat} {w:World} {N D:Int} (h:SizeVars bn bd bv w N D) (N' D':Int):SizeVars bn bd bv ((w.setCell ⟨bn,0,none⟩ ↑N').setCell ⟨bd,0,none⟩ ↑D') N' D':=by
 refine⟨?_,?_,?_,h.nd,h.nv,h.dv⟩;·rw [a_heap_setCell_other _ _ _ _ _ (Ne.symm h.nd)];have:=heap_setCell_at w bn 0 ↑N' _ _ _ h.n;simpa using this
 ·have:=heap_setCell_at (w.setCell ⟨bn,0,none⟩ ↑N') bd 0 ↑D' _ _ _ ((a_heap_setCell_other _ _ _ _ _ h.nd).trans h.d);simpa using this
 ·rw [a_heap_setCell_other _ _ _ _ _ h.dv,a_heap_setCell_other _ _ _ _ _ h.nv];exact h.v
def NamesAt (B:Nat) (w:World) (v:Value) (ns:List CH.Name):Prop := ∃ a cap,v=.slice a ns.length cap/\ns.length<=cap/\cap<=9223372036854775807 /\ (ns≠[]->∃ b off,a=some ⟨b,off,none⟩/\b<B/\∀ j n,ns[j]?=some n->∃ vw,w.cell? ⟨b,off+j*2,none⟩=some ↑n.script/\w.cell? ⟨b,off+j*2+1,none⟩=some vw/\Strs B w vw n.words)
theorem NamesAt.below {B B':Nat} {w w':World} {v:Value} {ns:List CH.Name} (h:NamesAt B w v ns) (hb:Below B' w w') (hB:B<=B'):NamesAt B w' v ns:=by obtain⟨a,cap,h1,h2,h3,h4⟩:=h;refine⟨a,cap,h1,h2,h3,fun hne=>?_⟩;obtain⟨b,off,e,hlt,hc⟩:=h4 hne;refine⟨b,off,e,hlt,fun j n hj=>?_⟩;obtain⟨vw,c1,c2,c3⟩:=hc j n hj;exact⟨vw,(hb.cell (p:=⟨b,off+j*2,none⟩) (a_Nat_lt_of_lt_of_le hlt hB)).trans c1,(hb.cell (p:=⟨b,off+j*2+1,none⟩) (a_Nat_lt_of_lt_of_le hlt hB)).trans c2,c3.below hb hB⟩
theorem NamesAt.mono {B B':Nat} {w:World} {v:Value} {ns:List CH.Name} (h:NamesAt B w v ns) (hB:B<=B'):NamesAt B' w v ns:=by obtain⟨a,cap,h1,h2,h3,h4⟩:=h;refine⟨a,cap,h1,h2,h3,fun hne=>?_⟩;obtain⟨b,off,e,hlt,hc⟩:=h4 hne;refine⟨b,off,e,a_Nat_lt_of_lt_of_le hlt hB,fun j n hj=>?_⟩;obtain⟨vw,c1,c2,c3⟩:=hc j n hj;exact⟨vw,c1,c2,c3.mono hB⟩
theorem NamesAt.form {B:Nat} {w:World} {v:Value} {ns:List CH.Name} (h:NamesAt B w v ns):∃ a cap,v=.slice a ns.length cap/\ns.length<=cap/\cap<=9223372036854775807:=by obtain⟨a,cap,h1,h2,h3,_⟩:=h;exact⟨a,cap,h1,h2,h3⟩
structure EntrySmall (e:CH.Entry):Prop where
 id:e.id.length<=20000
 len:e.names.length<=100000
 names:∀ n∈e.names,Short n.words
structure ChangeSmall (c:CH.Change):Prop where
 id:c.id.length<=20000
 entry:EntrySmall c.entry
def changeCells (c:CH.Change) (vn:Value):List Value:=[↑c.kind,↑c.id,↑c.entry.id,vn,↑c.pos]
def WordsAt (base p:Nat) (w:World) (ls:List (List UInt8)):Prop:=∃ v,w.heap[p]?=some (.cells #[v] 49 (0,0))/\OwnStrs base w v ls/\v.ownBlock≠some p/\base<=p
theorem WordsAt.below {base p:Nat} {w w':World} {ls:List (List UInt8)} (h:WordsAt base p w ls) (hb:Below w w w'):WordsAt base p w' ls:=by obtain⟨v,h1,h2,h3,h4⟩:=h;exact⟨v,(hb.block p (a_Array_getElemQ_eq_some_iff.1 h1).1).trans h1,h2.below hb,h3,h4⟩
theorem WordsAt.alloc {base p:Nat} {w:World} {ls:List (List UInt8)} (h:WordsAt base p w ls) (o:Obj):WordsAt base p (w.alloc o) ls:=h.below ((a_Below_refl _ w).alloc (a_Nat_le_refl _) o)
def AllLe (n:Nat) (ls:List (List UInt8)):Prop:=∀ l∈ls,l.length<=n
theorem AllLe.cons {n:Nat} {a:List UInt8} {ls:List (List UInt8)} (h:a.length<=n) (h2:AllLe n ls):AllLe n (a::ls):=fun l hl=>by
 rcases a_List_mem_cons.1 hl with rfl|hl;·exact h
 ·exact h2 l hl
structure MeasureIs (B:Nat) (w:World) (m:CH.Measure) (vk:Value):Prop where
 kids:KidsAt B w m.when_ vk
 nums:MeasureNums m
 id:m.id.length<=20000
 authority:m.authority.length<=20000
 target:m.target.length<=20000
 short:ShortF m.when_
 count:m.when_.count<=100000000
 depth:m.when_.depth<=100000000
theorem MeasureIs.below {B B':Nat} {w w':World} {m:CH.Measure} {vk:Value} (h:MeasureIs B w m vk) (hb:Below B' w w') (hB:B<=B'):MeasureIs B w' m vk:={ h with kids:=KidsAt.below hb hB _ _ h.kids }
theorem MeasureIs.mono {B B':Nat} {w:World} {m:CH.Measure} {vk:Value} (h:MeasureIs B w m vk) (hB:B<=B'):MeasureIs B' w m vk:={ h with kids:=KidsAt.mono hB _ _ h.kids }
def I64 (n:Int):Prop:=-9223372036854775808<=n/\n<=9223372036854775807
structure ActSmall (a:CH.Act):Prop where
 change:ChangeSmall a.change
 pos:I64 a.change.pos
 lid:a.licence.id.length<=20000
 lm:Short a.licence.measures
 lp:Short a.licence.parties
 hold:HoldSmall a.holding
 id:a.id.length<=20000
 kind:I64 a.kind
 n:I64 a.n
def licCells (l:CH.Licence) (vm vp:Value):List Value:=[strV l.id,vm,vp,intV l.quota,intV l.uses,intV l.start,intV l.until_]
structure ActV where
 vn:Value
 vk:Value
 vm:Value
 vp:Value
 vj:Value
def actCells (a:CH.Act) (s:ActV):List Value := intV a.kind::(changeCells a.change s.vn++(measureCells a.measure s.vk++(licCells a.licence s.vm s.vp++(holdCells a.holding s.vj++[strV a.id,intV a.n]))))
structure ActAt (B:Nat) (w:World) (a:CH.Act) (s:ActV):Prop where
 names:NamesAt B w s.vn a.change.entry.names
 meas:MeasureIs B w a.measure s.vk
 lm:Strs B w s.vm a.licence.measures
 lp:Strs B w s.vp a.licence.parties
 hj:Strs B w s.vj a.holding.joint
 small:ActSmall a
theorem ActAt.below {B B':Nat} {w w':World} {a:CH.Act} {s:ActV} (h:ActAt B w a s) (hb:Below B' w w') (hB:B<=B'):ActAt B w' a s:=⟨h.names.below hb hB,h.meas.below hb hB,h.lm.below hb hB,h.lp.below hb hB,h.hj.below hb hB,h.small⟩
theorem ActAt.mono {B B':Nat} {w:World} {a:CH.Act} {s:ActV} (h:ActAt B w a s) (hB:B<=B'):ActAt B' w a s:=⟨h.names.mono hB,h.meas.mono hB,h.lm.mono hB,h.lp.mono hB,h.hj.mono hB,h.small⟩
structure Held (R:List Nat) (w w':World):Prop where
 os:w'.os=w.os
 tape:w'.tape=w.tape
 output:w'.output=w.output
 size:w.heap.size<=w'.heap.size
 block:∀ k,k<w.heap.size->k ∉ R->w'.heap[k]?=w.heap[k]?
theorem Held.trans {R:List Nat} {w w1 w2:World} (h:Held R w w1) (h':Held R w1 w2):Held R w w2 := ⟨h'.os.trans h.os,h'.tape.trans h.tape,h'.output.trans h.output,a_Nat_le_trans h.size h'.size,fun k hk hR=>(h'.block k (a_Nat_lt_of_lt_of_le hk h.size) hR).trans (h.block k hk hR)⟩
theorem Held.mono {R R':List Nat} {w w':World} (h:Held R w w') (hs:∀ r∈R,r∈R'):Held R' w w':=⟨h.os,h.tape,h.output,h.size,fun k hk hR=>h.block k hk fun hr=>hR (hs k hr)⟩
theorem Held.below {R:List Nat} {w w':World} (h:Held R w w') {B:Nat} (hB:B<=w.heap.size) (hR:∀ r∈R,B<=r):Below B w w':=⟨h.os,h.tape,h.output,h.size,fun k hk=>h.block k (a_Nat_lt_of_lt_of_le hk hB) fun hr=>by have:=hR k hr;omega⟩
def Cells (w w':World):Prop:=∀ p v,w.cell? p=some v->w'.cell? p=some v
theorem Cells.trans {a b c:World} (h:Cells a b) (h':Cells b c):Cells a c:=fun p v hp=>h' p v (h p v hp)
def IsMap (w:World) (r:Nat):Prop:=∃ es c,w.heap[r]?=some (.map es c)
theorem cell?_block {w w':World} {p:Addr} (h:w'.heap[p.block]?=w.heap[p.block]?):w'.cell? p=w.cell? p:=by simp only [World.cell?,h]
theorem Held.cells {R:List Nat} {w w':World} (h:Held R w w') (hR:∀ r∈R,IsMap w r):Cells w w':=fun p v hp=>by
 have hlt:=a_World_block_lt_of_cellQ w p hp;by_cases hm:p.block∈R;·obtain⟨es,c,he⟩:=hR _ hm;simp [World.cell?,he] at hp
 ·rw [cell?_block (h.block _ hlt hm)];exact hp
theorem Strs.kept {B:Nat} {w w':World} {v:Value} {ls:List (List UInt8)} (h:Strs B w v ls) (hc:Cells w w'):Strs B w' v ls:=by obtain⟨a,cap,hv,h1,h2,h3⟩:=h;refine⟨a,cap,hv,h1,h2,fun hne=>?_⟩;obtain⟨b,off,ha,hlt,hx⟩:=h3 hne;exact⟨b,off,ha,hlt,fun j l hj=>hc _ _ (hx j l hj)⟩
theorem NamesAt.kept {B:Nat} {w w':World} {v:Value} {ns:List CH.Name} (h:NamesAt B w v ns) (hc:Cells w w'):NamesAt B w' v ns:=by obtain⟨a,cap,h1,h2,h3,h4⟩:=h;refine⟨a,cap,h1,h2,h3,fun hne=>?_⟩;obtain⟨b,off,e,hlt,hx⟩:=h4 hne;refine⟨b,off,e,hlt,fun j n hj=>?_⟩;obtain⟨vw,c1,c2,c3⟩:=hx j n hj;exact⟨vw,hc _ _ c1,hc _ _ c2,c3.kept hc⟩
mutual
theorem KidsAt.kept {B:Nat} {w w':World} (hc:Cells w w'):∀ (f:CH.Formula) (v:Value),KidsAt B w f v->KidsAt B w' f v
 |.mk _ _ _ _ kids,v,h=>by
  unfold KidsAt at h ⊢
  obtain⟨a,cap,h1,h2,h3,h4⟩:=h
  refine⟨a,cap,h1,h2,h3,fun hne=>?_⟩
  obtain⟨b,off,e,hlt,hr⟩:=h4 hne
  exact⟨b,off,e,hlt,RowAt.kept hc kids b off hr⟩
theorem RowAt.kept {B:Nat} {w w':World} (hc:Cells w w'):∀ (l:List CH.Formula) (b off:Nat),RowAt B w l b off->RowAt B w' l b off
 |[],_,_,_=>by unfold RowAt;trivial
 |f::l,b,off,h=>by
  unfold RowAt at h ⊢
  obtain⟨⟨vk,c0,c1,c2,c3,c4,hk⟩,hr⟩:=h
  exact⟨⟨vk,hc _ _ c0,hc _ _ c1,hc _ _ c2,hc _ _ c3,hc _ _ c4,KidsAt.kept hc f vk hk⟩,RowAt.kept hc l b (off+5) hr⟩
end
theorem ActAt.kept {B:Nat} {w w':World} {a:CH.Act} {s:ActV} (h:ActAt B w a s) (hc:Cells w w'):ActAt B w' a s:=⟨h.names.kept hc,{ h.meas with kids:=KidsAt.kept hc _ _ h.meas.kids },h.lm.kept hc,h.lp.kept hc,h.hj.kept hc,h.small⟩
def ActsAt (B:Nat) (w:World) (v:Value) (l:List CH.Act):Prop := ∃ a cap,v=.slice a l.length cap/\l.length<=cap/\cap<=9223372036854775807 /\ (l≠[]->∃ b off,a=some ⟨b,off,none⟩/\b<B/\∀ j x,l[j]?=some x->∃ s,(∀ i u,(actCells x s)[i]?=some u->w.cell? ⟨b,off+j*37+i,none⟩=some u)/\ActAt B w x s)
theorem ActsAt.kept {B:Nat} {w w':World} {v:Value} {l:List CH.Act} (h:ActsAt B w v l) (hc:Cells w w'):ActsAt B w' v l:=by obtain⟨a,cap,h1,h2,h3,h4⟩:=h;refine⟨a,cap,h1,h2,h3,fun hne=>?_⟩;obtain⟨b,off,e,hlt,hx⟩:=h4 hne;refine⟨b,off,e,hlt,fun j x hj=>?_⟩;obtain⟨s,c1,c2⟩:=hx j x hj;exact⟨s,fun i u hi=>hc _ _ (c1 i u hi),c2.kept hc⟩
theorem ActsAt.below {B B':Nat} {w w':World} {v:Value} {l:List CH.Act} (h:ActsAt B w v l) (hb:Below B' w w') (hB:B<=B'):ActsAt B w' v l:=by obtain⟨a,cap,h1,h2,h3,h4⟩:=h;refine⟨a,cap,h1,h2,h3,fun hne=>?_⟩;obtain⟨b,off,e,hlt,hx⟩:=h4 hne;refine⟨b,off,e,hlt,fun j x hj=>?_⟩;obtain⟨s,c1,c2⟩:=hx j x hj;exact⟨s,fun i u hi=>(hb.cell (p:=⟨b,off+j*37+i,none⟩) (a_Nat_lt_of_lt_of_le hlt hB)).trans (c1 i u hi),c2.below hb hB⟩
theorem ActsAt.mono {B B':Nat} {w:World} {v:Value} {l:List CH.Act} (h:ActsAt B w v l) (hB:B<=B'):ActsAt B' w v l:=by obtain⟨a,cap,h1,h2,h3,h4⟩:=h;refine⟨a,cap,h1,h2,h3,fun hne=>?_⟩;obtain⟨b,off,e,hlt,hx⟩:=h4 hne;refine⟨b,off,e,a_Nat_lt_of_lt_of_le hlt hB,fun j x hj=>?_⟩;obtain⟨s,c1,c2⟩:=hx j x hj;exact⟨s,c1,c2.mono hB⟩
theorem ActsAt.form {B:Nat} {w:World} {v:Value} {l:List CH.Act} (h:ActsAt B w v l):∃ a cap,v=.slice a l.length cap/\l.length<=cap/\cap<=9223372036854775807:=by obtain⟨a,cap,h1,h2,h3,_⟩:=h;exact⟨a,cap,h1,h2,h3⟩
structure VerV where
 va:Value
 v1:Value
 v2:Value
def verCells (v:CH.Version) (s:VerV):List Value:=[intV v.authority,intV v.number,intV v.pos,strV v.prev,s.va,intV v.sel.index,s.v1,s.v2]
structure VerSmall (v:CH.Version):Prop where
 authority:I64 v.authority
 number:I64 v.number
 pos:I64 v.pos
 prev:v.prev.length<=20000
 index:I64 v.sel.index
 sig:Short v.sel.sig
 path:Short v.sel.path
structure VerAt (B:Nat) (w:World) (v:CH.Version) (s:VerV):Prop where
 acts:ActsAt B w s.va v.acts
 sig:Strs B w s.v1 v.sel.sig
 path:Strs B w s.v2 v.sel.path
 small:VerSmall v
theorem VerAt.kept {B:Nat} {w w':World} {v:CH.Version} {s:VerV} (h:VerAt B w v s) (hc:Cells w w'):VerAt B w' v s:=⟨h.acts.kept hc,h.sig.kept hc,h.path.kept hc,h.small⟩
theorem VerAt.below {B B':Nat} {w w':World} {v:CH.Version} {s:VerV} (h:VerAt B w v s) (hb:Below B' w w') (hB:B<=B'):VerAt B w' v s:=⟨h.acts.below hb hB,h.sig.below hb hB,h.path.below hb hB,h.small⟩
theorem VerAt.mono {B B':Nat} {w:World} {v:CH.Version} {s:VerV} (h:VerAt B w v s) (hB:B<=B'):VerAt B' w v s:=⟨h.acts.mono hB,h.sig.mono hB,h.path.mono hB,h.small⟩
end
section
open Go.Lib Go.Proofs.Tryz Go.RowKit
theorem rng_left {w:World} {b o:Nat} {l m:List Value} (h:w.rangeAt b o (l++m)):w.rangeAt b o l:=fun j v hj=>h j v (by rw [a_List_getElemQ_append_left (a_List_getElemQ_eq_some_iff.1 hj).1];exact hj)
theorem rng_right {w:World} {b o:Nat} {l m:List Value} (h:w.rangeAt b o (l++m)) (n:Nat) (hn:o+l.length=n):w.rangeAt b n m:=fun j v hj=>by have:=h (l.length+j) v (by rw [a_List_getElemQ_append_right oM,show l.length+j - l.length=j from by omega];exact hj);rw [<- hn,a_Nat_add_assoc];exact this
theorem rng_new (w:World) (l:List Value) (T:TypeId):(w.alloc (.cells l.toArray T)).rangeAt w.heap.size 0 l:=fun j v hj=>by rw [a_Nat_zero_add,cell_of (a_heap_alloc_last w (.cells l.toArray T)) j];simpa using hj
theorem setCells_new (w:World) (T:TypeId):∀ (cs pre z:List Value),z.length=cs.length->(w.alloc (.cells (pre++z).toArray T)).setCells w.heap.size pre.length cs=w.alloc (.cells (pre++cs).toArray T)
 |[],pre,z,h=>by
  have:z=[]:=a_List_length_eq_zero_iff.1 (by simpa using h)
  subst this;rfl
 |v::cs,pre,z,h=>by
  cases z with
  |nil=>simp at h
  |cons u z =>
   rw [World.setCells,a_World_setCell_alloc_at _ _ _ _ _ rfl]
   have e:((pre++u::z).toArray.setIfInBounds pre.length v)=((pre++[v])++z).toArray:=sM
   rw [e]
   have:=setCells_new w T cs (pre++[v]) z (by simpa using h)
   rw [a_List_length_append,a_List_length_singleton] at this
   rw [this]
   simp
theorem wpList_store_new {P:Program} {ops:Array Oper} {rest:List Oper} {op:Oper} {a:Act} {w:World} {Q:Exit->Act->World->Prop} {z:Array Value} {T:TypeId} (hgd:op.guard=none) (ty:TypeId) (x y:Operand) (ho:op.op=.store ty x y) (cs:List Value) (hx:a.eval x=.pointer (some ⟨w,0,none⟩)) (hy:a.eval y=.agg cs.toArray) (hz:z.size=cs.length) (hi:(P.info? ty).map (·.size)=some cs.length) (h1:∀ v∈cs,v.oneCell'=true) (h:wpList P ops Q rest (a.put op.dst undef) (w.alloc (.cells cs.toArray T))):wpList P ops Q (op::rest) a (w.alloc (.cells z T)):=by
 refine a_wpList_store_mid hgd ty x y ho w 0 cs.toArray hx hy (fun j hj=>?_) (by simpa using hi) (a_all_oneCell_toArray h1) ?_;·rw [a_Nat_zero_add];refine⟨?_,frozen_of (a_heap_alloc_last w _) j⟩;rw [cell_of (a_heap_alloc_last w _) j,a_Array_getElemQ_eq_getElem (by rw [hz];simpa using hj)];rfl
 ·have:=setCells_new w T cs [] z.toList (by simpa using hz);simp only [a_List_nil_append,a_List_length_nil] at this;rw [show z=z.toList.toArray from by simp,this];exact h
theorem fold_zip:∀ (cs pre z:List Value),z.length=cs.length->List.foldl (fun (c:Array Value) (x:Value × Nat)=>c.setIfInBounds x.2 x.1) (pre++z).toArray (cs.zipIdx pre.length)=(pre++cs).toArray
 |[],pre,z,h=>by
  have:z=[]:=a_List_length_eq_zero_iff.1 (by simpa using h)
  subst this;rfl
 |v::cs,pre,z,h=>by
  cases z with
  |nil=>simp at h
  |cons u z =>
   rw [List.zipIdx_cons,a_List_foldl_cons]
   have e:((pre++u::z).toArray.setIfInBounds pre.length v)=((pre++[v])++z).toArray:=sM
   dsimp only
   rw [e]
   have:=fold_zip cs (pre++[v]) z (by simpa using h)
   rw [a_List_length_append,a_List_length_singleton] at this
   rw [this]
   simp
theorem fold_new (cs:List Value) (z:Array Value) (h:z.size=cs.length):List.foldl (fun (c:Array Value) (x:Value × Nat)=>c.setIfInBounds x.2 x.1) z cs.zipIdx=cs.toArray:=by have:=fold_zip cs [] z.toList (by simpa using h);simpa using this
end
end Go.Proofs.YtnfcjgfaecihbaaGreatDoor
namespace CH
end CH
namespace Go.Proofs.YtnfcjgfaecihbaaGreatDoor
open Go.RowKit Go.Lib Go.Shelf Go.Sort
structure ActRaw (B:Nat) (w:World) (a:CH.Act) (s:ActV):Prop where
 names:NamesAt B w s.vn a.change.entry.names
 kids:KidsAt B w a.measure.when_ s.vk
 lm:Strs B w s.vm a.licence.measures
 lp:Strs B w s.vp a.licence.parties
 hj:Strs B w s.vj a.holding.joint
theorem ActRaw.below {B B':Nat} {w w':World} {a:CH.Act} {s:ActV} (h:ActRaw B w a s) (hb:Below B' w w') (hB:B<=B'):ActRaw B w' a s:=⟨h.names.below hb hB,KidsAt.below hb hB _ _ h.kids,h.lm.below hb hB,h.lp.below hb hB,h.hj.below hb hB⟩
theorem ActRaw.mono {B B':Nat} {w:World} {a:CH.Act} {s:ActV} (h:ActRaw B w a s) (hB:B<=B'):ActRaw B' w a s:=⟨h.names.mono hB,KidsAt.mono hB _ _ h.kids,h.lm.mono hB,h.lp.mono hB,h.hj.mono hB⟩
theorem actCells_oneR {B:Nat} {w:World} {a:CH.Act} {s:ActV} (h:ActRaw B w a s):∀ v∈actCells a s,v.oneCell'=true:=by obtain⟨vn,vk,vm,vp,vj⟩:=s;obtain⟨_,_,e1,_,_⟩:=h.names.form;obtain⟨_,_,e2,_,_,_⟩:=h.kids.form;obtain⟨_,_,e3,_,_⟩:=h.lm.form;obtain⟨_,_,e4,_,_⟩:=h.lp.form;obtain⟨_,_,e5,_,_⟩:=h.hj.form;change vn=_ at e1;change vk=_ at e2;change vm=_ at e3;change vp=_ at e4;change vj=_ at e5;subst e1 e2 e3 e4 e5;exact a_List_all_eq_true.1 rF
def ActsRaw (B:Nat) (w:World) (v:Value) (l:List CH.Act):Prop := ∃ a cap,v=.slice a l.length cap/\l.length<=cap/\cap<=9223372036854775807 /\ (l≠[]->∃ b off,a=some ⟨b,off,none⟩/\b<B/\∀ j x,l[j]?=some x->∃ s,(∀ i u,(actCells x s)[i]?=some u->w.cell? ⟨b,off+j*37+i,none⟩=some u)/\ActRaw B w x s)
theorem ActsRaw.below {B B':Nat} {w w':World} {v:Value} {l:List CH.Act} (h:ActsRaw B w v l) (hb:Below B' w w') (hB:B<=B'):ActsRaw B w' v l:=by obtain⟨a,cap,h1,h2,h3,h4⟩:=h;refine⟨a,cap,h1,h2,h3,fun hne=>?_⟩;obtain⟨b,off,e,hlt,hx⟩:=h4 hne;refine⟨b,off,e,hlt,fun j x hj=>?_⟩;obtain⟨s,c1,c2⟩:=hx j x hj;exact⟨s,fun i u hi=>(hb.cell (p:=⟨b,off+j*37+i,none⟩) (a_Nat_lt_of_lt_of_le hlt hB)).trans (c1 i u hi),c2.below hb hB⟩
theorem ActsRaw.mono {B B':Nat} {w:World} {v:Value} {l:List CH.Act} (h:ActsRaw B w v l) (hB:B<=B'):ActsRaw B' w v l:=by obtain⟨a,cap,h1,h2,h3,h4⟩:=h;refine⟨a,cap,h1,h2,h3,fun hne=>?_⟩;obtain⟨b,off,e,hlt,hx⟩:=h4 hne;refine⟨b,off,e,a_Nat_lt_of_lt_of_le hlt hB,fun j x hj=>?_⟩;obtain⟨s,c1,c2⟩:=hx j x hj;exact⟨s,c1,c2.mono hB⟩
theorem wpList_load_midg {P:Program} {ops:Array Oper} {rest:List Oper} {op:Oper} {a:Act} {w:World} {Q:Exit->Act->World->Prop} (hw:Region.wanted op (yielded ops a.tmps)=true) (ty:TypeId) (x:Operand) (ho:op.op=.load ty x) (b o:Nat) (hx:a.eval x=.pointer (some ⟨b,o,none⟩)) (cs:List Value) (d:TypeDesc) (hc:w.rangeAt b o cs) (hu:P.underlying ty=some d) (hd:d.isRow=true) (hi:(P.info? ty).map (·.size)=some cs.length) (h:wpList P ops Q rest (a.put op.dst (.agg cs.toArray)) w):wpList P ops Q (op::rest) a w := wpList_step fun K hK=>by rw [hw,a_if_pos rfl];exact wp_load_mid ty x ho b o hx cs d hc hu hd hi (hK _ _ h)
end Go.Proofs.YtnfcjgfaecihbaaGreatDoor
namespace Go.Proofs.YtnfcjgfaecihbaaGreatDoor
section
open Go.Lib Go.Proofs.Tryz Go.RowKit
end
section
open Go.Lib Go.Proofs.Tryz Go.RowKit Go.Shelf Go.Sort
def versCells (xs:List (CH.Version × VerV)):List Value:=xs.flatMap fun x=>verCells x.1 x.2
def OwnVers (base B:Nat) (w:World) (v:Value) (ls:List CH.Version):Prop := ∃ xs:List (CH.Version × VerV),xs.map (·.1)=ls/\w.ownsRow base 96 8 v ls.length (versCells xs)/\(∀ x∈xs,VerAt B w x.1 x.2)/\B<=base/\base<=w.heap.size
theorem OwnVers.nil {base B:Nat} {w:World} (hB:B<=base) (hb:base<=w.heap.size):OwnVers base B w (.slice none 0 0) []:=⟨[],rfl,a_World_ownsRow_nil w base _ _,(fun _ h=>by cases h),hB,hb⟩
theorem OwnVers.below {base B:Nat} {w w':World} {v:Value} {ls:List CH.Version} (h:OwnVers base B w v ls) (hb:Below w w w'):OwnVers base B w' v ls:=by obtain⟨xs,h1,h2,h3,h4,h5⟩:=h;exact⟨xs,h1,ownsRow_below h2 hb,fun x hx=>(h3 x hx).below hb (a_Nat_le_trans h4 h5),h4,a_Nat_le_trans h5 hb.size⟩
theorem _root_.Go.World.grownBy.cells {w w':World} {row:Option Nat} (h:w.grownBy w' row) {p:Addr} {v:Value} (hp:w.cell? p=some v) (hne:row≠some p.block):w'.cell? p=some v:=by rw [cell?_block (h.block _ (a_World_block_lt_of_cellQ w p hp) hne.symm)];exact hp
end
section
open Go.Deep Go.Lib Go.Proofs.Tryz Go.RowKit Go.Shelf Go.Sort Go.WideShapes
section
variable {H:Type} {enc:TypeId × Value->H} {w:World} {spare:Nat->Bool} {held:Bool}
theorem open_sl {t e:TypeId} {C fuel:Nat} {cs:List Value} {x:DataW H × List MemPlace} (ht:Tryz.prog.underlying t=some (.slice e)) (hC:Tryz.prog.cellsOf e=C) (hpos:0<C) (h:DataW.trod enc Tryz.prog w 0 spare held fuel t cs=some x) : ∃ a len cap,cs=[.slice a len cap]/\len<=cap/\cap<=9223372036854775807 /\ (len≠0->∃ b off,a=some ⟨b,off,none⟩/\b<w.heap.size/\∀ j,j<len->∃ cs' k y,k<fuel/\cs'.length=C/\(∀ i u,cs'[i]?=some u->w.cell? ⟨b,off+j*C+i,none⟩=some u)/\DataW.trod enc Tryz.prog w 0 spare held k e cs'=some y):=by
 subst hC;rcases DataW.trod_slice ht h with⟨h0,_⟩|⟨a,len,cap,elems,rest,n,hn,rfl,_,_,hl,hm,hlen,hel,_,_⟩;·exact⟨none,0,0,h0,oM,oM,fun h=>absurd rfl h⟩
 ·unfold maxLen at hm;refine⟨some a,len,cap,rfl,hl,oM,fun hne=>?_⟩;have key:∀ j,j<len->∃ cs' y,cs'.length=Tryz.prog.cellsOf e/\(∀ i,i<Tryz.prog.cellsOf e->w.cell? ((a.add (j*Tryz.prog.cellsOf e)).add i)=cs'[i]?)/\DataW.trod enc Tryz.prog w 0 spare held n e cs'=some y:=fun j hj=>by have h1:=hel j hj;rw [a_List_getElemQ_eq_getElem oM] at h1;obtain⟨cs',h2,h3⟩:=Option.bind_eq_some_iff.1 h1;obtain⟨_,h4,h5⟩:=World.cells?_some h2;exact⟨cs',_,h4,h5,h3⟩
  have hplain:∃ b off,a=⟨b,off,none⟩/\b<w.heap.size:=by
   obtain⟨cs',y,h4,h5,_⟩:=key 0 oM;have h6:=h5 0 hpos;rw [a_List_getElemQ_eq_getElem oM] at h6;have e0:(a.add (0*Tryz.prog.cellsOf e)).add 0=a:=by simp [Addr.add]
   rw [e0] at h6;have h7:=a_World_block_lt_of_cellQ w _ h6;obtain⟨b,off,sub⟩:=a;cases sub with
   |none=>exact⟨b,off,rfl,h7⟩
   |some q =>
    exfalso;unfold World.cell? at h6;split at h6;·simp at h6
    ·cases h6
  obtain⟨b,off,rfl,hb⟩:=hplain;refine⟨b,off,rfl,hb,fun j hj=>?_⟩;obtain⟨cs',y,h4,h5,h6⟩:=key j hj;refine⟨cs',n,y,oM,h4,fun i u hu=>?_,h6⟩;have hi:i<cs'.length:=(a_List_getElemQ_eq_some_iff.1 hu).1;have h7:=h5 i oM;rw [Deep.add_add,hu] at h7;rw [a_Nat_add_assoc,<- Go.WideShapes.add_plain];exact h7
theorem open_fld {t:TypeId} {fs:Array Field} {fuel:Nat} {cs:List Value} {x:DataW H × List MemPlace} (ht:Tryz.prog.underlying t=some (.struct fs)) (h:DataW.trod enc Tryz.prog w 0 spare held fuel t cs=some x) (i:Nat) (e:TypeId) (o n:Nat) (hf:(fs[i]?).map (fun f=>(f.type,f.offset))=some (e,o)) (hn:Tryz.prog.cellsOf e=n) : ∃ k y,k<fuel/\DataW.trod enc Tryz.prog w 0 spare held k e ((cs.drop o).take n)=some y:=by
 obtain⟨xs,k,rfl,_,_,hlen,hx⟩:=DataW.trod_struct ht h;cases hi:fs[i]? with
 |none=>rw [hi] at hf;cases hf
 |some f =>
  rw [hi] at hf;simp only [a_Option_map_some,a_Option_some_injEq,a_Prod_mk_injEq] at hf;obtain⟨rfl,rfl⟩:=hf;have hlt:i<xs.length:=by rw [hlen];exact (a_Array_getElemQ_eq_some_iff.1 hi).1
  have:=hx i f hi;rw [hn,a_List_getElemQ_eq_getElem hlt] at this;exact⟨k,_,oM,this⟩
theorem open_len {t:TypeId} {fs:Array Field} {fuel:Nat} {cs:List Value} {x:DataW H × List MemPlace} (ht:Tryz.prog.underlying t=some (.struct fs)) (h:DataW.trod enc Tryz.prog w 0 spare held fuel t cs=some x) (n:Nat) (hn:Tryz.prog.cellsOf t=n):cs.length=n:=by obtain⟨xs,k,_,_,hl,_,_⟩:=DataW.trod_struct ht h;rw [hl,hn]
theorem open_i {k:Nat} {cs:List Value} {y:DataW H × List MemPlace} (h:DataW.trod enc Tryz.prog w 0 spare held k 3 cs=some y):∃ n:Int,cs=[intV n]/\I64 n:=by obtain⟨n,h1,_,h3⟩:=DataW.trod_int underlying3 h;rw [Lit.wf_int_iff] at h3;exact⟨n,h1,h3⟩
theorem open_s {k:Nat} {cs:List Value} {y:DataW H × List MemPlace} (h:DataW.trod enc Tryz.prog w 0 spare held k 9 cs=some y):∃ l:List UInt8,cs=[strV l]/\l.length<=9223372036854775807:=by obtain⟨s,h1,_,h3⟩:=DataW.trod_string underlying9 h;unfold maxLen at h3;obtain⟨⟨l⟩⟩:=s;refine⟨l,h1,?_⟩;have:l.length<=2 ^ 63 - 1:=h3;omega
theorem list_of {α:Type} {p:Nat->α->Prop}:∀ n,(∀ j,j<n->∃ x,p j x)->∃ l:List α,l.length=n/\∀ j x,l[j]?=some x->p j x
 |0,_=>⟨[],rfl,fun j x h=>by simp at h⟩
 |n+1,h=>by
  obtain⟨l,hl,hx⟩:=list_of n (fun j hj=>h j oM)
  obtain⟨x,hp⟩:=h n oM
  refine⟨l++[x],by simp [hl],fun j y hj=>?_⟩
  rcases a_Nat_lt_trichotomy j n with h1|h1|h1
  ·rw [a_List_getElemQ_append_left oM] at hj
   exact hx j y hj
  ·subst h1
   rw [<- hl] at hj
   simp at hj
   subst hj
   exact hp
  ·rw [a_List_getElemQ_eq_none (by simp;omega)] at hj
   cases hj
theorem open_ss {k:Nat} {cs:List Value} {y:DataW H × List MemPlace} (h:DataW.trod enc Tryz.prog w 0 spare held k 49 cs=some y) : ∃ v ls,cs=[v]/\Strs w w v ls/\∀ l∈ls,l.length<=9223372036854775807:=by
 obtain⟨a,len,cap,rfl,h1,h2,h3⟩:=open_sl (C:=1) underlying49 kR dC h;by_cases h0:len=0;·subst h0;exact⟨_,[],rfl,⟨a,cap,rfl,h1,h2,fun hne=>absurd rfl hne⟩,fun _ h=>by cases h⟩
 ·obtain⟨b,off,rfl,hb,hx⟩:=h3 h0;obtain⟨ls,hl,hp⟩:=list_of (p:=fun j (l:List UInt8)=>w.cell? ⟨b,off+j,none⟩=some (strV l)/\l.length<=9223372036854775807) len (fun j hj=>by obtain⟨cs',k',y',_,_,hc,ht⟩:=hx j hj;obtain⟨l,rfl,hl⟩:=open_s ht;have:=hc 0 _ rfl;rw [Nat.mul_one,a_Nat_add_zero] at this;exact⟨l,this,hl⟩);refine⟨_,ls,rfl,⟨_,cap,by rw [hl],oM,h2,fun _=>⟨b,off,rfl,hb,fun j l hj=>(hp j l hj).1⟩⟩,fun l hl'=>?_⟩;obtain⟨j,hj⟩:=a_List_mem_iff_getElemQ.1 hl';exact (hp j l hj).2
theorem open_names {k:Nat} {cs:List Value} {y:DataW H × List MemPlace} (h:DataW.trod enc Tryz.prog w 0 spare held k 60 cs=some y) : ∃ v ns,cs=[v]/\NamesAt w w v ns:=by
 obtain⟨a,len,cap,rfl,h1,h2,h3⟩:=open_sl (C:=2) underlying60 kR dC h;by_cases h0:len=0;·subst h0;exact⟨_,[],rfl,⟨a,cap,rfl,h1,h2,fun hne=>absurd rfl hne⟩⟩
 ·obtain⟨b,off,rfl,hb,hx⟩:=h3 h0;obtain⟨ns,hl,hp⟩:=list_of (p:=fun j (n:CH.Name)=>∃ vw,w.cell? ⟨b,off+j*2,none⟩=some ↑n.script/\w.cell? ⟨b,off+j*2+1,none⟩=some vw/\Strs w w vw n.words) len (fun j hj=>by
   obtain⟨cs',k',y',_,hlen,hc,ht⟩:=hx j hj;obtain⟨_,_,_,t0⟩:=open_fld underlying162 ht 0 3 0 1 rfl kR;obtain⟨_,_,_,t1⟩:=open_fld underlying162 ht 1 49 1 1 rfl kR;match cs',hlen with
   |[c0,c1],_ =>obtain⟨n,e0,_⟩:=open_i t0;obtain⟨v,ls,e1,hs,_⟩:=open_ss t1;simp at e0 e1;subst e0 e1;exact⟨⟨n,ls⟩,_,hc 0 _ rfl,hc 1 _ rfl,hs⟩)
  exact⟨_,ns,rfl,⟨_,cap,by rw [hl],oM,h2,fun _=>⟨b,off,rfl,hb,hp⟩⟩⟩
theorem rowAt_of {B:Nat}:∀ (l:List CH.Formula) (b off:Nat),(∀ (j:Nat) (f:CH.Formula),l[j]?=some f->∃ vk,w.cell? ⟨b,off+j*5,none⟩=some ↑f.op/\w.cell? ⟨b,off+j*5+1,none⟩=some ↑f.name/\w.cell? ⟨b,off+j*5+2,none⟩=some ↑f.cmp/\w.cell? ⟨b,off+j*5+3,none⟩=some ↑f.n/\w.cell? ⟨b,off+j*5+4,none⟩=some vk/\KidsAt B w f vk)->RowAt B w l b off
 |[],_,_,_=>by unfold RowAt;trivial
 |f::l,b,off,h=>by
  unfold RowAt
  refine⟨?_,rowAt_of l b (off+5) fun j g hj=>?_⟩
  ·have:=h 0 f rfl
   rw [Nat.zero_mul,a_Nat_add_zero] at this
   exact this
  ·have:=h (j+1) g (by simpa using hj)
   rw [show off+(j+1)*5=off+5+j*5 from by omega] at this
   exact this
def formCells (f:CH.Formula) (vk:Value):List Value:=[intV f.op,strV f.name,intV f.cmp,intV f.n,vk]
theorem open_form:∀ (k:Nat) {cs:List Value} {y:DataW H × List MemPlace},DataW.trod enc Tryz.prog w 0 spare held k 75 cs=some y->∃ f vk,cs=formCells f vk/\KidsAt w w f vk:=by
 intro k;induction k using Nat.strongRecOn with
 |_ k ih =>
  intro cs y ht;have hlen:=open_len underlying75 ht 5 kR;obtain⟨_,_,_,t0⟩:=open_fld underlying75 ht 0 3 0 1 rfl kR;obtain⟨_,_,_,t1⟩:=open_fld underlying75 ht 1 9 1 1 rfl kR;obtain⟨_,_,_,t2⟩:=open_fld underlying75 ht 2 3 2 1 rfl kR;obtain⟨_,_,_,t3⟩:=open_fld underlying75 ht 3 3 3 1 rfl kR;obtain⟨k4,_,hk4,t4⟩:=open_fld underlying75 ht 4 73 4 1 rfl kR;obtain⟨a,len,cap,e4,h1,h2,h3⟩:=open_sl (C:=5) underlying73 kR dC t4;obtain⟨op,e0,_⟩:=open_i t0;obtain⟨name,e1,_⟩:=open_s t1;obtain⟨cmp,e2,_⟩:=open_i t2;obtain⟨n,e3,_⟩:=open_i t3;match cs,hlen with
  |[c0,c1,c2,c3,c4],_ =>
   simp at e0 e1 e2 e3 e4;subst e0 e1 e2 e3 e4;by_cases h0:len=0;·subst h0;refine⟨.mk op name cmp n [],_,rfl,?_⟩;unfold KidsAt;exact⟨a,cap,rfl,h1,h2,fun hne=>absurd rfl hne⟩
   ·obtain⟨b,off,rfl,hb,hx⟩:=h3 h0;obtain⟨kids,hl,hp⟩:=list_of (p:=fun j (f:CH.Formula)=>∃ vk,w.cell? ⟨b,off+j*5,none⟩=some ↑f.op/\w.cell? ⟨b,off+j*5+1,none⟩=some ↑f.name/\w.cell? ⟨b,off+j*5+2,none⟩=some ↑f.cmp/\w.cell? ⟨b,off+j*5+3,none⟩=some ↑f.n/\w.cell? ⟨b,off+j*5+4,none⟩=some vk/\KidsAt w w f vk) len (fun j hj=>by obtain⟨cs',k',y',hk',_,hc,ht'⟩:=hx j hj;obtain⟨f,vk,rfl,hK⟩:=ih k' oM ht';exact⟨f,vk,hc 0 _ rfl,hc 1 _ rfl,hc 2 _ rfl,hc 3 _ rfl,hc 4 _ rfl,hK⟩);refine⟨.mk op name cmp n kids,_,rfl,?_⟩;unfold KidsAt;exact⟨_,cap,by rw [hl],oM,h2,fun _=>⟨b,off,rfl,hb,rowAt_of kids b off hp⟩⟩
structure ActNums (a:CH.Act):Prop where
 kind:I64 a.kind
 n:I64 a.n
 pos:I64 a.change.pos
 meas:MeasureNums a.measure
theorem open_change {k:Nat} {cs:List Value} {y:DataW H × List MemPlace} (ht:DataW.trod enc Tryz.prog w 0 spare held k 83 cs=some y) : ∃ c vn,cs=changeCells c vn/\NamesAt w w vn c.entry.names/\I64 c.pos:=by
 have hlen:=open_len underlying83 ht 5 kR;obtain⟨_,_,_,t0⟩:=open_fld underlying83 ht 0 3 0 1 rfl kR;obtain⟨_,_,_,t1⟩:=open_fld underlying83 ht 1 9 1 1 rfl kR;obtain⟨_,_,_,t2⟩:=open_fld underlying83 ht 2 62 2 2 rfl kR;obtain⟨_,_,_,t3⟩:=open_fld underlying83 ht 3 3 4 1 rfl kR;obtain⟨_,_,_,u0⟩:=open_fld underlying62 t2 0 9 0 1 rfl kR;obtain⟨_,_,_,u1⟩:=open_fld underlying62 t2 1 60 1 1 rfl kR;obtain⟨kind,e0,_⟩:=open_i t0;obtain⟨id,e1,_⟩:=open_s t1;obtain⟨eid,e2,_⟩:=open_s u0;obtain⟨vn,ns,e3,hN⟩:=open_names u1;obtain⟨pos,e4,hp⟩:=open_i t3;match cs,hlen with
 |[c0,c1,c2,c3,c4],_ =>simp at e0 e1 e2 e3 e4;subst e0 e1 e2 e3 e4;exact⟨⟨kind,id,⟨eid,ns⟩,pos⟩,_,rfl,hN,hp⟩
theorem open_meas {k:Nat} {cs:List Value} {y:DataW H × List MemPlace} (ht:DataW.trod enc Tryz.prog w 0 spare held k 85 cs=some y) : ∃ m vk,cs=measureCells m vk/\KidsAt w w m.when_ vk/\MeasureNums m:=by
 have hlen:=open_len underlying85 ht 12 kR;obtain⟨_,_,_,t0⟩:=open_fld underlying85 ht 0 9 0 1 rfl kR;obtain⟨_,_,_,t1⟩:=open_fld underlying85 ht 1 9 1 1 rfl kR;obtain⟨_,_,_,t2⟩:=open_fld underlying85 ht 2 3 2 1 rfl kR;obtain⟨_,_,_,t3⟩:=open_fld underlying85 ht 3 9 3 1 rfl kR;obtain⟨_,_,_,t4⟩:=open_fld underlying85 ht 4 75 4 5 rfl kR;obtain⟨_,_,_,t5⟩:=open_fld underlying85 ht 5 3 9 1 rfl kR;obtain⟨_,_,_,t6⟩:=open_fld underlying85 ht 6 3 10 1 rfl kR;obtain⟨_,_,_,t7⟩:=open_fld underlying85 ht 7 3 11 1 rfl kR;obtain⟨id,e0,_⟩:=open_s t0;obtain⟨au,e1,_⟩:=open_s t1;obtain⟨kind,e2,n2⟩:=open_i t2;obtain⟨tg,e3,_⟩:=open_s t3;obtain⟨f,vk,e4,hK⟩:=open_form _ t4;obtain⟨x5,e5,n5⟩:=open_i t5;obtain⟨x6,e6,n6⟩:=open_i t6;obtain⟨x7,e7,n7⟩:=open_i t7;match cs,hlen with
 |[c0,c1,c2,c3,c4,c5,c6,c7,c8,c9,c10,c11],_ =>simp [formCells] at e0 e1 e2 e3 e4 e5 e6 e7;obtain⟨f0,f1,f2,f3,f4⟩:=e4;subst e0 e1 e2 e3 f0 f1 f2 f3 f4 e5 e6 e7;exact⟨⟨id,au,kind,tg,f,x5,x6,x7⟩,_,rfl,hK,⟨n2,n5,n6,n7⟩⟩
theorem open_lic {k:Nat} {cs:List Value} {y:DataW H × List MemPlace} (ht:DataW.trod enc Tryz.prog w 0 spare held k 87 cs=some y) : ∃ l vm vp,cs=licCells l vm vp/\Strs w w vm l.measures/\Strs w w vp l.parties:=by
 have hlen:=open_len underlying87 ht 7 kR;obtain⟨_,_,_,t0⟩:=open_fld underlying87 ht 0 9 0 1 rfl kR;obtain⟨_,_,_,t1⟩:=open_fld underlying87 ht 1 49 1 1 rfl kR;obtain⟨_,_,_,t2⟩:=open_fld underlying87 ht 2 49 2 1 rfl kR;obtain⟨_,_,_,t3⟩:=open_fld underlying87 ht 3 3 3 1 rfl kR;obtain⟨_,_,_,t4⟩:=open_fld underlying87 ht 4 3 4 1 rfl kR;obtain⟨_,_,_,t5⟩:=open_fld underlying87 ht 5 3 5 1 rfl kR;obtain⟨_,_,_,t6⟩:=open_fld underlying87 ht 6 3 6 1 rfl kR;obtain⟨id,e0,_⟩:=open_s t0;obtain⟨vm,lm,e1,hm,_⟩:=open_ss t1;obtain⟨vp,lp,e2,hp,_⟩:=open_ss t2;obtain⟨x3,e3,_⟩:=open_i t3;obtain⟨x4,e4,_⟩:=open_i t4;obtain⟨x5,e5,_⟩:=open_i t5;obtain⟨x6,e6,_⟩:=open_i t6;match cs,hlen with
 |[c0,c1,c2,c3,c4,c5,c6],_ =>simp at e0 e1 e2 e3 e4 e5 e6;subst e0 e1 e2 e3 e4 e5 e6;exact⟨⟨id,lm,lp,x3,x4,x5,x6⟩,_,_,rfl,hm,hp⟩
theorem open_hold {k:Nat} {cs:List Value} {y:DataW H × List MemPlace} (ht:DataW.trod enc Tryz.prog w 0 spare held k 89 cs=some y) : ∃ l vj,cs=holdCells l vj/\Strs w w vj l.joint:=by
 have hlen:=open_len underlying89 ht 10 kR;obtain⟨_,_,_,t0⟩:=open_fld underlying89 ht 0 9 0 1 rfl kR;obtain⟨_,_,_,t1⟩:=open_fld underlying89 ht 1 9 1 1 rfl kR;obtain⟨_,_,_,t2⟩:=open_fld underlying89 ht 2 9 2 1 rfl kR;obtain⟨_,_,_,t3⟩:=open_fld underlying89 ht 3 9 3 1 rfl kR;obtain⟨_,_,_,t4⟩:=open_fld underlying89 ht 4 9 4 1 rfl kR;obtain⟨_,_,_,t5⟩:=open_fld underlying89 ht 5 49 5 1 rfl kR;obtain⟨_,_,_,t6⟩:=open_fld underlying89 ht 6 3 6 1 rfl kR;obtain⟨_,_,_,t7⟩:=open_fld underlying89 ht 7 3 7 1 rfl kR;obtain⟨_,_,_,t8⟩:=open_fld underlying89 ht 8 3 8 1 rfl kR;obtain⟨_,_,_,t9⟩:=open_fld underlying89 ht 9 3 9 1 rfl kR;obtain⟨x0,e0,_⟩:=open_s t0;obtain⟨x1,e1,_⟩:=open_s t1;obtain⟨x2,e2,_⟩:=open_s t2;obtain⟨x3,e3,_⟩:=open_s t3;obtain⟨x4,e4,_⟩:=open_s t4;obtain⟨vj,x5,e5,hj,_⟩:=open_ss t5;obtain⟨x6,e6,_⟩:=open_i t6;obtain⟨x7,e7,_⟩:=open_i t7;obtain⟨x8,e8,_⟩:=open_i t8;obtain⟨x9,e9,_⟩:=open_i t9;match cs,hlen with
 |[c0,c1,c2,c3,c4,c5,c6,c7,c8,c9],_ =>simp at e0 e1 e2 e3 e4 e5 e6 e7 e8 e9;subst e0 e1 e2 e3 e4 e5 e6 e7 e8 e9;exact⟨⟨x0,x1,x2,x3,x4,x5,x6,x7,x8,x9⟩,_,rfl,hj⟩
theorem split37 {α:Type} (cs:List α) (h:cs.length=37):cs=(cs.drop 0).take 1++((cs.drop 1).take 5++((cs.drop 6).take 12++((cs.drop 18).take 7++((cs.drop 25).take 10++((cs.drop 35).take 1++(cs.drop 36).take 1))))):=by
 have key:∀ (o n m:Nat),m=o+n->cs.drop o=(cs.drop o).take n++cs.drop m:=fun o n m e=>by subst e;rw [<- List.drop_drop,a_List_take_append_drop]
 have e36:(cs.drop 36).take 1=cs.drop 36:=a_List_take_of_length_le (by simp;omega);rw [e36,<- key 35 1 36 rfl,<- key 25 10 35 rfl,<- key 18 7 25 rfl,<- key 6 12 18 rfl,<- key 1 5 6 rfl,<- key 0 1 1 rfl,a_List_drop_zero]
theorem open_act {k:Nat} {cs:List Value} {y:DataW H × List MemPlace} (ht:DataW.trod enc Tryz.prog w 0 spare held k 91 cs=some y) : ∃ a s,cs=actCells a s/\ActRaw w w a s/\ActNums a:=by have hlen:=open_len underlying91 ht 37 kR;obtain⟨_,_,_,t0⟩:=open_fld underlying91 ht 0 3 0 1 rfl kR;obtain⟨_,_,_,t1⟩:=open_fld underlying91 ht 1 83 1 5 rfl kR;obtain⟨_,_,_,t2⟩:=open_fld underlying91 ht 2 85 6 12 rfl kR;obtain⟨_,_,_,t3⟩:=open_fld underlying91 ht 3 87 18 7 rfl kR;obtain⟨_,_,_,t4⟩:=open_fld underlying91 ht 4 89 25 10 rfl kR;obtain⟨_,_,_,t5⟩:=open_fld underlying91 ht 5 9 35 1 rfl kR;obtain⟨_,_,_,t6⟩:=open_fld underlying91 ht 6 3 36 1 rfl kR;obtain⟨kind,e0,n0⟩:=open_i t0;obtain⟨c,vn,e1,hN,np⟩:=open_change t1;obtain⟨m,vk,e2,hK,nm⟩:=open_meas t2;obtain⟨l,vm,vp,e3,hm,hp⟩:=open_lic t3;obtain⟨h,vj,e4,hj⟩:=open_hold t4;obtain⟨id,e5,_⟩:=open_s t5;obtain⟨n,e6,nn⟩:=open_i t6;refine⟨⟨kind,c,m,l,h,id,n⟩,⟨vn,vk,vm,vp,vj⟩,?_,⟨hN,hK,hm,hp,hj⟩,⟨n0,nn,np,nm⟩⟩;rw [split37 cs hlen,e0,e1,e2,e3,e4,e5,e6];rfl
theorem open_acts {k:Nat} {cs:List Value} {y:DataW H × List MemPlace} (h:DataW.trod enc Tryz.prog w 0 spare held k 92 cs=some y) : ∃ v l,cs=[v]/\ActsRaw w w v l/\∀ a∈l,ActNums a:=by
 obtain⟨a,len,cap,rfl,h1,h2,h3⟩:=open_sl (C:=37) underlying92 kR dC h;by_cases h0:len=0;·subst h0;exact⟨_,[],rfl,⟨a,cap,rfl,h1,h2,fun hne=>absurd rfl hne⟩,fun _ h=>by cases h⟩
 ·obtain⟨b,off,rfl,hb,hx⟩:=h3 h0;obtain⟨l,hl,hp⟩:=list_of (p:=fun j (x:CH.Act)=>(∃ s,(∀ i u,(actCells x s)[i]?=some u->w.cell? ⟨b,off+j*37+i,none⟩=some u)/\ActRaw w w x s)/\ActNums x) len (fun j hj=>by obtain⟨cs',k',y',_,_,hc,ht⟩:=hx j hj;obtain⟨x,s,rfl,hr,hn⟩:=open_act ht;exact⟨x,⟨s,hc,hr⟩,hn⟩);refine⟨_,l,rfl,⟨_,cap,by rw [hl],oM,h2,fun _=>⟨b,off,rfl,hb,fun j x hj=>(hp j x hj).1⟩⟩,fun x hx=>?_⟩;obtain⟨j,hj⟩:=a_List_mem_iff_getElemQ.1 hx;exact (hp j x hj).2
structure VerRaw (B:Nat) (w:World) (v:CH.Version) (s:VerV):Prop where
 acts:ActsRaw B w s.va v.acts
 sig:Strs B w s.v1 v.sel.sig
 path:Strs B w s.v2 v.sel.path
structure VerNums (v:CH.Version):Prop where
 authority:I64 v.authority
 number:I64 v.number
 pos:I64 v.pos
 index:I64 v.sel.index
 acts:∀ a∈v.acts,ActNums a
theorem open_ver {k:Nat} {cs:List Value} {y:DataW H × List MemPlace} (ht:DataW.trod enc Tryz.prog w 0 spare held k 96 cs=some y) : ∃ v s,cs=verCells v s/\VerRaw w w v s/\VerNums v:=by
 have hlen:=open_len underlying96 ht 8 kR;obtain⟨_,_,_,t0⟩:=open_fld underlying96 ht 0 3 0 1 rfl kR;obtain⟨_,_,_,t1⟩:=open_fld underlying96 ht 1 3 1 1 rfl kR;obtain⟨_,_,_,t2⟩:=open_fld underlying96 ht 2 3 2 1 rfl kR;obtain⟨_,_,_,t3⟩:=open_fld underlying96 ht 3 9 3 1 rfl kR;obtain⟨_,_,_,t4⟩:=open_fld underlying96 ht 4 92 4 1 rfl kR;obtain⟨_,_,_,t5⟩:=open_fld underlying96 ht 5 94 5 3 rfl kR;obtain⟨_,_,_,u0⟩:=open_fld underlying94 t5 0 3 0 1 rfl kR;obtain⟨_,_,_,u1⟩:=open_fld underlying94 t5 1 49 1 1 rfl kR;obtain⟨_,_,_,u2⟩:=open_fld underlying94 t5 2 49 2 1 rfl kR;obtain⟨x0,e0,n0⟩:=open_i t0;obtain⟨x1,e1,n1⟩:=open_i t1;obtain⟨x2,e2,n2⟩:=open_i t2;obtain⟨x3,e3,_⟩:=open_s t3;obtain⟨va,x4,e4,ha,na⟩:=open_acts t4;obtain⟨x5,e5,n5⟩:=open_i u0;obtain⟨v1,x6,e6,h1,_⟩:=open_ss u1;obtain⟨v2,x7,e7,h2,_⟩:=open_ss u2;match cs,hlen with
 |[c0,c1,c2,c3,c4,c5,c6,c7],_ =>simp at e0 e1 e2 e3 e4 e5 e6 e7;subst e0 e1 e2 e3 e4 e5 e6 e7;exact⟨⟨x0,x1,x2,x3,x4,⟨x5,x6,x7⟩⟩,⟨_,_,_⟩,rfl,⟨ha,h1,h2⟩,⟨n0,n1,n2,n5,na⟩⟩
def VersRaw (B:Nat) (w:World) (v:Value) (l:List CH.Version):Prop := ∃ a cap,v=.slice a l.length cap/\l.length<=cap/\cap<=9223372036854775807 /\ (l≠[]->∃ b off,a=some ⟨b,off,none⟩/\b<B/\∀ j x,l[j]?=some x->∃ s,(∀ i u,(verCells x s)[i]?=some u->w.cell? ⟨b,off+j*8+i,none⟩=some u)/\VerRaw B w x s)
theorem open_vers {k:Nat} {cs:List Value} {y:DataW H × List MemPlace} (h:DataW.trod enc Tryz.prog w 0 spare held k 22 cs=some y) : ∃ v l,cs=[v]/\VersRaw w w v l/\∀ a∈l,VerNums a:=by
 obtain⟨a,len,cap,rfl,h1,h2,h3⟩:=open_sl (C:=8) underlying22 kR dC h;by_cases h0:len=0;·subst h0;exact⟨_,[],rfl,⟨a,cap,rfl,h1,h2,fun hne=>absurd rfl hne⟩,fun _ h=>by cases h⟩
 ·obtain⟨b,off,rfl,hb,hx⟩:=h3 h0;obtain⟨l,hl,hp⟩:=list_of (p:=fun j (x:CH.Version)=>(∃ s,(∀ i u,(verCells x s)[i]?=some u->w.cell? ⟨b,off+j*8+i,none⟩=some u)/\VerRaw w w x s)/\VerNums x) len (fun j hj=>by obtain⟨cs',k',y',_,_,hc,ht⟩:=hx j hj;obtain⟨x,s,rfl,hr,hn⟩:=open_ver ht;exact⟨x,⟨s,hc,hr⟩,hn⟩);refine⟨_,l,rfl,⟨_,cap,by rw [hl],oM,h2,fun _=>⟨b,off,rfl,hb,fun j x hj=>(hp j x hj).1⟩⟩,fun x hx=>?_⟩;obtain⟨j,hj⟩:=a_List_mem_iff_getElemQ.1 hx;exact (hp j x hj).2
end
end
end Go.Proofs.YtnfcjgfaecihbaaGreatDoor
namespace Go.Proofs.YtnfcjgfaecihbaaGreatDoor
end Go.Proofs.YtnfcjgfaecihbaaGreatDoor