/-
  ChainSeals: the proof, part 6 of 15.
-/
import Derived.Test.YtjepldaciejieaaGreatDoorP04
import Derived.Deep.MidRow
import Derived.Deep.RegionHeld3
import Derived.OrdersHeld
set_option linter.unusedSimpArgs false
set_option linter.unusedVariables false
set_option maxHeartbeats 40000000
set_option maxRecDepth 100000
namespace Go.Proofs.YtjepldaciejieaaGreatDoor
section
open Go.Lib Go.Proofs.Tryz Go.RowKit Go.Shelf Go.Sort
def Bc (base p:Nat) (w:World) (ls:List (List UInt8)):Prop:=∃ v,w.heap[p]?=some (.cells #[v] 25 (0,0))∧Ag base w v ls∧v.ownBlock≠some p∧base≤p
def Added (base p:Nat) (w:World) (ls:List (List UInt8)) (e:Ending) (w':World):Prop:=e=.returned (.tuple #[])∧Bc base p w' ls∧Below base w w'∧w.heap.size≤w'.heap.size
theorem Bc.below {base p:Nat} {w w':World} {ls:List (List UInt8)} (h:Bc base p w ls) (hb:Below w.heap.size w w'):Bc base p w' ls:=by
 obtain⟨v,h1,h2,h3,h4⟩:=h
 exact⟨v,(hb.block p (aZ h1)).trans h1,h2.below hb,h3,h4⟩
theorem wordsAt_lt {base p:Nat} {w:World} {ls:List (List UInt8)} (h:Bc base p w ls):p<w.heap.size:=by
 obtain⟨v,h1,_⟩:=h
 exact (aZ h1)
theorem Df (vx:Value) (lx ls:List (List UInt8)) (base p B:Nat) (w:World) (hW:Bc base p w ls) (hX:Strs B w vx lx) (hl:ls.length+lx.length≤1000000) :
  Calls prog 80 #[vx,.pointer (some ⟨p,0,none⟩)] w (Added base p w (ls++lx)):=by
 have hpl:=wordsAt_lt hW
 obtain⟨v,hv,hO,hne,hbp⟩:=hW
 obtain⟨av,cv,rfl,hf1,hf2,_⟩:=hO.form
 have hblk:=ownsRow_block hO
 have c0:w.cell? ⟨p,0,none⟩=some (.slice av ls.length cv):=cell_of hv 0
 obtain⟨ax,cx,rfl,_,_⟩:=hX.form
 generalize hN:ls.length=N at *
 generalize hM:lx.length=M at *
 go_enter func80,ntmps80
 go_wp2_with (refine append_strs rfl _ _ rfl base _ ls rfl hO B _ lx rfl hX (by omega) (by omega) ?_;intro v5 w5 hO5 hg5 h45;have hn5:v5.ownBlock≠some p:=h45.elim (fun h=>(by rw [h];exact hne)) (fun h e=>(by rw [h] at e;injection e;omega));clear h45;obtain⟨a5,c5,rfl,hf5⟩:=hO5.form;have hp5:=(hg5.block p hpl (fun e=>hne e.symm)).trans hv;have c5':w5.cell? ⟨p,0,none⟩=some (.slice av N cv):=cell_of hp5 0;have f5':w5.frozen? ⟨p,0,none⟩=false:=Aj hp5 0)
 go_end0
 have y0:=Ai w5 p 0 (.slice a5 (ls++lx).length c5) _ _ _ hp5
 simp only [List.setIfInBounds_toArray,List.set_cons_zero] at y0
 have e1:(ls++lx).length=N+M:=by simp [hN,hM]
 refine⟨rfl,⟨_,?_,World.ownsRow.kept hO5 (De w5 ⟨p,0,none⟩ _) (.inr hn5),hn5,hbp⟩,?_,?_⟩
 ·simpa [e1] using y0
 ·exact (((Below.refl base w).grown hg5 (by omega) (fun k e=>hblk k e))).setCell (p:=⟨p,0,none⟩) hbp _
 ·simp [World.setCell];exact hg5.size
theorem kind_of_ok {c:CH.Change} (h:CH.changeOk c=true):c.kind=1∨c.kind=2∨c.kind=3∨c.kind=4:=by
 apply Classical.byContradiction
 intro hn
 have hlt:c.kind<1∨c.kind > 4:=by omega
 unfold CH.changeOk at h
 dsimp only at h
 rw [if_pos] at h
 ·cases h
 ·rcases hlt with hlt|hlt
  ·simp [hlt]
  ·simp [hlt]
theorem Ei {c:CH.Change} (h:CH.changeOk c=true):∀ n∈c.entry.names,CH.nameOk n=true:=by
 intro n hn
 have hlen:0<c.entry.names.length:=List.length_pos_of_mem hn
 have hok:CH.entryOk c.entry=true:=by
  apply Classical.byContradiction
  intro hne
  have hne':CH.entryOk c.entry=false:=by simpa using hne
  unfold CH.changeOk at h
  dsimp only at h
  rw [hne',decide_eq_true hlen] at h
  cases he:(c.kind==1||c.kind==3) <;> rw [he] at h <;> simp at h
 unfold CH.entryOk at hok
 simp only [Bool.and_eq_true,Bool.not_eq_true',List.any_eq_false] at hok
 have:=hok.2.2.2 n hn
 simpa using this
theorem words3 (w:World) (o1 o2 o3:Obj) (i j:Nat) (hij:i≠j∧i<3∧j<3) (a b:List UInt8) (hbox:[o1,o2,o3][i]?=some (.cells #[.slice (some ⟨w.heap.size+j,0,none⟩) 2 2] 25)) (hrow:[o1,o2,o3][j]?=some (.cells #[.string ⟨a.toArray⟩,.string ⟨b.toArray⟩] 9)) :
  Bc w.heap.size (w.heap.size+i) (((w.alloc o1).alloc o2).alloc o3).drew [a,b]∧Below w.heap.size w (((w.alloc o1).alloc o2).alloc o3).drew:=by
 have hb:Below w.heap.size w (((w.alloc o1).alloc o2).alloc o3).drew:=((((Below.refl _ w).alloc nR _).alloc (by simp) _).alloc (by simp;omega) _).drew
 have hat:∀ k,k<3→(((w.alloc o1).alloc o2).alloc o3).drew.heap[w.heap.size+k]?=[o1,o2,o3][k]?:=fun k hk=>by
  have e:(((w.alloc o1).alloc o2).alloc o3).drew.heap=((w.heap.push o1).push o2).push o3:=by simp only [World.alloc,World.drew]
  rw [e]
  simp only [Array.getElem?_push,Array.size_push]
  rcases (by omega:k=0∨k=1∨k=2) with rfl|rfl|rfl
  ·rw [if_neg (by omega),if_neg (by omega),if_pos (by omega)];rfl
  ·rw [if_neg (by omega),if_pos (by omega)];rfl
  ·rw [if_pos (by omega)];rfl
 refine⟨⟨_,(hat i hij.2.1).trans hbox,⟨rfl,.inr ⟨w.heap.size+j,2,#[.string ⟨a.toArray⟩,.string ⟨b.toArray⟩],rfl,Nat.le_add_right _ _,(hat j hij.2.2).trans hrow,Nat.le_refl _,by unfold maxLen;omega,rfl,rfl⟩⟩,?_,Nat.le_add_right _ _⟩,hb⟩
 intro e
 simp [Value.ownBlock] at e
 omega
theorem Bc.alloc {base p:Nat} {w:World} {ls:List (List UInt8)} (h:Bc base p w ls) (o:Obj):Bc base p (w.alloc o) ls:=h.below ((Below.refl _ w).alloc nR o)
theorem Cd {c:CH.Change} (h:CH.changeOk c=true):c.entry.names.length≤8:=by
 by_cases hl:0<c.entry.names.length
 ·have hok:CH.entryOk c.entry=true:=by
   apply Classical.byContradiction
   intro hne
   have hne':CH.entryOk c.entry=false:=by simpa using hne
   unfold CH.changeOk at h
   dsimp only at h
   rw [hne',decide_eq_true hl] at h
   cases he:(c.kind==1||c.kind==3) <;> rw [he] at h <;> simp at h
  unfold CH.entryOk at hok
  simp only [Bool.and_eq_true,decide_eq_true_eq] at hok
  exact hok.2.2.1
 ·omega
theorem kindWord_len (k:Int):(CH.kindWord k).length≤7:=by
 unfold CH.kindWord
 repeat' split
 all_goals decide
def quoted (n:CH.Name):List UInt8:=[34]++CH.nameText n++[34]
theorem Dz (n:CH.Name) (hS:Short n.words):(CH.nameText n).length≤1000000000010:=by
 have h1:=Ej [32] 10000 n.words hS.2
 have h2:=hS.1
 have h3:n.words.length*(10000+1)≤100000*(10000+1):=Nat.mul_le_mul_right _ h2
 have h4:(CH.title n.script).length≤6:=by
  unfold CH.title
  repeat' split
  all_goals decide
 unfold CH.nameText
 simp only [List.length_append,List.length_cons,List.length_nil,Nat.zero_add] at h1 ⊢
 omega
def AllLe (n:Nat) (ls:List (List UInt8)):Prop:=∀ l∈ls,l.length≤n
theorem AllLe.one {n:Nat} {a:List UInt8} (h:a.length≤n):AllLe n [a]:=fun l hl=>by cases List.mem_singleton.1 hl;exact h
theorem AllLe.cons {n:Nat} {a:List UInt8} {ls:List (List UInt8)} (h:a.length≤n) (h2:AllLe n ls):AllLe n (a::ls):=fun l hl=>by
 rcases List.mem_cons.1 hl with rfl|hl
 ·exact h
 ·exact h2 l hl
theorem D6 (c:CH.Change) (hok:CH.changeOk c=true) (hS:∀ n∈c.entry.names,Short n.words) (pre:List (List UInt8)) (hpl:pre.length≤3) (hpre:AllLe 1000000000100 pre):(CH.join [32] (pre++c.entry.names.map quoted)).length≤140737488355300:=by
 have h1:=Ej [32] 1000000000100 (pre++c.entry.names.map quoted) (fun l hl=>by
  rcases List.mem_append.1 hl with h|h
  ·exact hpre l h
  ·obtain⟨n,hn,rfl⟩:=List.mem_map.1 h
   have:=Dz n (hS n hn)
   unfold quoted
   simp
   omega)
 have h2:=Cd hok
 have h3:(pre++c.entry.names.map quoted).length*(1000000000100+[(32:UInt8)].length)≤11*(1000000000100+1):=Nat.mul_le_mul_right _ (by rw [List.length_append,List.length_map];omega)
 omega
theorem addTrue_any (vx:Value) (lx ls:List (List UInt8)) (base p B:Nat) (w:World) (hW:Bc base p w ls) (hX:Strs B w vx lx) (hl:ls.length+lx.length≤1000000) :
  Calls prog 87 #[.bool true,vx,.pointer (some ⟨p,0,none⟩)] w (Added base p w (ls++lx)):=by
 have hpl:=wordsAt_lt hW
 obtain⟨v,hv,hO,hne,hbp⟩:=hW
 obtain⟨av,cv,rfl,hf1,hf2,_⟩:=hO.form
 have hblk:=ownsRow_block hO
 have c0:w.cell? ⟨p,0,none⟩=some (.slice av ls.length cv):=cell_of hv 0
 obtain⟨ax,cx,rfl,_,_⟩:=hX.form
 generalize hN:ls.length=N at *
 generalize hM:lx.length=M at *
 go_enter func87,ntmps87
 go_wp2_with (refine append_strs rfl _ _ rfl base _ ls rfl hO B _ lx rfl hX (by omega) (by omega) ?_;intro v5 w5 hO5 hg5 h45;have hn5:v5.ownBlock≠some p:=h45.elim (fun h=>(by rw [h];exact hne)) (fun h e=>(by rw [h] at e;injection e;omega));clear h45;obtain⟨a5,c5,rfl,hf5⟩:=hO5.form;have hp5:=(hg5.block p hpl (fun e=>hne e.symm)).trans hv;have c5':w5.cell? ⟨p,0,none⟩=some (.slice av N cv):=cell_of hp5 0;have f5':w5.frozen? ⟨p,0,none⟩=false:=Aj hp5 0)
 go_end0
 have y0:=Ai w5 p 0 (.slice a5 (ls++lx).length c5) _ _ _ hp5
 simp only [List.setIfInBounds_toArray,List.set_cons_zero] at y0
 have e1:(ls++lx).length=N+M:=by simp [hN,hM]
 refine⟨rfl,⟨_,?_,World.ownsRow.kept hO5 (De w5 ⟨p,0,none⟩ _) (.inr hn5),hn5,hbp⟩,?_,?_⟩
 ·simpa [e1] using y0
 ·exact (((Below.refl base w).grown hg5 (by omega) (fun k e=>hblk k e))).setCell (p:=⟨p,0,none⟩) hbp _
 ·simp [World.setCell];exact hg5.size
theorem addFalse_any (vx:Value) (ls:List (List UInt8)) (base p:Nat) (w:World) (hW:Bc base p w ls) (ax:Option Addr) (nx cx:Nat) (hx:vx=.slice ax nx cx) :
  Calls prog 87 #[.bool false,vx,.pointer (some ⟨p,0,none⟩)] w (Added base p w ls):=by
 subst hx
 go_enter func87,ntmps87
 go_wp2
 go_end0
 exact⟨rfl,hW,Below.refl _ _,Nat.le_refl _⟩
def addB (b:Bool) (ls lx:List (List UInt8)):List (List UInt8):=if b then ls++lx else ls
theorem addB_len (b:Bool) (ls lx:List (List UInt8)):(addB b ls lx).length≤ls.length+lx.length:=by unfold addB;split <;> simp
theorem AllLe.addB {n:Nat} {b:Bool} {ls lx:List (List UInt8)} (h1:AllLe n ls) (h2:AllLe n lx):AllLe n (addB b ls lx):=by
 intro l hl
 unfold Go.Proofs.YtjepldaciejieaaGreatDoor.addB at hl
 split at hl
 ·rcases List.mem_append.1 hl with h|h
  ·exact h1 l h
  ·exact h2 l h
 ·exact h1 l hl
theorem formulaText_len {f:CH.Formula} {t:List UInt8} (h:CH.formulaText f=some t) (hS:Ca f):t.length≤6000000:=by
 unfold CH.formulaText at h
 split at h
 ·cases h
 ·rename_i hn
  split at h
  ·rename_i hok
   cases h
   have:=text_len f hS hok
   simp only [Bool.or_eq_true,decide_eq_true_eq,not_or] at hn
   omega
  ·cases h
theorem addB_any (b:Bool) (lx ls:List (List UInt8)) (base p:Nat) (w:World) (hW:Bc base p w ls) (hl:ls.length+lx.length≤1000000) (n:Nat) (hn:lx.length=n) (T:Array Value) (hT:T=(lx.map strV).toArray) :
  Calls prog 87 #[.bool b,.slice (some ⟨w.heap.size,0,none⟩) n n,.pointer (some ⟨p,0,none⟩)] (w.alloc (.cells T 9)) (Added base p (w.alloc (.cells T 9)) (addB b ls lx)):=by
 subst hn hT
 cases b with
 | true=>exact addTrue_any _ lx ls base p _ _ (hW.alloc _) (Eo w lx (by omega)).strs hl
 | false=>exact addFalse_any _ ls base p _ (hW.alloc _) _ _ _ rfl
theorem wordsAt_nil {W:World} {p:Nat} (h:W.heap[p]?=some (.cells #[.slice none 0 0] 25 (0,0))):Bc p p W [] :=
 ⟨.slice none 0 0,h,Ag.nil _ _,by simp [Value.ownBlock],Nat.le_refl _⟩
theorem strZero (w:World):(zeroValue 9).run prog w=.ok (.string ⟨#[]⟩) w:=by kernel_rfl
theorem words3_map (w:World) (a b c:Int) (va vb vc:List UInt8) (hab:(b==a)=false) (hac:(c==a)=false) (hbc:(c==b)=false) :
  ∃ o1 o2 o3,(Instr.mapUpdate 104 (.map (some w.heap.size)) (.int .i64 a) (strV va)).run prog (w.alloc (.map #[] 0))=.ok () ((w.alloc (.map #[] 0)).putObj w.heap.size o1) ∧
   (Instr.mapUpdate 104 (.map (some w.heap.size)) (.int .i64 b) (strV vb)).run prog ((w.alloc (.map #[] 0)).putObj w.heap.size o1)=.ok () (((w.alloc (.map #[] 0)).putObj w.heap.size o1).putObj w.heap.size o2) ∧
   (Instr.mapUpdate 104 (.map (some w.heap.size)) (.int .i64 c) (strV vc)).run prog (((w.alloc (.map #[] 0)).putObj w.heap.size o1).putObj w.heap.size o2)=.ok () ((((w.alloc (.map #[] 0)).putObj w.heap.size o1).putObj w.heap.size o2).putObj w.heap.size o3) ∧
   MapOf intV w.heap.size ((((w.alloc (.map #[] 0)).putObj w.heap.size o1).putObj w.heap.size o2).putObj w.heap.size o3) [(a,strV va),(b,strV vb),(c,strV vc)]:=by
 obtain⟨o1,h1,m1⟩:=Bg El underlying104 (Ey intV w) a (strV va) rfl
 obtain⟨o2,h2,m2⟩:=Bg El underlying104 m1 b (strV vb) (by simp [Ax,hab])
 obtain⟨o3,h3,m3⟩:=Bg El underlying104 m2 c (strV vc) (by simp [Ax,hac,hbc])
 exact⟨o1,o2,o3,h1,h2,h3,m3⟩
structure MeasureIs (B:Nat) (w:World) (m:CH.Measure) (vk:Value):Prop where
 kids:Am B w m.when_ vk
 nums:MeasureNums m
 id:m.id.length≤10000
 authority:m.authority.length≤10000
 target:m.target.length≤10000
 short:Ca m.when_
 count:m.when_.count≤100000000
 depth:m.when_.depth≤100000000
theorem MeasureIs.below {B B':Nat} {w w':World} {m:CH.Measure} {vk:Value} (h:MeasureIs B w m vk) (hb:Below B' w w') (hB:B≤B'):MeasureIs B w' m vk:={ h with kids:=Am.below hb hB _ _ h.kids }
theorem MeasureIs.mono {B B':Nat} {w:World} {m:CH.Measure} {vk:Value} (h:MeasureIs B w m vk) (hB:B≤B'):MeasureIs B' w m vk:={ h with kids:=Am.mono hB _ _ h.kids }
def Bw (m:CH.Measure) (t:List UInt8):List (List UInt8) :=
 addB (decide (m.wind > 0)) (addB (decide (m.until_ ≥ 0)) (addB true (addB (m.when_.op != 1) (addB true (addB (m.target != []) (addB true [] [CH.measureWord m.kind]) [m.target]) [m.id,([111,102]:List UInt8),m.authority]) [([105,102]:List UInt8),t]) [([102,114,111,109]:List UInt8),Lib.itoa m.start]) [([117,110,116,105,108]:List UInt8),Lib.itoa m.until_]) [([119,105,110,100]:List UInt8),Lib.itoa m.wind]
theorem measureText_eq (m:CH.Measure):CH.measureText m=match CH.formulaText m.when_ with
  | none=>none
  | some t=>if CH.measureNamed m&&CH.measureDated m then some (CH.join [32] (Bw m t)++[59]) else none:=by
 unfold CH.measureText
 cases CH.formulaText m.when_ with
 | none=>rfl
 | some t =>
  dsimp only
  congr 4
  unfold Bw addB
  cases h1:(m.target != []) <;> cases h2:(m.when_.op != 1) <;> cases h3:decide (m.until_ ≥ 0) <;> cases h4:decide (m.wind > 0) <;> simp_all
def I64 (n:Int):Prop:=-9223372036854775808≤n∧n≤9223372036854775807
structure ActSmall (a:CH.Act):Prop where
 change:ChangeSmall a.change
 pos:I64 a.change.pos
 lid:a.licence.id.length≤10000
 lm:Short a.licence.measures
 lp:Short a.licence.parties
 hold:HoldSmall a.holding
 id:a.id.length≤10000
 kind:I64 a.kind
 n:I64 a.n
def Bq (l:CH.Licence) (vm vp:Value):List Value:=[strV l.id,vm,vp,intV l.quota,intV l.uses,intV l.start,intV l.until_]
structure ActV where
 vn:Value
 vk:Value
 vm:Value
 vp:Value
 vj:Value
def As (a:CH.Act) (s:ActV):List Value :=
 intV a.kind::(A4 a.change s.vn++(Aq a.measure s.vk++(Bq a.licence s.vm s.vp++(Ar a.holding s.vj++[strV a.id,intV a.n]))))
structure ActAt (B:Nat) (w:World) (a:CH.Act) (s:ActV):Prop where
 names:Cc B w s.vn a.change.entry.names
 meas:MeasureIs B w a.measure s.vk
 lm:Strs B w s.vm a.licence.measures
 lp:Strs B w s.vp a.licence.parties
 hj:Strs B w s.vj a.holding.joint
 small:ActSmall a
theorem ActAt.below {B B':Nat} {w w':World} {a:CH.Act} {s:ActV} (h:ActAt B w a s) (hb:Below B' w w') (hB:B≤B'):ActAt B w' a s:=⟨h.names.below hb hB,h.meas.below hb hB,h.lm.below hb hB,h.lp.below hb hB,h.hj.below hb hB,h.small⟩
theorem ActAt.mono {B B':Nat} {w:World} {a:CH.Act} {s:ActV} (h:ActAt B w a s) (hB:B≤B'):ActAt B' w a s:=⟨h.names.mono hB,h.meas.mono hB,h.lm.mono hB,h.lp.mono hB,h.hj.mono hB,h.small⟩
def runsOn (h:CH.Holding) (day:Int):Bool:=decide (h.start≤day)&&(h.stop==-1||decide (day<h.stop))
theorem runs_any (h:CH.Holding) (aj:Option Addr) (nj cj:Nat) (day:Int) (w:World) :
  Calls prog 142 #[.agg (Ar h (.slice aj nj cj)).toArray,.int .i64 day] w (Ret w (.bool (runsOn h day))):=by
 obtain⟨r,hr⟩:∃ r,Hid (runsOn h day=r):=⟨_,hid rfl⟩
 rw [hr.out]
 dsimp only [Ar]
 cases h1:decide (h.start≤day) with
 | false =>
  go_enter func142,ntmps142
  go_wp2
  go_ret
  exact⟨by rw [← hr.out];simp only [runsOn,h1];rfl,(Below.refl _ w).alloc nR _⟩
 | true =>
  cases h2:(h.stop==-1) with
  | true =>
   go_enter func142,ntmps142
   go_wp2
   go_ret
   exact⟨by rw [← hr.out];simp only [runsOn,h1,h2];rfl,(Below.refl _ w).alloc nR _⟩
  | false =>
   go_enter func142,ntmps142
   go_wp2
   go_ret
   exact⟨by rw [← hr.out];simp only [runsOn,h1,h2];rfl,(Below.refl _ w).alloc nR _⟩
theorem zeroSums (w:World):(zeroValue 211).run prog w=.ok (.agg #[.int .i64 0,.int .i64 0]) w:=run_zero (by kernel_rfl) w
theorem on_any (h:CH.Holding) (aj:Option Addr) (nj cj:Nat) (day:Int) (p b:Nat) (w:World) (hp:w.cell? ⟨p,0,none⟩=some (.slice (some ⟨b,0,none⟩) 1 1)) (hpl:p<w.heap.size) (hb:b<w.heap.size)
  (hc:∀ j x,(Ar h (.slice aj nj cj))[j]?=some x→w.cell? ⟨b,j,none⟩=some x) (hr:runsOn h day=true) (c1:CH.within h.capital 100=true) (c2:CH.within h.votes 100=true) :
  Calls prog 141 #[.int .i64 day,.pointer (some ⟨p,0,none⟩)] w (Ret w (.bool true)):=by
 have hmm:=@run_makeMap prog
 obtain⟨nc,hnc,hnc'⟩:∃ n:Nat,h.capital=n∧n≤100:=by
  simp [CH.within] at c1
  exact⟨h.capital.toNat,by omega,by omega⟩
 obtain⟨nv,hnv,hnv'⟩:∃ n:Nat,h.votes=n∧n≤100:=by
  simp [CH.within] at c2
  exact⟨h.votes.toNat,by omega,by omega⟩
 have hB0:=(Below.refl _ w).alloc nR (.map #[] 0)
 have hM0:=Ey strV w
 have hp0:=(hB0.cell (p:=⟨p,0,none⟩) hpl).trans hp
 go_enter func141,ntmps141
 generalize hW:w.alloc (.map #[] 0)=W at *
 go_wp2_with fail
 go_loopw [11] (fun iv wr=>(iv=.int .i64 0∧wr=W)∨(iv=.int .i64 1∧Below w.heap.size w wr)) (fun iv _=>1 - (RowKit.intOf iv).toNat)
 case atStart=>exact .inl ⟨rfl,rfl⟩
 case round =>
  rcases hrel with⟨rfl,hwr⟩|⟨rfl,hb9⟩
  ·rw [hwr]
   clear hwr wr
   have k:∀ j x,(Ar h (.slice aj nj cj))[j]?=some x→W.cell? ⟨b,j,none⟩=some x:=fun j x hx=>(hB0.cell (p:=⟨b,j,none⟩) hb).trans (hc j x hx)
   have k0:=k 0 _ rfl
   have k1:=k 1 _ rfl
   have k2:=k 2 _ rfl
   have k3:=k 3 _ rfl
   have k4:=k 4 _ rfl
   have k5:=k 5 _ rfl
   have k6:=k 6 _ rfl
   have k7:=k 7 _ rfl
   have k8:=k 8 _ rfl
   have k9:=k 9 _ rfl
   clear k hc
   have A:=hid fun o=>runs_any h aj nj cj day (W.alloc o)
   rw [hr] at A
   dsimp only [Ar] at A
   rw [hnc,hnv] at A
   go_wp2_with fail
   refine (A.out _).mono ?_
   rintro e w2 ⟨rfl,hb2⟩
   clear A k0 k1 k2 k3 k4 k5 k6 k7 k8 k9
   have hblk:=(hb2.block W.heap.size (by simp)).trans (heap_alloc_last W _)
   have hB2:Below W.heap.size W w2:=((Below.refl _ W).alloc nR _).trans (hb2.mono (by simp))
   have hM2:=hM0.below hB2
   have m1:w2.cell? ⟨W.heap.size,1,none⟩=some (.string ⟨h.company.toArray⟩):=cell_of hblk 1
   have m6:w2.cell? ⟨W.heap.size,6,none⟩=some (.int .i64 nc):=cell_of hblk 6
   have m7:w2.cell? ⟨W.heap.size,7,none⟩=some (.int .i64 nv):=cell_of hblk 7
   have hlk:=Bd Ds (underlying208) _ zeroSums hM2 h.company
   rw [show Ax h.company ([]:List (List UInt8 × Value)) 0=none from rfl] at hlk
   dsimp only [Option.map_none,Option.getD_none] at hlk
   have n1:∀ o,(w2.alloc o).cell? ⟨W.heap.size,1,none⟩=some (.string ⟨h.company.toArray⟩):=fun o=>by rw [World.cell?_alloc_some _ _ _ (by rw [m1];rfl)];exact m1
   have n6:∀ o,(w2.alloc o).cell? ⟨W.heap.size,6,none⟩=some (.int .i64 nc):=fun o=>by rw [World.cell?_alloc_some _ _ _ (by rw [m6];rfl)];exact m6
   have n7:∀ o,(w2.alloc o).cell? ⟨W.heap.size,7,none⟩=some (.int .i64 nv):=fun o=>by rw [World.cell?_alloc_some _ _ _ (by rw [m7];rfl)];exact m7
   have hM3:=hM2.below ((Below.refl _ w2).alloc nR (.cells #[.int .i64 nc,.int .i64 nv] 211))
   obtain⟨o,ho,hM4⟩:=Bg Ds (underlying208) hM3 h.company (.agg #[.int .i64 nc,.int .i64 nv]) rfl
   have d1:decide ((100:Int)<(nc:Int))=false:=by simp;omega
   have d2:decide ((100:Int)<(nv:Int))=false:=by simp;omega
   have hBf:=Ao (r:=w.heap.size) ((hB0.trans (hB2.mono hB0.size)).alloc (nT hB0.size hB2.size) (.cells #[.int .i64 nc,.int .i64 nv] 211)) nR o
   clear hnc hnv
   go_wp2
   go_roundw
   case rel=>exact .inr ⟨by go_num,hBf⟩
   case measure=>simp [RowKit.intOf]
  ·go_wp2
   go_ret
   exact⟨rfl,hb9⟩
structure Bears (h:CH.Holding):Prop where
 runs:runsOn h h.start=true
 capital:CH.within h.capital 100=true
 votes:CH.within h.votes 100=true
structure BearAt (h:CH.Holding) (aj:Option Addr) (nj cj p q b:Nat) (w:World):Prop where
 hp:w.cell? ⟨p,0,none⟩=some (.slice (some ⟨b,0,none⟩) 1 1)
 pl:p<w.heap.size
 bl:b<w.heap.size
 cells:∀ j x,(Ar h (.slice aj nj cj))[j]?=some x→w.cell? ⟨b,j,none⟩=some x
 hq:w.cell? ⟨q,0,none⟩=some (.func (.func 141) #[] #[.pointer (some ⟨p,0,none⟩)])
 ql:q<w.heap.size
theorem BearAt.below {h:CH.Holding} {aj:Option Addr} {nj cj p q b:Nat} {w w':World} (H:BearAt h aj nj cj p q b w) (hb:Below w.heap.size w w'):BearAt h aj nj cj p q b w' :=
 ⟨(hb.cell (p:=⟨p,0,none⟩) H.pl).trans H.hp,nL H.pl hb.size,nL H.bl hb.size,fun j x hx=>(hb.cell (p:=⟨b,j,none⟩) H.bl).trans (H.cells j x hx),(hb.cell (p:=⟨q,0,none⟩) H.ql).trans H.hq,nL H.ql hb.size⟩
theorem notOn_any (h:CH.Holding) (aj:Option Addr) (nj cj p q b:Nat) (w:World) (H:BearAt h aj nj cj p q b w) (hB:Bears h) :
  Calls prog 144 #[.agg (Ar h (.slice aj nj cj)).toArray,.pointer (some ⟨q,0,none⟩)] w (Ret w (.bool false)):=by
 have hBa:=fun o=>(Below.refl _ w).alloc nR o
 have A:=hid fun o=>on_any h aj nj cj h.start p b (w.alloc o) (H.below (hBa o)).hp (H.below (hBa o)).pl (H.below (hBa o)).bl (H.below (hBa o)).cells hB.runs hB.capital hB.votes
 have hq:=fun o=>(H.below (hBa o)).hq
 dsimp only [Ar]
 go_enter func144,ntmps144
 go_wp2_with fail
 refine (A.out _).mono ?_
 rintro e w1 ⟨rfl,hb1⟩
 clear A
 go_wp2
 go_ret
 exact⟨rfl,(hBa _).trans (hb1.mono (by simp))⟩
theorem indexHold_any (h:CH.Holding) (aj:Option Addr) (nj cj p q b:Nat) (w:World) (H:BearAt h aj nj cj p q b w) (hB:Bears h) :
  Calls prog 184 #[.slice (some ⟨b,0,none⟩) 1 1,.func (.func 144) #[] #[.pointer (some ⟨q,0,none⟩)]] w (Ret w (.int .i64 (-1))):=by
 have k0:=H.cells 0 _ rfl
 have k1:=H.cells 1 _ rfl
 have k2:=H.cells 2 _ rfl
 have k3:=H.cells 3 _ rfl
 have k4:=H.cells 4 _ rfl
 have k5:=H.cells 5 _ rfl
 have k6:=H.cells 6 _ rfl
 have k7:=H.cells 7 _ rfl
 have k8:=H.cells 8 _ rfl
 have k9:=H.cells 9 _ rfl
 have A:=hid (notOn_any h aj nj cj p q b w H hB)
 dsimp only [Ar] at A
 go_enter func184,ntmps184
 go_wp2_with fail
 go_loopw [8] (fun iv wr=>(iv=.int .i64 0∧wr=w)∨(iv=.int .i64 1∧Below w.heap.size w wr)) (fun iv _=>1 - (RowKit.intOf iv).toNat)
 case atStart=>exact .inl ⟨rfl,rfl⟩
 case round =>
  rcases hrel with⟨rfl,hwr⟩|⟨rfl,hb9⟩
  ·rw [hwr]
   clear hwr wr
   go_wp2_with fail
   refine A.out.mono ?_
   rintro e w1 ⟨rfl,hb1⟩
   clear A k0 k1 k2 k3 k4 k5 k6 k7 k8 k9
   go_wp2
   go_roundw
   case rel=>exact .inr ⟨by go_num,hb1⟩
   case measure=>simp [RowKit.intOf]
  ·clear A k0 k1 k2 k3 k4 k5 k6 k7 k8 k9
   go_wp2
   go_ret
   exact⟨rfl,hb9⟩
theorem containsHold_any (h:CH.Holding) (aj:Option Addr) (nj cj p q b:Nat) (w:World) (H:BearAt h aj nj cj p q b w) (hB:Bears h) :
  Calls prog 143 #[.slice (some ⟨b,0,none⟩) 1 1,.func (.func 144) #[] #[.pointer (some ⟨q,0,none⟩)]] w (Ret w (.bool false)):=by
 have A:=hid (indexHold_any h aj nj cj p q b w H hB)
 go_enter func143,ntmps143
 go_wp2_with fail
 refine A.out.mono ?_
 rintro e w1 ⟨rfl,hb1⟩
 clear A
 go_wp2
 go_ret
 exact⟨rfl,hb1⟩
theorem bearable_any (h:CH.Holding) (aj:Option Addr) (nj cj b:Nat) (w:World) (hb:b<w.heap.size) (hc:∀ j x,(Ar h (.slice aj nj cj))[j]?=some x→w.cell? ⟨b,j,none⟩=some x) (hB:Bears h) :
  Calls prog 94 #[.slice (some ⟨b,0,none⟩) 1 1] w (Ret w (.bool true)):=by
 have hB1:=fun o=>(Below.refl _ w).alloc nR o
 have hB2:=fun o o'=>(hB1 o).alloc (Nat.le_of_lt (by simp)) o'
 have A:=hid (containsHold_any h aj nj cj w.heap.size (w.heap.size+1) b ((w.alloc (.cells #[.slice (some ⟨b,0,none⟩) 1 1] 68)).alloc (.cells #[.func (.func 141) #[] #[.pointer (some ⟨w.heap.size,0,none⟩)]] 198)) ?_ hB)
 rotate_left
 ·refine⟨?_,by simp;omega,by simp;omega,fun j x hx=>((hB2 _ _).cell (p:=⟨b,j,none⟩) hb).trans (hc j x hx),?_,by simp⟩
  ·rw [World.cell?_alloc_some _ _ _ (by rw [World.cell?_alloc_mark];rfl),World.cell?_alloc_mark];rfl
  ·have:=World.cell?_alloc_mark (w.alloc (.cells #[.slice (some ⟨b,0,none⟩) 1 1] 68)) #[.func (.func 141) #[] #[.pointer (some ⟨w.heap.size,0,none⟩)]] 198 (0,0) 0
   simp at this
   simp
 clear hc
 go_enter func94,ntmps94
 go_wp2_with fail
 refine A.out.mono ?_
 rintro e w1 ⟨rfl,hb1⟩
 clear A
 go_wp2
 go_ret
 exact⟨rfl,(hB2 _ _).trans (hb1.mono (by simp;omega))⟩
theorem Bears.of_ok {h:CH.Holding} (hk:CH.holdingOk h=true):Bears h:=by
 rw [CH.holdingOk_eq] at hk
 simp only [Bool.and_eq_true,Bool.not_eq_true',Bool.or_eq_false_iff,Bool.not_eq_false'] at hk
 obtain⟨⟨_,⟨⟨_,_⟩,hcap⟩,hvot⟩,_,hst⟩:=hk
 refine⟨?_,hcap,hvot⟩
 unfold runsOn
 simp only [Bool.and_eq_true,Bool.or_eq_true,decide_eq_true_eq] at hst ⊢
 refine⟨Int.le_refl _,?_⟩
 rcases hst with hst|⟨_,hst⟩
 ·exact .inl hst
 ·exact .inr hst
theorem joint_of_ok {h:CH.Holding} (hk:CH.holdingOk h=true):h.joint.length≤4:=by
 rw [CH.holdingOk_eq] at hk
 simp only [Bool.and_eq_true,decide_eq_true_eq] at hk
 exact hk.1.1.1.1.2
theorem regValid_any (v:Value) (h:CH.Holding) (w:World) (hv:Hold1 w.heap.size w v h) (hS:HoldSmall h) :
  Calls prog 41 #[v] w (Ret w (.bool (CH.holdingOk h))):=by
 have hv':=hv
 obtain⟨b,vj,rfl,hb,hc,hj⟩:=hv
 obtain⟨aj,cj,rfl,hj1,hj2⟩:=hj.form
 have hmm:=@run_makeMap prog
 have hM0:=Ey strV w
 have hB0:=(Below.refl _ w).alloc nR (.map #[] 0)
 obtain⟨r,hr⟩:∃ r,CH.holdingOk h=r:=⟨_,rfl⟩
 have HV:∀ w',Below w.heap.size w w'→Hold1 w'.heap.size w' (.slice (some ⟨b,0,none⟩) 1 1) h:=fun w' hbw =>
  ⟨b,_,rfl,nL hb hbw.size,fun j x hx=>(hbw.cell (p:=⟨b,j,none⟩) hb).trans (hc j x hx),(hj.below hbw nR).mono hbw.size⟩
 generalize hnj:h.joint.length=nj at *
 rw [hr]
 have HVh:=hid HV
 have hch:=hid hc
 clear HV hv' hc
 go_enter func41,ntmps41
 generalize hW:w.alloc (.map #[] 0)=W at *
 go_wp2_with fail
 go_loopw [9] (fun iv wr=>(iv=.int .i64 0∧wr=W)∨(iv=.int .i64 1∧r=true∧Below w.heap.size w wr)) (fun iv _=>1 - (RowKit.intOf iv).toNat)
 case atStart=>exact .inl ⟨rfl,rfl⟩
 case round =>
  rcases hrel with⟨rfl,hwr⟩|⟨rfl,hrt,hb9⟩
  ·rw [hwr]
   clear hwr wr
   have k:∀ j x,(Ar h (.slice aj nj cj))[j]?=some x→W.cell? ⟨b,j,none⟩=some x:=fun j x hx=>(hB0.cell (p:=⟨b,j,none⟩) hb).trans (hch.out j x hx)
   have k0:=k 0 _ rfl
   have k1:=k 1 _ rfl
   have k2:=k 2 _ rfl
   have k3:=k 3 _ rfl
   have k4:=k 4 _ rfl
   have k5:=k 5 _ rfl
   have k6:=k 6 _ rfl
   have k7:=k 7 _ rfl
   have k8:=k 8 _ rfl
   have k9:=k 9 _ rfl
   clear k
   have hBW:=fun o=>(Below.refl _ W).alloc nR o
   have A:=hid fun o=>holdProper_any (Ar h (.slice aj nj cj)) h (W.alloc o) ⟨_,rfl,by
    have h1:=(hj.below (hB0.trans ((hBW o).mono hB0.size)) nR).mono (hB0.trans ((hBW o).mono hB0.size)).size
    exact h1⟩ hS
   rw [hr] at A
   dsimp only [Ar] at A
   go_wp2_with fail
   refine (A.out _).mono ?_
   rintro e w2 ⟨rfl,hb2⟩
   clear A k0 k1 k2 k3 k4 k5 k6 k7 k8 k9
   have hblk:=(hb2.block W.heap.size (by simp)).trans (heap_alloc_last W _)
   have hB2:Below W.heap.size W w2:=(hBW _).trans (hb2.mono (by simp))
   clear hb2 hBW
   have hM2:=hM0.below hB2
   have m0:w2.cell? ⟨W.heap.size,0,none⟩=some (.string ⟨h.id.toArray⟩):=cell_of hblk 0
   have hlk:=Bd Ds (underlying165) _ Ev hM2 h.id
   rw [show Ax h.id ([]:List (List UInt8 × Value)) 0=none from rfl] at hlk
   dsimp only [Option.map_none,Option.getD_none] at hlk
   obtain⟨o,ho,hM4⟩:=Bg Ds (underlying165) hM2 h.id (.bool true) rfl
   have hBf:=Ao (r:=w.heap.size) (hB0.trans (hB2.mono hB0.size)) nR o
   clear hM2 hM4 hblk
   cases r with
   | false =>
    go_wp2
    go_ret
    exact⟨rfl,hB0.trans (hB2.mono hB0.size)⟩
   | true =>
    go_wp2
    go_roundw
    case rel=>exact .inr ⟨by go_num,trivial,hBf⟩
    case measure=>simp [RowKit.intOf]
  ·subst hrt
   have hjl:=joint_of_ok hr
   have A:=hid (parties_any _ h wr (HVh.out wr hb9) hS)
   go_wp2_with fail
   refine A.out.mono ?_
   rintro e w2 ⟨a2,m2,c2,rfl,hm2,hb2⟩
   clear A
   have hb10:=hb9.trans (hb2.mono hb9.size)
   have d1:decide ((m2:Int)≤60)=true:=by simp;omega
   have A:=hid (bearable_any h aj nj cj b w2 (nL hb hb10.size) (fun j x hx=>(hb10.cell (p:=⟨b,j,none⟩) hb).trans (hch.out j x hx)) (Bears.of_ok hr))
   go_wp2_with fail
   refine A.out.mono ?_
   rintro e w3 ⟨rfl,hb3⟩
   clear A
   go_wp2
   go_ret
   exact⟨rfl,hb10.trans (hb3.mono hb10.size)⟩
theorem words_len (ws:List CH.Word) (m n:Nat) (h:∀ x∈ws,AllLe m x.texts) (hn:(ws.flatMap CH.Word.texts).length≤n):(CH.words ws).length≤n*(m+1):=by
 unfold CH.words
 refine nT (Ej [32] m _ fun l hl=>?_) (Nat.mul_le_mul_right _ hn)
 obtain⟨x,hx,hl⟩:=List.mem_flatMap.1 hl
 exact h x hx l hl
theorem Bf (n:Int) (h:I64 n):AllLe 10000 (CH.Word.int n).texts:=by
 have:=Lib.itoa_length_le n h.1 h.2
 show AllLe 10000 (if n = -1 then _ else _)
 split
 ·exact .one (by simp)
 ·exact .one (by omega)
theorem Be (s:List UInt8) (h:s.length≤10000):AllLe 10000 (CH.Word.str s).texts:=by
 show AllLe 10000 [if s=[] then _ else _]
 split
 ·exact .one (by simp)
 ·exact .one h
theorem Dn (n:Int):(CH.Word.int n).texts.length=1:=by
 show (if n = -1 then _ else _:List (List UInt8)).length=1
 split <;> rfl
theorem nameText_len6 (n:CH.Name) (hok:CH.nameOk n=true) (hS:Short n.words):(CH.nameText n).length≤60100:=by
 have h1:=Ej [32] 10000 n.words hS.2
 have h2:n.words.length≤6:=by
  unfold CH.nameOk at hok
  simp only [Bool.and_eq_true,decide_eq_true_eq] at hok
  exact hok.2.2
 have h3:n.words.length*(10000+1)≤6*(10000+1):=Nat.mul_le_mul_right _ h2
 have h4:(CH.title n.script).length≤6:=by
  unfold CH.title
  repeat' split
  all_goals decide
 unfold CH.nameText
 simp only [List.length_append,List.length_cons,List.length_nil,Nat.zero_add] at h1 ⊢
 omega
theorem changeText_len {c:CH.Change} {t:List UInt8} (h:CH.changeText c=some t) (hS:ChangeSmall c) (hp:I64 c.pos):t.length≤1000000:=by
 unfold CH.changeText at h
 split at h
 ·rename_i hok
  cases h
  have hi:=Lib.itoa_length_le c.pos hp.1 hp.2
  have hid:=hS.id
  have h1:=Ej [32] 70000 ([CH.kindWord c.kind,c.id]++(if c.kind==1||c.kind==2 then [Lib.itoa c.pos] else [])++c.entry.names.map (fun n=>[34]++CH.nameText n++[34])) (fun l hl=>by
   rcases List.mem_append.1 hl with hl|hl
   ·rcases List.mem_append.1 hl with hl|hl
    ·simp only [List.mem_cons,List.not_mem_nil,or_false] at hl
     rcases hl with rfl|rfl
     ·exact nT (kindWord_len _) (by decide)
     ·omega
    ·split at hl
     ·cases List.mem_singleton.1 hl
      omega
     ·cases hl
   ·obtain⟨n,hn,rfl⟩:=List.mem_map.1 hl
    have:=nameText_len6 n (Ei hok n hn) (hS.entry.names n hn)
    simp
    omega)
  have h2:=Cd hok
  have h3:([CH.kindWord c.kind,c.id]++(if c.kind==1||c.kind==2 then [Lib.itoa c.pos] else [])++c.entry.names.map (fun n=>[34]++CH.nameText n++[34])).length≤11:=by
   rw [List.length_append,List.length_append,List.length_map]
   have:(if c.kind==1||c.kind==2 then [Lib.itoa c.pos] else []:List (List UInt8)).length≤1:=by split <;> simp
   simp only [List.length_cons,List.length_nil]
   omega
  have h4:=Nat.mul_le_mul_right (70000+1) h3
  rw [List.length_append,List.length_singleton]
  simp only [List.length_cons,List.length_nil,Nat.zero_add] at h1
  omega
 ·cases h
theorem measureText_len {B:Nat} {w:World} {m:CH.Measure} {vk:Value} {t:List UInt8} (h:CH.measureText m=some t) (hM:MeasureIs B w m vk):t.length≤100000000:=by
 rw [measureText_eq] at h
 cases hf:CH.formulaText m.when_ with
 | none=>rw [hf] at h;cases h
 | some u =>
  rw [hf] at h
  dsimp only at h
  split at h
  ·cases h
   have htl:=formulaText_len hf hM.short
   have i1:=Lib.itoa_length_le m.start hM.nums.s.1 hM.nums.s.2
   have i2:=Lib.itoa_length_le m.until_ hM.nums.u.1 hM.nums.u.2
   have i3:=Lib.itoa_length_le m.wind hM.nums.w.1 hM.nums.w.2
   have hid:=hM.id
   have hau:=hM.authority
   have htg:=hM.target
   have hkl:(CH.measureWord m.kind).length≤6:=by
    unfold CH.measureWord
    repeat' split
    all_goals decide
   have hAll:AllLe 6000000 (Bw m u):=by
    unfold Bw
    exact AllLe.addB (AllLe.addB (AllLe.addB (AllLe.addB (AllLe.addB (AllLe.addB (AllLe.addB (fun _ h=>by cases h) (.one (by omega))) (.one (by omega))) (.cons (by omega) (.cons (by simp) (.one (by omega))))) (.cons (by simp) (.one (by omega)))) (.cons (by simp) (.one (by omega)))) (.cons (by simp) (.one (by omega)))) (.cons (by simp) (.one (by omega)))
   have hn:(Bw m u).length≤13:=by
    unfold Bw addB
    repeat' split
    all_goals simp
   have h1:=Ej [32] 6000000 _ hAll
   have h2:=Nat.mul_le_mul_right (6000000+[(32:UInt8)].length) hn
   rw [List.length_append,List.length_singleton]
   simp only [List.length_cons,List.length_nil,Nat.zero_add] at h1 h2
   omega
  ·cases h
theorem licence_of_ok {l:CH.Licence} (h:CH.licenceOk l=true):l.measures.length≤12∧l.parties.length≤60∧I64 l.quota∧I64 l.uses∧I64 l.start∧I64 l.until_:=by
 unfold CH.licenceOk CH.within at h
 simp only [Bool.and_eq_true,decide_eq_true_eq] at h
 unfold I64
 omega
theorem holding_of_ok {h:CH.Holding} (hk:CH.holdingOk h=true):h.joint.length≤4∧I64 h.capital∧I64 h.votes∧I64 h.start∧I64 h.stop:=by
 have hj:=joint_of_ok hk
 unfold CH.holdingOk CH.within at hk
 simp only [Bool.and_eq_true,Bool.or_eq_true,Bool.not_eq_true',Bool.or_eq_false_iff,Bool.and_eq_false_iff,Bool.not_eq_false',decide_eq_true_eq,decide_eq_false_iff_not,beq_iff_eq] at hk
 unfold I64
 obtain⟨⟨⟨_,_⟩,hq⟩,hw⟩:=hk
 omega
def D4 (l:CH.Licence):List CH.Word:=[.str ([108,105,99,101,110,99,101]:List UInt8),.str l.id,.int l.quota,.int l.uses,.int l.start,.int l.until_,.int l.measures.length,.strs l.measures,.strs l.parties]
def Dd (h:CH.Holding):List CH.Word:=[.str ([104,111,108,100,105,110,103]:List UInt8),.str h.id,.str h.company,.str h.holder,.str h.nominee,.str h.pledged,.int h.capital,.int h.votes,.int h.start,.int h.stop,.strs h.joint]
def Az (a:CH.Act):List CH.Word:=[.str (CH.endWord a.kind),.str a.id,.int a.n]
theorem licWords_len {l:CH.Licence} (h:CH.licenceOk l=true) (hid:l.id.length≤10000) (hm:Short l.measures) (hp:Short l.parties):(CH.words (D4 l)).length≤1000000:=by
 obtain⟨h1,h2,h3,h4,h5,h6⟩:=licence_of_ok h
 have hn:((D4 l).flatMap CH.Word.texts).length≤80:=by
  unfold D4
  simp only [List.flatMap_cons,List.flatMap_nil,List.length_append,Dn,List.length_nil]
  show 1+(1+(1+(1+(1+(1+(1+(l.measures.length+(l.parties.length+0))))))))≤80
  omega
 refine nT (words_len _ 10000 80 ?_ hn) (by decide)
 intro x hx
 simp only [D4,List.mem_cons,List.not_mem_nil,or_false] at hx
 rcases hx with rfl|rfl|rfl|rfl|rfl|rfl|rfl|rfl|rfl
 ·exact Be _ (by simp)
 ·exact Be _ hid
 ·exact Bf _ h3
 ·exact Bf _ h4
 ·exact Bf _ h5
 ·exact Bf _ h6
 ·exact Bf _ (by unfold I64;omega)
 ·exact hm.2
 ·exact hp.2
theorem holdWords_len {h:CH.Holding} (hk:CH.holdingOk h=true) (hS:HoldSmall h):(CH.words (Dd h)).length≤1000000:=by
 obtain⟨h1,h3,h4,h5,h6⟩:=holding_of_ok hk
 have hn:((Dd h).flatMap CH.Word.texts).length≤80:=by
  unfold Dd
  simp only [List.flatMap_cons,List.flatMap_nil,List.length_append,Dn,List.length_nil]
  show 1+(1+(1+(1+(1+(1+(1+(1+(1+(1+(h.joint.length+0))))))))))≤80
  omega
 refine nT (words_len _ 10000 80 ?_ hn) (by decide)
 intro x hx
 simp only [Dd,List.mem_cons,List.not_mem_nil,or_false] at hx
 rcases hx with rfl|rfl|rfl|rfl|rfl|rfl|rfl|rfl|rfl|rfl|rfl
 ·exact Be _ (by simp)
 ·exact Be _ hS.id
 ·exact Be _ hS.company
 ·exact Be _ hS.holder
 ·exact Be _ hS.nominee
 ·exact Be _ hS.pledged
 ·exact Bf _ h3
 ·exact Bf _ h4
 ·exact Bf _ h5
 ·exact Bf _ h6
 ·exact hS.joint.2
theorem Er {a:CH.Act} (hid:a.id.length≤10000) (hn:I64 a.n):(CH.words (Az a)).length≤1000000:=by
 have h3:((Az a).flatMap CH.Word.texts).length≤80:=by
  unfold Az
  simp only [List.flatMap_cons,List.flatMap_nil,List.length_append,Dn,List.length_nil]
  show 1+(1+(1+0))≤80
  omega
 refine nT (words_len _ 10000 80 ?_ h3) (by decide)
 intro x hx
 simp only [Az,List.mem_cons,List.not_mem_nil,or_false] at hx
 rcases hx with rfl|rfl|rfl
 ·refine Be _ ?_
  unfold CH.endWord
  repeat' split
  all_goals decide
 ·exact Be _ hid
 ·exact Bf _ hn
theorem actText_len {B:Nat} {w:World} {a:CH.Act} {s:ActV} {t:List UInt8} (h:CH.actText a=some t) (hA:ActAt B w a s):t.length≤100000100:=by
 unfold CH.actText at h
 split at h
 ·cases h
 split at h
 ·obtain⟨u,hu,rfl⟩:=Option.map_eq_some_iff.1 h
  have:=changeText_len hu hA.small.change hA.small.pos
  simp
  omega
 split at h
 ·obtain⟨u,hu,rfl⟩:=Option.map_eq_some_iff.1 h
  have:=measureText_len hu hA.meas
  simp
  omega
 split at h
 ·split at h
  ·rename_i hok
   cases h
   have:=licWords_len hok hA.small.lid hA.small.lm hA.small.lp
   unfold D4 at this
   rw [List.length_append,List.length_singleton]
   omega
  ·cases h
 split at h
 ·split at h
  ·rename_i hok
   cases h
   have:=holdWords_len hok hA.small.hold
   unfold Dd at this
   rw [List.length_append,List.length_singleton]
   omega
  ·cases h
 split at h
 ·obtain⟨_,h⟩:=Option.ite_none_right_eq_some.1 h
  cases h
  have:=Er hA.small.id hA.small.n
  unfold Az at this
  rw [List.length_append,List.length_singleton]
  omega
 ·cases h
def orDash (s:List UInt8):List UInt8:=if s=[] then [45] else s
theorem orDash_any (s:List UInt8) (w:World) (b:Nat) (h0:w.cell? ⟨b,0,none⟩=some (strV s)) (h1:w.cell? ⟨b,1,none⟩=some (strV [45])) :
  Calls prog 91 #[.slice (some ⟨b,0,none⟩) 2 2] w (Ret w (strV (orDash s))):=by
 unfold orDash
 by_cases hs:s=[]
 ·subst hs
  rw [if_pos rfl]
  go_enter func91,ntmps91
  go_wp2_with fail
  go_loopw [8] (fun iv wr=>∃ j:Nat,j<2∧iv=.int .i64 j∧wr=w) (fun iv _=>2 - (RowKit.intOf iv).toNat)
  case atStart=>exact⟨0,by omega,rfl,rfl⟩
  case round =>
   obtain⟨j,hj,rfl,rfl⟩:=hrel
   rcases (by omega:j=0∨j=1) with rfl|rfl
   ·go_wp2
    go_roundw
    case rel=>exact⟨1,by omega,by first|rfl|go_num,by first|rfl|trivial⟩
    case measure=>simp [RowKit.intOf]
   ·go_wp2
    go_ret
    exact⟨rfl,Below.refl _ _⟩
 ·rw [if_neg hs]
  have te:List.isEmpty s=false:=by cases s with|nil=>exact absurd rfl hs|cons _ _=>rfl
  go_enter func91,ntmps91
  go_wp2_with fail
  go_loopw [8] (fun iv wr=>iv=.int .i64 0∧wr=w) (fun _ _=>0)
  case atStart=>exact⟨rfl,rfl⟩
  case round =>
   obtain⟨rfl,rfl⟩:=hrel
   go_wp2
   go_ret
   exact⟨rfl,Below.refl _ _⟩
theorem ta_ii (n:Int) (w:World):(Instr.typeAssert (.iface 3 (.int .i64 n)) 20 3 true).run prog w=.ok (.tuple #[.int .i64 n,.bool true]) w:=by kernel_rfl
theorem ta_si (s:ByteArray) (w:World):(Instr.typeAssert (.iface 9 (.string s)) 20 3 true).run prog w=.ok (.tuple #[.int .i64 0,.bool false]) w:=by kernel_rfl
theorem ta_ss (s:ByteArray) (w:World):(Instr.typeAssert (.iface 9 (.string s)) 20 9 true).run prog w=.ok (.tuple #[.string s,.bool true]) w:=by kernel_rfl
theorem ta_li (a:Option Addr) (n c:Nat) (w:World):(Instr.typeAssert (.iface 25 (.slice a n c)) 20 3 true).run prog w=.ok (.tuple #[.int .i64 0,.bool false]) w:=by kernel_rfl
theorem ta_ls (a:Option Addr) (n c:Nat) (w:World):(Instr.typeAssert (.iface 25 (.slice a n c)) 20 9 true).run prog w=.ok (.tuple #[.string ⟨#[]⟩,.bool false]) w:=by kernel_rfl
theorem ta_ll (a:Option Addr) (n c:Nat) (w:World):(Instr.typeAssert (.iface 25 (.slice a n c)) 20 25 true).run prog w=.ok (.tuple #[.slice a n c,.bool true]) w:=by kernel_rfl
def Eu (B:Nat) (w:World):CH.Word→Value→Prop
 | .int n,v=>v=.iface 3 (.int .i64 n)∧-9223372036854775808≤n∧n≤9223372036854775807
 | .str s,v=>v=.iface 9 (strV s)
 | .strs l,v=>∃ sv,v=.iface 25 sv∧Strs B w sv l∧l.length≤5000
theorem Eu.below {B B':Nat} {w w':World} {x:CH.Word} {v:Value} (h:Eu B w x v) (hb:Below B' w w') (hB:B≤B'):Eu B w' x v:=by
 cases x with
 | int n=>exact h
 | str s=>exact h
 | strs l =>
  obtain⟨sv,h1,h2,h3⟩:=h
  exact⟨sv,h1,h2.below hb hB,h3⟩
theorem words_snoc (ws:List CH.Word) (k:Nat) (x:CH.Word) (h:ws[k]?=some x):(ws.take (k+1)).flatMap CH.Word.texts=(ws.take k).flatMap CH.Word.texts++x.texts:=by
 rw [CH.take_snoc_at ws k x h,List.flatMap_append];simp
theorem texts_str (s:List UInt8):(CH.Word.str s).texts=[orDash s]:=rfl
set_option maxRecDepth 5000 in
theorem words_any (ws:List CH.Word) (b:Nat) (w:World) (hG:Gl w) (hb:b<w.heap.size) (hrow:∀ j x,ws[j]?=some x→∃ v,w.cell? ⟨b,j,none⟩=some v∧Eu w.heap.size w x v) (hl:ws.length≤100) (hJ:(CH.words ws).length≤140737488355328) :
  Calls prog 40 #[.slice (some ⟨b,0,none⟩) ws.length ws.length] w (Ret w (strV (CH.words ws))):=by
 obtain⟨R,hR⟩:∃ R,Hid (CH.words ws=R):=⟨_,hid rfl⟩
 have hJ:=hid hJ
 rw [hR.out]
 replace hrow:=hid hrow
 generalize hN:ws.length=N at *
 replace hN:=hid hN
 go_enter func40,ntmps40
 go_wp2_with fail
 go_loopw [3,11] (fun lv iv wr=>∃ k:Nat,k≤N∧iv=.int .i64 k∧Hid (Ag w.heap.size wr lv ((ws.take k).flatMap CH.Word.texts))∧Hid (((ws.take k).flatMap CH.Word.texts).length≤k*5000)∧Hid (Below w.heap.size w wr)) (fun _ iv _=>N - (RowKit.intOf iv).toNat)
 case atStart=>exact⟨0,Nat.zero_le _,rfl,hid (Ag.nil _ _),hid (by simp),hid (Below.refl _ _)⟩
 case round =>
  obtain⟨k,hk,rfl,hO,hLe,hB⟩:=hrel
  obtain⟨a3,c3,rfl,hf1,hf2,hf3⟩:=hO.out.form
  clear hf3
  by_cases hlt:k<N
  ·obtain⟨x,hx⟩:∃ x,ws[k]?=some x:=⟨_,lZ (by rw [hN.out];omega)⟩
   obtain⟨v,c0,hv⟩:=hrow.out k x hx
   have e0:=(hB.out.cell (p:=⟨b,k,none⟩) hb).trans c0
   have hv:=hv.below hB.out nR
   have hts:=hid (words_snoc ws k x hx)
   clear c0 hx
   generalize hL:(ws.take k).flatMap CH.Word.texts=L at *
   clear hL
   have hsz:=hB.out.size
   have hLk:L.length≤500000:=by have:=hLe.out;have:k*5000≤100*5000:=Nat.mul_le_mul_right _ (by omega);omega
   cases x with
   | int n =>
    obtain⟨rfl,hn0,hn1⟩:=hv
    have T1:=fun W=>ta_ii n W
    by_cases hn:n = -1
    ·subst hn
     go_wp2_with (at_builtin;refine A9 rfl _ _ rfl w.heap.size _ L rfl (hO.out.alloc _) wr.heap.size 1 [45] rfl ?c1 ?c2 ?c3 ?_)
     case c1=>rw [World.cell?_alloc_at _ _ _ _ rfl];rfl
     case c2=>omega
     case c3=>simp;omega
     intro v3 w3 hO3 hg3 _
     have hO4:Hid (Ag w.heap.size w3 v3 ((ws.take (k+1)).flatMap CH.Word.texts)):=hid (by rw [hts.out];exact hO3)
     have hB4:Hid (Below w.heap.size w w3):=hid (((hB.out).alloc (by omega) _).grown hg3 (by simp;omega) (fun j hj=>(World.ownsRow.lt hO.out j hj).1))
     have hLe4:Hid (((ws.take (k+1)).flatMap CH.Word.texts).length≤(k+1)*5000):=hid (by rw [hts.out,List.length_append];have h9:=hLe.out;have h8:([[45]]:List (List UInt8)).length=1:=rfl;show L.length+([[45]]:List (List UInt8)).length≤_;omega)
     clear hO3 hg3
     go_wp2
     go_roundw
     case rel=>exact⟨k+1,by omega,by go_num,hO4,hLe4,hB4⟩
     case measure=>simp [RowKit.intOf];omega
    ·have hne:(n==-1)=false:=by simpa using hn
     have hte:(CH.Word.int n).texts=[Lib.itoa n]:=by show (if n = -1 then _ else _)=_;rw [if_neg hn]
     rw [hte] at hts
     have I:=hid (Ce n wr hn0 hn1 (hG.below hB.out))
     clear hte
     go_wp2_with fail
     refine I.out.mono ?_
     rintro e w2 ⟨rfl,hb2⟩
     have hO2:=hO.out.below hb2
     have hB2:Below w.heap.size w w2:=hB.out.trans (hb2.mono hB.out.size)
     have hs2:=hB2.size
     clear I hb2 T1
     go_wp2_with (at_builtin;refine A9 rfl _ _ rfl w.heap.size _ L rfl (hO2.alloc _) w2.heap.size 1 (Lib.itoa n) rfl ?c1 ?c2 ?c3 ?_)
     case c1=>rw [World.cell?_alloc_at _ _ _ _ rfl];rfl
     case c2=>omega
     case c3=>simp;omega
     intro v3 w3 hO3 hg3 _
     have hO4:Hid (Ag w.heap.size w3 v3 ((ws.take (k+1)).flatMap CH.Word.texts)):=hid (by rw [hts.out];exact hO3)
     have hB4:Hid (Below w.heap.size w w3):=hid (((hB2).alloc (by omega) _).grown hg3 (by simp;omega) (fun j hj=>(World.ownsRow.lt hO2 j hj).1))
     have hLe4:Hid (((ws.take (k+1)).flatMap CH.Word.texts).length≤(k+1)*5000):=hid (by rw [hts.out,List.length_append,List.length_singleton];have h9:=hLe.out;omega)
     clear hO3 hg3
     go_wp2
     go_roundw
     case rel=>exact⟨k+1,by omega,by go_num,hO4,hLe4,hB4⟩
     case measure=>simp [RowKit.intOf];omega
   | str s =>
    obtain rfl:=hv
    have T1:=fun W=>ta_si ⟨s.toArray⟩ W
    have T2:=fun W=>ta_ss ⟨s.toArray⟩ W
    rw [texts_str] at hts
    have O:=hid fun (W:World) (bb:Nat) h0 h1=>orDash_any s W bb h0 h1
    generalize orDash s=ds at *
    go_wp2_with fail
    refine (O.out _ _ (by rw [World.cell?_alloc_at _ _ _ _ rfl];rfl) (by rw [World.cell?_alloc_at _ _ _ _ rfl];rfl)).mono ?_
    rintro e w2 ⟨rfl,hb2⟩
    have hO2:=(hO.out.alloc _).below hb2
    have hB2:Below w.heap.size w w2:=(hB.out.alloc hB.out.size _).trans (hb2.mono (by simp;omega))
    have hs2:=hB2.size
    clear O hb2 T1 T2
    ·go_wp2_with (at_builtin;refine A9 rfl _ _ rfl w.heap.size _ L rfl (hO2.alloc _) w2.heap.size 1 ds rfl ?c1 ?c2 ?c3 ?_)
     case c1=>rw [World.cell?_alloc_at _ _ _ _ rfl];rfl
     case c2=>omega
     case c3=>simp;omega
     intro v3 w3 hO3 hg3 _
     have hO4:Hid (Ag w.heap.size w3 v3 ((ws.take (k+1)).flatMap CH.Word.texts)):=hid (by rw [hts.out];exact hO3)
     have hB4:Hid (Below w.heap.size w w3):=hid (((hB2).alloc (by omega) _).grown hg3 (by simp;omega) (fun j hj=>(World.ownsRow.lt hO2 j hj).1))
     have hLe4:Hid (((ws.take (k+1)).flatMap CH.Word.texts).length≤(k+1)*5000):=hid (by rw [hts.out,List.length_append,List.length_singleton];have h9:=hLe.out;omega)
     clear hO3 hg3
     go_wp2
     go_roundw
     case rel=>exact⟨k+1,by omega,by go_num,hO4,hLe4,hB4⟩
     case measure=>simp [RowKit.intOf];omega
   | strs l =>
    obtain⟨sv,rfl,hsv,hsl⟩:=hv
    obtain⟨sa,sc,rfl,_,_⟩:=hsv.form
    have T1:=fun W=>ta_li sa l.length sc W
    have T2:=fun W=>ta_ls sa l.length sc W
    have T3:=fun W=>ta_ll sa l.length sc W
    generalize hM:l.length=M at *
    have hMM:=hid hM
    clear hM
    ·go_wp2_with (at_builtin;refine append_strs rfl _ _ rfl w.heap.size _ L rfl hO.out w.heap.size _ l rfl hsv (by have:=hMM.out;omega) hsz ?_)
     intro v3 w3 hO3 hg3 _
     have hO4:Hid (Ag w.heap.size w3 v3 ((ws.take (k+1)).flatMap CH.Word.texts)):=hid (by rw [hts.out];exact hO3)
     have hB4:Hid (Below w.heap.size w w3):=hid ((hB.out).grown hg3 hsz (fun j hj=>(World.ownsRow.lt hO.out j hj).1))
     have hLe4:Hid (((ws.take (k+1)).flatMap CH.Word.texts).length≤(k+1)*5000):=hid (by rw [hts.out,List.length_append];have h9:=hLe.out;have h8:=hMM.out;show L.length+l.length≤_;omega)
     clear hO3 hg3
     go_wp2
     go_roundw
     case rel=>exact⟨k+1,by omega,by go_num,hO4,hLe4,hB4⟩
     case measure=>simp [RowKit.intOf];omega
  ·obtain rfl:k=N:=by omega
   have htk:ws.take k=ws:=by rw [← hN.out,List.take_length]
   rw [htk] at hO hLe hf1 ⊢
   clear htk
   have J:=hid (D5 _ (ws.flatMap CH.Word.texts) [32] wr hO.out.strs (by have:=hLe.out;have:k*5000≤100*5000:=Nat.mul_le_mul_right _ (by omega);omega) hJ.out)
   have hRf:Hid (CH.join [32] (ws.flatMap CH.Word.texts)=R):=hid hR.out
   generalize CH.join [32] (ws.flatMap CH.Word.texts)=JJ at *
   generalize (ws.flatMap CH.Word.texts).length=LL at *
   clear hO
   go_wp2_with fail
   refine J.out.mono ?_
   rintro e w2 ⟨rfl,hb2⟩
   clear J
   go_wp2
   go_ret
   exact⟨by rw [← hRf.out];rfl,hB.out.trans (hb2.mono hB.out.size)⟩
theorem actText_kinds (k:Int):k=1∨k=2∨k=4∨k=6∨k=5∨k=3∨k=7∨(k≠1∧k≠2∧k≠4∧k≠6∧k≠5∧k≠3∧k≠7):=by omega
def C0 (B:Nat) (w:World):List CH.Word→List Value→Prop
 | [],[]=>True
 | x::xs,v::vs=>Eu B w x v∧C0 B w xs vs
 | _,_=>False
theorem C0.get {B:Nat} {w:World}:∀ {ws:List CH.Word} {vs:List Value},C0 B w ws vs→∀ (j:Nat) (x:CH.Word),ws[j]?=some x→∃ v,vs[j]?=some v∧Eu B w x v
 | [],_,_,j,x,h=>by simp at h
 | y::ws,[],h,_,_,_=>by exact h.elim
 | y::ws,v::vs,h,0,x,hx=>by
  simp only [List.getElem?_cons_zero,Option.some.injEq] at hx
  subst hx
  exact⟨v,rfl,h.1⟩
 | y::ws,v::vs,h,j+1,x,hx=>C0.get h.2 j x (by simpa using hx)
theorem Eu.mono {B B':Nat} {w:World} {x:CH.Word} {v:Value} (h:Eu B w x v) (hB:B≤B'):Eu B' w x v:=by
 cases x with
 | int n=>exact h
 | str s=>exact h
 | strs l =>
  obtain⟨sv,h1,h2,h3⟩:=h
  exact⟨sv,h1,h2.mono hB,h3⟩
theorem Dj (ws:List CH.Word) (vs:List Value) (T:TypeId) (n:Nat) (w:World) (hG:Gl w) (hv:C0 w.heap.size w ws vs) (hn:ws.length=n) (hl:n≤100) (hJ:(CH.words ws).length≤140737488355328) :
  Calls prog 40 #[.slice (some ⟨w.heap.size,0,none⟩) n n] (w.alloc (.cells vs.toArray T)) (Ret (w.alloc (.cells vs.toArray T)) (strV (CH.words ws))):=by
 have hb:Below w.heap.size w (w.alloc (.cells vs.toArray T)):=(Below.refl _ w).alloc nR _
 subst hn
 refine words_any ws w.heap.size _ (hG.below hb) (by simp) (fun j x hx=>?_) hl hJ
 obtain⟨v,h1,h2⟩:=hv.get j x hx
 refine⟨v,?_,(h2.below hb nR).mono hb.size⟩
 rw [cell_of (heap_alloc_last w _) j]
 simpa using h1
structure Held (R:List Nat) (w w':World):Prop where
 os:w'.os=w.os
 tape:w'.tape=w.tape
 output:w'.output=w.output
 size:w.heap.size≤w'.heap.size
 block:∀ k,k<w.heap.size→k ∉ R→w'.heap[k]?=w.heap[k]?
theorem Held.of_below {R:List Nat} {w w':World} (h:Below w.heap.size w w'):Held R w w':=⟨h.os,h.tape,h.output,h.size,fun k hk _=>h.block k hk⟩
theorem Held.trans {R:List Nat} {w w1 w2:World} (h:Held R w w1) (h':Held R w1 w2):Held R w w2 :=
 ⟨h'.os.trans h.os,h'.tape.trans h.tape,h'.output.trans h.output,nT h.size h'.size,fun k hk hR=>(h'.block k (nL hk h.size) hR).trans (h.block k hk hR)⟩
theorem Held.mono {R R':List Nat} {w w':World} (h:Held R w w') (hs:∀ r∈R,r∈R'):Held R' w w':=⟨h.os,h.tape,h.output,h.size,fun k hk hR=>h.block k hk fun hr=>hR (hs k hr)⟩
theorem Held.below {R:List Nat} {w w':World} (h:Held R w w') {B:Nat} (hB:B≤w.heap.size) (hR:∀ r∈R,B≤r):Below B w w':=⟨h.os,h.tape,h.output,h.size,fun k hk=>h.block k (nL hk hB) fun hr=>by have:=hR k hr;omega⟩
def Cells (w w':World):Prop:=∀ p v,w.cell? p=some v→w'.cell? p=some v
theorem Cells.trans {a b c:World} (h:Cells a b) (h':Cells b c):Cells a c:=fun p v hp=>h' p v (h p v hp)
theorem Cells.of_below {w w':World} (h:Below w.heap.size w w'):Cells w w':=fun p v hp=>(h.cell (World.block_lt_of_cell? w p hp)).trans hp
def IsMap (w:World) (r:Nat):Prop:=∃ es c,w.heap[r]?=some (.map es c)
theorem cell?_block {w w':World} {p:Addr} (h:w'.heap[p.block]?=w.heap[p.block]?):w'.cell? p=w.cell? p:=by
 simp only [World.cell?,h]
theorem Held.cells {R:List Nat} {w w':World} (h:Held R w w') (hR:∀ r∈R,IsMap w r):Cells w w':=fun p v hp=>by
 have hlt:=World.block_lt_of_cell? w p hp
 by_cases hm:p.block∈R
 ·obtain⟨es,c,he⟩:=hR _ hm
  simp [World.cell?,he] at hp
 ·rw [cell?_block (h.block _ hlt hm)]
  exact hp
theorem Strs.kept {B:Nat} {w w':World} {v:Value} {ls:List (List UInt8)} (h:Strs B w v ls) (hc:Cells w w'):Strs B w' v ls:=by
 obtain⟨a,cap,hv,h1,h2,h3⟩:=h
 refine⟨a,cap,hv,h1,h2,fun hne=>?_⟩
 obtain⟨b,off,ha,hlt,hx⟩:=h3 hne
 exact⟨b,off,ha,hlt,fun j l hj=>hc _ _ (hx j l hj)⟩
theorem Cc.kept {B:Nat} {w w':World} {v:Value} {ns:List CH.Name} (h:Cc B w v ns) (hc:Cells w w'):Cc B w' v ns:=by
 obtain⟨a,cap,h1,h2,h3,h4⟩:=h
 refine⟨a,cap,h1,h2,h3,fun hne=>?_⟩
 obtain⟨b,off,e,hlt,hx⟩:=h4 hne
 refine⟨b,off,e,hlt,fun j n hj=>?_⟩
 obtain⟨vw,c1,c2,c3⟩:=hx j n hj
 exact⟨vw,hc _ _ c1,hc _ _ c2,c3.kept hc⟩
mutual
theorem Am.kept {B:Nat} {w w':World} (hc:Cells w w'):∀ (f:CH.Formula) (v:Value),Am B w f v→Am B w' f v
 | .mk _ _ _ _ kids,v,h=>by
  unfold Am at h ⊢
  obtain⟨a,cap,h1,h2,h3,h4⟩:=h
  refine⟨a,cap,h1,h2,h3,fun hne=>?_⟩
  obtain⟨b,off,e,hlt,hr⟩:=h4 hne
  exact⟨b,off,e,hlt,RowAt.kept hc kids b off hr⟩
theorem RowAt.kept {B:Nat} {w w':World} (hc:Cells w w'):∀ (l:List CH.Formula) (b off:Nat),RowAt B w l b off→RowAt B w' l b off
 | [],_,_,_=>by unfold RowAt;trivial
 | f::l,b,off,h=>by
  unfold RowAt at h ⊢
  obtain⟨⟨vk,c0,c1,c2,c3,c4,hk⟩,hr⟩:=h
  exact⟨⟨vk,hc _ _ c0,hc _ _ c1,hc _ _ c2,hc _ _ c3,hc _ _ c4,Am.kept hc f vk hk⟩,RowAt.kept hc l b (off+5) hr⟩
end
theorem ActAt.kept {B:Nat} {w w':World} {a:CH.Act} {s:ActV} (h:ActAt B w a s) (hc:Cells w w'):ActAt B w' a s:=⟨h.names.kept hc,{ h.meas with kids:=Am.kept hc _ _ h.meas.kids },h.lm.kept hc,h.lp.kept hc,h.hj.kept hc,h.small⟩
theorem Gl.kept {w w':World} (h:Gl w) (hc:Cells w w') (hb:Below 9 w w'):Gl w':={
  size:=nT h.size hb.size
  db:=hc _ _ h.db
  pow10:=var?_below hb (by kernel_rfl) (g:=0) (by decide) h.pow10
  utf8:=⟨fun c hlt=>hc _ _ (h.utf8.1 c hlt),fun i hi=>⟨hc _ _ (h.utf8.2 i hi).1,hc _ _ (h.utf8.2 i hi).2⟩⟩ }
theorem Gc.kept {w w':World} (h:Gc w) (hc:Cells w w') (hb:Below 9 w w'):Gc w':=by
 refine⟨h.gl.kept hc hb,?_⟩
 obtain⟨R,oR,cap,h1,h2⟩:=h.cases_
 exact⟨R,oR,cap,hc _ _ h1,fun i hi=>⟨hc _ _ (h2 i hi).1,hc _ _ (h2 i hi).2.1,hc _ _ (h2 i hi).2.2.1,hc _ _ (h2 i hi).2.2.2.1,hc _ _ (h2 i hi).2.2.2.2⟩⟩
theorem actCells_one {B:Nat} {w:World} {a:CH.Act} {s:ActV} (h:ActAt B w a s):∀ v∈As a s,v.oneCell'=true:=by
 obtain⟨vn,vk,vm,vp,vj⟩:=s
 obtain⟨_,_,e1,_,_⟩:=h.names.form
 obtain⟨_,_,e2,_,_,_⟩:=h.meas.kids.form
 obtain⟨_,_,e3,_,_⟩:=h.lm.form
 obtain⟨_,_,e4,_,_⟩:=h.lp.form
 obtain⟨_,_,e5,_,_⟩:=h.hj.form
 change vn=_ at e1
 change vk=_ at e2
 change vm=_ at e3
 change vp=_ at e4
 change vj=_ at e5
 subst e1 e2 e3 e4 e5
 exact List.all_eq_true.1 (by rfl)
def Cb (B:Nat) (w:World) (v:Value) (l:List CH.Act):Prop :=
 ∃ a cap,v=.slice a l.length cap∧l.length≤cap∧cap≤9223372036854775807 ∧
  (l≠[]→∃ b off,a=some ⟨b,off,none⟩∧b<B∧∀ j x,l[j]?=some x→∃ s,(∀ i u,(As x s)[i]?=some u→w.cell? ⟨b,off+j*37+i,none⟩=some u)∧ActAt B w x s)
theorem Cb.kept {B:Nat} {w w':World} {v:Value} {l:List CH.Act} (h:Cb B w v l) (hc:Cells w w'):Cb B w' v l:=by
 obtain⟨a,cap,h1,h2,h3,h4⟩:=h
 refine⟨a,cap,h1,h2,h3,fun hne=>?_⟩
 obtain⟨b,off,e,hlt,hx⟩:=h4 hne
 refine⟨b,off,e,hlt,fun j x hj=>?_⟩
 obtain⟨s,c1,c2⟩:=hx j x hj
 exact⟨s,fun i u hi=>hc _ _ (c1 i u hi),c2.kept hc⟩
theorem Cb.below {B B':Nat} {w w':World} {v:Value} {l:List CH.Act} (h:Cb B w v l) (hb:Below B' w w') (hB:B≤B'):Cb B w' v l:=by
 obtain⟨a,cap,h1,h2,h3,h4⟩:=h
 refine⟨a,cap,h1,h2,h3,fun hne=>?_⟩
 obtain⟨b,off,e,hlt,hx⟩:=h4 hne
 refine⟨b,off,e,hlt,fun j x hj=>?_⟩
 obtain⟨s,c1,c2⟩:=hx j x hj
 exact⟨s,fun i u hi=>(hb.cell (p:=⟨b,off+j*37+i,none⟩) (nL hlt hB)).trans (c1 i u hi),c2.below hb hB⟩
theorem Cb.mono {B B':Nat} {w:World} {v:Value} {l:List CH.Act} (h:Cb B w v l) (hB:B≤B'):Cb B' w v l:=by
 obtain⟨a,cap,h1,h2,h3,h4⟩:=h
 refine⟨a,cap,h1,h2,h3,fun hne=>?_⟩
 obtain⟨b,off,e,hlt,hx⟩:=h4 hne
 refine⟨b,off,e,nL hlt hB,fun j x hj=>?_⟩
 obtain⟨s,c1,c2⟩:=hx j x hj
 exact⟨s,c1,c2.mono hB⟩
theorem Cb.form {B:Nat} {w:World} {v:Value} {l:List CH.Act} (h:Cb B w v l):∃ a cap,v=.slice a l.length cap∧l.length≤cap∧cap≤9223372036854775807:=by
 obtain⟨a,cap,h1,h2,h3,_⟩:=h
 exact⟨a,cap,h1,h2,h3⟩
structure VerV where
 va:Value
 v1:Value
 v2:Value
def Ac (v:CH.Version) (s:VerV):List Value:=[intV v.authority,intV v.number,intV v.pos,strV v.prev,s.va,intV v.sel.index,s.v1,s.v2]
structure VerSmall (v:CH.Version):Prop where
 authority:I64 v.authority
 number:I64 v.number
 pos:I64 v.pos
 prev:v.prev.length≤10000
 index:I64 v.sel.index
 sig:Short v.sel.sig
 path:Short v.sel.path
structure VerAt (B:Nat) (w:World) (v:CH.Version) (s:VerV):Prop where
 acts:Cb B w s.va v.acts
 sig:Strs B w s.v1 v.sel.sig
 path:Strs B w s.v2 v.sel.path
 small:VerSmall v
theorem VerAt.kept {B:Nat} {w w':World} {v:CH.Version} {s:VerV} (h:VerAt B w v s) (hc:Cells w w'):VerAt B w' v s:=⟨h.acts.kept hc,h.sig.kept hc,h.path.kept hc,h.small⟩
theorem VerAt.below {B B':Nat} {w w':World} {v:CH.Version} {s:VerV} (h:VerAt B w v s) (hb:Below B' w w') (hB:B≤B'):VerAt B w' v s:=⟨h.acts.below hb hB,h.sig.below hb hB,h.path.below hb hB,h.small⟩
theorem VerAt.mono {B B':Nat} {w:World} {v:CH.Version} {s:VerV} (h:VerAt B w v s) (hB:B≤B'):VerAt B' w v s:=⟨h.acts.mono hB,h.sig.mono hB,h.path.mono hB,h.small⟩
theorem VerAt.grow {w w':World} {v:CH.Version} {s:VerV} (h:VerAt w.heap.size w v s) (hb:Below w.heap.size w w'):VerAt w'.heap.size w' v s:=(h.below hb nR).mono hb.size
end
section
open Go.Lib Go.Proofs.Tryz Go.RowKit
theorem Cg {w:World} {b o:Nat} {l m:List Value} (h:w.rangeAt b o (l++m)):w.rangeAt b o l:=fun j v hj=>h j v (by rw [List.getElem?_append_left (lS hj)];exact hj)
theorem Bj {w:World} {b o:Nat} {l m:List Value} (h:w.rangeAt b o (l++m)) (n:Nat) (hn:o+l.length=n):w.rangeAt b n m:=fun j v hj=>by
 have:=h (l.length+j) v (by rw [List.getElem?_append_right (by omega),show l.length+j - l.length=j from by omega];exact hj)
 rw [← hn,Nat.add_assoc]
 exact this
theorem Cs {w w':World} {B b o:Nat} {l:List Value} (h:w.rangeAt b o l) (hb:Below B w w') (hlt:b<B):w'.rangeAt b o l:=fun j v hj=>(hb.cell (p:=⟨b,o+j,none⟩) hlt).trans (h j v hj)
theorem Bl (w:World) (l:List Value) (T:TypeId):(w.alloc (.cells l.toArray T)).rangeAt w.heap.size 0 l:=fun j v hj=>by
 rw [Nat.zero_add,cell_of (heap_alloc_last w (.cells l.toArray T)) j]
 simpa using hj
theorem rng_alloc {w:World} {b o:Nat} {l:List Value} (h:w.rangeAt b o l) (x:Obj):(w.alloc x).rangeAt b o l:=fun j v hj=>by
 have hc:=h j v hj
 exact (((Below.refl _ w).alloc nR x).cell (World.block_lt_of_cell? w _ hc)).trans hc
theorem setCells_new (w:World) (T:TypeId):∀ (cs pre z:List Value),z.length=cs.length→(w.alloc (.cells (pre++z).toArray T)).setCells w.heap.size pre.length cs=w.alloc (.cells (pre++cs).toArray T)
 | [],pre,z,h=>by
  have:z=[]:=List.length_eq_zero_iff.1 (by simpa using h)
  subst this;rfl
 | v::cs,pre,z,h=>by
  cases z with
  | nil=>simp at h
  | cons u z =>
   rw [World.setCells,World.setCell_alloc_at _ _ _ _ _ rfl]
   have e:((pre++u::z).toArray.setIfInBounds pre.length v)=((pre++[v])++z).toArray:=by simp
   rw [e]
   have:=setCells_new w T cs (pre++[v]) z (by simpa using h)
   rw [List.length_append,List.length_singleton] at this
   rw [this]
   simp
theorem Av {P:Program} {ops:Array Oper} {rest:List Oper} {op:Oper} {a:Act} {w:World} {Q:Exit→Act→World→Prop} {z:Array Value} {T:TypeId} (hgd:op.guard=none) (ty:TypeId) (x y:Operand) (ho:op.op=.store ty x y)
  (cs:List Value) (hx:a.eval x=.pointer (some ⟨w.heap.size,0,none⟩)) (hy:a.eval y=.agg cs.toArray) (hz:z.size=cs.length) (hi:(P.info? ty).map (·.size)=some cs.length) (h1:∀ v∈cs,v.oneCell'=true)
  (h:wpList P ops Q rest (a.put op.dst undef) (w.alloc (.cells cs.toArray T))):wpList P ops Q (op::rest) a (w.alloc (.cells z T)):=by
 refine wpList_store_mid hgd ty x y ho w.heap.size 0 cs.toArray hx hy (fun j hj=>?_) (by simpa using hi) (all_oneCell_toArray h1) ?_
 ·rw [Nat.zero_add]
  refine⟨?_,Aj (heap_alloc_last w _) j⟩
  rw [cell_of (heap_alloc_last w _) j,Array.getElem?_eq_getElem (by rw [hz];simpa using hj)]
  rfl
 ·have:=setCells_new w T cs [] z.toList (by simpa using hz)
  simp only [List.nil_append,List.length_nil] at this
  rw [show z=z.toList.toArray from by simp,this]
  exact h
theorem fold_zip:∀ (cs pre z:List Value),z.length=cs.length→List.foldl (fun (c:Array Value) (x:Value × Nat)=>c.setIfInBounds x.2 x.1) (pre++z).toArray (cs.zipIdx pre.length)=(pre++cs).toArray
 | [],pre,z,h=>by
  have:z=[]:=List.length_eq_zero_iff.1 (by simpa using h)
  subst this;rfl
 | v::cs,pre,z,h=>by
  cases z with
  | nil=>simp at h
  | cons u z =>
   rw [List.zipIdx_cons,List.foldl_cons]
   have e:((pre++u::z).toArray.setIfInBounds pre.length v)=((pre++[v])++z).toArray:=by simp
   dsimp only
   rw [e]
   have:=fold_zip cs (pre++[v]) z (by simpa using h)
   rw [List.length_append,List.length_singleton] at this
   rw [this]
   simp
theorem fold_new (cs:List Value) (z:Array Value) (h:z.size=cs.length):List.foldl (fun (c:Array Value) (x:Value × Nat)=>c.setIfInBounds x.2 x.1) z cs.zipIdx=cs.toArray:=by
 have:=fold_zip cs [] z.toList (by simpa using h)
 simpa using this
end
section
open Go.Lib Go.Proofs.Tryz Go.RowKit Go.Shelf Go.Sort
def bareV:Option (List UInt8)→Value
 | some t=>.tuple #[.string ⟨t.toArray⟩,.bool true]
 | none=>.tuple #[.string ⟨#[]⟩,.bool false]
def Bb (a:CH.Act):List UInt8:=(CH.actText a).getD []++[10]
theorem allActs_none1 {a:CH.Act} (l:List CH.Act) (ha:CH.actText a=none):CH.allActs (a::l)=none:=by
 conv=>lhs;unfold CH.allActs
 rw [ha]
theorem allActs_some1 {a:CH.Act} {t:List UInt8} (l:List CH.Act) (ha:CH.actText a=some t):CH.allActs (a::l)=(CH.allActs l).map (t++[10]++·):=by
 conv=>lhs;unfold CH.allActs
 rw [ha]
theorem actLine_some {a:CH.Act} {t:List UInt8} (ha:CH.actText a=some t):Bb a=t++[10]:=by
 unfold Bb;rw [ha];rfl
theorem Es:∀ l:List CH.Act,(∀ a∈l,(CH.actText a).isSome=true)→CH.allActs l=some (l.flatMap Bb)
 | [],_=>by unfold CH.allActs;rfl
 | a::l,h=>by
  obtain⟨t,ht⟩:=Option.isSome_iff_exists.1 (h a (List.mem_cons_self ..))
  rw [allActs_some1 l ht,Es l fun x hx=>h x (List.mem_cons_of_mem _ hx),List.flatMap_cons,actLine_some ht]
  rfl
theorem Et {a:CH.Act} (ha:CH.actText a=none):∀ l:List CH.Act,a∈l→CH.allActs l=none
 | [],h=>by cases h
 | b::l,h=>by
  rcases List.mem_cons.1 h with rfl|h
  ·exact allActs_none1 l ha
  ·cases hb:CH.actText b with
   | none=>exact allActs_none1 l hb
   | some t=>rw [allActs_some1 l hb,Et ha l h];rfl
theorem flat_snoc {α β:Type} (f:α→List β) (l:List α) (k:Nat) (x:α) (h:l[k]?=some x):(l.take (k+1)).flatMap f=(l.take k).flatMap f++f x:=by
 rw [CH.take_snoc_at l k x h,List.flatMap_append];simp
def Ct (v:CH.Version):List CH.Word:=[.str ([118,101,114,115,105,111,110]:List UInt8),.int v.authority,.int v.number,.int v.pos,.str v.prev]
theorem verWords_len {v:CH.Version} (h:VerSmall v):(CH.words (Ct v)).length≤1000000:=by
 have h3:((Ct v).flatMap CH.Word.texts).length≤80:=by
  unfold Ct
  simp only [List.flatMap_cons,List.flatMap_nil,List.length_append,Dn,List.length_nil]
  show 1+(1+(1+(1+(1+0))))≤80
  omega
 refine nT (words_len _ 10000 80 ?_ h3) (by decide)
 intro x hx
 simp only [Ct,List.mem_cons,List.not_mem_nil,or_false] at hx
 rcases hx with rfl|rfl|rfl|rfl|rfl
 ·exact Be _ (by simp)
 ·exact Bf _ h.authority
 ·exact Bf _ h.number
 ·exact Bf _ h.pos
 ·exact Be _ h.prev
theorem bare_eq (v:CH.Version):CH.bare v=if !(decide (0≤v.authority)&&decide (v.authority<6)&&decide (1≤v.number)&&decide (v.number≤200)&&decide (0≤v.pos)&&decide (v.pos≤144001439)&&decide ((v.acts.length:Int)≤40))||((v.number==1) != (v.prev==[]))||(v.prev != []&&!CH.isDigest v.prev) then none
  else (CH.allActs v.acts).map (CH.words (Ct v)++[10]++·):=by
 unfold CH.bare CH.within CH.isInstant Ct
 have e1:decide (v.authority≤5)=decide (v.authority<6):=by rw [decide_eq_decide];omega
 have e2:decide (v.acts.length≤40)=decide ((v.acts.length:Int)≤40):=by rw [decide_eq_decide];omega
 rw [e1,e2]
 simp only [Bool.and_assoc]
theorem lines_len {B:Nat} {w:World} {l:List CH.Act} (h:∀ a∈l,∃ s,ActAt B w a s):(l.flatMap Bb).length≤l.length*100000101:=by
 induction l with
 | nil=>simp
 | cons a l ih =>
  have h1:=ih fun x hx=>h x (by simp [hx])
  obtain⟨s,hs⟩:=h a (by simp)
  have h2:(Bb a).length≤100000101:=by
   unfold Bb
   cases ht:CH.actText a with
   | none=>simp
   | some t =>
    have:=actText_len ht hs
    simp
    omega
  rw [List.flatMap_cons,List.length_append,List.length_cons,Nat.add_mul]
  omega
theorem Cb.acts {B:Nat} {w:World} {v:Value} {l:List CH.Act} (h:Cb B w v l):∀ a∈l,∃ s,ActAt B w a s:=fun a ha=>by
 obtain⟨_,_,_,_,_,h4⟩:=h
 obtain⟨b,off,_,_,hx⟩:=h4 (fun e=>by rw [e] at ha;cases ha)
 obtain⟨j,hj⟩:=List.mem_iff_getElem?.1 ha
 obtain⟨s,_,hs⟩:=hx j a hj
 exact⟨s,hs⟩
def ActTextC:Prop:=∀ (a:CH.Act) (s:ActV) (W:World),Gc W→ActAt W.heap.size W a s→Calls prog 16 #[.agg (As a s).toArray] W (Ret W (textV (CH.actText a)))
theorem bare_of (AT:ActTextC) (v:CH.Version) (s:VerV) (w:World) (hG:Gc w) (h:VerAt w.heap.size w v s) :
  Calls prog 27 #[.agg (Ac v s).toArray] w (Ret w (bareV (CH.bare v))):=by
 obtain⟨R,hR⟩:∃ R,Hid (bareV (CH.bare v)=R):=⟨_,hid rfl⟩
 rw [hR.out]
 obtain⟨va,v1,v2⟩:=s
 have hS:=h.small
 have hA:Cb w.heap.size w va v.acts:=h.acts
 obtain⟨aa,ca,rfl,ha1,ha2,ha3⟩:=id hA
 dsimp only [Ac]
 have D:=fun W=>is_any v.prev W (nT hS.prev (by decide))
 have hl:=hid (verWords_len hS)
 have hll:=hid (lines_len hA.acts)
 have hR1:=hR.out
 rw [bare_eq] at hR1
 clear hR
 generalize hN:v.acts.length=N at *
 obtain⟨b1,h1⟩:∃ b,decide (0≤v.authority)=b:=⟨_,rfl⟩
 obtain⟨b2,h2⟩:∃ b,decide (v.authority<6)=b:=⟨_,rfl⟩
 obtain⟨b3,h3⟩:∃ b,decide (1≤v.number)=b:=⟨_,rfl⟩
 obtain⟨b4,h4⟩:∃ b,decide (v.number≤200)=b:=⟨_,rfl⟩
 obtain⟨b5,h5⟩:∃ b,decide (0≤v.pos)=b:=⟨_,rfl⟩
 obtain⟨b6,h6⟩:∃ b,decide (v.pos≤144001439)=b:=⟨_,rfl⟩
 obtain⟨b7,h7⟩:∃ b,decide ((N:Int)≤40)=b:=⟨_,rfl⟩
 obtain⟨b8,h8⟩:∃ b,(v.number==1)=b:=⟨_,rfl⟩
 obtain⟨b10,h10⟩:∃ b,CH.isDigest v.prev=b:=⟨_,rfl⟩
 rw [h1,h2,h3,h4,h5,h6,h7,h8,h10] at hR1
 rw [h10] at D
 have D:=hid D
 have HA:=hid hA
 have HS:=hid hS
 have HN:=hid hN
 have HA3:=hid ha3
 clear hN hS hA h ha3 h10
 have hR1:=hid hR1
 have hB0:=fun o=>(Below.refl _ w).alloc nR o
 have hW:=fun o=>heap_alloc_last w o
 rcases (by cases b1 <;> cases b2 <;> cases b3 <;> cases b4 <;> cases b5 <;> cases b6 <;> cases b7 <;> simp:(b1=false)∨(b1=true∧b2=false)∨(b1=true∧b2=true∧b3=false)∨(b1=true∧b2=true∧b3=true∧b4=false)∨(b1=true∧b2=true∧b3=true∧b4=true∧b5=false)∨(b1=true∧b2=true∧b3=true∧b4=true∧b5=true∧b6=false)∨(b1=true∧b2=true∧b3=true∧b4=true∧b5=true∧b6=true∧b7=false)∨(b1=true∧b2=true∧b3=true∧b4=true∧b5=true∧b6=true∧b7=true)) with rfl|⟨rfl,rfl⟩|⟨rfl,rfl,rfl⟩|⟨rfl,rfl,rfl,rfl⟩|⟨rfl,rfl,rfl,rfl,rfl⟩|⟨rfl,rfl,rfl,rfl,rfl,rfl⟩|⟨rfl,rfl,rfl,rfl,rfl,rfl,rfl⟩|⟨rfl,rfl,rfl,rfl,rfl,rfl,rfl⟩
 iterate 7
  ·go_enter func27,ntmps27
   go_wp2_with fail
   refine bodyPost_ret (results_tmp2 rfl _ _ _) rfl ?_
   exact⟨by rw [← hR1.out];rfl,(hB0 _)⟩
 have te:=hid (Ck v.prev)
 have hR2:Hid (bareV (if (b8 != v.prev.isEmpty||(!v.prev.isEmpty&&!b10))=true then none else (CH.allActs v.acts).map (CH.words (Ct v)++[10]++·))=R):=hid (by
  rw [← hR1.out]
  cases v.prev <;> rfl)
 clear hR1
 obtain⟨b9,h9⟩:∃ b,v.prev.isEmpty=b:=⟨_,rfl⟩
 rw [h9] at hR2
 have hbW:=fun o=>hid (heap_alloc_last w o)
 rcases (by cases b8 <;> cases b9 <;> cases b10 <;> simp:(b8=true∧b9=false)∨(b8=false∧b9=true)∨(b8=false∧b9=false∧b10=false)∨(b8=true∧b9=true)∨(b8=false∧b9=false∧b10=true)) with⟨rfl,rfl⟩|⟨rfl,rfl⟩|⟨rfl,rfl,rfl⟩|⟨rfl,rfl⟩|⟨rfl,rfl,rfl⟩
 ·go_enter func27,ntmps27
  go_wp2_with fail
  refine bodyPost_ret (results_tmp2 rfl _ _ _) rfl ?_
  exact⟨by rw [← hR2.out];rfl,(hB0 _)⟩
 ·go_enter func27,ntmps27
  go_wp2_with fail
  refine bodyPost_ret (results_tmp2 rfl _ _ _) rfl ?_
  exact⟨by rw [← hR2.out];rfl,(hB0 _)⟩
 ·go_enter func27,ntmps27
  go_wp2_with fail
  refine (D.out _).mono ?_
  rintro e w1 ⟨rfl,hb1⟩
  clear D
  go_wp2
  refine bodyPost_ret (results_tmp2 rfl _ _ _) rfl ?_
  exact⟨by rw [← hR2.out];rfl,(hB0 _).trans (hb1.mono (by simp))⟩
 ·go_enter func27,ntmps27
  go_wp2_with fail
  have hB1:=hB0 (.cells #[.int .i64 v.authority,.int .i64 v.number,.int .i64 v.pos,.string ⟨v.prev.toArray⟩,.slice aa N ca,.int .i64 v.sel.index,v1,v2] 29)
  have hlt1:w.heap.size<(w.alloc (.cells #[.int .i64 v.authority,.int .i64 v.number,.int .i64 v.pos,.string ⟨v.prev.toArray⟩,.slice aa N ca,.int .i64 v.sel.index,v1,v2] 29)).heap.size:=by simp
  have k4:(w.alloc (.cells #[.int .i64 v.authority,.int .i64 v.number,.int .i64 v.pos,.string ⟨v.prev.toArray⟩,.slice aa N ca,.int .i64 v.sel.index,v1,v2] 29)).cell? ⟨w.heap.size,4,none⟩=some (.slice aa N ca):=cell_of (heap_alloc_last w _) 4
  have hXs:w.heap.size+1=(w.alloc (.cells #[.int .i64 v.authority,.int .i64 v.number,.int .i64 v.pos,.string ⟨v.prev.toArray⟩,.slice aa N ca,.int .i64 v.sel.index,v1,v2] 29)).heap.size:=by simp
  rw [hXs]
  generalize w.alloc (.cells #[.int .i64 v.authority,.int .i64 v.number,.int .i64 v.pos,.string ⟨v.prev.toArray⟩,.slice aa N ca,.int .i64 v.sel.index,v1,v2] 29)=W1 at *
  clear hXs hB0 hW hbW D
  obtain⟨WV,hWV⟩:∃ x,CH.words (Ct v)=x:=⟨_,rfl⟩
  have WN:=fun bo T=>Dj (Ct v) [.iface 9 (strV ([118,101,114,115,105,111,110]:List UInt8)),.iface 3 (.int .i64 v.authority),.iface 3 (.int .i64 v.number),.iface 3 (.int .i64 v.pos),.iface 9 (strV v.prev)] T 5 (W1.alloc bo) ((hG.below hB1).gl.below ((Below.refl _ W1).alloc nR _)) ⟨rfl,⟨rfl,HS.out.authority⟩,⟨rfl,HS.out.number⟩,⟨rfl,HS.out.pos⟩,rfl,trivial⟩ rfl (by decide) (by have:=hl.out;omega)
  have hl:Hid (WV.length≤1000000):=hid (by rw [← hWV];exact hl.out)
  rw [hWV] at WN
  have hR3:Hid (bareV ((CH.allActs v.acts).map (WV++[10]++·))=R):=hid (by rw [← hR2.out,hWV];rfl)
  simp only [World.size_alloc] at WN
  have WN:=hid WN
  clear hR2 hWV
  refine (WN.out _ _).mono ?_
  rintro e w2 ⟨rfl,hb2⟩
  have hIB:Lib.IsBuilder 124 5 W1.heap.size W1.heap.size (Lib.byteCells []) w2:=Bh (Bh (Lib.fresh_isBuilder _ _ W1) ((Below.refl _ _).alloc nR _)) hb2
  have hB2:Below W1.heap.size W1 w2:=(((Below.refl _ W1).alloc nR _).alloc (by simp) _).trans (hb2.mono (by simp;omega))
  have hs2:=hB2.size
  clear WN hb2
  have hl9:¬ (9223372036854775807<WV.length+1):=by have:=hl.out;omega
  have BW:=hid fun (sb:ByteArray) (hsb:sb.size≤2000000)=>Bn W1.heap.size W1.heap.size _ sb w2 hIB (by simp [Lib.byteCells];omega) hs2
  go_wp2_with fail
  refine (BW.out _ (by have:=hl.out;simp [ByteArray.size_append];simp [ByteArray.size];omega)).mono ?_
  rintro e w3 ⟨rfl,hIB3,hb3⟩
  clear BW hIB
  have hB3:Below W1.heap.size W1 w3:=hB2.trans hb3
  have hIB3:Lib.IsBuilder 124 5 W1.heap.size W1.heap.size (Lib.byteCells (WV++[10]++(v.acts.take 0).flatMap Bb)) w3:=.inr (by
   have e:Lib.byteCells (WV++[10]++(v.acts.take 0).flatMap Bb)=Lib.byteCells []++Lib.strCells (⟨WV.toArray⟩++⟨#[10]⟩):=by
    simp [Lib.byteCells,Lib.strCells,bytes_append WV [10]]
   rw [e]
   exact hIB3)
  clear hB2 hb3 hs2
  have m4:=(hB3.cell (p:=⟨w.heap.size,4,none⟩) hlt1).trans k4
  go_wp2_with fail
  go_loopw [86] (fun i wr=>∃ k:Nat,k≤N∧i=.int .i64 k∧Hid (Lib.IsBuilder 124 5 W1.heap.size W1.heap.size (Lib.byteCells (WV++[10]++(v.acts.take k).flatMap Bb)) wr)∧Hid (Below W1.heap.size W1 wr)∧Hid (∀ x∈v.acts.take k,(CH.actText x).isSome=true)) (fun i _=>N - (RowKit.intOf i).toNat)
  case atStart=>exact⟨0,Nat.zero_le _,rfl,hid hIB3,hid hB3,hid fun x hx=>by simp at hx⟩
  case round =>
   obtain⟨k,hk,rfl,hI,hBr,hJ⟩:=hrel
   have hBw:Below w.heap.size w wr:=hB1.trans (hBr.out.mono hB1.size)
   by_cases hlt:k<N
   ·obtain⟨b,off,rfl,hbl,hcells⟩:=HA3.out (by intro h;have:=HN.out;simp [h] at this;omega)
    obtain⟨x,hx⟩:∃ x,v.acts[k]?=some x:=⟨_,lZ (by rw [HN.out];exact hlt)⟩
    obtain⟨sx,hc,hat⟩:=hcells k x hx
    have hrg:wr.rangeAt b (off+k*37) (As x sx):=fun j u hj=>(hBw.cell (p:=⟨b,off+k*37+j,none⟩) hbl).trans (hc j u hj)
    have hlen:(prog.info? 63).map (·.size)=some (As x sx).length:=by kernel_rfl
    have h1c:=hid (actCells_one hat)
    have hlenA:(As x sx).length=37:=rfl
    have T:=hid fun o=>AT x sx (wr.alloc o) (hG.below (hBw.alloc hBw.size o)) ((hat.below (hBw.alloc hBw.size o) nR).mono (hBw.alloc hBw.size o).size)
    obtain⟨t,ht⟩:∃ t,CH.actText x=t:=⟨_,rfl⟩
    have hle:∀ y,t=some y→y.length≤100000100:=fun y hy=>actText_len (ht.trans hy) hat
    rw [ht] at T
    have ht:=hid ht
    have hx:=hid hx
    clear hcells hc hat
    generalize As x sx=C at *
    have hn1:=hid (Bl wr C 63)
    have hrg:=hid hrg
    go_wp2_with (first|refine wpList_load_mid rfl 63 _ rfl b (off+k*37) rfl C _ hrg.out underlying63 rfl hlen ?_|refine Av rfl 63 _ _ rfl C rfl rfl (by rw [hlenA];rfl) hlen h1c.out ?_|refine wpList_load_mid rfl 63 _ rfl wr.heap.size 0 rfl C _ hn1.out underlying63 rfl hlen ?_)
    refine (T.out _).mono ?_
    rintro e w4 ⟨rfl,hb4⟩
    clear T hrg hn1 h1c hlenA hlen
    have hba:=hBr.out.alloc hBr.out.size (.cells C.toArray 63)
    have hB4:Below W1.heap.size W1 w4:=hba.trans (hb4.mono hba.size)
    cases t with
    | none =>
     dsimp only [textV]
     go_wp2
     refine bodyPost_ret (results_tmp2 rfl _ _ _) rfl ?_
     refine⟨?_,hB1.trans (hB4.mono hB1.size)⟩
     rw [← hR3.out,Et ht.out v.acts (List.mem_of_getElem? hx.out)]
     rfl
    | some t =>
     have hle:=hle t rfl
     have hI4:Hid (Lib.IsBuilder 124 5 W1.heap.size W1.heap.size (Lib.byteCells (WV++[10]++(v.acts.take k).flatMap Bb)) w4):=hid (Bh (Bh hI.out ((Below.refl _ wr).alloc nR _)) hb4)
     have hl8:¬ (9223372036854775807<t.length+1):=by omega
     have htl:=lines_len (l:=v.acts.take k) fun y hy=>HA.out.acts y (List.mem_of_mem_take hy)
     have htk:(v.acts.take k).length≤40:=by rw [List.length_take,HN.out];have:=of_decide_eq_true h7;omega
     have htl:Hid (((v.acts.take k).flatMap Bb).length≤4000004040):=hid (by have:=Nat.mul_le_mul_right 100000101 htk;omega)
     have BW:=hid fun (sb:ByteArray) (hsb:sb.size≤200000000)=>Bn W1.heap.size W1.heap.size _ sb w4 hI4.out (by have:=hl.out;have:=htl.out;simp only [Lib.byteCells,List.length_map,List.length_append,List.length_singleton];omega) hB4.size
     have hfs:=hid (flat_snoc Bb v.acts k x hx.out)
     have hals:=hid (actLine_some ht.out)
     have hJ':Hid (∀ y∈v.acts.take (k+1),(CH.actText y).isSome=true):=hid (by
      intro y hy
      rw [CH.take_snoc_at v.acts k x hx.out] at hy
      rcases List.mem_append.1 hy with hy|hy
      ·exact hJ.out y hy
      ·cases List.mem_singleton.1 hy
       rw [ht.out];rfl)
     clear htk hb4
     dsimp only [textV]
     go_wp2_with fail
     refine (BW.out _ (by simp [ByteArray.size_append];simp [ByteArray.size];omega)).mono ?_
     rintro e w5 ⟨rfl,hI5,hb5⟩
     have hI5:Hid (Lib.IsBuilder 124 5 W1.heap.size W1.heap.size (Lib.byteCells (WV++[10]++(v.acts.take (k+1)).flatMap Bb)) w5):=hid (.inr (by
      have e:Lib.byteCells (WV++[10]++(v.acts.take (k+1)).flatMap Bb)=Lib.byteCells (WV++[10]++(v.acts.take k).flatMap Bb)++Lib.strCells (⟨t.toArray⟩++⟨#[10]⟩):=by
       rw [hfs.out,hals.out]
       simp [Lib.byteCells,Lib.strCells,bytes_append t [10]]
      rw [e]
      exact hI5))
     have hB5:Hid (Below W1.heap.size W1 w5):=hid (hB4.trans hb5)
     clear BW hb5
     go_wp2
     go_roundw
     case rel=>exact⟨k+1,by omega,by go_num,hI5,hB5,hJ'⟩
     case measure=>simp [RowKit.intOf];omega
   ·have hkN:k=N:=by omega
    subst hkN
    have hI:=hI.out
    have hJ:=hJ.out
    rw [← HN.out,List.take_length] at hI hJ
    have hR4:Hid (bareV (some (WV++[10]++v.acts.flatMap Bb))=R):=hid (by rw [← hR3.out,Es v.acts hJ];rfl)
    generalize WV++[10]++v.acts.flatMap Bb=FT at *
    go_wp2_with fail
    refine (Tryz.Builder_String_any _ _ _ _ hI hBr.out.size).mono ?_
    rintro e w4 ⟨rfl,hb4⟩
    go_wp2
    refine bodyPost_ret (results_tmp2 rfl _ _ _) rfl ?_
    exact⟨by rw [← hR4.out];rfl,hBw.trans (hb4.mono hB1.size)⟩
 ·go_enter func27,ntmps27
  go_wp2_with fail
  refine (D.out _).mono ?_
  rintro e W1 ⟨rfl,hb1⟩
  have hB1:Below w.heap.size w W1:=(hB0 _).trans (hb1.mono (by simp))
  have hblk:=(hb1.block w.heap.size (by simp)).trans (hW _)
  have hlt1:w.heap.size<W1.heap.size:=(aZ hblk)
  have k0:W1.cell? ⟨w.heap.size,0,none⟩=some (.int .i64 v.authority):=cell_of hblk 0
  have k1:W1.cell? ⟨w.heap.size,1,none⟩=some (.int .i64 v.number):=cell_of hblk 1
  have k2:W1.cell? ⟨w.heap.size,2,none⟩=some (.int .i64 v.pos):=cell_of hblk 2
  have k3:W1.cell? ⟨w.heap.size,3,none⟩=some (.string ⟨v.prev.toArray⟩):=cell_of hblk 3
  have k4:W1.cell? ⟨w.heap.size,4,none⟩=some (.slice aa N ca):=cell_of hblk 4
  clear hb1 hblk hB0 hW hbW D
  go_wp2_with fail
  obtain⟨WV,hWV⟩:∃ x,CH.words (Ct v)=x:=⟨_,rfl⟩
  have WN:=fun bo T=>Dj (Ct v) [.iface 9 (strV ([118,101,114,115,105,111,110]:List UInt8)),.iface 3 (.int .i64 v.authority),.iface 3 (.int .i64 v.number),.iface 3 (.int .i64 v.pos),.iface 9 (strV v.prev)] T 5 (W1.alloc bo) ((hG.below hB1).gl.below ((Below.refl _ W1).alloc nR _)) ⟨rfl,⟨rfl,HS.out.authority⟩,⟨rfl,HS.out.number⟩,⟨rfl,HS.out.pos⟩,rfl,trivial⟩ rfl (by decide) (by have:=hl.out;omega)
  have hl:Hid (WV.length≤1000000):=hid (by rw [← hWV];exact hl.out)
  rw [hWV] at WN
  have hR3:Hid (bareV ((CH.allActs v.acts).map (WV++[10]++·))=R):=hid (by rw [← hR2.out,hWV];rfl)
  simp only [World.size_alloc] at WN
  have WN:=hid WN
  clear hR2 hWV
  refine (WN.out _ _).mono ?_
  rintro e w2 ⟨rfl,hb2⟩
  have hIB:Lib.IsBuilder 124 5 W1.heap.size W1.heap.size (Lib.byteCells []) w2:=Bh (Bh (Lib.fresh_isBuilder _ _ W1) ((Below.refl _ _).alloc nR _)) hb2
  have hB2:Below W1.heap.size W1 w2:=(((Below.refl _ W1).alloc nR _).alloc (by simp) _).trans (hb2.mono (by simp;omega))
  have hs2:=hB2.size
  clear WN hb2
  have hl9:¬ (9223372036854775807<WV.length+1):=by have:=hl.out;omega
  have BW:=hid fun (sb:ByteArray) (hsb:sb.size≤2000000)=>Bn W1.heap.size W1.heap.size _ sb w2 hIB (by simp [Lib.byteCells];omega) hs2
  go_wp2_with fail
  refine (BW.out _ (by have:=hl.out;simp [ByteArray.size_append];simp [ByteArray.size];omega)).mono ?_
  rintro e w3 ⟨rfl,hIB3,hb3⟩
  clear BW hIB
  have hB3:Below W1.heap.size W1 w3:=hB2.trans hb3
  have hIB3:Lib.IsBuilder 124 5 W1.heap.size W1.heap.size (Lib.byteCells (WV++[10]++(v.acts.take 0).flatMap Bb)) w3:=.inr (by
   have e:Lib.byteCells (WV++[10]++(v.acts.take 0).flatMap Bb)=Lib.byteCells []++Lib.strCells (⟨WV.toArray⟩++⟨#[10]⟩):=by
    simp [Lib.byteCells,Lib.strCells,bytes_append WV [10]]
   rw [e]
   exact hIB3)
  clear hB2 hb3 hs2
  have m4:=(hB3.cell (p:=⟨w.heap.size,4,none⟩) hlt1).trans k4
  go_wp2_with fail
  go_loopw [86] (fun i wr=>∃ k:Nat,k≤N∧i=.int .i64 k∧Hid (Lib.IsBuilder 124 5 W1.heap.size W1.heap.size (Lib.byteCells (WV++[10]++(v.acts.take k).flatMap Bb)) wr)∧Hid (Below W1.heap.size W1 wr)∧Hid (∀ x∈v.acts.take k,(CH.actText x).isSome=true)) (fun i _=>N - (RowKit.intOf i).toNat)
  case atStart=>exact⟨0,Nat.zero_le _,rfl,hid hIB3,hid hB3,hid fun x hx=>by simp at hx⟩
  case round =>
   obtain⟨k,hk,rfl,hI,hBr,hJ⟩:=hrel
   have hBw:Below w.heap.size w wr:=hB1.trans (hBr.out.mono hB1.size)
   by_cases hlt:k<N
   ·obtain⟨b,off,rfl,hbl,hcells⟩:=HA3.out (by intro h;have:=HN.out;simp [h] at this;omega)
    obtain⟨x,hx⟩:∃ x,v.acts[k]?=some x:=⟨_,lZ (by rw [HN.out];exact hlt)⟩
    obtain⟨sx,hc,hat⟩:=hcells k x hx
    have hrg:wr.rangeAt b (off+k*37) (As x sx):=fun j u hj=>(hBw.cell (p:=⟨b,off+k*37+j,none⟩) hbl).trans (hc j u hj)
    have hlen:(prog.info? 63).map (·.size)=some (As x sx).length:=by kernel_rfl
    have h1c:=hid (actCells_one hat)
    have hlenA:(As x sx).length=37:=rfl
    have T:=hid fun o=>AT x sx (wr.alloc o) (hG.below (hBw.alloc hBw.size o)) ((hat.below (hBw.alloc hBw.size o) nR).mono (hBw.alloc hBw.size o).size)
    obtain⟨t,ht⟩:∃ t,CH.actText x=t:=⟨_,rfl⟩
    have hle:∀ y,t=some y→y.length≤100000100:=fun y hy=>actText_len (ht.trans hy) hat
    rw [ht] at T
    have ht:=hid ht
    have hx:=hid hx
    clear hcells hc hat
    generalize As x sx=C at *
    have hn1:=hid (Bl wr C 63)
    have hrg:=hid hrg
    go_wp2_with (first|refine wpList_load_mid rfl 63 _ rfl b (off+k*37) rfl C _ hrg.out underlying63 rfl hlen ?_|refine Av rfl 63 _ _ rfl C rfl rfl (by rw [hlenA];rfl) hlen h1c.out ?_|refine wpList_load_mid rfl 63 _ rfl wr.heap.size 0 rfl C _ hn1.out underlying63 rfl hlen ?_)
    refine (T.out _).mono ?_
    rintro e w4 ⟨rfl,hb4⟩
    clear T hrg hn1 h1c hlenA hlen
    have hba:=hBr.out.alloc hBr.out.size (.cells C.toArray 63)
    have hB4:Below W1.heap.size W1 w4:=hba.trans (hb4.mono hba.size)
    cases t with
    | none =>
     dsimp only [textV]
     go_wp2
     refine bodyPost_ret (results_tmp2 rfl _ _ _) rfl ?_
     refine⟨?_,hB1.trans (hB4.mono hB1.size)⟩
     rw [← hR3.out,Et ht.out v.acts (List.mem_of_getElem? hx.out)]
     rfl
    | some t =>
     have hle:=hle t rfl
     have hI4:Hid (Lib.IsBuilder 124 5 W1.heap.size W1.heap.size (Lib.byteCells (WV++[10]++(v.acts.take k).flatMap Bb)) w4):=hid (Bh (Bh hI.out ((Below.refl _ wr).alloc nR _)) hb4)
     have hl8:¬ (9223372036854775807<t.length+1):=by omega
     have htl:=lines_len (l:=v.acts.take k) fun y hy=>HA.out.acts y (List.mem_of_mem_take hy)
     have htk:(v.acts.take k).length≤40:=by rw [List.length_take,HN.out];have:=of_decide_eq_true h7;omega
     have htl:Hid (((v.acts.take k).flatMap Bb).length≤4000004040):=hid (by have:=Nat.mul_le_mul_right 100000101 htk;omega)
     have BW:=hid fun (sb:ByteArray) (hsb:sb.size≤200000000)=>Bn W1.heap.size W1.heap.size _ sb w4 hI4.out (by have:=hl.out;have:=htl.out;simp only [Lib.byteCells,List.length_map,List.length_append,List.length_singleton];omega) hB4.size
     have hfs:=hid (flat_snoc Bb v.acts k x hx.out)
     have hals:=hid (actLine_some ht.out)
     have hJ':Hid (∀ y∈v.acts.take (k+1),(CH.actText y).isSome=true):=hid (by
      intro y hy
      rw [CH.take_snoc_at v.acts k x hx.out] at hy
      rcases List.mem_append.1 hy with hy|hy
      ·exact hJ.out y hy
      ·cases List.mem_singleton.1 hy
       rw [ht.out];rfl)
     clear htk hb4
     dsimp only [textV]
     go_wp2_with fail
     refine (BW.out _ (by simp [ByteArray.size_append];simp [ByteArray.size];omega)).mono ?_
     rintro e w5 ⟨rfl,hI5,hb5⟩
     have hI5:Hid (Lib.IsBuilder 124 5 W1.heap.size W1.heap.size (Lib.byteCells (WV++[10]++(v.acts.take (k+1)).flatMap Bb)) w5):=hid (.inr (by
      have e:Lib.byteCells (WV++[10]++(v.acts.take (k+1)).flatMap Bb)=Lib.byteCells (WV++[10]++(v.acts.take k).flatMap Bb)++Lib.strCells (⟨t.toArray⟩++⟨#[10]⟩):=by
       rw [hfs.out,hals.out]
       simp [Lib.byteCells,Lib.strCells,bytes_append t [10]]
      rw [e]
      exact hI5))
     have hB5:Hid (Below W1.heap.size W1 w5):=hid (hB4.trans hb5)
     clear BW hb5
     go_wp2
     go_roundw
     case rel=>exact⟨k+1,by omega,by go_num,hI5,hB5,hJ'⟩
     case measure=>simp [RowKit.intOf];omega
   ·have hkN:k=N:=by omega
    subst hkN
    have hI:=hI.out
    have hJ:=hJ.out
    rw [← HN.out,List.take_length] at hI hJ
    have hR4:Hid (bareV (some (WV++[10]++v.acts.flatMap Bb))=R):=hid (by rw [← hR3.out,Es v.acts hJ];rfl)
    generalize WV++[10]++v.acts.flatMap Bb=FT at *
    go_wp2_with fail
    refine (Tryz.Builder_String_any _ _ _ _ hI hBr.out.size).mono ?_
    rintro e w4 ⟨rfl,hb4⟩
    go_wp2
    refine bodyPost_ret (results_tmp2 rfl _ _ _) rfl ?_
    exact⟨by rw [← hR4.out];rfl,hBw.trans (hb4.mono hB1.size)⟩
theorem measureText_any (m:CH.Measure) (vk:Value) (w:World) (hG:Gl w) (hM:MeasureIs w.heap.size w m vk) :
  Calls prog 38 #[.agg (Aq m vk).toArray] w (Ret w (textV (CH.measureText m))):=by
 obtain⟨R,hR⟩:∃ R,Hid (textV (CH.measureText m)=R):=⟨_,Lib.hid rfl⟩
 rw [hR.out]
 have hRe:Hid (R=textV (match CH.formulaText m.when_ with
  | none=>none
  | some t=>if CH.measureNamed m&&CH.measureDated m then some (CH.join [32] (Bw m t)++[59]) else none)):=Lib.hid (hR.out.symm.trans (congrArg textV (measureText_eq m)))
 clear hR
 have T:=fun (W:World) (hb:Below w.heap.size w W)=>formulaText_any m.when_ vk W (hG.below hb) ((hM.below hb nR).mono hb.size).kids hM.short hM.count hM.depth
 obtain⟨ak,ck,rfl,hc1,hc2,hrow⟩:=hM.kids.form
 clear hrow
 have NM:=fun W=>named_any m ak m.when_.kids.length ck W (nT hM.id (by decide)) (nT hM.authority (by decide)) (nT hM.target (by decide))
 have DT:=fun W=>dated_any m ak m.when_.kids.length ck W
 generalize m.when_.kids.length=nk at *
 obtain⟨ft,hft⟩:∃ r,CH.formulaText m.when_=r:=⟨_,rfl⟩
 obtain⟨b1,h1⟩:∃ r,CH.measureNamed m=r:=⟨_,rfl⟩
 obtain⟨b2,h2⟩:∃ r,CH.measureDated m=r:=⟨_,rfl⟩
 rw [hft] at T hRe
 rw [h1] at NM hRe
 rw [h2] at DT hRe
 replace T:=Lib.hid T
 replace NM:=Lib.hid NM
 replace DT:=Lib.hid DT
 have hM:=Lib.hid hM
 have hB0:=fun o=>(Below.refl _ w).alloc nR o
 have hW:=fun o=>heap_alloc_last w o
 dsimp only [Aq,Af] at T NM DT ⊢
 obtain⟨O,hO⟩:∃ o:Obj,Hid (o=.cells #[.string ⟨m.id.toArray⟩,.string ⟨m.authority.toArray⟩,.int .i64 m.kind,.string ⟨m.target.toArray⟩,.int .i64 m.when_.op,.string ⟨m.when_.name.toArray⟩,.int .i64 m.when_.cmp,.int .i64 m.when_.n,.slice ak nk ck,.int .i64 m.start,.int .i64 m.until_,.int .i64 m.wind] 59):=⟨_,Lib.hid rfl⟩
 have CB:∀ (W:World),W.heap[w.heap.size]?=some (.cells #[.string ⟨m.id.toArray⟩,.string ⟨m.authority.toArray⟩,.int .i64 m.kind,.string ⟨m.target.toArray⟩,.int .i64 m.when_.op,.string ⟨m.when_.name.toArray⟩,.int .i64 m.when_.cmp,.int .i64 m.when_.n,.slice ak nk ck,.int .i64 m.start,.int .i64 m.until_,.int .i64 m.wind] 59) →
   ∀ i,W.cell? ⟨w.heap.size,i,none⟩=#[.string ⟨m.id.toArray⟩,.string ⟨m.authority.toArray⟩,.int .i64 m.kind,.string ⟨m.target.toArray⟩,.int .i64 m.when_.op,.string ⟨m.when_.name.toArray⟩,.int .i64 m.when_.cmp,.int .i64 m.when_.n,.slice ak nk ck,.int .i64 m.start,.int .i64 m.until_,.int .i64 m.wind][i]?:=fun W h i=>cell_of h i
 replace CB:=Lib.hid CB
 cases ft with
 | none =>
  obtain rfl:=hRe.out
  dsimp only [textV] at T ⊢
  clear NM DT
  go_enter func38,ntmps38
  go_wp2_with fail
  refine (T.out _ (hB0 _)).mono ?_
  rintro e w1 ⟨rfl,hb1⟩
  clear T
  go_wp2
  refine bodyPost_ret (results_tmp2 rfl _ _ _) rfl ?_
  exact⟨rfl,(hB0 _).trans (hb1.mono (by simp))⟩
 | some t =>
  dsimp only [textV] at T
  go_enter func38,ntmps38
  go_wp2_with fail
  refine (T.out _ (hB0 _)).mono ?_
  rintro e w1 ⟨rfl,hb1⟩
  have hB1:Below w.heap.size w w1:=(hB0 _).trans (hb1.mono (by simp))
  have hk1:=(hb1.block w.heap.size (by simp)).trans (hW _)
  clear T hb1 hB0 hW
  have c1:=CB.out w1 hk1
  replace hk1:=Lib.hid hk1
  go_wp2_with fail
  refine (NM.out _).mono ?_
  rintro e w2 ⟨rfl,hb2⟩
  have hB2:Below w.heap.size w w2:=hB1.trans (hb2.mono hB1.size)
  have hk2:=(hb2.block w.heap.size (aZ hk1.out)).trans hk1.out
  clear NM c1 hb2 hB1 hk1
  have c2:=CB.out w2 hk2
  replace hk2:=Lib.hid hk2
  cases b1 with
  | false =>
   obtain rfl:=hRe.out
   clear DT
   go_wp2
   refine bodyPost_ret (results_tmp2 rfl _ _ _) rfl ?_
   exact⟨rfl,hB2⟩
  | true =>
   go_wp2_with fail
   refine (DT.out _).mono ?_
   rintro e w3 ⟨rfl,hb3⟩
   have hB3:Below w.heap.size w w3:=hB2.trans (hb3.mono hB2.size)
   have hk3:=(hb3.block w.heap.size (aZ hk2.out)).trans hk2.out
   have hl3:w.heap.size<w3.heap.size:=(aZ hk3)
   clear DT c2 hb3 hB2 hk2
   have c3:=CB.out w3 hk3
   replace hk3:=Lib.hid hk3
   cases b2 with
   | false =>
    obtain rfl:=hRe.out
    go_wp2
    refine bodyPost_ret (results_tmp2 rfl _ _ _) rfl ?_
    exact⟨rfl,hB3⟩
   | true =>
    have hkd:m.kind=1∨m.kind=2∨m.kind=3:=by
     unfold CH.measureNamed at h1
     dsimp only at h1
     by_cases q1:m.kind=1
     ·exact .inl q1
     by_cases q2:m.kind=2
     ·exact .inr (.inl q2)
     by_cases q3:m.kind=3
     ·exact .inr (.inr q3)
     rw [if_neg q1,if_neg q2,if_neg q3] at h1
     cases h1
    have hmm:=@run_makeMap prog
    obtain⟨kw,hkw⟩:∃ kw,Hid (CH.measureWord m.kind=kw):=⟨_,Lib.hid rfl⟩
    obtain⟨o1,o2,o3,u1,u2,u3,um⟩:=words3_map (w3.alloc (.cells #[.slice none 0 0] 25)) 1 2 3 ([102,111,114,98,105,100]:List UInt8) ([101,120,101,109,112,116]:List UInt8) ([98,108,111,99,107]:List UInt8) rfl rfl rfl
    have ul:=Bd El underlying104 (.string ⟨#[]⟩) strZero um m.kind
    have ule:((Ax m.kind [((1:Int),strV ([102,111,114,98,105,100]:List UInt8)),(2,strV ([101,120,101,109,112,116]:List UInt8)),(3,strV ([98,108,111,99,107]:List UInt8))] 0).map (·.2)).getD (.string ⟨#[]⟩)=.string ⟨kw.toArray⟩:=by
     rw [← hkw.out]
     rcases hkd with e|e|e <;> rw [e] <;> rfl
    rw [ule] at ul
    rw [World.size_alloc] at u1 u2 u3 ul um
    have hp:∀ k,k≠w3.heap.size+1→(((((w3.alloc (.cells #[.slice none 0 0] 25)).alloc (.map #[] 0)).putObj (w3.heap.size+1) o1).putObj (w3.heap.size+1) o2).putObj (w3.heap.size+1) o3).heap[k]?=((w3.alloc (.cells #[.slice none 0 0] 25)).alloc (.map #[] 0)).heap[k]?:=fun k hk=>by
     rw [World.putObj_heap_other hk,World.putObj_heap_other hk,World.putObj_heap_other hk]
    have hBW:Below w3.heap.size w3 (((((w3.alloc (.cells #[.slice none 0 0] 25)).alloc (.map #[] 0)).putObj (w3.heap.size+1) o1).putObj (w3.heap.size+1) o2).putObj (w3.heap.size+1) o3):=Ao (Ao (Ao (((Below.refl _ w3).alloc nR _).alloc (by simp) _) (by omega) _) (by omega) _) (by omega) _
    have hwA:Bc w3.heap.size w3.heap.size (((((w3.alloc (.cells #[.slice none 0 0] 25)).alloc (.map #[] 0)).putObj (w3.heap.size+1) o1).putObj (w3.heap.size+1) o2).putObj (w3.heap.size+1) o3) []:=wordsAt_nil (by rw [hp _ (by omega)];simp only [World.alloc,Array.getElem?_push,Array.size_push];rw [if_neg (by omega),if_pos trivial])
    have hk4:=(hBW.block w.heap.size hl3).trans hk3.out
    have c4:=CB.out _ hk4
    have hXs:(((((w3.alloc (.cells #[.slice none 0 0] 25)).alloc (.map #[] 0)).putObj (w3.heap.size+1) o1).putObj (w3.heap.size+1) o2).putObj (w3.heap.size+1) o3).heap.size=w3.heap.size+1+1:=by simp
    clear hp um hkd c3
    replace hwA:=Lib.hid hwA
    replace hBW:=Lib.hid hBW
    replace hk4:=Lib.hid hk4
    replace hXs:=Lib.hid hXs
    go_wp2_with fail
    rw [← hXs.out]
    clear u1 u2 u3 ul c4 hmm hXs
    generalize (((((w3.alloc (.cells #[.slice none 0 0] 25)).alloc (.map #[] 0)).putObj (w3.heap.size+1) o1).putObj (w3.heap.size+1) o2).putObj (w3.heap.size+1) o3)=X at *
    have BX:∀ (W W':World),Below w3.heap.size w3 W→Below w3.heap.size W W'→Below w3.heap.size w3 W'∧w3.heap.size≤W'.heap.size∧∀ i,W'.cell? ⟨w.heap.size,i,none⟩=#[.string ⟨m.id.toArray⟩,.string ⟨m.authority.toArray⟩,.int .i64 m.kind,.string ⟨m.target.toArray⟩,.int .i64 m.when_.op,.string ⟨m.when_.name.toArray⟩,.int .i64 m.when_.cmp,.int .i64 m.when_.n,.slice ak nk ck,.int .i64 m.start,.int .i64 m.until_,.int .i64 m.wind][i]?:=fun W W' h1 h2=>by
     have h3:=h1.trans h2
     exact⟨h3,h3.size,CB.out W' ((h3.block w.heap.size hl3).trans hk3.out)⟩
    replace BX:=Lib.hid BX
    refine (addB_any _ [kw] [] w3.heap.size w3.heap.size X hwA.out (by simp) 1 rfl _ rfl).mono ?_
    rintro e w4 ⟨rfl,hA4,hb4,_⟩
    obtain⟨hB4,hs4,c4⟩:=BX.out _ _ hBW.out ((((Below.refl _ X).alloc hBW.out.size _)).trans hb4)
    obtain⟨L4,hL4⟩:∃ L,Hid (addB true [] [kw]=L):=⟨_,Lib.hid rfl⟩
    rw [hL4.out] at hA4
    replace hA4:=Lib.hid hA4
    replace hB4:=Lib.hid hB4
    have hn4:L4.length≤1:=by rw [← hL4.out];simp [addB]
    clear hb4 hwA hBW hk4
    go_wp2_with fail
    refine (addB_any _ [m.target] L4 w3.heap.size w3.heap.size w4 hA4.out (by simp;omega) 1 rfl _ rfl).mono ?_
    rintro e w5 ⟨rfl,hA5,hb5,_⟩
    obtain⟨hB5,hs5,c5⟩:=BX.out _ _ hB4.out ((((Below.refl _ w4).alloc hB4.out.size _)).trans hb5)
    obtain⟨L5,hL5⟩:∃ L,Hid (addB (!List.isEmpty m.target) L4 [m.target]=L):=⟨_,Lib.hid rfl⟩
    rw [hL5.out] at hA5
    replace hA5:=Lib.hid hA5
    replace hB5:=Lib.hid hB5
    have hn5:L5.length≤2:=by rw [← hL5.out];exact nT (addB_len _ _ _) (by simp only [List.length_cons,List.length_nil];omega)
    clear hb5 c4 hA4
    go_wp2_with fail
    refine (addB_any _ [m.id,([111,102]:List UInt8),m.authority] L5 w3.heap.size w3.heap.size w5 hA5.out (by simp;omega) 3 rfl _ rfl).mono ?_
    rintro e w6 ⟨rfl,hA6,hb6,_⟩
    obtain⟨hB6,hs6,c6⟩:=BX.out _ _ hB5.out ((((Below.refl _ w5).alloc hB5.out.size _)).trans hb6)
    obtain⟨L6,hL6⟩:∃ L,Hid (addB true L5 [m.id,([111,102]:List UInt8),m.authority]=L):=⟨_,Lib.hid rfl⟩
    rw [hL6.out] at hA6
    replace hA6:=Lib.hid hA6
    replace hB6:=Lib.hid hB6
    have hn6:L6.length≤5:=by rw [← hL6.out];exact nT (addB_len _ _ _) (by simp only [List.length_cons,List.length_nil];omega)
    clear hb6 c5 hA5
    go_wp2_with fail
    refine (addB_any _ [([105,102]:List UInt8),t] L6 w3.heap.size w3.heap.size w6 hA6.out (by simp;omega) 2 rfl _ rfl).mono ?_
    rintro e w7 ⟨rfl,hA7,hb7,_⟩
    obtain⟨hB7,hs7,c7⟩:=BX.out _ _ hB6.out ((((Below.refl _ w6).alloc hB6.out.size _)).trans hb7)
    obtain⟨L7,hL7⟩:∃ L,Hid (addB (m.when_.op != 1) L6 [([105,102]:List UInt8),t]=L):=⟨_,Lib.hid rfl⟩
    rw [hL7.out] at hA7
    replace hA7:=Lib.hid hA7
    replace hB7:=Lib.hid hB7
    have hn7:L7.length≤7:=by rw [← hL7.out];exact nT (addB_len _ _ _) (by simp only [List.length_cons,List.length_nil];omega)
    clear hb7 c6 hA6
    have hGW:∀ W,Below w3.heap.size w3 W→Gl W:=fun W hb=>hG.below (hB3.trans (hb.mono hB3.size))
    have hnums:=hM.out.nums
    have I1:=Lib.hid fun (W:World) (hg:Gl W)=>Ce m.start W hnums.s.1 hnums.s.2 hg
    have I2:=Lib.hid fun (W:World) (hg:Gl W)=>Ce m.until_ W hnums.u.1 hnums.u.2 hg
    have I3:=Lib.hid fun (W:World) (hg:Gl W)=>Ce m.wind W hnums.w.1 hnums.w.2 hg
    clear hnums
    replace hGW:=Lib.hid hGW
    go_wp2_with fail
    refine (I1.out _ (hGW.out _ hB7.out)).mono ?_
    rintro e w7b ⟨rfl,hb7b⟩
    clear I1
    go_wp2_with fail
    refine (addB_any _ [([102,114,111,109]:List UInt8),Lib.itoa m.start] L7 w3.heap.size w3.heap.size w7b (hA7.out.below hb7b) (by simp;omega) 2 rfl _ rfl).mono ?_
    rintro e w8 ⟨rfl,hA8,hb8,_⟩
    obtain⟨hB8,hs8,c8⟩:=BX.out _ _ (hB7.out.trans (hb7b.mono hB7.out.size)) ((((Below.refl _ w7b).alloc (hB7.out.trans (hb7b.mono hB7.out.size)).size _)).trans hb8)
    obtain⟨L8,hL8⟩:∃ L,Hid (addB true L7 [([102,114,111,109]:List UInt8),Lib.itoa m.start]=L):=⟨_,Lib.hid rfl⟩
    rw [hL8.out] at hA8
    replace hA8:=Lib.hid hA8
    replace hB8:=Lib.hid hB8
    have hn8:L8.length≤9:=by rw [← hL8.out];exact nT (addB_len _ _ _) (by simp only [List.length_cons,List.length_nil];omega)
    clear hb8 c7 hA7
    have SS9:∀ W',Below w3.heap.size w8 W'→W'.cell? ⟨w.heap.size,10,none⟩=some (.int .i64 m.until_):=fun W' hb=>(hb.cell (p:=⟨w.heap.size,10,none⟩) hl3).trans (c8 10)
    have hD9:Below w3.heap.size w8 w8.drew:=(Below.refl _ w8).drew
    have hGd9:=hGW.out _ (hB8.out.trans hD9)
    have hAd9:=hA8.out.below (Below.refl w8.heap.size w8).drew
    replace SS9:=Lib.hid SS9
    replace hAd9:=Lib.hid hAd9
    go_wp2_with fail
    go_region_held3 (fun W'=>W'.cell? ⟨w.heap.size,10,none⟩=some (.int .i64 m.until_)) ((refine SS9.out _ ?_;first|exact hU9|exact hT9.alloc hV9 _|exact hT9|exact hD9)) (first
     |(go_at_call 81;refine (I2.out _ hGd9).mono ?_;rintro e wI9 ⟨rfl,hbI9⟩;have hT9:Below w3.heap.size w8 wI9:=hD9.trans (hbI9.mono (by simp;exact hs8));have hV9:w3.heap.size≤wI9.heap.size:=by (have:=hT9.size;omega))
     |(go_at_call 87;refine (addB_any _ [([117,110,116,105,108]:List UInt8),Lib.itoa m.until_] L8 w3.heap.size w3.heap.size wI9 (hAd9.out.below hbI9) (by simp;omega) 2 rfl _ rfl).mono ?_;rintro e w9 ⟨rfl,hA9,hb9,_⟩;have hU9:Below w3.heap.size w8 w9:=(hT9.alloc hV9 _).trans hb9))
    obtain⟨hB9,hs9,c9⟩:=BX.out _ _ hB8.out hU9
    obtain⟨L9,hL9⟩:∃ L,Hid (addB (decide (0≤m.until_)) L8 [([117,110,116,105,108]:List UInt8),Lib.itoa m.until_]=L):=⟨_,Lib.hid rfl⟩
    rw [hL9.out] at hA9
    replace hA9:=Lib.hid hA9
    replace hB9:=Lib.hid hB9
    have hn9:L9.length≤11:=by rw [← hL9.out];exact nT (addB_len _ _ _) (by simp only [List.length_cons,List.length_nil];omega)
    clear hb9 c8 hA8 hU9 hT9 hbI9 hAd9 hGd9 I2
    have SS10:∀ W',Below w3.heap.size w9 W'→W'.cell? ⟨w.heap.size,11,none⟩=some (.int .i64 m.wind):=fun W' hb=>(hb.cell (p:=⟨w.heap.size,11,none⟩) hl3).trans (c9 11)
    have hD10:Below w3.heap.size w9 w9.drew:=(Below.refl _ w9).drew
    have hGd10:=hGW.out _ (hB9.out.trans hD10)
    have hAd10:=hA9.out.below (Below.refl w9.heap.size w9).drew
    replace SS10:=Lib.hid SS10
    replace hAd10:=Lib.hid hAd10
    go_wp2_with fail
    go_region_held3 (fun W'=>W'.cell? ⟨w.heap.size,11,none⟩=some (.int .i64 m.wind)) ((refine SS10.out _ ?_;first|exact hU10|exact hT10.alloc hV10 _|exact hT10|exact hD10)) (first
     |(go_at_call 81;refine (I3.out _ hGd10).mono ?_;rintro e wI10 ⟨rfl,hbI10⟩;have hT10:Below w3.heap.size w9 wI10:=hD10.trans (hbI10.mono (by simp;exact hs9));have hV10:w3.heap.size≤wI10.heap.size:=by (have:=hT10.size;omega))
     |(go_at_call 87;refine (addB_any _ [([119,105,110,100]:List UInt8),Lib.itoa m.wind] L9 w3.heap.size w3.heap.size wI10 (hAd10.out.below hbI10) (by simp;omega) 2 rfl _ rfl).mono ?_;rintro e w10 ⟨rfl,hA10,hb10,_⟩;have hU10:Below w3.heap.size w9 w10:=(hT10.alloc hV10 _).trans hb10))
    obtain⟨hB10,hs10,c10⟩:=BX.out _ _ hB9.out hU10
    obtain⟨L10,hL10⟩:∃ L,Hid (addB (decide (0<m.wind)) L9 [([119,105,110,100]:List UInt8),Lib.itoa m.wind]=L):=⟨_,Lib.hid rfl⟩
    rw [hL10.out] at hA10
    replace hA10:=Lib.hid hA10
    replace hB10:=Lib.hid hB10
    have hn10:L10.length≤13:=by rw [← hL10.out];exact nT (addB_len _ _ _) (by simp only [List.length_cons,List.length_nil];omega)
    clear hb10 c9 hA9 hU10 hT10 hbI10 hAd10 hGd10 I3
    obtain⟨v,hv,hO,_,_⟩:=hA10.out
    obtain⟨av,cv,rfl,_,_,_⟩:=hO.form
    have c11:w10.cell? ⟨w3.heap.size,0,none⟩=some (.slice av L10.length cv):=cell_of hv 0
    have hL:L10=Bw m t:=by
     have te:=Ck m.target
     rw [← hL10.out,← hL9.out,← hL8.out,← hL7.out,← hL6.out,← hL5.out,← hL4.out,← hkw.out]
     unfold Bw
     rw [te,Bool.not_not]
    have htl:=formulaText_len hft hM.out.short
    have hAll:AllLe 6000000 L10:=by
     rw [hL]
     have i1:=Lib.itoa_length_le m.start hM.out.nums.s.1 hM.out.nums.s.2
     have i2:=Lib.itoa_length_le m.until_ hM.out.nums.u.1 hM.out.nums.u.2
     have i3:=Lib.itoa_length_le m.wind hM.out.nums.w.1 hM.out.nums.w.2
     have hid:=hM.out.id
     have hau:=hM.out.authority
     have htg:=hM.out.target
     have hkl:(CH.measureWord m.kind).length≤6:=by (unfold CH.measureWord;repeat' split);all_goals decide
     unfold Bw
     exact AllLe.addB (AllLe.addB (AllLe.addB (AllLe.addB (AllLe.addB (AllLe.addB (AllLe.addB (fun _ h=>by cases h) (.one (by omega))) (.one (by omega))) (.cons (by omega) (.cons (by simp) (.one (by omega))))) (.cons (by simp) (.one (by omega)))) (.cons (by simp) (.one (by omega)))) (.cons (by simp) (.one (by omega)))) (.cons (by simp) (.one (by omega)))
    have hjl:(CH.join [32] L10).length≤100000000:=by
     have:=Ej [32] 6000000 L10 hAll
     have h13:L10.length*(6000000+[(32:UInt8)].length)≤13*(6000000+1):=Nat.mul_le_mul_right _ hn10
     omega
    have J:=Lib.hid (D5 _ L10 [32] w10 hO.strs (by omega) (by omega))
    have hRf:Hid (R=textV (some (CH.join [32] L10++[59]))):=Lib.hid (by rw [hRe.out,hL];rfl)
    generalize CH.join [32] L10=JJ at *
    generalize L10.length=LL at *
    have l1:¬ (9223372036854775807<JJ.length+1):=by omega
    clear hO hv hAll hL hRe hA10 c10
    go_wp2_with fail
    refine J.out.mono ?_
    rintro e w11 ⟨rfl,hb11⟩
    clear J c11
    go_wp2
    refine bodyPost_ret (results_tmp2 rfl _ _ _) rfl ?_
    have hB10':Below w.heap.size w w10:=hB3.trans (hB10.out.mono hB3.size)
    refine⟨?_,hB10'.trans (hb11.mono hB10'.size)⟩
    rw [hRf.out]
    unfold textV
    dsimp only
    rw [← bytes_append]
    rfl
theorem listText_any (vn:Value) (c:CH.Change) (w:World) (hG:Gc w) (hv:Cc w.heap.size w vn c.entry.names) (hS:ChangeSmall c) (hp0:-9223372036854775808≤c.pos) (hp1:c.pos≤9223372036854775807) :
  Calls prog 37 #[.agg (A4 c vn).toArray] w (Ret w (textV (CH.changeText c))):=by
 obtain⟨r,hr⟩:∃ r,Hid (textV (CH.changeText c)=r):=⟨_,hid rfl⟩
 rw [hr.out]
 have hB0:=fun o=>(Below.refl _ w).alloc nR o
 have hW:=fun o=>heap_alloc_last w o
 have F:=fun (w':World) (hb:Below w.heap.size w w')=>formed_any vn c w' (hG.below hb) ((hv.below hb nR).mono hb.size) hS
 obtain⟨an,cn,rfl,hcn1,hcn2⟩:=hv.form
 generalize hN:c.entry.names.length=N at *
 dsimp only [A4] at F ⊢
 cases hok:CH.changeOk c with
 | false =>
  rw [hok] at F
  have F:=hid F
  go_enter func37,ntmps37
  go_wp2_with fail
  refine (F.out _ (hB0 _)).mono ?_
  rintro e w1 ⟨rfl,hb1⟩
  clear F
  go_wp2
  refine bodyPost_ret (results_tmp2 rfl _ _ _) rfl ?_
  exact⟨by rw [← hr.out];unfold CH.changeText;rw [hok];rfl,(hB0 _).trans (hb1.mono (by simp))⟩
 | true =>
  rw [hok] at F
  have F:=hid F
  have hk:=kind_of_ok hok
  go_enter func37,ntmps37
  go_wp2_with fail
  refine (F.out _ (hB0 _)).mono ?_
  rintro e w1 ⟨rfl,hb1⟩
  clear F
  have hB1:Below w.heap.size w w1:=(hB0 _).trans (hb1.mono (by simp))
  have hblk:=(hb1.block w.heap.size (by simp)).trans (hW _)
  have hlt1:w.heap.size<w1.heap.size:=(aZ hblk)
  clear hb1 hW hB0
  have HB:=hid hblk
  obtain⟨kn,hkn,hkn1,hkn4⟩:∃ kn:Nat,c.kind=kn∧1≤kn∧kn≤4:=⟨c.kind.toNat,by omega,by omega,by omega⟩
  have k0:w1.cell? ⟨w.heap.size,0,none⟩=some (.int .i64 kn):=by rw [← hkn];exact cell_of hblk 0
  have k1:w1.cell? ⟨w.heap.size,1,none⟩=some (.string ⟨c.id.toArray⟩):=cell_of hblk 1
  clear hblk
  go_wp2_with fail
  have SS:∀ W',Below w1.heap.size w1 W'→W'.cell? ⟨w.heap.size,0,none⟩=some (.int .i64 kn)∧W'.cell? ⟨w.heap.size,1,none⟩=some (.string ⟨c.id.toArray⟩):=fun W' hb=>⟨(hb.cell (p:=⟨w.heap.size,0,none⟩) hlt1).trans k0,(hb.cell (p:=⟨w.heap.size,1,none⟩) hlt1).trans k1⟩
  obtain⟨kw,hkw⟩:∃ kw,Hid (CH.kindWord c.kind=kw):=⟨_,hid rfl⟩
  have hkc:∀ (W':World),(W'.alloc (.cells #[.string ⟨#[]⟩,.string ⟨([97,100,100]:List UInt8).toArray⟩,.string ⟨([114,101,109,111,118,101]:List UInt8).toArray⟩,.string ⟨([99,111,114,114,101,99,116]:List UInt8).toArray⟩,.string ⟨([118,111,105,100]:List UInt8).toArray⟩] 9)).cell? ⟨W'.heap.size,kn,none⟩=some (.string ⟨kw.toArray⟩):=fun W'=>by
   rw [World.cell?_alloc_mark,← hkw.out,hkn]
   rcases (by omega:kn=1∨kn=2∨kn=3∨kn=4) with rfl|rfl|rfl|rfl <;> rfl
  have hBd:Below w1.heap.size w1 w1.drew:=(Below.refl _ w1).drew
  have k0d:=fun o=>(SS _ (hBd.alloc nR o))
  have hkc1:∀ (W':World) o,((W'.alloc (.cells #[.string ⟨#[]⟩,.string ⟨([97,100,100]:List UInt8).toArray⟩,.string ⟨([114,101,109,111,118,101]:List UInt8).toArray⟩,.string ⟨([99,111,114,114,101,99,116]:List UInt8).toArray⟩,.string ⟨([118,111,105,100]:List UInt8).toArray⟩] 9)).alloc o).cell? ⟨W'.heap.size,kn,none⟩=some (.string ⟨kw.toArray⟩):=fun W' o=>by
   rw [World.cell?_alloc_some _ _ _ (by rw [hkc];rfl)];exact hkc W'
  have hkc2:∀ o,((w1.alloc o).alloc (.cells #[.string ⟨#[]⟩,.string ⟨([97,100,100]:List UInt8).toArray⟩,.string ⟨([114,101,109,111,118,101]:List UInt8).toArray⟩,.string ⟨([99,111,114,114,101,99,116]:List UInt8).toArray⟩,.string ⟨([118,111,105,100]:List UInt8).toArray⟩] 9)).cell? ⟨w1.heap.size+1,kn,none⟩=some (.string ⟨kw.toArray⟩):=fun o=>by
   have:=hkc (w1.alloc o)
   rwa [World.size_alloc] at this
  rename_i K hK
  have TAIL:∀ (P:Nat) (v13 v16 v20:Value) (X:World),Bc w1.heap.size P X [kw,c.id]→Below w1.heap.size w1 X→K { tmps:=#[.agg #[.int .i64 kn,.string ⟨c.id.toArray⟩,.string ⟨c.entry.id.toArray⟩,.slice an N cn,.int .i64 c.pos],.pointer (some ⟨w.heap.size,0,none⟩),.string ⟨#[]⟩,.int .i64 0,.pointer (some ⟨P,0,none⟩),undef,undef,undef,undef,undef,.agg #[.int .i64 kn,.string ⟨c.id.toArray⟩,.string ⟨c.entry.id.toArray⟩,.slice an N cn,.int .i64 c.pos],.bool true,.bool false,v13,.pointer (some ⟨w.heap.size,0,none⟩),.int .i64 kn,v16,.string ⟨kw.toArray⟩,.pointer (some ⟨w.heap.size,1,none⟩),.string ⟨c.id.toArray⟩,v20,undef,undef,undef,undef,undef,undef,undef,undef,undef,undef,undef,undef,undef,undef,undef,undef,undef,undef,undef,undef,undef,undef,undef,undef,undef,undef,undef,undef,undef,undef,undef,undef,undef,undef,undef,undef,undef,undef],defers:=[] } X:=by
   intro P v13 v16 v20 X hA hBX
   refine hK _ _ ?_
   clear hkc hkc1 hkc2 k0d SS
   have m0:X.cell? ⟨w.heap.size,0,none⟩=some (.int .i64 kn):=(hBX.cell (p:=⟨w.heap.size,0,none⟩) hlt1).trans k0
   have m3:X.cell? ⟨w.heap.size,3,none⟩=some (.slice an N cn):=(hBX.cell (p:=⟨w.heap.size,3,none⟩) hlt1).trans (cell_of HB.out 3)
   have m4:X.cell? ⟨w.heap.size,4,none⟩=some (.int .i64 c.pos):=(hBX.cell (p:=⟨w.heap.size,4,none⟩) hlt1).trans (cell_of HB.out 4)
   have hitl:=Lib.itoa_length_le c.pos hp0 hp1
   have hkl:kw.length≤1000000000100:=by rw [← hkw.out];exact nT (kindWord_len _) (by decide)
   have hidl:Hid (c.id.length≤1000000000100):=hid (by have:=hS.id;omega)
   have hitl:Hid ((Lib.itoa c.pos).length≤1000000000100):=hid (by omega)
   replace hkl:=hid hkl
   rcases (by omega:kn=1∨kn=2∨kn=3∨kn=4) with e|e|e|e
   ·subst e
    go_wp2_with fail
    refine (Ce c.pos X hp0 hp1 (hG.1.below (hB1.trans (hBX.mono hB1.size)))).mono ?_
    rintro e w2 ⟨rfl,hb2⟩
    have hA2:=hA.below hb2
    have hB2:Below w1.heap.size w1 w2:=hBX.trans (hb2.mono hBX.size)
    go_wp2_with fail
    refine (Df _ [Lib.itoa c.pos] [kw,c.id] w1.heap.size P _ _ (hA2.alloc _) (Eo w2 [Lib.itoa c.pos] (by simp)).strs (by simp)).mono ?_
    rintro e w3 ⟨rfl,hA3,hb3,hs3⟩
    have hB3:Below w1.heap.size w1 w3:=(hB2.alloc hB2.size _).trans hb3
    have m33:w3.cell? ⟨w.heap.size,3,none⟩=some (.slice an N cn):=(hB3.cell (p:=⟨w.heap.size,3,none⟩) hlt1).trans (cell_of HB.out 3)
    obtain⟨pre,hpre⟩:∃ pre,Hid (pre=[kw,c.id,Lib.itoa c.pos]):=⟨_,hid rfl⟩
    have hA3:Bc w1.heap.size P w3 pre:=by rw [hpre.out];exact hA3
    clear hA hA2 m0 m3 m4
    have hNp:N≤8:=by rw [← hN];exact Cd hok
    have hpl:pre.length≤3:=by rw [hpre.out];simp
    go_wp2_with fail
    go_loopw [40] (fun iv wr=>∃ j:Nat,j≤N∧iv=.int .i64 j∧Hid (Bc w1.heap.size P wr (pre++(c.entry.names.take j).map quoted))∧Hid (Below w1.heap.size w1 wr)) (fun iv _=>N - (RowKit.intOf iv).toNat)
    case atStart=>exact⟨0,Nat.zero_le _,rfl,hid (by simpa using hA3),hid hB3⟩
    case round =>
     obtain⟨j,hj,rfl,hA4,hB4⟩:=hrel
     have hBw:Below w.heap.size w wr:=hB1.trans (hB4.out.mono hB1.size)
     by_cases hlt:j<N
     ·obtain⟨x,hx⟩:∃ x,c.entry.names[j]?=some x:=⟨_,lZ (by rw [hN];omega)⟩
      obtain⟨a',c',e',_,_,hcs⟩:=hv
      injection e' with ea eb ec
      clear eb
      subst ea ec
      obtain⟨bb,off,rfl,hblt,hcs⟩:=hcs (fun e=>by rw [e] at hN;simp at hN;omega)
      obtain⟨vw,d1,d2,d3⟩:=hcs j x hx
      have e1:=(hBw.cell (p:=⟨bb,off+j*2,none⟩) hblt).trans d1
      have e2:=(hBw.cell (p:=⟨bb,off+j*2+1,none⟩) hblt).trans d2
      have hmem:x∈c.entry.names:=List.mem_of_getElem? hx
      have NT:=hid fun (W:World) (hb:Below w.heap.size w W)=>Ep [intV x.script,vw] x W (hG.below hb) ⟨vw,rfl,(d3.below hb nR).mono hb.size⟩ (hS.entry.names x hmem) (Ei hok x hmem)
      have htl:=Dz x (hS.entry.names x hmem)
      have hts:Hid ((c.entry.names.take (j+1)).map quoted=(c.entry.names.take j).map quoted++[[34]++CH.nameText x++[34]]):=hid (by rw [CH.take_snoc_at _ j x hx];simp [quoted])
      obtain⟨aw,cw,rfl,_,_⟩:=d3.form
      generalize x.words.length=xn at *
      generalize CH.nameText x=T at *
      have ht0:((c.entry.names.take j).map quoted).length≤8:=by simp;omega
      replace hBw:=hid hBw
      clear hcs d1 d2 d3 hmem hx
      have l1:¬ (9223372036854775807<1+T.length):=by omega
      have l2:¬ (9223372036854775807<1+T.length+1):=by omega
      clear htl
      go_wp2_with fail
      refine (NT.out _ (hBw.out.alloc hBw.out.size _)).mono ?_
      rintro e w5 ⟨rfl,hb5⟩
      have hA5:=hid ((hA4.out.alloc _).below hb5)
      have hB5:Hid (Below w1.heap.size w1 w5):=hid ((hB4.out.alloc hB4.out.size _).trans (hb5.mono (by simp;have:=hB4.out.size;omega)))
      clear NT hb5 e1 e2
      go_wp2_with fail
      rw [show (⟨#[34]⟩:ByteArray)++⟨T.toArray⟩++⟨#[34]⟩=⟨([34]++T++[34]).toArray⟩ from by rw [← bytes_append,← bytes_append]]
      refine (Df _ [[34]++T++[34]] (pre++(c.entry.names.take j).map quoted) w1.heap.size P _ _ (hA5.out.alloc _) (Eo w5 [[34]++T++[34]] (by simp)).strs (by rw [List.length_append];simp only [List.length_cons,List.length_nil];omega)).mono ?_
      rintro e w6 ⟨rfl,hA6,hb6,hs6⟩
      have hA6:Hid (Bc w1.heap.size P w6 (pre++(c.entry.names.take (j+1)).map quoted)):=hid (by rw [hts.out,← List.append_assoc];exact hA6)
      have hB6:Hid (Below w1.heap.size w1 w6):=hid ((hB5.out.alloc hB5.out.size _).trans hb6)
      clear hA5 hB5 hb6 hA4 hB4
      go_wp2
      go_roundw
      case rel=>exact⟨j+1,by omega,by go_num,hA6,hB6⟩
      case measure=>simp [RowKit.intOf];omega
     ·obtain rfl:j=N:=by omega
      have htk:c.entry.names.take j=c.entry.names:=by rw [← hN,List.take_length]
      rw [htk] at hA4
      clear htk
      obtain⟨v,hv4,hO,_,_⟩:=hA4.out
      obtain⟨av,cv,rfl,_,_,_⟩:=hO.form
      have c11:wr.cell? ⟨P,0,none⟩=some (.slice av (pre++c.entry.names.map quoted).length cv):=cell_of hv4 0
      have hll:(pre++c.entry.names.map quoted).length≤11:=by rw [List.length_append,List.length_map,hN];omega
      have hjl:=D6 c hok hS.entry.names pre hpl (by rw [hpre.out];exact .cons hkl.out (.cons hidl.out (.one hitl.out)))
      have J:=hid (D5 _ (pre++c.entry.names.map quoted) [32] wr hO.strs (by omega) (by omega))
      have hRf:Hid (r=textV (some (CH.join [32] (pre++c.entry.names.map quoted)++[59]))):=hid (by rw [← hr.out,hpre.out,← hkw.out,hkn];unfold CH.changeText;rw [hok,hkn];rfl)
      generalize CH.join [32] (pre++c.entry.names.map quoted)=JJ at *
      generalize (pre++c.entry.names.map quoted).length=LL at *
      have l1:¬ (9223372036854775807<JJ.length+1):=by omega
      clear hjl
      clear hO hv4 hA4
      go_wp2_with fail
      refine J.out.mono ?_
      rintro e w7 ⟨rfl,hb7⟩
      clear J c11
      go_wp2
      refine bodyPost_ret (results_tmp2 rfl _ _ _) rfl ?_
      refine⟨?_,hBw.trans (hb7.mono hBw.size)⟩
      rw [hRf.out]
      unfold textV
      dsimp only
      rw [← bytes_append]
      rfl
   ·subst e
    go_wp2_with fail
    refine (Ce c.pos X hp0 hp1 (hG.1.below (hB1.trans (hBX.mono hB1.size)))).mono ?_
    rintro e w2 ⟨rfl,hb2⟩
    have hA2:=hA.below hb2
    have hB2:Below w1.heap.size w1 w2:=hBX.trans (hb2.mono hBX.size)
    go_wp2_with fail
    refine (Df _ [Lib.itoa c.pos] [kw,c.id] w1.heap.size P _ _ (hA2.alloc _) (Eo w2 [Lib.itoa c.pos] (by simp)).strs (by simp)).mono ?_
    rintro e w3 ⟨rfl,hA3,hb3,hs3⟩
    have hB3:Below w1.heap.size w1 w3:=(hB2.alloc hB2.size _).trans hb3
    have m33:w3.cell? ⟨w.heap.size,3,none⟩=some (.slice an N cn):=(hB3.cell (p:=⟨w.heap.size,3,none⟩) hlt1).trans (cell_of HB.out 3)
    obtain⟨pre,hpre⟩:∃ pre,Hid (pre=[kw,c.id,Lib.itoa c.pos]):=⟨_,hid rfl⟩
    have hA3:Bc w1.heap.size P w3 pre:=by rw [hpre.out];exact hA3
    clear hA hA2 m0 m3 m4
    have hNp:N≤8:=by rw [← hN];exact Cd hok
    have hpl:pre.length≤3:=by rw [hpre.out];simp
    go_wp2_with fail
    go_loopw [40] (fun iv wr=>∃ j:Nat,j≤N∧iv=.int .i64 j∧Hid (Bc w1.heap.size P wr (pre++(c.entry.names.take j).map quoted))∧Hid (Below w1.heap.size w1 wr)) (fun iv _=>N - (RowKit.intOf iv).toNat)
    case atStart=>exact⟨0,Nat.zero_le _,rfl,hid (by simpa using hA3),hid hB3⟩
    case round =>
     obtain⟨j,hj,rfl,hA4,hB4⟩:=hrel
     have hBw:Below w.heap.size w wr:=hB1.trans (hB4.out.mono hB1.size)
     by_cases hlt:j<N
     ·obtain⟨x,hx⟩:∃ x,c.entry.names[j]?=some x:=⟨_,lZ (by rw [hN];omega)⟩
      obtain⟨a',c',e',_,_,hcs⟩:=hv
      injection e' with ea eb ec
      clear eb
      subst ea ec
      obtain⟨bb,off,rfl,hblt,hcs⟩:=hcs (fun e=>by rw [e] at hN;simp at hN;omega)
      obtain⟨vw,d1,d2,d3⟩:=hcs j x hx
      have e1:=(hBw.cell (p:=⟨bb,off+j*2,none⟩) hblt).trans d1
      have e2:=(hBw.cell (p:=⟨bb,off+j*2+1,none⟩) hblt).trans d2
      have hmem:x∈c.entry.names:=List.mem_of_getElem? hx
      have NT:=hid fun (W:World) (hb:Below w.heap.size w W)=>Ep [intV x.script,vw] x W (hG.below hb) ⟨vw,rfl,(d3.below hb nR).mono hb.size⟩ (hS.entry.names x hmem) (Ei hok x hmem)
      have htl:=Dz x (hS.entry.names x hmem)
      have hts:Hid ((c.entry.names.take (j+1)).map quoted=(c.entry.names.take j).map quoted++[[34]++CH.nameText x++[34]]):=hid (by rw [CH.take_snoc_at _ j x hx];simp [quoted])
      obtain⟨aw,cw,rfl,_,_⟩:=d3.form
      generalize x.words.length=xn at *
      generalize CH.nameText x=T at *
      have ht0:((c.entry.names.take j).map quoted).length≤8:=by simp;omega
      replace hBw:=hid hBw
      clear hcs d1 d2 d3 hmem hx
      have l1:¬ (9223372036854775807<1+T.length):=by omega
      have l2:¬ (9223372036854775807<1+T.length+1):=by omega
      clear htl
      go_wp2_with fail
      refine (NT.out _ (hBw.out.alloc hBw.out.size _)).mono ?_
      rintro e w5 ⟨rfl,hb5⟩
      have hA5:=hid ((hA4.out.alloc _).below hb5)
      have hB5:Hid (Below w1.heap.size w1 w5):=hid ((hB4.out.alloc hB4.out.size _).trans (hb5.mono (by simp;have:=hB4.out.size;omega)))
      clear NT hb5 e1 e2
      go_wp2_with fail
      rw [show (⟨#[34]⟩:ByteArray)++⟨T.toArray⟩++⟨#[34]⟩=⟨([34]++T++[34]).toArray⟩ from by rw [← bytes_append,← bytes_append]]
      refine (Df _ [[34]++T++[34]] (pre++(c.entry.names.take j).map quoted) w1.heap.size P _ _ (hA5.out.alloc _) (Eo w5 [[34]++T++[34]] (by simp)).strs (by rw [List.length_append];simp only [List.length_cons,List.length_nil];omega)).mono ?_
      rintro e w6 ⟨rfl,hA6,hb6,hs6⟩
      have hA6:Hid (Bc w1.heap.size P w6 (pre++(c.entry.names.take (j+1)).map quoted)):=hid (by rw [hts.out,← List.append_assoc];exact hA6)
      have hB6:Hid (Below w1.heap.size w1 w6):=hid ((hB5.out.alloc hB5.out.size _).trans hb6)
      clear hA5 hB5 hb6 hA4 hB4
      go_wp2
      go_roundw
      case rel=>exact⟨j+1,by omega,by go_num,hA6,hB6⟩
      case measure=>simp [RowKit.intOf];omega
     ·obtain rfl:j=N:=by omega
      have htk:c.entry.names.take j=c.entry.names:=by rw [← hN,List.take_length]
      rw [htk] at hA4
      clear htk
      obtain⟨v,hv4,hO,_,_⟩:=hA4.out
      obtain⟨av,cv,rfl,_,_,_⟩:=hO.form
      have c11:wr.cell? ⟨P,0,none⟩=some (.slice av (pre++c.entry.names.map quoted).length cv):=cell_of hv4 0
      have hll:(pre++c.entry.names.map quoted).length≤11:=by rw [List.length_append,List.length_map,hN];omega
      have hjl:=D6 c hok hS.entry.names pre hpl (by rw [hpre.out];exact .cons hkl.out (.cons hidl.out (.one hitl.out)))
      have J:=hid (D5 _ (pre++c.entry.names.map quoted) [32] wr hO.strs (by omega) (by omega))
      have hRf:Hid (r=textV (some (CH.join [32] (pre++c.entry.names.map quoted)++[59]))):=hid (by rw [← hr.out,hpre.out,← hkw.out,hkn];unfold CH.changeText;rw [hok,hkn];rfl)
      generalize CH.join [32] (pre++c.entry.names.map quoted)=JJ at *
      generalize (pre++c.entry.names.map quoted).length=LL at *
      have l1:¬ (9223372036854775807<JJ.length+1):=by omega
      clear hjl
      clear hO hv4 hA4
      go_wp2_with fail
      refine J.out.mono ?_
      rintro e w7 ⟨rfl,hb7⟩
      clear J c11
      go_wp2
      refine bodyPost_ret (results_tmp2 rfl _ _ _) rfl ?_
      refine⟨?_,hBw.trans (hb7.mono hBw.size)⟩
      rw [hRf.out]
      unfold textV
      dsimp only
      rw [← bytes_append]
      rfl
   ·subst e
    obtain⟨pre,hpre⟩:∃ pre,Hid (pre=[kw,c.id]):=⟨_,hid rfl⟩
    have hA3:Bc w1.heap.size P X pre:=by rw [hpre.out];exact hA
    have hB3:Below w1.heap.size w1 X:=hBX
    clear hA m4
    have hNp:N≤8:=by rw [← hN];exact Cd hok
    have hpl:pre.length≤3:=by rw [hpre.out];simp
    go_wp2_with fail
    go_loopw [40] (fun iv wr=>∃ j:Nat,j≤N∧iv=.int .i64 j∧Hid (Bc w1.heap.size P wr (pre++(c.entry.names.take j).map quoted))∧Hid (Below w1.heap.size w1 wr)) (fun iv _=>N - (RowKit.intOf iv).toNat)
    case atStart=>exact⟨0,Nat.zero_le _,rfl,hid (by simpa using hA3),hid hB3⟩
    case round =>
     obtain⟨j,hj,rfl,hA4,hB4⟩:=hrel
     have hBw:Below w.heap.size w wr:=hB1.trans (hB4.out.mono hB1.size)
     by_cases hlt:j<N
     ·obtain⟨x,hx⟩:∃ x,c.entry.names[j]?=some x:=⟨_,lZ (by rw [hN];omega)⟩
      obtain⟨a',c',e',_,_,hcs⟩:=hv
      injection e' with ea eb ec
      clear eb
      subst ea ec
      obtain⟨bb,off,rfl,hblt,hcs⟩:=hcs (fun e=>by rw [e] at hN;simp at hN;omega)
      obtain⟨vw,d1,d2,d3⟩:=hcs j x hx
      have e1:=(hBw.cell (p:=⟨bb,off+j*2,none⟩) hblt).trans d1
      have e2:=(hBw.cell (p:=⟨bb,off+j*2+1,none⟩) hblt).trans d2
      have hmem:x∈c.entry.names:=List.mem_of_getElem? hx
      have NT:=hid fun (W:World) (hb:Below w.heap.size w W)=>Ep [intV x.script,vw] x W (hG.below hb) ⟨vw,rfl,(d3.below hb nR).mono hb.size⟩ (hS.entry.names x hmem) (Ei hok x hmem)
      have htl:=Dz x (hS.entry.names x hmem)
      have hts:Hid ((c.entry.names.take (j+1)).map quoted=(c.entry.names.take j).map quoted++[[34]++CH.nameText x++[34]]):=hid (by rw [CH.take_snoc_at _ j x hx];simp [quoted])
      obtain⟨aw,cw,rfl,_,_⟩:=d3.form
      generalize x.words.length=xn at *
      generalize CH.nameText x=T at *
      have ht0:((c.entry.names.take j).map quoted).length≤8:=by simp;omega
      replace hBw:=hid hBw
      clear hcs d1 d2 d3 hmem hx
      have l1:¬ (9223372036854775807<1+T.length):=by omega
      have l2:¬ (9223372036854775807<1+T.length+1):=by omega
      clear htl
      go_wp2_with fail
      refine (NT.out _ (hBw.out.alloc hBw.out.size _)).mono ?_
      rintro e w5 ⟨rfl,hb5⟩
      have hA5:=hid ((hA4.out.alloc _).below hb5)
      have hB5:Hid (Below w1.heap.size w1 w5):=hid ((hB4.out.alloc hB4.out.size _).trans (hb5.mono (by simp;have:=hB4.out.size;omega)))
      clear NT hb5 e1 e2
      go_wp2_with fail
      rw [show (⟨#[34]⟩:ByteArray)++⟨T.toArray⟩++⟨#[34]⟩=⟨([34]++T++[34]).toArray⟩ from by rw [← bytes_append,← bytes_append]]
      refine (Df _ [[34]++T++[34]] (pre++(c.entry.names.take j).map quoted) w1.heap.size P _ _ (hA5.out.alloc _) (Eo w5 [[34]++T++[34]] (by simp)).strs (by rw [List.length_append];simp only [List.length_cons,List.length_nil];omega)).mono ?_
      rintro e w6 ⟨rfl,hA6,hb6,hs6⟩
      have hA6:Hid (Bc w1.heap.size P w6 (pre++(c.entry.names.take (j+1)).map quoted)):=hid (by rw [hts.out,← List.append_assoc];exact hA6)
      have hB6:Hid (Below w1.heap.size w1 w6):=hid ((hB5.out.alloc hB5.out.size _).trans hb6)
      clear hA5 hB5 hb6 hA4 hB4
      go_wp2
      go_roundw
      case rel=>exact⟨j+1,by omega,by go_num,hA6,hB6⟩
      case measure=>simp [RowKit.intOf];omega
     ·obtain rfl:j=N:=by omega
      have htk:c.entry.names.take j=c.entry.names:=by rw [← hN,List.take_length]
      rw [htk] at hA4
      clear htk
      obtain⟨v,hv4,hO,_,_⟩:=hA4.out
      obtain⟨av,cv,rfl,_,_,_⟩:=hO.form
      have c11:wr.cell? ⟨P,0,none⟩=some (.slice av (pre++c.entry.names.map quoted).length cv):=cell_of hv4 0
      have hll:(pre++c.entry.names.map quoted).length≤11:=by rw [List.length_append,List.length_map,hN];omega
      have hjl:=D6 c hok hS.entry.names pre hpl (by rw [hpre.out];exact .cons hkl.out (.one hidl.out))
      have J:=hid (D5 _ (pre++c.entry.names.map quoted) [32] wr hO.strs (by omega) (by omega))
      have hRf:Hid (r=textV (some (CH.join [32] (pre++c.entry.names.map quoted)++[59]))):=hid (by rw [← hr.out,hpre.out,← hkw.out,hkn];unfold CH.changeText;rw [hok,hkn];rfl)
      generalize CH.join [32] (pre++c.entry.names.map quoted)=JJ at *
      generalize (pre++c.entry.names.map quoted).length=LL at *
      have l1:¬ (9223372036854775807<JJ.length+1):=by omega
      clear hjl
      clear hO hv4 hA4
      go_wp2_with fail
      refine J.out.mono ?_
      rintro e w7 ⟨rfl,hb7⟩
      clear J c11
      go_wp2
      refine bodyPost_ret (results_tmp2 rfl _ _ _) rfl ?_
      refine⟨?_,hBw.trans (hb7.mono hBw.size)⟩
      rw [hRf.out]
      unfold textV
      dsimp only
      rw [← bytes_append]
      rfl
   ·subst e
    obtain⟨pre,hpre⟩:∃ pre,Hid (pre=[kw,c.id]):=⟨_,hid rfl⟩
    have hA3:Bc w1.heap.size P X pre:=by rw [hpre.out];exact hA
    have hB3:Below w1.heap.size w1 X:=hBX
    clear hA m4
    have hNp:N≤8:=by rw [← hN];exact Cd hok
    have hpl:pre.length≤3:=by rw [hpre.out];simp
    go_wp2_with fail
    go_loopw [40] (fun iv wr=>∃ j:Nat,j≤N∧iv=.int .i64 j∧Hid (Bc w1.heap.size P wr (pre++(c.entry.names.take j).map quoted))∧Hid (Below w1.heap.size w1 wr)) (fun iv _=>N - (RowKit.intOf iv).toNat)
    case atStart=>exact⟨0,Nat.zero_le _,rfl,hid (by simpa using hA3),hid hB3⟩
    case round =>
     obtain⟨j,hj,rfl,hA4,hB4⟩:=hrel
     have hBw:Below w.heap.size w wr:=hB1.trans (hB4.out.mono hB1.size)
     by_cases hlt:j<N
     ·obtain⟨x,hx⟩:∃ x,c.entry.names[j]?=some x:=⟨_,lZ (by rw [hN];omega)⟩
      obtain⟨a',c',e',_,_,hcs⟩:=hv
      injection e' with ea eb ec
      clear eb
      subst ea ec
      obtain⟨bb,off,rfl,hblt,hcs⟩:=hcs (fun e=>by rw [e] at hN;simp at hN;omega)
      obtain⟨vw,d1,d2,d3⟩:=hcs j x hx
      have e1:=(hBw.cell (p:=⟨bb,off+j*2,none⟩) hblt).trans d1
      have e2:=(hBw.cell (p:=⟨bb,off+j*2+1,none⟩) hblt).trans d2
      have hmem:x∈c.entry.names:=List.mem_of_getElem? hx
      have NT:=hid fun (W:World) (hb:Below w.heap.size w W)=>Ep [intV x.script,vw] x W (hG.below hb) ⟨vw,rfl,(d3.below hb nR).mono hb.size⟩ (hS.entry.names x hmem) (Ei hok x hmem)
      have htl:=Dz x (hS.entry.names x hmem)
      have hts:Hid ((c.entry.names.take (j+1)).map quoted=(c.entry.names.take j).map quoted++[[34]++CH.nameText x++[34]]):=hid (by rw [CH.take_snoc_at _ j x hx];simp [quoted])
      obtain⟨aw,cw,rfl,_,_⟩:=d3.form
      generalize x.words.length=xn at *
      generalize CH.nameText x=T at *
      have ht0:((c.entry.names.take j).map quoted).length≤8:=by simp;omega
      replace hBw:=hid hBw
      clear hcs d1 d2 d3 hmem hx
      have l1:¬ (9223372036854775807<1+T.length):=by omega
      have l2:¬ (9223372036854775807<1+T.length+1):=by omega
      clear htl
      go_wp2_with fail
      refine (NT.out _ (hBw.out.alloc hBw.out.size _)).mono ?_
      rintro e w5 ⟨rfl,hb5⟩
      have hA5:=hid ((hA4.out.alloc _).below hb5)
      have hB5:Hid (Below w1.heap.size w1 w5):=hid ((hB4.out.alloc hB4.out.size _).trans (hb5.mono (by simp;have:=hB4.out.size;omega)))
      clear NT hb5 e1 e2
      go_wp2_with fail
      rw [show (⟨#[34]⟩:ByteArray)++⟨T.toArray⟩++⟨#[34]⟩=⟨([34]++T++[34]).toArray⟩ from by rw [← bytes_append,← bytes_append]]
      refine (Df _ [[34]++T++[34]] (pre++(c.entry.names.take j).map quoted) w1.heap.size P _ _ (hA5.out.alloc _) (Eo w5 [[34]++T++[34]] (by simp)).strs (by rw [List.length_append];simp only [List.length_cons,List.length_nil];omega)).mono ?_
      rintro e w6 ⟨rfl,hA6,hb6,hs6⟩
      have hA6:Hid (Bc w1.heap.size P w6 (pre++(c.entry.names.take (j+1)).map quoted)):=hid (by rw [hts.out,← List.append_assoc];exact hA6)
      have hB6:Hid (Below w1.heap.size w1 w6):=hid ((hB5.out.alloc hB5.out.size _).trans hb6)
      clear hA5 hB5 hb6 hA4 hB4
      go_wp2
      go_roundw
      case rel=>exact⟨j+1,by omega,by go_num,hA6,hB6⟩
      case measure=>simp [RowKit.intOf];omega
     ·obtain rfl:j=N:=by omega
      have htk:c.entry.names.take j=c.entry.names:=by rw [← hN,List.take_length]
      rw [htk] at hA4
      clear htk
      obtain⟨v,hv4,hO,_,_⟩:=hA4.out
      obtain⟨av,cv,rfl,_,_,_⟩:=hO.form
      have c11:wr.cell? ⟨P,0,none⟩=some (.slice av (pre++c.entry.names.map quoted).length cv):=cell_of hv4 0
      have hll:(pre++c.entry.names.map quoted).length≤11:=by rw [List.length_append,List.length_map,hN];omega
      have hjl:=D6 c hok hS.entry.names pre hpl (by rw [hpre.out];exact .cons hkl.out (.one hidl.out))
      have J:=hid (D5 _ (pre++c.entry.names.map quoted) [32] wr hO.strs (by omega) (by omega))
      have hRf:Hid (r=textV (some (CH.join [32] (pre++c.entry.names.map quoted)++[59]))):=hid (by rw [← hr.out,hpre.out,← hkw.out,hkn];unfold CH.changeText;rw [hok,hkn];rfl)
      generalize CH.join [32] (pre++c.entry.names.map quoted)=JJ at *
      generalize (pre++c.entry.names.map quoted).length=LL at *
      have l1:¬ (9223372036854775807<JJ.length+1):=by omega
      clear hjl
      clear hO hv4 hA4
      go_wp2_with fail
      refine J.out.mono ?_
      rintro e w7 ⟨rfl,hb7⟩
      clear J c11
      go_wp2
      refine bodyPost_ret (results_tmp2 rfl _ _ _) rfl ?_
      refine⟨?_,hBw.trans (hb7.mono hBw.size)⟩
      rw [hRf.out]
      unfold textV
      dsimp only
      rw [← bytes_append]
      rfl
  have z0:(0:Int)≤(kn:Int):=by omega
  have zk:((kn:Int)).toNat=kn:=by omega
  have hk5:(kn:Int)<5:=by omega
  refine wp_region_held_drew (S:=(fun W'=>W'.cell? ⟨w.heap.size,0,none⟩=some (.int .i64 kn)∧W'.cell? ⟨w.heap.size,1,none⟩=some (.string ⟨c.id.toArray⟩))) (by kernel_rfl) (SS _ hBd) (fun hHeld=>?_)
  refine tk 1 (v:=?_) rfl (by rfl) hHeld ?_ ?_
  rotate_left
  ·(intro w hSw;(try dsimp only at hSw);go_simp;try with_reducible rfl)
  (try simp only [Act.put,pA,pB,pC])
  refine tk 2 (v:=?_) rfl (by rfl) hHeld ?_ ?_
  rotate_left
  ·(intro w hSw;(try dsimp only at hSw);go_simp;try with_reducible rfl)
  (try simp only [Act.put,pA,pB,pC])
  refine tk 5 (v:=?_) rfl (by rfl) hHeld ?_ ?_
  rotate_left
  ·(intro w hSw;(try dsimp only at hSw);go_simp;try with_reducible rfl)
  (try simp only [Act.put,pA,pB,pC])
  refine tk 6 (v:=?_) rfl (by rfl) hHeld ?_ ?_
  rotate_left
  ·(intro w hSw;(try dsimp only at hSw);go_simp;try with_reducible rfl)
  (try simp only [Act.put,pA,pB,pC])
  refine wpAnyH_ready (rs:=[0,8]) (by kernel_rfl) (by simp) ?_
  refine AllReadyH.cons (o:=_) rfl (fun K hK=>?_) ?_
  focus
   go_simp
   refine (kinds_any _).mono ?_
   rintro e w2 ⟨rfl,rfl⟩
   go_wp2_with fail
   refine hK.out _ _ (by refine SS _ ?_;repeat (first|exact hBd|exact Below.refl _ _|refine Below.drew ?_|refine Below.alloc ?_ (by simp <;> omega) _|refine Below.setCell ?_ (by simp <;> omega) _)) (fun hHeld=>?_)
   clear hK K
   (try simp only [Act.put,pA,pB,pC])
   refine tk 3 (v:=?_) rfl (by rfl) hHeld ?_ ?_
   rotate_left
   ·(intro w hSw;(try dsimp only at hSw);go_simp;try with_reducible rfl)
   (try simp only [Act.put,pA,pB,pC])
   refine wpAnyH_ready (rs:=[4,8]) (by kernel_rfl) (by simp) ?_
   refine AllReadyH.cons (o:=_) rfl (fun K hK=>?_) ?_
   focus
    go_simp
    refine hK.out _ _ (by refine SS _ ?_;repeat (first|exact hBd|exact Below.refl _ _|refine Below.drew ?_|refine Below.alloc ?_ (by simp <;> omega) _|refine Below.setCell ?_ (by simp <;> omega) _)) (fun hHeld=>?_)
    clear hK K
    (try simp only [Act.put,pA,pB,pC])
    refine wpAnyH_ready (rs:=[7,8]) (by kernel_rfl) (by simp) ?_
    refine AllReadyH.cons (o:=_) rfl (fun K hK=>?_) ?_
    focus
     go_simp
     refine hK.out _ _ (by refine SS _ ?_;repeat (first|exact hBd|exact Below.refl _ _|refine Below.drew ?_|refine Below.alloc ?_ (by simp <;> omega) _|refine Below.setCell ?_ (by simp <;> omega) _)) (fun hHeld=>?_)
     clear hK K
     (try simp only [Act.put,pA,pB,pC])
     refine rk 8 rfl (fun K hK=>?_)
     go_simp
     refine hK.out _ _ (by refine SS _ ?_;repeat (first|exact hBd|exact Below.refl _ _|refine Below.drew ?_|refine Below.alloc ?_ (by simp <;> omega) _|refine Below.setCell ?_ (by simp <;> omega) _)) (fun hHeld=>?_)
     clear hK K
     (try simp only [Act.put,pA,pB,pC])
     refine rk 9 rfl (fun K hK=>?_)
     go_simp
     refine hK.out _ _ (by refine SS _ ?_;repeat (first|exact hBd|exact Below.refl _ _|refine Below.drew ?_|refine Below.alloc ?_ (by simp <;> omega) _|refine Below.setCell ?_ (by simp <;> omega) _)) (fun hHeld=>?_)
     clear hK K
     (try simp only [Act.put,pA,pB,pC])
     refine wpAnyH_done (by kernel_rfl) ?_ _
    rotate_left 1
    refine AllReadyH.cons (o:=_) rfl (fun K hK=>?_) AllReadyH.nil
    focus
     go_simp
     refine hK.out _ _ (by refine SS _ ?_;repeat (first|exact hBd|exact Below.refl _ _|refine Below.drew ?_|refine Below.alloc ?_ (by simp <;> omega) _|refine Below.setCell ?_ (by simp <;> omega) _)) (fun hHeld=>?_)
     clear hK K
     (try simp only [Act.put,pA,pB,pC])
     refine rk 7 rfl (fun K hK=>?_)
     go_simp
     refine hK.out _ _ (by refine SS _ ?_;repeat (first|exact hBd|exact Below.refl _ _|refine Below.drew ?_|refine Below.alloc ?_ (by simp <;> omega) _|refine Below.setCell ?_ (by simp <;> omega) _)) (fun hHeld=>?_)
     clear hK K
     (try simp only [Act.put,pA,pB,pC])
     refine rk 9 rfl (fun K hK=>?_)
     go_simp
     refine hK.out _ _ (by refine SS _ ?_;repeat (first|exact hBd|exact Below.refl _ _|refine Below.drew ?_|refine Below.alloc ?_ (by simp <;> omega) _|refine Below.setCell ?_ (by simp <;> omega) _)) (fun hHeld=>?_)
     clear hK K
     (try simp only [Act.put,pA,pB,pC])
     refine wpAnyH_done (by kernel_rfl) ?_ _
   rotate_left 2
   refine AllReadyH.cons (o:=_) rfl (fun K hK=>?_) AllReadyH.nil
   focus
    go_simp
    refine hK.out _ _ (by refine SS _ ?_;repeat (first|exact hBd|exact Below.refl _ _|refine Below.drew ?_|refine Below.alloc ?_ (by simp <;> omega) _|refine Below.setCell ?_ (by simp <;> omega) _)) (fun hHeld=>?_)
    clear hK K
    (try simp only [Act.put,pA,pB,pC])
    refine rk 4 rfl (fun K hK=>?_)
    go_simp
    refine hK.out _ _ (by refine SS _ ?_;repeat (first|exact hBd|exact Below.refl _ _|refine Below.drew ?_|refine Below.alloc ?_ (by simp <;> omega) _|refine Below.setCell ?_ (by simp <;> omega) _)) (fun hHeld=>?_)
    clear hK K
    (try simp only [Act.put,pA,pB,pC])
    refine rk 7 rfl (fun K hK=>?_)
    go_simp
    refine hK.out _ _ (by refine SS _ ?_;repeat (first|exact hBd|exact Below.refl _ _|refine Below.drew ?_|refine Below.alloc ?_ (by simp <;> omega) _|refine Below.setCell ?_ (by simp <;> omega) _)) (fun hHeld=>?_)
    clear hK K
    (try simp only [Act.put,pA,pB,pC])
    refine rk 9 rfl (fun K hK=>?_)
    go_simp
    refine hK.out _ _ (by refine SS _ ?_;repeat (first|exact hBd|exact Below.refl _ _|refine Below.drew ?_|refine Below.alloc ?_ (by simp <;> omega) _|refine Below.setCell ?_ (by simp <;> omega) _)) (fun hHeld=>?_)
    clear hK K
    (try simp only [Act.put,pA,pB,pC])
    refine wpAnyH_done (by kernel_rfl) ?_ _
  rotate_left 3
  refine AllReadyH.cons (o:=_) rfl (fun K hK=>?_) AllReadyH.nil
  focus
   go_simp
   refine hK.out _ _ (by refine SS _ ?_;repeat (first|exact hBd|exact Below.refl _ _|refine Below.drew ?_|refine Below.alloc ?_ (by simp <;> omega) _|refine Below.setCell ?_ (by simp <;> omega) _)) (fun hHeld=>?_)
   clear hK K
   (try simp only [Act.put,pA,pB,pC])
   refine rk 0 rfl (fun K hK=>?_)
   go_simp
   refine (kinds_any _).mono ?_
   rintro e w2 ⟨rfl,rfl⟩
   go_wp2_with fail
   refine hK.out _ _ (by refine SS _ ?_;repeat (first|exact hBd|exact Below.refl _ _|refine Below.drew ?_|refine Below.alloc ?_ (by simp <;> omega) _|refine Below.setCell ?_ (by simp <;> omega) _)) (fun hHeld=>?_)
   clear hK K
   (try simp only [Act.put,pA,pB,pC])
   refine tk 3 (v:=?_) rfl (by rfl) hHeld ?_ ?_
   rotate_left
   ·(intro w hSw;(try dsimp only at hSw);go_simp;try with_reducible rfl)
   (try simp only [Act.put,pA,pB,pC])
   refine rk 4 rfl (fun K hK=>?_)
   go_simp
   refine hK.out _ _ (by refine SS _ ?_;repeat (first|exact hBd|exact Below.refl _ _|refine Below.drew ?_|refine Below.alloc ?_ (by simp <;> omega) _|refine Below.setCell ?_ (by simp <;> omega) _)) (fun hHeld=>?_)
   clear hK K
   (try simp only [Act.put,pA,pB,pC])
   refine rk 7 rfl (fun K hK=>?_)
   go_simp
   refine hK.out _ _ (by refine SS _ ?_;repeat (first|exact hBd|exact Below.refl _ _|refine Below.drew ?_|refine Below.alloc ?_ (by simp <;> omega) _|refine Below.setCell ?_ (by simp <;> omega) _)) (fun hHeld=>?_)
   clear hK K
   (try simp only [Act.put,pA,pB,pC])
   refine rk 9 rfl (fun K hK=>?_)
   go_simp
   refine hK.out _ _ (by refine SS _ ?_;repeat (first|exact hBd|exact Below.refl _ _|refine Below.drew ?_|refine Below.alloc ?_ (by simp <;> omega) _|refine Below.setCell ?_ (by simp <;> omega) _)) (fun hHeld=>?_)
   clear hK K
   (try simp only [Act.put,pA,pB,pC])
   refine wpAnyH_done (by kernel_rfl) ?_ _
  all_goals first
   | exact TAIL _ _ _ _ _ (words3 w1 (.cells #[.string ⟨#[]⟩,.string ⟨([97,100,100]:List UInt8).toArray⟩,.string ⟨([114,101,109,111,118,101]:List UInt8).toArray⟩,.string ⟨([99,111,114,114,101,99,116]:List UInt8).toArray⟩,.string ⟨([118,111,105,100]:List UInt8).toArray⟩] 9) (.cells #[.string ⟨kw.toArray⟩,.string ⟨c.id.toArray⟩] 9) (.cells #[.slice (some ⟨w1.heap.size+1,0,none⟩) 2 2] 25) 2 1 (by decide) kw c.id rfl rfl).1 (words3 w1 (.cells #[.string ⟨#[]⟩,.string ⟨([97,100,100]:List UInt8).toArray⟩,.string ⟨([114,101,109,111,118,101]:List UInt8).toArray⟩,.string ⟨([99,111,114,114,101,99,116]:List UInt8).toArray⟩,.string ⟨([118,111,105,100]:List UInt8).toArray⟩] 9) (.cells #[.string ⟨kw.toArray⟩,.string ⟨c.id.toArray⟩] 9) (.cells #[.slice (some ⟨w1.heap.size+1,0,none⟩) 2 2] 25) 2 1 (by decide) kw c.id rfl rfl).2
   | exact TAIL _ _ _ _ _ (words3 w1 (.cells #[.string ⟨#[]⟩,.string ⟨([97,100,100]:List UInt8).toArray⟩,.string ⟨([114,101,109,111,118,101]:List UInt8).toArray⟩,.string ⟨([99,111,114,114,101,99,116]:List UInt8).toArray⟩,.string ⟨([118,111,105,100]:List UInt8).toArray⟩] 9) (.cells #[.slice (some ⟨w1.heap.size+1+1,0,none⟩) 2 2] 25) (.cells #[.string ⟨kw.toArray⟩,.string ⟨c.id.toArray⟩] 9) 1 2 (by decide) kw c.id rfl rfl).1 (words3 w1 (.cells #[.string ⟨#[]⟩,.string ⟨([97,100,100]:List UInt8).toArray⟩,.string ⟨([114,101,109,111,118,101]:List UInt8).toArray⟩,.string ⟨([99,111,114,114,101,99,116]:List UInt8).toArray⟩,.string ⟨([118,111,105,100]:List UInt8).toArray⟩] 9) (.cells #[.slice (some ⟨w1.heap.size+1+1,0,none⟩) 2 2] 25) (.cells #[.string ⟨kw.toArray⟩,.string ⟨c.id.toArray⟩] 9) 1 2 (by decide) kw c.id rfl rfl).2
   | exact TAIL _ _ _ _ _ (words3 w1 (.cells #[.slice (some ⟨w1.heap.size+1+1,0,none⟩) 2 2] 25) (.cells #[.string ⟨#[]⟩,.string ⟨([97,100,100]:List UInt8).toArray⟩,.string ⟨([114,101,109,111,118,101]:List UInt8).toArray⟩,.string ⟨([99,111,114,114,101,99,116]:List UInt8).toArray⟩,.string ⟨([118,111,105,100]:List UInt8).toArray⟩] 9) (.cells #[.string ⟨kw.toArray⟩,.string ⟨c.id.toArray⟩] 9) 0 2 (by decide) kw c.id rfl rfl).1 (words3 w1 (.cells #[.slice (some ⟨w1.heap.size+1+1,0,none⟩) 2 2] 25) (.cells #[.string ⟨#[]⟩,.string ⟨([97,100,100]:List UInt8).toArray⟩,.string ⟨([114,101,109,111,118,101]:List UInt8).toArray⟩,.string ⟨([99,111,114,114,101,99,116]:List UInt8).toArray⟩,.string ⟨([118,111,105,100]:List UInt8).toArray⟩] 9) (.cells #[.string ⟨kw.toArray⟩,.string ⟨c.id.toArray⟩] 9) 0 2 (by decide) kw c.id rfl rfl).2
theorem actText_of (a:CH.Act) (s:ActV) (w:World) (hG:Gc w) (h:ActAt w.heap.size w a s)
  (U:∀ W,Below w.heap.size w W→Calls prog 36 #[.agg (As a s).toArray] W (Ret W (.bool (CH.unused a)))) :
  Calls prog 16 #[.agg (As a s).toArray] w (Ret w (textV (CH.actText a))):=by
 obtain⟨R,hR⟩:∃ R,Hid (textV (CH.actText a)=R):=⟨_,hid rfl⟩
 rw [hR.out]
 have HH:=hid fun (W:World) (hb:Below w.heap.size w W)=>(h.below hb nR).mono hb.size
 have hB0:=fun o=>(Below.refl _ w).alloc nR o
 have HS:=hid h.small
 obtain⟨vn,vk,vm,vp,vj⟩:=s
 clear h
 generalize hC:As a { vn:=vn,vk:=vk,vm:=vm,vp:=vp,vj:=vj }=C at U ⊢
 have hlen:(prog.info? 63).map (·.size)=some C.length:=by rw [← hC];kernel_rfl
 have hC:=hid hC
 have hr0:=hid (Bl w C 63)
 have U:=hid U
 obtain⟨u,hu⟩:∃ u,CH.unused a=u:=⟨_,rfl⟩
 rw [hu] at U
 have hu:=hid hu
 go_enter func16,ntmps16
 go_wp2_with (refine wpList_load_mid rfl 63 _ rfl w.heap.size 0 rfl C _ hr0.out underlying63 rfl hlen ?_)
 refine (U.out _ (hB0 _)).mono ?_
 rintro e w1 ⟨rfl,hb1⟩
 clear U
 have hB1:Below w.heap.size w w1:=(hB0 _).trans (hb1.mono (by simp))
 have hlt1:w.heap.size<w1.heap.size:=nL (by simp) hb1.size
 have hr1:w1.rangeAt w.heap.size 0 C:=Cs hr0.out hb1 (by simp)
 rw [← hC.out] at hr1
 have k0:w1.cell? ⟨w.heap.size,0,none⟩=some (.int .i64 a.kind):=hr1 0 _ rfl
 have r1:w1.rangeAt w.heap.size 1 (A4 a.change vn++(Aq a.measure vk++(Bq a.licence vm vp++(Ar a.holding vj++[strV a.id,intV a.n])))):=Bj (l:=[intV a.kind]) hr1 1 rfl
 have r6:=Bj r1 6 rfl
 have r18:=Bj r6 18 rfl
 have r25:=Bj r18 25 rfl
 have r35:=Bj r25 35 rfl
 have r1:=hid (Cg r1)
 have r6:=hid (Cg r6)
 have r18:=hid (Cg r18)
 have r25:=hid (Cg r25)
 have r35:=hid r35
 clear hb1 hB0 hr0 hr1 hC hlen
 cases u with
 | false =>
  go_wp2
  refine bodyPost_ret (results_tmp2 rfl _ _ _) rfl ?_
  exact⟨by rw [← hR.out];unfold CH.actText;rw [hu.out];rfl,hB1⟩
 | true =>
  rcases actText_kinds a.kind with hk|hk|hk|hk|hk|hk|hk|hk
  ·rw [hk] at k0
   have hR1:Hid (textV ((CH.changeText a.change).map (([99,104,97,110,103,101,32]:List UInt8)++·))=R):=hid (by rw [← hR.out];unfold CH.actText;rw [hu.out,hk];rfl)
   have T:=listText_any vn a.change w1 (hG.below hB1) (HH.out w1 hB1).names HS.out.change HS.out.pos.1 HS.out.pos.2
   obtain⟨t,ht⟩:∃ t,CH.changeText a.change=t:=⟨_,rfl⟩
   have hl:∀ x,t=some x→x.length≤1000000:=fun x hx=>changeText_len (ht.trans hx) HS.out.change HS.out.pos
   rw [ht] at T hR1
   clear ht
   have hcl:(prog.info? 54).map (·.size)=some (A4 a.change vn).length:=by kernel_rfl
   generalize A4 a.change vn=CC at *
   have T:=hid T
   go_wp2_with (refine wpList_load_mid rfl 54 _ rfl w.heap.size 1 rfl CC _ r1.out underlying54 rfl hcl ?_)
   refine T.out.mono ?_
   rintro e w2 ⟨rfl,hb2⟩
   clear T
   cases t with
   | none =>
    dsimp only [textV]
    go_wp2
    refine bodyPost_ret (results_tmp2 rfl _ _ _) rfl ?_
    exact⟨by rw [← hR1.out];rfl,hB1.trans (hb2.mono hB1.size)⟩
   | some t =>
    have hl:=hl t rfl
    have hl4:¬ (9223372036854775807<7+t.length):=by omega
    dsimp only [textV]
    go_wp2
    refine bodyPost_ret (results_tmp2 rfl _ _ _) rfl ?_
    exact⟨by rw [← hR1.out];rfl,hB1.trans (hb2.mono hB1.size)⟩
  ·rw [hk] at k0
   have hR1:Hid (textV ((CH.measureText a.measure).map (([109,101,97,115,117,114,101,32]:List UInt8)++·))=R):=hid (by rw [← hR.out];unfold CH.actText;rw [hu.out,hk];rfl)
   have T:=measureText_any a.measure vk w1 (hG.below hB1).gl (HH.out w1 hB1).meas
   obtain⟨t,ht⟩:∃ t,CH.measureText a.measure=t:=⟨_,rfl⟩
   have hl:∀ x,t=some x→x.length≤100000000:=fun x hx=>measureText_len (ht.trans hx) (HH.out w1 hB1).meas
   rw [ht] at T hR1
   clear ht
   have hcl:(prog.info? 59).map (·.size)=some (Aq a.measure vk).length:=by kernel_rfl
   generalize Aq a.measure vk=CC at *
   have T:=hid T
   go_wp2_with (refine wpList_load_mid rfl 59 _ rfl w.heap.size 6 rfl CC _ r6.out underlying59 rfl hcl ?_)
   refine T.out.mono ?_
   rintro e w2 ⟨rfl,hb2⟩
   clear T
   cases t with
   | none =>
    dsimp only [textV]
    go_wp2
    refine bodyPost_ret (results_tmp2 rfl _ _ _) rfl ?_
    exact⟨by rw [← hR1.out];rfl,hB1.trans (hb2.mono hB1.size)⟩
   | some t =>
    have hl:=hl t rfl
    have hl4:¬ (9223372036854775807<8+t.length):=by omega
    dsimp only [textV]
    go_wp2
    refine bodyPost_ret (results_tmp2 rfl _ _ _) rfl ?_
    exact⟨by rw [← hR1.out];rfl,hB1.trans (hb2.mono hB1.size)⟩
  ·rw [hk] at k0
   have hR1:Hid (textV (if CH.licenceOk a.licence=true then some (CH.words (D4 a.licence)++[59]) else none)=R):=hid (by rw [← hR.out];unfold CH.actText;rw [hu.out,hk];rfl)
   have hcl:(prog.info? 61).map (·.size)=some (Bq a.licence vm vp).length:=by kernel_rfl
   have h1c:∀ v∈Bq a.licence vm vp,v.oneCell'=true:=by
    obtain⟨_,_,e1,_,_⟩:=(HH.out w1 hB1).lm.form
    obtain⟨_,_,e2,_,_⟩:=(HH.out w1 hB1).lp.form
    change vm=_ at e1
    change vp=_ at e2
    intro v hv
    simp only [Bq,List.mem_cons,List.not_mem_nil,or_false] at hv
    rcases hv with rfl|rfl|rfl|rfl|rfl|rfl|rfl
    ·rfl
    ·rw [e1];rfl
    ·rw [e2];rfl
    all_goals rfl
   have T:=hid fun (W:World) (hb:Below w.heap.size w W)=>licValid_any (Bq a.licence vm vp) a.licence W ⟨vm,vp,rfl,(HH.out W hb).lm,(HH.out W hb).lp⟩ HS.out.lid HS.out.lm HS.out.lp
   have hn1:=hid (Bl w1 (Bq a.licence vm vp) 61)
   obtain⟨ok,hok⟩:∃ ok,CH.licenceOk a.licence=ok:=⟨_,rfl⟩
   rw [hok] at T hR1
   have hok:=hid hok
   generalize hLL:Bq a.licence vm vp=LL at *
   have hLL:=hid hLL
   have hBa:=fun o=>hB1.alloc hB1.size o
   go_wp2_with (first|refine wpList_load_mid rfl 61 _ rfl w.heap.size 18 rfl LL _ r18.out underlying61 rfl hcl ?_|refine Av rfl 61 _ _ rfl LL rfl rfl (by rw [← hLL.out];rfl) hcl h1c ?_|refine wpList_load_mid rfl 61 _ rfl w1.heap.size 0 rfl LL _ hn1.out underlying61 rfl hcl ?_)
   refine (T.out _ (hBa _)).mono ?_
   rintro e w2 ⟨rfl,hb2⟩
   clear T
   have hB2:Below w.heap.size w w2:=(hBa _).trans (hb2.mono (hBa _).size)
   have hr2:w2.rangeAt w1.heap.size 0 LL:=Cs hn1.out hb2 (by simp)
   rw [← hLL.out] at hr2
   cases ok with
   | false =>
    go_wp2
    refine bodyPost_ret (results_tmp2 rfl _ _ _) rfl ?_
    exact⟨by rw [← hR1.out];rfl,hB2⟩
   | true =>
    have hA2:=HH.out w2 hB2
    have hlm:Strs w2.heap.size w2 vm a.licence.measures:=hA2.lm
    have hlp:Strs w2.heap.size w2 vp a.licence.parties:=hA2.lp
    obtain⟨q1,q2,q3,q4,q5,q6⟩:=licence_of_ok hok.out
    obtain⟨am,cm,rfl,_,_⟩:=hlm.form
    obtain⟨ap,cp,rfl,_,_⟩:=hlp.form
    have g0:w2.cell? ⟨w1.heap.size,0,none⟩=some (strV a.licence.id):=hr2 0 _ rfl
    have g1:w2.cell? ⟨w1.heap.size,1,none⟩=some (.slice am a.licence.measures.length cm):=hr2 1 _ rfl
    have g2:w2.cell? ⟨w1.heap.size,2,none⟩=some (.slice ap a.licence.parties.length cp):=hr2 2 _ rfl
    have g3:w2.cell? ⟨w1.heap.size,3,none⟩=some (.int .i64 a.licence.quota):=hr2 3 _ rfl
    have g4:w2.cell? ⟨w1.heap.size,4,none⟩=some (.int .i64 a.licence.uses):=hr2 4 _ rfl
    have g5:w2.cell? ⟨w1.heap.size,5,none⟩=some (.int .i64 a.licence.start):=hr2 5 _ rfl
    have g6:w2.cell? ⟨w1.heap.size,6,none⟩=some (.int .i64 a.licence.until_):=hr2 6 _ rfl
    have hwl:=licWords_len hok.out HS.out.lid HS.out.lm HS.out.lp
    have hWV:C0 w2.heap.size w2 (D4 a.licence) [.iface 9 (strV ([108,105,99,101,110,99,101]:List UInt8)),.iface 9 (strV a.licence.id),.iface 3 (.int .i64 a.licence.quota),.iface 3 (.int .i64 a.licence.uses),.iface 3 (.int .i64 a.licence.start),.iface 3 (.int .i64 a.licence.until_),.iface 3 (.int .i64 a.licence.measures.length),.iface 25 (.slice am a.licence.measures.length cm),.iface 25 (.slice ap a.licence.parties.length cp)] :=
     ⟨rfl,rfl,⟨rfl,q3⟩,⟨rfl,q4⟩,⟨rfl,q5⟩,⟨rfl,q6⟩,⟨rfl,by omega,by omega⟩,⟨_,rfl,hlm,by omega⟩,⟨_,rfl,hlp,by omega⟩,trivial⟩
    have WN:=hid fun T=>Dj (D4 a.licence) _ T 9 w2 (hG.below hB2).gl hWV rfl (by decide) (by omega)
    generalize hWW:CH.words (D4 a.licence)=WW at *
    have hl4:¬ (9223372036854775807<WW.length+1):=by omega
    have hR2:Hid (textV (some (WW++[59]))=R):=hid (by rw [← hR1.out,if_pos rfl])
    clear hR1 hr2 hWV hlm hlp hA2 q1 q2 q3 q4 q5 q6 hn1 hLL
    generalize a.licence.measures.length=nm at *
    generalize a.licence.parties.length=np at *
    go_wp2_with fail
    refine (WN.out _).mono ?_
    rintro e w3 ⟨rfl,hb3⟩
    clear WN
    go_wp2
    refine bodyPost_ret (results_tmp2 rfl _ _ _) rfl ?_
    exact⟨by rw [← hR2.out];rfl,(hB2.alloc hB2.size _).trans (hb3.mono (hB2.alloc hB2.size _).size)⟩
  ·rw [hk] at k0
   have hR1:Hid (textV (if CH.holdingOk a.holding=true then some (CH.words (Dd a.holding)++[59]) else none)=R):=hid (by rw [← hR.out];unfold CH.actText;rw [hu.out,hk];rfl)
   have hcl:(prog.info? 49).map (·.size)=some (Ar a.holding vj).length:=by kernel_rfl
   have h1c:∀ v∈Ar a.holding vj,v.oneCell'=true:=by
    obtain⟨_,_,e1,_,_⟩:=(HH.out w1 hB1).hj.form
    change vj=_ at e1
    intro v hv
    simp only [Ar,List.mem_cons,List.not_mem_nil,or_false] at hv
    rcases hv with rfl|rfl|rfl|rfl|rfl|rfl|rfl|rfl|rfl|rfl
    ·rfl
    ·rfl
    ·rfl
    ·rfl
    ·rfl
    ·rw [e1];rfl
    all_goals rfl
   have hn1:=hid (Bl w1 (Ar a.holding vj) 49)
   obtain⟨ok,hok⟩:∃ ok,CH.holdingOk a.holding=ok:=⟨_,rfl⟩
   rw [hok] at hR1
   have hok:=hid hok
   generalize hLL:Ar a.holding vj=LL at *
   have hlen10:LL.length=10:=by rw [← hLL];rfl
   have hLL:=hid hLL
   have hBa:=fun o=>hB1.alloc hB1.size o
   go_wp2_with (first|refine wpList_load_mid rfl 49 _ rfl w.heap.size 25 rfl LL _ r25.out underlying49 rfl hcl ?_|refine Av rfl 49 _ _ rfl LL rfl rfl (by rw [← hLL.out];rfl) hcl h1c ?_|refine wpList_load_mid rfl 49 _ rfl w1.heap.size 0 rfl LL _ hn1.out underlying49 rfl hcl ?_)
   rw [fold_new LL _ (by rw [hlen10];rfl)]
   have hBb:Below w.heap.size w ((w1.alloc (.cells LL.toArray 49)).alloc (.cells LL.toArray 49)):=(hBa _).alloc (hBa _).size _
   have T:=hid (regValid_any (.slice (some ⟨w1.heap.size+1,0,none⟩) 1 1) a.holding ((w1.alloc (.cells LL.toArray 49)).alloc (.cells LL.toArray 49)) ⟨w1.heap.size+1,vj,rfl,by simp,fun j x hj=>by
    rw [hLL.out] at hj
    have:=Bl (w1.alloc (.cells LL.toArray 49)) LL 49 j x hj
    rwa [Nat.zero_add,World.size_alloc] at this,(HH.out _ hBb).hj⟩ HS.out.hold)
   refine T.out.mono ?_
   rw [hok.out]
   rintro e w2 ⟨rfl,hb2⟩
   clear T
   have hB2:Below w.heap.size w w2:=hBb.trans (hb2.mono hBb.size)
   have hr2:w2.rangeAt w1.heap.size 0 LL:=Cs (rng_alloc hn1.out _) hb2 (by simp;omega)
   rw [← hLL.out] at hr2
   clear hlen10
   cases ok with
   | false =>
    go_wp2
    refine bodyPost_ret (results_tmp2 rfl _ _ _) rfl ?_
    exact⟨by rw [← hR1.out];rfl,hB2⟩
   | true =>
    have hA2:=HH.out w2 hB2
    have hlj:Strs w2.heap.size w2 vj a.holding.joint:=hA2.hj
    obtain⟨q1,q3,q4,q5,q6⟩:=holding_of_ok hok.out
    obtain⟨aj,cj,rfl,_,_⟩:=hlj.form
    have g0:w2.cell? ⟨w1.heap.size,0,none⟩=some (strV a.holding.id):=hr2 0 _ rfl
    have g1:w2.cell? ⟨w1.heap.size,1,none⟩=some (strV a.holding.company):=hr2 1 _ rfl
    have g2:w2.cell? ⟨w1.heap.size,2,none⟩=some (strV a.holding.holder):=hr2 2 _ rfl
    have g3:w2.cell? ⟨w1.heap.size,3,none⟩=some (strV a.holding.nominee):=hr2 3 _ rfl
    have g4:w2.cell? ⟨w1.heap.size,4,none⟩=some (strV a.holding.pledged):=hr2 4 _ rfl
    have g5:w2.cell? ⟨w1.heap.size,5,none⟩=some (.slice aj a.holding.joint.length cj):=hr2 5 _ rfl
    have g6:w2.cell? ⟨w1.heap.size,6,none⟩=some (.int .i64 a.holding.capital):=hr2 6 _ rfl
    have g7:w2.cell? ⟨w1.heap.size,7,none⟩=some (.int .i64 a.holding.votes):=hr2 7 _ rfl
    have g8:w2.cell? ⟨w1.heap.size,8,none⟩=some (.int .i64 a.holding.start):=hr2 8 _ rfl
    have g9:w2.cell? ⟨w1.heap.size,9,none⟩=some (.int .i64 a.holding.stop):=hr2 9 _ rfl
    have hwl:=holdWords_len hok.out HS.out.hold
    have hWV:C0 w2.heap.size w2 (Dd a.holding) [.iface 9 (strV ([104,111,108,100,105,110,103]:List UInt8)),.iface 9 (strV a.holding.id),.iface 9 (strV a.holding.company),.iface 9 (strV a.holding.holder),.iface 9 (strV a.holding.nominee),.iface 9 (strV a.holding.pledged),.iface 3 (.int .i64 a.holding.capital),.iface 3 (.int .i64 a.holding.votes),.iface 3 (.int .i64 a.holding.start),.iface 3 (.int .i64 a.holding.stop),.iface 25 (.slice aj a.holding.joint.length cj)] :=
     ⟨rfl,rfl,rfl,rfl,rfl,rfl,⟨rfl,q3⟩,⟨rfl,q4⟩,⟨rfl,q5⟩,⟨rfl,q6⟩,⟨_,rfl,hlj,by omega⟩,trivial⟩
    have WN:=hid fun T=>Dj (Dd a.holding) _ T 11 w2 (hG.below hB2).gl hWV rfl (by decide) (by omega)
    generalize hWW:CH.words (Dd a.holding)=WW at *
    have hl4:¬ (9223372036854775807<WW.length+1):=by omega
    have hR2:Hid (textV (some (WW++[59]))=R):=hid (by rw [← hR1.out,if_pos rfl])
    clear hR1 hr2 hWV hlj hA2 q1 q3 q4 q5 q6 hn1 hLL
    generalize a.holding.joint.length=nj at *
    go_wp2_with fail
    refine (WN.out _).mono ?_
    rintro e w3 ⟨rfl,hb3⟩
    clear WN
    go_wp2
    refine bodyPost_ret (results_tmp2 rfl _ _ _) rfl ?_
    exact⟨by rw [← hR2.out];rfl,(hB2.alloc hB2.size _).trans (hb3.mono (hB2.alloc hB2.size _).size)⟩
  ·rw [hk] at k0
   have hR1:Hid (textV (if (CH.ident a.id&&CH.within a.n 144001439)=true then some (CH.words (Az a)++[59]) else none)=R):=hid (by rw [← hR.out];unfold CH.actText Az;rw [hu.out,hk];rfl)
   have k35:w1.cell? ⟨w.heap.size,35,none⟩=some (strV a.id):=r35.out 0 _ rfl
   have k36:w1.cell? ⟨w.heap.size,36,none⟩=some (.int .i64 a.n):=r35.out 1 _ rfl
   have I:=chainIdent_any a.id w1 (nT HS.out.id (by decide))
   obtain⟨bi,hbi⟩:∃ b,CH.ident a.id=b:=⟨_,rfl⟩
   rw [hbi] at I hR1
   have I:=hid I
   clear hbi
   go_wp2_with fail
   refine I.out.mono ?_
   rintro e w2 ⟨rfl,hb2⟩
   have hB2:Below w.heap.size w w2:=hB1.trans (hb2.mono hB1.size)
   have m0:=(hb2.cell (p:=⟨w.heap.size,0,none⟩) hlt1).trans k0
   have m35:=(hb2.cell (p:=⟨w.heap.size,35,none⟩) hlt1).trans k35
   have m36:=(hb2.cell (p:=⟨w.heap.size,36,none⟩) hlt1).trans k36
   clear I k0 k35 k36
   obtain⟨c1,hc1⟩:∃ b,decide (0≤a.n)=b:=⟨_,rfl⟩
   obtain⟨c2,hc2⟩:∃ b,decide (a.n≤144001439)=b:=⟨_,rfl⟩
   have hR2:Hid (textV (if (bi&&(c1&&c2))=true then some (CH.words (Az a)++[59]) else none)=R):=hid (by rw [← hR1.out];unfold CH.within;rw [hc1,hc2])
   clear hR1
   rcases (by cases bi <;> cases c1 <;> cases c2 <;> simp:(bi=false)∨(bi=true∧c1=false)∨(bi=true∧c1=true∧c2=false)∨(bi=true∧c1=true∧c2=true)) with rfl|⟨rfl,rfl⟩|⟨rfl,rfl,rfl⟩|⟨rfl,rfl,rfl⟩
   iterate 3
    ·go_wp2
     refine bodyPost_ret (results_tmp2 rfl _ _ _) rfl ?_
     exact⟨by rw [← hR2.out];rfl,hB2⟩
   have hmm:=@run_makeMap prog
   obtain⟨o1,o2,o3,u1,u2,u3,um⟩:=words3_map w2 5 3 7 ([114,101,118,111,107,101]:List UInt8) ([114,101,112,101,97,108]:List UInt8) ([101,110,100]:List UInt8) rfl rfl rfl
   have ul:=Bd El underlying104 (.string ⟨#[]⟩) strZero um 5
   have ule:((Ax (5:Int) [((5:Int),strV ([114,101,118,111,107,101]:List UInt8)),(3,strV ([114,101,112,101,97,108]:List UInt8)),(7,strV ([101,110,100]:List UInt8))] 0).map (·.2)).getD (.string ⟨#[]⟩)=strV ([114,101,118,111,107,101]:List UInt8):=rfl
   rw [ule] at ul
   have hBX:Below w2.heap.size w2 ((((w2.alloc (.map #[] 0)).putObj w2.heap.size o1).putObj w2.heap.size o2).putObj w2.heap.size o3):=Ao (Ao (Ao ((Below.refl _ w2).alloc nR _) nR _) nR _) nR _
   have hXs:((((w2.alloc (.map #[] 0)).putObj w2.heap.size o1).putObj w2.heap.size o2).putObj w2.heap.size o3).heap.size=w2.heap.size+1:=by simp
   have hl2:w.heap.size<w2.heap.size:=nL hlt1 hb2.size
   have x0:=(hBX.cell (p:=⟨w.heap.size,0,none⟩) hl2).trans m0
   have x35:=(hBX.cell (p:=⟨w.heap.size,35,none⟩) hl2).trans m35
   have x36:=(hBX.cell (p:=⟨w.heap.size,36,none⟩) hl2).trans m36
   have hBX:=hid (hB2.trans (hBX.mono hB2.size))
   have hXs:=hid hXs
   have hR3:Hid (textV (some (CH.words (Az a)++[59]))=R):=hid (by rw [← hR2.out];rfl)
   clear um ule hR2
   go_wp2_with fail
   rw [← hXs.out]
   clear u1 u2 u3 ul hmm hXs
   generalize ((((w2.alloc (.map #[] 0)).putObj w2.heap.size o1).putObj w2.heap.size o2).putObj w2.heap.size o3)=X at *
   have hwl:=Er HS.out.id HS.out.n
   have hWV:C0 X.heap.size X (Az a) [.iface 9 (strV ([114,101,118,111,107,101]:List UInt8)),.iface 9 (strV a.id),.iface 3 (.int .i64 a.n)]:=by
    unfold Az
    rw [hk]
    exact⟨rfl,rfl,⟨rfl,HS.out.n⟩,trivial⟩
   have WN:=hid fun T=>Dj (Az a) _ T 3 X (hG.below hBX.out).gl hWV rfl (by decide) (by omega)
   generalize hWW:CH.words (Az a)=WW at *
   have hl4:¬ (9223372036854775807<WW.length+1):=by omega
   refine (WN.out _).mono ?_
   rintro e w3 ⟨rfl,hb3⟩
   clear WN hWV
   go_wp2
   refine bodyPost_ret (results_tmp2 rfl _ _ _) rfl ?_
   exact⟨by rw [← hR3.out];rfl,(hBX.out.alloc hBX.out.size _).trans (hb3.mono (hBX.out.alloc hBX.out.size _).size)⟩
  ·rw [hk] at k0
   have hR1:Hid (textV (if (CH.ident a.id&&CH.within a.n 100000)=true then some (CH.words (Az a)++[59]) else none)=R):=hid (by rw [← hR.out];unfold CH.actText Az;rw [hu.out,hk];rfl)
   have k35:w1.cell? ⟨w.heap.size,35,none⟩=some (strV a.id):=r35.out 0 _ rfl
   have k36:w1.cell? ⟨w.heap.size,36,none⟩=some (.int .i64 a.n):=r35.out 1 _ rfl
   have I:=chainIdent_any a.id w1 (nT HS.out.id (by decide))
   obtain⟨bi,hbi⟩:∃ b,CH.ident a.id=b:=⟨_,rfl⟩
   rw [hbi] at I hR1
   have I:=hid I
   clear hbi
   go_wp2_with fail
   refine I.out.mono ?_
   rintro e w2 ⟨rfl,hb2⟩
   have hB2:Below w.heap.size w w2:=hB1.trans (hb2.mono hB1.size)
   have m0:=(hb2.cell (p:=⟨w.heap.size,0,none⟩) hlt1).trans k0
   have m35:=(hb2.cell (p:=⟨w.heap.size,35,none⟩) hlt1).trans k35
   have m36:=(hb2.cell (p:=⟨w.heap.size,36,none⟩) hlt1).trans k36
   clear I k0 k35 k36
   obtain⟨c1,hc1⟩:∃ b,decide (0≤a.n)=b:=⟨_,rfl⟩
   obtain⟨c2,hc2⟩:∃ b,decide (a.n≤100000)=b:=⟨_,rfl⟩
   have hR2:Hid (textV (if (bi&&(c1&&c2))=true then some (CH.words (Az a)++[59]) else none)=R):=hid (by rw [← hR1.out];unfold CH.within;rw [hc1,hc2])
   clear hR1
   rcases (by cases bi <;> cases c1 <;> cases c2 <;> simp:(bi=false)∨(bi=true∧c1=false)∨(bi=true∧c1=true∧c2=false)∨(bi=true∧c1=true∧c2=true)) with rfl|⟨rfl,rfl⟩|⟨rfl,rfl,rfl⟩|⟨rfl,rfl,rfl⟩
   iterate 3
    ·go_wp2
     refine bodyPost_ret (results_tmp2 rfl _ _ _) rfl ?_
     exact⟨by rw [← hR2.out];rfl,hB2⟩
   have hmm:=@run_makeMap prog
   obtain⟨o1,o2,o3,u1,u2,u3,um⟩:=words3_map w2 5 3 7 ([114,101,118,111,107,101]:List UInt8) ([114,101,112,101,97,108]:List UInt8) ([101,110,100]:List UInt8) rfl rfl rfl
   have ul:=Bd El underlying104 (.string ⟨#[]⟩) strZero um 3
   have ule:((Ax (3:Int) [((5:Int),strV ([114,101,118,111,107,101]:List UInt8)),(3,strV ([114,101,112,101,97,108]:List UInt8)),(7,strV ([101,110,100]:List UInt8))] 0).map (·.2)).getD (.string ⟨#[]⟩)=strV ([114,101,112,101,97,108]:List UInt8):=rfl
   rw [ule] at ul
   have hBX:Below w2.heap.size w2 ((((w2.alloc (.map #[] 0)).putObj w2.heap.size o1).putObj w2.heap.size o2).putObj w2.heap.size o3):=Ao (Ao (Ao ((Below.refl _ w2).alloc nR _) nR _) nR _) nR _
   have hXs:((((w2.alloc (.map #[] 0)).putObj w2.heap.size o1).putObj w2.heap.size o2).putObj w2.heap.size o3).heap.size=w2.heap.size+1:=by simp
   have hl2:w.heap.size<w2.heap.size:=nL hlt1 hb2.size
   have x0:=(hBX.cell (p:=⟨w.heap.size,0,none⟩) hl2).trans m0
   have x35:=(hBX.cell (p:=⟨w.heap.size,35,none⟩) hl2).trans m35
   have x36:=(hBX.cell (p:=⟨w.heap.size,36,none⟩) hl2).trans m36
   have hBX:=hid (hB2.trans (hBX.mono hB2.size))
   have hXs:=hid hXs
   have hR3:Hid (textV (some (CH.words (Az a)++[59]))=R):=hid (by rw [← hR2.out];rfl)
   clear um ule hR2
   go_wp2_with fail
   rw [← hXs.out]
   clear u1 u2 u3 ul hmm hXs
   generalize ((((w2.alloc (.map #[] 0)).putObj w2.heap.size o1).putObj w2.heap.size o2).putObj w2.heap.size o3)=X at *
   have hwl:=Er HS.out.id HS.out.n
   have hWV:C0 X.heap.size X (Az a) [.iface 9 (strV ([114,101,112,101,97,108]:List UInt8)),.iface 9 (strV a.id),.iface 3 (.int .i64 a.n)]:=by
    unfold Az
    rw [hk]
    exact⟨rfl,rfl,⟨rfl,HS.out.n⟩,trivial⟩
   have WN:=hid fun T=>Dj (Az a) _ T 3 X (hG.below hBX.out).gl hWV rfl (by decide) (by omega)
   generalize hWW:CH.words (Az a)=WW at *
   have hl4:¬ (9223372036854775807<WW.length+1):=by omega
   refine (WN.out _).mono ?_
   rintro e w3 ⟨rfl,hb3⟩
   clear WN hWV
   go_wp2
   refine bodyPost_ret (results_tmp2 rfl _ _ _) rfl ?_
   exact⟨by rw [← hR3.out];rfl,(hBX.out.alloc hBX.out.size _).trans (hb3.mono (hBX.out.alloc hBX.out.size _).size)⟩
  ·rw [hk] at k0
   have hR1:Hid (textV (if (CH.ident a.id&&CH.within a.n 100000)=true then some (CH.words (Az a)++[59]) else none)=R):=hid (by rw [← hR.out];unfold CH.actText Az;rw [hu.out,hk];rfl)
   have k35:w1.cell? ⟨w.heap.size,35,none⟩=some (strV a.id):=r35.out 0 _ rfl
   have k36:w1.cell? ⟨w.heap.size,36,none⟩=some (.int .i64 a.n):=r35.out 1 _ rfl
   have I:=chainIdent_any a.id w1 (nT HS.out.id (by decide))
   obtain⟨bi,hbi⟩:∃ b,CH.ident a.id=b:=⟨_,rfl⟩
   rw [hbi] at I hR1
   have I:=hid I
   clear hbi
   go_wp2_with fail
   refine I.out.mono ?_
   rintro e w2 ⟨rfl,hb2⟩
   have hB2:Below w.heap.size w w2:=hB1.trans (hb2.mono hB1.size)
   have m0:=(hb2.cell (p:=⟨w.heap.size,0,none⟩) hlt1).trans k0
   have m35:=(hb2.cell (p:=⟨w.heap.size,35,none⟩) hlt1).trans k35
   have m36:=(hb2.cell (p:=⟨w.heap.size,36,none⟩) hlt1).trans k36
   clear I k0 k35 k36
   obtain⟨c1,hc1⟩:∃ b,decide (0≤a.n)=b:=⟨_,rfl⟩
   obtain⟨c2,hc2⟩:∃ b,decide (a.n≤100000)=b:=⟨_,rfl⟩
   have hR2:Hid (textV (if (bi&&(c1&&c2))=true then some (CH.words (Az a)++[59]) else none)=R):=hid (by rw [← hR1.out];unfold CH.within;rw [hc1,hc2])
   clear hR1
   rcases (by cases bi <;> cases c1 <;> cases c2 <;> simp:(bi=false)∨(bi=true∧c1=false)∨(bi=true∧c1=true∧c2=false)∨(bi=true∧c1=true∧c2=true)) with rfl|⟨rfl,rfl⟩|⟨rfl,rfl,rfl⟩|⟨rfl,rfl,rfl⟩
   iterate 3
    ·go_wp2
     refine bodyPost_ret (results_tmp2 rfl _ _ _) rfl ?_
     exact⟨by rw [← hR2.out];rfl,hB2⟩
   have hmm:=@run_makeMap prog
   obtain⟨o1,o2,o3,u1,u2,u3,um⟩:=words3_map w2 5 3 7 ([114,101,118,111,107,101]:List UInt8) ([114,101,112,101,97,108]:List UInt8) ([101,110,100]:List UInt8) rfl rfl rfl
   have ul:=Bd El underlying104 (.string ⟨#[]⟩) strZero um 7
   have ule:((Ax (7:Int) [((5:Int),strV ([114,101,118,111,107,101]:List UInt8)),(3,strV ([114,101,112,101,97,108]:List UInt8)),(7,strV ([101,110,100]:List UInt8))] 0).map (·.2)).getD (.string ⟨#[]⟩)=strV ([101,110,100]:List UInt8):=rfl
   rw [ule] at ul
   have hBX:Below w2.heap.size w2 ((((w2.alloc (.map #[] 0)).putObj w2.heap.size o1).putObj w2.heap.size o2).putObj w2.heap.size o3):=Ao (Ao (Ao ((Below.refl _ w2).alloc nR _) nR _) nR _) nR _
   have hXs:((((w2.alloc (.map #[] 0)).putObj w2.heap.size o1).putObj w2.heap.size o2).putObj w2.heap.size o3).heap.size=w2.heap.size+1:=by simp
   have hl2:w.heap.size<w2.heap.size:=nL hlt1 hb2.size
   have x0:=(hBX.cell (p:=⟨w.heap.size,0,none⟩) hl2).trans m0
   have x35:=(hBX.cell (p:=⟨w.heap.size,35,none⟩) hl2).trans m35
   have x36:=(hBX.cell (p:=⟨w.heap.size,36,none⟩) hl2).trans m36
   have hBX:=hid (hB2.trans (hBX.mono hB2.size))
   have hXs:=hid hXs
   have hR3:Hid (textV (some (CH.words (Az a)++[59]))=R):=hid (by rw [← hR2.out];rfl)
   clear um ule hR2
   go_wp2_with fail
   rw [← hXs.out]
   clear u1 u2 u3 ul hmm hXs
   generalize ((((w2.alloc (.map #[] 0)).putObj w2.heap.size o1).putObj w2.heap.size o2).putObj w2.heap.size o3)=X at *
   have hwl:=Er HS.out.id HS.out.n
   have hWV:C0 X.heap.size X (Az a) [.iface 9 (strV ([101,110,100]:List UInt8)),.iface 9 (strV a.id),.iface 3 (.int .i64 a.n)]:=by
    unfold Az
    rw [hk]
    exact⟨rfl,rfl,⟨rfl,HS.out.n⟩,trivial⟩
   have WN:=hid fun T=>Dj (Az a) _ T 3 X (hG.below hBX.out).gl hWV rfl (by decide) (by omega)
   generalize hWW:CH.words (Az a)=WW at *
   have hl4:¬ (9223372036854775807<WW.length+1):=by omega
   refine (WN.out _).mono ?_
   rintro e w3 ⟨rfl,hb3⟩
   clear WN hWV
   go_wp2
   refine bodyPost_ret (results_tmp2 rfl _ _ _) rfl ?_
   exact⟨by rw [← hR3.out];rfl,(hBX.out.alloc hBX.out.size _).trans (hb3.mono (hBX.out.alloc hBX.out.size _).size)⟩
  ·obtain⟨n1,n2,n4,n6,n5,n3,n7⟩:=hk
   have b1:(a.kind==1)=false:=by simpa using n1
   have b2:(a.kind==2)=false:=by simpa using n2
   have b4:(a.kind==4)=false:=by simpa using n4
   have b6:(a.kind==6)=false:=by simpa using n6
   have b5:(a.kind==5)=false:=by simpa using n5
   have b3:(a.kind==3)=false:=by simpa using n3
   have b7:(a.kind==7)=false:=by simpa using n7
   have hR1:Hid (textV none=R):=hid (by rw [← hR.out];unfold CH.actText;rw [hu.out,if_neg (by decide),if_neg n1,if_neg n2,if_neg n4,if_neg n6,if_neg (by omega)])
   clear n1 n2 n4 n6 n5 n3 n7
   go_wp2
   refine bodyPost_ret (results_tmp2 rfl _ _ _) rfl ?_
   exact⟨by rw [← hR1.out];rfl,hB1⟩
end
section
open Go.Lib Go.Proofs.Tryz Go.RowKit Go.Shelf Go.Sort
def Cn:Code→Nat→Option (Array Oper)
 | .region id ops _,k=>if id=k then some ops else none
 | .seq a b,k=>match Cn a k with|some x=>some x|none=>Cn b k
 | .cond _ a b,k=>match Cn a k with|some x=>some x|none=>Cn b k
 | .block _ b,k=>Cn b k
 | .loop b,k=>Cn b k
 | .scope b,k=>Cn b k
 | _,_=>none
section
variable {P:Program} {ops:Array Oper} {md:Region.Mode} {S:World→Prop} {a:Act} {o:Oper} {Q:Exit→Act→World→Prop}
theorem wp_region_eq {ops':Array Oper} {id:Nat} {w:World} (h:ops'=ops) (hh:(Code.region id ops true).wp P Q a w):(Code.region id ops' true).wp P Q a w:=h ▸ hh
theorem Aw {fuel:Nat} {listed listed':Array Bool} {a a':Act} {w:World} (ha:a'=a) (hl:listed'=listed) (h:wpAnyH P md ops Q S fuel listed' a' w):wpAnyH P md ops Q S fuel listed a w:=by subst ha hl;exact h
theorem Aa {v:Value} (hg:Region.wanted o (yielded ops a.tmps)=true) (h:∀ w,S w→(execOp a.eval o).run P w=.ok (.value v) w):YieldsIf P ops S o v a:=.inl ⟨hg,h⟩
theorem Ad {y:Bool} {x:Value} (hw:Region.wanted o (yielded ops a.tmps)=(some y==some false)) (h:y=false→∀ w,S w→(execOp a.eval o).run P w=.ok (.value x) w):YieldsIf P ops S o (if y=true then undef else x) a:=by
 cases y with
 | false=>exact .inl ⟨hw,h rfl⟩
 | true=>exact .inr ⟨hw,rfl⟩
theorem Ay {T:TypeId} {x:Operand} {f:Nat} {vx v:Value} {w:World} (hop:o.op=.fieldAddr T x f) (hx:a.eval x=vx) (hr:(Instr.fieldAt T vx f).run P w=.ok v w):(execOp a.eval o).run P w=.ok (.value v) w:=by
 unfold execOp;simp [hop,hx,hr]
theorem Ba {T:TypeId} {x:Operand} {vx v:Value} {w:World} (hop:o.op=.load T x) (hx:a.eval x=vx) (hr:(Instr.loadAt T vx).run P w=.ok v w):(execOp a.eval o).run P w=.ok (.value v) w:=by
 unfold execOp;simp [hop,hx,hr]
theorem B6 {op:BinOp} {T T':TypeId} {x y:Operand} {vx vy v:Value} {w:World} (hop:o.op=.binOp op T x y T') (hx:a.eval x=vx) (hy:a.eval y=vy) (hg:(eqGuard op T x y vx vy).run P w=.ok () w) (hr:(binOp op T vx vy).run P w=.ok v w):(execOp a.eval o).run P w=.ok (.value v) w:=by
 unfold execOp;simp [hop,hx,hy,hg,hr]
theorem Bp {x:Operand} {v:Value} {w:World} (hop:o.op=.move x) (hx:a.eval x=v):(execOp a.eval o).run P w=.ok (.value v) w:=by
 unfold execOp;simp [hop,hx]
theorem Bz {c x y:Operand} {b:Bool} {vx vy:Value} {w:World} (hop:o.op=.pick c x y) (hc:a.eval c=.bool b) (hx:a.eval x=vx) (hy:a.eval y=vy):(execOp a.eval o).run P w=.ok (.value (if b=true then vx else vy)) w:=by
 unfold execOp;simp [hop,hc,hx,hy,asBool]
theorem ex_len {x:Operand} {T e:TypeId} {s:Option Addr} {n c:Nat} {w:World} (hu:P.underlying T=some (.slice e)) (hop:o.op=.call { callee:=.builtin .len,args:=#[x],argTypes:=#[T] }) (hx:a.eval x=.slice s n c):(execOp a.eval o).run P w=.ok (.value (.int .i64 n)) w:=by
 unfold execOp
 simp only [hop,resolve,invoke,builtin,Sem.run_bind,Sem.run_pure,Result.andThen_ok,List.map_toArray,List.map_cons,List.map_nil,hx]
 simp [Builtin.len_,run_underlying hu,goInt]
theorem Cz {J:Array Bool→Act→World→Prop} (hstep:∀ listed a w i,i∈Region.ready md ops listed→J listed a w→wpOp P ops Q i (fun a' w'=>S w'∧J (listed.setIfInBounds i true) a' w') a w)
  (hend:∀ listed a w,Region.ready md ops listed=[]→J listed a w→Q .normal a w):∀ (fuel:Nat) (listed:Array Bool) (a:Act) (w:World),unlisted listed≤fuel→J listed a w→wpAnyH P md ops Q S fuel listed a w
 | 0,listed,a,w,hu,h=>⟨ready_nil (by omega),hend _ _ _ (ready_nil (by omega)) h⟩
 | fuel+1,listed,a,w,hu,h=>⟨fun h0=>hend _ _ _ h0 h,fun i hi=>wpOp_mono (fun a' w' h'=>⟨h'.1,Cz hstep hend fuel _ a' w' (by have:=unlisted_set (mem_ready.1 hi).1;omega) h'.2⟩) (hstep _ _ _ _ hi h)⟩
end
theorem Cw {w:World} {b o:Nat} {v:Value} (h:w.cell? ⟨b,o,none⟩=some v):(Instr.loadAt 3 (.pointer (some ⟨b,o,none⟩))).run prog w=.ok v w:=by go_simp
theorem D3 {w:World} {b o:Nat} {v:Value} (h:w.cell? ⟨b,o,none⟩=some v):(Instr.loadAt 9 (.pointer (some ⟨b,o,none⟩))).run prog w=.ok v w:=by go_simp
theorem load_strs {w:World} {b o:Nat} {v:Value} (h:w.cell? ⟨b,o,none⟩=some v):(Instr.loadAt 25 (.pointer (some ⟨b,o,none⟩))).run prog w=.ok v w:=by go_simp
theorem load_names {w:World} {b o:Nat} {v:Value} (h:w.cell? ⟨b,o,none⟩=some v):(Instr.loadAt 50 (.pointer (some ⟨b,o,none⟩))).run prog w=.ok v w:=by go_simp
theorem Cv (n:Int) (w:World):(binOp .neq 3 (.int .i64 n) (.int .i64 0)).run prog w=.ok (.bool (n != 0)) w:=by go_simp
theorem gtr_int0 (n:Nat) (w:World):(binOp .gtr 3 (.int .i64 n) (.int .i64 0)).run prog w=.ok (.bool (decide (0<n))) w:=by go_simp
theorem Dy (s:List UInt8) (w:World):(binOp .neq 9 (.string ⟨s.toArray⟩) (.string ⟨#[]⟩)).run prog w=.ok (.bool (s != [])) w:=by
 have:(binOp .neq 9 (.string ⟨s.toArray⟩) (.string ⟨#[]⟩)).run prog w=.ok (.bool (!s.isEmpty)) w:=by go_simp
 rw [this]
 cases s <;> rfl
end
end Go.Proofs.YtjepldaciejieaaGreatDoor
