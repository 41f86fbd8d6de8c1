/-
  ChainOthers: the proof, part 11 of 16.
-/
import Derived.Test.YtjaeapaeaiiieaaGreatDoorP09
import Derived.Deep.RegionHeld3
import Derived.Shelf.SlIter.Stops
import Derived.RangeFuncFrom
import Derived.RangeFuncBox
import Derived.Shelf.SlSortCmp.InsertionK
set_option linter.unusedSimpArgs false
set_option linter.unusedVariables false
set_option maxHeartbeats 40000000
set_option maxRecDepth 100000
namespace Go.Proofs.YtjaeapaeaiiieaaGreatDoor
section
open Go.Lib Go.Proofs.Tryz Go.RowKit Go.Shelf Go.Sort
theorem putNewF_any (c o r:Nat) (p:Int × Int) (v vv:CH.Version) (va v1 v2 vb v3 v4:Value) (kvs:List ((Int × Int) × Value)) (w:World) (hc:w.cell? ⟨c,o,none⟩=some (.map (some r))) (hm:A8 An r w kvs) (hf:Az p kvs 0=none)
  (hoc:∀ u∈([.int .i64 v.authority,.int .i64 v.number,.int .i64 v.pos,.string ⟨v.prev.toArray⟩,va,.int .i64 v.sel.index,v1,v2,.int .i64 vv.authority,.int .i64 vv.number,.int .i64 vv.pos,.string ⟨vv.prev.toArray⟩,vb,.int .i64 vv.sel.index,v3,v4]:List Value),u.oneCell'=true) :
  Calls prog 36 #[.pointer (some ⟨c,o,none⟩),An p,.agg #[.int .i64 v.authority,.int .i64 v.number,.int .i64 v.pos,.string ⟨v.prev.toArray⟩,va,.int .i64 v.sel.index,v1,v2,.int .i64 vv.authority,.int .i64 vv.number,.int .i64 vv.pos,.string ⟨vv.prev.toArray⟩,vb,.int .i64 vv.sel.index,v3,v4]] w (PutNew w r p (.agg #[.int .i64 v.authority,.int .i64 v.number,.int .i64 v.pos,.string ⟨v.prev.toArray⟩,va,.int .i64 v.sel.index,v1,v2,.int .i64 vv.authority,.int .i64 vv.number,.int .i64 vv.pos,.string ⟨vv.prev.toArray⟩,vb,.int .i64 vv.sel.index,v3,v4]) kvs):=by
 have L:=fun (W:World) (hb:Below w.heap.size w W)=>D8 underlying75 _ M8 (hm.below hb) p
 simp only [hf,Option.map_none,Option.getD_none,Option.isSome_none] at L
 have UP:=fun (W:World) (hb:Below w.heap.size w W)=>Kc underlying75 (hm.below hb) p (.agg #[.int .i64 v.authority,.int .i64 v.number,.int .i64 v.pos,.string ⟨v.prev.toArray⟩,va,.int .i64 v.sel.index,v1,v2,.int .i64 vv.authority,.int .i64 vv.number,.int .i64 vv.pos,.string ⟨vv.prev.toArray⟩,vb,.int .i64 vv.sel.index,v3,v4]) hf
 obtain⟨p1,p2⟩:=p
 replace hoc:=hid hoc
 have hrlt:=hm.lt
 dsimp only [An] at *
 have gI:=World.block_lt_of_cell? w _ hc
 go_enter func36,ntmps36
 go_wp2_with fail
 rename_i K hK
 have hB0:Below w.heap.size w (((w.alloc (.cells #[.int .i64 p1,.int .i64 p2] 94)).alloc (.cells #[.int .i64 v.authority,.int .i64 v.number,.int .i64 v.pos,.string ⟨v.prev.toArray⟩,va,.int .i64 v.sel.index,v1,v2,.int .i64 vv.authority,.int .i64 vv.number,.int .i64 vv.pos,.string ⟨vv.prev.toArray⟩,vb,.int .i64 vv.sel.index,v3,v4] 97)).alloc (.cells #[.int .i64 0,.int .i64 0,.int .i64 0,.string ⟨#[]⟩,.slice none 0 0,.int .i64 0,.slice none 0 0,.slice none 0 0,.int .i64 0,.int .i64 0,.int .i64 0,.string ⟨#[]⟩,.slice none 0 0,.int .i64 0,.slice none 0 0,.slice none 0 0] 97)):=(((Below.refl _ w).alloc nR _).alloc (by simp) _).alloc (by simp;omega) _
 have hblk:(((w.alloc (.cells #[.int .i64 p1,.int .i64 p2] 94)).alloc (.cells #[.int .i64 v.authority,.int .i64 v.number,.int .i64 v.pos,.string ⟨v.prev.toArray⟩,va,.int .i64 v.sel.index,v1,v2,.int .i64 vv.authority,.int .i64 vv.number,.int .i64 vv.pos,.string ⟨vv.prev.toArray⟩,vb,.int .i64 vv.sel.index,v3,v4] 97)).alloc (.cells #[.int .i64 0,.int .i64 0,.int .i64 0,.string ⟨#[]⟩,.slice none 0 0,.int .i64 0,.slice none 0 0,.slice none 0 0,.int .i64 0,.int .i64 0,.int .i64 0,.string ⟨#[]⟩,.slice none 0 0,.int .i64 0,.slice none 0 0,.slice none 0 0] 97)).heap[w.heap.size]?=some (.cells #[.int .i64 p1,.int .i64 p2] 94 (0,0)):=by
  simp only [World.alloc,Array.getElem?_push,Array.size_push]
  rw [if_neg (by omega),if_neg (by omega),if_pos trivial]
 have hblk1:(((w.alloc (.cells #[.int .i64 p1,.int .i64 p2] 94)).alloc (.cells #[.int .i64 v.authority,.int .i64 v.number,.int .i64 v.pos,.string ⟨v.prev.toArray⟩,va,.int .i64 v.sel.index,v1,v2,.int .i64 vv.authority,.int .i64 vv.number,.int .i64 vv.pos,.string ⟨vv.prev.toArray⟩,vb,.int .i64 vv.sel.index,v3,v4] 97)).alloc (.cells #[.int .i64 0,.int .i64 0,.int .i64 0,.string ⟨#[]⟩,.slice none 0 0,.int .i64 0,.slice none 0 0,.slice none 0 0,.int .i64 0,.int .i64 0,.int .i64 0,.string ⟨#[]⟩,.slice none 0 0,.int .i64 0,.slice none 0 0,.slice none 0 0] 97)).heap[w.heap.size+1]?=some (.cells #[.int .i64 v.authority,.int .i64 v.number,.int .i64 v.pos,.string ⟨v.prev.toArray⟩,va,.int .i64 v.sel.index,v1,v2,.int .i64 vv.authority,.int .i64 vv.number,.int .i64 vv.pos,.string ⟨vv.prev.toArray⟩,vb,.int .i64 vv.sel.index,v3,v4] 97 (0,0)):=by
  simp only [World.alloc,Array.getElem?_push,Array.size_push]
  rw [if_neg (by omega),if_pos trivial]
 have hblk2:(((w.alloc (.cells #[.int .i64 p1,.int .i64 p2] 94)).alloc (.cells #[.int .i64 v.authority,.int .i64 v.number,.int .i64 v.pos,.string ⟨v.prev.toArray⟩,va,.int .i64 v.sel.index,v1,v2,.int .i64 vv.authority,.int .i64 vv.number,.int .i64 vv.pos,.string ⟨vv.prev.toArray⟩,vb,.int .i64 vv.sel.index,v3,v4] 97)).alloc (.cells #[.int .i64 0,.int .i64 0,.int .i64 0,.string ⟨#[]⟩,.slice none 0 0,.int .i64 0,.slice none 0 0,.slice none 0 0,.int .i64 0,.int .i64 0,.int .i64 0,.string ⟨#[]⟩,.slice none 0 0,.int .i64 0,.slice none 0 0,.slice none 0 0] 97)).heap[w.heap.size+1+1]?=some (.cells #[.int .i64 0,.int .i64 0,.int .i64 0,.string ⟨#[]⟩,.slice none 0 0,.int .i64 0,.slice none 0 0,.slice none 0 0,.int .i64 0,.int .i64 0,.int .i64 0,.string ⟨#[]⟩,.slice none 0 0,.int .i64 0,.slice none 0 0,.slice none 0 0] 97 (0,0)):=by
  simp only [World.alloc,Array.getElem?_push,Array.size_push]
  rw [if_pos trivial]
 have hsz:(((w.alloc (.cells #[.int .i64 p1,.int .i64 p2] 94)).alloc (.cells #[.int .i64 v.authority,.int .i64 v.number,.int .i64 v.pos,.string ⟨v.prev.toArray⟩,va,.int .i64 v.sel.index,v1,v2,.int .i64 vv.authority,.int .i64 vv.number,.int .i64 vv.pos,.string ⟨vv.prev.toArray⟩,vb,.int .i64 vv.sel.index,v3,v4] 97)).alloc (.cells #[.int .i64 0,.int .i64 0,.int .i64 0,.string ⟨#[]⟩,.slice none 0 0,.int .i64 0,.slice none 0 0,.slice none 0 0,.int .i64 0,.int .i64 0,.int .i64 0,.string ⟨#[]⟩,.slice none 0 0,.int .i64 0,.slice none 0 0,.slice none 0 0] 97)).heap.size=w.heap.size+3:=by simp
 generalize ((w.alloc (.cells #[.int .i64 p1,.int .i64 p2] 94)).alloc (.cells #[.int .i64 v.authority,.int .i64 v.number,.int .i64 v.pos,.string ⟨v.prev.toArray⟩,va,.int .i64 v.sel.index,v1,v2,.int .i64 vv.authority,.int .i64 vv.number,.int .i64 vv.pos,.string ⟨vv.prev.toArray⟩,vb,.int .i64 vv.sel.index,v3,v4] 97)).alloc (.cells #[.int .i64 0,.int .i64 0,.int .i64 0,.string ⟨#[]⟩,.slice none 0 0,.int .i64 0,.slice none 0 0,.slice none 0 0,.int .i64 0,.int .i64 0,.int .i64 0,.string ⟨#[]⟩,.slice none 0 0,.int .i64 0,.slice none 0 0,.slice none 0 0] 97)=W0 at *
 have SS:∀ W',Below W0.heap.size W0 W'→W'.cell? ⟨c,o,none⟩=some (.map (some r))∧W'.cell? ⟨w.heap.size,0,none⟩=some (.int .i64 p1)∧W'.cell? ⟨w.heap.size,1,none⟩=some (.int .i64 p2)∧(Instr.lookup 75 (.map (some r)) (.agg #[.int .i64 p1,.int .i64 p2]) true).run prog W'=_:=fun W' hb =>
  ⟨((hB0.trans (hb.mono hB0.size)).cell (p:=⟨c,o,none⟩) gI).trans hc,(hb.cell (p:=⟨w.heap.size,0,none⟩) (by show w.heap.size<_;omega)).trans (Aa hblk 0),(hb.cell (p:=⟨w.heap.size,1,none⟩) (by show w.heap.size<_;omega)).trans (Aa hblk 1),L W' (hB0.trans (hb.mono hB0.size))⟩
 have hBd:Below W0.heap.size W0 W0.drew:=(Below.refl _ W0).drew
 clear L
 go_region_held3 (fun W'=>W'.cell? ⟨c,o,none⟩=some (.map (some r))∧W'.cell? ⟨w.heap.size,0,none⟩=some (.int .i64 p1)∧W'.cell? ⟨w.heap.size,1,none⟩=some (.int .i64 p2)∧(Instr.lookup 75 (.map (some r)) (.agg #[.int .i64 p1,.int .i64 p2]) true).run prog W'=.ok (.tuple #[.agg #[.int .i64 0,.int .i64 0,.int .i64 0,.string ⟨#[]⟩,.slice none 0 0,.int .i64 0,.slice none 0 0,.slice none 0 0,.int .i64 0,.int .i64 0,.int .i64 0,.string ⟨#[]⟩,.slice none 0 0,.int .i64 0,.slice none 0 0,.slice none 0 0],.bool false]) W') ((refine SS _ ?_;repeat (first|exact hBd|exact Below.refl _ _|refine Below.drew ?_|refine Below.alloc ?_ (by simp <;> omega) _|refine Below.setCell ?_ (by simp <;> omega) _))) (first|fail)
 all_goals
  have hBX:Below W0.heap.size W0 (W0.alloc (.cells #[.int .i64 0,.int .i64 0,.int .i64 0,.string ⟨#[]⟩,.slice none 0 0,.int .i64 0,.slice none 0 0,.slice none 0 0,.int .i64 0,.int .i64 0,.int .i64 0,.string ⟨#[]⟩,.slice none 0 0,.int .i64 0,.slice none 0 0,.slice none 0 0] 97)).drew:=((Below.refl _ W0).alloc nR _).drew
  have hrX:(W0.alloc (.cells #[.int .i64 0,.int .i64 0,.int .i64 0,.string ⟨#[]⟩,.slice none 0 0,.int .i64 0,.slice none 0 0,.slice none 0 0,.int .i64 0,.int .i64 0,.int .i64 0,.string ⟨#[]⟩,.slice none 0 0,.int .i64 0,.slice none 0 0,.slice none 0 0] 97)).drew.rangeAt (w.heap.size+3) 0 [.int .i64 0,.int .i64 0,.int .i64 0,.string ⟨#[]⟩,.slice none 0 0,.int .i64 0,.slice none 0 0,.slice none 0 0,.int .i64 0,.int .i64 0,.int .i64 0,.string ⟨#[]⟩,.slice none 0 0,.int .i64 0,.slice none 0 0,.slice none 0 0]:=by
   rw [← hsz]
   exact fun j u hj=>Br W0 [.int .i64 0,.int .i64 0,.int .i64 0,.string ⟨#[]⟩,.slice none 0 0,.int .i64 0,.slice none 0 0,.slice none 0 0,.int .i64 0,.int .i64 0,.int .i64 0,.string ⟨#[]⟩,.slice none 0 0,.int .i64 0,.slice none 0 0,.slice none 0 0] 97 j u hj
  have hth:(W0.alloc (.cells #[.int .i64 0,.int .i64 0,.int .i64 0,.string ⟨#[]⟩,.slice none 0 0,.int .i64 0,.slice none 0 0,.slice none 0 0,.int .i64 0,.int .i64 0,.int .i64 0,.string ⟨#[]⟩,.slice none 0 0,.int .i64 0,.slice none 0 0,.slice none 0 0] 97)).drew.there (w.heap.size+1+1) 0 16:=fun j hj=>by
   have h2:=(hBX.block (w.heap.size+1+1) (by omega)).trans hblk2
   refine⟨?_,Ao h2 _⟩
   rw [Nat.zero_add,Aa h2 j]
   rcases (by omega:j=0∨j=1∨j=2∨j=3∨j=4∨j=5∨j=6∨j=7∨j=8∨j=9∨j=10∨j=11∨j=12∨j=13∨j=14∨j=15) with rfl|rfl|rfl|rfl|rfl|rfl|rfl|rfl|rfl|rfl|rfl|rfl|rfl|rfl|rfl|rfl <;> rfl
  have hi8:(prog.info? 97).map (·.size)=some 16:=by kernel_rfl
  have hall:(#[.int .i64 0,.int .i64 0,.int .i64 0,.string ⟨#[]⟩,.slice none 0 0,.int .i64 0,.slice none 0 0,.slice none 0 0,.int .i64 0,.int .i64 0,.int .i64 0,.string ⟨#[]⟩,.slice none 0 0,.int .i64 0,.slice none 0 0,.slice none 0 0]:Array Value).all (·.oneCell')=true:=all_oneCell_toArray (cs:=[.int .i64 0,.int .i64 0,.int .i64 0,.string ⟨#[]⟩,.slice none 0 0,.int .i64 0,.slice none 0 0,.slice none 0 0,.int .i64 0,.int .i64 0,.int .i64 0,.string ⟨#[]⟩,.slice none 0 0,.int .i64 0,.slice none 0 0,.slice none 0 0]) (by
   intro u hu
   simp only [List.mem_cons,List.not_mem_nil,or_false] at hu
   rcases hu with rfl|rfl|rfl|rfl|rfl|rfl|rfl|rfl|rfl|rfl|rfl|rfl|rfl|rfl|rfl|rfl <;> rfl)
  have hBw:=hB0.trans (hBX.mono hB0.size)
  obtain⟨s1,s2,s3,_⟩:=SS _ hBX
  have fZ:=(hBX.block (w.heap.size+1) (by omega)).trans hblk1
  have hb2X:=(hBX.block (w.heap.size+1+1) (by omega)).trans hblk2
  have hUP:=UP _ (hBw.drew)
  have hmX:=hm.below hBw
  clear SS hBd hBX hblk hblk1 hblk2 UP hm
  generalize (W0.alloc (.cells #[.int .i64 0,.int .i64 0,.int .i64 0,.string ⟨#[]⟩,.slice none 0 0,.int .i64 0,.slice none 0 0,.slice none 0 0,.int .i64 0,.int .i64 0,.int .i64 0,.string ⟨#[]⟩,.slice none 0 0,.int .i64 0,.slice none 0 0,.slice none 0 0] 97)).drew=X at *
  have hrF:=hid (World.rangeAt_setCells_same X (w.heap.size+1+1) 0 [.int .i64 0,.int .i64 0,.int .i64 0,.string ⟨#[]⟩,.slice none 0 0,.int .i64 0,.slice none 0 0,.slice none 0 0,.int .i64 0,.int .i64 0,.int .i64 0,.string ⟨#[]⟩,.slice none 0 0,.int .i64 0,.slice none 0 0,.slice none 0 0] hth)
  have hBF:=hid (Bh (b:=w.heap.size+1+1) hBw (by omega) [.int .i64 0,.int .i64 0,.int .i64 0,.string ⟨#[]⟩,.slice none 0 0,.int .i64 0,.slice none 0 0,.slice none 0 0,.int .i64 0,.int .i64 0,.int .i64 0,.string ⟨#[]⟩,.slice none 0 0,.int .i64 0,.slice none 0 0,.slice none 0 0] 0)
  replace hrX:=hid hrX
  replace hth:=hid hth
  replace hall:=hid hall
  simp only [Exit.then]
  refine hK _ _ ?_
  clear hK
  go_wp2_with fail
  obtain⟨ob,u1,u2,_⟩:=hUP
  have SX:∀ W',Cells X W'→W'.cell? ⟨c,o,none⟩=some (.map (some r))∧W'.cell? ⟨w.heap.size,0,none⟩=some (.int .i64 p1)∧W'.cell? ⟨w.heap.size,1,none⟩=some (.int .i64 p2)∧W'.cell? ⟨w.heap.size+1,0,none⟩=some (.int .i64 v.authority)∧W'.cell? ⟨w.heap.size+1,1,none⟩=some (.int .i64 v.number)∧W'.cell? ⟨w.heap.size+1,2,none⟩=some (.int .i64 v.pos)∧W'.cell? ⟨w.heap.size+1,3,none⟩=some (.string ⟨v.prev.toArray⟩)∧W'.cell? ⟨w.heap.size+1,4,none⟩=some va∧W'.cell? ⟨w.heap.size+1,5,none⟩=some (.int .i64 v.sel.index)∧W'.cell? ⟨w.heap.size+1,6,none⟩=some v1∧W'.cell? ⟨w.heap.size+1,7,none⟩=some v2∧W'.cell? ⟨w.heap.size+1,8,none⟩=some (.int .i64 vv.authority)∧W'.cell? ⟨w.heap.size+1,9,none⟩=some (.int .i64 vv.number)∧W'.cell? ⟨w.heap.size+1,10,none⟩=some (.int .i64 vv.pos)∧W'.cell? ⟨w.heap.size+1,11,none⟩=some (.string ⟨vv.prev.toArray⟩)∧W'.cell? ⟨w.heap.size+1,12,none⟩=some vb∧W'.cell? ⟨w.heap.size+1,13,none⟩=some (.int .i64 vv.sel.index)∧W'.cell? ⟨w.heap.size+1,14,none⟩=some v3∧W'.cell? ⟨w.heap.size+1,15,none⟩=some v4:=fun W' hb=>⟨hb _ _ s1,hb _ _ s2,hb _ _ s3,hb _ _ (Aa fZ 0),hb _ _ (Aa fZ 1),hb _ _ (Aa fZ 2),hb _ _ (Aa fZ 3),hb _ _ (Aa fZ 4),hb _ _ (Aa fZ 5),hb _ _ (Aa fZ 6),hb _ _ (Aa fZ 7),hb _ _ (Aa fZ 8),hb _ _ (Aa fZ 9),hb _ _ (Aa fZ 10),hb _ _ (Aa fZ 11),hb _ _ (Aa fZ 12),hb _ _ (Aa fZ 13),hb _ _ (Aa fZ 14),hb _ _ (Aa fZ 15)⟩
  have hBd:Below X.heap.size X X.drew:=(Below.refl _ X).drew
  have hHX:Held [r] X (X.drew.putObj r ob):=⟨hBd.os,hBd.tape,hBd.output,by simp [World.putObj],fun k hk hr=>(World.putObj_heap_other (by simpa using hr)).trans (hBd.block k hk)⟩
  have hcp:Cells X (X.drew.putObj r ob):=hHX.cells (fun q hq=>by
   cases List.mem_singleton.1 hq
   obtain⟨es,ck,e,_⟩:=hmX
   exact⟨es,ck,e⟩)
  have hcd:Cells X X.drew:=Cells.of_below hBd
  have hcr:Cells X X:=fun _ _ h=>h
  go_region_held3 (fun W'=>W'.cell? ⟨c,o,none⟩=some (.map (some r))∧W'.cell? ⟨w.heap.size,0,none⟩=some (.int .i64 p1)∧W'.cell? ⟨w.heap.size,1,none⟩=some (.int .i64 p2)∧W'.cell? ⟨w.heap.size+1,0,none⟩=some (.int .i64 v.authority)∧W'.cell? ⟨w.heap.size+1,1,none⟩=some (.int .i64 v.number)∧W'.cell? ⟨w.heap.size+1,2,none⟩=some (.int .i64 v.pos)∧W'.cell? ⟨w.heap.size+1,3,none⟩=some (.string ⟨v.prev.toArray⟩)∧W'.cell? ⟨w.heap.size+1,4,none⟩=some va∧W'.cell? ⟨w.heap.size+1,5,none⟩=some (.int .i64 v.sel.index)∧W'.cell? ⟨w.heap.size+1,6,none⟩=some v1∧W'.cell? ⟨w.heap.size+1,7,none⟩=some v2∧W'.cell? ⟨w.heap.size+1,8,none⟩=some (.int .i64 vv.authority)∧W'.cell? ⟨w.heap.size+1,9,none⟩=some (.int .i64 vv.number)∧W'.cell? ⟨w.heap.size+1,10,none⟩=some (.int .i64 vv.pos)∧W'.cell? ⟨w.heap.size+1,11,none⟩=some (.string ⟨vv.prev.toArray⟩)∧W'.cell? ⟨w.heap.size+1,12,none⟩=some vb∧W'.cell? ⟨w.heap.size+1,13,none⟩=some (.int .i64 vv.sel.index)∧W'.cell? ⟨w.heap.size+1,14,none⟩=some v3∧W'.cell? ⟨w.heap.size+1,15,none⟩=some v4) ((refine SX _ ?_;first|exact hcp|exact hcd|exact hcr)) (first|fail)
  have hXs:w.heap.size≤X.heap.size:=hBw.size
  have hb1Y:=(hHX.block (w.heap.size+1) (aZ fZ) (by simp;omega)).trans fZ
  have hb2Y:=(hHX.block (w.heap.size+1+1) (aZ hb2X) (by simp;omega)).trans hb2X
  clear SX hBd hcp hcd hcr u1 hmX hth hrX hrF hBF hall
  have hrY:(X.drew.putObj r ob).rangeAt (w.heap.size+1) 0 [.int .i64 v.authority,.int .i64 v.number,.int .i64 v.pos,.string ⟨v.prev.toArray⟩,va,.int .i64 v.sel.index,v1,v2,.int .i64 vv.authority,.int .i64 vv.number,.int .i64 vv.pos,.string ⟨vv.prev.toArray⟩,vb,.int .i64 vv.sel.index,v3,v4]:=fun j u hj=>by
   rw [Nat.zero_add,Aa hb1Y j]
   simpa using hj
  have hthY:(X.drew.putObj r ob).there (w.heap.size+1+1) 0 16:=fun j hj=>by
   refine⟨?_,Ao hb2Y _⟩
   rw [Nat.zero_add,Aa hb2Y j]
   rcases (by omega:j=0∨j=1∨j=2∨j=3∨j=4∨j=5∨j=6∨j=7∨j=8∨j=9∨j=10∨j=11∨j=12∨j=13∨j=14∨j=15) with rfl|rfl|rfl|rfl|rfl|rfl|rfl|rfl|rfl|rfl|rfl|rfl|rfl|rfl|rfl|rfl <;> rfl
  generalize X.drew.putObj r ob=Y at *
  have hrF:=hid (World.rangeAt_setCells_same Y (w.heap.size+1+1) 0 [.int .i64 v.authority,.int .i64 v.number,.int .i64 v.pos,.string ⟨v.prev.toArray⟩,va,.int .i64 v.sel.index,v1,v2,.int .i64 vv.authority,.int .i64 vv.number,.int .i64 vv.pos,.string ⟨vv.prev.toArray⟩,vb,.int .i64 vv.sel.index,v3,v4] hthY)
  have hBF:=hid (Bh (b:=w.heap.size+1+1) (Below.refl w.heap.size Y) (by omega) [.int .i64 v.authority,.int .i64 v.number,.int .i64 v.pos,.string ⟨v.prev.toArray⟩,va,.int .i64 v.sel.index,v1,v2,.int .i64 vv.authority,.int .i64 vv.number,.int .i64 vv.pos,.string ⟨vv.prev.toArray⟩,vb,.int .i64 vv.sel.index,v3,v4] 0)
  have hall:=hid (all_oneCell_toArray hoc.out)
  replace hrY:=hid hrY
  replace hthY:=hid hthY
  go_wp2_with (refine wpList_load_mid rfl 97 _ rfl (w.heap.size+1) 0 rfl [.int .i64 v.authority,.int .i64 v.number,.int .i64 v.pos,.string ⟨v.prev.toArray⟩,va,.int .i64 v.sel.index,v1,v2,.int .i64 vv.authority,.int .i64 vv.number,.int .i64 vv.pos,.string ⟨vv.prev.toArray⟩,vb,.int .i64 vv.sel.index,v3,v4] _ hrY.out underlying97 rfl hi8 ?_;refine wpList_store_mid rfl 97 _ _ rfl (w.heap.size+1+1) 0 #[.int .i64 v.authority,.int .i64 v.number,.int .i64 v.pos,.string ⟨v.prev.toArray⟩,va,.int .i64 v.sel.index,v1,v2,.int .i64 vv.authority,.int .i64 vv.number,.int .i64 vv.pos,.string ⟨vv.prev.toArray⟩,vb,.int .i64 vv.sel.index,v3,v4] rfl rfl hthY.out hi8 hall.out ?_)
  refine bodyPost_ret (Cl rfl _ _ ⟨w.heap.size+1+1,0,none⟩ _ rfl (run_loadVar_mid _ (w.heap.size+1+1) 0 97 [.int .i64 v.authority,.int .i64 v.number,.int .i64 v.pos,.string ⟨v.prev.toArray⟩,va,.int .i64 v.sel.index,v1,v2,.int .i64 vv.authority,.int .i64 vv.number,.int .i64 vv.pos,.string ⟨vv.prev.toArray⟩,vb,.int .i64 vv.sel.index,v3,v4] _ hrF.out underlying97 rfl hi8)) rfl ?_
  refine⟨rfl,⟨hBF.out.os.trans (hHX.os.trans hBw.os),hBF.out.tape.trans (hHX.tape.trans hBw.tape),hBF.out.output.trans (hHX.output.trans hBw.output),nT hBw.size (nT hHX.size hBF.out.size),fun k hk hr=>(hBF.out.block k hk).trans ((hHX.block k (nL hk hXs) hr).trans (hBw.block k hk))⟩,?_⟩
  obtain⟨es,ck,e1,e2⟩:=u2
  exact⟨es,ck,(hBF.out.block r hrlt).trans e1,e2⟩
def dO (v:CH.Version) (key:List UInt8):Bool:=match CH.bK v with
 | .error _=>false
 | .ok _=>v.sel.index==v.number - 1&&Hq key (CH.msg v) v.sel.index v.sel.sig v.sel.path
theorem Lh (v:CH.Version) (s:bF) (key:List UInt8) (w:World) (hG:Gc w) (h:aK w.heap.size w v s) :
  Calls prog 34 #[.agg (Ab v s).toArray,.string ⟨key.toArray⟩] w (Ret w (.bool (dO v key))):=by
 obtain⟨R,hR⟩:∃ R,Hid (dO v key=R):=⟨_,hid rfl⟩
 rw [hR.out]
 have hR1:=hR.out
 unfold dO at hR1
 have hB0:=fun o=>(Below.refl _ w).alloc nR o
 have HV:=hid fun (W:World) (hb:Below w.heap.size w W)=>(h.below hb nR).mono hb.size
 have T:=fun (W:World) (hb:Below w.heap.size w W)=>Di v s W (hG.below hb) (HV.out W hb)
 have M:=fun (W:World) (hb:Below w.heap.size w W)=>Gd v s W (hG.below hb) (HV.out W hb)
 obtain⟨x,hx⟩:∃ x,CH.bK v=x:=⟨_,rfl⟩
 have herr:∀ e,x=.error e→e≠0:=fun e he=>by
  rcases K7 (hx.trans he) with rfl|rfl <;> decide
 have hnum:∀ y,x=.ok y→1≤v.number∧v.number≤200:=fun y hy=>by
  obtain⟨u,hu⟩:=Ms (hx.trans hy)
  have:=bare_ok hu
  omega
 simp only [resV_msg] at M
 have hml:=msg_len v
 generalize errInt (CH.message v)=me at M
 generalize CH.msg v=mm at M hR1 hml
 rw [hx] at hR1 T
 have HS:=hid h.small
 have V:=fun (W:World) (hb:Below w.heap.size w W)=>verify_any key mm v.sel.index s.v1 s.v2 v.sel.sig v.sel.path W (hG.below hb).gl (nT hml (by decide)) (HV.out W hb).sig (HV.out W hb).path (fun l hl=>nT (HS.out.sig.2 l hl) (by decide)) (fun l hl=>nT (HS.out.path.2 l hl) (by decide)) HS.out.index
 obtain⟨va,v1,v2⟩:=s
 clear h hx hR
 dsimp only [Ab] at T M V ⊢
 have T:=hid T
 have M:=hid M
 have V:=hid V
 go_enter func34,ntmps34
 go_wp2_with fail
 refine (T.out _ (hB0 _)).mono ?_
 rintro e w1 ⟨rfl,hb1⟩
 have hB1:Below w.heap.size w w1:=(hB0 _).trans (hb1.mono (by simp))
 have hblk:=(hb1.block w.heap.size (by simp)).trans (heap_alloc_last w _)
 have hlt1:w.heap.size<w1.heap.size:=(aZ hblk)
 have k0:w1.cell? ⟨w.heap.size,0,none⟩=some (.int .i64 v.authority):=Aa hblk 0
 have k1:w1.cell? ⟨w.heap.size,1,none⟩=some (.int .i64 v.number):=Aa hblk 1
 have k2:w1.cell? ⟨w.heap.size,2,none⟩=some (.int .i64 v.pos):=Aa hblk 2
 have k3:w1.cell? ⟨w.heap.size,3,none⟩=some (.string ⟨v.prev.toArray⟩):=Aa hblk 3
 have k4:w1.cell? ⟨w.heap.size,4,none⟩=some va:=Aa hblk 4
 have k5:w1.cell? ⟨w.heap.size,5,none⟩=some (.int .i64 v.sel.index):=Aa hblk 5
 have k6:w1.cell? ⟨w.heap.size,6,none⟩=some v1:=Aa hblk 6
 have k7:w1.cell? ⟨w.heap.size,7,none⟩=some v2:=Aa hblk 7
 clear T hb1
 cases x with
 | error e =>
  dsimp only [resV]
  dsimp only at hR1
  have q:(e==0)=false:=by simpa using herr e rfl
  replace hR1:=hid hR1
  clear herr hnum hblk M V
  go_wp2
  go_ret
  exact⟨by rw [← hR1.out];rfl,hB1⟩
 | ok y =>
  have hn:=hnum y rfl
  dsimp only [resV]
  dsimp only at hR1
  replace hR1:=hid hR1
  clear herr hnum
  by_cases hi:v.sel.index=v.number - 1
  ·have q1:(v.sel.index==v.number - 1)=true:=by simpa using hi
   have hR2:Hid (Hq key mm v.sel.index v.sel.sig v.sel.path=R):=hid (by rw [← hR1.out,q1];rfl)
   clear hR1 hi
   go_wp2_with fail
   refine (M.out _ hB1).mono ?_
   rintro e w2 ⟨rfl,hb2⟩
   have hB2:Below w.heap.size w w2:=hB1.trans (hb2.mono hB1.size)
   have hblk2:=(hb2.block w.heap.size hlt1).trans hblk
   have m5:w2.cell? ⟨w.heap.size,5,none⟩=some (.int .i64 v.sel.index):=Aa hblk2 5
   have m6:w2.cell? ⟨w.heap.size,6,none⟩=some v1:=Aa hblk2 6
   have m7:w2.cell? ⟨w.heap.size,7,none⟩=some v2:=Aa hblk2 7
   clear M k0 k1 k2 k3 k4 k5 k6 k7 hblk hblk2
   go_wp2_with fail
   refine (V.out _ hB2).mono ?_
   rintro e w3 ⟨rfl,hb3⟩
   clear V
   go_wp2
   go_ret
   exact⟨by rw [← hR2.out];rfl,hB2.trans (hb3.mono hB2.size)⟩
  ·have q1:(v.sel.index==v.number - 1)=false:=by simpa using hi
   have hR2:Hid (false=R):=hid (by rw [← hR1.out,q1];rfl)
   clear hR1 M V hblk
   go_wp2
   go_ret
   exact⟨by rw [← hR2.out];rfl,hB1⟩
end
end Go.Proofs.YtjaeapaeaiiieaaGreatDoor
namespace CH
section
def fQ (chk:Version→Str→Bool) (keys:List Str) (known:Known) (forks:Forks) (v:Version):Int × Known × Forks :=
 match bK v with
 | .error _=>(1,known,forks)
 | .ok _ =>
  if decide (v.authority ≥ keys.length) then (1,known,forks)
  else if !chk v (keys.getD v.authority.toNat []) then (16,known,forks)
  else match aX (v.authority,v.number) known with
   | none=>(0,known++[((v.authority,v.number),v)],forks)
   | some old=>if (bare old).getD []==(bare v).getD [] then (0,known,forks)
    else (17,known,addFork (v.authority,v.number) (old,v) forks)
theorem within_ok {n most:Int} (h:within n most=true):0≤n∧n≤most:=by
 simpa [within] using h
theorem bare_nums {v:Version} {u:Str} (h:bare v=some u):0≤v.authority∧1≤v.number∧v.number≤200:=by
 unfold bare at h
 split at h
 ·cases h
 ·rename_i hc
  simp only [Bool.or_eq_true,Bool.not_eq_true',not_or,Bool.not_eq_false,Bool.and_eq_true,decide_eq_true_eq] at hc
  obtain⟨⟨⟨⟨⟨h1,h2⟩,_⟩,_⟩,_⟩,_⟩:=hc
  have:=within_ok h1
  omega
theorem vText_nums {v:Version} {t:Str} (h:bK v=.ok t):0≤v.authority∧1≤v.number∧v.number≤200:=by
 unfold bK at h
 cases hb:bare v with
 | none=>rw [hb] at h;cases h
 | some u=>exact bare_nums hb
theorem He {P:Int × Known × Forks→Prop} (chk:Version→Str→Bool) (keys:List Str) (known:Known) (forks:Forks) (v:Version)
  (h0:∀ e f,P (e,known,f)) (h1:∀ t,bK v=.ok t→v.authority<keys.length→chk v (keys.getD v.authority.toNat [])=true→aX (v.authority,v.number) known=none→P (0,known++[((v.authority,v.number),v)],forks)):P (fQ chk keys known forks v):=by
 unfold fQ
 split
 ·exact h0 _ _
 ·rename_i t ht
  split
  ·exact h0 _ _
  ·rename_i ha
   split
   ·exact h0 _ _
   ·rename_i hc
    split
    ·rename_i hl
     exact h1 t ht (by simpa using ha) (by simpa using hc) hl
    ·split <;> exact h0 _ _
theorem addV_good {chk:Version→Str→Bool} {keys:List Str} {known:Known} (hG:Good chk keys known) (forks:Forks) (v:Version):Good chk keys (fQ chk keys known forks v).2.1:=by
 refine He (P:=fun r=>Good chk keys r.2.1) chk keys known forks v (fun _ _=>hG) fun t ht ha hc _=>?_
 have hn:=vText_nums ht
 have key:∀ p u,(p,u)∈known++[((v.authority,v.number),v)]→(p,u)∈known∨p=(v.authority,v.number)∧u=v:=fun p u hp=>by
  rcases List.mem_append.1 hp with h|h
  ·exact .inl h
  ·cases List.mem_singleton.1 h
   exact .inr ⟨rfl,rfl⟩
 refine⟨fun p u hp=>?_,fun p u hp=>?_,fun p u hp=>?_,fun p u hp=>?_⟩
 all_goals rcases key p u hp with h|⟨rfl,rfl⟩
 ·exact hG.key _ _ h
 ·rfl
 ·exact hG.number _ _ h
 ·exact⟨hn.2.1,hn.2.2⟩
 ·exact hG.authority _ _ h
 ·exact⟨hn.1,ha⟩
 ·exact hG.check _ _ h
 ·exact hc
theorem addV_length (chk:Version→Str→Bool) (keys:List Str) (known:Known) (forks:Forks) (v:Version):(fQ chk keys known forks v).2.1.length≤known.length+1 :=
 He (P:=fun r=>r.2.1.length≤known.length+1) chk keys known forks v (fun _ _=>Nat.le_succ _) fun _ _ _ _ _=>by simp
def dL (chk:Version→Str→Bool) (keys:List Str):List Version→Known→Forks→Known × Forks
 | [],known,forks=>(known,forks)
 | v::l,known,forks=>dL chk keys l (fQ chk keys known forks v).2.1 (fQ chk keys known forks v).2.2
theorem gX {chk:Version→Str→Bool} {keys:List Str}:∀ (l:List Version) (known:Known) (forks:Forks),Good chk keys known→Good chk keys (dL chk keys l known forks).1
 | [],_,_,h=>h
 | v::l,_,forks,h=>gX l _ _ (addV_good h forks v)
theorem addAll_length {chk:Version→Str→Bool} {keys:List Str}:∀ (l:List Version) (known:Known) (forks:Forks),(dL chk keys l known forks).1.length≤known.length+l.length
 | [],_,_=>Nat.le_refl _
 | v::l,known,forks=>by
  have h1:=addAll_length (chk:=chk) (keys:=keys) l (fQ chk keys known forks v).2.1 (fQ chk keys known forks v).2.2
  have h2:=addV_length chk keys known forks v
  rw [dL,List.length_cons]
  omega
theorem addAll_snoc (chk:Version→Str→Bool) (keys:List Str):∀ (l:List Version) (v:Version) (known:Known) (forks:Forks),dL chk keys (l++[v]) known forks=(fQ chk keys (dL chk keys l known forks).1 (dL chk keys l known forks).2 v).2
 | [],_,_,_=>rfl
 | _::l,v,_,_=>addAll_snoc chk keys l v _ _
theorem good_nil (chk:Version→Str→Bool) (keys:List Str):Good chk keys []:=⟨fun _ _ h=>(by cases h),fun _ _ h=>(by cases h),fun _ _ h=>(by cases h),fun _ _ h=>(by cases h)⟩
theorem isHex_digit (n:Nat) (h:n<16):isHex (hexDigit n)=true:=by
 have:∀ k:Fin 16,isHex (hexDigit k.val)=true:=by decide +kernel
 exact this ⟨n,h⟩
theorem hexK_hex (k n:Nat):(fG k n).all isHex=true:=by
 induction k generalizing n with
 | zero=>rfl
 | succ k ih=>simp only [fG,List.all_append,ih,List.all_cons,List.all_nil,isHex_digit _ (Nat.mod_lt n (by decide:0<16)),Bool.and_self]
theorem G8 (l:List UInt8):aF (sum l)=true:=by
 have h1:=dK l
 have h2:(sum l).all isHex=true:=by unfold sum;generalize sumN l=n;exact hexK_hex 16 n
 generalize sum l=s at *
 unfold aF
 rw [h1,h2]
 rfl
theorem H7 (ls:List (List UInt8)):aF (dl ls)=true:=G8 _
theorem isDigest_chain (n:Nat) (l:List UInt8) (h:aF l=true):aF (chain n l)=true:=by
 cases n with
 | zero=>exact h
 | succ n=>rw [chain_succ'];exact G8 _
theorem isDigest_root (ls:List (List UInt8)):aF (root ls)=true:=by
 rcases ls with _|⟨x,_|⟨y,r⟩⟩
 ·exact H7 _
 ·exact H7 _
 ·rw [root_two _ (by simp)];exact G8 _
theorem H6 (f:Nat):∀ (ls:List (List UInt8)) (i:Nat),∀ x∈fU f ls i,aF x=true:=by
 induction f with
 | zero=>intro ls i x hx;simp [fU] at hx
 | succ f ih =>
  intro ls i x hx
  unfold fU at hx
  split at hx
  ·simp at hx
  ·split at hx
   ·rcases List.mem_cons.1 hx with rfl|hx
    ·exact isDigest_root _
    ·exact ih _ _ x hx
   ·rcases List.mem_cons.1 hx with rfl|hx
    ·exact isDigest_root _
    ·exact ih _ _ x hx
theorem isDigest_path (ls:List (List UInt8)) (i:Nat):∀ x∈path ls i,aF x=true:=fun x hx=>H6 _ _ _ x (List.mem_reverse.1 hx)
theorem isDigest_sig (secret:List UInt8) (i:Nat) (m:List UInt8):∀ x∈sig secret i m,aF x=true:=fun x hx=>by
 obtain⟨y,_,rfl⟩:=List.mem_map.1 hx
 exact isDigest_chain _ _ (H7 _)
theorem chain_add (a b:Nat) (l:List UInt8):chain a (chain b l)=chain (b+a) l:=by
 induction b generalizing l with
 | zero=>rw [Nat.zero_add];rfl
 | succ b ih=>rw [Nat.add_right_comm];exact ih (sum l)
theorem length_sig (secret:List UInt8) (i:Nat) (m:List UInt8):(sig secret i m).length=18:=by
 simp [sig,length_digits]
theorem ends_sig (secret:List UInt8) (i:Nat) (m:List UInt8):ends (sig secret i m) m=(List.range 18).map fun k=>chain 15 (start secret i k):=by
 apply List.ext_getElem?
 intro k
 by_cases hk:k<18
 ·have hd:k<(digits m).length:=by rw [length_digits];exact hk
  obtain⟨d,hdk⟩:∃ d,(digits m)[k]?=some d:=⟨_,List.getElem?_eq_getElem hd⟩
  have hle:=digits_le m _ (List.mem_of_getElem? hdk)
  have hz:((digits m).zip (sig secret i m))[k]?=some (d,chain d (start secret i k)):=by
   rw [List.getElem?_zip_eq_some]
   refine⟨hdk,?_⟩
   unfold sig
   rw [List.getElem?_map,List.getElem?_zipIdx,hdk,Option.map_some,Option.map_some,Nat.zero_add]
  unfold ends
  rw [List.getElem?_map,hz,List.getElem?_map,List.getElem?_range hk,Option.map_some,Option.map_some]
  dsimp only
  rw [chain_add,show d+(15 - d)=15 from by omega]
 ·rw [List.getElem?_eq_none (by simp [ends,length_digits,length_sig];omega),List.getElem?_eq_none (by simp;omega)]
theorem dl_ends_sig (secret:List UInt8) (i:Nat) (m:List UInt8):dl (ends (sig secret i m) m)=otKey secret i:=by
 rw [ends_sig];rfl
theorem keys_at (secret:List UInt8) (h i:Nat) (hi:i<2 ^ h):(keys secret h)[i]?=some (otKey secret i):=by
 unfold keys
 rw [List.getElem?_map,List.getElem?_range hi]
 rfl
theorem Nb (l:List (List UInt8)) (d:List UInt8) (b:Bool) (hd:d.length=16):eX (l++[d],b)=(d,(l,b)):=by
 unfold eX
 rw [List.getLast?_concat]
 dsimp only
 rw [List.dropLast_concat]
 have:d.isEmpty=false:=by cases d with|nil=>simp at hd|cons=>rfl
 rw [this,Bool.or_false]
theorem upF_path (f:Nat):∀ (g:Nat) (ls:List (List UInt8)) (i:Nat) (leaf:List UInt8) (pre:List (List UInt8)) (b:Bool),ls.length≤f→ls.length≤g→ls[i]?=some leaf →
  upF leaf f ls.length i (pre++(fU g ls i).reverse,b)=(root ls,(pre,b)):=by
 induction f with
 | zero =>
  intro g ls i leaf pre b hf _ hi
  have:ls=[]:=List.length_eq_zero_iff.1 (by omega)
  subst this
  simp at hi
 | succ f ih =>
  intro g ls i leaf pre b hf hg hi
  have hil:i<ls.length:=(List.getElem?_eq_some_iff.1 hi).1
  by_cases h1:ls.length=1
  ·match ls,h1 with
   | [x],_ =>
    obtain rfl:i=0:=by simpa using hil
    obtain rfl:x=leaf:=by simpa using hi
    rw [pathF_one _ _ _ (by simp)]
    simp only [List.reverse_nil,List.append_nil]
    rfl
  ·have h2:2≤ls.length:=by omega
   obtain⟨g,rfl⟩:∃ g',g=g'+1:=⟨g - 1,by omega⟩
   have hp:=iL ls.length
   have hh:=half_lt ls.length h2
   have ht:(ls.take (half ls.length)).length=half ls.length:=by rw [List.length_take];omega
   have hd:(ls.drop (half ls.length)).length=ls.length - half ls.length:=by rw [List.length_drop]
   rw [upF,if_neg h1]
   by_cases hlt:i<half ls.length
   ·rw [if_pos hlt,pathF_left _ _ _ h2 hlt,List.reverse_cons,← List.append_assoc,Nb _ _ _ (length_root _)]
    dsimp only
    have:=ih g (ls.take (half ls.length)) i leaf pre b (by omega) (by omega) (by rw [List.getElem?_take_of_lt hlt];exact hi)
    rw [ht] at this
    rw [this,root_two ls h2]
   ·rw [if_neg hlt,pathF_right _ _ _ h2 hlt,List.reverse_cons,← List.append_assoc,Nb _ _ _ (length_root _)]
    dsimp only
    have:=ih g (ls.drop (half ls.length)) (i - half ls.length) leaf pre b (by omega) (by omega) (by rw [List.getElem?_drop,show half ls.length+(i - half ls.length)=i from by omega];exact hi)
    rw [hd] at this
    rw [this,root_two ls h2]
theorem treeCheck_path (ls:List (List UInt8)) (i:Nat) (leaf:List UInt8) (hi:ls[i]?=some leaf):dB (root ls) ls.length i leaf (path ls i)=true:=by
 have h:=upF_path ls.length ls.length ls i leaf [] false (Nat.le_refl _) (Nat.le_refl _) hi
 rw [List.nil_append] at h
 unfold dB path
 rw [h]
 have:(fU ls.length ls i).reverse.all aF=true:=by
  rw [List.all_eq_true]
  exact fun x hx=>H6 _ _ _ x (List.mem_reverse.1 hx)
 rw [this]
 simp
theorem halfL_pow (h:Nat):∀ (d j f:Nat),j+d=h→d≤f→halfL f (2 ^ (h+1)) (2 ^ j)=2 ^ h
 | 0,j,f,hj,_=>by
  obtain rfl:j=h:=by omega
  rw [halfL_done]
  rw [Nat.pow_succ];omega
 | d+1,j,f,hj,hf=>by
  obtain⟨f,rfl⟩:∃ f',f=f'+1:=⟨f - 1,by omega⟩
  have hlt:2 ^ (j+1)<2 ^ (h+1):=Nat.pow_lt_pow_right (by decide) (by omega)
  have e:2*2 ^ j=2 ^ (j+1):=by rw [Nat.pow_succ];omega
  rw [halfL,e,if_pos hlt]
  exact halfL_pow h d (j+1) f (by omega) (by omega)
theorem half_pow (h:Nat):half (2 ^ (h+1))=2 ^ h:=by
 have hlt:h<2 ^ h:=Nat.lt_two_pow_self
 have:2 ^ h≤2 ^ (h+1):=Nat.pow_le_pow_right (by decide) (by omega)
 exact halfL_pow h h 0 (2 ^ (h+1)) (by omega) (by omega)
theorem pathF_length (h:Nat):∀ (g:Nat) (ls:List (List UInt8)) (i:Nat),ls.length=2 ^ h→ls.length≤g→(fU g ls i).length=h:=by
 induction h with
 | zero=>intro g ls i hl _;rw [pathF_one _ _ _ (by rw [hl];exact Nat.le_refl _)];rfl
 | succ h ih =>
  intro g ls i hl hg
  have hpos:1≤2 ^ h:=Nat.one_le_two_pow
  have hs:2 ^ (h+1)=2 ^ h+2 ^ h:=by rw [Nat.pow_succ];omega
  obtain⟨g,rfl⟩:∃ g',g=g'+1:=⟨g - 1,by omega⟩
  have hhalf:half ls.length=2 ^ h:=by rw [hl];exact half_pow h
  by_cases hlt:i<half ls.length
  ·rw [pathF_left _ _ _ (by omega) hlt,List.length_cons,ih g _ _ (by rw [List.length_take,hhalf];omega) (by rw [List.length_take,hhalf];omega)]
  ·rw [pathF_right _ _ _ (by omega) hlt,List.length_cons,ih g _ _ (by rw [List.length_drop,hhalf];omega) (by rw [List.length_drop,hhalf];omega)]
theorem length_path (secret:List UInt8) (h i:Nat):(path (keys secret h) i).length=h:=by
 unfold path
 rw [List.length_reverse]
 exact pathF_length h _ _ _ (length_keys _ _) (Nat.le_refl _)
def zAct:Act:=⟨0,⟨0,[],⟨[],[]⟩,0⟩,⟨[],[],0,[],.mk 0 [] 0 0 [],0,0,0⟩,⟨[],[],[],0,0,0,0⟩,⟨[],[],[],[],[],[],0,0,0,0⟩,[],0⟩
def gy (n:Int):Act:={ zAct with kind:=7,id:=[104,49],n:=n }
def holdAct:Act:={ zAct with kind:=6,holding:=⟨[104,49],[112,49],[112,48],[],[],[],60,51,0,-1⟩ }
def sS:Str:=[115]
def bareOf (number pos:Int) (prev:Str) (acts:List Act):Version:=⟨0,number,pos,prev,acts,⟨0,[],[]⟩⟩
def sealed (i:Nat) (v:Version) (m:Str):Version:={ v with sel:=⟨i,sig sS i m,path (keys sS 1) i⟩ }
def hKey:Str:=pub sS 1
def m1:Str:=[49,53,51,102,50,53,51,99,54,48,57,98,102,50,57,97]
def m2:Str:=[48,51,57,50,98,52,53,97,52,98,98,54,50,56,51,51]
def m3:Str:=[51,56,98,97,54,56,53,102,97,98,52,55,57,57,56,102]
def m4:Str:=[97,97,56,50,51,52,51,48,99,102,51,49,98,55,54,53]
def bOne:Version:=bareOf 1 100 [] [gy 1]
def bTwo:Version:=bareOf 2 100 m1 [gy 2]
def bOther:Version:=bareOf 1 100 [] [gy 3]
def bEarly:Version:=bareOf 2 99 m1 []
def hOne:Version:=sealed 0 bOne m1
def hTwo:Version:=sealed 1 bTwo m2
def gq:Version:=sealed 0 bOther m3
def hEarly:Version:=sealed 1 bEarly m4
theorem okMsg {v:Version} {m:Str} (h:(match message v with|.error _=>false|.ok x=>x==m)=true):message v=.ok m:=by
 split at h
 ·cases h
 ·rename_i x e
  rw [e,beq_iff_eq.1 h]
theorem msgOne:message bOne=.ok m1:=okMsg (by decide +kernel)
theorem msgTwo:message bTwo=.ok m2:=okMsg (by decide +kernel)
theorem msgOther:message bOther=.ok m3:=okMsg (by decide +kernel)
theorem msgEarly:message bEarly=.ok m4:=okMsg (by decide +kernel)
theorem iK (i:Nat) (v:Version) (m:Str) (h:v.sel=⟨0,[],[]⟩):message (sealed i v m)=message v:=by
 obtain⟨_,_,_,_,_,_⟩:=v
 dsimp only at h
 subst h
 rfl
theorem okText {v:Version} (h:(match bK v with|.error _=>false|.ok _=>true)=true):∃ t,bK v=.ok t:=by
 split at h
 ·cases h
 ·rename_i x e
  exact⟨x,e⟩
theorem textOne:∃ t,bK hOne=.ok t:=okText (by decide +kernel)
theorem textTwo:∃ t,bK hTwo=.ok t:=okText (by decide +kernel)
theorem textOther:∃ t,bK gq=.ok t:=okText (by decide +kernel)
theorem textEarly:∃ t,bK hEarly=.ok t:=okText (by decide +kernel)
end
end CH
namespace Go.Proofs.YtjaeapaeaiiieaaGreatDoor
section
open Go.Lib Go.Proofs.Tryz Go.RowKit Go.Shelf Go.Sort
abbrev addC (keys:List (List UInt8)) (known:CH.Known) (forks:CH.Forks) (v:CH.Version):=CH.fQ dO keys known forks v
attribute [local irreducible] wpQuiet
def Hg (w:World) (c r1 r2:Nat) (keys:List (List UInt8)) (x:Int × CH.Known × CH.Forks) (e:Ending) (w':World):Prop :=
 e=.returned (.int .i64 x.1)∧aU w' c r1 r2 keys x.2.1 x.2.2∧Held [r1,r2] w w'
theorem add_text (c r1 r2:Nat) (keys:List (List UInt8)) (known:CH.Known) (forks:CH.Forks) (v:CH.Version) (s:bF) (w:World) (hG:Gc w) (hC:aU w c r1 r2 keys known forks) (hv:aK w.heap.size w v s) (er:Int) (ht:CH.bK v=.error er) :
  Calls prog 15 #[.pointer (some ⟨c,0,none⟩),.agg (Ab v s).toArray] w (Hg w c r1 r2 keys (1,known,forks)):=by
 have hB0:=fun o=>(Below.refl _ w).alloc nR o
 have T:=fun (W:World) (hb:Below w.heap.size w W)=>Di v s W (hG.below hb) ((hv.below hb nR).mono hb.size)
 rw [ht] at T
 have herr:=K7 ht
 obtain⟨va,v1,v2⟩:=s
 dsimp only [Ab,resV] at T ⊢
 have HC:=hid hC
 clear ht hC hv
 rcases herr with rfl|rfl
 all_goals
  have T:=hid T
  go_enter func15,ntmps15
  go_wp2_with fail
  refine (T.out _ (hB0 _)).mono ?_
  rintro e w1 ⟨rfl,hb1⟩
  have hB1:Below w.heap.size w w1:=(hB0 _).trans (hb1.mono (by simp))
  clear T hb1
  go_wp2_with fail
  refine wp_region_quiet_below (by kernel_rfl) (by kernel_rfl) ?_
  repeat (quiet_step (fail))
  refine wpQuiet_nil ?_
  intro wq hbq
  replace hbq:=Af hbq
  go_wp2
  go_ret
  have hB2:=hB1.trans (hbq.mono hB1.size)
  exact⟨rfl,HC.out.below hB2,Held.of_below hB2⟩
theorem add_auth (c r1 r2:Nat) (keys:List (List UInt8)) (known:CH.Known) (forks:CH.Forks) (v:CH.Version) (s:bF) (w:World) (hG:Gc w) (hC:aU w c r1 r2 keys known forks) (hv:aK w.heap.size w v s) (t:List UInt8) (ht:CH.bK v=.ok t) (ha:(keys.length:Int)≤v.authority) :
  Calls prog 15 #[.pointer (some ⟨c,0,none⟩),.agg (Ab v s).toArray] w (Hg w c r1 r2 keys (1,known,forks)):=by
 have hB0:=fun o=>(Below.refl _ w).alloc nR o
 have T:=fun (W:World) (hb:Below w.heap.size w W)=>Di v s W (hG.below hb) ((hv.below hb nR).mono hb.size)
 rw [ht] at T
 obtain⟨va,v1,v2⟩:=s
 dsimp only [Ab,resV] at T ⊢
 have T:=hid T
 have HC:=hid hC
 obtain⟨vk,fE,hks⟩:=hC.ex
 obtain⟨ak,ck,rfl,_,_⟩:=hks.form
 have gI:c<w.heap.size:=(aZ fE)
 generalize keys.length=N at *
 have q:decide ((N:Int)≤v.authority)=true:=decide_eq_true ha
 clear ht hC hv hks
 replace fE:=hid fE
 go_enter func15,ntmps15
 go_wp2_with fail
 refine (T.out _ (hB0 _)).mono ?_
 rintro e w1 ⟨rfl,hb1⟩
 have hB1:Below w.heap.size w w1:=(hB0 _).trans (hb1.mono (by simp))
 have hblk:=(hb1.block w.heap.size (by simp)).trans (heap_alloc_last w _)
 have hlt1:w.heap.size<w1.heap.size:=(aZ hblk)
 have k0:w1.cell? ⟨w.heap.size,0,none⟩=some (.int .i64 v.authority):=Aa hblk 0
 have kc:w1.cell? ⟨c,0,none⟩=some (.slice ak N ck):=Aa ((hB1.block c gI).trans fE.out) 0
 have g0:∀ (d:Nat) (os:Array Obj),(grow (redrawn w1 d) os).cell? ⟨w.heap.size,0,none⟩=some (.int .i64 v.authority):=cell_regrown k0
 have gc:∀ (d:Nat) (os:Array Obj),(grow (redrawn w1 d) os).cell? ⟨c,0,none⟩=some (.slice ak N ck):=cell_regrown kc
 clear T hb1 hblk k0 kc
 go_wp2_with fail
 refine wp_region_quiet_below (by kernel_rfl) (by kernel_rfl) ?_
 repeat (quiet_step (fail))
 refine wpQuiet_nil ?_
 intro wq hbq
 replace hbq:=Af hbq
 clear g0 gc
 go_wp2
 go_ret
 have hB2:=hB1.trans (hbq.mono hB1.size)
 exact⟨rfl,HC.out.below hB2,Held.of_below hB2⟩
end
section
open Go.Lib Go.Proofs.Tryz Go.RowKit Go.Shelf Go.Sort
attribute [local irreducible] wpQuiet
theorem add_key (c r1 r2:Nat) (keys:List (List UInt8)) (known:CH.Known) (forks:CH.Forks) (v:CH.Version) (s:bF) (w:World) (hG:Gc w) (hC:aU w c r1 r2 keys known forks) (hv:aK w.heap.size w v s) (t:List UInt8) (ht:CH.bK v=.ok t) (ha:v.authority<(keys.length:Int)) (hk:dO v (keys.getD v.authority.toNat [])=false) :
  Calls prog 15 #[.pointer (some ⟨c,0,none⟩),.agg (Ab v s).toArray] w (Hg w c r1 r2 keys (16,known,forks)):=by
 have hn:=CH.vText_nums ht
 have hB0:=fun o=>(Below.refl _ w).alloc nR o
 have HV:=hid fun (W:World) (hb:Below w.heap.size w W)=>(hv.below hb nR).mono hb.size
 have T:=fun (W:World) (hb:Below w.heap.size w W)=>Di v s W (hG.below hb) (HV.out W hb)
 rw [ht] at T
 obtain⟨vk,fE,hks⟩:=hC.ex
 obtain⟨ak,ck,rfl,_,_,hks⟩:=hks
 obtain⟨A,hA⟩:∃ A:Nat,v.authority=A:=⟨v.authority.toNat,by omega⟩
 have hAt:v.authority.toNat=A:=by omega
 rw [hAt] at hk
 rw [hA] at ha
 have hAl:A<keys.length:=by omega
 obtain⟨key,hkey⟩:∃ key,keys[A]?=some key:=⟨_,lZ hAl⟩
 have hgd:keys.getD A []=key:=by simp [hkey]
 rw [hgd] at hk
 obtain⟨bk,ok,rfl,hbk,hkc⟩:=hks (fun e=>by rw [e] at hAl;simp at hAl)
 have hkc:=hkc A key hkey
 have C:=fun (W:World) (hb:Below w.heap.size w W)=>Lh v s key W (hG.below hb) (HV.out W hb)
 rw [hk] at C
 obtain⟨va,v1,v2⟩:=s
 dsimp only [Ab,resV] at T C ⊢
 rw [hA] at T C ⊢
 have T:=hid T
 have C:=hid C
 have HC:=hid hC
 have gI:c<w.heap.size:=(aZ fE)
 have HS:=hid hv.small
 have hAt:=hid hAt
 have hA:=hid hA
 generalize keys.length=N at *
 have q:decide ((N:Int)≤(A:Int))=false:=by simp;omega
 have z0:(0:Int)≤(A:Int):=by omega
 have zA:((A:Int)).toNat=A:=by omega
 have ha':(A:Int)<(N:Int):=by omega
 clear hC hv hks hkey hgd hk hn
 replace fE:=hid fE
 replace ht:=hid ht
 go_enter func15,ntmps15
 go_wp2_with fail
 refine (T.out _ (hB0 _)).mono ?_
 rintro e w1 ⟨rfl,hb1⟩
 have hB1:Below w.heap.size w w1:=(hB0 _).trans (hb1.mono (by simp))
 have hblk:=(hb1.block w.heap.size (by simp)).trans (heap_alloc_last w _)
 have hlt1:w.heap.size<w1.heap.size:=(aZ hblk)
 have k0:w1.cell? ⟨w.heap.size,0,none⟩=some (.int .i64 A):=Aa hblk 0
 have kc:w1.cell? ⟨c,0,none⟩=some (.slice (some ⟨bk,ok,none⟩) N ck):=Aa ((hB1.block c gI).trans fE.out) 0
 have g0:∀ (d:Nat) (os:Array Obj),(grow (redrawn w1 d) os).cell? ⟨w.heap.size,0,none⟩=some (.int .i64 A):=cell_regrown k0
 have gc:∀ (d:Nat) (os:Array Obj),(grow (redrawn w1 d) os).cell? ⟨c,0,none⟩=some (.slice (some ⟨bk,ok,none⟩) N ck):=cell_regrown kc
 clear T hb1 k0 kc
 go_wp2_with fail
 refine wp_region_quiet_below (by kernel_rfl) (by kernel_rfl) ?_
 repeat (quiet_step (fail))
 refine wpQuiet_nil ?_
 intro wq hbq
 replace hbq:=Af hbq
 clear g0 gc
 have hB2:=hB1.trans (hbq.mono hB1.size)
 replace hblk:=(hbq.block w.heap.size hlt1).trans hblk
 have hlt2:w.heap.size<wq.heap.size:=(aZ hblk)
 clear hbq
 have C2:=hid fun (W:World) (hb:Below wq.heap.size wq W)=>C.out W (hB2.trans (hb.mono hB2.size))
 obtain⟨X,hX⟩:∃ X,X=wq:=⟨_,rfl⟩
 rw [← hX] at hB2 hblk hlt2 C2 ⊢
 have g0:∀ (d:Nat) (os:Array Obj),(grow (redrawn X d) os).cell? ⟨w.heap.size,0,none⟩=some (.int .i64 A):=cell_regrown (Aa hblk 0)
 have g1:∀ (d:Nat) (os:Array Obj),(grow (redrawn X d) os).cell? ⟨w.heap.size,1,none⟩=some (.int .i64 v.number):=cell_regrown (Aa hblk 1)
 have g2:∀ (d:Nat) (os:Array Obj),(grow (redrawn X d) os).cell? ⟨w.heap.size,2,none⟩=some (.int .i64 v.pos):=cell_regrown (Aa hblk 2)
 have g3:∀ (d:Nat) (os:Array Obj),(grow (redrawn X d) os).cell? ⟨w.heap.size,3,none⟩=some (.string ⟨v.prev.toArray⟩):=cell_regrown (Aa hblk 3)
 have g4:∀ (d:Nat) (os:Array Obj),(grow (redrawn X d) os).cell? ⟨w.heap.size,4,none⟩=some va:=cell_regrown (Aa hblk 4)
 have g5:∀ (d:Nat) (os:Array Obj),(grow (redrawn X d) os).cell? ⟨w.heap.size,5,none⟩=some (.int .i64 v.sel.index):=cell_regrown (Aa hblk 5)
 have g6:∀ (d:Nat) (os:Array Obj),(grow (redrawn X d) os).cell? ⟨w.heap.size,6,none⟩=some v1:=cell_regrown (Aa hblk 6)
 have g7:∀ (d:Nat) (os:Array Obj),(grow (redrawn X d) os).cell? ⟨w.heap.size,7,none⟩=some v2:=cell_regrown (Aa hblk 7)
 have gc:∀ (d:Nat) (os:Array Obj),(grow (redrawn X d) os).cell? ⟨c,0,none⟩=some (.slice (some ⟨bk,ok,none⟩) N ck):=cell_regrown (Aa ((hB2.block c gI).trans fE.out) 0)
 have gk:∀ (d:Nat) (os:Array Obj),(grow (redrawn X d) os).cell? ⟨bk,ok+A,none⟩=some (.string ⟨key.toArray⟩):=cell_regrown ((hB2.cell (p:=⟨bk,ok+A,none⟩) hbk).trans hkc)
 clear hX C w1 hB1 hlt1
 go_wp2_with fail
 refine wp_region_quiet_below (by kernel_rfl) (by kernel_rfl) ?_
 repeat (quiet_step ((with_reducible exact Calls.regrown_of (C2.out _ (below_regrown _ _ _)))))
 refine wpQuiet_nil ?_
 intro wq hbq
 replace hbq:=Af hbq
 clear g0 g1 g2 g3 g4 g5 g6 g7 gc gk
 have hB3:=hB2.trans (hbq.mono hB2.size)
 replace hblk:=(hbq.block w.heap.size hlt2).trans hblk
 have hlt3:w.heap.size<wq.heap.size:=(aZ hblk)
 clear C2 hbq hlt2 hB2
 go_wp2
 go_ret
 exact⟨rfl,HC.out.below hB3,Held.of_below hB3⟩
end
section
open Go.Lib Go.Proofs.Tryz Go.RowKit Go.Shelf Go.Sort
attribute [local irreducible] wpQuiet
theorem Hh (w:World):Calls prog 8 #[.pointer none] w (fun e w'=>e=.returned (.slice none 0 0)∧w=w'):=by
 go_enter func8,ntmps8
 go_wp2_with fail
 go_ret
 exact⟨rfl,rfl⟩
theorem addNil_any (v:CH.Version) (s:bF) (w:World) (hG:Gc w) (hv:aK w.heap.size w v s) :
  Calls prog 15 #[.pointer none,.agg (Ab v s).toArray] w (Ret w (.int .i64 1)):=by
 have hB0:=fun o=>(Below.refl _ w).alloc nR o
 have T:=fun (W:World) (hb:Below w.heap.size w W)=>Di v s W (hG.below hb) ((hv.below hb nR).mono hb.size)
 obtain⟨va,v1,v2⟩:=s
 cases ht:CH.bK v with
 | ok t =>
  rw [ht] at T
  dsimp only [Ab,resV] at T ⊢
  have T:=hid T
  clear ht hv
  go_enter func15,ntmps15
  go_wp2_with fail
  refine (T.out _ (hB0 _)).mono ?_
  rintro e w1 ⟨rfl,hb1⟩
  have hB1:Below w.heap.size w w1:=(hB0 _).trans (hb1.mono (by simp))
  clear T hb1
  go_wp2_with fail
  refine wp_region_quiet_below (by kernel_rfl) (by kernel_rfl) ?_
  repeat (quiet_step (fail))
  refine wpQuiet_nil ?_
  intro wq hbq
  replace hbq:=Af hbq
  go_wp2
  go_ret
  exact⟨rfl,hB1.trans (hbq.mono hB1.size)⟩
 | error er =>
  rw [ht] at T
  dsimp only [Ab,resV] at T ⊢
  have T:=hid T
  clear ht hv
  go_enter func15,ntmps15
  go_wp2_with fail
  refine (T.out _ (hB0 _)).mono ?_
  rintro e w1 ⟨rfl,hb1⟩
  have hB1:Below w.heap.size w w1:=(hB0 _).trans (hb1.mono (by simp))
  clear T hb1
  go_wp2_with fail
  refine wp_region_quiet_below (by kernel_rfl) (by kernel_rfl) ?_
  repeat (quiet_step (fail))
  refine wpQuiet_nil ?_
  intro wq hbq
  replace hbq:=Af hbq
  go_wp2
  go_ret
  exact⟨rfl,hB1.trans (hbq.mono hB1.size)⟩
end
section
open Go.Lib Go.Proofs.Tryz Go.RowKit Go.Shelf Go.Sort
attribute [local irreducible] wpQuiet
def Far (C:Nat) (w w':World):Prop:=∀ p v,p.block<C→w.cell? p=some v→w'.cell? p=some v
theorem Far.set {C b o:Nat} {x:Value} {w w':World} (h:Far C w w') (hb:C≤b):Far C w (w'.setCell ⟨b,o,none⟩ x):=fun p v hp hv=>by
 rw [Ih (Aw w' ⟨b,o,none⟩ x p.block (by show p.block≠b;omega))]
 exact h p v hp hv
theorem Far.refl (C:Nat) (w:World):Far C w w:=fun _ _ _ h=>h
theorem Far.setCells {C b:Nat} (hb:C≤b):∀ (cs:List Value) (o:Nat) {w w':World},Far C w w'→Far C w (w'.setCells b o cs)
 | [],_,_,_,h=>h
 | x::cs,o,_,_,h=>by
  rw [World.setCells]
  exact Far.setCells hb cs (o+1) (Far.set h hb)
theorem A8.same {r:Nat} {w w':World} {kvs:List ((Int × Int) × Value)} (h:A8 An r w kvs) (e:w'.heap[r]?=w.heap[r]?):A8 An r w' kvs:=by
 obtain⟨es,ck,e1,e2⟩:=h
 exact⟨es,ck,e.trans e1,e2⟩
theorem Lz {c r1 r2:Nat} {keys:List (List UInt8)} {known:CH.Known} {forks:CH.Forks} {v:CH.Version} {s:bF} {w w':World} {p:Int × Int} {kvs:List ((Int × Int) × Value)} (hC:aU w c r1 r2 keys known forks) (hv:aK w.heap.size w v s) (hH:Held [r1] w w')
  (hm0:A8 An r1 w kvs) (hkv:KVs w.heap.size w kvs known) (hm:A8 An r1 w' (kvs++[(p,.agg (Ab v s).toArray)])):aU w' c r1 r2 keys (known++[(p,v)]) forks:=by
 obtain⟨vk,h1,h2⟩:=hC.ex
 obtain⟨k2,h5,h6⟩:=hC.forks
 have hmm:=hm0
 obtain⟨es,ck,e1,_⟩:=hmm
 have hcc:Cells w w':=hH.cells fun r hr=>by
  cases List.mem_singleton.1 hr
  exact⟨es,ck,e1⟩
 have hcr:c ∉ [r1]:=fun h=>by
  cases List.mem_singleton.1 h
  rw [h1] at e1
  cases e1
 have hr2:r2 ∉ [r1]:=fun h=>hC.ne (List.mem_singleton.1 h).symm
 refine⟨⟨vk,(hH.block c (aZ h1) hcr).trans h1,(h2.kept hcc).mono hH.size⟩,⟨_,hm,?_⟩,⟨k2,h5.same (hH.block r2 h5.lt hr2),h6.imp fun _ _ h=>(h.kept hcc).mono hH.size⟩,hC.ne⟩
 exact KVs.snoc ((hv.kept hcc).mono hH.size) (hkv.imp fun _ _ h=>(h.kept hcc).mono hH.size)
theorem addWalk_new (c r1 r2:Nat) (keys:List (List UInt8)) (known:CH.Known) (forks:CH.Forks) (v:CH.Version) (s:bF) (w:World) (hG:Gc w) (hC:aU w c r1 r2 keys known forks) (hv:aK w.heap.size w v s) (t:List UInt8) (ht:CH.bK v=.ok t) (ha:v.authority<(keys.length:Int)) (hk:dO v (keys.getD v.authority.toNat [])=true) (hl:CH.aX (v.authority,v.number) known=none) :
  Calls prog 15 #[.pointer (some ⟨c,0,none⟩),.agg (Ab v s).toArray] w (Hg w c r1 r2 keys (0,known++[((v.authority,v.number),v)],forks)):=by
 have hn:=CH.vText_nums ht
 have hB0:=fun o=>(Below.refl _ w).alloc nR o
 have HV:=hid fun (W:World) (hb:Below w.heap.size w W)=>(hv.below hb nR).mono hb.size
 have T:=fun (W:World) (hb:Below w.heap.size w W)=>Di v s W (hG.below hb) (HV.out W hb)
 rw [ht] at T
 obtain⟨vk,fE,hks⟩:=hC.ex
 obtain⟨ak,ck,rfl,_,_,hks⟩:=hks
 obtain⟨A,hA⟩:∃ A:Nat,v.authority=A:=⟨v.authority.toNat,by omega⟩
 have hAt:v.authority.toNat=A:=by omega
 rw [hAt] at hk
 rw [hA] at ha
 have hAl:A<keys.length:=by omega
 obtain⟨key,hkey⟩:∃ key,keys[A]?=some key:=⟨_,lZ hAl⟩
 have hgd:keys.getD A []=key:=by simp [hkey]
 rw [hgd] at hk
 obtain⟨bk,ok,rfl,hbk,hkc⟩:=hks (fun e=>by rw [e] at hAl;simp at hAl)
 have hkc:=hkc A key hkey
 have C:=fun (W:World) (hb:Below w.heap.size w W)=>Lh v s key W (hG.below hb) (HV.out W hb)
 rw [hk] at C
 obtain⟨va,v1,v2⟩:=s
 dsimp only [Ab,resV] at T C ⊢
 rw [hA] at T C ⊢
 have T:=hid T
 have C:=hid C
 have HC:=hid hC
 have gI:c<w.heap.size:=(aZ fE)
 have HS:=hid hv.small
 have hAt:=hid hAt
 have hA:=hid hA
 generalize keys.length=N at *
 have q:decide ((N:Int)≤(A:Int))=false:=by simp;omega
 have z0:(0:Int)≤(A:Int):=by omega
 have zA:((A:Int)).toNat=A:=by omega
 have ha':(A:Int)<(N:Int):=by omega
 clear hC hv hks hkey hgd hk hn
 replace fE:=hid fE
 replace ht:=hid ht
 go_enter func15,ntmps15
 go_wp2_with fail
 refine (T.out _ (hB0 _)).mono ?_
 rintro e w1 ⟨rfl,hb1⟩
 have hB1:Below w.heap.size w w1:=(hB0 _).trans (hb1.mono (by simp))
 have hblk:=(hb1.block w.heap.size (by simp)).trans (heap_alloc_last w _)
 have hlt1:w.heap.size<w1.heap.size:=(aZ hblk)
 have k0:w1.cell? ⟨w.heap.size,0,none⟩=some (.int .i64 A):=Aa hblk 0
 have kc:w1.cell? ⟨c,0,none⟩=some (.slice (some ⟨bk,ok,none⟩) N ck):=Aa ((hB1.block c gI).trans fE.out) 0
 have g0:∀ (d:Nat) (os:Array Obj),(grow (redrawn w1 d) os).cell? ⟨w.heap.size,0,none⟩=some (.int .i64 A):=cell_regrown k0
 have gc:∀ (d:Nat) (os:Array Obj),(grow (redrawn w1 d) os).cell? ⟨c,0,none⟩=some (.slice (some ⟨bk,ok,none⟩) N ck):=cell_regrown kc
 clear T hb1 k0 kc
 go_wp2_with fail
 refine wp_region_quiet_below (by kernel_rfl) (by kernel_rfl) ?_
 repeat (quiet_step (fail))
 refine wpQuiet_nil ?_
 intro wq hbq
 replace hbq:=Af hbq
 clear g0 gc
 have hB2:=hB1.trans (hbq.mono hB1.size)
 replace hblk:=(hbq.block w.heap.size hlt1).trans hblk
 have hlt2:w.heap.size<wq.heap.size:=(aZ hblk)
 clear hbq
 have C2:=hid fun (W:World) (hb:Below wq.heap.size wq W)=>C.out W (hB2.trans (hb.mono hB2.size))
 obtain⟨X,hX⟩:∃ X,X=wq:=⟨_,rfl⟩
 rw [← hX] at hB2 hblk hlt2 C2 ⊢
 have g0:∀ (d:Nat) (os:Array Obj),(grow (redrawn X d) os).cell? ⟨w.heap.size,0,none⟩=some (.int .i64 A):=cell_regrown (Aa hblk 0)
 have g1:∀ (d:Nat) (os:Array Obj),(grow (redrawn X d) os).cell? ⟨w.heap.size,1,none⟩=some (.int .i64 v.number):=cell_regrown (Aa hblk 1)
 have g2:∀ (d:Nat) (os:Array Obj),(grow (redrawn X d) os).cell? ⟨w.heap.size,2,none⟩=some (.int .i64 v.pos):=cell_regrown (Aa hblk 2)
 have g3:∀ (d:Nat) (os:Array Obj),(grow (redrawn X d) os).cell? ⟨w.heap.size,3,none⟩=some (.string ⟨v.prev.toArray⟩):=cell_regrown (Aa hblk 3)
 have g4:∀ (d:Nat) (os:Array Obj),(grow (redrawn X d) os).cell? ⟨w.heap.size,4,none⟩=some va:=cell_regrown (Aa hblk 4)
 have g5:∀ (d:Nat) (os:Array Obj),(grow (redrawn X d) os).cell? ⟨w.heap.size,5,none⟩=some (.int .i64 v.sel.index):=cell_regrown (Aa hblk 5)
 have g6:∀ (d:Nat) (os:Array Obj),(grow (redrawn X d) os).cell? ⟨w.heap.size,6,none⟩=some v1:=cell_regrown (Aa hblk 6)
 have g7:∀ (d:Nat) (os:Array Obj),(grow (redrawn X d) os).cell? ⟨w.heap.size,7,none⟩=some v2:=cell_regrown (Aa hblk 7)
 have gc:∀ (d:Nat) (os:Array Obj),(grow (redrawn X d) os).cell? ⟨c,0,none⟩=some (.slice (some ⟨bk,ok,none⟩) N ck):=cell_regrown (Aa ((hB2.block c gI).trans fE.out) 0)
 have gk:∀ (d:Nat) (os:Array Obj),(grow (redrawn X d) os).cell? ⟨bk,ok+A,none⟩=some (.string ⟨key.toArray⟩):=cell_regrown ((hB2.cell (p:=⟨bk,ok+A,none⟩) hbk).trans hkc)
 clear hX C w1 hB1 hlt1
 go_wp2_with fail
 refine wp_region_quiet_below (by kernel_rfl) (by kernel_rfl) ?_
 repeat (quiet_step ((with_reducible exact Calls.regrown_of (C2.out _ (below_regrown _ _ _)))))
 refine wpQuiet_nil ?_
 intro wq hbq
 replace hbq:=Af hbq
 clear g0 g1 g2 g3 g4 g5 g6 g7 gc gk
 have hB3:=hB2.trans (hbq.mono hB2.size)
 replace hblk:=(hbq.block w.heap.size hlt2).trans hblk
 have hlt3:w.heap.size<wq.heap.size:=(aZ hblk)
 clear C2 hbq hlt2 hB2
 obtain⟨a1,m1,c1,a2,m2,c2,a3,m3,c3,hsl⟩:=(HV.out w (Below.refl _ _)).sl
 simp only [bF.mk.injEq] at hsl
 obtain⟨rfl,rfl,rfl⟩:=hsl
 have k0:wq.cell? ⟨w.heap.size,0,none⟩=some (.int .i64 A):=Aa hblk 0
 have k1:wq.cell? ⟨w.heap.size,1,none⟩=some (.int .i64 v.number):=Aa hblk 1
 go_upto_region 7 with (fail)
 obtain⟨kvs,hm0,hkv0⟩:=HC.out.known
 have hf0:Az (v.authority,v.number) kvs 0=none:=hkv0.none 0 hl
 obtain⟨W1,hW1⟩:∃ W1,wq.alloc (.cells #[.int .i64 A,.int .i64 v.number] 94)=W1:=⟨_,rfl⟩
 have hB4':Below wq.heap.size wq W1:=by rw [← hW1];exact (Below.refl _ wq).alloc nR _
 have hpl:W1.heap[wq.heap.size]?=some (.cells #[.int .i64 A,.int .i64 v.number] 94 (0,0)):=by rw [← hW1];exact heap_alloc_last wq _
 rw [hW1]
 clear hW1 k0 k1
 have hB4:Below w.heap.size w W1:=hB3.trans (hB4'.mono hB3.size)
 have hvb:=(hB4'.block w.heap.size hlt3).trans hblk
 have hP1:w.heap.size<W1.heap.size:=(aZ hvb)
 have hP2:wq.heap.size<W1.heap.size:=(aZ hpl)
 have hc1:w.cell? ⟨c,1,none⟩=some (.map (some r1)):=Aa fE.out 1
 have hr1:=hm0.lt
 have PC:=hid fun (W:World) (hb:Below W1.heap.size W1 W)=>putNew_any c 1 r1 (v.authority,v.number) v ⟨(.slice a1 m1 c1),(.slice a2 m2 c2),(.slice a3 m3 c3)⟩ kvs W (((hB4.trans (hb.mono hB4.size)).cell (p:=⟨c,1,none⟩) gI).trans hc1) (hm0.below (hB4.trans (hb.mono hB4.size))) hf0 (HV.out W (hB4.trans (hb.mono hB4.size)))
 rw [hA.out] at PC
 dsimp only [Ab,An] at PC
 rw [hA.out] at PC
 have SC:∀ W',Cells W1 W'→W'.cell? ⟨wq.heap.size,0,none⟩=some (.int .i64 A)∧W'.cell? ⟨wq.heap.size,1,none⟩=some (.int .i64 v.number)∧W'.cell? ⟨w.heap.size,0,none⟩=some (.int .i64 A)∧W'.cell? ⟨w.heap.size,1,none⟩=some (.int .i64 v.number)∧W'.cell? ⟨w.heap.size,2,none⟩=some (.int .i64 v.pos)∧W'.cell? ⟨w.heap.size,3,none⟩=some (.string ⟨v.prev.toArray⟩)∧W'.cell? ⟨w.heap.size,4,none⟩=some (.slice a1 m1 c1)∧W'.cell? ⟨w.heap.size,5,none⟩=some (.int .i64 v.sel.index)∧W'.cell? ⟨w.heap.size,6,none⟩=some (.slice a2 m2 c2)∧W'.cell? ⟨w.heap.size,7,none⟩=some (.slice a3 m3 c3):=fun W' h =>
  ⟨h _ _ (Aa hpl 0),h _ _ (Aa hpl 1),h _ _ (Aa hvb 0),h _ _ (Aa hvb 1),h _ _ (Aa hvb 2),h _ _ (Aa hvb 3),h _ _ (Aa hvb 4),h _ _ (Aa hvb 5),h _ _ (Aa hvb 6),h _ _ (Aa hvb 7)⟩
 have hMap:IsMap W1 r1:=by
  obtain⟨es,ck,e,_⟩:=hm0.below hB4
  exact⟨es,ck,e⟩
 have hBd:Below W1.heap.size W1 W1.drew:=(Below.refl _ W1).drew
 have hBz:=fun o=>((Below.refl _ W1).alloc nR o).drew
 have HX:Hid (∀ (W w':World),Below W1.heap.size W1 W→Held [r1] W w'→Cells W1 w'):=hid fun W w' hb hh=>(Cells.of_below hb).trans (hh.cells fun r hr=>by
  cases List.mem_singleton.1 hr
  obtain⟨es,ck,e⟩:=hMap
  exact⟨es,ck,(hb.block r1 (aZ e)).trans e⟩)
 have hne1:r1≠wq.heap.size:=fun e=>by have:=hr1;omega
 have HZ:Hid (∀ (w':World),Held [r1] (W1.alloc (.cells #[.int .i64 0,.int .i64 0,.int .i64 0,.string ⟨#[]⟩,.slice none 0 0,.int .i64 0,.slice none 0 0,.slice none 0 0] 30)).drew w'→w'.cell? ⟨W1.heap.size,0,none⟩=some (.int .i64 0)∧w'.cell? ⟨W1.heap.size,1,none⟩=some (.int .i64 0)∧w'.cell? ⟨W1.heap.size,2,none⟩=some (.int .i64 0)∧w'.cell? ⟨W1.heap.size,3,none⟩=some (.string ⟨#[]⟩)∧w'.cell? ⟨W1.heap.size,4,none⟩=some (.slice none 0 0)∧w'.cell? ⟨W1.heap.size,5,none⟩=some (.int .i64 0)∧w'.cell? ⟨W1.heap.size,6,none⟩=some (.slice none 0 0)∧w'.cell? ⟨W1.heap.size,7,none⟩=some (.slice none 0 0)∧w'.frozen? ⟨W1.heap.size,0,none⟩=false∧w'.frozen? ⟨W1.heap.size,1,none⟩=false∧w'.frozen? ⟨W1.heap.size,2,none⟩=false∧w'.frozen? ⟨W1.heap.size,3,none⟩=false∧w'.frozen? ⟨W1.heap.size,4,none⟩=false∧w'.frozen? ⟨W1.heap.size,5,none⟩=false∧w'.frozen? ⟨W1.heap.size,6,none⟩=false∧w'.frozen? ⟨W1.heap.size,7,none⟩=false):=hid fun w' hh=>by
  have hz:=(hh.block W1.heap.size (by show W1.heap.size<(W1.alloc (.cells #[.int .i64 0,.int .i64 0,.int .i64 0,.string ⟨#[]⟩,.slice none 0 0,.int .i64 0,.slice none 0 0,.slice none 0 0] 30)).heap.size;simp) (by simp;omega)).trans (heap_alloc_last W1 (.cells #[.int .i64 0,.int .i64 0,.int .i64 0,.string ⟨#[]⟩,.slice none 0 0,.int .i64 0,.slice none 0 0,.slice none 0 0] 30))
  exact⟨Aa hz 0,Aa hz 1,Aa hz 2,Aa hz 3,Aa hz 4,Aa hz 5,Aa hz 6,Aa hz 7,Ao hz 0,Ao hz 1,Ao hz 2,Ao hz 3,Ao hz 4,Ao hz 5,Ao hz 6,Ao hz 7⟩
 have CF:Hid (∀ w' w'',Cells W1 w'→Far W1.heap.size w' w''→Cells W1 w''):=hid fun w' w'' h1 h2 p u hp=>h2 p u (World.block_lt_of_cell? W1 p hp) (h1 p u hp)
 have SC:=hid SC
 have hf0:=hid hf0
 have hkv0:=hid hkv0
 have hm00:=hid hm0
 clear hMap hm0 hvb hpl hblk hB3 hB4' hc1
 refine wp_region_noPanic ?_
 refine wp_region_held_drew (S:=(fun W'=>W'.cell? ⟨wq.heap.size,0,none⟩=some (.int .i64 A)∧W'.cell? ⟨wq.heap.size,1,none⟩=some (.int .i64 v.number)∧W'.cell? ⟨w.heap.size,0,none⟩=some (.int .i64 A)∧W'.cell? ⟨w.heap.size,1,none⟩=some (.int .i64 v.number)∧W'.cell? ⟨w.heap.size,2,none⟩=some (.int .i64 v.pos)∧W'.cell? ⟨w.heap.size,3,none⟩=some (.string ⟨v.prev.toArray⟩)∧W'.cell? ⟨w.heap.size,4,none⟩=some (.slice a1 m1 c1)∧W'.cell? ⟨w.heap.size,5,none⟩=some (.int .i64 v.sel.index)∧W'.cell? ⟨w.heap.size,6,none⟩=some (.slice a2 m2 c2)∧W'.cell? ⟨w.heap.size,7,none⟩=some (.slice a3 m3 c3))) (by kernel_rfl) (SC.out _ (Cells.of_below hBd)) (fun hHeld=>?_)
 refine tk 0 (v:=.pointer (some ⟨c,0,none⟩)) rfl (by rfl) hHeld ?_ ?_
 ·intro W hSw
  (try dsimp only at hSw)
  go_simp
 simp only [Act.put,pA,pB,pC]
 refine tk 1 (v:=.pointer (some ⟨c,0,none⟩)) rfl (by rfl) hHeld ?_ ?_
 ·intro W hSw
  (try dsimp only at hSw)
  go_simp
 simp only [Act.put,pA,pB,pC]
 refine tk 2 (v:=.pointer (some ⟨c,1,none⟩)) rfl (by rfl) hHeld ?_ ?_
 ·intro W hSw
  (try dsimp only at hSw)
  go_simp
 simp only [Act.put,pA,pB,pC]
 refine tk 3 (v:=.agg #[.int .i64 A,.int .i64 v.number]) rfl (by rfl) hHeld ?_ ?_
 ·intro W hSw
  (try dsimp only at hSw)
  go_simp
 simp only [Act.put,pA,pB,pC]
 refine tk 4 (v:=(.agg #[.int .i64 A,.int .i64 v.number,.int .i64 v.pos,.string ⟨v.prev.toArray⟩,.slice a1 m1 c1,.int .i64 v.sel.index,.slice a2 m2 c2,.slice a3 m3 c3])) rfl (by rfl) hHeld ?_ ?_
 ·intro W hSw
  (try dsimp only at hSw)
  go_simp
 simp only [Act.put,pA,pB,pC]
 refine wpAnyH_ready (rs:=[5,9]) (by kernel_rfl) (by simp) ?_
 refine AllReadyH.cons (o:=_) rfl (fun K hK=>?_) ?_
 ·go_simp
  refine (PC.out _ hBd).mono ?_
  rintro e w' ⟨rfl,hh,hmm⟩
  have hcl:=HX.out _ _ hBd hh
  go_wp2_with fail
  refine hK.out _ _ (SC.out _ hcl) (fun hHeld=>?_)
  clear hK K
  (try simp only [Act.put,pA,pB,pC])
  refine tk 6 (v:=.tuple #[(.agg #[.int .i64 A,.int .i64 v.number,.int .i64 v.pos,.string ⟨v.prev.toArray⟩,.slice a1 m1 c1,.int .i64 v.sel.index,.slice a2 m2 c2,.slice a3 m3 c3]),.bool true]) rfl (by rfl) hHeld ?_ ?_
  ·intro W hSw
   (try dsimp only at hSw)
   go_simp
  (try simp only [Act.put,pA,pB,pC])
  refine tk 7 (v:=(.agg #[.int .i64 A,.int .i64 v.number,.int .i64 v.pos,.string ⟨v.prev.toArray⟩,.slice a1 m1 c1,.int .i64 v.sel.index,.slice a2 m2 c2,.slice a3 m3 c3])) rfl (by rfl) hHeld ?_ ?_
  ·intro W hSw
   (try dsimp only at hSw)
   go_simp
  (try simp only [Act.put,pA,pB,pC])
  refine tk 8 (v:=.bool true) rfl (by rfl) hHeld ?_ ?_
  ·intro W hSw
   (try dsimp only at hSw)
   go_simp
  (try simp only [Act.put,pA,pB,pC])
  refine rk 9 rfl (fun K hK=>?_)
  go_simp
  refine hK.out _ _ (SC.out _ (hcl.trans (Cells.of_below ((Below.refl _ _).alloc nR _)))) (fun hHeld=>?_)
  clear hK K
  (try simp only [Act.put,pA,pB,pC])
  refine rk 10 rfl (fun K hK=>?_)
  go_simp
  refine hK.out _ _ (SC.out _ (hcl.trans (Cells.of_below ((Below.refl _ _).alloc nR _)))) (fun hHeld=>?_)
  clear hK K
  (try simp only [Act.put,pA,pB,pC])
  refine tk 11 (v:=.bool true) rfl (by rfl) hHeld ?_ ?_
  ·intro W hSw
   (try dsimp only at hSw)
   go_simp
  (try simp only [Act.put,pA,pB,pC])
  refine wpAnyH_done (by kernel_rfl) (NoPanic.normal ?_) _
  have hfin:Held [r1] w (w'.alloc (.cells #[.int .i64 A,.int .i64 v.number,.int .i64 v.pos,.string ⟨v.prev.toArray⟩,.slice a1 m1 c1,.int .i64 v.sel.index,.slice a2 m2 c2,.slice a3 m3 c3] 30)):=(Held.of_below hB4).trans ((Held.of_below hBd).trans (hh.trans (Held.of_below ((Below.refl _ _).alloc nR _))))
  have hfin:=hid hfin
  have hmm:Hid (A8 An r1 (w'.alloc (.cells #[.int .i64 A,.int .i64 v.number,.int .i64 v.pos,.string ⟨v.prev.toArray⟩,.slice a1 m1 c1,.int .i64 v.sel.index,.slice a2 m2 c2,.slice a3 m3 c3] 30)) (kvs++[((v.authority,v.number),.agg (Ab v ⟨.slice a1 m1 c1,.slice a2 m2 c2,.slice a3 m3 c3⟩).toArray)])):=hid (by
   dsimp only [Ab]
   rw [hA.out]
   exact hmm.same (((Below.refl _ w').alloc nR _).block r1 hmm.lt))
  clear hcl hHeld
  go_wp2
  go_ret
  refine⟨rfl,?_,hfin.out.mono (by simp)⟩
  have:=Lz (p:=(v.authority,v.number)) HC.out (HV.out w (Below.refl _ _)) hfin.out hm00.out hkv0.out hmm.out
  rw [hA.out] at this
  exact this
 ·refine AllReadyH.cons (o:=_) rfl (fun K hK=>?_) AllReadyH.nil
  go_simp
  refine hK.out _ _ (SC.out _ (Cells.of_below (hBz _))) (fun hHeld=>?_)
  clear hK K
  (try simp only [Act.put,pA,pB,pC])
  refine rk 5 rfl (fun K hK=>?_)
  go_simp
  refine (PC.out _ (hBz _)).mono ?_
  rintro e w' ⟨rfl,hh,hmm⟩
  have hcl:=HX.out _ _ (hBz _) hh
  go_wp2_with fail
  refine hK.out _ _ (SC.out _ hcl) (fun hHeld=>?_)
  clear hK K
  (try simp only [Act.put,pA,pB,pC])
  refine tk 6 (v:=.tuple #[(.agg #[.int .i64 A,.int .i64 v.number,.int .i64 v.pos,.string ⟨v.prev.toArray⟩,.slice a1 m1 c1,.int .i64 v.sel.index,.slice a2 m2 c2,.slice a3 m3 c3]),.bool true]) rfl (by rfl) hHeld ?_ ?_
  ·intro W hSw
   (try dsimp only at hSw)
   go_simp
  (try simp only [Act.put,pA,pB,pC])
  refine tk 7 (v:=(.agg #[.int .i64 A,.int .i64 v.number,.int .i64 v.pos,.string ⟨v.prev.toArray⟩,.slice a1 m1 c1,.int .i64 v.sel.index,.slice a2 m2 c2,.slice a3 m3 c3])) rfl (by rfl) hHeld ?_ ?_
  ·intro W hSw
   (try dsimp only at hSw)
   go_simp
  (try simp only [Act.put,pA,pB,pC])
  refine tk 8 (v:=.bool true) rfl (by rfl) hHeld ?_ ?_
  ·intro W hSw
   (try dsimp only at hSw)
   go_simp
  (try simp only [Act.put,pA,pB,pC])
  have hz:w'.heap[W1.heap.size]?=some (.cells #[.int .i64 0,.int .i64 0,.int .i64 0,.string ⟨#[]⟩,.slice none 0 0,.int .i64 0,.slice none 0 0,.slice none 0 0] 30):=(hh.block W1.heap.size (by show W1.heap.size<(W1.alloc (.cells #[.int .i64 0,.int .i64 0,.int .i64 0,.string ⟨#[]⟩,.slice none 0 0,.int .i64 0,.slice none 0 0,.slice none 0 0] 30)).heap.size;simp) (by simp;omega)).trans (heap_alloc_last W1 (.cells #[.int .i64 0,.int .i64 0,.int .i64 0,.string ⟨#[]⟩,.slice none 0 0,.int .i64 0,.slice none 0 0,.slice none 0 0] 30))
  have hth:w'.there W1.heap.size 0 8:=fun j hj=>by
   refine⟨?_,Ao hz _⟩
   rw [Nat.zero_add,Aa hz j]
   rcases (by omega:j=0∨j=1∨j=2∨j=3∨j=4∨j=5∨j=6∨j=7) with rfl|rfl|rfl|rfl|rfl|rfl|rfl|rfl <;> rfl
  have hi8:(prog.info? 30).map (·.size)=some 8:=by kernel_rfl
  have hall:(#[.int .i64 A,.int .i64 v.number,.int .i64 v.pos,.string ⟨v.prev.toArray⟩,.slice a1 m1 c1,.int .i64 v.sel.index,.slice a2 m2 c2,.slice a3 m3 c3]:Array Value).all (·.oneCell')=true:=all_oneCell_toArray (cs:=[.int .i64 A,.int .i64 v.number,.int .i64 v.pos,.string ⟨v.prev.toArray⟩,.slice a1 m1 c1,.int .i64 v.sel.index,.slice a2 m2 c2,.slice a3 m3 c3]) (by
   intro u hu
   simp only [List.mem_cons,List.not_mem_nil,or_false] at hu
   rcases hu with rfl|rfl|rfl|rfl|rfl|rfl|rfl|rfl <;> rfl)
  refine rk 10 rfl (fun K hK=>?_)
  rw [if_pos (by rfl)]
  refine wp_store_mid 30 _ _ rfl W1.heap.size 0 #[.int .i64 A,.int .i64 v.number,.int .i64 v.pos,.string ⟨v.prev.toArray⟩,.slice a1 m1 c1,.int .i64 v.sel.index,.slice a2 m2 c2,.slice a3 m3 c3] rfl rfl hth hi8 hall ?_
  refine hK.out _ _ (SC.out _ (CF.out _ _ hcl (Far.setCells nR _ _ (Far.refl _ _)))) (fun hHeld=>?_)
  clear hK K
  (try simp only [Act.put,pA,pB,pC])
  refine tk 11 (v:=.bool true) rfl (by rfl) hHeld ?_ ?_
  ·intro W hSw
   (try dsimp only at hSw)
   go_simp
  (try simp only [Act.put,pA,pB,pC])
  refine wpAnyH_done (by kernel_rfl) (NoPanic.normal ?_) _
  have h00:Held [r1] w w':=(Held.of_below hB4).trans ((Held.of_below (hBz _)).trans hh)
  have hBF:Below w.heap.size w' (w'.setCells W1.heap.size 0 #[.int .i64 A,.int .i64 v.number,.int .i64 v.pos,.string ⟨v.prev.toArray⟩,.slice a1 m1 c1,.int .i64 v.sel.index,.slice a2 m2 c2,.slice a3 m3 c3].toList):=Bh (Below.refl w.heap.size w') hB4.size _ 0
  have hfin:Held [r1] w (w'.setCells W1.heap.size 0 #[.int .i64 A,.int .i64 v.number,.int .i64 v.pos,.string ⟨v.prev.toArray⟩,.slice a1 m1 c1,.int .i64 v.sel.index,.slice a2 m2 c2,.slice a3 m3 c3].toList):=⟨hBF.os.trans h00.os,hBF.tape.trans h00.tape,hBF.output.trans h00.output,nT h00.size hBF.size,fun k hk hr=>(hBF.block k hk).trans (h00.block k hk hr)⟩
  have hmm:Hid (A8 An r1 (w'.setCells W1.heap.size 0 #[.int .i64 A,.int .i64 v.number,.int .i64 v.pos,.string ⟨v.prev.toArray⟩,.slice a1 m1 c1,.int .i64 v.sel.index,.slice a2 m2 c2,.slice a3 m3 c3].toList) (kvs++[((v.authority,v.number),.agg (Ab v ⟨.slice a1 m1 c1,.slice a2 m2 c2,.slice a3 m3 c3⟩).toArray)])):=hid (by
   dsimp only [Ab]
   rw [hA.out]
   exact hmm.same (hBF.block r1 hr1))
  have hfin:=hid hfin
  clear hcl hHeld hBF hz hth
  generalize w'.setCells W1.heap.size 0 _=Y at *
  go_wp2
  go_ret
  refine⟨rfl,?_,hfin.out.mono (by simp)⟩
  have:=Lz (p:=(v.authority,v.number)) HC.out (HV.out w (Below.refl _ _)) hfin.out hm00.out hkv0.out hmm.out
  rw [hA.out] at this
  exact this
end
section
open Go.Lib Go.Proofs.Tryz Go.RowKit Go.Shelf Go.Sort
attribute [local irreducible] wpQuiet
theorem tail_split {T G:World→Nat→Prop} {H:Prop} (h1:(∀ Y oB,T Y oB→G Y oB)→H) (h2:∀ Y oB,T Y oB→G Y oB):H:=h1 h2
theorem bareV_form (x:Option (List UInt8)):∃ b,bareV x=.tuple #[.string ⟨(x.getD []).toArray⟩,.bool b]:=by
 cases x <;> exact⟨_,rfl⟩
theorem chainAt_fork {c r1 r2:Nat} {keys:List (List UInt8)} {known:CH.Known} {forks:CH.Forks} {v old:CH.Version} {s so:bF} {w w':World} {p:Int × Int} {kvs:List ((Int × Int) × Value)} (hC:aU w c r1 r2 keys known forks) (hv:aK w.heap.size w v s) (ho:aK w.heap.size w old so) (hH:Held [r2] w w')
  (hm0:A8 An r2 w kvs) (hkv:iF w.heap.size w kvs forks) (hm:A8 An r2 w' (kvs++[(p,.agg (Ab old so++Ab v s).toArray)])):aU w' c r1 r2 keys known (forks++[(p,(old,v))]):=by
 obtain⟨vk,h1,h2⟩:=hC.ex
 obtain⟨k1,h5,h6⟩:=hC.known
 have hmm:=hm0
 obtain⟨es,ck,e1,_⟩:=hmm
 have hcc:Cells w w':=hH.cells fun r hr=>by
  cases List.mem_singleton.1 hr
  exact⟨es,ck,e1⟩
 have hcr:c ∉ [r2]:=fun h=>by
  cases List.mem_singleton.1 h
  rw [h1] at e1
  cases e1
 have hr1:r1 ∉ [r2]:=fun h=>hC.ne (List.mem_singleton.1 h)
 refine⟨⟨vk,(hH.block c (aZ h1) hcr).trans h1,(h2.kept hcc).mono hH.size⟩,⟨k1,h5.same (hH.block r1 h5.lt hr1),h6.imp fun _ _ h=>(h.kept hcc).mono hH.size⟩,⟨_,hm,?_⟩,hC.ne⟩
 exact iF.snoc (f:=(old,v)) ⟨so,s,rfl,(ho.kept hcc).mono hH.size,(hv.kept hcc).mono hH.size⟩ (hkv.imp fun _ _ h=>(h.kept hcc).mono hH.size)
theorem addWalk_old (c r1 r2:Nat) (keys:List (List UInt8)) (known:CH.Known) (forks:CH.Forks) (v:CH.Version) (s:bF) (w:World) (hG:Gc w) (hC:aU w c r1 r2 keys known forks) (hv:aK w.heap.size w v s) (t:List UInt8) (ht:CH.bK v=.ok t) (ha:v.authority<(keys.length:Int)) (hk:dO v (keys.getD v.authority.toNat [])=true) (old:CH.Version) (hl:CH.aX (v.authority,v.number) known=some old) :
  Calls prog 15 #[.pointer (some ⟨c,0,none⟩),.agg (Ab v s).toArray] w (Hg w c r1 r2 keys (if (CH.bare old).getD []==(CH.bare v).getD [] then (0,known,forks) else (17,known,CH.addFork (v.authority,v.number) (old,v) forks))):=by
 obtain⟨RX,hRX⟩:∃ X:Int × CH.Known × CH.Forks,Hid ((if (CH.bare old).getD []==(CH.bare v).getD [] then (0,known,forks) else (17,known,CH.addFork (v.authority,v.number) (old,v) forks))=X):=⟨_,hid rfl⟩
 rw [hRX.out]
 have hn:=CH.vText_nums ht
 have hB0:=fun o=>(Below.refl _ w).alloc nR o
 have HV:=hid fun (W:World) (hb:Below w.heap.size w W)=>(hv.below hb nR).mono hb.size
 have T:=fun (W:World) (hb:Below w.heap.size w W)=>Di v s W (hG.below hb) (HV.out W hb)
 rw [ht] at T
 obtain⟨vk,fE,hks⟩:=hC.ex
 obtain⟨ak,ck,rfl,_,_,hks⟩:=hks
 obtain⟨A,hA⟩:∃ A:Nat,v.authority=A:=⟨v.authority.toNat,by omega⟩
 have hAt:v.authority.toNat=A:=by omega
 rw [hAt] at hk
 rw [hA] at ha
 have hAl:A<keys.length:=by omega
 obtain⟨key,hkey⟩:∃ key,keys[A]?=some key:=⟨_,lZ hAl⟩
 have hgd:keys.getD A []=key:=by simp [hkey]
 rw [hgd] at hk
 obtain⟨bk,ok,rfl,hbk,hkc⟩:=hks (fun e=>by rw [e] at hAl;simp at hAl)
 have hkc:=hkc A key hkey
 have C:=fun (W:World) (hb:Below w.heap.size w W)=>Lh v s key W (hG.below hb) (HV.out W hb)
 rw [hk] at C
 obtain⟨va,v1,v2⟩:=s
 dsimp only [Ab,resV] at T C ⊢
 rw [hA] at T C ⊢
 have T:=hid T
 have C:=hid C
 have HC:=hid hC
 have gI:c<w.heap.size:=(aZ fE)
 have HS:=hid hv.small
 have hAt:=hid hAt
 have hA:=hid hA
 generalize keys.length=N at *
 have q:decide ((N:Int)≤(A:Int))=false:=by simp;omega
 have z0:(0:Int)≤(A:Int):=by omega
 have zA:((A:Int)).toNat=A:=by omega
 have ha':(A:Int)<(N:Int):=by omega
 clear hC hv hks hkey hgd hk hn
 replace fE:=hid fE
 replace ht:=hid ht
 go_enter func15,ntmps15
 go_wp2_with fail
 refine (T.out _ (hB0 _)).mono ?_
 rintro e w1 ⟨rfl,hb1⟩
 have hB1:Below w.heap.size w w1:=(hB0 _).trans (hb1.mono (by simp))
 have hblk:=(hb1.block w.heap.size (by simp)).trans (heap_alloc_last w _)
 have hlt1:w.heap.size<w1.heap.size:=(aZ hblk)
 have k0:w1.cell? ⟨w.heap.size,0,none⟩=some (.int .i64 A):=Aa hblk 0
 have kc:w1.cell? ⟨c,0,none⟩=some (.slice (some ⟨bk,ok,none⟩) N ck):=Aa ((hB1.block c gI).trans fE.out) 0
 have g0:∀ (d:Nat) (os:Array Obj),(grow (redrawn w1 d) os).cell? ⟨w.heap.size,0,none⟩=some (.int .i64 A):=cell_regrown k0
 have gc:∀ (d:Nat) (os:Array Obj),(grow (redrawn w1 d) os).cell? ⟨c,0,none⟩=some (.slice (some ⟨bk,ok,none⟩) N ck):=cell_regrown kc
 clear T hb1 k0 kc
 go_wp2_with fail
 refine wp_region_quiet_below (by kernel_rfl) (by kernel_rfl) ?_
 repeat (quiet_step (fail))
 refine wpQuiet_nil ?_
 intro wq hbq
 replace hbq:=Af hbq
 clear g0 gc
 have hB2:=hB1.trans (hbq.mono hB1.size)
 replace hblk:=(hbq.block w.heap.size hlt1).trans hblk
 have hlt2:w.heap.size<wq.heap.size:=(aZ hblk)
 clear hbq
 have C2:=hid fun (W:World) (hb:Below wq.heap.size wq W)=>C.out W (hB2.trans (hb.mono hB2.size))
 obtain⟨X,hX⟩:∃ X,X=wq:=⟨_,rfl⟩
 rw [← hX] at hB2 hblk hlt2 C2 ⊢
 have g0:∀ (d:Nat) (os:Array Obj),(grow (redrawn X d) os).cell? ⟨w.heap.size,0,none⟩=some (.int .i64 A):=cell_regrown (Aa hblk 0)
 have g1:∀ (d:Nat) (os:Array Obj),(grow (redrawn X d) os).cell? ⟨w.heap.size,1,none⟩=some (.int .i64 v.number):=cell_regrown (Aa hblk 1)
 have g2:∀ (d:Nat) (os:Array Obj),(grow (redrawn X d) os).cell? ⟨w.heap.size,2,none⟩=some (.int .i64 v.pos):=cell_regrown (Aa hblk 2)
 have g3:∀ (d:Nat) (os:Array Obj),(grow (redrawn X d) os).cell? ⟨w.heap.size,3,none⟩=some (.string ⟨v.prev.toArray⟩):=cell_regrown (Aa hblk 3)
 have g4:∀ (d:Nat) (os:Array Obj),(grow (redrawn X d) os).cell? ⟨w.heap.size,4,none⟩=some va:=cell_regrown (Aa hblk 4)
 have g5:∀ (d:Nat) (os:Array Obj),(grow (redrawn X d) os).cell? ⟨w.heap.size,5,none⟩=some (.int .i64 v.sel.index):=cell_regrown (Aa hblk 5)
 have g6:∀ (d:Nat) (os:Array Obj),(grow (redrawn X d) os).cell? ⟨w.heap.size,6,none⟩=some v1:=cell_regrown (Aa hblk 6)
 have g7:∀ (d:Nat) (os:Array Obj),(grow (redrawn X d) os).cell? ⟨w.heap.size,7,none⟩=some v2:=cell_regrown (Aa hblk 7)
 have gc:∀ (d:Nat) (os:Array Obj),(grow (redrawn X d) os).cell? ⟨c,0,none⟩=some (.slice (some ⟨bk,ok,none⟩) N ck):=cell_regrown (Aa ((hB2.block c gI).trans fE.out) 0)
 have gk:∀ (d:Nat) (os:Array Obj),(grow (redrawn X d) os).cell? ⟨bk,ok+A,none⟩=some (.string ⟨key.toArray⟩):=cell_regrown ((hB2.cell (p:=⟨bk,ok+A,none⟩) hbk).trans hkc)
 clear hX C w1 hB1 hlt1
 go_wp2_with fail
 refine wp_region_quiet_below (by kernel_rfl) (by kernel_rfl) ?_
 repeat (quiet_step ((with_reducible exact Calls.regrown_of (C2.out _ (below_regrown _ _ _)))))
 refine wpQuiet_nil ?_
 intro wq hbq
 replace hbq:=Af hbq
 clear g0 g1 g2 g3 g4 g5 g6 g7 gc gk
 have hB3:=hB2.trans (hbq.mono hB2.size)
 replace hblk:=(hbq.block w.heap.size hlt2).trans hblk
 have hlt3:w.heap.size<wq.heap.size:=(aZ hblk)
 clear C2 hbq hlt2 hB2
 obtain⟨a1,m1,c1,a2,m2,c2,a3,m3,c3,hsl⟩:=(HV.out w (Below.refl _ _)).sl
 simp only [bF.mk.injEq] at hsl
 obtain⟨rfl,rfl,rfl⟩:=hsl
 have k0:wq.cell? ⟨w.heap.size,0,none⟩=some (.int .i64 A):=Aa hblk 0
 have k1:wq.cell? ⟨w.heap.size,1,none⟩=some (.int .i64 v.number):=Aa hblk 1
 go_upto_region 7 with (fail)
 obtain⟨kvs,hm0,hkv0⟩:=HC.out.known
 obtain⟨jj,so,hf0,hos⟩:=hkv0.some 0 hl
 obtain⟨b1,n1,d1,b2,n2,d2,b3,n3,d3,hslo⟩:=hos.sl
 subst hslo
 obtain⟨W1,hW1⟩:∃ W1,wq.alloc (.cells #[.int .i64 A,.int .i64 v.number] 94)=W1:=⟨_,rfl⟩
 have hB4':Below wq.heap.size wq W1:=by rw [← hW1];exact (Below.refl _ wq).alloc nR _
 have hpl:W1.heap[wq.heap.size]?=some (.cells #[.int .i64 A,.int .i64 v.number] 94 (0,0)):=by rw [← hW1];exact heap_alloc_last wq _
 rw [hW1]
 clear hW1 k0 k1
 have hB4:Below w.heap.size w W1:=hB3.trans (hB4'.mono hB3.size)
 have hvb:=(hB4'.block w.heap.size hlt3).trans hblk
 have hP1:w.heap.size<W1.heap.size:=(aZ hvb)
 have hP2:wq.heap.size<W1.heap.size:=(aZ hpl)
 have hc1:w.cell? ⟨c,1,none⟩=some (.map (some r1)):=Aa fE.out 1
 have hr1:=hm0.lt
 have PC:=hid fun (W:World) (hb:Below W1.heap.size W1 W)=>putOld_any c 1 r1 (v.authority,v.number) v old ⟨.slice a1 m1 c1,.slice a2 m2 c2,.slice a3 m3 c3⟩ ⟨.slice b1 n1 d1,.slice b2 n2 d2,.slice b3 n3 d3⟩ kvs jj W (((hB4.trans (hb.mono hB4.size)).cell (p:=⟨c,1,none⟩) gI).trans hc1) (hm0.below (hB4.trans (hb.mono hB4.size))) hf0 ((hos.below (hB4.trans (hb.mono hB4.size)) nR).mono (hB4.trans (hb.mono hB4.size)).size) (HV.out W (hB4.trans (hb.mono hB4.size)))
 dsimp only [Ab,An] at PC
 rw [hA.out] at PC
 have SC:∀ W',Cells W1 W'→W'.cell? ⟨wq.heap.size,0,none⟩=some (.int .i64 A)∧W'.cell? ⟨wq.heap.size,1,none⟩=some (.int .i64 v.number)∧W'.cell? ⟨w.heap.size,0,none⟩=some (.int .i64 A)∧W'.cell? ⟨w.heap.size,1,none⟩=some (.int .i64 v.number)∧W'.cell? ⟨w.heap.size,2,none⟩=some (.int .i64 v.pos)∧W'.cell? ⟨w.heap.size,3,none⟩=some (.string ⟨v.prev.toArray⟩)∧W'.cell? ⟨w.heap.size,4,none⟩=some (.slice a1 m1 c1)∧W'.cell? ⟨w.heap.size,5,none⟩=some (.int .i64 v.sel.index)∧W'.cell? ⟨w.heap.size,6,none⟩=some (.slice a2 m2 c2)∧W'.cell? ⟨w.heap.size,7,none⟩=some (.slice a3 m3 c3):=fun W' h =>
  ⟨h _ _ (Aa hpl 0),h _ _ (Aa hpl 1),h _ _ (Aa hvb 0),h _ _ (Aa hvb 1),h _ _ (Aa hvb 2),h _ _ (Aa hvb 3),h _ _ (Aa hvb 4),h _ _ (Aa hvb 5),h _ _ (Aa hvb 6),h _ _ (Aa hvb 7)⟩
 have hBd:Below W1.heap.size W1 W1.drew:=(Below.refl _ W1).drew
 have hBz:=fun o=>((Below.refl _ W1).alloc nR o).drew
 have CF:Hid (∀ w' w'',Cells W1 w'→Far W1.heap.size w' w''→Cells W1 w''):=hid fun w' w'' h1 h2 p u hp=>h2 p u (World.block_lt_of_cell? W1 p hp) (h1 p u hp)
 have SC:=hid SC
 have hOS:=hid fun (W:World) (hb:Below w.heap.size w W)=>(hos.below hb nR).mono hb.size
 have hl:=hid hl
 have hf0:=hid hf0
 have hkv0:=hid hkv0
 have hm0:=hid hm0
 have hi8:(prog.info? 30).map (·.size)=some 8:=by kernel_rfl
 clear hos hblk hB3 hB4' hc1
 apply tail_split (T:=fun (Y:World) (oB:Nat)=>Hid (Below w.heap.size w Y)∧Hid (Y.heap[w.heap.size]?=some (.cells #[.int .i64 A,.int .i64 v.number,.int .i64 v.pos,.string ⟨v.prev.toArray⟩,.slice a1 m1 c1,.int .i64 v.sel.index,.slice a2 m2 c2,.slice a3 m3 c3] 30 (0,0)))∧Hid (Y.heap[wq.heap.size]?=some (.cells #[.int .i64 A,.int .i64 v.number] 94 (0,0)))∧Hid (Y.rangeAt oB 0 [.int .i64 old.authority,.int .i64 old.number,.int .i64 old.pos,.string ⟨old.prev.toArray⟩,.slice b1 n1 d1,.int .i64 old.sel.index,.slice b2 n2 d2,.slice b3 n3 d3]))
 ·intro TAIL
  refine wp_region_noPanic ?_
  refine wp_region_held_drew (S:=(fun W'=>W'.cell? ⟨wq.heap.size,0,none⟩=some (.int .i64 A)∧W'.cell? ⟨wq.heap.size,1,none⟩=some (.int .i64 v.number)∧W'.cell? ⟨w.heap.size,0,none⟩=some (.int .i64 A)∧W'.cell? ⟨w.heap.size,1,none⟩=some (.int .i64 v.number)∧W'.cell? ⟨w.heap.size,2,none⟩=some (.int .i64 v.pos)∧W'.cell? ⟨w.heap.size,3,none⟩=some (.string ⟨v.prev.toArray⟩)∧W'.cell? ⟨w.heap.size,4,none⟩=some (.slice a1 m1 c1)∧W'.cell? ⟨w.heap.size,5,none⟩=some (.int .i64 v.sel.index)∧W'.cell? ⟨w.heap.size,6,none⟩=some (.slice a2 m2 c2)∧W'.cell? ⟨w.heap.size,7,none⟩=some (.slice a3 m3 c3))) (by kernel_rfl) (SC.out _ (Cells.of_below hBd)) (fun hHeld=>?_)
  refine tk 0 (v:=.pointer (some ⟨c,0,none⟩)) rfl (by rfl) hHeld ?_ ?_
  ·intro W hSw
   (try dsimp only at hSw)
   go_simp
  (try simp only [Act.put,pA,pB,pC])
  refine tk 1 (v:=.pointer (some ⟨c,0,none⟩)) rfl (by rfl) hHeld ?_ ?_
  ·intro W hSw
   (try dsimp only at hSw)
   go_simp
  (try simp only [Act.put,pA,pB,pC])
  refine tk 2 (v:=.pointer (some ⟨c,1,none⟩)) rfl (by rfl) hHeld ?_ ?_
  ·intro W hSw
   (try dsimp only at hSw)
   go_simp
  (try simp only [Act.put,pA,pB,pC])
  refine tk 3 (v:=.agg #[.int .i64 A,.int .i64 v.number]) rfl (by rfl) hHeld ?_ ?_
  ·intro W hSw
   (try dsimp only at hSw)
   go_simp
  (try simp only [Act.put,pA,pB,pC])
  refine tk 4 (v:=.agg #[.int .i64 A,.int .i64 v.number,.int .i64 v.pos,.string ⟨v.prev.toArray⟩,.slice a1 m1 c1,.int .i64 v.sel.index,.slice a2 m2 c2,.slice a3 m3 c3]) rfl (by rfl) hHeld ?_ ?_
  ·intro W hSw
   (try dsimp only at hSw)
   go_simp
  (try simp only [Act.put,pA,pB,pC])
  refine wpAnyH_ready (rs:=[5,9]) (by kernel_rfl) (by simp) ?_
  refine AllReadyH.cons (o:=_) rfl (fun K hK=>?_) ?_
  ·go_simp
   refine (PC.out _ hBd).mono ?_
   rintro e w' ⟨rfl,hh⟩
   have hcl:Cells W1 w':=(Cells.of_below hBd).trans (Cells.of_below hh)
   go_wp2_with fail
   refine hK.out _ _ (SC.out _ hcl) (fun hHeld=>?_)
   clear hK K
   (try simp only [Act.put,pA,pB,pC])
   refine tk 6 (v:=.tuple #[.agg #[.int .i64 old.authority,.int .i64 old.number,.int .i64 old.pos,.string ⟨old.prev.toArray⟩,.slice b1 n1 d1,.int .i64 old.sel.index,.slice b2 n2 d2,.slice b3 n3 d3],.bool false]) rfl (by rfl) hHeld ?_ ?_
   ·intro W hSw
    (try dsimp only at hSw)
    go_simp
   (try simp only [Act.put,pA,pB,pC])
   refine tk 7 (v:=.agg #[.int .i64 old.authority,.int .i64 old.number,.int .i64 old.pos,.string ⟨old.prev.toArray⟩,.slice b1 n1 d1,.int .i64 old.sel.index,.slice b2 n2 d2,.slice b3 n3 d3]) rfl (by rfl) hHeld ?_ ?_
   ·intro W hSw
    (try dsimp only at hSw)
    go_simp
   (try simp only [Act.put,pA,pB,pC])
   refine tk 8 (v:=.bool false) rfl (by rfl) hHeld ?_ ?_
   ·intro W hSw
    (try dsimp only at hSw)
    go_simp
   (try simp only [Act.put,pA,pB,pC])
   refine rk 9 rfl (fun K hK=>?_)
   go_simp
   refine hK.out _ _ (SC.out _ (hcl.trans (Cells.of_below ((Below.refl _ _).alloc nR _)))) (fun hHeld=>?_)
   clear hK K
   (try simp only [Act.put,pA,pB,pC])
   refine rk 10 rfl (fun K hK=>?_)
   go_simp
   refine hK.out _ _ (SC.out _ (hcl.trans (Cells.of_below ((Below.refl _ _).alloc nR _)))) (fun hHeld=>?_)
   clear hK K
   (try simp only [Act.put,pA,pB,pC])
   refine tk 11 (v:=.bool false) rfl (by rfl) hHeld ?_ ?_
   ·intro W hSw
    (try dsimp only at hSw)
    go_simp
   (try simp only [Act.put,pA,pB,pC])
   refine wpAnyH_done (by kernel_rfl) (NoPanic.normal ?_) _
   have hbAll:Below W1.heap.size W1 (w'.alloc (.cells #[.int .i64 old.authority,.int .i64 old.number,.int .i64 old.pos,.string ⟨old.prev.toArray⟩,.slice b1 n1 d1,.int .i64 old.sel.index,.slice b2 n2 d2,.slice b3 n3 d3] 30)):=(hBd.trans (hh.mono hBd.size)).alloc (hBd.trans (hh.mono hBd.size)).size _
   have hYo:=Br w' [.int .i64 old.authority,.int .i64 old.number,.int .i64 old.pos,.string ⟨old.prev.toArray⟩,.slice b1 n1 d1,.int .i64 old.sel.index,.slice b2 n2 d2,.slice b3 n3 d3] 30
   have hY:=hid (hB4.trans (hbAll.mono hB4.size))
   have hYv:=hid ((hbAll.block _ hP1).trans hvb)
   have hYp:=hid ((hbAll.block _ hP2).trans hpl)
   have hYo:=hid hYo
   clear hcl hHeld hbAll
   generalize w'.alloc (.cells #[.int .i64 old.authority,.int .i64 old.number,.int .i64 old.pos,.string ⟨old.prev.toArray⟩,.slice b1 n1 d1,.int .i64 old.sel.index,.slice b2 n2 d2,.slice b3 n3 d3] 30)=Y at *
   generalize w'.heap.size=oB at *
   clear hh
   exact TAIL Y oB ⟨hY,hYv,hYp,hYo⟩
  ·refine AllReadyH.cons (o:=_) rfl (fun K hK=>?_) AllReadyH.nil
   go_simp
   refine hK.out _ _ (SC.out _ (Cells.of_below (hBz _))) (fun hHeld=>?_)
   clear hK K
   (try simp only [Act.put,pA,pB,pC])
   refine rk 5 rfl (fun K hK=>?_)
   go_simp
   refine (PC.out _ (hBz _)).mono ?_
   rintro e w' ⟨rfl,hh⟩
   have hcl:Cells W1 w':=(Cells.of_below (hBz _)).trans (Cells.of_below hh)
   go_wp2_with fail
   refine hK.out _ _ (SC.out _ hcl) (fun hHeld=>?_)
   clear hK K
   (try simp only [Act.put,pA,pB,pC])
   refine tk 6 (v:=.tuple #[.agg #[.int .i64 old.authority,.int .i64 old.number,.int .i64 old.pos,.string ⟨old.prev.toArray⟩,.slice b1 n1 d1,.int .i64 old.sel.index,.slice b2 n2 d2,.slice b3 n3 d3],.bool false]) rfl (by rfl) hHeld ?_ ?_
   ·intro W hSw
    (try dsimp only at hSw)
    go_simp
   (try simp only [Act.put,pA,pB,pC])
   refine tk 7 (v:=.agg #[.int .i64 old.authority,.int .i64 old.number,.int .i64 old.pos,.string ⟨old.prev.toArray⟩,.slice b1 n1 d1,.int .i64 old.sel.index,.slice b2 n2 d2,.slice b3 n3 d3]) rfl (by rfl) hHeld ?_ ?_
   ·intro W hSw
    (try dsimp only at hSw)
    go_simp
   (try simp only [Act.put,pA,pB,pC])
   refine tk 8 (v:=.bool false) rfl (by rfl) hHeld ?_ ?_
   ·intro W hSw
    (try dsimp only at hSw)
    go_simp
   (try simp only [Act.put,pA,pB,pC])
   have hz:w'.heap[W1.heap.size]?=some (.cells #[.int .i64 0,.int .i64 0,.int .i64 0,.string ⟨#[]⟩,.slice none 0 0,.int .i64 0,.slice none 0 0,.slice none 0 0] 30):=(hh.block W1.heap.size (by show W1.heap.size<(W1.alloc (.cells #[.int .i64 0,.int .i64 0,.int .i64 0,.string ⟨#[]⟩,.slice none 0 0,.int .i64 0,.slice none 0 0,.slice none 0 0] 30)).heap.size;simp)).trans (heap_alloc_last W1 (.cells #[.int .i64 0,.int .i64 0,.int .i64 0,.string ⟨#[]⟩,.slice none 0 0,.int .i64 0,.slice none 0 0,.slice none 0 0] 30))
   have hth:w'.there W1.heap.size 0 8:=fun j hj=>by
    refine⟨?_,Ao hz _⟩
    rw [Nat.zero_add,Aa hz j]
    rcases (by omega:j=0∨j=1∨j=2∨j=3∨j=4∨j=5∨j=6∨j=7) with rfl|rfl|rfl|rfl|rfl|rfl|rfl|rfl <;> rfl
   have hall:(#[.int .i64 old.authority,.int .i64 old.number,.int .i64 old.pos,.string ⟨old.prev.toArray⟩,.slice b1 n1 d1,.int .i64 old.sel.index,.slice b2 n2 d2,.slice b3 n3 d3]:Array Value).all (·.oneCell')=true:=all_oneCell_toArray (cs:=[.int .i64 old.authority,.int .i64 old.number,.int .i64 old.pos,.string ⟨old.prev.toArray⟩,.slice b1 n1 d1,.int .i64 old.sel.index,.slice b2 n2 d2,.slice b3 n3 d3]) (by
    intro u hu
    simp only [List.mem_cons,List.not_mem_nil,or_false] at hu
    rcases hu with rfl|rfl|rfl|rfl|rfl|rfl|rfl|rfl <;> rfl)
   refine rk 10 rfl (fun K hK=>?_)
   rw [if_pos (by rfl)]
   refine wp_store_mid 30 _ _ rfl W1.heap.size 0 #[.int .i64 old.authority,.int .i64 old.number,.int .i64 old.pos,.string ⟨old.prev.toArray⟩,.slice b1 n1 d1,.int .i64 old.sel.index,.slice b2 n2 d2,.slice b3 n3 d3] rfl rfl hth hi8 hall ?_
   refine hK.out _ _ (SC.out _ (CF.out _ _ hcl (Far.setCells nR _ _ (Far.refl _ _)))) (fun hHeld=>?_)
   clear hK K
   (try simp only [Act.put,pA,pB,pC])
   refine tk 11 (v:=.bool false) rfl (by rfl) hHeld ?_ ?_
   ·intro W hSw
    (try dsimp only at hSw)
    go_simp
   (try simp only [Act.put,pA,pB,pC])
   refine wpAnyH_done (by kernel_rfl) (NoPanic.normal ?_) _
   have hbw:Below W1.heap.size W1 w':=(hBz _).trans (hh.mono (hBz _).size)
   have hbAll:Below W1.heap.size W1 (w'.setCells W1.heap.size 0 #[.int .i64 old.authority,.int .i64 old.number,.int .i64 old.pos,.string ⟨old.prev.toArray⟩,.slice b1 n1 d1,.int .i64 old.sel.index,.slice b2 n2 d2,.slice b3 n3 d3].toList):=Bh hbw nR _ 0
   have hYo:=World.rangeAt_setCells_same w' W1.heap.size 0 [.int .i64 old.authority,.int .i64 old.number,.int .i64 old.pos,.string ⟨old.prev.toArray⟩,.slice b1 n1 d1,.int .i64 old.sel.index,.slice b2 n2 d2,.slice b3 n3 d3] hth
   have hY:=hid (hB4.trans (hbAll.mono hB4.size))
   have hYv:=hid ((hbAll.block _ hP1).trans hvb)
   have hYp:=hid ((hbAll.block _ hP2).trans hpl)
   have hYo:=hid hYo
   clear hcl hHeld hbAll
   clear hbw hz hth hall hh
   generalize w'.setCells W1.heap.size 0 _=Y at *
   generalize W1.heap.size=oB at *
   exact TAIL Y oB ⟨hY,hYv,hYp,hYo⟩
 ·rintro Y oB ⟨hY,hYv,hYp,hYo⟩
  clear PC SC CF hBd hBz hP1 hP2 hvb hpl hB4 hf0 hm0 hkv0
  have hi8':(prog.info? 30).map (·.size)=some (Ab old ⟨.slice b1 n1 d1,.slice b2 n2 d2,.slice b3 n3 d3⟩).length:=hi8
  obtain⟨bo,hbo⟩:=bareV_form (CH.bare old)
  obtain⟨bv,hbv⟩:=bareV_form (CH.bare v)
  have BO:=K3 old ⟨.slice b1 n1 d1,.slice b2 n2 d2,.slice b3 n3 d3⟩ Y (hG.below hY.out) (hOS.out Y hY.out)
  have BV:=fun (W:World) (hb:Below w.heap.size w W)=>K3 v ⟨.slice a1 m1 c1,.slice a2 m2 c2,.slice a3 m3 c3⟩ W (hG.below hb) (HV.out W hb)
  rw [hbo] at BO
  rw [hbv] at BV
  dsimp only [Ab] at BO BV hi8'
  rw [hA.out] at BV
  have BO:=hid BO
  have BV:=hid BV
  obtain⟨tO,hTO⟩:∃ t,Hid ((CH.bare old).getD []=t):=⟨_,hid rfl⟩
  obtain⟨tV,hTV⟩:∃ t,Hid ((CH.bare v).getD []=t):=⟨_,hid rfl⟩
  rw [hTO.out] at BO
  rw [hTV.out] at BV
  rw [hTO.out,hTV.out] at hRX
  clear hbo hbv
  go_wp2_with (refine wpList_load_mid rfl 30 _ rfl oB 0 rfl [.int .i64 old.authority,.int .i64 old.number,.int .i64 old.pos,.string ⟨old.prev.toArray⟩,.slice b1 n1 d1,.int .i64 old.sel.index,.slice b2 n2 d2,.slice b3 n3 d3] _ hYo.out underlying30 rfl hi8' ?_)
  refine BO.out.mono ?_
  rintro e w2 ⟨rfl,hb2⟩
  have hY2:=hid (hY.out.trans (hb2.mono hY.out.size))
  have hv2:=(hb2.block _ (aZ hYv.out)).trans hYv.out
  have hrv:w2.rangeAt w.heap.size 0 [.int .i64 A,.int .i64 v.number,.int .i64 v.pos,.string ⟨v.prev.toArray⟩,.slice a1 m1 c1,.int .i64 v.sel.index,.slice a2 m2 c2,.slice a3 m3 c3]:=fun j u hj=>by
   rw [Nat.zero_add,Aa hv2 j]
   simpa using hj
  have hrv:=hid hrv
  have hb2:=hid hb2
  clear BO hv2
  go_wp2_with (refine wpList_load_mid rfl 30 _ rfl w.heap.size 0 rfl [.int .i64 A,.int .i64 v.number,.int .i64 v.pos,.string ⟨v.prev.toArray⟩,.slice a1 m1 c1,.int .i64 v.sel.index,.slice a2 m2 c2,.slice a3 m3 c3] _ hrv.out underlying30 rfl hi8' ?_)
  refine (BV.out _ hY2.out).mono ?_
  rintro e w3 ⟨rfl,hb3⟩
  have hY3:=hid (hY2.out.trans (hb3.mono hY2.out.size))
  have hYb:=hid (hb2.out.trans (hb3.mono hb2.out.size))
  clear BV hb3 hrv hb2 hY2
  cases hq:(tO==tV) with
  | true =>
   have q:((⟨tO.toArray⟩:ByteArray)==⟨tV.toArray⟩)=true:=by rw [Cw];exact hq
   have hRX:=hRX.out
   rw [hq,if_pos rfl] at hRX
   subst hRX
   go_wp2
   go_ret
   exact⟨rfl,HC.out.below hY3.out,Held.of_below hY3.out⟩
  | false =>
   have q:((⟨tO.toArray⟩:ByteArray)==⟨tV.toArray⟩)=false:=by rw [Cw];exact hq
   have hRX:=hRX.out
   rw [hq,if_neg (by decide)] at hRX
   have hRX:=hid hRX
   have hYc:Cells Y w3:=Cells.of_below hYb.out
   have SC2:=hid fun (W':World) (h:Cells w3 W')=>(⟨h _ _ (hYc _ _ (Aa hYp.out 0)),h _ _ (hYc _ _ (Aa hYp.out 1)),h _ _ (hYc _ _ (hYo.out 0 _ rfl)),h _ _ (hYc _ _ (hYo.out 1 _ rfl)),h _ _ (hYc _ _ (hYo.out 2 _ rfl)),h _ _ (hYc _ _ (hYo.out 3 _ rfl)),h _ _ (hYc _ _ (hYo.out 4 _ rfl)),h _ _ (hYc _ _ (hYo.out 5 _ rfl)),h _ _ (hYc _ _ (hYo.out 6 _ rfl)),h _ _ (hYc _ _ (hYo.out 7 _ rfl)),h _ _ (hYc _ _ (Aa hYv.out 0)),h _ _ (hYc _ _ (Aa hYv.out 1)),h _ _ (hYc _ _ (Aa hYv.out 2)),h _ _ (hYc _ _ (Aa hYv.out 3)),h _ _ (hYc _ _ (Aa hYv.out 4)),h _ _ (hYc _ _ (Aa hYv.out 5)),h _ _ (hYc _ _ (Aa hYv.out 6)),h _ _ (hYc _ _ (Aa hYv.out 7))⟩:W'.cell? ⟨wq.heap.size,0,none⟩=some (.int .i64 A)∧W'.cell? ⟨wq.heap.size,1,none⟩=some (.int .i64 v.number)∧W'.cell? ⟨oB,0,none⟩=some (.int .i64 old.authority)∧W'.cell? ⟨oB,1,none⟩=some (.int .i64 old.number)∧W'.cell? ⟨oB,2,none⟩=some (.int .i64 old.pos)∧W'.cell? ⟨oB,3,none⟩=some (.string ⟨old.prev.toArray⟩)∧W'.cell? ⟨oB,4,none⟩=some (.slice b1 n1 d1)∧W'.cell? ⟨oB,5,none⟩=some (.int .i64 old.sel.index)∧W'.cell? ⟨oB,6,none⟩=some (.slice b2 n2 d2)∧W'.cell? ⟨oB,7,none⟩=some (.slice b3 n3 d3)∧W'.cell? ⟨w.heap.size,0,none⟩=some (.int .i64 A)∧W'.cell? ⟨w.heap.size,1,none⟩=some (.int .i64 v.number)∧W'.cell? ⟨w.heap.size,2,none⟩=some (.int .i64 v.pos)∧W'.cell? ⟨w.heap.size,3,none⟩=some (.string ⟨v.prev.toArray⟩)∧W'.cell? ⟨w.heap.size,4,none⟩=some (.slice a1 m1 c1)∧W'.cell? ⟨w.heap.size,5,none⟩=some (.int .i64 v.sel.index)∧W'.cell? ⟨w.heap.size,6,none⟩=some (.slice a2 m2 c2)∧W'.cell? ⟨w.heap.size,7,none⟩=some (.slice a3 m3 c3))
   obtain⟨fkvs,hfm,hfk⟩:=HC.out.forks
   have hc2:w.cell? ⟨c,2,none⟩=some (.map (some r2)):=Aa fE.out 2
   have hmc:Hid (∀ W,Below w.heap.size w W→W.cell? ⟨c,2,none⟩=some (.map (some r2))):=hid fun W hb=>(hb.cell (p:=⟨c,2,none⟩) gI).trans hc2
   have hfm:=hid hfm
   have hfk:=hid hfk
   have hBd:Below w3.heap.size w3 w3.drew:=(Below.refl _ w3).drew
   have hb3:=hid (hY3.out.trans (hBd.mono hY3.out.size))
   clear hc2 hYc hYb hYo hYp hYv hY
   go_wp2_with fail
   cases hlf:CH.aX (v.authority,v.number) forks with
   | none =>
    have hRX:=hRX.out
    rw [CH.addFork,hlf] at hRX
    dsimp only at hRX
    subst hRX
    have PF:=putNewF_any c 2 r2 (v.authority,v.number) old v (.slice b1 n1 d1) (.slice b2 n2 d2) (.slice b3 n3 d3) (.slice a1 m1 c1) (.slice a2 m2 c2) (.slice a3 m3 c3) fkvs w3.drew (hmc.out _ hb3.out) (hfm.out.below hb3.out) (hfk.out.none 0 hlf) (List.all_eq_true.1 (by rfl))
    dsimp only [An] at PF
    rw [hA.out] at PF
    have hM2:Hid (IsMap w3.drew r2):=hid (by
     obtain⟨es,ck,e,_⟩:=hfm.out.below hb3.out
     exact⟨es,ck,e⟩)
    have PF:=hid PF
    refine wp_region_noPanic ?_
    refine wp_region_held_drew (S:=fun W'=>W'.cell? ⟨wq.heap.size,0,none⟩=some (.int .i64 A)∧W'.cell? ⟨wq.heap.size,1,none⟩=some (.int .i64 v.number)∧W'.cell? ⟨oB,0,none⟩=some (.int .i64 old.authority)∧W'.cell? ⟨oB,1,none⟩=some (.int .i64 old.number)∧W'.cell? ⟨oB,2,none⟩=some (.int .i64 old.pos)∧W'.cell? ⟨oB,3,none⟩=some (.string ⟨old.prev.toArray⟩)∧W'.cell? ⟨oB,4,none⟩=some (.slice b1 n1 d1)∧W'.cell? ⟨oB,5,none⟩=some (.int .i64 old.sel.index)∧W'.cell? ⟨oB,6,none⟩=some (.slice b2 n2 d2)∧W'.cell? ⟨oB,7,none⟩=some (.slice b3 n3 d3)∧W'.cell? ⟨w.heap.size,0,none⟩=some (.int .i64 A)∧W'.cell? ⟨w.heap.size,1,none⟩=some (.int .i64 v.number)∧W'.cell? ⟨w.heap.size,2,none⟩=some (.int .i64 v.pos)∧W'.cell? ⟨w.heap.size,3,none⟩=some (.string ⟨v.prev.toArray⟩)∧W'.cell? ⟨w.heap.size,4,none⟩=some (.slice a1 m1 c1)∧W'.cell? ⟨w.heap.size,5,none⟩=some (.int .i64 v.sel.index)∧W'.cell? ⟨w.heap.size,6,none⟩=some (.slice a2 m2 c2)∧W'.cell? ⟨w.heap.size,7,none⟩=some (.slice a3 m3 c3)) (by kernel_rfl) (SC2.out _ (Cells.of_below hBd)) (fun hHeld=>?_)
    refine tk 0 (v:=.pointer (some ⟨c,0,none⟩)) rfl (by rfl) hHeld ?_ ?_
    ·intro W hSw
     (try dsimp only at hSw)
     go_simp
    (try simp only [Act.put,pA,pB,pC])
    refine tk 1 (v:=.pointer (some ⟨c,0,none⟩)) rfl (by rfl) hHeld ?_ ?_
    ·intro W hSw
     (try dsimp only at hSw)
     go_simp
    (try simp only [Act.put,pA,pB,pC])
    refine tk 2 (v:=.pointer (some ⟨c,2,none⟩)) rfl (by rfl) hHeld ?_ ?_
    ·intro W hSw
     (try dsimp only at hSw)
     go_simp
    (try simp only [Act.put,pA,pB,pC])
    refine tk 3 (v:=.agg #[.int .i64 A,.int .i64 v.number]) rfl (by rfl) hHeld ?_ ?_
    ·intro W hSw
     (try dsimp only at hSw)
     go_simp
    (try simp only [Act.put,pA,pB,pC])
    refine tk 4 (v:=.agg #[.int .i64 old.authority,.int .i64 old.number,.int .i64 old.pos,.string ⟨old.prev.toArray⟩,.slice b1 n1 d1,.int .i64 old.sel.index,.slice b2 n2 d2,.slice b3 n3 d3]) rfl (by rfl) hHeld ?_ ?_
    ·intro W hSw
     (try dsimp only at hSw)
     go_simp
    (try simp only [Act.put,pA,pB,pC])
    refine tk 5 (v:=.agg #[.int .i64 A,.int .i64 v.number,.int .i64 v.pos,.string ⟨v.prev.toArray⟩,.slice a1 m1 c1,.int .i64 v.sel.index,.slice a2 m2 c2,.slice a3 m3 c3]) rfl (by rfl) hHeld ?_ ?_
    ·intro W hSw
     (try dsimp only at hSw)
     go_simp
    (try simp only [Act.put,pA,pB,pC])
    refine tk 6 (v:=.agg #[.int .i64 old.authority,.int .i64 old.number,.int .i64 old.pos,.string ⟨old.prev.toArray⟩,.slice b1 n1 d1,.int .i64 old.sel.index,.slice b2 n2 d2,.slice b3 n3 d3,.int .i64 A,.int .i64 v.number,.int .i64 v.pos,.string ⟨v.prev.toArray⟩,.slice a1 m1 c1,.int .i64 v.sel.index,.slice a2 m2 c2,.slice a3 m3 c3]) rfl (by rfl) hHeld ?_ ?_
    ·intro W hSw
     (try dsimp only at hSw)
     go_simp
    (try simp only [Act.put,pA,pB,pC])
    refine rk 7 rfl (fun K hK=>?_)
    go_simp
    refine PF.out.mono ?_
    rintro e w4 ⟨rfl,hh,hmm⟩
    have hcl:Cells w3 w4:=(Cells.of_below hBd).trans (hh.cells fun r hr=>by
     cases List.mem_singleton.1 hr
     exact hM2.out)
    go_wp2_with fail
    refine hK.out _ _ (SC2.out _ hcl) (fun hHeld=>?_)
    clear hK K
    (try simp only [Act.put,pA,pB,pC])
    refine wpAnyH_done (by kernel_rfl) (NoPanic.normal ?_) _
    have hfin:=hid ((Held.of_below hb3.out).trans hh)
    have hmm:Hid (A8 An r2 w4 (fkvs++[((v.authority,v.number),.agg (Ab old ⟨.slice b1 n1 d1,.slice b2 n2 d2,.slice b3 n3 d3⟩++Ab v ⟨.slice a1 m1 c1,.slice a2 m2 c2,.slice a3 m3 c3⟩).toArray)])):=hid (by
     dsimp only [Ab]
     rw [hA.out]
     exact hmm)
    clear hcl hHeld PF hh
    go_wp2
    go_ret
    exact⟨rfl,chainAt_fork HC.out (HV.out w (Below.refl _ _)) (hOS.out w (Below.refl _ _)) hfin.out hfm.out hfk.out hmm.out,hfin.out.mono (by simp)⟩
   | some f0 =>
    have hRX:=hRX.out
    rw [CH.addFork,hlf] at hRX
    dsimp only at hRX
    subst hRX
    obtain⟨j0,x0,hf0,s1,s2,hx0,hv1,hv2⟩:=hfk.out.some 0 hlf
    obtain⟨p1,p2,p3,p4,p5,p6,p7,p8,p9,rfl⟩:=hv1.sl
    obtain⟨q1,q2,q3,q4,q5,q6,q7,q8,q9,rfl⟩:=hv2.sl
    subst hx0
    have PF:=putOldF_any c 2 r2 (v.authority,v.number) old v f0.1 f0.2 (.slice b1 n1 d1) (.slice b2 n2 d2) (.slice b3 n3 d3) (.slice a1 m1 c1) (.slice a2 m2 c2) (.slice a3 m3 c3) p1 p4 p7 q1 q4 q7 p2 p5 p8 q2 q5 q8 p3 p6 p9 q3 q6 q9 fkvs j0 w3.drew (hmc.out _ hb3.out) (hfm.out.below hb3.out) hf0
    dsimp only [An] at PF
    rw [hA.out] at PF
    have PF:=hid PF
    clear hf0 hv1 hv2
    refine wp_region_noPanic ?_
    refine wp_region_held_drew (S:=fun W'=>W'.cell? ⟨wq.heap.size,0,none⟩=some (.int .i64 A)∧W'.cell? ⟨wq.heap.size,1,none⟩=some (.int .i64 v.number)∧W'.cell? ⟨oB,0,none⟩=some (.int .i64 old.authority)∧W'.cell? ⟨oB,1,none⟩=some (.int .i64 old.number)∧W'.cell? ⟨oB,2,none⟩=some (.int .i64 old.pos)∧W'.cell? ⟨oB,3,none⟩=some (.string ⟨old.prev.toArray⟩)∧W'.cell? ⟨oB,4,none⟩=some (.slice b1 n1 d1)∧W'.cell? ⟨oB,5,none⟩=some (.int .i64 old.sel.index)∧W'.cell? ⟨oB,6,none⟩=some (.slice b2 n2 d2)∧W'.cell? ⟨oB,7,none⟩=some (.slice b3 n3 d3)∧W'.cell? ⟨w.heap.size,0,none⟩=some (.int .i64 A)∧W'.cell? ⟨w.heap.size,1,none⟩=some (.int .i64 v.number)∧W'.cell? ⟨w.heap.size,2,none⟩=some (.int .i64 v.pos)∧W'.cell? ⟨w.heap.size,3,none⟩=some (.string ⟨v.prev.toArray⟩)∧W'.cell? ⟨w.heap.size,4,none⟩=some (.slice a1 m1 c1)∧W'.cell? ⟨w.heap.size,5,none⟩=some (.int .i64 v.sel.index)∧W'.cell? ⟨w.heap.size,6,none⟩=some (.slice a2 m2 c2)∧W'.cell? ⟨w.heap.size,7,none⟩=some (.slice a3 m3 c3)) (by kernel_rfl) (SC2.out _ (Cells.of_below hBd)) (fun hHeld=>?_)
    refine tk 0 (v:=.pointer (some ⟨c,0,none⟩)) rfl (by rfl) hHeld ?_ ?_
    ·intro W hSw
     (try dsimp only at hSw)
     go_simp
    (try simp only [Act.put,pA,pB,pC])
    refine tk 1 (v:=.pointer (some ⟨c,0,none⟩)) rfl (by rfl) hHeld ?_ ?_
    ·intro W hSw
     (try dsimp only at hSw)
     go_simp
    (try simp only [Act.put,pA,pB,pC])
    refine tk 2 (v:=.pointer (some ⟨c,2,none⟩)) rfl (by rfl) hHeld ?_ ?_
    ·intro W hSw
     (try dsimp only at hSw)
     go_simp
    (try simp only [Act.put,pA,pB,pC])
    refine tk 3 (v:=.agg #[.int .i64 A,.int .i64 v.number]) rfl (by rfl) hHeld ?_ ?_
    ·intro W hSw
     (try dsimp only at hSw)
     go_simp
    (try simp only [Act.put,pA,pB,pC])
    refine tk 4 (v:=.agg #[.int .i64 old.authority,.int .i64 old.number,.int .i64 old.pos,.string ⟨old.prev.toArray⟩,.slice b1 n1 d1,.int .i64 old.sel.index,.slice b2 n2 d2,.slice b3 n3 d3]) rfl (by rfl) hHeld ?_ ?_
    ·intro W hSw
     (try dsimp only at hSw)
     go_simp
    (try simp only [Act.put,pA,pB,pC])
    refine tk 5 (v:=.agg #[.int .i64 A,.int .i64 v.number,.int .i64 v.pos,.string ⟨v.prev.toArray⟩,.slice a1 m1 c1,.int .i64 v.sel.index,.slice a2 m2 c2,.slice a3 m3 c3]) rfl (by rfl) hHeld ?_ ?_
    ·intro W hSw
     (try dsimp only at hSw)
     go_simp
    (try simp only [Act.put,pA,pB,pC])
    refine tk 6 (v:=.agg #[.int .i64 old.authority,.int .i64 old.number,.int .i64 old.pos,.string ⟨old.prev.toArray⟩,.slice b1 n1 d1,.int .i64 old.sel.index,.slice b2 n2 d2,.slice b3 n3 d3,.int .i64 A,.int .i64 v.number,.int .i64 v.pos,.string ⟨v.prev.toArray⟩,.slice a1 m1 c1,.int .i64 v.sel.index,.slice a2 m2 c2,.slice a3 m3 c3]) rfl (by rfl) hHeld ?_ ?_
    ·intro W hSw
     (try dsimp only at hSw)
     go_simp
    (try simp only [Act.put,pA,pB,pC])
    refine rk 7 rfl (fun K hK=>?_)
    go_simp
    refine PF.out.mono ?_
    rintro e w4 ⟨rfl,hh⟩
    have hcl:Cells w3 w4:=(Cells.of_below hBd).trans (Cells.of_below hh)
    go_wp2_with fail
    refine hK.out _ _ (SC2.out _ hcl) (fun hHeld=>?_)
    clear hK K
    (try simp only [Act.put,pA,pB,pC])
    refine wpAnyH_done (by kernel_rfl) (NoPanic.normal ?_) _
    have hfin:=hid (hb3.out.trans (hh.mono hb3.out.size))
    clear hcl hHeld PF hh
    go_wp2
    go_ret
    exact⟨rfl,HC.out.below hfin.out,Held.of_below hfin.out⟩
end
section
open Go.Lib Go.Proofs.Tryz Go.RowKit Go.Shelf Go.Sort
theorem add_any (c r1 r2:Nat) (keys:List (List UInt8)) (known:CH.Known) (forks:CH.Forks) (v:CH.Version) (s:bF) (w:World) (hG:Gc w) (hC:aU w c r1 r2 keys known forks) (hv:aK w.heap.size w v s) :
  Calls prog 15 #[.pointer (some ⟨c,0,none⟩),.agg (Ab v s).toArray] w (Hg w c r1 r2 keys (addC keys known forks v)):=by
 unfold addC CH.fQ
 cases ht:CH.bK v with
 | error er=>exact add_text c r1 r2 keys known forks v s w hG hC hv er ht
 | ok t =>
  dsimp only
  by_cases ha:v.authority ≥ (keys.length:Int)
  ·rw [if_pos (decide_eq_true ha)]
   exact add_auth c r1 r2 keys known forks v s w hG hC hv t ht ha
  ·have hlt:v.authority<(keys.length:Int):=by omega
   rw [if_neg (by simpa using ha)]
   cases hk:dO v (keys.getD v.authority.toNat []) with
   | false =>
    exact add_key c r1 r2 keys known forks v s w hG hC hv t ht hlt hk
   | true =>
    cases hl:CH.aX (v.authority,v.number) known with
    | none=>exact addWalk_new c r1 r2 keys known forks v s w hG hC hv t ht hlt hk hl
    | some old=>exact addWalk_old c r1 r2 keys known forks v s w hG hC hv t ht hlt hk old hl
theorem L0 {c r1 r2:Nat} {keys:List (List UInt8)} {known:CH.Known} {forks:CH.Forks} {x:Int × CH.Known × CH.Forks} {w0 w w':World} {e:Ending} (hG:Gc w) (hC:aU w c r1 r2 keys known forks) (h1:w0.heap.size≤r1) (h2:w0.heap.size≤r2) (h9:9≤w0.heap.size) (hB:Below w0.heap.size w0 w) (hR:Hg w c r1 r2 keys x e w') :
  Gc w'∧Below w0.heap.size w0 w'∧Below w0.heap.size w w':=by
 obtain⟨_,_,hH⟩:=hR
 have hB':Below w0.heap.size w w':=hH.below hB.size (fun r hr=>by
  simp only [List.mem_cons,List.not_mem_nil,or_false] at hr
  rcases hr with rfl|rfl <;> assumption)
 refine⟨hG.kept (hH.cells fun r hr=>?_) (hB'.mono h9),hB.trans hB',hB'⟩
 simp only [List.mem_cons,List.not_mem_nil,or_false] at hr
 rcases hr with rfl|rfl
 ·obtain⟨kvs,⟨es,ck,e,_⟩,_⟩:=hC.known
  exact⟨es,ck,e⟩
 ·obtain⟨kvs,⟨es,ck,e,_⟩,_⟩:=hC.forks
  exact⟨es,ck,e⟩
def nilS:Value:=.slice none 0 0
def nilV:ActV:=⟨nilS,nilS,nilS,nilS,nilS⟩
def EndsRet (w:World) (n:Int) (e:Ending) (w':World):Prop:=∃ v,e=.returned v∧Cj w'.heap.size w' v [CH.gy n]∧Below w.heap.size w w'
theorem endAct_at (n:Int) (hn:I64 n) (B:Nat) (w:World):eY B w (CH.gy n) nilV:=by
 have s0:Strs B w nilS []:=⟨none,0,rfl,Nat.le_refl _,by omega,fun h=>absurd rfl h⟩
 have hf:Ci (.mk 0 [] 0 0 []):=by
  unfold Ci Cr
  exact⟨by simp,trivial⟩
 have hc:(CH.Formula.mk 0 [] 0 0 []).count≤100000000:=by
  unfold CH.Formula.count CH.aG;omega
 have hd:(CH.Formula.mk 0 [] 0 0 []).depth≤100000000:=by
  unfold CH.Formula.depth CH.aS;omega
 have i0:I64 0:=⟨by decide,by decide⟩
 have z:(0:Nat)≤10000:=by omega
 have z1:(0:Nat)≤100000:=by omega
 have z2:(2:Nat)≤10000:=by omega
 have sh:Short []:=⟨z1,fun l h=>by cases h⟩
 refine⟨⟨none,0,rfl,Nat.le_refl _,by omega,fun h=>absurd rfl h⟩,⟨?_,⟨i0,i0,i0,i0⟩,z,z,z,hf,hc,hd⟩,s0,s0,s0,⟨⟨z,⟨z,z1,fun _ h=>by cases h⟩⟩,i0,z,sh,sh,⟨z,z,z,z,z,sh⟩,z2,⟨by show (-9223372036854775808:Int)≤7;decide,by show (7:Int)≤9223372036854775807;decide⟩,hn⟩⟩
 show Am B w (.mk 0 [] 0 0 []) nilS
 unfold Am
 exact⟨none,0,rfl,Nat.le_refl _,by omega,fun h=>absurd rfl h⟩
theorem ends_any (n:Int) (hn:I64 n) (w:World):Calls prog 13 #[.int .i64 n] w (EndsRet w n):=by
 go_enter func13,ntmps13
 go_wp2_with fail
 go_ret
 have hlt:w.heap.size<(w.alloc (.cells (At (CH.gy n) nilV).toArray 67)).heap.size:=by simp
 exact⟨.slice (some ⟨w.heap.size,0,none⟩) 1 1,rfl,⟨some ⟨w.heap.size,0,none⟩,1,rfl,Nat.le_refl _,by omega,fun _=>⟨w.heap.size,0,rfl,hlt,fun j x hj=>by
  cases j with
  | zero =>
   cases hj
   refine⟨nilV,fun i u hi=>?_,endAct_at n hn _ _⟩
   rw [Nat.zero_mul,Nat.zero_add]
   have h:=Br w (At (CH.gy n) nilV) 67 i u hi
   rw [Nat.zero_add] at h
   exact h
  | succ j=>simp at hj⟩⟩,(Below.refl _ w).alloc nR _⟩
end
end Go.Proofs.YtjaeapaeaiiieaaGreatDoor
namespace CH
def dM (l:List Str) (most:Nat):Bool:=l.all (fun s=>decide (s.length≤60))&&decide (l.length≤most)
def iy (n:Name):Bool:=(n.words.take 20).all (fun s=>decide (s.length≤100))&&decide (n.words.length≤20)
def fewEntry (e:Entry):Bool:=(e.names.take 10).all iy&&(decide (e.id.length≤100)&&decide (e.names.length≤10))
def iH (c:Change):Bool:=decide (c.id.length≤100)&&fewEntry c.entry
theorem dV {α:Type} (p:α→Bool) (l:List α) (k:Nat) (x:α) (h:l[k]?=some x):(l.take (k+1)).all p=((l.take k).all p&&p x):=by
 rw [CH.aH l k x h,List.all_append];simp
theorem eP {α:Type} (p:α→Bool) (l:List α) (k:Nat) (x:α) (h:l[k]?=some x) (hp:p x=false):l.all p=false:=by
 rw [List.all_eq_false]
 exact⟨x,List.mem_of_getElem? h,by simp [hp]⟩
end CH
namespace Go.Proofs.YtjaeapaeaiiieaaGreatDoor
open Go.RowKit Go.Lib
theorem Gs (v:Value) (ls:List (List UInt8)) (most:Nat) (w:World) (hv:Strs w.heap.size w v ls) :
  Calls Tryz.prog 20 #[v,.int .i64 most] w (Ret w (.bool (CH.dM ls most))):=by
 obtain⟨a,cap,rfl,hl,hcap,hne⟩:=hv
 obtain⟨R,hR⟩:∃ R,Hid (CH.dM ls most=R):=⟨_,hid rfl⟩
 rw [hR.out]
 have hne:=hid hne
 obtain⟨N,hN⟩:∃ N,ls.length=N:=⟨_,rfl⟩
 rw [hN] at hl ⊢
 have hN:=hid hN
 go_enter Tryz.func20,Tryz.ntmps20
 go_wp2_with fail
 go_loopw [5] (fun i wr=>∃ k:Nat,k≤N∧i=.int .i64 k∧wr=w∧Hid ((ls.take k).all (fun s=>decide (s.length≤60))=true)) (fun i _=>N - (RowKit.intOf i).toNat)
 case atStart=>exact⟨0,Nat.zero_le _,rfl,rfl,hid rfl⟩
 case round =>
  obtain⟨k,hk,rfl,rfl,hI⟩:=hrel
  by_cases hlt:k<N
  ·obtain⟨b,off,rfl,hbl,hcells⟩:=hne.out (by intro h;have:=hN.out;simp [h] at this;omega)
   obtain⟨l,hl'⟩:∃ l,ls[k]?=some l:=⟨_,List.getElem?_eq_getElem (by rw [hN.out];exact hlt)⟩
   have hcell:=hcells k l hl'
   clear hcells
   have hl':=hid hl'
   obtain⟨m,hm⟩:∃ m,l.length=m:=⟨_,rfl⟩
   by_cases h60:m≤60
   ·have d:decide ((60:Int)<(m:Int))=false:=by simp;omega
    have hI':Hid ((ls.take (k+1)).all (fun s=>decide (s.length≤60))=true):=hid (by rw [CH.dV _ ls k l hl'.out,hI.out,hm];simpa using h60)
    go_wp2
    go_roundw
    case rel=>exact⟨k+1,by omega,by go_num,by first|rfl|trivial,hI'⟩
    case measure=>simp [RowKit.intOf];omega
   ·have d:decide ((60:Int)<(m:Int))=true:=by simp;omega
    go_wp2
    go_ret
    exact⟨by rw [← hR.out];unfold CH.dM;rw [CH.eP _ ls k l hl'.out (by rw [hm];simpa using h60)];rfl,Below.refl _ _⟩
  ·obtain rfl:k=N:=by omega
   have hall:ls.all (fun s=>decide (s.length≤60))=true:=by have:=hI.out;rwa [← hN.out,List.take_length] at this
   go_wp2
   go_ret
   refine⟨?_,Below.refl _ _⟩
   rw [← hR.out]
   unfold CH.dM
   rw [hall,hN.out,Bool.true_and]
   congr 2
   try (rw [decide_eq_decide];omega)
theorem fewName_any (sc:Int) (v:Value) (ls:List (List UInt8)) (w:World) (hv:Strs w.heap.size w v ls) :
  Calls Tryz.prog 149 #[.agg #[.int .i64 sc,v]] w (Ret w (.bool (CH.iy ⟨sc,ls⟩))):=by
 obtain⟨a,cap,rfl,hl,hcap,hne⟩:=hv
 obtain⟨R,hR⟩:∃ R,Hid (CH.iy ⟨sc,ls⟩=R):=⟨_,hid rfl⟩
 rw [hR.out]
 have hR1:Hid (((ls.take 20).all (fun s=>decide (s.length≤100))&&decide (ls.length≤20))=R):=hid hR.out
 clear hR
 have hne:=hid hne
 obtain⟨N,hN⟩:∃ N,ls.length=N:=⟨_,rfl⟩
 rw [hN] at hl hR1 ⊢
 have hN:=hid hN
 have hB0:=fun o=>(Below.refl _ w).alloc (Nat.le_refl _) o
 go_enter Tryz.func149,Tryz.ntmps149
 go_wp2_with fail
 generalize hWd:w.alloc _=W at *
 have c1:W.cell? ⟨w.heap.size,1,none⟩=some (.slice a N cap):=by rw [← hWd];exact Aa (heap_alloc_last w _) 1
 have hBW:Below w.heap.size w W:=by rw [← hWd];exact hB0 _
 clear hWd hB0
 go_loopw [3] (fun i wr=>∃ k:Nat,k≤N∧k≤20∧i=.int .i64 k∧wr=W∧Hid ((ls.take k).all (fun s=>decide (s.length≤100))=true)) (fun i _=>20 - (RowKit.intOf i).toNat)
 case atStart=>exact⟨0,Nat.zero_le _,Nat.zero_le _,rfl,rfl,hid rfl⟩
 case round =>
  obtain⟨k,hk,hk20,rfl,rfl,hI⟩:=hrel
  by_cases hlt:k<N∧k<20
  ·obtain⟨hlt,hlt20⟩:=hlt
   obtain⟨b,off,rfl,hbl,hcells⟩:=hne.out (by intro h;have:=hN.out;simp [h] at this;omega)
   obtain⟨l,hl'⟩:∃ l,ls[k]?=some l:=⟨_,List.getElem?_eq_getElem (by rw [hN.out];exact hlt)⟩
   have hcell:=(hBW.cell (p:=⟨b,off+k,none⟩) hbl).trans (hcells k l hl')
   clear hcells
   have hl':=hid hl'
   obtain⟨m,hm⟩:∃ m,l.length=m:=⟨_,rfl⟩
   have d1:decide ((k:Int)<(N:Int))=true:=by simp;omega
   have d2:decide ((k:Int)<20)=true:=by simp;omega
   by_cases h60:m≤100
   ·have d:decide ((100:Int)<(m:Int))=false:=by simp;omega
    have hI':Hid ((ls.take (k+1)).all (fun s=>decide (s.length≤100))=true):=hid (by rw [CH.dV _ ls k l hl'.out,hI.out,hm];simpa using h60)
    go_wp2
    go_roundw
    case rel=>exact⟨k+1,by omega,by omega,by go_num,by first|rfl|trivial,hI'⟩
    case measure=>simp [RowKit.intOf];omega
   ·have d:decide ((100:Int)<(m:Int))=true:=by simp;omega
    go_wp2
    go_ret
    refine⟨?_,hBW⟩
    rw [← hR1.out,CH.eP _ (ls.take 20) k l (by rw [List.getElem?_take_of_lt hlt20];exact hl'.out) (by rw [hm];simpa using h60)]
    rfl
  ·have hall:(ls.take 20).all (fun s=>decide (s.length≤100))=true:=by
    have hi:=hI.out
    by_cases h20:k=20
    ·rwa [h20] at hi
    ·have hkN:k=N:=by omega
     rw [hkN,← hN.out,List.take_length] at hi
     rw [List.all_eq_true] at hi ⊢
     exact fun x hx=>hi x (List.mem_of_mem_take hx)
   have hfin:Hid (decide (N≤20)=R):=hid (by rw [← hR1.out,hall];rfl)
   have e20:decide ((N:Int)≤20)=decide (N≤20):=by rw [decide_eq_decide];omega
   by_cases h1:k<N
   ·have d1:decide ((k:Int)<(N:Int))=true:=by simp;omega
    have d2:decide ((k:Int)<20)=false:=by simp;omega
    go_wp2
    go_ret
    exact⟨by rw [← hfin.out,← e20];rfl,hBW⟩
   ·have d1:decide ((k:Int)<(N:Int))=false:=by simp;omega
    go_wp2
    go_ret
    exact⟨by rw [← hfin.out,← e20];rfl,hBW⟩
end Go.Proofs.YtjaeapaeaiiieaaGreatDoor
namespace Go.Proofs.YtjaeapaeaiiieaaGreatDoor
section
open Go.Lib Go.Proofs.Tryz Go.RowKit
def Ei (B:Nat) (w:World) (v:Value) (ns:List CH.Name):Prop :=
 ∃ a cap,v=.slice a ns.length cap∧ns.length≤cap∧cap≤9223372036854775807 ∧
  (ns≠[]→∃ b off,a=some ⟨b,off,none⟩∧b<B∧∀ j n,ns[j]?=some n→∃ vw,w.cell? ⟨b,off+j*2,none⟩=some (.int .i64 n.script)∧w.cell? ⟨b,off+j*2+1,none⟩=some vw∧Strs B w vw n.words)
theorem fewEntry_any (e:CH.Entry) (v:Value) (w:World) (hv:Ei w.heap.size w v e.names) :
  Calls prog 94 #[.agg #[.string ⟨e.id.toArray⟩,v]] w (Ret w (.bool (CH.fewEntry e))):=by
 obtain⟨id,ls⟩:=e
 obtain⟨a,cap,rfl,hl,hcap,hne⟩:=hv
 dsimp only at *
 obtain⟨R,hR⟩:∃ R,Hid (CH.fewEntry ⟨id,ls⟩=R):=⟨_,hid rfl⟩
 rw [hR.out]
 have hR1:Hid (((ls.take 10).all CH.iy&&(decide (id.length≤100)&&decide (ls.length≤10)))=R):=hid hR.out
 clear hR
 have hne:=hid hne
 obtain⟨N,hN⟩:∃ N,ls.length=N:=⟨_,rfl⟩
 rw [hN] at hl hR1 ⊢
 have hN:=hid hN
 have hB0:=fun o=>(Below.refl _ w).alloc nR o
 go_enter func94,ntmps94
 go_wp2_with fail
 generalize hWd:w.alloc _=W at *
 have c0:W.cell? ⟨w.heap.size,0,none⟩=some (.string ⟨id.toArray⟩):=by rw [← hWd];exact Aa (heap_alloc_last w _) 0
 have c1:W.cell? ⟨w.heap.size,1,none⟩=some (.slice a N cap):=by rw [← hWd];exact Aa (heap_alloc_last w _) 1
 have hBW:Below w.heap.size w W:=by rw [← hWd];exact hB0 _
 have hlW:w.heap.size<W.heap.size:=by rw [← hWd];simp
 clear hWd hB0
 go_loopw [3] (fun i wr=>∃ k:Nat,k≤N∧k≤10∧i=.int .i64 k∧Hid (Below W.heap.size W wr)∧Hid ((ls.take k).all CH.iy=true)) (fun i _=>10 - (RowKit.intOf i).toNat)
 case atStart=>exact⟨0,Nat.zero_le _,Nat.zero_le _,rfl,hid (Below.refl _ _),hid rfl⟩
 case round =>
  obtain⟨k,hk,hk10,rfl,hBr,hI⟩:=hrel
  have k0:=(hBr.out.cell (p:=⟨w.heap.size,0,none⟩) hlW).trans c0
  have k1:=(hBr.out.cell (p:=⟨w.heap.size,1,none⟩) hlW).trans c1
  have hBw:Below w.heap.size w wr:=hBW.trans (hBr.out.mono hBW.size)
  by_cases hlt:k<N∧k<10
  ·obtain⟨hlt,hlt10⟩:=hlt
   obtain⟨b,off,rfl,hbl,hcells⟩:=hne.out (by intro h;have:=hN.out;simp [h] at this;omega)
   obtain⟨n,hn'⟩:∃ n,ls[k]?=some n:=⟨_,lZ (by rw [hN.out];exact hlt)⟩
   obtain⟨vw,d1,d2,d3⟩:=hcells k n hn'
   have e1:=(hBw.cell (p:=⟨b,off+k*2,none⟩) hbl).trans d1
   have e2:=(hBw.cell (p:=⟨b,off+k*2+1,none⟩) hbl).trans d2
   have F:=hid (fewName_any n.script vw n.words wr ((d3.below hBw nR).mono hBw.size))
   clear hcells d1 d2
   have hn':=hid hn'
   have q1:decide ((k:Int)<(N:Int))=true:=by simp;omega
   have q2:decide ((k:Int)<10)=true:=by simp;omega
   obtain⟨fb,hfb⟩:∃ fb,Hid (CH.iy n=fb):=⟨_,hid rfl⟩
   have F:Hid (Calls prog 149 #[.agg #[.int .i64 n.script,vw]] wr (Ret wr (.bool fb))):=hid (by rw [← hfb.out];exact F.out)
   obtain⟨vwa,vwc,rfl,_,_⟩:=d3
   generalize n.words.length=nw at *
   go_wp2_with fail
   refine F.out.mono ?_
   rintro e w1 ⟨rfl,hb1⟩
   clear F
   cases fb with
   | true =>
    have hI':Hid ((ls.take (k+1)).all CH.iy=true):=hid (by rw [CH.dV _ ls k n hn'.out,hI.out,hfb.out];rfl)
    have hB1:Hid (Below W.heap.size W w1):=hid (hBr.out.trans (hb1.mono hBr.out.size))
    go_wp2
    go_roundw
    case rel=>exact⟨k+1,by omega,by omega,by go_num,hB1,hI'⟩
    case measure=>simp [RowKit.intOf];omega
   | false =>
    go_wp2
    go_ret
    refine⟨?_,hBw.trans (hb1.mono hBw.size)⟩
    rw [← hR1.out,CH.eP _ (ls.take 10) k n (by rw [List.getElem?_take_of_lt hlt10];exact hn'.out) hfb.out]
    rfl
  ·have hall:(ls.take 10).all CH.iy=true:=by
    have hi:=hI.out
    by_cases h10:k=10
    ·rwa [h10] at hi
    ·have hkN:k=N:=by omega
     rw [hkN,← hN.out,List.take_length] at hi
     rw [List.all_eq_true] at hi ⊢
     exact fun x hx=>hi x (List.mem_of_mem_take hx)
   have e10:decide ((N:Int)≤10)=decide (N≤10):=by rw [decide_eq_decide];omega
   obtain⟨m,hm⟩:∃ m,id.length=m:=⟨_,rfl⟩
   have e100:decide ((m:Int)≤100)=decide (id.length≤100):=by rw [hm,decide_eq_decide];omega
   have hfin:Hid ((decide ((m:Int)≤100)&&decide ((N:Int)≤10))=R):=hid (by rw [← hR1.out,hall,e10,e100];rfl)
   obtain⟨r1,h1⟩:∃ r,decide ((m:Int)≤100)=r:=⟨_,rfl⟩
   rw [h1] at hfin
   clear e10 e100
   by_cases h1:k<N
   ·have d1:decide ((k:Int)<(N:Int))=true:=by simp;omega
    have d2:decide ((k:Int)<10)=false:=by simp;omega
    cases r1 <;> go_wp2 <;> (go_ret;exact⟨by rw [← hfin.out];rfl,hBw⟩)
   ·have d1:decide ((k:Int)<(N:Int))=false:=by simp;omega
    cases r1 <;> go_wp2 <;> (go_ret;exact⟨by rw [← hfin.out];rfl,hBw⟩)
theorem fewChange_any (c:CH.Change) (v:Value) (w:World) (hv:Ei w.heap.size w v c.entry.names) :
  Calls prog 46 #[.agg #[.int .i64 c.kind,.string ⟨c.id.toArray⟩,.string ⟨c.entry.id.toArray⟩,v,.int .i64 c.pos]] w (Ret w (.bool (CH.iH c))):=by
 have hB0:=fun o=>(Below.refl _ w).alloc nR o
 have F:=fun o=>fewEntry_any c.entry v (w.alloc o) (by
  obtain⟨a,cap,h1,h2,h3,h4⟩:=hv
  refine⟨a,cap,h1,h2,h3,fun hne=>?_⟩
  obtain⟨b,off,e,hlt,hx⟩:=h4 hne
  refine⟨b,off,e,by simp;omega,fun j n hj=>?_⟩
  obtain⟨vw,c1,c2,c3⟩:=hx j n hj
  exact⟨vw,((hB0 o).cell (p:=⟨b,off+j*2,none⟩) hlt).trans c1,((hB0 o).cell (p:=⟨b,off+j*2+1,none⟩) hlt).trans c2,(c3.below (hB0 o) nR).mono (hB0 o).size⟩)
 obtain⟨R,hR⟩:∃ R,Hid (CH.iH c=R):=⟨_,hid rfl⟩
 rw [hR.out]
 obtain⟨fe,hfe⟩:∃ fe,CH.fewEntry c.entry=fe:=⟨_,rfl⟩
 have hR1:Hid ((decide (c.id.length≤100)&&fe)=R):=hid (by rw [← hfe];exact hR.out)
 rw [hfe] at F
 have F:=hid F
 obtain⟨a,cap,rfl,hl,hcap,hne⟩:=hv
 clear hne hR
 generalize c.entry.names.length=N at *
 obtain⟨m,hm⟩:∃ m,c.id.length=m:=⟨_,rfl⟩
 have e100:decide ((m:Int)≤100)=decide (c.id.length≤100):=by rw [hm,decide_eq_decide];omega
 rw [← e100] at hR1
 obtain⟨r1,h1⟩:∃ r,decide ((m:Int)≤100)=r:=⟨_,rfl⟩
 rw [h1] at hR1
 clear e100
 cases r1 with
 | false =>
  go_enter func46,ntmps46
  go_wp2_with fail
  go_ret
  exact⟨by rw [← hR1.out];rfl,hB0 _⟩
 | true =>
  go_enter func46,ntmps46
  go_wp2_with fail
  refine (F.out _).mono ?_
  rintro e w1 ⟨rfl,hb1⟩
  clear F
  go_wp2
  go_ret
  exact⟨by rw [← hR1.out];rfl,(hB0 _).trans (hb1.mono (by simp))⟩
end
end Go.Proofs.YtjaeapaeaiiieaaGreatDoor
namespace CH
mutual
def Formula.gW:Formula→Int→Int
 | .mk _ name _ _ kids,n=>if 100<name.length then n+1 else dD kids n 1
def dD:List Formula→Int→Int→Int
 | [],_,k=>k
 | f::l,n,k=>if k≤n then dD l n (k+f.gW (n - k)) else k
end
mutual
theorem sizeF_bound:∀ (f:Formula) (n:Int),0≤n→1≤f.gW n∧f.gW n≤n+1
 | .mk _ name _ _ kids,n,hn=>by
  rw [Formula.gW]
  split
  ·omega
  ·have:=Fr kids n 1 (by omega) (by omega)
   omega
theorem Fr:∀ (l:List Formula) (n k:Int),1≤k→k≤n+1→k≤dD l n k∧dD l n k≤n+1
 | [],n,k,h1,h2=>by rw [dD];omega
 | f::l,n,k,h1,h2=>by
  rw [dD]
  split
  ·have b:=sizeF_bound f (n - k) (by omega)
   have:=Fr l n (k+f.gW (n - k)) (by omega) (by omega)
   omega
  ·omega
end
mutual
def Formula.names100:Formula→Prop
 | .mk _ name _ _ kids=>name.length≤100∧eu kids
def eu:List Formula→Prop
 | []=>True
 | f::l=>f.names100∧eu l
end
mutual
theorem sizeF_small:∀ (f:Formula) (n:Int),0≤n→f.gW n≤n→f.gW n=f.count∧f.names100
 | .mk _ name _ _ kids,n,hn,h=>by
  rw [Formula.gW] at h ⊢
  split at h
  ·omega
  ·rename_i hl
   rw [if_neg hl]
   have:=Hv kids n 1 (by omega) (by omega) h
   rw [Formula.count,Formula.names100]
   exact⟨by omega,by omega,this.2⟩
theorem Hv:∀ (l:List Formula) (n k:Int),1≤k→k≤n+1→dD l n k≤n→dD l n k=k+aG l∧eu l
 | [],n,k,h1,h2,h=>by
  rw [dD,aG,eu]
  exact⟨by simp,trivial⟩
 | f::l,n,k,h1,h2,h=>by
  rw [dD] at h ⊢
  split at h
  ·rename_i hk
   rw [if_pos hk]
   have b:=sizeF_bound f (n - k) (by omega)
   have c:=Fr l n (k+f.gW (n - k)) (by omega) (by omega)
   have d:=sizeF_small f (n - k) (by omega) (by omega)
   have e:=Hv l n (k+f.gW (n - k)) (by omega) (by omega) h
   rw [aG,eu]
   exact⟨by omega,d.2,e.2⟩
  ·omega
end
def smallF (f:Formula) (n:Int):Bool:=decide (f.gW n≤n)
end CH
namespace Go.Proofs.YtjaeapaeaiiieaaGreatDoor
open Go.RowKit Go.Lib
theorem sizeF_any:∀ (d:Nat) (f:CH.Formula) (vk:Value) (n:Int) (w:World),f.depth≤d→Am w.heap.size w f vk→0≤n→n≤1000 →
  Calls Tryz.prog 95 #[.agg (Ah f vk),.int .i64 n] w (Ret w (.int .i64 (f.gW n)))
 | 0,f,vk,n,w,hd,hK,h0,h1=>by
  rw [Dv] at hd
  omega
 | d+1,.mk op name cmp fn kids,vk,n,w,hd,hK,h0,h1=>by
  obtain⟨a,cap,rfl,hl,hcap,hne⟩:=hK.form
  dsimp only [Ah,CH.Formula.op,CH.Formula.name,CH.Formula.cmp,CH.Formula.n,CH.Formula.kids] at *
  rw [Dv] at hd
  dsimp only [CH.Formula.kids] at hd
  have IH:=hid (sizeF_any d)
  have hdk:=hid hd
  clear hd hK
  obtain⟨R,hR⟩:∃ R,Hid ((CH.Formula.mk op name cmp fn kids).gW n=R):=⟨_,hid rfl⟩
  rw [hR.out]
  have hR1:Hid ((if 100<name.length then n+1 else CH.dD kids n 1)=R):=hid (by rw [← hR.out,CH.Formula.gW])
  clear hR
  have hne:=hid hne
  obtain⟨N,hN⟩:∃ N,kids.length=N:=⟨_,rfl⟩
  rw [hN] at hl ⊢
  have hN:=hid hN
  have hB0:=fun o=>(Below.refl _ w).alloc (Nat.le_refl _) o
  obtain⟨m,hm⟩:∃ m,name.length=m:=⟨_,rfl⟩
  rw [hm] at hR1
  by_cases h100:100<m
  ·have q1:decide ((100:Int)<(m:Int))=true:=by simp;omega
   rw [if_pos h100] at hR1
   go_enter Tryz.func95,Tryz.ntmps95
   go_wp2_with fail
   go_ret
   exact⟨Mn (by rw [← hR1.out]),hB0 _⟩
  ·have q1:decide ((100:Int)<(m:Int))=false:=by simp;omega
   rw [if_neg h100] at hR1
   go_enter Tryz.func95,Tryz.ntmps95
   go_wp2_with fail
   generalize hWd:w.alloc _=W at *
   have c4:W.cell? ⟨w.heap.size,4,none⟩=some (.slice a N cap):=by rw [← hWd];exact Aa (heap_alloc_last w _) 4
   have hBW:Below w.heap.size w W:=by rw [← hWd];exact hB0 _
   have hlW:w.heap.size<W.heap.size:=by rw [← hWd];simp
   clear hWd hB0
   go_loopw [5,6] (fun kv i wr=>∃ (j:Nat) (k:Int),j≤N∧i=.int .i64 j∧kv=.int .i64 k∧1≤k∧k≤n+1∧Hid (Below W.heap.size W wr)∧Hid (CH.dD (kids.drop j) n k=R)) (fun _ i _=>N - (RowKit.intOf i).toNat)
   case atStart=>exact⟨0,1,Nat.zero_le _,rfl,rfl,by omega,by omega,hid (Below.refl _ _),hR1⟩
   case round =>
    obtain⟨j,k,hj,rfl,rfl,hk1,hk2,hBr,hI⟩:=hrel
    have k4:=(hBr.out.cell (p:=⟨w.heap.size,4,none⟩) hlW).trans c4
    have hBw:Below w.heap.size w wr:=hBW.trans (hBr.out.mono hBW.size)
    by_cases hlt:j<N
    ·have q2:decide ((j:Int)<(N:Int))=true:=by simp;omega
     have hdr:kids.drop j=kids[j]'(by rw [hN.out];exact hlt)::kids.drop (j+1):=List.drop_eq_getElem_cons (by rw [hN.out];exact hlt)
     have hget:kids[j]?=some (kids[j]'(by rw [hN.out];exact hlt)):=List.getElem?_eq_getElem (by rw [hN.out];exact hlt)
     generalize kids[j]'(by rw [hN.out];exact hlt)=f at hdr hget
     have hI2:=hI.out
     rw [hdr,CH.dD] at hI2
     by_cases hkn:k≤n
     ·have q3:decide (k≤n)=true:=by simpa using hkn
      rw [if_pos hkn] at hI2
      obtain⟨b,off,rfl,hbl,hrow⟩:=hne.out (by intro h;have:=hN.out;simp [h] at this;omega)
      obtain⟨vf,e0,e1,e2,e3,e4,hkf⟩:=bD.get kids b off j f hrow hget
      have k0:=(hBw.cell (p:=⟨b,off+j*5,none⟩) hbl).trans e0
      have k1:=(hBw.cell (p:=⟨b,off+j*5+1,none⟩) hbl).trans e1
      have k2:=(hBw.cell (p:=⟨b,off+j*5+2,none⟩) hbl).trans e2
      have k3:=(hBw.cell (p:=⟨b,off+j*5+3,none⟩) hbl).trans e3
      have k5:=(hBw.cell (p:=⟨b,off+j*5+4,none⟩) hbl).trans e4
      have C:=hid (IH.out f vf (n - k) wr (by have:=Gw (List.mem_of_getElem? hget);have:=hdk.out;omega) (Am.mono hBw.size _ _ (Am.below hBw (Nat.le_refl _) _ _ hkf)) (by omega) (by omega))
      have hb:=CH.sizeF_bound f (n - k) (by omega)
      have hI2:=hid hI2
      generalize CH.Formula.gW f (n - k)=sz at *
      obtain⟨af,cf,rfl,_,_,_⟩:=hkf.form
      clear e0 e1 e2 e3 e4 hrow hget hdr hkf IH
      dsimp only [Ah] at C
      generalize f.kids.length=nf at *
      generalize f.name=fname at *
      generalize f.op=fop at *
      generalize f.cmp=fcmp at *
      generalize f.n=ffn at *
      go_wp2_with fail
      refine C.out.mono ?_
      rintro e w1 ⟨rfl,hb1⟩
      clear C
      have hB1:Hid (Below W.heap.size W w1):=hid (hBr.out.trans (hb1.mono hBr.out.size))
      go_wp2
      go_roundw
      case rel=>exact⟨j+1,k+sz,by omega,by go_num,by go_num,by omega,by omega,hB1,hI2⟩
      case measure=>simp [RowKit.intOf];omega
     ·have q3:decide (k≤n)=false:=by simpa using hkn
      rw [if_neg hkn] at hI2
      go_wp2
      go_ret
      exact⟨by subst hI2;rfl,hBw⟩
    ·have q2:decide ((j:Int)<(N:Int))=false:=by simp;omega
     have hI2:=hI.out
     rw [List.drop_of_length_le (by rw [hN.out];omega),CH.dD] at hI2
     go_wp2
     go_ret
     exact⟨by subst hI2;rfl,hBw⟩
theorem smallF_any (f:CH.Formula) (vk:Value) (n:Int) (w:World) (hK:Am w.heap.size w f vk) (h0:0≤n) (h1:n≤1000) :
  Calls Tryz.prog 47 #[.agg (Ah f vk),.int .i64 n] w (Ret w (.bool (CH.smallF f n))):=by
 have hB0:=fun o=>(Below.refl _ w).alloc (Nat.le_refl _) o
 have C:=hid fun o=>sizeF_any f.depth f vk n (w.alloc o) (Nat.le_refl _) (Am.mono (hB0 o).size _ _ (Am.below (hB0 o) (Nat.le_refl _) _ _ hK)) h0 h1
 obtain⟨af,cf,rfl,_,_,_⟩:=hK.form
 obtain⟨R,hR⟩:∃ R,Hid (CH.smallF f n=R):=⟨_,hid rfl⟩
 rw [hR.out]
 have hR1:Hid (decide (f.gW n≤n)=R):=hR
 clear hR
 generalize f.gW n=sz at *
 generalize f.kids.length=nf at *
 dsimp only [Ah] at *
 go_enter Tryz.func47,Tryz.ntmps47
 go_wp2_with fail
 refine (C.out _).mono ?_
 rintro e w1 ⟨rfl,hb1⟩
 go_wp2
 go_ret
 exact⟨by rw [← hR1.out];rfl,(hB0 _).trans (hb1.mono (by simp))⟩
end Go.Proofs.YtjaeapaeaiiieaaGreatDoor
namespace CH
def fewHold (h:aY):Bool :=
 (decide (h.id.length≤60)&&(decide (h.company.length≤60)&&(decide (h.holder.length≤60)&&(decide (h.aA.length≤60)&&(decide (h.aI.length≤60)&&decide (h.joint.length≤10))))))&&h.joint.all (fun s=>decide (s.length≤60))
end CH
namespace Go.Proofs.YtjaeapaeaiiieaaGreatDoor
open Go.RowKit Go.Lib Go.Shelf Go.Sort
theorem gt60 (m:Nat):decide ((60:Int)<(m:Int))=!decide (m≤60):=by
 by_cases h:m≤60
 ·rw [decide_eq_true h,decide_eq_false (by omega)];rfl
 ·rw [decide_eq_false h,decide_eq_true (by omega)];rfl
theorem gt10 (m:Nat):decide ((10:Int)<(m:Int))=!decide (m≤10):=by
 by_cases h:m≤10
 ·rw [decide_eq_true h,decide_eq_false (by omega)];rfl
 ·rw [decide_eq_false h,decide_eq_true (by omega)];rfl
theorem fewHold_any (v:Value) (h:CH.aY) (w:World) (hv:Hold1 w.heap.size w v h) :
  Calls Tryz.prog 48 #[v,.int .i64 1] w (Ret w (.bool (CH.fewHold h))):=by
 obtain⟨b,vj,rfl,hb,hc,hj⟩:=hv
 obtain⟨a,cap,rfl,hl,hcap,hne⟩:=hj
 obtain⟨R,hR⟩:∃ R,Hid (CH.fewHold h=R):=⟨_,hid rfl⟩
 rw [hR.out]
 have x0:=hc 0 _ rfl
 have x1:=hc 1 _ rfl
 have x2:=hc 2 _ rfl
 have x3:=hc 3 _ rfl
 have x4:=hc 4 _ rfl
 have x5:=hc 5 _ rfl
 have x6:=hc 6 _ rfl
 have x7:=hc 7 _ rfl
 have x8:=hc 8 _ rfl
 have x9:=hc 9 _ rfl
 clear hc
 have hR1:Hid (((decide (h.id.length≤60)&&(decide (h.company.length≤60)&&(decide (h.holder.length≤60)&&(decide (h.aA.length≤60)&&(decide (h.aI.length≤60)&&decide (h.joint.length≤10))))))&&h.joint.all (fun s=>decide (s.length≤60)))=R):=hid hR.out
 clear hR
 have hne:=hid hne
 obtain⟨N,hN⟩:∃ N,h.joint.length=N:=⟨_,rfl⟩
 rw [hN] at hl hR1
 rw [hN] at x5
 have hN:=hid hN
 obtain⟨r0,h0⟩:∃ r,decide (h.id.length≤60)=r:=⟨_,rfl⟩
 obtain⟨r1,h1⟩:∃ r,decide (h.company.length≤60)=r:=⟨_,rfl⟩
 obtain⟨r2,h2⟩:∃ r,decide (h.holder.length≤60)=r:=⟨_,rfl⟩
 obtain⟨r3,h3⟩:∃ r,decide (h.aA.length≤60)=r:=⟨_,rfl⟩
 obtain⟨r4,h4⟩:∃ r,decide (h.aI.length≤60)=r:=⟨_,rfl⟩
 obtain⟨r5,h5⟩:∃ r,decide (N≤10)=r:=⟨_,rfl⟩
 rw [h0,h1,h2,h3,h4,h5] at hR1
 have g0:=gt60 h.id.length
 have g1:=gt60 h.company.length
 have g2:=gt60 h.holder.length
 have g3:=gt60 h.aA.length
 have g4:=gt60 h.aI.length
 have g5:=gt10 N
 rw [h0] at g0
 rw [h1] at g1
 rw [h2] at g2
 rw [h3] at g3
 rw [h4] at g4
 rw [h5] at g5
 clear h0 h1 h2 h3 h4 h5
 generalize hji:h.joint=joint at *
 generalize h.id=s0 at *
 generalize h.company=s1 at *
 generalize h.holder=s2 at *
 generalize h.aA=s3 at *
 generalize h.aI=s4 at *
 have hB0:=fun o=>(Below.refl _ w).alloc (Nat.le_refl _) o
 rcases (by cases r0 <;> cases r1 <;> cases r2 <;> cases r3 <;> cases r4 <;> cases r5 <;> simp:(r0=false)∨(r0=true∧r1=false)∨(r0=true∧r1=true∧r2=false)∨(r0=true∧r1=true∧r2=true∧r3=false)∨(r0=true∧r1=true∧r2=true∧r3=true∧r4=false)∨(r0=true∧r1=true∧r2=true∧r3=true∧r4=true∧r5=false)∨(r0=true∧r1=true∧r2=true∧r3=true∧r4=true∧r5=true)) with rfl|⟨rfl,rfl⟩|⟨rfl,rfl,rfl⟩|⟨rfl,rfl,rfl,rfl⟩|⟨rfl,rfl,rfl,rfl,rfl⟩|⟨rfl,rfl,rfl,rfl,rfl,rfl⟩|⟨rfl,rfl,rfl,rfl,rfl,rfl⟩
 iterate 6
  ·simp only [Bool.not_false,Bool.not_true] at g0 g1 g2 g3 g4 g5
   go_enter Tryz.func48,Tryz.ntmps48
   go_wp2_with fail
   go_loopw [5] (fun i wr=>i=.int .i64 0∧wr=w) (fun _ _=>0)
   case atStart=>exact⟨rfl,rfl⟩
   case round =>
    obtain⟨rfl,rfl⟩:=hrel
    go_wp2
    go_ret
    exact⟨by rw [← hR1.out];rfl,hB0 _⟩
 simp only [Bool.not_false,Bool.not_true] at g0 g1 g2 g3 g4 g5
 have hR2:Hid (joint.all (fun s=>decide (s.length≤60))=R):=hid (by rw [← hR1.out];rfl)
 clear hR1
 go_enter Tryz.func48,Tryz.ntmps48
 go_wp2_with fail
 go_loopw [5] (fun i wr=>∃ k:Nat,k≤1∧i=.int .i64 k∧Hid (Below w.heap.size w wr)∧(k=1→Hid (R=true))) (fun i _=>1 - (RowKit.intOf i).toNat)
 case atStart=>exact⟨0,Nat.zero_le _,rfl,hid (Below.refl _ _),fun h=>by omega⟩
 case round =>
  obtain⟨k,hk,rfl,hBr,hI⟩:=hrel
  have y0:=(hBr.out.cell (p:=⟨b,0,none⟩) hb).trans x0
  have y1:=(hBr.out.cell (p:=⟨b,1,none⟩) hb).trans x1
  have y2:=(hBr.out.cell (p:=⟨b,2,none⟩) hb).trans x2
  have y3:=(hBr.out.cell (p:=⟨b,3,none⟩) hb).trans x3
  have y4:=(hBr.out.cell (p:=⟨b,4,none⟩) hb).trans x4
  have y5:=(hBr.out.cell (p:=⟨b,5,none⟩) hb).trans x5
  have y6:=(hBr.out.cell (p:=⟨b,6,none⟩) hb).trans x6
  have y7:=(hBr.out.cell (p:=⟨b,7,none⟩) hb).trans x7
  have y8:=(hBr.out.cell (p:=⟨b,8,none⟩) hb).trans x8
  have y9:=(hBr.out.cell (p:=⟨b,9,none⟩) hb).trans x9
  rcases (by omega:k=0∨k=1) with rfl|rfl
  ·go_wp2_with fail
   generalize hWd:wr.alloc _=W at *
   have c5:W.cell? ⟨wr.heap.size,5,none⟩=some (.slice a N cap):=by rw [← hWd];exact Aa (heap_alloc_last wr _) 5
   have hBW:Below w.heap.size w W:=by rw [← hWd];exact hBr.out.alloc hBr.out.size _
   clear hWd y0 y1 y2 y3 y4 y5 y6 y7 y8 y9 x0 x1 x2 x3 x4 x5 x6 x7 x8 x9
   go_loopw [7] (fun i w'=>∃ j:Nat,j≤N∧i=.int .i64 j∧w'=W∧Hid ((joint.take j).all (fun s=>decide (s.length≤60))=true)) (fun i _=>N - (RowKit.intOf i).toNat)
   case atStart=>exact⟨0,Nat.zero_le _,rfl,rfl,hid rfl⟩
   case round =>
    obtain⟨j,hj,rfl,rfl,hJ⟩:=hrel
    by_cases hlt:j<N
    ·obtain⟨bj,off,rfl,hbl,hcells⟩:=hne.out (by intro h;have:=hN.out;simp [h] at this;omega)
     obtain⟨l,hl'⟩:∃ l,joint[j]?=some l:=⟨_,List.getElem?_eq_getElem (by rw [hN.out];exact hlt)⟩
     have hcell:=(hBW.cell (p:=⟨bj,off+j,none⟩) hbl).trans (hcells j l hl')
     clear hcells
     have hl':=hid hl'
     obtain⟨m,hm⟩:∃ m,l.length=m:=⟨_,rfl⟩
     by_cases h60:m≤60
     ·have d:decide ((60:Int)<(m:Int))=false:=by simp;omega
      have hJ':Hid ((joint.take (j+1)).all (fun s=>decide (s.length≤60))=true):=hid (by rw [CH.dV _ joint j l hl'.out,hJ.out,hm];simpa using h60)
      go_wp2
      go_roundw
      case rel=>exact⟨j+1,by omega,by go_num,by first|rfl|trivial,hJ'⟩
      case measure=>simp [RowKit.intOf];omega
     ·have d:decide ((60:Int)<(m:Int))=true:=by simp;omega
      go_wp2
      go_ret
      exact⟨by rw [← hR2.out,CH.eP _ joint j l hl'.out (by rw [hm];simpa using h60)];rfl,hBW⟩
    ·have hall:Hid (R=true):=hid (by have:=hJ.out;rw [show j=N from by omega,← hN.out,List.take_length] at this;exact hR2.out.symm.trans this)
     go_wp2
     go_roundw
     case rel=>exact⟨1,by omega,by go_num,hid hBW,fun _=>hall⟩
     case measure=>simp [RowKit.intOf]
  ·have hT:=(hI rfl).out
   subst hT
   go_wp2
   go_ret
   exact⟨rfl,hBr.out⟩
end Go.Proofs.YtjaeapaeaiiieaaGreatDoor
namespace CH
def fewAct (a:Act):Bool:=iH a.change&&(smallF a.measure.aC 60&&(dM [a.id,a.measure.id,a.measure.authority,a.measure.target,a.licence.id] 5&&(dM a.licence.measures 70&&(dM a.licence.aN 70&&fewHold a.holding))))
def fewActs (l:List Act) (most:Nat):Bool:=l.all fewAct&&decide (l.length≤most)
end CH
namespace Go.Proofs.YtjaeapaeaiiieaaGreatDoor
open Go.RowKit Go.Lib Go.Shelf Go.Sort
structure gG (B:Nat) (w:World) (a:CH.Act) (s:ActV):Prop where
 names:Cc B w s.vn a.change.entry.names
 kids:Am B w a.measure.aC s.vk
 lm:Strs B w s.vm a.licence.measures
 lp:Strs B w s.vp a.licence.aN
 hj:Strs B w s.vj a.holding.joint
theorem gG.below {B B':Nat} {w w':World} {a:CH.Act} {s:ActV} (h:gG B w a s) (hb:Below B' w w') (hB:B≤B'):gG B w' a s:=⟨h.names.below hb hB,Am.below hb hB _ _ h.kids,h.lm.below hb hB,h.lp.below hb hB,h.hj.below hb hB⟩
theorem gG.mono {B B':Nat} {w:World} {a:CH.Act} {s:ActV} (h:gG B w a s) (hB:B≤B'):gG B' w a s:=⟨h.names.mono hB,Am.mono hB _ _ h.kids,h.lm.mono hB,h.lp.mono hB,h.hj.mono hB⟩
theorem actCells_oneR {B:Nat} {w:World} {a:CH.Act} {s:ActV} (h:gG B w a s):∀ v∈At a s,v.oneCell'=true:=by
 obtain⟨vn,vk,vm,vp,vj⟩:=s
 obtain⟨_,_,e1,_,_⟩:=h.names.form
 obtain⟨_,_,e2,_,_,_⟩:=h.kids.form
 obtain⟨_,_,e3,_,_⟩:=h.lm.form
 obtain⟨_,_,e4,_,_⟩:=h.lp.form
 obtain⟨_,_,e5,_,_⟩:=h.hj.form
 change vn=_ at e1
 change vk=_ at e2
 change vm=_ at e3
 change vp=_ at e4
 change vj=_ at e5
 subst e1 e2 e3 e4 e5
 exact List.all_eq_true.1 (by rfl)
def Dr (B:Nat) (w:World) (v:Value) (l:List CH.Act):Prop :=
 ∃ a cap,v=.slice a l.length cap∧l.length≤cap∧cap≤9223372036854775807 ∧
  (l≠[]→∃ b off,a=some ⟨b,off,none⟩∧b<B∧∀ j x,l[j]?=some x→∃ s,(∀ i u,(At x s)[i]?=some u→w.cell? ⟨b,off+j*37+i,none⟩=some u)∧gG B w x s)
theorem Dr.below {B B':Nat} {w w':World} {v:Value} {l:List CH.Act} (h:Dr B w v l) (hb:Below B' w w') (hB:B≤B'):Dr B w' v l:=by
 obtain⟨a,cap,h1,h2,h3,h4⟩:=h
 refine⟨a,cap,h1,h2,h3,fun hne=>?_⟩
 obtain⟨b,off,e,hlt,hx⟩:=h4 hne
 refine⟨b,off,e,hlt,fun j x hj=>?_⟩
 obtain⟨s,c1,c2⟩:=hx j x hj
 exact⟨s,fun i u hi=>(hb.cell (p:=⟨b,off+j*37+i,none⟩) (Nat.lt_of_lt_of_le hlt hB)).trans (c1 i u hi),c2.below hb hB⟩
theorem Dr.mono {B B':Nat} {w:World} {v:Value} {l:List CH.Act} (h:Dr B w v l) (hB:B≤B'):Dr B' w v l:=by
 obtain⟨a,cap,h1,h2,h3,h4⟩:=h
 refine⟨a,cap,h1,h2,h3,fun hne=>?_⟩
 obtain⟨b,off,e,hlt,hx⟩:=h4 hne
 refine⟨b,off,e,Nat.lt_of_lt_of_le hlt hB,fun j x hj=>?_⟩
 obtain⟨s,c1,c2⟩:=hx j x hj
 exact⟨s,c1,c2.mono hB⟩
theorem Av {P:Program} {ops:Array Oper} {rest:List Oper} {op:Oper} {a:Act} {w:World} {Q:Exit→Act→World→Prop} (hw:Region.wanted op (yielded ops a.tmps)=true) (ty:TypeId) (x:Operand) (ho:op.op=.load ty x)
  (b o:Nat) (hx:a.eval x=.pointer (some ⟨b,o,none⟩)) (cs:List Value) (d:TypeDesc) (hc:w.rangeAt b o cs)
  (hu:P.underlying ty=some d) (hd:d.isRow=true) (hi:(P.info? ty).map (·.size)=some cs.length)
  (h:wpList P ops Q rest (a.put op.dst (.agg cs.toArray)) w):wpList P ops Q (op::rest) a w :=
 wpList_step fun K hK=>by rw [hw,if_pos rfl];exact wp_load_mid ty x ho b o hx cs d hc hu hd hi (hK _ _ h)
end Go.Proofs.YtjaeapaeaiiieaaGreatDoor
namespace Go.Proofs.YtjaeapaeaiiieaaGreatDoor
section
open Go.Lib Go.Proofs.Tryz Go.RowKit Go.Shelf Go.Sort
def VAt (w:World) (x:Nat × CH.Version):Prop:=x.1<w.heap.size∧∃ s,w.rangeAt x.1 0 (Ab x.2 s)∧aK w.heap.size w x.2 s
theorem VAt.kept {w w':World} {x:Nat × CH.Version} (h:VAt w x) (hc:Cells w w') (hs:w.heap.size≤w'.heap.size):VAt w' x:=by
 obtain⟨h0,s,h1,h2⟩:=h
 exact⟨nL h0 hs,s,fun j u hj=>hc _ _ (h1 j u hj),(h2.kept hc).mono hs⟩
structure St (w0 w:World) (l:List (Nat × CH.Version)):Prop where
 gc:Gc w
 below:Below w0.heap.size w0 w
 vers:∀ x∈l,VAt w x
theorem St.go {w0 w w':World} {l:List (Nat × CH.Version)} (h:St w0 w l) (hb:Below w.heap.size w w'):St w0 w' l :=
 ⟨h.gc.below hb,h.below.trans (hb.mono h.below.size),fun x hx=>(h.vers x hx).kept (Cells.of_below hb) hb.size⟩
theorem St.put {w0 w:World} {l:List (Nat × CH.Version)} {v:CH.Version} {s:bF} (h:St w0 w l) (hv:aK w.heap.size w v s):St w0 (w.alloc (.cells (Ab v s).toArray 30)) ((w.heap.size,v)::l):=by
 have hb:Below w.heap.size w (w.alloc (.cells (Ab v s).toArray 30)):=(Below.refl _ w).alloc nR _
 have h1:=h.go hb
 refine⟨h1.gc,h1.below,fun x hx=>?_⟩
 rcases List.mem_cons.1 hx with rfl|hx
 ·exact⟨by simp,s,Br w (Ab v s) _,(hv.below hb nR).mono hb.size⟩
 ·exact h1.vers x hx
theorem St.added {w0 w w':World} {l:List (Nat × CH.Version)} {c r1 r2:Nat} {keys:List (List UInt8)} {known:CH.Known} {forks:CH.Forks} {x:Int × CH.Known × CH.Forks} {e:Ending} (h:St w0 w l) (hC:aU w c r1 r2 keys known forks) (h1:w0.heap.size≤r1) (h2:w0.heap.size≤r2) (h9:9≤w0.heap.size)
  (hR:Hg w c r1 r2 keys x e w'):St w0 w' l:=by
 obtain⟨a1,a2,a3⟩:=L0 h.gc hC h1 h2 h9 h.below hR
 refine⟨a1,a2,fun y hy=>(h.vers y hy).kept ?_ a3.size⟩
 obtain⟨_,_,hH⟩:=hR
 refine hH.cells fun r hr=>?_
 simp only [List.mem_cons,List.not_mem_nil,or_false] at hr
 rcases hr with rfl|rfl
 ·obtain⟨kvs,⟨es,ck,e,_⟩,_⟩:=hC.known
  exact⟨es,ck,e⟩
 ·obtain⟨kvs,⟨es,ck,e,_⟩,_⟩:=hC.forks
  exact⟨es,ck,e⟩
theorem St.at {w0 w:World} {l:List (Nat × CH.Version)} (h:St w0 w l) {b:Nat} {v:CH.Version} (hm:(b,v)∈l):∃ s,w.rangeAt b 0 (Ab v s)∧aK w.heap.size w v s:=(h.vers _ hm).2
def ChP (w0 w:World) (K:List UInt8) (c r1 r2:Nat) (known:CH.Known) (forks:CH.Forks):Prop:=aU w c r1 r2 [K] known forks∧w0.heap.size≤r1∧w0.heap.size≤r2
theorem ChP.go {w0 w w':World} {K:List UInt8} {c r1 r2:Nat} {known:CH.Known} {forks:CH.Forks} (h:ChP w0 w K c r1 r2 known forks) (hb:Below w.heap.size w w'):ChP w0 w' K c r1 r2 known forks:=⟨h.1.below hb,h.2⟩
theorem acts_nil (B:Nat) (w:World):Cj B w (.slice none 0 0) []:=⟨none,0,rfl,Nat.le_refl _,by omega,fun h=>absurd rfl h⟩
def AddS (K:List UInt8) (V:CH.Version) (known:CH.Known) (forks:CH.Forks) (er:Int) (known':CH.Known) (forks':CH.Forks):Prop :=
 ∀ (w0 w:World) (l:List (Nat × CH.Version)) (c r1 r2:Nat) (s:bF),9≤w0.heap.size→St w0 w l→ChP w0 w K c r1 r2 known forks→aK w.heap.size w V s →
  Calls prog 15 #[.pointer (some ⟨c,0,none⟩),.agg (Ab V s).toArray] w fun e w'=>e=.returned (.int .i64 er)∧St w0 w' l∧ChP w0 w' K c r1 r2 known' forks'
def VecS (K:List UInt8) (known:CH.Known) (n:Int):Prop :=
 ∀ (w0 w:World) (l:List (Nat × CH.Version)) (c r1 r2:Nat) (forks:CH.Forks),St w0 w l→ChP w0 w K c r1 r2 known forks →
  Calls prog 16 #[.pointer (some ⟨c,0,none⟩),.int .i64 n] w fun e w'=>e=.returned (.bool true)∧St w0 w' l∧ChP w0 w' K c r1 r2 known forks
def MakeS (V:CH.Version) (n pos:Int) (prev:List UInt8) (acts:List CH.Act):Prop :=
 ∀ (w:World) (va:Value),Gc w→Cj w.heap.size w va acts →
  Calls prog 12 #[.int .i64 0,.int .i64 n,.int .i64 pos,.string ⟨prev.toArray⟩,va,.string ⟨#[115]⟩,.int .i64 1] w fun e w'=>∃ a1 n1 c1 a2 n2 c2 a3 n3 c3,e=.returned (.tuple #[.agg (Ab V ⟨.slice a1 n1 c1,.slice a2 n2 c2,.slice a3 n3 c3⟩).toArray,.int .i64 0])∧aK w'.heap.size w' V ⟨.slice a1 n1 c1,.slice a2 n2 c2,.slice a3 n3 c3⟩∧Below w.heap.size w w'
def EndsS (n:Int) (acts:List CH.Act):Prop :=
 ∀ (w:World),Calls prog 13 #[.int .i64 n] w fun e w'=>∃ a m c,e=.returned (.slice a m c)∧Cj w'.heap.size w' (.slice a m c) acts∧Below w.heap.size w w'
structure HF (K M:List UInt8) (V1 V2 V3 V4:CH.Version) (A1 A2 A3:List CH.Act) (c1 c2 d1 d2 x1 x2:CH.Known) (fC fD:CH.Forks):Prop where
 pub:∀ w,Gl w→Calls prog 10 #[.string ⟨#[115]⟩,.int .i64 1] w (Ret w (.tuple #[.string ⟨K.toArray⟩,.int .i64 0]))
 new:∀ w v,Gl w→Strs w.heap.size w v [K]→Calls prog 11 #[v] w fun e w'=>∃ c r1 r2,e=.returned (.tuple #[.pointer (some ⟨c,0,none⟩),.int .i64 0])∧aU w' c r1 r2 [K] [] []∧w.heap.size≤r1∧w.heap.size≤r2∧Below w.heap.size w w'
 e1:EndsS 1 A1
 e2:EndsS 2 A2
 e3:EndsS 3 A3
 m1:MakeS V1 1 100 [] A1
 m2:MakeS V2 2 100 M A2
 m3:MakeS V3 1 100 [] A3
 m4:MakeS V4 2 99 M []
 msg:∀ w s,Gc w→aK w.heap.size w V1 s→Calls prog 14 #[.agg (Ab V1 s).toArray] w (Ret w (.tuple #[.string ⟨M.toArray⟩,.int .i64 0]))
 ac1:AddS K V2 [] [] 0 c1 []
 ac2:AddS K V1 c1 [] 0 c2 []
 ac3:AddS K V1 c2 [] 0 c2 []
 ac4:AddS K V3 c2 [] 17 c2 fC
 ad1:AddS K V3 [] [] 0 d1 []
 ad2:AddS K V1 d1 [] 17 d1 fD
 ad3:AddS K V2 d1 fD 0 d2 fD
 ax1:AddS K V1 [] [] 0 x1 []
 ax2:AddS K V4 x1 [] 0 x2 []
 vc1:VecS K c1 0
 vc2:VecS K c2 2
 vd2:VecS K d2 1
 vx2:VecS K x2 1
 forks:∀ w0 w l c r1 r2,St w0 w l→ChP w0 w K c r1 r2 c2 fC→Calls prog 17 #[.pointer (some ⟨c,0,none⟩)] w fun e w'=>∃ a cap,e=.returned (.slice a 1 cap)∧St w0 w' l
 act:∀ w,Gc w→Calls prog 18 #[.agg (At CH.holdAct nilV).toArray] w (Ret w (.tuple #[.string ⟨#[104,111,108,100,105,110,103,32,104,49,32,112,49,32,112,48,32,45,32,45,32,54,48,32,53,49,32,48,32,45,59]⟩,.int .i64 0]))
theorem F9 (V:CH.Version) (a1 a2 a3:Option Addr) (n1 n2 n3 c1 c2 c3:Nat):∀ u∈Ab V ⟨.slice a1 n1 c1,.slice a2 n2 c2,.slice a3 n3 c3⟩,u.oneCell'=true:=by
 intro u hu
 simp only [Ab,List.mem_cons,List.not_mem_nil,or_false] at hu
 rcases hu with rfl|rfl|rfl|rfl|rfl|rfl|rfl|rfl <;> rfl
theorem My (w:World) (K:List UInt8):Strs (w.alloc (.cells #[ah K] 9)).heap.size (w.alloc (.cells #[ah K] 9)) (.slice (some ⟨w.heap.size,0,none⟩) 1 1) [K] :=
 ⟨some ⟨w.heap.size,0,none⟩,1,rfl,Nat.le_refl _,by omega,fun _=>⟨w.heap.size,0,rfl,by simp,fun j l hj=>by
  cases j with
  | zero=>cases hj;exact Aa (heap_alloc_last w _) 0
  | succ j=>simp at hj⟩⟩
theorem head_walk {K M:List UInt8} {V1 V2 V3 V4:CH.Version} {A1 A2 A3:List CH.Act} {kc1 kc2 kd1 kd2 kx1 kx2:CH.Known} {fC fD:CH.Forks} (H:HF K M V1 V2 V3 V4 A1 A2 A3 kc1 kc2 kd1 kd2 kx1 kx2 fC fD) (w:World) (hG:Gc w) :
  Calls prog 4 #[] w (Ret w (.bool true)):=by
 have h9:9≤w.heap.size:=hG.gl.size
 have H:=hid H
 have h9:=hid h9
 have hi8:(prog.info? 30).map (·.size)=some 8:=by kernel_rfl
 go_enter func4,ntmps4
 go_wp2_with fail
 refine (H.out.pub w hG.gl).mono ?_
 rintro e w1 ⟨rfl,hb1⟩
 have S:Hid (St w w1 []):=hid ⟨hG.below hb1,hb1,fun _ h=>by cases h⟩
 clear hb1 hG
 go_wp2_with fail
 have S:=hid (S.out.go ((Below.refl _ w1).alloc nR (.cells #[ah K] 9)))
 have ST:=hid (My w1 K)
 dsimp only [ah] at S ST
 generalize w1.alloc (.cells #[.string ⟨K.toArray⟩] 9)=W at *
 refine (H.out.new W _ S.out.gc.gl ST.out).mono ?_
 rintro e w2 ⟨c,r1,r2,rfl,hC,g1,g2,hb⟩
 have C:Hid (ChP w w2 K c r1 r2 [] []):=hid ⟨hC,nT S.out.below.size g1,nT S.out.below.size g2⟩
 have S:=hid (S.out.go hb)
 clear hb hC g1 g2 ST
 go_wp2_with fail
 refine (H.out.e1 w2).mono ?_
 rintro e w3 ⟨a,m,cc,rfl,hA,hb⟩
 have C:=hid (C.out.go hb)
 have S:=hid (S.out.go hb)
 have hA:=hid hA
 clear hb
 go_wp2_with fail
 refine (H.out.m1 w3 _ S.out.gc hA.out).mono ?_
 rintro e w4 ⟨a1,n1,c1,a2,n2,c2,a3,n3,c3,rfl,hv,hb⟩
 have C:=hid ((C.out.go hb).go ((Below.refl _ w4).alloc nR (.cells (Ab V1 ⟨.slice a1 n1 c1,.slice a2 n2 c2,.slice a3 n3 c3⟩).toArray 30)))
 have S:=hid ((S.out.go hb).put hv)
 have h1:=hid (F9 V1 a1 a2 a3 n1 n2 n3 c1 c2 c3)
 have hl:Hid ((Ab V1 ⟨.slice a1 n1 c1,.slice a2 n2 c2,.slice a3 n3 c3⟩).length=8):=hid rfl
 clear hb hv
 generalize Ab V1 ⟨.slice a1 n1 c1,.slice a2 n2 c2,.slice a3 n3 c3⟩=LL at *
 obtain⟨b1,hbb⟩:∃ b,Hid (w4.heap.size=b):=⟨_,hid rfl⟩
 rw [hbb.out] at S
 have hi:(prog.info? 30).map (·.size)=some LL.length:=by rw [hl.out];exact hi8
 obtain⟨s,hr,hv⟩:=S.out.at (b:=b1) (v:=V1) (by simp)
 have hr:=hid hr
 have hv:=hid hv
 have hlv:(prog.info? 30).map (·.size)=some (Ab V1 s).length:=hi8
 rw [← hbb.out] at hr
 go_wp2_with (first|refine Ba rfl 30 _ _ rfl LL rfl rfl (by rw [hl.out];rfl) hi h1.out ?_|refine wpList_load_mid rfl 30 _ rfl (w4.heap.size) 0 rfl (Ab V1 s) _ hr.out underlying30 rfl hlv ?_)
 rw [hbb.out]
 generalize w4.alloc (.cells LL.toArray 30)=W at *
 clear hi hl h1 hbb
 refine (H.out.msg _ s S.out.gc hv.out).mono ?_
 rintro e w5 ⟨rfl,hb⟩
 have C:=hid (C.out.go hb)
 have S:=hid (S.out.go hb)
 clear hb hr hv hlv
 go_wp2_with fail
 refine (H.out.e2 w5).mono ?_
 rintro e w3 ⟨a,m,cc,rfl,hA,hb⟩
 have C:=hid (C.out.go hb)
 have S:=hid (S.out.go hb)
 have hA:=hid hA
 clear hb
 go_wp2_with fail
 refine (H.out.m2 w3 _ S.out.gc hA.out).mono ?_
 rintro e w4 ⟨a1,n1,c1,a2,n2,c2,a3,n3,c3,rfl,hv,hb⟩
 have C:=hid ((C.out.go hb).go ((Below.refl _ w4).alloc nR (.cells (Ab V2 ⟨.slice a1 n1 c1,.slice a2 n2 c2,.slice a3 n3 c3⟩).toArray 30)))
 have S:=hid ((S.out.go hb).put hv)
 have h1:=hid (F9 V2 a1 a2 a3 n1 n2 n3 c1 c2 c3)
 have hl:Hid ((Ab V2 ⟨.slice a1 n1 c1,.slice a2 n2 c2,.slice a3 n3 c3⟩).length=8):=hid rfl
 clear hb hv
 generalize Ab V2 ⟨.slice a1 n1 c1,.slice a2 n2 c2,.slice a3 n3 c3⟩=LL at *
 obtain⟨b2,hbb⟩:∃ b,Hid (w4.heap.size=b):=⟨_,hid rfl⟩
 rw [hbb.out] at S
 have hi:(prog.info? 30).map (·.size)=some LL.length:=by rw [hl.out];exact hi8
 go_wp2_with (refine Ba rfl 30 _ _ rfl LL rfl rfl (by rw [hl.out];rfl) hi h1.out ?_)
 rw [hbb.out]
 generalize w4.alloc (.cells LL.toArray 30)=W at *
 clear hi hl h1 hbb
 refine (H.out.e3 W).mono ?_
 rintro e w3 ⟨a,m,cc,rfl,hA,hb⟩
 have C:=hid (C.out.go hb)
 have S:=hid (S.out.go hb)
 have hA:=hid hA
 clear hb
 go_wp2_with fail
 refine (H.out.m3 w3 _ S.out.gc hA.out).mono ?_
 rintro e w4 ⟨a1,n1,c1,a2,n2,c2,a3,n3,c3,rfl,hv,hb⟩
 have C:=hid ((C.out.go hb).go ((Below.refl _ w4).alloc nR (.cells (Ab V3 ⟨.slice a1 n1 c1,.slice a2 n2 c2,.slice a3 n3 c3⟩).toArray 30)))
 have S:=hid ((S.out.go hb).put hv)
 have h1:=hid (F9 V3 a1 a2 a3 n1 n2 n3 c1 c2 c3)
 have hl:Hid ((Ab V3 ⟨.slice a1 n1 c1,.slice a2 n2 c2,.slice a3 n3 c3⟩).length=8):=hid rfl
 clear hb hv
 generalize Ab V3 ⟨.slice a1 n1 c1,.slice a2 n2 c2,.slice a3 n3 c3⟩=LL at *
 obtain⟨b3,hbb⟩:∃ b,Hid (w4.heap.size=b):=⟨_,hid rfl⟩
 rw [hbb.out] at S
 have hi:(prog.info? 30).map (·.size)=some LL.length:=by rw [hl.out];exact hi8
 go_wp2_with (refine Ba rfl 30 _ _ rfl LL rfl rfl (by rw [hl.out];rfl) hi h1.out ?_)
 rw [hbb.out]
 generalize w4.alloc (.cells LL.toArray 30)=W at *
 clear hi hl h1 hbb
 have hA:=hid (acts_nil W.heap.size W)
 refine (H.out.m4 W _ S.out.gc hA.out).mono ?_
 rintro e w4 ⟨a1,n1,c1,a2,n2,c2,a3,n3,c3,rfl,hv,hb⟩
 have C:=hid ((C.out.go hb).go ((Below.refl _ w4).alloc nR (.cells (Ab V4 ⟨.slice a1 n1 c1,.slice a2 n2 c2,.slice a3 n3 c3⟩).toArray 30)))
 have S:=hid ((S.out.go hb).put hv)
 have h1:=hid (F9 V4 a1 a2 a3 n1 n2 n3 c1 c2 c3)
 have hl:Hid ((Ab V4 ⟨.slice a1 n1 c1,.slice a2 n2 c2,.slice a3 n3 c3⟩).length=8):=hid rfl
 clear hb hv
 generalize Ab V4 ⟨.slice a1 n1 c1,.slice a2 n2 c2,.slice a3 n3 c3⟩=LL at *
 obtain⟨b4,hbb⟩:∃ b,Hid (w4.heap.size=b):=⟨_,hid rfl⟩
 rw [hbb.out] at S
 have hi:(prog.info? 30).map (·.size)=some LL.length:=by rw [hl.out];exact hi8
 obtain⟨s,hr,hv⟩:=S.out.at (b:=b2) (v:=V2) (by simp)
 have hr:=hid hr
 have hv:=hid hv
 have hlv:(prog.info? 30).map (·.size)=some (Ab V2 s).length:=hi8
 go_wp2_with (first|refine Ba rfl 30 _ _ rfl LL rfl rfl (by rw [hl.out];rfl) hi h1.out ?_|refine wpList_load_mid rfl 30 _ rfl b2 0 rfl (Ab V2 s) _ hr.out underlying30 rfl hlv ?_)
 rw [hbb.out]
 generalize w4.alloc (.cells LL.toArray 30)=W at *
 clear hi hl h1 hbb
 clear hA
 refine (H.out.ac1 w _ _ c r1 r2 s h9.out S.out C.out hv.out).mono ?_
 clear hr hv hlv S C
 rintro e w6 ⟨rfl,S,C⟩
 have S:=hid S
 have C:=hid C
 go_wp2_with fail
 refine (H.out.vc1 w _ _ c r1 r2 _ S.out C.out).mono ?_
 clear S C
 rintro e w7 ⟨rfl,S,C⟩
 have S:=hid S
 have C:=hid C
 obtain⟨s,hr,hv⟩:=S.out.at (b:=b1) (v:=V1) (by simp)
 have hr:=hid hr
 have hv:=hid hv
 have hlv:(prog.info? 30).map (·.size)=some (Ab V1 s).length:=hi8
 go_wp2_with (refine Av rfl 30 _ rfl b1 0 rfl (Ab V1 s) _ hr.out underlying30 rfl hlv ?_)
 refine (H.out.ac2 w _ _ c r1 r2 s h9.out S.out C.out hv.out).mono ?_
 clear hr hv hlv S C
 rintro e w6 ⟨rfl,S,C⟩
 have S:=hid S
 have C:=hid C
 go_wp2_with fail
 refine (H.out.vc2 w _ _ c r1 r2 _ S.out C.out).mono ?_
 clear S C
 rintro e w7 ⟨rfl,S,C⟩
 have S:=hid S
 have C:=hid C
 obtain⟨s,hr,hv⟩:=S.out.at (b:=b1) (v:=V1) (by simp)
 have hr:=hid hr
 have hv:=hid hv
 have hlv:(prog.info? 30).map (·.size)=some (Ab V1 s).length:=hi8
 go_wp2_with (refine Av rfl 30 _ rfl b1 0 rfl (Ab V1 s) _ hr.out underlying30 rfl hlv ?_)
 refine (H.out.ac3 w _ _ c r1 r2 s h9.out S.out C.out hv.out).mono ?_
 clear hr hv hlv S C
 rintro e w6 ⟨rfl,S,C⟩
 have S:=hid S
 have C:=hid C
 obtain⟨s,hr,hv⟩:=S.out.at (b:=b3) (v:=V3) (by simp)
 have hr:=hid hr
 have hv:=hid hv
 have hlv:(prog.info? 30).map (·.size)=some (Ab V3 s).length:=hi8
 go_wp2_with (refine Av rfl 30 _ rfl b3 0 rfl (Ab V3 s) _ hr.out underlying30 rfl hlv ?_)
 refine (H.out.ac4 w _ _ c r1 r2 s h9.out S.out C.out hv.out).mono ?_
 clear hr hv hlv S C
 rintro e w6 ⟨rfl,S,C⟩
 have S:=hid S
 have C:=hid C
 go_wp2_with fail
 refine (H.out.vc2 w _ _ c r1 r2 _ S.out C.out).mono ?_
 clear S C
 rintro e w7 ⟨rfl,S,C⟩
 have S:=hid S
 have C:=hid C
 go_wp2_with fail
 refine (H.out.forks w _ _ c r1 r2 S.out C.out).mono ?_
 clear S C
 rintro e w8 ⟨a,cap,rfl,S⟩
 have S:=hid S
 go_wp2_with fail
 have S:=hid (S.out.go ((Below.refl _ w8).alloc nR (.cells #[ah K] 9)))
 have ST:=hid (My w8 K)
 dsimp only [ah] at S ST
 generalize w8.alloc (.cells #[.string ⟨K.toArray⟩] 9)=W at *
 refine (H.out.new W _ S.out.gc.gl ST.out).mono ?_
 rintro e w2 ⟨c,r1,r2,rfl,hC,g1,g2,hb⟩
 have C:Hid (ChP w w2 K c r1 r2 [] []):=hid ⟨hC,nT S.out.below.size g1,nT S.out.below.size g2⟩
 have S:=hid (S.out.go hb)
 clear hb hC g1 g2 ST
 obtain⟨s,hr,hv⟩:=S.out.at (b:=b3) (v:=V3) (by simp)
 have hr:=hid hr
 have hv:=hid hv
 have hlv:(prog.info? 30).map (·.size)=some (Ab V3 s).length:=hi8
 go_wp2_with (refine wpList_load_mid rfl 30 _ rfl b3 0 rfl (Ab V3 s) _ hr.out underlying30 rfl hlv ?_)
 refine (H.out.ad1 w _ _ c r1 r2 s h9.out S.out C.out hv.out).mono ?_
 clear hr hv hlv S C
 rintro e w6 ⟨rfl,S,C⟩
 have S:=hid S
 have C:=hid C
 obtain⟨s,hr,hv⟩:=S.out.at (b:=b1) (v:=V1) (by simp)
 have hr:=hid hr
 have hv:=hid hv
 have hlv:(prog.info? 30).map (·.size)=some (Ab V1 s).length:=hi8
 go_wp2_with (refine Av rfl 30 _ rfl b1 0 rfl (Ab V1 s) _ hr.out underlying30 rfl hlv ?_)
 refine (H.out.ad2 w _ _ c r1 r2 s h9.out S.out C.out hv.out).mono ?_
 clear hr hv hlv S C
 rintro e w6 ⟨rfl,S,C⟩
 have S:=hid S
 have C:=hid C
 obtain⟨s,hr,hv⟩:=S.out.at (b:=b2) (v:=V2) (by simp)
 have hr:=hid hr
 have hv:=hid hv
 have hlv:(prog.info? 30).map (·.size)=some (Ab V2 s).length:=hi8
 go_wp2_with (refine Av rfl 30 _ rfl b2 0 rfl (Ab V2 s) _ hr.out underlying30 rfl hlv ?_)
 refine (H.out.ad3 w _ _ c r1 r2 s h9.out S.out C.out hv.out).mono ?_
 clear hr hv hlv S C
 rintro e w6 ⟨rfl,S,C⟩
 have S:=hid S
 have C:=hid C
 go_wp2_with fail
 refine (H.out.vd2 w _ _ c r1 r2 _ S.out C.out).mono ?_
 clear S C
 rintro e w7 ⟨rfl,S,C⟩
 have S:=hid S
 have C:=hid C
 go_wp2_with fail
 clear C
 have S:=hid (S.out.go ((Below.refl _ w7).alloc nR (.cells #[ah K] 9)))
 have ST:=hid (My w7 K)
 dsimp only [ah] at S ST
 generalize w7.alloc (.cells #[.string ⟨K.toArray⟩] 9)=W at *
 refine (H.out.new W _ S.out.gc.gl ST.out).mono ?_
 rintro e w2 ⟨c,r1,r2,rfl,hC,g1,g2,hb⟩
 have C:Hid (ChP w w2 K c r1 r2 [] []):=hid ⟨hC,nT S.out.below.size g1,nT S.out.below.size g2⟩
 have S:=hid (S.out.go hb)
 clear hb hC g1 g2 ST
 obtain⟨s,hr,hv⟩:=S.out.at (b:=b1) (v:=V1) (by simp)
 have hr:=hid hr
 have hv:=hid hv
 have hlv:(prog.info? 30).map (·.size)=some (Ab V1 s).length:=hi8
 go_wp2_with (refine wpList_load_mid rfl 30 _ rfl b1 0 rfl (Ab V1 s) _ hr.out underlying30 rfl hlv ?_)
 refine (H.out.ax1 w _ _ c r1 r2 s h9.out S.out C.out hv.out).mono ?_
 clear hr hv hlv S C
 rintro e w6 ⟨rfl,S,C⟩
 have S:=hid S
 have C:=hid C
 obtain⟨s,hr,hv⟩:=S.out.at (b:=b4) (v:=V4) (by simp)
 have hr:=hid hr
 have hv:=hid hv
 have hlv:(prog.info? 30).map (·.size)=some (Ab V4 s).length:=hi8
 go_wp2_with (refine Av rfl 30 _ rfl b4 0 rfl (Ab V4 s) _ hr.out underlying30 rfl hlv ?_)
 refine (H.out.ax2 w _ _ c r1 r2 s h9.out S.out C.out hv.out).mono ?_
 clear hr hv hlv S C
 rintro e w6 ⟨rfl,S,C⟩
 have S:=hid S
 have C:=hid C
 go_wp2_with fail
 refine (H.out.vx2 w _ _ c r1 r2 _ S.out C.out).mono ?_
 clear S C
 rintro e w7 ⟨rfl,S,C⟩
 have S:=hid S
 have C:=hid C
 go_wp2_with fail
 refine (H.out.act _ S.out.gc).mono ?_
 rintro e w9 ⟨rfl,hb⟩
 have S:=hid (S.out.go hb)
 clear hb C
 go_wp2
 go_ret
 exact⟨rfl,S.out.below⟩
def Js (keys:List (List UInt8)):Bool:=!(keys.length==0)&&CH.dI keys 6
def NewRet (w:World) (keys:List (List UInt8)) (e:Ending) (w':World):Prop :=
 Below w.heap.size w w'∧if Js keys=true then ∃ c r1 r2,e=.returned (.tuple #[.pointer (some ⟨c,0,none⟩),.int .i64 0])∧aU w' c r1 r2 keys [] []∧w.heap.size≤c∧w.heap.size≤r1∧w.heap.size≤r2
  else e=.returned (.tuple #[.pointer none,.int .i64 1])
theorem alloc3_at (w:World) (o1 o2 o3:Obj):(((w.alloc o1).alloc o2).alloc o3).heap[w.heap.size]?=some o1∧(((w.alloc o1).alloc o2).alloc o3).heap[w.heap.size+1]?=some o2∧(((w.alloc o1).alloc o2).alloc o3).heap[w.heap.size+1+1]?=some o3:=by
 refine⟨?_,?_,?_⟩ <;> simp only [World.alloc,Array.getElem?_push,Array.size_push]
 ·rw [if_neg (by omega),if_neg (by omega),if_pos trivial]
 ·rw [if_neg (by omega),if_pos trivial]
 ·rw [if_pos trivial]
theorem new_any (v:Value) (keys:List (List UInt8)) (w:World) (hG:Gl w) (hv:Strs w.heap.size w v keys) (hl:∀ l∈keys,l.length≤9223372036854775807) (hlen:keys.length≤1099511627776) :
  Calls prog 11 #[v] w (NewRet w keys):=by
 have D:=Hc v keys 6 w hG hv hl
 have C:=hid fun (W:World) (hb:Below w.heap.size w W)=>clone_any v keys W ((hv.below hb nR).mono hb.size) hlen
 obtain⟨b,hb⟩:∃ b,CH.dI keys 6=b:=⟨_,rfl⟩
 rw [hb] at D
 replace D:=hid D
 replace hb:=hid hb
 have hmm:=@run_makeMap prog
 obtain⟨a,cap,rfl,_,_⟩:=hv.form
 obtain⟨N,hN⟩:∃ N,keys.length=N:=⟨_,rfl⟩
 have hok:∀ x,Hid ((!(N==0)&&b)=x)→Js keys=x:=fun x hx=>by rw [← hx.out,← hb.out,← hN];rfl
 rw [hN] at D C ⊢
 replace hN:=hid hN
 clear hv hl hlen
 by_cases h0:N=0
 ·subst h0
  have hk:=hok false (hid rfl)
  clear hok
  go_enter func11,ntmps11
  go_wp2_with fail
  refine bodyPost_ret (results_tmp2 rfl _ _ _) rfl ?_
  refine⟨Below.refl _ _,?_⟩
  rw [hk]
  rfl
 ·have q:((N:Int)==0)=false:=by simpa using (by omega:¬ (N:Int)=0)
  have q':(N==0)=false:=by simpa using h0
  go_enter func11,ntmps11
  go_wp2_with fail
  refine D.out.mono ?_
  rintro e w1 ⟨rfl,hb1⟩
  clear D
  cases b with
  | false =>
   have hk:=hok false (hid (by rw [Bool.and_false]))
   clear hok
   go_wp2
   refine bodyPost_ret (results_tmp2 rfl _ _ _) rfl ?_
   refine⟨hb1,?_⟩
   rw [hk]
   rfl
  | true =>
   have hk:=hok true (hid (by rw [q'];rfl))
   clear hok
   go_wp2_with fail
   refine (C.out _ hb1).mono ?_
   rintro e w2 ⟨vk,rfl,hO,hb2⟩
   have hB2:Below w.heap.size w w2:=hb1.trans (hb2.mono hb1.size)
   have hOs:=hid hO.strs
   obtain⟨ak,ck,rfl,_,_,_⟩:=hO.form
   clear C hO
   generalize keys.length=NN at *
   go_wp2
   refine bodyPost_ret (results_tmp2 rfl _ _ _) rfl ?_
   have hB3:=fun o1 o2 o3=>(((Below.refl _ w2).alloc nR o1).alloc (by simp) o2).alloc (by simp;omega) o3
   refine⟨hB2.trans ((hB3 _ _ _).mono hB2.size),?_⟩
   rw [hk,if_pos rfl]
   refine⟨w2.heap.size+1+1,w2.heap.size,w2.heap.size+1,rfl,?_,?_,?_,?_⟩
   ·obtain⟨a1,a2,a3⟩:=alloc3_at w2 (.map #[] 0) (.map #[] 0) (.cells #[.slice ak NN ck,.map (some w2.heap.size),.map (some (w2.heap.size+1))] 79)
    exact⟨⟨_,a3,(hOs.out.below (hB3 _ _ _) nR).mono (hB3 _ _ _).size⟩,⟨[],⟨#[],0,a1,rfl,by simp,by simp⟩,trivial⟩,⟨[],⟨#[],0,a2,rfl,by simp,by simp⟩,trivial⟩,by omega⟩
   ·have:=hB2.size;omega
   ·exact hB2.size
   ·have:=hB2.size;omega
end
section
open Go.Lib Go.Maps Go.Proofs.Tryz Go.RowKit Go.Shelf Go.Sort
section
variable {F:Fence} {n:Nat} {P:Program} {w w':World} {ops:Array Oper} {rest:List Oper} {o:Oper} {a:Act} {Q:Exit→Act→World→Prop} {v:Value}
theorem Jo (hg:o.guard=none) (m:Operand) (t:TypeId) (hop:o.op=Op.range t m) (mv:Value) (hm:a.eval m=mv) (hrun:(Instr.range t mv).run P w=.ok v w') (h:wpListIn F n P ops Q rest (a.put o.dst v) w'):wpListIn F n P ops Q (o::rest) a w:=by
 refine wpListIn_plain hg fun K' hK'=>?_
 unfold Oper.wpIn
 refine⟨by simp [Oper.about,hop],?_⟩
 rw [Oper.semAt_plain F _ _ (by rw [hop];intro c hc';cases hc')]
 simp [execOp,hop,hm,hrun,Result.andThen]
 exact hK' _ _ h
theorem F8 (hg:o.guard=none) (it:Operand) (hop:o.op=Op.next it false) (iv:Value) (hit:a.eval it=iv) (hrun:(Instr.next iv false o.type).run P w=.ok v w') (h:wpListIn F n P ops Q rest (a.put o.dst v) w'):wpListIn F n P ops Q (o::rest) a w:=by
 refine wpListIn_plain hg fun K' hK'=>?_
 unfold Oper.wpIn
 refine⟨by simp [Oper.about,hop],?_⟩
 rw [Oper.semAt_plain F _ _ (by rw [hop];intro c hc';cases hc')]
 simp [execOp,hop,hit,hrun,Result.andThen]
 exact hK' _ _ h
end
def gY (w:World) (r it:Nat) (kvs:List ((Int × Int) × Value)) (done:List (Int × Int)):Prop :=
 ∃ (es:Array MapEntry) (clock:Nat) (seen:Array Nat),w.heap[r]?=some (.map es clock)∧w.heap[it]?=some (.mapIter (some r) clock seen clock) ∧
  es.toList.map (fun e=>(e.key,e.val))=kvs.map (fun p=>(An p.1,p.2))∧(∀ x∈es.toList,x.born<clock)∧(es.toList.map (·.born)).Nodup ∧
  (∀ x∈es.toList,∀ p,x.key=An p→(seen.contains x.born=true↔p∈done))∧done.Nodup∧∀ p∈done,p∈kvs.map (·.1)
theorem M7 {p q:Int × Int} (h:An p=An q):p=q:=by
 obtain⟨a,b⟩:=p
 obtain⟨c,d⟩:=q
 simp only [An] at h
 injection h with h
 simp at h
 exact Prod.ext h.1 h.2
theorem gY.start {w:World} {r:Nat} {kvs:List ((Int × Int) × Value)} (h:A8 An r w kvs) {T E:TypeId} (hT:prog.underlying T=some (.map 94 E)) :
  ∃ w',(Instr.range T (.map (some r))).run prog w=.ok (.pointer (some ⟨w.heap.size,0,none⟩)) w'∧gY w' r w.heap.size kvs []∧w.grownBy w' none:=by
 obtain⟨es,clock,hb,hes,hold,hnd⟩:=h
 have hlt:r<w.heap.size:=(aZ hb)
 exact⟨_,run_range_map w T 94 E r es clock hT hb,⟨es,clock,#[],((MapKept.heap_alloc w _).2 r hlt).trans hb,(MapKept.heap_alloc w _).1,hes,hold,hnd,fun x _ p _=>by simp,by simp,by simp⟩,World.grownBy_alloc w _ none⟩
theorem gY.kept {w w':World} {r it:Nat} {kvs:List ((Int × Int) × Value)} {done:List (Int × Int)} {row:Option Nat} (h:gY w r it kvs done) (hg:w.grownBy w' row) (h1:some r≠row) (h2:some it≠row):gY w' r it kvs done:=by
 obtain⟨es,clock,seen,e1,e2,e3⟩:=h
 exact⟨es,clock,seen,(hg.block r (aZ e1) h1).trans e1,(hg.block it (aZ e2) h2).trans e2,e3⟩
def PLeft (w:World) (r it:Nat):Nat :=
 match w.heap[r]?,w.heap[it]? with
 | some (.map es _),some (.mapIter _ _ seen _)=>(leftOf es seen).size
 | _,_=>0
theorem gY.step {w:World} {r it:Nat} {kvs:List ((Int × Int) × Value)} {done:List (Int × Int)} (h:gY w r it kvs done) (hne:it≠r) (hk:(kvs.map (·.1)).Nodup) (ty:TypeId) :
  ((∀ p∈kvs.map (·.1),p∈done)∧(Instr.next (.pointer (some ⟨it,0,none⟩)) false ty).run prog w=.ok (.tuple #[.bool false]) w) ∨
  ∃ p x w',(p,x)∈kvs∧p ∉ done∧(Instr.next (.pointer (some ⟨it,0,none⟩)) false ty).run prog w=.ok (.tuple #[.bool true,An p,x]) w'∧gY w' r it kvs (done++[p])∧w.grownBy w' (some it)∧PLeft w' r it<PLeft w r it ∧
   (Instr.entry (.pointer (some ⟨it,0,none⟩))).run prog w'=.ok (.tuple #[An p,x]) w':=by
 obtain⟨es,clock,seen,hb,hit,hes,hold,hnd,hsd,hdn,hsub⟩:=h
 have hkv:∀ e∈es.toList,∃ p,(p,e.val)∈kvs∧e.key=An p:=fun e he=>by
  have:(e.key,e.val)∈kvs.map (fun p=>(An p.1,p.2)):=hes ▸ List.mem_map.2 ⟨e,he,rfl⟩
  obtain⟨⟨k,v⟩,hk',e1⟩:=List.mem_map.1 this
  simp only [Prod.mk.injEq] at e1
  exact⟨k,e1.2 ▸ hk',e1.1.symm⟩
 have hvk:∀ p∈kvs.map (·.1),∃ e∈es.toList,e.key=An p:=fun p hp=>by
  obtain⟨⟨k,v⟩,hk',rfl⟩:=List.mem_map.1 hp
  have:(An k,v)∈es.toList.map (fun e=>(e.key,e.val)):=hes ▸ List.mem_map.2 ⟨(k,v),hk',rfl⟩
  obtain⟨e,he,e1⟩:=List.mem_map.1 this
  simp only [Prod.mk.injEq] at e1
  exact⟨e,he,e1.1⟩
 rcases _root_.Go.run_next_at (P:=prog) w ty it r clock clock seen es clock hit hb hold nR with⟨h0,hrun⟩|⟨e,he,w1,hal,hrun⟩
 ·refine .inl ⟨fun p hp=>?_,hrun⟩
  obtain⟨e,he,hek⟩:=hvk p hp
  exact (hsd e he p hek).1 (all_seen es seen h0 e he)
 ·obtain⟨hem,hes'⟩:=mem_left he
  obtain⟨p,hp,hek⟩:=hkv e hem
  have hpd:p ∉ done:=fun hd=>by
   have:=(hsd e hem p hek).2 hd
   rw [hes'] at this
   cases this
  have hit1:w1.heap[it]?=some (.mapIter (some r) clock seen clock):=by rcases hal with rfl|rfl <;> exact hit
  have hr1:w1.heap[r]?=some (.map es clock):=by rcases hal with rfl|rfl <;> exact hb
  have hset:=MapKept.heap_set (o':=.mapIter (some r) clock (seen.push e.born) clock) hit1
  have hr2:(ChangeMaps.setBlock w1 it (.mapIter (some r) clock (seen.push e.born) clock)).heap[r]?=some (.map es clock):=(hset.2 r (fun e1=>hne e1.symm)).trans hr1
  have hkeys:(es.toList.map (·.key)).Nodup:=by
   have e1:es.toList.map (·.key)=kvs.map (fun p=>An p.1):=by
    have:=congrArg (List.map Prod.fst) hes
    simpa [List.map_map,Function.comp_def] using this
   rw [e1]
   have:kvs.map (fun p=>An p.1)=(kvs.map (·.1)).map An:=by simp [List.map_map,Function.comp_def]
   rw [this]
   unfold List.Nodup at hk ⊢
   rw [List.pairwise_map]
   exact hk.imp fun hne' h'=>hne' (M7 h')
  have hinj:∀ x∈es.toList,x.key=e.key→x=e:=fun x hx hxe=>entry_eq_of_key (by unfold List.Nodup at hkeys;exact List.pairwise_map.1 hkeys) hx hem hxe
  refine .inr ⟨p,e.val,_,hp,hpd,by rw [← hek];exact hrun,⟨es,clock,seen.push e.born,hr2,hset.1,hes,hold,hnd,fun x hx q hq=>?_,?_,fun q hq=>?_⟩,?_,?_,?_⟩
  ·rw [contains_push,Bool.or_eq_true,hsd x hx q hq,List.mem_append,List.mem_singleton]
   refine or_congr_right ⟨fun hbb=>?_,fun hqp=>?_⟩
   ·have:=born_inj hnd hx hem (beq_iff_eq.1 hbb)
    subst this
    exact M7 (hq.symm.trans hek)
   ·subst hqp
    rw [hinj x hx (hq.trans hek.symm)]
    exact beq_self_eq_true _
  ·rw [List.nodup_append]
   refine⟨hdn,by simp,fun a ha b hb' e1=>?_⟩
   rw [List.mem_singleton] at hb'
   subst hb'
   subst e1
   exact hpd ha
  ·rcases List.mem_append.1 hq with h1|h1
   ·exact hsub q h1
   ·rw [List.mem_singleton] at h1
    subst h1
    exact List.mem_map.2 ⟨_,hp,rfl⟩
  ·rcases hal with rfl|rfl <;> exact⟨rfl,rfl,rfl,by simp [ChangeMaps.setBlock],fun i _ hi=>hset.2 i (fun e1=>hi (by rw [e1]))⟩
  ·have e1:PLeft (ChangeMaps.setBlock w1 it (.mapIter (some r) clock (seen.push e.born) clock)) r it=(leftOf es (seen.push e.born)).size:=by
    have hs1:(ChangeMaps.setBlock w1 it (.mapIter (some r) clock (seen.push e.born) clock)).heap[it]?=_:=hset.1
    unfold PLeft
    rw [hr2,hs1]
   have e2:PLeft w r it=(leftOf es seen).size:=by
    unfold PLeft
    rw [hb,hit]
   rw [e1,e2]
   exact left_shrinks es seen e he
  ·rw [← hek]
   exact _root_.Go.run_entry_at (P:=prog) _ it r clock seen es clock e hset.1 hr2 hem hnd
def KeyAll (kvs:List ((Int × Int) × Value)) (ps:List (Int × Int)):Prop:=ps.Nodup∧∀ p,p∈ps↔p∈kvs.map (·.1)
def KeyPart (kvs:List ((Int × Int) × Value)) (ps:List (Int × Int)):Prop:=ps.Nodup∧∀ p∈ps,p∈kvs.map (·.1)
theorem gY.walks {w w':World} {r it:Nat} {kvs:List ((Int × Int) × Value)} {done:List (Int × Int)} (h:gY w r it kvs done) (hk:KeepsWalks w w'):gY w' r it kvs done∧PLeft w' r it=PLeft w r it:=by
 obtain⟨es,clock,seen,e1,e2,e3⟩:=h
 have f1:=hk.same _ _ e1 rfl
 have f2:=hk.same _ _ e2 rfl
 exact⟨⟨es,clock,seen,f1,f2,e3⟩,by simp only [PLeft,e1,e2,f1,f2]⟩
theorem gY.nodup {w:World} {r it:Nat} {kvs:List ((Int × Int) × Value)} {done:List (Int × Int)} (h:gY w r it kvs done):done.Nodup∧∀ p∈done,p∈kvs.map (·.1):=by
 obtain⟨_,_,_,_,_,_,_,_,_,h1,h2⟩:=h
 exact⟨h1,h2⟩
theorem gY.walk {w:World} {r it:Nat} {kvs:List ((Int × Int) × Value)} {done:List (Int × Int)} (h:gY w r it kvs done):∃ o:Obj,w.heap[it]?=some o∧o.isWalk=true:=by
 obtain⟨_,_,_,_,e2,_⟩:=h
 exact⟨_,e2,rfl⟩
theorem Iw {α:Type} [BEq α] [LawfulBEq α]:∀ (l m:List α),l.Nodup→(∀ x∈l,x∈m)→l.length≤m.length
 | [],_,_,_=>Nat.zero_le _
 | a::l,m,hn,hs=>by
  rw [List.nodup_cons] at hn
  have ha:=hs a (by simp)
  have h1:=Iw l (m.erase a) hn.2 (fun x hx=>(List.mem_erase_of_ne (fun e=>by subst e;exact hn.1 hx)).2 (hs x (by simp [hx])))
  rw [List.length_erase_of_mem ha] at h1
  have:=List.length_pos_of_mem ha
  rw [List.length_cons]
  omega
theorem Gx {w w':World} (h:Below w.heap.size w w'):KeepsWalks w w':=⟨h.size,fun k o hk _=>(h.block k (aZ hk)).trans hk⟩
theorem Ji {w w':World} (h:Below w.heap.size w w'):w.grownBy w' none:=⟨h.os,h.tape,h.output,h.size,fun k hk _=>h.block k hk⟩
theorem keysP_stops (F:Fence) (n:Nat) (h10:F.fn 121) (hro:F.round=none) (hn:1≤n) (Bm r:Nat) (kvs:List ((Int × Int) × Value)) (w:World) (hBm:Bm<w.heap.size)
  (hm:w.cell? ⟨Bm,0,none⟩=some (.map (some r))) (hmap:A8 An r w kvs) (hk:(kvs.map (·.1)).Nodup) :
  SeqStopsK F n prog 121 #[.pointer (some ⟨Bm,0,none⟩)] (fun p=>#[An p]) KeepsWalks (KeyAll kvs) (KeyPart kvs) kvs.length w:=fun l J Jx W hW hJ _ hY h0=>by
 have hm:=(hW.cell (p:=⟨Bm,0,none⟩) hBm).trans hm
 have hmap:=hmap.below hW
 obtain⟨w0,hrun0,hit0,hg0⟩:=gY.start hmap underlying75
 have hne:W.heap.size≠r:=fun e=>by have:=hmap.lt;omega
 refine callsIn_of_wp func121 rfl h10 ?_ hro
 simp only [ntmps121,List.size_toArray,List.length_cons,List.length_nil,Nat.reduceAdd,Nat.reduceSub,Array.replicate_succ,Array.replicate_zero,List.push_toArray,List.append_toArray,List.nil_append,List.cons_append]
 gi_wp2_with (first
  |(gi_at_range;refine Jo rfl _ 75 rfl _ rfl hrun0 ?_)
  | gi_in)
 gi_loopw [3] (fun _ wr=>∃ done,gY wr r W.heap.size kvs done∧J done wr) (fun _ wr=>PLeft wr r W.heap.size)
 case atStart=>exact⟨[],hit0,hJ [] W w0 none h0 hg0 (fun r e=>by cases e)⟩
 case round =>
  obtain⟨done,hit,hJs⟩:=hrel
  rcases hit.step hne hk 0 with⟨hall,hrun⟩|⟨p,x,w2,hp,hpd,hrun,hit2,hg2,hlt,hen⟩
  ·gi_wp2_with (first|(gi_at_next;refine F8 rfl _ rfl _ rfl hrun ?_)|gi_in)
   go_end0
   exact⟨⟨_,rfl⟩,.inl ⟨done,⟨hit.nodup.1,fun p=>⟨hit.nodup.2 p,hall p⟩⟩,hJs⟩⟩
  ·obtain⟨p1,p2⟩:=p
   dsimp only [An] at hrun hen
   have hJ2:J done w2:=hJ done wr w2 (some W.heap.size) hJs hg2 (fun r e=>by cases e;exact⟨Nat.le_refl _,hit.walk⟩)
   have hlen:done.length<kvs.length:=by
    have:=Iw _ _ hit2.nodup.1 hit2.nodup.2
    simp at this
    omega
   have hb3:Below w2.heap.size w2 (w2.alloc (.cells #[.int .i64 p1,.int .i64 p2] 94)):=(Below.refl _ w2).alloc nR _
   have hJ3:=hJ done w2 _ none hJ2 (Ji hb3) (fun r e=>by cases e)
   obtain⟨hit3,hl3⟩:=hit2.walks (Gx hb3)
   obtain⟨fn,tmps,assign,body,hy,hR⟩:=hY done (p1,p2) _ hJ3 hlen
   dsimp only [An] at hy
   clear hb3 hJ3
   gi_wp2_with (first|(gi_at_next;refine F8 rfl _ rfl _ rfl hrun ?_)|gi_in)
   refine hR.mono ?_
   rintro e W4 (⟨rfl,hJ4,hk4⟩|⟨rfl,hJx4⟩)
   ·obtain⟨hit4,hl4⟩:=hit3.walks hk4
    gi_wp2
    go_roundw
    case rel=>exact⟨done++[(p1,p2)],hit4,hJ4⟩
    case measure=>rw [hl4,hl3];exact hlt
   ·gi_wp2
    refine bodyPost_ret (results_none rfl _ _ _) rfl ?_
    exact⟨⟨_,rfl⟩,.inr ⟨done++[(p1,p2)],hit2.nodup,hJx4⟩⟩
end
section
open Go.Lib Go.Proofs.Tryz Go.RowKit Go.Shelf Go.Sort
section
variable {F:Fence} {n:Nat} {P:Program}
theorem rangeFunc_b {α:Type} {g:Operand} {ps:Array Tmp} {assign body:Code} {Q:Exit→Act→World→Prop} {a:Act} {w:World}
  (hro:F.round=none) (h1:1≤n) {gf:Nat} {lb:Array Value} (hg:a.eval g=.func (.func gf) #[] lb) (hFg:F.fn gf) (eg:∀ args w,(callFunc gf args).run P w=.ok (.enter gf args) w)
  {encs:α→Array Value} {S Sp:List α→Prop} {N:Nat} {w0:World} (hseq:SeqStopsK F (n - 1) P gf lb encs KeepsWalks S Sp N w0)
  (hb0:Below w0.heap.size w0 w) (hps:∀ x,(encs x).size=ps.size)
  (I:List α→World→Prop) (hI:OwnFrom w.heap.size I) (h0:I [] w) (a₁:α→Nat→Act) (asg:α→World→World) (Bx:α→Nat→World→Prop)
  (hassign:∀ (l:Nat) (x:α) (W:World) (K:Act→World→Prop),K (a₁ x W.heap.size) (asg x W) →
   assign.wpIn (F.inRound l) (n - 1 - 1) P (Exit.then K (fun _ _ _=>False)) { tmps:=(ps.zip (encs x)).foldl (fun t (p,v)=>t.setIfInBounds p v) a.tmps,defers:=[] } W)
  (hasg:∀ x W,Below W.heap.size W (asg x W)) (hBx:∀ x W,Bx x W.heap.size (asg x W))
  (hBp:∀ x b V l (o o':Obj),Bx x b V→V.heap[l]?=some o→o.isCells=false→Bx x b (V.putObj l o'))
  (hbody:∀ (l:Nat) (pre:List α) (x:α) (b:Nat) (W:World),I pre W→Bx x b W→pre.length<N→body.wpIn (F.inRound l) (n - 1 - 1) P (ownPostK KeepsWalks I (fun _ _ _=>False) (pre++[x]) W) (a₁ x b) W)
  (hdone:∀ (D:Nat) (xs:List α) (W:World),w.heap.size≤D→S xs→I xs W→W.heap[D]?=some (.deferred (some []))→Q .normal { a with defers:={ target:=.collected D,args:=#[] }::a.defers } W) :
  (Code.rangeFunc g ps assign body).wpIn F n P Q a w:=by
 refine wpIn_rangeFunc ?_
 intro fn hfn
 rw [hro]
 obtain⟨rec,hrec⟩:∃ rec:LoopState→Option Code→Loop,rec=fun st pe=>{ state:=st,pending:=pe,fn,tmps:=a.tmps,params:=ps,assign,body,defers:=w.heap.size }:=⟨_,rfl⟩
 obtain⟨V,hV⟩:∃ V,(w.alloc (.deferred (some []))).alloc (.loop (rec .ready none))=V:=⟨_,rfl⟩
 have bV:Below w.heap.size w V:=by rw [← hV];exact ((Below.refl _ w).alloc nR _).alloc (by simp) _
 have zV:V.heap.size=w.heap.size+1+1:=by rw [← hV];simp
 have loopV:V.heap[w.heap.size+1]?=some (.loop (rec .ready none)):=by
  have:=heap_alloc_last (w.alloc (.deferred (some []))) (.loop (rec .ready none))
  rw [World.size_alloc,hV] at this
  exact this
 have deferV:V.heap[w.heap.size]?=some (.deferred (some [])):=by
  rw [← hV];exact (Below.heap_alloc _ _ _ (by simp)).trans (heap_alloc_last w _)
 have IV:I [] V:=by rw [← hV];exact hI.alloc _ (hI.alloc _ h0)
 refine⟨w.heap.size+1,[{ target:=.collected w.heap.size,args:=#[] }],V,{ target:=.fn (.func gf) lb,args:=#[.func (.yield (w.heap.size+1)) #[] #[]] },V,gf,
  #[.func (.yield (w.heap.size+1)) #[] #[]]++lb,V,?_,?_,?_,?_,fun _=>h1,?_⟩
 ·rw [← hV,hrec];exact run_enterLoop_outer _ _ _ _ _
 ·simp only [resolve,hg]
  simp [go_sem]
 ·intro f' hf';simp [Target.leads] at hf';subst hf';exact hFg
 ·simp [invoke,go_sem,eg]
 have far:∀ {A:World} {row:Option Nat},(∀ r,row=some r→V.heap.size≤r∧∃ o:Obj,A.heap[r]?=some o∧o.isWalk=true)→∀ r,row=some r→w.heap.size≤r∧∃ o:Obj,A.heap[r]?=some o∧o.isCells=false :=
  fun hr r e=>by obtain⟨h1,o,h2,h3⟩:=hr r e;exact⟨by omega,o,h2,Obj.not_cells_of_walk h3⟩
 refine (hseq (w.heap.size+1)
  (fun pre A=>I pre A∧A.heap[w.heap.size+1]?=some (.loop (rec .ready none))∧A.heap[w.heap.size]?=some (.deferred (some [])))
  (fun _ _=>False)
  V (hb0.trans (bV.mono hb0.size))
  (fun s A B row hs hg' hr=>⟨hI s A B row hs.1 hg' (far hr),(grownBy_keeps hg' (fun r e=>(hr r e).2) hs.2.1 rfl).trans hs.2.1,(grownBy_keeps hg' (fun r e=>(hr r e).2) hs.2.2 rfl).trans hs.2.2⟩)
  (fun _ _ _ _ hs _ _=>hs)
  ?_ ⟨IV,loopV,deferV⟩).mono ?_
 ·rintro pre x A0 ⟨hi0,hl0,hk0⟩ hlen
  have hlt0:w.heap.size+1<A0.heap.size:=(aZ hl0)
  have hy:=run_yield (P:=P) (args:=encs x) hl0 (by rw [hrec];exact hps x)
  rw [hrec] at hy
  obtain⟨A,hA⟩:∃ A,asg x A0=A:=⟨_,rfl⟩
  have bA:Below A0.heap.size A0 A:=by rw [← hA];exact hasg x A0
  have xA:Bx x A0.heap.size A:=by rw [← hA];exact hBx x A0
  have hi:I pre A:=hI pre A0 A none hi0 (Ji bA) (fun r e=>by cases e)
  have hl:A.heap[w.heap.size+1]?=some (.loop (rec .ready none)):=(bA.block _ hlt0).trans hl0
  have hk:A.heap[w.heap.size]?=some (.deferred (some [])):=(bA.block _ (by omega)).trans hk0
  have hlt:w.heap.size+1<A.heap.size:=(aZ hl)
  refine⟨fn,_,assign,body,hy,roundIn_of_wpIn hfn (hassign _ x A0 _ ?_)⟩
  rw [hA]
  refine⟨_,run_beginRound hl (by rw [hrec]),?_⟩
  obtain⟨busy,hbusy⟩:∃ b:Obj,b=.loop { rec .ready none with state:=.busy }:=⟨_,rfl⟩
  rw [← hbusy]
  have l2:(A.putObj (w.heap.size+1) busy).heap[w.heap.size+1]?=some busy:=World.putObj_heap_same hlt
  have k2:(A.putObj (w.heap.size+1) busy).heap[w.heap.size]?=some (.deferred (some [])):=(World.putObj_heap_other (by omega)).trans hk
  have b2:KeepsWalks A0 (A.putObj (w.heap.size+1) busy):=(Gx bA).trans (KeepsWalks.putObj _ hl rfl)
  have i2:I pre (A.putObj (w.heap.size+1) busy):=hI.putObj _ hi (by omega) hl rfl
  have x2:Bx x A0.heap.size (A.putObj (w.heap.size+1) busy):=hBp _ _ _ _ _ _ xA hl rfl
  have ends:∀ (C:World),KeepsOthers (A.putObj (w.heap.size+1) busy) C →
    (Instr.endRound (w.heap.size+1) none).run P C=.ok (.bool true) (C.putObj (w.heap.size+1) (.loop (rec .ready none))) ∧
    C.heap[w.heap.size+1]?=some busy ∧
    (C.putObj (w.heap.size+1) (.loop (rec .ready none))).heap[w.heap.size+1]?=some (.loop (rec .ready none)) ∧
    (C.putObj (w.heap.size+1) (.loop (rec .ready none))).heap[w.heap.size]?=some (.deferred (some [])):=fun C hC=>by
   have l3:=hC.same _ _ l2 (by rw [hbusy];rfl)
   have l3':=l3
   rw [hbusy] at l3'
   have:=run_endRound (P:=P) none l3'
   rw [hrec] at this ⊢
   exact⟨this,l3,World.putObj_heap_same (aZ l3),(World.putObj_heap_other (by omega)).trans (hC.same _ _ k2 rfl)⟩
  refine wpIn_mono (hbody _ pre x _ _ i2 x2 hlen) ?_
  rintro e a3 C hC
  cases e with
  | normal =>
   obtain⟨hk3,hkp3,hi3⟩:=hC
   obtain⟨hr,hl3,hl4,hk4⟩:=ends C hk3
   exact⟨_,_,hr,.inl ⟨rfl,⟨hI.putObj _ hi3 (by omega) hl3 (by rw [hbusy];rfl),hl4,hk4⟩,(b2.trans hkp3).trans (KeepsWalks.putObj _ hl3 (by rw [hbusy];rfl))⟩⟩
  | ret=>exact hC.2.elim
  | exit id=>exact hC.2.elim
  | goto t=>exact hC.2.elim
  | panic ch=>exact hC.elim
  | outgrown=>exact hC.elim
 ·rintro e B ⟨⟨v,rfl⟩,(⟨xs,hS,hi,hl,hk⟩|⟨pre,hSp,hf⟩)⟩
  ·exact⟨none,_,by have:=run_endLoop (P:=P) hl (by rw [hrec];simp);rw [hrec] at this;exact this,hdone _ xs _ nR hS (hI.putObj _ hi (by omega) hl rfl) ((World.putObj_heap_other (by omega)).trans hk)⟩
  ·exact hf.elim
end
end
section
open Go.Lib Go.Proofs.Tryz Go.RowKit Go.Shelf Go.Sort
attribute [local go_sem] Oper.semAt_some
def fJ (p:Int × Int):List Value:=[aJ p.1,aJ p.2]
theorem encP_one (p:Int × Int):∀ u∈fJ p,u.oneCell'=true:=by
 intro u hu
 simp only [fJ,List.mem_cons,List.not_mem_nil,or_false] at hu
 rcases hu with rfl|rfl <;> rfl
theorem placeInfo:(prog.info? 94).map (fun i=>(i.zero,i.size,i.bytes))=some (some (.agg #[.int .i64 0,.int .i64 0]),2,16):=by kernel_rfl
theorem cells_two (W:World) (a b:Value) (T:TypeId):∀ (j:Nat) (u:Value),([a,b]:List Value)[j]?=some u→(W.alloc (.cells #[a,b] T)).cell? ((⟨W.heap.size,0,none⟩:Addr).add j)=some u:=fun j u hj=>by
 have h:=Br W [a,b] T j u hj
 rw [Nat.zero_add] at h
 rw [show (⟨W.heap.size,0,none⟩:Addr).add j=⟨W.heap.size,j,none⟩ from by simp [Addr.add];omega]
 exact h
def ApP (w0:World) (Bs:Nat) (ps:List (Int × Int)) (W:World):Prop :=
 (∃ v,Boxed W Bs 145 v∧W.ownsRow w0.heap.size 94 2 v ps.length (ps.flatMap fJ))∧Below w0.heap.size w0 W
theorem ApP.own (w0:World) (Bs B:Nat) (hB:w0.heap.size≤B):OwnFrom B (ApP w0 Bs):=by
 rintro ps W W' row ⟨⟨v,hv,hr⟩,hb⟩ hg hrow
 refine⟨⟨v,hv.kept hg fun e=>?_,hr.kept hg ?_⟩,hb.grown hg hb.size fun k e=>nT hB (hrow k e).1⟩
 ·obtain⟨_,o,ho,hc⟩:=hrow Bs e.symm
  have hv':W.heap[Bs]?=some (.cells #[v] 145 (0,0)):=hv
  rw [hv'] at ho;cases ho;cases hc
 ·rcases hr.2 with⟨rfl,_⟩|⟨g,cap,cur,rfl,_,hgb,_⟩
  ·exact .inl rfl
  ·refine .inr fun e=>?_
   obtain⟨_,o,ho,hc⟩:=hrow g (by simpa [Value.ownBlock] using e.symm)
   rw [hgb] at ho;cases ho;cases hc
theorem appendSeqP_any (Bm r:Nat) (kvs:List ((Int × Int) × Value)) (w:World) (hBm:Bm<w.heap.size) (hm:w.cell? ⟨Bm,0,none⟩=some (.map (some r))) (hmap:A8 An r w kvs) (hk:(kvs.map (·.1)).Nodup) (hN:kvs.length≤1000000) :
  Calls prog 176 #[.slice none 0 0,.func (.func 121) #[] #[.pointer (some ⟨Bm,0,none⟩)]] w fun e w' =>
   ∃ v ps,e=.returned v∧KeyAll kvs ps∧w'.ownsRow w.heap.size 94 2 v ps.length (ps.flatMap fJ)∧Below w.heap.size w w':=by
 refine (callsIn_wide (n:=4)).1 ?_
 refine callsIn_of_wp_marks func176 rfl trivial ?_ rfl
 simp only [ntmps176,List.size_toArray,List.length_cons,List.length_nil,Nat.reduceAdd,Nat.reduceSub,Array.replicate_succ,Array.replicate_zero,List.push_toArray,List.append_toArray,List.nil_append,List.cons_append]
 gi_wp2
 obtain⟨W0,hW0⟩:∃ W0,w.alloc (.cells #[.slice none 0 0] 145)=W0:=⟨_,rfl⟩
 have hb0:Below w.heap.size w W0:=by rw [← hW0];exact (Below.refl _ w).alloc nR _
 have hv0:Boxed W0 w.heap.size 145 (.slice none 0 0):=by rw [← hW0];exact Boxed.new w _ _
 rw [hW0]
 clear hW0
 refine rangeFunc_b (n:=4) (α:=Int × Int) rfl (by decide) (gf:=121) (lb:=#[.pointer (some ⟨Bm,0,none⟩)]) rfl trivial (enters_of func121 (by kernel_rfl) rfl)
  (keysP_stops Fence.wide 3 trivial rfl (by decide) Bm r kvs w hBm hm hmap hk) hb0 (fun _=>rfl) (ApP w w.heap.size) (ApP.own _ _ _ hb0.size) ⟨⟨_,hv0,World.ownsRow_nil W0 _ _ _⟩,hb0⟩
  (fun x b=>{ tmps:=#[.slice none 0 0,.func (.func 121) #[] #[.pointer (some ⟨Bm,0,none⟩)],.pointer (some ⟨w.heap.size,0,none⟩),undef,.slice none 0 0,.pointer (some ⟨b,0,none⟩),.func (.func 121) #[] #[.pointer (some ⟨Bm,0,none⟩)],An x,undef,undef,undef,undef,undef],defers:=[] })
  (fun x W=>W.alloc (.cells #[aJ x.1,aJ x.2] 94)) (fun x b V=>V.heap[b]?=some (.cells #[aJ x.1,aJ x.2] 94 (0,0))) ?assign (fun x W=>(Below.refl _ W).alloc nR _) (fun x W=>heap_alloc_last W _) ?bp ?body ?done
 case assign =>
  intro l x W K hK
  obtain⟨x1,x2⟩:=x
  dsimp only [An] at hK ⊢
  gi_wp2
  exact hK
 case bp =>
  rintro x b V l o o' hx hl hc
  refine (World.putObj_heap_other (fun e=>?_)).trans hx
  subst e
  rw [hx] at hl;cases hl;cases hc
 case body =>
  rintro l pre x b W ⟨⟨v,hv,hrow⟩,hb⟩ hx hlen
  obtain⟨x1,x2⟩:=x
  have hc:=hv.cell
  have hf:=hv.frozen
  have c0:W.cell? ⟨b,0,none⟩=some (.int .i64 x1):=Aa hx 0
  have c1:W.cell? ⟨b,1,none⟩=some (.int .i64 x2):=Aa hx 1
  obtain⟨i0,hi,hz0,hz1,hz2⟩:=info_parts placeInfo
  have hWs:=hb.size
  have hblt:=(aZ hx)
  dsimp only [An]
  have hNl:pre.length+1≤1000001:=by omega
  gi_wp2_with (first
   |(gi_at_builtin;refine wpListIn_append_own _ rfl _ _ 145 rfl w.heap.size 94 i0 _ 2 16 underlying145 hi hz0 hz1 hz2 rfl (by decide) _ _ _ rfl (hrow.alloc _) ⟨W.heap.size,0,none⟩ 1 1 [.int .i64 x1,.int .i64 x2] rfl rfl (cells_two _ _ _ _) (encP_one (x1,x2)) (by unfold maxLen;omega) (by omega) (by simp;omega) ?_;intro v' w3 hown' hg3 hnil3
     have hap:=Boxed.appended hv (by decide) hrow hWs nR hown' hg3
     obtain⟨g5,c5,e5⟩:=ownsRow_succ hown'
     subst e5
     have hv3:=hap.1
     have hc3:=hv3.cell
     have hf3:=hv3.frozen)
   | gi_in)
  refine⟨hap.2.2.2.1,hap.2.2.2.1.walks,⟨⟨_,hap.2.1,?_⟩,hb.trans hap.2.2.2.2⟩⟩
  have h:=hap.2.2.1
  rw [List.length_append,List.length_singleton,List.flatMap_append]
  exact h
 case done =>
  rintro D xs W hD hS ⟨⟨v,hv,hrow⟩,hb⟩ hK
  have hc:=hv.cell
  gi_wp2
  have hbD:=(Below.refl w.heap.size W).trans (belowK_b (w:=w) nR W D _ (.deferred none) (by have:=hb0.size;omega) hK rfl rfl)
  refine⟨by simp,.inl ⟨_,_,rfl,run_takeDeferred (ds:=[]) hK,?_⟩⟩
  refine⟨_,results_tmp rfl _ _ _,v,xs,rfl,hS,?_,hb.trans hbD⟩
  exact ownsRow_putObj hrow _ hK rfl
theorem ownsRow_form {w:World} {base:Nat} {e:TypeId} {size:Nat} {v:Value} {n:Nat} {xs:List Value} (h:w.ownsRow base e size v n xs):∃ a c,v=.slice a n c:=by
 obtain⟨hlen,⟨rfl,h0⟩|⟨g,cap,cur,rfl,_⟩⟩:=h
 ·exact⟨none,0,by rw [h0]⟩
 ·exact⟨_,cap,rfl⟩
def CollRet (w:World) (kvs:List ((Int × Int) × Value)) (e:Ending) (w':World):Prop :=
 ∃ a n c ps,e=.returned (.slice a n c)∧KeyAll kvs ps∧w'.ownsRow w.heap.size 94 2 (.slice a n c) ps.length (ps.flatMap fJ)∧ps.length=n∧Below w.heap.size w w'
theorem collectP_any (Bm r:Nat) (kvs:List ((Int × Int) × Value)) (w:World) (hBm:Bm<w.heap.size) (hm:w.cell? ⟨Bm,0,none⟩=some (.map (some r))) (hmap:A8 An r w kvs) (hk:(kvs.map (·.1)).Nodup) (hN:kvs.length≤1000000) :
  Calls prog 119 #[.func (.func 121) #[] #[.pointer (some ⟨Bm,0,none⟩)]] w (CollRet w kvs):=by
 have A:=hid (appendSeqP_any Bm r kvs w hBm hm hmap hk hN)
 go_enter func119,ntmps119
 go_wp2_with fail
 refine A.out.mono ?_
 rintro e w1 ⟨v,ps,rfl,h1,h2,h3⟩
 obtain⟨a,c,rfl⟩:=ownsRow_form h2
 have h1:=hid h1
 have h2:=hid h2
 obtain⟨n,hn⟩:∃ n,ps.length=n:=⟨_,rfl⟩
 rw [hn] at h2 ⊢
 clear A
 go_wp2
 go_ret
 exact⟨a,n,c,ps,rfl,h1.out,by rw [hn];exact h2.out,hn,h3⟩
end
section
open Go.Lib Go.Proofs.Tryz Go.RowKit Go.Shelf Go.Sort
def A9 (xs:List (CH.Version × bF)):List Value:=xs.flatMap fun x=>Ab x.1 x.2
theorem Ja (xs:List (CH.Version × bF)):(A9 xs).length=xs.length*8:=by
 induction xs with
 | nil=>rfl
 | cons x l ih =>
  unfold A9 at ih ⊢
  rw [List.flatMap_cons,List.length_append,ih,List.length_cons]
  show 8+_=_
  omega
theorem Cv {B:Nat} {w:World} {v:CH.Version} {s:bF} (h:aK B w v s):∀ u∈Ab v s,u.oneCell'=true:=by
 obtain⟨va,v1,v2⟩:=s
 obtain⟨_,_,e1,_,_⟩:=h.acts.form
 obtain⟨_,_,e2,_,_⟩:=h.sig.form
 obtain⟨_,_,e3,_,_⟩:=h.path.form
 change va=_ at e1
 change v1=_ at e2
 change v2=_ at e3
 intro u hu
 simp only [Ab,List.mem_cons,List.not_mem_nil,or_false] at hu
 rcases hu with rfl|rfl|rfl|rfl|rfl|rfl|rfl|rfl
 ·rfl
 ·rfl
 ·rfl
 ·rfl
 ·rw [e1];rfl
 ·rfl
 ·rw [e2];rfl
 ·rw [e3];rfl
def Bc (base B:Nat) (w:World) (v:Value) (ls:List CH.Version):Prop :=
 ∃ xs:List (CH.Version × bF),xs.map (·.1)=ls∧w.ownsRow base 30 8 v ls.length (A9 xs)∧(∀ x∈xs,aK B w x.1 x.2)∧B≤base∧base≤w.heap.size
theorem Bc.nil {base B:Nat} {w:World} (hB:B≤base) (hb:base≤w.heap.size):Bc base B w (.slice none 0 0) []:=⟨[],rfl,World.ownsRow_nil w base _ _,(fun _ h=>by cases h),hB,hb⟩
theorem Bc.below {base B:Nat} {w w':World} {v:Value} {ls:List CH.Version} (h:Bc base B w v ls) (hb:Below w.heap.size w w'):Bc base B w' v ls:=by
 obtain⟨xs,h1,h2,h3,h4,h5⟩:=h
 exact⟨xs,h1,Cp h2 hb,fun x hx=>(h3 x hx).below hb (nT h4 h5),h4,nT h5 hb.size⟩
theorem verInfo:(prog.info? 30).map (fun i=>(i.zero,i.size,i.bytes))=some (some (.agg #[.int .i64 0,.int .i64 0,.int .i64 0,.string ⟨#[]⟩,.slice none 0 0,.int .i64 0,.slice none 0 0,.slice none 0 0]),8,120):=by kernel_rfl
theorem _root_.Go.World.grownBy.cells {w w':World} {row:Option Nat} (h:w.grownBy w' row) {p:Addr} {v:Value} (hp:w.cell? p=some v) (hne:row≠some p.block):w'.cell? p=some v:=by
 rw [Ih (h.block _ (World.block_lt_of_cell? w p hp) hne.symm)]
 exact hp
theorem Ii {w:World} {ops:Array Oper} {rest:List Oper} {o:Oper} {a:Act} {Q:Exit→Act→World→Prop} (hgd:o.guard=none) (s x:Operand)
  (ho:o.op=.call { callee:=.builtin .append,args:=#[s,x],argTypes:=#[23,23] })
  (base:Nat) (v:Value) (n:Nat) (xs:List Value) (hs:a.eval s=v) (hown:w.ownsRow base 30 8 v n xs) (vx:Value) (m:Nat) (news:List Value) (hx:a.eval x=vx)
  (hX:Source w vx m news) (hl:news.length=m*8) (h1:∀ u∈news,u.oneCell'=true) (hlen:n+m≤1000000) (hbase:base≤w.heap.size)
  (h:∀ v' w',w'.ownsRow base 30 8 v' (n+m) (xs++news)→w.grownBy w' v.ownBlock→(v'.ownBlock=v.ownBlock∨v'.ownBlock=some w.heap.size)→wpList prog ops Q rest (a.put o.dst v') w') :
  wpList prog ops Q (o::rest) a w:=by
 obtain⟨i,hi,hz0,hz1,hz2⟩:=info_parts verInfo
 refine F7 w hgd s x 23 ho base 30 i _ 8 120 underlying23 hi hz0 hz1 hz2 rfl (by decide) v n _ hs hown vx m news hx hX hl h1 ?_ ?_ hbase h
 ·unfold maxLen;omega
 ·omega
end
end Go.Proofs.YtjaeapaeaiiieaaGreatDoor
namespace CH
def cmpI (a b:Int):Int:=if a<b then -1 else if b<a then 1 else 0
end CH
namespace Go.Proofs.YtjaeapaeaiiieaaGreatDoor
open Go.RowKit Go.Lib Go.Shelf Go.Sort
structure VP where
 v:CH.Version
 a1:Option Addr
 n1:Nat
 c1:Nat
 a2:Option Addr
 n2:Nat
 c2:Nat
 a3:Option Addr
 n3:Nat
 c3:Nat
def VP.s (x:VP):bF:=⟨.slice x.a1 x.n1 x.c1,.slice x.a2 x.n2 x.c2,.slice x.a3 x.n3 x.c3⟩
def gJ (x:VP):List Value:=Ab x.v x.s
instance : Inhabited VP := ⟨⟨default, none, 0, 0, none, 0, 0, none, 0, 0⟩⟩
def cmpV (x y:VP):Int:=CH.cmpI x.v.pos y.v.pos
theorem encV_one (x:VP):∀ u∈gJ x,u.oneCell'=true:=by
 intro u hu
 simp only [gJ,VP.s,Ab,List.mem_cons,List.not_mem_nil,or_false] at hu
 rcases hu with rfl|rfl|rfl|rfl|rfl|rfl|rfl|rfl <;> rfl
theorem Ld (a:Int) (w:World):Calls Tryz.prog 50 #[.int .i64 a] w (fun e w'=>e=.returned (.bool false)∧w=w'):=by
 have q:(a != a)=false:=by simp
 go_enter Tryz.func50,Tryz.ntmps50
 go_wp2
 go_ret
 exact⟨rfl,rfl⟩
theorem Ie (a b:Int) (w:World):Calls Tryz.prog 24 #[.int .i64 a,.int .i64 b] w (fun e w'=>e=.returned (.int .i64 (CH.cmpI a b))∧w=w'):=by
 obtain⟨r,hr⟩:∃ r,CH.cmpI a b=r:=⟨_,rfl⟩
 rw [hr]
 unfold CH.cmpI at hr
 rcases (by omega:a<b∨(¬ a<b∧b<a)∨(¬ a<b∧¬ b<a)) with h|⟨h,h'⟩|⟨h,h'⟩
 ·rw [if_pos h] at hr
  subst hr
  have q:decide (a<b)=true:=decide_eq_true h
  go_enter Tryz.func24,Tryz.ntmps24
  go_wp2_with (first|(refine (Ld _ _).mono ?_;rintro e w' ⟨rfl,rfl⟩)|fail)
  go_ret
  exact⟨rfl,rfl⟩
 ·rw [if_neg h,if_pos h'] at hr
  subst hr
  have q:decide (a<b)=false:=decide_eq_false h
  have q':decide (b<a)=true:=decide_eq_true h'
  go_enter Tryz.func24,Tryz.ntmps24
  go_wp2_with (first|(refine (Ld _ _).mono ?_;rintro e w' ⟨rfl,rfl⟩)|fail)
  go_ret
  exact⟨rfl,rfl⟩
 ·rw [if_neg h,if_neg h'] at hr
  subst hr
  have q:decide (a<b)=false:=decide_eq_false h
  have q':decide (b<a)=false:=decide_eq_false h'
  go_enter Tryz.func24,Tryz.ntmps24
  go_wp2_with (first|(refine (Ld _ _).mono ?_;rintro e w' ⟨rfl,rfl⟩)|fail)
  go_ret
  exact⟨rfl,rfl⟩
theorem alloc2_grow (w:World) (o1 o2:Obj):∃ q os',(w.alloc o1).alloc o2=grow (w.drewN q) os':=by
 refine⟨0,#[o1,o2],?_⟩
 simp only [World.alloc,grow]
 congr 1
theorem cmpV_any (x y:VP) (w:World):Calls Tryz.prog 23 #[.agg (gJ x).toArray,.agg (gJ y).toArray] w (fun e w'=>e=.returned (.int .i64 (cmpV x y))∧∃ q os',w'=grow (w.drewN q) os'):=by
 obtain⟨r,hr⟩:∃ r,CH.cmpI x.v.pos y.v.pos=r:=⟨_,rfl⟩
 have hC:=fun W=>Ie x.v.pos y.v.pos W
 have hcv:cmpV x y=r:=hr
 rw [hcv]
 rw [hr] at hC
 have hC:=hid hC
 clear hcv hr
 obtain⟨x,a1,n1,c1,a2,n2,c2,a3,n3,c3⟩:=x
 obtain⟨y,b1,m1,d1,b2,m2,d2,b3,m3,d3⟩:=y
 simp only [gJ,VP.s,Ab] at hC ⊢
 go_enter Tryz.func23,Tryz.ntmps23
 go_wp2_with fail
 refine (hC.out _).mono ?_
 rintro e w' ⟨rfl,rfl⟩
 go_wp2
 go_ret
 exact⟨rfl,alloc2_grow w _ _⟩
def ins_ren:Ren:=⟨fun|20=>96|n=>n,fun|22=>23|24=>30|25=>82|n=>n,fun n=>n⟩
theorem ins_lays:SlLaysF0.n20 Tryz.prog ins_ren:={
 mixed:=by kernel_rfl
 f20:=⟨Tryz.f96.name,by decide,Tryz.func96.trans (congrArg some (by kernel_rfl))⟩
 t0:=Tryz.underlying0
 a0:=Tryz.isAgg0
 z0:=Tryz.sizeOf0
 v0:=Tryz.zeroValue0
 t3:=Tryz.underlying3
 a3:=Tryz.isAgg3
 z3:=Tryz.sizeOf3
 v3:=Tryz.zeroValue3
 t4:=Tryz.underlying4
 a4:=Tryz.isAgg4
 z4:=Tryz.sizeOf4
 v4:=Tryz.zeroValue4
 t22:=Tryz.underlying23
 a22:=Tryz.isAgg23
 z22:=Tryz.sizeOf23
 v22:=Tryz.zeroValue23
 t25:=Tryz.underlying82
 a25:=Tryz.isAgg82
 z25:=Tryz.sizeOf82
 v25:=Tryz.zeroValue82 }
theorem insV_any (g cap:Nat) (d:Array VP) (w:World) (hH:HoldsK gJ 8 w g 0 d) (hblk:g<w.heap.size) (hn:d.size<20) :
  Calls Tryz.prog 96 #[.slice (some ⟨g,0,none⟩) d.size cap,.int .i64 0,.int .i64 (d.size:Nat),.func (.func 23) #[] #[]] w fun e w' =>
   e=.returned (.tuple #[])∧∃ n os,w'=sortWorldK gJ 8 w g 0 n (Sort.insertionSort (ltOf cmpV) d 0 d.size) os :=
 AnyQ.insertionSortCmpFunc (α:=VP) ins_lays 8 Tryz.isAgg30 Tryz.sizeOf30 gJ (fun _=>rfl) encV_one cmpV 23 #[] g 0 cap 0 d.size d w (fun args W=>by kernel_rfl) (fun m os dk _ x y=>cmpV_any x y _) hH hblk (Nat.zero_le _) (Nat.le_refl _) (by omega)
end Go.Proofs.YtjaeapaeaiiieaaGreatDoor
