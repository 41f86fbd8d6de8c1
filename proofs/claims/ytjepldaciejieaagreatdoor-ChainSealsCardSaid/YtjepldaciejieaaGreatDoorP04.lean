/-
  ChainSeals: the proof, part 5 of 15.
-/
import Derived.Test.YtjepldaciejieaaGreatDoorP03
import Derived.Shelf.SlGeneric
import Derived.Shelf.SlIter.Nil
import Derived.Shelf.SortM.Plain
import Derived.Shelf.SortM.SortNone
import Derived.Ground.GgzProg
import Derived.Ground.SlgmProg
import Derived.Test.YtjepldaciejieaaGreatDoorProg
import Derived.Maps.OwnSet
import Derived.Deep.RegionHeld3
set_option linter.unusedSimpArgs false
set_option linter.unusedVariables false
set_option maxHeartbeats 40000000
set_option maxRecDepth 100000
namespace Go.Proofs.YtjepldaciejieaaGreatDoor
section
open Go.Lib Go.Proofs.Tryz Go.RowKit Go.Shelf
attribute [local go_sem] Oper.semAt_some
theorem lettersFn_any (k:Int) (s:List UInt8) (w:World) :
  Calls prog 215 #[.int .i64 k,.string ⟨s.toArray⟩] w (fun e w'=>e=.returned (.func (.func 235) #[] #[.pointer (some ⟨w.heap.size,0,none⟩),.pointer (some ⟨w.heap.size+1,0,none⟩)])∧w'=(w.alloc (.cells #[.int .i64 k] 3)).alloc (.cells #[.string ⟨s.toArray⟩] 9)):=by
 go_enter func215,ntmps215
 go_wp2
 go_ret
 exact⟨rfl,rfl⟩
structure LetI (w:World) (k:Int) (s:List UInt8) (pre:List (List UInt8)) (W:World):Prop where
 le:w.heap.size+4≤W.heap.size
 out:∃ v,W.heap[w.heap.size]?=some (.cells #[v] 25 (0,0))∧Ag (w.heap.size+4) W v pre
 rest:W.heap[w.heap.size+1]?=some (.cells #[.string ⟨((CH.letters k pre.length s).2).toArray⟩] 9 (0,0))
 below:Below w.heap.size w W
def SomeLet (w:World) (r:Int) (e:Ending) (w':World):Prop:=∃ v,e=.returned (.tuple #[v,.int .i64 r])∧Below w.heap.size w w'
theorem LetI.own (w:World) (k:Int) (s:List UInt8) (B:Nat) (hB:w.heap.size+4≤B):OwnFrom B (fun pre W=>LetI w k s pre W):=by
 intro pre W W' row h hg hr
 obtain⟨hle,⟨v,hv,hO⟩,hrest,hb⟩:=h
 have hne:∀ j,j<w.heap.size+4→some j≠row:=fun j hj e=>by
  have:=(hr j e.symm).1
  omega
 refine⟨nT hle hg.size,⟨v,(hg.block _ (by omega) (hne _ (by omega))).trans hv,?_⟩,(hg.block _ (by omega) (hne _ (by omega))).trans hrest,?_⟩
 ·exact Dc hO hg (fun r e=>(hr r e).2)
 ·exact hb.grown hg hb.size (fun j e=>by have:=(hr j e).1;omega)
theorem LetI.set (w:World) (k:Int) (s:List UInt8) (pre:List (List UInt8)) (W:World) (u:Value) (h:LetI w k s pre W):LetI w k s pre (W.setCell ⟨w.heap.size+3,0,none⟩ u):=by
 obtain⟨hle,⟨v,hv,hO⟩,hrest,hb⟩:=h
 refine⟨by simp [World.setCell];exact hle,⟨v,(At _ _ _ _ (by show w.heap.size≠w.heap.size+3;omega)).trans hv,hO.setFar (by omega) _ _⟩,(At _ _ _ _ (by show w.heap.size+1≠w.heap.size+3;omega)).trans hrest,hb.setCell (by show w.heap.size≤w.heap.size+3;omega) _⟩
theorem four_boxes (w:World) (o1 o2 o3 o4:Obj) :
  ((((w.alloc o1).alloc o2).alloc o3).alloc o4).heap[w.heap.size]?=some o1∧((((w.alloc o1).alloc o2).alloc o3).alloc o4).heap[w.heap.size+1]?=some o2 ∧
  ((((w.alloc o1).alloc o2).alloc o3).alloc o4).heap[w.heap.size+2]?=some o3∧((((w.alloc o1).alloc o2).alloc o3).alloc o4).heap[w.heap.size+3]?=some o4:=by
 have e:((((w.alloc o1).alloc o2).alloc o3).alloc o4).heap=(((w.heap.push o1).push o2).push o3).push o4:=by simp only [World.alloc]
 rw [e]
 simp only [Array.getElem?_push,Array.size_push]
 refine⟨?_,?_,?_,?_⟩
 ·rw [if_neg (by omega),if_neg (by omega),if_neg (by omega),if_pos trivial]
 ·rw [if_neg (by omega),if_neg (by omega),if_pos trivial]
 ·rw [if_neg (by omega),if_pos trivial]
 ·rw [if_pos trivial]
theorem letters_any (k:Int) (s:List UInt8) (w:World) (hG:Gc w) (hs:s.length≤1000000) :
  Calls prog 177 #[.int .i64 k,.string ⟨s.toArray⟩] w (SomeLet w (if CH.wordOk k s then 0 else 1)):=by
 obtain⟨r,hr⟩:∃ r:Int,Hid ((if CH.wordOk k s then (0:Int) else 1)=r):=⟨_,hid rfl⟩
 rw [hr.out]
 refine (callsIn_wide (n:=4)).1 ?_
 refine callsIn_of_wp_marks func177 rfl trivial ?_ rfl
 simp only [ntmps177,List.size_toArray,List.length_cons,List.length_nil,Nat.reduceAdd,Nat.reduceSub,Array.replicate_succ,Array.replicate_zero,List.push_toArray,List.append_toArray,List.nil_append,List.cons_append]
 refine wpIn_wide.2 ?_
 go_wp2_with fail
 refine (lettersFn_any k s _).mono ?_
 rintro e w1 ⟨rfl,hw1⟩
 simp only [World.size_alloc] at hw1 ⊢
 have hB1:Below w.heap.size w w1:=by
  rw [hw1]
  exact ((((Below.refl _ w).alloc nR _).alloc (by simp) _).alloc (by simp;omega) _).alloc (by simp;omega) _
 have hsz:w1.heap.size=w.heap.size+4:=by rw [hw1];simp
 have e0:w1.heap[w.heap.size]?=some (.cells #[.slice none 0 0] 25 (0,0)):=by rw [hw1];exact (four_boxes w _ _ _ _).1
 have e1:w1.heap[w.heap.size+1]?=some (.cells #[.string ⟨s.toArray⟩] 9 (0,0)):=by rw [hw1];exact (four_boxes w _ _ _ _).2.1
 have e2:w1.heap[w.heap.size+2]?=some (.cells #[.int .i64 k] 3 (0,0)):=by rw [hw1];exact (four_boxes w _ _ _ _).2.2.1
 have e3:w1.heap[w.heap.size+3]?=some (.cells #[.string ⟨s.toArray⟩] 9 (0,0)):=by rw [hw1];exact (four_boxes w _ _ _ _).2.2.2
 clear hw1
 go_wp2_with fail
 refine (wpIn_wide (n:=4)).1 ?_
 refine rangeFunc_p (n:=4) (w.heap.size+3) (by omega) rfl (by decide) (gf:=235) (lb:=#[.pointer (some ⟨w.heap.size+2,0,none⟩),.pointer (some ⟨w.heap.size+3,0,none⟩)]) rfl trivial (enters_of func235 (by kernel_rfl) rfl)
  (letters_seq k s hs 3 (by decide) w.heap.size (w.heap.size+3) (w.heap.size+2) w w1 hG rfl hB1 (by omega) (by omega) (by omega) e3 e2)
  (fun h1 h2=>⟨h1.1.trans h2.1,h2.2.1.trans h1.2.1,h2.2.2.trans h1.2.2⟩)
  (fun W l o o' hl ho _ _=>⟨(Below.refl _ W).grown (grownBy_putObj' W l o') (by have:=(aZ ho);omega) (fun j e=>by cases e;omega),World.putObj_heap_other (by omega),World.putObj_heap_other (by omega)⟩)
  (Below.refl _ _) (fun _=>rfl)
  (fun pre W=>LetI w k s pre W∧pre.length≤12) (fun c pre W=>c=.exit 0∧pre.length=13∧(CH.letters k 13 s).1=pre∧LetI w k s pre W)
  (fun pre A B row h hg hr=>⟨LetI.own w k s _ (by omega) pre A B row h.1 hg hr,h.2⟩) (fun c pre A B row h hg hr=>⟨h.1,h.2.1,h.2.2.1,LetI.own w k s _ (by omega) pre A B row h.2.2.2 hg hr⟩)
  (fun pre A v h=>⟨LetI.set w k s pre A v h.1,h.2⟩) ⟨⟨by omega,⟨_,e0,Ag.nil _ _⟩,e1,hB1⟩,by simp⟩
  (fun x=>{ tmps:=#[.int .i64 k,.string ⟨s.toArray⟩,undef,undef,.slice none 0 0,.int .i64 0,.pointer (some ⟨w.heap.size,0,none⟩),.pointer (some ⟨w.heap.size+1,0,none⟩),.string ⟨x.toArray⟩,.string ⟨s.toArray⟩,.int .i64 k,.string ⟨s.toArray⟩,.func (.func 235) #[] #[.pointer (some ⟨w.heap.size+2,0,none⟩),.pointer (some ⟨w.heap.size+3,0,none⟩)],.string ⟨x.toArray⟩,undef,undef,undef,undef,undef,undef,undef,undef,undef,undef,undef,undef,undef,undef,undef,undef,undef,undef,undef,undef,undef,undef,undef,undef],defers:=[] }) ?assign ?body ?done ?stop
 case assign =>
  intro l x W K hK
  gi_wp2
  exact hK
 case body =>
  rintro l pre x W ⟨hLI,hlen⟩ ⟨hN1,hN2,hN3⟩
  obtain⟨hle,⟨v,hv,hO⟩,hrest,hb⟩:=hLI
  have hsl:=CH.slen_le k (CH.letters k pre.length s).2
  have hsu:=CH.letters_succ k pre.length s (by rw [hN1]) hN2
  rw [hN1] at hsu
  generalize hj:CH.slen k (CH.letters k pre.length s).2=j at *
  have hrl:=CH.letters_rest k pre.length s
  generalize hR:(CH.letters k pre.length s).2=R at *
  have hxl:x.length=j:=by rw [hN3,List.length_take];omega
  have hrest':(CH.letters k (pre.length+1) s).2=R.drop j:=by rw [hsu]
  have hpre':(CH.letters k (pre.length+1) s).1=pre++[x]:=by rw [hsu,hN3]
  have HS:=hid (And.intro hrest' hpre')
  have hxR:x.length≤R.length:=by omega
  obtain⟨av,cv,rfl,hf1,hf2,_⟩:=hO.form
  clear hj
  subst hxl
  have hex:(ByteArray.mk R.toArray).extract x.length R.length=⟨(R.drop x.length).toArray⟩:=extract_drop R x.length
  have hR10:R.length≤1000000:=by omega
  generalize hPL:pre.length=pl at *
  have ha:∀ W',Below (w.heap.size+4) W W'→W'.cell? ⟨w.heap.size,0,none⟩=some (.slice av pl cv)∧W'.cell? ⟨w.heap.size+1,0,none⟩=some (.string ⟨R.toArray⟩)∧W'.frozen? ⟨w.heap.size,0,none⟩=false∧W'.frozen? ⟨w.heap.size+1,0,none⟩=false:=fun W' hb' =>
   ⟨(hb'.cell (p:=⟨w.heap.size,0,none⟩) (by simp)).trans (cell_of hv 0),(hb'.cell (p:=⟨w.heap.size+1,0,none⟩) (by simp)).trans (cell_of hrest 0),(hb'.frozen (p:=⟨w.heap.size,0,none⟩) (by simp)).trans (Aj hv 0),(hb'.frozen (p:=⟨w.heap.size+1,0,none⟩) (by simp)).trans (Aj hrest 0)⟩
  have hBd:Below (w.heap.size+4) W W.drew:=(Below.refl _ W).drew
  have hBa:∀ o,Below (w.heap.size+4) W (W.drew.alloc o):=fun o=>hBd.alloc hle o
  obtain⟨d0,d1,d2,d3⟩:=ha _ hBd
  have q0:=fun o=>(ha _ (hBa o)).1
  have q1:=fun o=>(ha _ (hBa o)).2.1
  have q0':∀ o,(W.alloc o).cell? ⟨w.heap.size,0,none⟩=some (.slice av pl cv):=q0
  have q1':∀ o,(W.alloc o).cell? ⟨w.heap.size+1,0,none⟩=some (.string ⟨R.toArray⟩):=q1
  have hO2:∀ o,Ag (w.heap.size+4) (W.drew.alloc o) (.slice av pl cv) pre:=fun o=>(hO.below (Below.refl _ W).drew).alloc o
  have hblk:=hO.ownBlock
  have n0:=World.new_ne W.drew ⟨w.heap.size,0,none⟩ d0
  have n1:=World.new_ne W.drew ⟨w.heap.size+1,0,none⟩ d1
  have HA:=hid ha
  clear ha hN1 hN2 hN3 hsu hrest' hpre' hsl
  gi_wp2_with fail
  refine Dv (fun _=>True) _ _ (by kernel_rfl) (by kernel_rfl) ?_ trivial (fun hHeld=>?_)
  ·rintro⟨a,w,h⟩;exact h
  refine tk 1 (v:=?_) rfl (by rfl) hHeld ?_ ?_
  rotate_left
  ·(intro w hSw;(try dsimp only at hSw);go_simp;try with_reducible rfl)
  (try simp only [Act.put,pA,pB,pC])
  refine tk 5 (v:=?_) rfl (by rfl) hHeld ?_ ?_
  rotate_left
  ·(intro w hSw;(try dsimp only at hSw);go_simp;try with_reducible rfl)
  (try simp only [Act.put,pA,pB,pC])
  refine tk 6 (v:=?_) rfl (by rfl) hHeld ?_ ?_
  rotate_left
  ·(intro w hSw;(try dsimp only at hSw);go_simp;try with_reducible rfl)
  (try simp only [Act.put,pA,pB,pC])
  refine wpAnyH_ready (rs:=[0,2,4]) (by kernel_rfl) (by simp) ?_
  refine AllReadyH.cons (o:=_) rfl (fun K hK=>?_) ?_
  focus
   go_simp
   refine hK.out _ _ (trivial) (fun hHeld=>?_)
   clear hK K
   (try simp only [Act.put,pA,pB,pC])
   refine wpAnyH_ready (rs:=[2,4]) (by kernel_rfl) (by simp) ?_
   refine AllReadyH.cons (o:=_) rfl (fun K hK=>?_) ?_
   focus
    go_simp
    refine hK.out _ _ (trivial) (fun hHeld=>?_)
    clear hK K
    (try simp only [Act.put,pA,pB,pC])
    refine wpAnyH_ready (rs:=[3,4]) (by kernel_rfl) (by simp) ?_
    refine AllReadyH.cons (o:=_) rfl (fun K hK=>?_) ?_
    focus
     rw [if_pos (by rfl)]
     refine A5 _ _ rfl (w.heap.size+4) _ pre rfl (hO2 _) W.heap.size _ x rfl (World.cell?_alloc_mark _ _ _ _ _) (by omega) (by simp;omega) ?_
     intro v5 w5 hO5 hg5
     obtain⟨a5,c5,rfl,hf5a,hf5b,hf5c⟩:=hO5.form
     have hB5:Below (w.heap.size+4) W w5:=(hBa _).grown hg5 (by simp;omega) (fun k e=>(hblk k e).1)
     have h5:=HA.out w5 hB5
     obtain⟨h50,h51,h52,h53⟩:=h5
     have h54:∀ u,(w5.setCell ⟨w.heap.size,0,none⟩ u).cell? ⟨w.heap.size+1,0,none⟩=some (.string ⟨R.toArray⟩):=fun u=>(World.cell?_setCell_far _ ⟨w.heap.size,0,none⟩ ⟨w.heap.size+1,0,none⟩ _ (fun e=>by dsimp only at e;omega)).trans h51
     refine hK.out _ _ (trivial) (fun hHeld=>?_)
     clear hK K
     (try simp only [Act.put,pA,pB,pC])
     refine wpAnyH_ready (rs:=[4,8]) (by kernel_rfl) (by simp) ?_
     refine AllReadyH.cons (o:=_) rfl (fun K hK=>?_) ?_
     focus
      go_simp
      refine hK.out _ _ (trivial) (fun hHeld=>?_)
      clear hK K
      (try simp only [Act.put,pA,pB,pC])
      refine tk 7 (v:=?_) rfl (by rfl) hHeld ?_ ?_
      rotate_left
      ·(intro w hSw;(try dsimp only at hSw);go_simp;try with_reducible rfl)
      (try simp only [Act.put,pA,pB,pC])
      refine rk 8 rfl (fun K hK=>?_)
      go_simp
      refine hK.out _ _ (trivial) (fun hHeld=>?_)
      clear hK K
      (try simp only [Act.put,pA,pB,pC])
      refine rk 9 rfl (fun K hK=>?_)
      go_simp
      refine hK.out _ _ (trivial) (fun hHeld=>?_)
      clear hK K
      (try simp only [Act.put,pA,pB,pC])
      refine wpAnyH_done (by kernel_rfl) ?_ _
     rotate_left 1
     refine AllReadyH.cons (o:=_) rfl (fun K hK=>?_) AllReadyH.nil
     focus
      go_simp
      refine hK.out _ _ (trivial) (fun hHeld=>?_)
      clear hK K
      (try simp only [Act.put,pA,pB,pC])
      refine rk 4 rfl (fun K hK=>?_)
      go_simp
      refine hK.out _ _ (trivial) (fun hHeld=>?_)
      clear hK K
      (try simp only [Act.put,pA,pB,pC])
      refine tk 7 (v:=?_) rfl (by rfl) hHeld ?_ ?_
      rotate_left
      ·(intro w hSw;(try dsimp only at hSw);go_simp;try with_reducible rfl)
      (try simp only [Act.put,pA,pB,pC])
      refine rk 9 rfl (fun K hK=>?_)
      go_simp
      refine hK.out _ _ (trivial) (fun hHeld=>?_)
      clear hK K
      (try simp only [Act.put,pA,pB,pC])
      refine wpAnyH_done (by kernel_rfl) ?_ _
    rotate_left 2
    refine AllReadyH.cons (o:=_) rfl (fun K hK=>?_) AllReadyH.nil
    focus
     go_simp
     refine hK.out _ _ (trivial) (fun hHeld=>?_)
     clear hK K
     (try simp only [Act.put,pA,pB,pC])
     refine tk 7 (v:=?_) rfl (by rfl) hHeld ?_ ?_
     rotate_left
     ·(intro w hSw;(try dsimp only at hSw);go_simp;try with_reducible rfl)
     (try simp only [Act.put,pA,pB,pC])
     refine rk 3 rfl (fun K hK=>?_)
     rw [if_pos (by rfl)]
     refine A5 _ _ rfl (w.heap.size+4) _ pre rfl (hO2 _) W.heap.size _ x rfl (World.cell?_alloc_mark _ _ _ _ _) (by omega) (by simp;omega) ?_
     intro v5 w5 hO5 hg5
     obtain⟨a5,c5,rfl,hf5a,hf5b,hf5c⟩:=hO5.form
     have hB5:Below (w.heap.size+4) W w5:=(hBa _).grown hg5 (by simp;omega) (fun k e=>(hblk k e).1)
     have h5:=HA.out w5 hB5
     obtain⟨h50,h51,h52,h53⟩:=h5
     have h54:∀ u,(w5.setCell ⟨w.heap.size,0,none⟩ u).cell? ⟨w.heap.size+1,0,none⟩=some (.string ⟨R.toArray⟩):=fun u=>(World.cell?_setCell_far _ ⟨w.heap.size,0,none⟩ ⟨w.heap.size+1,0,none⟩ _ (fun e=>by dsimp only at e;omega)).trans h51
     refine hK.out _ _ (trivial) (fun hHeld=>?_)
     clear hK K
     (try simp only [Act.put,pA,pB,pC])
     refine rk 8 rfl (fun K hK=>?_)
     go_simp
     refine hK.out _ _ (trivial) (fun hHeld=>?_)
     clear hK K
     (try simp only [Act.put,pA,pB,pC])
     refine rk 9 rfl (fun K hK=>?_)
     go_simp
     refine hK.out _ _ (trivial) (fun hHeld=>?_)
     clear hK K
     (try simp only [Act.put,pA,pB,pC])
     refine wpAnyH_done (by kernel_rfl) ?_ _
   rotate_left 3
   refine AllReadyH.cons (o:=_) rfl (fun K hK=>?_) AllReadyH.nil
   focus
    go_simp
    refine hK.out _ _ (trivial) (fun hHeld=>?_)
    clear hK K
    (try simp only [Act.put,pA,pB,pC])
    refine tk 7 (v:=?_) rfl (by rfl) hHeld ?_ ?_
    rotate_left
    ·(intro w hSw;(try dsimp only at hSw);go_simp;try with_reducible rfl)
    (try simp only [Act.put,pA,pB,pC])
    refine rk 2 rfl (fun K hK=>?_)
    go_simp
    refine hK.out _ _ (trivial) (fun hHeld=>?_)
    clear hK K
    (try simp only [Act.put,pA,pB,pC])
    refine rk 3 rfl (fun K hK=>?_)
    rw [if_pos (by rfl)]
    refine A5 _ _ rfl (w.heap.size+4) _ pre rfl (hO2 _) W.heap.size _ x rfl (World.cell?_alloc_mark _ _ _ _ _) (by omega) (by simp;omega) ?_
    intro v5 w5 hO5 hg5
    obtain⟨a5,c5,rfl,hf5a,hf5b,hf5c⟩:=hO5.form
    have hB5:Below (w.heap.size+4) W w5:=(hBa _).grown hg5 (by simp;omega) (fun k e=>(hblk k e).1)
    have h5:=HA.out w5 hB5
    obtain⟨h50,h51,h52,h53⟩:=h5
    have h54:∀ u,(w5.setCell ⟨w.heap.size,0,none⟩ u).cell? ⟨w.heap.size+1,0,none⟩=some (.string ⟨R.toArray⟩):=fun u=>(World.cell?_setCell_far _ ⟨w.heap.size,0,none⟩ ⟨w.heap.size+1,0,none⟩ _ (fun e=>by dsimp only at e;omega)).trans h51
    refine hK.out _ _ (trivial) (fun hHeld=>?_)
    clear hK K
    (try simp only [Act.put,pA,pB,pC])
    refine rk 8 rfl (fun K hK=>?_)
    go_simp
    refine hK.out _ _ (trivial) (fun hHeld=>?_)
    clear hK K
    (try simp only [Act.put,pA,pB,pC])
    refine rk 9 rfl (fun K hK=>?_)
    go_simp
    refine hK.out _ _ (trivial) (fun hHeld=>?_)
    clear hK K
    (try simp only [Act.put,pA,pB,pC])
    refine wpAnyH_done (by kernel_rfl) ?_ _
  rotate_left 4
  refine AllReadyH.cons (o:=_) rfl (fun K hK=>?_) ?_
  focus
   go_simp
   refine hK.out _ _ (trivial) (fun hHeld=>?_)
   clear hK K
   (try simp only [Act.put,pA,pB,pC])
   refine wpAnyH_ready (rs:=[0,4]) (by kernel_rfl) (by simp) ?_
   refine AllReadyH.cons (o:=_) rfl (fun K hK=>?_) ?_
   focus
    go_simp
    refine hK.out _ _ (trivial) (fun hHeld=>?_)
    clear hK K
    (try simp only [Act.put,pA,pB,pC])
    refine wpAnyH_ready (rs:=[3,4]) (by kernel_rfl) (by simp) ?_
    refine AllReadyH.cons (o:=_) rfl (fun K hK=>?_) ?_
    focus
     rw [if_pos (by rfl)]
     refine A5 _ _ rfl (w.heap.size+4) _ pre rfl (hO2 _) W.heap.size _ x rfl (World.cell?_alloc_mark _ _ _ _ _) (by omega) (by simp;omega) ?_
     intro v5 w5 hO5 hg5
     obtain⟨a5,c5,rfl,hf5a,hf5b,hf5c⟩:=hO5.form
     have hB5:Below (w.heap.size+4) W w5:=(hBa _).grown hg5 (by simp;omega) (fun k e=>(hblk k e).1)
     have h5:=HA.out w5 hB5
     obtain⟨h50,h51,h52,h53⟩:=h5
     have h54:∀ u,(w5.setCell ⟨w.heap.size,0,none⟩ u).cell? ⟨w.heap.size+1,0,none⟩=some (.string ⟨R.toArray⟩):=fun u=>(World.cell?_setCell_far _ ⟨w.heap.size,0,none⟩ ⟨w.heap.size+1,0,none⟩ _ (fun e=>by dsimp only at e;omega)).trans h51
     refine hK.out _ _ (trivial) (fun hHeld=>?_)
     clear hK K
     (try simp only [Act.put,pA,pB,pC])
     refine wpAnyH_ready (rs:=[4,8]) (by kernel_rfl) (by simp) ?_
     refine AllReadyH.cons (o:=_) rfl (fun K hK=>?_) ?_
     focus
      go_simp
      refine hK.out _ _ (trivial) (fun hHeld=>?_)
      clear hK K
      (try simp only [Act.put,pA,pB,pC])
      refine tk 7 (v:=?_) rfl (by rfl) hHeld ?_ ?_
      rotate_left
      ·(intro w hSw;(try dsimp only at hSw);go_simp;try with_reducible rfl)
      (try simp only [Act.put,pA,pB,pC])
      refine rk 8 rfl (fun K hK=>?_)
      go_simp
      refine hK.out _ _ (trivial) (fun hHeld=>?_)
      clear hK K
      (try simp only [Act.put,pA,pB,pC])
      refine rk 9 rfl (fun K hK=>?_)
      go_simp
      refine hK.out _ _ (trivial) (fun hHeld=>?_)
      clear hK K
      (try simp only [Act.put,pA,pB,pC])
      refine wpAnyH_done (by kernel_rfl) ?_ _
     rotate_left 1
     refine AllReadyH.cons (o:=_) rfl (fun K hK=>?_) AllReadyH.nil
     focus
      go_simp
      refine hK.out _ _ (trivial) (fun hHeld=>?_)
      clear hK K
      (try simp only [Act.put,pA,pB,pC])
      refine rk 4 rfl (fun K hK=>?_)
      go_simp
      refine hK.out _ _ (trivial) (fun hHeld=>?_)
      clear hK K
      (try simp only [Act.put,pA,pB,pC])
      refine tk 7 (v:=?_) rfl (by rfl) hHeld ?_ ?_
      rotate_left
      ·(intro w hSw;(try dsimp only at hSw);go_simp;try with_reducible rfl)
      (try simp only [Act.put,pA,pB,pC])
      refine rk 9 rfl (fun K hK=>?_)
      go_simp
      refine hK.out _ _ (trivial) (fun hHeld=>?_)
      clear hK K
      (try simp only [Act.put,pA,pB,pC])
      refine wpAnyH_done (by kernel_rfl) ?_ _
    rotate_left 2
    refine AllReadyH.cons (o:=_) rfl (fun K hK=>?_) AllReadyH.nil
    focus
     go_simp
     refine hK.out _ _ (trivial) (fun hHeld=>?_)
     clear hK K
     (try simp only [Act.put,pA,pB,pC])
     refine tk 7 (v:=?_) rfl (by rfl) hHeld ?_ ?_
     rotate_left
     ·(intro w hSw;(try dsimp only at hSw);go_simp;try with_reducible rfl)
     (try simp only [Act.put,pA,pB,pC])
     refine rk 3 rfl (fun K hK=>?_)
     rw [if_pos (by rfl)]
     refine A5 _ _ rfl (w.heap.size+4) _ pre rfl (hO2 _) W.heap.size _ x rfl (World.cell?_alloc_mark _ _ _ _ _) (by omega) (by simp;omega) ?_
     intro v5 w5 hO5 hg5
     obtain⟨a5,c5,rfl,hf5a,hf5b,hf5c⟩:=hO5.form
     have hB5:Below (w.heap.size+4) W w5:=(hBa _).grown hg5 (by simp;omega) (fun k e=>(hblk k e).1)
     have h5:=HA.out w5 hB5
     obtain⟨h50,h51,h52,h53⟩:=h5
     have h54:∀ u,(w5.setCell ⟨w.heap.size,0,none⟩ u).cell? ⟨w.heap.size+1,0,none⟩=some (.string ⟨R.toArray⟩):=fun u=>(World.cell?_setCell_far _ ⟨w.heap.size,0,none⟩ ⟨w.heap.size+1,0,none⟩ _ (fun e=>by dsimp only at e;omega)).trans h51
     refine hK.out _ _ (trivial) (fun hHeld=>?_)
     clear hK K
     (try simp only [Act.put,pA,pB,pC])
     refine rk 8 rfl (fun K hK=>?_)
     go_simp
     refine hK.out _ _ (trivial) (fun hHeld=>?_)
     clear hK K
     (try simp only [Act.put,pA,pB,pC])
     refine rk 9 rfl (fun K hK=>?_)
     go_simp
     refine hK.out _ _ (trivial) (fun hHeld=>?_)
     clear hK K
     (try simp only [Act.put,pA,pB,pC])
     refine wpAnyH_done (by kernel_rfl) ?_ _
   rotate_left 3
   refine AllReadyH.cons (o:=_) rfl (fun K hK=>?_) AllReadyH.nil
   focus
    go_simp
    refine hK.out _ _ (trivial) (fun hHeld=>?_)
    clear hK K
    (try simp only [Act.put,pA,pB,pC])
    refine tk 7 (v:=?_) rfl (by rfl) hHeld ?_ ?_
    rotate_left
    ·(intro w hSw;(try dsimp only at hSw);go_simp;try with_reducible rfl)
    (try simp only [Act.put,pA,pB,pC])
    refine rk 0 rfl (fun K hK=>?_)
    go_simp
    refine hK.out _ _ (trivial) (fun hHeld=>?_)
    clear hK K
    (try simp only [Act.put,pA,pB,pC])
    refine rk 3 rfl (fun K hK=>?_)
    rw [if_pos (by rfl)]
    refine A5 _ _ rfl (w.heap.size+4) _ pre rfl (hO2 _) W.heap.size _ x rfl (World.cell?_alloc_mark _ _ _ _ _) (by omega) (by simp;omega) ?_
    intro v5 w5 hO5 hg5
    obtain⟨a5,c5,rfl,hf5a,hf5b,hf5c⟩:=hO5.form
    have hB5:Below (w.heap.size+4) W w5:=(hBa _).grown hg5 (by simp;omega) (fun k e=>(hblk k e).1)
    have h5:=HA.out w5 hB5
    obtain⟨h50,h51,h52,h53⟩:=h5
    have h54:∀ u,(w5.setCell ⟨w.heap.size,0,none⟩ u).cell? ⟨w.heap.size+1,0,none⟩=some (.string ⟨R.toArray⟩):=fun u=>(World.cell?_setCell_far _ ⟨w.heap.size,0,none⟩ ⟨w.heap.size+1,0,none⟩ _ (fun e=>by dsimp only at e;omega)).trans h51
    refine hK.out _ _ (trivial) (fun hHeld=>?_)
    clear hK K
    (try simp only [Act.put,pA,pB,pC])
    refine rk 8 rfl (fun K hK=>?_)
    go_simp
    refine hK.out _ _ (trivial) (fun hHeld=>?_)
    clear hK K
    (try simp only [Act.put,pA,pB,pC])
    refine rk 9 rfl (fun K hK=>?_)
    go_simp
    refine hK.out _ _ (trivial) (fun hHeld=>?_)
    clear hK K
    (try simp only [Act.put,pA,pB,pC])
    refine wpAnyH_done (by kernel_rfl) ?_ _
  rotate_left 4
  refine AllReadyH.cons (o:=_) rfl (fun K hK=>?_) AllReadyH.nil
  focus
   go_simp
   refine hK.out _ _ (trivial) (fun hHeld=>?_)
   clear hK K
   (try simp only [Act.put,pA,pB,pC])
   refine tk 7 (v:=?_) rfl (by rfl) hHeld ?_ ?_
   rotate_left
   ·(intro w hSw;(try dsimp only at hSw);go_simp;try with_reducible rfl)
   (try simp only [Act.put,pA,pB,pC])
   refine wpAnyH_ready (rs:=[0,2]) (by kernel_rfl) (by simp) ?_
   refine AllReadyH.cons (o:=_) rfl (fun K hK=>?_) ?_
   focus
    go_simp
    refine hK.out _ _ (trivial) (fun hHeld=>?_)
    clear hK K
    (try simp only [Act.put,pA,pB,pC])
    refine rk 2 rfl (fun K hK=>?_)
    go_simp
    refine hK.out _ _ (trivial) (fun hHeld=>?_)
    clear hK K
    (try simp only [Act.put,pA,pB,pC])
    refine rk 3 rfl (fun K hK=>?_)
    rw [if_pos (by rfl)]
    refine A5 _ _ rfl (w.heap.size+4) _ pre rfl (hO2 _) W.heap.size _ x rfl (World.cell?_alloc_mark _ _ _ _ _) (by omega) (by simp;omega) ?_
    intro v5 w5 hO5 hg5
    obtain⟨a5,c5,rfl,hf5a,hf5b,hf5c⟩:=hO5.form
    have hB5:Below (w.heap.size+4) W w5:=(hBa _).grown hg5 (by simp;omega) (fun k e=>(hblk k e).1)
    have h5:=HA.out w5 hB5
    obtain⟨h50,h51,h52,h53⟩:=h5
    have h54:∀ u,(w5.setCell ⟨w.heap.size,0,none⟩ u).cell? ⟨w.heap.size+1,0,none⟩=some (.string ⟨R.toArray⟩):=fun u=>(World.cell?_setCell_far _ ⟨w.heap.size,0,none⟩ ⟨w.heap.size+1,0,none⟩ _ (fun e=>by dsimp only at e;omega)).trans h51
    refine hK.out _ _ (trivial) (fun hHeld=>?_)
    clear hK K
    (try simp only [Act.put,pA,pB,pC])
    refine rk 8 rfl (fun K hK=>?_)
    go_simp
    refine hK.out _ _ (trivial) (fun hHeld=>?_)
    clear hK K
    (try simp only [Act.put,pA,pB,pC])
    refine rk 9 rfl (fun K hK=>?_)
    go_simp
    refine hK.out _ _ (trivial) (fun hHeld=>?_)
    clear hK K
    (try simp only [Act.put,pA,pB,pC])
    refine wpAnyH_done (by kernel_rfl) ?_ _
   rotate_left 1
   refine AllReadyH.cons (o:=_) rfl (fun K hK=>?_) AllReadyH.nil
   focus
    go_simp
    refine hK.out _ _ (trivial) (fun hHeld=>?_)
    clear hK K
    (try simp only [Act.put,pA,pB,pC])
    refine rk 0 rfl (fun K hK=>?_)
    go_simp
    refine hK.out _ _ (trivial) (fun hHeld=>?_)
    clear hK K
    (try simp only [Act.put,pA,pB,pC])
    refine rk 3 rfl (fun K hK=>?_)
    rw [if_pos (by rfl)]
    refine A5 _ _ rfl (w.heap.size+4) _ pre rfl (hO2 _) W.heap.size _ x rfl (World.cell?_alloc_mark _ _ _ _ _) (by omega) (by simp;omega) ?_
    intro v5 w5 hO5 hg5
    obtain⟨a5,c5,rfl,hf5a,hf5b,hf5c⟩:=hO5.form
    have hB5:Below (w.heap.size+4) W w5:=(hBa _).grown hg5 (by simp;omega) (fun k e=>(hblk k e).1)
    have h5:=HA.out w5 hB5
    obtain⟨h50,h51,h52,h53⟩:=h5
    have h54:∀ u,(w5.setCell ⟨w.heap.size,0,none⟩ u).cell? ⟨w.heap.size+1,0,none⟩=some (.string ⟨R.toArray⟩):=fun u=>(World.cell?_setCell_far _ ⟨w.heap.size,0,none⟩ ⟨w.heap.size+1,0,none⟩ _ (fun e=>by dsimp only at e;omega)).trans h51
    refine hK.out _ _ (trivial) (fun hHeld=>?_)
    clear hK K
    (try simp only [Act.put,pA,pB,pC])
    refine rk 8 rfl (fun K hK=>?_)
    go_simp
    refine hK.out _ _ (trivial) (fun hHeld=>?_)
    clear hK K
    (try simp only [Act.put,pA,pB,pC])
    refine rk 9 rfl (fun K hK=>?_)
    go_simp
    refine hK.out _ _ (trivial) (fun hHeld=>?_)
    clear hK K
    (try simp only [Act.put,pA,pB,pC])
    refine wpAnyH_done (by kernel_rfl) ?_ _
  all_goals
   have hbd:Below W.heap.size W W.drew:=(Below.refl _ W).drew
   have hko:∀ u u',KeepsOthers W ((w5.setCell ⟨w.heap.size,0,none⟩ u).setCell ⟨w.heap.size+1,0,none⟩ u'):=fun u u' =>
    ((((Cy hbd).trans (KeepsOthers.alloc _ _)).trans (KeepsOthers.of_grownBy hg5 (fun j o hj ho=>by
     obtain⟨_,cs,t,fr,hcs⟩:=(hO2 _).ownBlock j hj
     rw [ho] at hcs;cases hcs;rfl))).trans (KeepsOthers.setCell _ _ _)).trans (KeepsOthers.setCell _ _ _)
   have y0:=Ai w5 w.heap.size 0 (.slice a5 (pl+1) c5) _ _ _ ((hB5.block _ (by omega)).trans hv)
   have y1:=(At w5 ⟨w.heap.size,0,none⟩ (.slice a5 (pl+1) c5) (w.heap.size+1) (by show w.heap.size+1≠w.heap.size;omega)).trans ((hB5.block _ (by omega)).trans hrest)
   have z0:=(At (w5.setCell ⟨w.heap.size,0,none⟩ (.slice a5 (pl+1) c5)) ⟨w.heap.size+1,0,none⟩ (.string ⟨(R.drop x.length).toArray⟩) w.heap.size (by show w.heap.size≠w.heap.size+1;omega)).trans y0
   have z1:=Ai _ (w.heap.size+1) 0 (.string ⟨(R.drop x.length).toArray⟩) _ _ _ y1
   simp only [List.setIfInBounds_toArray,List.set_cons_zero] at z0 z1
   have hOX:Ag (w.heap.size+4) ((w5.setCell ⟨w.heap.size,0,none⟩ (.slice a5 (pl+1) c5)).setCell ⟨w.heap.size+1,0,none⟩ (.string ⟨(R.drop x.length).toArray⟩)) (.slice a5 (pl+1) c5) (pre++[x]):=by
    have h0:=hO5
    simp only [List.length_append,hPL,List.length_cons,List.length_nil,Nat.zero_add] at h0
    exact (h0.setFar (g:=w.heap.size) (by omega) _ _).setFar (g:=w.heap.size+1) (by omega) _ _
   have hBX:Below w.heap.size W ((w5.setCell ⟨w.heap.size,0,none⟩ (.slice a5 (pl+1) c5)).setCell ⟨w.heap.size+1,0,none⟩ (.string ⟨(R.drop x.length).toArray⟩)) :=
    ((hB5.mono (show w.heap.size≤w.heap.size+4 by omega)).setCell (p:=⟨w.heap.size,0,none⟩) nR _).setCell (p:=⟨w.heap.size+1,0,none⟩) (by show w.heap.size≤w.heap.size+1;omega) _
   have hpq:∀ j,j=w.heap.size+2∨j=w.heap.size+3→((w5.setCell ⟨w.heap.size,0,none⟩ (.slice a5 (pl+1) c5)).setCell ⟨w.heap.size+1,0,none⟩ (.string ⟨(R.drop x.length).toArray⟩)).heap[j]?=W.heap[j]?:=fun j hj=>by
    rw [At _ _ _ _ (by show j≠w.heap.size+1;omega),At _ _ _ _ (by show j≠w.heap.size;omega)]
    exact hB5.block j (by omega)
   have hko':=hko (.slice a5 (pl+1) c5) (.string ⟨(R.drop x.length).toArray⟩)
   generalize hX:(w5.setCell ⟨w.heap.size,0,none⟩ (.slice a5 (pl+1) c5)).setCell ⟨w.heap.size+1,0,none⟩ (.string ⟨(R.drop x.length).toArray⟩)=X at *
   have c0:X.cell? ⟨w.heap.size,0,none⟩=some (.slice a5 (pl+1) c5):=cell_of z0 0
   have hLX:LetI w k s (pre++[x]) X:=⟨nT hle hko'.size,⟨_,z0,hOX⟩,by
    rw [show (pre++[x]).length=pl+1 from by simp [hPL],HS.out.1];exact z1,hb.trans hBX⟩
   clear hko h50 h51 h52 h53 h54 d0 d1 d2 d3 q0 q1 q0' q1' hO2 hO5 hOX y0 y1 z0 z1
   by_cases h12:pl+1≤12
   ·have d:decide ((12:Int)<(pl:Int)+1)=false:=by simp;omega
    gi_wp2
    exact⟨hko'.from _,⟨hBX,hpq _ (.inr rfl),hpq _ (.inl rfl)⟩,hLX,by simp [hPL];omega⟩
   ·have d:decide ((12:Int)<(pl:Int)+1)=true:=by simp;omega
    gi_wp2
    exact⟨hko'.from _,rfl,by simp [hPL];omega,by rw [← HS.out.2,show pl+1=13 from by omega],hLX⟩
 case done =>
  rintro D xs W hD ⟨hS1,hS2⟩ ⟨hLI,hlen⟩ hdef
  have h13:=CH.letters_same k xs.length s hS2 13 (by omega)
  have hpre:(CH.letters k 13 s).1=xs:=by rw [h13];exact hS1
  have hbD:=Ao (r:=D) hLI.below (by omega) (.deferred none)
  obtain⟨hle,⟨v,hv,hO⟩,hrest,hb⟩:=hLI
  obtain⟨av,cv,rfl,hf1,hf2,_⟩:=hO.form
  rw [← h13] at hrest
  have hword:Hid (CH.wordOk k s=((CH.letters k 13 s).2==[]&&!(xs==[])&&decide (xs.length≤12))):=hid (by unfold CH.wordOk;rw [hpre])
  generalize hR:(CH.letters k 13 s).2=R at *
  generalize hN:xs.length=N at *
  have c0:W.cell? ⟨w.heap.size,0,none⟩=some (.slice av N cv):=cell_of hv 0
  have c1:W.cell? ⟨w.heap.size+1,0,none⟩=some (.string ⟨R.toArray⟩):=cell_of hrest 0
  clear hO
  cases hRe:List.isEmpty R with
  | false =>
   have hr1:r=1:=by
    have h0:(R==[])=false:=by cases R with|nil=>cases hRe|cons _ _=>rfl
    rw [← hr.out,hword.out,h0];rfl
   subst hr1
   go_wp2_with fail
   refine⟨by simp,.inl ⟨_,_,rfl,run_takeDeferred (ds:=[]) hdef,?_⟩⟩
   exact⟨_,results_tmp2 rfl _ _ _,_,rfl,hbD⟩
  | true =>
   have hR0:R=[]:=by cases R with|nil=>rfl|cons _ _=>cases hRe
   by_cases hN0:N=0
   ·have hr1:r=1:=by
     have h0:(xs==[])=true:=by
      have:xs=[]:=List.length_eq_zero_iff.1 (hN.trans hN0)
      rw [this];rfl
     rw [← hr.out,hword.out,h0,hR0];rfl
    subst hr1
    have z0:((N:Int)==0)=true:=by simp;omega
    go_wp2_with fail
    refine⟨by simp,.inl ⟨_,_,rfl,run_takeDeferred (ds:=[]) hdef,?_⟩⟩
    exact⟨_,results_tmp2 rfl _ _ _,_,rfl,hbD⟩
   ·have z0:((N:Int)==0)=false:=by simp;omega
    have h0:(xs==[])=false:=by
     cases hq:xs with
     | nil=>rw [hq] at hN;simp at hN;omega
     | cons _ _=>rfl
    by_cases hN12:N≤12
    ·have z1:decide ((12:Int)<(N:Int))=false:=by simp;omega
     have hr1:r=0:=by rw [← hr.out,hword.out,h0,hR0,decide_eq_true hN12];rfl
     subst hr1
     go_wp2_with fail
     refine⟨by simp,.inl ⟨_,_,rfl,run_takeDeferred (ds:=[]) hdef,?_⟩⟩
     exact⟨_,results_tmp2 rfl _ _ _,_,rfl,hbD⟩
    ·have z1:decide ((12:Int)<(N:Int))=true:=by simp;omega
     have hr1:r=1:=by rw [← hr.out,hword.out,h0,hR0,decide_eq_false hN12];rfl
     subst hr1
     go_wp2_with fail
     refine⟨by simp,.inl ⟨_,_,rfl,run_takeDeferred (ds:=[]) hdef,?_⟩⟩
     exact⟨_,results_tmp2 rfl _ _ _,_,rfl,hbD⟩
 case stop =>
  rintro D c pre W hD _ ⟨rfl,hlen,hpre,hLI⟩ hdef
  refine wpIn_wide.2 ?_
  have hbD:=Ao (r:=D) hLI.below (by omega) (.deferred none)
  obtain⟨hle,⟨v,hv,hO⟩,hrest,hb⟩:=hLI
  obtain⟨av,cv,rfl,hf1,hf2,_⟩:=hO.form
  rw [hlen] at hrest
  clear hlen
  have hword:Hid (CH.wordOk k s=((CH.letters k 13 s).2==[]&&!(pre==[])&&decide (pre.length≤12))):=hid (by unfold CH.wordOk;rw [hpre])
  generalize hR:(CH.letters k 13 s).2=R at *
  generalize hN:pre.length=N at *
  have c0:W.cell? ⟨w.heap.size,0,none⟩=some (.slice av N cv):=cell_of hv 0
  have c1:W.cell? ⟨w.heap.size+1,0,none⟩=some (.string ⟨R.toArray⟩):=cell_of hrest 0
  clear hO
  cases hRe:List.isEmpty R with
  | false =>
   have hr1:r=1:=by
    have h0:(R==[])=false:=by cases R with|nil=>cases hRe|cons _ _=>rfl
    rw [← hr.out,hword.out,h0];rfl
   subst hr1
   go_wp2_with fail
   refine⟨by simp,.inl ⟨_,_,rfl,run_takeDeferred (ds:=[]) hdef,?_⟩⟩
   exact⟨_,results_tmp2 rfl _ _ _,_,rfl,hbD⟩
  | true =>
   have hR0:R=[]:=by cases R with|nil=>rfl|cons _ _=>cases hRe
   by_cases hN0:N=0
   ·have hr1:r=1:=by
     have h0:(pre==[])=true:=by
      have:pre=[]:=List.length_eq_zero_iff.1 (hN.trans hN0)
      rw [this];rfl
     rw [← hr.out,hword.out,h0,hR0];rfl
    subst hr1
    have z0:((N:Int)==0)=true:=by simp;omega
    go_wp2_with fail
    refine⟨by simp,.inl ⟨_,_,rfl,run_takeDeferred (ds:=[]) hdef,?_⟩⟩
    exact⟨_,results_tmp2 rfl _ _ _,_,rfl,hbD⟩
   ·have z0:((N:Int)==0)=false:=by simp;omega
    have h0:(pre==[])=false:=by
     cases hq:pre with
     | nil=>rw [hq] at hN;simp at hN;omega
     | cons _ _=>rfl
    by_cases hN12:N≤12
    ·have z1:decide ((12:Int)<(N:Int))=false:=by simp;omega
     have hr1:r=0:=by rw [← hr.out,hword.out,h0,hR0,decide_eq_true hN12];rfl
     subst hr1
     go_wp2_with fail
     refine⟨by simp,.inl ⟨_,_,rfl,run_takeDeferred (ds:=[]) hdef,?_⟩⟩
     exact⟨_,results_tmp2 rfl _ _ _,_,rfl,hbD⟩
    ·have z1:decide ((12:Int)<(N:Int))=true:=by simp;omega
     have hr1:r=1:=by rw [← hr.out,hword.out,h0,hR0,decide_eq_false hN12];rfl
     subst hr1
     go_wp2_with fail
     refine⟨by simp,.inl ⟨_,_,rfl,run_takeDeferred (ds:=[]) hdef,?_⟩⟩
     exact⟨_,results_tmp2 rfl _ _ _,_,rfl,hbD⟩
end
end Go.Proofs.YtjepldaciejieaaGreatDoor
namespace CH
theorem noTwice_snoc (ls:List Str) (x:Str):Dx (ls++[x])=(Dx ls&&!ls.contains x):=by
 induction ls with
 | nil=>rfl
 | cons y l ih =>
  rw [List.cons_append,Dx,Dx,ih]
  have e1:(l++[x]).contains y=(l.contains y||y==x):=by rw [Bool.eq_iff_iff];simp
  have e2:(y::l).contains x=(x==y||l.contains x):=by rw [Bool.eq_iff_iff];simp
  have e3:(x==y)=(y==x):=by rw [Bool.eq_iff_iff];simp;exact⟨fun h=>h.symm,fun h=>h.symm⟩
  rw [e1,e2,e3]
  cases l.contains y <;> cases Dx l <;> cases l.contains x <;> cases (y==x) <;> rfl
theorem namesOk_snoc (ls:List Str) (x:Str):namesOk (ls++[x])=(namesOk ls&&(isName x&&!ls.contains x)):=by
 unfold namesOk
 rw [List.all_append,noTwice_snoc]
 simp only [List.all_cons,List.all_nil,Bool.and_true]
 cases ls.all isName <;> cases Dx ls <;> cases isName x <;> rfl
theorem namesOk_append (l1 l2:List Str) (h:namesOk (l1++l2)=true):namesOk l1=true:=by
 induction l2 generalizing l1 with
 | nil=>simpa using h
 | cons x l ih =>
  have:=ih (l1++[x]) (by simpa using h)
  rw [namesOk_snoc] at this
  simp at this
  exact this.1
theorem namesOk_take (ls:List Str) (k:Nat) (h:namesOk (ls.take k)=false):namesOk ls=false:=by
 cases hb:namesOk ls with
 | false=>rfl
 | true =>
  rw [← List.take_append_drop k ls] at hb
  rw [namesOk_append _ _ hb] at h
  cases h
end CH
namespace Go.Proofs.YtjepldaciejieaaGreatDoor
open Go.RowKit Go.Lib Go.Shelf Go.Sort
theorem within_any (n m:Int) (w:World):Calls Tryz.prog 90 #[.int .i64 n,.int .i64 m] w (fun e w'=>e=.returned (.bool (CH.within n m))∧w'=w):=by
 obtain⟨r,hr⟩:∃ r,Hid (CH.within n m=r):=⟨_,hid rfl⟩
 rw [hr.out]
 by_cases h0:0≤n
 ·have d0:decide (0≤n)=true:=by simpa using h0
  go_enter Tryz.func90,Tryz.ntmps90
  go_wp2
  go_ret
  exact⟨by rw [← hr.out];unfold CH.within;rw [d0];rfl,rfl⟩
 ·have d0:decide (0≤n)=false:=by simpa using h0
  go_enter Tryz.func90,Tryz.ntmps90
  go_wp2
  go_ret
  exact⟨by rw [← hr.out];unfold CH.within;rw [d0];rfl,rfl⟩
abbrev SetOf (r:Nat) (w:World) (ks:List (List UInt8)):Prop:=MapOf strV r w (ks.map fun l=>(l,.bool true))
theorem Ek (l:List UInt8):∀ (ks:List (List UInt8)) (i:Nat),((Ax l (ks.map fun l=>(l,Value.bool true)) i).map (·.2)).getD (.bool false)=.bool (ks.contains l)∧((Ax l (ks.map fun l=>(l,Value.bool true)) i).isSome=ks.contains l):=by
 intro ks
 induction ks with
 | nil=>intro i;exact⟨rfl,rfl⟩
 | cons x ks ih =>
  intro i
  rw [List.map_cons,Ax,List.contains_cons]
  cases h:(l==x) with
  | true=>simp
  | false=>simpa using ih (i+1)
theorem run_zero {P:Program} {E:TypeId} {z:Value} (h:(P.info? E).bind (·.zero)=some z) (w:World):(zeroValue E).run P w=.ok z w:=by
 cases hq:P.info? E with
 | none=>simp [hq] at h
 | some i =>
  simp [hq] at h
  simp [zeroValue,typeInfo,hq,h,Result.andThen]
theorem Ev (w:World):(zeroValue 4).run Tryz.prog w=.ok (.bool false) w:=run_zero (by kernel_rfl) w
theorem names_any (v:Value) (ls:List (List UInt8)) (w:World) (hv:Strs w.heap.size w v ls) (hl:ls.length≤100000) (hll:∀ l∈ls,l.length≤100000) :
  Calls Tryz.prog 88 #[v] w (Ret w (.bool (CH.namesOk ls))):=by
 obtain⟨a,cap,rfl,hc1,hc2,hcell⟩:=hv
 have hmm:=@run_makeMap Tryz.prog
 generalize hn:ls.length=n at *
 go_enter Tryz.func88,Tryz.ntmps88
 go_wp2_with fail
 clear hmm
 have hM0:=Ey strV w
 have hb0:=(Below.refl _ w).alloc (Nat.le_refl _) (.map #[] 0)
 generalize hw0:w.alloc (.map #[] 0)=w0 at *
 go_loopw [9] (fun iv wr=>∃ k:Nat,k≤n∧iv=.int .i64 k∧Hid (CH.namesOk (ls.take k)=true)∧SetOf w.heap.size wr (ls.take k)∧Below w.heap.size w wr) (fun iv _=>n - (RowKit.intOf iv).toNat)
 case atStart=>exact⟨0,Nat.zero_le _,rfl,hid rfl,hM0,hb0⟩
 case round =>
  obtain⟨k,hk,rfl,hu,hM,hb⟩:=hrel
  by_cases hlt:k<n
  ·obtain⟨x,hx⟩:∃ x,ls[k]?=some x:=⟨_,List.getElem?_eq_getElem (by omega)⟩
   have hxl:=hll x (List.mem_of_getElem? hx)
   obtain⟨b,off,rfl,hblt,hcs⟩:=hcell (fun e=>by rw [e] at hn;simp at hn;omega)
   have hck:=(hb.cell (p:=⟨b,off+k,none⟩) hblt).trans (hcs k x hx)
   have hts:ls.take (k+1)=ls.take k++[x]:=by rw [List.take_add_one,hx];rfl
   have hno:CH.namesOk (ls.take (k+1))=(CH.isName x&&!(ls.take k).contains x):=by rw [hts,CH.namesOk_snoc,hu.out];rfl
   have A:=hid (licName_any x wr (by omega))
   have hlk:=Bd Ds (Tryz.underlying165) (.bool false) Ev hM x
   rw [(Ek x (ls.take k) 0).1] at hlk
   have hko:((ls.take k).map fun l=>(l,Value.bool true))++[(x,.bool true)]=(ls.take (k+1)).map fun l=>(l,Value.bool true):=by rw [hts,List.map_append];rfl
   have hup:=fun (h:(ls.take k).contains x=false)=>Bg Ds (Tryz.underlying165) hM x (.bool true) (by
    cases hq:Ax x ((ls.take k).map fun l=>(l,Value.bool true)) 0 with
    | none=>rfl
    | some p =>
     have:=(Ek x (ls.take k) 0).2
     rw [hq,h] at this
     cases this)
   rw [hko] at hup
   have HN:=hid hno
   have HU:=hid hup
   have HT:=hid (CH.namesOk_take ls (k+1))
   have HF:=hid hcell
   have HC:=hid hcs
   have HA:=hid hll
   clear hno hup hts hko hcell hcs hll hx
   cases hin:CH.isName x with
   | false =>
    rw [hin] at A
    have hr':CH.namesOk ls=false:=HT.out (by rw [HN.out,hin];rfl)
    go_wp2_with fail
    refine A.out.mono ?_
    rintro e w1 ⟨rfl,rfl⟩
    clear A
    go_wp2
    go_ret
    exact⟨by rw [hr'];rfl,hb⟩
   | true =>
    rw [hin] at A
    cases hct:(ls.take k).contains x with
    | true =>
     have hr':CH.namesOk ls=false:=HT.out (by rw [HN.out,hin,hct];rfl)
     rw [hct] at hlk
     go_wp2_with fail
     refine A.out.mono ?_
     rintro e w1 ⟨rfl,rfl⟩
     clear A
     go_wp2
     go_ret
     exact⟨by rw [hr'];rfl,hb⟩
    | false =>
     have hr':CH.namesOk (ls.take (k+1))=true:=by rw [HN.out,hin,hct];rfl
     have HR:=hid hr'
     rw [hct] at hlk
     obtain⟨o,ho,hM'⟩:=HU.out hct
     clear hr' HN HT HU
     go_wp2_with fail
     refine A.out.mono ?_
     rintro e w1 ⟨rfl,rfl⟩
     clear A
     go_wp2
     go_roundw
     case rel=>exact⟨k+1,by omega,by go_num,HR,hM',Ao hb (Nat.le_refl _) _⟩
     case measure=>simp [RowKit.intOf];omega
  ·have e:k=n:=by omega
   subst e
   have hr':CH.namesOk ls=true:=by rw [← hu.out,← hn,List.take_length]
   go_wp2
   go_ret
   exact⟨by rw [hr'];rfl,hb⟩
end Go.Proofs.YtjepldaciejieaaGreatDoor
namespace Go.Proofs.YtjepldaciejieaaGreatDoor
section
open Go.Lib Go.Proofs.Tryz Go.RowKit Go.Shelf Go.Sort
def LicIs (B:Nat) (w:World) (cs:List Value) (l:CH.Licence):Prop :=
 ∃ vm vp,cs=[strV l.id,vm,vp,intV l.quota,intV l.uses,intV l.start,intV l.until_]∧Strs B w vm l.measures∧Strs B w vp l.parties
def Short (ls:List (List UInt8)):Prop:=ls.length≤100000∧∀ l∈ls,l.length≤10000
theorem Strs.form {B:Nat} {w:World} {v:Value} {ls:List (List UInt8)} (h:Strs B w v ls):∃ a cap,v=.slice a ls.length cap∧ls.length≤cap∧cap≤9223372036854775807:=by
 obtain⟨a,cap,h1,h2,h3,_⟩:=h
 exact⟨a,cap,h1,h2,h3⟩
theorem licValid_any (cs:List Value) (l:CH.Licence) (w:World) (hl:LicIs w.heap.size w cs l) (hid:l.id.length≤10000) (hm:Short l.measures) (hp:Short l.parties) :
  Calls prog 39 #[.agg cs.toArray] w (Ret w (.bool (CH.licenceOk l))):=by
 obtain⟨vm,vp,rfl,hvm,hvp⟩:=hl
 obtain⟨r,hr⟩:∃ r,Hid (CH.licenceOk l=r):=⟨_,Lib.hid rfl⟩
 rw [hr.out]
 obtain⟨am,cm,rfl,_,_⟩:=hvm.form
 obtain⟨ap,cp,rfl,_,_⟩:=hvp.form
 have hb0:=fun o=>(Below.refl _ w).alloc nR o
 have A1:=Lib.hid fun o=>names_any _ l.measures (w.alloc o) ((hvm.below (hb0 o) nR).mono (hb0 o).size) hm.1 (fun x hx=>nT (hm.2 x hx) (by decide))
 have A2:=Lib.hid fun (w1:World) (hb:Below w.heap.size w w1)=>names_any _ l.parties w1 ((hvp.below hb nR).mono hb.size) hp.1 (fun x hx=>nT (hp.2 x hx) (by decide))
 have A3:=Lib.hid fun (w1:World)=>licName_any l.id w1 (by omega)
 have W:=Lib.hid fun (n m:Int) (w1:World)=>within_any n m w1
 generalize hnm:l.measures.length=nm at *
 generalize hnp:l.parties.length=np at *
 go_enter func39,ntmps39
 go_wp2_with fail
 refine (A1.out _).mono ?_
 rintro e w1 ⟨rfl,hb1⟩
 have hblk1:=(hb1.block w.heap.size (by simp)).trans (heap_alloc_last w _)
 have hB1:Below w.heap.size w w1:=(hb0 _).trans (hb1.mono (by simp))
 have hlt1:w.heap.size<w1.heap.size:=(aZ hblk1)
 clear hb1 A1 hb0
 have k0w1:w1.cell? ⟨w.heap.size,0,none⟩=some (strV l.id):=cell_of hblk1 0
 have k1w1:w1.cell? ⟨w.heap.size,1,none⟩=some (.slice am nm cm):=cell_of hblk1 1
 have k2w1:w1.cell? ⟨w.heap.size,2,none⟩=some (.slice ap np cp):=cell_of hblk1 2
 have k3w1:w1.cell? ⟨w.heap.size,3,none⟩=some (intV l.quota):=cell_of hblk1 3
 have k4w1:w1.cell? ⟨w.heap.size,4,none⟩=some (intV l.uses):=cell_of hblk1 4
 have k5w1:w1.cell? ⟨w.heap.size,5,none⟩=some (intV l.start):=cell_of hblk1 5
 have k6w1:w1.cell? ⟨w.heap.size,6,none⟩=some (intV l.until_):=cell_of hblk1 6
 cases h1:CH.namesOk l.measures with
 | false =>
  clear A2
  have HL:Hid ((CH.namesOk l.measures&&CH.namesOk l.parties&&(decide (0<l.measures.length)&&decide (l.measures.length≤12)&&decide (l.parties.length≤60)))=false):=Lib.hid (by rw [h1];rfl)
  go_wp2_with fail
  cases hi:CH.isName l.id with
  | false =>
   have A:=A3.out w1
   rw [hi] at A
   replace A:=Lib.hid A
   clear A3 W
   refine (A.out).mono ?_
   rintro e w9 ⟨rfl,hw9⟩
   rw [hw9]
   clear hw9 w9
   clear A
   go_wp2
   go_ret
   exact⟨by rw [← hr.out];simp [CH.licenceOk,hi],hB1⟩
  | true =>
   have A:=A3.out w1
   rw [hi] at A
   replace A:=Lib.hid A
   clear A3
   refine (A.out).mono ?_
   rintro e w9 ⟨rfl,hw9⟩
   rw [hw9]
   clear hw9 w9
   clear A
   clear W
   go_wp2
   go_ret
   exact⟨by rw [← hr.out];simp [CH.licenceOk,hi,HL.out],hB1⟩
 | true =>
  go_wp2_with fail
  refine (A2.out w1 hB1).mono ?_
  rintro e w2 ⟨rfl,hb2⟩
  have hblk2:=(hb2.block w.heap.size hlt1).trans hblk1
  have hB2:Below w.heap.size w w2:=hB1.trans (hb2.mono hB1.size)
  clear hb2 A2 k0w1 k1w1 k2w1 k3w1 k4w1 k5w1 k6w1
  have k0w2:w2.cell? ⟨w.heap.size,0,none⟩=some (strV l.id):=cell_of hblk2 0
  have k1w2:w2.cell? ⟨w.heap.size,1,none⟩=some (.slice am nm cm):=cell_of hblk2 1
  have k2w2:w2.cell? ⟨w.heap.size,2,none⟩=some (.slice ap np cp):=cell_of hblk2 2
  have k3w2:w2.cell? ⟨w.heap.size,3,none⟩=some (intV l.quota):=cell_of hblk2 3
  have k4w2:w2.cell? ⟨w.heap.size,4,none⟩=some (intV l.uses):=cell_of hblk2 4
  have k5w2:w2.cell? ⟨w.heap.size,5,none⟩=some (intV l.start):=cell_of hblk2 5
  have k6w2:w2.cell? ⟨w.heap.size,6,none⟩=some (intV l.until_):=cell_of hblk2 6
  cases h2:CH.namesOk l.parties with
  | false =>
   have HL:Hid ((CH.namesOk l.measures&&CH.namesOk l.parties&&(decide (0<l.measures.length)&&decide (l.measures.length≤12)&&decide (l.parties.length≤60)))=false):=Lib.hid (by rw [h1,h2];rfl)
   go_wp2_with fail
   cases hi:CH.isName l.id with
   | false =>
    have A:=A3.out w2
    rw [hi] at A
    replace A:=Lib.hid A
    clear A3 W
    refine (A.out).mono ?_
    rintro e w9 ⟨rfl,hw9⟩
    rw [hw9]
    clear hw9 w9
    clear A
    go_wp2
    go_ret
    exact⟨by rw [← hr.out];simp [CH.licenceOk,hi],hB2⟩
   | true =>
    have A:=A3.out w2
    rw [hi] at A
    replace A:=Lib.hid A
    clear A3
    refine (A.out).mono ?_
    rintro e w9 ⟨rfl,hw9⟩
    rw [hw9]
    clear hw9 w9
    clear A
    clear W
    go_wp2
    go_ret
    exact⟨by rw [← hr.out];simp [CH.licenceOk,hi,HL.out],hB2⟩
  | true =>
   by_cases h3:0<nm
   ·have d3:decide ((0:Int)<(nm:Int))=true:=by simp;omega
    by_cases h4:nm≤12
    ·have d4:decide ((nm:Int)≤(12:Int))=true:=by simp;omega
     by_cases h5:np≤60
     ·have d5:decide ((np:Int)≤(60:Int))=true:=by simp;omega
      have HL:Hid ((CH.namesOk l.measures&&CH.namesOk l.parties&&(decide (0<l.measures.length)&&decide (l.measures.length≤12)&&decide (l.parties.length≤60)))=true):=Lib.hid (by rw [h1,h2,hnm,hnp,decide_eq_true h3,decide_eq_true h4,decide_eq_true h5];rfl)
      go_wp2_with fail
      cases hi:CH.isName l.id with
      | false =>
       have A:=A3.out w2
       rw [hi] at A
       replace A:=Lib.hid A
       clear A3 W
       refine (A.out).mono ?_
       rintro e w9 ⟨rfl,hw9⟩
       rw [hw9]
       clear hw9 w9
       clear A
       go_wp2
       go_ret
       exact⟨by rw [← hr.out];simp [CH.licenceOk,hi],hB2⟩
      | true =>
       have A:=A3.out w2
       rw [hi] at A
       replace A:=Lib.hid A
       clear A3
       refine (A.out).mono ?_
       rintro e w9 ⟨rfl,hw9⟩
       rw [hw9]
       clear hw9 w9
       clear A
       cases hw0:CH.within l.quota 1000000000 with
       | false =>
        have A:=W.out l.quota 1000000000 w2
        rw [hw0] at A
        replace A:=Lib.hid A
        clear W
        go_wp2_with fail
        refine (A.out).mono ?_
        rintro e w9 ⟨rfl,hw9⟩
        rw [hw9]
        clear hw9 w9
        clear A
        go_wp2
        go_ret
        exact⟨by rw [← hr.out];simp [CH.licenceOk,hi,HL.out,hw0],hB2⟩
       | true =>
        have A:=W.out l.quota 1000000000 w2
        rw [hw0] at A
        replace A:=Lib.hid A
        go_wp2_with fail
        refine (A.out).mono ?_
        rintro e w9 ⟨rfl,hw9⟩
        rw [hw9]
        clear hw9 w9
        clear A
        cases hw1:CH.within l.uses 1000 with
        | false =>
         have A:=W.out l.uses 1000 w2
         rw [hw1] at A
         replace A:=Lib.hid A
         clear W
         go_wp2_with fail
         refine (A.out).mono ?_
         rintro e w9 ⟨rfl,hw9⟩
         rw [hw9]
         clear hw9 w9
         clear A
         go_wp2
         go_ret
         exact⟨by rw [← hr.out];simp [CH.licenceOk,hi,HL.out,hw0,hw1],hB2⟩
        | true =>
         have A:=W.out l.uses 1000 w2
         rw [hw1] at A
         replace A:=Lib.hid A
         go_wp2_with fail
         refine (A.out).mono ?_
         rintro e w9 ⟨rfl,hw9⟩
         rw [hw9]
         clear hw9 w9
         clear A
         cases hw2:CH.within l.start 144001439 with
         | false =>
          have A:=W.out l.start 144001439 w2
          rw [hw2] at A
          replace A:=Lib.hid A
          clear W
          go_wp2_with fail
          refine (A.out).mono ?_
          rintro e w9 ⟨rfl,hw9⟩
          rw [hw9]
          clear hw9 w9
          clear A
          go_wp2
          go_ret
          exact⟨by rw [← hr.out];simp [CH.licenceOk,hi,HL.out,hw0,hw1,hw2],hB2⟩
         | true =>
          have A:=W.out l.start 144001439 w2
          rw [hw2] at A
          replace A:=Lib.hid A
          go_wp2_with fail
          refine (A.out).mono ?_
          rintro e w9 ⟨rfl,hw9⟩
          rw [hw9]
          clear hw9 w9
          clear A
          cases hw3:CH.within l.until_ 144001439 with
          | false =>
           have A:=W.out l.until_ 144001439 w2
           rw [hw3] at A
           replace A:=Lib.hid A
           clear W
           go_wp2_with fail
           refine (A.out).mono ?_
           rintro e w9 ⟨rfl,hw9⟩
           rw [hw9]
           clear hw9 w9
           clear A
           go_wp2
           go_ret
           exact⟨by rw [← hr.out];simp [CH.licenceOk,hi,HL.out,hw0,hw1,hw2,hw3],hB2⟩
          | true =>
           have A:=W.out l.until_ 144001439 w2
           rw [hw3] at A
           replace A:=Lib.hid A
           go_wp2_with fail
           refine (A.out).mono ?_
           rintro e w9 ⟨rfl,hw9⟩
           rw [hw9]
           clear hw9 w9
           clear A
           go_wp2
           go_ret
           refine⟨?_,hB2⟩
           rw [← hr.out]
           simp [CH.licenceOk,hi,HL.out,hw0,hw1,hw2,hw3]
     ·have d5:decide ((np:Int)≤(60:Int))=false:=by simp;omega
      have HL:Hid ((CH.namesOk l.measures&&CH.namesOk l.parties&&(decide (0<l.measures.length)&&decide (l.measures.length≤12)&&decide (l.parties.length≤60)))=false):=Lib.hid (by rw [h1,h2,hnp,decide_eq_false h5];simp)
      go_wp2_with fail
      cases hi:CH.isName l.id with
      | false =>
       have A:=A3.out w2
       rw [hi] at A
       replace A:=Lib.hid A
       clear A3 W
       refine (A.out).mono ?_
       rintro e w9 ⟨rfl,hw9⟩
       rw [hw9]
       clear hw9 w9
       clear A
       go_wp2
       go_ret
       exact⟨by rw [← hr.out];simp [CH.licenceOk,hi],hB2⟩
      | true =>
       have A:=A3.out w2
       rw [hi] at A
       replace A:=Lib.hid A
       clear A3
       refine (A.out).mono ?_
       rintro e w9 ⟨rfl,hw9⟩
       rw [hw9]
       clear hw9 w9
       clear A
       clear W
       go_wp2
       go_ret
       exact⟨by rw [← hr.out];simp [CH.licenceOk,hi,HL.out],hB2⟩
    ·have d4:decide ((nm:Int)≤(12:Int))=false:=by simp;omega
     have HL:Hid ((CH.namesOk l.measures&&CH.namesOk l.parties&&(decide (0<l.measures.length)&&decide (l.measures.length≤12)&&decide (l.parties.length≤60)))=false):=Lib.hid (by rw [h1,h2,hnm,decide_eq_false h4];simp)
     go_wp2_with fail
     cases hi:CH.isName l.id with
     | false =>
      have A:=A3.out w2
      rw [hi] at A
      replace A:=Lib.hid A
      clear A3 W
      refine (A.out).mono ?_
      rintro e w9 ⟨rfl,hw9⟩
      rw [hw9]
      clear hw9 w9
      clear A
      go_wp2
      go_ret
      exact⟨by rw [← hr.out];simp [CH.licenceOk,hi],hB2⟩
     | true =>
      have A:=A3.out w2
      rw [hi] at A
      replace A:=Lib.hid A
      clear A3
      refine (A.out).mono ?_
      rintro e w9 ⟨rfl,hw9⟩
      rw [hw9]
      clear hw9 w9
      clear A
      clear W
      go_wp2
      go_ret
      exact⟨by rw [← hr.out];simp [CH.licenceOk,hi,HL.out],hB2⟩
   ·have d3:decide ((0:Int)<(nm:Int))=false:=by simp;omega
    have HL:Hid ((CH.namesOk l.measures&&CH.namesOk l.parties&&(decide (0<l.measures.length)&&decide (l.measures.length≤12)&&decide (l.parties.length≤60)))=false):=Lib.hid (by rw [h1,h2,hnm,decide_eq_false h3];simp)
    go_wp2_with fail
    cases hi:CH.isName l.id with
    | false =>
     have A:=A3.out w2
     rw [hi] at A
     replace A:=Lib.hid A
     clear A3 W
     refine (A.out).mono ?_
     rintro e w9 ⟨rfl,hw9⟩
     rw [hw9]
     clear hw9 w9
     clear A
     go_wp2
     go_ret
     exact⟨by rw [← hr.out];simp [CH.licenceOk,hi],hB2⟩
    | true =>
     have A:=A3.out w2
     rw [hi] at A
     replace A:=Lib.hid A
     clear A3
     refine (A.out).mono ?_
     rintro e w9 ⟨rfl,hw9⟩
     rw [hw9]
     clear hw9 w9
     clear A
     clear W
     go_wp2
     go_ret
     exact⟨by rw [← hr.out];simp [CH.licenceOk,hi,HL.out],hB2⟩
def NameIs (B:Nat) (w:World) (cs:List Value) (n:CH.Name):Prop:=∃ vw,cs=[intV n.script,vw]∧Strs B w vw n.words
theorem nameValid_any (cs:List Value) (n:CH.Name) (w:World) (hG:Gc w) (hn:NameIs w.heap.size w cs n) (hS:Short n.words) :
  Calls prog 127 #[.agg cs.toArray] w (Ret w (.bool (CH.nameOk n))):=by
 obtain⟨vw,rfl,hw⟩:=hn
 obtain⟨r,hr⟩:∃ r,Hid (CH.nameOk n=r):=⟨_,hid rfl⟩
 rw [hr.out]
 obtain⟨aw,cw,rfl,hc1,hc2,hcell⟩:=hw
 obtain⟨hS1,hS2⟩:=hS
 have hblk0:=heap_alloc_last w (.cells #[.int .i64 n.script,.slice aw n.words.length cw] 157)
 have hB0:=(Below.refl _ w).alloc nR (.cells #[.int .i64 n.script,.slice aw n.words.length cw] 157)
 generalize hN:n.words.length=N at *
 have HF:=hid hcell
 clear hcell
 have hlt0:w.heap.size<(w.alloc (.cells #[.int .i64 n.script,.slice aw N cw] 157)).heap.size:=by simp
 go_enter func127,ntmps127
 go_wp2_with fail
 generalize hW:w.alloc (.cells #[.int .i64 n.script,.slice aw N cw] 157)=W at *
 go_loopw [10] (fun iv wr=>∃ k:Nat,k≤N∧iv=.int .i64 k∧Hid ((n.words.take k).all (CH.wordOk n.script)=true)∧Below W.heap.size W wr) (fun iv _=>N - (RowKit.intOf iv).toNat)
 case atStart=>exact⟨0,Nat.zero_le _,rfl,hid rfl,Below.refl _ _⟩
 case round =>
  obtain⟨k,hk,rfl,hu,hbW⟩:=hrel
  have hb:Below w.heap.size w wr:=hB0.trans (hbW.mono (Nat.le_of_lt hlt0))
  have hblk:=(hbW.block w.heap.size hlt0).trans hblk0
  have c0:wr.cell? ⟨w.heap.size,0,none⟩=some (.int .i64 n.script):=cell_of hblk 0
  have c1:wr.cell? ⟨w.heap.size,1,none⟩=some (.slice aw N cw):=cell_of hblk 1
  by_cases hlt:k<N
  ·obtain⟨x,hx⟩:∃ x,n.words[k]?=some x:=⟨_,lZ (by omega)⟩
   have hxl:=hS2 x (List.mem_of_getElem? hx)
   obtain⟨b,off,rfl,hblt,hcs⟩:=HF.out (fun e=>by rw [e] at hN;simp at hN;omega)
   have hck:=(hb.cell (p:=⟨b,off+k,none⟩) hblt).trans (hcs k x hx)
   have hts:n.words.take (k+1)=n.words.take k++[x]:=by rw [List.take_add_one,hx];rfl
   have hno:(n.words.take (k+1)).all (CH.wordOk n.script)=CH.wordOk n.script x:=by rw [hts,List.all_append,hu.out];simp
   have A:=letters_any n.script x wr (hG.below hb) (by omega)
   have HN:=hid hno
   have hmem:Hid (x∈n.words):=hid (List.mem_of_getElem? hx)
   clear hno hts hcs hx
   cases hin:CH.wordOk n.script x with
   | false =>
    rw [hin] at A
    have A:=hid A
    have hr1:r=false:=by
     rw [← hr.out]
     unfold CH.nameOk
     rw [show n.words.all (CH.wordOk n.script)=false from by rw [List.all_eq_false];exact⟨x,hmem.out,by rw [hin];decide⟩]
     rfl
    subst hr1
    go_wp2_with fail
    refine A.out.mono ?_
    rintro e w1 ⟨v1,rfl,hb1⟩
    clear A
    go_wp2
    go_ret
    exact⟨rfl,hb.trans (hb1.mono hb.size)⟩
   | true =>
    rw [hin] at A
    have A:=hid A
    have HR:Hid ((n.words.take (k+1)).all (CH.wordOk n.script)=true):=hid (by rw [HN.out,hin])
    clear HN
    go_wp2_with fail
    refine A.out.mono ?_
    rintro e w1 ⟨v1,rfl,hb1⟩
    clear A
    go_wp2
    go_roundw
    case rel=>exact⟨k+1,by omega,by go_num,HR,hbW.trans (hb1.mono hbW.size)⟩
    case measure=>simp [RowKit.intOf];omega
  ·have e:N=k:=by omega
   subst e
   have hall:n.words.all (CH.wordOk n.script)=true:=by rw [← hu.out,← hN,List.take_length]
   have hr1:r=(decide (0<N)&&decide (N≤6)):=by rw [← hr.out];unfold CH.nameOk;rw [hall,hN];rfl
   subst hr1
   by_cases h0:0<N
   ·have d0:decide ((0:Int)<(N:Int))=true:=by simp;omega
    go_wp2
    go_ret
    refine⟨?_,hb⟩
    rw [decide_eq_true h0,Bool.true_and,show decide (N≤6)=decide ((N:Int)≤6) from decide_eq_decide.2 (by omega)]
    rfl
   ·have d0:decide ((0:Int)<(N:Int))=false:=by simp;omega
    go_wp2
    go_ret
    refine⟨?_,hb⟩
    simp [h0]
theorem join_eq (sep:List UInt8):∀ ls:List (List UInt8),Lib.join ls sep=CH.join sep ls:=by
 intro ls
 induction ls with
 | nil=>rfl
 | cons x l ih =>
  cases l with
  | nil=>exact Lib.join_one x sep
  | cons y l =>
   rw [Lib.join_cons,CH.join,← ih,Lib.join_cons]
   simp [Lib.joinTail]
theorem D5 (v:Value) (ls:List (List UInt8)) (sep:List UInt8) (w:World) (hv:Strs w.heap.size w v ls) (hN:ls.length≤1000000) (hlen:(CH.join sep ls).length≤140737488355328) :
  Calls prog 83 #[v,.string ⟨sep.toArray⟩] w (Ret w (.string ⟨(CH.join sep ls).toArray⟩)):=by
 obtain⟨a,cap,rfl,h1,h2,h3⟩:=hv
 by_cases hne:ls=[]
 ·subst hne
  exact (Tryz.strings_Join_none a cap ⟨sep.toArray⟩ w).mono fun e w' ⟨he,hw⟩=>⟨he,by rw [hw];exact Below.refl _ _⟩
 ·obtain⟨b,off,rfl,hb,hc⟩:=h3 hne
  have hmap:(ls.map fun l=>ByteArray.mk l.toArray).map (·.data.toList)=ls:=by
   rw [List.map_map]
   exact (List.map_congr_left (fun a _=>rfl)).trans (List.map_id ls)
  have hJ:=Tryz.strings_Join b off cap (ls.map fun l=>ByteArray.mk l.toArray) ⟨sep.toArray⟩ w (fun j x hx=>by
   rw [List.getElem?_map] at hx
   cases hl:ls[j]? with
   | none=>rw [hl] at hx;cases hx
   | some l=>rw [hl] at hx;cases hx;exact hc j l hl) hb (by simp;omega) (by simpa using h1) (by
    rw [hmap];show (Lib.join ls sep).length≤_;rw [join_eq];exact hlen)
  rw [hmap,List.length_map] at hJ
  have e2:Lib.join ls (ByteArray.mk sep.toArray).data.toList=CH.join sep ls:=join_eq sep ls
  rw [e2] at hJ
  exact hJ
theorem kidText_paren (op:Int) (x:CH.Formula) (h:(x.op==6||x.op==5&&op != 6)=true):Ah op x=[40]++x.text++[41]:=by unfold Ah;rw [if_pos h]
theorem kidText_bare (op:Int) (x:CH.Formula) (h:(x.op==6||x.op==5&&op != 6)=false):Ah op x=x.text:=by unfold Ah;rw [if_neg (by rw [h];simp)]
def KidCalls (f:CH.Formula):Prop:=∀ x∈f.kids,∀ (vx:Value) (W:World),Am W.heap.size W x vx→Gl W→Calls prog 134 #[.agg (Af x vx)] W (Ret W (.string ⟨x.text.toArray⟩))
theorem text5_any (f:CH.Formula) (vk:Value) (w:World) (hG:Gl w) (hK:Am w.heap.size w f vk) (hop:f.op=5) (hlen:f.kids.length≤100000) (hxl:∀ x∈f.kids,x.text.length≤3000000000) (hIH:KidCalls f)
  (hJl:(CH.join ([32,97,110,100,32]:List UInt8) (f.kids.map (Ah 5))).length≤140737488355328):Calls prog 134 #[.agg (Af f vk)] w (Ret w (.string ⟨f.text.toArray⟩)):=by
 obtain⟨R,hR⟩:∃ R,Hid (f.text=R):=⟨_,hid rfl⟩
 rw [hR.out]
 obtain⟨ak,ck,rfl,hc1,hc2,hrow⟩:=hK.form
 replace hrow:=hid hrow
 replace hIH:=hid hIH
 replace hxl:=hid hxl
 generalize hKN:f.kids.length=KN at *
 replace hKN:=hid hKN
 dsimp only [Af]
 rw [hop]
 replace hop:=hid hop
 have hB0:=(Below.refl _ w).alloc nR (.cells #[.int .i64 5,.string ⟨f.name.toArray⟩,.int .i64 f.cmp,.int .i64 f.n,.slice ak KN ck] 57)
 have hblk:=heap_alloc_last w (.cells #[.int .i64 5,.string ⟨f.name.toArray⟩,.int .i64 f.cmp,.int .i64 f.n,.slice ak KN ck] 57)
 have hs1:(w.alloc (.cells #[.int .i64 5,.string ⟨f.name.toArray⟩,.int .i64 f.cmp,.int .i64 f.n,.slice ak KN ck] 57)).heap.size=w.heap.size+1:=by simp
 clear hK
 go_enter func134,ntmps134
 go_wp2_with fail
 generalize w.alloc (.cells #[.int .i64 5,.string ⟨f.name.toArray⟩,.int .i64 f.cmp,.int .i64 f.n,.slice ak KN ck] 57)=w1 at *
 replace hs1:=hid hs1
 replace hblk:=hid hblk
 go_loopw [3,31] (fun lv iv wr=>∃ j:Nat,j≤KN∧iv=.int .i64 j∧Hid (Ag (w.heap.size+1) wr lv ((f.kids.take j).map (Ah 5)))∧Hid (Below (w.heap.size+1) w1 wr)) (fun _ iv _=>KN - (RowKit.intOf iv).toNat)
 case atStart=>exact⟨0,Nat.zero_le _,rfl,hid (Ag.nil _ _),hid (Below.refl _ _)⟩
 case round =>
  obtain⟨j,hj,rfl,hO,hb⟩:=hrel
  have hB:Below w.heap.size w wr:=hB0.trans (hb.out.mono (by omega))
  have hsz:w.heap.size+1≤wr.heap.size:=by have:=hb.out.size;have:=hs1.out;omega
  have m0:wr.cell? ⟨w.heap.size,0,none⟩=some (.int .i64 5):=(hb.out.cell (p:=⟨w.heap.size,0,none⟩) (Nat.lt_succ_self _)).trans (cell_of hblk.out 0)
  obtain⟨a3,c3,rfl,hf1,hf2,hf3⟩:=hO.out.form
  replace hf3:=hid hf3
  by_cases hlt:j<KN
  ·obtain⟨x,hx⟩:∃ x,f.kids[j]?=some x:=⟨_,lZ (by rw [hKN.out];omega)⟩
   obtain⟨bb,off,rfl,hblt,hcs⟩:=hrow.out (fun e=>by have:=hKN.out;rw [e] at this;simp at this;omega)
   obtain⟨vx,c0,c1,c2,c3',c4,hkx⟩:=RowAt.get _ _ _ _ _ hcs hx
   have hc:=fun o=>hB.cell (p:=⟨bb,o,none⟩) hblt
   have e0:=(hc _).trans c0
   have e1:=(hc _).trans c1
   have e2:=(hc _).trans c2
   have e3:=(hc _).trans c3'
   have e4:=(hc _).trans c4
   have hmem:x∈f.kids:=List.mem_of_getElem? hx
   have hxt:=hxl.out x hmem
   have IH:=hid fun (W:World) (hbW:Below w.heap.size w W)=>hIH.out x hmem vx W (Am.mono hbW.size _ _ (Am.below hbW nR _ _ hkx)) (hG.below hbW)
   have hts:Hid ((f.kids.take (j+1)).map (Ah 5)=(f.kids.take j).map (Ah 5)++[Ah 5 x]):=hid (by rw [CH.take_snoc_at f.kids j x hx];simp)
   obtain⟨ax,cx,rfl,_,_⟩:=hkx.form
   have hLl:((f.kids.take j).map (Ah 5)).length=j:=by have:=hKN.out;simp;omega
   replace hLl:=hid hLl
   generalize hL:(f.kids.take j).map (Ah 5)=L at *
   have hkP:=kidText_paren 5 x
   have hkB:=kidText_bare 5 x
   replace hkP:=hid hkP
   replace hkB:=hid hkB
   generalize hKT:Ah 5 x=KT at *
   replace hL:=hid hL
   replace hKT:=hid hKT
   generalize x.kids.length=xn at *
   generalize x.text=T at *
   clear c0 c1 c2 c3' c4 hc hcs hkx hmem hx
   dsimp only [Af] at IH
   go_wp2_with fail
   refine (IH.out _ (hB.alloc hB.size _)).mono ?_
   rintro e w2 ⟨rfl,hb2⟩
   have hblk2:=(hb2.block wr.heap.size (by simp)).trans (heap_alloc_last wr _)
   have n0:w2.cell? ⟨wr.heap.size,0,none⟩=some (.int .i64 x.op):=cell_of hblk2 0
   have n1:w2.cell? ⟨w.heap.size,0,none⟩=some (.int .i64 5):=(hb2.cell (p:=⟨w.heap.size,0,none⟩) (by simp;omega)).trans (by rw [World.cell?_alloc_some _ _ _ (by rw [m0];rfl)];exact m0)
   have hO2:Hid (Ag (w.heap.size+1) w2 (.slice a3 L.length c3) L):=hid ((hO.out.alloc _).below hb2)
   have hB2:Hid (Below (w.heap.size+1) w1 w2):=hid ((hb.out.alloc (by omega) _).trans (hb2.mono (by simp;omega)))
   have hs2:w.heap.size+1≤w2.heap.size:=by have:=hB2.out.size;have:=hs1.out;omega
   clear IH hb2 hblk2 e0 e1 e2 e3 e4 m0 hO hb hB
   have STEP:∀ (v':Value) (w3:World) (o:Obj),Ag (w.heap.size+1) w3 v' (L++[KT])→(w2.alloc o).grownBy w3 (Value.slice a3 L.length c3).ownBlock→Hid (Ag (w.heap.size+1) w3 v' ((f.kids.take (j+1)).map (Ah 5)))∧Hid (Below (w.heap.size+1) w1 w3):=fun v' w3 o h1 h2 =>
    ⟨hid (by rw [hts.out];exact h1),hid ((hB2.out.alloc hs2 _).grown h2 (by simp;omega) (fun j hj=>(World.ownsRow.lt hO2.out j hj).1))⟩
   replace STEP:=hid STEP
   obtain⟨b6,p6⟩:∃ b,(x.op==6)=b:=⟨_,rfl⟩
   obtain⟨b5,p5⟩:∃ b,(x.op==5)=b:=⟨_,rfl⟩
   have hpar:Hid ((x.op==6||x.op==5&&(5:Int) != 6)=(b6||b5&&(5:Int) != 6)):=hid (by rw [p6,p5])
   have l1:¬ (9223372036854775807<1+T.length):=by omega
   have l2:¬ (9223372036854775807<1+T.length+1):=by omega
   cases b6 <;> cases b5
   ·obtain rfl:KT=T:=hkB.out (by rw [hpar.out];rfl)
    clear hkP hkB hpar hKT
    go_wp2_with (at_builtin;refine A9 rfl _ _ rfl (w.heap.size+1) _ L rfl (hO2.out.alloc _) w2.heap.size 1 KT rfl ?c1 ?c2 ?c3 ?_)
    case c1=>rw [World.cell?_alloc_at _ _ _ _ rfl];rfl
    case c2=>rw [hLl.out];omega
    case c3=>simp;omega
    intro v3 w3 hO3 hg3 _
    obtain⟨hO4,hB4⟩:=STEP.out v3 w3 _ hO3 hg3
    clear STEP hO3 hg3 hO2 hB2 n0 n1
    go_wp2
    go_roundw
    case rel=>exact⟨j+1,by omega,by go_num,hO4,hB4⟩
    case measure=>simp [RowKit.intOf];omega
   ·have hKTe:KT=[40]++T++[41]:=hkP.out (by rw [hpar.out];rfl)
    replace hKTe:=hid hKTe
    clear hkP hkB hpar hKT
    go_wp2_with (at_builtin;refine A9 rfl _ _ rfl (w.heap.size+1) _ L rfl (hO2.out.alloc _) w2.heap.size 1 ([40]++T++[41]) rfl ?c1 ?c2 ?c3 ?_)
    case c1=>rw [World.cell?_alloc_at _ _ _ _ rfl];show some (Value.string ((⟨[40].toArray⟩:ByteArray)++⟨T.toArray⟩++⟨[41].toArray⟩))=_;rw [bytes_append,bytes_append]
    case c2=>rw [hLl.out];omega
    case c3=>simp;omega
    intro v3 w3 hO3 hg3 _
    obtain⟨hO4,hB4⟩:=STEP.out v3 w3 _ (by rw [hKTe.out];exact hO3) hg3
    clear STEP hO3 hg3 hO2 hB2 n0 n1
    go_wp2
    go_roundw
    case rel=>exact⟨j+1,by omega,by go_num,hO4,hB4⟩
    case measure=>simp [RowKit.intOf];omega
   ·have hKTe:KT=[40]++T++[41]:=hkP.out (by rw [hpar.out];rfl)
    replace hKTe:=hid hKTe
    clear hkP hkB hpar hKT
    go_wp2_with (at_builtin;refine A9 rfl _ _ rfl (w.heap.size+1) _ L rfl (hO2.out.alloc _) w2.heap.size 1 ([40]++T++[41]) rfl ?c1 ?c2 ?c3 ?_)
    case c1=>rw [World.cell?_alloc_at _ _ _ _ rfl];show some (Value.string ((⟨[40].toArray⟩:ByteArray)++⟨T.toArray⟩++⟨[41].toArray⟩))=_;rw [bytes_append,bytes_append]
    case c2=>rw [hLl.out];omega
    case c3=>simp;omega
    intro v3 w3 hO3 hg3 _
    obtain⟨hO4,hB4⟩:=STEP.out v3 w3 _ (by rw [hKTe.out];exact hO3) hg3
    clear STEP hO3 hg3 hO2 hB2 n0 n1
    go_wp2
    go_roundw
    case rel=>exact⟨j+1,by omega,by go_num,hO4,hB4⟩
    case measure=>simp [RowKit.intOf];omega
   ·have hKTe:KT=[40]++T++[41]:=hkP.out (by rw [hpar.out];rfl)
    replace hKTe:=hid hKTe
    clear hkP hkB hpar hKT
    go_wp2_with (at_builtin;refine A9 rfl _ _ rfl (w.heap.size+1) _ L rfl (hO2.out.alloc _) w2.heap.size 1 ([40]++T++[41]) rfl ?c1 ?c2 ?c3 ?_)
    case c1=>rw [World.cell?_alloc_at _ _ _ _ rfl];show some (Value.string ((⟨[40].toArray⟩:ByteArray)++⟨T.toArray⟩++⟨[41].toArray⟩))=_;rw [bytes_append,bytes_append]
    case c2=>rw [hLl.out];omega
    case c3=>simp;omega
    intro v3 w3 hO3 hg3 _
    obtain⟨hO4,hB4⟩:=STEP.out v3 w3 _ (by rw [hKTe.out];exact hO3) hg3
    clear STEP hO3 hg3 hO2 hB2 n0 n1
    go_wp2
    go_roundw
    case rel=>exact⟨j+1,by omega,by go_num,hO4,hB4⟩
    case measure=>simp [RowKit.intOf];omega
  ·obtain rfl:j=KN:=by omega
   have htk:f.kids.take j=f.kids:=by rw [← hKN.out,List.take_length]
   clear hf3
   rw [htk] at hO hf1 ⊢
   clear htk
   have hO:Hid (Ag (w.heap.size+1) wr (.slice a3 (f.kids.map (Ah 5)).length c3) (f.kids.map (Ah 5))):=hO
   have J:=hid (D5 _ (f.kids.map (Ah 5)) ([32,97,110,100,32]:List UInt8) wr hO.out.strs (by have:=hKN.out;simp;omega) hJl)
   have hRe:Hid (CH.join ([32,97,110,100,32]:List UInt8) (f.kids.map (Ah 5))=R):=hid (by rw [← hR.out,text_eq,hop.out];rfl)
   generalize (f.kids.map (Ah 5)).length=LL at *
   generalize CH.join ([32,97,110,100,32]:List UInt8) (f.kids.map (Ah 5))=JJ at *
   clear hO
   go_wp2_with fail
   refine J.out.mono ?_
   rintro e w2 ⟨rfl,hb2⟩
   clear J m0
   go_wp2
   go_ret
   exact⟨by rw [← hRe.out];rfl,hB.trans (hb2.mono hB.size)⟩
theorem text6_any (f:CH.Formula) (vk:Value) (w:World) (hG:Gl w) (hK:Am w.heap.size w f vk) (hop:f.op=6) (hlen:f.kids.length≤100000) (hxl:∀ x∈f.kids,x.text.length≤3000000000) (hIH:KidCalls f)
  (hJl:(CH.join ([32,111,114,32]:List UInt8) (f.kids.map (Ah 6))).length≤140737488355328):Calls prog 134 #[.agg (Af f vk)] w (Ret w (.string ⟨f.text.toArray⟩)):=by
 obtain⟨R,hR⟩:∃ R,Hid (f.text=R):=⟨_,hid rfl⟩
 rw [hR.out]
 obtain⟨ak,ck,rfl,hc1,hc2,hrow⟩:=hK.form
 replace hrow:=hid hrow
 replace hIH:=hid hIH
 replace hxl:=hid hxl
 generalize hKN:f.kids.length=KN at *
 replace hKN:=hid hKN
 dsimp only [Af]
 rw [hop]
 replace hop:=hid hop
 have hB0:=(Below.refl _ w).alloc nR (.cells #[.int .i64 6,.string ⟨f.name.toArray⟩,.int .i64 f.cmp,.int .i64 f.n,.slice ak KN ck] 57)
 have hblk:=heap_alloc_last w (.cells #[.int .i64 6,.string ⟨f.name.toArray⟩,.int .i64 f.cmp,.int .i64 f.n,.slice ak KN ck] 57)
 have hs1:(w.alloc (.cells #[.int .i64 6,.string ⟨f.name.toArray⟩,.int .i64 f.cmp,.int .i64 f.n,.slice ak KN ck] 57)).heap.size=w.heap.size+1:=by simp
 clear hK
 go_enter func134,ntmps134
 go_wp2_with fail
 generalize w.alloc (.cells #[.int .i64 6,.string ⟨f.name.toArray⟩,.int .i64 f.cmp,.int .i64 f.n,.slice ak KN ck] 57)=w1 at *
 replace hs1:=hid hs1
 replace hblk:=hid hblk
 go_loopw [3,31] (fun lv iv wr=>∃ j:Nat,j≤KN∧iv=.int .i64 j∧Hid (Ag (w.heap.size+1) wr lv ((f.kids.take j).map (Ah 6)))∧Hid (Below (w.heap.size+1) w1 wr)) (fun _ iv _=>KN - (RowKit.intOf iv).toNat)
 case atStart=>exact⟨0,Nat.zero_le _,rfl,hid (Ag.nil _ _),hid (Below.refl _ _)⟩
 case round =>
  obtain⟨j,hj,rfl,hO,hb⟩:=hrel
  have hB:Below w.heap.size w wr:=hB0.trans (hb.out.mono (by omega))
  have hsz:w.heap.size+1≤wr.heap.size:=by have:=hb.out.size;have:=hs1.out;omega
  have m0:wr.cell? ⟨w.heap.size,0,none⟩=some (.int .i64 6):=(hb.out.cell (p:=⟨w.heap.size,0,none⟩) (Nat.lt_succ_self _)).trans (cell_of hblk.out 0)
  obtain⟨a3,c3,rfl,hf1,hf2,hf3⟩:=hO.out.form
  replace hf3:=hid hf3
  by_cases hlt:j<KN
  ·obtain⟨x,hx⟩:∃ x,f.kids[j]?=some x:=⟨_,lZ (by rw [hKN.out];omega)⟩
   obtain⟨bb,off,rfl,hblt,hcs⟩:=hrow.out (fun e=>by have:=hKN.out;rw [e] at this;simp at this;omega)
   obtain⟨vx,c0,c1,c2,c3',c4,hkx⟩:=RowAt.get _ _ _ _ _ hcs hx
   have hc:=fun o=>hB.cell (p:=⟨bb,o,none⟩) hblt
   have e0:=(hc _).trans c0
   have e1:=(hc _).trans c1
   have e2:=(hc _).trans c2
   have e3:=(hc _).trans c3'
   have e4:=(hc _).trans c4
   have hmem:x∈f.kids:=List.mem_of_getElem? hx
   have hxt:=hxl.out x hmem
   have IH:=hid fun (W:World) (hbW:Below w.heap.size w W)=>hIH.out x hmem vx W (Am.mono hbW.size _ _ (Am.below hbW nR _ _ hkx)) (hG.below hbW)
   have hts:Hid ((f.kids.take (j+1)).map (Ah 6)=(f.kids.take j).map (Ah 6)++[Ah 6 x]):=hid (by rw [CH.take_snoc_at f.kids j x hx];simp)
   obtain⟨ax,cx,rfl,_,_⟩:=hkx.form
   have hLl:((f.kids.take j).map (Ah 6)).length=j:=by have:=hKN.out;simp;omega
   replace hLl:=hid hLl
   generalize hL:(f.kids.take j).map (Ah 6)=L at *
   have hkP:=kidText_paren 6 x
   have hkB:=kidText_bare 6 x
   replace hkP:=hid hkP
   replace hkB:=hid hkB
   generalize hKT:Ah 6 x=KT at *
   replace hL:=hid hL
   replace hKT:=hid hKT
   generalize x.kids.length=xn at *
   generalize x.text=T at *
   clear c0 c1 c2 c3' c4 hc hcs hkx hmem hx
   dsimp only [Af] at IH
   go_wp2_with fail
   refine (IH.out _ (hB.alloc hB.size _)).mono ?_
   rintro e w2 ⟨rfl,hb2⟩
   have hblk2:=(hb2.block wr.heap.size (by simp)).trans (heap_alloc_last wr _)
   have n0:w2.cell? ⟨wr.heap.size,0,none⟩=some (.int .i64 x.op):=cell_of hblk2 0
   have n1:w2.cell? ⟨w.heap.size,0,none⟩=some (.int .i64 6):=(hb2.cell (p:=⟨w.heap.size,0,none⟩) (by simp;omega)).trans (by rw [World.cell?_alloc_some _ _ _ (by rw [m0];rfl)];exact m0)
   have hO2:Hid (Ag (w.heap.size+1) w2 (.slice a3 L.length c3) L):=hid ((hO.out.alloc _).below hb2)
   have hB2:Hid (Below (w.heap.size+1) w1 w2):=hid ((hb.out.alloc (by omega) _).trans (hb2.mono (by simp;omega)))
   have hs2:w.heap.size+1≤w2.heap.size:=by have:=hB2.out.size;have:=hs1.out;omega
   clear IH hb2 hblk2 e0 e1 e2 e3 e4 m0 hO hb hB
   have STEP:∀ (v':Value) (w3:World) (o:Obj),Ag (w.heap.size+1) w3 v' (L++[KT])→(w2.alloc o).grownBy w3 (Value.slice a3 L.length c3).ownBlock→Hid (Ag (w.heap.size+1) w3 v' ((f.kids.take (j+1)).map (Ah 6)))∧Hid (Below (w.heap.size+1) w1 w3):=fun v' w3 o h1 h2 =>
    ⟨hid (by rw [hts.out];exact h1),hid ((hB2.out.alloc hs2 _).grown h2 (by simp;omega) (fun j hj=>(World.ownsRow.lt hO2.out j hj).1))⟩
   replace STEP:=hid STEP
   obtain⟨b6,p6⟩:∃ b,(x.op==6)=b:=⟨_,rfl⟩
   obtain⟨b5,p5⟩:∃ b,(x.op==5)=b:=⟨_,rfl⟩
   have hpar:Hid ((x.op==6||x.op==5&&(6:Int) != 6)=(b6||b5&&(6:Int) != 6)):=hid (by rw [p6,p5])
   have l1:¬ (9223372036854775807<1+T.length):=by omega
   have l2:¬ (9223372036854775807<1+T.length+1):=by omega
   cases b6 <;> cases b5
   ·obtain rfl:KT=T:=hkB.out (by rw [hpar.out];rfl)
    clear hkP hkB hpar hKT
    go_wp2_with (at_builtin;refine A9 rfl _ _ rfl (w.heap.size+1) _ L rfl (hO2.out.alloc _) w2.heap.size 1 KT rfl ?c1 ?c2 ?c3 ?_)
    case c1=>rw [World.cell?_alloc_at _ _ _ _ rfl];rfl
    case c2=>rw [hLl.out];omega
    case c3=>simp;omega
    intro v3 w3 hO3 hg3 _
    obtain⟨hO4,hB4⟩:=STEP.out v3 w3 _ hO3 hg3
    clear STEP hO3 hg3 hO2 hB2 n0 n1
    go_wp2
    go_roundw
    case rel=>exact⟨j+1,by omega,by go_num,hO4,hB4⟩
    case measure=>simp [RowKit.intOf];omega
   ·obtain rfl:KT=T:=hkB.out (by rw [hpar.out];rfl)
    clear hkP hkB hpar hKT
    go_wp2_with (at_builtin;refine A9 rfl _ _ rfl (w.heap.size+1) _ L rfl (hO2.out.alloc _) w2.heap.size 1 KT rfl ?c1 ?c2 ?c3 ?_)
    case c1=>rw [World.cell?_alloc_at _ _ _ _ rfl];rfl
    case c2=>rw [hLl.out];omega
    case c3=>simp;omega
    intro v3 w3 hO3 hg3 _
    obtain⟨hO4,hB4⟩:=STEP.out v3 w3 _ hO3 hg3
    clear STEP hO3 hg3 hO2 hB2 n0 n1
    go_wp2
    go_roundw
    case rel=>exact⟨j+1,by omega,by go_num,hO4,hB4⟩
    case measure=>simp [RowKit.intOf];omega
   ·have hKTe:KT=[40]++T++[41]:=hkP.out (by rw [hpar.out];rfl)
    replace hKTe:=hid hKTe
    clear hkP hkB hpar hKT
    go_wp2_with (at_builtin;refine A9 rfl _ _ rfl (w.heap.size+1) _ L rfl (hO2.out.alloc _) w2.heap.size 1 ([40]++T++[41]) rfl ?c1 ?c2 ?c3 ?_)
    case c1=>rw [World.cell?_alloc_at _ _ _ _ rfl];show some (Value.string ((⟨[40].toArray⟩:ByteArray)++⟨T.toArray⟩++⟨[41].toArray⟩))=_;rw [bytes_append,bytes_append]
    case c2=>rw [hLl.out];omega
    case c3=>simp;omega
    intro v3 w3 hO3 hg3 _
    obtain⟨hO4,hB4⟩:=STEP.out v3 w3 _ (by rw [hKTe.out];exact hO3) hg3
    clear STEP hO3 hg3 hO2 hB2 n0 n1
    go_wp2
    go_roundw
    case rel=>exact⟨j+1,by omega,by go_num,hO4,hB4⟩
    case measure=>simp [RowKit.intOf];omega
   ·have hKTe:KT=[40]++T++[41]:=hkP.out (by rw [hpar.out];rfl)
    replace hKTe:=hid hKTe
    clear hkP hkB hpar hKT
    go_wp2_with (at_builtin;refine A9 rfl _ _ rfl (w.heap.size+1) _ L rfl (hO2.out.alloc _) w2.heap.size 1 ([40]++T++[41]) rfl ?c1 ?c2 ?c3 ?_)
    case c1=>rw [World.cell?_alloc_at _ _ _ _ rfl];show some (Value.string ((⟨[40].toArray⟩:ByteArray)++⟨T.toArray⟩++⟨[41].toArray⟩))=_;rw [bytes_append,bytes_append]
    case c2=>rw [hLl.out];omega
    case c3=>simp;omega
    intro v3 w3 hO3 hg3 _
    obtain⟨hO4,hB4⟩:=STEP.out v3 w3 _ (by rw [hKTe.out];exact hO3) hg3
    clear STEP hO3 hg3 hO2 hB2 n0 n1
    go_wp2
    go_roundw
    case rel=>exact⟨j+1,by omega,by go_num,hO4,hB4⟩
    case measure=>simp [RowKit.intOf];omega
  ·obtain rfl:j=KN:=by omega
   have htk:f.kids.take j=f.kids:=by rw [← hKN.out,List.take_length]
   clear hf3
   rw [htk] at hO hf1 ⊢
   clear htk
   have hO:Hid (Ag (w.heap.size+1) wr (.slice a3 (f.kids.map (Ah 6)).length c3) (f.kids.map (Ah 6))):=hO
   have J:=hid (D5 _ (f.kids.map (Ah 6)) ([32,111,114,32]:List UInt8) wr hO.out.strs (by have:=hKN.out;simp;omega) hJl)
   have hRe:Hid (CH.join ([32,111,114,32]:List UInt8) (f.kids.map (Ah 6))=R):=hid (by rw [← hR.out,text_eq,hop.out];rfl)
   generalize (f.kids.map (Ah 6)).length=LL at *
   generalize CH.join ([32,111,114,32]:List UInt8) (f.kids.map (Ah 6))=JJ at *
   clear hO
   go_wp2_with fail
   refine J.out.mono ?_
   rintro e w2 ⟨rfl,hb2⟩
   clear J m0
   go_wp2
   go_ret
   exact⟨by rw [← hRe.out];rfl,hB.trans (hb2.mono hB.size)⟩
theorem text4_any (f:CH.Formula) (vk:Value) (w:World) (hG:Gl w) (hK:Am w.heap.size w f vk) (hop:f.op=4) (hlen:f.kids.length≤100000) (hxl:∀ x∈f.kids,x.text.length≤3000000000) (hone:f.kids.length=1) (hIH:KidCalls f)
  (hJl:(CH.join ([32,111,114,32]:List UInt8) (f.kids.map (Ah 4))).length≤140737488355328):Calls prog 134 #[.agg (Af f vk)] w (Ret w (.string ⟨f.text.toArray⟩)):=by
 obtain⟨R,hR⟩:∃ R,Hid (f.text=R):=⟨_,hid rfl⟩
 rw [hR.out]
 obtain⟨ak,ck,rfl,hc1,hc2,hrow⟩:=hK.form
 replace hrow:=hid hrow
 replace hIH:=hid hIH
 replace hxl:=hid hxl
 generalize hKN:f.kids.length=KN at *
 replace hone:=hid hone
 replace hKN:=hid hKN
 dsimp only [Af]
 rw [hop]
 replace hop:=hid hop
 have hB0:=(Below.refl _ w).alloc nR (.cells #[.int .i64 4,.string ⟨f.name.toArray⟩,.int .i64 f.cmp,.int .i64 f.n,.slice ak KN ck] 57)
 have hblk:=heap_alloc_last w (.cells #[.int .i64 4,.string ⟨f.name.toArray⟩,.int .i64 f.cmp,.int .i64 f.n,.slice ak KN ck] 57)
 have hs1:(w.alloc (.cells #[.int .i64 4,.string ⟨f.name.toArray⟩,.int .i64 f.cmp,.int .i64 f.n,.slice ak KN ck] 57)).heap.size=w.heap.size+1:=by simp
 clear hK
 go_enter func134,ntmps134
 go_wp2_with fail
 generalize w.alloc (.cells #[.int .i64 4,.string ⟨f.name.toArray⟩,.int .i64 f.cmp,.int .i64 f.n,.slice ak KN ck] 57)=w1 at *
 replace hs1:=hid hs1
 replace hblk:=hid hblk
 go_loopw [3,31] (fun lv iv wr=>∃ j:Nat,j≤KN∧iv=.int .i64 j∧Hid (Ag (w.heap.size+1) wr lv ((f.kids.take j).map (Ah 4)))∧Hid (Below (w.heap.size+1) w1 wr)) (fun _ iv _=>KN - (RowKit.intOf iv).toNat)
 case atStart=>exact⟨0,Nat.zero_le _,rfl,hid (Ag.nil _ _),hid (Below.refl _ _)⟩
 case round =>
  obtain⟨j,hj,rfl,hO,hb⟩:=hrel
  have hB:Below w.heap.size w wr:=hB0.trans (hb.out.mono (by omega))
  have hsz:w.heap.size+1≤wr.heap.size:=by have:=hb.out.size;have:=hs1.out;omega
  have m0:wr.cell? ⟨w.heap.size,0,none⟩=some (.int .i64 4):=(hb.out.cell (p:=⟨w.heap.size,0,none⟩) (Nat.lt_succ_self _)).trans (cell_of hblk.out 0)
  obtain⟨a3,c3,rfl,hf1,hf2,hf3⟩:=hO.out.form
  replace hf3:=hid hf3
  by_cases hlt:j<KN
  ·obtain⟨x,hx⟩:∃ x,f.kids[j]?=some x:=⟨_,lZ (by rw [hKN.out];omega)⟩
   obtain⟨bb,off,rfl,hblt,hcs⟩:=hrow.out (fun e=>by have:=hKN.out;rw [e] at this;simp at this;omega)
   obtain⟨vx,c0,c1,c2,c3',c4,hkx⟩:=RowAt.get _ _ _ _ _ hcs hx
   have hc:=fun o=>hB.cell (p:=⟨bb,o,none⟩) hblt
   have e0:=(hc _).trans c0
   have e1:=(hc _).trans c1
   have e2:=(hc _).trans c2
   have e3:=(hc _).trans c3'
   have e4:=(hc _).trans c4
   have hmem:x∈f.kids:=List.mem_of_getElem? hx
   have hxt:=hxl.out x hmem
   have IH:=hid fun (W:World) (hbW:Below w.heap.size w W)=>hIH.out x hmem vx W (Am.mono hbW.size _ _ (Am.below hbW nR _ _ hkx)) (hG.below hbW)
   have hts:Hid ((f.kids.take (j+1)).map (Ah 4)=(f.kids.take j).map (Ah 4)++[Ah 4 x]):=hid (by rw [CH.take_snoc_at f.kids j x hx];simp)
   obtain⟨ax,cx,rfl,_,_⟩:=hkx.form
   have hLl:((f.kids.take j).map (Ah 4)).length=j:=by have:=hKN.out;simp;omega
   replace hLl:=hid hLl
   generalize hL:(f.kids.take j).map (Ah 4)=L at *
   have hkP:=kidText_paren 4 x
   have hkB:=kidText_bare 4 x
   replace hkP:=hid hkP
   replace hkB:=hid hkB
   generalize hKT:Ah 4 x=KT at *
   replace hL:=hid hL
   replace hKT:=hid hKT
   generalize x.kids.length=xn at *
   generalize x.text=T at *
   clear c0 c1 c2 c3' c4 hc hcs hkx hmem hx
   dsimp only [Af] at IH
   go_wp2_with fail
   refine (IH.out _ (hB.alloc hB.size _)).mono ?_
   rintro e w2 ⟨rfl,hb2⟩
   have hblk2:=(hb2.block wr.heap.size (by simp)).trans (heap_alloc_last wr _)
   have n0:w2.cell? ⟨wr.heap.size,0,none⟩=some (.int .i64 x.op):=cell_of hblk2 0
   have n1:w2.cell? ⟨w.heap.size,0,none⟩=some (.int .i64 4):=(hb2.cell (p:=⟨w.heap.size,0,none⟩) (by simp;omega)).trans (by rw [World.cell?_alloc_some _ _ _ (by rw [m0];rfl)];exact m0)
   have hO2:Hid (Ag (w.heap.size+1) w2 (.slice a3 L.length c3) L):=hid ((hO.out.alloc _).below hb2)
   have hB2:Hid (Below (w.heap.size+1) w1 w2):=hid ((hb.out.alloc (by omega) _).trans (hb2.mono (by simp;omega)))
   have hs2:w.heap.size+1≤w2.heap.size:=by have:=hB2.out.size;have:=hs1.out;omega
   clear IH hb2 hblk2 e0 e1 e2 e3 e4 m0 hO hb hB
   have STEP:∀ (v':Value) (w3:World) (o:Obj),Ag (w.heap.size+1) w3 v' (L++[KT])→(w2.alloc o).grownBy w3 (Value.slice a3 L.length c3).ownBlock→Hid (Ag (w.heap.size+1) w3 v' ((f.kids.take (j+1)).map (Ah 4)))∧Hid (Below (w.heap.size+1) w1 w3):=fun v' w3 o h1 h2 =>
    ⟨hid (by rw [hts.out];exact h1),hid ((hB2.out.alloc hs2 _).grown h2 (by simp;omega) (fun j hj=>(World.ownsRow.lt hO2.out j hj).1))⟩
   replace STEP:=hid STEP
   obtain⟨b6,p6⟩:∃ b,(x.op==6)=b:=⟨_,rfl⟩
   obtain⟨b5,p5⟩:∃ b,(x.op==5)=b:=⟨_,rfl⟩
   have hpar:Hid ((x.op==6||x.op==5&&(4:Int) != 6)=(b6||b5&&(4:Int) != 6)):=hid (by rw [p6,p5])
   have l1:¬ (9223372036854775807<1+T.length):=by omega
   have l2:¬ (9223372036854775807<1+T.length+1):=by omega
   cases b6 <;> cases b5
   ·obtain rfl:KT=T:=hkB.out (by rw [hpar.out];rfl)
    clear hkP hkB hpar hKT
    go_wp2_with (at_builtin;refine A9 rfl _ _ rfl (w.heap.size+1) _ L rfl (hO2.out.alloc _) w2.heap.size 1 KT rfl ?c1 ?c2 ?c3 ?_)
    case c1=>rw [World.cell?_alloc_at _ _ _ _ rfl];rfl
    case c2=>rw [hLl.out];omega
    case c3=>simp;omega
    intro v3 w3 hO3 hg3 _
    obtain⟨hO4,hB4⟩:=STEP.out v3 w3 _ hO3 hg3
    clear STEP hO3 hg3 hO2 hB2 n0 n1
    go_wp2
    go_roundw
    case rel=>exact⟨j+1,by omega,by go_num,hO4,hB4⟩
    case measure=>simp [RowKit.intOf];omega
   ·have hKTe:KT=[40]++T++[41]:=hkP.out (by rw [hpar.out];rfl)
    replace hKTe:=hid hKTe
    clear hkP hkB hpar hKT
    go_wp2_with (at_builtin;refine A9 rfl _ _ rfl (w.heap.size+1) _ L rfl (hO2.out.alloc _) w2.heap.size 1 ([40]++T++[41]) rfl ?c1 ?c2 ?c3 ?_)
    case c1=>rw [World.cell?_alloc_at _ _ _ _ rfl];show some (Value.string ((⟨[40].toArray⟩:ByteArray)++⟨T.toArray⟩++⟨[41].toArray⟩))=_;rw [bytes_append,bytes_append]
    case c2=>rw [hLl.out];omega
    case c3=>simp;omega
    intro v3 w3 hO3 hg3 _
    obtain⟨hO4,hB4⟩:=STEP.out v3 w3 _ (by rw [hKTe.out];exact hO3) hg3
    clear STEP hO3 hg3 hO2 hB2 n0 n1
    go_wp2
    go_roundw
    case rel=>exact⟨j+1,by omega,by go_num,hO4,hB4⟩
    case measure=>simp [RowKit.intOf];omega
   ·have hKTe:KT=[40]++T++[41]:=hkP.out (by rw [hpar.out];rfl)
    replace hKTe:=hid hKTe
    clear hkP hkB hpar hKT
    go_wp2_with (at_builtin;refine A9 rfl _ _ rfl (w.heap.size+1) _ L rfl (hO2.out.alloc _) w2.heap.size 1 ([40]++T++[41]) rfl ?c1 ?c2 ?c3 ?_)
    case c1=>rw [World.cell?_alloc_at _ _ _ _ rfl];show some (Value.string ((⟨[40].toArray⟩:ByteArray)++⟨T.toArray⟩++⟨[41].toArray⟩))=_;rw [bytes_append,bytes_append]
    case c2=>rw [hLl.out];omega
    case c3=>simp;omega
    intro v3 w3 hO3 hg3 _
    obtain⟨hO4,hB4⟩:=STEP.out v3 w3 _ (by rw [hKTe.out];exact hO3) hg3
    clear STEP hO3 hg3 hO2 hB2 n0 n1
    go_wp2
    go_roundw
    case rel=>exact⟨j+1,by omega,by go_num,hO4,hB4⟩
    case measure=>simp [RowKit.intOf];omega
   ·have hKTe:KT=[40]++T++[41]:=hkP.out (by rw [hpar.out];rfl)
    replace hKTe:=hid hKTe
    clear hkP hkB hpar hKT
    go_wp2_with (at_builtin;refine A9 rfl _ _ rfl (w.heap.size+1) _ L rfl (hO2.out.alloc _) w2.heap.size 1 ([40]++T++[41]) rfl ?c1 ?c2 ?c3 ?_)
    case c1=>rw [World.cell?_alloc_at _ _ _ _ rfl];show some (Value.string ((⟨[40].toArray⟩:ByteArray)++⟨T.toArray⟩++⟨[41].toArray⟩))=_;rw [bytes_append,bytes_append]
    case c2=>rw [hLl.out];omega
    case c3=>simp;omega
    intro v3 w3 hO3 hg3 _
    obtain⟨hO4,hB4⟩:=STEP.out v3 w3 _ (by rw [hKTe.out];exact hO3) hg3
    clear STEP hO3 hg3 hO2 hB2 n0 n1
    go_wp2
    go_roundw
    case rel=>exact⟨j+1,by omega,by go_num,hO4,hB4⟩
    case measure=>simp [RowKit.intOf];omega
  ·obtain rfl:j=KN:=by omega
   have htk:f.kids.take j=f.kids:=by rw [← hKN.out,List.take_length]
   clear hf3
   rw [htk] at hO hf1 ⊢
   clear htk
   have hO:Hid (Ag (w.heap.size+1) wr (.slice a3 (f.kids.map (Ah 4)).length c3) (f.kids.map (Ah 4))):=hO
   obtain⟨x,hx⟩:∃ x,f.kids=[x]:=List.length_eq_one_iff.1 (by rw [hKN.out];exact hone.out)
   have hRe:Hid ([110,111,116,32]++Ah 4 x=R):=hid (by rw [← hR.out,text_eq,hop.out,hx];rfl)
   have hxt:=hxl.out x (by rw [hx];simp)
   have hkt:(Ah 4 x).length≤x.text.length+2:=by unfold Ah;split <;> simp
   have hO:Ag (w.heap.size+1) wr (.slice a3 1 c3) [Ah 4 x]:=by have:=hO.out;rw [hx] at this;exact this
   obtain⟨b3,off3,rfl,hb3,hc3⟩:∃ b off,a3=some ⟨b,off,none⟩∧b<wr.heap.size∧∀ (j:Nat) (l:List UInt8),[Ah 4 x][j]?=some l→wr.cell? ⟨b,off+j,none⟩=some (.string ⟨l.toArray⟩):=by
    obtain⟨a',c',e',h1',h2',h3'⟩:=hO.strs
    cases e'
    exact h3' (by simp)
   have k0:=hc3 0 _ rfl
   rw [Nat.add_zero] at k0
   rw [hx] at ⊢
   have hll:([x].map (Ah 4)).length=1:=rfl
   rw [hll]
   clear hO hc3 hx hll
   generalize Ah 4 x=KT at *
   have l1:¬ (9223372036854775807<4+KT.length):=by omega
   go_wp2
   go_ret
   exact⟨by rw [← hRe.out,← bytes_append];rfl,hB⟩
structure SizeVars (bn bd bv:Nat) (w:World) (N D:Int):Prop where
 n:w.heap[bn]?=some (.cells #[.int .i64 N] 3 (0,0))
 d:w.heap[bd]?=some (.cells #[.int .i64 D] 3 (0,0))
 v:w.heap[bv]?=some (.cells #[.func (.func 217) #[] #[.pointer (some ⟨bn,0,none⟩),.pointer (some ⟨bd,0,none⟩),.pointer (some ⟨bv,0,none⟩)]] 282 (0,0))
 nd:bn≠bd
 nv:bn≠bv
 dv:bd≠bv
theorem SizeVars.below {bn bd bv:Nat} {w w':World} {N D:Int} (h:SizeVars bn bd bv w N D) (hb:Below w.heap.size w w'):SizeVars bn bd bv w' N D :=
 ⟨(hb.block bn (aZ h.n)).trans h.n,(hb.block bd (aZ h.d)).trans h.d,(hb.block bv (aZ h.v)).trans h.v,h.nd,h.nv,h.dv⟩
theorem heap_setCell_other (w:World) (g o k:Nat) (v:Value) (h:g≠k):(w.setCell ⟨g,o,none⟩ v).heap[k]?=w.heap[k]?:=by
 simp only [World.setCell]
 rw [Array.getElem?_modify,if_neg h]
theorem SizeVars.set {bn bd bv:Nat} {w:World} {N D:Int} (h:SizeVars bn bd bv w N D) (N' D':Int):SizeVars bn bd bv ((w.setCell ⟨bn,0,none⟩ (.int .i64 N')).setCell ⟨bd,0,none⟩ (.int .i64 D')) N' D':=by
 refine⟨?_,?_,?_,h.nd,h.nv,h.dv⟩
 ·rw [heap_setCell_other _ _ _ _ _ (Ne.symm h.nd)]
  have:=Ai w bn 0 (.int .i64 N') _ _ _ h.n
  simpa using this
 ·have:=Ai (w.setCell ⟨bn,0,none⟩ (.int .i64 N')) bd 0 (.int .i64 D') _ _ _ ((heap_setCell_other _ _ _ _ _ h.nd).trans h.d)
  simpa using this
 ·rw [heap_setCell_other _ _ _ _ _ h.dv,heap_setCell_other _ _ _ _ _ h.nv]
  exact h.v
theorem SizeVars.drew {bn bd bv:Nat} {w:World} {N D:Int} (h:SizeVars bn bd bv w N D):SizeVars bn bd bv w.drew N D:=⟨h.n,h.d,h.v,h.nd,h.nv,h.dv⟩
def Visited (base bn bd bv:Nat) (w:World) (N D:Int) (e:Ending) (w':World):Prop:=e=.returned (.tuple #[])∧SizeVars bn bd bv w' N D∧Below base w w'
theorem visit_any (k:Nat):∀ (f:CH.Formula) (vk:Value) (level N D:Int) (base bn bd bv:Nat) (w:World),f.depth≤k→Am base w f vk→SizeVars bn bd bv w N D→base≤bn→base≤bd→base≤bv→base≤w.heap.size →
  0≤N→N+f.count≤1000000000→0≤D→D≤1000000000→1≤level→level+f.depth≤1000000000 →
  Calls prog 217 #[.agg (Af f vk),.int .i64 level,.pointer (some ⟨bn,0,none⟩),.pointer (some ⟨bd,0,none⟩),.pointer (some ⟨bv,0,none⟩)] w (Visited base bn bd bv w (N+f.count) (max D (level - 1+f.depth))):=by
 induction k with
 | zero=>intro f vk level N D base bn bd bv w hk;exact absurd hk (by rw [Dh];omega)
 | succ k ih =>
  intro f vk level N D base bn bd bv w hk hK hV b1 b2 b3 b4 n0 n1 d0 d1 l0 l1
  obtain⟨ak,ck,rfl,hc1,hc2,hrow⟩:=hK.form
  have hcount:=count_eq f
  have hdepth:=Dh f
  have hlen:=Fe f.kids
  obtain⟨R,hR⟩:∃ R,Hid (R=Visited base bn bd bv w (N+f.count) (max D (level - 1+f.depth))):=⟨_,hid rfl⟩
  rw [← hR.out]
  generalize hKN:f.kids.length=KN at *
  dsimp only [Af]
  have hB0:=fun o=>(Below.refl base w).alloc b4 o
  have hV0:=fun o=>hV.below ((Below.refl _ w).alloc nR o)
  have hrow:=hid hrow
  have cn:=fun o=>cell_of (hV0 o).n 0
  have cd:=fun o=>cell_of (hV0 o).d 0
  have fn:=fun o=>Aj (hV0 o).n 0
  have fd:=fun o=>Aj (hV0 o).d 0
  have hnd:=hV.nd
  have hdn:=Ne.symm hV.nd
  go_enter func217,ntmps217
  go_wp2
  go_region
  have hVX:=((hV0 (.cells #[.int .i64 f.op,.string ⟨f.name.toArray⟩,.int .i64 f.cmp,.int .i64 f.n,.slice ak KN ck] 57)).set (N+1) (max D level)).drew
  have hBX:=(((hB0 (.cells #[.int .i64 f.op,.string ⟨f.name.toArray⟩,.int .i64 f.cmp,.int .i64 f.n,.slice ak KN ck] 57)).setCell (p:=⟨bn,0,none⟩) b1 (.int .i64 (N+1))).setCell (p:=⟨bd,0,none⟩) b2 (.int .i64 (max D level))).drew
  have hbn:bn<w.heap.size:=(aZ hV.n)
  have hbd:bd<w.heap.size:=(aZ hV.d)
  have hX4:((((w.alloc (.cells #[.int .i64 f.op,.string ⟨f.name.toArray⟩,.int .i64 f.cmp,.int .i64 f.n,.slice ak KN ck] 57)).setCell ⟨bn,0,none⟩ (.int .i64 (N+1))).setCell ⟨bd,0,none⟩ (.int .i64 (max D level))).drew).cell? ⟨w.heap.size,4,none⟩=some (.slice ak KN ck) :=
   cell_of (w:=((((w.alloc (.cells #[.int .i64 f.op,.string ⟨f.name.toArray⟩,.int .i64 f.cmp,.int .i64 f.n,.slice ak KN ck] 57)).setCell ⟨bn,0,none⟩ (.int .i64 (N+1))).setCell ⟨bd,0,none⟩ (.int .i64 (max D level))).drew)) (g:=w.heap.size) (((heap_setCell_other _ bd 0 w.heap.size _ (by omega)).trans (heap_setCell_other _ bn 0 w.heap.size _ (by omega))).trans (heap_alloc_last w _)) 4
  clear hV0 hB0 cn cd fn fd
  generalize ((((w.alloc (.cells #[.int .i64 f.op,.string ⟨f.name.toArray⟩,.int .i64 f.cmp,.int .i64 f.n,.slice ak KN ck] 57)).setCell ⟨bn,0,none⟩ (.int .i64 (N+1))).setCell ⟨bd,0,none⟩ (.int .i64 (max D level))).drew)=X at *
  have hN1:(0:Int)≤CH.countAll f.kids:=by omega
  clear hV hnd hdn
  have hVX:=hid hVX
  have hBX:=hid hBX
  obtain⟨D1,hD1⟩:∃ D1,max D level=D1:=⟨_,rfl⟩
  rw [hD1] at hVX ⊢
  have hD1:=hid hD1
  have hd1:0≤D1∧D1≤1000000000:=by have:=hD1.out;omega
  have hfk:=hid hKN
  have ih:=hid ih
  clear hKN
  go_wp2_with fail
  go_loopw [17] (fun iv wr=>∃ j:Nat,j≤KN∧iv=.int .i64 j∧Hid (SizeVars bn bd bv wr (N+1+CH.countAll (f.kids.take j)) (max D1 (level+CH.depthAll (f.kids.take j))))∧Hid (Below base w wr)) (fun iv _=>KN - (RowKit.intOf iv).toNat)
  case atStart=>exact⟨0,Nat.zero_le _,rfl,hid (by have:=hVX.out;have e:max D1 (level+((CH.depthAll (f.kids.take 0):Nat):Int))=D1:=(by simp [CH.depthAll];have:=hD1.out;omega);rw [e];simpa [CH.countAll] using this),hBX⟩
  case round =>
   obtain⟨j,hj,rfl,hv,hb⟩:=hrel
   by_cases hlt:j<KN
   ·obtain⟨x,hx⟩:∃ x,f.kids[j]?=some x:=⟨_,lZ (by rw [hfk.out];omega)⟩
    obtain⟨bb,off,rfl,hblt,hcs⟩:=hrow.out (fun e=>by have:=hfk.out;rw [e] at this;simp at this;omega)
    obtain⟨vx,c0,c1,c2,c3,c4,hkx⟩:=RowAt.get _ _ _ _ _ hcs hx
    have hc:=fun o=>hb.out.cell (p:=⟨bb,o,none⟩) hblt
    have e0:=(hc _).trans c0
    have e1:=(hc _).trans c1
    have e2:=(hc _).trans c2
    have e3:=(hc _).trans c3
    have e4:=(hc _).trans c4
    have cv:=cell_of hv.out.v 0
    have hlv:bv<wr.heap.size:=(aZ hv.out.v)
    have hmem:x∈f.kids:=List.mem_of_getElem? hx
    have hdx:=depth_mem hmem
    have hcx:x.count+CH.countAll (f.kids.take j)≤CH.countAll f.kids:=by
     have h1:f.kids=f.kids.take j++[x]++f.kids.drop (j+1):=by rw [← CH.take_snoc_at f.kids j x hx,List.take_append_drop]
     have h2:=congrArg CH.countAll h1
     rw [Em,Em] at h2
     simp only [CH.countAll] at h2
     omega
    have hdj:CH.depthAll (f.kids.take j)≤CH.depthAll f.kids:=by
     have:=depthAll_append (f.kids.take j) (f.kids.drop j)
     rw [List.take_append_drop] at this
     omega
    have hts:f.kids.take (j+1)=f.kids.take j++[x]:=CH.take_snoc_at f.kids j x hx
    have hct:Hid (CH.countAll (f.kids.take (j+1))=CH.countAll (f.kids.take j)+x.count):=hid (by rw [hts,Em];simp [CH.countAll])
    have hdt:Hid (CH.depthAll (f.kids.take (j+1))=max (CH.depthAll (f.kids.take j)) x.depth):=hid (by rw [hts,depthAll_append];simp [CH.depthAll])
    have IH:=hid fun (W:World) (hbW:Below base w W) (hvW:SizeVars bn bd bv W (N+1+CH.countAll (f.kids.take j)) (max D1 (level+CH.depthAll (f.kids.take j)))) (hsW:base≤W.heap.size) =>
     ih.out x vx (level+1) (N+1+CH.countAll (f.kids.take j)) (max D1 (level+CH.depthAll (f.kids.take j))) base bn bd bv W (by omega) (Am.below hbW nR _ _ hkx) hvW b1 b2 b3 hsW (by omega) (by omega) (by omega) (by omega) (by omega) (by omega)
    obtain⟨ax,cx,rfl,_,_⟩:=hkx.form
    generalize hxn:x.kids.length=xn at *
    clear c0 c1 c2 c3 c4 hc hcs hkx hmem hts hx
    dsimp only [Af] at IH
    go_wp2_with fail
    refine (IH.out _ (hb.out.alloc (nT b4 hb.out.size) _) (hv.out.below ((Below.refl _ _).alloc nR _)) (by simp;have:=hb.out.size;omega)).mono ?_
    rintro e w2 ⟨rfl,hv2,hb2⟩
    have hv2:=hid hv2
    have hB2:Hid (Below base w w2):=hid ((hb.out.alloc (nT b4 hb.out.size) _).trans hb2)
    clear IH hb2 cv e0 e1 e2 e3 e4
    go_wp2
    go_roundw
    case rel =>
     refine⟨j+1,by omega,by go_num,hid ?_,hB2⟩
     have h3:=hv2.out
     have q1:N+1+((CH.countAll (f.kids.take j):Nat):Int)+x.count=N+1+((CH.countAll (f.kids.take (j+1)):Nat):Int):=by rw [hct.out];omega
     have q2:max (max D1 (level+((CH.depthAll (f.kids.take j):Nat):Int))) (level+1 - 1+x.depth)=max D1 (level+((CH.depthAll (f.kids.take (j+1)):Nat):Int)):=by rw [hdt.out];omega
     rw [q1,q2] at h3
     exact h3
    case measure=>simp [RowKit.intOf];omega
   ·obtain rfl:j=KN:=by omega
    go_wp2
    go_end0
    rw [hR.out]
    refine⟨rfl,?_,hb.out⟩
    have h3:=hv.out
    rw [← hfk.out,List.take_length] at h3
    have q1:N+1+((CH.countAll f.kids:Nat):Int)=N+f.count:=by omega
    have q2:max D1 (level+((CH.depthAll f.kids:Nat):Int))=max D (level - 1+f.depth):=by have:=hD1.out;omega
    rw [q1,q2] at h3
    exact h3
theorem sizeVars_new (w:World) (o:Obj):SizeVars (w.heap.size+1) (w.heap.size+1+1) (w.heap.size+1+1+1) ((((w.alloc o).alloc (.cells #[.int .i64 0] 3)).alloc (.cells #[.int .i64 0] 3)).alloc (.cells #[.func (.func 217) #[] #[.pointer (some ⟨w.heap.size+1,0,none⟩),.pointer (some ⟨w.heap.size+1+1,0,none⟩),.pointer (some ⟨w.heap.size+1+1+1,0,none⟩)]] 282)) 0 0:=by
 refine⟨?_,?_,?_,by omega,by omega,by omega⟩
 ·simp only [World.alloc,Array.getElem?_push,Array.size_push]
  rw [if_neg (by omega),if_neg (by omega),if_pos trivial]
 ·simp only [World.alloc,Array.getElem?_push,Array.size_push]
  rw [if_neg (by omega),if_pos trivial]
 ·simp only [World.alloc,Array.getElem?_push,Array.size_push]
  rw [if_pos trivial]
theorem size_any (f:CH.Formula) (vk:Value) (w:World) (hK:Am w.heap.size w f vk) (hc:f.count≤100000000) (hd:f.depth≤100000000) :
  Calls prog 180 #[.agg (Af f vk)] w (Ret w (.tuple #[.int .i64 f.count,.int .i64 f.depth])):=by
 have V:=hid (visit_any f.depth f vk 1 0 0 w.heap.size)
 obtain⟨ak,ck,rfl,hc1,hc2,hrow⟩:=hK.form
 have hK:=hid hK
 clear hrow
 generalize hKN:f.kids.length=KN at *
 dsimp only [Af] at V ⊢
 have hB0:=Below.refl w.heap.size w
 have hS:=hid (sizeVars_new w)
 go_enter func180,ntmps180
 go_wp2_with fail
 have hB4:=fun o1 o2 o3 o4=>(((hB0.alloc nR o1).alloc (by simp) o2).alloc (by simp;omega) o3).alloc (by simp;omega) o4
 refine (V.out _ _ _ _ nR (Am.below (hB4 _ _ _ _) nR _ _ hK.out) (hS.out _) (by omega) (by omega) (by omega) (by simp;omega) (by omega) (by omega) (by omega) (by omega) (by omega) (by omega)).mono ?_
 rintro e w1 ⟨rfl,hv,hb1⟩
 have hB1:Below w.heap.size w w1:=(hB4 _ _ _ _).trans hb1
 have e1:(0:Int)+f.count=f.count:=by omega
 have e2:max (0:Int) (1 - 1+f.depth)=f.depth:=by omega
 rw [e1,e2] at hv
 have g1:∀ (d:Nat) (os:Array Obj),(grow (redrawn w1 d) os).cell? ⟨w.heap.size+1,0,none⟩=some (.int .i64 f.count):=cell_regrown (cell_of hv.n 0)
 have g2:∀ (d:Nat) (os:Array Obj),(grow (redrawn w1 d) os).cell? ⟨w.heap.size+1+1,0,none⟩=some (.int .i64 f.depth):=cell_regrown (cell_of hv.d 0)
 clear hS V hB4 hb1 hv e1 e2
 go_wp2_with fail
 refine wp_region_quiet_below (by kernel_rfl) (by kernel_rfl) ?_
 repeat (quiet_step (fail))
 refine wpQuiet_nil ?_
 intro wq hbq
 replace hbq:=Ae hbq
 clear g1 g2
 go_wp2
 refine bodyPost_ret (results_tmp2 rfl _ _ _) rfl ?_
 exact⟨rfl,hB1.trans (hbq.mono hB1.size)⟩
theorem large_any (f:CH.Formula) (vk:Value) (w:World) (hK:Am w.heap.size w f vk) (hc:f.count≤100000000) (hd:f.depth≤100000000) :
  Calls prog 132 #[.agg (Af f vk)] w (Ret w (.bool (decide (f.count > 200)||decide (f.depth > 20)))):=by
 have hB0:=fun o=>(Below.refl _ w).alloc nR o
 have S:=hid fun o=>size_any f vk (w.alloc o) (Am.mono (hB0 o).size _ _ (Am.below (hB0 o) nR _ _ hK)) hc hd
 obtain⟨ak,ck,rfl,hc1,hc2,hrow⟩:=hK.form
 clear hK hrow
 generalize f.kids.length=KN at *
 dsimp only [Af] at S ⊢
 obtain⟨b1,h1⟩:∃ b,decide (f.count > 200)=b:=⟨_,rfl⟩
 obtain⟨b2,h2⟩:∃ b,decide (f.depth > 20)=b:=⟨_,rfl⟩
 have d1:decide ((200:Int)<(f.count:Int))=b1:=by rw [← h1];exact decide_eq_decide.2 (by omega)
 have d2:decide ((20:Int)<(f.depth:Int))=b2:=by rw [← h2];exact decide_eq_decide.2 (by omega)
 rw [h1,h2]
 clear h1 h2
 generalize f.count=cc at *
 generalize f.depth=dd at *
 cases b1 <;> cases b2
 all_goals
  go_enter func132,ntmps132
  go_wp2_with fail
  refine (S.out _).mono ?_
  rintro e w1 ⟨rfl,hb1⟩
  clear S
  go_wp2
  go_ret
  exact⟨rfl,(hB0 _).trans (hb1.mono (by simp))⟩
theorem textWord_any (f:CH.Formula) (ak:Option Addr) (nk ck:Nat) (w:World) (h:f.op=1∨f.op=2) :
  Calls prog 134 #[.agg (Af f (.slice ak nk ck))] w (Ret w (.string ⟨f.text.toArray⟩)):=by
 have ht:=text_eq f
 obtain⟨R,hR⟩:∃ R,Hid (f.text=R):=⟨_,hid rfl⟩
 rw [hR.out] at ht ⊢
 dsimp only [Af]
 rcases h with h|h
 ·rw [h] at ht ⊢
  replace ht:R=([116,114,117,101]:List UInt8):=ht
  subst ht
  go_enter func134,ntmps134
  go_wp2
  go_ret
  exact⟨rfl,(Below.refl _ w).alloc nR _⟩
 ·rw [h] at ht ⊢
  replace ht:R=([102,97,108,115,101]:List UInt8):=ht
  subst ht
  go_enter func134,ntmps134
  go_wp2
  go_ret
  exact⟨rfl,(Below.refl _ w).alloc nR _⟩
theorem okAll_mem {l:List CH.Formula} (h:CH.okAll l=true) {x:CH.Formula} (hx:x∈l):x.ok=true:=by
 induction l with
 | nil=>cases hx
 | cons g l ih =>
  simp only [CH.okAll,Bool.and_eq_true] at h
  rcases List.mem_cons.1 hx with rfl|hx
  ·exact h.1
  ·exact ih h.2 hx
theorem text_any (k:Nat):∀ (f:CH.Formula) (vk:Value) (w:World),f.depth≤k→Gl w→Am w.heap.size w f vk→f.ok=true→Ca f→f.count≤90000 →
  Calls prog 134 #[.agg (Af f vk)] w (Ret w (.string ⟨f.text.toArray⟩)):=by
 induction k with
 | zero=>intro f vk w hk;exact absurd hk (by rw [Dh];omega)
 | succ k ih =>
  intro f vk w hk hG hK hok hS hcount
  have hnode:=node_of_ok hok
  have hd:=Dh f
  have hcn:=count_eq f
  have hlen:=Fe f.kids
  have hIH:KidCalls f:=fun x hx vx W hKx hGx=>ih x vx W (by have:=depth_mem hx;omega) hGx hKx (okAll_mem hnode.2.2 hx) (hS.kids.mem hx) (by have:=count_mem hx;omega)
  have hxl:∀ x∈f.kids,x.text.length≤3000000000:=fun x hx=>by
   have:=text_len x (hS.kids.mem hx) (okAll_mem hnode.2.2 hx)
   have:=count_mem hx
   omega
  have hjl:∀ (op:Int) (sep:List UInt8),sep.length≤5→(CH.join sep (f.kids.map (Ah op))).length≤140737488355328:=fun op sep hsep=>by
   have h1:=texts_len op f.kids hS.kids hnode.2.2
   have h2:=join_len_sum sep (f.kids.map (Ah op))
   have h3:((f.kids.map (Ah op)).map fun l=>l.length+sep.length).sum≤((f.kids.map (Ah op)).map fun l=>l.length+5).sum:=by
    generalize f.kids.map (Ah op)=ls
    induction ls with
    | nil=>simp
    | cons a l ih=>simp only [List.map_cons,List.sum_cons];omega
   omega
  obtain⟨ak,ck,rfl,hc1,hc2,hrow⟩:=hK.form
  rcases op_of_ok hok with h|h|⟨h,h1,h6⟩|⟨h,h1⟩|h|h
  ·exact textWord_any f ak _ ck w (.inl h)
  ·exact textWord_any f ak _ ck w (.inr h)
  ·have hn:=hnode.2.1 h
   exact textTest_any f ak _ ck w hG h h1 h6 hn.1 hn.2 hS.name
  ·exact text4_any f _ w hG hK h (by omega) hxl h1 hIH (hjl 4 _ (by decide))
  ·exact text5_any f _ w hG hK h (by omega) hxl hIH (hjl 5 _ (by decide))
  ·exact text6_any f _ w hG hK h (by omega) hxl hIH (hjl 6 _ (by decide))
theorem formulaText_any (f:CH.Formula) (vk:Value) (w:World) (hG:Gl w) (hK:Am w.heap.size w f vk) (hS:Ca f) (hc:f.count≤100000000) (hd:f.depth≤100000000) :
  Calls prog 84 #[.agg (Af f vk)] w (Ret w (textV (CH.formulaText f))):=by
 obtain⟨R,hR⟩:∃ R,Hid (textV (CH.formulaText f)=R):=⟨_,hid rfl⟩
 rw [hR.out]
 have KB:=fun (W:World) (hb:Below w.heap.size w W)=>Am.mono hb.size _ _ (Am.below hb nR _ _ hK)
 have L:=fun (W:World) (hb:Below w.heap.size w W)=>large_any f vk W (KB W hb) hc hd
 have F:=fun (W:World) (hb:Below w.heap.size w W)=>first_any f.depth f vk W nR (KB W hb) hS
 obtain⟨lg,hlg⟩:∃ b,(decide (f.count > 200)||decide (f.depth > 20))=b:=⟨_,rfl⟩
 obtain⟨ok,hok⟩:∃ b,f.ok=b:=⟨_,rfl⟩
 rw [hlg] at L
 rw [hok] at F
 replace L:=hid L
 replace F:=hid F
 have hRe:Hid (R=textV (if lg then none else if ok then some f.text else none)):=hid (by rw [← hR.out,← hlg,← hok];rfl)
 have hB0:=fun o=>(Below.refl _ w).alloc nR o
 have hW:=fun o=>heap_alloc_last w o
 have hz1:=errN_true
 have hz2:=errN_false
 have FE:=first_enters
 have T:=fun (h200:f.count≤90000) (hok:f.ok=true) (W:World) (hb:Below w.heap.size w W)=>text_any f.depth f vk W nR (hG.below hb) (KB W hb) hok hS h200
 replace T:=hid T
 clear KB
 obtain⟨ak,ck,rfl,hc1,hc2,hrow⟩:=hK.form
 clear hrow hK
 generalize f.kids.length=KN at *
 dsimp only [Af] at L F T ⊢
 cases lg with
 | true =>
  obtain rfl:=hRe.out
  clear F T hok hlg
  go_enter func84,ntmps84
  go_wp2_with fail
  refine (L.out _ (hB0 _)).mono ?_
  rintro e w1 ⟨rfl,hb1⟩
  clear L
  go_wp2
  refine bodyPost_ret (results_tmp2 rfl _ _ _) rfl ?_
  exact⟨rfl,(hB0 _).trans (hb1.mono (by simp))⟩
 | false =>
  have h200:f.count≤200:=by
   simp only [Bool.or_eq_false_iff,decide_eq_false_iff_not] at hlg
   omega
  clear hlg
  go_enter func84,ntmps84
  go_wp2_with fail
  refine (L.out _ (hB0 _)).mono ?_
  rintro e w1 ⟨rfl,hb1⟩
  have hB1:Below w.heap.size w w1:=(hB0 _).trans (hb1.mono (by simp))
  have hblk:=(hb1.block w.heap.size (by simp)).trans (hW _)
  clear L hb1 hW hB0
  have k0:=cell_of hblk 0
  have k1:=cell_of hblk 1
  have k2:=cell_of hblk 2
  have k3:=cell_of hblk 3
  have k4:=cell_of hblk 4
  simp only [List.getElem?_toArray,List.getElem?_cons_zero,List.getElem?_cons_succ] at k0 k1 k2 k3 k4
  have hblk:=hid hblk
  go_wp2_with fail
  refine (F.out _ hB1).mono ?_
  rintro e w2 ⟨rfl,hb2⟩
  have hB2:Below w.heap.size w w2:=hB1.trans (hb2.mono hB1.size)
  have hblk2:=(hb2.block w.heap.size (aZ hblk.out)).trans hblk.out
  clear F k0 k1 k2 k3 k4
  have k0:=cell_of hblk2 0
  have k1:=cell_of hblk2 1
  have k2:=cell_of hblk2 2
  have k3:=cell_of hblk2 3
  have k4:=cell_of hblk2 4
  simp only [List.getElem?_toArray,List.getElem?_cons_zero,List.getElem?_cons_succ] at k0 k1 k2 k3 k4
  clear hblk hblk2 hb2
  cases ok with
  | false =>
   obtain rfl:=hRe.out
   clear T hok
   go_wp2
   refine bodyPost_ret (results_tmp2 rfl _ _ _) rfl ?_
   exact⟨rfl,hB2⟩
  | true =>
   obtain rfl:=hRe.out
   have T:=hid (T.out (by omega) hok)
   clear hok
   go_wp2_with fail
   refine (T.out _ hB2).mono ?_
   rintro e w3 ⟨rfl,hb3⟩
   clear T
   go_wp2
   refine bodyPost_ret (results_tmp2 rfl _ _ _) rfl ?_
   exact⟨rfl,hB2.trans (hb3.mono hB2.size)⟩
end
end Go.Proofs.YtjepldaciejieaaGreatDoor
namespace CH
def jointOk (h0:Str) (js:List Str):Bool:=js.all isName&&Dx (h0::js)
theorem jointOk_snoc (h0:Str) (js:List Str) (x:Str):jointOk h0 (js++[x])=(jointOk h0 js&&(isName x&&!(h0::js).contains x)):=by
 unfold jointOk
 rw [List.all_append,← List.cons_append,noTwice_snoc]
 simp only [List.all_cons,List.all_nil,Bool.and_true]
 cases js.all isName <;> cases Dx (h0::js) <;> cases isName x <;> rfl
theorem jointOk_append (h0:Str) (l1 l2:List Str) (h:jointOk h0 (l1++l2)=true):jointOk h0 l1=true:=by
 induction l2 generalizing l1 with
 | nil=>simpa using h
 | cons x l ih =>
  have:=ih (l1++[x]) (by simpa using h)
  rw [jointOk_snoc,Bool.and_eq_true] at this
  exact this.1
theorem jointOk_take (h0:Str) (ls:List Str) (k:Nat) (h:jointOk h0 (ls.take k)=false):jointOk h0 ls=false:=by
 cases hb:jointOk h0 ls with
 | false=>rfl
 | true =>
  rw [← List.take_append_drop k ls] at hb
  rw [jointOk_append _ _ _ hb] at h
  cases h
theorem holdingOk_eq (h:Holding):holdingOk h=(isName h.id&&isName h.company&&isName h.holder&&(h.nominee==[]||isName h.nominee)&&(h.pledged==[]||isName h.pledged)&&decide (h.joint.length≤4) &&
  !(h.nominee != []&&decide (0<h.joint.length))&&jointOk h.holder h.joint &&
  !((h.holder::h.joint).contains h.company||h.company==h.nominee||!within h.capital 100||!within h.votes 100) &&
  (within h.start 100000&&(h.stop==-1||within h.stop 100000&&decide (h.stop > h.start)))):=rfl
end CH
namespace Go.Proofs.YtjepldaciejieaaGreatDoor
open Go.RowKit Go.Lib Go.Shelf Go.Sort
theorem bne_empty (s:List UInt8):((⟨s.toArray⟩:ByteArray) != ⟨#[]⟩)=(s != []):=by
 show (!((⟨s.toArray⟩:ByteArray)==⟨([]:List UInt8).toArray⟩))=(!(s==[]))
 rw [Cm]
theorem beq_empty (s:List UInt8):((⟨s.toArray⟩:ByteArray)==⟨#[]⟩)=(s==[]):=Cm s []
theorem percent_any (n:Int) (w:World):Calls Tryz.prog 138 #[.int .i64 n] w (fun e w'=>e=.returned (.bool (CH.within n 100))∧w'=w):=by
 obtain⟨r,hr⟩:∃ r,Hid (CH.within n 100=r):=⟨_,hid rfl⟩
 rw [hr.out]
 by_cases h0:0≤n
 ·have d0:decide (0≤n)=true:=by simpa using h0
  go_enter Tryz.func138,Tryz.ntmps138
  go_wp2
  go_ret
  exact⟨by rw [← hr.out];unfold CH.within;rw [d0];rfl,rfl⟩
 ·have d0:decide (0≤n)=false:=by simpa using h0
  go_enter Tryz.func138,Tryz.ntmps138
  go_wp2
  go_ret
  exact⟨by rw [← hr.out];unfold CH.within;rw [d0];rfl,rfl⟩
theorem isDay_any (n:Int) (w:World):Calls Tryz.prog 139 #[.int .i64 n] w (fun e w'=>e=.returned (.bool (CH.within n 100000))∧w'=w):=by
 obtain⟨r,hr⟩:∃ r,Hid (CH.within n 100000=r):=⟨_,hid rfl⟩
 rw [hr.out]
 by_cases h0:0≤n
 ·have d0:decide (0≤n)=true:=by simpa using h0
  go_enter Tryz.func139,Tryz.ntmps139
  go_wp2
  go_ret
  exact⟨by rw [← hr.out];unfold CH.within;rw [d0];rfl,rfl⟩
 ·have d0:decide (0≤n)=false:=by simpa using h0
  go_enter Tryz.func139,Tryz.ntmps139
  go_wp2
  go_ret
  exact⟨by rw [← hr.out];unfold CH.within;rw [d0];rfl,rfl⟩
theorem optional_any (s:List UInt8) (w:World) (hs:s.length≤10000):Calls Tryz.prog 136 #[.string ⟨s.toArray⟩] w (fun e w'=>e=.returned (.bool (s==[]||CH.isName s))∧w'=w):=by
 have A:=hid (regName_any s w (by omega))
 have z:=beq_empty s
 cases h:(s==[]) with
 | true =>
  rw [h] at z
  go_enter Tryz.func136,Tryz.ntmps136
  go_wp2
  go_ret
  exact⟨rfl,rfl⟩
 | false =>
  rw [h] at z
  go_enter Tryz.func136,Tryz.ntmps136
  go_wp2_with fail
  refine A.out.mono ?_
  rintro e w1 ⟨rfl,rfl⟩
  clear A
  go_wp2
  go_ret
  exact⟨rfl,rfl⟩
def Ar (h:CH.Holding) (vj:Value):List Value:=[strV h.id,strV h.company,strV h.holder,strV h.nominee,strV h.pledged,vj,intV h.capital,intV h.votes,intV h.start,intV h.stop]
def HoldIs (B:Nat) (w:World) (cs:List Value) (h:CH.Holding):Prop:=∃ vj,cs=Ar h vj∧Strs B w vj h.joint
structure HoldSmall (h:CH.Holding):Prop where
 id:h.id.length≤10000
 company:h.company.length≤10000
 holder:h.holder.length≤10000
 nominee:h.nominee.length≤10000
 pledged:h.pledged.length≤10000
 joint:Short h.joint
theorem holdProper_any (cs:List Value) (h:CH.Holding) (w:World) (hl:HoldIs w.heap.size w cs h) (hS:HoldSmall h) :
  Calls Tryz.prog 92 #[.agg cs.toArray] w (Ret w (.bool (CH.holdingOk h))):=by
 obtain⟨vj,rfl,hvj⟩:=hl
 obtain⟨r,hr⟩:∃ r,Hid (CH.holdingOk h=r):=⟨_,hid rfl⟩
 rw [hr.out]
 obtain⟨aj,cj,rfl,hc1,hc2,hcell⟩:=hvj
 obtain⟨s1,s2,s3,s4,s5,s6⟩:=hS
 have hblk:=heap_alloc_last w (.cells (Ar h (.slice aj h.joint.length cj)).toArray 49)
 have hB:=(Below.refl _ w).alloc (Nat.le_refl _) (.cells (Ar h (.slice aj h.joint.length cj)).toArray 49)
 generalize hnj:h.joint.length=nj at *
 have N:=hid fun (s:List UInt8) (w1:World) (hs:s.length≤10000)=>regName_any s w1 (by omega)
 have O:=hid fun (s:List UInt8) (w1:World) (hs:s.length≤10000)=>optional_any s w1 hs
 have PC:=hid fun (n:Int) (w1:World)=>percent_any n w1
 have DY:=hid fun (n:Int) (w1:World)=>isDay_any n w1
 have hmm:=@run_makeMap Tryz.prog
 dsimp only [Ar] at hblk hB ⊢
 go_enter Tryz.func92,Tryz.ntmps92
 generalize hw0:w.alloc (.cells [strV h.id,strV h.company,strV h.holder,strV h.nominee,strV h.pledged,.slice aj nj cj,intV h.capital,intV h.votes,intV h.start,intV h.stop].toArray 49)=w0 at hblk hB
 have k0:w0.cell? ⟨w.heap.size,0,none⟩=some (.string ⟨h.id.toArray⟩):=cell_of hblk 0
 have k1:w0.cell? ⟨w.heap.size,1,none⟩=some (.string ⟨h.company.toArray⟩):=cell_of hblk 1
 have k2:w0.cell? ⟨w.heap.size,2,none⟩=some (.string ⟨h.holder.toArray⟩):=cell_of hblk 2
 have k3:w0.cell? ⟨w.heap.size,3,none⟩=some (.string ⟨h.nominee.toArray⟩):=cell_of hblk 3
 have k4:w0.cell? ⟨w.heap.size,4,none⟩=some (.string ⟨h.pledged.toArray⟩):=cell_of hblk 4
 have k5:w0.cell? ⟨w.heap.size,5,none⟩=some (.slice aj nj cj):=cell_of hblk 5
 have k6:w0.cell? ⟨w.heap.size,6,none⟩=some (.int .i64 h.capital):=cell_of hblk 6
 have k7:w0.cell? ⟨w.heap.size,7,none⟩=some (.int .i64 h.votes):=cell_of hblk 7
 have k8:w0.cell? ⟨w.heap.size,8,none⟩=some (.int .i64 h.start):=cell_of hblk 8
 have k9:w0.cell? ⟨w.heap.size,9,none⟩=some (.int .i64 h.stop):=cell_of hblk 9
 have hlt0:w.heap.size<w0.heap.size:=(Array.getElem?_eq_some_iff.1 hblk).1
 have HB:=hid hblk
 have HF:=hid hcell
 clear hblk hcell
 have A:=N.out h.id w0 s1
 cases i1:CH.isName h.id with
 | false =>
  rw [i1] at A
  replace A:=hid A
  go_wp2_with fail
  refine (A.out).mono ?_
  rintro e w9 ⟨rfl,hw9⟩
  rw [hw9]
  clear hw9 w9
  clear A
  go_wp2
  go_ret
  exact⟨by rw [← hr.out,CH.holdingOk_eq,i1];simp,hB⟩
 | true =>
  rw [i1] at A
  replace A:=hid A
  go_wp2_with fail
  refine (A.out).mono ?_
  rintro e w9 ⟨rfl,hw9⟩
  rw [hw9]
  clear hw9 w9
  clear A
  have A:=N.out h.company w0 s2
  cases i2:CH.isName h.company with
  | false =>
   rw [i2] at A
   replace A:=hid A
   go_wp2_with fail
   refine (A.out).mono ?_
   rintro e w9 ⟨rfl,hw9⟩
   rw [hw9]
   clear hw9 w9
   clear A
   go_wp2
   go_ret
   exact⟨by rw [← hr.out,CH.holdingOk_eq,i2];simp,hB⟩
  | true =>
   rw [i2] at A
   replace A:=hid A
   go_wp2_with fail
   refine (A.out).mono ?_
   rintro e w9 ⟨rfl,hw9⟩
   rw [hw9]
   clear hw9 w9
   clear A
   have A:=N.out h.holder w0 s3
   cases i3:CH.isName h.holder with
   | false =>
    rw [i3] at A
    replace A:=hid A
    go_wp2_with fail
    refine (A.out).mono ?_
    rintro e w9 ⟨rfl,hw9⟩
    rw [hw9]
    clear hw9 w9
    clear A
    go_wp2
    go_ret
    exact⟨by rw [← hr.out,CH.holdingOk_eq,i3];simp,hB⟩
   | true =>
    rw [i3] at A
    replace A:=hid A
    go_wp2_with fail
    refine (A.out).mono ?_
    rintro e w9 ⟨rfl,hw9⟩
    rw [hw9]
    clear hw9 w9
    clear A
    have A:=O.out h.nominee w0 s4
    cases i4:(h.nominee==[]||CH.isName h.nominee) with
    | false =>
     rw [i4] at A
     replace A:=hid A
     go_wp2_with fail
     refine (A.out).mono ?_
     rintro e w9 ⟨rfl,hw9⟩
     rw [hw9]
     clear hw9 w9
     clear A
     go_wp2
     go_ret
     exact⟨by rw [← hr.out,CH.holdingOk_eq,i4];simp,hB⟩
    | true =>
     rw [i4] at A
     replace A:=hid A
     go_wp2_with fail
     refine (A.out).mono ?_
     rintro e w9 ⟨rfl,hw9⟩
     rw [hw9]
     clear hw9 w9
     clear A
     have A:=O.out h.pledged w0 s5
     cases i5:(h.pledged==[]||CH.isName h.pledged) with
     | false =>
      rw [i5] at A
      replace A:=hid A
      go_wp2_with fail
      refine (A.out).mono ?_
      rintro e w9 ⟨rfl,hw9⟩
      rw [hw9]
      clear hw9 w9
      clear A
      go_wp2
      go_ret
      exact⟨by rw [← hr.out,CH.holdingOk_eq,i5];simp,hB⟩
     | true =>
      rw [i5] at A
      replace A:=hid A
      go_wp2_with fail
      refine (A.out).mono ?_
      rintro e w9 ⟨rfl,hw9⟩
      rw [hw9]
      clear hw9 w9
      clear A
      clear N O
      have N:True:=trivial
      have O:True:=trivial
      by_cases h6:nj≤4
      ·have d6:decide ((4:Int)<(nj:Int))=false:=by simp;omega
       have h6':decide (h.joint.length≤4)=true:=by rw [hnj];simpa using h6
       have z4:=bne_empty h.nominee
       cases hN:(h.nominee != []) with
       | false =>
        rw [hN] at z4
        have zi:List.isEmpty h.nominee=true:=by rw [Ck,hN];rfl
        obtain⟨o,ho,hM1⟩:=Bg Ds (Tryz.underlying165) (Ey strV w0) h.holder (.bool true) rfl
        have hBm:=hB.alloc hB.size (.map #[] 0)
        have hB1:=Ao hBm hB.size o
        have hblkm:=(Below.block ((Below.refl _ w0).alloc (Nat.le_refl _) (.map #[] 0)) w.heap.size hlt0).trans HB.out
        have hblk1:=(World.putObj_heap_other (w:=w0.alloc (.map #[] 0)) (o:=o) (Nat.ne_of_lt hlt0)).trans hblkm
        have m2:(w0.alloc (.map #[] 0)).cell? ⟨w.heap.size,2,none⟩=some (.string ⟨h.holder.toArray⟩):=cell_of hblkm 2
        have hsz1:w.heap.size<((w0.alloc (.map #[] 0)).putObj w0.heap.size o).heap.size:=(Array.getElem?_eq_some_iff.1 hblk1).1
        have hr0:w.heap.size≤w0.heap.size:=hB.size
        generalize hw1:(w0.alloc (.map #[] 0)).putObj w0.heap.size o=w1 at *
        generalize hrr:w0.heap.size=R at *
        have q0:w1.cell? ⟨w.heap.size,0,none⟩=some (.string ⟨h.id.toArray⟩):=cell_of hblk1 0
        have q1:w1.cell? ⟨w.heap.size,1,none⟩=some (.string ⟨h.company.toArray⟩):=cell_of hblk1 1
        have q2:w1.cell? ⟨w.heap.size,2,none⟩=some (.string ⟨h.holder.toArray⟩):=cell_of hblk1 2
        have q3:w1.cell? ⟨w.heap.size,3,none⟩=some (.string ⟨h.nominee.toArray⟩):=cell_of hblk1 3
        have q4:w1.cell? ⟨w.heap.size,4,none⟩=some (.string ⟨h.pledged.toArray⟩):=cell_of hblk1 4
        have q5:w1.cell? ⟨w.heap.size,5,none⟩=some (.slice aj nj cj):=cell_of hblk1 5
        have q6:w1.cell? ⟨w.heap.size,6,none⟩=some (.int .i64 h.capital):=cell_of hblk1 6
        have q7:w1.cell? ⟨w.heap.size,7,none⟩=some (.int .i64 h.votes):=cell_of hblk1 7
        have q8:w1.cell? ⟨w.heap.size,8,none⟩=some (.int .i64 h.start):=cell_of hblk1 8
        have q9:w1.cell? ⟨w.heap.size,9,none⟩=some (.int .i64 h.stop):=cell_of hblk1 9
        go_wp2_with fail
        clear k0 k1 k2 k3 k4 k5 k6 k7 k8 k9
        clear hmm ho m2 hblkm hBm HB N O q0 q1 q2 q3 q4 q5 q6 q7 q8 q9
        have hblk1':=hid hblk1
        clear hblk1
        go_loopw [61] (fun iv wr=>∃ k:Nat,k≤nj∧iv=.int .i64 k∧Hid (CH.jointOk h.holder (h.joint.take k)=true)∧SetOf R wr (h.holder::h.joint.take k)∧Below R w1 wr∧Below w.heap.size w wr) (fun iv _=>nj - (RowKit.intOf iv).toNat)
        case atStart=>exact⟨0,Nat.zero_le _,rfl,hid rfl,hM1,Below.refl _ _,hB1⟩
        case round =>
         obtain⟨k,hk,rfl,hu,hM,hbR,hb⟩:=hrel
         by_cases hlt:k<nj
         ·obtain⟨x,hx⟩:∃ x,h.joint[k]?=some x:=⟨_,List.getElem?_eq_getElem (by omega)⟩
          have hxl:=s6.2 x (List.mem_of_getElem? hx)
          obtain⟨b,off,rfl,hblt,hcs⟩:=HF.out (fun e=>by rw [e] at hnj;simp at hnj;omega)
          have hck:=(hb.cell (p:=⟨b,off+k,none⟩) hblt).trans (hcs k x hx)
          have hts:h.joint.take (k+1)=h.joint.take k++[x]:=by rw [List.take_add_one,hx];rfl
          have hno:CH.jointOk h.holder (h.joint.take (k+1))=(CH.isName x&&!(h.holder::h.joint.take k).contains x):=by rw [hts,CH.jointOk_snoc,hu.out];rfl
          have A:=hid (regName_any x wr (by omega))
          have hlk:=Bd Ds (Tryz.underlying165) (.bool false) Ev hM x
          rw [(Ek x (h.holder::h.joint.take k) 0).1] at hlk
          have hko:((h.holder::h.joint.take k).map fun l=>(l,Value.bool true))++[(x,.bool true)]=(h.holder::h.joint.take (k+1)).map fun l=>(l,Value.bool true):=by rw [hts];simp
          have hup:=fun (hc:(h.holder::h.joint.take k).contains x=false)=>Bg Ds (Tryz.underlying165) hM x (.bool true) (by
           cases hq:Ax x ((h.holder::h.joint.take k).map fun l=>(l,Value.bool true)) 0 with
           | none=>rfl
           | some p =>
            have:=(Ek x (h.holder::h.joint.take k) 0).2
            rw [hq,hc] at this
            cases this)
          rw [hko] at hup
          have HN:=hid hno
          have HU:=hid hup
          have HT:=hid (CH.jointOk_take h.holder h.joint (k+1))
          clear hno hup hts hko hcs hx
          cases hin:CH.isName x with
          | false =>
           rw [hin] at A
           have hr':CH.jointOk h.holder h.joint=false:=HT.out (by rw [HN.out,hin];rfl)
           go_wp2_with fail
           refine A.out.mono ?_
           rintro e w2 ⟨rfl,hw2⟩
           rw [hw2]
           clear A hw2 w2
           go_wp2
           go_ret
           exact⟨by rw [← hr.out,CH.holdingOk_eq,hr'];simp,hb⟩
          | true =>
           rw [hin] at A
           cases hct:(h.holder::h.joint.take k).contains x with
           | true =>
            have hr':CH.jointOk h.holder h.joint=false:=HT.out (by rw [HN.out,hin,hct];rfl)
            rw [hct] at hlk
            go_wp2_with fail
            refine A.out.mono ?_
            rintro e w2 ⟨rfl,hw2⟩
            rw [hw2]
            clear A hw2 w2
            go_wp2
            go_ret
            exact⟨by rw [← hr.out,CH.holdingOk_eq,hr'];simp,hb⟩
           | false =>
            have hr':CH.jointOk h.holder (h.joint.take (k+1))=true:=by rw [HN.out,hin,hct];rfl
            have HR:=hid hr'
            rw [hct] at hlk
            obtain⟨o',ho',hM'⟩:=HU.out hct
            clear hr' HN HT HU
            go_wp2_with fail
            refine A.out.mono ?_
            rintro e w2 ⟨rfl,hw2⟩
            rw [hw2]
            clear A hw2 w2
            go_wp2
            go_roundw
            case rel=>exact⟨k+1,by omega,by go_num,HR,hM',Ao hbR (Nat.le_refl _) _,Ao hb hr0 _⟩
            case measure=>simp [RowKit.intOf];omega
         ·have e:nj=k:=by omega
          subst e
          have hj:CH.jointOk h.holder h.joint=true:=by rw [← hu.out,← hnj,List.take_length]
          rw [show h.joint.take nj=h.joint from by rw [← hnj,List.take_length]] at hM
          have hblkr:=(hbR.block w.heap.size hlt0).trans hblk1'.out
          clear hu hbR
          have k0:wr.cell? ⟨w.heap.size,0,none⟩=some (.string ⟨h.id.toArray⟩):=cell_of hblkr 0
          have k1:wr.cell? ⟨w.heap.size,1,none⟩=some (.string ⟨h.company.toArray⟩):=cell_of hblkr 1
          have k2:wr.cell? ⟨w.heap.size,2,none⟩=some (.string ⟨h.holder.toArray⟩):=cell_of hblkr 2
          have k3:wr.cell? ⟨w.heap.size,3,none⟩=some (.string ⟨h.nominee.toArray⟩):=cell_of hblkr 3
          have k4:wr.cell? ⟨w.heap.size,4,none⟩=some (.string ⟨h.pledged.toArray⟩):=cell_of hblkr 4
          have k5:wr.cell? ⟨w.heap.size,5,none⟩=some (.slice aj nj cj):=cell_of hblkr 5
          have k6:wr.cell? ⟨w.heap.size,6,none⟩=some (.int .i64 h.capital):=cell_of hblkr 6
          have k7:wr.cell? ⟨w.heap.size,7,none⟩=some (.int .i64 h.votes):=cell_of hblkr 7
          have k8:wr.cell? ⟨w.heap.size,8,none⟩=some (.int .i64 h.start):=cell_of hblkr 8
          have k9:wr.cell? ⟨w.heap.size,9,none⟩=some (.int .i64 h.stop):=cell_of hblkr 9
          have hlk:=Bd Ds (Tryz.underlying165) (.bool false) Ev hM h.company
          rw [(Ek h.company (h.holder::h.joint) 0).1] at hlk
          have hse:=Cm h.company h.nominee
          cases hct:(h.holder::h.joint).contains h.company with
          | true =>
           rw [hct] at hlk
           clear PC DY
           go_wp2
           go_ret
           exact⟨by rw [← hr.out,CH.holdingOk_eq,hct];simp,hb⟩
          | false =>
           rw [hct] at hlk
           cases hcn:(h.company==h.nominee) with
           | true =>
            rw [hcn] at hse
            clear PC DY
            go_wp2
            go_ret
            exact⟨by rw [← hr.out,CH.holdingOk_eq,hcn];simp,hb⟩
           | false =>
            rw [hcn] at hse
            have A:=PC.out h.capital wr
            cases hp1:CH.within h.capital 100 with
            | false =>
             rw [hp1] at A
             replace A:=hid A
             clear PC DY
             go_wp2_with fail
             refine (A.out).mono ?_
             rintro e w9 ⟨rfl,hw9⟩
             rw [hw9]
             clear hw9 w9
             clear A
             go_wp2
             go_ret
             exact⟨by rw [← hr.out,CH.holdingOk_eq,hp1];simp,hb⟩
            | true =>
             rw [hp1] at A
             replace A:=hid A
             go_wp2_with fail
             refine (A.out).mono ?_
             rintro e w9 ⟨rfl,hw9⟩
             rw [hw9]
             clear hw9 w9
             clear A
             have A:=PC.out h.votes wr
             cases hp2:CH.within h.votes 100 with
             | false =>
              rw [hp2] at A
              replace A:=hid A
              clear PC DY
              go_wp2_with fail
              refine (A.out).mono ?_
              rintro e w9 ⟨rfl,hw9⟩
              rw [hw9]
              clear hw9 w9
              clear A
              go_wp2
              go_ret
              exact⟨by rw [← hr.out,CH.holdingOk_eq,hp2];simp,hb⟩
             | true =>
              rw [hp2] at A
              replace A:=hid A
              go_wp2_with fail
              refine (A.out).mono ?_
              rintro e w9 ⟨rfl,hw9⟩
              rw [hw9]
              clear hw9 w9
              clear A
              have A:=DY.out h.start wr
              cases hd1:CH.within h.start 100000 with
              | false =>
               rw [hd1] at A
               replace A:=hid A
               clear DY
               go_wp2_with fail
               refine (A.out).mono ?_
               rintro e w9 ⟨rfl,hw9⟩
               rw [hw9]
               clear hw9 w9
               clear A
               go_wp2
               go_ret
               exact⟨by rw [← hr.out,CH.holdingOk_eq,hd1];simp,hb⟩
              | true =>
               rw [hd1] at A
               replace A:=hid A
               go_wp2_with fail
               refine (A.out).mono ?_
               rintro e w9 ⟨rfl,hw9⟩
               rw [hw9]
               clear hw9 w9
               clear A
               cases hst:(h.stop==-1) with
               | true =>
                clear DY
                go_wp2
                go_ret
                exact⟨by rw [← hr.out,CH.holdingOk_eq];simp only [hj,hct,hcn,i1,i2,i3,i4,i5,h6',hN,hp1,hp2,hd1,hst];rfl,hb⟩
               | false =>
                have A:=DY.out h.stop wr
                cases hd2:CH.within h.stop 100000 with
                | false =>
                 rw [hd2] at A
                 replace A:=hid A
                 clear DY
                 go_wp2_with fail
                 refine (A.out).mono ?_
                 rintro e w9 ⟨rfl,hw9⟩
                 rw [hw9]
                 clear hw9 w9
                 clear A
                 go_wp2
                 go_ret
                 exact⟨by rw [← hr.out,CH.holdingOk_eq,hd2,hst];simp,hb⟩
                | true =>
                 rw [hd2] at A
                 replace A:=hid A
                 clear DY
                 go_wp2_with fail
                 refine (A.out).mono ?_
                 rintro e w9 ⟨rfl,hw9⟩
                 rw [hw9]
                 clear hw9 w9
                 clear A
                 go_wp2
                 go_ret
                 exact⟨by rw [← hr.out,CH.holdingOk_eq];simp only [hj,hct,hcn,i1,i2,i3,i4,i5,h6',hN,hp1,hp2,hd1,hst,hd2];rfl,hb⟩
       | true =>
        rw [hN] at z4
        have zi:List.isEmpty h.nominee=false:=by rw [Ck,hN];rfl
        by_cases hj0:0<nj
        ·have d7:decide ((0:Int)<(nj:Int))=true:=by simp;omega
         have h7':decide (0<h.joint.length)=true:=by rw [hnj];simpa using hj0
         clear PC DY
         go_wp2
         go_ret
         exact⟨by rw [← hr.out,CH.holdingOk_eq,hN,h7'];simp,hB⟩
        ·have d7:decide ((0:Int)<(nj:Int))=false:=by simp;omega
         have h7':decide (0<h.joint.length)=false:=by rw [hnj];simpa using hj0
         obtain⟨o,ho,hM1⟩:=Bg Ds (Tryz.underlying165) (Ey strV w0) h.holder (.bool true) rfl
         have hBm:=hB.alloc hB.size (.map #[] 0)
         have hB1:=Ao hBm hB.size o
         have hblkm:=(Below.block ((Below.refl _ w0).alloc (Nat.le_refl _) (.map #[] 0)) w.heap.size hlt0).trans HB.out
         have hblk1:=(World.putObj_heap_other (w:=w0.alloc (.map #[] 0)) (o:=o) (Nat.ne_of_lt hlt0)).trans hblkm
         have m2:(w0.alloc (.map #[] 0)).cell? ⟨w.heap.size,2,none⟩=some (.string ⟨h.holder.toArray⟩):=cell_of hblkm 2
         have hsz1:w.heap.size<((w0.alloc (.map #[] 0)).putObj w0.heap.size o).heap.size:=(Array.getElem?_eq_some_iff.1 hblk1).1
         have hr0:w.heap.size≤w0.heap.size:=hB.size
         generalize hw1:(w0.alloc (.map #[] 0)).putObj w0.heap.size o=w1 at *
         generalize hrr:w0.heap.size=R at *
         have q0:w1.cell? ⟨w.heap.size,0,none⟩=some (.string ⟨h.id.toArray⟩):=cell_of hblk1 0
         have q1:w1.cell? ⟨w.heap.size,1,none⟩=some (.string ⟨h.company.toArray⟩):=cell_of hblk1 1
         have q2:w1.cell? ⟨w.heap.size,2,none⟩=some (.string ⟨h.holder.toArray⟩):=cell_of hblk1 2
         have q3:w1.cell? ⟨w.heap.size,3,none⟩=some (.string ⟨h.nominee.toArray⟩):=cell_of hblk1 3
         have q4:w1.cell? ⟨w.heap.size,4,none⟩=some (.string ⟨h.pledged.toArray⟩):=cell_of hblk1 4
         have q5:w1.cell? ⟨w.heap.size,5,none⟩=some (.slice aj nj cj):=cell_of hblk1 5
         have q6:w1.cell? ⟨w.heap.size,6,none⟩=some (.int .i64 h.capital):=cell_of hblk1 6
         have q7:w1.cell? ⟨w.heap.size,7,none⟩=some (.int .i64 h.votes):=cell_of hblk1 7
         have q8:w1.cell? ⟨w.heap.size,8,none⟩=some (.int .i64 h.start):=cell_of hblk1 8
         have q9:w1.cell? ⟨w.heap.size,9,none⟩=some (.int .i64 h.stop):=cell_of hblk1 9
         go_wp2_with fail
         clear k0 k1 k2 k3 k4 k5 k6 k7 k8 k9
         clear hmm ho m2 hblkm hBm HB N O q0 q1 q2 q3 q4 q5 q6 q7 q8 q9
         have hblk1':=hid hblk1
         clear hblk1
         go_loopw [61] (fun iv wr=>∃ k:Nat,k≤nj∧iv=.int .i64 k∧Hid (CH.jointOk h.holder (h.joint.take k)=true)∧SetOf R wr (h.holder::h.joint.take k)∧Below R w1 wr∧Below w.heap.size w wr) (fun iv _=>nj - (RowKit.intOf iv).toNat)
         case atStart=>exact⟨0,Nat.zero_le _,rfl,hid rfl,hM1,Below.refl _ _,hB1⟩
         case round =>
          obtain⟨k,hk,rfl,hu,hM,hbR,hb⟩:=hrel
          by_cases hlt:k<nj
          ·obtain⟨x,hx⟩:∃ x,h.joint[k]?=some x:=⟨_,List.getElem?_eq_getElem (by omega)⟩
           have hxl:=s6.2 x (List.mem_of_getElem? hx)
           obtain⟨b,off,rfl,hblt,hcs⟩:=HF.out (fun e=>by rw [e] at hnj;simp at hnj;omega)
           have hck:=(hb.cell (p:=⟨b,off+k,none⟩) hblt).trans (hcs k x hx)
           have hts:h.joint.take (k+1)=h.joint.take k++[x]:=by rw [List.take_add_one,hx];rfl
           have hno:CH.jointOk h.holder (h.joint.take (k+1))=(CH.isName x&&!(h.holder::h.joint.take k).contains x):=by rw [hts,CH.jointOk_snoc,hu.out];rfl
           have A:=hid (regName_any x wr (by omega))
           have hlk:=Bd Ds (Tryz.underlying165) (.bool false) Ev hM x
           rw [(Ek x (h.holder::h.joint.take k) 0).1] at hlk
           have hko:((h.holder::h.joint.take k).map fun l=>(l,Value.bool true))++[(x,.bool true)]=(h.holder::h.joint.take (k+1)).map fun l=>(l,Value.bool true):=by rw [hts];simp
           have hup:=fun (hc:(h.holder::h.joint.take k).contains x=false)=>Bg Ds (Tryz.underlying165) hM x (.bool true) (by
            cases hq:Ax x ((h.holder::h.joint.take k).map fun l=>(l,Value.bool true)) 0 with
            | none=>rfl
            | some p =>
             have:=(Ek x (h.holder::h.joint.take k) 0).2
             rw [hq,hc] at this
             cases this)
           rw [hko] at hup
           have HN:=hid hno
           have HU:=hid hup
           have HT:=hid (CH.jointOk_take h.holder h.joint (k+1))
           clear hno hup hts hko hcs hx
           cases hin:CH.isName x with
           | false =>
            rw [hin] at A
            have hr':CH.jointOk h.holder h.joint=false:=HT.out (by rw [HN.out,hin];rfl)
            go_wp2_with fail
            refine A.out.mono ?_
            rintro e w2 ⟨rfl,hw2⟩
            rw [hw2]
            clear A hw2 w2
            go_wp2
            go_ret
            exact⟨by rw [← hr.out,CH.holdingOk_eq,hr'];simp,hb⟩
           | true =>
            rw [hin] at A
            cases hct:(h.holder::h.joint.take k).contains x with
            | true =>
             have hr':CH.jointOk h.holder h.joint=false:=HT.out (by rw [HN.out,hin,hct];rfl)
             rw [hct] at hlk
             go_wp2_with fail
             refine A.out.mono ?_
             rintro e w2 ⟨rfl,hw2⟩
             rw [hw2]
             clear A hw2 w2
             go_wp2
             go_ret
             exact⟨by rw [← hr.out,CH.holdingOk_eq,hr'];simp,hb⟩
            | false =>
             have hr':CH.jointOk h.holder (h.joint.take (k+1))=true:=by rw [HN.out,hin,hct];rfl
             have HR:=hid hr'
             rw [hct] at hlk
             obtain⟨o',ho',hM'⟩:=HU.out hct
             clear hr' HN HT HU
             go_wp2_with fail
             refine A.out.mono ?_
             rintro e w2 ⟨rfl,hw2⟩
             rw [hw2]
             clear A hw2 w2
             go_wp2
             go_roundw
             case rel=>exact⟨k+1,by omega,by go_num,HR,hM',Ao hbR (Nat.le_refl _) _,Ao hb hr0 _⟩
             case measure=>simp [RowKit.intOf];omega
          ·have e:nj=k:=by omega
           subst e
           have hj:CH.jointOk h.holder h.joint=true:=by rw [← hu.out,← hnj,List.take_length]
           rw [show h.joint.take nj=h.joint from by rw [← hnj,List.take_length]] at hM
           have hblkr:=(hbR.block w.heap.size hlt0).trans hblk1'.out
           clear hu hbR
           have k0:wr.cell? ⟨w.heap.size,0,none⟩=some (.string ⟨h.id.toArray⟩):=cell_of hblkr 0
           have k1:wr.cell? ⟨w.heap.size,1,none⟩=some (.string ⟨h.company.toArray⟩):=cell_of hblkr 1
           have k2:wr.cell? ⟨w.heap.size,2,none⟩=some (.string ⟨h.holder.toArray⟩):=cell_of hblkr 2
           have k3:wr.cell? ⟨w.heap.size,3,none⟩=some (.string ⟨h.nominee.toArray⟩):=cell_of hblkr 3
           have k4:wr.cell? ⟨w.heap.size,4,none⟩=some (.string ⟨h.pledged.toArray⟩):=cell_of hblkr 4
           have k5:wr.cell? ⟨w.heap.size,5,none⟩=some (.slice aj nj cj):=cell_of hblkr 5
           have k6:wr.cell? ⟨w.heap.size,6,none⟩=some (.int .i64 h.capital):=cell_of hblkr 6
           have k7:wr.cell? ⟨w.heap.size,7,none⟩=some (.int .i64 h.votes):=cell_of hblkr 7
           have k8:wr.cell? ⟨w.heap.size,8,none⟩=some (.int .i64 h.start):=cell_of hblkr 8
           have k9:wr.cell? ⟨w.heap.size,9,none⟩=some (.int .i64 h.stop):=cell_of hblkr 9
           have hlk:=Bd Ds (Tryz.underlying165) (.bool false) Ev hM h.company
           rw [(Ek h.company (h.holder::h.joint) 0).1] at hlk
           have hse:=Cm h.company h.nominee
           cases hct:(h.holder::h.joint).contains h.company with
           | true =>
            rw [hct] at hlk
            clear PC DY
            go_wp2
            go_ret
            exact⟨by rw [← hr.out,CH.holdingOk_eq,hct];simp,hb⟩
           | false =>
            rw [hct] at hlk
            cases hcn:(h.company==h.nominee) with
            | true =>
             rw [hcn] at hse
             clear PC DY
             go_wp2
             go_ret
             exact⟨by rw [← hr.out,CH.holdingOk_eq,hcn];simp,hb⟩
            | false =>
             rw [hcn] at hse
             have A:=PC.out h.capital wr
             cases hp1:CH.within h.capital 100 with
             | false =>
              rw [hp1] at A
              replace A:=hid A
              clear PC DY
              go_wp2_with fail
              refine (A.out).mono ?_
              rintro e w9 ⟨rfl,hw9⟩
              rw [hw9]
              clear hw9 w9
              clear A
              go_wp2
              go_ret
              exact⟨by rw [← hr.out,CH.holdingOk_eq,hp1];simp,hb⟩
             | true =>
              rw [hp1] at A
              replace A:=hid A
              go_wp2_with fail
              refine (A.out).mono ?_
              rintro e w9 ⟨rfl,hw9⟩
              rw [hw9]
              clear hw9 w9
              clear A
              have A:=PC.out h.votes wr
              cases hp2:CH.within h.votes 100 with
              | false =>
               rw [hp2] at A
               replace A:=hid A
               clear PC DY
               go_wp2_with fail
               refine (A.out).mono ?_
               rintro e w9 ⟨rfl,hw9⟩
               rw [hw9]
               clear hw9 w9
               clear A
               go_wp2
               go_ret
               exact⟨by rw [← hr.out,CH.holdingOk_eq,hp2];simp,hb⟩
              | true =>
               rw [hp2] at A
               replace A:=hid A
               go_wp2_with fail
               refine (A.out).mono ?_
               rintro e w9 ⟨rfl,hw9⟩
               rw [hw9]
               clear hw9 w9
               clear A
               have A:=DY.out h.start wr
               cases hd1:CH.within h.start 100000 with
               | false =>
                rw [hd1] at A
                replace A:=hid A
                clear DY
                go_wp2_with fail
                refine (A.out).mono ?_
                rintro e w9 ⟨rfl,hw9⟩
                rw [hw9]
                clear hw9 w9
                clear A
                go_wp2
                go_ret
                exact⟨by rw [← hr.out,CH.holdingOk_eq,hd1];simp,hb⟩
               | true =>
                rw [hd1] at A
                replace A:=hid A
                go_wp2_with fail
                refine (A.out).mono ?_
                rintro e w9 ⟨rfl,hw9⟩
                rw [hw9]
                clear hw9 w9
                clear A
                cases hst:(h.stop==-1) with
                | true =>
                 clear DY
                 go_wp2
                 go_ret
                 exact⟨by rw [← hr.out,CH.holdingOk_eq];simp only [hj,hct,hcn,i1,i2,i3,i4,i5,h6',hN,h7',hp1,hp2,hd1,hst];rfl,hb⟩
                | false =>
                 have A:=DY.out h.stop wr
                 cases hd2:CH.within h.stop 100000 with
                 | false =>
                  rw [hd2] at A
                  replace A:=hid A
                  clear DY
                  go_wp2_with fail
                  refine (A.out).mono ?_
                  rintro e w9 ⟨rfl,hw9⟩
                  rw [hw9]
                  clear hw9 w9
                  clear A
                  go_wp2
                  go_ret
                  exact⟨by rw [← hr.out,CH.holdingOk_eq,hd2,hst];simp,hb⟩
                 | true =>
                  rw [hd2] at A
                  replace A:=hid A
                  clear DY
                  go_wp2_with fail
                  refine (A.out).mono ?_
                  rintro e w9 ⟨rfl,hw9⟩
                  rw [hw9]
                  clear hw9 w9
                  clear A
                  go_wp2
                  go_ret
                  exact⟨by rw [← hr.out,CH.holdingOk_eq];simp only [hj,hct,hcn,i1,i2,i3,i4,i5,h6',hN,h7',hp1,hp2,hd1,hst,hd2];rfl,hb⟩
      ·have d6:decide ((4:Int)<(nj:Int))=true:=by simp;omega
       have h6':decide (h.joint.length≤4)=false:=by rw [hnj];simpa using h6
       clear PC DY
       go_wp2
       go_ret
       exact⟨by rw [← hr.out,CH.holdingOk_eq,h6'];simp,hB⟩
end Go.Proofs.YtjepldaciejieaaGreatDoor
namespace Go.Proofs
section
open Go.Proofs.Tryz Go.Shelf
def Tryz.keys183_ren:Go.Shelf.Ren:=⟨fun|7=>183|10=>220|n=>n,fun|23=>165|26=>9|3=>4|28=>254|0=>0|27=>253|33=>103|4=>4|n=>n,fun|n=>n⟩
theorem Tryz.keys183:Go.Proofs.SlLaysZ.n7 prog Tryz.keys183_ren:={
 mixed:=by kernel_rfl
 f7:=⟨Tryz.f183.name,by decide,func183.trans (congrArg some (by kernel_rfl))⟩
 f10:=⟨Tryz.f220.name,by decide,func220.trans (congrArg some (by kernel_rfl))⟩
 t0:=underlying0
 a0:=isAgg0
 z0:=sizeOf0
 v0:=zeroValue0
 t4:=underlying4
 a4:=isAgg4
 z4:=sizeOf4
 v4:=zeroValue4
 t23:=underlying165
 a23:=isAgg165
 z23:=sizeOf165
 v23:=zeroValue165
 t26:=underlying9
 a26:=isAgg9
 z26:=sizeOf9
 v26:=zeroValue9
 t27:=underlying253
 a27:=isAgg253
 z27:=sizeOf253
 v27:=zeroValue253
 t28:=underlying254
 a28:=isAgg254
 z28:=sizeOf254
 v28:=zeroValue254
 t33:=underlying103
 a33:=isAgg103
 z33:=sizeOf103
 v33:=zeroValue103 }
def Tryz.sorted182_ren:Go.Shelf.Ren:=⟨fun|6=>182|8=>218|9=>219|11=>237|13=>171|12=>238|23=>211|24=>197|14=>251|15=>252|16=>253|17=>254|18=>255|19=>256|20=>257|21=>258|22=>259|25=>265|26=>231|27=>232|28=>266|29=>267|30=>268|31=>275|n=>n,fun|26=>9|28=>254|24=>25|0=>0|3=>3|37=>179|48=>234|50=>130|4=>4|40=>272|39=>271|45=>276|5=>5|9=>9|51=>286|55=>290|57=>309|58=>249|33=>103|n=>n,fun|n=>n⟩
theorem Tryz.sorted182:Go.Proofs.SlLaysZ.n6 prog Tryz.sorted182_ren:={
 mixed:=by kernel_rfl
 f6:=⟨Tryz.f182.name,by decide,func182.trans (congrArg some (by kernel_rfl))⟩
 f8:=⟨Tryz.f218.name,by decide,func218.trans (congrArg some (by kernel_rfl))⟩
 f11:=⟨Tryz.f237.name,by decide,func237.trans (congrArg some (by kernel_rfl))⟩
 t0:=underlying0
 a0:=isAgg0
 z0:=sizeOf0
 v0:=zeroValue0
 t24:=underlying25
 a24:=isAgg25
 z24:=sizeOf25
 v24:=zeroValue25
 t26:=underlying9
 a26:=isAgg9
 z26:=sizeOf9
 v26:=zeroValue9
 t28:=underlying254
 a28:=isAgg254
 z28:=sizeOf254
 v28:=zeroValue254
 i26:=by kernel_rfl }
def Tryz.sort219_ren:Go.Shelf.Ren:=⟨fun|6=>219|8=>171|9=>238|19=>211|20=>197|21=>251|22=>252|23=>253|24=>254|25=>255|26=>256|27=>257|28=>258|29=>259|36=>265|31=>231|32=>232|37=>266|38=>267|39=>268|41=>275|n=>n,fun|27=>25|29=>9|3=>3|32=>179|26=>25|0=>0|44=>234|46=>130|4=>4|36=>272|35=>271|41=>276|5=>5|9=>9|53=>286|57=>290|63=>309|64=>249|n=>n,fun|n=>n⟩
theorem Tryz.sort219:Go.Proofs.SlLaysM.n6 prog Tryz.sort219_ren:={
 mixed:=by kernel_rfl
 f6:=⟨Tryz.f219.name,by decide,func219.trans (congrArg some (by kernel_rfl))⟩
 f8:=func171.trans (congrArg some (by kernel_rfl))
 f9:=⟨Tryz.f238.name,by decide,func238.trans (congrArg some (by kernel_rfl))⟩
 f19:=func211.trans (congrArg some (by kernel_rfl))
 f20:=func197.trans (congrArg some (by kernel_rfl))
 f21:=⟨Tryz.f251.name,by decide,func251.trans (congrArg some (by kernel_rfl))⟩
 f22:=⟨Tryz.f252.name,by decide,func252.trans (congrArg some (by kernel_rfl))⟩
 f23:=⟨Tryz.f253.name,by decide,func253.trans (congrArg some (by kernel_rfl))⟩
 f24:=⟨Tryz.f254.name,by decide,func254.trans (congrArg some (by kernel_rfl))⟩
 f25:=⟨Tryz.f255.name,by decide,func255.trans (congrArg some (by kernel_rfl))⟩
 f26:=⟨Tryz.f256.name,by decide,func256.trans (congrArg some (by kernel_rfl))⟩
 f27:=⟨Tryz.f257.name,by decide,func257.trans (congrArg some (by kernel_rfl))⟩
 f28:=⟨Tryz.f258.name,by decide,func258.trans (congrArg some (by kernel_rfl))⟩
 f29:=⟨Tryz.f259.name,by decide,func259.trans (congrArg some (by kernel_rfl))⟩
 f31:=func231.trans (congrArg some (by kernel_rfl))
 f32:=func232.trans (congrArg some (by kernel_rfl))
 f36:=⟨Tryz.f265.name,by decide,func265.trans (congrArg some (by kernel_rfl))⟩
 f37:=⟨Tryz.f266.name,by decide,func266.trans (congrArg some (by kernel_rfl))⟩
 f38:=⟨Tryz.f267.name,by decide,func267.trans (congrArg some (by kernel_rfl))⟩
 f39:=⟨Tryz.f268.name,by decide,func268.trans (congrArg some (by kernel_rfl))⟩
 f41:=⟨Tryz.f275.name,by decide,func275.trans (congrArg some (by kernel_rfl))⟩
 t0:=underlying0
 a0:=isAgg0
 z0:=sizeOf0
 v0:=zeroValue0
 t3:=underlying3
 a3:=isAgg3
 z3:=sizeOf3
 v3:=zeroValue3
 t4:=underlying4
 a4:=isAgg4
 z4:=sizeOf4
 v4:=zeroValue4
 t5:=underlying5
 a5:=isAgg5
 z5:=sizeOf5
 v5:=zeroValue5
 t9:=underlying9
 a9:=isAgg9
 z9:=sizeOf9
 v9:=zeroValue9
 t26:=underlying25
 a26:=isAgg25
 z26:=sizeOf25
 v26:=zeroValue25
 t27:=underlying25
 a27:=isAgg25
 z27:=sizeOf25
 v27:=zeroValue25
 t29:=underlying9
 a29:=isAgg9
 z29:=sizeOf9
 v29:=zeroValue9
 t32:=underlying179
 a32:=isAgg179
 z32:=sizeOf179
 v32:=zeroValue179
 t35:=underlying271
 a35:=isAgg271
 z35:=sizeOf271
 v35:=zeroValue271
 t36:=underlying272
 a36:=isAgg272
 z36:=sizeOf272
 v36:=zeroValue272
 t41:=underlying276
 a41:=isAgg276
 z41:=sizeOf276
 v41:=zeroValue276
 t44:=underlying234
 a44:=isAgg234
 z44:=sizeOf234
 v44:=zeroValue234
 t46:=underlying130
 a46:=isAgg130
 z46:=sizeOf130
 v46:=zeroValue130
 t53:=underlying286
 a53:=isAgg286
 z53:=sizeOf286
 v53:=zeroValue286
 t57:=underlying290
 a57:=isAgg290
 z57:=sizeOf290
 v57:=zeroValue290
 t63:=underlying309
 a63:=isAgg309
 z63:=sizeOf309
 v63:=zeroValue309
 t64:=underlying249
 a64:=isAgg249
 z64:=sizeOf249
 v64:=zeroValue249 }
open Go.RowKit Go.Maps Go.Sort Go.Shelf in
theorem Tryz.sorts182 (m:Nat):AnyZ.SortsIn prog Tryz.sorted182_ren Fence.wide m :=
 ⟨fun blk off cap ss W hH hblk hsz=>callsIn_wide.2 (AnyM.slices_Sort_string Tryz.sort219 blk off cap ss W hH hblk hsz),
  fun p cap W=>callsIn_wide.2 (AnyM.slices_Sort_string_none Tryz.sort219 p cap W)⟩
open Go.RowKit Go.Maps Go.Sort Go.Shelf in
theorem Tryz.maps_Keys_183 (mb:Option Nat) (W:World):CallsIn Fence.wide 5 prog 183 #[.map mb] W fun e w'=>e=.returned (.func (.func 220) #[] #[.pointer (some ⟨W.heap.size,0,none⟩)])∧w'=W.alloc (.cells #[.map mb] 165) :=
 AnyZ.keys_in Tryz.keys183 Fence.wide 5 trivial rfl mb W
open Go.RowKit Go.Maps Go.Sort Go.Shelf in
theorem Tryz.slices_Sorted_keys_182_183 {H:Type} (b nn:Nat) (D0:DataW H) (R:Value→Option (DataW H × List MemPlace)) (w:World) (hown:w.ownsMap prog 9 R b nn D0) (hmax:Maps.size D0≤maxLen) (hbytes:Maps.size D0*16≤140737488355328) :
  CallsIn Fence.wide 5 prog 182 #[.func (.func 220) #[] #[.pointer (some ⟨w.heap.size,0,none⟩)]] (w.alloc (.cells #[.map (some b)] 165)) fun e w'=>∃ (v:Value) (ss:List (List UInt8)),e=.returned v∧ss.Perm (strKeys D0) ∧
   w'.ownsRow (w.alloc (.cells #[.map (some b)] 165)).heap.size 9 1 v ss.length ((ss.mergeSort (fun x y=>decide (x≤y))).map encStr)∧(v=.slice none 0 0↔ss=[])∧Below (w.alloc (.cells #[.map (some b)] 165)).heap.size (w.alloc (.cells #[.map (some b)] 165)) w':=by
 have hbl:=hown.lt
 have hseq:SeqGives Fence.wide 2 prog 220 #[.pointer (some ⟨w.heap.size,0,none⟩)] encStr (fun ss=>ss.Perm (strKeys D0)) (Maps.size D0) (w.alloc (.cells #[.map (some b)] 165)) :=
  AnyZ.keys_gives (ρ:=Tryz.keys183_ren) { Tryz.keys183 with } Fence.wide _ trivial rfl (by omega) w.heap.size b nn D0 _ (by simp) (by simp) (by
   obtain⟨es,clock,hb,Ft,hs,hD⟩:=hown
   exact⟨es,clock,(Below.heap_alloc _ _ b hbl).trans hb,Ft,hs,hD⟩)
 exact AnyZ.sorted_in Tryz.sorted182 Fence.wide 5 trivial trivial trivial trivial rfl (by omega) (Tryz.sorts182 _) (enters_of func219 (by kernel_rfl) rfl) 220 #[.pointer (some ⟨w.heap.size,0,none⟩)] trivial (enters_of func220 (by kernel_rfl) rfl) _ _ hmax hbytes _ hseq
end
end Go.Proofs
namespace Go.Proofs.YtjepldaciejieaaGreatDoor
section
open Go.Lib Go.Proofs.Tryz Go.RowKit
theorem run_append_nil {P:Program} (w:World) (t ty e:TypeId) (i:TypeInfo) (ht:P.underlying t=some (.slice e)) (hi:P.info? e=some i) (a:Option Addr) (n cap c:Nat) (hn:n≤cap) :
  (Builtin.append_ #[t,t] ty #[.slice a n cap,.slice none 0 c]).run P w=.ok (.slice a n cap) w:=by
 cases a with
 | none=>simp [Builtin.append_,run_underlying ht,sizeOf,typeInfo,hi,Builtin.lenOf,Builtin.firstCells,hn,Result.andThen]
 | some a=>simp [Builtin.append_,run_underlying ht,sizeOf,typeInfo,hi,Builtin.lenOf,Builtin.firstCells,hn,Result.andThen,storeCells]
def Source (w:World) (vx:Value) (m:Nat) (news:List Value):Prop :=
 (∃ ad c,vx=.slice (some ad) m c∧∀ j u,news[j]?=some u→w.cell? (ad.add j)=some u)∨(∃ c,vx=.slice none 0 c∧m=0∧news=[])
theorem wpList_append_any {P:Program} (w:World) {ops:Array Oper} {rest:List Oper} {o:Oper} {a:Act} {Q:Exit→Act→World→Prop} (hgd:o.guard=none) (s x:Operand) (t:TypeId)
  (ho:o.op=.call { callee:=.builtin .append,args:=#[s,x],argTypes:=#[t,t] })
  (base:Nat) (e:TypeId) (i:TypeInfo) (z:Value) (size bytes:Nat) (ht:P.underlying t=some (.slice e)) (hi:P.info? e=some i) (hz:i.zero=some z)
  (hsize:i.size=size) (hby:i.bytes=bytes) (hzs:z.cells.size=size) (hsz:0<size)
  (v:Value) (n:Nat) (xs:List Value) (hs:a.eval s=v) (hown:w.ownsRow base e size v n xs)
  (vx:Value) (m:Nat) (news:List Value) (hx:a.eval x=vx) (hsrc:Source w vx m news) (hl:news.length=m*size) (h1:∀ u∈news,u.oneCell'=true)
  (h63:n+m≤maxLen) (hbytes:(n+m)*bytes≤140737488355328) (hbase:base≤w.heap.size)
  (h:∀ v' w',w'.ownsRow base e size v' (n+m) (xs++news)→w.grownBy w' v.ownBlock→(v'.ownBlock=v.ownBlock∨v'.ownBlock=some w.heap.size)→wpList P ops Q rest (a.put o.dst v') w') :
  wpList P ops Q (o::rest) a w:=by
 rcases hsrc with⟨ad,c,rfl,hnews⟩|⟨c,rfl,rfl,rfl⟩
 ·exact wpList_append_own_at w hgd s x t ho base e i z size bytes ht hi hz hsize hby hzs hsz v n xs hs hown ad m c news hx hl hnews h1 h63 hbytes hbase (fun v' w' a1 a2 _ a4=>h v' w' a1 a2 a4)
 ·refine wpList_plain hgd fun K hK=>?_
  obtain⟨av,cv,rfl,hcv⟩:∃ av cv,v=.slice av n cv∧n≤cv:=by
   obtain⟨hlen,⟨rfl,h0⟩|⟨g,cap,cur,rfl,hb,hg,hn,hc,hsz',htk⟩⟩:=hown
   ·exact⟨none,0,by rw [h0],by omega⟩
   ·exact⟨_,cap,rfl,hn⟩
  have hr:=run_append_nil (P:=P) w t o.type e i ht hi av n cv c hcv
  unfold Oper.wp execOp
  simp only [ho,resolve,invoke,builtin,Sem.run_bind,Sem.run_pure,Result.andThen_ok,List.map_toArray,List.map_cons,List.map_nil,hs,hx,hr]
  exact hK _ _ (h _ _ (by simpa using hown) (World.grownBy.refl _ _) (.inl rfl))
theorem Strs.source {B:Nat} {w:World} {v:Value} {ls:List (List UInt8)} (h:Strs B w v ls):Source w v ls.length (ls.map strV):=by
 obtain⟨a,cap,rfl,h1,h2,h3⟩:=h
 cases a with
 | none =>
  have:ls=[]:=by
   apply Classical.byContradiction
   intro hne
   obtain⟨b,off,e,_⟩:=h3 hne
   cases e
  subst this
  exact .inr ⟨cap,rfl,rfl,rfl⟩
 | some ad =>
  refine .inl ⟨ad,cap,rfl,fun j u hj=>?_⟩
  have hne:ls≠[]:=fun e=>by rw [e] at hj;simp at hj
  obtain⟨b,off,e,_,hc⟩:=h3 hne
  cases e
  rw [List.getElem?_map] at hj
  cases hl:ls[j]? with
  | none=>rw [hl] at hj;cases hj
  | some l =>
   rw [hl] at hj
   cases hj
   have:=hc j l hl
   rw [show (⟨b,off,none⟩:Addr).add j=⟨b,off+j,none⟩ from by simp [Addr.add]]
   exact this
theorem append_strs {w:World} {ops:Array Oper} {rest:List Oper} {o:Oper} {a:Act} {Q:Exit→Act→World→Prop} (hgd:o.guard=none) (s x:Operand)
  (ho:o.op=.call { callee:=.builtin .append,args:=#[s,x],argTypes:=#[25,25] })
  (base:Nat) (v:Value) (ls:List (List UInt8)) (hs:a.eval s=v) (hown:Ag base w v ls) (B:Nat) (vx:Value) (lx:List (List UInt8)) (hx:a.eval x=vx)
  (hX:Strs B w vx lx) (hlen:ls.length+lx.length≤1099511627776) (hbase:base≤w.heap.size)
  (h:∀ v' w',Ag base w' v' (ls++lx)→w.grownBy w' v.ownBlock→(v'.ownBlock=v.ownBlock∨v'.ownBlock=some w.heap.size)→wpList prog ops Q rest (a.put o.dst v') w') :
  wpList prog ops Q (o::rest) a w:=by
 obtain⟨i,hi,hz0,hz1,hz2⟩:=info_parts strInfo
 refine wpList_append_any w hgd s x 25 ho base 9 i _ 1 16 underlying25 hi hz0 hz1 hz2 rfl (by decide) v ls.length _ hs hown vx lx.length (lx.map strV) hx hX.source (by simp) ?_ ?_ ?_ hbase ?_
 ·intro u hu
  obtain⟨l,_,rfl⟩:=List.mem_map.1 hu
  rfl
 ·unfold maxLen;omega
 ·omega
 ·intro v' w' h1 h2 h4
  exact h v' w' (by unfold Ag;simpa using h1) h2 h4
end
section
open Go.Lib Go.Maps Go.Proofs.Tryz Go.RowKit Go.Shelf Go.Sort
theorem _root_.Go.World.grownBy.trans' {w w1 w2:World} {row:Option Nat} (h:w.grownBy w1 row) (h':w1.grownBy w2 row):w.grownBy w2 row :=
 ⟨h'.os.trans h.os,h'.tape.trans h.tape,h'.output.trans h.output,nT h.size h'.size,fun k hk hne=>(h'.block k (nL hk h.size) hne).trans (h.block k hk hne)⟩
abbrev OwnSet (w:World) (r n:Nat) (D:DataW Unit):Prop:=w.ownsMap prog 9 (plainElem prog 4) r n D
theorem upd_any {w:World} {r n:Nat} {D:DataW Unit} (h:OwnSet w r n D) (hn:n<1000000) (x:List UInt8) (hx:x.length≤10000) :
  ∃ w',(Instr.mapUpdate 165 (.map (some r)) (.string ⟨x.toArray⟩) (.bool true)).run prog w=.ok () w'∧(∃ D',OwnSet w' r (n+1) D')∧w.grownBy w' (some r):=by
 obtain⟨w',h1,h2,h3⟩:=h.update (Maps.string_keyed underlying9) underlying165 (by unfold maxLen;omega) (key:=.string ⟨x.toArray⟩) (val:=.bool true) (kl:=.string x) (WideMaps.keyOf_string_mk underlying9 (by show x.toArray.size≤maxLen;unfold maxLen;simp;omega)) (plainElem_bool underlying4 true)
 exact⟨w',h1,⟨_,h2⟩,h3⟩
def SomeStrs (w:World) (n:Nat) (e:Ending) (w':World):Prop:=∃ a m c,e=.returned (.slice a m c)∧m≤n∧Below w.heap.size w w'
theorem sorted_any {w:World} {r n:Nat} {D:DataW Unit} (h:OwnSet w r n D) (hn:n≤1000000) :
  Calls prog 140 #[.map (some r)] w (SomeStrs w n):=by
 have hs:=h.size_le
 refine (callsIn_wide (n:=6)).1 ?_
 have hfK:Fence.wide.fn 183:=trivial
 have hfS:Fence.wide.fn 182:=trivial
 refine callsIn_of_wp func140 rfl trivial ?_ rfl
 simp only [ntmps140,List.size_toArray,List.length_cons,List.length_nil,Nat.reduceAdd,Nat.reduceSub,Array.replicate_succ,Array.replicate_zero,List.push_toArray,List.append_toArray,List.nil_append,List.cons_append]
 gi_wp2_with (first
  |(gi_at_call 183;refine (Tryz.maps_Keys_183 _ _).mono ?_;rintro e w' ⟨rfl,rfl⟩)
  |(gi_at_call 182;refine (Tryz.slices_Sorted_keys_182_183 r n D _ w h (by unfold maxLen;omega) (by omega)).mono ?_;rintro e w' ⟨v,ss,rfl,hS,hrow,hnil,hb⟩))
 have hl:ss.length≤n:=by
  rw [hS.length_eq]
  refine nT ?_ hs
  cases D <;> simp [strKeys,Maps.size]
 obtain⟨av,cv,rfl⟩:∃ a c,v=.slice a ss.length c:=by
  obtain⟨hlen,⟨rfl,h0⟩|⟨g,cap,cur,rfl,_⟩⟩:=hrow
  ·exact⟨none,0,by rw [h0]⟩
  ·exact⟨_,cap,rfl⟩
 gi_wp2
 go_ret
 exact⟨_,_,_,rfl,hl,((Below.refl _ w).alloc nR _).trans (hb.mono (by simp))⟩
end
section
open Go.Lib Go.Proofs.Tryz Go.RowKit Go.Shelf Go.Sort
def Hold1 (B:Nat) (w:World) (v:Value) (h:CH.Holding):Prop :=
 ∃ (b:Nat) (vj:Value),v=.slice (some ⟨b,0,none⟩) 1 1∧b<B∧(∀ j x,(Ar h vj)[j]?=some x→w.cell? ⟨b,j,none⟩=some x)∧Strs B w vj h.joint
theorem Eo (w:World) (ls:List (List UInt8)) (h:ls.length≤1000000):Ag w.heap.size (w.alloc (.cells (ls.map strV).toArray 9)) (.slice (some ⟨w.heap.size,0,none⟩) ls.length ls.length) ls:=by
 refine⟨by simp,.inr ⟨w.heap.size,ls.length,(ls.map strV).toArray,rfl,Nat.le_refl _,heap_alloc_last _ _,Nat.le_refl _,?_,?_,?_⟩⟩
 ·unfold maxLen;omega
 ·simp
 ·simp [List.take_of_length_le]
theorem parties_any (v:Value) (h:CH.Holding) (w:World) (hv:Hold1 w.heap.size w v h) (hS:HoldSmall h) :
  Calls prog 93 #[v] w (SomeStrs w (4+h.joint.length)):=by
 obtain⟨b,vj,rfl,hb,hc,hj⟩:=hv
 obtain⟨aj,cj,rfl,hj1,hj2⟩:=hj.form
 generalize hnj:h.joint.length=nj at *
 have hmm:=@run_makeMap prog
 go_enter func93,ntmps93
 go_wp2_with fail
 go_loopw [11] (fun iv wr=>(iv=.int .i64 0∧wr=w.alloc (.map #[] 0))∨(iv=.int .i64 1∧(∃ n D,n≤4+nj∧OwnSet wr w.heap.size n D)∧Below w.heap.size w wr)) (fun iv _=>1 - (RowKit.intOf iv).toNat)
 case atStart=>exact .inl ⟨rfl,rfl⟩
 case round =>
  rcases hrel with⟨rfl,rfl⟩|⟨rfl,⟨n,D,hn,hM⟩,hb9⟩
  ·have hB0:=(Below.refl _ w).alloc nR (.map #[] 0)
   have k:∀ j x,(Ar h (.slice aj nj cj))[j]?=some x→(w.alloc (.map #[] 0)).cell? ⟨b,j,none⟩=some x:=fun j x hx=>(hB0.cell (p:=⟨b,j,none⟩) hb).trans (hc j x hx)
   have k0:=k 0 _ rfl
   have k1:=k 1 _ rfl
   have k2:=k 2 _ rfl
   have k3:=k 3 _ rfl
   have k4:=k 4 _ rfl
   have k5:=k 5 _ rfl
   have k6:=k 6 _ rfl
   have k7:=k 7 _ rfl
   have k8:=k 8 _ rfl
   have k9:=k 9 _ rfl
   have K:=hid k
   clear k hc
   have hM0:=World.ownsMap_made (H:=Unit) w prog 9 (plainElem prog 4)
   have hr0:w.heap.size<(w.alloc (.map #[] 0)).heap.size:=by simp
   generalize hW:w.alloc (.map #[] 0)=W at *
   go_wp2_with fail
   have hM1:=hM0.alloc (.cells #[strV h.id,strV h.company,strV h.holder,strV h.nominee,strV h.pledged,.slice aj nj cj,intV h.capital,intV h.votes,intV h.start,intV h.stop] 49)
   have hblk:=heap_alloc_last W (.cells #[strV h.id,strV h.company,strV h.holder,strV h.nominee,strV h.pledged,.slice aj nj cj,intV h.capital,intV h.votes,intV h.start,intV h.stop] 49)
   have hB1:=hB0.alloc (Nat.le_of_lt hr0) (.cells #[strV h.id,strV h.company,strV h.holder,strV h.nominee,strV h.pledged,.slice aj nj cj,intV h.capital,intV h.votes,intV h.start,intV h.stop] 49)
   generalize hW1:W.alloc (.cells #[strV h.id,strV h.company,strV h.holder,strV h.nominee,strV h.pledged,.slice aj nj cj,intV h.capital,intV h.votes,intV h.start,intV h.stop] 49)=W1 at *
   have hMd:=hM1.drew
   obtain⟨wa,ra,⟨Da,ma⟩,ga⟩:=upd_any hMd (by decide) h.company hS.company
   obtain⟨wab,rab,⟨Dab,mab⟩,gab⟩:=upd_any ma (by decide) h.holder hS.holder
   obtain⟨wb,rb,⟨Db,mb⟩,gb⟩:=upd_any hMd (by decide) h.holder hS.holder
   obtain⟨wba,rba,⟨Dba,mba⟩,gba⟩:=upd_any mb (by decide) h.company hS.company
   have ltW:W.heap.size<W1.heap.size:=(aZ hblk)
   have neW:W.heap.size≠w.heap.size:=by omega
   have keepB:∀ W',W1.grownBy W' (some w.heap.size)→W'.heap[W.heap.size]?=some (.cells #[strV h.id,strV h.company,strV h.holder,strV h.nominee,strV h.pledged,.slice aj nj cj,intV h.capital,intV h.votes,intV h.start,intV h.stop] 49 (0,0)):=fun W' hg=>(hg.block _ ltW (fun e=>neW (Option.some.inj e))).trans hblk
   have hgd:W1.grownBy W1.drew (some w.heap.size):=⟨rfl,rfl,rfl,Nat.le_refl _,fun _ _ _=>rfl⟩
   have S0:=keepB _ hgd
   have Sa:=keepB _ (hgd.trans' ga)
   have Sab:=keepB _ ((hgd.trans' ga).trans' gab)
   have Sb:=keepB _ (hgd.trans' gb)
   have Sba:=keepB _ ((hgd.trans' gb).trans' gba)
   have two:∀ {W':World},W'.heap[W.heap.size]?=some (.cells #[strV h.id,strV h.company,strV h.holder,strV h.nominee,strV h.pledged,.slice aj nj cj,intV h.capital,intV h.votes,intV h.start,intV h.stop] 49 (0,0))→W'.cell? ⟨W.heap.size,1,none⟩=some (.string ⟨h.company.toArray⟩)∧W'.cell? ⟨W.heap.size,2,none⟩=some (.string ⟨h.holder.toArray⟩):=fun hq=>⟨cell_of hq 1,cell_of hq 2⟩
   have Q0:=two S0
   have Qa:=two Sa
   have Qab:=two Sab
   have Qb:=two Sb
   have Qba:=two Sba
   have HK:=hid keepB
   have H1:=hid hblk
   clear keepB hblk two S0 Sa Sab Sb Sba k0 k1 k2 k3 k4 k5 k6 k7 k8 k9
   go_region_held3 (fun W'=>W'.cell? ⟨W.heap.size,1,none⟩=some (.string ⟨h.company.toArray⟩)∧W'.cell? ⟨W.heap.size,2,none⟩=some (.string ⟨h.holder.toArray⟩)) (first|exact Q0|exact Qa|exact Qab|exact Qb|exact Qba) (fail)
   have Gab:=(hgd.trans' ga).trans' gab
   have hblk2:=HK.out _ Gab
   have hB2:Below w.heap.size w wab:=hB1.grown Gab (Nat.le_of_lt (Nat.lt_trans hr0 ltW)) (fun k e=>by cases e;exact Nat.le_refl _)
   have hsz2:W.heap.size<wab.heap.size:=(aZ hblk2)
   clear Q0 Qa Qab Qb Qba HK H1 ra rab rb rba gba gb ga gab mba mb ma hgd Gab hMd hM1 hM0 hB1
   have k3:wab.cell? ⟨W.heap.size,3,none⟩=some (.string ⟨h.nominee.toArray⟩):=cell_of hblk2 3
   have k4:wab.cell? ⟨W.heap.size,4,none⟩=some (.string ⟨h.pledged.toArray⟩):=cell_of hblk2 4
   have k5:(wab.alloc (.cells #[.string ⟨h.nominee.toArray⟩,.string ⟨h.pledged.toArray⟩] 9)).cell? ⟨W.heap.size,5,none⟩=some (.slice aj nj cj):=by
    rw [World.cell?_alloc_some _ _ _ (by rw [cell_of hblk2 5];rfl)];exact cell_of hblk2 5
   have hO:=Eo wab [h.nominee,h.pledged] (by simp)
   have hBa:Below wab.heap.size wab (wab.alloc (.cells #[.string ⟨h.nominee.toArray⟩,.string ⟨h.pledged.toArray⟩] 9)):=(Below.refl _ wab).alloc nR _
   have hJ:=(hj.below (hB2.trans (hBa.mono hB2.size)) nR)
   have hMa:=mab.alloc (.cells #[.string ⟨h.nominee.toArray⟩,.string ⟨h.pledged.toArray⟩] 9)
   have hszA:wab.heap.size≤(wab.alloc (.cells #[.string ⟨h.nominee.toArray⟩,.string ⟨h.pledged.toArray⟩] 9)).heap.size:=by simp
   go_wp2_with (refine append_strs rfl _ _ rfl wab.heap.size _ [h.nominee,h.pledged] rfl hO w.heap.size _ h.joint rfl hJ (by have:=hS.joint.1;simp;omega) hszA ?_;intro v3 w3 hO3 hg3 h43;clear h43;obtain⟨a3,c3,rfl,hf3⟩:=hO3.form)
   have hne:some w.heap.size≠some wab.heap.size:=fun e=>by injection e;omega
   have hM3:=hMa.kept hg3 hne
   have hB3:Below w.heap.size w w3:=(hB2.trans (hBa.mono hB2.size)).grown hg3 (nT hB2.size hszA) (fun k e=>by cases e;exact hB2.size)
   have hN:([h.nominee,h.pledged]++h.joint).length=nj+1+1:=by simp;omega
   rw [hN] at hO3 hf3
   obtain⟨hc3,hc3',hf3'⟩:=hf3
   obtain⟨g,rfl,hg1,hg2⟩:=hf3' (by simp)
   have hLs:∀ x∈[h.nominee,h.pledged]++h.joint,x.length≤10000:=fun x hx=>by
    simp only [List.cons_append,List.nil_append,List.mem_cons] at hx
    rcases hx with rfl|rfl|hx
    ·exact hS.nominee
    ·exact hS.pledged
    ·exact hS.joint.2 x hx
   have hLs:=hid hLs
   generalize hLL:[h.nominee,h.pledged]++h.joint=L at *
   generalize hNN:nj+1+1=N at *
   clear k3 k4 k5 hO hJ hMa hf3' hBa hblk2 hg3
   go_loopw [30] (fun iv wr=>∃ (k n:Nat) (D:DataW Unit),k≤N∧iv=.int .i64 k∧n≤2+k∧OwnSet wr w.heap.size n D∧Ag wab.heap.size wr (.slice (some ⟨g,0,none⟩) N c3) L∧Below w.heap.size w wr) (fun iv _=>N - (RowKit.intOf iv).toNat)
   case atStart=>exact⟨0,2,Dab,Nat.zero_le _,rfl,Nat.le_refl _,hM3,hO3,hB3⟩
   case round =>
    obtain⟨k,n,D,hk,rfl,hnk,hMr,hOr,hBr⟩:=hrel
    have hnj':nj≤100000:=by have:=hS.joint.1;omega
    by_cases hlt:k<N
    ·obtain⟨x,hx⟩:∃ x,L[k]?=some x:=⟨_,lZ (by omega)⟩
     have hxl:=hLs.out x (List.mem_of_getElem? hx)
     have hck:wr.cell? ⟨g,k,none⟩=some (.string ⟨x.toArray⟩):=by
      obtain⟨a',c',e',_,_,hcc⟩:=hOr.strs
      cases e'
      obtain⟨b',o',e',_,hcc'⟩:=hcc (fun e=>by rw [e] at hx;simp at hx)
      cases e'
      simpa using hcc' k x hx
     cases hxe:List.isEmpty x with
     | true =>
      clear hx
      go_wp2
      go_roundw
      case rel=>exact⟨k+1,n,D,by omega,by go_num,by omega,hMr,hOr,hBr⟩
      case measure=>simp [RowKit.intOf];omega
     | false =>
      obtain⟨wu,ru,⟨Du,mu⟩,gu⟩:=upd_any hMr (by omega) x hxl
      have hOu:Ag wab.heap.size wu (.slice (some ⟨g,0,none⟩) N c3) L:=World.ownsRow.kept hOr gu (.inr (fun e=>by simp [Value.ownBlock] at e;omega))
      have hBu:=hBr.grown gu hBr.size (fun k e=>by cases e;exact Nat.le_refl _)
      clear hx
      go_wp2
      go_roundw
      case rel=>exact⟨k+1,n+1,Du,by omega,by go_num,by omega,mu,hOu,hBu⟩
      case measure=>simp [RowKit.intOf];omega
    ·have e:N=k:=by omega
     subst e
     go_wp2
     go_roundw
     case rel=>exact .inr ⟨by go_num,⟨n,D,by omega,hMr⟩,hBr⟩
     case measure=>simp [RowKit.intOf]
  ·have hA:=hid (sorted_any hM (by have:=hS.joint.1;omega))
   go_wp2_with fail
   refine hA.out.mono ?_
   rintro e w2 ⟨a2,m2,c2,rfl,hm2,hb2⟩
   clear hA
   go_wp2
   go_ret
   exact⟨_,_,_,rfl,by omega,hb9.trans (hb2.mono hb9.size)⟩
def Cu:Array Value:=#[.string ⟨#[]⟩,.string ⟨([112,108,97,105,110]:List UInt8).toArray⟩,.string ⟨([99,97,115,101,100]:List UInt8).toArray⟩,.string ⟨([97,98,106,97,100]:List UInt8).toArray⟩,.string ⟨([115,121,108,108,97,98]:List UInt8).toArray⟩]
theorem titles_any (w:World):Calls prog 128 #[] w (Ret w (.agg Cu)):=by
 go_enter func128,ntmps128
 go_wp2
 refine bodyPost_ret (C9 (p:=0) (ty:=201) rfl _ _ ⟨w.heap.size,0,none⟩ _ rfl (run_loadVar_mid _ w.heap.size 0 201 Cu.toList _ (fun j v hv=>?_) underlying201 rfl (by kernel_rfl))) rfl ?_
 ·rw [Nat.zero_add,World.cell?_alloc_mark]
  have hv':Cu[j]?=some v:=by simpa using hv
  exact hv'
 ·exact⟨rfl,(Below.refl _ w).alloc nR _⟩
theorem script_of_ok {n:CH.Name} (h:CH.nameOk n=true):1≤n.script∧n.script≤4:=by
 unfold CH.nameOk at h
 simp only [Bool.and_eq_true,decide_eq_true_eq] at h
 obtain⟨hall,h0,_⟩:=h
 cases hw:n.words with
 | nil=>rw [hw] at h0;simp at h0
 | cons x l =>
  rw [hw] at hall
  have hx:CH.wordOk n.script x=true:=List.all_eq_true.1 hall x (by simp)
  apply Classical.byContradiction
  intro hn
  have hs:CH.slen n.script x=0:=by
   unfold CH.slen
   rw [if_neg (by omega),if_neg (by omega),if_neg (by omega),if_neg (by omega)]
  have hl:CH.letters n.script 13 x=([],x):=CH.letters_zero_stop _ _ _ hs
  unfold CH.wordOk at hx
  rw [hl] at hx
  simp at hx
theorem Ej (sep:List UInt8) (m:Nat):∀ ls:List (List UInt8),(∀ l∈ls,l.length≤m)→(CH.join sep ls).length≤ls.length*(m+sep.length):=by
 intro ls
 induction ls with
 | nil=>intro _;simp [CH.join]
 | cons x l ih =>
  intro h
  have hx:=h x (by simp)
  cases l with
  | nil=>simp [CH.join];omega
  | cons y l =>
   have:=ih (fun z hz=>h z (by simp at hz ⊢;right;exact hz))
   rw [CH.join]
   simp only [List.length_append,List.length_cons] at this ⊢
   have e:(l.length+1+1)*(m+sep.length)=(l.length+1)*(m+sep.length)+(m+sep.length):=Nat.succ_mul _ _
   omega
theorem Ep (cs:List Value) (n:CH.Name) (w:World) (hG:Gc w) (hn:NameIs w.heap.size w cs n) (hS:Short n.words) (hok:CH.nameOk n=true) :
  Calls prog 82 #[.agg cs.toArray] w (Ret w (.tuple #[.string ⟨(CH.nameText n).toArray⟩,.int .i64 0])):=by
 have hsc:=script_of_ok hok
 have hV:=fun (w':World) (hb:Below w.heap.size w w')=>nameValid_any cs n w' (hG.below hb) (by
  obtain⟨vw,h1,h2⟩:=hn
  exact⟨vw,h1,(h2.below hb nR).mono hb.size⟩) hS
 obtain⟨vw,rfl,hw⟩:=hn
 have hJl:(CH.join [32] n.words).length≤1000000000000:=by
  have h1:=Ej [32] 10000 n.words hS.2
  have h2:=hS.1
  have h3:n.words.length*(10000+1)≤100000*(10000+1):=Nat.mul_le_mul_right _ h2
  simp only [List.length_cons,List.length_nil,Nat.zero_add] at h1
  omega
 have hJ:=fun (w':World) (hb:Below w.heap.size w w')=>D5 vw n.words [32] w' ((hw.below hb nR).mono hb.size) (by have:=hS.1;omega) (by omega)
 rw [hok] at hV
 obtain⟨aw,cw,rfl,hc1,hc2⟩:=hw.form
 obtain⟨res,hres⟩:∃ r,Hid (CH.nameText n=r):=⟨_,hid rfl⟩
 rw [hres.out]
 have hres':Hid (CH.title n.script++[58]++CH.join [32] n.words=res):=hid hres.out
 clear hres hw
 generalize CH.join [32] n.words=J at *
 generalize hN:n.words.length=N at *
 have HV:=hid hV
 have HJ:=hid hJ
 clear hV hJ
 have hB0:=fun o=>(Below.refl _ w).alloc nR o
 go_enter func82,ntmps82
 go_wp2_with fail
 refine (HV.out _ (hB0 _)).mono ?_
 rintro e w1 ⟨rfl,hb1⟩
 have hB1:Below w.heap.size w w1:=(hB0 _).trans (hb1.mono (by simp))
 have hblk:=(hb1.block w.heap.size (by simp)).trans (heap_alloc_last w _)
 have hlt:w.heap.size<w1.heap.size:=(aZ hblk)
 clear hb1 HV
 have c0:w1.cell? ⟨w.heap.size,0,none⟩=some (.int .i64 n.script):=cell_of hblk 0
 have c1:w1.cell? ⟨w.heap.size,1,none⟩=some (.slice aw N cw):=cell_of hblk 1
 go_wp2_with fail
 have cT:∀ W',Below w1.heap.size w1 W'→Calls prog 128 #[] W' (fun e w'=>e=.returned (.agg Cu)∧Below W'.heap.size W' w'):=fun W' _=>titles_any W'
 have cJ:∀ W',Below w1.heap.size w1 W'→Calls prog 83 #[.slice aw N cw,.string ⟨#[32]⟩] W' (fun e w'=>e=.returned (.string ⟨J.toArray⟩)∧Below W'.heap.size W' w'):=fun W' hb=>HJ.out W' (hB1.trans (hb.mono hB1.size))
 have g1:∀ (d:Nat) (os:Array Obj),(grow (redrawn w1 d) os).cell? ⟨w.heap.size,1,none⟩=some (.slice aw N cw):=cell_regrown c1
 have hk:n.script=1∨n.script=2∨n.script=3∨n.script=4:=by omega
 clear HJ hblk
 rcases hk with hk|hk|hk|hk
 ·rw [hk] at c0 hres'
  have g0:∀ (d:Nat) (os:Array Obj),(grow (redrawn w1 d) os).cell? ⟨w.heap.size,0,none⟩=_:=cell_regrown c0
  clear hsc hk c0 c1
  dsimp only [Cu] at cT
  have hix:∀ w,(Instr.index 201 (.agg #[.string ⟨#[]⟩,.string ⟨#[112,108,97,105,110]⟩,.string ⟨#[99,97,115,101,100]⟩,.string ⟨#[97,98,106,97,100]⟩,.string ⟨#[115,121,108,108,97,98]⟩]) (.int .i64 1)).run prog w=.ok (.string ⟨#[112,108,97,105,110]⟩) w:=fun w=>by simp [Instr.index,run_underlying underlying201,go_sem]
  have hcat:((⟨#[112,108,97,105,110]⟩:ByteArray)++⟨#[58]⟩)=⟨#[112,108,97,105,110,58]⟩:=rfl
  have l4:¬ (9223372036854775807<6+List.length J):=by omega
  refine wp_region_quiet_below (by kernel_rfl) (by kernel_rfl) ?_
  repeat (quiet_step (first|exact Calls.regrown_of (cT _ (below_regrown _ _ _))|exact Calls.regrown_of (cJ _ (below_regrown _ _ _))))
  refine wpQuiet_nil ?_
  intro wq hbq
  replace hbq:=Ae hbq
  clear cT cJ g0 g1
  go_wp2
  refine bodyPost_ret (results_tmp2 rfl _ _ _) rfl ?_
  refine⟨?_,hB1.trans (hbq.mono hB1.size)⟩
  rw [← hres'.out,← bytes_append,← bytes_append]
  rfl
 ·rw [hk] at c0 hres'
  have g0:∀ (d:Nat) (os:Array Obj),(grow (redrawn w1 d) os).cell? ⟨w.heap.size,0,none⟩=_:=cell_regrown c0
  clear hsc hk c0 c1
  dsimp only [Cu] at cT
  have hix:∀ w,(Instr.index 201 (.agg #[.string ⟨#[]⟩,.string ⟨#[112,108,97,105,110]⟩,.string ⟨#[99,97,115,101,100]⟩,.string ⟨#[97,98,106,97,100]⟩,.string ⟨#[115,121,108,108,97,98]⟩]) (.int .i64 2)).run prog w=.ok (.string ⟨#[99,97,115,101,100]⟩) w:=fun w=>by simp [Instr.index,run_underlying underlying201,go_sem]
  have hcat:((⟨#[99,97,115,101,100]⟩:ByteArray)++⟨#[58]⟩)=⟨#[99,97,115,101,100,58]⟩:=rfl
  have l4:¬ (9223372036854775807<6+List.length J):=by omega
  refine wp_region_quiet_below (by kernel_rfl) (by kernel_rfl) ?_
  repeat (quiet_step (first|exact Calls.regrown_of (cT _ (below_regrown _ _ _))|exact Calls.regrown_of (cJ _ (below_regrown _ _ _))))
  refine wpQuiet_nil ?_
  intro wq hbq
  replace hbq:=Ae hbq
  clear cT cJ g0 g1
  go_wp2
  refine bodyPost_ret (results_tmp2 rfl _ _ _) rfl ?_
  refine⟨?_,hB1.trans (hbq.mono hB1.size)⟩
  rw [← hres'.out,← bytes_append,← bytes_append]
  rfl
 ·rw [hk] at c0 hres'
  have g0:∀ (d:Nat) (os:Array Obj),(grow (redrawn w1 d) os).cell? ⟨w.heap.size,0,none⟩=_:=cell_regrown c0
  clear hsc hk c0 c1
  dsimp only [Cu] at cT
  have hix:∀ w,(Instr.index 201 (.agg #[.string ⟨#[]⟩,.string ⟨#[112,108,97,105,110]⟩,.string ⟨#[99,97,115,101,100]⟩,.string ⟨#[97,98,106,97,100]⟩,.string ⟨#[115,121,108,108,97,98]⟩]) (.int .i64 3)).run prog w=.ok (.string ⟨#[97,98,106,97,100]⟩) w:=fun w=>by simp [Instr.index,run_underlying underlying201,go_sem]
  have hcat:((⟨#[97,98,106,97,100]⟩:ByteArray)++⟨#[58]⟩)=⟨#[97,98,106,97,100,58]⟩:=rfl
  have l4:¬ (9223372036854775807<6+List.length J):=by omega
  refine wp_region_quiet_below (by kernel_rfl) (by kernel_rfl) ?_
  repeat (quiet_step (first|exact Calls.regrown_of (cT _ (below_regrown _ _ _))|exact Calls.regrown_of (cJ _ (below_regrown _ _ _))))
  refine wpQuiet_nil ?_
  intro wq hbq
  replace hbq:=Ae hbq
  clear cT cJ g0 g1
  go_wp2
  refine bodyPost_ret (results_tmp2 rfl _ _ _) rfl ?_
  refine⟨?_,hB1.trans (hbq.mono hB1.size)⟩
  rw [← hres'.out,← bytes_append,← bytes_append]
  rfl
 ·rw [hk] at c0 hres'
  have g0:∀ (d:Nat) (os:Array Obj),(grow (redrawn w1 d) os).cell? ⟨w.heap.size,0,none⟩=_:=cell_regrown c0
  clear hsc hk c0 c1
  dsimp only [Cu] at cT
  have hix:∀ w,(Instr.index 201 (.agg #[.string ⟨#[]⟩,.string ⟨#[112,108,97,105,110]⟩,.string ⟨#[99,97,115,101,100]⟩,.string ⟨#[97,98,106,97,100]⟩,.string ⟨#[115,121,108,108,97,98]⟩]) (.int .i64 4)).run prog w=.ok (.string ⟨#[115,121,108,108,97,98]⟩) w:=fun w=>by simp [Instr.index,run_underlying underlying201,go_sem]
  have hcat:((⟨#[115,121,108,108,97,98]⟩:ByteArray)++⟨#[58]⟩)=⟨#[115,121,108,108,97,98,58]⟩:=rfl
  have l4:¬ (9223372036854775807<7+List.length J):=by omega
  refine wp_region_quiet_below (by kernel_rfl) (by kernel_rfl) ?_
  repeat (quiet_step (first|exact Calls.regrown_of (cT _ (below_regrown _ _ _))|exact Calls.regrown_of (cJ _ (below_regrown _ _ _))))
  refine wpQuiet_nil ?_
  intro wq hbq
  replace hbq:=Ae hbq
  clear cT cJ g0 g1
  go_wp2
  refine bodyPost_ret (results_tmp2 rfl _ _ _) rfl ?_
  refine⟨?_,hB1.trans (hbq.mono hB1.size)⟩
  rw [← hres'.out,← bytes_append,← bytes_append]
  rfl
def Cc (B:Nat) (w:World) (v:Value) (ns:List CH.Name):Prop :=
 ∃ a cap,v=.slice a ns.length cap∧ns.length≤cap∧cap≤9223372036854775807 ∧
  (ns≠[]→∃ b off,a=some ⟨b,off,none⟩∧b<B∧∀ j n,ns[j]?=some n→∃ vw,w.cell? ⟨b,off+j*2,none⟩=some (.int .i64 n.script)∧w.cell? ⟨b,off+j*2+1,none⟩=some vw∧Strs B w vw n.words)
theorem Cc.below {B B':Nat} {w w':World} {v:Value} {ns:List CH.Name} (h:Cc B w v ns) (hb:Below B' w w') (hB:B≤B'):Cc B w' v ns:=by
 obtain⟨a,cap,h1,h2,h3,h4⟩:=h
 refine⟨a,cap,h1,h2,h3,fun hne=>?_⟩
 obtain⟨b,off,e,hlt,hc⟩:=h4 hne
 refine⟨b,off,e,hlt,fun j n hj=>?_⟩
 obtain⟨vw,c1,c2,c3⟩:=hc j n hj
 exact⟨vw,(hb.cell (p:=⟨b,off+j*2,none⟩) (nL hlt hB)).trans c1,(hb.cell (p:=⟨b,off+j*2+1,none⟩) (nL hlt hB)).trans c2,c3.below hb hB⟩
theorem Cc.mono {B B':Nat} {w:World} {v:Value} {ns:List CH.Name} (h:Cc B w v ns) (hB:B≤B'):Cc B' w v ns:=by
 obtain⟨a,cap,h1,h2,h3,h4⟩:=h
 refine⟨a,cap,h1,h2,h3,fun hne=>?_⟩
 obtain⟨b,off,e,hlt,hc⟩:=h4 hne
 refine⟨b,off,e,nL hlt hB,fun j n hj=>?_⟩
 obtain⟨vw,c1,c2,c3⟩:=hc j n hj
 exact⟨vw,c1,c2,c3.mono hB⟩
theorem wrongName_any (vw:Value) (n:CH.Name) (w:World) (hG:Gc w) (hn:Strs w.heap.size w vw n.words) (hS:Short n.words) :
  Calls prog 173 #[.agg #[.int .i64 n.script,vw]] w (Ret w (.bool (!CH.nameOk n))):=by
 have hB0:=fun o=>(Below.refl _ w).alloc nR o
 have A:=hid fun o=>nameValid_any [intV n.script,vw] n (w.alloc o) (hG.below (hB0 o)) ⟨vw,rfl,(hn.below (hB0 o) nR).mono (hB0 o).size⟩ hS
 obtain⟨aw,cw,rfl,_,_⟩:=hn.form
 generalize n.words.length=N at *
 go_enter func173,ntmps173
 go_wp2_with fail
 refine (A.out _).mono ?_
 rintro e w1 ⟨rfl,hb1⟩
 clear A
 go_wp2
 go_ret
 exact⟨rfl,(hB0 _).trans (hb1.mono (by simp))⟩
theorem indexNames_any (v:Value) (ns:List CH.Name) (w:World) (hG:Gc w) (hv:Cc w.heap.size w v ns) (hl:ns.length≤100000) (hS:∀ n∈ns,Short n.words) :
  Calls prog 212 #[v,.func (.func 173) #[] #[]] w (fun e w'=>∃ i:Int,e=.returned (.int .i64 i)∧decide (0≤i)=(ns.any fun n=>!CH.nameOk n)∧Below w.heap.size w w'):=by
 obtain⟨a,cap,rfl,hc1,hc2,hcell⟩:=hv
 generalize hN:ns.length=N at *
 have HF:=hid hcell
 clear hcell
 go_enter func212,ntmps212
 go_wp2_with fail
 go_loopw [8] (fun iv wr=>∃ k:Nat,k≤N∧iv=.int .i64 k∧Hid (((ns.take k).any fun n=>!CH.nameOk n)=false)∧Below w.heap.size w wr) (fun iv _=>N - (RowKit.intOf iv).toNat)
 case atStart=>exact⟨0,Nat.zero_le _,rfl,hid rfl,Below.refl _ _⟩
 case round =>
  obtain⟨k,hk,rfl,hu,hb⟩:=hrel
  by_cases hlt:k<N
  ·obtain⟨x,hx⟩:∃ x,ns[k]?=some x:=⟨_,lZ (by omega)⟩
   obtain⟨b,off,rfl,hblt,hcs⟩:=HF.out (fun e=>by rw [e] at hN;simp at hN;omega)
   obtain⟨vw,c1,c2,c3⟩:=hcs k x hx
   have d1:=(hb.cell (p:=⟨b,off+k*2,none⟩) hblt).trans c1
   have d2:=(hb.cell (p:=⟨b,off+k*2+1,none⟩) hblt).trans c2
   have A:=wrongName_any vw x wr (hG.below hb) ((c3.below hb nR).mono hb.size) (hS x (List.mem_of_getElem? hx))
   have hts:ns.take (k+1)=ns.take k++[x]:=by rw [List.take_add_one,hx];rfl
   have hno:Hid (((ns.take (k+1)).any fun n=>!CH.nameOk n)=!CH.nameOk x):=hid (by rw [hts,List.any_append,hu.out];simp)
   have hmem:Hid (x∈ns):=hid (List.mem_of_getElem? hx)
   obtain⟨aw,cw,rfl,_,_⟩:=c3.form
   generalize x.words.length=xn at *
   clear hts hcs hx c1 c2 c3
   cases hin:CH.nameOk x with
   | true =>
    rw [hin] at A
    have A:=hid A
    have HR:Hid (((ns.take (k+1)).any fun n=>!CH.nameOk n)=false):=hid (by rw [hno.out,hin];rfl)
    go_wp2_with fail
    refine A.out.mono ?_
    rintro e w1 ⟨rfl,hb1⟩
    clear A
    go_wp2
    go_roundw
    case rel=>exact⟨k+1,by omega,by go_num,HR,hb.trans (hb1.mono hb.size)⟩
    case measure=>simp [RowKit.intOf];omega
   | false =>
    rw [hin] at A
    have A:=hid A
    have HR:Hid ((ns.any fun n=>!CH.nameOk n)=true):=hid (by rw [List.any_eq_true];exact⟨x,hmem.out,by rw [hin];rfl⟩)
    go_wp2_with fail
    refine A.out.mono ?_
    rintro e w1 ⟨rfl,hb1⟩
    clear A
    go_wp2
    go_ret
    exact⟨_,rfl,by rw [HR.out];simp,hb.trans (hb1.mono hb.size)⟩
  ·have e:N=k:=by omega
   subst e
   have HR:Hid ((ns.any fun n=>!CH.nameOk n)=false):=hid (by rw [← hu.out,← hN,List.take_length])
   go_wp2
   go_ret
   exact⟨_,rfl,by rw [HR.out];decide,hb⟩
theorem containsNames_any (v:Value) (ns:List CH.Name) (w:World) (hG:Gc w) (hv:Cc w.heap.size w v ns) (hl:ns.length≤100000) (hS:∀ n∈ns,Short n.words) :
  Calls prog 174 #[v,.func (.func 173) #[] #[]] w (Ret w (.bool (ns.any fun n=>!CH.nameOk n))):=by
 have A:=hid (indexNames_any v ns w hG hv hl hS)
 obtain⟨r,hr⟩:∃ r,Hid ((ns.any fun n=>!CH.nameOk n)=r):=⟨_,hid rfl⟩
 rw [hr.out] at A ⊢
 obtain⟨a,cap,rfl,_,_,_⟩:=hv
 generalize ns.length=N at *
 go_enter func174,ntmps174
 go_wp2_with fail
 refine A.out.mono ?_
 rintro e w1 ⟨i,rfl,hi,hb1⟩
 clear A
 subst hi
 go_wp2
 go_ret
 exact⟨rfl,hb1⟩
theorem Cc.form {B:Nat} {w:World} {v:Value} {ns:List CH.Name} (h:Cc B w v ns):∃ a cap,v=.slice a ns.length cap∧ns.length≤cap∧cap≤9223372036854775807:=by
 obtain⟨a,cap,h1,h2,h3,_⟩:=h
 exact⟨a,cap,h1,h2,h3⟩
structure EntrySmall (e:CH.Entry):Prop where
 id:e.id.length≤10000
 len:e.names.length≤100000
 names:∀ n∈e.names,Short n.words
theorem entryProper_any (vn:Value) (e:CH.Entry) (w:World) (hG:Gc w) (hv:Cc w.heap.size w vn e.names) (hS:EntrySmall e) :
  Calls prog 124 #[.agg #[.string ⟨e.id.toArray⟩,vn]] w (Ret w (.bool (CH.entryOk e))):=by
 obtain⟨r,hr⟩:∃ r,Hid (CH.entryOk e=r):=⟨_,hid rfl⟩
 rw [hr.out]
 have hB0:=fun o=>(Below.refl _ w).alloc nR o
 have I:=fun w'=>listIdent_any e.id w' (nT hS.id (by decide))
 have C:=hid fun (w':World) (hb:Below w.heap.size w w')=>containsNames_any vn e.names w' (hG.below hb) ((hv.below hb nR).mono hb.size) hS.len hS.names
 obtain⟨an,cn,rfl,_,_⟩:=hv.form
 have hW:=fun o=>heap_alloc_last w o
 generalize hN:e.names.length=N at *
 clear hv
 cases hi:CH.ident e.id with
 | false =>
  rw [hi] at I
  have I:=hid I
  have hr1:r=false:=by rw [← hr.out];unfold CH.entryOk;rw [hi];rfl
  subst hr1
  go_enter func124,ntmps124
  go_wp2_with fail
  refine (I.out _).mono ?_
  rintro e w1 ⟨rfl,hb1⟩
  clear I
  go_wp2
  go_ret
  exact⟨rfl,(hB0 _).trans (hb1.mono (by simp))⟩
 | true =>
  rw [hi] at I
  have I:=hid I
  have hr2:Hid (r=(decide (0<N)&&(decide (N≤8)&&!(e.names.any fun n=>!CH.nameOk n)))):=hid (by rw [← hr.out];unfold CH.entryOk;rw [hi,hN];rfl)
  go_enter func124,ntmps124
  go_wp2_with fail
  refine (I.out _).mono ?_
  rintro e' w1 ⟨rfl,hb1⟩
  have hB1:Below w.heap.size w w1:=(hB0 _).trans (hb1.mono (by simp))
  have hblk:=(hb1.block w.heap.size (by simp)).trans (hW _)
  have c1:w1.cell? ⟨w.heap.size,1,none⟩=some (.slice an N cn):=cell_of hblk 1
  clear I hb1 hblk hW hB0 hr
  by_cases h0:0<N
  ·have d0:decide ((0:Int)<(N:Int))=true:=by simp;omega
   by_cases h8:N≤8
   ·have d8:decide ((N:Int)≤8)=true:=by simp;omega
    have hr3:r=!(e.names.any fun n=>!CH.nameOk n):=by rw [hr2.out,decide_eq_true h0,decide_eq_true h8];rfl
    clear hr2
    subst hr3
    go_wp2_with fail
    refine (C.out w1 hB1).mono ?_
    rintro e' w2 ⟨rfl,hb2⟩
    clear C
    go_wp2
    go_ret
    exact⟨rfl,hB1.trans (hb2.mono hB1.size)⟩
   ·have d8:decide ((N:Int)≤8)=false:=by simp;omega
    have hr3:r=false:=by rw [hr2.out,decide_eq_false h8];simp
    clear hr2 C
    subst hr3
    go_wp2
    go_ret
    exact⟨rfl,hB1⟩
  ·have d0:decide ((0:Int)<(N:Int))=false:=by simp;omega
   have hr3:r=false:=by rw [hr2.out,decide_eq_false h0];rfl
   clear hr2 C
   subst hr3
   go_wp2
   go_ret
   exact⟨rfl,hB1⟩
theorem kinds_any (w:World):Calls prog 79 #[] w (fun e w'=>e=.returned (.slice (some ⟨w.heap.size,0,none⟩) 5 5)∧w'=w.alloc (.cells #[.string ⟨#[]⟩,.string ⟨([97,100,100]:List UInt8).toArray⟩,.string ⟨([114,101,109,111,118,101]:List UInt8).toArray⟩,.string ⟨([99,111,114,114,101,99,116]:List UInt8).toArray⟩,.string ⟨([118,111,105,100]:List UInt8).toArray⟩] 9)):=by
 go_enter func79,ntmps79
 go_wp2
 go_ret
 exact⟨rfl,rfl⟩
structure ChangeSmall (c:CH.Change):Prop where
 id:c.id.length≤10000
 entry:EntrySmall c.entry
def A4 (c:CH.Change) (vn:Value):List Value:=[.int .i64 c.kind,.string ⟨c.id.toArray⟩,.string ⟨c.entry.id.toArray⟩,vn,.int .i64 c.pos]
theorem formed_any (vn:Value) (c:CH.Change) (w:World) (hG:Gc w) (hv:Cc w.heap.size w vn c.entry.names) (hS:ChangeSmall c) :
  Calls prog 78 #[.agg (A4 c vn).toArray] w (Ret w (.bool (CH.changeOk c))):=by
 obtain⟨r,hr⟩:∃ r,CH.changeOk c=r:=⟨_,rfl⟩
 rw [hr]
 have hB0:=fun o=>(Below.refl _ w).alloc nR o
 have I:=fun w'=>listIdent_any c.id w' (nT hS.id (by decide))
 have E:=fun (w':World) (hb:Below w.heap.size w w')=>entryProper_any vn c.entry w' (hG.below hb) ((hv.below hb nR).mono hb.size) hS.entry
 have T:=fun (w':World) (hb:Below w.heap.size w w')=>listInstant_any c.pos w' (hG.gl.below hb)
 obtain⟨an,cn,rfl,_,_⟩:=hv.form
 have hW:=fun o=>heap_alloc_last w o
 obtain⟨kd,cid,en,ps⟩:=c
 dsimp only at *
 have hbe:=Ck en.id
 have hne:=Cm en.id cid
 generalize hN:en.names.length=N at *
 clear hv hS
 dsimp only [A4]
 obtain⟨bi,hbi⟩:∃ b,CH.ident cid=b:=⟨_,rfl⟩
 obtain⟨be,hbp⟩:∃ b,CH.entryOk en=b:=⟨_,rfl⟩
 obtain⟨bt,hbt⟩:∃ b,CH.isInstant ps=b:=⟨_,rfl⟩
 rw [hbi] at I
 rw [hbp] at E
 rw [hbt] at T
 replace I:=hid I
 replace E:=hid E
 replace T:=hid T
 unfold CH.changeOk at hr
 dsimp only at hr
 rw [hbi,hbp,hbt,hN] at hr
 clear hbi hbp hbt
 by_cases h1:kd=1∨kd=3
 ·rcases h1 with rfl|rfl
  ·cases bi with
   | false =>
    have hr1:r=false:=by rw [← hr];simp
    clear hr
    subst hr1
    go_enter func78,ntmps78
    go_wp2_with fail
    refine (I.out _).mono ?_
    rintro e w1 ⟨rfl,hb1⟩
    have hB1:Below w.heap.size w w1:=(hB0 _).trans (hb1.mono (by simp))
    have hblk:=(hb1.block w.heap.size (by simp)).trans (hW _)
    have hlt1:w.heap.size<w1.heap.size:=(aZ hblk)
    clear I hb1 hW hB0
    have k0:w1.cell? ⟨w.heap.size,0,none⟩=some (.int .i64 1):=cell_of hblk 0
    have k1:w1.cell? ⟨w.heap.size,1,none⟩=some (.string ⟨cid.toArray⟩):=cell_of hblk 1
    have k2:w1.cell? ⟨w.heap.size,2,none⟩=some (.string ⟨en.id.toArray⟩):=cell_of hblk 2
    have k3:w1.cell? ⟨w.heap.size,3,none⟩=some (.slice an N cn):=cell_of hblk 3
    have k4:w1.cell? ⟨w.heap.size,4,none⟩=some (.int .i64 ps):=cell_of hblk 4
    clear E T
    go_wp2
    go_ret
    exact⟨rfl,hB1⟩
   | true =>
    go_enter func78,ntmps78
    go_wp2_with fail
    refine (I.out _).mono ?_
    rintro e w1 ⟨rfl,hb1⟩
    have hB1:Below w.heap.size w w1:=(hB0 _).trans (hb1.mono (by simp))
    have hblk:=(hb1.block w.heap.size (by simp)).trans (hW _)
    have hlt1:w.heap.size<w1.heap.size:=(aZ hblk)
    clear I hb1 hW hB0
    have k0:w1.cell? ⟨w.heap.size,0,none⟩=some (.int .i64 1):=cell_of hblk 0
    have k1:w1.cell? ⟨w.heap.size,1,none⟩=some (.string ⟨cid.toArray⟩):=cell_of hblk 1
    have k2:w1.cell? ⟨w.heap.size,2,none⟩=some (.string ⟨en.id.toArray⟩):=cell_of hblk 2
    have k3:w1.cell? ⟨w.heap.size,3,none⟩=some (.slice an N cn):=cell_of hblk 3
    have k4:w1.cell? ⟨w.heap.size,4,none⟩=some (.int .i64 ps):=cell_of hblk 4
    cases hx:(en.id==cid) with
    | false =>
     rw [hx] at hne
     rw [show (en.id != cid)=true from by rw [bne,hx];rfl] at hr
     have hr1:r=false:=by rw [← hr];simp
     clear hr
     subst hr1
     clear E T
     go_wp2
     go_ret
     exact⟨rfl,hB1⟩
    | true =>
     rw [hx] at hne
     rw [show (en.id != cid)=false from by rw [bne,hx];rfl] at hr
     go_wp2_with fail
     refine (E.out w1 hB1).mono ?_
     rintro e w2 ⟨rfl,hb2⟩
     clear E
     have hB2:Below w.heap.size w w2:=hB1.trans (hb2.mono hB1.size)
     have hblk2:=(hb2.block w.heap.size hlt1).trans hblk
     clear hb2 k0 k1 k2 k3 k4
     have k0:w2.cell? ⟨w.heap.size,0,none⟩=some (.int .i64 1):=cell_of hblk2 0
     have k1:w2.cell? ⟨w.heap.size,1,none⟩=some (.string ⟨cid.toArray⟩):=cell_of hblk2 1
     have k2:w2.cell? ⟨w.heap.size,2,none⟩=some (.string ⟨en.id.toArray⟩):=cell_of hblk2 2
     have k3:w2.cell? ⟨w.heap.size,3,none⟩=some (.slice an N cn):=cell_of hblk2 3
     have k4:w2.cell? ⟨w.heap.size,4,none⟩=some (.int .i64 ps):=cell_of hblk2 4
     cases be with
     | false =>
      have hr1:r=false:=by rw [← hr];simp
      clear hr
      subst hr1
      clear T
      go_wp2
      go_ret
      exact⟨rfl,hB2⟩
     | true =>
      have hr1:r=bt:=by rw [← hr];simp
      clear hr
      subst hr1
      go_wp2_with fail
      refine (T.out w2 hB2).mono ?_
      rintro e w9 ⟨rfl,hb9⟩
      clear T
      cases r with
      | true =>
       go_wp2
       go_ret
       exact⟨rfl,hB2.trans (hb9.mono hB2.size)⟩
      | false =>
       go_wp2
       go_ret
       exact⟨rfl,hB2.trans (hb9.mono hB2.size)⟩
  ·cases bi with
   | false =>
    have hr1:r=false:=by rw [← hr];simp
    clear hr
    subst hr1
    go_enter func78,ntmps78
    go_wp2_with fail
    refine (I.out _).mono ?_
    rintro e w1 ⟨rfl,hb1⟩
    have hB1:Below w.heap.size w w1:=(hB0 _).trans (hb1.mono (by simp))
    have hblk:=(hb1.block w.heap.size (by simp)).trans (hW _)
    have hlt1:w.heap.size<w1.heap.size:=(aZ hblk)
    clear I hb1 hW hB0
    have k0:w1.cell? ⟨w.heap.size,0,none⟩=some (.int .i64 3):=cell_of hblk 0
    have k1:w1.cell? ⟨w.heap.size,1,none⟩=some (.string ⟨cid.toArray⟩):=cell_of hblk 1
    have k2:w1.cell? ⟨w.heap.size,2,none⟩=some (.string ⟨en.id.toArray⟩):=cell_of hblk 2
    have k3:w1.cell? ⟨w.heap.size,3,none⟩=some (.slice an N cn):=cell_of hblk 3
    have k4:w1.cell? ⟨w.heap.size,4,none⟩=some (.int .i64 ps):=cell_of hblk 4
    clear E T
    go_wp2
    go_ret
    exact⟨rfl,hB1⟩
   | true =>
    go_enter func78,ntmps78
    go_wp2_with fail
    refine (I.out _).mono ?_
    rintro e w1 ⟨rfl,hb1⟩
    have hB1:Below w.heap.size w w1:=(hB0 _).trans (hb1.mono (by simp))
    have hblk:=(hb1.block w.heap.size (by simp)).trans (hW _)
    have hlt1:w.heap.size<w1.heap.size:=(aZ hblk)
    clear I hb1 hW hB0
    have k0:w1.cell? ⟨w.heap.size,0,none⟩=some (.int .i64 3):=cell_of hblk 0
    have k1:w1.cell? ⟨w.heap.size,1,none⟩=some (.string ⟨cid.toArray⟩):=cell_of hblk 1
    have k2:w1.cell? ⟨w.heap.size,2,none⟩=some (.string ⟨en.id.toArray⟩):=cell_of hblk 2
    have k3:w1.cell? ⟨w.heap.size,3,none⟩=some (.slice an N cn):=cell_of hblk 3
    have k4:w1.cell? ⟨w.heap.size,4,none⟩=some (.int .i64 ps):=cell_of hblk 4
    cases hx:(en.id==cid) with
    | false =>
     rw [hx] at hne
     rw [show (en.id != cid)=true from by rw [bne,hx];rfl] at hr
     have hr1:r=false:=by rw [← hr];simp
     clear hr
     subst hr1
     clear E T
     go_wp2
     go_ret
     exact⟨rfl,hB1⟩
    | true =>
     rw [hx] at hne
     rw [show (en.id != cid)=false from by rw [bne,hx];rfl] at hr
     go_wp2_with fail
     refine (E.out w1 hB1).mono ?_
     rintro e w2 ⟨rfl,hb2⟩
     clear E
     have hB2:Below w.heap.size w w2:=hB1.trans (hb2.mono hB1.size)
     have hblk2:=(hb2.block w.heap.size hlt1).trans hblk
     clear hb2 k0 k1 k2 k3 k4
     have k0:w2.cell? ⟨w.heap.size,0,none⟩=some (.int .i64 3):=cell_of hblk2 0
     have k1:w2.cell? ⟨w.heap.size,1,none⟩=some (.string ⟨cid.toArray⟩):=cell_of hblk2 1
     have k2:w2.cell? ⟨w.heap.size,2,none⟩=some (.string ⟨en.id.toArray⟩):=cell_of hblk2 2
     have k3:w2.cell? ⟨w.heap.size,3,none⟩=some (.slice an N cn):=cell_of hblk2 3
     have k4:w2.cell? ⟨w.heap.size,4,none⟩=some (.int .i64 ps):=cell_of hblk2 4
     cases be with
     | false =>
      have hr1:r=false:=by rw [← hr];simp
      clear hr
      subst hr1
      clear T
      go_wp2
      go_ret
      exact⟨rfl,hB2⟩
     | true =>
      have hr1:r=(ps==0):=by rw [← hr];simp
      clear hr T
      subst hr1
      go_wp2
      go_ret
      exact⟨rfl,hB2⟩
 by_cases h2:kd=2∨kd=4
 ·rcases h2 with rfl|rfl
  ·cases bi with
   | false =>
    have hr1:r=false:=by rw [← hr];simp
    clear hr
    subst hr1
    go_enter func78,ntmps78
    go_wp2_with fail
    refine (I.out _).mono ?_
    rintro e w1 ⟨rfl,hb1⟩
    have hB1:Below w.heap.size w w1:=(hB0 _).trans (hb1.mono (by simp))
    have hblk:=(hb1.block w.heap.size (by simp)).trans (hW _)
    have hlt1:w.heap.size<w1.heap.size:=(aZ hblk)
    clear I hb1 hW hB0
    have k0:w1.cell? ⟨w.heap.size,0,none⟩=some (.int .i64 2):=cell_of hblk 0
    have k1:w1.cell? ⟨w.heap.size,1,none⟩=some (.string ⟨cid.toArray⟩):=cell_of hblk 1
    have k2:w1.cell? ⟨w.heap.size,2,none⟩=some (.string ⟨en.id.toArray⟩):=cell_of hblk 2
    have k3:w1.cell? ⟨w.heap.size,3,none⟩=some (.slice an N cn):=cell_of hblk 3
    have k4:w1.cell? ⟨w.heap.size,4,none⟩=some (.int .i64 ps):=cell_of hblk 4
    clear E T
    go_wp2
    go_ret
    exact⟨rfl,hB1⟩
   | true =>
    go_enter func78,ntmps78
    go_wp2_with fail
    refine (I.out _).mono ?_
    rintro e w1 ⟨rfl,hb1⟩
    have hB1:Below w.heap.size w w1:=(hB0 _).trans (hb1.mono (by simp))
    have hblk:=(hb1.block w.heap.size (by simp)).trans (hW _)
    have hlt1:w.heap.size<w1.heap.size:=(aZ hblk)
    clear I hb1 hW hB0
    have k0:w1.cell? ⟨w.heap.size,0,none⟩=some (.int .i64 2):=cell_of hblk 0
    have k1:w1.cell? ⟨w.heap.size,1,none⟩=some (.string ⟨cid.toArray⟩):=cell_of hblk 1
    have k2:w1.cell? ⟨w.heap.size,2,none⟩=some (.string ⟨en.id.toArray⟩):=cell_of hblk 2
    have k3:w1.cell? ⟨w.heap.size,3,none⟩=some (.slice an N cn):=cell_of hblk 3
    have k4:w1.cell? ⟨w.heap.size,4,none⟩=some (.int .i64 ps):=cell_of hblk 4
    clear E
    cases hx:(en.id != []) with
    | true =>
     rw [hx] at hr hbe
     replace hbe:List.isEmpty en.id=false:=hbe
     have hr1:r=false:=by rw [← hr];simp
     clear hr
     subst hr1
     clear T
     go_wp2
     go_ret
     exact⟨rfl,hB1⟩
    | false =>
     rw [hx] at hr hbe
     replace hbe:List.isEmpty en.id=true:=hbe
     by_cases h0:0<N
     ·have d0:decide ((0:Int)<(N:Int))=true:=by simp;omega
      rw [decide_eq_true h0] at hr
      have hr1:r=false:=by rw [← hr];simp
      clear hr
      subst hr1
      clear T
      go_wp2
      go_ret
      exact⟨rfl,hB1⟩
     ·have d0:decide ((0:Int)<(N:Int))=false:=by simp;omega
      rw [decide_eq_false h0] at hr
      have hr1:r=bt:=by rw [← hr];simp
      clear hr
      subst hr1
      go_wp2_with fail
      refine (T.out w1 hB1).mono ?_
      rintro e w9 ⟨rfl,hb9⟩
      clear T
      cases r with
      | true =>
       go_wp2
       go_ret
       exact⟨rfl,hB1.trans (hb9.mono hB1.size)⟩
      | false =>
       go_wp2
       go_ret
       exact⟨rfl,hB1.trans (hb9.mono hB1.size)⟩
  ·cases bi with
   | false =>
    have hr1:r=false:=by rw [← hr];simp
    clear hr
    subst hr1
    go_enter func78,ntmps78
    go_wp2_with fail
    refine (I.out _).mono ?_
    rintro e w1 ⟨rfl,hb1⟩
    have hB1:Below w.heap.size w w1:=(hB0 _).trans (hb1.mono (by simp))
    have hblk:=(hb1.block w.heap.size (by simp)).trans (hW _)
    have hlt1:w.heap.size<w1.heap.size:=(aZ hblk)
    clear I hb1 hW hB0
    have k0:w1.cell? ⟨w.heap.size,0,none⟩=some (.int .i64 4):=cell_of hblk 0
    have k1:w1.cell? ⟨w.heap.size,1,none⟩=some (.string ⟨cid.toArray⟩):=cell_of hblk 1
    have k2:w1.cell? ⟨w.heap.size,2,none⟩=some (.string ⟨en.id.toArray⟩):=cell_of hblk 2
    have k3:w1.cell? ⟨w.heap.size,3,none⟩=some (.slice an N cn):=cell_of hblk 3
    have k4:w1.cell? ⟨w.heap.size,4,none⟩=some (.int .i64 ps):=cell_of hblk 4
    clear E T
    go_wp2
    go_ret
    exact⟨rfl,hB1⟩
   | true =>
    go_enter func78,ntmps78
    go_wp2_with fail
    refine (I.out _).mono ?_
    rintro e w1 ⟨rfl,hb1⟩
    have hB1:Below w.heap.size w w1:=(hB0 _).trans (hb1.mono (by simp))
    have hblk:=(hb1.block w.heap.size (by simp)).trans (hW _)
    have hlt1:w.heap.size<w1.heap.size:=(aZ hblk)
    clear I hb1 hW hB0
    have k0:w1.cell? ⟨w.heap.size,0,none⟩=some (.int .i64 4):=cell_of hblk 0
    have k1:w1.cell? ⟨w.heap.size,1,none⟩=some (.string ⟨cid.toArray⟩):=cell_of hblk 1
    have k2:w1.cell? ⟨w.heap.size,2,none⟩=some (.string ⟨en.id.toArray⟩):=cell_of hblk 2
    have k3:w1.cell? ⟨w.heap.size,3,none⟩=some (.slice an N cn):=cell_of hblk 3
    have k4:w1.cell? ⟨w.heap.size,4,none⟩=some (.int .i64 ps):=cell_of hblk 4
    clear E
    cases hx:(en.id != []) with
    | true =>
     rw [hx] at hr hbe
     replace hbe:List.isEmpty en.id=false:=hbe
     have hr1:r=false:=by rw [← hr];simp
     clear hr
     subst hr1
     clear T
     go_wp2
     go_ret
     exact⟨rfl,hB1⟩
    | false =>
     rw [hx] at hr hbe
     replace hbe:List.isEmpty en.id=true:=hbe
     by_cases h0:0<N
     ·have d0:decide ((0:Int)<(N:Int))=true:=by simp;omega
      rw [decide_eq_true h0] at hr
      have hr1:r=false:=by rw [← hr];simp
      clear hr
      subst hr1
      clear T
      go_wp2
      go_ret
      exact⟨rfl,hB1⟩
     ·have d0:decide ((0:Int)<(N:Int))=false:=by simp;omega
      rw [decide_eq_false h0] at hr
      have hr1:r=(ps==0):=by rw [← hr];simp
      clear hr T
      subst hr1
      go_wp2
      go_ret
      exact⟨rfl,hB1⟩
 have z1:(kd==1)=false:=by simp;omega
 have z2:(kd==2)=false:=by simp;omega
 have z3:(kd==3)=false:=by simp;omega
 have hr1:r=false:=by
  rw [← hr]
  rw [if_pos]
  by_cases hlt:kd<1
  ·simp [hlt]
  ·have:kd > 4:=by omega
   simp [this]
 clear hr
 subst hr1
 by_cases hlt:kd<1
 ·have d1:decide (kd<1)=true:=by simpa using hlt
  cases bi with
  | false =>
   go_enter func78,ntmps78
   go_wp2_with fail
   refine (I.out _).mono ?_
   rintro e w1 ⟨rfl,hb1⟩
   have hB1:Below w.heap.size w w1:=(hB0 _).trans (hb1.mono (by simp))
   have hblk:=(hb1.block w.heap.size (by simp)).trans (hW _)
   have hlt1:w.heap.size<w1.heap.size:=(aZ hblk)
   clear I hb1 hW hB0
   have k0:w1.cell? ⟨w.heap.size,0,none⟩=some (.int .i64 kd):=cell_of hblk 0
   have k1:w1.cell? ⟨w.heap.size,1,none⟩=some (.string ⟨cid.toArray⟩):=cell_of hblk 1
   have k2:w1.cell? ⟨w.heap.size,2,none⟩=some (.string ⟨en.id.toArray⟩):=cell_of hblk 2
   have k3:w1.cell? ⟨w.heap.size,3,none⟩=some (.slice an N cn):=cell_of hblk 3
   have k4:w1.cell? ⟨w.heap.size,4,none⟩=some (.int .i64 ps):=cell_of hblk 4
   clear E T
   go_wp2
   go_ret
   exact⟨rfl,hB1⟩
  | true =>
   go_enter func78,ntmps78
   go_wp2_with fail
   refine (I.out _).mono ?_
   rintro e w1 ⟨rfl,hb1⟩
   have hB1:Below w.heap.size w w1:=(hB0 _).trans (hb1.mono (by simp))
   have hblk:=(hb1.block w.heap.size (by simp)).trans (hW _)
   have hlt1:w.heap.size<w1.heap.size:=(aZ hblk)
   clear I hb1 hW hB0
   have k0:w1.cell? ⟨w.heap.size,0,none⟩=some (.int .i64 kd):=cell_of hblk 0
   have k1:w1.cell? ⟨w.heap.size,1,none⟩=some (.string ⟨cid.toArray⟩):=cell_of hblk 1
   have k2:w1.cell? ⟨w.heap.size,2,none⟩=some (.string ⟨en.id.toArray⟩):=cell_of hblk 2
   have k3:w1.cell? ⟨w.heap.size,3,none⟩=some (.slice an N cn):=cell_of hblk 3
   have k4:w1.cell? ⟨w.heap.size,4,none⟩=some (.int .i64 ps):=cell_of hblk 4
   clear E T
   go_wp2
   go_ret
   exact⟨rfl,hB1⟩
 ·have d1:decide (kd<1)=false:=by simpa using hlt
  have d4:decide (4<kd)=true:=by simp;omega
  cases bi with
  | false =>
   go_enter func78,ntmps78
   go_wp2_with fail
   refine (I.out _).mono ?_
   rintro e w1 ⟨rfl,hb1⟩
   have hB1:Below w.heap.size w w1:=(hB0 _).trans (hb1.mono (by simp))
   have hblk:=(hb1.block w.heap.size (by simp)).trans (hW _)
   have hlt1:w.heap.size<w1.heap.size:=(aZ hblk)
   clear I hb1 hW hB0
   have k0:w1.cell? ⟨w.heap.size,0,none⟩=some (.int .i64 kd):=cell_of hblk 0
   have k1:w1.cell? ⟨w.heap.size,1,none⟩=some (.string ⟨cid.toArray⟩):=cell_of hblk 1
   have k2:w1.cell? ⟨w.heap.size,2,none⟩=some (.string ⟨en.id.toArray⟩):=cell_of hblk 2
   have k3:w1.cell? ⟨w.heap.size,3,none⟩=some (.slice an N cn):=cell_of hblk 3
   have k4:w1.cell? ⟨w.heap.size,4,none⟩=some (.int .i64 ps):=cell_of hblk 4
   clear E T
   go_wp2
   go_ret
   exact⟨rfl,hB1⟩
  | true =>
   go_enter func78,ntmps78
   go_wp2_with fail
   refine (I.out _).mono ?_
   rintro e w1 ⟨rfl,hb1⟩
   have hB1:Below w.heap.size w w1:=(hB0 _).trans (hb1.mono (by simp))
   have hblk:=(hb1.block w.heap.size (by simp)).trans (hW _)
   have hlt1:w.heap.size<w1.heap.size:=(aZ hblk)
   clear I hb1 hW hB0
   have k0:w1.cell? ⟨w.heap.size,0,none⟩=some (.int .i64 kd):=cell_of hblk 0
   have k1:w1.cell? ⟨w.heap.size,1,none⟩=some (.string ⟨cid.toArray⟩):=cell_of hblk 1
   have k2:w1.cell? ⟨w.heap.size,2,none⟩=some (.string ⟨en.id.toArray⟩):=cell_of hblk 2
   have k3:w1.cell? ⟨w.heap.size,3,none⟩=some (.slice an N cn):=cell_of hblk 3
   have k4:w1.cell? ⟨w.heap.size,4,none⟩=some (.int .i64 ps):=cell_of hblk 4
   clear E T
   go_wp2
   go_ret
   exact⟨rfl,hB1⟩
end
end Go.Proofs.YtjepldaciejieaaGreatDoor
