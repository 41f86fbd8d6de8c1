/-
  ChainKeeps: the proof, part 9 of 25.
-/
import Derived.Test.YthapckjpmkkkpaaGreatDoorP04
import Derived.Test.YthapckjpmkkkpaaGreatDoorP05
set_option linter.unusedSimpArgs false
set_option linter.unusedVariables false
set_option maxHeartbeats 40000000
set_option maxRecDepth 100000
open Go renaming undef -> ZA, World -> ZB, Value -> ZC, Calls -> ZE, redrawn -> ZI
open Go.Act renaming put -> ZF
open Go.RowKit renaming intOf -> ZG
open Decidable renaming decide -> ZH
namespace Go.Proofs.YthapckjpmkkkpaaGreatDoor
section
open Go.Lib Go.Proofs.Tryz Go.RowKit Go.Shelf CH
attribute [local go_sem] Iw
theorem Xn (k:Int) (s:List UInt8) (w:ZB) : ZE prog 270 #[↑k,↑s] w (fun e w'=>e=.returned (.func (.func 292) #[] #[.pointer (some ⟨w,0,none⟩),.pointer (some ⟨w+1,0,none⟩)])/\w'=(w.alloc (.cells #[↑k] 3)).alloc (.cells #[↑s] 9)):=by go_enter func270,ntmps270;go_wp2;go_ret;exact⟨rfl,rfl⟩
structure oh (w:ZB) (k:Int) (s:List UInt8) (pre:List (List UInt8)) (W:ZB):Prop where
 le:w.heap.size+4<=W.heap.size
 out:∃ v,W.heap[w.heap.size]?=some (.cells #[v] 22 (0,0))/\Ay (w+4) W v pre
 rest:W.heap[w.heap.size+1]?=some (.cells #[.string ⟨((CH.letters k pre.length s).2).toArray⟩] 9 (0,0))
 below:Below w w W
def Lnr (w:ZB) (r:Int) (e:Ending) (w':ZB):Prop:=∃ v,e=.returned (.tuple #[v,↑r])/\Below w w w'
theorem oh.own (w:ZB) (k:Int) (s:List UInt8) (B:Nat) (hB:w.heap.size+4<=B):OwnFrom B (fun pre W=>oh w k s pre W):=by
 intro pre W W' row h hg hr;obtain⟨hle,⟨v,hv,hO⟩,hrest,hb⟩:=h;have hne:∀ j,j<w.heap.size+4->some j≠row:=fun j hj e=>by have:=(hr j e.symm).1;omega
 refine⟨Ag hle hg.size,⟨v,(hg.block _ oM (hne _ oM)).trans hv,?_⟩,(hg.block _ oM (hne _ oM)).trans hrest,?_⟩;·exact Ks hO hg (fun r e=>(hr r e).2)
 ·exact hb.grown hg hb.size (fun j e=>by have:=(hr j e).1;omega)
theorem oh.set (w:ZB) (k:Int) (s:List UInt8) (pre:List (List UInt8)) (W:ZB) (u:ZC) (h:oh w k s pre W):oh w k s pre (W.setCell ⟨w+3,0,none⟩ u):=by obtain⟨hle,⟨v,hv,hO⟩,hrest,hb⟩:=h;refine⟨by simp [World.setCell];exact hle,⟨v,(B7 _ _ _ _ (by show w.heap.size≠w.heap.size+3;omega)).trans hv,hO.jV oM _ _⟩,(B7 _ _ _ _ (by show w.heap.size+1≠w.heap.size+3;omega)).trans hrest,hb.setCell (by show w.heap.size<=w.heap.size+3;omega) _⟩
theorem Rp (w:ZB) (o1 o2 o3 o4:Obj) : ((((w.alloc o1).alloc o2).alloc o3).alloc o4).heap[w.heap.size]?=some o1/\((((w.alloc o1).alloc o2).alloc o3).alloc o4).heap[w.heap.size+1]?=some o2 /\ ((((w.alloc o1).alloc o2).alloc o3).alloc o4).heap[w.heap.size+2]?=some o3/\((((w.alloc o1).alloc o2).alloc o3).alloc o4).heap[w.heap.size+3]?=some o4:=by
 have e:((((w.alloc o1).alloc o2).alloc o3).alloc o4).heap=(((w.heap.push o1).push o2).push o3).push o4:=by simp only [World.alloc]
 rw [e];simp only [Dk,Eb];refine⟨?_,?_,?_,?_⟩;·rw [Ak oM,Ak oM,Ak oM,Aw trivial]
 ·rw [Ak oM,Ak oM,Aw trivial]
 ·rw [Ak oM,Aw trivial]
 ·rw [Aw trivial]
theorem Ch1 (k:Int) (s:List UInt8) (w:ZB) (hG:Gc w) (hs:s.length<=1000000) : ZE prog 227 #[↑k,↑s] w (Lnr w (if dX k s then 0 else 1)):=by
 obtain⟨r,hr⟩:∃ r:Int,Hid ((if dX k s then (0:Int) else 1)=r):=⟨_,Aa rfl⟩
 rw [hr.out];refine (Io (n:=4)).1 ?_;refine callsIn_of_wp_marks func227 rfl trivial ?_ rfl;simp only [ntmps227,Hu,Ar,Bo,Nat.reduceAdd,Nat.reduceSub,Hq,Ho,Ia,Ht,Dn,Dq];refine Me.2 ?_;go_wp2_with fail;refine (Xn k s _).mono ?_;rintro e w1 ⟨rfl,hw1⟩;simp only [Cc] at hw1 ⊢;have hB1:Below w w w1:=by rw [hw1];exact ((((Ac _ w).alloc nR _).alloc sM _).alloc (by simp;omega) _).alloc (by simp;omega) _
 have hsz:w1.heap.size=w.heap.size+4:=by rw [hw1];simp
 have e0:w1.heap[w.heap.size]?=some (.cells #[.slice none 0 0] 22 (0,0)):=by rw [hw1];exact (Rp w _ _ _ _).1
 have e1:w1.heap[w.heap.size+1]?=some (.cells #[↑s] 9 (0,0)):=by rw [hw1];exact (Rp w _ _ _ _).2.1
 have e2:w1.heap[w.heap.size+2]?=some (.cells #[↑k] 3 (0,0)):=by rw [hw1];exact (Rp w _ _ _ _).2.2.1
 have e3:w1.heap[w.heap.size+3]?=some (.cells #[↑s] 9 (0,0)):=by rw [hw1];exact (Rp w _ _ _ _).2.2.2
 clear hw1;go_wp2_with fail;refine (Me (n:=4)).1 ?_;refine Bug (n:=4) (w.heap.size+3) oM rfl dC (gf:=292) (lb:=#[.pointer (some ⟨w+2,0,none⟩),.pointer (some ⟨w+3,0,none⟩)]) rfl trivial (enters_of func292 kR rfl) (Chs k s hs 3 dC w (w+3) (w.heap.size+2) w w1 hG rfl hB1 oM oM oM e3 e2) (fun h1 h2=>⟨h1.1.trans h2.1,h2.2.1.trans h1.2.1,h2.2.2.trans h1.2.2⟩) (fun W l o o' hl ho _ _=>⟨(Ac _ W).grown (grownBy_putObj' W l o') (by have:=(aZ ho);omega) (fun j e=>by cases e;omega),World.putObj_heap_other oM,World.putObj_heap_other oM⟩) (Ac _ _) (fun _=>rfl) (fun pre W=>oh w k s pre W/\pre.length<=12) (fun c pre W=>c=.exit 0/\pre.length=13/\(CH.letters k 13 s).1=pre/\oh w k s pre W) (fun pre A B row h hg hr=>⟨oh.own w k s _ oM pre A B row h.1 hg hr,h.2⟩) (fun c pre A B row h hg hr=>⟨h.1,h.2.1,h.2.2.1,oh.own w k s _ oM pre A B row h.2.2.2 hg hr⟩) (fun pre A v h=>⟨oh.set w k s pre A v h.1,h.2⟩) ⟨⟨oM,⟨_,e0,Ay.nil _ _⟩,e1,hB1⟩,sM⟩ (fun x=>{ tmps:=#[↑k,↑s,ZA,ZA,.slice none 0 0,.int .i64 0,.pointer (some ⟨w,0,none⟩),.pointer (some ⟨w+1,0,none⟩),↑x,↑s,↑k,↑s,.func (.func 292) #[] #[.pointer (some ⟨w+2,0,none⟩),.pointer (some ⟨w+3,0,none⟩)],↑x,ZA,ZA,ZA,ZA,ZA,ZA,ZA,ZA,ZA,ZA,ZA,ZA,ZA,ZA,ZA,ZA,ZA,ZA,ZA,ZA,ZA,ZA,ZA,ZA],defers:=[] }) ?assign ?body ?done ?stop;case assign =>intro l x W K hK;gi_wp2;exact hK
 case body =>
  rintro l pre x W ⟨hLI,hlen⟩ ⟨hN1,hN2,hN3⟩;obtain⟨hle,⟨v,hv,hO⟩,hrest,hb⟩:=hLI;have hsl:=nI k (CH.letters k pre.length s).2;have hsu:=lH k pre.length s (by rw [hN1]) hN2;rw [hN1] at hsu;generalize hj:CH.slen k (CH.letters k pre.length s).2=j at *;have hrl:=pz k pre.length s;generalize hR:(CH.letters k pre.length s).2=R at *;have hxl:x.length=j:=by rw [hN3,Dy];omega
  have hrest':(CH.letters k (pre.length+1) s).2=R.drop j:=by rw [hsu]
  have hpre':(CH.letters k (pre.length+1) s).1=pre++[x]:=by rw [hsu,hN3]
  have HS:=Aa (And.intro hrest' hpre');have hxR:x.length<=R.length:=oM;obtain⟨av,cv,rfl,hf1,hf2,_⟩:=hO.form;clear hj;subst hxl;have hex:(ByteArray.mk R.toArray).extract x.length R.length=⟨(R.drop x.length).toArray⟩:=Fm R x.length;have KD:R.length<=1000000:=oM;generalize hPL:pre.length=pl at *;have ha:∀ W',Below (w+4) W W'->W'.cell? ⟨w,0,none⟩=some (.slice av pl cv)/\W'.cell? ⟨w+1,0,none⟩=some ↑R/\W'.frozen? ⟨w,0,none⟩=false/\W'.frozen? ⟨w+1,0,none⟩=false:=fun W' hb' =>⟨(hb'.cell (p:=⟨w,0,none⟩) sM).trans (Ab hv 0),(hb'.cell (p:=⟨w+1,0,none⟩) sM).trans (Ab hrest 0),(hb'.frozen (p:=⟨w,0,none⟩) sM).trans (Be hv 0),(hb'.frozen (p:=⟨w+1,0,none⟩) sM).trans (Be hrest 0)⟩
  have hBd:Below (w+4) W W.drew:=(Ac _ W).drew;have hBa:∀ o,Below (w+4) W (W.drew.alloc o):=fun o=>hBd.alloc hle o;obtain⟨d0,d1,d2,d3⟩:=ha _ hBd;have q0:=fun o=>(ha _ (hBa o)).1;have q1:=fun o=>(ha _ (hBa o)).2.1;have q0':∀ o,(W.alloc o).cell? ⟨w,0,none⟩=some (.slice av pl cv):=q0;have q1':∀ o,(W.alloc o).cell? ⟨w+1,0,none⟩=some ↑R:=q1;have hO2:∀ o,Ay (w+4) (W.drew.alloc o) (.slice av pl cv) pre:=fun o=>(hO.below (Ac _ W).drew).alloc o;have hblk:=hO.ownBlock;have n0:=World.new_ne W.drew ⟨w,0,none⟩ d0;have n1:=World.new_ne W.drew ⟨w+1,0,none⟩ d1;have HA:=Aa ha;clear ha hN1 hN2 hN3 hsu hrest' hpre' hsl;gi_wp2_with fail;refine Lt (fun _=>True) _ _ kR kR ?_ trivial (fun hHeld=>?_);·rintro⟨a,w,h⟩;exact h
  refine tk 1 (v:=?_) rfl rF hHeld ?_ ?_;rotate_left;·(intro w hSw;(try dsimp only at hSw);go_simp;try with_reducible rfl)
  (try simp only [ZF,pA,pB,pC]);refine tk 5 (v:=?_) rfl rF hHeld ?_ ?_;rotate_left;·(intro w hSw;(try dsimp only at hSw);go_simp;try with_reducible rfl)
  (try simp only [ZF,pA,pB,pC]);refine tk 6 (v:=?_) rfl rF hHeld ?_ ?_;rotate_left;·(intro w hSw;(try dsimp only at hSw);go_simp;try with_reducible rfl)
  (try simp only [ZF,pA,pB,pC]);refine Fj (rs:=[0,2,4]) kR sM ?_;refine Ci (o:=_) rfl (fun K hK=>?_) ?_;focus
   go_simp;refine hK.out _ _ (trivial) (fun hHeld=>?_);clear hK K;(try simp only [ZF,pA,pB,pC]);refine Fj (rs:=[2,4]) kR sM ?_;refine Ci (o:=_) rfl (fun K hK=>?_) ?_;focus
    go_simp;refine hK.out _ _ (trivial) (fun hHeld=>?_);clear hK K;(try simp only [ZF,pA,pB,pC]);refine Fj (rs:=[3,4]) kR sM ?_;refine Ci (o:=_) rfl (fun K hK=>?_) ?_;focus
     rw [Aw rF];refine Cn _ _ rfl (w+4) _ pre rfl (hO2 _) W.heap.size _ x rfl (Cm _ _ _ _ _) oM (by simp;omega) ?_;intro v5 w5 hO5 hg5;obtain⟨a5,c5,rfl,lU,lT,lQ⟩:=hO5.form;have hB5:Below (w+4) W w5:=(hBa _).grown hg5 (by simp;omega) (fun k e=>(hblk k e).1);have h5:=HA.out w5 hB5;obtain⟨h50,h51,h52,h53⟩:=h5;have h54:∀ u,(w5.setCell ⟨w,0,none⟩ u).cell? ⟨w+1,0,none⟩=some ↑R:=fun u=>(D8 _ ⟨w,0,none⟩ ⟨w+1,0,none⟩ _ (fun e=>by dsimp only at e;omega)).trans h51;refine hK.out _ _ (trivial) (fun hHeld=>?_);clear hK K;(try simp only [ZF,pA,pB,pC]);refine Fj (rs:=[4,8]) kR sM ?_;refine Ci (o:=_) rfl (fun K hK=>?_) ?_;focus
      go_simp;refine hK.out _ _ (trivial) (fun hHeld=>?_);clear hK K;(try simp only [ZF,pA,pB,pC]);refine tk 7 (v:=?_) rfl rF hHeld ?_ ?_;rotate_left;·(intro w hSw;(try dsimp only at hSw);go_simp;try with_reducible rfl)
      (try simp only [ZF,pA,pB,pC]);refine rk 8 rfl (fun K hK=>?_);go_simp;refine hK.out _ _ (trivial) (fun hHeld=>?_);clear hK K;(try simp only [ZF,pA,pB,pC]);refine rk 9 rfl (fun K hK=>?_);go_simp;refine hK.out _ _ (trivial) (fun hHeld=>?_);clear hK K;(try simp only [ZF,pA,pB,pC]);refine D6 kR ?_ _
     rotate_left 1;refine Ci (o:=_) rfl (fun K hK=>?_) Ey;focus
      go_simp;refine hK.out _ _ (trivial) (fun hHeld=>?_);clear hK K;(try simp only [ZF,pA,pB,pC]);refine rk 4 rfl (fun K hK=>?_);go_simp;refine hK.out _ _ (trivial) (fun hHeld=>?_);clear hK K;(try simp only [ZF,pA,pB,pC]);refine tk 7 (v:=?_) rfl rF hHeld ?_ ?_;rotate_left;·(intro w hSw;(try dsimp only at hSw);go_simp;try with_reducible rfl)
      (try simp only [ZF,pA,pB,pC]);refine rk 9 rfl (fun K hK=>?_);go_simp;refine hK.out _ _ (trivial) (fun hHeld=>?_);clear hK K;(try simp only [ZF,pA,pB,pC]);refine D6 kR ?_ _
    rotate_left 2;refine Ci (o:=_) rfl (fun K hK=>?_) Ey;focus
     go_simp;refine hK.out _ _ (trivial) (fun hHeld=>?_);clear hK K;(try simp only [ZF,pA,pB,pC]);refine tk 7 (v:=?_) rfl rF hHeld ?_ ?_;rotate_left;·(intro w hSw;(try dsimp only at hSw);go_simp;try with_reducible rfl)
     (try simp only [ZF,pA,pB,pC]);refine rk 3 rfl (fun K hK=>?_);rw [Aw rF];refine Cn _ _ rfl (w+4) _ pre rfl (hO2 _) W.heap.size _ x rfl (Cm _ _ _ _ _) oM (by simp;omega) ?_;intro v5 w5 hO5 hg5;obtain⟨a5,c5,rfl,lU,lT,lQ⟩:=hO5.form;have hB5:Below (w+4) W w5:=(hBa _).grown hg5 (by simp;omega) (fun k e=>(hblk k e).1);have h5:=HA.out w5 hB5;obtain⟨h50,h51,h52,h53⟩:=h5;have h54:∀ u,(w5.setCell ⟨w,0,none⟩ u).cell? ⟨w+1,0,none⟩=some ↑R:=fun u=>(D8 _ ⟨w,0,none⟩ ⟨w+1,0,none⟩ _ (fun e=>by dsimp only at e;omega)).trans h51;refine hK.out _ _ (trivial) (fun hHeld=>?_);clear hK K;(try simp only [ZF,pA,pB,pC]);refine rk 8 rfl (fun K hK=>?_);go_simp;refine hK.out _ _ (trivial) (fun hHeld=>?_);clear hK K;(try simp only [ZF,pA,pB,pC]);refine rk 9 rfl (fun K hK=>?_);go_simp;refine hK.out _ _ (trivial) (fun hHeld=>?_);clear hK K;(try simp only [ZF,pA,pB,pC]);refine D6 kR ?_ _
   rotate_left 3;refine Ci (o:=_) rfl (fun K hK=>?_) Ey;focus
    go_simp;refine hK.out _ _ (trivial) (fun hHeld=>?_);clear hK K;(try simp only [ZF,pA,pB,pC]);refine tk 7 (v:=?_) rfl rF hHeld ?_ ?_;rotate_left;·(intro w hSw;(try dsimp only at hSw);go_simp;try with_reducible rfl)
    (try simp only [ZF,pA,pB,pC]);refine rk 2 rfl (fun K hK=>?_);go_simp;refine hK.out _ _ (trivial) (fun hHeld=>?_);clear hK K;(try simp only [ZF,pA,pB,pC]);refine rk 3 rfl (fun K hK=>?_);rw [Aw rF];refine Cn _ _ rfl (w+4) _ pre rfl (hO2 _) W.heap.size _ x rfl (Cm _ _ _ _ _) oM (by simp;omega) ?_;intro v5 w5 hO5 hg5;obtain⟨a5,c5,rfl,lU,lT,lQ⟩:=hO5.form;have hB5:Below (w+4) W w5:=(hBa _).grown hg5 (by simp;omega) (fun k e=>(hblk k e).1);have h5:=HA.out w5 hB5;obtain⟨h50,h51,h52,h53⟩:=h5;have h54:∀ u,(w5.setCell ⟨w,0,none⟩ u).cell? ⟨w+1,0,none⟩=some ↑R:=fun u=>(D8 _ ⟨w,0,none⟩ ⟨w+1,0,none⟩ _ (fun e=>by dsimp only at e;omega)).trans h51;refine hK.out _ _ (trivial) (fun hHeld=>?_);clear hK K;(try simp only [ZF,pA,pB,pC]);refine rk 8 rfl (fun K hK=>?_);go_simp;refine hK.out _ _ (trivial) (fun hHeld=>?_);clear hK K;(try simp only [ZF,pA,pB,pC]);refine rk 9 rfl (fun K hK=>?_);go_simp;refine hK.out _ _ (trivial) (fun hHeld=>?_);clear hK K;(try simp only [ZF,pA,pB,pC]);refine D6 kR ?_ _
  rotate_left 4;refine Ci (o:=_) rfl (fun K hK=>?_) ?_;focus
   go_simp;refine hK.out _ _ (trivial) (fun hHeld=>?_);clear hK K;(try simp only [ZF,pA,pB,pC]);refine Fj (rs:=[0,4]) kR sM ?_;refine Ci (o:=_) rfl (fun K hK=>?_) ?_;focus
    go_simp;refine hK.out _ _ (trivial) (fun hHeld=>?_);clear hK K;(try simp only [ZF,pA,pB,pC]);refine Fj (rs:=[3,4]) kR sM ?_;refine Ci (o:=_) rfl (fun K hK=>?_) ?_;focus
     rw [Aw rF];refine Cn _ _ rfl (w+4) _ pre rfl (hO2 _) W.heap.size _ x rfl (Cm _ _ _ _ _) oM (by simp;omega) ?_;intro v5 w5 hO5 hg5;obtain⟨a5,c5,rfl,lU,lT,lQ⟩:=hO5.form;have hB5:Below (w+4) W w5:=(hBa _).grown hg5 (by simp;omega) (fun k e=>(hblk k e).1);have h5:=HA.out w5 hB5;obtain⟨h50,h51,h52,h53⟩:=h5;have h54:∀ u,(w5.setCell ⟨w,0,none⟩ u).cell? ⟨w+1,0,none⟩=some ↑R:=fun u=>(D8 _ ⟨w,0,none⟩ ⟨w+1,0,none⟩ _ (fun e=>by dsimp only at e;omega)).trans h51;refine hK.out _ _ (trivial) (fun hHeld=>?_);clear hK K;(try simp only [ZF,pA,pB,pC]);refine Fj (rs:=[4,8]) kR sM ?_;refine Ci (o:=_) rfl (fun K hK=>?_) ?_;focus
      go_simp;refine hK.out _ _ (trivial) (fun hHeld=>?_);clear hK K;(try simp only [ZF,pA,pB,pC]);refine tk 7 (v:=?_) rfl rF hHeld ?_ ?_;rotate_left;·(intro w hSw;(try dsimp only at hSw);go_simp;try with_reducible rfl)
      (try simp only [ZF,pA,pB,pC]);refine rk 8 rfl (fun K hK=>?_);go_simp;refine hK.out _ _ (trivial) (fun hHeld=>?_);clear hK K;(try simp only [ZF,pA,pB,pC]);refine rk 9 rfl (fun K hK=>?_);go_simp;refine hK.out _ _ (trivial) (fun hHeld=>?_);clear hK K;(try simp only [ZF,pA,pB,pC]);refine D6 kR ?_ _
     rotate_left 1;refine Ci (o:=_) rfl (fun K hK=>?_) Ey;focus
      go_simp;refine hK.out _ _ (trivial) (fun hHeld=>?_);clear hK K;(try simp only [ZF,pA,pB,pC]);refine rk 4 rfl (fun K hK=>?_);go_simp;refine hK.out _ _ (trivial) (fun hHeld=>?_);clear hK K;(try simp only [ZF,pA,pB,pC]);refine tk 7 (v:=?_) rfl rF hHeld ?_ ?_;rotate_left;·(intro w hSw;(try dsimp only at hSw);go_simp;try with_reducible rfl)
      (try simp only [ZF,pA,pB,pC]);refine rk 9 rfl (fun K hK=>?_);go_simp;refine hK.out _ _ (trivial) (fun hHeld=>?_);clear hK K;(try simp only [ZF,pA,pB,pC]);refine D6 kR ?_ _
    rotate_left 2;refine Ci (o:=_) rfl (fun K hK=>?_) Ey;focus
     go_simp;refine hK.out _ _ (trivial) (fun hHeld=>?_);clear hK K;(try simp only [ZF,pA,pB,pC]);refine tk 7 (v:=?_) rfl rF hHeld ?_ ?_;rotate_left;·(intro w hSw;(try dsimp only at hSw);go_simp;try with_reducible rfl)
     (try simp only [ZF,pA,pB,pC]);refine rk 3 rfl (fun K hK=>?_);rw [Aw rF];refine Cn _ _ rfl (w+4) _ pre rfl (hO2 _) W.heap.size _ x rfl (Cm _ _ _ _ _) oM (by simp;omega) ?_;intro v5 w5 hO5 hg5;obtain⟨a5,c5,rfl,lU,lT,lQ⟩:=hO5.form;have hB5:Below (w+4) W w5:=(hBa _).grown hg5 (by simp;omega) (fun k e=>(hblk k e).1);have h5:=HA.out w5 hB5;obtain⟨h50,h51,h52,h53⟩:=h5;have h54:∀ u,(w5.setCell ⟨w,0,none⟩ u).cell? ⟨w+1,0,none⟩=some ↑R:=fun u=>(D8 _ ⟨w,0,none⟩ ⟨w+1,0,none⟩ _ (fun e=>by dsimp only at e;omega)).trans h51;refine hK.out _ _ (trivial) (fun hHeld=>?_);clear hK K;(try simp only [ZF,pA,pB,pC]);refine rk 8 rfl (fun K hK=>?_);go_simp;refine hK.out _ _ (trivial) (fun hHeld=>?_);clear hK K;(try simp only [ZF,pA,pB,pC]);refine rk 9 rfl (fun K hK=>?_);go_simp;refine hK.out _ _ (trivial) (fun hHeld=>?_);clear hK K;(try simp only [ZF,pA,pB,pC]);refine D6 kR ?_ _
   rotate_left 3;refine Ci (o:=_) rfl (fun K hK=>?_) Ey;focus
    go_simp;refine hK.out _ _ (trivial) (fun hHeld=>?_);clear hK K;(try simp only [ZF,pA,pB,pC]);refine tk 7 (v:=?_) rfl rF hHeld ?_ ?_;rotate_left;·(intro w hSw;(try dsimp only at hSw);go_simp;try with_reducible rfl)
    (try simp only [ZF,pA,pB,pC]);refine rk 0 rfl (fun K hK=>?_);go_simp;refine hK.out _ _ (trivial) (fun hHeld=>?_);clear hK K;(try simp only [ZF,pA,pB,pC]);refine rk 3 rfl (fun K hK=>?_);rw [Aw rF];refine Cn _ _ rfl (w+4) _ pre rfl (hO2 _) W.heap.size _ x rfl (Cm _ _ _ _ _) oM (by simp;omega) ?_;intro v5 w5 hO5 hg5;obtain⟨a5,c5,rfl,lU,lT,lQ⟩:=hO5.form;have hB5:Below (w+4) W w5:=(hBa _).grown hg5 (by simp;omega) (fun k e=>(hblk k e).1);have h5:=HA.out w5 hB5;obtain⟨h50,h51,h52,h53⟩:=h5;have h54:∀ u,(w5.setCell ⟨w,0,none⟩ u).cell? ⟨w+1,0,none⟩=some ↑R:=fun u=>(D8 _ ⟨w,0,none⟩ ⟨w+1,0,none⟩ _ (fun e=>by dsimp only at e;omega)).trans h51;refine hK.out _ _ (trivial) (fun hHeld=>?_);clear hK K;(try simp only [ZF,pA,pB,pC]);refine rk 8 rfl (fun K hK=>?_);go_simp;refine hK.out _ _ (trivial) (fun hHeld=>?_);clear hK K;(try simp only [ZF,pA,pB,pC]);refine rk 9 rfl (fun K hK=>?_);go_simp;refine hK.out _ _ (trivial) (fun hHeld=>?_);clear hK K;(try simp only [ZF,pA,pB,pC]);refine D6 kR ?_ _
  rotate_left 4;refine Ci (o:=_) rfl (fun K hK=>?_) Ey;focus
   go_simp;refine hK.out _ _ (trivial) (fun hHeld=>?_);clear hK K;(try simp only [ZF,pA,pB,pC]);refine tk 7 (v:=?_) rfl rF hHeld ?_ ?_;rotate_left;·(intro w hSw;(try dsimp only at hSw);go_simp;try with_reducible rfl)
   (try simp only [ZF,pA,pB,pC]);refine Fj (rs:=[0,2]) kR sM ?_;refine Ci (o:=_) rfl (fun K hK=>?_) ?_;focus go_simp;refine hK.out _ _ (trivial) (fun hHeld=>?_);clear hK K;(try simp only [ZF,pA,pB,pC]);refine rk 2 rfl (fun K hK=>?_);go_simp;refine hK.out _ _ (trivial) (fun hHeld=>?_);clear hK K;(try simp only [ZF,pA,pB,pC]);refine rk 3 rfl (fun K hK=>?_);rw [Aw rF];refine Cn _ _ rfl (w+4) _ pre rfl (hO2 _) W.heap.size _ x rfl (Cm _ _ _ _ _) oM (by simp;omega) ?_;intro v5 w5 hO5 hg5;obtain⟨a5,c5,rfl,lU,lT,lQ⟩:=hO5.form;have hB5:Below (w+4) W w5:=(hBa _).grown hg5 (by simp;omega) (fun k e=>(hblk k e).1);have h5:=HA.out w5 hB5;obtain⟨h50,h51,h52,h53⟩:=h5;have h54:∀ u,(w5.setCell ⟨w,0,none⟩ u).cell? ⟨w+1,0,none⟩=some ↑R:=fun u=>(D8 _ ⟨w,0,none⟩ ⟨w+1,0,none⟩ _ (fun e=>by dsimp only at e;omega)).trans h51;refine hK.out _ _ (trivial) (fun hHeld=>?_);clear hK K;(try simp only [ZF,pA,pB,pC]);refine rk 8 rfl (fun K hK=>?_);go_simp;refine hK.out _ _ (trivial) (fun hHeld=>?_);clear hK K;(try simp only [ZF,pA,pB,pC]);refine rk 9 rfl (fun K hK=>?_);go_simp;refine hK.out _ _ (trivial) (fun hHeld=>?_);clear hK K;(try simp only [ZF,pA,pB,pC]);refine D6 kR ?_ _
   rotate_left 1;refine Ci (o:=_) rfl (fun K hK=>?_) Ey;focus go_simp;refine hK.out _ _ (trivial) (fun hHeld=>?_);clear hK K;(try simp only [ZF,pA,pB,pC]);refine rk 0 rfl (fun K hK=>?_);go_simp;refine hK.out _ _ (trivial) (fun hHeld=>?_);clear hK K;(try simp only [ZF,pA,pB,pC]);refine rk 3 rfl (fun K hK=>?_);rw [Aw rF];refine Cn _ _ rfl (w+4) _ pre rfl (hO2 _) W.heap.size _ x rfl (Cm _ _ _ _ _) oM (by simp;omega) ?_;intro v5 w5 hO5 hg5;obtain⟨a5,c5,rfl,lU,lT,lQ⟩:=hO5.form;have hB5:Below (w+4) W w5:=(hBa _).grown hg5 (by simp;omega) (fun k e=>(hblk k e).1);have h5:=HA.out w5 hB5;obtain⟨h50,h51,h52,h53⟩:=h5;have h54:∀ u,(w5.setCell ⟨w,0,none⟩ u).cell? ⟨w+1,0,none⟩=some ↑R:=fun u=>(D8 _ ⟨w,0,none⟩ ⟨w+1,0,none⟩ _ (fun e=>by dsimp only at e;omega)).trans h51;refine hK.out _ _ (trivial) (fun hHeld=>?_);clear hK K;(try simp only [ZF,pA,pB,pC]);refine rk 8 rfl (fun K hK=>?_);go_simp;refine hK.out _ _ (trivial) (fun hHeld=>?_);clear hK K;(try simp only [ZF,pA,pB,pC]);refine rk 9 rfl (fun K hK=>?_);go_simp;refine hK.out _ _ (trivial) (fun hHeld=>?_);clear hK K;(try simp only [ZF,pA,pB,pC]);refine D6 kR ?_ _
  all_goals
   have hbd:Below W W W.drew:=(Ac _ W).drew;have hko:∀ u u',KeepsOthers W ((w5.setCell ⟨w,0,none⟩ u).setCell ⟨w+1,0,none⟩ u'):=fun u u' =>((((Kd hbd).trans (KeepsOthers.alloc _ _)).trans (KeepsOthers.of_grownBy hg5 (fun j o hj ho=>by obtain⟨_,cs,t,fr,hcs⟩:=(hO2 _).ownBlock j hj;rw [ho] at hcs;cases hcs;rfl))).trans (KeepsOthers.setCell _ _ _)).trans (KeepsOthers.setCell _ _ _);have y0:=Bk w5 w 0 (.slice a5 (pl+1) c5) _ _ _ ((hB5.block _ oM).trans hv);have y1:=(B7 w5 ⟨w,0,none⟩ (.slice a5 (pl+1) c5) (w.heap.size+1) (by show w.heap.size+1≠w.heap.size;omega)).trans ((hB5.block _ oM).trans hrest);have z0:=(B7 (w5.setCell ⟨w,0,none⟩ (.slice a5 (pl+1) c5)) ⟨w+1,0,none⟩ (.string ⟨(R.drop x.length).toArray⟩) w.heap.size (by show w.heap.size≠w.heap.size+1;omega)).trans y0;have z1:=Bk _ (w+1) 0 (.string ⟨(R.drop x.length).toArray⟩) _ _ _ y1;simp only [List.setIfInBounds_toArray,List.set_cons_zero] at z0 z1;have hOX:Ay (w+4) ((w5.setCell ⟨w,0,none⟩ (.slice a5 (pl+1) c5)).setCell ⟨w+1,0,none⟩ (.string ⟨(R.drop x.length).toArray⟩)) (.slice a5 (pl+1) c5) (pre++[x]):=by have h0:=hO5;simp only [Aj,hPL,Ar,Bo,Bl] at h0;exact (h0.jV (g:=w.heap.size) oM _ _).jV (g:=w.heap.size+1) oM _ _
   have hBX:Below w W ((w5.setCell ⟨w,0,none⟩ (.slice a5 (pl+1) c5)).setCell ⟨w+1,0,none⟩ (.string ⟨(R.drop x.length).toArray⟩)) := ((hB5.mono (show w.heap.size<=w.heap.size+4 by omega)).setCell (p:=⟨w,0,none⟩) nR _).setCell (p:=⟨w+1,0,none⟩) (by show w.heap.size<=w.heap.size+1;omega) _;have hpq:∀ j,j=w.heap.size+2\/j=w.heap.size+3->((w5.setCell ⟨w,0,none⟩ (.slice a5 (pl+1) c5)).setCell ⟨w+1,0,none⟩ (.string ⟨(R.drop x.length).toArray⟩)).heap[j]?=W.heap[j]?:=fun j hj=>by rw [B7 _ _ _ _ (by show j≠w.heap.size+1;omega),B7 _ _ _ _ (by show j≠w.heap.size;omega)];exact hB5.block j oM
   have wZ:=hko (.slice a5 (pl+1) c5) (.string ⟨(R.drop x.length).toArray⟩);generalize hX:(w5.setCell ⟨w,0,none⟩ (.slice a5 (pl+1) c5)).setCell ⟨w+1,0,none⟩ (.string ⟨(R.drop x.length).toArray⟩)=X at *;have c0:X.cell? ⟨w,0,none⟩=some (.slice a5 (pl+1) c5):=Ab z0 0;have hLX:oh w k s (pre++[x]) X:=⟨Ag hle wZ.size,⟨_,z0,hOX⟩,by rw [show (pre++[x]).length=pl+1 from by simp [hPL],HS.out.1];exact z1,hb.trans hBX⟩
   clear hko h50 h51 h52 h53 h54 d0 d1 d2 d3 q0 q1 q0' q1' hO2 hO5 hOX y0 y1 z0 z1;by_cases h12:pl+1<=12
   ·have d:ZH ((12:Int)<(pl:Int)+1)=false:=by simp;omega
    gi_wp2;exact⟨wZ.from _,⟨hBX,hpq _ (.inr rfl),hpq _ (.inl rfl)⟩,hLX,by simp [hPL];omega⟩
   ·have d:ZH ((12:Int)<(pl:Int)+1)=true:=by simp;omega
    gi_wp2;exact⟨wZ.from _,rfl,by simp [hPL];omega,by rw [<- HS.out.2,show pl+1=13 from by omega],hLX⟩
 case done =>
  rintro D xs W hD ⟨hS1,hS2⟩ ⟨hLI,hlen⟩ hdef;have h13:=pq k xs.length s hS2 13 oM;have hpre:(CH.letters k 13 s).1=xs:=by rw [h13];exact hS1
  have hbD:=Bt (r:=D) hLI.below oM (.deferred none);obtain⟨hle,⟨v,hv,hO⟩,hrest,hb⟩:=hLI;obtain⟨av,cv,rfl,hf1,hf2,_⟩:=hO.form;rw [<- h13] at hrest;have hword:Hid (dX k s=((CH.letters k 13 s).2==[]&&!(xs==[])&&ZH (xs.length<=12))):=Aa (by unfold dX;rw [hpre]);generalize hR:(CH.letters k 13 s).2=R at *;generalize hN:xs.length=N at *;have c0:W.cell? ⟨w,0,none⟩=some (.slice av N cv):=Ab hv 0;have c1:W.cell? ⟨w+1,0,none⟩=some ↑R:=Ab hrest 0;clear hO;cases hRe:List.isEmpty R with
  |false =>
   have hr1:r=1:=by
    have h0:(R==[])=false:=by cases R with|nil=>cases hRe|cons _ _=>rfl
    rw [<- hr.out,hword.out,h0];rfl
   subst hr1;go_wp2_with fail;refine⟨sM,.inl ⟨_,_,rfl,run_takeDeferred (ds:=[]) hdef,?_⟩⟩;exact⟨_,Bc rfl _ _ _,_,rfl,hbD⟩
  |true =>
   have hR0:R=[]:=by cases R with|nil=>rfl|cons _ _=>cases hRe
   by_cases hN0:N=0
   ·have hr1:r=1:=by
     have h0:(xs==[])=true:=by have:xs=[]:=Df.1 (hN.trans hN0);rw [this];rfl
     rw [<- hr.out,hword.out,h0,hR0];rfl
    subst hr1;have z0:((N:Int)==0)=true:=by simp;omega
    go_wp2_with fail;refine⟨sM,.inl ⟨_,_,rfl,run_takeDeferred (ds:=[]) hdef,?_⟩⟩;exact⟨_,Bc rfl _ _ _,_,rfl,hbD⟩
   ·have z0:((N:Int)==0)=false:=by simp;omega
    have h0:(xs==[])=false:=by
     cases hq:xs with
     |nil=>rw [hq] at hN;simp at hN;omega
     |cons _ _=>rfl
    by_cases uP:N<=12
    ·have z1:ZH ((12:Int)<(N:Int))=false:=by simp;omega
     have hr1:r=0:=by rw [<- hr.out,hword.out,h0,hR0,Az uP];rfl
     subst hr1;go_wp2_with fail;refine⟨sM,.inl ⟨_,_,rfl,run_takeDeferred (ds:=[]) hdef,?_⟩⟩;exact⟨_,Bc rfl _ _ _,_,rfl,hbD⟩
    ·have z1:ZH ((12:Int)<(N:Int))=true:=by simp;omega
     have hr1:r=1:=by rw [<- hr.out,hword.out,h0,hR0,Aq uP];rfl
     subst hr1;go_wp2_with fail;refine⟨sM,.inl ⟨_,_,rfl,run_takeDeferred (ds:=[]) hdef,?_⟩⟩;exact⟨_,Bc rfl _ _ _,_,rfl,hbD⟩
 case stop =>
  rintro D c pre W hD _ ⟨rfl,hlen,hpre,hLI⟩ hdef;refine Me.2 ?_;have hbD:=Bt (r:=D) hLI.below oM (.deferred none);obtain⟨hle,⟨v,hv,hO⟩,hrest,hb⟩:=hLI;obtain⟨av,cv,rfl,hf1,hf2,_⟩:=hO.form;rw [hlen] at hrest;clear hlen;have hword:Hid (dX k s=((CH.letters k 13 s).2==[]&&!(pre==[])&&ZH (pre.length<=12))):=Aa (by unfold dX;rw [hpre]);generalize hR:(CH.letters k 13 s).2=R at *;generalize hN:pre.length=N at *;have c0:W.cell? ⟨w,0,none⟩=some (.slice av N cv):=Ab hv 0;have c1:W.cell? ⟨w+1,0,none⟩=some ↑R:=Ab hrest 0;clear hO;cases hRe:List.isEmpty R with
  |false =>
   have hr1:r=1:=by
    have h0:(R==[])=false:=by cases R with|nil=>cases hRe|cons _ _=>rfl
    rw [<- hr.out,hword.out,h0];rfl
   subst hr1;go_wp2_with fail;refine⟨sM,.inl ⟨_,_,rfl,run_takeDeferred (ds:=[]) hdef,?_⟩⟩;exact⟨_,Bc rfl _ _ _,_,rfl,hbD⟩
  |true =>
   have hR0:R=[]:=by cases R with|nil=>rfl|cons _ _=>cases hRe
   by_cases hN0:N=0
   ·have hr1:r=1:=by
     have h0:(pre==[])=true:=by have:pre=[]:=Df.1 (hN.trans hN0);rw [this];rfl
     rw [<- hr.out,hword.out,h0,hR0];rfl
    subst hr1;have z0:((N:Int)==0)=true:=by simp;omega
    go_wp2_with fail;refine⟨sM,.inl ⟨_,_,rfl,run_takeDeferred (ds:=[]) hdef,?_⟩⟩;exact⟨_,Bc rfl _ _ _,_,rfl,hbD⟩
   ·have z0:((N:Int)==0)=false:=by simp;omega
    have h0:(pre==[])=false:=by
     cases hq:pre with
     |nil=>rw [hq] at hN;simp at hN;omega
     |cons _ _=>rfl
    by_cases uP:N<=12
    ·have z1:ZH ((12:Int)<(N:Int))=false:=by simp;omega
     have hr1:r=0:=by rw [<- hr.out,hword.out,h0,hR0,Az uP];rfl
     subst hr1;go_wp2_with fail;refine⟨sM,.inl ⟨_,_,rfl,run_takeDeferred (ds:=[]) hdef,?_⟩⟩;exact⟨_,Bc rfl _ _ _,_,rfl,hbD⟩
    ·have z1:ZH ((12:Int)<(N:Int))=true:=by simp;omega
     have hr1:r=1:=by rw [<- hr.out,hword.out,h0,hR0,Aq uP];rfl
     subst hr1;go_wp2_with fail;refine⟨sM,.inl ⟨_,_,rfl,run_takeDeferred (ds:=[]) hdef,?_⟩⟩;exact⟨_,Bc rfl _ _ _,_,rfl,hbD⟩
end
section
open Go.Lib Go.Proofs.Tryz Go.RowKit Go.Shelf Go.Sort CH
def Key (B:Nat) (w:ZB) (cs:List ZC) (n:CH.Name):Prop:=∃ vw,cs=[aJ n.script,vw]/\Strs B w vw n.words
theorem Uv (cs:List ZC) (n:CH.Name) (w:ZB) (hG:Gc w) (hn:Key w w cs n) (hS:Gd n.words) : ZE prog 163 #[.agg cs.toArray] w (Ret w (.bool (bU n))):=by
 obtain⟨vw,rfl,hw⟩:=hn;obtain⟨r,hr⟩:∃ r,Hid (bU n=r):=⟨_,Aa rfl⟩
 rw [hr.out];obtain⟨aw,cw,rfl,hc1,hc2,hcell⟩:=hw;obtain⟨hS1,hS2⟩:=hS;have sD:=Ai w (.cells #[↑n.script,.slice aw n.words.length cw] 163);have hB0:=(Ac _ w).alloc nR (.cells #[↑n.script,.slice aw n.words.length cw] 163);generalize hN:n.words.length=N at *;have HF:=Aa hcell;clear hcell;have hlt0:w.heap.size<(w.alloc (.cells #[↑n.script,.slice aw N cw] 163)).heap.size:=sM;go_enter func163,ntmps163;go_wp2_with fail;generalize hW:w.alloc (.cells #[↑n.script,.slice aw N cw] 163)=W at *;go_loopw [10] (fun iv wr=>∃ k:Nat,k<=N/\iv=↑k/\Hid ((n.words.take k).all (dX n.script)=true)/\Below W W wr) (fun iv _=>N - (ZG iv).toNat);case atStart=>exact⟨0,Bg _,rfl,Aa rfl,Ac _ _⟩
 case round =>
  obtain⟨k,hk,rfl,hu,hbW⟩:=hrel;have hb:Below w w wr:=hB0.trans (hbW.mono (G6 hlt0));have hblk:=(hbW.block w hlt0).trans sD;have c0:wr.cell? ⟨w,0,none⟩=some ↑n.script:=Ab hblk 0;have c1:wr.cell? ⟨w,1,none⟩=some (.slice aw N cw):=Ab hblk 1;by_cases hlt:k<N
  ·obtain⟨x,hx⟩:∃ x,n.words[k]?=some x:=⟨_,Ad oM⟩
   have hxl:=hS2 x (Ap hx);obtain⟨b,off,rfl,hblt,hcs⟩:=HF.out (fun e=>by rw [e] at hN;simp at hN;omega);have hck:=(hb.cell (p:=⟨b,off+k,none⟩) hblt).trans (hcs k x hx);have hts:n.words.take (k+1)=n.words.take k++[x]:=by rw [Eo,hx];rfl
   have hno:(n.words.take (k+1)).all (dX n.script)=dX n.script x:=by rw [hts,Ij,hu.out];simp
   have A:=Ch1 n.script x wr (hG.below hb) oM;have HN:=Aa hno;have hmem:Hid (x∈n.words):=Aa (Ap hx);clear hno hts hcs hx;cases hin:dX n.script x with
   |false =>
    rw [hin] at A;have A:=Aa A;have hr1:r=false:=by rw [<- hr.out];unfold bU;rw [show n.words.all (dX n.script)=false from by rw [Jo];exact⟨x,hmem.out,by rw [hin];decide⟩];rfl
    subst hr1;go_wp2_with fail;refine A.out.mono ?_;rintro e w1 ⟨v1,rfl,hb1⟩;clear A;go_wp2;go_ret;exact⟨rfl,hb.trans (hb1.mono hb.size)⟩
   |true =>
    rw [hin] at A;have A:=Aa A;have HR:Hid ((n.words.take (k+1)).all (dX n.script)=true):=Aa (by rw [HN.out,hin]);clear HN;go_wp2_with fail;refine A.out.mono ?_;rintro e w1 ⟨v1,rfl,hb1⟩;clear A;go_wp2;go_roundw;case rel=>exact⟨k+1,oM,by go_num,HR,hbW.trans (hb1.mono hbW.size)⟩
    case measure=>simp [ZG];omega
  ·have e:N=k:=oM;subst e;have hall:n.words.all (dX n.script)=true:=by rw [<- hu.out,<- hN,Dx]
   have hr1:r=(ZH (0<N)&&ZH (N<=6)):=by rw [<- hr.out];unfold bU;rw [hall,hN];rfl
   subst hr1;by_cases h0:0<N
   ·have d0:ZH ((0:Int)<(N:Int))=true:=by simp;omega
    go_wp2;go_ret;refine⟨?_,hb⟩;rw [Az h0,a_Bool_true_and,show ZH (N<=6)=ZH ((N:Int)<=6) from Eh.2 oM];rfl
   ·have d0:ZH ((0:Int)<(N:Int))=false:=by simp;omega
    go_wp2;go_ret;refine⟨?_,hb⟩;simp [h0]
theorem Hdv (sep:List UInt8):∀ ls:List (List UInt8),Lib.join ls sep=CH.join sep ls:=by
 intro ls;induction ls with
 |nil=>rfl
 |cons x l ih =>
  cases l with
  |nil=>exact Lib.join_one x sep
  |cons y l =>rw [Lib.join_cons,CH.join,<- ih,Lib.join_cons];simp [Lib.joinTail]
theorem L0 (v:ZC) (ls:List (List UInt8)) (sep:List UInt8) (w:ZB) (hv:Strs w w v ls) (hN:ls.length<=1000000) (hlen:(CH.join sep ls).length<=140737488355328) : ZE prog 102 #[v,↑sep] w (Ret w (.string ⟨(CH.join sep ls).toArray⟩)):=by
 obtain⟨a,cap,rfl,h1,h2,h3⟩:=hv;by_cases hne:ls=[]
 ·subst hne;exact (Tryz.strings_Join_none a cap ⟨sep.toArray⟩ w).mono fun e w' ⟨he,hw⟩=>⟨he,by rw [hw];exact Ac _ _⟩
 ·obtain⟨b,off,rfl,hb,hc⟩:=h3 hne;have hmap:(ls.map fun l=>ByteArray.mk l.toArray).map (·.data.toList)=ls:=by rw [Nh];exact (List.map_congr_left (fun a _=>rfl)).trans (List.map_id ls)
  have hJ:=Tryz.strings_Join b off cap (ls.map fun l=>ByteArray.mk l.toArray) ⟨sep.toArray⟩ w (fun j x hx=>by
   rw [Gg] at hx;cases hl:ls[j]? with
   |none=>rw [hl] at hx;cases hx
   |some l=>rw [hl] at hx;cases hx;exact hc j l hl) hb (by simp;omega) (by simpa using h1) (by rw [hmap];show (Lib.join ls sep).length<=_;rw [Hdv];exact hlen)
  rw [hmap,Dc] at hJ;have e2:Lib.join ls (ByteArray.mk sep.toArray).data.toList=CH.join sep ls:=Hdv sep ls;rw [e2] at hJ;exact hJ
def Jn:Array ZC:=#[.string ⟨#[]⟩,.string ⟨([112,108,97,105,110]:List UInt8).toArray⟩,.string ⟨([99,97,115,101,100]:List UInt8).toArray⟩,.string ⟨([97,98,106,97,100]:List UInt8).toArray⟩,.string ⟨([115,121,108,108,97,98]:List UInt8).toArray⟩]
theorem Eqs (w:ZB):ZE prog 164 #[] w (Ret w (.agg Jn)):=by
 go_enter func164,ntmps164;go_wp2;refine Au (Km (p:=0) (ty:=213) rfl _ _ ⟨w,0,none⟩ _ rfl (Hf _ w 0 213 Jn.toList _ (fun j v hv=>?_) underlying213 rfl kR)) rfl ?_
 ·rw [Bl,Cm];have hv':Jn[j]?=some v:=by simpa using hv
  exact hv'
 ·exact⟨rfl,(Ac _ w).alloc nR _⟩
theorem Za {n:CH.Name} (h:bU n=true):1<=n.script/\n.script<=4:=by
 unfold bU at h;simp only [Am,Bq] at h;obtain⟨hall,h0,_⟩:=h;cases hw:n.words with
 |nil=>rw [hw] at h0;simp at h0
 |cons x l =>
  rw [hw] at hall;have hx:dX n.script x=true:=Dt.1 hall x sM;apply Classical.byContradiction;intro hn;have hs:CH.slen n.script x=0:=by unfold CH.slen;rw [Ak oM,Ak oM,Ak oM,Ak oM]
  have hl:CH.letters n.script 13 x=([],x):=bC _ _ _ hs;unfold dX at hx;rw [hl] at hx;simp at hx
theorem K6 (sep:List UInt8) (m:Nat):∀ ls:List (List UInt8),(∀ l∈ls,l.length<=m)->(CH.join sep ls).length<=ls.length*(m+sep.length):=by
 intro ls;induction ls with
 |nil=>intro _;simp [CH.join]
 |cons x l ih =>
  intro h;have hx:=h x sM;cases l with
  |nil=>simp [CH.join];omega
  |cons y l =>have:=ih (fun z hz=>h z (by simp at hz ⊢;right;exact hz));rw [CH.join];simp only [Aj,Ar] at this ⊢;have e:(l.length+1+1)*(m+sep.length)=(l.length+1)*(m+sep.length)+(m+sep.length):=Nat.succ_mul _ _;omega
theorem Mx (cs:List ZC) (n:CH.Name) (w:ZB) (hG:Gc w) (hn:Key w w cs n) (hS:Gd n.words) (hok:bU n=true) : ZE prog 101 #[.agg cs.toArray] w (Ret w (.tuple #[.string ⟨(aT n).toArray⟩,.int .i64 0])):=by
 have hsc:=Za hok;have hV:=fun (w':ZB) (hb:Below w w w')=>Uv cs n w' (hG.below hb) (by obtain⟨vw,h1,h2⟩:=hn;exact⟨vw,h1,(h2.below hb nR).mono hb.size⟩) hS;obtain⟨vw,rfl,hw⟩:=hn;have hJl:(CH.join [32] n.words).length<=1000000000000:=by have h1:=K6 [32] 10000 n.words hS.2;have h2:=hS.1;have h3:n.words.length*(10000+1)<=100000*(10000+1):=Dj _ h2;simp only [Ar,Bo,Bl] at h1;omega
 have hJ:=fun (w':ZB) (hb:Below w w w')=>L0 vw n.words [32] w' ((hw.below hb nR).mono hb.size) (by have:=hS.1;omega) oM;rw [hok] at hV;obtain⟨aw,cw,rfl,hc1,hc2⟩:=hw.form;obtain⟨res,hres⟩:∃ r,Hid (aT n=r):=⟨_,Aa rfl⟩
 rw [hres.out];have hres':Hid (CH.title n.script++[58]++CH.join [32] n.words=res):=Aa hres.out;clear hres hw;generalize CH.join [32] n.words=J at *;generalize hN:n.words.length=N at *;have HV:=Aa hV;have HJ:=Aa hJ;clear hV hJ;have hB0:=fun o=>(Ac _ w).alloc nR o;go_enter func101,ntmps101;go_wp2_with fail;refine (HV.out _ (hB0 _)).mono ?_;rintro e w1 ⟨rfl,hb1⟩;have hB1:Below w w w1:=(hB0 _).trans (hb1.mono sM);have hblk:=(hb1.block w sM).trans (Ai w _);have hlt:w.heap.size<w1.heap.size:=(aZ hblk)
 clear hb1 HV;have c0:w1.cell? ⟨w,0,none⟩=some ↑n.script:=Ab hblk 0;have c1:w1.cell? ⟨w,1,none⟩=some (.slice aw N cw):=Ab hblk 1;go_wp2_with fail;have cT:∀ W',Below w1 w1 W'->ZE prog 164 #[] W' (fun e w'=>e=.returned (.agg Jn)/\Below W' W' w'):=fun W' _=>Eqs W';have cJ:∀ W',Below w1 w1 W'->ZE prog 102 #[.slice aw N cw,.string ⟨#[32]⟩] W' (fun e w'=>e=.returned ↑J/\Below W' W' w'):=fun W' hb=>HJ.out W' (hB1.trans (hb.mono hB1.size));have g1:∀ (d:Nat) (os:Array Obj),(grow (ZI w1 d) os).cell? ⟨w,1,none⟩=some (.slice aw N cw):=Ae c1;have hk:n.script=1\/n.script=2\/n.script=3\/n.script=4:=oM;clear HJ hblk;rcases hk with hk|hk|hk|hk
 ·rw [hk] at c0 hres';have g0:∀ (d:Nat) (os:Array Obj),(grow (ZI w1 d) os).cell? ⟨w,0,none⟩=_:=Ae c0;clear hsc hk c0 c1;dsimp only [Jn] at cT;have hix:∀ w,(Instr.index 213 (.agg #[.string ⟨#[]⟩,.string ⟨#[112,108,97,105,110]⟩,.string ⟨#[99,97,115,101,100]⟩,.string ⟨#[97,98,106,97,100]⟩,.string ⟨#[115,121,108,108,97,98]⟩]) (.int .i64 1)).run prog w=.ok (.string ⟨#[112,108,97,105,110]⟩) w:=fun w=>by simp [Instr.index,Ec underlying213,go_sem]
  have xu:((⟨#[112,108,97,105,110]⟩:ByteArray)++⟨#[58]⟩)=⟨#[112,108,97,105,110,58]⟩:=rfl;have l4:¬ (9223372036854775807<6+List.length J):=oM;refine Bd kR kR ?_;repeat (quiet_step (first|exact Bj (cT _ (Dv _ _ _))|exact Bj (cJ _ (Dv _ _ _))))
  refine C9 ?_;intro wq hbq;replace hbq:=At hbq;clear cT cJ g0 g1;go_wp2;refine Au (Bc rfl _ _ _) rfl ?_;refine⟨?_,hB1.trans (hbq.mono hB1.size)⟩;rw [<- hres'.out,<- bytes_append,<- bytes_append];rfl
 ·rw [hk] at c0 hres';have g0:∀ (d:Nat) (os:Array Obj),(grow (ZI w1 d) os).cell? ⟨w,0,none⟩=_:=Ae c0;clear hsc hk c0 c1;dsimp only [Jn] at cT;have hix:∀ w,(Instr.index 213 (.agg #[.string ⟨#[]⟩,.string ⟨#[112,108,97,105,110]⟩,.string ⟨#[99,97,115,101,100]⟩,.string ⟨#[97,98,106,97,100]⟩,.string ⟨#[115,121,108,108,97,98]⟩]) (.int .i64 2)).run prog w=.ok (.string ⟨#[99,97,115,101,100]⟩) w:=fun w=>by simp [Instr.index,Ec underlying213,go_sem]
  have xu:((⟨#[99,97,115,101,100]⟩:ByteArray)++⟨#[58]⟩)=⟨#[99,97,115,101,100,58]⟩:=rfl;have l4:¬ (9223372036854775807<6+List.length J):=oM;refine Bd kR kR ?_;repeat (quiet_step (first|exact Bj (cT _ (Dv _ _ _))|exact Bj (cJ _ (Dv _ _ _))))
  refine C9 ?_;intro wq hbq;replace hbq:=At hbq;clear cT cJ g0 g1;go_wp2;refine Au (Bc rfl _ _ _) rfl ?_;refine⟨?_,hB1.trans (hbq.mono hB1.size)⟩;rw [<- hres'.out,<- bytes_append,<- bytes_append];rfl
 ·rw [hk] at c0 hres';have g0:∀ (d:Nat) (os:Array Obj),(grow (ZI w1 d) os).cell? ⟨w,0,none⟩=_:=Ae c0;clear hsc hk c0 c1;dsimp only [Jn] at cT;have hix:∀ w,(Instr.index 213 (.agg #[.string ⟨#[]⟩,.string ⟨#[112,108,97,105,110]⟩,.string ⟨#[99,97,115,101,100]⟩,.string ⟨#[97,98,106,97,100]⟩,.string ⟨#[115,121,108,108,97,98]⟩]) (.int .i64 3)).run prog w=.ok (.string ⟨#[97,98,106,97,100]⟩) w:=fun w=>by simp [Instr.index,Ec underlying213,go_sem]
  have xu:((⟨#[97,98,106,97,100]⟩:ByteArray)++⟨#[58]⟩)=⟨#[97,98,106,97,100,58]⟩:=rfl;have l4:¬ (9223372036854775807<6+List.length J):=oM;refine Bd kR kR ?_;repeat (quiet_step (first|exact Bj (cT _ (Dv _ _ _))|exact Bj (cJ _ (Dv _ _ _))))
  refine C9 ?_;intro wq hbq;replace hbq:=At hbq;clear cT cJ g0 g1;go_wp2;refine Au (Bc rfl _ _ _) rfl ?_;refine⟨?_,hB1.trans (hbq.mono hB1.size)⟩;rw [<- hres'.out,<- bytes_append,<- bytes_append];rfl
 ·rw [hk] at c0 hres';have g0:∀ (d:Nat) (os:Array Obj),(grow (ZI w1 d) os).cell? ⟨w,0,none⟩=_:=Ae c0;clear hsc hk c0 c1;dsimp only [Jn] at cT;have hix:∀ w,(Instr.index 213 (.agg #[.string ⟨#[]⟩,.string ⟨#[112,108,97,105,110]⟩,.string ⟨#[99,97,115,101,100]⟩,.string ⟨#[97,98,106,97,100]⟩,.string ⟨#[115,121,108,108,97,98]⟩]) (.int .i64 4)).run prog w=.ok (.string ⟨#[115,121,108,108,97,98]⟩) w:=fun w=>by simp [Instr.index,Ec underlying213,go_sem]
  have xu:((⟨#[115,121,108,108,97,98]⟩:ByteArray)++⟨#[58]⟩)=⟨#[115,121,108,108,97,98,58]⟩:=rfl;have l4:¬ (9223372036854775807<7+List.length J):=oM;refine Bd kR kR ?_;repeat (quiet_step (first|exact Bj (cT _ (Dv _ _ _))|exact Bj (cJ _ (Dv _ _ _))))
  refine C9 ?_;intro wq hbq;replace hbq:=At hbq;clear cT cJ g0 g1;go_wp2;refine Au (Bc rfl _ _ _) rfl ?_;refine⟨?_,hB1.trans (hbq.mono hB1.size)⟩;rw [<- hres'.out,<- bytes_append,<- bytes_append];rfl
def Er (B:Nat) (w:ZB) (v:ZC) (ns:List CH.Name):Prop := ∃ a cap,v=.slice a ns.length cap/\ns.length<=cap/\cap<=9223372036854775807 /\ (ns≠[]->∃ b off,a=some ⟨b,off,none⟩/\b<B/\∀ j n,ns[j]?=some n->∃ vw,w.cell? ⟨b,off+j*2,none⟩=some ↑n.script/\w.cell? ⟨b,off+j*2+1,none⟩=some vw/\Strs B w vw n.words)
theorem Er.below {B B':Nat} {w w':ZB} {v:ZC} {ns:List CH.Name} (h:Er B w v ns) (hb:Below B' w w') (hB:B<=B'):Er B w' v ns:=by obtain⟨a,cap,h1,h2,h3,h4⟩:=h;refine⟨a,cap,h1,h2,h3,fun hne=>?_⟩;obtain⟨b,off,e,hlt,hc⟩:=h4 hne;refine⟨b,off,e,hlt,fun j n hj=>?_⟩;obtain⟨vw,c1,c2,c3⟩:=hc j n hj;exact⟨vw,(hb.cell (p:=⟨b,off+j*2,none⟩) (Ah hlt hB)).trans c1,(hb.cell (p:=⟨b,off+j*2+1,none⟩) (Ah hlt hB)).trans c2,c3.below hb hB⟩
theorem Er.mono {B B':Nat} {w:ZB} {v:ZC} {ns:List CH.Name} (h:Er B w v ns) (hB:B<=B'):Er B' w v ns:=by obtain⟨a,cap,h1,h2,h3,h4⟩:=h;refine⟨a,cap,h1,h2,h3,fun hne=>?_⟩;obtain⟨b,off,e,hlt,hc⟩:=h4 hne;refine⟨b,off,e,Ah hlt hB,fun j n hj=>?_⟩;obtain⟨vw,c1,c2,c3⟩:=hc j n hj;exact⟨vw,c1,c2,c3.mono hB⟩
theorem Wq (vw:ZC) (n:CH.Name) (w:ZB) (hG:Gc w) (hn:Strs w w vw n.words) (hS:Gd n.words) : ZE prog 223 #[.agg #[↑n.script,vw]] w (Ret w (.bool (!bU n))):=by have hB0:=fun o=>(Ac _ w).alloc nR o;have A:=Aa fun o=>Uv [aJ n.script,vw] n (w.alloc o) (hG.below (hB0 o)) ⟨vw,rfl,(hn.below (hB0 o) nR).mono (hB0 o).size⟩ hS;obtain⟨aw,cw,rfl,_,_⟩:=hn.form;generalize n.words.length=N at *;go_enter func223,ntmps223;go_wp2_with fail;refine (A.out _).mono ?_;rintro e w1 ⟨rfl,hb1⟩;clear A;go_wp2;go_ret;exact⟨rfl,(hB0 _).trans (hb1.mono sM)⟩
theorem Vl (v:ZC) (ns:List CH.Name) (w:ZB) (hG:Gc w) (hv:Er w w v ns) (hl:ns.length<=100000) (hS:∀ n∈ns,Gd n.words) : ZE prog 267 #[v,.func (.func 223) #[] #[]] w (fun e w'=>∃ i:Int,e=.returned ↑i/\ZH (0<=i)=(ns.any fun n=>!bU n)/\Below w w w'):=by
 obtain⟨a,cap,rfl,hc1,hc2,hcell⟩:=hv;generalize hN:ns.length=N at *;have HF:=Aa hcell;clear hcell;go_enter func267,ntmps267;go_wp2_with fail;go_loopw [8] (fun iv wr=>∃ k:Nat,k<=N/\iv=↑k/\Hid (((ns.take k).any fun n=>!bU n)=false)/\Below w w wr) (fun iv _=>N - (ZG iv).toNat);case atStart=>exact⟨0,Bg _,rfl,Aa rfl,Ac _ _⟩
 case round =>
  obtain⟨k,hk,rfl,hu,hb⟩:=hrel;by_cases hlt:k<N
  ·obtain⟨x,hx⟩:∃ x,ns[k]?=some x:=⟨_,Ad oM⟩
   obtain⟨b,off,rfl,hblt,hcs⟩:=HF.out (fun e=>by rw [e] at hN;simp at hN;omega);obtain⟨vw,c1,c2,c3⟩:=hcs k x hx;have d1:=(hb.cell (p:=⟨b,off+k*2,none⟩) hblt).trans c1;have d2:=(hb.cell (p:=⟨b,off+k*2+1,none⟩) hblt).trans c2;have A:=Wq vw x wr (hG.below hb) ((c3.below hb nR).mono hb.size) (hS x (Ap hx));have hts:ns.take (k+1)=ns.take k++[x]:=by rw [Eo,hx];rfl
   have hno:Hid (((ns.take (k+1)).any fun n=>!bU n)=!bU x):=Aa (by rw [hts,List.any_append,hu.out];simp);have hmem:Hid (x∈ns):=Aa (Ap hx);obtain⟨aw,cw,rfl,_,_⟩:=c3.form;generalize x.words.length=xn at *;clear hts hcs hx c1 c2 c3;cases hin:bU x with
   |true =>
    rw [hin] at A;have A:=Aa A;have HR:Hid (((ns.take (k+1)).any fun n=>!bU n)=false):=Aa (by rw [hno.out,hin];rfl);go_wp2_with fail;refine A.out.mono ?_;rintro e w1 ⟨rfl,hb1⟩;clear A;go_wp2;go_roundw;case rel=>exact⟨k+1,oM,by go_num,HR,hb.trans (hb1.mono hb.size)⟩
    case measure=>simp [ZG];omega
   |false =>rw [hin] at A;have A:=Aa A;have HR:Hid ((ns.any fun n=>!bU n)=true):=Aa (by rw [I8];exact⟨x,hmem.out,by rw [hin];rfl⟩);go_wp2_with fail;refine A.out.mono ?_;rintro e w1 ⟨rfl,hb1⟩;clear A;go_wp2;go_ret;exact⟨_,rfl,by rw [HR.out];simp,hb.trans (hb1.mono hb.size)⟩
  ·have e:N=k:=oM;subst e;have HR:Hid ((ns.any fun n=>!bU n)=false):=Aa (by rw [<- hu.out,<- hN,Dx]);go_wp2;go_ret;exact⟨_,rfl,by rw [HR.out];decide,hb⟩
theorem Qc (v:ZC) (ns:List CH.Name) (w:ZB) (hG:Gc w) (hv:Er w w v ns) (hl:ns.length<=100000) (hS:∀ n∈ns,Gd n.words) : ZE prog 224 #[v,.func (.func 223) #[] #[]] w (Ret w (.bool (ns.any fun n=>!bU n))):=by
 have A:=Aa (Vl v ns w hG hv hl hS);obtain⟨r,hr⟩:∃ r,Hid ((ns.any fun n=>!bU n)=r):=⟨_,Aa rfl⟩
 rw [hr.out] at A ⊢;obtain⟨a,cap,rfl,_,_,_⟩:=hv;generalize ns.length=N at *;go_enter func224,ntmps224;go_wp2_with fail;refine A.out.mono ?_;rintro e w1 ⟨i,rfl,hi,hb1⟩;clear A;subst hi;go_wp2;go_ret;exact⟨rfl,hb1⟩
theorem Er.form {B:Nat} {w:ZB} {v:ZC} {ns:List CH.Name} (h:Er B w v ns):∃ a cap,v=.slice a ns.length cap/\ns.length<=cap/\cap<=9223372036854775807:=by obtain⟨a,cap,h1,h2,h3,_⟩:=h;exact⟨a,cap,h1,h2,h3⟩
structure ou (e:CH.Entry):Prop where
 id:e.id.length<=10000
 len:e.names.length<=100000
 names:∀ n∈e.names,Gd n.words
theorem Tm (vn:ZC) (e:CH.Entry) (w:ZB) (hG:Gc w) (hv:Er w w vn e.names) (hS:ou e) : ZE prog 160 #[.agg #[↑e.id,vn]] w (Ret w (.bool (dU e))):=by
 obtain⟨r,hr⟩:∃ r,Hid (dU e=r):=⟨_,Aa rfl⟩
 rw [hr.out];have hB0:=fun o=>(Ac _ w).alloc nR o;have I:=fun w'=>Vc e.id w' (Ag hS.id dC);have C:=Aa fun (w':ZB) (hb:Below w w w')=>Qc vn e.names w' (hG.below hb) ((hv.below hb nR).mono hb.size) hS.len hS.names;obtain⟨an,cn,rfl,_,_⟩:=hv.form;have hW:=fun o=>Ai w o;generalize hN:e.names.length=N at *;clear hv;cases hi:CH.ident e.id with
 |false =>
  rw [hi] at I;have I:=Aa I;have hr1:r=false:=by rw [<- hr.out];unfold dU;rw [hi];rfl
  subst hr1;go_enter func160,ntmps160;go_wp2_with fail;refine (I.out _).mono ?_;rintro e w1 ⟨rfl,hb1⟩;clear I;go_wp2;go_ret;exact⟨rfl,(hB0 _).trans (hb1.mono sM)⟩
 |true =>
  rw [hi] at I;have I:=Aa I;have hr2:Hid (r=(ZH (0<N)&&(ZH (N<=8)&&!(e.names.any fun n=>!bU n)))):=Aa (by rw [<- hr.out];unfold dU;rw [hi,hN];rfl);go_enter func160,ntmps160;go_wp2_with fail;refine (I.out _).mono ?_;rintro e' w1 ⟨rfl,hb1⟩;have hB1:Below w w w1:=(hB0 _).trans (hb1.mono sM);have hblk:=(hb1.block w sM).trans (hW _);have c1:w1.cell? ⟨w,1,none⟩=some (.slice an N cn):=Ab hblk 1;clear I hb1 hblk hW hB0 hr;by_cases h0:0<N
  ·have d0:ZH ((0:Int)<(N:Int))=true:=by simp;omega
   by_cases h8:N<=8
   ·have d8:ZH ((N:Int)<=8)=true:=by simp;omega
    have hr3:r=!(e.names.any fun n=>!bU n):=by rw [hr2.out,Az h0,Az h8];rfl
    clear hr2;subst hr3;go_wp2_with fail;refine (C.out w1 hB1).mono ?_;rintro e' w2 ⟨rfl,hb2⟩;clear C;go_wp2;go_ret;exact⟨rfl,hB1.trans (hb2.mono hB1.size)⟩
   ·have d8:ZH ((N:Int)<=8)=false:=by simp;omega
    have hr3:r=false:=by rw [hr2.out,Aq h8];simp
    clear hr2 C;subst hr3;go_wp2;go_ret;exact⟨rfl,hB1⟩
  ·have d0:ZH ((0:Int)<(N:Int))=false:=by simp;omega
   have hr3:r=false:=by rw [hr2.out,Aq h0];rfl
   clear hr2 C;subst hr3;go_wp2;go_ret;exact⟨rfl,hB1⟩
theorem Yn (w:ZB):ZE prog 98 #[] w (fun e w'=>e=.returned (.slice (some ⟨w,0,none⟩) 5 5)/\w'=w.alloc (.cells #[.string ⟨#[]⟩,.string ⟨([97,100,100]:List UInt8).toArray⟩,.string ⟨([114,101,109,111,118,101]:List UInt8).toArray⟩,.string ⟨([99,111,114,114,101,99,116]:List UInt8).toArray⟩,.string ⟨([118,111,105,100]:List UInt8).toArray⟩] 9)):=by go_enter func98,ntmps98;go_wp2;go_ret;exact⟨rfl,rfl⟩
structure iR (c:CH.Change):Prop where
 id:c.id.length<=10000
 entry:ou c.entry
def Bb (c:CH.Change) (vn:ZC):List ZC:=[↑c.kind,↑c.id,↑c.entry.id,vn,↑c.pos]
theorem Ggr (vn:ZC) (c:CH.Change) (w:ZB) (hG:Gc w) (hv:Er w w vn c.entry.names) (hS:iR c) : ZE prog 97 #[.agg (Bb c vn).toArray] w (Ret w (.bool (dD c))):=by
 obtain⟨r,hr⟩:∃ r,dD c=r:=⟨_,rfl⟩
 rw [hr];have hB0:=fun o=>(Ac _ w).alloc nR o;have I:=fun w'=>Vc c.id w' (Ag hS.id dC);have E:=fun (w':ZB) (hb:Below w w w')=>Tm vn c.entry w' (hG.below hb) ((hv.below hb nR).mono hb.size) hS.entry;have T:=fun (w':ZB) (hb:Below w w w')=>Td c.pos w' (hG.gl.below hb);obtain⟨an,cn,rfl,_,_⟩:=hv.form;have hW:=fun o=>Ai w o;obtain⟨kd,cid,en,ps⟩:=c;dsimp only at *;have hbe:=Hm en.id;have hne:=Cy en.id cid;generalize hN:en.names.length=N at *;clear hv hS;dsimp only [Bb];obtain⟨bi,hbi⟩:∃ b,CH.ident cid=b:=⟨_,rfl⟩
 obtain⟨be,hbp⟩:∃ b,dU en=b:=⟨_,rfl⟩
 obtain⟨bt,hbt⟩:∃ b,bg ps=b:=⟨_,rfl⟩
 rw [hbi] at I;rw [hbp] at E;rw [hbt] at T;replace I:=Aa I;replace E:=Aa E;replace T:=Aa T;unfold dD at hr;dsimp only at hr;rw [hbi,hbp,hbt,hN] at hr;clear hbi hbp hbt;by_cases h1:kd=1\/kd=3
 ·rcases h1 with rfl|rfl
  ·cases bi with
   |false =>
    have hr1:r=false:=by rw [<- hr];simp
    clear hr;subst hr1;go_enter func97,ntmps97;go_wp2_with fail;refine (I.out _).mono ?_;rintro e w1 ⟨rfl,hb1⟩;have hB1:Below w w w1:=(hB0 _).trans (hb1.mono sM);have hblk:=(hb1.block w sM).trans (hW _);have hlt1:w.heap.size<w1.heap.size:=(aZ hblk)
    clear I hb1 hW hB0;have k0:w1.cell? ⟨w,0,none⟩=some (.int .i64 1):=Ab hblk 0;have k1:w1.cell? ⟨w,1,none⟩=some ↑cid:=Ab hblk 1;have k2:w1.cell? ⟨w,2,none⟩=some ↑en.id:=Ab hblk 2;have k3:w1.cell? ⟨w,3,none⟩=some (.slice an N cn):=Ab hblk 3;have k4:w1.cell? ⟨w,4,none⟩=some ↑ps:=Ab hblk 4;clear E T;go_wp2;go_ret;exact⟨rfl,hB1⟩
   |true =>
    go_enter func97,ntmps97;go_wp2_with fail;refine (I.out _).mono ?_;rintro e w1 ⟨rfl,hb1⟩;have hB1:Below w w w1:=(hB0 _).trans (hb1.mono sM);have hblk:=(hb1.block w sM).trans (hW _);have hlt1:w.heap.size<w1.heap.size:=(aZ hblk)
    clear I hb1 hW hB0;have k0:w1.cell? ⟨w,0,none⟩=some (.int .i64 1):=Ab hblk 0;have k1:w1.cell? ⟨w,1,none⟩=some ↑cid:=Ab hblk 1;have k2:w1.cell? ⟨w,2,none⟩=some ↑en.id:=Ab hblk 2;have k3:w1.cell? ⟨w,3,none⟩=some (.slice an N cn):=Ab hblk 3;have k4:w1.cell? ⟨w,4,none⟩=some ↑ps:=Ab hblk 4;cases hx:(en.id==cid) with
    |false =>
     rw [hx] at hne;rw [show (en.id != cid)=true from by rw [bne,hx];rfl] at hr;have hr1:r=false:=by rw [<- hr];simp
     clear hr;subst hr1;clear E T;go_wp2;go_ret;exact⟨rfl,hB1⟩
    |true =>
     rw [hx] at hne;rw [show (en.id != cid)=false from by rw [bne,hx];rfl] at hr;go_wp2_with fail;refine (E.out w1 hB1).mono ?_;rintro e w2 ⟨rfl,hb2⟩;clear E;have hB2:Below w w w2:=hB1.trans (hb2.mono hB1.size);have hblk2:=(hb2.block w hlt1).trans hblk;clear hb2 k0 k1 k2 k3 k4;have k0:w2.cell? ⟨w,0,none⟩=some (.int .i64 1):=Ab hblk2 0;have k1:w2.cell? ⟨w,1,none⟩=some ↑cid:=Ab hblk2 1;have k2:w2.cell? ⟨w,2,none⟩=some ↑en.id:=Ab hblk2 2;have k3:w2.cell? ⟨w,3,none⟩=some (.slice an N cn):=Ab hblk2 3;have k4:w2.cell? ⟨w,4,none⟩=some ↑ps:=Ab hblk2 4;cases be with
     |false =>
      have hr1:r=false:=by rw [<- hr];simp
      clear hr;subst hr1;clear T;go_wp2;go_ret;exact⟨rfl,hB2⟩
     |true =>
      have hr1:r=bt:=by rw [<- hr];simp
      clear hr;subst hr1;go_wp2_with fail;refine (T.out w2 hB2).mono ?_;rintro e w9 ⟨rfl,hb9⟩;clear T;cases r with
      |true =>go_wp2;go_ret;exact⟨rfl,hB2.trans (hb9.mono hB2.size)⟩
      |false =>go_wp2;go_ret;exact⟨rfl,hB2.trans (hb9.mono hB2.size)⟩
  ·cases bi with
   |false =>
    have hr1:r=false:=by rw [<- hr];simp
    clear hr;subst hr1;go_enter func97,ntmps97;go_wp2_with fail;refine (I.out _).mono ?_;rintro e w1 ⟨rfl,hb1⟩;have hB1:Below w w w1:=(hB0 _).trans (hb1.mono sM);have hblk:=(hb1.block w sM).trans (hW _);have hlt1:w.heap.size<w1.heap.size:=(aZ hblk)
    clear I hb1 hW hB0;have k0:w1.cell? ⟨w,0,none⟩=some (.int .i64 3):=Ab hblk 0;have k1:w1.cell? ⟨w,1,none⟩=some ↑cid:=Ab hblk 1;have k2:w1.cell? ⟨w,2,none⟩=some ↑en.id:=Ab hblk 2;have k3:w1.cell? ⟨w,3,none⟩=some (.slice an N cn):=Ab hblk 3;have k4:w1.cell? ⟨w,4,none⟩=some ↑ps:=Ab hblk 4;clear E T;go_wp2;go_ret;exact⟨rfl,hB1⟩
   |true =>
    go_enter func97,ntmps97;go_wp2_with fail;refine (I.out _).mono ?_;rintro e w1 ⟨rfl,hb1⟩;have hB1:Below w w w1:=(hB0 _).trans (hb1.mono sM);have hblk:=(hb1.block w sM).trans (hW _);have hlt1:w.heap.size<w1.heap.size:=(aZ hblk)
    clear I hb1 hW hB0;have k0:w1.cell? ⟨w,0,none⟩=some (.int .i64 3):=Ab hblk 0;have k1:w1.cell? ⟨w,1,none⟩=some ↑cid:=Ab hblk 1;have k2:w1.cell? ⟨w,2,none⟩=some ↑en.id:=Ab hblk 2;have k3:w1.cell? ⟨w,3,none⟩=some (.slice an N cn):=Ab hblk 3;have k4:w1.cell? ⟨w,4,none⟩=some ↑ps:=Ab hblk 4;cases hx:(en.id==cid) with
    |false =>
     rw [hx] at hne;rw [show (en.id != cid)=true from by rw [bne,hx];rfl] at hr;have hr1:r=false:=by rw [<- hr];simp
     clear hr;subst hr1;clear E T;go_wp2;go_ret;exact⟨rfl,hB1⟩
    |true =>
     rw [hx] at hne;rw [show (en.id != cid)=false from by rw [bne,hx];rfl] at hr;go_wp2_with fail;refine (E.out w1 hB1).mono ?_;rintro e w2 ⟨rfl,hb2⟩;clear E;have hB2:Below w w w2:=hB1.trans (hb2.mono hB1.size);have hblk2:=(hb2.block w hlt1).trans hblk;clear hb2 k0 k1 k2 k3 k4;have k0:w2.cell? ⟨w,0,none⟩=some (.int .i64 3):=Ab hblk2 0;have k1:w2.cell? ⟨w,1,none⟩=some ↑cid:=Ab hblk2 1;have k2:w2.cell? ⟨w,2,none⟩=some ↑en.id:=Ab hblk2 2;have k3:w2.cell? ⟨w,3,none⟩=some (.slice an N cn):=Ab hblk2 3;have k4:w2.cell? ⟨w,4,none⟩=some ↑ps:=Ab hblk2 4;cases be with
     |false =>
      have hr1:r=false:=by rw [<- hr];simp
      clear hr;subst hr1;clear T;go_wp2;go_ret;exact⟨rfl,hB2⟩
     |true =>
      have hr1:r=(ps==0):=by rw [<- hr];simp
      clear hr T;subst hr1;go_wp2;go_ret;exact⟨rfl,hB2⟩
 by_cases h2:kd=2\/kd=4
 ·rcases h2 with rfl|rfl
  ·cases bi with
   |false =>
    have hr1:r=false:=by rw [<- hr];simp
    clear hr;subst hr1;go_enter func97,ntmps97;go_wp2_with fail;refine (I.out _).mono ?_;rintro e w1 ⟨rfl,hb1⟩;have hB1:Below w w w1:=(hB0 _).trans (hb1.mono sM);have hblk:=(hb1.block w sM).trans (hW _);have hlt1:w.heap.size<w1.heap.size:=(aZ hblk)
    clear I hb1 hW hB0;have k0:w1.cell? ⟨w,0,none⟩=some (.int .i64 2):=Ab hblk 0;have k1:w1.cell? ⟨w,1,none⟩=some ↑cid:=Ab hblk 1;have k2:w1.cell? ⟨w,2,none⟩=some ↑en.id:=Ab hblk 2;have k3:w1.cell? ⟨w,3,none⟩=some (.slice an N cn):=Ab hblk 3;have k4:w1.cell? ⟨w,4,none⟩=some ↑ps:=Ab hblk 4;clear E T;go_wp2;go_ret;exact⟨rfl,hB1⟩
   |true =>
    go_enter func97,ntmps97;go_wp2_with fail;refine (I.out _).mono ?_;rintro e w1 ⟨rfl,hb1⟩;have hB1:Below w w w1:=(hB0 _).trans (hb1.mono sM);have hblk:=(hb1.block w sM).trans (hW _);have hlt1:w.heap.size<w1.heap.size:=(aZ hblk)
    clear I hb1 hW hB0;have k0:w1.cell? ⟨w,0,none⟩=some (.int .i64 2):=Ab hblk 0;have k1:w1.cell? ⟨w,1,none⟩=some ↑cid:=Ab hblk 1;have k2:w1.cell? ⟨w,2,none⟩=some ↑en.id:=Ab hblk 2;have k3:w1.cell? ⟨w,3,none⟩=some (.slice an N cn):=Ab hblk 3;have k4:w1.cell? ⟨w,4,none⟩=some ↑ps:=Ab hblk 4;clear E;cases hx:(en.id != []) with
    |true =>
     rw [hx] at hr hbe;replace hbe:List.isEmpty en.id=false:=hbe;have hr1:r=false:=by rw [<- hr];simp
     clear hr;subst hr1;clear T;go_wp2;go_ret;exact⟨rfl,hB1⟩
    |false =>
     rw [hx] at hr hbe;replace hbe:List.isEmpty en.id=true:=hbe;by_cases h0:0<N
     ·have d0:ZH ((0:Int)<(N:Int))=true:=by simp;omega
      rw [Az h0] at hr;have hr1:r=false:=by rw [<- hr];simp
      clear hr;subst hr1;clear T;go_wp2;go_ret;exact⟨rfl,hB1⟩
     ·have d0:ZH ((0:Int)<(N:Int))=false:=by simp;omega
      rw [Aq h0] at hr;have hr1:r=bt:=by rw [<- hr];simp
      clear hr;subst hr1;go_wp2_with fail;refine (T.out w1 hB1).mono ?_;rintro e w9 ⟨rfl,hb9⟩;clear T;cases r with
      |true =>go_wp2;go_ret;exact⟨rfl,hB1.trans (hb9.mono hB1.size)⟩
      |false =>go_wp2;go_ret;exact⟨rfl,hB1.trans (hb9.mono hB1.size)⟩
  ·cases bi with
   |false =>
    have hr1:r=false:=by rw [<- hr];simp
    clear hr;subst hr1;go_enter func97,ntmps97;go_wp2_with fail;refine (I.out _).mono ?_;rintro e w1 ⟨rfl,hb1⟩;have hB1:Below w w w1:=(hB0 _).trans (hb1.mono sM);have hblk:=(hb1.block w sM).trans (hW _);have hlt1:w.heap.size<w1.heap.size:=(aZ hblk)
    clear I hb1 hW hB0;have k0:w1.cell? ⟨w,0,none⟩=some (.int .i64 4):=Ab hblk 0;have k1:w1.cell? ⟨w,1,none⟩=some ↑cid:=Ab hblk 1;have k2:w1.cell? ⟨w,2,none⟩=some ↑en.id:=Ab hblk 2;have k3:w1.cell? ⟨w,3,none⟩=some (.slice an N cn):=Ab hblk 3;have k4:w1.cell? ⟨w,4,none⟩=some ↑ps:=Ab hblk 4;clear E T;go_wp2;go_ret;exact⟨rfl,hB1⟩
   |true =>
    go_enter func97,ntmps97;go_wp2_with fail;refine (I.out _).mono ?_;rintro e w1 ⟨rfl,hb1⟩;have hB1:Below w w w1:=(hB0 _).trans (hb1.mono sM);have hblk:=(hb1.block w sM).trans (hW _);have hlt1:w.heap.size<w1.heap.size:=(aZ hblk)
    clear I hb1 hW hB0;have k0:w1.cell? ⟨w,0,none⟩=some (.int .i64 4):=Ab hblk 0;have k1:w1.cell? ⟨w,1,none⟩=some ↑cid:=Ab hblk 1;have k2:w1.cell? ⟨w,2,none⟩=some ↑en.id:=Ab hblk 2;have k3:w1.cell? ⟨w,3,none⟩=some (.slice an N cn):=Ab hblk 3;have k4:w1.cell? ⟨w,4,none⟩=some ↑ps:=Ab hblk 4;clear E;cases hx:(en.id != []) with
    |true =>
     rw [hx] at hr hbe;replace hbe:List.isEmpty en.id=false:=hbe;have hr1:r=false:=by rw [<- hr];simp
     clear hr;subst hr1;clear T;go_wp2;go_ret;exact⟨rfl,hB1⟩
    |false =>
     rw [hx] at hr hbe;replace hbe:List.isEmpty en.id=true:=hbe;by_cases h0:0<N
     ·have d0:ZH ((0:Int)<(N:Int))=true:=by simp;omega
      rw [Az h0] at hr;have hr1:r=false:=by rw [<- hr];simp
      clear hr;subst hr1;clear T;go_wp2;go_ret;exact⟨rfl,hB1⟩
     ·have d0:ZH ((0:Int)<(N:Int))=false:=by simp;omega
      rw [Aq h0] at hr;have hr1:r=(ps==0):=by rw [<- hr];simp
      clear hr T;subst hr1;go_wp2;go_ret;exact⟨rfl,hB1⟩
 have z1:(kd==1)=false:=by simp;omega
 have z2:(kd==2)=false:=by simp;omega
 have z3:(kd==3)=false:=by simp;omega
 have hr1:r=false:=by
  rw [<- hr];rw [Aw];by_cases hlt:kd<1;·simp [hlt]
  ·have:kd > 4:=oM;simp [this]
 clear hr;subst hr1;by_cases hlt:kd<1
 ·have d1:ZH (kd<1)=true:=by simpa using hlt
  cases bi with
  |false =>
   go_enter func97,ntmps97;go_wp2_with fail;refine (I.out _).mono ?_;rintro e w1 ⟨rfl,hb1⟩;have hB1:Below w w w1:=(hB0 _).trans (hb1.mono sM);have hblk:=(hb1.block w sM).trans (hW _);have hlt1:w.heap.size<w1.heap.size:=(aZ hblk)
   clear I hb1 hW hB0;have k0:w1.cell? ⟨w,0,none⟩=some ↑kd:=Ab hblk 0;have k1:w1.cell? ⟨w,1,none⟩=some ↑cid:=Ab hblk 1;have k2:w1.cell? ⟨w,2,none⟩=some ↑en.id:=Ab hblk 2;have k3:w1.cell? ⟨w,3,none⟩=some (.slice an N cn):=Ab hblk 3;have k4:w1.cell? ⟨w,4,none⟩=some ↑ps:=Ab hblk 4;clear E T;go_wp2;go_ret;exact⟨rfl,hB1⟩
  |true =>
   go_enter func97,ntmps97;go_wp2_with fail;refine (I.out _).mono ?_;rintro e w1 ⟨rfl,hb1⟩;have hB1:Below w w w1:=(hB0 _).trans (hb1.mono sM);have hblk:=(hb1.block w sM).trans (hW _);have hlt1:w.heap.size<w1.heap.size:=(aZ hblk)
   clear I hb1 hW hB0;have k0:w1.cell? ⟨w,0,none⟩=some ↑kd:=Ab hblk 0;have k1:w1.cell? ⟨w,1,none⟩=some ↑cid:=Ab hblk 1;have k2:w1.cell? ⟨w,2,none⟩=some ↑en.id:=Ab hblk 2;have k3:w1.cell? ⟨w,3,none⟩=some (.slice an N cn):=Ab hblk 3;have k4:w1.cell? ⟨w,4,none⟩=some ↑ps:=Ab hblk 4;clear E T;go_wp2;go_ret;exact⟨rfl,hB1⟩
 ·have d1:ZH (kd<1)=false:=by simpa using hlt
  have d4:ZH (4<kd)=true:=by simp;omega
  cases bi with
  |false =>
   go_enter func97,ntmps97;go_wp2_with fail;refine (I.out _).mono ?_;rintro e w1 ⟨rfl,hb1⟩;have hB1:Below w w w1:=(hB0 _).trans (hb1.mono sM);have hblk:=(hb1.block w sM).trans (hW _);have hlt1:w.heap.size<w1.heap.size:=(aZ hblk)
   clear I hb1 hW hB0;have k0:w1.cell? ⟨w,0,none⟩=some ↑kd:=Ab hblk 0;have k1:w1.cell? ⟨w,1,none⟩=some ↑cid:=Ab hblk 1;have k2:w1.cell? ⟨w,2,none⟩=some ↑en.id:=Ab hblk 2;have k3:w1.cell? ⟨w,3,none⟩=some (.slice an N cn):=Ab hblk 3;have k4:w1.cell? ⟨w,4,none⟩=some ↑ps:=Ab hblk 4;clear E T;go_wp2;go_ret;exact⟨rfl,hB1⟩
  |true =>
   go_enter func97,ntmps97;go_wp2_with fail;refine (I.out _).mono ?_;rintro e w1 ⟨rfl,hb1⟩;have hB1:Below w w w1:=(hB0 _).trans (hb1.mono sM);have hblk:=(hb1.block w sM).trans (hW _);have hlt1:w.heap.size<w1.heap.size:=(aZ hblk)
   clear I hb1 hW hB0;have k0:w1.cell? ⟨w,0,none⟩=some ↑kd:=Ab hblk 0;have k1:w1.cell? ⟨w,1,none⟩=some ↑cid:=Ab hblk 1;have k2:w1.cell? ⟨w,2,none⟩=some ↑en.id:=Ab hblk 2;have k3:w1.cell? ⟨w,3,none⟩=some (.slice an N cn):=Ab hblk 3;have k4:w1.cell? ⟨w,4,none⟩=some ↑ps:=Ab hblk 4;clear E T;go_wp2;go_ret;exact⟨rfl,hB1⟩
def Cw (base p:Nat) (w:ZB) (ls:List (List UInt8)):Prop:=∃ v,w.heap[p]?=some (.cells #[v] 22 (0,0))/\Ay base w v ls/\v.ownBlock≠some p/\base<=p
def Hld (base p:Nat) (w:ZB) (ls:List (List UInt8)) (e:Ending) (w':ZB):Prop:=e=.returned (.tuple #[])/\Cw base p w' ls/\Below base w w'/\w.heap.size<=w'.heap.size
theorem Cw.below {base p:Nat} {w w':ZB} {ls:List (List UInt8)} (h:Cw base p w ls) (hb:Below w w w'):Cw base p w' ls:=by obtain⟨v,h1,h2,h3,h4⟩:=h;exact⟨v,(hb.block p (aZ h1)).trans h1,h2.below hb,h3,h4⟩
theorem Ud {base p:Nat} {w:ZB} {ls:List (List UInt8)} (h:Cw base p w ls):p<w.heap.size:=by obtain⟨v,h1,_⟩:=h;exact (aZ h1)
theorem K2 (vx:ZC) (lx ls:List (List UInt8)) (base p B:Nat) (w:ZB) (hW:Cw base p w ls) (hX:Strs B w vx lx) (hl:ls.length+lx.length<=1000000) : ZE prog 99 #[vx,.pointer (some ⟨p,0,none⟩)] w (Hld base p w (ls++lx)):=by
 have hpl:=Ud hW;obtain⟨v,hv,hO,hne,hbp⟩:=hW;obtain⟨av,cv,rfl,hf1,hf2,_⟩:=hO.form;have hblk:=O3 hO;have c0:w.cell? ⟨p,0,none⟩=some (.slice av ls.length cv):=Ab hv 0;obtain⟨ax,cx,rfl,_,_⟩:=hX.form;generalize hN:ls.length=N at *;generalize hM:lx.length=M at *;go_enter func99,ntmps99;go_wp2_with (refine Mq rfl _ _ rfl base _ ls rfl hO B _ lx rfl hX oM oM ?_;intro v5 w5 hO5 hg5 h45;have hn5:v5.ownBlock≠some p:=h45.elim (fun h=>(by rw [h];exact hne)) (fun h e=>(by rw [h] at e;injection e;omega));clear h45;obtain⟨a5,c5,rfl,hf5⟩:=hO5.form;have hp5:=(hg5.block p hpl (fun e=>hne e.symm)).trans hv;have c5':w5.cell? ⟨p,0,none⟩=some (.slice av N cv):=Ab hp5 0;have f5':w5.frozen? ⟨p,0,none⟩=false:=Be hp5 0)
 go_end0;have y0:=Bk w5 p 0 (.slice a5 (ls++lx).length c5) _ _ _ hp5;simp only [List.setIfInBounds_toArray,List.set_cons_zero] at y0;have e1:(ls++lx).length=N+M:=by simp [hN,hM]
 refine⟨rfl,⟨_,?_,J6 hO5 (K1 w5 ⟨p,0,none⟩ _) (.inr hn5),hn5,hbp⟩,?_,?_⟩;·simpa [e1] using y0
 ·exact (((Ac base w).grown hg5 oM (fun k e=>hblk k e))).setCell (p:=⟨p,0,none⟩) hbp _
 ·simp [World.setCell];exact hg5.size
theorem Get {c:CH.Change} (h:dD c=true):c.kind=1\/c.kind=2\/c.kind=3\/c.kind=4:=by
 apply Classical.byContradiction;intro hn;have hlt:c.kind<1\/c.kind > 4:=oM;unfold dD at h;dsimp only at h;rw [Aw] at h;·cases h
 ·rcases hlt with hlt|hlt;·simp [hlt]
  ·simp [hlt]
theorem Mp {c:CH.Change} (h:dD c=true):∀ n∈c.entry.names,bU n=true:=by
 intro n hn;have hlen:0<c.entry.names.length:=Ku hn;have hok:dU c.entry=true:=by
  apply Classical.byContradiction;intro hne;have hne':dU c.entry=false:=by simpa using hne
  unfold dD at h;dsimp only at h;rw [hne',Az hlen] at h;cases he:(c.kind==1||c.kind==3) <;> rw [he] at h <;> simp at h
 unfold dU at hok;simp only [Am,Ea,Jm] at hok;have:=hok.2.2.2 n hn;simpa using this
theorem Qk (w:ZB) (o1 o2 o3:Obj) (i j:Nat) (hij:i≠j/\i<3/\j<3) (a b:List UInt8) (hbox:[o1,o2,o3][i]?=some (.cells #[.slice (some ⟨w.heap.size+j,0,none⟩) 2 2] 22)) (hrow:[o1,o2,o3][j]?=some (.cells #[↑a,↑b] 9)) : Cw w (w.heap.size+i) (((w.alloc o1).alloc o2).alloc o3).drew [a,b]/\Below w w (((w.alloc o1).alloc o2).alloc o3).drew:=by
 have hb:Below w w (((w.alloc o1).alloc o2).alloc o3).drew:=((((Ac _ w).alloc nR _).alloc sM _).alloc (by simp;omega) _).drew;have hat:∀ k,k<3->(((w.alloc o1).alloc o2).alloc o3).drew.heap[w.heap.size+k]?=[o1,o2,o3][k]?:=fun k hk=>by
  have e:(((w.alloc o1).alloc o2).alloc o3).drew.heap=((w.heap.push o1).push o2).push o3:=by simp only [World.alloc,World.drew]
  rw [e];simp only [Dk,Eb];rcases (oM:k=0\/k=1\/k=2) with rfl|rfl|rfl;·rw [Ak oM,Ak oM,Aw oM];rfl
  ·rw [Ak oM,Aw oM];rfl
  ·rw [Aw oM];rfl
 refine⟨⟨_,(hat i hij.2.1).trans hbox,⟨rfl,.inr ⟨w.heap.size+j,2,#[↑a,↑b],rfl,Nat.le_add_right _ _,(hat j hij.2.2).trans hrow,Bv _,by unfold maxLen;omega,rfl,rfl⟩⟩,?_,Nat.le_add_right _ _⟩,hb⟩;intro e;simp [Value.ownBlock] at e;omega
theorem Cw.alloc {base p:Nat} {w:ZB} {ls:List (List UInt8)} (h:Cw base p w ls) (o:Obj):Cw base p (w.alloc o) ls:=h.below ((Ac _ w).alloc nR o)
theorem Gr {c:CH.Change} (h:dD c=true):c.entry.names.length<=8:=by
 by_cases hl:0<c.entry.names.length
 ·have hok:dU c.entry=true:=by
   apply Classical.byContradiction;intro hne;have hne':dU c.entry=false:=by simpa using hne
   unfold dD at h;dsimp only at h;rw [hne',Az hl] at h;cases he:(c.kind==1||c.kind==3) <;> rw [he] at h <;> simp at h
  unfold dU at hok;simp only [Am,Bq] at hok;exact hok.2.2.1
 ·omega
theorem Pj (k:Int):(CH.kindWord k).length<=7:=by
 unfold CH.kindWord;repeat' split
 all_goals decide
def B8 (n:CH.Name):List UInt8:=[34]++aT n++[34]
theorem Lx (n:CH.Name) (hS:Gd n.words):(aT n).length<=1000000000010:=by
 have h1:=K6 [32] 10000 n.words hS.2;have h2:=hS.1;have h3:n.words.length*(10000+1)<=100000*(10000+1):=Dj _ h2;have h4:(CH.title n.script).length<=6:=by
  unfold CH.title;repeat' split
  all_goals decide
 unfold aT;simp only [Aj,Ar,Bo,Bl] at h1 ⊢;omega
def dN (n:Nat) (ls:List (List UInt8)):Prop:=∀ l∈ls,l.length<=n
theorem dN.one {n:Nat} {a:List UInt8} (h:a.length<=n):dN n [a]:=fun l hl=>by cases Bz.1 hl;exact h
theorem dN.cons {n:Nat} {a:List UInt8} {ls:List (List UInt8)} (h:a.length<=n) (h2:dN n ls):dN n (a::ls):=fun l hl=>by
 rcases A8.1 hl with rfl|hl;·exact h
 ·exact h2 l hl
theorem L2 (c:CH.Change) (hok:dD c=true) (hS:∀ n∈c.entry.names,Gd n.words) (pre:List (List UInt8)) (hpl:pre.length<=3) (hpre:dN 1000000000100 pre):(CH.join [32] (pre++c.entry.names.map B8)).length<=140737488355300:=by
 have h1:=K6 [32] 1000000000100 (pre++c.entry.names.map B8) (fun l hl=>by
  rcases Dp.1 hl with h|h;·exact hpre l h
  ·obtain⟨n,hn,rfl⟩:=Ee.1 h;have:=Lx n (hS n hn);unfold B8;simp;omega)
 have h2:=Gr hok;have h3:(pre++c.entry.names.map B8).length*(1000000000100+[(32:UInt8)].length)<=11*(1000000000100+1):=Dj _ (by rw [Aj,Dc];omega);omega
def Zz (s:List UInt8):List UInt8:=if s=[] then [45] else s
theorem For (s:List UInt8) (w:ZB) (b:Nat) (h0:w.cell? ⟨b,0,none⟩=some (ay s)) (h1:w.cell? ⟨b,1,none⟩=some (ay [45])) : ZE prog 110 #[.slice (some ⟨b,0,none⟩) 2 2] w (Ret w (ay (Zz s))):=by
 unfold Zz;by_cases hs:s=[]
 ·subst hs;rw [Aw rfl];go_enter func110,ntmps110;go_wp2_with fail;go_loopw [8] (fun iv wr=>∃ j:Nat,j<2/\iv=↑j/\wr=w) (fun iv _=>2 - (ZG iv).toNat);case atStart=>exact⟨0,oM,rfl,rfl⟩
  case round =>
   obtain⟨j,hj,rfl,rfl⟩:=hrel;rcases (oM:j=0\/j=1) with rfl|rfl
   ·go_wp2;go_roundw;case rel=>exact⟨1,oM,by first|rfl|go_num,by first|rfl|trivial⟩
    case measure=>simp [ZG]
   ·go_wp2;go_ret;exact⟨rfl,Ac _ _⟩
 ·rw [Ak hs];have te:List.isEmpty s=false:=by cases s with|nil=>exact absurd rfl hs|cons _ _=>rfl
  go_enter func110,ntmps110;go_wp2_with fail;go_loopw [8] (fun iv wr=>iv=.int .i64 0/\wr=w) (fun _ _=>0);case atStart=>exact⟨rfl,rfl⟩
  case round =>obtain⟨rfl,rfl⟩:=hrel;go_wp2;go_ret;exact⟨rfl,Ac _ _⟩
theorem zl (n:Int) (w:ZB):(Instr.typeAssert (.iface 3 ↑n) 20 3 true).run prog w=.ok (.tuple #[↑n,.bool true]) w:=kR
theorem yY (s:ByteArray) (w:ZB):(Instr.typeAssert (.iface 9 (.string s)) 20 3 true).run prog w=.ok (.tuple #[.int .i64 0,.bool false]) w:=kR
theorem yX (s:ByteArray) (w:ZB):(Instr.typeAssert (.iface 9 (.string s)) 20 9 true).run prog w=.ok (.tuple #[.string s,.bool true]) w:=kR
theorem zh (a:Option Addr) (n c:Nat) (w:ZB):(Instr.typeAssert (.iface 22 (.slice a n c)) 20 3 true).run prog w=.ok (.tuple #[.int .i64 0,.bool false]) w:=kR
theorem yZ (a:Option Addr) (n c:Nat) (w:ZB):(Instr.typeAssert (.iface 22 (.slice a n c)) 20 9 true).run prog w=.ok (.tuple #[.string ⟨#[]⟩,.bool false]) w:=kR
theorem zf (a:Option Addr) (n c:Nat) (w:ZB):(Instr.typeAssert (.iface 22 (.slice a n c)) 20 22 true).run prog w=.ok (.tuple #[.slice a n c,.bool true]) w:=kR
def M0 (B:Nat) (w:ZB):CH.Word->ZC->Prop
 |.int n,v=>v=.iface 3 ↑n/\-9223372036854775808<=n/\n<=9223372036854775807
 |.str s,v=>v=.iface 9 (ay s)
 |.strs l,v=>∃ sv,v=.iface 22 sv/\Strs B w sv l/\l.length<=5000
theorem M0.below {B B':Nat} {w w':ZB} {x:CH.Word} {v:ZC} (h:M0 B w x v) (hb:Below B' w w') (hB:B<=B'):M0 B w' x v:=by
 cases x with
 |int n=>exact h
 |str s=>exact h
 |strs l =>obtain⟨sv,h1,h2,h3⟩:=h;exact⟨sv,h1,h2.below hb hB,h3⟩
theorem Dot (ws:List CH.Word) (k:Nat) (x:CH.Word) (h:ws[k]?=some x):(ws.take (k+1)).flatMap CH.Word.texts=(ws.take k).flatMap CH.Word.texts++x.texts:=by rw [aN ws k x h,Ik];simp
theorem Hte (s:List UInt8):(CH.Word.str s).texts=[Zz s]:=rfl
set_option maxRecDepth 5000 in
theorem Hll (ws:List CH.Word) (b:Nat) (w:ZB) (hG:Gl w) (hb:b<w.heap.size) (hrow:∀ j x,ws[j]?=some x->∃ v,w.cell? ⟨b,j,none⟩=some v/\M0 w w x v) (hl:ws.length<=100) (hJ:(CH.words ws).length<=140737488355328) : ZE prog 50 #[.slice (some ⟨b,0,none⟩) ws.length ws.length] w (Ret w (ay (CH.words ws))):=by
 obtain⟨R,hR⟩:∃ R,Hid (CH.words ws=R):=⟨_,Aa rfl⟩
 have hJ:=Aa hJ;rw [hR.out];replace hrow:=Aa hrow;generalize hN:ws.length=N at *;replace hN:=Aa hN;go_enter func50,ntmps50;go_wp2_with fail;go_loopw [3,11] (fun lv iv wr=>∃ k:Nat,k<=N/\iv=↑k/\Hid (Ay w wr lv ((ws.take k).flatMap CH.Word.texts))/\Hid (((ws.take k).flatMap CH.Word.texts).length<=k*5000)/\Hid (Below w w wr)) (fun _ iv _=>N - (ZG iv).toNat);case atStart=>exact⟨0,Bg _,rfl,Aa (Ay.nil _ _),Aa sM,Aa (Ac _ _)⟩
 case round =>
  obtain⟨k,hk,rfl,hO,hLe,hB⟩:=hrel;obtain⟨a3,c3,rfl,hf1,hf2,hf3⟩:=hO.out.form;clear hf3;by_cases hlt:k<N
  ·obtain⟨x,hx⟩:∃ x,ws[k]?=some x:=⟨_,Ad (by rw [hN.out];omega)⟩
   obtain⟨v,c0,hv⟩:=hrow.out k x hx;have e0:=(hB.out.cell (p:=⟨b,k,none⟩) hb).trans c0;have hv:=hv.below hB.out nR;have hts:=Aa (Dot ws k x hx);clear c0 hx;generalize hL:(ws.take k).flatMap CH.Word.texts=L at *;clear hL;have hsz:=hB.out.size;have hLk:L.length<=500000:=by have:=hLe.out;have:k*5000<=100*5000:=Dj _ oM;omega
   cases x with
   |int n =>
    obtain⟨rfl,hn0,hn1⟩:=hv;have T1:=fun W=>zl n W;by_cases hn:n = -1
    ·subst hn;go_wp2_with (at_builtin;refine Cs rfl _ _ rfl w _ L rfl (hO.out.alloc _) wr.heap.size 1 [45] rfl ?c1 ?c2 ?c3 ?_)
     case c1=>rw [Cj _ _ _ _ rfl];rfl
     case c2=>omega
     case c3=>simp;omega
     intro v3 w3 hO3 hg3 _;have hO4:Hid (Ay w w3 v3 ((ws.take (k+1)).flatMap CH.Word.texts)):=Aa (by rw [hts.out];exact hO3);have hB4:Hid (Below w w w3):=Aa (((hB.out).alloc oM _).grown hg3 (by simp;omega) (fun j hj=>(D7 hO.out j hj).1));have qV:Hid (((ws.take (k+1)).flatMap CH.Word.texts).length<=(k+1)*5000):=Aa (by rw [hts.out,Aj];have h9:=hLe.out;have h8:([[45]]:List (List UInt8)).length=1:=rfl;show L.length+([[45]]:List (List UInt8)).length<=_;omega);clear hO3 hg3;go_wp2;go_roundw;case rel=>exact⟨k+1,oM,by go_num,hO4,qV,hB4⟩
     case measure=>simp [ZG];omega
    ·have hne:(n==-1)=false:=by simpa using hn
     have hte:(CH.Word.int n).texts=[Lib.itoa n]:=by show (if n = -1 then _ else _)=_;rw [Ak hn]
     rw [hte] at hts;have I:=Aa (G2 n wr hn0 hn1 (hG.below hB.out));clear hte;go_wp2_with fail;refine I.out.mono ?_;rintro e w2 ⟨rfl,hb2⟩;have hO2:=hO.out.below hb2;have hB2:Below w w w2:=hB.out.trans (hb2.mono hB.out.size);have hs2:=hB2.size;clear I hb2 T1;go_wp2_with (at_builtin;refine Cs rfl _ _ rfl w _ L rfl (hO2.alloc _) w2.heap.size 1 (Lib.itoa n) rfl ?c1 ?c2 ?c3 ?_)
     case c1=>rw [Cj _ _ _ _ rfl];rfl
     case c2=>omega
     case c3=>simp;omega
     intro v3 w3 hO3 hg3 _;have hO4:Hid (Ay w w3 v3 ((ws.take (k+1)).flatMap CH.Word.texts)):=Aa (by rw [hts.out];exact hO3);have hB4:Hid (Below w w w3):=Aa (((hB2).alloc oM _).grown hg3 (by simp;omega) (fun j hj=>(D7 hO2 j hj).1));have qV:Hid (((ws.take (k+1)).flatMap CH.Word.texts).length<=(k+1)*5000):=Aa (by rw [hts.out,Aj,Dz];have h9:=hLe.out;omega);clear hO3 hg3;go_wp2;go_roundw;case rel=>exact⟨k+1,oM,by go_num,hO4,qV,hB4⟩
     case measure=>simp [ZG];omega
   |str s =>
    obtain rfl:=hv;have T1:=fun W=>yY ⟨s.toArray⟩ W;have T2:=fun W=>yX ⟨s.toArray⟩ W;rw [Hte] at hts;have O:=Aa fun (W:ZB) (bb:Nat) h0 h1=>For s W bb h0 h1;generalize Zz s=ds at *;go_wp2_with fail;refine (O.out _ _ (by rw [Cj _ _ _ _ rfl];rfl) (by rw [Cj _ _ _ _ rfl];rfl)).mono ?_;rintro e w2 ⟨rfl,hb2⟩;have hO2:=(hO.out.alloc _).below hb2;have hB2:Below w w w2:=(hB.out.alloc hB.out.size _).trans (hb2.mono (by simp;omega));have hs2:=hB2.size;clear O hb2 T1 T2
    ·go_wp2_with (at_builtin;refine Cs rfl _ _ rfl w _ L rfl (hO2.alloc _) w2.heap.size 1 ds rfl ?c1 ?c2 ?c3 ?_)
     case c1=>rw [Cj _ _ _ _ rfl];rfl
     case c2=>omega
     case c3=>simp;omega
     intro v3 w3 hO3 hg3 _;have hO4:Hid (Ay w w3 v3 ((ws.take (k+1)).flatMap CH.Word.texts)):=Aa (by rw [hts.out];exact hO3);have hB4:Hid (Below w w w3):=Aa (((hB2).alloc oM _).grown hg3 (by simp;omega) (fun j hj=>(D7 hO2 j hj).1));have qV:Hid (((ws.take (k+1)).flatMap CH.Word.texts).length<=(k+1)*5000):=Aa (by rw [hts.out,Aj,Dz];have h9:=hLe.out;omega);clear hO3 hg3;go_wp2;go_roundw;case rel=>exact⟨k+1,oM,by go_num,hO4,qV,hB4⟩
     case measure=>simp [ZG];omega
   |strs l =>
    obtain⟨sv,rfl,hsv,hsl⟩:=hv;obtain⟨sa,sc,rfl,_,_⟩:=hsv.form;have T1:=fun W=>zh sa l.length sc W;have T2:=fun W=>yZ sa l.length sc W;have T3:=fun W=>zf sa l.length sc W;generalize hM:l.length=M at *;have hMM:=Aa hM;clear hM
    ·go_wp2_with (at_builtin;refine Mq rfl _ _ rfl w _ L rfl hO.out w _ l rfl hsv (by have:=hMM.out;omega) hsz ?_)
     intro v3 w3 hO3 hg3 _;have hO4:Hid (Ay w w3 v3 ((ws.take (k+1)).flatMap CH.Word.texts)):=Aa (by rw [hts.out];exact hO3);have hB4:Hid (Below w w w3):=Aa ((hB.out).grown hg3 hsz (fun j hj=>(D7 hO.out j hj).1));have qV:Hid (((ws.take (k+1)).flatMap CH.Word.texts).length<=(k+1)*5000):=Aa (by rw [hts.out,Aj];have h9:=hLe.out;have h8:=hMM.out;show L.length+l.length<=_;omega);clear hO3 hg3;go_wp2;go_roundw;case rel=>exact⟨k+1,oM,by go_num,hO4,qV,hB4⟩
     case measure=>simp [ZG];omega
  ·obtain rfl:k=N:=oM;have htk:ws.take k=ws:=by rw [<- hN.out,Dx]
   rw [htk] at hO hLe hf1 ⊢;clear htk;have J:=Aa (L0 _ (ws.flatMap CH.Word.texts) [32] wr hO.out.strs (by have:=hLe.out;have:k*5000<=100*5000:=Dj _ oM;omega) hJ.out);have hRf:Hid (CH.join [32] (ws.flatMap CH.Word.texts)=R):=Aa hR.out;generalize CH.join [32] (ws.flatMap CH.Word.texts)=JJ at *;generalize (ws.flatMap CH.Word.texts).length=LL at *;clear hO;go_wp2_with fail;refine J.out.mono ?_;rintro e w2 ⟨rfl,hb2⟩;clear J;go_wp2;go_ret;exact⟨by rw [<- hRf.out];rfl,hB.out.trans (hb2.mono hB.out.size)⟩
end
end Go.Proofs.YthapckjpmkkkpaaGreatDoor
