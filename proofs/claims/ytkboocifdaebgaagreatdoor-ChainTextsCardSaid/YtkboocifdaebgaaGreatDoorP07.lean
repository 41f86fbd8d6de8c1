/- ChainTexts, part 8 of 31. -/
import Derived.Test.YtkboocifdaebgaaGreatDoorP03
import Derived.Test.YtkboocifdaebgaaGreatDoorP04
set_option linter.all false
set_option maxHeartbeats 40000000
set_option maxRecDepth 100000
open Go renaming undef -> ZA, World -> ZB, Value -> ZC, Calls -> ZE, redrawn -> ZI
open Go.RowKit renaming intOf -> ZG
open Decidable renaming decide -> ZH
namespace Go.Proofs.Y
section
open Go.Lib Go.Proofs.Tryz Go.RowKit Go.Shelf CH
attribute [local go_sem] I5
theorem Ru (k:Int) (s:Q00) (w:ZB) : ZE prog 209 #[↑k,↑s] w (fun e w'=>e=.returned (.func (.func 257) #[] #[.pointer (some ⟨w,0,none⟩),.pointer (some ⟨w+1,0,none⟩)])/\w'=(w.alloc (.cells #[↑k] 3)).alloc (.cells #[↑s] 9)):=by exact FD32
structure rO (w:ZB) (k:Int) (s:Q00) (pre:List Q00) (W:ZB):Prop where
 le:w.heap.size+4<=W.heap.size
 out:∃ v,W.heap[w.heap.size]?=some (.cells #[v] 23 (0,0))/\Av (w+4) W v pre
 rest:W.heap[w.heap.size+1]?=some (.cells #[.string ⟨((CH.letters k pre.length s).2).toArray⟩] 9 (0,0))
 below:Below w w W
def Pnw (w:ZB) (r:Int) (e:Ending) (w':ZB):Prop:=∃ v,e=.returned (.tuple #[v,↑r])/\Below w w w'
theorem rO.own (w:ZB) (k:Int) (s:Q00) (B:Nat) (hB:w.heap.size+4<=B):OwnFrom B (fun pre W=>rO w k s pre W):=by
 intro pre W W' row h hg hr;obtain⟨hle,⟨v,hv,hO⟩,hrest,hb⟩:=h;have hne:∀ j,j<w.heap.size+4->some j≠row:=fun j hj e=>by have:=(hr j e.symm).1;omega
 refine⟨Aj hle hg.size,⟨v,(hg.block _ oM (hne _ oM)).trans hv,?_⟩,(hg.block _ oM (hne _ oM)).trans hrest,?_⟩;·exact Km hO hg (fun r e=>(hr r e).2)
 ·exact hb.grown hg hb.size (fun j e=>by have:=(hr j e).1;omega)
theorem rO.set (w:ZB) (k:Int) (s:Q00) (pre:List Q00) (W:ZB) (u:ZC) (h:rO w k s pre W):rO w k s pre (W.setCell ⟨w+3,0,none⟩ u):=by obtain⟨hle,⟨v,hv,hO⟩,hrest,hb⟩:=h;refine⟨by simp [World.setCell];exact hle,⟨v,(As _ _ _ _ (by show w.heap.size≠w.heap.size+3;omega)).trans hv,hO.jT oM _ _⟩,(As _ _ _ _ (by show w.heap.size+1≠w.heap.size+3;omega)).trans hrest,hb.setCell (by show w.heap.size<=w.heap.size+3;omega) _⟩
theorem My (w:ZB) (o1 o2 o3 o4:Obj) : ((((w.alloc o1).alloc o2).alloc o3).alloc o4).heap[w.heap.size]?=some o1/\((((w.alloc o1).alloc o2).alloc o3).alloc o4).heap[w.heap.size+1]?=some o2 /\ ((((w.alloc o1).alloc o2).alloc o3).alloc o4).heap[w.heap.size+2]?=some o3/\((((w.alloc o1).alloc o2).alloc o3).alloc o4).heap[w.heap.size+3]?=some o4:=by
 have e:((((w.alloc o1).alloc o2).alloc o3).alloc o4).heap=(((w.heap.push o1).push o2).push o3).push o4:=by simp only [World.alloc]
 rw [e];simp only [Dh,D9];refine⟨?_,?_,?_,?_⟩;·rw [Ai oM,Ai oM,Ai oM,Ah trivial]
 ·rw [Ai oM,Ai oM,Ah trivial]
 ·rw [Ai oM,Ah trivial]
 ·rw [Ah trivial]
theorem Ggw (k:Int) (s:Q00) (w:ZB) (hG:Gc w) (hs:s.length<=1000000) : ZE prog 237 #[↑k,↑s] w (Pnw w (if eY k s then 0 else 1)):=by
 obtain⟨r,hr⟩:=nac ((if eY k s then (0:Int) else 1):Int);rw [hr.out];refine (Iz (n:=4)).1 ?_;refine callsIn_of_wp_marks func237 rfl trivial ?_ rfl;simp only [ntmps237,Gu,Ap,Bf,Nat.reduceAdd,Nat.reduceSub,Gt,Gs,Hl,Gy,Eu,D6];refine J6.2 ?_;go_wp2_with fail;refine CmZ (Ru k s _) fun w1 hw1=>?_;simp only [Df] at hw1 ⊢;have hB1:Below w w w1:=by rw [hw1];exact ((((Ac _ w).alloc nR _).alloc sM _).alloc naf _).alloc naf _
 have hsz:w1.heap.size=w.heap.size+4:=by rw [hw1];simp
 have e0:w1.heap[w.heap.size]?=some (.cells #[.slice none 0 0] 23 (0,0)):=by rw [hw1];exact (My w _ _ _ _).1
 have e1:w1.heap[w.heap.size+1]?=some (.cells #[↑s] 9 (0,0)):=by rw [hw1];exact (My w _ _ _ _).2.1
 have e2:w1.heap[w.heap.size+2]?=some (.cells #[↑k] 3 (0,0)):=by rw [hw1];exact (My w _ _ _ _).2.2.1
 have e3:w1.heap[w.heap.size+3]?=some (.cells #[↑s] 9 (0,0)):=by rw [hw1];exact (My w _ _ _ _).2.2.2
 clear hw1;go_wp2_with fail;refine (J6 (n:=4)).1 ?_;refine Xu (n:=4) (w.heap.size+3) oM rfl dC (gf:=257) (lb:=#[.pointer (some ⟨w+2,0,none⟩),.pointer (some ⟨w+3,0,none⟩)]) rfl trivial (enters_of func257 kR rfl) (Xz k s hs 3 dC w (w+3) (w.heap.size+2) w w1 hG rfl hB1 oM oM oM e3 e2) (fun h1 h2=>⟨h1.1.trans h2.1,h2.2.1.trans h1.2.1,h2.2.2.trans h1.2.2⟩) (fun W l o o' hl ho _ _=>⟨(Ac _ W).grown (grownBy_putObj' W l o') (by have:=(aZ ho);omega) (fun j e=>by cases e;omega),World.putObj_heap_other oM,World.putObj_heap_other oM⟩) (Ac _ _) (fun _=>rfl) (fun pre W=>rO w k s pre W/\pre.length<=12) (fun c pre W=>c=.exit 0/\pre.length=13/\(CH.letters k 13 s).1=pre/\rO w k s pre W) (fun pre A B row h hg hr=>⟨rO.own w k s _ oM pre A B row h.1 hg hr,h.2⟩) (fun c pre A B row h hg hr=>⟨h.1,h.2.1,h.2.2.1,rO.own w k s _ oM pre A B row h.2.2.2 hg hr⟩) (fun pre A v h=>⟨rO.set w k s pre A v h.1,h.2⟩) ⟨⟨oM,⟨_,e0,Av.nil _ _⟩,e1,hB1⟩,sM⟩ (fun x=>{ tmps:=#[↑k,↑s,ZA,ZA,.slice none 0 0,.int .i64 0,.pointer (some ⟨w,0,none⟩),.pointer (some ⟨w+1,0,none⟩),↑x,↑s,↑k,↑s,.func (.func 257) #[] #[.pointer (some ⟨w+2,0,none⟩),.pointer (some ⟨w+3,0,none⟩)],↑x,ZA,ZA,ZA,ZA,ZA,ZA,ZA,ZA,ZA,ZA,ZA,ZA,ZA,ZA,ZA,ZA,ZA,ZA,ZA,ZA,ZA,ZA,ZA,ZA],defers:=[] }) ?assign ?body ?done ?stop;case assign =>intro l x W K hK;gi_wp2;exact hK
 case body =>
  rintro l pre x W ⟨hLI,hlen⟩ ⟨hN1,hN2,hN3⟩;obtain⟨hle,⟨v,hv,hO⟩,hrest,hb⟩:=hLI;have hsl:=nO k (CH.letters k pre.length s).2;have hsu:=kK k pre.length s (by rw [hN1]) hN2;rw [hN1] at hsu;generalize hj:CH.slen k (CH.letters k pre.length s).2=j at *;have hrl:=kL k pre.length s;generalize hR:(CH.letters k pre.length s).2=R at *;have hxl:x.length=j:=by rw [hN3,C9];omega
  have hrest':(CH.letters k (pre.length+1) s).2=R.drop j:=by rw [hsu]
  have hpre':(CH.letters k (pre.length+1) s).1=pre++[x]:=by rw [hsu,hN3]
  have HS:=Aa (And.intro hrest' hpre');have hxR:x.length<=R.length:=oM;obtain⟨av,cv,rfl,hf1,hf2,_⟩:=hO.form;clear hj;subst hxl;have hex:(ByteArray.mk R.toArray).extract x.length R.length=⟨(R.drop x.length).toArray⟩:=Ex R x.length;have UM:R.length<=1000000:=oM;generalize hPL:pre.length=pl at *;have ha:∀ W',Below (w+4) W W'->W'.cell? ⟨w,0,none⟩=some (.slice av pl cv)/\W'.cell? ⟨w+1,0,none⟩=some ↑R/\W'.frozen? ⟨w,0,none⟩=false/\W'.frozen? ⟨w+1,0,none⟩=false:=fun W' hb' =>⟨(hb'.cell (p:=⟨w,0,none⟩) sM).trans (Ab hv 0),(hb'.cell (p:=⟨w+1,0,none⟩) sM).trans (Ab hrest 0),(hb'.frozen (p:=⟨w,0,none⟩) sM).trans (Ao hv 0),(hb'.frozen (p:=⟨w+1,0,none⟩) sM).trans (Ao hrest 0)⟩
  have hBd:Below (w+4) W W.drew:=(Ac _ W).drew;have hBa:∀ o,Below (w+4) W (W.drew.alloc o):=fun o=>hBd.alloc hle o;obtain⟨d0,d1,d2,d3⟩:=ha _ hBd;have q0:=fun o=>(ha _ (hBa o)).1;have q1:=fun o=>(ha _ (hBa o)).2.1;have q0':∀ o,(W.alloc o).cell? ⟨w,0,none⟩=some (.slice av pl cv):=q0;have q1':∀ o,(W.alloc o).cell? ⟨w+1,0,none⟩=some ↑R:=q1;have hO2:∀ o,Av (w+4) (W.drew.alloc o) (.slice av pl cv) pre:=fun o=>(hO.below (Ac _ W).drew).alloc o;have hblk:=hO.ownBlock;have n0:=World.new_ne W.drew ⟨w,0,none⟩ d0;have n1:=World.new_ne W.drew ⟨w+1,0,none⟩ d1;have HA:=Aa ha;clear ha hN1 hN2 hN3 hsu hrest' hpre' hsl;gi_wp2_with fail;refine Hc (fun _=>True) _ _ kR kR ?_ trivial fun kz=>?_;·rintro⟨a,w,h⟩;exact h
  refine tj 1 ?_;push_cast;refine tj 5 ?_;push_cast;refine tj 6 ?_;push_cast;refine D7 (rs:=[0,2,4]) kR sM ?_;refine Aw (o:=_) rfl (fun K hK=>?_) ?_;focus
   go_simp;refine hK.out _ _ (trivial) fun kz=>?_;clear hK K;push_cast;refine D7 (rs:=[2,4]) kR sM ?_;refine Aw (o:=_) rfl (fun K hK=>?_) ?_;focus
    go_simp;refine hK.out _ _ (trivial) fun kz=>?_;clear hK K;push_cast;refine D7 (rs:=[3,4]) kR sM ?_;refine Aw (o:=_) rfl (fun K hK=>?_) ?_;focus
     rw [Ah rF];refine Cg _ _ rfl (w+4) _ pre rfl (hO2 _) W.heap.size _ x rfl (Cb _ _ _ _ _) oM naf ?_;intro v5 w5 hO5 hg5;obtain⟨a5,c5,rfl,mJ,nD,oH⟩:=hO5.form;have hB5:Below (w+4) W w5:=(hBa _).grown hg5 naf (fun k e=>(hblk k e).1);have h5:=HA.out w5 hB5;obtain⟨h50,h51,h52,h53⟩:=h5;have h54:∀ u,(w5.setCell ⟨w,0,none⟩ u).cell? ⟨w+1,0,none⟩=some ↑R:=fun u=>(Bl _ ⟨w,0,none⟩ ⟨w+1,0,none⟩ _ (fun e=>by dsimp only at e;omega)).trans h51;refine hK.out _ _ (trivial) fun kz=>?_;clear hK K;push_cast;refine D7 (rs:=[4,8]) kR sM ?_;refine Aw (o:=_) rfl (fun K hK=>?_) ?_;focus go_simp;refine hK.out _ _ (trivial) fun kz=>?_;clear hK K;push_cast;refine tj 7 ?_;push_cast;refine rk 8 rfl fun K hK=>?_;go_simp;refine hK.out _ _ (trivial) fun kz=>?_;clear hK K;push_cast;refine rk 9 rfl fun K hK=>?_;go_simp;refine hK.out _ _ (trivial) fun kz=>?_;clear hK K;push_cast;refine Dc kR ?_ _
     rotate_left 1;refine Aw (o:=_) rfl (fun K hK=>?_) Dx;focus go_simp;refine hK.out _ _ (trivial) fun kz=>?_;clear hK K;push_cast;refine rk 4 rfl fun K hK=>?_;go_simp;refine hK.out _ _ (trivial) fun kz=>?_;clear hK K;push_cast;refine tj 7 ?_;push_cast;refine rk 9 rfl fun K hK=>?_;go_simp;refine hK.out _ _ (trivial) fun kz=>?_;clear hK K;push_cast;refine Dc kR ?_ _
    rotate_left 2;refine Aw (o:=_) rfl (fun K hK=>?_) Dx;focus go_simp;refine hK.out _ _ (trivial) fun kz=>?_;clear hK K;push_cast;refine tj 7 ?_;push_cast;refine rk 3 rfl fun K hK=>?_;rw [Ah rF];refine Cg _ _ rfl (w+4) _ pre rfl (hO2 _) W.heap.size _ x rfl (Cb _ _ _ _ _) oM naf ?_;intro v5 w5 hO5 hg5;obtain⟨a5,c5,rfl,mJ,nD,oH⟩:=hO5.form;have hB5:Below (w+4) W w5:=(hBa _).grown hg5 naf (fun k e=>(hblk k e).1);have h5:=HA.out w5 hB5;obtain⟨h50,h51,h52,h53⟩:=h5;have h54:∀ u,(w5.setCell ⟨w,0,none⟩ u).cell? ⟨w+1,0,none⟩=some ↑R:=fun u=>(Bl _ ⟨w,0,none⟩ ⟨w+1,0,none⟩ _ (fun e=>by dsimp only at e;omega)).trans h51;refine hK.out _ _ (trivial) fun kz=>?_;clear hK K;push_cast;refine rk 8 rfl fun K hK=>?_;go_simp;refine hK.out _ _ (trivial) fun kz=>?_;clear hK K;push_cast;refine rk 9 rfl fun K hK=>?_;go_simp;refine hK.out _ _ (trivial) fun kz=>?_;clear hK K;push_cast;refine Dc kR ?_ _
   rotate_left 3;refine Aw (o:=_) rfl (fun K hK=>?_) Dx;focus go_simp;refine hK.out _ _ (trivial) fun kz=>?_;clear hK K;push_cast;refine tj 7 ?_;push_cast;refine rk 2 rfl fun K hK=>?_;go_simp;refine hK.out _ _ (trivial) fun kz=>?_;clear hK K;push_cast;refine rk 3 rfl fun K hK=>?_;rw [Ah rF];refine Cg _ _ rfl (w+4) _ pre rfl (hO2 _) W.heap.size _ x rfl (Cb _ _ _ _ _) oM naf ?_;intro v5 w5 hO5 hg5;obtain⟨a5,c5,rfl,mJ,nD,oH⟩:=hO5.form;have hB5:Below (w+4) W w5:=(hBa _).grown hg5 naf (fun k e=>(hblk k e).1);have h5:=HA.out w5 hB5;obtain⟨h50,h51,h52,h53⟩:=h5;have h54:∀ u,(w5.setCell ⟨w,0,none⟩ u).cell? ⟨w+1,0,none⟩=some ↑R:=fun u=>(Bl _ ⟨w,0,none⟩ ⟨w+1,0,none⟩ _ (fun e=>by dsimp only at e;omega)).trans h51;refine hK.out _ _ (trivial) fun kz=>?_;clear hK K;push_cast;refine rk 8 rfl fun K hK=>?_;go_simp;refine hK.out _ _ (trivial) fun kz=>?_;clear hK K;push_cast;refine rk 9 rfl fun K hK=>?_;go_simp;refine hK.out _ _ (trivial) fun kz=>?_;clear hK K;push_cast;refine Dc kR ?_ _
  rotate_left 4;refine Aw (o:=_) rfl (fun K hK=>?_) ?_;focus
   go_simp;refine hK.out _ _ (trivial) fun kz=>?_;clear hK K;push_cast;refine D7 (rs:=[0,4]) kR sM ?_;refine Aw (o:=_) rfl (fun K hK=>?_) ?_;focus
    go_simp;refine hK.out _ _ (trivial) fun kz=>?_;clear hK K;push_cast;refine D7 (rs:=[3,4]) kR sM ?_;refine Aw (o:=_) rfl (fun K hK=>?_) ?_;focus
     rw [Ah rF];refine Cg _ _ rfl (w+4) _ pre rfl (hO2 _) W.heap.size _ x rfl (Cb _ _ _ _ _) oM naf ?_;intro v5 w5 hO5 hg5;obtain⟨a5,c5,rfl,mJ,nD,oH⟩:=hO5.form;have hB5:Below (w+4) W w5:=(hBa _).grown hg5 naf (fun k e=>(hblk k e).1);have h5:=HA.out w5 hB5;obtain⟨h50,h51,h52,h53⟩:=h5;have h54:∀ u,(w5.setCell ⟨w,0,none⟩ u).cell? ⟨w+1,0,none⟩=some ↑R:=fun u=>(Bl _ ⟨w,0,none⟩ ⟨w+1,0,none⟩ _ (fun e=>by dsimp only at e;omega)).trans h51;refine hK.out _ _ (trivial) fun kz=>?_;clear hK K;push_cast;refine D7 (rs:=[4,8]) kR sM ?_;refine Aw (o:=_) rfl (fun K hK=>?_) ?_;focus go_simp;refine hK.out _ _ (trivial) fun kz=>?_;clear hK K;push_cast;refine tj 7 ?_;push_cast;refine rk 8 rfl fun K hK=>?_;go_simp;refine hK.out _ _ (trivial) fun kz=>?_;clear hK K;push_cast;refine rk 9 rfl fun K hK=>?_;go_simp;refine hK.out _ _ (trivial) fun kz=>?_;clear hK K;push_cast;refine Dc kR ?_ _
     rotate_left 1;refine Aw (o:=_) rfl (fun K hK=>?_) Dx;focus go_simp;refine hK.out _ _ (trivial) fun kz=>?_;clear hK K;push_cast;refine rk 4 rfl fun K hK=>?_;go_simp;refine hK.out _ _ (trivial) fun kz=>?_;clear hK K;push_cast;refine tj 7 ?_;push_cast;refine rk 9 rfl fun K hK=>?_;go_simp;refine hK.out _ _ (trivial) fun kz=>?_;clear hK K;push_cast;refine Dc kR ?_ _
    rotate_left 2;refine Aw (o:=_) rfl (fun K hK=>?_) Dx;focus go_simp;refine hK.out _ _ (trivial) fun kz=>?_;clear hK K;push_cast;refine tj 7 ?_;push_cast;refine rk 3 rfl fun K hK=>?_;rw [Ah rF];refine Cg _ _ rfl (w+4) _ pre rfl (hO2 _) W.heap.size _ x rfl (Cb _ _ _ _ _) oM naf ?_;intro v5 w5 hO5 hg5;obtain⟨a5,c5,rfl,mJ,nD,oH⟩:=hO5.form;have hB5:Below (w+4) W w5:=(hBa _).grown hg5 naf (fun k e=>(hblk k e).1);have h5:=HA.out w5 hB5;obtain⟨h50,h51,h52,h53⟩:=h5;have h54:∀ u,(w5.setCell ⟨w,0,none⟩ u).cell? ⟨w+1,0,none⟩=some ↑R:=fun u=>(Bl _ ⟨w,0,none⟩ ⟨w+1,0,none⟩ _ (fun e=>by dsimp only at e;omega)).trans h51;refine hK.out _ _ (trivial) fun kz=>?_;clear hK K;push_cast;refine rk 8 rfl fun K hK=>?_;go_simp;refine hK.out _ _ (trivial) fun kz=>?_;clear hK K;push_cast;refine rk 9 rfl fun K hK=>?_;go_simp;refine hK.out _ _ (trivial) fun kz=>?_;clear hK K;push_cast;refine Dc kR ?_ _
   rotate_left 3;refine Aw (o:=_) rfl (fun K hK=>?_) Dx;focus go_simp;refine hK.out _ _ (trivial) fun kz=>?_;clear hK K;push_cast;refine tj 7 ?_;push_cast;refine rk 0 rfl fun K hK=>?_;go_simp;refine hK.out _ _ (trivial) fun kz=>?_;clear hK K;push_cast;refine rk 3 rfl fun K hK=>?_;rw [Ah rF];refine Cg _ _ rfl (w+4) _ pre rfl (hO2 _) W.heap.size _ x rfl (Cb _ _ _ _ _) oM naf ?_;intro v5 w5 hO5 hg5;obtain⟨a5,c5,rfl,mJ,nD,oH⟩:=hO5.form;have hB5:Below (w+4) W w5:=(hBa _).grown hg5 naf (fun k e=>(hblk k e).1);have h5:=HA.out w5 hB5;obtain⟨h50,h51,h52,h53⟩:=h5;have h54:∀ u,(w5.setCell ⟨w,0,none⟩ u).cell? ⟨w+1,0,none⟩=some ↑R:=fun u=>(Bl _ ⟨w,0,none⟩ ⟨w+1,0,none⟩ _ (fun e=>by dsimp only at e;omega)).trans h51;refine hK.out _ _ (trivial) fun kz=>?_;clear hK K;push_cast;refine rk 8 rfl fun K hK=>?_;go_simp;refine hK.out _ _ (trivial) fun kz=>?_;clear hK K;push_cast;refine rk 9 rfl fun K hK=>?_;go_simp;refine hK.out _ _ (trivial) fun kz=>?_;clear hK K;push_cast;refine Dc kR ?_ _
  rotate_left 4;refine Aw (o:=_) rfl (fun K hK=>?_) Dx;focus
   go_simp;refine hK.out _ _ (trivial) fun kz=>?_;clear hK K;push_cast;refine tj 7 ?_;push_cast;refine D7 (rs:=[0,2]) kR sM ?_;refine Aw (o:=_) rfl (fun K hK=>?_) ?_;focus go_simp;refine hK.out _ _ (trivial) fun kz=>?_;clear hK K;push_cast;refine rk 2 rfl fun K hK=>?_;go_simp;refine hK.out _ _ (trivial) fun kz=>?_;clear hK K;push_cast;refine rk 3 rfl fun K hK=>?_;rw [Ah rF];refine Cg _ _ rfl (w+4) _ pre rfl (hO2 _) W.heap.size _ x rfl (Cb _ _ _ _ _) oM naf ?_;intro v5 w5 hO5 hg5;obtain⟨a5,c5,rfl,mJ,nD,oH⟩:=hO5.form;have hB5:Below (w+4) W w5:=(hBa _).grown hg5 naf (fun k e=>(hblk k e).1);have h5:=HA.out w5 hB5;obtain⟨h50,h51,h52,h53⟩:=h5;have h54:∀ u,(w5.setCell ⟨w,0,none⟩ u).cell? ⟨w+1,0,none⟩=some ↑R:=fun u=>(Bl _ ⟨w,0,none⟩ ⟨w+1,0,none⟩ _ (fun e=>by dsimp only at e;omega)).trans h51;refine hK.out _ _ (trivial) fun kz=>?_;clear hK K;push_cast;refine rk 8 rfl fun K hK=>?_;go_simp;refine hK.out _ _ (trivial) fun kz=>?_;clear hK K;push_cast;refine rk 9 rfl fun K hK=>?_;go_simp;refine hK.out _ _ (trivial) fun kz=>?_;clear hK K;push_cast;refine Dc kR ?_ _
   rotate_left 1;refine Aw (o:=_) rfl (fun K hK=>?_) Dx;focus go_simp;refine hK.out _ _ (trivial) fun kz=>?_;clear hK K;push_cast;refine rk 0 rfl fun K hK=>?_;go_simp;refine hK.out _ _ (trivial) fun kz=>?_;clear hK K;push_cast;refine rk 3 rfl fun K hK=>?_;rw [Ah rF];refine Cg _ _ rfl (w+4) _ pre rfl (hO2 _) W.heap.size _ x rfl (Cb _ _ _ _ _) oM naf ?_;intro v5 w5 hO5 hg5;obtain⟨a5,c5,rfl,mJ,nD,oH⟩:=hO5.form;have hB5:Below (w+4) W w5:=(hBa _).grown hg5 naf (fun k e=>(hblk k e).1);have h5:=HA.out w5 hB5;obtain⟨h50,h51,h52,h53⟩:=h5;have h54:∀ u,(w5.setCell ⟨w,0,none⟩ u).cell? ⟨w+1,0,none⟩=some ↑R:=fun u=>(Bl _ ⟨w,0,none⟩ ⟨w+1,0,none⟩ _ (fun e=>by dsimp only at e;omega)).trans h51;refine hK.out _ _ (trivial) fun kz=>?_;clear hK K;push_cast;refine rk 8 rfl fun K hK=>?_;go_simp;refine hK.out _ _ (trivial) fun kz=>?_;clear hK K;push_cast;refine rk 9 rfl fun K hK=>?_;go_simp;refine hK.out _ _ (trivial) fun kz=>?_;clear hK K;push_cast;refine Dc kR ?_ _
  all_goals
   have hbd:Below W W W.drew:=(Ac _ W).drew;have hko:∀ u u',KeepsOthers W ((w5.setCell ⟨w,0,none⟩ u).setCell ⟨w+1,0,none⟩ u'):=fun u u' =>((((Kh hbd).trans (KeepsOthers.alloc _ _)).trans (KeepsOthers.of_grownBy hg5 (fun j o hj ho=>by obtain⟨_,cs,t,fr,hcs⟩:=(hO2 _).ownBlock j hj;rw [ho] at hcs;cases hcs;rfl))).trans (KeepsOthers.setCell _ _ _)).trans (KeepsOthers.setCell _ _ _);have y0:=Al w5 w 0 (.slice a5 (pl+1) c5) _ _ _ ((hB5.block _ oM).trans hv);have y1:=(As w5 ⟨w,0,none⟩ (.slice a5 (pl+1) c5) (w.heap.size+1) (by show w.heap.size+1≠w.heap.size;omega)).trans ((hB5.block _ oM).trans hrest);have z0:=(As (w5.setCell ⟨w,0,none⟩ (.slice a5 (pl+1) c5)) ⟨w+1,0,none⟩ (.string ⟨(R.drop x.length).toArray⟩) w.heap.size (by show w.heap.size≠w.heap.size+1;omega)).trans y0;have z1:=Al _ (w+1) 0 (.string ⟨(R.drop x.length).toArray⟩) _ _ _ y1;simp only [List.setIfInBounds_toArray,List.set_cons_zero] at z0 z1;have hOX:Av (w+4) ((w5.setCell ⟨w,0,none⟩ (.slice a5 (pl+1) c5)).setCell ⟨w+1,0,none⟩ (.string ⟨(R.drop x.length).toArray⟩)) (.slice a5 (pl+1) c5) (pre++[x]):=by have h0:=hO5;simp only [Am,hPL,Ap,Bf,Ba] at h0;exact (h0.jT (g:=w.heap.size) oM _ _).jT (g:=w.heap.size+1) oM _ _
   have hBX:Below w W ((w5.setCell ⟨w,0,none⟩ (.slice a5 (pl+1) c5)).setCell ⟨w+1,0,none⟩ (.string ⟨(R.drop x.length).toArray⟩)) := ((hB5.mono (show w.heap.size<=w.heap.size+4 by omega)).setCell (p:=⟨w,0,none⟩) nR _).setCell (p:=⟨w+1,0,none⟩) (by show w.heap.size<=w.heap.size+1;omega) _;have hpq:∀ j,j=w.heap.size+2\/j=w.heap.size+3->((w5.setCell ⟨w,0,none⟩ (.slice a5 (pl+1) c5)).setCell ⟨w+1,0,none⟩ (.string ⟨(R.drop x.length).toArray⟩)).heap[j]?=W.heap[j]?:=fun j hj=>by rw [As _ _ _ _ (by show j≠w.heap.size+1;omega),As _ _ _ _ (by show j≠w.heap.size;omega)];exact hB5.block j oM
   have DR:=hko (.slice a5 (pl+1) c5) (.string ⟨(R.drop x.length).toArray⟩);generalize hX:(w5.setCell ⟨w,0,none⟩ (.slice a5 (pl+1) c5)).setCell ⟨w+1,0,none⟩ (.string ⟨(R.drop x.length).toArray⟩)=X at *;have c0:X.cell? ⟨w,0,none⟩=some (.slice a5 (pl+1) c5):=Ab z0 0;have hLX:rO w k s (pre++[x]) X:=⟨Aj hle DR.size,⟨_,z0,hOX⟩,by rw [show (pre++[x]).length=pl+1 from by simp [hPL],HS.out.1];exact z1,hb.trans hBX⟩
   clear hko h50 h51 h52 h53 h54 d0 d1 d2 d3 q0 q1 q0' q1' hO2 hO5 hOX y0 y1 z0 z1;by_cases h12:pl+1<=12;·have d:=naj ((12:Int)<(pl:Int)+1);gi_wp2;exact⟨DR.from _,⟨hBX,hpq _ (.inr rfl),hpq _ (.inl rfl)⟩,hLX,by simp [hPL];omega⟩
   ·have d:=nai ((12:Int)<(pl:Int)+1);gi_wp2;exact⟨DR.from _,rfl,by simp [hPL];omega,by rw [<- HS.out.2,show pl+1=13 from by omega],hLX⟩
 case done =>
  rintro D xs W hD ⟨hS1,hS2⟩ ⟨hLI,hlen⟩ hdef;have h13:=nZ k xs.length s hS2 13 oM;have hpre:(CH.letters k 13 s).1=xs:=by rw [h13];exact hS1
  have hbD:=Bn (r:=D) hLI.below oM (.deferred none);obtain⟨hle,⟨v,hv,hO⟩,hrest,hb⟩:=hLI;obtain⟨av,cv,rfl,hf1,hf2,_⟩:=hO.form;rw [<- h13] at hrest;have hword:Hid (eY k s=((CH.letters k 13 s).2==[]&&!(xs==[])&&ZH (xs.length<=12))):=Aa (by unfold eY;rw [hpre]);generalize hR:(CH.letters k 13 s).2=R at *;generalize hN:xs.length=N at *;have c0:W.cell? ⟨w,0,none⟩=some (.slice av N cv):=Ab hv 0;have c1:W.cell? ⟨w+1,0,none⟩=some ↑R:=Ab hrest 0;clear hO;cases hRe:List.isEmpty R with
  |false =>exact FD76
  |true =>
   have hR0:R=[]:=by cases R with|nil=>rfl|cons _ _=>cases hRe
   by_cases hN0:N=0
   ·have hr1:r=1:=by
     have h0:(xs==[])=true:=by have:xs=[]:=Et.1 (hN.trans hN0);rw [this];rfl
     rw [<- hr.out,hword.out,h0,hR0];rfl
    subst hr1;have z0:=nak N 0;exact FD15
   ·have z0:=nal N 0;have h0:(xs==[])=false:=by
     cases hq:xs with
     |nil=>rw [hq] at hN;simp at hN;omega
     |cons _ _=>rfl
    exact FD37
 case stop =>
  rintro D c pre W hD _ ⟨rfl,hlen,hpre,hLI⟩ hdef;refine J6.2 ?_;have hbD:=Bn (r:=D) hLI.below oM (.deferred none);obtain⟨hle,⟨v,hv,hO⟩,hrest,hb⟩:=hLI;obtain⟨av,cv,rfl,hf1,hf2,_⟩:=hO.form;rw [hlen] at hrest;clear hlen;have hword:Hid (eY k s=((CH.letters k 13 s).2==[]&&!(pre==[])&&ZH (pre.length<=12))):=Aa (by unfold eY;rw [hpre]);generalize hR:(CH.letters k 13 s).2=R at *;generalize hN:pre.length=N at *;have c0:W.cell? ⟨w,0,none⟩=some (.slice av N cv):=Ab hv 0;have c1:W.cell? ⟨w+1,0,none⟩=some ↑R:=Ab hrest 0;clear hO;cases hRe:List.isEmpty R with
  |false =>exact FD76
  |true =>
   have hR0:R=[]:=by cases R with|nil=>rfl|cons _ _=>cases hRe
   by_cases hN0:N=0
   ·have hr1:r=1:=by
     have h0:(pre==[])=true:=by have:pre=[]:=Et.1 (hN.trans hN0);rw [this];rfl
     rw [<- hr.out,hword.out,h0,hR0];rfl
    subst hr1;have z0:=nak N 0;exact FD15
   ·have z0:=nal N 0;have h0:(pre==[])=false:=by
     cases hq:pre with
     |nil=>rw [hq] at hN;simp at hN;omega
     |cons _ _=>rfl
    exact FD37
end
section
open Go.Lib Go.Proofs.Tryz Go.RowKit Go.Shelf Go.Sort CH
variable {B:Nat} {w:ZB} {ns:List Q05} {ls:List Q00} {c:Q07}
def Now (B:Nat) (w:ZB) (cs:List ZC) (n:Q05):Prop:=∃ vw,cs=[aI n.script,vw]/\Strs B w vw n.words
theorem Rn (cs:List ZC) (n:Q05) (w:ZB) (hG:Gc w) (hn:Now w w cs n) (hS:Er n.words) : ZE prog 169 #[.agg cs.toArray] w (Ret w (.bool (cZ n))):=by
 obtain⟨vw,rfl,hw⟩:=hn;obtain⟨r,hr⟩:=nac (cZ n);rw [hr.out];obtain⟨aw,cw,rfl,hc1,hc2,hcell⟩:=hw;obtain⟨hS1,hS2⟩:=hS;have xG:=Ag w (.cells #[↑n.script,.slice aw n.words.length cw] 176);have hB0:=(Ac _ w).alloc nR (.cells #[↑n.script,.slice aw n.words.length cw] 176);generalize hN:n.words.length=N at *;have HF:=Aa hcell;clear hcell;have hlt0:w.heap.size<(w.alloc (.cells #[↑n.script,.slice aw N cw] 176)).heap.size:=sM;go_in;go_wp2_with fail;generalize hW:w.alloc (.cells #[↑n.script,.slice aw N cw] 176)=W at *;go_loopw [10] (fun iv wr=>∃ k:Nat,k<=N/\iv=↑k/\Hid ((n.words.take k).all (eY n.script)=true)/\Below W W wr) (fun iv _=>N - (ZG iv).toNat);case atStart=>exact⟨0,Ak _,rfl,Aa rfl,Ac _ _⟩
 case round =>
  obtain⟨k,hk,rfl,hu,hbW⟩:=hrel;have hb:Below w w wr:=hB0.trans (hbW.mono (Dy hlt0));have hblk:=(hbW.block w hlt0).trans xG;have c0:wr.cell? ⟨w,0,none⟩=some ↑n.script:=Ab hblk 0;have c1:wr.cell? ⟨w,1,none⟩=some (.slice aw N cw):=Ab hblk 1;by_cases hlt:k<N
  ·obtain⟨x,hx⟩:∃ x,n.words[k]?=some x:=⟨_,Ae oM⟩
   have hxl:=hS2 x (Bg hx);obtain⟨b,off,rfl,hblt,hcs⟩:=HF.out (fun e=>by rw [e] at hN;simp at hN;omega);have hck:=(hb.cell (p:=⟨b,off+k,none⟩) hblt).trans (hcs k x hx);have hts:n.words.take (k+1)=n.words.take k++[x]:=by rw [Ip,hx];rfl
   have hno:(n.words.take (k+1)).all (eY n.script)=eY n.script x:=by rw [hts,Ju,hu.out];simp
   have A:=Ggw n.script x wr (hG.below hb) oM;have HN:=Aa hno;have hmem:Hid (x∈n.words):=Aa (Bg hx);clear hno hts hcs hx;cases hin:eY n.script x with
   |false =>
    rw [hin] at A;have A:=Aa A;have hr1:r=false:=by rw [<- hr.out];unfold cZ;rw [show n.words.all (eY n.script)=false from by rw [Np];exact⟨x,hmem.out,by rw [hin];decide⟩];rfl
    subst hr1;go_wp2_with fail;refine A.out.mono ?_;rintro e w1 ⟨v1,rfl,hb1⟩;clear A;go_wp2;go_ret;exact⟨rfl,hb.trans (hb1.mono hb.size)⟩
   |true =>
    rw [hin] at A;have A:=Aa A;have HR:Hid ((n.words.take (k+1)).all (eY n.script)=true):=Aa (by rw [HN.out,hin]);clear HN;go_wp2_with fail;refine A.out.mono ?_;rintro e w1 ⟨v1,rfl,hb1⟩;clear A;go_wp2;go_roundw;case rel=>exact⟨k+1,oM,by go_num,HR,hbW.trans (hb1.mono hbW.size)⟩
    case measure=>simp [ZG];omega
  ·have e:N=k:=oM;subst e;have hall:n.words.all (eY n.script)=true:=by rw [<- hu.out,<- hN,D5]
   have hr1:r=(ZH (0<N)&&ZH (N<=6)):=by rw [<- hr.out];unfold cZ;rw [hall,hN];rfl
   subst hr1;by_cases h0:0<N;·have d0:=nai ((0:Int)<(N:Int));go_wp2;go_ret;refine⟨?_,hb⟩;rw [Di h0,a_Bool_true_and,show ZH (N<=6)=ZH ((N:Int)<=6) from Ed.2 oM];rfl
   ·have d0:=naj ((0:Int)<(N:Int));go_wp2;go_ret;refine⟨?_,hb⟩;simp [h0]
theorem I41 (sep:Q00):∀ ls:List Q00,Lib.join ls sep=CH.join sep ls:=by
 intro ls;induction ls with
 |nil=>rfl
 |cons x l ih =>
  cases l with
  |nil=>exact Lib.join_one x sep
  |cons y l =>rw [Lib.join_cons,CH.join,<- ih,Lib.join_cons];simp [Lib.joinTail]
theorem Mq (v:ZC) (ls:List Q00) (sep:Q00) (w:ZB) (hv:Strs w w v ls) (hN:ls.length<=1000000) (hlen:(CH.join sep ls).length<=140737488355328) : ZE prog 60 #[v,↑sep] w (Ret w (.string ⟨(CH.join sep ls).toArray⟩)):=by
 obtain⟨a,cap,rfl,h1,h2,h3⟩:=hv;by_cases hne:ls=[]
 ·subst hne;exact (Tryz.strings_Join_none a cap ⟨sep.toArray⟩ w).mono fun e w' ⟨he,hw⟩=>⟨he,by rw [hw];exact Ac _ _⟩
 ·obtain⟨b,off,rfl,hb,hc⟩:=h3 hne;have hmap:(ls.map fun l=>ByteArray.mk l.toArray).map (·.data.toList)=ls:=by rw [Ll];exact (List.map_congr_left (fun a _=>rfl)).trans (List.map_id ls)
  have hJ:=Tryz.strings_Join b off cap (ls.map fun l=>ByteArray.mk l.toArray) ⟨sep.toArray⟩ w (fun j x hx=>by
   rw [Es] at hx;cases hl:ls[j]? with
   |none=>rw [hl] at hx;cases hx
   |some l=>rw [hl] at hx;cases hx;exact hc j l hl) hb naf (by simpa using h1) (by rw [hmap];show (Lib.join ls sep).length<=_;rw [I41];exact hlen)
  rw [hmap,Ce] at hJ;have e2:Lib.join ls (ByteArray.mk sep.toArray).data.toList=CH.join sep ls:=I41 sep ls;rw [e2] at hJ;exact hJ
def Hk:Array ZC:=#[.string ⟨#[]⟩,.string ⟨([112,108,97,105,110]:Q00).toArray⟩,.string ⟨([99,97,115,101,100]:Q00).toArray⟩,.string ⟨([97,98,106,97,100]:Q00).toArray⟩,.string ⟨([115,121,108,108,97,98]:Q00).toArray⟩]
theorem Ze (w:ZB):ZE prog 170 #[] w (Ret w (.agg Hk)):=by
 go_in;go_wp2;refine Ar (Ge (p:=0) (ty:=238) rfl _ _ ⟨w,0,none⟩ _ rfl (Fq _ w 0 238 Hk.toList _ (fun j v hv=>?_) underlying238 rfl kR)) rfl ?_
 ·rw [Ba,Cb];have hv':Hk[j]?=some v:=by simpa using hv
  exact hv'
 ·exact⟨rfl,(Ac _ w).alloc nR _⟩
theorem Dir {n:Q05} (h:cZ n=true):1<=n.script/\n.script<=4:=by
 unfold cZ at h;simp only [Aq,Bj] at h;obtain⟨hall,h0,_⟩:=h;cases hw:n.words with
 |nil=>rw [hw] at h0;simp at h0
 |cons x l =>
  rw [hw] at hall;have hx:eY n.script x=true:=Dj.1 hall x sM;apply Ik;intro hn;have hs:CH.slen n.script x=0:=by unfold CH.slen;rw [Ai oM,Ai oM,Ai oM,Ai oM]
  have hl:CH.letters n.script 13 x=([],x):=aU _ _ _ hs;unfold eY at hx;rw [hl] at hx;simp at hx
theorem Nf (sep:Q00) (m:Nat):∀ ls:List Q00,(∀ l∈ls,l.length<=m)->(CH.join sep ls).length<=ls.length*(m+sep.length):=by
 intro ls;induction ls with
 |nil=>intro _;simp [CH.join]
 |cons x l ih =>
  intro h;have hx:=h x sM;cases l with
  |nil=>simp [CH.join];omega
  |cons y l =>have:=ih (fun z hz=>h z (by simp at hz ⊢;right;exact hz));rw [CH.join];simp only [Am,Ap] at this ⊢;have e:(l.length+1+1)*(m+sep.length)=(l.length+1)*(m+sep.length)+(m+sep.length):=Nat.succ_mul _ _;omega
theorem N5 (cs:List ZC) (n:Q05) (w:ZB) (hG:Gc w) (hn:Now w w cs n) (hS:Er n.words) (hok:cZ n=true) : ZE prog 105 #[.agg cs.toArray] w (Ret w (.tuple #[.string ⟨(bD n).toArray⟩,.int .i64 0])):=by
 have hsc:=Dir hok;have hV:=fun (w':ZB) (hb:Below w w w')=>Rn cs n w' (hG.below hb) (by obtain⟨vw,h1,h2⟩:=hn;exact⟨vw,h1,(h2.below hb nR).mono hb.size⟩) hS;obtain⟨vw,rfl,hw⟩:=hn;have hJl:(CH.join [32] n.words).length<=1000000000000:=by have h1:=Nf [32] 20000 n.words hS.2;have h2:=hS.1;have h3:n.words.length*(20000+1)<=100000*(20000+1):=Ec _ h2;simp only [Ap,Bf,Ba] at h1;omega
 have hJ:=fun (w':ZB) (hb:Below w w w')=>Mq vw n.words [32] w' ((hw.below hb nR).mono hb.size) (by have:=hS.1;omega) oM;rw [hok] at hV;obtain⟨aw,cw,rfl,hc1,hc2⟩:=hw.form;obtain⟨res,hres⟩:=nac (bD n);rw [hres.out];have hres':Hid (CH.title n.script++[58]++CH.join [32] n.words=res):=Aa hres.out;clear hres hw;generalize CH.join [32] n.words=J at *;generalize hN:n.words.length=N at *;have HV:=Aa hV;have HJ:=Aa hJ;clear hV hJ;have hB0:=fun o=>(Ac _ w).alloc nR o;go_in;go_wp2_with fail;refine CmZ (HV.out _ (hB0 _)) fun w1 hb1=>?_;have hB1:Below w w w1:=(hB0 _).trans (hb1.mono sM);have hblk:=(hb1.block w sM).trans (Ag w _);have hlt:w.heap.size<w1.heap.size:=(aZ hblk)
 clear hb1 HV;have c0:w1.cell? ⟨w,0,none⟩=some ↑n.script:=Ab hblk 0;have c1:w1.cell? ⟨w,1,none⟩=some (.slice aw N cw):=Ab hblk 1;go_wp2_with fail;have cT:∀ W',Below w1 w1 W'->ZE prog 170 #[] W' (fun e w'=>e=.returned (.agg Hk)/\Below W' W' w'):=fun W' _=>Ze W';have cJ:∀ W',Below w1 w1 W'->ZE prog 60 #[.slice aw N cw,.string ⟨#[32]⟩] W' (fun e w'=>e=.returned ↑J/\Below W' W' w'):=fun W' hb=>HJ.out W' (hB1.trans (hb.mono hB1.size));have g1:∀ (d:Nat) (os:Array Obj),(grow (ZI w1 d) os).cell? ⟨w,1,none⟩=some (.slice aw N cw):=A8 c1;have hk:n.script=1\/n.script=2\/n.script=3\/n.script=4:=oM;clear HJ hblk;rcases hk with hk|hk|hk|hk
 ·rw [hk] at c0 hres';have g0:∀ (d:Nat) (os:Array Obj),(grow (ZI w1 d) os).cell? ⟨w,0,none⟩=_:=A8 c0;clear hsc hk c0 c1;dsimp only [Hk] at cT;have hix:∀ w,(Instr.index 238 (.agg #[.string ⟨#[]⟩,.string ⟨#[112,108,97,105,110]⟩,.string ⟨#[99,97,115,101,100]⟩,.string ⟨#[97,98,106,97,100]⟩,.string ⟨#[115,121,108,108,97,98]⟩]) (.int .i64 1)).run prog w=.ok (.string ⟨#[112,108,97,105,110]⟩) w:=fun w=>by simp [Instr.index,Dv underlying238,go_sem]
  have EC:((⟨#[112,108,97,105,110]⟩:ByteArray)++⟨#[58]⟩)=⟨#[112,108,97,105,110,58]⟩:=rfl;exact FD91
 ·rw [hk] at c0 hres';have g0:∀ (d:Nat) (os:Array Obj),(grow (ZI w1 d) os).cell? ⟨w,0,none⟩=_:=A8 c0;clear hsc hk c0 c1;dsimp only [Hk] at cT;have hix:∀ w,(Instr.index 238 (.agg #[.string ⟨#[]⟩,.string ⟨#[112,108,97,105,110]⟩,.string ⟨#[99,97,115,101,100]⟩,.string ⟨#[97,98,106,97,100]⟩,.string ⟨#[115,121,108,108,97,98]⟩]) (.int .i64 2)).run prog w=.ok (.string ⟨#[99,97,115,101,100]⟩) w:=fun w=>by simp [Instr.index,Dv underlying238,go_sem]
  have EC:((⟨#[99,97,115,101,100]⟩:ByteArray)++⟨#[58]⟩)=⟨#[99,97,115,101,100,58]⟩:=rfl;exact FD91
 ·rw [hk] at c0 hres';have g0:∀ (d:Nat) (os:Array Obj),(grow (ZI w1 d) os).cell? ⟨w,0,none⟩=_:=A8 c0;clear hsc hk c0 c1;dsimp only [Hk] at cT;have hix:∀ w,(Instr.index 238 (.agg #[.string ⟨#[]⟩,.string ⟨#[112,108,97,105,110]⟩,.string ⟨#[99,97,115,101,100]⟩,.string ⟨#[97,98,106,97,100]⟩,.string ⟨#[115,121,108,108,97,98]⟩]) (.int .i64 3)).run prog w=.ok (.string ⟨#[97,98,106,97,100]⟩) w:=fun w=>by simp [Instr.index,Dv underlying238,go_sem]
  have EC:((⟨#[97,98,106,97,100]⟩:ByteArray)++⟨#[58]⟩)=⟨#[97,98,106,97,100,58]⟩:=rfl;exact FD91
 ·rw [hk] at c0 hres';have g0:∀ (d:Nat) (os:Array Obj),(grow (ZI w1 d) os).cell? ⟨w,0,none⟩=_:=A8 c0;clear hsc hk c0 c1;dsimp only [Hk] at cT;have hix:∀ w,(Instr.index 238 (.agg #[.string ⟨#[]⟩,.string ⟨#[112,108,97,105,110]⟩,.string ⟨#[99,97,115,101,100]⟩,.string ⟨#[97,98,106,97,100]⟩,.string ⟨#[115,121,108,108,97,98]⟩]) (.int .i64 4)).run prog w=.ok (.string ⟨#[115,121,108,108,97,98]⟩) w:=fun w=>by simp [Instr.index,Dv underlying238,go_sem]
  have EC:((⟨#[115,121,108,108,97,98]⟩:ByteArray)++⟨#[58]⟩)=⟨#[115,121,108,108,97,98,58]⟩:=rfl;have l4:¬ (9223372036854775807<7+List.length J):=oM;exact FD16
def Ek (B:Nat) (w:ZB) (v:ZC) (ns:List Q05):Prop := ∃ a cap,v=.slice a ns.length cap/\ns.length<=cap/\cap<=9223372036854775807 /\ (ns≠[]->∃ b off,a=some ⟨b,off,none⟩/\b<B/\∀ j n,ns[j]?=some n->∃ vw,w.cell? ⟨b,off+j*2,none⟩=some ↑n.script/\w.cell? ⟨b,off+j*2+1,none⟩=some vw/\Strs B w vw n.words)
theorem Ek.below {B':Nat} {w':ZB} {v:ZC} (h:Ek B w v ns) (hb:Below B' w w') (hB:B<=B'):Ek B w' v ns:=by obtain⟨a,cap,h1,h2,h3,h4⟩:=h;refine⟨a,cap,h1,h2,h3,fun hne=>?_⟩;obtain⟨b,off,e,hlt,hc⟩:=h4 hne;refine⟨b,off,e,hlt,fun j n hj=>?_⟩;obtain⟨vw,c1,c2,c3⟩:=hc j n hj;exact⟨vw,(hb.cell (p:=⟨b,off+j*2,none⟩) (Af hlt hB)).trans c1,(hb.cell (p:=⟨b,off+j*2+1,none⟩) (Af hlt hB)).trans c2,c3.below hb hB⟩
theorem Ek.mono {B':Nat} {v:ZC} (h:Ek B w v ns) (hB:B<=B'):Ek B' w v ns:=by obtain⟨a,cap,h1,h2,h3,h4⟩:=h;refine⟨a,cap,h1,h2,h3,fun hne=>?_⟩;obtain⟨b,off,e,hlt,hc⟩:=h4 hne;refine⟨b,off,e,Af hlt hB,fun j n hj=>?_⟩;obtain⟨vw,c1,c2,c3⟩:=hc j n hj;exact⟨vw,c1,c2,c3.mono hB⟩
theorem Bla (vw:ZC) (n:Q05) (w:ZB) (hG:Gc w) (hn:Strs w w vw n.words) (hS:Er n.words) : ZE prog 234 #[.agg #[↑n.script,vw]] w (Ret w (.bool (!cZ n))):=by have hB0:=fun o=>(Ac _ w).alloc nR o;have A:=Aa fun o=>Rn [aI n.script,vw] n (w.alloc o) (hG.below (hB0 o)) ⟨vw,rfl,(hn.below (hB0 o) nR).mono (hB0 o).size⟩ hS;obtain⟨aw,cw,rfl,_,_⟩:=hn.form;generalize n.words.length=N at *;go_in;go_wp2_with fail;refine CmZ (A.out _) fun w1 hb1=>?_;clear A;go_wp2;go_ret;exact⟨rfl,(hB0 _).trans (hb1.mono sM)⟩
theorem App (v:ZC) (ns:List Q05) (w:ZB) (hG:Gc w) (hv:Ek w w v ns) (hl:ns.length<=100000) (hS:∀ n∈ns,Er n.words) : ZE prog 281 #[v,.func (.func 234) #[] #[]] w (fun e w'=>∃ i:Int,e=.returned ↑i/\ZH (0<=i)=(ns.any fun n=>!cZ n)/\Below w w w'):=by
 obtain⟨a,cap,rfl,hc1,hc2,hcell⟩:=hv;generalize hN:ns.length=N at *;have HF:=Aa hcell;clear hcell;go_in;go_wp2_with fail;go_loopw [8] (fun iv wr=>∃ k:Nat,k<=N/\iv=↑k/\Hid (((ns.take k).any fun n=>!cZ n)=false)/\Below w w wr) (fun iv _=>N - (ZG iv).toNat);case atStart=>exact⟨0,Ak _,rfl,Aa rfl,Ac _ _⟩
 case round =>
  obtain⟨k,hk,rfl,hu,hb⟩:=hrel;by_cases hlt:k<N
  ·obtain⟨x,hx⟩:∃ x,ns[k]?=some x:=⟨_,Ae oM⟩
   obtain⟨b,off,rfl,hblt,hcs⟩:=HF.out (fun e=>by rw [e] at hN;simp at hN;omega);obtain⟨vw,c1,c2,c3⟩:=hcs k x hx;have d1:=(hb.cell (p:=⟨b,off+k*2,none⟩) hblt).trans c1;have d2:=(hb.cell (p:=⟨b,off+k*2+1,none⟩) hblt).trans c2;have A:=Bla vw x wr (hG.below hb) ((c3.below hb nR).mono hb.size) (hS x (Bg hx));have hts:ns.take (k+1)=ns.take k++[x]:=by rw [Ip,hx];rfl
   have hno:Hid (((ns.take (k+1)).any fun n=>!cZ n)=!cZ x):=Aa (by rw [hts,List.any_append,hu.out];simp);have hmem:Hid (x∈ns):=Aa (Bg hx);obtain⟨aw,cw,rfl,_,_⟩:=c3.form;generalize x.words.length=xn at *;clear hts hcs hx c1 c2 c3;cases hin:cZ x with
   |true =>
    rw [hin] at A;have A:=Aa A;have HR:Hid (((ns.take (k+1)).any fun n=>!cZ n)=false):=Aa (by rw [hno.out,hin];rfl);go_wp2_with fail;refine CmZ A.out fun w1 hb1=>?_;clear A;go_wp2;go_roundw;case rel=>exact⟨k+1,oM,by go_num,HR,hb.trans (hb1.mono hb.size)⟩
    case measure=>simp [ZG];omega
   |false =>rw [hin] at A;have A:=Aa A;have HR:Hid ((ns.any fun n=>!cZ n)=true):=Aa (by rw [Jm];exact⟨x,hmem.out,by rw [hin];rfl⟩);go_wp2_with fail;refine CmZ A.out fun w1 hb1=>?_;clear A;go_wp2;go_ret;exact⟨_,rfl,by rw [HR.out];simp,hb.trans (hb1.mono hb.size)⟩
  ·have e:N=k:=oM;subst e;have HR:Hid ((ns.any fun n=>!cZ n)=false):=Aa (by rw [<- hu.out,<- hN,D5]);go_wp2;go_ret;exact⟨_,rfl,by rw [HR.out];decide,hb⟩
theorem Vk (v:ZC) (ns:List Q05) (w:ZB) (hG:Gc w) (hv:Ek w w v ns) (hl:ns.length<=100000) (hS:∀ n∈ns,Er n.words) : ZE prog 235 #[v,.func (.func 234) #[] #[]] w (Ret w (.bool (ns.any fun n=>!cZ n))):=by have A:=Aa (App v ns w hG hv hl hS);obtain⟨r,hr⟩:=nac (ns.any fun n=>!cZ n);rw [hr.out] at A ⊢;obtain⟨a,cap,rfl,_,_,_⟩:=hv;generalize ns.length=N at *;go_in;go_wp2_with fail;refine A.out.mono ?_;rintro e w1 ⟨i,rfl,hi,hb1⟩;clear A;subst hi;go_wp2;go_ret;exact⟨rfl,hb1⟩
theorem Ek.form {v:ZC} (h:Ek B w v ns):∃ a cap,v=.slice a ns.length cap/\ns.length<=cap/\cap<=9223372036854775807:=by exact FD72
structure rP (e:CH.Entry):Prop where
 id:e.id.length<=20000
 len:e.names.length<=100000
 names:∀ n∈e.names,Er n.words
theorem Yq (vn:ZC) (e:CH.Entry) (w:ZB) (hG:Gc w) (hv:Ek w w vn e.names) (hS:rP e) : ZE prog 167 #[.agg #[↑e.id,vn]] w (Ret w (.bool (gJ e))):=by
 obtain⟨r,hr⟩:=nac (gJ e);rw [hr.out];have hB0:=fun o=>(Ac _ w).alloc nR o;have I:=fun w'=>Ro e.id w' (Aj hS.id dC);have C:=Aa fun (w':ZB) (hb:Below w w w')=>Vk vn e.names w' (hG.below hb) ((hv.below hb nR).mono hb.size) hS.len hS.names;obtain⟨an,cn,rfl,_,_⟩:=hv.form;have hW:=fun o=>Ag w o;generalize hN:e.names.length=N at *;clear hv;cases hi:CH.ident e.id with
 |false =>
  rw [hi] at I;have I:=Aa I;have hr1:r=false:=by rw [<- hr.out];unfold gJ;rw [hi];rfl
  subst hr1;go_in;go_wp2_with fail;refine CmZ (I.out _) fun w1 hb1=>?_;clear I;go_wp2;go_ret;exact⟨rfl,(hB0 _).trans (hb1.mono sM)⟩
 |true =>
  rw [hi] at I;have I:=Aa I;have hr2:Hid (r=(ZH (0<N)&&(ZH (N<=8)&&!(e.names.any fun n=>!cZ n)))):=Aa (by rw [<- hr.out];unfold gJ;rw [hi,hN];rfl);go_in;go_wp2_with fail;refine (I.out _).mono ?_;rintro e' w1 ⟨rfl,hb1⟩;have hB1:Below w w w1:=(hB0 _).trans (hb1.mono sM);have hblk:=(hb1.block w sM).trans (hW _);have c1:w1.cell? ⟨w,1,none⟩=some (.slice an N cn):=Ab hblk 1;clear I hb1 hblk hW hB0 hr;by_cases h0:0<N
  ·have d0:=nai ((0:Int)<(N:Int));by_cases h8:N<=8
   ·have d8:=nai ((N:Int)<=8);have hr3:r=!(e.names.any fun n=>!cZ n):=by rw [hr2.out,Di h0,Di h8];rfl
    clear hr2;subst hr3;go_wp2_with fail;refine (C.out w1 hB1).mono ?_;rintro e' w2 ⟨rfl,hb2⟩;clear C;exact FD69
   ·have d8:=naj ((N:Int)<=8);have hr3:r=false:=by rw [hr2.out,Cj h8];simp
    clear hr2 C;subst hr3;exact FD25
  ·have d0:=naj ((0:Int)<(N:Int));have hr3:r=false:=by rw [hr2.out,Cj h0];rfl
   clear hr2 C;subst hr3;exact FD25
theorem Qp (w:ZB):ZE prog 103 #[] w (fun e w'=>e=.returned (.slice (some ⟨w,0,none⟩) 5 5)/\w'=w.alloc (.cells #[.string ⟨#[]⟩,.string ⟨([97,100,100]:Q00).toArray⟩,.string ⟨([114,101,109,111,118,101]:Q00).toArray⟩,.string ⟨([99,111,114,114,101,99,116]:Q00).toArray⟩,.string ⟨([118,111,105,100]:Q00).toArray⟩] 9)):=by exact FD32
theorem Pad (a b:Q00):((⟨a.toArray⟩:ByteArray) != ⟨b.toArray⟩)=(a != b):=by
 show (!((⟨a.toArray⟩:ByteArray)==⟨b.toArray⟩))=(!(a==b))
 rw [Fr]
structure gI (c:Q07):Prop where
 id:c.id.length<=20000
 entry:rP c.entry
def Bt (c:Q07) (vn:ZC):List ZC:=[↑c.kind,↑c.id,↑c.entry.id,vn,↑c.pos]
theorem I19 (vn:ZC) (c:Q07) (w:ZB) (hG:Gc w) (hv:Ek w w vn c.entry.names) (hS:gI c) : ZE prog 102 #[.agg (Bt c vn).toArray] w (Ret w (.bool (eu c))):=by
 obtain⟨r,hr⟩:=naa (eu c);rw [hr];have hB0:=fun o=>(Ac _ w).alloc nR o;have I:=fun w'=>Ro c.id w' (Aj hS.id dC);have E:=fun (w':ZB) (hb:Below w w w')=>Yq vn c.entry w' (hG.below hb) ((hv.below hb nR).mono hb.size) hS.entry;have T:=fun (w':ZB) (hb:Below w w w')=>Ym c.pos w' (hG.gl.below hb);obtain⟨an,cn,rfl,_,_⟩:=hv.form;have hW:=fun o=>Ag w o;obtain⟨kd,cid,en,ps⟩:=c;dsimp only at *;have hbe:=I0 en.id;have hne:=Fr en.id cid;generalize hN:en.names.length=N at *;clear hv hS;dsimp only [Bt];obtain⟨bi,hbi⟩:=naa (CH.ident cid);obtain⟨be,hbp⟩:=naa (gJ en);obtain⟨bt,hbt⟩:=naa (dD ps);rw [hbi] at I;rw [hbp] at E;rw [hbt] at T;replace I:=Aa I;replace E:=Aa E;replace T:=Aa T;unfold eu at hr;dsimp only at hr;rw [hbi,hbp,hbt,hN] at hr;clear hbi hbp hbt;by_cases h1:kd=1\/kd=3
 ·rcases h1 with rfl|rfl
  ·cases bi with
   |false =>
    have hr1:r=false:=by rw [<- hr];simp
    clear hr;subst hr1;go_in;go_wp2_with fail;refine CmZ (I.out _) fun w1 hb1=>?_;have hB1:Below w w w1:=(hB0 _).trans (hb1.mono sM);have hblk:=(hb1.block w sM).trans (hW _);have hlt1:w.heap.size<w1.heap.size:=(aZ hblk)
    clear I hb1 hW hB0;have k0:w1.cell? ⟨w,0,none⟩=some (.int .i64 1):=Ab hblk 0;have k1:w1.cell? ⟨w,1,none⟩=some ↑cid:=Ab hblk 1;have k2:w1.cell? ⟨w,2,none⟩=some ↑en.id:=Ab hblk 2;have k3:w1.cell? ⟨w,3,none⟩=some (.slice an N cn):=Ab hblk 3;have k4:w1.cell? ⟨w,4,none⟩=some ↑ps:=Ab hblk 4;clear E T;go_wp2;go_ret;exact⟨rfl,hB1⟩
   |true =>
    go_in;go_wp2_with fail;refine CmZ (I.out _) fun w1 hb1=>?_;have hB1:Below w w w1:=(hB0 _).trans (hb1.mono sM);have hblk:=(hb1.block w sM).trans (hW _);have hlt1:w.heap.size<w1.heap.size:=(aZ hblk)
    clear I hb1 hW hB0;have k0:w1.cell? ⟨w,0,none⟩=some (.int .i64 1):=Ab hblk 0;have k1:w1.cell? ⟨w,1,none⟩=some ↑cid:=Ab hblk 1;have k2:w1.cell? ⟨w,2,none⟩=some ↑en.id:=Ab hblk 2;have k3:w1.cell? ⟨w,3,none⟩=some (.slice an N cn):=Ab hblk 3;have k4:w1.cell? ⟨w,4,none⟩=some ↑ps:=Ab hblk 4;cases hx:(en.id==cid) with
    |false =>exact FD71
    |true =>
     rw [hx] at hne;rw [show (en.id != cid)=false from by rw [bne,hx];rfl] at hr;go_wp2_with fail;refine CmZ (E.out w1 hB1) fun w2 hb2=>?_;clear E;have hB2:Below w w w2:=hB1.trans (hb2.mono hB1.size);have hblk2:=(hb2.block w hlt1).trans hblk;clear hb2 k0 k1 k2 k3 k4;have k0:w2.cell? ⟨w,0,none⟩=some (.int .i64 1):=Ab hblk2 0;have k1:w2.cell? ⟨w,1,none⟩=some ↑cid:=Ab hblk2 1;have k2:w2.cell? ⟨w,2,none⟩=some ↑en.id:=Ab hblk2 2;have k3:w2.cell? ⟨w,3,none⟩=some (.slice an N cn):=Ab hblk2 3;have k4:w2.cell? ⟨w,4,none⟩=some ↑ps:=Ab hblk2 4;cases be with
     |false =>
      have hr1:r=false:=by rw [<- hr];simp
      clear hr;subst hr1;clear T;exact FD99
     |true =>
      have hr1:r=bt:=by rw [<- hr];simp
      clear hr;subst hr1;go_wp2_with fail;refine CmZ (T.out w2 hB2) fun w9 hb9=>?_;clear T;cases r with
      |true =>go_wp2;go_ret;exact⟨rfl,hB2.trans (hb9.mono hB2.size)⟩
      |false =>go_wp2;go_ret;exact⟨rfl,hB2.trans (hb9.mono hB2.size)⟩
  ·cases bi with
   |false =>
    have hr1:r=false:=by rw [<- hr];simp
    clear hr;subst hr1;go_in;go_wp2_with fail;refine CmZ (I.out _) fun w1 hb1=>?_;have hB1:Below w w w1:=(hB0 _).trans (hb1.mono sM);have hblk:=(hb1.block w sM).trans (hW _);have hlt1:w.heap.size<w1.heap.size:=(aZ hblk)
    clear I hb1 hW hB0;have k0:w1.cell? ⟨w,0,none⟩=some (.int .i64 3):=Ab hblk 0;have k1:w1.cell? ⟨w,1,none⟩=some ↑cid:=Ab hblk 1;have k2:w1.cell? ⟨w,2,none⟩=some ↑en.id:=Ab hblk 2;have k3:w1.cell? ⟨w,3,none⟩=some (.slice an N cn):=Ab hblk 3;have k4:w1.cell? ⟨w,4,none⟩=some ↑ps:=Ab hblk 4;clear E T;go_wp2;go_ret;exact⟨rfl,hB1⟩
   |true =>
    go_in;go_wp2_with fail;refine CmZ (I.out _) fun w1 hb1=>?_;have hB1:Below w w w1:=(hB0 _).trans (hb1.mono sM);have hblk:=(hb1.block w sM).trans (hW _);have hlt1:w.heap.size<w1.heap.size:=(aZ hblk)
    clear I hb1 hW hB0;have k0:w1.cell? ⟨w,0,none⟩=some (.int .i64 3):=Ab hblk 0;have k1:w1.cell? ⟨w,1,none⟩=some ↑cid:=Ab hblk 1;have k2:w1.cell? ⟨w,2,none⟩=some ↑en.id:=Ab hblk 2;have k3:w1.cell? ⟨w,3,none⟩=some (.slice an N cn):=Ab hblk 3;have k4:w1.cell? ⟨w,4,none⟩=some ↑ps:=Ab hblk 4;cases hx:(en.id==cid) with
    |false =>exact FD71
    |true =>
     rw [hx] at hne;rw [show (en.id != cid)=false from by rw [bne,hx];rfl] at hr;go_wp2_with fail;refine CmZ (E.out w1 hB1) fun w2 hb2=>?_;clear E;have hB2:Below w w w2:=hB1.trans (hb2.mono hB1.size);have hblk2:=(hb2.block w hlt1).trans hblk;clear hb2 k0 k1 k2 k3 k4;have k0:w2.cell? ⟨w,0,none⟩=some (.int .i64 3):=Ab hblk2 0;have k1:w2.cell? ⟨w,1,none⟩=some ↑cid:=Ab hblk2 1;have k2:w2.cell? ⟨w,2,none⟩=some ↑en.id:=Ab hblk2 2;have k3:w2.cell? ⟨w,3,none⟩=some (.slice an N cn):=Ab hblk2 3;have k4:w2.cell? ⟨w,4,none⟩=some ↑ps:=Ab hblk2 4;cases be with
     |false =>
      have hr1:r=false:=by rw [<- hr];simp
      clear hr;subst hr1;clear T;exact FD99
     |true =>
      have hr1:r=(ps==0):=by rw [<- hr];simp
      clear hr T;subst hr1;exact FD99
 by_cases h2:kd=2\/kd=4
 ·rcases h2 with rfl|rfl
  ·cases bi with
   |false =>
    have hr1:r=false:=by rw [<- hr];simp
    clear hr;subst hr1;go_in;go_wp2_with fail;refine CmZ (I.out _) fun w1 hb1=>?_;have hB1:Below w w w1:=(hB0 _).trans (hb1.mono sM);have hblk:=(hb1.block w sM).trans (hW _);have hlt1:w.heap.size<w1.heap.size:=(aZ hblk)
    clear I hb1 hW hB0;have k0:w1.cell? ⟨w,0,none⟩=some (.int .i64 2):=Ab hblk 0;have k1:w1.cell? ⟨w,1,none⟩=some ↑cid:=Ab hblk 1;have k2:w1.cell? ⟨w,2,none⟩=some ↑en.id:=Ab hblk 2;have k3:w1.cell? ⟨w,3,none⟩=some (.slice an N cn):=Ab hblk 3;have k4:w1.cell? ⟨w,4,none⟩=some ↑ps:=Ab hblk 4;clear E T;go_wp2;go_ret;exact⟨rfl,hB1⟩
   |true =>
    go_in;go_wp2_with fail;refine CmZ (I.out _) fun w1 hb1=>?_;have hB1:Below w w w1:=(hB0 _).trans (hb1.mono sM);have hblk:=(hb1.block w sM).trans (hW _);have hlt1:w.heap.size<w1.heap.size:=(aZ hblk)
    clear I hb1 hW hB0;have k0:w1.cell? ⟨w,0,none⟩=some (.int .i64 2):=Ab hblk 0;have k1:w1.cell? ⟨w,1,none⟩=some ↑cid:=Ab hblk 1;have k2:w1.cell? ⟨w,2,none⟩=some ↑en.id:=Ab hblk 2;have k3:w1.cell? ⟨w,3,none⟩=some (.slice an N cn):=Ab hblk 3;have k4:w1.cell? ⟨w,4,none⟩=some ↑ps:=Ab hblk 4;clear E;cases hx:(en.id != []) with
    |true =>rw [hx] at hr hbe;replace hbe:List.isEmpty en.id=false:=hbe;exact FD50
    |false =>
     rw [hx] at hr hbe;replace hbe:List.isEmpty en.id=true:=hbe;by_cases h0:0<N;·have d0:=nai ((0:Int)<(N:Int));rw [Di h0] at hr;exact FD50
     ·have d0:=naj ((0:Int)<(N:Int));rw [Cj h0] at hr;have hr1:r=bt:=by rw [<- hr];simp
      clear hr;subst hr1;go_wp2_with fail;refine CmZ (T.out w1 hB1) fun w9 hb9=>?_;clear T;cases r with
      |true =>go_wp2;go_ret;exact⟨rfl,hB1.trans (hb9.mono hB1.size)⟩
      |false =>go_wp2;go_ret;exact⟨rfl,hB1.trans (hb9.mono hB1.size)⟩
  ·cases bi with
   |false =>
    have hr1:r=false:=by rw [<- hr];simp
    clear hr;subst hr1;go_in;go_wp2_with fail;refine CmZ (I.out _) fun w1 hb1=>?_;have hB1:Below w w w1:=(hB0 _).trans (hb1.mono sM);have hblk:=(hb1.block w sM).trans (hW _);have hlt1:w.heap.size<w1.heap.size:=(aZ hblk)
    clear I hb1 hW hB0;have k0:w1.cell? ⟨w,0,none⟩=some (.int .i64 4):=Ab hblk 0;have k1:w1.cell? ⟨w,1,none⟩=some ↑cid:=Ab hblk 1;have k2:w1.cell? ⟨w,2,none⟩=some ↑en.id:=Ab hblk 2;have k3:w1.cell? ⟨w,3,none⟩=some (.slice an N cn):=Ab hblk 3;have k4:w1.cell? ⟨w,4,none⟩=some ↑ps:=Ab hblk 4;clear E T;go_wp2;go_ret;exact⟨rfl,hB1⟩
   |true =>
    go_in;go_wp2_with fail;refine CmZ (I.out _) fun w1 hb1=>?_;have hB1:Below w w w1:=(hB0 _).trans (hb1.mono sM);have hblk:=(hb1.block w sM).trans (hW _);have hlt1:w.heap.size<w1.heap.size:=(aZ hblk)
    clear I hb1 hW hB0;have k0:w1.cell? ⟨w,0,none⟩=some (.int .i64 4):=Ab hblk 0;have k1:w1.cell? ⟨w,1,none⟩=some ↑cid:=Ab hblk 1;have k2:w1.cell? ⟨w,2,none⟩=some ↑en.id:=Ab hblk 2;have k3:w1.cell? ⟨w,3,none⟩=some (.slice an N cn):=Ab hblk 3;have k4:w1.cell? ⟨w,4,none⟩=some ↑ps:=Ab hblk 4;clear E;cases hx:(en.id != []) with
    |true =>rw [hx] at hr hbe;replace hbe:List.isEmpty en.id=false:=hbe;exact FD50
    |false =>
     rw [hx] at hr hbe;replace hbe:List.isEmpty en.id=true:=hbe;by_cases h0:0<N;·have d0:=nai ((0:Int)<(N:Int));rw [Di h0] at hr;exact FD50
     ·have d0:=naj ((0:Int)<(N:Int));rw [Cj h0] at hr;have hr1:r=(ps==0):=by rw [<- hr];simp
      clear hr T;subst hr1;exact FD25
 have z1:(kd==1)=false:=naf;have z2:(kd==2)=false:=naf;have z3:(kd==3)=false:=naf;have hr1:r=false:=by
  rw [<- hr];rw [Ah];by_cases hlt:kd<1;·simp [hlt]
  ·have:kd > 4:=oM;simp [this]
 clear hr;subst hr1;by_cases hlt:kd<1
 ·have d1:ZH (kd<1)=true:=by simpa using hlt
  cases bi with
  |false =>exact FD7
  |true =>exact FD7
 ·have d1:ZH (kd<1)=false:=by simpa using hlt
  have d4:=nai (4<kd);cases bi with
  |false =>exact FD7
  |true =>exact FD7
def Cw (base p:Nat) (w:ZB) (ls:List Q00):Prop:=∃ v,w.heap[p]?=some (.cells #[v] 23 (0,0))/\Av base w v ls/\v.ownBlock≠some p/\base<=p
def I52 (base p:Nat) (w:ZB) (ls:List Q00) (e:Ending) (w':ZB):Prop:=e=.returned (.tuple #[])/\Cw base p w' ls/\Below base w w'/\w.heap.size<=w'.heap.size
theorem Cw.below {base p:Nat} {w':ZB} (h:Cw base p w ls) (hb:Below w w w'):Cw base p w' ls:=by obtain⟨v,h1,h2,h3,h4⟩:=h;exact⟨v,(hb.block p (aZ h1)).trans h1,h2.below hb,h3,h4⟩
theorem Y6 {base p:Nat} (h:Cw base p w ls):p<w.heap.size:=by obtain⟨v,h1,_⟩:=h;exact (aZ h1)
theorem K8 (vx:ZC) (lx ls:List Q00) (base p B:Nat) (w:ZB) (hW:Cw base p w ls) (hX:Strs B w vx lx) (hl:ls.length+lx.length<=1000000) : ZE prog 104 #[vx,.pointer (some ⟨p,0,none⟩)] w (I52 base p w (ls++lx)):=by exact FD12
theorem I10 (h:eu c=true):c.kind=1\/c.kind=2\/c.kind=3\/c.kind=4:=by
 apply Ik;intro hn;have hlt:c.kind<1\/c.kind > 4:=oM;unfold eu at h;dsimp only at h;rw [Ah] at h;·cases h
 ·rcases hlt with hlt|hlt;·simp [hlt]
  ·simp [hlt]
theorem M7 (h:eu c=true):∀ n∈c.entry.names,cZ n=true:=by
 intro n hn;have hlen:0<c.entry.names.length:=Ky hn;have hok:gJ c.entry=true:=by
  apply Ik;intro hne;have hne':gJ c.entry=false:=by simpa using hne
  unfold eu at h;dsimp only at h;rw [hne',Di hlen] at h;cases he:(c.kind==1||c.kind==3) <;> rw [he] at h <;> simp at h
 unfold gJ at hok;simp only [Aq,G8,Jz] at hok;have:=hok.2.2.2 n hn;exact FD86
theorem Vu (w:ZB) (o1 o2 o3:Obj) (i j:Nat) (hij:i≠j/\i<3/\j<3) (a b:Q00) (hbox:[o1,o2,o3][i]?=some (.cells #[.slice (some ⟨w.heap.size+j,0,none⟩) 2 2] 23)) (hrow:[o1,o2,o3][j]?=some (.cells #[↑a,↑b] 9)) : Cw w (w.heap.size+i) (((w.alloc o1).alloc o2).alloc o3).drew [a,b]/\Below w w (((w.alloc o1).alloc o2).alloc o3).drew:=by
 have hb:Below w w (((w.alloc o1).alloc o2).alloc o3).drew:=((((Ac _ w).alloc nR _).alloc sM _).alloc naf _).drew;have hat:∀ k,k<3->(((w.alloc o1).alloc o2).alloc o3).drew.heap[w.heap.size+k]?=[o1,o2,o3][k]?:=fun k hk=>by
  have e:(((w.alloc o1).alloc o2).alloc o3).drew.heap=((w.heap.push o1).push o2).push o3:=by simp only [World.alloc,World.drew]
  rw [e];simp only [Dh,D9];rcases (oM:k=0\/k=1\/k=2) with rfl|rfl|rfl;·rw [Ai oM,Ai oM,Ah oM];rfl
  ·rw [Ai oM,Ah oM];rfl
  ·rw [Ah oM];rfl
 refine⟨⟨_,(hat i hij.2.1).trans hbox,⟨rfl,.inr ⟨w.heap.size+j,2,#[↑a,↑b],rfl,Nat.le_add_right _ _,(hat j hij.2.2).trans hrow,Au _,by unfold maxLen;omega,rfl,rfl⟩⟩,?_,Nat.le_add_right _ _⟩,hb⟩;intro e;simp [Value.ownBlock] at e;omega
theorem Cw.alloc {base p:Nat} (h:Cw base p w ls) (o:Obj):Cw base p (w.alloc o) ls:=h.below ((Ac _ w).alloc nR o)
theorem G2 (h:eu c=true):c.entry.names.length<=8:=by
 by_cases hl:0<c.entry.names.length
 ·have hok:gJ c.entry=true:=by
   apply Ik;intro hne;have hne':gJ c.entry=false:=by simpa using hne
   unfold eu at h;dsimp only at h;rw [hne',Di hl] at h;cases he:(c.kind==1||c.kind==3) <;> rw [he] at h <;> simp at h
  unfold gJ at hok;simp only [Aq,Bj] at hok;exact hok.2.2.1
 ·omega
theorem U3 (k:Int):(CH.kindWord k).length<=7:=by unfold CH.kindWord;exact FD108
def Bu (n:Q05):Q00:=[34]++bD n++[34]
theorem Mn (n:Q05) (hS:Er n.words):(bD n).length<=1000000000010:=by have h1:=Nf [32] 20000 n.words hS.2;have h2:=hS.1;have h3:n.words.length*(20000+1)<=100000*(20000+1):=Ec _ h2;exact FD74
def dQ (n:Nat) (ls:List Q00):Prop:=∀ l∈ls,l.length<=n
theorem dQ.one {n:Nat} {a:Q00} (h:a.length<=n):dQ n [a]:=fun l hl=>by cases Ad.1 hl;exact h
theorem dQ.cons {n:Nat} {a:Q00} (h:a.length<=n) (h2:dQ n ls):dQ n (a::ls):=fun l hl=>by
 rcases Az.1 hl with rfl|hl;·exact h
 ·exact h2 l hl
theorem Mr (c:Q07) (hok:eu c=true) (hS:∀ n∈c.entry.names,Er n.words) (pre:List Q00) (hpl:pre.length<=3) (hpre:dQ 1000000000100 pre):(CH.join [32] (pre++c.entry.names.map Bu)).length<=140737488355300:=by
 have h1:=Nf [32] 1000000000100 (pre++c.entry.names.map Bu) (fun l hl=>by
  rcases Bz.1 hl with h|h;·exact hpre l h
  ·obtain⟨n,hn,rfl⟩:=Ew.1 h;have:=Mn n (hS n hn);unfold Bu;simp;omega)
 have h2:=G2 hok;have h3:(pre++c.entry.names.map Bu).length*(1000000000100+[(32:UInt8)].length)<=11*(1000000000100+1):=Ec _ (by rw [Am,Ce];omega);omega
def Eff (s:Q00):Q00:=if s=[] then [45] else s
theorem Ipw (s:Q00) (w:ZB) (b:Nat) (h0:w.cell? ⟨b,0,none⟩=some (ay s)) (h1:w.cell? ⟨b,1,none⟩=some (ay [45])) : ZE prog 59 #[.slice (some ⟨b,0,none⟩) 2 2] w (Ret w (ay (Eff s))):=by
 unfold Eff;by_cases hs:s=[]
 ·subst hs;rw [Ah rfl];go_in;go_wp2_with fail;go_loopw [8] (fun iv wr=>∃ j:Nat,j<2/\iv=↑j/\wr=w) (fun iv _=>2 - (ZG iv).toNat);case atStart=>exact⟨0,oM,rfl,rfl⟩
  case round =>
   obtain⟨j,hj,rfl,rfl⟩:=hrel;rcases (oM:j=0\/j=1) with rfl|rfl
   ·go_wp2;go_roundw;case rel=>exact⟨1,oM,by first|rfl|go_num,by first|rfl|trivial⟩
    case measure=>simp [ZG]
   ·go_wp2;go_ret;exact⟨rfl,Ac _ _⟩
 ·rw [Ai hs];have te:List.isEmpty s=false:=by cases s with|nil=>exact absurd rfl hs|cons _ _=>rfl
  go_in;go_wp2_with fail;go_loopw [8] (fun iv wr=>iv=.int .i64 0/\wr=w) (fun _ _=>0);case atStart=>exact⟨rfl,rfl⟩
  case round =>obtain⟨rfl,rfl⟩:=hrel;go_wp2;go_ret;exact⟨rfl,Ac _ _⟩
theorem GY (n:Int) (w:ZB):(Instr.typeAssert (.iface 3 ↑n) 20 3 true).run prog w=.ok (.tuple #[↑n,.bool true]) w:=kR
theorem GR (s:ByteArray) (w:ZB):(Instr.typeAssert (.iface 9 (.string s)) 20 3 true).run prog w=.ok (.tuple #[.int .i64 0,.bool false]) w:=kR
theorem GN (s:ByteArray) (w:ZB):(Instr.typeAssert (.iface 9 (.string s)) 20 9 true).run prog w=.ok (.tuple #[.string s,.bool true]) w:=kR
theorem GX (a:Option Addr) (n c:Nat) (w:ZB):(Instr.typeAssert (.iface 23 (.slice a n c)) 20 3 true).run prog w=.ok (.tuple #[.int .i64 0,.bool false]) w:=kR
theorem GU (a:Option Addr) (n c:Nat) (w:ZB):(Instr.typeAssert (.iface 23 (.slice a n c)) 20 9 true).run prog w=.ok (.tuple #[.string ⟨#[]⟩,.bool false]) w:=kR
theorem GV (a:Option Addr) (n c:Nat) (w:ZB):(Instr.typeAssert (.iface 23 (.slice a n c)) 20 23 true).run prog w=.ok (.tuple #[.slice a n c,.bool true]) w:=kR
def O0 (B:Nat) (w:ZB):CH.Word->ZC->Prop
 |.int n,v=>v=.iface 3 ↑n/\-9223372036854775808<=n/\n<=9223372036854775807
 |.str s,v=>v=.iface 9 (ay s)
 |.strs l,v=>∃ sv,v=.iface 23 sv/\Strs B w sv l/\l.length<=5000
theorem O0.below {B':Nat} {w':ZB} {x:CH.Word} {v:ZC} (h:O0 B w x v) (hb:Below B' w w') (hB:B<=B'):O0 B w' x v:=by
 cases x with
 |int n=>exact h
 |str s=>exact h
 |strs l =>obtain⟨sv,h1,h2,h3⟩:=h;exact⟨sv,h1,h2.below hb hB,h3⟩
theorem Hnl (ws:List CH.Word) (k:Nat) (x:CH.Word) (h:ws[k]?=some x):(ws.take (k+1)).flatMap CH.Word.texts=(ws.take k).flatMap CH.Word.texts++x.texts:=by rw [aN ws k x h,I7];simp
theorem Job (s:Q00):(CH.Word.str s).texts=[Eff s]:=rfl
set_option maxRecDepth 5000 in
theorem I53 (ws:List CH.Word) (b:Nat) (w:ZB) (hG:Gl w) (hb:b<w.heap.size) (hrow:∀ j x,ws[j]?=some x->∃ v,w.cell? ⟨b,j,none⟩=some v/\O0 w w x v) (hl:ws.length<=100) (hJ:(CH.words ws).length<=140737488355328) : ZE prog 22 #[.slice (some ⟨b,0,none⟩) ws.length ws.length] w (Ret w (ay (CH.words ws))):=by
 obtain⟨R,hR⟩:=nac (CH.words ws);have hJ:=Aa hJ;rw [hR.out];replace hrow:=Aa hrow;generalize hN:ws.length=N at *;replace hN:=Aa hN;go_in;go_wp2_with fail;go_loopw [3,11] (fun lv iv wr=>∃ k:Nat,k<=N/\iv=↑k/\Hid (Av w wr lv ((ws.take k).flatMap CH.Word.texts))/\Hid (((ws.take k).flatMap CH.Word.texts).length<=k*5000)/\Hid (Below w w wr)) (fun _ iv _=>N - (ZG iv).toNat);case atStart=>exact⟨0,Ak _,rfl,Aa (Av.nil _ _),Aa sM,Aa (Ac _ _)⟩
 case round =>
  obtain⟨k,hk,rfl,hO,hLe,hB⟩:=hrel;obtain⟨a3,c3,rfl,hf1,hf2,hf3⟩:=hO.out.form;clear hf3;by_cases hlt:k<N
  ·obtain⟨x,hx⟩:∃ x,ws[k]?=some x:=⟨_,Ae (by rw [hN.out];omega)⟩
   obtain⟨v,c0,hv⟩:=hrow.out k x hx;have e0:=(hB.out.cell (p:=⟨b,k,none⟩) hb).trans c0;have hv:=hv.below hB.out nR;have hts:=Aa (Hnl ws k x hx);clear c0 hx;generalize hL:(ws.take k).flatMap CH.Word.texts=L at *;clear hL;have hsz:=hB.out.size;have hLk:L.length<=500000:=by have:=hLe.out;have:k*5000<=100*5000:=Ec _ oM;omega
   cases x with
   |int n =>
    obtain⟨rfl,hn0,hn1⟩:=hv;have T1:=fun W=>GY n W;by_cases hn:n = -1
    ·subst hn;go_wp2_with (at_builtin;refine Cs rfl _ _ rfl w _ L rfl (hO.out.alloc _) wr.heap.size 1 [45] rfl ?c1 ?c2 ?c3 ?_)
     case c1=>rw [Ci _ _ _ _ rfl];rfl
     case c2=>omega
     case c3=>simp;omega
     intro v3 w3 hO3 hg3 _;have hO4:Hid (Av w w3 v3 ((ws.take (k+1)).flatMap CH.Word.texts)):=Aa (by rw [hts.out];exact hO3);have hB4:Hid (Below w w w3):=Aa (((hB.out).alloc oM _).grown hg3 naf (fun j hj=>(Ih hO.out j hj).1));have wB:Hid (((ws.take (k+1)).flatMap CH.Word.texts).length<=(k+1)*5000):=Aa (by rw [hts.out,Am];have h9:=hLe.out;have h8:([[45]]:List Q00).length=1:=rfl;show L.length+([[45]]:List Q00).length<=_;omega);exact FD46
    ·have hne:(n==-1)=false:=by simpa using hn
     have hte:(CH.Word.int n).texts=[Lib.itoa n]:=by show (if n = -1 then _ else _)=_;rw [Ai hn]
     rw [hte] at hts;have I:=Aa (Hd n wr hn0 hn1 (hG.below hB.out));clear hte;go_wp2_with fail;refine CmZ I.out fun w2 hb2=>?_;have hO2:=hO.out.below hb2;have hB2:Below w w w2:=hB.out.trans (hb2.mono hB.out.size);have hs2:=hB2.size;clear I hb2 T1;go_wp2_with (at_builtin;refine Cs rfl _ _ rfl w _ L rfl (hO2.alloc _) w2.heap.size 1 (Lib.itoa n) rfl ?c1 ?c2 ?c3 ?_)
     case c1=>rw [Ci _ _ _ _ rfl];rfl
     case c2=>omega
     case c3=>simp;omega
     intro v3 w3 hO3 hg3 _;exact FD23
   |str s =>
    obtain rfl:=hv;have T1:=fun W=>GR ⟨s.toArray⟩ W;have T2:=fun W=>GN ⟨s.toArray⟩ W;rw [Job] at hts;have O:=Aa fun (W:ZB) (bb:Nat) h0 h1=>Ipw s W bb h0 h1;generalize Eff s=ds at *;go_wp2_with fail;refine CmZ (O.out _ _ (by rw [Ci _ _ _ _ rfl];rfl) (by rw [Ci _ _ _ _ rfl];rfl)) fun w2 hb2=>?_;have hO2:=(hO.out.alloc _).below hb2;have hB2:Below w w w2:=(hB.out.alloc hB.out.size _).trans (hb2.mono naf);have hs2:=hB2.size;clear O hb2 T1 T2
    ·go_wp2_with (at_builtin;refine Cs rfl _ _ rfl w _ L rfl (hO2.alloc _) w2.heap.size 1 ds rfl ?c1 ?c2 ?c3 ?_)
     case c1=>rw [Ci _ _ _ _ rfl];rfl
     case c2=>omega
     case c3=>simp;omega
     intro v3 w3 hO3 hg3 _;exact FD23
   |strs l =>
    obtain⟨sv,rfl,hsv,hsl⟩:=hv;obtain⟨sa,sc,rfl,_,_⟩:=hsv.form;have T1:=fun W=>GX sa l.length sc W;have T2:=fun W=>GU sa l.length sc W;have T3:=fun W=>GV sa l.length sc W;generalize hM:l.length=M at *;have hMM:=Aa hM;clear hM
    ·go_wp2_with (at_builtin;refine R6 rfl _ _ rfl w _ L rfl hO.out w _ l rfl hsv (by have:=hMM.out;omega) hsz ?_)
     intro v3 w3 hO3 hg3 _;have hO4:Hid (Av w w3 v3 ((ws.take (k+1)).flatMap CH.Word.texts)):=Aa (by rw [hts.out];exact hO3);have hB4:Hid (Below w w w3):=Aa ((hB.out).grown hg3 hsz (fun j hj=>(Ih hO.out j hj).1));have wB:Hid (((ws.take (k+1)).flatMap CH.Word.texts).length<=(k+1)*5000):=Aa (by rw [hts.out,Am];have h9:=hLe.out;have h8:=hMM.out;show L.length+l.length<=_;omega);exact FD46
  ·obtain rfl:k=N:=oM;have htk:ws.take k=ws:=by rw [<- hN.out,D5]
   rw [htk] at hO hLe hf1 ⊢;clear htk;have J:=Aa (Mq _ (ws.flatMap CH.Word.texts) [32] wr hO.out.strs (by have:=hLe.out;have:k*5000<=100*5000:=Ec _ oM;omega) hJ.out);have hRf:Hid (CH.join [32] (ws.flatMap CH.Word.texts)=R):=Aa hR.out;generalize CH.join [32] (ws.flatMap CH.Word.texts)=JJ at *;generalize (ws.flatMap CH.Word.texts).length=LL at *;clear hO;go_wp2_with fail;refine CmZ J.out fun w2 hb2=>?_;clear J;go_wp2;go_ret;exact⟨by rw [<- hRf.out];rfl,hB.out.trans (hb2.mono hB.out.size)⟩
end
end Go.Proofs.Y
