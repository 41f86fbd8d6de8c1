/- ChainTexts, part 15 of 31. -/
import Derived.Test.YtkboocifdaebgaaGreatDoorP13
set_option linter.all false
set_option maxHeartbeats 40000000
set_option maxRecDepth 100000
open Go renaming undef -> ZA, World -> ZB, Value -> ZC, TypeId -> ZJ
open Decidable renaming decide -> ZH
namespace Go.Proofs.Y
section
open Go.Lib Go.Proofs.Tryz Go.RowKit Go.Shelf Go.Sort CH
variable {B p b1 b2 base:Nat} {W w:ZB} {ds:List Deferred} {R:List Nat} {v:ZC} {ls ws:List Q00} {N:Option Q05}
attribute [local go_sem] I5
def BJ (w:ZB) (r:Option Q05) (e:Ending) (w':ZB):Prop :=
 Below w w w'/\∃ (cs:List ZC) (n a:Int),e=.returned (.tuple #[.agg cs.toArray,↑n,↑a]) /\
  match r with
  |some x=>n=0/\∃ vw,cs=[aI x.script,vw]/\Av w w' vw x.words
  |none=>n≠0/\cs=[.int .i64 0,.slice none 0 0]
def Cz (B:Nat) (W:ZB):List Deferred->Prop
 |[]=>True
 |d::ds=>(∃ D,d={ target:=.collected D,args:=#[] }/\B<=D/\W.heap[D]?=some (.deferred (some []))/\∀ d'∈ds,d'≠{ target:=.collected D,args:=#[] })/\Cz B W ds
theorem Cz.keep {W':ZB}:∀ {ds:List Deferred},Cz B W ds->(∀ D,({ target:=.collected D,args:=#[] }:Deferred)∈ds->W.heap[D]?=some (.deferred (some []))->W'.heap[D]?=some (.deferred (some [])))->Cz B W' ds
 |[],_,_=>trivial
 |d::ds,⟨⟨D,h1,h2,h3,h4⟩,h5⟩,h=>⟨⟨D,h1,h2,h D (by simp [h1]) h3,h4⟩,h5.keep fun D' hD'=>h D' (Bv _ hD')⟩
theorem Cz.lt:∀ {ds:List Deferred},Cz B W ds->∀ D,({ target:=.collected D,args:=#[] }:Deferred)∈ds->D<W.heap.size
 |[],_,_,h=>by cases h
 |d::ds,⟨⟨D,h1,h2,h3,h4⟩,h5⟩,D',h=>by
  rcases Az.1 h with h|h
  ·rw [h1] at h
   cases h
   exact (aZ h3)
  ·exact h5.lt D' h
theorem Cz.cons {w':ZB} {D:Nat} (h:Cz B w ds) (hH:Held R w w') (hR:∀ r∈R,∃ cs t fr,w.heap[r]?=some (.cells cs t fr)) (hD:w.heap.size<=D) (hB:B<=D) (hd:w'.heap[D]?=some (.deferred (some []))):Cz B w' ({ target:=.collected D,args:=#[] }::ds) :=
 ⟨⟨D,rfl,hB,hd,fun d' hd' e=>by
  have:=h.lt D (e ▸ hd')
  omega⟩,h.keep fun D' hm hD'=>(hH.block D' (h.lt D' hm) fun hr=>by
  obtain⟨cs,t,fr,e⟩:=hR D' hr
  rw [e] at hD'
  cases hD').trans hD'⟩
def Dec (W W':ZB):Prop:=∀ (k:Nat) (cs:Array ZC) (t:ZJ) (fr:Nat × Nat),W.heap[k]?=some (.cells cs t fr)->W'.heap[k]?=some (.cells cs t fr)
theorem X3 {F:Fence} {n:Nat} {P:Program} {fn:Func} {tmps:Array ZC} {R:Ending->ZB->Prop}:∀ (ds:List Deferred) (W:ZB),Cz B W ds->(∀ W',Dec W W'->Below B W W'->∃ v,(results fn tmps).run P W'=.ok v W'/\R (.returned v) W')->LeavesInM F n P fn tmps R ds .returning W
 |[],W,_,h=>h W (fun _ _ _ _ hk=>hk) (Ac _ _)
 |d::ds,W,⟨⟨D,h1,h2,h3,h4⟩,h5⟩,h=>by
  have hlt:=(aZ h3)
  refine⟨sM,.inl ⟨D,_,by rw [h1],run_takeDeferred (ds:=[]) h3,?_⟩⟩
  refine X3 ds _ (h5.keep fun D' hD' hh=>(World.putObj_heap_other ?_).trans hh) fun W' hs hb=>h W' (fun k cs t fr hk=>hs k cs t fr ?_) ((Bn (Ac _ _) h2 _).trans hb)
  ·rintro rfl
   exact h4 _ hD' rfl
  ·refine (World.putObj_heap_other ?_).trans hk
   rintro rfl
   rw [h3] at hk
   cases hk
theorem Rk {P:Program} {fn:Func} {p q r:Tmp} {t t1 t2:ZJ} (h:fn.results=#[.cell p t,.cell q t1,.cell r t2]) (tmps:Array ZC) (w:ZB) (a b c:Addr) (x y z:ZC) (ha:tmps.getD p ZA=Value.pointer (some a)) (hb:tmps.getD q ZA=Value.pointer (some b)) (hc:tmps.getD r ZA=Value.pointer (some c)) (hx:(loadVar t a).run P w=.ok x w) (hy:(loadVar t1 b).run P w=.ok y w) (hz:(loadVar t2 c).run P w=.ok z w):(results fn tmps).run P w=.ok (.tuple #[x,y,z]) w:=by simp only [Gq] at ha hb hc;simp [results,h,ha,hb,hc,hx,hy,hz,asAddr]
def Te (i:Nat):Q00:=[[],([112,108,97,105,110]:Q00),([99,97,115,101,100]:Q00),([97,98,106,97,100]:Q00),([115,121,108,108,97,98]:Q00)].getD i []
def Mi (i:Nat):List (Q00 × ZC):=(List.range i).map fun j=>(Te j,.int .i64 (j:Int))
theorem Den (i:Nat) (hi:i<5) (w:ZB):(Instr.index 238 (.agg Hk) (.int .i64 (i:Int))).run prog w=.ok (.string ⟨(Te i).toArray⟩) w:=by rcases i with _|_|_|_|_|i;all_goals first|omega|kernel_rfl
theorem Hws:∀ i,i<5->(Bp (Te i) (Mi i) 0).isNone=true:=dC
theorem Foo (t:Q00):((Bp t (Mi 5) 0).map (·.2)).getD (.int .i64 0)=.int .i64 (dX t):=by
 have e:Mi 5=[(([]:Q00),.int .i64 0),(([112,108,97,105,110]:Q00),.int .i64 1),(([99,97,115,101,100]:Q00),.int .i64 2),(([97,98,106,97,100]:Q00),.int .i64 3),(([115,121,108,108,97,98]:Q00),.int .i64 4)]:=rfl;rw [e];unfold dX;simp only [Bp,Eh];by_cases h0:t=[]
 ·subst h0;rfl
 rw [Ai h0];repeat' split
 all_goals rfl
theorem Mh (n:Nat) (t:Array ZC) (h:t.size=n):t=((List.range n).map fun i=>t.getD i ZA).toArray:=by
 apply Array.ext_getElem?;intro i;by_cases hi:i<n;·simp [hi,h]
 ·simp [hi,h]
structure ScA (s:Q00) (B b1 b2:Nat) (a:Act):Prop where
 size:a.tmps.size=112
 a0:a.tmps.getD 0 ZA=↑s
 a2:a.tmps.getD 2 ZA=.pointer (some ⟨B,0,none⟩)
 a3:a.tmps.getD 3 ZA=.pointer (some ⟨B+1,0,none⟩)
 a4:a.tmps.getD 4 ZA=.pointer (some ⟨B+1+1,0,none⟩)
 a11:a.tmps.getD 11 ZA=.pointer (some ⟨b1,0,none⟩)
 a12:a.tmps.getD 12 ZA=.pointer (some ⟨b2,0,none⟩)
theorem ScA.lit {s:Q00} {a:Act} (h:ScA s w b1 b2 a):∃ u:Nat->ZC,a={ tmps:=#[↑s,u 1,.pointer (some ⟨w,0,none⟩),.pointer (some ⟨w+1,0,none⟩),.pointer (some ⟨w+1+1,0,none⟩),u 5,u 6,u 7,u 8,u 9,u 10,.pointer (some ⟨b1,0,none⟩),.pointer (some ⟨b2,0,none⟩),u 13,u 14,u 15,u 16,u 17,u 18,u 19,u 20,u 21,u 22,u 23,u 24,u 25,u 26,u 27,u 28,u 29,u 30,u 31,u 32,u 33,u 34,u 35,u 36,u 37,u 38,u 39,u 40,u 41,u 42,u 43,u 44,u 45,u 46,u 47,u 48,u 49,u 50,u 51,u 52,u 53,u 54,u 55,u 56,u 57,u 58,u 59,u 60,u 61,u 62,u 63,u 64,u 65,u 66,u 67,u 68,u 69,u 70,u 71,u 72,u 73,u 74,u 75,u 76,u 77,u 78,u 79,u 80,u 81,u 82,u 83,u 84,u 85,u 86,u 87,u 88,u 89,u 90,u 91,u 92,u 93,u 94,u 95,u 96,u 97,u 98,u 99,u 100,u 101,u 102,u 103,u 104,u 105,u 106,u 107,u 108,u 109,u 110,u 111],defers:=a.defers }:=by refine⟨fun i=>a.tmps.getD i ZA,?_⟩;have e:=Mh 112 a.tmps h.size;rw [<- h.a0,<- h.a2,<- h.a3,<- h.a4,<- h.a11,<- h.a12];obtain⟨t,d⟩:=a;exact congrArg (fun x=>({ tmps:=x,defers:=d }:Act)) e
structure ScI (w:ZB) (k:Int) (b1 b2 p:Nat) (ws:List Q00) (W:ZB):Prop where
 lo:w.heap.size+4<=b1
 lt:b1<b2
 hi:b2<W.heap.size
 z2:W.heap[w.heap.size]?=some (.cells #[.int .i64 0,.slice none 0 0] 176 (0,0))
 z3:W.heap[w.heap.size+1]?=some (.cells #[.int .i64 0] 31 (0,0))
 z4:W.heap[w.heap.size+2]?=some (.cells #[.int .i64 0] 3 (0,0))
 name:∃ v,W.heap[b1]?=some (.cells #[↑k,v] 176 (0,0))/\Av (b2+1) W v ws
 pos:W.heap[b2]?=some (.cells #[↑p] 3 (0,0))
 below:Below w w W
theorem Av.same {W':ZB} (h:Av base W v ls) (hs:Dec W W'):Av base W' v ls:=by
 refine⟨h.1,?_⟩;rcases h.2 with h0|⟨g,cap,cur,h1,h2,h3,h4⟩;·exact .inl h0
 ·exact .inr ⟨g,cap,cur,h1,h2,hs _ _ _ _ h3,h4⟩
theorem Av.down {base':Nat} (h:Av base w v ls) (hb:base'<=base):Av base' w v ls:=by
 refine⟨h.1,?_⟩;rcases h.2 with h0|⟨g,cap,cur,h1,h2,h3,h4⟩;·exact .inl h0
 ·exact .inr ⟨g,cap,cur,h1,Aj hb h2,h3,h4⟩
theorem Rv {b:Nat} {t T:ZJ} {x:ZC} {d:TypeDesc} (h:W.heap[b]?=some (.cells #[x] T (0,0))) (hu:prog.underlying t=some d) (hd:d.isRow=false):(loadVar t ⟨b,0,none⟩).run prog W=.ok x W:=by unfold loadVar;rw [I9,run_isAgg_plain hu (by cases d <;> first|rfl|cases hd)];have hc:W.cell? ⟨b,0,none⟩=some x:=Ab h 0;simp [go_sem,hc]
theorem H3l {X:ZB} {a:Act} {x0 x1:ZC} {y z:Int} (h2:a.tmps.getD 2 ZA=.pointer (some ⟨w,0,none⟩)) (h3:a.tmps.getD 3 ZA=.pointer (some ⟨w+1,0,none⟩)) (h4:a.tmps.getD 4 ZA=.pointer (some ⟨w+1+1,0,none⟩)) (hC:Cz w X a.defers) (z2:X.heap[w.heap.size]?=some (.cells #[x0,x1] 176 (0,0))) (z3:X.heap[w.heap.size+1]?=some (.cells #[↑y] 31 (0,0))) (z4:X.heap[w.heap.size+1+1]?=some (.cells #[↑z] 3 (0,0))) (hb:Below w w X) (hN:match (motive:=Option Q05->Prop) N with|some n=>y=0/\∃ vw,[x0,x1]=[aI n.script,vw]/\Av w X vw n.words|none=>y≠0/\x0=.int .i64 0/\x1=.slice none 0 0):bodyPostM Fence.wide 4 prog Tryz.f130 (BJ w N) .ret a X:=by
 refine X3 a.defers X hC fun W' hs hb'=>⟨_,Rk rfl _ _ _ _ _ _ _ _ h2 h3 h4 (Fq W' w 0 176 [x0,x1] _ (fun j v hj=>?_) underlying176 rfl kR) (Rv (hs _ _ _ _ z3) underlying31 rfl) (Rv (hs _ _ _ _ z4) underlying3 rfl),?_,?_⟩
 ·rw [Ba,Ab (hs _ _ _ _ z2) j];simpa using hj
 ·exact hb.trans hb'
 ·refine⟨[x0,x1],y,z,rfl,?_⟩;cases N with
  |none=>exact⟨hN.1,by rw [hN.2.1,hN.2.2]⟩
  |some n =>obtain⟨h1,vw,h5,h6⟩:=hN;exact⟨h1,vw,h5,h6.same hs⟩
theorem Av.held {w':ZB} (h:Av base w v ls) (hH:Held R w w') (hR:∀ r∈R,r<base):Av base w' v ls:=by
 refine⟨h.1,?_⟩;rcases h.2 with h0|⟨g,cap,cur,h1,h2,h3,h4⟩;·exact .inl h0
 ·exact .inr ⟨g,cap,cur,h1,h2,(hH.block g (aZ h3) (fun hg=>by have:=hR g hg;omega)).trans h3,h4⟩
theorem Av.most {w':ZB} (h:Av base w v ls) (hb:∀ j,base<=j->j<w.heap.size->w'.heap[j]?=w.heap[j]?):Av base w' v ls:=by
 refine⟨h.1,?_⟩;rcases h.2 with h0|⟨g,cap,cur,h1,h2,h3,h4⟩;·exact .inl h0
 ·exact .inr ⟨g,cap,cur,h1,h2,(hb g h2 (aZ h3)).trans h3,h4⟩
theorem Held.bT {w':ZB} (h:Held R w w') (b o:Nat) (v:ZC) (hb:b∈R):Held R w (w'.setCell ⟨b,o,none⟩ v) := ⟨h.os,h.tape,h.output,by simp [World.setCell];exact h.size,fun k hk hR=>(As _ _ _ _ (by rintro rfl;exact hR hb)).trans (h.block k hk hR)⟩
theorem Qg {X:ZB} {a:Act} {x0 x1:ZC} {y z:Int} (base:Nat) (h2:a.tmps.getD 2 ZA=.pointer (some ⟨w,0,none⟩)) (h3:a.tmps.getD 3 ZA=.pointer (some ⟨w+1,0,none⟩)) (h4:a.tmps.getD 4 ZA=.pointer (some ⟨w+1+1,0,none⟩)) (hC:Cz w X a.defers) (hlo:w.heap.size+3<=base) (Z2:∃ o0 o1,X.heap[w.heap.size]?=some (.cells #[o0,o1] 176 (0,0))) (Z3:∃ o,X.heap[w.heap.size+1]?=some (.cells #[o] 31 (0,0))) (Z4:∃ o,X.heap[w.heap.size+1+1]?=some (.cells #[o] 3 (0,0))) (hB:Below w w X) (hN:match (motive:=Option Q05->Prop) N with|some n=>y=0/\∃ vw,[x0,x1]=[aI n.script,vw]/\Av base X vw n.words|none=>y≠0/\x0=.int .i64 0/\x1=.slice none 0 0) (Y:ZB) (hY:Y=((((X.setCell ⟨w,0,none⟩ x0).setCell ⟨w,1,none⟩ x1).setCell ⟨w+1,0,none⟩ ↑y).setCell ⟨w+1+1,0,none⟩ ↑z)\/Y=((((X.setCell ⟨w,0,none⟩ x0).setCell ⟨w,1,none⟩ x1).setCell ⟨w+1,0,none⟩ ↑y).setCell ⟨w+1+1,0,none⟩ ↑z).drew):bodyPostM Fence.wide 4 prog Tryz.f130 (BJ w N) .ret a Y:=by
 obtain⟨o0,o1,z2⟩:=Z2;obtain⟨o2,z3⟩:=Z3;obtain⟨o3,z4⟩:=Z4;have hsz:=hB.size;have q1:=Al _ w 1 x1 _ _ _ (Al X w 0 x0 _ _ _ z2);have hH:Held [w.heap.size,w.heap.size+1,w.heap.size+1+1] X ((((X.setCell ⟨w,0,none⟩ x0).setCell ⟨w,1,none⟩ x1).setCell ⟨w+1,0,none⟩ ↑y).setCell ⟨w+1+1,0,none⟩ ↑z) := ((((Held.refl _ X).bT _ _ _ sM).bT _ _ _ sM).bT _ _ _ sM).bT _ _ _ sM;have q2:=(As (X.setCell ⟨w,0,none⟩ x0) ⟨w,1,none⟩ x1 (w+1) (by show w.heap.size+1≠w.heap.size;omega)).trans ((As X ⟨w,0,none⟩ x0 (w+1) (by show w.heap.size+1≠w.heap.size;omega)).trans z3);have q3:=Al _ (w+1) 0 ↑y _ _ _ q2;have q4:=(As (X.setCell ⟨w,0,none⟩ x0) ⟨w,1,none⟩ x1 (w+1+1) (by show w.heap.size+1+1≠w.heap.size;omega)).trans ((As X ⟨w,0,none⟩ x0 (w+1+1) (by show w.heap.size+1+1≠w.heap.size;omega)).trans z4);have q5:=Al _ (w+1+1) 0 ↑z _ _ _ ((As ((X.setCell ⟨w,0,none⟩ x0).setCell ⟨w,1,none⟩ x1) ⟨w+1,0,none⟩ ↑y (w+1+1) (by show w.heap.size+1+1≠w.heap.size+1;omega)).trans q4);have hH2:Held [w.heap.size,w.heap.size+1,w.heap.size+1+1] X Y:=by
  rcases hY with rfl|rfl;·exact hH
  ·exact hH.trans (Held.of_below (Ac _ _).drew)
 have hYh:Y.heap=((((X.setCell ⟨w,0,none⟩ x0).setCell ⟨w,1,none⟩ x1).setCell ⟨w+1,0,none⟩ ↑y).setCell ⟨w+1+1,0,none⟩ ↑z).heap:=by rcases hY with rfl|rfl <;> rfl
 clear hH;have hH:=hH2;refine H3l (x0:=x0) (x1:=x1) (y:=y) (z:=z) h2 h3 h4 (hC.keep fun D _ hD=>(hH.block D (aZ hD) fun hm=>?_).trans hD) ?_ ?_ (by rw [hYh];simpa using q5) (hB.trans (hH.below oM (fun r hr=>by simp at hr;omega))) ?_
 ·simp only [Az,Bo,Ey] at hm;rcases hm with rfl|rfl|rfl;·rw [z2] at hD;cases hD
  ·rw [z3] at hD;cases hD
  ·rw [z4] at hD;cases hD
 ·rw [hYh];refine (As _ _ _ _ (by show w.heap.size≠w.heap.size+1+1;omega)).trans ((As _ _ _ _ (by show w.heap.size≠w.heap.size+1;omega)).trans ?_);simpa using q1
 ·rw [hYh];refine (As _ _ _ _ (by show w.heap.size+1≠w.heap.size+1+1;omega)).trans ?_;simpa using q3
 ·cases N with
  |none=>exact hN
  |some n =>obtain⟨h1,vw,h5,h6⟩:=hN;exact⟨h1,vw,h5,(h6.held hH (fun r hr=>by simp at hr;omega)).down oM⟩
theorem ScI.held {k:Int} {W':ZB} (h:ScI w k b1 b2 p ws W) (hH:Held [] W W'):ScI w k b1 b2 p ws W':=by obtain⟨h1,h2,h3,h4,h5,h6,⟨v,h7,h8⟩,h9,h10⟩:=h;have hb:∀ j,j<=b2->W'.heap[j]?=W.heap[j]?:=fun j hj=>hH.block j oM sM;exact⟨h1,h2,Af h3 hH.size,(hb _ oM).trans h4,(hb _ oM).trans h5,(hb _ oM).trans h6,⟨v,(hb _ oM).trans h7,h8.held hH sM⟩,(hb _ oM).trans h9,h10.trans (hH.below (by have:=h10.size;omega) sM)⟩
theorem ScI.set {k:Int} {q:Nat} (h:ScI w k b1 b2 p ws W) (hv:v=.int .i64 (q:Nat)):ScI w k b1 b2 q ws (W.setCell ⟨b2,0,none⟩ v):=by obtain⟨h1,h2,h3,h4,h5,h6,⟨v,h7,h8⟩,h9,h10⟩:=h;have hb:∀ j,j≠b2->(W.setCell ⟨b2,0,none⟩ v).heap[j]?=W.heap[j]?:=fun j hj=>As _ _ _ _ hj;have:=Al W b2 0 (.int .i64 (q:Nat)) _ _ _ h9;subst hv;simp only [List.setIfInBounds_toArray,List.set_cons_zero] at this;exact⟨h1,h2,by simp [World.setCell];exact h3,(As _ _ _ _ (by show w.heap.size≠b2;omega)).trans h4,(As _ _ _ _ (by show w.heap.size+1≠b2;omega)).trans h5,(As _ _ _ _ (by show w.heap.size+2≠b2;omega)).trans h6,⟨_,(As _ _ _ _ (by show b1≠b2;omega)).trans h7,h8.jT oM _ _⟩,this,h10.setCell (p:=⟨b2,0,none⟩) (by show w.heap.size<=b2;omega) _⟩
theorem ScI.coll {k:Int} (h:ScI w k b1 b2 p ws W) (hC:Cz w W ds):Cz w (W.setCell ⟨b2,0,none⟩ v) ds :=
 hC.keep fun D _ hD=>(As _ _ _ _ (by
  show D≠b2
  rintro rfl
  rw [h.pos] at hD
  cases hD)).trans hD
structure ScR (w3:ZB) (b2 g p wl:Nat) (pre:List Q00) (A:ZB):Prop where
 held:Held [b2,g,g+2] w3 A
 pos:A.heap[b2]?=some (.cells #[.int .i64 (p+pre.flatten.length:Nat)] 3 (0,0))
 cnt:A.heap[g]?=some (.cells #[.int .i64 (pre.length:Nat)] 3 (0,0))
 len:pre.length<=12
 six:pre=[]\/wl≠6
theorem Held.far {A A':ZB} {row:Option Nat} (h:Held R w A) (hg:A.grownBy A' row) (hr:∀ r,row=some r->w.heap.size<=r):Held R w A' := ⟨hg.os.trans h.os,hg.tape.trans h.tape,hg.output.trans h.output,Aj h.size hg.size,fun k hk hR=>(hg.block k (Af hk h.size) (fun e=>by have:=hr k e.symm;omega)).trans (h.block k hk hR)⟩
theorem ScR.own {w3:ZB} {g wl:Nat} (h2:b2<w3.heap.size) (h3:g<w3.heap.size):OwnFrom w3 (fun pre A=>ScR w3 b2 g p wl pre A):=by
 intro pre A A' row h hg hr;have hne:∀ j,j<w3.heap.size->some j≠row:=fun j hj e=>by have:=(hr j e.symm).1;omega
 have hs:=h.held.size;exact⟨h.held.far hg (fun r e=>(hr r e).1),(hg.block _ oM (hne _ h2)).trans h.pos,(hg.block _ oM (hne _ h3)).trans h.cnt,h.len,h.six⟩
theorem ScR.set {w3:ZB} {g wl:Nat} (hlt:b2<g) (pre:List Q00) (A:ZB) (v:ZC) (h:ScR w3 b2 g p wl pre A):ScR w3 b2 g p wl pre (A.setCell ⟨g+2,0,none⟩ v) := ⟨h.held.bT _ _ _ sM,(As _ _ _ _ (by show b2≠g+2;omega)).trans h.pos,(As _ _ _ _ (by show g≠g+2;omega)).trans h.cnt,h.len,h.six⟩
structure ScX (w w3:ZB) (b2 g:Nat) (A:ZB):Prop where
 held:Held [b2,g,g+2,w.heap.size,w.heap.size+1,w.heap.size+1+1] w3 A
 z2:A.heap[w.heap.size]?=some (.cells #[.int .i64 0,.slice none 0 0] 176 (0,0))
 z3:A.heap[w.heap.size+1]?=some (.cells #[.int .i64 2] 31 (0,0))
 z4:∃ z:Int,A.heap[w.heap.size+1+1]?=some (.cells #[↑z] 3 (0,0))
theorem ScX.own {w3 A A':ZB} {g:Nat} {row:Option Nat} (h:ScX w w3 b2 g A) (hlo:w.heap.size+1+1<w3.heap.size) (hg:A.grownBy A' row) (hr:∀ r,row=some r->w3.heap.size<=r):ScX w w3 b2 g A':=by
 have hne:∀ j,j<w3.heap.size->A'.heap[j]?=A.heap[j]?:=fun j hj=>hg.block j (Af hj h.held.size) fun e=>by have:=hr j e.symm;omega
 obtain⟨z,hz⟩:=h.z4;exact⟨h.held.far hg hr,(hne _ oM).trans h.z2,(hne _ oM).trans h.z3,z,(hne _ oM).trans hz⟩
theorem Held.from {W':ZB} (h:Held R W W') (hR:∀ r∈R,r<B):KeepsFrom B W W' := ⟨h.size,fun k _ hB hk _=>(h.block k (aZ hk) fun hr=>by have:=hR k hr;omega).trans hk⟩
def ScQ (J E F:Act->ZB->Prop):Exit->Act->ZB->Prop
 |.normal,a,w=>J a w
 |.exit 2,a,w=>E a w
 |.ret,a,w=>F a w
 |_,_,_=>False
@[local go_sem] theorem Pos {J E F:Act->ZB->Prop} (a:Act) (w:ZB):ScQ J E F .ret a w=F a w:=rfl
theorem Pqu {J E F:Act->ZB->Prop} {Q:Exit->Act->ZB->Prop} (h1:∀ a w,J a w->Q .normal a w) (h2:∀ a w,E a w->Q (.exit 2) a w) (h3:∀ a w,F a w->Q .ret a w):∀ e a w,ScQ J E F e a w->Q e a w
 |.normal,a,w,h=>h1 a w h
 |.ret,a,w,h=>h3 a w h
 |.exit 0,_,_,h=>h.elim
 |.exit 1,_,_,h=>h.elim
 |.exit 2,a,w,h=>h2 a w h
 |.exit (_+3),_,_,h=>h.elim
 |.panic _,_,_,h=>h.elim
 |.goto _,_,_,h=>h.elim
 |.outgrown,_,_,h=>h.elim
def vF (b:Nat) (W:ZB):Nat:=(RowKit.intOf ((W.cell? ⟨b,0,none⟩).getD ZA)).toNat
def ScJ (s:Q00) (w:ZB) (k:Int) (b1 b2:Nat) (N:Option Q05) (a:Act) (X:ZB):Prop:=ScA s w b1 b2 a/\Cz w X a.defers/\∃ (p:Nat) (ws:List CH.Str) (f:Nat),p<=s.length/\ws.length<=6/\Hid (s.length - p<f/\(iW k f ws (s.drop p)).map (fun ws=>(⟨k,ws⟩:Q05))=N)/\ScI w k b1 b2 p ws X
def ScE (s:Q00) (w:ZB) (k:Int) (b1 b2:Nat) (N:Option Q05) (a:Act) (X:ZB):Prop:=ScA s w b1 b2 a/\Cz w X a.defers/\∃ (p:Nat) (ws:List CH.Str),Hid ((if ws=[] then none else some ws).map (fun ws=>(⟨k,ws⟩:Q05))=N)/\ScI w k b1 b2 p ws X
theorem Yh (s:Q00) (w:ZB) (hG:Gc w) (hs:s.length<=1000000):Calls prog 130 #[↑s] w (BJ w (kV s)):=by
 obtain⟨N,hN⟩:=nac (kV s);rw [hN.out];have CT:=Aa fun W=>Ze W;have TI:=Aa Den;generalize Hk=T at *;have hmm:=@Hz prog;have CC:=Aa fun W=>Ex2 s 58 W hs;refine (Iz (n:=4)).1 ?_;refine callsIn_of_wp_marks func130 rfl trivial ?_ rfl;simp only [ntmps130,Gu,Ap,Bf,Nat.reduceAdd,Nat.reduceSub,Gt,Gs,Hl,Gy,Eu,D6];refine J6.2 ?_;go_wp2;go_step3;by_cases hlong:20000<s.length
 ·have d:=nai ((20000:Int)<(s.length:Int));have hNn:N=none:=by rw [<- hN.out];unfold kV;rw [Ah hlong]
  subst hNn;go_wp2_with fail;rw [Exit.noGoto_ret];have hq:=fun o1 o2 o3=>My w o1 o2 o3 (.map #[] 0);have hk:∀ (V:ZB) (k:Nat),k<V.heap.size->(V.alloc (.map #[] 0)).heap[k]?=V.heap[k]?:=fun V k h=>Ij V _ k h;refine H3l (y:=2) rfl rfl rfl trivial ((hk _ _ ?_).symm.trans (hq _ _ _).1) ((hk _ _ ?_).symm.trans (hq _ _ _).2.1) ((hk _ _ ?_).symm.trans (hq _ _ _).2.2.1) ((((Ac _ w).alloc nR _).alloc sM _).alloc naf _) ⟨(dC:(2:Int)≠0),rfl,rfl⟩;all_goals simp only [Df];omega
 ·have d:=naj ((20000:Int)<(s.length:Int));go_wp2_with fail;have hM0:=Lw ay (((w.alloc (Obj.cells #[Value.int IntKind.i64 0,Value.slice none 0 0] 176)).alloc (Obj.cells #[Value.int IntKind.i64 0] 31)).alloc (Obj.cells #[Value.int IntKind.i64 0] 3));obtain⟨z2,z3,z4,zm⟩:=My w (Obj.cells #[Value.int IntKind.i64 0,Value.slice none 0 0] 176) (Obj.cells #[Value.int IntKind.i64 0] 31) (Obj.cells #[Value.int IntKind.i64 0] 3) (.map #[] 0);have hb0:Below w w ((((w.alloc (Obj.cells #[Value.int IntKind.i64 0,Value.slice none 0 0] 176)).alloc (Obj.cells #[Value.int IntKind.i64 0] 31)).alloc (Obj.cells #[Value.int IntKind.i64 0] 3)).alloc (.map #[] 0)):=((((Ac _ w).alloc nR _).alloc sM _).alloc naf _).alloc naf _;simp only [Df] at hM0 ⊢;have hX0:((((w.alloc (Obj.cells #[Value.int IntKind.i64 0,Value.slice none 0 0] 176)).alloc (Obj.cells #[Value.int IntKind.i64 0] 31)).alloc (Obj.cells #[Value.int IntKind.i64 0] 3)).alloc (.map #[] 0)).heap.size=w.heap.size+4:=sM;generalize ((((w.alloc (Obj.cells #[Value.int IntKind.i64 0,Value.slice none 0 0] 176)).alloc (Obj.cells #[Value.int IntKind.i64 0] 31)).alloc (Obj.cells #[Value.int IntKind.i64 0] 3)).alloc (.map #[] 0))=X at *;refine CmZ (CT.out _) fun w1 hb1=>?_;have y2:=(hb1.block _ oM).trans z2;have y3:=(hb1.block _ oM).trans z3;have y4:=(hb1.block _ oM).trans z4;have hM1:=hM0.below hb1;have hB1:Below w w w1:=hb0.trans (hb1.mono oM);have hs1:=hb1.size;rw [hX0] at hs1;clear hM0 z2 z3 z4 zm hb1 hb0 hX0 X hmm;go_wp2_with fail;go_loopw [22] (fun iv wr=>∃ i:Nat,i<=5/\iv=↑i/\Ly ay (w+3) wr (Mi i)/\Hid (w1.heap.size<=wr.heap.size/\∀ k,k≠w.heap.size+3->k<w1.heap.size->wr.heap[k]?=w1.heap[k]?)/\Hid (Below w w wr)) (fun iv _=>5 - (RowKit.intOf iv).toNat);case atStart=>exact⟨0,oM,rfl,hM1,Aa ⟨Au _,fun _ _ _=>rfl⟩,Aa hB1⟩
  case round =>
   obtain⟨i,hi,rfl,hM,hk,hB⟩:=hrel;by_cases hlt:i<5
   ·have d1:=nai ((i:Int)<5);have hix:=TI.out i hlt;have hf:Bp (Te i) (Mi i) 0=none:=by
     have:=Hws i hlt;cases h:Bp (Te i) (Mi i) 0 with
     |none=>rfl
     |some p=>rw [h] at this;cases this
    obtain⟨o,ho,hM2⟩:=Cn Kc underlying274 hM (Te i) ↑i hf;have hkv:Mi i++[(Te i,.int .i64 (i:Int))]=Mi (i+1):=by unfold Mi;rw [List.range_succ,Gi];rfl
    rw [hkv] at hM2;clear hM hf hkv;go_wp2;go_round;case rel =>refine⟨i+1,oM,by push_cast;rfl,hM2,Aa ⟨by simpa using hk.out.1,fun k h1 h2=>(World.putObj_heap_other h1).trans (hk.out.2 k h1 h2)⟩,Aa (Bn hB.out oM o)⟩
    case measure =>show 5 - ((i:Int)+1).toNat<5 - (i:Int).toNat;omega
   ·obtain rfl:i=5:=oM;have d1:ZH (((5:Nat):Int)<5)=false:=dC;go_wp2_with fail;refine CmZ (CC.out _) fun w2 hb2=>?_;have hlk:=Dg Kc (underlying274) (.int .i64 0) (fun w=>Zr kR w) (hM.below hb2) (CH.cut 58 s).1;rw [Foo] at hlk;have x2:=(hb2.block _ (by have:=hk.out.1;omega)).trans ((hk.out.2 _ oM oM).trans y2);have x3:=(hb2.block _ (by have:=hk.out.1;omega)).trans ((hk.out.2 _ oM oM).trans y3);have x4:=(hb2.block _ (by have:=hk.out.1;omega)).trans ((hk.out.2 _ oM oM).trans y4);have hz2:w.heap.size+4<=w2.heap.size:=by have:=hk.out.1;have:=hb2.size;omega
    have hB2:Below w w w2:=hB.out.trans (hb2.mono (by have:=hk.out.1;omega));clear CC CT TI hk hB hM hb2 hM1 hB1 y2 y3 y4 hi hlt d1;by_cases hbad:iG 58 s=none\/dX (CH.cut 58 s).1=0
    ·have hNn:N=none:=by
      rw [<- hN.out];unfold kV;rw [Ai hlong];cases h:iG 58 s with
      |none=>rfl
      |some p =>have h0:=hbad.resolve_left (by rw [h];intro h;cases h);rw [show CH.cut 58 s=p from by unfold CH.cut;rw [h];rfl] at h0;exact Ah h0
     subst hNn;have hd:(!(iG 58 s).isSome||(dX (CH.cut 58 s).1==0))=true:=by
      rcases hbad with h|h;·rw [h];rfl
      ·rw [h];simp
     have hbz:∀ o,Below w w (w2.alloc o):=fun o=>hB2.alloc oM o;have x2':∀ o,(w2.alloc o).heap[w.heap.size]?=_:=fun o=>(Ij w2 o _ oM).trans x2;have x3':∀ o,(w2.alloc o).heap[w.heap.size+1]?=_:=fun o=>(Ij w2 o _ oM).trans x3;have x4':∀ o,(w2.alloc o).heap[w.heap.size+1+1]?=_:=fun o=>(Ij w2 o _ oM).trans x4;have e2:∀ o,(w2.alloc o).cell? ⟨w,0,none⟩=some (.int .i64 0):=fun o=>Ab (x2' o) 0;have e2':∀ o,(w2.alloc o).cell? ⟨w,1,none⟩=some (.slice none 0 0):=fun o=>Ab (x2' o) 1;have e3:∀ o,(w2.alloc o).cell? ⟨w+1,0,none⟩=some (.int .i64 0):=fun o=>Ab (x3' o) 0;have e4:∀ o,(w2.alloc o).cell? ⟨w+1+1,0,none⟩=some (.int .i64 0):=fun o=>Ab (x4' o) 0;have f3:∀ o j,(w2.alloc o).frozen? ⟨w,j,none⟩=false:=fun o=>Ao (x2' o);have f4:∀ o,(w2.alloc o).frozen? ⟨w+1,0,none⟩=false:=fun o=>Ao (x3' o) 0;have f5:∀ o,(w2.alloc o).frozen? ⟨w+1+1,0,none⟩=false:=fun o=>Ao (x4' o) 0;generalize dX (CH.cut 58 s).1=ti at *;generalize (iG 58 s).isSome=fo at *;cases fo with
     |false =>exact FD55
     |true =>
      have d2:(ti==0)=true:=by simpa using hd
      exact FD55
    ·obtain⟨⟨W,R⟩,hcut⟩:∃ p,iG 58 s=some p:=by
      cases h:iG 58 s with
      |none=>exact absurd (.inl h) hbad
      |some p=>exact⟨p,rfl⟩
     have yY:CH.cut 58 s=(W,R):=by unfold CH.cut;rw [hcut];rfl
     rw [yY,hcut] at hbad ⊢;rw [yY] at hlk;dsimp only at hbad hlk ⊢;have hk0:dX W≠0:=fun h=>hbad (.inr h);have HN:Hid ((iW (dX W) (R.length+1) [] R).map (fun ws=>⟨dX W,ws⟩)=N):=Aa (by rw [<- hN.out];unfold kV;rw [Ai hlong,hcut];dsimp only;rw [Ai hk0]);have hsum:s.length=W.length+1+R.length:=by have:=congrArg List.length (qF hcut);simp at this;omega
     have hR:s.drop (W.length+1)=R:=by rw [qF hcut];simp [List.drop_append]
     generalize dX W=k at *;have d2:(k==0)=false:=by simpa using hk0
     clear hbad hcut yY;go_wp2_with fail;go_step3;have hI0:ScI w k w2 (w2+1) (W.length+1) [] ((w2.alloc (Obj.cells #[Value.int IntKind.i64 k,Value.slice none 0 0] 176)).alloc (Obj.cells #[Value.int IntKind.i64 ((W.length:Int)+1)] 3)):=by obtain⟨q1,q2⟩:=Hj w2 (Obj.cells #[Value.int IntKind.i64 k,Value.slice none 0 0] 176) (Obj.cells #[Value.int IntKind.i64 ((W.length:Int)+1)] 3);have hb:=((Ac w2 w2).alloc nR (Obj.cells #[Value.int IntKind.i64 k,Value.slice none 0 0] 176)).alloc sM (Obj.cells #[Value.int IntKind.i64 ((W.length:Int)+1)] 3);exact⟨hz2,oM,sM,(hb.block _ oM).trans x2,(hb.block _ oM).trans x3,(hb.block _ oM).trans x4,⟨_,q1,Av.nil _ _⟩,by rw [q2];simp,hB2.trans (hb.mono oM)⟩
     generalize ((w2.alloc (Obj.cells #[Value.int IntKind.i64 k,Value.slice none 0 0] 176)).alloc (Obj.cells #[Value.int IntKind.i64 ((W.length:Int)+1)] 3))=W0 at *;obtain⟨b2,hb2⟩:=naa (w2.heap.size+1);rw [hb2] at hI0 ⊢;generalize w2.heap.size=b1 at *;clear hlk x2 x3 x4 hz2 hB2 hb2;go_wp2_with fail;refine wp_loop (ScJ s w k b1 b2 N) (fun _ X=>s.length - vF b2 X) ⟨⟨rfl,rfl,rfl,rfl,rfl,rfl,rfl⟩,trivial,W.length+1,[],R.length+1,oM,sM,Aa ⟨?_,?_⟩,hI0⟩ ?_;·omega
     ·rw [hR];exact HN.out
     clear hI0 W0 HN hsum hR;rintro a X ⟨hA,hC,p,ws,f,hp,hws,HN,hI⟩;obtain⟨u,ha⟩:=hA.lit;rw [ha];generalize a.defers=ds at *;clear hA ha a;have hc:X.cell? ⟨b2,0,none⟩=some ↑p:=Ab hI.pos 0;have hat:vF b2 X=p:=by unfold vF;rw [hc];rfl
     rw [hat];refine wp_mono (Q:=ScQ (fun a' X'=>ScJ s w k b1 b2 N a' X'/\s.length - vF b2 X'<s.length - p) (ScE s w k b1 b2 N) (bodyPostM Fence.wide 4 prog Tryz.f130 (BJ w N) .ret)) ?_ (Pqu (fun _ _ h=>h) (fun a' X' h=>?_) (fun _ _ h=>h));rotate_left 1
     ·clear hc hat hC HN hI hws hp u ds f ws;obtain⟨hA,hC,q,ws,HN,hI⟩:=h;obtain⟨u,ha⟩:=hA.lit;rw [ha];generalize a'.defers=ds at *;clear hA ha a';obtain⟨v,hn,hO⟩:=hI.name;obtain⟨av,cv,rfl,hf1,hf2,_⟩:=hO.form;have hlo:=hI.lo;have hlt2:=hI.lt;have hhi:=hI.hi;have c10:X'.cell? ⟨b1,0,none⟩=some ↑k:=Ab hn 0;have c11:X'.cell? ⟨b1,1,none⟩=some (.slice av ws.length cv):=Ab hn 1;have e2:X'.cell? ⟨w,0,none⟩=some (.int .i64 0):=Ab hI.z2 0;have e2':X'.cell? ⟨w,1,none⟩=some (.slice none 0 0):=Ab hI.z2 1;have e3:X'.cell? ⟨w+1,0,none⟩=some (.int .i64 0):=Ab hI.z3 0;have e4:X'.cell? ⟨w+1+1,0,none⟩=some (.int .i64 0):=Ab hI.z4 0;have f3:∀ j,X'.frozen? ⟨w,j,none⟩=false:=Ao hI.z2;have f4:X'.frozen? ⟨w+1,0,none⟩=false:=Ao hI.z3 0;have f5:X'.frozen? ⟨w+1+1,0,none⟩=false:=Ao hI.z4 0;generalize hwl:ws.length=wl at *;by_cases hw0:wl=0;·have dz:=nak wl 0;have HN':=HN.out;rw [Ah (Et.1 (hwl.trans hw0))] at HN';replace HN:=Aa HN';clear HN';go_wp2_with fail;rw [Exit.noGoto_ret];refine Qg (b2+1) rfl rfl rfl hC oM ⟨_,_,hI.z2⟩ ⟨_,hI.z3⟩ ⟨_,hI.z4⟩ hI.below ?_ _ (.inl rfl);rw [<- HN.out];exact⟨(dC:(6:Int)≠0),rfl,rfl⟩
      ·have dz:=nal wl 0;have HN':=HN.out;rw [Ai (fun h=>hw0 (hwl ▸ congrArg List.length h))] at HN';replace HN:=Aa HN';clear HN';go_wp2_with fail;rw [Exit.noGoto_ret];refine Qg (b2+1) rfl rfl rfl hC oM ⟨_,_,hI.z2⟩ ⟨_,hI.z3⟩ ⟨_,hI.z4⟩ hI.below ?_ _ (.inl rfl);rw [<- HN.out];exact⟨rfl,_,rfl,hO⟩
     obtain⟨v,hn,hO⟩:=hI.name;obtain⟨av,cv,rfl,hf1,hf2,_⟩:=hO.form;have hlo:=hI.lo;have hlt2:=hI.lt;have hhi:=hI.hi;have c10:X.cell? ⟨b1,0,none⟩=some ↑k:=Ab hn 0;have c11:X.cell? ⟨b1,1,none⟩=some (.slice av ws.length cv):=Ab hn 1;generalize hwl:ws.length=wl at *;by_cases hlt:p<s.length
     ·have d3:=nai ((p:Int)<(s.length:Int));have hb0:=(Ac X X).alloc nR (Obj.cells #[Value.int IntKind.i64 0] 3);have h14:=Ag X (Obj.cells #[Value.int IntKind.i64 0] 3);have hsz:(X.alloc (Obj.cells #[Value.int IntKind.i64 0] 3)).heap.size=X.heap.size+1:=sM;go_wp2_with fail;obtain⟨g,hg⟩:=naa X.heap.size;rw [hg] at hb0 h14 hsz hhi ⊢;generalize X.alloc (Obj.cells #[Value.int IntKind.i64 0] 3)=X1 at *;have i1:=(hb0.cell (p:=⟨b1,0,none⟩) (by show b1<g;omega)).trans c10;have i2:=(hb0.cell (p:=⟨b2,0,none⟩) (by show b2<g;omega)).trans hc;refine Dt (S:=fun W'=>W'.cell? ⟨b1,0,none⟩=some ↑k/\W'.cell? ⟨b2,0,none⟩=some ↑p) kR ⟨i1,i2⟩ fun kz=>?_;have QS:=kz;clear kz;refine tj 0 ?_;push_cast;refine tj 1 ?_;push_cast;refine tj 2 ?_;push_cast;refine tj 3 ?_;push_cast;refine tj 4 ?_;push_cast;refine rk 5 rfl fun K hK=>?_;rw [Ah rF];go_simp;rw [Ex s p];refine CmZ (Ru k (s.drop p) X1.drew) fun w3 hw3=>?_;have hb3:Below X1 X1 w3:=by rw [hw3];exact ((Ac _ X1).drew.alloc nR _).alloc sM _
      obtain⟨t1,t2⟩:w3.heap[g+1]?=some (.cells #[↑k] 3 (0,0))/\w3.heap[g+2]?=some (.cells #[.string ⟨(s.drop p).toArray⟩] 9 (0,0)):=by have:=Hj X1.drew (Obj.cells #[Value.int IntKind.i64 k] 3) (Obj.cells #[Value.string ⟨(s.drop p).toArray⟩] 9);rw [<- hw3,show X1.drew.heap.size=g+1 from hsz] at this;exact this
      have hs3:w3.heap.size=g+3:=by rw [hw3];simp;omega
      clear hw3;have hB3:Below g X w3:=hb0.trans (hb3.mono oM);refine hK.out _ _ ⟨(hB3.cell (p:=⟨b1,0,none⟩) (by show b1<g;omega)).trans c10,(hB3.cell (p:=⟨b2,0,none⟩) (by show b2<g;omega)).trans hc⟩ fun kz=>?_;clear hK K;push_cast;refine Dc kR ?_ _;have hI3:ScI w k b1 b2 p ws w3:=hI.held (Held.of_below (by rw [hg];exact hB3));have hC3:Cz w w3 ds:=hC.keep fun D _ hD=>(hB3.block D (by have:=(aZ hD);omega)).trans hD;have g3:w3.heap[g]?=some (.cells #[.int .i64 0] 3 (0,0)):=(hb3.block g oM).trans h14;have hrl:(s.drop p).length<=1000000:=by rw [Cc];omega
      have DJ:s.drop p≠[]:=fun h=>by have:=congrArg List.length h;rw [Cc,Bf] at this;omega
      generalize hr:s.drop p=r at *;simp only [show X1.drew.heap.size=g+1 from hsz];have hOX:=Aa (And.intro hO (And.intro hn hB3));clear kz QS hB3 hb3 hb0 h14 hsz i1 i2 hI hC hc hat hn hO c10 c11 X1;go_wp2_with fail;refine (J6 (n:=4)).1 ?_;refine Xu (n:=4) (g+2) oM rfl dC (gf:=257) (lb:=#[.pointer (some ⟨g+1,0,none⟩),.pointer (some ⟨g+1+1,0,none⟩)]) rfl trivial (enters_of func257 kR rfl) (Xz k r hrl 3 dC w (g+2) (g+1) w w3 hG rfl hI3.below oM oM oM t2 t1) (fun h1 h2=>⟨h1.1.trans h2.1,h2.2.1.trans h1.2.1,h2.2.2.trans h1.2.2⟩) (fun W l o o' hl ho _ _=>⟨(Ac _ W).grown (grownBy_putObj' W l o') (by have:=(aZ ho);omega) (fun j e=>by cases e;omega),World.putObj_heap_other oM,World.putObj_heap_other oM⟩) (Ac _ _) (fun _=>rfl) (fun pre A=>ScR w3 b2 g p wl pre A) (fun c _ A=>c=.ret/\N=none/\ScX w w3 b2 g A) (ScR.own oM oM) (fun c pre A B row h hg hr=>⟨h.1,h.2.1,h.2.2.own oM hg (fun r e=>(hr r e).1)⟩) (fun pre A v h=>ScR.set hhi pre A v h) ⟨Held.refl _ _,by simpa using hI3.pos,by simpa using g3,sM,.inl rfl⟩ (fun x=>{ tmps:=#[↑s,u 1,.pointer (some ⟨w,0,none⟩),.pointer (some ⟨w+1,0,none⟩),.pointer (some ⟨w+1+1,0,none⟩),u 5,u 6,u 7,u 8,u 9,u 10,.pointer (some ⟨b1,0,none⟩),.pointer (some ⟨b2,0,none⟩),↑p,.pointer (some ⟨g,0,none⟩),↑x,u 16,u 17,u 18,u 19,u 20,u 21,u 22,u 23,u 24,u 25,u 26,u 27,u 28,u 29,u 30,u 31,u 32,u 33,u 34,u 35,u 36,u 37,u 38,u 39,u 40,u 41,u 42,u 43,u 44,u 45,u 46,u 47,u 48,u 49,u 50,↑p,↑s,↑s.length,.bool true,↑p,.pointer (some ⟨b1,0,none⟩),↑k,↑s,↑p,↑r,.func (.func 257) #[] #[.pointer (some ⟨g+1,0,none⟩),.pointer (some ⟨g+1+1,0,none⟩)],↑x,u 63,u 64,u 65,u 66,u 67,u 68,u 69,u 70,u 71,u 72,u 73,u 74,u 75,u 76,u 77,u 78,u 79,u 80,u 81,u 82,u 83,u 84,u 85,u 86,u 87,u 88,u 89,u 90,u 91,u 92,u 93,u 94,u 95,u 96,u 97,u 98,u 99,u 100,u 101,u 102,u 103,u 104,u 105,u 106,u 107,u 108,u 109,u 110,u 111],defers:=[] }) ?assign ?body ?done ?stop;case assign =>intro l x W K hK;gi_wp2;exact hK
      case body =>
       rintro l pre x W hR ⟨hN1,hN2,hN3⟩;have HX:=Aa (And.intro hN2 hN3);clear hN2 hN3;have j1:W.cell? ⟨g,0,none⟩=some (.int .i64 (pre.length:Nat)):=Ab hR.cnt 0;have j2:W.cell? ⟨b2,0,none⟩=some (.int .i64 (p+pre.flatten.length:Nat)):=Ab hR.pos 0;obtain⟨v3,hn3,hO3⟩:=hI3.name;obtain⟨av3,cv3,rfl,hg1,hg2,_⟩:=hO3.form;rw [hwl] at hn3;have hW1:=(hR.held.block b1 oM naf).trans hn3;have j3:W.cell? ⟨b1,1,none⟩=some (.slice av3 wl cv3):=Ab hW1 1;have hWz:=hR.held.size;obtain⟨pl,hpl⟩:=naa pre.length;obtain⟨q,hq⟩:=naa (p+pre.flatten.length);rw [hpl] at j1;rw [hq] at j2;by_cases hst:pl=12\/wl=6
       ·have hW2:=(hR.held.block _ oM naf).trans hI3.z2;have hW3:=(hR.held.block _ oM naf).trans hI3.z3;have hW4:=(hR.held.block _ oM naf).trans hI3.z4;have e2:W.cell? ⟨w,0,none⟩=some (.int .i64 0):=Ab hW2 0;have e2':W.cell? ⟨w,1,none⟩=some (.slice none 0 0):=Ab hW2 1;have e3:W.cell? ⟨w+1,0,none⟩=some (.int .i64 0):=Ab hW3 0;have e4:W.cell? ⟨w+1+1,0,none⟩=some (.int .i64 0):=Ab hW4 0;have f3:∀ j,W.frozen? ⟨w,j,none⟩=false:=Ao hW2;have f4:W.frozen? ⟨w+1,0,none⟩=false:=Ao hW3 0;have f5:W.frozen? ⟨w+1+1,0,none⟩=false:=Ao hW4 0;have oG:∀ V j v,(V:ZB).cell? ⟨b2,0,none⟩=some ↑q->j<b2->∀ o,(V.setCell ⟨j,o,none⟩ v).cell? ⟨b2,0,none⟩=some ↑q:=fun V j v hV hj o=>(Bl _ ⟨j,o,none⟩ ⟨b2,0,none⟩ _ (fun e=>by dsimp only at e;omega)).trans hV;have ds1:(((pl:Int)==12)||((wl:Int)==6))=true:=by
         rcases hst with h|h;·simp [h]
         ·simp [h]
        have hNn:N=none:=by
         obtain⟨h1,h2⟩:=HN.out;obtain⟨f,rfl⟩:∃ g,f=g+1:=⟨f - 1,oM⟩
         rw [<- h2,xY DJ];·rfl
         ·by_cases h12:pl=12;·right;have:=kK k pre.length r (by rw [hN1]) HX.out.1;rw [hpl,h12] at this;rw [this,<- h12,<- hpl,hN1];simp
          ·left;have h6:wl=6:=hst.resolve_left h12;have h0:pre=[]:=hR.six.resolve_right (fun h=>h h6);refine⟨tK ?_,hwl.trans h6⟩;have:=HX.out.1;rw [h0] at this;exact this
        by_cases e12:((pl:Int)==12)=true;rotate_left 1;have e6:((wl:Int)==6)=true:=by simpa [e12] using ds1
        replace e12:((pl:Int)==12)=false:=by simpa using e12
        all_goals
         gi_wp2_with fail;refine Hc (fun W'=>W'.cell? ⟨b2,0,none⟩=some ↑q) _ _ kR kR ?_ j2 fun kz=>?_;·rintro⟨a,w,h⟩;exact h
         refine tj 0 ?_;push_cast;refine tj 1 ?_;push_cast;refine rk 2 rfl fun K hK=>?_;rw [Ah rF];go_simp;refine hK.out _ _ (oG _ _ _ (oG _ _ _ j2 oM _) oM _) fun kz=>?_;clear hK K;push_cast;have v2:=Al _ w 1 (.slice none 0 0) _ _ _ (Al W w 0 (.int .i64 0) _ _ _ hW2);have hHV:Held [b2,g,g+2,w.heap.size,w.heap.size+1,w.heap.size+1+1] W ((W.setCell ⟨w,0,none⟩ (.int .i64 0)).setCell ⟨w,1,none⟩ (.slice none 0 0)).drew:=Held.trans (((Held.refl _ W).bT _ _ _ sM).bT _ _ _ sM) (Held.of_below (Ac _ _).drew);have hoth:∀ j,j≠w.heap.size->((W.setCell ⟨w,0,none⟩ (.int .i64 0)).setCell ⟨w,1,none⟩ (.slice none 0 0)).drew.heap[j]?=W.heap[j]?:=fun j hj=>(As _ _ _ _ hj).trans (As _ _ _ _ hj);have v3:=(hoth (w+1) oM).trans hW3;have v4:=(hoth (w+1+1) oM).trans hW4;replace v2:((W.setCell ⟨w,0,none⟩ (.int .i64 0)).setCell ⟨w,1,none⟩ (.slice none 0 0)).drew.heap[w.heap.size]?=some (.cells #[.int .i64 0,.slice none 0 0] 176 (0,0)):=by simp only [List.setIfInBounds_toArray,List.set_cons_zero,List.set_cons_succ] at v2;exact v2
         generalize ((W.setCell ⟨w,0,none⟩ (.int .i64 0)).setCell ⟨w,1,none⟩ (.slice none 0 0)).drew=V at *;have y3:V.cell? ⟨w+1,0,none⟩=some (.int .i64 0):=Ab v3 0;have y4:V.cell? ⟨w+1+1,0,none⟩=some (.int .i64 0):=Ab v4 0;have y5:=Ao v3 0;have y6:=Ao v4 0;refine rk 3 rfl fun K hK=>?_;rw [Ah rF];go_simp;refine hK.out _ _ (oG _ _ _ kz oM _) fun kz=>?_;clear hK K;push_cast;have oK:=hHV.bT (w+1) 0 (.int .i64 2) sM;have x2:=(As V ⟨w+1,0,none⟩ (.int .i64 2) w.heap.size (by show w.heap.size≠w.heap.size+1;omega)).trans v2;have x3:=Al V (w+1) 0 (.int .i64 2) _ _ _ v3;have x4:=(As V ⟨w+1,0,none⟩ (.int .i64 2) (w.heap.size+1+1) (by show w.heap.size+1+1≠w.heap.size+1;omega)).trans v4;simp only [List.setIfInBounds_toArray,List.set_cons_zero] at x3;clear y3 y4 y5 y6 v2 v3 v4 hHV hoth;generalize V.setCell ⟨w+1,0,none⟩ (.int .i64 2)=V2 at *;have y4:V2.cell? ⟨w+1+1,0,none⟩=some (.int .i64 0):=Ab x4 0;have y6:=Ao x4 0;refine rk 4 rfl fun K hK=>?_;rw [Ah rF];go_simp;refine hK.out _ _ (oG _ _ _ kz oM _) fun kz=>?_;clear hK K;push_cast;refine Dc kR ?_ _;have yB:=oK.bT (w+1+1) 0 ↑q sM;have u2:=(As V2 ⟨w+1+1,0,none⟩ ↑q w (by show w.heap.size≠w.heap.size+1+1;omega)).trans x2;have u3:=(As V2 ⟨w+1+1,0,none⟩ ↑q (w+1) (by show w.heap.size+1≠w.heap.size+1+1;omega)).trans x3;have u4:=Al V2 (w+1+1) 0 ↑q _ _ _ x4;simp only [List.setIfInBounds_toArray,List.set_cons_zero] at u4;clear y4 y6 x2 x3 x4 oK kz;gi_wp2;exact⟨yB.from (fun z hz=>by simp at hz;omega),rfl,hNn,(hR.held.mono (fun z hz=>by simp at hz ⊢;omega)).trans yB,u2,u3,q,u4⟩
       ·have hst':=Le.1 hst;have e12:=nal pl 12;have e6:=nal wl 6;have hrl2:=kL k pre.length r;have hxl:x.length<=1000000:=by rw [HX.out.2,C9];omega
        have hqx:q+x.length<=1000000:=by
         have h1:=congrArg List.length (jo k pre.length r);rw [hN1,Am] at h1;have h2:x.length<=(CH.letters k pre.length r).2.length:=by rw [HX.out.2,C9];omega
         have h3:=congrArg List.length hr;rw [Cc] at h3;omega
        have SB:=hR.len;have hw1:IntKind.i64.wrap ((q:Int)+x.length)=(q:Int)+x.length:=by rw [IntKind.wrap_i64];omega
        have hw2:IntKind.i64.wrap ((pl:Int)+1)=(pl:Int)+1:=by rw [IntKind.wrap_i64];omega
        have i1:∀ v,(W.drew.setCell ⟨b2,0,none⟩ v).cell? ⟨g,0,none⟩=some (.int .i64 (pl:Nat)):=fun v=>(Bl _ ⟨b2,0,none⟩ ⟨g,0,none⟩ _ (fun e=>by dsimp only at e;omega)).trans j1;have k1:=Ao hR.cnt 0;have k2:=Ao hR.pos 0;have k3:∀ v,(W.drew.setCell ⟨b2,0,none⟩ v).frozen? ⟨g,0,none⟩=false:=fun v=>Ao ((As W.drew ⟨b2,0,none⟩ v g (by show g≠b2;omega)).trans hR.cnt) 0;gi_wp2_with fail;refine Hc (fun _=>True) _ _ kR kR ?_ trivial fun kz=>?_;·rintro⟨a,w,h⟩;exact h
        refine tj 1 ?_;push_cast;refine tj 2 ?_;push_cast;refine D7 (rs:=[0,4]) kR sM ?_;refine Aw (o:=_) rfl (fun K hK=>?_) ?_;focus
         go_simp;refine hK.out _ _ trivial fun kz=>?_;clear hK K;push_cast;refine tj 3 ?_;push_cast;refine D7 (rs:=[4,6]) kR sM ?_;refine Aw (o:=_) rfl (fun K hK=>?_) ?_;focus go_simp;refine hK.out _ _ trivial fun kz=>?_;clear hK K;push_cast;refine tj 5 ?_;push_cast;refine rk 6 rfl fun K hK=>?_;go_simp;refine hK.out _ _ trivial fun kz=>?_;clear hK K;push_cast;refine rk 7 rfl fun K hK=>?_;go_simp;refine hK.out _ _ trivial fun kz=>?_;clear hK K;push_cast;refine Dc kR ?_ _
         rotate_left 1;refine Aw (o:=_) rfl (fun K hK=>?_) Dx;go_simp;refine hK.out _ _ trivial fun kz=>?_;clear hK K;push_cast;refine rk 4 rfl fun K hK=>?_;go_simp;refine hK.out _ _ trivial fun kz=>?_;clear hK K;push_cast;refine tj 5 ?_;push_cast;refine rk 7 rfl fun K hK=>?_;go_simp;refine hK.out _ _ trivial fun kz=>?_;clear hK K;push_cast;refine Dc kR ?_ _
        rotate_left 2;refine Aw (o:=_) rfl (fun K hK=>?_) Dx;go_simp;refine hK.out _ _ trivial fun kz=>?_;clear hK K;push_cast;refine tj 5 ?_;push_cast;refine rk 0 rfl fun K hK=>?_;go_simp;refine hK.out _ _ trivial fun kz=>?_;clear hK K;push_cast;refine tj 3 ?_;push_cast;refine rk 6 rfl fun K hK=>?_;go_simp;refine hK.out _ _ trivial fun kz=>?_;clear hK K;push_cast;refine rk 7 rfl fun K hK=>?_;go_simp;refine hK.out _ _ trivial fun kz=>?_;clear hK K;push_cast;refine Dc kR ?_ _;all_goals
         have hHV:Held [b2,g] W ((W.setCell ⟨b2,0,none⟩ (.int .i64 ((q:Int)+x.length))).setCell ⟨g,0,none⟩ (.int .i64 ((pl:Int)+1))).drew:=(((Held.refl _ W).bT _ _ _ sM).bT _ _ _ sM).trans (Held.of_below (Ac _ _).drew);have u1:=(As (W.setCell ⟨b2,0,none⟩ (.int .i64 ((q:Int)+x.length))) ⟨g,0,none⟩ (.int .i64 ((pl:Int)+1)) b2 (by show b2≠g;omega)).trans (Al W b2 0 (.int .i64 ((q:Int)+x.length)) _ _ _ hR.pos);have u2:=Al (W.setCell ⟨b2,0,none⟩ (.int .i64 ((q:Int)+x.length))) g 0 (.int .i64 ((pl:Int)+1)) _ _ _ ((As W ⟨b2,0,none⟩ (.int .i64 ((q:Int)+x.length)) g (by show g≠b2;omega)).trans hR.cnt);simp only [List.setIfInBounds_toArray,List.set_cons_zero] at u1 u2;replace u1:((W.setCell ⟨b2,0,none⟩ (.int .i64 ((q:Int)+x.length))).setCell ⟨g,0,none⟩ (.int .i64 ((pl:Int)+1))).drew.heap[b2]?=_:=u1;replace u2:((W.setCell ⟨b2,0,none⟩ (.int .i64 ((q:Int)+x.length))).setCell ⟨g,0,none⟩ (.int .i64 ((pl:Int)+1))).drew.heap[g]?=_:=u2;clear i1 k1 k2 k3;generalize ((W.setCell ⟨b2,0,none⟩ (.int .i64 ((q:Int)+x.length))).setCell ⟨g,0,none⟩ (.int .i64 ((pl:Int)+1))).drew=V at *;gi_wp2;refine⟨hHV.from (fun z hz=>by simp at hz;omega),⟨hHV.below oM (fun z hz=>by simp at hz;omega),hHV.block _ oM naf,hHV.block _ oM naf⟩,hR.held.trans (hHV.mono (fun z hz=>by simp at hz ⊢;omega)),?_,?_,?_,.inr hst'.2⟩
         ·have hfl:(pre++[x]).flatten.length=pre.flatten.length+x.length:=by rw [List.flatten_append,Am,show [x].flatten=x from by simp]
          rw [u1,hfl,<- Lu,hq];rfl
         ·rw [u2];simp;omega
         ·simp;omega
      case done =>
       rintro D xs W hD ⟨hS1,hS2⟩ hR hdef;have h13:CH.letters k 13 r=(xs,(CH.letters k xs.length r).2):=(nZ k xs.length r hS2 13 (by have:=hR.len;omega)).trans (Prod.ext hS1 rfl);have hfl:=jo k xs.length r;rw [hS1] at hfl;generalize (CH.letters k xs.length r).2=r2 at *;obtain⟨hf0,hsc⟩:=HN.out;obtain⟨f,rfl⟩:∃ h,f=h+1:=⟨f - 1,oM⟩
       rw [xX DJ h13 (fun h=>by rw [hwl];exact hR.six.resolve_left h) hR.len] at hsc;replace hsc:=Aa hsc;have hCW:Cz w W ({ target:=.collected D,args:=#[] }::ds):=hC3.cons hR.held (fun z hz=>by
        simp only [Az,Bo,Ey] at hz;rcases hz with rfl|rfl|rfl;·exact⟨_,_,_,hI3.pos⟩
        ·exact⟨_,_,_,g3⟩
        ·exact⟨_,_,_,t2⟩) oM oM hdef
       obtain⟨q,hq⟩:=naa (p+xs.flatten.length);have hb:∀ j,j<g->j≠b2->W.heap[j]?=w3.heap[j]?:=fun j hj h2=>hR.held.block j oM naf;have hnW:W.heap[b1]?=some (.cells #[↑k,.slice av wl cv] 176 (0,0)):=((hb _ oM oM).trans (hOX.out.2.2.block b1 oM)).trans hOX.out.2.1;have hOW:Av (b2+1) W (.slice av wl cv) ws:=hOX.out.1.most fun j h1 h2=>(hb j oM oM).trans (hOX.out.2.2.block j oM);have hIW:ScI w k b1 b2 q ws W:=⟨hI3.lo,hI3.lt,Af hI3.hi hR.held.size,(hb _ oM oM).trans hI3.z2,(hb _ oM oM).trans hI3.z3,(hb _ oM oM).trans hI3.z4,⟨_,hnW,hOW⟩,by rw [<- hq];exact hR.pos,hI3.below.trans (hR.held.below oM (fun z hz=>by simp at hz;omega))⟩
       have j1:W.cell? ⟨g,0,none⟩=some (.int .i64 (xs.length:Nat)):=Ab hR.cnt 0;have j2:W.cell? ⟨b2,0,none⟩=some ↑q:=Ab hIW.pos 0;have hql:q+r2.length=s.length:=by have h1:=congrArg List.length hfl;rw [Am] at h1;have h3:=congrArg List.length hr;rw [Cc] at h3;omega
       have hr2:s.drop q=r2:=by rw [<- hq,<- List.drop_drop,hr,<- hfl];simp
       have UN:=Aa hR.held;have hlen:=hR.len;have OJ:=hR.six;clear h13 hS1 hS2 hR t1 t2 g3 hOX HN hI3 hC3 hb hdef;generalize hxl:xs.length=n at *;by_cases hn0:n=0
       ·subst hn0;obtain rfl:xs=[]:=Et.1 hxl;replace hsc:=hsc.out;simp only [BH,Ah] at hsc;have hpq:p=q:=hq;cases r2 with
        |nil=>exact absurd hfl.symm DJ
        |cons c s' =>
         have hIY:=hIW;have hCY:=hCW;have hWS:ws.length<=6:=oM;clear hIW hCW j2 hr hfl;generalize W=Y at *;have hyz:=hIY.below.size;have hx2:∀ h,(⟨s.toArray⟩:ByteArray)[q]'h=c:=fun h=>by
          have:s[q]?=some c:=by have:=congrArg (·[0]?) hr2;exact FD86
          show s.toArray[q]=c;simpa using (En.1 this).2
         have JD:q<s.length:=by rw [Ap] at hql;omega
         have hne:((q:Int)==s.length)=false:=naf;have j2:Y.cell? ⟨b2,0,none⟩=some ↑q:=Ab hIY.pos 0;have k2:=Ao hIY.pos 0;by_cases hc32:c=32
         ·have d32:(((c.toNat:Nat):Int) != 32)=false:=by rw [hc32];rfl
          rw [uJ,Ah hc32] at hsc;replace hsc:=Aa hsc;go_wp2_with fail;refine⟨⟨⟨rfl,rfl,rfl,rfl,rfl,rfl,rfl⟩,hIY.coll hCY,q+1,_,f,oM,hWS,Aa ⟨oM,?_⟩,hIY.set (by push_cast;rfl)⟩,?_⟩;·rw [<- hsc.out,<- List.drop_drop,hr2];rfl
          ·have:=(hIY.set (v:=.int .i64 ((q:Int)+1)) (q:=q+1) (by push_cast;rfl)).pos;have h2:(Y.setCell ⟨b2,0,none⟩ (.int .i64 ((q:Int)+1))).cell? ⟨b2,0,none⟩=some (.int .i64 ((q+1:Nat):Int)):=Ab this 0;have h3:vF b2 (Y.setCell ⟨b2,0,none⟩ (.int .i64 ((q:Int)+1)))=q+1:=by unfold vF;rw [h2];rfl
           rw [h3];omega
         ·have d32:(((c.toNat:Nat):Int) != 32)=true:=by simp only [bne_iff_ne];intro h;exact hc32 (UInt8.toNat_inj.1 (by show c.toNat=32;omega))
          rw [uJ,Ai hc32] at hsc;replace hsc:=Aa hsc;have oG:∀ V j v,(V:ZB).cell? ⟨b2,0,none⟩=some ↑q->j<b2->∀ o,(V.setCell ⟨j,o,none⟩ v).cell? ⟨b2,0,none⟩=some ↑q:=fun V j v hV hj o=>(Bl _ ⟨j,o,none⟩ ⟨b2,0,none⟩ _ (fun e=>by dsimp only at e;omega)).trans hV;go_wp2_with fail;have e2:Y.cell? ⟨w,0,none⟩=some (.int .i64 0):=Ab hIY.z2 0;have e2':Y.cell? ⟨w,1,none⟩=some (.slice none 0 0):=Ab hIY.z2 1;have e3:Y.cell? ⟨w+1,0,none⟩=some (.int .i64 0):=Ab hIY.z3 0;have e4:Y.cell? ⟨w+1+1,0,none⟩=some (.int .i64 0):=Ab hIY.z4 0;have f3:∀ j,Y.frozen? ⟨w,j,none⟩=false:=Ao hIY.z2;have f4:Y.frozen? ⟨w+1,0,none⟩=false:=Ao hIY.z3 0;have f5:Y.frozen? ⟨w+1+1,0,none⟩=false:=Ao hIY.z4 0;refine Dt (S:=fun W'=>W'.cell? ⟨b2,0,none⟩=some ↑q) kR j2 fun kz=>?_;refine tj 0 ?_;push_cast;refine tj 1 ?_;push_cast;refine rk 2 rfl fun K hK=>?_;rw [Ah rF];go_simp;refine hK.out _ _ (oG _ _ _ (oG _ _ _ kz oM _) oM _) fun kz=>?_;clear hK K;push_cast;refine rk 3 rfl fun K hK=>?_;rw [Ah rF];go_simp;refine hK.out _ _ (oG _ _ _ kz oM _) fun kz=>?_;clear hK K;push_cast;refine rk 4 rfl fun K hK=>?_;rw [Ah rF];go_simp;refine hK.out _ _ (oG _ _ _ kz oM _) fun kz=>?_;clear hK K;push_cast;refine Dc kR ?_ _;go_wp2;refine Qg (b2+1) rfl rfl rfl hCY oM ⟨_,_,hIY.z2⟩ ⟨_,hIY.z3⟩ ⟨_,hIY.z4⟩ hIY.below ?_ _ (.inr rfl);rw [<- hsc.out];exact⟨(dC:(3:Int)≠0),rfl,rfl⟩
       ·have hxs:xs≠[]:=fun h=>hn0 (by rw [<- hxl,h];rfl);replace hsc:=hsc.out;have TK:wl≠6:=OJ.resolve_left hxs;rw [show BH ws xs=ws++[xs.flatten] from Ai hxs] at hsc;have dn:=nai ((0:Int)<(n:Int));have c11:W.cell? ⟨b1,1,none⟩=some (.slice av wl cv):=Ab hnW 1;have hsub:(⟨s.toArray⟩:ByteArray).extract p q=⟨xs.flatten.toArray⟩:=by rw [Fu,hr,<- hfl,show q - p=xs.flatten.length from by omega,List.take_left' rfl]
        have hpq:p<=q:=oM;have JD:q<=s.length:=oM;have hb2:=hIW.hi;go_wp2_with fail;refine Dt (S:=fun W'=>W'.cell? ⟨b2,0,none⟩=some ↑q) kR j2 fun kz=>?_;refine tj 0 ?_;push_cast;refine tj 2 ?_;push_cast;refine tj 3 ?_;push_cast;refine tj 4 ?_;push_cast;refine tj 5 ?_;push_cast;have RS:∀ o,(W.alloc o).cell? ⟨b1,1,none⟩=some (.slice av wl cv):=fun o=>(Em W ⟨b1,1,none⟩ o (by rw [c11];rfl)).trans c11;have j2a:∀ o,(W.alloc o).cell? ⟨b2,0,none⟩=some ↑q:=fun o=>(Em W ⟨b2,0,none⟩ o (by rw [j2];rfl)).trans j2;refine D7 (rs:=[1,6]) kR sM ?_;refine Aw (o:=_) rfl (fun K hK=>?_) ?_;focus go_simp;refine hK.out _ _ j2 fun kz=>?_;clear hK K;push_cast;refine rk 6 rfl fun K hK=>?_;rw [Ah rF];go_simp;refine hK.out _ _ (j2a _) fun kz=>?_;clear hK K;push_cast
        rotate_left 1;refine Aw (o:=_) rfl (fun K hK=>?_) Dx;focus go_simp;refine hK.out _ _ (j2a _) fun kz=>?_;clear hK K;push_cast;refine rk 1 rfl fun K hK=>?_;rw [Ah rF];go_simp;refine hK.out _ _ (j2a _) fun kz=>?_;clear hK K;push_cast
        all_goals
         refine rk 7 rfl fun K hK=>?_;rw [Ah rF];refine Cg _ _ rfl (b2+1) _ ws (by rw [<- hwl];rfl) (hOW.below ((Ac _ W).alloc nR (.cells #[↑xs.flatten] 9)).drew) W.heap.size _ xs.flatten rfl (Ab (Ag W _) 0) oM naf ?_;intro v5 w5 hO5 hg5;obtain⟨a5,c5,hv5,mJ,nD,_⟩:=hO5.form;obtain⟨m,hm⟩:=naa ((ws++[xs.flatten]).length);rw [hm] at hv5 mJ;subst hv5;have hB5:Below (b2+1) W w5:=(((Ac _ W).alloc oM (.cells #[↑xs.flatten] 9)).drew).grown hg5 naf (fun k e=>(hOW.ownBlock k e).1);have n5:=(hB5.block b1 oM).trans hnW;have j5:w5.cell? ⟨b2,0,none⟩=some ↑q:=(hB5.cell (p:=⟨b2,0,none⟩) (by show b2<b2+1;omega)).trans j2;have c51:w5.cell? ⟨b1,1,none⟩=some (.slice av wl cv):=Ab n5 1;have k51:=Ao n5 1;have hf2:∀ u,(w5.setCell ⟨b1,1,none⟩ u).cell? ⟨b2,0,none⟩=some ↑q:=fun u=>(Bl _ ⟨b1,1,none⟩ ⟨b2,0,none⟩ _ (fun e=>by dsimp only at e;omega)).trans j5;refine hK.out _ _ j5 fun kz=>?_;clear hK K;push_cast;refine tj 8 ?_;push_cast;refine rk 9 rfl fun K hK=>?_;rw [Ah rF];go_simp;refine hK.out _ _ (hf2 _) fun kz=>?_;clear hK K;push_cast;refine Dc kR ?_ _;have hbk:∀ j,j<=b2->j≠b1->(w5.setCell ⟨b1,1,none⟩ (.slice a5 m c5)).heap[j]?=W.heap[j]?:=fun j h1 h2=>(As _ _ _ _ h2).trans (hB5.block j oM);have n6:=Al w5 b1 1 (.slice a5 m c5) _ _ _ n5;simp only [List.setIfInBounds_toArray,List.set_cons_zero,List.set_cons_succ] at n6;have hz5:=hB5.size;have hIY:ScI w k b1 b2 q (ws++[xs.flatten]) (w5.setCell ⟨b1,1,none⟩ (.slice a5 m c5)):=⟨hIW.lo,hIW.lt,by simp [World.setCell];omega,(hbk _ oM oM).trans hIW.z2,(hbk _ oM oM).trans hIW.z3,(hbk _ oM oM).trans hIW.z4,⟨_,n6,hO5.jT oM _ _⟩,(hbk _ oM oM).trans hIW.pos,(hIW.below.trans (hB5.mono oM)).setCell (p:=⟨b1,1,none⟩) (by show w.heap.size<=b1;omega) _⟩
         have hCY:Cz w (w5.setCell ⟨b1,1,none⟩ (.slice a5 m c5)) ({ target:=.collected D,args:=#[] }::ds):=hCW.keep fun D' _ hD'=>by
          have hlD:=(aZ hD')
          refine (As _ _ _ _ ?_).trans ((hg5.block D' naf (fun e=>?_)).trans ((Ij _ _ _ hlD).trans hD'));·show D'≠b1;rintro rfl;rw [hnW] at hD';cases hD'
          ·obtain⟨_,cs,t,fr,hcs⟩:=hOW.ownBlock D' e.symm;rw [hD'] at hcs;cases hcs
         have hWS:(ws++[xs.flatten]).length<=6:=by rw [Am];simp;omega
         clear hbk n6 hB5 hIW hCW n5 j5 c51 k51 hf2 kz hO5 hg5 hOW hnW hb2 RS j2a hsub;generalize w5.setCell ⟨b1,1,none⟩ (.slice a5 m c5)=Y at *;generalize ws++[xs.flatten]=ws2 at *;clear j2 hr hfl;cases r2 with
         |nil =>
          have j2:Y.cell? ⟨b2,0,none⟩=some ↑q:=Ab hIY.pos 0;have hq2:q=s.length:=by simpa using hql
          have hne:((q:Int)==s.length)=true:=naf;go_wp2_with fail;exact⟨⟨rfl,rfl,rfl,rfl,rfl,rfl,rfl⟩,hCY,q,ws2,Aa hsc,hIY⟩
         |cons c s' =>
          have hyz:=hIY.below.size;have hx2:∀ h,(⟨s.toArray⟩:ByteArray)[q]'h=c:=fun h=>by
           have:s[q]?=some c:=by have:=congrArg (·[0]?) hr2;simpa using this
           show s.toArray[q]=c;simpa using (En.1 this).2
          have JD:q<s.length:=by rw [Ap] at hql;omega
          have hne:((q:Int)==s.length)=false:=naf;have j2:Y.cell? ⟨b2,0,none⟩=some ↑q:=Ab hIY.pos 0;have k2:=Ao hIY.pos 0;by_cases hc32:c=32
          ·have d32:(((c.toNat:Nat):Int) != 32)=false:=by rw [hc32];rfl
           rw [uJ,Ah hc32] at hsc;replace hsc:=Aa hsc;go_wp2_with fail;refine⟨⟨⟨rfl,rfl,rfl,rfl,rfl,rfl,rfl⟩,hIY.coll hCY,q+1,_,f,oM,hWS,Aa ⟨oM,?_⟩,hIY.set (by push_cast;rfl)⟩,?_⟩;·rw [<- hsc.out,<- List.drop_drop,hr2];rfl
           ·have:=(hIY.set (v:=.int .i64 ((q:Int)+1)) (q:=q+1) (by push_cast;rfl)).pos;have h2:(Y.setCell ⟨b2,0,none⟩ (.int .i64 ((q:Int)+1))).cell? ⟨b2,0,none⟩=some (.int .i64 ((q+1:Nat):Int)):=Ab this 0;have h3:vF b2 (Y.setCell ⟨b2,0,none⟩ (.int .i64 ((q:Int)+1)))=q+1:=by unfold vF;rw [h2];rfl
            rw [h3];omega
          ·have d32:(((c.toNat:Nat):Int) != 32)=true:=by simp only [bne_iff_ne];intro h;exact hc32 (UInt8.toNat_inj.1 (by show c.toNat=32;omega))
           rw [uJ,Ai hc32] at hsc;replace hsc:=Aa hsc;have oG:∀ V j v,(V:ZB).cell? ⟨b2,0,none⟩=some ↑q->j<b2->∀ o,(V.setCell ⟨j,o,none⟩ v).cell? ⟨b2,0,none⟩=some ↑q:=fun V j v hV hj o=>(Bl _ ⟨j,o,none⟩ ⟨b2,0,none⟩ _ (fun e=>by dsimp only at e;omega)).trans hV;go_wp2_with fail;have e2:Y.cell? ⟨w,0,none⟩=some (.int .i64 0):=Ab hIY.z2 0;have e2':Y.cell? ⟨w,1,none⟩=some (.slice none 0 0):=Ab hIY.z2 1;have e3:Y.cell? ⟨w+1,0,none⟩=some (.int .i64 0):=Ab hIY.z3 0;have e4:Y.cell? ⟨w+1+1,0,none⟩=some (.int .i64 0):=Ab hIY.z4 0;have f3:∀ j,Y.frozen? ⟨w,j,none⟩=false:=Ao hIY.z2;have f4:Y.frozen? ⟨w+1,0,none⟩=false:=Ao hIY.z3 0;have f5:Y.frozen? ⟨w+1+1,0,none⟩=false:=Ao hIY.z4 0;refine Dt (S:=fun W'=>W'.cell? ⟨b2,0,none⟩=some ↑q) kR j2 fun kz=>?_;refine tj 0 ?_;push_cast;refine tj 1 ?_;push_cast;refine rk 2 rfl fun K hK=>?_;rw [Ah rF];go_simp;refine hK.out _ _ (oG _ _ _ (oG _ _ _ kz oM _) oM _) fun kz=>?_;clear hK K;push_cast;refine rk 3 rfl fun K hK=>?_;rw [Ah rF];go_simp;refine hK.out _ _ (oG _ _ _ kz oM _) fun kz=>?_;clear hK K;push_cast;refine rk 4 rfl fun K hK=>?_;rw [Ah rF];go_simp;refine hK.out _ _ (oG _ _ _ kz oM _) fun kz=>?_;clear hK K;push_cast;refine Dc kR ?_ _;go_wp2;refine Qg (b2+1) rfl rfl rfl hCY oM ⟨_,_,hIY.z2⟩ ⟨_,hIY.z3⟩ ⟨_,hIY.z4⟩ hIY.below ?_ _ (.inr rfl);rw [<- hsc.out];exact⟨(dC:(3:Int)≠0),rfl,rfl⟩
      case stop =>
       rintro D c pre W hD _ ⟨rfl,hN0,hX⟩ hdef;subst hN0;refine J6.2 ?_;go_wp2_with fail;rw [Pos];obtain⟨z,hz⟩:=hX.z4;refine H3l rfl rfl rfl (hC3.cons hX.held ?_ oM oM hdef) hX.z2 hX.z3 hz ?_ ⟨(dC:(2:Int)≠0),rfl,rfl⟩
       ·intro q hq;simp only [Az,Bo,Ey] at hq;rcases hq with rfl|rfl|rfl|rfl|rfl|rfl;·exact⟨_,_,_,hI3.pos⟩
        ·exact⟨_,_,_,g3⟩
        ·exact⟨_,_,_,t2⟩
        ·exact⟨_,_,_,hI3.z2⟩
        ·exact⟨_,_,_,hI3.z3⟩
        ·exact⟨_,_,_,hI3.z4⟩
       ·exact hI3.below.trans (hX.held.below oM (fun q hq=>by simp at hq;omega))
     ·have d3:=naj ((p:Int)<(s.length:Int));obtain rfl:p=s.length:=oM;obtain⟨hf,HN⟩:=HN.out;rw [List.drop_length] at HN;obtain⟨f,rfl⟩:∃ g,f=g+1:=⟨f - 1,oM⟩
      rw [yK] at HN;go_wp2_with fail;exact⟨⟨rfl,rfl,rfl,rfl,rfl,rfl,rfl⟩,hC,_,ws,Aa HN,hI⟩
end
section
open Go.Lib Go.Proofs.Tryz Go.RowKit Go.Shelf Go.Sort CH
section
open CH
variable {α:Type}
def eU (T:ZJ) (k:Nat) (cs:α->List ZC) (Q:ZB->α->Prop) (base:Nat) (w:ZB) (v:ZC) (xs:List α):Prop := w.ownsRow base T k v xs.length (xs.flatMap cs)/\∀ x∈xs,Q (Kk (but base v) w) x
variable {T:ZJ} {k:Nat} {cs:α->List ZC} {Q:ZB->α->Prop} {base:Nat} {w:ZB} {v:ZC} {xs:List α}
theorem eU.nil:eU T k cs Q base w (.slice none 0 0) []:=⟨Ji w base _ _,fun x hx=>by cases hx⟩
theorem eU.held (hQ:∀ w w' x,Q w x->Cells w w'->w.heap.size<=w'.heap.size->Q w' x) {R:List Nat} {w':ZB} (h:eU T k cs Q base w v xs) (hh:Held R w w') (hR:∀ r∈R,r<base):eU T k cs Q base w' v xs:=by
 refine⟨?_,fun x hx=>hQ _ _ x (h.2 x hx) (Sh hh fun r hr=>by simp [but,hR r hr]) (by rw [G0,G0];exact hh.size)⟩;obtain⟨hlen,⟨e1,e2⟩|⟨g,cap,cur,e1,hb,hg,hr⟩⟩:=h.1;·exact⟨hlen,.inl ⟨e1,e2⟩⟩
 ·exact FD93
theorem eU.newer (hQ:∀ w w' x,Q w x->Cells w w'->w.heap.size<=w'.heap.size->Q w' x) {n:Nat} {x:α} (h:Q (era n w) x) (hb:base<=n) (hv:∀ r,v.ownBlock=some r->r<n):Q (Kk (but base v) w) x := hQ _ _ x h (Hi fun p u hp hq=>⟨hp,by rw [Dw] at hq;simp only [Ez,Dw,Dl,ne_eq];exact⟨oM,fun e=>by have:=hv _ e;omega⟩⟩) (by rw [G0,G0];exact Au _)
theorem eU.form (h:eU T k cs Q base w v xs):∃ a cap,v=.slice a xs.length cap/\xs.length<=cap/\cap<=9223372036854775807:=by
 rcases Cy h.1 with⟨rfl,h0⟩|⟨g,cap,rfl,_,_,h5,h6,_⟩;·exact⟨none,0,by rw [h0],oM,dC⟩
 ·exact⟨_,cap,rfl,h5,h6⟩
theorem eU.mine (h:eU T k cs Q base w v xs):∀ r,v.ownBlock=some r->base<=r/\r<w.heap.size:=fun r hr=>by
 rcases Cy h.1 with⟨rfl,h0⟩|⟨g,cap,rfl,h1,h2,_⟩;·cases hr
 ·cases hr;exact⟨h1,h2⟩
theorem eU.era (hQ:∀ w w' x,Q w x->Cells w w'->w.heap.size<=w'.heap.size->Q w' x) (h:eU T k cs Q base w v xs) (x:α) (hx:x∈xs):Q (era base w) x := hQ _ _ x (h.2 x hx) (Hi fun p u hp hq=>⟨hp,by simp only [Ez] at hq;exact hq.1⟩) (by rw [G0,G0];exact Au _)
theorem eU.sQ (hQ:∀ w w' x,Q w x->Cells w w'->w.heap.size<=w'.heap.size->Q w' x) {o:Oper} {a:Act} {K:Act->ZB->Prop} {P:Exit->Act->ZB->Prop} (s x:Operand) (t:ZJ) (ho:o.op=.call { callee:=.builtin .append,args:=#[s,x],argTypes:=#[t,t] }) (i:TypeInfo) (z:ZC) (bytes:Nat) (ht:prog.underlying t=some (.slice T)) (hi:prog.info? T=some i) (hz:i.zero=some z) (hsize:i.size=k) (hby:i.bytes=bytes) (hzs:z.cells.size=k) (hsz:0<k) (hk:∀ y,(cs y).length=k) (hs:a.eval s=v) (hown:eU T k cs Q base w v xs) (g c:Nat) (y:α) (hx:a.eval x=.slice (some ⟨g,0,none⟩) 1 c) (hcell:∀ j u,(cs y)[j]?=some u->w.cell? ⟨g,j,none⟩=some u) (h1:∀ u∈cs y,u.oneCell'=true) (hy:Q (Kk (but base v) w) y) (h63:xs.length+1<=maxLen) (hbytes:(xs.length+1)*bytes<=140737488355328) (hbase:base<=w.heap.size) (h:∀ v' w',eU T k cs Q base w' v' (xs++[y])->w.grownBy w' v.ownBlock->K (a.put o.dst v') w'):o.wp prog a w K P:=by
 obtain⟨v',w',hr,q1,q2,_,q3⟩:=run_append_own_at (P:=prog) (w:=w) base t o.type T i z k bytes ht hi hz hsize hby hzs hsz v xs.length _ hown.1 ⟨g,0,none⟩ 1 c (cs y) (by rw [hk,Nat.one_mul]) (fun j u hj=>by rw [show (⟨g,0,none⟩:Addr).add j=⟨g,j,none⟩ from by simp [Addr.add];exact fun e=>e.symm];exact hcell j u hj) h1 h63 hbytes hbase;unfold Oper.wp execOp;simp only [ho,resolve,invoke,builtin,I9,Lh,Io,List.map_toArray,Gg,Ja,hs,hx,hr];refine h v' w' ⟨by simpa using q1,fun u hu=>?_⟩ q2;have hc:Cells (Kk (but base v) w) (Kk (but base v') w'):=Hi fun p u hp hq=>by exact FD57
 have hsz:(Kk (but base v) w).heap.size<=(Kk (but base v') w').heap.size:=by rw [G0,G0];exact q2.size
 rcases Bz.1 hu with hu|hu;·exact hQ _ _ u (hown.2 u hu) hc hsz
 ·rw [Ad] at hu;subst hu;exact hQ _ _ u hy hc hsz
end
def Pl (x:Q05 × ZC):List ZC:=[↑x.1.script,x.2]
def vK (w:ZB) (x:Q05 × ZC):Prop:=Strs w w x.2 x.1.words
theorem Lo (w w':ZB) (x:Q05 × ZC) (h:vK w x) (hc:Cells w w') (hs:w.heap.size<=w'.heap.size):vK w' x:=(Strs.kept h hc).mono hs
abbrev S8:=eU 176 2 Pl vK
theorem S8.at {base:Nat} {w:ZB} {v:ZC} {xs:List (Q05 × ZC)} (h:S8 base w v xs):Ek w (era base w) v (xs.map (·.1)):=by
 have hq:=fun x hx=>h.era Lo x hx;rcases Cy h.1 with⟨rfl,h0⟩|⟨g,cap,rfl,h1,h2,h5,h6,h7⟩;·obtain rfl:xs=[]:=Et.1 h0;exact⟨none,0,rfl,sM,dC,fun e=>absurd rfl e⟩
 ·refine⟨_,cap,by rw [Ce],by rw [Ce];exact h5,h6,fun _=>⟨g,0,rfl,h2,fun j n hj=>?_⟩⟩;rw [Es] at hj;cases hx:xs[j]? with
  |none=>rw [hx] at hj;cases hj
  |some x =>
   rw [hx] at hj;obtain rfl:x.1=n:=by simpa using hj
   have hc:=fun i u hu=>Mz (q:=fun k=>ZH (k<base)) (h7 _ u (Wr (f:=Pl) (s:=2) (fun _=>rfl) xs j x i u hx hu)) (Cj (by show ¬ g<base;omega));have hqx:=hq x (Bg hx);rw [show vK (era base w) x=Strs (era base w).heap.size (era base w) x.2 x.1.words from rfl,G0] at hqx;exact⟨x.2,by simpa using hc 0 _ rfl,by simpa using hc 1 _ rfl,hqx⟩
end
section
open Go.Lib Go.Proofs.Tryz Go.RowKit Go.Shelf Go.Sort CH
theorem Hb (s t:Q00):s=t\/((⟨s.toArray⟩:ByteArray)==⟨t.toArray⟩)=false/\(s==t)=false/\¬ s=t/\¬ t=s:=by
 by_cases h:s=t;·exact .inl h
 ·have e:(s==t)=false:=Dl.2 h;exact .inr ⟨by rw [Fr];exact e,e,h,fun q=>h q.symm⟩
theorem Fd (n m:Int):n=m\/(n==m)=false/\¬ n=m/\¬ m=n:=by
 by_cases h:n=m;·exact .inl h
 ·exact .inr ⟨by simpa using h,h,fun q=>h q.symm⟩
theorem N4 (n m:Nat):n=m\/((n:Int)==(m:Int))=false/\¬ n=m:=by
 by_cases h:n=m;·exact .inl h
 ·exact .inr ⟨by simp;omega,h⟩
theorem Own (s:Q00):s=[]\/s.isEmpty=false/\((⟨s.toArray⟩:ByteArray)==⟨#[]⟩)=false/\¬ s=[]:=by
 cases s with
 |nil=>exact .inl rfl
 |cons c s=>exact .inr ⟨rfl,by rw [show (#[]:Array UInt8)=([]:Q00).toArray from rfl,Fr];rfl,sM⟩
def Sl4 (a:Option Addr) (lo hi cap size:Nat):ZC:=sliced a lo hi cap size
theorem Fw (a:Option Addr) (lo hi cap size:Nat):sliced a lo hi cap size=Sl4 a lo hi cap size:=rfl
def vJ (J:Act->ZB->Prop):Exit->Act->ZB->Prop
 |.normal,a,w=>J a w
 |_,_,_=>False
theorem Qk {J:Act->ZB->Prop} {Q:Exit->Act->ZB->Prop} (h:∀ a w,J a w->Q .normal a w):∀ e a w,vJ J e a w->Q e a w
 |.normal,a,w,hj=>h a w hj
 |.ret,_,_,hj=>hj.elim
 |.exit _,_,_,hj=>hj.elim
 |.panic _,_,_,hj=>hj.elim
 |.goto _,_,_,hj=>hj.elim
 |.outgrown,_,_,hj=>hj.elim
end
end Go.Proofs.Y
