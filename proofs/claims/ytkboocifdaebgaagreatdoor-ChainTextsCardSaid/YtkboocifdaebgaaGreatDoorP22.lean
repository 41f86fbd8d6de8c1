/- ChainTexts, part 23 of 31. -/
import Derived.Test.YtkboocifdaebgaaGreatDoorP16
import Derived.Test.YtkboocifdaebgaaGreatDoorP21
set_option linter.all false
set_option maxHeartbeats 40000000
set_option maxRecDepth 100000
open Go renaming undef -> ZA, World -> ZB, Value -> ZC
namespace Go.Proofs.Y
section
open Go.Lib Go.Proofs.Tryz Go.RowKit Go.Shelf Go.Sort CH
variable {w X:ZB} {b7:Nat} {c:Q07} {xs:List (Q05 × ZC)}
attribute [local go_sem ↓] Fw
attribute [local irreducible] wpQuiet
def uQ:List ByteArray:=[⟨#[]⟩,⟨([97,100,100]:Q00).toArray⟩,⟨([114,101,109,111,118,101]:Q00).toArray⟩,⟨([99,111,114,114,101,99,116]:Q00).toArray⟩,⟨([118,111,105,100]:Q00).toArray⟩]
theorem Mrs (t:Q00):max 0 (Lib.idxOfS uQ ⟨t.toArray⟩)=lZ t:=by
 unfold lZ uQ Lib.idxOfS;simp only [Lib.idxFromS];have e:∀ x:Q00,((⟨x.toArray⟩:ByteArray)=⟨t.toArray⟩)=(t=x):=fun x=>by simp only [ByteArray.mk.injEq,eq_iff_iff];exact⟨fun h=>(congrArg Array.toList h).symm,fun h=>by rw [h]⟩
 have e0:((⟨#[]⟩:ByteArray)=⟨t.toArray⟩)=(t=[]):=e [];simp only [e0,e];by_cases h0:t=[]
 ·subst h0;rfl
 rw [Ai h0];repeat' split
 all_goals first|rfl|omega
theorem I11 (g:Nat) (t:Q00) (w:ZB) (h:w.heap[g]?=some (.cells #[.string ⟨#[]⟩,.string ⟨([97,100,100]:Q00).toArray⟩,.string ⟨([114,101,109,111,118,101]:Q00).toArray⟩,.string ⟨([99,111,114,114,101,99,116]:Q00).toArray⟩,.string ⟨([118,111,105,100]:Q00).toArray⟩] 9 (0,0))) : Calls prog 129 #[.slice (some ⟨g,0,none⟩) 5 5,↑t] w (fun e w'=>e=.returned (.int .i64 (Lib.idxOfS uQ ⟨t.toArray⟩))/\w'=w) :=
 Tryz.slices_Index_string g 0 5 5 uQ ⟨t.toArray⟩ w dC dC fun j hj=>by
  rw [Ba,Ab h j]
  have:j<5:=hj
  rcases j with _|_|_|_|_|j
  all_goals first|rfl|omega
def uq (w:ZB) (c:Q07) (e:Ending) (w':ZB):Prop := Below w w w'/\∃ (vn:ZC) (n:Int),e=.returned (.tuple #[.agg (Bt c vn).toArray,↑n])/\Ek w' (era w w') vn c.entry.names/\gI c/\I64 c.pos
abbrev Vt:List ZC:=[.int .i64 0,.string ⟨#[]⟩,.string ⟨#[]⟩,.slice none 0 0,.int .i64 0]
theorem Tg {fn:Func} {p u:Tmp} {R:Ending->ZB->Prop} {tmps:Array ZC} (ty b:Nat) (cs:List ZC) {d:TypeDesc} (hr:fn.results=#[.cell p ty,.tmp u]) (hp:tmps.getD p ZA=.pointer (some ⟨b,0,none⟩)) (hc:w.heap[b]?=some (.cells cs.toArray ty (0,0))) (hu:prog.underlying ty=some d) (hd:d.isRow=true) (hi:(prog.info? ty).map (·.size)=some cs.length) (h:R (.returned (.tuple #[.agg cs.toArray,tmps.getD u ZA])) w):bodyPost prog fn R .ret { tmps:=tmps,defers:=[] } w := Ar (Fx hr _ _ _ _ hp (Fq w b 0 ty cs d (fun j v hj=>by rw [Ba,Ab hc j];simpa using hj) hu hd hi)) rfl h
theorem Lex (hb:Below w w X) (n:Int):uq w jE (.returned (.tuple #[.agg Vt.toArray,↑n])) X := ⟨hb,.slice none 0 0,n,rfl,⟨none,0,rfl,dC,dC,fun h=>absurd rfl h⟩,⟨dC,⟨dC,dC,fun n hn=>by cases hn⟩⟩,dC,dC⟩
theorem Sy {tmps:Array ZC} {o0 o1 o2 o3 o4:ZC} (g1:X.heap[w.heap.size]?=some (.cells #[o0,o1,o2,o3,o4] 55 (0,0))) (hb:Below w w X) (hp:tmps.getD 2 ZA=.pointer (some ⟨w,0,none⟩)) (n:Int) (hn:tmps.getD 3 ZA=↑n) : bodyPost prog Tryz.f66 (uq w jE) .ret { tmps:=tmps,defers:=[] } (((((X.setCell ⟨w,0,none⟩ (.int .i64 0)).setCell ⟨w,1,none⟩ (.string ⟨#[]⟩)).setCell ⟨w,2,none⟩ (.string ⟨#[]⟩)).setCell ⟨w,3,none⟩ (.slice none 0 0)).setCell ⟨w,4,none⟩ (.int .i64 0)):=by
 have hz:=(aZ g1)
 refine Tg 55 w.heap.size Vt rfl hp (Cf g1) underlying55 rfl kR ?_;rw [hn];exact Lex (hb.trans ((Cd hz _ _ _ _ _).below (Dy hz) (fun r hr=>by rw [Ad] at hr;omega))) n
theorem El.cells {B:Nat} {b off n cap:Nat} {ts:List Q03} (h:El B w (.slice (some ⟨b,off,none⟩) n cap) ts) (j:Nat) (t:Q03) (hj:ts[j]?=some t) (i:Nat) (u:ZC) (hu:(A7 t)[i]?=some u):w.cell? ⟨b,off+j*4+i,none⟩=some u:=by obtain⟨a,cap',he,_,_,h4⟩:=h;have e:=(Value.slice.inj he).1;obtain⟨b',off',e2,_,hc⟩:=h4 (fun h=>by rw [h] at hj;cases hj);rw [e2] at e;cases e;exact hc j t hj i u hu
structure LsI (w1:ZB) (b7:Nat) (c:Q07) (v:ZC) (xs:List (Q05 × ZC)) (X:ZB):Prop where
 cell:X.heap[b7]?=some (.cells (Bt c v).toArray 55 (0,0))
 own:S8 (b7+1) X v xs
 eq:xs.map (·.1)=c.entry.names
 small:gI c
 pos:I64 c.pos
 below:Below w1 w1 X
theorem LsI.held {w1:ZB} {v:ZC} {X':ZB} (h:LsI w1 b7 c v xs X) (hH:Held [] X X'):LsI w1 b7 c v xs X' := ⟨(hH.block b7 (aZ h.cell) sM).trans h.cell,h.own.held Lo hH sM,h.eq,h.small,h.pos,h.below.trans (hH.below h.below.size sM)⟩
theorem LsI.setPos {w1:ZB} {v:ZC} (h:LsI w1 b7 c v xs X) (hle:w1.heap.size<=b7) (n:Int) (hn:I64 n):LsI w1 b7 { c with pos:=n } v xs (X.setCell ⟨b7,4,none⟩ ↑n):=by have h1:=Al X b7 4 ↑n _ _ _ h.cell;have hH:Held [b7] X (X.setCell ⟨b7,4,none⟩ ↑n):=(Held.refl _ _).bT _ _ _ sM;exact⟨h1,h.own.held Lo hH sM,h.eq,⟨h.small.id,h.small.entry⟩,hn,h.below.trans (hH.below h.below.size (by simp;exact hle))⟩
theorem LsI.yJ {w1:ZB} {v v':ZC} {xs':List (Q05 × ZC)} {X':ZB} (h:LsI w1 b7 c v xs X) (hle:w1.heap.size<=b7) (hb:Below (b7+1) X X') (hO:S8 (b7+1) X' v' xs') (hs:∀ n∈xs'.map (·.1),Er n.words) (hl:xs'.length<=100000) : LsI w1 b7 { c with entry:=⟨c.id,xs'.map (·.1)⟩ } v' xs' ((X'.setCell ⟨b7,2,none⟩ ↑c.id).setCell ⟨b7,3,none⟩ v'):=by
 have hlt:=(aZ h.cell)
 have h1:=Al _ b7 3 v' _ _ _ (Al X' b7 2 ↑c.id _ _ _ ((hb.block b7 oM).trans h.cell));have hH:Held [b7] X' ((X'.setCell ⟨b7,2,none⟩ ↑c.id).setCell ⟨b7,3,none⟩ v'):=((Held.refl _ _).bT _ _ _ sM).bT _ _ _ sM;have hbz:=h.below.size;have hz:=hb.size;exact⟨h1,hO.held Lo hH sM,rfl,⟨h.small.id,⟨h.small.id,by rw [Ce];exact hl,hs⟩⟩,h.pos,(h.below.trans (hb.mono oM)).trans (hH.below oM (by simp;exact hle))⟩
theorem Av.era {n:Nat} {v:ZC} {ls:List Q00} (h:Av n w v ls):Strs w (era n w) v ls:=by
 rcases Cy h with⟨rfl,h0⟩|⟨g,cap,rfl,h1,h2,h3,h4,h5⟩;·obtain rfl:ls=[]:=Et.1 h0;exact FD83
 ·exact⟨_,cap,rfl,h3,h4,fun _=>⟨g,0,rfl,h2,fun j l hl=>by rw [Ba];exact Mz (h5 j (ay l) (by rw [Es,hl];rfl)) (Cj (by show ¬ g<n;omega))⟩⟩
theorem Mps:(prog.info? 176).map (fun i=>(i.zero,i.size,i.bytes))=some (some (.agg #[.int .i64 0,.slice none 0 0]),2,32):=kR
structure LsB (s:Q00) (B b7 bN:Nat) (tv sv nv iv:ZC) (a:Act):Prop where
 dfr:a.defers=[]
 size:a.tmps.size=92
 a0:a.tmps.getD 0 ZA=↑s
 a2:a.tmps.getD 2 ZA=.pointer (some ⟨B,0,none⟩)
 a4:a.tmps.getD 4 ZA=tv
 a7:a.tmps.getD 7 ZA=.pointer (some ⟨b7,0,none⟩)
 a10:a.tmps.getD 10 ZA=.pointer (some ⟨bN,0,none⟩)
 a42:a.tmps.getD 42 ZA=sv
 a43:a.tmps.getD 43 ZA=nv
 a44:a.tmps.getD 44 ZA=iv
theorem LsB.lit {s:Q00} {B bN:Nat} {tv sv nv iv:ZC} {a:Act} (h:LsB s B b7 bN tv sv nv iv a):∃ u:Nat->ZC,a={ tmps:=#[↑s,u 1,.pointer (some ⟨B,0,none⟩),u 3,tv,u 5,u 6,.pointer (some ⟨b7,0,none⟩),u 8,u 9,.pointer (some ⟨bN,0,none⟩),u 11,u 12,u 13,u 14,u 15,u 16,u 17,u 18,u 19,u 20,u 21,u 22,u 23,u 24,u 25,u 26,u 27,u 28,u 29,u 30,u 31,u 32,u 33,u 34,u 35,u 36,u 37,u 38,u 39,u 40,u 41,sv,nv,iv,u 45,u 46,u 47,u 48,u 49,u 50,u 51,u 52,u 53,u 54,u 55,u 56,u 57,u 58,u 59,u 60,u 61,u 62,u 63,u 64,u 65,u 66,u 67,u 68,u 69,u 70,u 71,u 72,u 73,u 74,u 75,u 76,u 77,u 78,u 79,u 80,u 81,u 82,u 83,u 84,u 85,u 86,u 87,u 88,u 89,u 90,u 91],defers:=[] }:=by refine⟨fun i=>a.tmps.getD i ZA,?_⟩;have e:=Mh 92 a.tmps h.size;rw [<- h.a0,<- h.a2,<- h.a4,<- h.a7,<- h.a10,<- h.a42,<- h.a43,<- h.a44];exact FD21
noncomputable def BQ:Array Oper:=((Tryz.f66.body).bind (Fl · 15)).getD #[]
theorem Kn3 (s:Q00) (B b7 n0 bN:Nat) (tv sv nv iv:ZC) (a:Act) (w1 W4:ZB) (c:Q07) (v:ZC) (xs:List (Q05 × ZC)) (nm:Q05) (vw:ZC) (hA:LsB s B b7 bN tv sv nv iv a) (hI:LsI w1 b7 c v xs W4) (hle:w1.heap.size<=b7) (hn0:b7<n0) (TQ:n0<=bN) (gN:W4.heap[bN]?=some (.cells #[↑nm.script,vw] 176 (0,0))) (hq:Strs W4 (era n0 W4) vw nm.words) (hv:∀ r,v.ownBlock=some r->r<n0) (hns:Er nm.words) (hl:xs.length<100000) : (Code.region 15 BQ true).wp prog (vJ fun a' X'=>LsB s B b7 bN tv sv nv iv a'/\(a'.tmps.toList.take 67=a.tmps.toList.take 67/\a'.tmps.toList.drop 77=a.tmps.toList.drop 77)/\b7<X'.heap.size/\∃ v',LsI w1 b7 { c with entry:=⟨c.id,(xs++[(nm,vw)]).map (·.1)⟩ } v' (xs++[(nm,vw)]) X') a W4:=by
 have hbN:b7<bN:=oM;obtain⟨u,rfl⟩:=hA.lit;clear hA;simp only [BQ,Tryz.f66,Option.bind_some,Ee,Fl,Nat.reduceEqDiff,reduceIte];obtain⟨aw,cw,rfl,hcw,hcw2⟩:=hq.form;obtain⟨wl,hwl⟩:=naa nm.words.length;rw [hwl] at hq gN hcw ⊢;obtain⟨av,cv2,rfl,_⟩:=hI.own.form;obtain⟨xl,hxl⟩:=naa xs.length;have TT:=(aZ gN)
 have m0:W4.cell? ⟨bN,0,none⟩=some ↑nm.script:=Ab gN 0;have m1:W4.cell? ⟨bN,1,none⟩=some (.slice aw wl cw):=Ab gN 1;have g7:=hI.cell;obtain⟨_,x1,_,x3,_⟩:=Bk g7;rw [hxl] at x3;have hSa:∀ W':ZB,(∀ (p:Addr) (u:ZC),p.block<bN+1->W4.cell? p=some u->p≠⟨b7,2,none⟩->p≠⟨b7,3,none⟩->W'.cell? p=some u)->W'.cell? ⟨b7,1,none⟩=some ↑c.id/\W'.cell? ⟨bN,0,none⟩=some ↑nm.script/\W'.cell? ⟨bN,1,none⟩=some (.slice aw wl cw):=fun W' h =>⟨h _ _ (by show b7<bN+1;omega) x1 (by intro e;cases e) (by intro e;cases e),h _ _ (by show bN<bN+1;omega) m0 (by intro e;cases e) (by intro e;cases e),h _ _ (by show bN<bN+1;omega) m1 (by intro e;cases e) (by intro e;cases e)⟩
 obtain⟨iN,hi,hz0,hz1,hz2⟩:=Jb Mps;obtain⟨W5,hW5⟩:∃ W,(W4.alloc (.cells #[↑nm.script,.slice aw wl cw] 176)).drew=W:=⟨_,rfl⟩
 have uX:Below W4 W4 W5:=hW5 ▸ ((Ac _ W4).alloc nR _).drew;have hs5:W5.heap.size=W4.heap.size+1:=by rw [<- hW5];simp [World.drew]
 have g5:W5.heap[W4.heap.size]?=some (.cells #[↑nm.script,.slice aw wl cw] 176 (0,0)):=hW5 ▸ Ag W4 _;have hO5:S8 (b7+1) W5 (.slice av xs.length cv2) xs:=hI.own.held (R:=[]) Lo (Held.of_below uX) (fun r hr=>by cases hr);have hg5:∀ j u,(Pl (nm,.slice aw wl cw))[j]?=some u->W5.cell? ⟨W4,j,none⟩=some u:=fun j u hu=>by rw [Ab g5];simpa [Pl] using hu
 have h15:∀ u∈Pl (nm,.slice aw wl cw),u.oneCell'=true:=by simp [Pl,Value.oneCell']
 have hy5:vK (Kk (but (b7+1) (.slice av xs.length cv2)) W5) (nm,.slice aw wl cw):=by refine eU.newer (base:=b7+1) (n:=n0) Lo ?_ oM hv;show Strs (era n0 W5).heap.size (era n0 W5) _ nm.words;rw [G0];exact (Strs.kept hq (Sh (R:=[]) (Held.of_below uX) (fun r hr=>by cases hr))).mono uX.size
 have hB5:b7+1<=W5.heap.size:=oM;have hSA:=hSa W5 (fun p u _ hp _ _=>(uX.cell (Bd _ p hp)).trans hp);have x35:W5.cell? ⟨b7,3,none⟩=some (.slice av xl cv2):=(uX.cell (Bd _ _ x3)).trans x3;have h63:xs.length+1<=maxLen:=by have:maxLen=9223372036854775807:=rfl;omega
 have h64:(xs.length+1)*32<=140737488355328:=oM;have hSG:∀ v' w',W5.grownBy w' (Value.slice av xs.length cv2).ownBlock->S8 (b7+1) w' v' (xs++[(nm,.slice aw wl cw)])->w'.cell? ⟨b7,1,none⟩=some ↑c.id/\w'.cell? ⟨bN,0,none⟩=some ↑nm.script/\w'.cell? ⟨bN,1,none⟩=some (.slice aw wl cw):=fun v' w' hG _=>by
  have h7:∀ i u,W4.cell? ⟨b7,i,none⟩=some u->w'.cell? ⟨b7,i,none⟩=some u:=fun i u hu=>hG.cells ((uX.cell (p:=⟨b7,i,none⟩) (by show b7<_;omega)).trans hu) fun e=>by have:=(hO5.mine b7 e).1;omega
  have hN:∀ i u,W4.cell? ⟨bN,i,none⟩=some u->w'.cell? ⟨bN,i,none⟩=some u:=fun i u hu=>hG.cells ((uX.cell (p:=⟨bN,i,none⟩) (by show bN<_;omega)).trans hu) fun e=>by have:=hv bN e;omega
  exact⟨h7 _ _ x1,hN _ _ m0,hN _ _ m1⟩
 have hBG:∀ w',W5.grownBy w' (Value.slice av xs.length cv2).ownBlock->Below (b7+1) W4 w':=fun w' hG=>(uX.mono oM).grown hG oM fun r hr=>(hO5.mine r hr).1;have hel:(xs++[(nm,Value.slice aw wl cw)]).length=xl+1:=by simp [hxl]
 have hall:∀ n∈(xs++[(nm,Value.slice aw wl cw)]).map (·.1),Er n.words:=fun n hn=>by
  rw [Gi,hI.eq] at hn;rcases Bz.1 hn with hn|hn;·exact hI.small.entry.names n hn
  ·obtain rfl:n=nm:=by simpa using hn
   exact hns
 have hlen:(xs++[(nm,Value.slice aw wl cw)]).length<=100000:=oM;have hN7:b7≠bN:=oM;rw [hxl] at hO5 hy5 hSG hBG;refine Dt (S:=fun W'=>W'.cell? ⟨b7,1,none⟩=some ↑c.id/\W'.cell? ⟨bN,0,none⟩=some ↑nm.script/\W'.cell? ⟨bN,1,none⟩=some (.slice aw wl cw)) kR ⟨x1,m0,m1⟩ fun qZ=>?_;refine tj 0 ?_;push_cast;refine tj 1 ?_;push_cast;refine tj 2 ?_;push_cast;refine tj 3 ?_;push_cast;refine tj 5 ?_;push_cast;refine D7 (rs:=[4,6]) kR sM ?_;refine Aw (o:=_) rfl (fun K hK=>?_) ?_;focus go_simp;refine hK.out _ _ ⟨x1,m0,m1⟩ fun kz=>?_;clear hK K;push_cast;refine rk 6 rfl fun K hK=>?_;rw [Ah rF];go_simp;refine hK.out _ _ hSA fun kz=>?_;clear hK K;push_cast
 rotate_left 1;refine Aw (o:=_) rfl (fun K hK=>?_) Dx;focus go_simp;refine hK.out _ _ hSA fun kz=>?_;clear hK K;push_cast;refine rk 4 rfl fun K hK=>?_;rw [Ah rF];go_simp;refine hK.out _ _ hSA fun kz=>?_;clear hK K;push_cast
 all_goals refine rk 7 rfl fun K hK=>?_;rw [Ah rF];refine eU.sQ (v:=.slice av xl cv2) Lo _ _ 51 rfl iN _ 32 underlying51 hi hz0 hz1 hz2 rfl dC (fun _=>rfl) rfl hO5 W4 1 (nm,.slice aw wl cw) rfl hg5 h15 hy5 h63 h64 hB5 fun v' w' hO' hG=>?_;have hS':=hSG v' w' hG hO';have hb5:=hBG w' hG;clear hi hz0 hz1 hz2;obtain⟨av',cv',rfl,_⟩:=hO'.form;rw [hel] at hO';refine hK.out _ _ hS' fun kz=>?_;clear hK K;push_cast;refine tj 8 ?_;push_cast;refine tj 9 ?_;push_cast;refine rk 10 rfl fun K hK=>?_;rw [Ah rF];have e7:=(hb5.block b7 oM).trans hI.cell;obtain⟨_,z1,z2,z3,_⟩:=Bk e7;have zf:=Ao e7;go_simp;have hfin:=hI.yJ hle hb5 hO' hall hlen;refine hK.out _ _ ⟨Ab hfin.cell 1,((Bl _ _ _ _ hN7).trans (Bl _ _ _ _ hN7)).trans hS'.2.1,((Bl _ _ _ _ hN7).trans (Bl _ _ _ _ hN7)).trans hS'.2.2⟩ fun kz=>?_;clear hK K;push_cast;refine Dc kR ?_ _;exact⟨⟨rfl,rfl,rfl,rfl,rfl,rfl,rfl,rfl,rfl,rfl⟩,⟨rfl,rfl⟩,(aZ hfin.cell),_,hfin⟩
attribute [local go_sem ↓] Fw
structure LsA (s:Q00) (B b7:Nat) (tv:ZC) (a:Act):Prop where
 dfr:a.defers=[]
 size:a.tmps.size=92
 a0:a.tmps.getD 0 ZA=↑s
 a2:a.tmps.getD 2 ZA=.pointer (some ⟨B,0,none⟩)
 a4:a.tmps.getD 4 ZA=tv
 a7:a.tmps.getD 7 ZA=.pointer (some ⟨b7,0,none⟩)
theorem LsA.lit {s:Q00} {B:Nat} {tv:ZC} {a:Act} (h:LsA s B b7 tv a):∃ u:Nat->ZC,a={ tmps:=#[↑s,u 1,.pointer (some ⟨B,0,none⟩),u 3,tv,u 5,u 6,.pointer (some ⟨b7,0,none⟩),u 8,u 9,u 10,u 11,u 12,u 13,u 14,u 15,u 16,u 17,u 18,u 19,u 20,u 21,u 22,u 23,u 24,u 25,u 26,u 27,u 28,u 29,u 30,u 31,u 32,u 33,u 34,u 35,u 36,u 37,u 38,u 39,u 40,u 41,u 42,u 43,u 44,u 45,u 46,u 47,u 48,u 49,u 50,u 51,u 52,u 53,u 54,u 55,u 56,u 57,u 58,u 59,u 60,u 61,u 62,u 63,u 64,u 65,u 66,u 67,u 68,u 69,u 70,u 71,u 72,u 73,u 74,u 75,u 76,u 77,u 78,u 79,u 80,u 81,u 82,u 83,u 84,u 85,u 86,u 87,u 88,u 89,u 90,u 91],defers:=[] }:=by refine⟨fun i=>a.tmps.getD i ZA,?_⟩;have e:=Mh 92 a.tmps h.size;rw [<- h.a0,<- h.a2,<- h.a4,<- h.a7];exact FD21
noncomputable def Wx (n:Nat):Code:=Ga n (Tryz.f66.body.getD .skip)
theorem Kn2 (s:Q00) (w w1:ZB) (b7:Nat) (tv:ZC) (c:Q07) (v:ZC) (xs:List (Q05 × ZC)) (a:Act) (X:ZB) (hA:LsA s w b7 tv a) (hI:LsI w1 b7 c v xs X) (hG:Gc X) (hle:w1.heap.size<=b7) (hB:Below w w w1) (g1:w1.heap[w.heap.size]?=some (.cells Vt.toArray 55 (0,0))) : (Wx 5).wp prog (bodyPost prog Tryz.f66 (uq w (if bH c=some s then c else jE))) a X:=by
 obtain⟨R,hR⟩:=naa (if bH c=some s then c else jE);rw [hR];obtain⟨u,rfl⟩:=hA.lit;clear hA;obtain⟨av,cv,rfl,_⟩:=hI.own.form;have hwl:=(aZ g1)
 have h2:X.heap[w.heap.size]?=some (.cells Vt.toArray 55 (0,0)):=(hI.below.block _ hwl).trans g1;have h7:=hI.cell;have hat:=hI.own.at;rw [hI.eq] at hat;have T:=Aa (U1 (.slice av xs.length cv) c X hG (hat.kept (fun p v hp=>Kj _ _ _ _ hp)) hI.small hI.pos.1 hI.pos.2);have hBX:Below w w X:=hB.trans (hI.below.mono hB.size);obtain⟨q0,q1,q2,q3,q4⟩:=Bk h7;obtain⟨y0,y1,y2,y3,y4⟩:=Bk h2;have yf:=Ao h2;generalize hQ:bodyPost prog Tryz.f66 (uq w R)=Q;unfold Wx;simp only [Tryz.f66,Ee,Ga];subst hQ;obtain⟨T0,hT0⟩:=naa (bH c);rw [hT0] at T hR;dsimp only [Bt] at T;cases T0 with
 |none =>
  obtain rfl:R=jE:=by rw [<- hR];rfl
  go_wp2_with fail;refine CmZ T.out fun w2 hb2=>?_;have h2':=(hb2.block _ (aZ h2)).trans h2;obtain⟨y0,y1,y2,y3,y4⟩:=Bk h2';have yf:=Ao h2';have hB2:=hBX.trans (hb2.mono hBX.size);clear T;dsimp only [bI];go_wp2_with fail;exact Sy h2' hB2 rfl 5 rfl
 |some t =>
  go_wp2_with fail;refine CmZ T.out fun w2 hb2=>?_;have h2':=(hb2.block _ (aZ h2)).trans h2;have h7':=(hb2.block _ (aZ h7)).trans h7;obtain⟨y0,y1,y2,y3,y4⟩:=Bk h2';obtain⟨q0,q1,q2,q3,q4⟩:=Bk h7';have yf:=Ao h2';have hB2:=hBX.trans (hb2.mono hBX.size);clear T;have hsz2:=hB2.size;have hsz3:=(aZ h2')
  have zU:=hb2.size;dsimp only [bI];by_cases hts:t=s;·subst hts;rw [Ah rfl] at hR;subst hR;go_wp2_with fail;have hH:Held [w.heap.size] w2 (((((w2.setCell ⟨w,0,none⟩ ↑c.kind).setCell ⟨w,1,none⟩ ↑c.id).setCell ⟨w,2,none⟩ ↑c.entry.id).setCell ⟨w,3,none⟩ (.slice av xs.length cv)).setCell ⟨w,4,none⟩ ↑c.pos):=Cd (aZ h2') _ _ _ _ _;refine Tg 55 w.heap.size (Bt c (.slice av xs.length cv)) rfl rfl (Cf h2') underlying55 rfl kR ?_;refine⟨hB2.trans (hH.below oM (fun r hr=>by rw [Ad] at hr;omega)),.slice av xs.length cv,0,rfl,?_,hI.small,hI.pos⟩;refine (((hat.kept (Bw (Held.of_below (R:=[]) hb2) (fun r hr=>by cases hr))).kept (Bw hH (fun r hr=>by rw [Ad] at hr;omega))).kept (Eg oM)).mono (Aj zU hH.size)
  ·have hne2:((⟨t.toArray⟩:ByteArray) != ⟨s.toArray⟩)=true:=by rw [Pad];simp [hts]
   have OU:(t==s)=false:=Dl.2 hts;rw [Ai (fun e=>hts (Gh e))] at hR;subst hR;go_wp2_with fail;exact Sy h2' hB2 rfl 5 rfl
attribute [local go_sem ↓] Fw
theorem I02 (s:Q00) (w w1:ZB) (b off cv n:Nat) (b7:Nat) (L:List Q03) (c0:Q07) (R:Q07) (a:Act) (X:ZB) (hA:LsA s w b7 (.slice (some ⟨b,off,none⟩) n cv) a) (hI0:LsI w1 b7 c0 (.slice none 0 0) [] X) (hG:Gc w) (hle:w1.heap.size<=b7) (hB1:Below w w w1) (g1:w1.heap[w.heap.size]?=some (.cells Vt.toArray 55 (0,0))) (hbl:b<w1.heap.size) (hc1:n<=cv) (hc2:cv<=9223372036854775807) (hn5:L.length=n - 2/\2<=n) (hT2:El w1 w1 (.slice (some ⟨b,off+8,none⟩) L.length (cv - 2)) L) (hmem:∀ t∈L,t.text.length<=20000/\t.n<=230000000000000) (hll:L.length<=20000) (hR:(match CH.goC L c0 with|some c=>if bH c=some s then c else jE|none=>jE)=R) : (Wx 4).wp prog (bodyPost prog Tryz.f66 (uq w R)) a X:=by
 obtain⟨u,rfl⟩:=hA.lit;clear hA;generalize hQ:bodyPost prog Tryz.f66 (uq w R)=Q;unfold Wx;simp only [Tryz.f66,Ee,Ga];subst hQ;refine wp_seq_k fun K4 hK4=>?_;replace hK4:Hid (∀ (a:Act) (X:ZB),(Wx 5).wp prog (bodyPost prog Tryz.f66 (uq w R)) a X->K4 a X):=Aa fun a X h=>hK4 a X h;obtain⟨G,hG0⟩:=naa (CH.goC L c0);rw [hG0] at hR;replace hG0:=Aa hG0;replace hR:=Aa hR;obtain⟨hn6,p2⟩:=hn5;have p2':(2:Int)<=(n:Int):=oM;have p3:(2:Int)<=(cv:Int):=oM;obtain⟨a2,hSl,ha2⟩:∃ a2,Sl4 (some ⟨b,off,none⟩) 2 n cv 4=.slice a2 (n - 2) (cv - 2)/\(0<L.length->a2=some ⟨b,off+8,none⟩):=by unfold Sl4 sliced;exact⟨_,rfl,fun h=>by rw [Ai oM];rfl⟩
 obtain⟨m,hm⟩:=naa (n - 2);obtain⟨cm,hcm⟩:=naa (cv - 2);rw [hm,hcm] at hSl;have hmc:m<=cm:=oM;go_wp2_with fail;go_loopw [44] (fun iv wr=>∃ (i:Nat) (c:Q07) (v:ZC) (xs:List (Q05 × ZC)),i<=m/\iv=↑i/\Hid (CH.goC (L.drop i) c=G/\xs.length<=i)/\b7<wr.heap.size/\LsI w1 b7 c v xs wr) (fun iv _=>m - (RowKit.intOf iv).toNat);case atStart=>exact⟨0,_,_,[],Ak _,rfl,Aa ⟨hG0.out,sM⟩,(aZ hI0.cell),hI0⟩
 case round =>
  obtain⟨i,c,v,xs,hi,rfl,hGi,PD,hI⟩:=hrel;by_cases hlt:i<m
  ·obtain rfl:=ha2 oM;have hLi:L[i]?=some L[i]:=Ae oM;have hdr:L.drop i=L[i]::L.drop (i+1):=Ei oM;rw [hdr] at hGi;obtain⟨htx,htn⟩:=hmem L[i] (Jc oM);generalize L[i]=t at *;have hq:∀ j u,(A7 t)[j]?=some u->wr.cell? ⟨b,off+8+i*4+j,none⟩=some u:=fun j u hu=>(hI.below.cell (p:=⟨b,off+8+i*4+j,none⟩) hbl).trans (hT2.cells i t hLi j u hu);have q0:wr.cell? ⟨b,off+8+i*4,none⟩=some ↑t.kind:=hq 0 _ rfl;have q1:wr.cell? ⟨b,off+8+i*4+1,none⟩=some ↑t.pos:=hq 1 _ rfl;have q2:wr.cell? ⟨b,off+8+i*4+2,none⟩=some ↑t.n:=hq 2 _ rfl;have q3:wr.cell? ⟨b,off+8+i*4+3,none⟩=some ↑t.text:=hq 3 _ rfl;have d1:decide ((i:Int)<(m:Int))=true:=naf;have g7:=hI.cell;obtain⟨x0,x1,x2,x3,x4⟩:=Bk g7;have xf:=Ao g7;have hz7:b7≠wr.heap.size:=oM;have ba:=(Ac wr wr).alloc nR (.cells (A7 t).toArray 190);by_cases hk2:t.kind=2
   ·have dk:=nak t.kind 2;go_wp2_with fail;refine⟨⟨i+1,_,_,xs,oM,by push_cast;rfl,Aa ⟨?_,by have:=hGi.out.2;omega⟩,by simp [World.setCell];omega,(hI.setPos hle t.n ⟨oM,oM⟩).held ((Held.refl [] _).alloc _)⟩,?_⟩;·rw [<- hGi.out.1,CH.goC,Ah hk2]
    ·show m - ((i:Int)+1).toNat<m - (i:Int).toNat;omega
   ·have dk:=nal t.kind 2;by_cases hk3:t.kind=3
    ·have dk3:=nak t.kind 3;have hI2:=fun o=>hI.held ((Held.refl [] wr).alloc o);have PN:=fun o=>Yh t.text (wr.alloc o) (hG.below (hB1.trans ((hI2 o).below.mono hB1.size))) oM;go_wp2_with fail;refine (PN _).mono ?_;rintro e w3 ⟨hb3,cs,en,an,rfl,hm3⟩;have hI3:=(hI2 _).held (Held.of_below hb3);clear PN hI2 q0 q1 q2 q3 hq x0 x1 x2 x3 x4 xf g7 ba;cases hrn:kV t.text with
     |none =>
      rw [hrn] at hm3;have hGn:G=none:=by rw [<- hGi.out.1,CH.goC,Ai hk2,Ah hk3,hrn]
      subst hGn;obtain rfl:R=jE:=hR.out.symm;obtain⟨hen,rfl⟩:=hm3;have dn:((en:Int) != 0)=true:=by simpa using hen
      have y2:∀ o,(w3.alloc o).heap[w.heap.size]?=_:=fun o=>((hI3.below.alloc hI3.below.size o).block w.heap.size (aZ g1)).trans g1;have y2c:=fun o=>Bk (y2 o);have yf:=fun o=>Ao (y2 o);go_wp2_with fail;exact Sy (y2 _) (hB1.trans ((hI3.below.alloc hI3.below.size _).mono hB1.size)) rfl 5 rfl
     |some nm =>
      rw [hrn] at hm3;obtain⟨rfl,vw,rfl,hOw⟩:=hm3;have hqn:=hOw.era;have OT:=uM hrn;obtain⟨aw,cw,rfl,_⟩:=hOw.form;have hz3:=(aZ hI3.cell)
      have hI4:=hI3.held ((Held.refl [] w3).alloc (.cells #[↑nm.script,.slice aw nm.words.length cw] 176));have gN:=Ag w3 (.cells #[↑nm.script,.slice aw nm.words.length cw] 176);have hs3:=hb3.size;have hcW:Cells (era (wr+1) w3) (era (wr+1) (w3.alloc (.cells #[↑nm.script,.slice aw nm.words.length cw] 176))):=Bw ((Held.refl [] w3).alloc _) (fun r hr=>by cases hr);have yQ:∀ r,v.ownBlock=some r->r<wr.heap.size+1:=fun r hr=>Nat.lt_succ_of_lt (hI.own.mine r hr).2;simp at hs3 hqn;go_wp2_with fail;refine wp_mono (Kn3 s w b7 (wr+1) w3.heap.size _ _ _ _ _ w1 _ c v xs nm (.slice aw nm.words.length cw) ⟨rfl,rfl,rfl,rfl,rfl,rfl,rfl,rfl,rfl,rfl⟩ hI4 hle oM hs3 gN ((hqn.kept hcW).mono sM) yQ ⟨oM,fun l hl=>by have:=OT.2 l hl;omega⟩ (by have:=hGi.out.2;omega)) (Qk fun a' X' h=>?_);obtain⟨hA',⟨hT1,hT3⟩,h7',v',hI'⟩:=h;obtain⟨u',rfl⟩:=hA'.lit;simp only [Hw,Ic,Gx,Gv,List.cons.injEq,true_and,and_true] at hT1 hT3;simp only [hT1,hT3];go_wp2_with fail;refine⟨⟨i+1,_,v',xs++[(nm,.slice aw nm.words.length cw)],oM,by push_cast;rfl,Aa ⟨?_,by have:=hGi.out.2;simp;omega⟩,h7',hI'⟩,?_⟩;·rw [<- hGi.out.1,CH.goC,Ai hk2,Ah hk3,hrn,<- hI.eq];simp
      ·show m - ((i:Int)+1).toNat<m - (i:Int).toNat;omega
    ·have dk3:=nal t.kind 3;go_wp2_with fail;refine⟨⟨i+1,_,_,xs,oM,by push_cast;rfl,Aa ⟨?_,by have:=hGi.out.2;omega⟩,by simp;omega,hI.held ((Held.refl [] _).alloc _)⟩,?_⟩;·rw [<- hGi.out.1,CH.goC,Ai hk2,Ai hk3]
     ·show m - ((i:Int)+1).toNat<m - (i:Int).toNat;omega
  ·have d1:decide ((i:Int)<(m:Int))=false:=naf;obtain rfl:i=m:=oM;go_wp2_with fail;refine hK4.out _ _ ?_;have hGc:G=some c:=by rw [<- hGi.out.1,Jq oM];rfl
   rw [<- hR.out,hGc];exact Kn2 s w w1 b7 _ c v xs _ wr ⟨rfl,rfl,rfl,rfl,rfl,rfl⟩ hI (hG.below (hB1.trans (hI.below.mono hB1.size))) hle hB1 g1
attribute [local go_sem ↓] Fw
theorem Wv {w1:ZB} {k:Int} {t:Q00} (hc:X.heap[b7]?=some (.cells #[↑k,↑t,.string ⟨#[]⟩,.slice none 0 0,.int .i64 0] 55 (0,0))) (hb:Below w1 w1 X) (ht:t.length<=20000) : LsI w1 b7 ⟨k,t,⟨[],[]⟩,0⟩ (.slice none 0 0) [] X := ⟨hc,eU.nil,rfl,⟨ht,⟨Ak _,Ak _,fun n hn=>by cases hn⟩⟩,⟨sM,sM⟩,hb⟩
theorem B10 (s:Q00) (w:ZB) (hG:Gc w) (hs:s.length<=20000):Calls prog 66 #[↑s] w (uq w (nT s)):=by
 have hb0:=fun o=>(Ac _ w).alloc nR o;have LX:=fun o=>Aa (Tr s (w.alloc o) hs);obtain⟨R,hR⟩:=naa (nT s);rw [hR];unfold nT at hR;obtain⟨lx,hlx⟩:=naa (CH.lex s);rw [hlx] at LX hR;cases lx with
 |error x =>have hx:=Qo s x hlx;obtain rfl:R=jE:=hR.symm;have z1:((x.1:Int) != 0)=true:=naf;go_in;go_wp2_with fail;refine (LX _).out.mono ?_;rintro e w1 ⟨hb1,rfl⟩;have g1:=(hb1.block w sM).trans (Ag w _);obtain⟨y0,y1,y2,y3,y4⟩:=Bk g1;have yf:=Ao g1;go_wp2_with fail;exact Sy g1 ((hb0 _).trans (hb1.mono sM)) rfl 5 rfl
 |ok ts =>
  have hts:=(Xa hlx hs) ts rfl;have htl:=xu hlx;have hnum:=xq hlx;by_cases h2:ts.length<2
  ·have d2:decide ((ts.length:Int)<2)=true:=naf;obtain rfl:R=jE:=by
    rw [<- hR];match ts,h2 with
    |[],_=>rfl
    |[a],_=>rfl
   go_in;go_wp2_with fail;refine (LX _).out.mono ?_;rintro e w1 ⟨hb1,v,rfl,hO⟩;obtain⟨av,cv,rfl,hc1,hc2⟩:=hO.form;have g1:=(hb1.block w sM).trans (Ag w _);obtain⟨y0,y1,y2,y3,y4⟩:=Bk g1;have yf:=Ao g1;go_wp2_with fail;exact Sy g1 ((hb0 _).trans (hb1.mono sM)) rfl 5 rfl
  ·obtain⟨t0,t1,L,rfl⟩:∃ t0 t1 L,ts=t0::t1::L:=by
    match ts,h2 with
    |[],h=>exact absurd sM h
    |[a],h=>exact absurd sM h
    |a::b::L,_=>exact⟨a,b,L,rfl⟩
   have d2:decide (((t0::t1::L).length:Int)<2)=false:=naf;dsimp only at hR;obtain⟨n,hn⟩:=naa ((t0::t1::L).length);rw [hn] at d2;go_in;refine wp_seq_k fun K0 hK0=>?_;replace hK0:=Aa hK0;go_wp2_with fail;refine hK0.out _ _ ?_;refine wp_seq_k fun K1 hK1=>?_;replace hK1:=Aa hK1;go_wp2_with fail;refine (LX _).out.mono ?_;rintro e w1 ⟨hb1,v,rfl,hO⟩;have hT:=hO.at;obtain⟨av,cv,rfl,hc1,hc2⟩:=hT.form;rw [hn] at hc1 hT;obtain⟨b,off,rfl,hbl,hn2,_,_,hc0,hT1⟩:=hT.tail;obtain⟨b',off',he,_,hn3,_,_,hc1',hT2⟩:=hT1.tail;cases he;have g1:=(hb1.block w sM).trans (Ag w _);have k0:w1.cell? ⟨b,off+3,none⟩=some ↑t0.text:=hc0 3 _ rfl;have k1:w1.cell? ⟨b,off+4+3,none⟩=some ↑t1.text:=hc1' 3 _ rfl;have hB1:=(hb0 (.cells Vt.toArray 55)).trans (hb1.mono sM);clear hO hT hT1 LX h2;rw [hn];have hn4:L.length=n - 2/\2<=n:=oM;have hn5:=Aa hn4;have p0:0<n:=oM;have p1':1<n:=oM;have p1:(1:Int)<(n:Int):=oM;have hll:L.length<=20000:=oM;have hT3:El w1 w1 (.slice (some ⟨b,off+8,none⟩) L.length (cv - 2)) L:=by rw [show L.length=n - 1 - 1 from by omega,show cv - 2=cv - 1 - 1 from by omega];exact hT2
   clear hn hn2 hn3 hn4;have hS:∀ W':ZB,Below w1 w1 W'->Below w1 w1 W'/\W'.cell? ⟨b,off+3,none⟩=some ↑t0.text/\W'.cell? ⟨b,off+4+3,none⟩=some ↑t1.text:=fun W' h=>⟨h,(h.cell (p:=⟨b,off+3,none⟩) hbl).trans k0,(h.cell (p:=⟨b,off+4+3,none⟩) hbl).trans k1⟩
   have hid:=Mrs t0.text;have CI:=Aa fun (g:Nat) (W:ZB) (h:_)=>I11 g t0.text W h;generalize Lib.idxOfS uQ ⟨t0.text.toArray⟩=ix at *;have hbd:=(Ac w1 w1).drew;go_wp2_with fail;refine hK1.out _ _ ?_;refine wp_seq_k fun K2 hK2=>?_;replace hK2:=Aa hK2;go_wp2_with fail;refine hK2.out _ _ ?_;refine wp_seq_k fun K3 hK3=>?_;replace hK3:Hid (∀ (a:Act) (X:ZB),(Wx 4).wp prog (bodyPost prog Tryz.f66 (uq w R)) a X->K3 a X):=Aa fun a X h=>hK3 a X h;refine wp_mono (Q:=vJ fun a X=>∃ b7,w1.heap.size<=b7/\LsA s w b7 (.slice (some ⟨b,off,none⟩) n cv) a/\LsI w1 b7 ⟨lZ t0.text,t1.text,⟨[],[]⟩,0⟩ (.slice none 0 0) [] X) ?_ (Qk fun a X h=>?_);rotate_left 1;·obtain⟨b7,hle,hA,hI0⟩:=h;exact hK3.out _ _ (I02 s w w1 b off cv n b7 L _ R a X hA hI0 hG hle hB1 g1 hbl hc1 hc2 hn5.out hT3 (fun t ht=>⟨hts t (Bv _ (Bv _ ht)),hnum t (Bv _ (Bv _ ht))⟩) hll hR)
   refine Dt (S:=fun W'=>Below w1 w1 W'/\W'.cell? ⟨b,off+3,none⟩=some ↑t0.text/\W'.cell? ⟨b,off+4+3,none⟩=some ↑t1.text) kR (hS _ hbd) fun hHd=>?_;refine tj 1 ?_;push_cast;refine tj 2 ?_;push_cast;refine tj 3 ?_;push_cast;refine tj 4 ?_;push_cast;refine tj 7 ?_;push_cast;refine tj 8 ?_;push_cast;refine tj 9 ?_;push_cast;refine tj 10 ?_;push_cast;refine D7 (rs:=[0,12]) kR sM ?_;refine Aw (o:=_) rfl (fun K hK=>?_) ?_;focus
    go_simp;refine (Qp _).mono ?_;rintro e w2 ⟨rfl,rfl⟩;refine hK.out _ _ (hS _ (((Ac _ w1).alloc nR _).drew)) fun kz=>?_;clear hK K;push_cast;refine D7 (rs:=[5,12]) kR sM ?_;refine Aw (o:=_) rfl (fun K hK=>?_) ?_;focus go_simp;refine (CI.out w1 _ (by exact Ag w1 _)).mono ?_;rintro e w2 ⟨rfl,rfl⟩;refine hK.out _ _ (hS _ (((Ac _ w1).alloc nR _).drew)) fun kz=>?_;clear hK K;push_cast;refine tj 6 ?_;push_cast;refine tj 11 ?_;push_cast;refine rk 12 rfl fun K hK=>?_;rw [Ah rF];go_simp;refine hK.out _ _ (hS _ ((((Ac _ w1).alloc nR _).alloc sM _).drew)) fun kz=>?_;clear hK K;push_cast
    rotate_left 1;refine Aw (o:=_) rfl (fun K hK=>?_) Dx;focus go_simp;refine hK.out _ _ (hS _ ((((Ac _ w1).alloc nR _).alloc sM _).drew)) fun kz=>?_;clear hK K;push_cast;refine rk 5 rfl fun K hK=>?_;rw [Ah rF];go_simp;refine (CI.out w1 _ (by exact T9 w1 _ _)).mono ?_;rintro e w2 ⟨rfl,rfl⟩;refine hK.out _ _ (hS _ ((((Ac _ w1).alloc nR _).alloc sM _).drew)) fun kz=>?_;clear hK K;push_cast;refine tj 6 ?_;push_cast;refine tj 11 ?_;push_cast
   rotate_left 2;refine Aw (o:=_) rfl (fun K hK=>?_) Dx;focus go_simp;refine hK.out _ _ (hS _ (((Ac _ w1).alloc nR _).drew)) fun kz=>?_;clear hK K;push_cast;refine rk 0 rfl fun K hK=>?_;rw [Ah rF];go_simp;refine (Qp _).mono ?_;rintro e w2 ⟨rfl,rfl⟩;refine hK.out _ _ (hS _ ((((Ac _ w1).alloc nR _).alloc sM _).drew)) fun kz=>?_;clear hK K;push_cast;refine rk 5 rfl fun K hK=>?_;rw [Ah rF];go_simp;refine (CI.out (w1+1) _ (by exact Rb w1 _ _)).mono ?_;rintro e w2 ⟨rfl,rfl⟩;refine hK.out _ _ (hS _ ((((Ac _ w1).alloc nR _).alloc sM _).drew)) fun kz=>?_;clear hK K;push_cast;refine tj 6 ?_;push_cast;refine tj 11 ?_;push_cast
   all_goals refine rk 13 rfl fun K hK=>?_;rw [Ah rF];go_simp;refine hK.out _ _ (hS _ ((((Ac _ w1).alloc nR _).alloc sM _).drew)) fun kz=>?_;clear hK K;push_cast;refine Dc kR ?_ _;generalize hKO:(Obj.cells #[Value.string ⟨#[]⟩,Value.string ⟨([97,100,100]:Q00).toArray⟩,Value.string ⟨([114,101,109,111,118,101]:Q00).toArray⟩,Value.string ⟨([99,111,114,114,101,99,116]:Q00).toArray⟩,Value.string ⟨([118,111,105,100]:Q00).toArray⟩] 9)=KO;generalize hC7:(Obj.cells #[Value.int .i64 (lZ t0.text),Value.string ⟨t1.text.toArray⟩,Value.string ⟨#[]⟩,Value.slice none 0 0,Value.int .i64 0] 55)=C7;clear hKO
   ·exact⟨w1,Au _,⟨rfl,rfl,rfl,rfl,rfl,rfl⟩,Wv (hC7 ▸ T9 w1 _ _) ((((Ac _ w1).alloc nR _).alloc sM _).drew) (hts t1 sM)⟩
   ·exact FD82
   ·exact FD82
end
end Go.Proofs.Y
