/- ChainTexts, part 29 of 31. -/
import Derived.Test.YtkboocifdaebgaaGreatDoorP20
import Derived.Test.YtkboocifdaebgaaGreatDoorP25
import Derived.Test.YtkboocifdaebgaaGreatDoorP27
set_option linter.all false
set_option maxHeartbeats 40000000
set_option maxRecDepth 100000
open Go renaming World -> ZB
namespace Go.Proofs.Y
section
open Go.Lib Go.Proofs.Tryz Go.RowKit Go.Shelf Go.Sort CH
attribute [local irreducible] wpQuiet
noncomputable def Vz (n:Nat):Code:=Ga n (Tryz.f3.body.getD .skip)
structure TxA (t:Q00) (B:Nat) (a:Act):Prop where
 dfr:a.defers=[]
 size:a.tmps.size=100
 a2:a.tmps.getD 2 undef=↑t
 a3:a.tmps.getD 3 undef=.pointer (some ⟨B,0,none⟩)
 a4:a.tmps.getD 4 undef=.pointer (some ⟨B+1,0,none⟩)
 a7:a.tmps.getD 7 undef=.bool true
theorem TxA.lit {t:Q00} {B:Nat} {a:Act} (h:TxA t B a):∃ u:Nat->Value,a={ tmps:=#[u 0,u 1,↑t,.pointer (some ⟨B,0,none⟩),.pointer (some ⟨B+1,0,none⟩),u 5,u 6,.bool true,u 8,u 9,u 10,u 11,u 12,u 13,u 14,u 15,u 16,u 17,u 18,u 19,u 20,u 21,u 22,u 23,u 24,u 25,u 26,u 27,u 28,u 29,u 30,u 31,u 32,u 33,u 34,u 35,u 36,u 37,u 38,u 39,u 40,u 41,u 42,u 43,u 44,u 45,u 46,u 47,u 48,u 49,u 50,u 51,u 52,u 53,u 54,u 55,u 56,u 57,u 58,u 59,u 60,u 61,u 62,u 63,u 64,u 65,u 66,u 67,u 68,u 69,u 70,u 71,u 72,u 73,u 74,u 75,u 76,u 77,u 78,u 79,u 80,u 81,u 82,u 83,u 84,u 85,u 86,u 87,u 88,u 89,u 90,u 91,u 92,u 93,u 94,u 95,u 96,u 97,u 98,u 99],defers:=[] }:=by refine⟨fun i=>a.tmps.getD i undef,?_⟩;have e:=Mh 100 a.tmps h.size;rw [<- h.a2,<- h.a3,<- h.a4,<- h.a7];exact FD21
theorem Y2 (B:Nat) (w:ZB):fQ B w ⟨0,0,0,[],[],⟨0,[],[]⟩⟩ ⟨.slice none 0 0,.slice none 0 0,.slice none 0 0⟩:=⟨⟨none,0,rfl,Au _,oM,fun h=>absurd rfl h⟩,⟨none,0,rfl,Au _,oM,fun h=>absurd rfl h⟩,⟨none,0,rfl,Au _,oM,fun h=>absurd rfl h⟩⟩
theorem I62 (t:Q00) (w:ZB) (B:Nat) (a:Act) (X:ZB) (hG:Gp X) (hA:TxA t B a) (hB:Below w w X) (ht:t.length<=3000) : (Vz 6).wp prog (bodyPost prog Tryz.f3 (Ret w (.bool true))) a X:=by
 obtain⟨u,rfl⟩:=hA.lit;clear hA;have P:=Aa (W8 t X hG oM);generalize hQ:bodyPost prog Tryz.f3 (Ret w (.bool true))=Q;unfold Vz;simp only [Tryz.f3,Ee,Ga];subst hQ;obtain⟨O,hO⟩:=naa (kJ t);rw [hO] at P;have hi8:(prog.info? 27).map (·.size)=some 8:=kR;clear ht;go_wp2_with fail;refine P.out.mono ?_;rintro e w1 ⟨hb1,hR⟩;have hB1:=hB.trans (hb1.mono hB.size);clear P;cases O with
 |none =>
  dsimp only at hR;subst hR;have SV:Hid (∀ (W:ZB),Calls prog 8 #[.agg De.toArray,.agg #[.int .i64 0,.int .i64 0,.int .i64 0,.string ⟨#[]⟩,.slice none 0 0,.int .i64 0,.slice none 0 0,.slice none 0 0]] W (Ret W (.bool true))):=Aa fun W=>Wh ⟨0,0,0,[],[],⟨0,[],[]⟩⟩ ⟨0,0,0,[],[],⟨0,[],[]⟩⟩ ⟨.slice none 0 0,.slice none 0 0,.slice none 0 0⟩ ⟨.slice none 0 0,.slice none 0 0,.slice none 0 0⟩ true W sM (Y2 _ W) (Y2 _ W);have h1Z:∀ v∈De,v.oneCell'=true:=by intro v hv;simp only [Az,Bo,Ey] at hv;rcases hv with rfl|rfl|rfl|rfl|rfl|rfl|rfl|rfl <;> rfl
  obtain⟨Z,hZ⟩:=naa De;have hlZ:Z.length=8:=by rw [<- hZ];rfl
  have hiZ:(prog.info? 27).map (·.size)=some Z.length:=by rw [hlZ];exact hi8
  rw [hZ] at SV h1Z ⊢;clear hZ;have h1Z:=Aa h1Z;replace hlZ:=Aa hlZ;have hrZ:=Aa (C8 w1 Z 27);have hB4:=Aa (hB1.alloc hB1.size (.cells Z.toArray 27));go_wp2_with (first|refine Br rfl 27 _ _ rfl Z rfl rfl (by rw [hlZ.out];rfl) hiZ h1Z.out ?_|refine Bb rfl 27 _ rfl w1 0 rfl Z _ hrZ.out underlying27 rfl hiZ ?_)
  refine CmZ (SV.out _) fun w4 hb4=>?_;have hB5:=Aa (hB4.out.trans (hb4.mono hB4.out.size));go_wp2;go_ret;exact⟨rfl,hB5.out⟩
 |some v =>
  dsimp only at hR;obtain⟨s1,rfl,hV⟩:=hR;have hV1:aK w1 w1 v s1:=hV.kept (fun p v hp=>Kj _ _ _ _ hp);have TX:=Aa fun (W:ZB) (hb:Below w1 w1 W)=>J2 v s1 W ((hG.gc.below hb1).below hb) ((hV1.below hb nR).mono hb.size);rw [uO hO] at TX;dsimp only [P1] at TX;have h1C:=Mf hV1;obtain⟨C,hC⟩:=naa (At v s1);have hlC:C.length=8:=by rw [<- hC];rfl
  have hiC:(prog.info? 27).map (·.size)=some C.length:=by rw [hlC];exact hi8
  rw [hC] at TX h1C ⊢;have h1C:=Aa h1C;replace hlC:=Aa hlC;clear hC hV hV1 hG;have eb:((⟨t.toArray⟩:ByteArray)==⟨t.toArray⟩)=true:=by rw [Fr];simp
  have hrC:=Aa (C8 w1 C 27);have hB4:=Aa (hB1.alloc hB1.size (.cells C.toArray 27));have hb4:=Aa ((Ac _ w1).alloc nR (.cells C.toArray 27));go_wp2_with (first|refine Br rfl 27 _ _ rfl C rfl rfl (by rw [hlC.out];rfl) hiC h1C.out ?_|refine Bb rfl 27 _ rfl w1 0 rfl C _ hrC.out underlying27 rfl hiC ?_)
  refine CmZ (TX.out _ hb4.out) fun w4 hb5=>?_;have hB5:=Aa (hB4.out.trans (hb5.mono hB4.out.size));go_wp2;go_ret;exact⟨rfl,hB5.out⟩
theorem Gb9 (v:Q01):∃ (s:Q00) (e:Int),P1 (bM v)=.tuple #[↑s,↑e]/\(e=0/\bM v=.ok s\/(e==0)=false):=by
 cases h:bM v with
 |ok t=>exact⟨t,0,rfl,.inl ⟨rfl,rfl⟩⟩
 |error e =>refine⟨[],e,rfl,.inr ?_⟩;rcases Sk h with rfl|rfl <;> rfl
theorem Fm8 {v:Q01} {s:Q00} (h:bM v=.ok s):s.length<=20000:=by
 have h1:=lY h;unfold kJ at h1;split at h1;·cases h1
 ·omega
theorem I40 {W:ZB} {b:Nat} {C:List Value} {T:TypeId} (h:W.heap[b]?=some (.cells C.toArray T (0,0))):W.rangeAt b 0 C:=fun j u hj=>by rw [Ba,Ab h j];simpa using hj
theorem I61 (x y:Q01) (s s':dA) (t:Q00) (w:ZB) (a:Act) (X:ZB) (hG:Gp X) (hA:TxA t w a) (hB:Below w w X) (hx:aK w w x s) (hy:aK w w y s') (ga:X.heap[w.heap.size]?=some (.cells (At x s).toArray 27 (0,0))) (gb:X.heap[w.heap.size+1]?=some (.cells (At y s').toArray 27 (0,0))) (ht:t.length<=3000) : (Vz 3).wp prog (bodyPost prog Tryz.f3 (Ret w (.bool true))) a X:=by
 obtain⟨u,rfl⟩:=hA.lit;clear hA;have hx1:=(hx.below hB nR).mono hB.size;have hy1:=(hy.below hB nR).mono hB.size;have HE:=Aa fun (a:Act) (W:ZB) (hA:TxA t w a) (hG:Gp W) (hB:Below w w W)=>I62 t w w a W hG hA hB ht;have GP:=Aa fun (W:ZB) (hb:Below X X W)=>hG.below hb;have HX:=Aa fun (W:ZB) (hb:Below X X W)=>(hx1.below hb nR).mono hb.size;have HY:=Aa fun (W:ZB) (hb:Below X X W)=>(hy1.below hb nR).mono hb.size;have TX:=Aa fun (W:ZB) (hb:Below X X W)=>J2 x s W (GP.out W hb).gc (HX.out W hb);have TY:=Aa fun (W:ZB) (hb:Below X X W)=>J2 y s' W (GP.out W hb).gc (HY.out W hb);obtain⟨s1,e1,er1,h1⟩:=Gb9 x;obtain⟨s2,e2,er2,h2⟩:=Gb9 y;rw [er1] at TX;rw [er2] at TY;obtain⟨R,hR⟩:=Hs (x=y);have SXY:=Aa fun (W:ZB) (hb:Below X X W)=>Wh x y s s' R W hR (HX.out W hb).raw (HY.out W hb).raw;have SXX:=Aa fun (W:ZB) (sv:dA) (hb:Below X X W) (hv:aK W W x sv)=>Wh x x sv s true W sM hv.raw (HX.out W hb).raw;have hi8:(prog.info? 27).map (·.size)=some 8:=kR;obtain⟨C,hC⟩:=naa (At x s);obtain⟨D,hD⟩:=naa (At y s');have hlC:C.length=8:=by rw [<- hC];rfl
 have hlD:D.length=8:=by rw [<- hD];rfl
 have hiC:(prog.info? 27).map (·.size)=some C.length:=by rw [hlC];exact hi8
 have hiD:(prog.info? 27).map (·.size)=some D.length:=by rw [hlD];exact hi8
 rw [hC] at TX SXY SXX ga;rw [hD] at TY SXY gb;have hza:w.heap.size<X.heap.size:=(aZ ga)
 have hzb:w.heap.size+1<X.heap.size:=(aZ gb)
 have RC:=Aa fun (W:ZB) (hb:Below X X W)=>I40 ((hb.block _ hza).trans ga);have RD:=Aa fun (W:ZB) (hb:Below X X W)=>I40 ((hb.block _ hzb).trans gb);clear hC hD hlC hlD ga gb hza hzb hx hy hx1 hy1 er1 er2 HX HY;generalize hQ:bodyPost prog Tryz.f3 (Ret w (.bool true))=Q at HE ⊢;unfold Vz;simp only [Tryz.f3,Ee,Ga];clear hQ;have r0:=Aa (RC.out X (Ac _ _));refine wp_seq_k fun K0 hK0=>?_;replace hK0:=Aa hK0;go_wp2_with (refine Dn rfl 27 _ rfl w 0 rfl C _ r0.out underlying27 rfl hiC ?_)
 refine CmZ (TX.out X (Ac _ _)) fun w1 hb1=>?_;go_wp2_with fail;refine hK0.out _ _ ?_;clear hK0 K0 r0 TX;have r1:=Aa (RD.out w1 hb1);refine wp_seq_k fun K1 hK1=>?_;replace hK1:=Aa hK1;go_wp2_with (refine Dn rfl 27 _ rfl (w+1) 0 rfl D _ r1.out underlying27 rfl hiD ?_)
 refine CmZ (TY.out w1 hb1) fun w2 hb2=>?_;go_wp2_with fail;refine hK1.out _ _ ?_;have hX2:=hb1.trans (hb2.mono hb1.size);clear hK1 K1 r1 TY hb1 hb2;refine wp_seq_k fun K2 hK2=>?_;replace hK2:Hid (∀ (a:Act) (W:ZB),(Vz 6).wp prog Q a W->K2 a W):=Aa fun a W h=>hK2 a W h;rcases h1 with⟨rfl,h1⟩|h1
 ·have hs1:=Fm8 h1;have PX:=Aa (W8 s1 w2 (GP.out w2 hX2) hs1);rw [lY h1] at PX;have hq:e2=0->(s1=s2↔R=true):=by
   intro h0;rcases h2 with⟨_,h2⟩|h2
   ·rw [hR];constructor;·intro h;subst h;have p1:=lY h1;rw [lY h2] at p1;exact (Gh p1).symm
    ·intro h;subst h;rw [h1] at h2;cases h2;rfl
   ·rw [h0] at h2;cases h2
  go_wp2_with fail;refine PX.out.mono ?_;rintro e w3 ⟨hb3,sv,rfl,hV⟩;have hV3:aK w3 w3 x sv:=hV.kept (fun p v hp=>Kj _ _ _ _ hp);have h1F:=Mf hV3;have hX3:=hX2.trans (hb3.mono hX2.size);have AQ:=(Ac _ w3).alloc nR (.cells (At x sv).toArray 27);have hX4:=Aa (hX3.trans (AQ.mono hX3.size));have SX:=Aa (SXX.out _ sv hX4.out ((hV3.below AQ nR).mono AQ.size));obtain⟨F,hF⟩:=naa (At x sv);have hlF:F.length=8:=by rw [<- hF];rfl
  have hiF:(prog.info? 27).map (·.size)=some F.length:=by rw [hlF];exact hi8
  rw [hF] at SX h1F hX4 ⊢;have h1F:=Aa h1F;replace hlF:=Aa hlF;have rF:=Aa (C8 w3 F 27);have rC:=Aa (RC.out _ hX4.out);clear hF hV hV3 AQ hR hs1 h1 PX SXX;go_wp2_with (first|refine Br rfl 27 _ _ rfl F rfl rfl (by rw [hlF.out];rfl) hiF h1F.out ?_|refine Bb rfl 27 _ rfl w3 0 rfl F _ rF.out underlying27 rfl hiF ?_|refine Bb rfl 27 _ rfl w 0 rfl C _ rC.out underlying27 rfl hiC ?_)
  refine CmZ SX.out fun w4 hb4=>?_;have hX5:=hX4.out.trans (hb4.mono hX4.out.size);have rC:=Aa (RC.out _ hX5);have rD:=Aa (RD.out _ hX5);rcases h2 with⟨rfl,h2⟩|h2
  ·replace hq:=hq rfl;have SX:=Aa (SXY.out _ hX5);have g1:(s1==s2)=R:=by
    cases R with
    |true=>simpa using hq
    |false=>simpa using hq
   have g2:((⟨s1.toArray⟩:ByteArray)==⟨s2.toArray⟩)=R:=by rw [Fr,g1]
   cases R;focus simp only [Nk,iff_false] at hq
   rotate_left;focus (obtain rfl:=hq.2 rfl;clear hq)
   all_goals
    go_wp2_with (first|refine Bb rfl 27 _ rfl w 0 rfl C _ rC.out underlying27 rfl hiC ?_|refine Bb rfl 27 _ rfl (w+1) 0 rfl D _ rD.out underlying27 rfl hiD ?_)
    refine CmZ SX.out fun w5 hb5=>?_;have hX6:=Aa (hX5.trans (hb5.mono hX5.size));go_wp2_with fail;refine hK2.out _ _ (HE.out _ _ ?_ (GP.out _ hX6.out) (hB.trans (hX6.out.mono hB.size)));exact⟨rfl,rfl,rfl,rfl,rfl,rfl⟩
  ·clear hq;go_wp2_with fail;refine hK2.out _ _ (HE.out _ _ ?_ (GP.out _ hX5) (hB.trans (hX5.mono hB.size)));exact⟨rfl,rfl,rfl,rfl,rfl,rfl⟩
 ·go_wp2_with fail;refine hK2.out _ _ (HE.out _ _ ?_ (GP.out _ hX2) (hB.trans (hX2.mono hB.size)));exact⟨rfl,rfl,rfl,rfl,rfl,rfl⟩
theorem Mwa {l:List Q01} {n:Nat} (h:CH.few l n=true):∀ a∈l,kP a=true:=by unfold CH.few at h;rw [Aq] at h;exact Dj.1 h.1
theorem Ops {B:Nat} {W:ZB} {b:Nat} {x y:Q01} {s s':dA} {T:TypeId} {fr:Nat × Nat} (h:W.heap[b]?=some (.cells (At x s++At y s').toArray T fr)) (hb:b<B) (hx:fQ B W x s) (hy:fQ B W y s') : Pa B W (.slice (some ⟨b,0,none⟩) 2 2) [x,y]:=by
 refine⟨_,2,rfl,Au _,dC,fun _=>⟨b,0,rfl,hb,fun j z hj=>?_⟩⟩;match j,hj with
 |0,hj =>cases hj;refine⟨s,fun i u hi=>?_,hx⟩;rw [Ab h,Hy,Nat.zero_mul,Ba];exact (Gn ((lS hi))).trans hi
 |1,hj =>cases hj;refine⟨s',fun i u hi=>?_,hy⟩;rw [Ab h,Hy,show 0+1*8+i=8+i from by omega];exact (Eb (Nat.le_add_right 8 i)).trans ((congrArg _ (Hg ..)).trans hi)
 |j+2,hj=>cases hj
theorem Joe (x y:Q01) (s s':dA) (t:Q00) (w:ZB) (hG:Gp w) (hx:fQ w w x s) (hy:fQ w w y s') (nx:oV x) (ny:oV y) : Calls prog 3 #[.agg (At x s).toArray,.agg (At y s').toArray,↑t] w (Ret w (.bool true)):=by
 have FW:Hid (∀ (W:ZB) (v:Value),Pa W W v [x,y]->Calls prog 5 #[v,.int .i64 2] W (Ret W (.bool (CH.few [x,y] 2)))):=Aa fun W v hv=>Mwe 2 v [x,y] W hv;have HC:=Aa fun (a:Act) (X:ZB) (hG:Gp X) (hA:TxA t w a) (hB:Below w w X) (ga:X.heap[w.heap.size]?=some (.cells (At x s).toArray 27 (0,0))) (gb:X.heap[w.heap.size+1]?=some (.cells (At y s').toArray 27 (0,0))) (hf:CH.few [x,y] 2=true) (ht:t.length<=3000) =>I61 x y s s' t w a X hG hA hB (Ch6 hx nx (Mwa hf x sM)) (Ch6 hy ny (Mwa hf y sM)) ga gb ht;obtain⟨aa,ca,ha,_,_,_⟩:=hx.acts;obtain⟨ag,cg,hg1,_,_⟩:=hx.sig.form;obtain⟨ap,cp,hp1,_,_⟩:=hx.path.form;obtain⟨ba,da,hb1,_,_,_⟩:=hy.acts;obtain⟨bg,dg,hb2,_,_⟩:=hy.sig.form;obtain⟨bp,dp,hb3,_,_⟩:=hy.path.form;obtain⟨sa,s1,s2⟩:=s;obtain⟨sa',s1',s2'⟩:=s';dsimp only at ha hg1 hp1 hb1 hb2 hb3;subst ha hg1 hp1 hb1 hb2 hb3;obtain⟨n1,hn1⟩:=naa x.acts.length;obtain⟨n2,hn2⟩:=naa x.sel.sig.length;obtain⟨n3,hn3⟩:=naa x.sel.path.length;obtain⟨m1,hm1⟩:=naa y.acts.length;obtain⟨m2,hm2⟩:=naa y.sel.sig.length;obtain⟨m3,hm3⟩:=naa y.sel.path.length;rw [hn1,hn2,hn3] at hx HC ⊢;rw [hm1,hm2,hm3] at hy HC ⊢;dsimp only [At,aI,ay] at HC ⊢;go_in;refine wp_seq_k fun K0 hK0=>?_;replace hK0:=Aa hK0;go_wp2_with fail;refine hK0.out _ _ ?_;clear hK0 K0;refine wp_seq_k fun K1 hK1=>?_;replace hK1:=Aa hK1;go_wp2_with fail;obtain⟨W2,hW2⟩:∃ W,(w.alloc (.cells #[↑x.authority,↑x.number,↑x.pos,↑x.prev,.slice aa n1 ca,↑x.sel.index,.slice ag n2 cg,.slice ap n3 cp] 27)).alloc (.cells #[↑y.authority,↑y.number,↑y.pos,↑y.prev,.slice ba m1 da,↑y.sel.index,.slice bg m2 dg,.slice bp m3 dp] 27)=W:=⟨_,rfl⟩
 have hB2:Below w w W2:=hW2 ▸ ((Ac _ w).alloc nR _).alloc sM _;have ga:=hW2 ▸ T9 w (.cells #[↑x.authority,↑x.number,↑x.pos,↑x.prev,.slice aa n1 ca,↑x.sel.index,.slice ag n2 cg,.slice ap n3 cp] 27) (.cells #[↑y.authority,↑y.number,↑y.pos,↑y.prev,.slice ba m1 da,↑y.sel.index,.slice bg m2 dg,.slice bp m3 dp] 27);try rw [hW2]
 refine CmZ (Ggx _ (hG.gc.below hB2)) fun w1 hb1'=>?_;go_wp2_with fail;refine hK1.out _ _ ?_;have gb:=hW2 ▸ Rb w (.cells #[↑x.authority,↑x.number,↑x.pos,↑x.prev,.slice aa n1 ca,↑x.sel.index,.slice ag n2 cg,.slice ap n3 cp] 27) (.cells #[↑y.authority,↑y.number,↑y.pos,↑y.prev,.slice ba m1 da,↑y.sel.index,.slice bg m2 dg,.slice bp m3 dp] 27);have ga1:=(hb1'.block _ (aZ ga)).trans ga;have gb1:=(hb1'.block _ (aZ gb)).trans gb;have q:=fun j=>Ab ga1 j;have q0:=q 0;have q1:=q 1;have q2:=q 2;have q3:=q 3;have q4:=q 4;have q5:=q 5;have q6:=q 6;have q7:=q 7;clear q;have r:=fun j=>Ab gb1 j;have r0:=r 0;have r1:=r 1;have r2:=r 2;have r3:=r 3;have r4:=r 4;have r5:=r 5;have r6:=r 6;have r7:=r 7;clear r;simp at q0 q1 q2 q3 q4 q5 q6 q7 r0 r1 r2 r3 r4 r5 r6 r7;clear hK1 K1;refine wp_seq_k fun K2 hK2=>?_;replace hK2:Hid (∀ (a:Act) (X:ZB),(Vz 3).wp prog (bodyPost prog Tryz.f3 (Ret w (.bool true))) a X->K2 a X):=Aa fun a X h=>hK2 a X h;go_wp2_with fail;have hB3:=hB2.trans (hb1'.mono hB2.size);have hB4:Below w w (w1.alloc (.cells (At x ⟨.slice aa n1 ca,.slice ag n2 cg,.slice ap n3 cp⟩++At y ⟨.slice ba m1 da,.slice bg m2 dg,.slice bp m3 dp⟩).toArray 27)):=hB3.alloc hB3.size _;have hR:=Ops (Ag w1 (.cells (At x ⟨.slice aa n1 ca,.slice ag n2 cg,.slice ap n3 cp⟩++At y ⟨.slice ba m1 da,.slice bg m2 dg,.slice bp m3 dp⟩).toArray 27)) sM ((hx.below hB4 nR).mono hB4.size) ((hy.below hB4 nR).mono hB4.size);have FW:=FW.out _ _ hR;clear hR;have hX4:Below w1 w1 (w1.alloc (.cells (At x ⟨.slice aa n1 ca,.slice ag n2 cg,.slice ap n3 cp⟩++At y ⟨.slice ba m1 da,.slice bg m2 dg,.slice bp m3 dp⟩).toArray 27)):=(Ac _ w1).alloc nR _;dsimp only [At,aI,ay,List.cons_append,List.nil_append] at hB4 hX4 FW;generalize w1.alloc _=W4 at *;obtain⟨b,hb⟩:=naa (CH.few [x,y] 2);rw [hb] at FW;refine CmZ FW fun w2 hb2=>?_;have hB5:=hB4.trans (hb2.mono hB4.size);have hX5:=hX4.trans (hb2.mono hX4.size);have ga5:=(hX5.block _ (aZ ga1)).trans ga1;have gb5:=(hX5.block _ (aZ gb1)).trans gb1;have hG5:=hG.below hB5;have KW:=Aa hB5;cases b with
 |false =>clear nx ny hx hy HC hB5;go_wp2;go_ret;exact⟨rfl,KW.out⟩
 |true =>
  by_cases ht:t.length<=3000;·have d:decide ((3000:Int)<(t.length:Int))=false:=Cj oM;have HC:=Aa fun (a:Act) (hA:TxA t w a)=>HC.out a w2 hG5 hA hB5 ga5 gb5 hb ht;clear nx ny hx hy ga5 gb5 hG5 hB5 ht;go_wp2_with fail;refine hK2.out _ _ (HC.out _ ?_);exact⟨rfl,rfl,rfl,rfl,rfl,rfl⟩
  ·have d:decide ((3000:Int)<(t.length:Int))=true:=Di oM;clear nx ny hx hy HC hB5 ht;go_wp2;go_ret;exact⟨rfl,KW.out⟩
end
end Go.Proofs.Y
