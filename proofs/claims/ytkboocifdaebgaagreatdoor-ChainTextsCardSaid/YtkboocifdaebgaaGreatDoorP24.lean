/- ChainTexts, part 25 of 31. -/
import Derived.Test.YtkboocifdaebgaaGreatDoorP23
set_option linter.all false
set_option maxHeartbeats 40000000
set_option maxRecDepth 100000
open Go renaming World -> ZB, Value -> ZC
namespace Go.Proofs.Y
section
open Go.Lib Go.Proofs.Tryz Go.RowKit Go.Shelf Go.Sort CH
variable {w:ZB} {base:Nat}
attribute [local go_sem ↓] Fw
attribute [local irreducible] wpQuiet
abbrev qM (q:Nat):ZC:=.func (.func 64) #[] #[.pointer (some ⟨q,0,none⟩)]
theorem Tj (k:Int) (w:ZB):Calls prog 63 #[↑k] w (fun e w'=>e=.returned (qM w)/\w'=w.alloc (.cells #[↑k] 3)):=by have hmf:∀ (fn:Fn) (first cap:Array ZC) (w:ZB),(Instr.makeFunc fn first cap).run prog w=.ok (.func fn first cap) w:=fun _ _ _ _=>rfl;go_in;go_wp2_with fail;go_ret;exact⟨rfl,rfl⟩
theorem qL {r:Nat} {W:ZB} {kvs:List (Q00 × ZC)} (hb:Below w w W) (hr:w.heap.size<=r) (h:Ly ay r W kvs) (k:Q00) (v:ZC) (hn:Bp k kvs 0=none) : ∃ o,(Instr.mapUpdate 74 (.map (some r)) ↑k v).run prog W=.ok () (W.putObj r o)/\Ly ay r (W.putObj r o) (kvs++[(k,v)])/\Below w w (W.putObj r o)/\(∀ q,q≠r->(W.putObj r o).heap[q]?=W.heap[q]?)/\(W.putObj r o).heap.size=W.heap.size:=by obtain⟨o,h1,h2⟩:=Cn Kc underlying74 h k v hn;exact⟨o,h1,h2,Bn hb hr o,fun q hq=>World.putObj_heap_other hq,sM⟩
def uN (q3 q5 q7:Nat):List (Q00 × ZC):=[(([99,104,97,110,103,101]:Q00),.func (.func 65) #[] #[]),(([109,101,97,115,117,114,101]:Q00),.func (.func 67) #[] #[]),(([114,101,112,101,97,108]:Q00),qM q3),(([114,101,118,111,107,101]:Q00),qM q5),(([101,110,100]:Q00),qM q7),(([108,105,99,101,110,99,101]:Q00),.func (.func 69) #[] #[]),(([104,111,108,100,105,110,103]:Q00),.func (.func 70) #[] #[])]
structure RdT (base r q3 q5 q7:Nat) (w:ZB):Prop where
 base:base<=r
 map:Ly ay r w (uN q3 q5 q7)
 q3:w.heap[q3]?=some (.cells #[.int .i64 3] 3 (0,0))
 q5:w.heap[q5]?=some (.cells #[.int .i64 5] 3 (0,0))
 q7:w.heap[q7]?=some (.cells #[.int .i64 7] 3 (0,0))
theorem Gen (w:ZB):Calls prog 27 #[] w (fun e w'=>∃ r q3 q5 q7,e=.returned (.map (some r))/\Below w w w'/\RdT w r q3 q5 q7 w'):=by have hmm:=@Hz prog;have hB0:=(Ac _ w).alloc nR (.map #[] 0);have M0:=Lw ay w;obtain⟨r,hr⟩:=naa w.heap.size;rw [hr] at M0;have hr':w.heap.size<=r:=oM;generalize hW0:w.alloc (.map #[] 0)=W0 at *;obtain⟨o1,u1,M1,B1,p1,s1⟩:=qL hB0 hr' M0 ([99,104,97,110,103,101]:Q00) (.func (.func 65) #[] #[]) kR;obtain⟨o2,u2,M2,B2,p2,s2⟩:=qL B1 hr' M1 ([109,101,97,115,117,114,101]:Q00) (.func (.func 67) #[] #[]) kR;have z2:=M2.lt;go_in;go_wp2_with fail;generalize (W0.putObj r o1).putObj r o2=W2 at *;refine (Tj 3 _).mono ?_;rintro e w3 ⟨rfl,rfl⟩;have g3:=Ag W2 (.cells #[.int .i64 3] 3);have Ba3:=B2.alloc B2.size (.cells #[.int .i64 3] 3);have Ma3:=M2.below ((Ac _ W2).alloc nR (.cells #[.int .i64 3] 3));have zz3:r<W2.heap.size:=M2.lt;obtain⟨q3,hq3⟩:=naa W2.heap.size;rw [hq3] at g3 zz3 ⊢;generalize W2.alloc (.cells #[.int .i64 3] 3)=Wa3 at *;obtain⟨o3,u3,Mb3,Bb3,pb3,sb3⟩:=qL Ba3 hr' Ma3 ([114,101,112,101,97,108]:Q00) (qM q3) kR;replace g3:=(pb3 q3 oM).trans g3;go_wp2_with fail;generalize Wa3.putObj r o3=Wb3 at *;refine (Tj 5 _).mono ?_;rintro e w3 ⟨rfl,rfl⟩;have g5:=Ag Wb3 (.cells #[.int .i64 5] 3);have Ba5:=Bb3.alloc Bb3.size (.cells #[.int .i64 5] 3);have Ma5:=Mb3.below ((Ac _ Wb3).alloc nR (.cells #[.int .i64 5] 3));have g3:=Co (o:=.cells #[.int .i64 5] 3) g3;have zz5:r<Wb3.heap.size:=Mb3.lt;obtain⟨q5,hq5⟩:=naa Wb3.heap.size;rw [hq5] at g5 zz5 ⊢;generalize Wb3.alloc (.cells #[.int .i64 5] 3)=Wa5 at *;obtain⟨o5,u5,Mb5,Bb5,pb5,sb5⟩:=qL Ba5 hr' Ma5 ([114,101,118,111,107,101]:Q00) (qM q5) kR;replace g3:=(pb5 q3 oM).trans g3;replace g5:=(pb5 q5 oM).trans g5;go_wp2_with fail;generalize Wa5.putObj r o5=Wb5 at *;refine (Tj 7 _).mono ?_;rintro e w3 ⟨rfl,rfl⟩;have g7:=Ag Wb5 (.cells #[.int .i64 7] 3);have Ba7:=Bb5.alloc Bb5.size (.cells #[.int .i64 7] 3);have Ma7:=Mb5.below ((Ac _ Wb5).alloc nR (.cells #[.int .i64 7] 3));have g3:=Co (o:=.cells #[.int .i64 7] 3) g3;have g5:=Co (o:=.cells #[.int .i64 7] 3) g5;have zz7:r<Wb5.heap.size:=Mb5.lt;obtain⟨q7,hq7⟩:=naa Wb5.heap.size;rw [hq7] at g7 zz7 ⊢;generalize Wb5.alloc (.cells #[.int .i64 7] 3)=Wa7 at *;obtain⟨o7,u7,Mb7,Bb7,pb7,sb7⟩:=qL Ba7 hr' Ma7 ([101,110,100]:Q00) (qM q7) kR;obtain⟨o8,u8,M8,B8,p8,s8⟩:=qL Bb7 hr' Mb7 ([108,105,99,101,110,99,101]:Q00) (.func (.func 69) #[] #[]) kR;obtain⟨o9,u9,M9,B9,p9,s9⟩:=qL B8 hr' M8 ([104,111,108,100,105,110,103]:Q00) (.func (.func 70) #[] #[]) kR;have G3:=(p9 q3 oM).trans ((p8 q3 oM).trans ((pb7 q3 oM).trans g3));have G5:=(p9 q5 oM).trans ((p8 q5 oM).trans ((pb7 q5 oM).trans g5));have G7:=(p9 q7 oM).trans ((p8 q7 oM).trans ((pb7 q7 oM).trans g7));go_wp2_with fail;go_ret;exact⟨r,q3,q5,q7,rfl,B9,hr',M9,G3,G5,G7⟩
attribute [local go_sem ↓] Fw
def S6 (x:Q02 × gV):List ZC:=A4 x.1 x.2
def zN (w:ZB) (x:Q02 × gV):Prop:=dG w w x.1 x.2
theorem Pr (w w':ZB) (x:Q02 × gV) (h:zN w x) (hc:Cells w w') (hs:w.heap.size<=w'.heap.size):zN w' x:=(dG.kept h hc).mono hs
abbrev Qz:=eU 64 37 S6 zN
theorem Qz.at {v:ZC} {xs:List (Q02 × gV)} (h:Qz base w v xs):Gr w (era base w) v (xs.map (·.1)):=by
 have hq:=fun x hx=>h.era Pr x hx;rcases Cy h.1 with⟨rfl,h0⟩|⟨g,cap,rfl,h1,h2,h5,h6,h7⟩;·obtain rfl:xs=[]:=Et.1 h0;exact⟨none,0,rfl,sM,dC,fun e=>absurd rfl e⟩
 ·refine⟨_,cap,by rw [Ce],by rw [Ce];exact h5,h6,fun _=>⟨g,0,rfl,h2,fun j n hj=>?_⟩⟩;rw [Es] at hj;cases hx:xs[j]? with
  |none=>rw [hx] at hj;cases hj
  |some x =>
   rw [hx] at hj;obtain rfl:x.1=n:=by simpa using hj
   have hc:=fun i u hu=>Mz (q:=fun k=>decide (k<base)) (h7 _ u (Wr (f:=S6) (s:=37) (fun _=>rfl) xs j x i u hx hu)) (Cj (by show ¬ g<base;omega));have hqx:=hq x (Bg hx);rw [show zN (era base w) x=dG (era base w).heap.size (era base w) x.1 x.2 from rfl,G0] at hqx;exact⟨x.2,fun i u hu=>by rw [Ba];exact hc i u hu,hqx⟩
theorem Nm8:(prog.info? 64).map (fun i=>(i.zero,i.size,i.bytes))=some (some (.agg Fy.toArray),37,480):=kR
theorem Held.later {R:List Nat} {X X':ZB} (h:Held R w X) (hb:Below w X X'):Held R w X' := ⟨hb.os.trans h.os,hb.tape.trans h.tape,hb.output.trans h.output,Aj h.size hb.size,fun k hk hR=>(hb.block k hk).trans (h.block k hk hR)⟩
theorem Pck (W:ZB) (cs:List ZC) (hl:cs.length=37):(Instr.buildSlice 22 1 #[(0,.agg cs.toArray)]).run prog W=.ok (.slice (some ⟨W,0,none⟩) 1 1) (W.alloc (.cells cs.toArray 64)):=by
 obtain⟨u,hu⟩:∃ u:Nat->ZC,cs.toArray=#[u 0,u 1,u 2,u 3,u 4,u 5,u 6,u 7,u 8,u 9,u 10,u 11,u 12,u 13,u 14,u 15,u 16,u 17,u 18,u 19,u 20,u 21,u 22,u 23,u 24,u 25,u 26,u 27,u 28,u 29,u 30,u 31,u 32,u 33,u 34,u 35,u 36]:=⟨fun i=>cs.toArray.getD i undef,Mh 37 cs.toArray (by simpa using hl)⟩
 rw [hu];go_simp
theorem Y5 {op:Oper} {a:Act} {K:Act->ZB->Prop} {Q:Exit->Act->ZB->Prop} (x:Operand) (ho:op.op=.buildSlice 22 1 #[(0,x)]) (cs:List ZC) (hl:cs.length=37) (hx:a.eval x=.agg cs.toArray) (h:K (a.put op.dst (.slice (some ⟨w,0,none⟩) 1 1)) (w.alloc (.cells cs.toArray 64))):op.wp prog a w K Q:=by unfold Oper.wp execOp;simp only [ho,List.map_toArray,Gg,Ja,hx,Pck w cs hl,I9,Lh,Io];exact h
structure VpB (r:Q00) (b7 f:Nat) (caps:Array ZC) (a:Act):Prop where
 dfr:a.defers=[]
 size:a.tmps.size=137
 a5:a.tmps.getD 5 undef=.func (.func 24) #[] #[]
 a7:a.tmps.getD 7 undef=.pointer (some ⟨b7,0,none⟩)
 a12:a.tmps.getD 12 undef=↑r
 a14:a.tmps.getD 14 undef=.func (.func f) #[] caps
theorem VpB.lit {r:Q00} {b7 f:Nat} {caps:Array ZC} {a:Act} (h:VpB r b7 f caps a):∃ u:Nat->ZC,a={ tmps:=#[u 0,u 1,u 2,u 3,u 4,.func (.func 24) #[] #[],u 6,.pointer (some ⟨b7,0,none⟩),u 8,u 9,u 10,u 11,↑r,u 13,.func (.func f) #[] caps,u 15,u 16,u 17,u 18,u 19,u 20,u 21,u 22,u 23,u 24,u 25,u 26,u 27,u 28,u 29,u 30,u 31,u 32,u 33,u 34,u 35,u 36,u 37,u 38,u 39,u 40,u 41,u 42,u 43,u 44,u 45,u 46,u 47,u 48,u 49,u 50,u 51,u 52,u 53,u 54,u 55,u 56,u 57,u 58,u 59,u 60,u 61,u 62,u 63,u 64,u 65,u 66,u 67,u 68,u 69,u 70,u 71,u 72,u 73,u 74,u 75,u 76,u 77,u 78,u 79,u 80,u 81,u 82,u 83,u 84,u 85,u 86,u 87,u 88,u 89,u 90,u 91,u 92,u 93,u 94,u 95,u 96,u 97,u 98,u 99,u 100,u 101,u 102,u 103,u 104,u 105,u 106,u 107,u 108,u 109,u 110,u 111,u 112,u 113,u 114,u 115,u 116,u 117,u 118,u 119,u 120,u 121,u 122,u 123,u 124,u 125,u 126,u 127,u 128,u 129,u 130,u 131,u 132,u 133,u 134,u 135,u 136],defers:=[] }:=by refine⟨fun i=>a.tmps.getD i undef,?_⟩;have e:=Mh 137 a.tmps h.size;rw [<- h.a5,<- h.a7,<- h.a12,<- h.a14];exact FD21
noncomputable def BN:Array Oper:=((Tryz.f7.body).bind (Fl · 15)).getD #[]
theorem I55 (r:Q00) (b7 f:Nat) (caps:Array ZC) (a:Act) (X:ZB) (base:Nat) (c0 c1 c2 c3 c5 c6 c7 va:ZC) (xs:List (Q02 × gV)) (act:Q02) (hA:VpB r b7 f caps a) (hr:r.length<=20000) (hE:∀ args w,(callFunc f args).run prog w=.ok (.enter f args) w) (hF:∀ (W:ZB) (v:ZC),Below X X W->Av X W v (CH.spl (Lib.trimSuffix r [59]))->Calls prog f (#[↑r,v]++caps) W (wU W act)) (g7:X.heap[b7]?=some (.cells #[c0,c1,c2,c3,va,c5,c6,c7] 27 (0,0))) (hb7:b7<base) (hbX:base<=X.heap.size) (hO:Qz base X va xs) (hl:xs.length<=10000) : (Code.region 15 BN true).wp prog (vJ fun a' X'=>VpB r b7 f caps a'/\(a'.tmps.toList.take 85=a.tmps.toList.take 85/\a'.tmps.toList.drop 97=a.tmps.toList.drop 97)/\∃ va' sv X1,Below base X X1/\X'=X1.setCell ⟨b7,4,none⟩ va'/\Qz base X1 va' (xs++[(act,sv)])) a X:=by
 obtain⟨u,rfl⟩:=hA.lit;clear hA;simp only [BN,Tryz.f7,Option.bind_some,Ee,Fl,Nat.reduceEqDiff,reduceIte];obtain⟨av,cv,rfl,hcv,hcv2⟩:=hO.form;have htl:(Lib.trimSuffix r [59]).length<=1000000:=by
  unfold Lib.trimSuffix;split;·simp;omega
  ·omega
 have TR:=Aa fun (W:ZB)=>Tryz.strings_TrimSuffix ⟨r.toArray⟩ ⟨#[59]⟩ W (by show r.toArray.size<=_;simp;omega);have SP:=Aa fun (W:ZB)=>Tn (Lib.trimSuffix r [59]) W htl;have FF:=Aa hF;clear hF;obtain⟨T,hT⟩:=naa (Lib.trimSuffix r [59]);rw [hT] at SP FF htl;have hx4:=Aa fun (W:ZB) (h:Below X X W)=>(h.cell (p:=⟨b7,4,none⟩) (by show b7<_;omega)).trans (Ab g7 4:X.cell? ⟨b7,4,none⟩=some (.slice av xs.length cv));obtain⟨iA,hi,hz0,hz1,hz2⟩:=Jb Nm8;have h63:xs.length+1<=maxLen:=by have:maxLen=9223372036854775807:=rfl;omega
 have h64:(xs.length+1)*480<=140737488355328:=oM;obtain⟨xl,hxl⟩:=naa xs.length;rw [hxl] at hx4 hcv;refine Dt (S:=fun _=>True) kR trivial fun kz=>?_;have B0:=(Ac X X).drew;refine tj 0 ?_;push_cast;refine tj 2 ?_;push_cast;refine tj 3 ?_;push_cast;refine tj 4 ?_;push_cast;refine tj 5 ?_;push_cast;have x4:=hx4.out _ B0;refine D7 (rs:=[1,6]) kR sM ?_;refine Aw (o:=_) rfl (fun K hK=>?_) ?_;focus go_simp;refine hK.out _ _ trivial fun _=>?_;clear hK K;push_cast;clear x4;refine rk 6 rfl fun K hK=>?_;rw [Ah rF];go_simp;refine (TR.out _).mono ?_;rintro e w7 ⟨rfl,rfl⟩;have B1:=B0;refine hK.out _ _ trivial fun _=>?_;clear hK K;push_cast;refine rk 7 rfl fun K hK=>?_;rw [Ah rF];go_simp;refine (SP.out _).mono ?_;rintro e w8 ⟨vp,rfl,hOp,hbp⟩;have yA:=Av.down hOp B1.size;obtain⟨ap,cp,rfl,_,_⟩:=Av.form hOp;have B2:=B1.trans (hbp.mono B1.size);refine hK.out _ _ trivial fun _=>?_;clear hK K;push_cast;refine rk 8 rfl fun K hK=>?_;rw [Ah rF];go_simp;refine (FF.out _ _ B2 yA).mono ?_;rintro e w9 ⟨hbr,sv,rfl,zF⟩;have B3:=B2.trans (hbr.mono B2.size);refine hK.out _ _ trivial fun _=>?_;clear hK K;push_cast;refine rk 9 rfl fun K hK=>?_;rw [Ah rF];refine Y5 (.tmp 93) rfl (A4 act sv) rfl rfl ?_;have B4:=B3.alloc B3.size (.cells (A4 act sv).toArray 64);refine hK.out _ _ trivial fun _=>?_;clear hK K;push_cast
 rotate_left 1;refine Aw (o:=_) rfl (fun K hK=>?_) Dx;focus
  clear x4;go_simp;refine (TR.out _).mono ?_;rintro e w7 ⟨rfl,rfl⟩;have B1:=B0;refine hK.out _ _ trivial fun _=>?_;clear hK K;push_cast;have x4:=hx4.out _ B1;refine D7 (rs:=[1,7]) kR sM ?_;refine Aw (o:=_) rfl (fun K hK=>?_) ?_;focus go_simp;refine hK.out _ _ trivial fun _=>?_;clear hK K;push_cast;clear x4;refine rk 7 rfl fun K hK=>?_;rw [Ah rF];go_simp;refine (SP.out _).mono ?_;rintro e w8 ⟨vp,rfl,hOp,hbp⟩;have yA:=Av.down hOp B1.size;obtain⟨ap,cp,rfl,_,_⟩:=Av.form hOp;have B2:=B1.trans (hbp.mono B1.size);refine hK.out _ _ trivial fun _=>?_;clear hK K;push_cast;refine rk 8 rfl fun K hK=>?_;rw [Ah rF];go_simp;refine (FF.out _ _ B2 yA).mono ?_;rintro e w9 ⟨hbr,sv,rfl,zF⟩;have B3:=B2.trans (hbr.mono B2.size);refine hK.out _ _ trivial fun _=>?_;clear hK K;push_cast;refine rk 9 rfl fun K hK=>?_;rw [Ah rF];refine Y5 (.tmp 93) rfl (A4 act sv) rfl rfl ?_;have B4:=B3.alloc B3.size (.cells (A4 act sv).toArray 64);refine hK.out _ _ trivial fun _=>?_;clear hK K;push_cast
  rotate_left 1;refine Aw (o:=_) rfl (fun K hK=>?_) Dx;focus
   clear x4;go_simp;refine (SP.out _).mono ?_;rintro e w8 ⟨vp,rfl,hOp,hbp⟩;have yA:=Av.down hOp B1.size;obtain⟨ap,cp,rfl,_,_⟩:=Av.form hOp;have B2:=B1.trans (hbp.mono B1.size);refine hK.out _ _ trivial fun _=>?_;clear hK K;push_cast;have x4:=hx4.out _ B2;refine D7 (rs:=[1,8]) kR sM ?_;refine Aw (o:=_) rfl (fun K hK=>?_) ?_;focus go_simp;refine hK.out _ _ trivial fun _=>?_;clear hK K;push_cast;clear x4;refine rk 8 rfl fun K hK=>?_;rw [Ah rF];go_simp;refine (FF.out _ _ B2 yA).mono ?_;rintro e w9 ⟨hbr,sv,rfl,zF⟩;have B3:=B2.trans (hbr.mono B2.size);refine hK.out _ _ trivial fun _=>?_;clear hK K;push_cast;refine rk 9 rfl fun K hK=>?_;rw [Ah rF];refine Y5 (.tmp 93) rfl (A4 act sv) rfl rfl ?_;have B4:=B3.alloc B3.size (.cells (A4 act sv).toArray 64);refine hK.out _ _ trivial fun _=>?_;clear hK K;push_cast
   rotate_left 1;refine Aw (o:=_) rfl (fun K hK=>?_) Dx;focus
    clear x4;go_simp;refine (FF.out _ _ B2 yA).mono ?_;rintro e w9 ⟨hbr,sv,rfl,zF⟩;have B3:=B2.trans (hbr.mono B2.size);refine hK.out _ _ trivial fun _=>?_;clear hK K;push_cast;have x4:=hx4.out _ B3;refine D7 (rs:=[1,9]) kR sM ?_;refine Aw (o:=_) rfl (fun K hK=>?_) ?_;focus go_simp;refine hK.out _ _ trivial fun _=>?_;clear hK K;push_cast;clear x4;refine rk 9 rfl fun K hK=>?_;rw [Ah rF];refine Y5 (.tmp 93) rfl (A4 act sv) rfl rfl ?_;have B4:=B3.alloc B3.size (.cells (A4 act sv).toArray 64);refine hK.out _ _ trivial fun _=>?_;clear hK K;push_cast
    rotate_left 1;refine Aw (o:=_) rfl (fun K hK=>?_) Dx;focus clear x4;rw [Ah rF];refine Y5 (.tmp 93) rfl (A4 act sv) rfl rfl ?_;have B4:=B3.alloc B3.size (.cells (A4 act sv).toArray 64);refine hK.out _ _ trivial fun _=>?_;clear hK K;push_cast;have x4:=hx4.out _ B4;refine rk 1 rfl fun K hK=>?_;rw [Ah rF];go_simp;refine hK.out _ _ trivial fun _=>?_;clear hK K;push_cast
 all_goals
  refine rk 10 rfl fun K hK=>?_;rw [Ah rF];have hs8:=B2.size;have hs9:=hbr.size;have hO5:=eU.held (R:=[]) Pr hO (Held.of_below B4) (fun r hr=>by cases hr);have g5:=Ag w9 (.cells (A4 act sv).toArray 64);have hg5:∀ j u,(S6 (act,sv))[j]?=some u->(w9.alloc (.cells (A4 act sv).toArray 64)).cell? ⟨w9,j,none⟩=some u:=fun j u hu=>by rw [Ab g5];simpa [S6] using hu
  have h15:∀ u∈S6 (act,sv),u.oneCell'=true:=Hp zF.xZ;have yQ:=eU.mine hO;have hy5:zN (Kk (but base (.slice av xs.length cv)) (w9.alloc (.cells (A4 act sv).toArray 64))) (act,sv):=by refine eU.newer (base:=base) (n:=w8.heap.size) Pr ?_ oM (fun r hr=>by have:=(yQ r hr).2;omega);show dG (era w8 _).heap.size (era w8 _) act sv;rw [G0];exact (dG.kept zF (Bw ((Held.refl [] w9).alloc _) (fun r hr=>by cases hr))).mono sM
  have hB5:base<=(w9.alloc (.cells (A4 act sv).toArray 64)).heap.size:=naf;have hb4:=B4.mono hbX;have hown:=fun r hr=>(eU.mine hO5 r hr).1;generalize w9.alloc (.cells (A4 act sv).toArray 64)=W5 at *;rw [hxl] at hO5 hy5 hown;refine eU.sQ (v:=.slice av xl cv) Pr _ _ 22 rfl iA _ 480 underlying22 hi hz0 hz1 hz2 rfl dC (fun _=>rfl) rfl hO5 w9 1 (act,sv) rfl hg5 h15 hy5 h63 h64 hB5 fun v' w' hO' hG=>?_;obtain⟨av',cv',rfl,_⟩:=hO'.form;have hb5:Below base X w':=hb4.grown hG oM hown;have hel:(xs++[(act,sv)]).length=xl+1:=by simp [hxl]
  rw [hel] at hO';refine hK.out _ _ trivial fun _=>?_;clear hK K;push_cast;refine tj 11 ?_;push_cast;refine rk 12 rfl fun K hK=>?_;rw [Ah rF];have e7:=(hb5.block b7 hb7).trans g7;have z4:=Ab e7 4;have zf:=Ao e7;simp at z4;go_simp;refine hK.out _ _ trivial fun _=>?_;clear hK K;push_cast;refine Dc kR ?_ _;exact⟨⟨rfl,rfl,rfl,rfl,rfl,rfl⟩,⟨rfl,rfl⟩,_,sv,w',hb5,rfl,hO'⟩
attribute [local go_sem ↓] Fw
theorem At0 {c:UInt8}:∀ {s a b:Q00},iG c s=some (a,b)->a.length<=s.length/\b.length<=s.length
 |[],a,b,h=>by cases h
 |x::s,a,b,h=>by
  unfold iG at h
  split at h
  ·cases h
   simp
  ·cases hq:iG c s with
   |none=>rw [hq] at h;cases h
   |some y =>
    obtain⟨a',b'⟩:=y
    rw [hq] at h
    cases h
    have:=At0 hq
    simp
    omega
theorem I47 (c:UInt8) (s:Q00):(CH.cut c s).1.length<=s.length/\(CH.cut c s).2.length<=s.length:=by
 unfold CH.cut;cases h:iG c s with
 |none=>simp
 |some y =>obtain⟨a,b⟩:=y;exact At0 h
theorem Tf (c:UInt8):∀ (k:Nat) (s:Q00),1<=(jS c k s).length/\∀ x∈jS c k s,x.length<=s.length
 |0,s=>⟨Au 1,fun x hx=>by rw [jS,Ad] at hx;rw [hx];exact Au _⟩
 |k+1,s=>by
  unfold jS
  cases h:iG c s with
  |none=>exact⟨Au 1,fun x hx=>by rw [Ad] at hx;rw [hx];exact Au _⟩
  |some y =>
   obtain⟨a,b⟩:=y
   have hl:=At0 h
   refine⟨sM,fun x hx=>?_⟩
   rcases Az.1 hx with rfl|hx
   ·exact hl.1
   ·exact Aj ((Tf c k b).2 x hx) hl.2
theorem Cls {c:UInt8} {s x:Q00} (h:x∈CH.split c s):x.length<=s.length:=(Tf c _ s).2 x h
theorem Cli (c:UInt8) (s:Q00):1<=(CH.split c s).length:=(Tf c _ s).1
theorem L4i (s p:Q00):(Lib.trimSuffix s p).length<=s.length:=by
 unfold Lib.trimSuffix;split;·simp
 ·exact Au _
theorem Zm {s:Q00} (h:s.length<=20000):11<=(CH.spl s).length/\(CH.spl s).length<=100000/\∀ x∈CH.spl s,x.length<=20000:=by
 unfold CH.spl;have h1:=Cli 32 s;have h2:=V8 32 s;refine⟨by simp;omega,by simp;omega,fun x hx=>?_⟩;rcases Bz.1 hx with hx|hx;·exact Aj (Cls hx) h
 ·rw [List.eq_of_mem_replicate hx];exact Ak _
theorem Av.parts {v:ZC} {ls:List Q00} (h:Av base w v ls) (hne:0<ls.length):∃ g cap,v=.slice (some ⟨g,0,none⟩) ls.length cap/\ls.length<=cap/\cap<=9223372036854775807/\Jn w g 0 ls:=by
 rcases Cy h with⟨rfl,h0⟩|⟨g,cap,rfl,h1,h2,h3,h4,h5⟩;·omega
 ·exact⟨g,cap,rfl,h3,h4,fun j hj=>by rw [Ba];exact h5 j _ (by rw [Es,Ae hj];simp [List.getD,Ae hj])⟩
theorem RdT.below {r q3 q5 q7:Nat} {w':ZB} (h:RdT base r q3 q5 q7 w) (hb:Below w w w'):RdT base r q3 q5 q7 w' := ⟨h.base,h.map.below hb,(hb.block _ (aZ h.q3)).trans h.q3,(hb.block _ (aZ h.q5)).trans h.q5,(hb.block _ (aZ h.q7)).trans h.q7⟩
theorem Rci (args:Array ZC) (w:ZB):(callFunc 64 args).run prog w=.ok (.enter 64 args) w:=enters_of func64 kR rfl args w
theorem RN (args:Array ZC) (w:ZB):(callFunc 65 args).run prog w=.ok (.enter 65 args) w:=enters_of func65 kR rfl args w
theorem RJ (args:Array ZC) (w:ZB):(callFunc 67 args).run prog w=.ok (.enter 67 args) w:=enters_of func67 kR rfl args w
theorem RI (args:Array ZC) (w:ZB):(callFunc 69 args).run prog w=.ok (.enter 69 args) w:=enters_of func69 kR rfl args w
theorem RH (args:Array ZC) (w:ZB):(callFunc 70 args).run prog w=.ok (.enter 70 args) w:=enters_of func70 kR rfl args w
def Ptw (X:ZB) (fv:ZC) (rest:Q00) (act:Q02):Prop := ∃ f caps,fv=.func (.func f) #[] caps/\(∀ args w,(callFunc f args).run prog w=.ok (.enter f args) w) /\ ∀ (W:ZB) (v:ZC),Below X X W->Av X W v (CH.spl (Lib.trimSuffix rest [59]))->Calls prog f (#[↑rest,v]++caps) W (wU W act)
theorem Pwo {X:ZB} {r q3 q5 q7:Nat} (T:RdT base r q3 q5 q7 X) (hG:Gp X) (t rest:Q00) (hr:rest.length<=20000) :
  match jl t rest (CH.spl (Lib.trimSuffix rest [59])) with
  |none=>Bp t (uN q3 q5 q7) 0=none
  |some act=>∃ i fv,Bp t (uN q3 q5 q7) 0=some (i,fv)/\Ptw X fv rest act:=by
 have hs:=Zm (s:=Lib.trimSuffix rest [59]) (Aj (L4i _ _) hr)
 generalize hl:CH.spl (Lib.trimSuffix rest [59])=l at *
 obtain⟨s1,s2,s3⟩:=hs
 have named:∀ (k:Int) (q:Nat),I64 k->X.heap[q]?=some (.cells #[↑k] 3 (0,0))->Ptw X (qM q) rest { eP with kind:=k,id:=l.getD 0 [],n:=bY (l.getD 1 []) }:=fun k q hk hq =>
  ⟨64,#[.pointer (some ⟨q,0,none⟩)],rfl,Rci,fun W v hb hO=>by
   rw [hl] at hO
   obtain⟨g,cap,rfl,c1,c2,hp⟩:=Av.parts hO oM
   exact Geo k q rest g 0 _ cap l W (hG.below hb) hk ((hb.block q (aZ hq)).trans hq) rfl oM hp s3⟩
 unfold jl
 by_cases e1:t=([99,104,97,110,103,101]:Q00)
 ·subst e1
  exact⟨0,.func (.func 65) #[] #[],kR,65,#[],rfl,RN,fun W v hb hO=>Due rest v W (hG.gc.below hb) hr⟩
 rw [Ai e1]
 by_cases e2:t=([109,101,97,115,117,114,101]:Q00)
 ·subst e2
  exact⟨1,.func (.func 67) #[] #[],kR,67,#[],rfl,RJ,fun W v hb hO=>Bsu rest v W hr⟩
 rw [Ai e2]
 by_cases e3:t=([114,101,112,101,97,108]:Q00)
 ·subst e3
  exact⟨2,qM q3,kR,named 3 q3 (qR dC) T.q3⟩
 rw [Ai e3]
 by_cases e4:t=([114,101,118,111,107,101]:Q00)
 ·subst e4
  exact⟨3,qM q5,kR,named 5 q5 (qR dC) T.q5⟩
 rw [Ai e4]
 by_cases e5:t=([101,110,100]:Q00)
 ·subst e5
  exact⟨4,qM q7,kR,named 7 q7 (qR dC) T.q7⟩
 rw [Ai e5]
 by_cases e6:t=([108,105,99,101,110,99,101]:Q00)
 ·subst e6
  exact⟨5,.func (.func 69) #[] #[],kR,69,#[],rfl,RI,fun W v hb hO=>by
   rw [hl] at hO
   obtain⟨g,cap,rfl,c1,c2,hp⟩:=Av.parts hO oM
   exact Kg8 rest g 0 _ cap l W (hG.below hb) rfl oM c1 c2 hp s3 s2⟩
 rw [Ai e6]
 by_cases e7:t=([104,111,108,100,105,110,103]:Q00)
 ·subst e7
  exact⟨6,.func (.func 70) #[] #[],kR,70,#[],rfl,RH,fun W v hb hO=>by
   rw [hl] at hO
   obtain⟨g,cap,rfl,c1,c2,hp⟩:=Av.parts hO oM
   exact Inb rest g 0 _ cap l W (hG.below hb) rfl oM c1 c2 hp s3 s2⟩
 rw [Ai e7]
 have b:∀ k:Q00,¬ t=k->(t==k)=false:=fun k h=>Dl.2 h
 show Bp t (uN q3 q5 q7) 0=none
 simp only [uN,Bp,b _ e1,b _ e2,b _ e3,b _ e4,b _ e5,b _ e6,b _ e7,Nk,Aap,reduceIte]
end
end Go.Proofs.Y
