/- ChainTexts, part 18 of 31. -/
import Derived.Test.YtkboocifdaebgaaGreatDoorP16
set_option linter.all false
set_option maxHeartbeats 40000000
set_option maxRecDepth 100000
open Go renaming World -> ZB, Value -> ZC
namespace Go.Proofs.Y
section
open Go.Lib Go.Proofs.Tryz Go.RowKit Go.Shelf Go.Sort CH
variable {L:List Q03}
attribute [local go_sem ↓] Fw
attribute [local irreducible] wpQuiet
abbrev Hwl:List ZC:=[.string ⟨#[]⟩,.string ⟨#[]⟩,.int .i64 0,.string ⟨#[]⟩,.int .i64 1,.string ⟨#[]⟩,.int .i64 0,.int .i64 0,.slice none 0 0,.int .i64 0,.int .i64 (-1),.int .i64 0]
theorem Ckt (w:ZB) (o1 o2 o3:Obj):(((w.alloc o1).alloc o2).alloc o3).heap[w.heap.size]?=some o1/\(((w.alloc o1).alloc o2).alloc o3).heap[w.heap.size+1]?=some o2/\(((w.alloc o1).alloc o2).alloc o3).heap[w.heap.size+1+1]?=some o3/\(((w.alloc o1).alloc o2).alloc o3).heap.size=w.heap.size+3/\Below w w (((w.alloc o1).alloc o2).alloc o3):=by obtain⟨h1,h2⟩:=Hj w o1 o2;have hb:=(Ac _ ((w.alloc o1).alloc o2)).alloc nR o3;refine⟨(hb.block _ naf).trans h1,(hb.block _ sM).trans h2,?_,sM,(((Ac _ w).alloc nR o1).alloc sM o2).alloc naf o3⟩;have:=Ag ((w.alloc o1).alloc o2) o3;exact FD86
theorem Knc (s:Q00) (w:ZB) (hs:s.length<=20000) (x:Nat × Nat) (hlx:CH.lex s=.error x):Calls prog 68 #[↑s] w (jv w none):=by
 have hmf:∀ (fn:Fn) (first cap:Array ZC) (w:ZB),(Instr.makeFunc fn first cap).run prog w=.ok (.func fn first cap) w:=fun _ _ _ _=>rfl;have hmm:=@Hz prog;have N3:=Aa (Ckt w);have LX:=fun o1 o2 o3=>Aa (Tr s (((w.alloc o1).alloc o2).alloc o3) hs);rw [hlx] at LX;have hx:=Qo s x hlx;have z1:((x.1:Int) != 0)=true:=naf;go_enter_defers func68,ntmps68;go_wp2_with fail;refine (LX _ _ _).out.mono ?_;rintro e w1 ⟨hb1,rfl⟩;obtain⟨n0,n1,n2,n3,n4⟩:=N3.out (.cells Lz.toArray 60) (.cells #[.int .i64 0] 31) (.cells #[.int .i64 0] 3);generalize (((w.alloc _).alloc _).alloc _)=W0 at *;have g0:=(hb1.block _ oM).trans n0;have g1:=(hb1.block _ oM).trans n1;have g2:=(hb1.block _ oM).trans n2;have hB1:Below w w w1:=n4.trans (hb1.mono oM);obtain⟨b,hb⟩:=naa w.heap.size;rw [hb] at g0 g1 g2 hB1 ⊢;clear n0 n1 n2 n3 n4 hb1 LX N3;have c1:=Ab g1 0;have c2:=Ab g2 0;have f1:=Ao g1 0;have f2:=Ao g2 0;simp at c1 c2;have hz1:=(aZ g1)
 have hz2:=(aZ g2)
 have hH:Held [b,b+1,b+2] w1 ((w1.setCell ⟨b+1,0,none⟩ ↑x.1).setCell ⟨b+1+1,0,none⟩ ↑x.2):=((Held.refl _ _).bT _ _ _ sM).bT _ _ _ sM;have h0:=(As (w1.setCell ⟨b+1,0,none⟩ ↑x.1) ⟨b+1+1,0,none⟩ ↑x.2 b (by show b≠b+1+1;omega)).trans ((As w1 ⟨b+1,0,none⟩ ↑x.1 b (by show b≠b+1;omega)).trans g0);have h1:=(As (w1.setCell ⟨b+1,0,none⟩ ↑x.1) ⟨b+1+1,0,none⟩ ↑x.2 (b+1) (by show b+1≠b+1+1;omega)).trans (Al w1 (b+1) 0 ↑x.1 _ _ _ g1);have h2:=Al (w1.setCell ⟨b+1,0,none⟩ ↑x.1) (b+1+1) 0 ↑x.2 _ _ _ ((As w1 ⟨b+1,0,none⟩ ↑x.1 (b+1+1) (by show b+1+1≠b+1;omega)).trans g2);simp at h1 h2;have k1:=Ab h1 0;simp at k1;go_wp2_with fail;have hB2:=hB1.trans (hH.below (oM:b<=w1.heap.size) (fun r hr=>by simp at hr;omega));clear hH c1 c2 f1 f2 k1 g0 g1 g2 hz1 hz2;generalize (w1.setCell ⟨b+1,0,none⟩ ↑x.1).setCell ⟨b+1+1,0,none⟩ ↑x.2=Y at *;have hS:∀ W':ZB,W'.heap[b]?=some (.cells Lz.toArray 60 (0,0))->W'.heap[b+1]?=some (.cells #[↑x.1] 31 (0,0))->W'.heap[b+1+1]?=some (.cells #[↑x.2] 3 (0,0))->Below b w W'->(W'.cell? ⟨b+1,0,none⟩=some ↑x.1/\W'.cell? ⟨b+1+1,0,none⟩=some ↑x.2/\W'.rangeAt b 0 Lz)/\W'.heap[b]?=some (.cells Lz.toArray 60 (0,0))/\W'.heap[b+1]?=some (.cells #[↑x.1] 31 (0,0))/\W'.heap[b+1+1]?=some (.cells #[↑x.2] 3 (0,0))/\Below b w W':=fun W' a1 a2 a3 a4=>⟨⟨Ab a2 0,Ab a3 0,fun j v hj=>by rw [Ba,Ab a1 j];simpa using hj⟩,a1,a2,a3,a4⟩
 have hY:=hS Y.drew h0 h1 h2 hB2.drew;have qU:(prog.info? 60).map (·.size)=some Lz.length:=kR;refine wp_mono (Q:=vJ fun a X=>a.tmps.getD 2 undef=.pointer (some ⟨b,0,none⟩)/\a.tmps.getD 3 undef=.pointer (some ⟨b+1,0,none⟩)/\a.tmps.getD 4 undef=.pointer (some ⟨b+2,0,none⟩)/\a.defers=[]/\X.heap[b]?=some (.cells Lz.toArray 60 (0,0))/\X.heap[b+1]?=some (.cells #[↑x.1] 31 (0,0))/\X.heap[b+1+1]?=some (.cells #[↑x.2] 3 (0,0))/\Below b w X) ?_ (Qk fun a X h=>?_);rotate_left 1;·obtain⟨t2,t3,t4,hd,q0,q1,q2,hB⟩:=h;go_wp2_with fail;show Leaves _ _ a.tmps _ a.defers _ X;rw [hd];exact Acq (m:=jD) (vk:=.slice none 0 0) t2 t3 t4 hb ⟨q0,q1,q2⟩ hB rfl (Sf _ _)
 refine Dt (S:=fun W'=>(W'.cell? ⟨b+1,0,none⟩=some ↑x.1/\W'.cell? ⟨b+1+1,0,none⟩=some ↑x.2/\W'.rangeAt b 0 Lz)/\W'.heap[b]?=some (.cells Lz.toArray 60 (0,0))/\W'.heap[b+1]?=some (.cells #[↑x.1] 31 (0,0))/\W'.heap[b+1+1]?=some (.cells #[↑x.2] 3 (0,0))/\Below b w W') kR hY fun kz=>?_;refine tj 1 ?_;push_cast;refine tj 2 ?_;push_cast;refine Ox (i:=0) (v:=.agg Lz.toArray) rfl kR kR kR (fun _ _ _ h=>h) ?_ kz ?_;·exact yieldsIf_load_mid rF _ _ rfl b 0 rfl Lz _ (fun W hSw=>hSw.1.2.2) underlying60 rfl qU
 push_cast;refine rk 3 rfl fun K hK=>?_;rw [Ah rF];refine Hv 60 _ _ rfl b Lz _ rfl rfl hY.2.1 rfl qU (by simp [Value.oneCell']) ?_;intro X hX hHX hXs;have hz:=hB2.size;have a1:=(hHX.block (b+1) (aZ h1) sM).trans hY.2.2.1;have a2:=(hHX.block (b+1+1) (aZ h2) naf).trans hY.2.2.2.1;have a3:=hY.2.2.2.2.trans (hHX.below (by show b<=Y.heap.size;omega) (fun r hr=>by simp at hr;omega));have e0:=Ab a1 0;have ef:=Ao a1 0;simp at e0;refine hK.out _ _ (hS _ hX a1 a2 a3) fun kz=>?_;clear hK K;push_cast;refine rk 4 rfl fun K hK=>?_;rw [Ah rF];go_simp;have b1:=(As X ⟨b+1,0,none⟩ ↑x.1 b (by show b≠b+1;omega)).trans hX;have b2:=Al X (b+1) 0 ↑x.1 _ _ _ a1;have b3:=(As X ⟨b+1,0,none⟩ ↑x.1 (b+1+1) (by show b+1+1≠b+1;omega)).trans a2;have b4:=a3.setCell (p:=⟨b+1,0,none⟩) (by show b<=b+1;omega) ↑x.1;simp at b2;refine hK.out _ _ (hS _ b1 b2 b3 b4) fun kz=>?_;clear hK K;generalize X.setCell ⟨b+1,0,none⟩ ↑x.1=Z at *;push_cast;have p0:=Ab b3 0;have pf:=Ao b3 0;simp at p0;refine rk 5 rfl fun K hK=>?_;rw [Ah rF];go_simp;have d1:=(As Z ⟨b+1+1,0,none⟩ ↑x.2 b (by show b≠b+1+1;omega)).trans b1;have d2:=(As Z ⟨b+1+1,0,none⟩ ↑x.2 (b+1) (by show b+1≠b+1+1;omega)).trans b2;have d3:=Al Z (b+1+1) 0 ↑x.2 _ _ _ b3;have d4:=b4.setCell (p:=⟨b+1+1,0,none⟩) (by show b<=b+1+1;omega) ↑x.2;simp at d3;refine hK.out _ _ (hS _ d1 d2 d3 d4) fun kz=>?_;clear hK K;push_cast;refine Dc kR ?_ _;exact⟨rfl,rfl,rfl,rfl,d1,d2,d3,d4⟩
attribute [local go_sem ↓] Fw
theorem Wn (s:Q00) (b p g h:Nat) (w:ZB) (m:aC) (vk:ZC) (L:List Q03) (a:Act) (X:ZB) (H:MpJ s b p g h w m vk L a X) :
  (Kd 17).wp prog (bodyPostD prog Tryz.f68 (jv w (if oN L=true then some m else none))) a X:=by
 obtain⟨R,hR⟩:=naa (if oN L=true then some m else none)
 rw [hR]
 replace hR:=Aa hR
 obtain⟨hA,hS,hok,hgood,hb,hlen⟩:=H
 obtain⟨u,rfl⟩:=hA.lit
 obtain⟨O,hO⟩:=naa (tkK 4 ([59]:Q00) L)
 have T:=Aa (Mw (b+3) p s L 4 ([59]:Q00) X hS.rdr)
 rw [hO] at T
 have xg:=Ab hS.rp 0
 simp at xg
 generalize hQ:bodyPostD prog Tryz.f68 (jv w R)=Q
 unfold Kd
 simp only [Tryz.f68,Ee,Ga]
 subst hQ
 clear hA
 unfold oN at hR
 rw [hO] at hR
 clear hO
 cases O with
 |none =>
  obtain rfl:R=none:=hR.out.symm
  go_wp2_with fail
  refine T.out.mono ?_
  rintro e w1 ⟨hh,n,x,rfl⟩
  obtain⟨hR3,hBB⟩:=hS.uj hh
  exact FD98
 |some x =>
  obtain⟨t,L1⟩:=x
  go_wp2_with fail
  refine T.out.mono ?_
  rintro e w1 ⟨hh,rfl,hP⟩
  have hS1:=hS.rd hh hP
  obtain⟨av,cv,h1,h2,hb1,hT1⟩:=hP.form
  have y1:=Ab hb1 1
  have g1:=Ab hS1.rp 0
  simp at y1 g1
  cases L1 with
  |cons t1 L2 =>
   obtain rfl:R=none:=hR.out.symm
   obtain⟨bt,off,rfl,hbt,-,-,-,hc,-⟩:=hT1.real.tail
   have d1:=hc 1 _ rfl
   have z1:decide ((0:Int)<((t1::L2).length:Int))=true:=sM
   have z2:(0:Int)<((t1::L2).length:Int):=sM
   obtain⟨hR3,hBB⟩:=hS.uj hh
   generalize (t1::L2).length=N at *
   go_wp2_with fail
   exact R8 rfl rfl rfl rfl hb hR3 hBB _ _
  |nil =>
   obtain rfl:R=some m:=hR.out.symm
   have hrg:=Aa (show w1.rangeAt b 0 (A6 m vk) from fun j v hj=>by rw [Ba,Ab hS1.ms j];simpa using hj)
   have hms:=Aa (show w1.heap[b]?=some (.cells (A6 m vk).toArray 60 (0,0)) from hS1.ms)
   have qU:(prog.info? 60).map (·.size)=some (A6 m vk).length:=kR
   have h1M:=Aa (show ∀ v∈A6 m vk,v.oneCell'=true from by
    obtain⟨_,_,rfl,_⟩:=hS1.kids.form
    simp [A6,Value.oneCell'])
   obtain⟨C,hC⟩:=naa (A6 m vk)
   have hl:C.length=12:=by rw [<- hC];rfl
   rw [hC] at hrg hms qU h1M
   go_wp2_with (first|refine Dn rfl 60 _ rfl b 0 rfl C _ hrg.out underlying60 rfl qU ?_|refine Ca rfl 60 (.tmp 2) (.tmp 108) rfl b C C.toArray rfl rfl hms.out sM qU h1M.out ?_)
   intro X2 hX hHX hXs
   rw [<- hC] at hX
   have hS2:=hS1.put hHX hX rfl
   clear hrg hms h1M qU hl hC hX hHX hXs
   have e1:=Ab hS2.err 0
   have e2:=Ao hS2.err 0
   have e3:=Ab hS2.pos 0
   have e4:=Ao hS2.pos 0
   simp at e1 e3
   have e3':∀ v,(X2.setCell ⟨b+1,0,none⟩ v).cell? ⟨b+2,0,none⟩=some (.int .i64 0):=fun v=>(Bl _ ⟨b+1,0,none⟩ ⟨b+2,0,none⟩ _ (fun e=>by dsimp only at e;omega)).trans e3
   have hE:Held [b+1,b+2] X2 ((X2.setCell ⟨b+1,0,none⟩ (.int .i64 0)).setCell ⟨b+2,0,none⟩ (.int .i64 0)):=((Held.refl _ _).bT _ _ _ sM).bT _ _ _ sM
   obtain⟨l0,l1,l2,l3⟩:=hS2.line
   have q0:=hS2.ms.held hE sM
   have q1:=(As (X2.setCell ⟨b+1,0,none⟩ (.int .i64 0)) ⟨b+2,0,none⟩ (.int .i64 0) (b+1) (by show b+1≠b+2;omega)).trans (Al X2 (b+1) 0 (.int .i64 0) _ _ _ hS2.err)
   have q2:=Al (X2.setCell ⟨b+1,0,none⟩ (.int .i64 0)) (b+2) 0 (.int .i64 0) _ _ _ ((As X2 ⟨b+1,0,none⟩ (.int .i64 0) (b+2) (by show b+2≠b+1;omega)).trans hS2.pos)
   have q3:=hS2.below.trans (hE.below (by have:=hS2.below.size;omega) (fun r hr=>by simp at hr;omega))
   have q4:dh ((X2.setCell ⟨b+1,0,none⟩ (.int .i64 0)).setCell ⟨b+2,0,none⟩ (.int .i64 0)).heap.size (era b ((X2.setCell ⟨b+1,0,none⟩ (.int .i64 0)).setCell ⟨b+2,0,none⟩ (.int .i64 0))) m vk :=
    { nums:=hok.nums,id:=hok.id,authority:=hok.authority,target:=hok.target,short:=hok.short,count:=hok.count,depth:=hok.depth,kids:=Ax.kept (Eg (oM:b<=h+1)) _ _ (Ax.mono hE.size _ _ (Ax.kept (Bw hE (fun r hr=>by simp at hr;omega)) _ _ hS2.kids)) }
   clear hE
   replace q0:=Aa q0
   replace q1:=Aa q1
   replace q2:=Aa q2
   replace q3:=Aa q3
   replace q4:=Aa q4
   go_wp2_with fail
   exact Pfn rfl rfl rfl rfl hb ⟨q0.out,by simpa using q1.out,by simpa using q2.out⟩ q3.out rfl q4.out
theorem Y7 {w:Q00} (h:(dP w L).1=false):(dP w L).2=L:=by
 cases L with
 |nil=>rfl
 |cons t l =>
  unfold dP at h ⊢;dsimp only at h ⊢;split at h;·cases h
  ·rename_i hn;rw [Ai hn]
theorem MpJ.next {s:Q00} {b p g h:Nat} {w:ZB} {m m':aC} {vk vk':ZC} {L':List Q03} {a a':Act} {X X':ZB} (H:MpJ s b p g h w m vk L a X) (hA:MpA b g a') (hS:MpS s b p g h w X' m' vk' L') (ho:BK m') (hg:bU s L'):MpJ s b p g h w m' vk' L' a' X':=⟨hA,hS,ho,hg,H.base,H.len⟩
theorem Age (s:Q00) (b p g h:Nat) (w:ZB) (m:aC) (vk:ZC) (L:List Q03) (a:Act) (X:ZB) (H:MpJ s b p g h w m vk L a X) (hw0:m.aQ=0) : (Kd 16).wp prog (bodyPostD prog Tryz.f68 (jv w ((lC m.kind L).map fun x=>{ m with aQ:=x }))) a X:=by
 obtain⟨R,hR⟩:=naa ((lC m.kind L).map fun x=>{ m with aQ:=x });rw [hR];have H':=H;obtain⟨hA,hS,hok,hgood,hb,hlen⟩:=H;obtain⟨u,rfl⟩:=hA.lit;clear hA;have xg:=Ab hS.rp 0;simp at xg;obtain⟨-,-,k2,-,-,-,-⟩:=hS.ms.cells;generalize hQ:bodyPostD prog Tryz.f68 (jv w R)=Q;unfold Kd;simp only [Tryz.f68,Ee,Ga];subst hQ;refine wp_seq_k fun K hK=>?_;replace hK:Hid (∀ (a:Act) (X:ZB),(Kd 17).wp prog (bodyPostD prog Tryz.f68 (jv w R)) a X->K a X):=Aa fun a X h=>hK a X h;have hm0:({ m with aQ:=0 }:aC)=m:=by rw [<- hw0]
 by_cases hk:m.kind=1
 ·have d1:(m.kind==1)=true:=by simpa using hk
  have T:=Aa (Ti (b+3) p s L ([119,105,110,100]:Q00) X hS.rdr);obtain⟨B,hB⟩:=naa ((dP ([119,105,110,100]:Q00) L).1);rw [hB] at T;cases B with
  |false =>
   have hW:lC m.kind L=if oN L=true then some 0 else none:=by unfold lC;rw [Ai (fun h=>by rw [hB] at h;cases h.2)]
   rw [hW] at hR;replace hR:=Aa hR;rw [Y7 hB] at T;go_wp2_with fail;refine T.out.mono ?_;rintro e w1 ⟨rfl,hP,hh⟩;go_wp2_with fail;obtain rfl:(if oN L=true then some m else none)=R:=by rw [<- hR.out];cases oN L <;> simp [hm0]
   exact hK.out _ _ (Wn s b p g h w m vk L _ _ (H'.next ⟨rfl,rfl,rfl,rfl,rfl,rfl⟩ (hS.rd hh hP) hok hgood))
  |true =>
   obtain⟨O,hO⟩:=naa (nV 0 400 (dP ([119,105,110,100]:Q00) L).2);unfold lC at hR;rw [Ah ⟨hk,hB⟩,hO] at hR;replace hR:=Aa hR;have kM:=mZ (w:=([119,105,110,100]:Q00)) hgood;go_wp2_with fail;refine T.out.mono ?_;rintro e w1 ⟨rfl,hP,hh⟩;have hS1:=hS.rd hh hP;generalize (dP ([119,105,110,100]:Q00) L).2=L1 at *;have g1:=Ab hS1.rp 0;simp at g1;have N:=Aa (Th (b+3) p s L1 0 400 w1 hP);rw [hO] at N;clear T hS hh;cases O with
   |none =>exact FD28
   |some x =>obtain⟨n,L2⟩:=x;obtain⟨hg2,n0,n4⟩:=pJ hO kM;have hF:Hid ((if oN L2=true then some ({ m with aQ:=n }:aC) else none)=R):=Aa (by rw [<- hR.out];dsimp only;cases oN L2 <;> simp);clear hO hR;go_wp2_with fail;refine N.out.mono ?_;rintro e w2 ⟨hh,rfl,hP2⟩;have hS2:=hS1.rd hh hP2;obtain⟨-,-,-,-,-,-,k11⟩:=hS2.ms.cells;have f11:=hS2.ms.free 11;have hE:Held [b] w2 (w2.setCell ⟨b,11,none⟩ ↑n):=(Held.refl _ _).bT _ _ _ sM;have hJ:=Aa (hS2.put hE (hS2.ms.IE n) rfl);clear hE;go_wp2_with fail;refine hK.out _ _ ?_;rw [<- hF.out];exact (Wn s b p g h w { m with aQ:=n } vk L2 _ _ (H'.next ⟨rfl,rfl,rfl,rfl,rfl,rfl⟩ hJ.out ⟨⟨hok.nums.k,hok.nums.s,hok.nums.u,by constructor <;> (dsimp only;omega)⟩,hok.id,hok.authority,hok.target,hok.short,hok.count,hok.depth⟩ hg2))
 ·have d1:(m.kind==1)=false:=by simpa using hk
  unfold lC at hR;rw [Ai (fun h=>hk h.1)] at hR;go_wp2_with fail;obtain rfl:(if oN L=true then some m else none)=R:=by rw [<- hR];cases oN L <;> simp [hm0]
  exact hK.out _ _ (Wn s b p g h w m vk L _ _ (H'.next ⟨rfl,rfl,rfl,rfl,rfl,rfl⟩ hS hok hgood))
attribute [local go_sem ↓] Fw
theorem Ggs (s:Q00) (b p g h:Nat) (w:ZB) (m:aC) (vk:ZC) (L:List Q03) (a:Act) (X:ZB) (H:MpJ s b p g h w m vk L a X) (hw0:m.aQ=0) (hu0:m.aF = -1) (hst:0<=m.start/\m.start<=100000) : (Kd 15).wp prog (bodyPostD prog Tryz.f68 (jv w ((ng m.kind m.start L).map fun x=>{ m with aF:=x.1,aQ:=x.2 }))) a X:=by
 obtain⟨R,hR⟩:=naa ((ng m.kind m.start L).map fun x=>{ m with aF:=x.1,aQ:=x.2 });rw [hR];have H':=H;obtain⟨hA,hS,hok,hgood,hb,hlen⟩:=H;obtain⟨u,rfl⟩:=hA.lit;clear hA;have xg:=Ab hS.rp 0;simp at xg;generalize hQ:bodyPostD prog Tryz.f68 (jv w R)=Q;unfold Kd;simp only [Tryz.f68,Ee,Ga];subst hQ;refine wp_seq_k fun K hK=>?_;replace hK:Hid (∀ (a:Act) (X:ZB),(Kd 16).wp prog (bodyPostD prog Tryz.f68 (jv w R)) a X->K a X):=Aa fun a X h=>hK a X h;have hm0:∀ x:Int,({ m with aF:=-1,aQ:=x }:aC)={ m with aQ:=x }:=fun x=>by rw [<- hu0]
 have zw:IntKind.i64.wrap (m.start+1)=m.start+1:=by rw [IntKind.wrap_i64];omega
 have T:=Aa (Ti (b+3) p s L ([117,110,116,105,108]:Q00) X hS.rdr);obtain⟨B,hB⟩:=naa ((dP ([117,110,116,105,108]:Q00) L).1);rw [hB] at T;unfold ng at hR;cases B with
 |false =>rw [Ai (by rw [hB];decide)] at hR;rw [Y7 hB] at T;replace hR:=Aa hR;go_wp2_with fail;refine T.out.mono ?_;rintro e w1 ⟨rfl,hP,hh⟩;go_wp2_with fail;refine hK.out _ _ ?_;rw [<- hR.out,Option.map_map];simp only [Function.comp_def,hm0];exact Age s b p g h w m vk L _ _ (H'.next ⟨rfl,rfl,rfl,rfl,rfl,rfl⟩ (hS.rd hh hP) hok hgood) hw0
 |true =>
  rw [Ah hB] at hR;obtain⟨O,hO⟩:=naa (nV (m.start+1) 100000 (dP ([117,110,116,105,108]:Q00) L).2);rw [hO] at hR;replace hR:=Aa hR;have kM:=mZ (w:=([117,110,116,105,108]:Q00)) hgood;go_wp2_with fail;refine T.out.mono ?_;rintro e w1 ⟨rfl,hP,hh⟩;have hS1:=hS.rd hh hP;generalize (dP ([117,110,116,105,108]:Q00) L).2=L1 at *;have g1:=Ab hS1.rp 0;simp at g1;obtain⟨-,-,-,-,k9,-,-⟩:=hS1.ms.cells;have N:=Aa (Th (b+3) p s L1 (m.start+1) 100000 w1 hP);rw [hO] at N;clear T hS hh;cases O with
  |none =>exact FD28
  |some x =>obtain⟨n,L2⟩:=x;obtain⟨hg2,n0,n4⟩:=pJ hO kM;clear hO;go_wp2_with fail;refine N.out.mono ?_;rintro e w2 ⟨hh,rfl,hP2⟩;have hS2:=hS1.rd hh hP2;obtain⟨-,-,-,-,-,k10,-⟩:=hS2.ms.cells;have f10:=hS2.ms.free 10;have hE:Held [b] w2 (w2.setCell ⟨b,10,none⟩ ↑n):=(Held.refl _ _).bT _ _ _ sM;have hJ:=Aa (hS2.put hE (hS2.ms.IG n) rfl);clear hE;go_wp2_with fail;refine hK.out _ _ ?_;rw [<- hR.out,Option.map_map];exact Age s b p g h w { m with aF:=n } vk L2 _ _ (H'.next ⟨rfl,rfl,rfl,rfl,rfl,rfl⟩ hJ.out ⟨⟨hok.nums.k,hok.nums.s,by constructor <;> (dsimp only;omega),hok.nums.w⟩,hok.id,hok.authority,hok.target,hok.short,hok.count,hok.depth⟩ hg2) hw0
theorem Ain (s:Q00) (b p g h:Nat) (w:ZB) (m:aC) (vk:ZC) (L:List Q03) (a:Act) (X:ZB) (H:MpJ s b p g h w m vk L a X) (hw0:m.aQ=0) (hu0:m.aF = -1) : (Kd 13).wp prog (bodyPostD prog Tryz.f68 (jv w ((oL m.kind L).map fun x=>{ m with start:=x.1,aF:=x.2.1,aQ:=x.2.2 }))) a X:=by
 obtain⟨R,hR⟩:=naa ((oL m.kind L).map fun x=>{ m with start:=x.1,aF:=x.2.1,aQ:=x.2.2 });rw [hR];have H':=H;obtain⟨hA,hS,hok,hgood,hb,hlen⟩:=H;obtain⟨u,rfl⟩:=hA.lit;clear hA;have xg:=Ab hS.rp 0;simp at xg;generalize hQ:bodyPostD prog Tryz.f68 (jv w R)=Q;unfold Kd;simp only [Tryz.f68,Ee,Ga];subst hQ;refine wp_seq_k fun K1 hK1=>?_;replace hK1:=Aa hK1;unfold oL at hR;obtain⟨O1,hO1⟩:=naa (tkK 1 ([102,114,111,109]:Q00) L);have T:=Aa (Mw (b+3) p s L 1 ([102,114,111,109]:Q00) X hS.rdr);rw [hO1] at T hR;cases O1 with
 |none =>exact FD65
 |some x =>
  obtain⟨t,L1⟩:=x;dsimp only at hR;have kM:=qI hO1 hgood;obtain⟨O,hO⟩:=naa (nV 0 100000 L1);rw [hO] at hR;replace hR:=Aa hR;go_wp2_with fail;refine T.out.mono ?_;rintro e w1 ⟨hh,rfl,hP⟩;have hS1:=hS.rd hh hP;have g1:=Ab hS1.rp 0;simp at g1;have N:=Aa (Th (b+3) p s L1 0 100000 w1 hP);rw [hO] at N;clear T hS hh;go_wp2_with fail;refine hK1.out _ _ ?_;refine wp_seq_k fun K hK=>?_;replace hK:Hid (∀ (a:Act) (X:ZB),(Kd 15).wp prog (bodyPostD prog Tryz.f68 (jv w R)) a X->K a X):=Aa fun a X h=>hK a X h;cases O with
  |none =>exact FD28
  |some x =>obtain⟨n,L2⟩:=x;obtain⟨hg2,n0,n4⟩:=pJ hO kM;clear hO;go_wp2_with fail;refine N.out.mono ?_;rintro e w2 ⟨hh,rfl,hP2⟩;have hS2:=hS1.rd hh hP2;obtain⟨-,-,-,-,k9,-,-⟩:=hS2.ms.cells;have f9:=hS2.ms.free 9;have hE:Held [b] w2 (w2.setCell ⟨b,9,none⟩ ↑n):=(Held.refl _ _).bT _ _ _ sM;have hJ:=Aa (hS2.put hE (hS2.ms.NG n) rfl);clear hE;go_wp2_with fail;refine hK.out _ _ ?_;rw [<- hR.out,Option.map_map];exact Ggs s b p g h w { m with start:=n } vk L2 _ _ (H'.next ⟨rfl,rfl,rfl,rfl,rfl,rfl⟩ hJ.out ⟨⟨hok.nums.k,by constructor <;> (dsimp only;omega),hok.nums.u,hok.nums.w⟩,hok.id,hok.authority,hok.target,hok.short,hok.count,hok.depth⟩ hg2) hw0 hu0 ⟨n0,n4⟩
attribute [local go_sem ↓] Fw
theorem Pmb {w:ZB} {b:Nat} {m:aC} {vk:ZC} (h:dR b w m vk) (f0:Int) (f1:Q00) (f2 f3:Int) (fs:List CH.Formula) (v:ZC) : dR b (((((w.setCell ⟨b,4,none⟩ ↑f0).setCell ⟨b,5,none⟩ ↑f1).setCell ⟨b,6,none⟩ ↑f2).setCell ⟨b,7,none⟩ ↑f3).setCell ⟨b,8,none⟩ v) { m with aB:=.mk f0 f1 f2 f3 fs } v:=by unfold dR at h ⊢;exact FD95
theorem MpS.when {s:Q00} {b p g h:Nat} {w X X':ZB} {m m':aC} {vk vk':ZC} (H:MpS s b p g h w X m vk L) (hh:Held [b] X X') (hm:dR b X' m' vk') (hk:Ax X' (era (h+1) X') m'.aB vk'):MpS s b p g h w X' m' vk' L:=by
 obtain⟨l0,l1,l2,l3⟩:=H.line;have hz:=H.below.size;exact⟨hm,(hh.block _ (aZ H.err) sM).trans H.err,(hh.block _ (aZ H.pos) sM).trans H.pos,(hh.block _ (aZ H.rp) naf).trans H.rp,H.rdr.held hh (fun r hr=>by simp at hr;omega),
  H.below.trans (hh.below oM (fun r hr=>by simp at hr;omega)),hk,H.line⟩
theorem Its (s:Q00) (b p g h:Nat) (w:ZB) (m:aC) (vk:ZC) (L:List Q03) (a:Act) (X:ZB) (H:MpJ s b p g h w m vk L a X) (hw0:m.aQ=0) (hu0:m.aF = -1) (ht0:m.aB=qG) (hh:h<X.heap.size) : (Kd 12).wp prog (bodyPostD prog Tryz.f68 (jv w ((lD s m.kind L).map fun x=>{ m with aB:=x.1,start:=x.2.1,aF:=x.2.2.1,aQ:=x.2.2.2 }))) a X:=by
 obtain⟨R,hR⟩:=naa ((lD s m.kind L).map fun x=>{ m with aB:=x.1,start:=x.2.1,aF:=x.2.2.1,aQ:=x.2.2.2 });rw [hR];have H':=H;obtain⟨hA,hS,hok,hgood,hb,hlen⟩:=H;obtain⟨u,rfl⟩:=hA.lit;clear hA;have xg:=Ab hS.rp 0;simp at xg;generalize hQ:bodyPostD prog Tryz.f68 (jv w R)=Q;unfold Kd;simp only [Tryz.f68,Ee,Ga];subst hQ;refine wp_seq_k fun K hK=>?_;replace hK:Hid (∀ (a:Act) (X:ZB),(Kd 13).wp prog (bodyPostD prog Tryz.f68 (jv w R)) a X->K a X):=Aa fun a X h=>hK a X h;obtain⟨av,cv,hcv,hcm,hbp,hT⟩:=hS.rdr.form;have y1:=Ab hbp 1;simp at y1;obtain⟨N,hN⟩:=naa L.length;rw [hN] at hcv hbp hT y1;have T:=Aa (Ti (b+3) p s L ([105,102]:Q00) X hS.rdr);obtain⟨B,hB⟩:=naa ((dP ([105,102]:Q00) L).1);rw [hB] at T;unfold lD at hR;cases B with
 |false =>
  rw [Ai (by rw [hB];decide)] at hR;rw [Y7 hB] at T;replace hR:=Aa hR;clear hT hN;go_wp2_with fail;refine T.out.mono ?_;rintro e w1 ⟨rfl,hP,hh⟩;go_wp2_with fail;refine hK.out _ _ ?_;rw [<- hR.out,Option.map_map];have hm0:∀ st un wi:Int,({ m with aB:=qG,start:=st,aF:=un,aQ:=wi }:aC)={ m with start:=st,aF:=un,aQ:=wi }:=fun st un wi=>by rw [<- ht0]
  simp only [Function.comp_def,hm0];exact Ain s b p g h w m vk L _ _ (H'.next ⟨rfl,rfl,rfl,rfl,rfl,rfl⟩ (hS.rd hh hP) hok hgood) hw0 hu0
 |true =>
  rw [Ah hB] at hR;have hwi:=yj hB hgood;have kM:=mZ (w:=([105,102]:Q00)) hgood;obtain⟨t,L1,rfl⟩:∃ t L1,L=t::L1:=by
   cases L with
   |nil=>cases hB
   |cons t l=>exact⟨t,l,rfl⟩
  have hp0:=hgood.pos t sM;rw [show CH.posOf (t::L1)=t.pos from rfl] at hR hwi;obtain⟨bt,off,rfl,hbt,-,-,-,hc,-⟩:=hT.real.tail;have hc1:=hc 1 _ rfl;generalize (dP ([105,102]:Q00) (t::L1)).2=L2 at *;obtain⟨O,hO⟩:=naa (qy s (t.pos+2) L2);rw [hO] at hR;replace hR:=Aa hR;have hN0:0<N:=by rw [<- hN];simp
  have zw:IntKind.i64.wrap ((t.pos:Int)+2)=(t.pos:Int)+2:=by rw [IntKind.wrap_i64];omega
  clear hT hN hc hB;go_wp2_with fail;refine T.out.mono ?_;rintro e w1 ⟨rfl,hP,hh1⟩;have hS1:=hS.rd hh1 hP;have hlt1:h<w1.heap.size:=Af hh hh1.size;have xg1:=Ab hS1.rp 0;obtain⟨l0,l1,l2,l3⟩:=hS1.line;have hcW:=(Dd (p:=⟨bt,off+1,none⟩) (hh1.block bt (Bd X _ hc1) naf)).trans hc1;simp at xg1;have zg:=A8 xg1;have zc:=A8 hcW;clear T hS y1 xg hbp hc1;go_wp2_with fail;refine Ha 6 kR kR ?_;simp only [Hw,Ic,Gx,Gv];repeat (quiet_step (fail))
  refine D8 ?_;intro wq hbq;replace hbq:=Ay hbq;have hPq:=hP.below hbq;have hSq:=hS1.rd (Held.of_below hbq) hPq;have TS:h<wq.heap.size:=Af hlt1 hbq.size;have F:=Aa (Buf (b+3) p s L2 (t.pos+2) wq hPq (hwi _).1 (hwi _).2 hlen);rw [hO,show ((t.pos+2:Nat):Int)=(t.pos:Int)+2 from by omega] at F;clear zg zc hbq hcW xg1 hS1 hP hh1 hlt1;cases O with
  |none =>obtain rfl:R=none:=hR.out.symm;go_wp2_with fail;refine F.out.mono ?_;rintro e w3 ⟨hh3,n,x,rfl⟩;obtain⟨hR3,hBB⟩:=hSq.uj hh3;exact FD98
  |some x =>
   obtain⟨f,L3⟩:=x;have hg3:bU s L3:=by
    unfold qy at hO;split at hO;·cases hO
    ·cases hO;exact kM.drop _
   clear hO;go_wp2_with fail;refine F.out.mono ?_;rintro e w3 ⟨hh3,hP3,vk',rfl,hK3,hsh,hct,hdp⟩;have hS3:=hSq.rd hh3 hP3;obtain⟨ak,ck,rfl,-⟩:=hK3.form;obtain⟨f0,f1,f2,f3,f5⟩:=f;dsimp only [An,CH.Formula.op,CH.Formula.name,CH.Formula.cmp,CH.Formula.n,CH.Formula.kids] at *;have hJ:=Aa (Pmb hS3.ms f0 f1 f2 f3 f5 (.slice ak f5.length ck));generalize hfl:f5.length=fl at *;replace hfl:=Aa hfl;have k4:w3.cell? ⟨b,4,none⟩=some ↑m.aB.op:=Ab hS3.ms 4;have k5:w3.cell? ⟨b,5,none⟩=some ↑m.aB.name:=Ab hS3.ms 5;have k6:w3.cell? ⟨b,6,none⟩=some ↑m.aB.cmp:=Ab hS3.ms 6;have k7:w3.cell? ⟨b,7,none⟩=some ↑m.aB.n:=Ab hS3.ms 7;have k8:w3.cell? ⟨b,8,none⟩=some vk:=Ab hS3.ms 8;have kf:=hS3.ms.free;have hE:Held [b] w3 (((((w3.setCell ⟨b,4,none⟩ ↑f0).setCell ⟨b,5,none⟩ ↑f1).setCell ⟨b,6,none⟩ ↑f2).setCell ⟨b,7,none⟩ ↑f3).setCell ⟨b,8,none⟩ (.slice ak fl ck)):=(((((Held.refl _ _).bT _ _ _ sM).bT _ _ _ sM).bT _ _ _ sM).bT _ _ _ sM).bT _ _ _ sM;have hKX:=Aa (Ax.kept (Eg (oM:h+1<=wq.heap.size)) _ _ (Ax.mono hE.size _ _ (Ax.kept (Bw hE (fun r hr=>by simp at hr;omega)) _ _ hK3)));have hE2:=Aa hE;clear hE;go_wp2_with fail;refine hK.out _ _ ?_;rw [<- hR.out,Option.map_map];exact Ain s b p g h w { m with aB:=.mk f0 f1 f2 f3 f5 } (.slice ak fl ck) L3 _ _ (H'.next ⟨rfl,rfl,rfl,rfl,rfl,rfl⟩ (hS3.when hE2.out hJ.out hKX.out) ⟨⟨hok.nums.k,hok.nums.s,hok.nums.u,hok.nums.w⟩,hok.id,hok.authority,hok.target,hsh,by dsimp only;omega,by dsimp only;omega⟩ hg3) hw0 hu0
attribute [local go_sem ↓] Fw
def Mv:aC:=⟨[],[],0,[],qG,0,-1,0⟩
structure MpP (s:Q00) (b p g:Nat) (w:ZB) (L:List Q03) (a:Act) (X:ZB):Prop where
 act:MpA b g a
 ms:dR b X Mv (.slice none 0 0)
 err:X.heap[b+1]?=some (.cells #[.int .i64 0] 31 (0,0))
 pos:X.heap[b+2]?=some (.cells #[.int .i64 0] 3 (0,0))
 rp:X.heap[g]?=some (.cells #[.pointer (some ⟨p,0,none⟩)] 204 (0,0))
 rdr:Rdr (b+3) p X s L
 below:Below b w X
 line:b+3<=p/\p<g
 good:bU s L
 base:w.heap.size=b
 len:s.length<=20000
theorem Ly.at {α:Type} {emb:α->ZC} {r:Nat} {w w':ZB} {kvs:List (α × ZC)} (h:Ly emb r w kvs) (e:w'.heap[r]?=w.heap[r]?):Ly emb r w' kvs:=by obtain⟨es,clock,h1,h2⟩:=h;exact⟨es,clock,e.trans h1,h2⟩
theorem Pi:BK Mv:=⟨⟨dC,dC,dC,dC⟩,dC,dC,dC,by unfold Mv qG Ct;exact⟨dC,by unfold Cp;trivial⟩,dC,dC⟩
theorem Hxa (B:Nat) (w:ZB):Ax B w Mv.aB (.slice none 0 0):=by unfold Mv qG Ax;exact FD110
theorem Mrz (w:ZB):(zeroValue 1).run prog w=.ok .nilFunc w:=kR
theorem Ggt (s:Q00) (b p g:Nat) (w:ZB) (L:List Q03) (a:Act) (X:ZB) (H:MpP s b p g w L a X) : (Kd 6).wp prog (bodyPostD prog Tryz.f68 (jv w (qj s L))) a X:=by
 obtain⟨R,hR⟩:=naa (qj s L);rw [hR];unfold qj at hR;have hmf:∀ (fn:Fn) (first cap:Array ZC) (w:ZB),(Instr.makeFunc fn first cap).run prog w=.ok (.func fn first cap) w:=fun _ _ _ _=>rfl;have hmm:=@Hz prog;obtain⟨hA,hms,herr,hpos,hrp,JC,hbel,⟨l1,l2⟩,hgood,hb,hlen⟩:=H;obtain⟨u,rfl⟩:=hA.lit;clear hA;generalize hQ:bodyPostD prog Tryz.f68 (jv w R)=Q;unfold Kd;simp only [Tryz.f68,Ee,Ga];subst hQ;obtain⟨h,hh⟩:=naa X.heap.size;obtain⟨o1,o2,o3,u1,u2,u3,um⟩:=I18 (X.alloc (.cells #[.func (.func 132) #[] #[.pointer (some ⟨g,0,none⟩),.pointer (some ⟨b,0,none⟩)]] 208)) ([102,111,114,98,105,100]:Q00) ([101,120,101,109,112,116]:Q00) ([98,108,111,99,107]:Q00) (.func (.func 135) #[] #[.pointer (some ⟨b,0,none⟩),.pointer (some ⟨h,0,none⟩)]) (.func (.func 136) #[] #[.pointer (some ⟨g,0,none⟩),.pointer (some ⟨b,0,none⟩),.pointer (some ⟨h,0,none⟩)]) (.func (.func 137) #[] #[.pointer (some ⟨g,0,none⟩),.pointer (some ⟨b,0,none⟩),.pointer (some ⟨h,0,none⟩)]) rfl rfl rfl;rw [Df,hh] at u1 u2 u3 um;simp only [ay] at u1 u2 u3;refine wp_seq_k fun K hK=>?_;replace hK:=Aa hK;go_wp2_with fail;refine hK.out _ _ ?_;clear hK K;refine wp_seq_k fun K hK=>?_;replace hK:=Aa hK;go_wp2_with fail;have hgl:g<h:=by rw [<- hh];exact (aZ hrp)
 have hXY:Below X X (((((X.alloc (.cells #[.func (.func 132) #[] #[.pointer (some ⟨g,0,none⟩),.pointer (some ⟨b,0,none⟩)]] 208)).alloc (.map #[] 0)).putObj (h+1) o1).putObj (h+1) o2).putObj (h+1) o3):=Bn (Bn (Bn (((Ac _ X).alloc nR _).alloc sM _) oM _) oM _) oM _;have hfun:(((((X.alloc (.cells #[.func (.func 132) #[] #[.pointer (some ⟨g,0,none⟩),.pointer (some ⟨b,0,none⟩)]] 208)).alloc (.map #[] 0)).putObj (h+1) o1).putObj (h+1) o2).putObj (h+1) o3).heap[h]?=some (.cells #[.func (.func 132) #[] #[.pointer (some ⟨g,0,none⟩),.pointer (some ⟨b,0,none⟩)]] 208 (0,0)):=by rw [World.putObj_heap_other oM,World.putObj_heap_other oM,World.putObj_heap_other oM,<- hh];exact (Hj X _ _).1
 generalize ((((X.alloc (.cells #[.func (.func 132) #[] #[.pointer (some ⟨g,0,none⟩),.pointer (some ⟨b,0,none⟩)]] 208)).alloc (.map #[] 0)).putObj (h+1) o1).putObj (h+1) o2).putObj (h+1) o3=Y at *;have hbz:=hbel.size;have hlt:=(aZ hrp)
 have hS:MpS s b p g h w Y Mv (.slice none 0 0) L:=⟨(hXY.block b hms.lt).trans hms,(hXY.block _ (aZ herr)).trans herr,(hXY.block _ (aZ hpos)).trans hpos,(hXY.block _ hlt).trans hrp,JC.below hXY,hbel.trans (hXY.mono oM),Hxa _ _,oM,l1,l2,hgl⟩
 clear u1 u2 u3 hms herr hpos hrp JC hXY hmm hmf hlt hbel;refine hK.out _ _ ?_;clear hK K;obtain⟨O1,hO1⟩:=naa (tkK 1 [] L);have T:=Aa (Mw (b+3) p s L 1 [] Y hS.rdr);rw [hO1] at T hR;have xg:=Ab hS.rp 0;simp at xg;refine wp_seq_k fun K hK=>?_;replace hK:=Aa hK;cases O1 with
 |none =>exact FD65
 |some x =>
  obtain⟨t,L1⟩:=x;dsimp only at hR;have kM:=qI hO1 hgood;have hpt:=hgood.pos t (by rw [sW hO1];simp);go_wp2_with fail;refine T.out.mono ?_;rintro e w1 ⟨hh1,rfl,hP⟩;have hS1:=hS.rd hh1 hP;have um1:=um.at (hh1.block (h+1) (by obtain⟨_,_,q,_⟩:=um;exact (aZ q)) naf);have yU:=(hh1.block h (aZ hfun) naf).trans hfun;clear T hS um hfun hh1 xg hO1 hP;dsimp only [mG];go_wp2_with fail;have hS2:=hS1.alloc (.cells (A7 t).toArray 190);have ED:=(Ac _ w1).alloc nR (.cells (A7 t).toArray 190);have um2:=um1.at (ED.block (h+1) (by obtain⟨_,_,q,_⟩:=um1;exact (aZ q)));have uU:=(ED.block h (aZ yU)).trans yU;have gt:=Ag w1 (.cells (A7 t).toArray 190);refine hK.out _ _ ?_;clear hK K um1 yU ED hS1;have OZ:h+1<(w1.alloc (.cells (A7 t).toArray 190)).heap.size:=by obtain⟨_,_,q,_⟩:=um2;exact (aZ q)
  dsimp only [A7] at hS2 um2 uU gt OZ;generalize w1.heap.size=T at *;generalize w1.alloc (.cells [↑t.kind,↑t.pos,↑t.n,↑t.text].toArray 190)=Z at *;have c1:Z.cell? ⟨T,1,none⟩=some ↑t.pos:=Ab gt 1;have c3:Z.cell? ⟨T,3,none⟩=some ↑t.text:=Ab gt 3;have ul:=Rm Kc underlying209 .nilFunc Mrz um2 t.text;obtain⟨O,hO⟩:=naa ((lU (je t.text) L1).map (fun x=>(({ Mv with kind:=je t.text,target:=x.1,id:=x.2.1,authority:=x.2.2.1 }:aC),x.2.2.2)));have hcase:(je t.text=0/\(Instr.lookup 209 (.map (some (h+1))) ↑t.text true).run prog Z=.ok (.tuple #[.nilFunc,.bool false]) Z) \/
    ∃ (F:Nat) (C:Array ZC),je t.text≠0/\(1<=je t.text/\je t.text<=3)/\(Instr.lookup 209 (.map (some (h+1))) ↑t.text true).run prog Z=.ok (.tuple #[.func (.func F) #[] C,.bool true]) Z/\(∀ w:ZB,(callFunc F C).run prog w=.ok (.enter F C) w)/\Calls prog F C Z (vM (b+3) b p s (.slice none 0 0) Z O):=by
   subst hO
   unfold je
   by_cases e1:t.text=([102,111,114,98,105,100]:Q00)
   ·rw [Ah e1]
    rw [e1] at ul ⊢
    refine .inr ⟨_,_,dC,dC,ul,fun w=>by go_simp,?_⟩
    have HC:=End (b+3) b p g h s L1 Mv (.slice none 0 0) Z oM l1 l2 hgl hS2.ms hS2.rp uU hS2.rdr
    unfold lU
    rw [Ah rfl,Option.map_map]
    exact HC
   rw [Ai e1]
   by_cases e2:t.text=([101,120,101,109,112,116]:Q00)
   ·rw [Ah e2]
    rw [e2] at ul ⊢
    refine .inr ⟨_,_,dC,dC,ul,fun w=>by go_simp,?_⟩
    have HC:=Env (b+3) b p g h s L1 Mv (.slice none 0 0) Z oM l1 l2 hgl hS2.ms hS2.rp uU hS2.rdr
    unfold lU
    rw [Ai dC]
    cases hn:iY [] L1 with
    |none=>rw [hn] at HC;exact HC
    |some x =>
     rw [hn] at HC
     dsimp only at HC ⊢
     rw [Ah rfl,Option.map_map]
     exact HC
   rw [Ai e2]
   by_cases e3:t.text=([98,108,111,99,107]:Q00)
   ·rw [Ah e3]
    rw [e3] at ul ⊢
    refine .inr ⟨_,_,dC,dC,ul,fun w=>by go_simp,?_⟩
    have HC:=Ggr (b+3) b p g h s L1 Mv (.slice none 0 0) Z oM l1 l2 hgl hS2.ms hS2.rp uU hS2.rdr
    unfold lU
    rw [Ai dC]
    cases hn:iY [] L1 with
    |none=>rw [hn] at HC;exact HC
    |some x =>
     rw [hn] at HC
     dsimp only at HC ⊢
     rw [Ai dC,Option.map_map]
     exact HC
   rw [Ai e3]
   have q:∀ (x:Q00),¬ t.text=x->(t.text==x)=false:=fun x hx=>Dl.2 hx
   refine .inl ⟨rfl,?_⟩
   simp only [Bp,q _ e1,q _ e2,q _ e3] at ul
   exact ul
  clear ul um2 uU gt;refine wp_seq_k fun K1 hK1=>?_;replace hK1:=Aa hK1;replace hO:=Aa hO;rcases hcase with⟨hk0,ul⟩|⟨F,C,hk0,hk3,ul,hcf,HC⟩;·rw [Ah hk0] at hR;obtain rfl:R=none:=hR.symm;go_wp2_with fail;refine hK1.out _ _ ?_;refine wp_seq_k fun K2 hK2=>?_;replace hK2:=Aa hK2;obtain⟨hR3,hBB⟩:=hS2.uj (Held.refl _ _);go_wp2_with fail;exact R8 rfl rfl rfl rfl hb hR3 hBB _ _
  ·rw [Ai hk0] at hR;replace HC:=Aa HC;replace hR:=Aa hR;go_wp2_with fail;refine hK1.out _ _ ?_;refine wp_seq_k fun K2 hK2=>?_;replace hK2:=Aa hK2;go_wp2_with fail;refine hK2.out _ _ ?_;refine wp_seq_k fun K3 hK3=>?_;replace hK3:Hid (∀ (a:Act) (X:ZB),(Kd 12).wp prog (bodyPostD prog Tryz.f68 (jv w R)) a X->K3 a X):=Aa fun a X h=>hK3 a X h;clear ul hK1 hK2 c1 c3;go_wp2_with fail;refine HC.out.mono ?_;rintro e Z2 ⟨hH,hm⟩;cases O with
   |none =>
    obtain⟨⟨n,x,rfl⟩,m2,hm2⟩:=hm;obtain rfl:R=none:=by have h1:=hO.out;rw [Option.map_eq_none_iff] at h1;have h2:=hR.out;rw [h1] at h2;exact h2.symm
    obtain⟨hR3,hBB⟩:=hS2.bad hH hm2;exact FD98
   |some x =>
    obtain⟨rfl,hP2,hm2⟩:=hm;obtain⟨⟨tg,i,au,L2⟩,hbR,rfl⟩:=F7.1 hO.out;obtain⟨hg2,b1,b2,b3⟩:=wM hbR kM;have hF:((lD s (je t.text) L2).map fun x=>({ Mv with kind:=je t.text,target:=tg,id:=i,authority:=au,aB:=x.1,start:=x.2.1,aF:=x.2.2.1,aQ:=x.2.2.2 }:aC))=R:=by have h2:=hR.out;rw [hbR] at h2;rw [<- h2];dsimp only;cases lD s (je t.text) L2 <;> rfl
    replace hF:=Aa hF;dsimp only at hP2 hm2;have hS3:=hS2.fill hH hP2 hm2 rfl;have OY:h<Z2.heap.size:=Af oM hH.size;clear HC hO hR hP2 hm2 hS2;go_wp2_with fail;refine hK3.out _ _ ?_;rw [<- hF.out];have hok:BK { Mv with kind:=je t.text,target:=tg,id:=i,authority:=au }:=⟨⟨by constructor <;> (dsimp only;omega),Pi.nums.s,Pi.nums.u,Pi.nums.w⟩,by dsimp only;omega,by dsimp only;omega,by dsimp only;omega,Pi.short,Pi.count,Pi.depth⟩
    exact Its s b p g h w { Mv with kind:=je t.text,target:=tg,id:=i,authority:=au } (.slice none 0 0) L2 _ Z2 ⟨⟨rfl,rfl,rfl,rfl,rfl,rfl⟩,hS3,hok,hg2,hb,hlen⟩ rfl rfl rfl OY
attribute [local go_sem ↓] Fw
theorem Mpt (s:Q00) (w:ZB) (hs:s.length<=20000) (ts:List Q03) (hlx:CH.lex s=.ok ts):Calls prog 68 #[↑s] w (jv w (qj s ts)):=by
 have hmf:∀ (fn:Fn) (first cap:Array ZC) (w:ZB),(Instr.makeFunc fn first cap).run prog w=.ok (.func fn first cap) w:=fun _ _ _ _=>rfl;have hmm:=@Hz prog;have N3:=Aa (Ckt w);have LX:=fun o1 o2 o3=>Aa (Tr s (((w.alloc o1).alloc o2).alloc o3) hs);rw [hlx] at LX;obtain⟨R,hR⟩:=naa (qj s ts);rw [hR];replace hR:=Aa hR;have hts:=Xa hlx hs;have hgd:=bU.lex hlx;go_enter_defers func68,ntmps68;refine wp_seq_k fun K0 hK0=>?_;replace hK0:=Aa hK0;go_wp2_with fail;refine hK0.out _ _ ?_;refine wp_seq_k fun K1 hK1=>?_;replace hK1:=Aa hK1;go_wp2_with fail;refine (LX _ _ _).out.mono ?_;rintro e w1 ⟨hb1,tv,rfl,hO⟩;have hT:=hO.FY;obtain⟨n0,n1,n2,n3,n4⟩:=N3.out (.cells Lz.toArray 60) (.cells #[.int .i64 0] 31) (.cells #[.int .i64 0] 3);rw [n3] at hT;obtain⟨ta,tc,rfl,_,_⟩:=hT.form;generalize (((w.alloc _).alloc _).alloc _)=W0 at *;have g0:=(hb1.block _ oM).trans n0;have g1:=(hb1.block _ oM).trans n1;have g2:=(hb1.block _ oM).trans n2;have hB1:Below w w w1:=n4.trans (hb1.mono oM);have DC:w.heap.size+3<=w1.heap.size:=by have:=hb1.size;omega
 obtain⟨b,hb⟩:=naa w.heap.size;rw [hb] at g0 g1 g2 hB1 hT DC ⊢;clear n0 n1 n2 n3 n4 hb1 LX N3 hO;have c1:=Ab g1 0;have c2:=Ab g2 0;have f1:=Ao g1 0;have f2:=Ao g2 0;simp at c1 c2;have hH:Held [b,b+1,b+2] w1 ((w1.setCell ⟨b+1,0,none⟩ (.int .i64 0)).setCell ⟨b+1+1,0,none⟩ (.int .i64 0)):=((Held.refl _ _).bT _ _ _ sM).bT _ _ _ sM;have h0:=(As (w1.setCell ⟨b+1,0,none⟩ (.int .i64 0)) ⟨b+1+1,0,none⟩ (.int .i64 0) b (by show b≠b+1+1;omega)).trans ((As w1 ⟨b+1,0,none⟩ (.int .i64 0) b (by show b≠b+1;omega)).trans g0);have h1:=(As (w1.setCell ⟨b+1,0,none⟩ (.int .i64 0)) ⟨b+1+1,0,none⟩ (.int .i64 0) (b+1) (by show b+1≠b+1+1;omega)).trans (Al w1 (b+1) 0 (.int .i64 0) _ _ _ g1);have h2:=Al (w1.setCell ⟨b+1,0,none⟩ (.int .i64 0)) (b+1+1) 0 (.int .i64 0) _ _ _ ((As w1 ⟨b+1,0,none⟩ (.int .i64 0) (b+1+1) (by show b+1+1≠b+1;omega)).trans g2);simp at h1 h2;have k1:=Ab h1 0;simp at k1;have hT1:=hT.stay hH (fun r hr=>.inr (by simp at hr;omega)) nR;have hB2:=hB1.trans (hH.below (oM:b<=w1.heap.size) (fun r hr=>by simp at hr;omega));have hzY:=hH.size;have f2':∀ v,(w1.setCell ⟨b+1,0,none⟩ v).frozen? ⟨b+1+1,0,none⟩=false:=fun v=>Ao ((As w1 ⟨b+1,0,none⟩ v (b+1+1) (by show b+1+1≠b+1;omega)).trans g2) 0;have hzs:((w1.setCell ⟨b+1,0,none⟩ (.int .i64 0)).setCell ⟨b+1+1,0,none⟩ (.int .i64 0)).heap.size=w1.heap.size:=by simp [World.setCell]
 go_wp2_with fail;refine hK1.out _ _ ?_;clear hK0 hK1 K0 K1 f2' c1 c2 f1 f2 g0 g1 g2 hT hH hB1;generalize (w1.setCell ⟨b+1,0,none⟩ (.int .i64 0)).setCell ⟨b+1+1,0,none⟩ (.int .i64 0)=Y at *;rw [<- hzs] at hT1 DC;clear hzs hzY;refine wp_seq_k fun K2 hK2=>?_;replace hK2:=Aa hK2;go_wp2_with fail;refine hK2.out _ _ ?_;clear hK2 K2;refine wp_seq_k fun K4 hK4=>?_;replace hK4:=Aa hK4;go_wp2_with fail;refine hK4.out _ _ ?_;clear hK4 K4;refine wp_seq_k fun K5 hK5=>?_;replace hK5:=Aa hK5;go_wp2_with fail;refine hK5.out _ _ ?_;clear hK5 K5;obtain⟨r1,r2⟩:=Hj Y (.cells #[↑s,.slice ta ts.length tc] 206) (.cells #[.pointer (some ⟨Y,0,none⟩)] 204);have hYZ:=((Ac _ Y).alloc nR (.cells #[↑s,.slice ta ts.length tc] 206)).alloc sM (.cells #[.pointer (some ⟨Y,0,none⟩)] 204);generalize (Y.alloc (.cells #[↑s,.slice ta ts.length tc] 206)).alloc (.cells #[.pointer (some ⟨Y,0,none⟩)] 204)=Z at *;have z0:=(hYZ.block b (aZ h0)).trans h0;have z1:=(hYZ.block (b+1) (aZ h1)).trans h1;have z2:=(hYZ.block (b+2) (aZ h2)).trans h2;have hTZ:=hT1.stay (Held.of_below (R:=[]) hYZ) (fun r hr=>by cases hr) nR;have hBZ:=hB2.trans (hYZ.mono oM);have hlY:=(aZ r2)
 generalize Y.heap.size=p at *;have qU:(prog.info? 60).map (·.size)=some Hwl.length:=kR;have h1T:∀ v∈Hwl,v.oneCell'=true:=by simp [Value.oneCell']
 refine wp_seq_k fun K6 hK6=>?_;replace hK6:Hid (∀ (a:Act) (X:ZB),(Kd 6).wp prog (bodyPostD prog Tryz.f68 (jv w R)) a X->K6 a X):=Aa fun a X h=>hK6 a X h;go_wp2_with (refine Ca rfl 60 _ _ rfl b Hwl _ rfl rfl z0 rfl qU h1T ?_)
 intro X hX hHX hXs;go_wp2_with fail;refine hK6.out _ _ ?_;rw [<- hR.out];have e2:X.heap[b+2]?=some (.cells #[.int .i64 0] 3 (0,0)):=(hHX.block (b+2) (aZ z2) sM).trans z2;exact Ggt s b p (p+1) w ts _ X ⟨⟨rfl,rfl,rfl,rfl,rfl,rfl⟩,hX,(hHX.block (b+1) (aZ z1) sM).trans z1,e2,(hHX.block (p+1) hlY naf).trans r2,⟨_,(hHX.block p oM naf).trans r1,hTZ.stay hHX (fun r hr=>.inr (by simp at hr;omega)) oM⟩,hBZ.trans (hHX.below (by have:=hBZ.size;omega) (fun r hr=>by simp at hr;omega)),⟨DC,Cm p⟩,hgd,hb,hs⟩
theorem Ws (s:Q00) (w:ZB) (hs:s.length<=20000):Calls prog 68 #[↑s] w (jv w (qm s)):=by
 unfold qm;cases hlx:CH.lex s with
 |error x=>exact Knc s w hs x hlx
 |ok ts=>exact Mpt s w hs ts hlx
end
end Go.Proofs.Y
