/-
  ChainOrder: the proof, part 22 of 28.
-/
import Derived.Test.YtpkjhpenpfcpfaaGreatDoorP20
import Derived.Test.YtpkjhpenpfcpfaaGreatDoorP27
set_option linter.unusedSimpArgs false
set_option linter.unusedVariables false
set_option maxHeartbeats 40000000
set_option maxRecDepth 100000
open Go renaming World -> ZB, Value -> ZC, Calls -> ZE
open Go.Act renaming put -> ZF
open Decidable renaming decide -> ZH
open Go.Lib renaming itoa -> ZK
namespace Go.Proofs.YtpkjhpenpfcpfaaGreatDoor
section
open Go.Lib Go.Proofs.Tryz Go.RowKit Go.Shelf Go.Sort CH
attribute [local irreducible] wpQuiet
theorem Hb4 (a:CH.Act) (s:eX) (w:ZB) (ct:List UInt8) (h:dB w w a s) (hu:CH.unused a=true) (hk:a.kind=1) (TX:∀ (W:ZB),Below w w W->ZE prog 102 #[.agg (A9 a.change s.vn).toArray] W (Ret W (.tuple #[↑ct,.int .i64 0]))) (hl:ct.length<=1000000000) : ZE prog 51 #[.agg (Av a s).toArray] w (Ret w (.tuple #[.string ⟨(([99,104,97,110,103,101,32]:List UInt8)++ct).toArray⟩,.int .i64 0])):=by
 have AL:=Aa fun (W:ZB) (hb:Below w w W)=>Eg a s W ((h.below hb nR).mono hb.size) hu oM;have P:=Aa fun (W:ZB) (b:Nat) (hr:W.rangeAt b 0 (Av a s))=>Fl hr;rw [hk] at P;replace TX:=Aa TX;have iA:(prog.info? 65).map (·.size)=some (Av a s).length:=kR;have i1:(prog.info? 56).map (·.size)=some (A9 a.change s.vn).length:=kR;clear h hu;generalize Av a s=C at *;have hr0:=Aa (B7 w C 65);generalize A9 a.change s.vn=C1 at *;have hB0:=Aa ((Ac _ w).alloc nR (.cells C.toArray 65));have hq:¬ 9223372036854775807<7+ct.length:=oM;go_enter func51,ntmps51;go_wp2_with (refine Bf rfl 65 _ rfl w 0 rfl C _ hr0.out underlying65 rfl iA ?_)
 refine (AL.out _ hB0.out).mono ?_;rintro e w1 ⟨rfl,hb1⟩;have hB1:=hB0.out.trans (hb1.mono hB0.out.size);have PP:=P.out w1 _ (Cg hr0.out hb1 sM);have k0:=PP.1;have r1:=Aa (PP.2.1);clear PP P AL;go_wp2_with (refine Bf rfl 56 _ rfl w (0+1) rfl C1 _ r1.out underlying56 rfl i1 ?_)
 exact FD54
theorem Hb2 (a:CH.Act) (s:eX) (w:ZB) (ct:List UInt8) (h:dB w w a s) (hu:CH.unused a=true) (hk:a.kind=2) (TX:∀ (W:ZB),Below w w W->ZE prog 103 #[.agg (A4 a.measure s.vk).toArray] W (Ret W (.tuple #[↑ct,.int .i64 0]))) (hl:ct.length<=1000000000) : ZE prog 51 #[.agg (Av a s).toArray] w (Ret w (.tuple #[.string ⟨(([109,101,97,115,117,114,101,32]:List UInt8)++ct).toArray⟩,.int .i64 0])):=by
 have AL:=Aa fun (W:ZB) (hb:Below w w W)=>Eg a s W ((h.below hb nR).mono hb.size) hu oM;have P:=Aa fun (W:ZB) (b:Nat) (hr:W.rangeAt b 0 (Av a s))=>Fl hr;rw [hk] at P;replace TX:=Aa TX;have iA:(prog.info? 65).map (·.size)=some (Av a s).length:=kR;have i1:(prog.info? 61).map (·.size)=some (A4 a.measure s.vk).length:=kR;clear h hu;generalize Av a s=C at *;have hr0:=Aa (B7 w C 65);generalize A4 a.measure s.vk=C1 at *;have hB0:=Aa ((Ac _ w).alloc nR (.cells C.toArray 65));have hq:¬ 9223372036854775807<8+ct.length:=oM;go_enter func51,ntmps51;go_wp2_with (refine Bf rfl 65 _ rfl w 0 rfl C _ hr0.out underlying65 rfl iA ?_)
 refine (AL.out _ hB0.out).mono ?_;rintro e w1 ⟨rfl,hb1⟩;have hB1:=hB0.out.trans (hb1.mono hB0.out.size);have PP:=P.out w1 _ (Cg hr0.out hb1 sM);have k0:=PP.1;have r1:=Aa (PP.2.2.1);clear PP P AL;go_wp2_with (refine Bf rfl 61 _ rfl w (0+6) rfl C1 _ r1.out underlying61 rfl i1 ?_)
 exact FD54
end
section
open Go.Lib Go.Proofs.Tryz Go.RowKit Go.Shelf Go.Sort CH
attribute [local irreducible] wpQuiet
theorem Hb1 (a:CH.Act) (s:eX) (w:ZB) (h:dB w w a s) (hu:CH.unused a=true) (hk:a.kind=3) (hid:CH.isName a.id=true) (hn0:0<=a.n) (hn1:a.n<=100000) : ZE prog 51 #[.agg (Av a s).toArray] w (Ret w (.tuple #[.string ⟨(([114,101,112,101,97,108]:List UInt8)++[32]++a.id++[32]++ZK a.n++[59]).toArray⟩,.int .i64 0])):=by
 have AL:=Aa fun (W:ZB) (hb:Below w w W)=>Eg a s W ((h.below hb nR).mono hb.size) hu oM;have P:=Aa fun (W:ZB) (b:Nat) (hr:W.rangeAt b 0 (Av a s))=>Fl hr;rw [hk] at P;have NM:=Aa fun (W:ZB)=>Fw a.id W (by have:=(Br hid).2;omega);rw [hid] at NM;have DE:=Aa fun (W:ZB)=>Cf a.n W oM oM;have hd:dF a.n=ZK a.n:=by unfold dF;rw [if_neg oM]
 rw [hd] at DE;have hil:=(Br hid).2;have hnl:=N5 hn0 oM;have iA:(prog.info? 65).map (·.size)=some (Av a s).length:=kR;clear h hu hd hid;generalize Av a s=C at *;have hr0:=Aa (B7 w C 65);generalize ZK a.n=nt at *;generalize a.id=id at *;generalize a.n=n at *;have hB0:=Aa ((Ac _ w).alloc nR (.cells C.toArray 65));have q1:ZH (n<0)=false:=Aq oM;have q2:ZH (100000<n)=false:=Aq oM;exact FD53
theorem G64 (a:CH.Act) (s:eX) (w:ZB) (h:dB w w a s) (hu:CH.unused a=true) (hk:a.kind=5) (hid:CH.isName a.id=true) (hn0:0<=a.n) (hn1:a.n<=144001439) : ZE prog 51 #[.agg (Av a s).toArray] w (Ret w (.tuple #[.string ⟨(([114,101,118,111,107,101]:List UInt8)++[32]++a.id++[32]++ZK a.n++[59]).toArray⟩,.int .i64 0])):=by
 have AL:=Aa fun (W:ZB) (hb:Below w w W)=>Eg a s W ((h.below hb nR).mono hb.size) hu oM;have P:=Aa fun (W:ZB) (b:Nat) (hr:W.rangeAt b 0 (Av a s))=>Fl hr;rw [hk] at P;have NM:=Aa fun (W:ZB)=>Fw a.id W (by have:=(Br hid).2;omega);rw [hid] at NM;have DE:=Aa fun (W:ZB)=>Cf a.n W oM oM;have hd:dF a.n=ZK a.n:=by unfold dF;rw [if_neg oM]
 rw [hd] at DE;have hil:=(Br hid).2;have hnl:=N5 hn0 oM;have iA:(prog.info? 65).map (·.size)=some (Av a s).length:=kR;clear h hu hd hid;generalize Av a s=C at *;have hr0:=Aa (B7 w C 65);generalize ZK a.n=nt at *;generalize a.id=id at *;generalize a.n=n at *;have hB0:=Aa ((Ac _ w).alloc nR (.cells C.toArray 65));have q1:ZH (n<0)=false:=Aq oM;have q2:ZH (144001439<n)=false:=Aq oM;exact FD53
theorem G2a (a:CH.Act) (s:eX) (w:ZB) (h:dB w w a s) (hu:CH.unused a=true) (hk:a.kind=7) (hid:CH.isName a.id=true) (hn0:0<=a.n) (hn1:a.n<=100000) : ZE prog 51 #[.agg (Av a s).toArray] w (Ret w (.tuple #[.string ⟨(([101,110,100]:List UInt8)++[32]++a.id++[32]++ZK a.n++[59]).toArray⟩,.int .i64 0])):=by
 have AL:=Aa fun (W:ZB) (hb:Below w w W)=>Eg a s W ((h.below hb nR).mono hb.size) hu oM;have P:=Aa fun (W:ZB) (b:Nat) (hr:W.rangeAt b 0 (Av a s))=>Fl hr;rw [hk] at P;have NM:=Aa fun (W:ZB)=>Fw a.id W (by have:=(Br hid).2;omega);rw [hid] at NM;have DE:=Aa fun (W:ZB)=>Cf a.n W oM oM;have hd:dF a.n=ZK a.n:=by unfold dF;rw [if_neg oM]
 rw [hd] at DE;have hil:=(Br hid).2;have hnl:=N5 hn0 oM;have iA:(prog.info? 65).map (·.size)=some (Av a s).length:=kR;clear h hu hd hid;generalize Av a s=C at *;have hr0:=Aa (B7 w C 65);generalize ZK a.n=nt at *;generalize a.id=id at *;generalize a.n=n at *;have hB0:=Aa ((Ac _ w).alloc nR (.cells C.toArray 65));have q1:ZH (n<0)=false:=Aq oM;have q2:ZH (100000<n)=false:=Aq oM;have z1:¬ 9223372036854775807<3+1+id.length:=oM;have z2:¬ 9223372036854775807<3+1+id.length+1:=oM;have z3:¬ 9223372036854775807<3+1+id.length+1+nt.length:=oM;have z4:¬ 9223372036854775807<3+1+id.length+1+nt.length+1:=oM;exact FD8
end
section
open Go.Lib Go.Proofs.Tryz Go.RowKit Go.Shelf Go.Sort CH
attribute [local irreducible] wpQuiet
theorem Has (a:CH.Act) (s:eX) (w:ZB) (h:dB w w a s) (hu:CH.unused a=true) (hk:a.kind=4) (hok:aO a.licence=true) : ZE prog 51 #[.agg (Av a s).toArray] w (Ret w (.tuple #[.string ⟨(CH.join [32] ([([108,105,99,101,110,99,101]:List UInt8),a.licence.id,dF a.licence.quota,dF a.licence.uses,dF a.licence.start,dF a.licence.aF,dF a.licence.measures.length]++a.licence.measures++a.licence.aG)++[59]).toArray⟩,.int .i64 0])):=by
 have AL:=Aa fun (W:ZB) (hb:Below w w W)=>Eg a s W ((h.below hb nR).mono hb.size) hu oM;have P:=Aa fun (W:ZB) (b:Nat) (hr:W.rangeAt b 0 (Av a s))=>Fl hr;rw [hk] at P;have V:=Aa fun (W:ZB) (hb:Below w w W)=>Wu a.licence s.vm s.vp W ((h.lm.below hb nR).mono hb.size) ((h.lp.below hb nR).mono hb.size) hok;have HM:=Aa fun (W:ZB) (hb:Below w w W)=>h.lm.below hb nR;have HP:=Aa fun (W:ZB) (hb:Below w w W)=>h.lp.below hb nR;have hf:=hok;unfold aO CH.within aN at hf;simp only [Ar,Bl] at hf;obtain⟨⟨⟨⟨⟨⟨k1,⟨⟨k2,_⟩,⟨k3,_⟩⟩,⟨k4,k5⟩,k6⟩,k7,k8⟩,k9,k10⟩,k11,k12⟩,k13,k14⟩,k15⟩:=hf;have D1:=Aa fun (W:ZB)=>Cf a.licence.quota W oM oM;have D2:=Aa fun (W:ZB)=>Cf a.licence.uses W oM oM;have D3:=Aa fun (W:ZB)=>Cf a.licence.start W oM oM;have D4:=Aa fun (W:ZB)=>Cf a.licence.aF W oM oM;have D5:=Aa fun (W:ZB)=>Cf (a.licence.measures.length:Int) W oM oM;have i0:(prog.info? 65).map (·.size)=some (Av a s).length:=kR;have i1:(prog.info? 63).map (·.size)=some (Bu a.licence s.vm s.vp).length:=kR;have hone:∀ v∈Bu a.licence s.vm s.vp,v.oneCell'=true:=fun v hv=>Ff h v (by unfold Av;exact List.mem_cons_of_mem _ (List.mem_append_right _ (List.mem_append_right _ (List.mem_append_left _ hv))));have dl:∀ n:Int,0<=n->n<=1000000000->(dF n).length<=21:=fun n h0 h1=>by unfold dF;rw [Af oM];exact Lib.itoa_length_le n oM oM
 have hjl:(CH.join [32] ([([108,105,99,101,110,99,101]:List UInt8),a.licence.id,dF a.licence.quota,dF a.licence.uses,dF a.licence.start,dF a.licence.aF,dF a.licence.measures.length]++a.licence.measures++a.licence.aG)).length<=10000:=by
  have hj:=K8 [32] 30 ([([108,105,99,101,110,99,101]:List UInt8),a.licence.id,dF a.licence.quota,dF a.licence.uses,dF a.licence.start,dF a.licence.aF,dF a.licence.measures.length]++a.licence.measures++a.licence.aG) (fun l hl=>by
   rcases Di.1 hl with hl|hl
   ·rcases Di.1 hl with hl|hl
    ·simp only [A8,Bc,Dj] at hl;rcases hl with rfl|rfl|rfl|rfl|rfl|rfl|rfl;·decide
     ·have:=(Br k1).2;omega
     all_goals exact Ag (dl _ oM oM) oM
    ·exact Ag (Br (Dh.1 k2 l hl)).2 oM
   ·exact Ag (Br (Dh.1 k3 l hl)).2 oM)
  simp only [Aj,Az,Bj] at hj ⊢;have:(7+a.licence.measures.length+a.licence.aG.length)*31<=79*31:=Dk _ oM;omega
 obtain⟨am,cm,em,_,_⟩:=h.lm.form;obtain⟨ap,cp,ep,_,_⟩:=h.lp.form;have hcells:Bu a.licence s.vm s.vp=[↑a.licence.id,.slice am a.licence.measures.length cm,.slice ap a.licence.aG.length cp,↑a.licence.quota,↑a.licence.uses,↑a.licence.start,↑a.licence.aF]:=by unfold Bu;rw [em,ep]
 rw [em] at HM;rw [ep] at HP;have uy:=(Br k1).2;replace hjl:=Aa hjl;have hns:a.licence.measures.length<=12/\a.licence.aG.length<=60:=⟨k5,k6⟩
 clear h hu em ep k1 k2 k3 k4 k5 k6 k7 k8 k9 k10 k11 k12 k13 k14 k15 dl hok;generalize dF a.licence.quota=d1 at *;generalize dF a.licence.uses=d2 at *;generalize dF a.licence.start=d3 at *;generalize dF a.licence.aF=d4 at *;generalize dF (a.licence.measures.length:Int)=d5 at *;generalize hms:a.licence.measures=ms at *;generalize hps:a.licence.aG=ps at *;generalize a.licence.id=id at *;generalize a.licence.quota=n1 at *;generalize a.licence.uses=n2 at *;generalize a.licence.start=n3 at *;generalize a.licence.aF=n4 at *;clear hms hps;obtain⟨R,hR⟩:∃ R,Hid (CH.join [32] ([([108,105,99,101,110,99,101]:List UInt8),id,d1,d2,d3,d4,d5]++ms++ps)=R):=⟨_,Aa rfl⟩
 have hRl:R.length<=10000:=by rw [<- hR.out];exact hjl.out
 rw [hR.out];obtain⟨NM,hNM⟩:∃ NM,ms.length=NM:=⟨_,rfl⟩
 obtain⟨NP,hNP⟩:∃ NP,ps.length=NP:=⟨_,rfl⟩
 rw [hNM,hNP] at hcells;rw [hNM] at HM D5;rw [hNP] at HP;generalize Av a s=C at *;generalize Bu a.licence s.vm s.vp=C1 at *;replace hcells:=Aa hcells;have hr0:=Aa (B7 w C 65);have hB0:=Aa ((Ac _ w).alloc nR (.cells C.toArray 65));have hl7:C1.length=7:=by rw [hcells.out];rfl
 replace hl7:=Aa hl7;go_enter func51,ntmps51;go_wp2_with (refine Bf rfl 65 _ rfl w 0 rfl C _ hr0.out underlying65 rfl i0 ?_)
 refine (AL.out _ hB0.out).mono ?_;rintro e w1 ⟨rfl,hb1⟩;have hB1:=hB0.out.trans (hb1.mono hB0.out.size);have PP:=P.out w1 _ (Cg hr0.out hb1 sM);have q0:=PP.1;have r1:=Aa PP.2.2.2.1;have hn1:=Aa (B7 w1 C1 63);clear PP P AL;go_wp2_with (first|refine Bf rfl 63 _ rfl w (0+18) rfl C1 _ r1.out underlying63 rfl i1 ?_|refine Ca rfl 63 _ _ rfl C1 rfl rfl (by rw [hl7.out];rfl) i1 hone ?_|refine Bf rfl 63 _ rfl w1 0 rfl C1 _ hn1.out underlying63 rfl i1 ?_)
 have hB2:=hB1.alloc hB1.size (.cells C1.toArray 63);refine (V.out _ hB2).mono ?_;rintro e w2 ⟨rfl,hb2⟩;have hB3:=hB2.trans (hb2.mono hB2.size);have hlt1:w1.heap.size<(w1.alloc (.cells C1.toArray 63)).heap.size:=sM;clear hone V;generalize w1.alloc (.cells C1.toArray 63)=Wl at *;have K:=Aa fun (W':ZB) (hb:Below Wl Wl W') (j:Nat) (u:ZC) (hj:C1[j]?=some u)=>(show W'.cell? ⟨w1,j,none⟩=some u from by have:=Cg hn1.out hb hlt1 j u hj;rwa [Bh] at this)
 rw [hcells.out] at K;have x0:=K.out w2 hb2 0 _ rfl;have x1:=K.out w2 hb2 1 _ rfl;have x3:=K.out w2 hb2 3 _ rfl;have x4:=K.out w2 hb2 4 _ rfl;have x5:=K.out w2 hb2 5 _ rfl;have x6:=K.out w2 hb2 6 _ rfl;have y0:=@Ae _ _ _ x0;have y1:=@Ae _ _ _ x1;have y3:=@Ae _ _ _ x3;have y4:=@Ae _ _ _ x4;have y5:=@Ae _ _ _ x5;have y6:=@Ae _ _ _ x6;clear q0 r1 i0 hr0;go_wp2_with fail;refine G4 18 kR kR ?_;simp only [Je,Ia,J7,Hz];repeat (quiet_step (first|(with_reducible exact Bg (D1.out _))|(with_reducible exact Bg (D2.out _))|(with_reducible exact Bg (D3.out _))|(with_reducible exact Bg (D4.out _))|(with_reducible exact Bg (D5.out _))))
 refine Cj ?_;intro wq hbq;replace hbq:=As hbq;clear y0 y1 y3 y4 y5 y6 x0 x1 x3 x4 x5 x6;have hbw:=hb2.trans (hbq.mono hb2.size);have hBq:=hB3.trans (hbq.mono hB3.size);have hO:=Hd wq [([108,105,99,101,110,99,101]:List UInt8),id,d1,d2,d3,d4,d5] sM;have hsz:wq.heap.size<=(wq.alloc (.cells ([([108,105,99,101,110,99,101]:List UInt8),id,d1,d2,d3,d4,d5].map ay).toArray 9)).heap.size:=sM;have hS0:Below wq wq (wq.alloc (.cells ([([108,105,99,101,110,99,101]:List UInt8),id,d1,d2,d3,d4,d5].map ay).toArray 9)):=(Ac _ wq).alloc nR _;simp only [Eu,H8,ay,Az,Bj,Bh,Nat.reduceAdd] at hO hsz hS0;go_wp2_with fail;generalize hW3:wq.alloc _=W3 at *;have hD:Below wq wq W3.drew:=hS0.drew;have hOd:=hO.below (Ac _ W3).drew;replace hjl:=Aa hjl;clear hW3 hO hS0 hbq;refine F8 (S:=fun W'=>Below wq wq W') kR hD (fun hHeld=>?_);refine tk 0 (v:=?_) rfl rF hHeld ?_ ?_;rotate_left;·(intro w hSw;go_simp;try with_reducible rfl)
 (try simp only [ZF,pD,pE,pF,pA,pB,pC]);refine tk 1 (v:=?_) rfl rF hHeld ?_ ?_;rotate_left;·(intro w hSw;go_simp;try with_reducible rfl)
 (try simp only [ZF,pD,pE,pF,pA,pB,pC]);refine tk 2 (v:=?_) rfl rF hHeld ?_ ?_;rotate_left;·(intro w hSw;have q:=K.out w (hbw.trans (hSw.mono hbw.size)) 1 _ rfl;go_simp;try with_reducible rfl)
 (try simp only [ZF,pD,pE,pF,pA,pB,pC]);refine tk 4 (v:=?_) rfl rF hHeld ?_ ?_;rotate_left;·(intro w hSw;go_simp;try with_reducible rfl)
 (try simp only [ZF,pD,pE,pF,pA,pB,pC]);refine tk 5 (v:=?_) rfl rF hHeld ?_ ?_;rotate_left;·(intro w hSw;have q:=K.out w (hbw.trans (hSw.mono hbw.size)) 2 _ rfl;go_simp;try with_reducible rfl)
 (try simp only [ZF,pD,pE,pF,pA,pB,pC]);refine rk 3 rfl (fun Kx hK=>?_);rw [Ap rF];refine Cs _ _ rfl wq _ _ rfl hOd w _ ms rfl (HM.out _ (hBq.trans (hD.mono hBq.size))) (by simp;omega) hD.size ?_;intro v4 w4 hO4 hg4;have hB4:Below wq wq w4:=hD.grown hg4 hD.size (fun j hj=>(D7 hOd j hj).1);refine hK.out _ _ hB4 (fun hHeld=>?_);clear hK;(try simp only [ZF,pD,pE,pF,pA,pB,pC]);refine rk 6 rfl (fun Kx hK=>?_);rw [Ap rF];refine Cs _ _ rfl wq _ _ rfl hO4 w _ ps rfl (HP.out _ (hBq.trans (hB4.mono hBq.size))) (by simp;omega) hB4.size ?_;intro v5 w5 hO5 hg5;have hB5:Below wq wq w5:=hB4.grown hg5 hB4.size (fun j hj=>(D7 hO4 j hj).1);refine hK.out _ _ hB5 (fun hHeld=>?_);clear hK;(try simp only [ZF,pD,pE,pF,pA,pB,pC]);refine tk 7 (v:=?_) rfl rF hHeld ?_ ?_;rotate_left;·(intro w hSw;go_simp;try with_reducible rfl)
 (try simp only [ZF,pD,pE,pF,pA,pB,pC]);refine Eb kR ?_ _;have hB6:=hBq.trans (hB5.mono hBq.size);have JJ:=Aa (Ps v5 _ w5 hO5.strs (by rw [hR.out];omega));rw [hR.out] at JJ;obtain⟨a5,c5,rfl,_,_,_⟩:=hO5.form;clear hHeld hO5 hg5 hB5 hO4 hg4 hB4 hOd hD;generalize List.length (([([108,105,99,101,110,99,101]:List UInt8),id,d1,d2,d3,d4,d5]:List (List UInt8))++ms++ps)=n5 at *;have hq:¬ 9223372036854775807<R.length+1:=oM;go_wp2_with fail;refine JJ.out.mono ?_;rintro e w6 ⟨rfl,hb6⟩;clear JJ;go_wp2;refine Ah (Am rfl _ _ _) rfl ?_;exact⟨congrArg (fun b=>Ending.returned (.tuple #[.string b,.int .i64 0])) (bytes_append _ _),hB6.trans (hb6.mono hB6.size)⟩
end
section
open Go.Lib Go.Proofs.Tryz Go.RowKit Go.Shelf Go.Sort CH
attribute [local irreducible] wpQuiet
theorem Ffi {s:List UInt8} (h:s.length<=30):(ig s).length<=30:=by
 unfold ig;split;·simp
 ·exact h
theorem G2b (a:CH.Act) (s:eX) (w:ZB) (h:dB w w a s) (hu:CH.unused a=true) (hk:a.kind=6) (hok:bD a.holding=true) : ZE prog 51 #[.agg (Av a s).toArray] w (Ret w (.tuple #[.string ⟨(CH.join [32] ([([104,111,108,100,105,110,103]:List UInt8),a.holding.id,a.holding.company,a.holding.holder,ig a.holding.ah,ig a.holding.aB,dF a.holding.capital,dF a.holding.bZ,dF a.holding.start,dF a.holding.stop]++a.holding.joint)++[59]).toArray⟩,.int .i64 0])):=by
 have AL:=Aa fun (W:ZB) (hb:Below w w W)=>Eg a s W ((h.below hb nR).mono hb.size) hu oM;have P:=Aa fun (W:ZB) (b:Nat) (hr:W.rangeAt b 0 (Av a s))=>Fl hr;rw [hk] at P;have V:=Aa fun (g:Nat) (W:ZB) (hb:Below w w W) (hr:W.rangeAt g 0 (A5 a.holding s.vj)) (hg:g<W.heap.size)=>Pla a.holding s.vj g W hr hg ((h.hj.below hb nR).mono hb.size) hok;have HJ:=Aa fun (W:ZB) (hb:Below w w W)=>h.hj.below hb nR;have H:=Lk hok;have hst:-1<=a.holding.stop/\a.holding.stop<=100000:=by have:=H.en;omega
 have D1:=Aa fun (W:ZB)=>Cf a.holding.capital W (by have:=H.cap;omega) (by have:=H.cap;omega);have D2:=Aa fun (W:ZB)=>Cf a.holding.bZ W (by have:=H.vot;omega) (by have:=H.vot;omega);have D3:=Aa fun (W:ZB)=>Cf a.holding.start W (by have:=H.st;omega) (by have:=H.st;omega);have D4:=Aa fun (W:ZB)=>Cf a.holding.stop W oM oM;have E1:=Aa fun (W:ZB)=>Th a.holding.ah W;have E2:=Aa fun (W:ZB)=>Th a.holding.aB W;have i0:(prog.info? 65).map (·.size)=some (Av a s).length:=kR;have i1:(prog.info? 51).map (·.size)=some (A5 a.holding s.vj).length:=kR;have hone:∀ v∈A5 a.holding s.vj,v.oneCell'=true:=fun v hv=>Ff h v (by unfold Av;exact List.mem_cons_of_mem _ (List.mem_append_right _ (List.mem_append_right _ (List.mem_append_right _ (List.mem_append_left _ hv)))));have dl:∀ n:Int,-1<=n->n<=1000000000->(dF n).length<=30:=fun n h0 h1=>by
  unfold dF;split;·simp
  ·exact Ag (Lib.itoa_length_le n oM oM) oM
 have nl:a.holding.ah.length<=30:=by
  rcases H.nom with e|e;·rw [e];simp
  ·have:=(Br e.1).2;omega
 have pl:a.holding.aB.length<=30:=by
  rcases H.uY with e|e;·rw [e];simp
  ·have:=(Br e).2;omega
 have hjl:(CH.join [32] ([([104,111,108,100,105,110,103]:List UInt8),a.holding.id,a.holding.company,a.holding.holder,ig a.holding.ah,ig a.holding.aB,dF a.holding.capital,dF a.holding.bZ,dF a.holding.start,dF a.holding.stop]++a.holding.joint)).length<=10000:=by
  have hj:=K8 [32] 30 ([([104,111,108,100,105,110,103]:List UInt8),a.holding.id,a.holding.company,a.holding.holder,ig a.holding.ah,ig a.holding.aB,dF a.holding.capital,dF a.holding.bZ,dF a.holding.start,dF a.holding.stop]++a.holding.joint) (fun l hl=>by
   rcases Di.1 hl with hl|hl
   ·simp only [A8,Bc,Dj] at hl;rcases hl with rfl|rfl|rfl|rfl|rfl|rfl|rfl|rfl|rfl|rfl;·decide
    ·have:=(Br H.id).2;omega
    ·have:=(Br H.company).2;omega
    ·have:=(Br H.holder).2;omega
    ·exact Ffi nl
    ·exact Ffi pl
    ·have:=H.cap;exact dl _ oM oM
    ·have:=H.vot;exact dl _ oM oM
    ·have:=H.st;exact dl _ oM oM
    ·exact dl _ oM oM
   ·exact Ag (Br (H.jn l hl)).2 oM)
  have hj4:=H.j4;simp only [Aj,Az,Bj] at hj ⊢;omega
 have hns:=H.j4;obtain⟨aj,cj,ej,_,_⟩:=h.hj.form;have hcells:A5 a.holding s.vj=[↑a.holding.id,↑a.holding.company,↑a.holding.holder,↑a.holding.ah,↑a.holding.aB,.slice aj a.holding.joint.length cj,↑a.holding.capital,↑a.holding.bZ,↑a.holding.start,↑a.holding.stop]:=by unfold A5;rw [ej];first|rfl|skip
 rw [ej] at HJ;clear h hu ej H hst dl nl pl hok;generalize dF a.holding.capital=d1 at *;generalize dF a.holding.bZ=d2 at *;generalize dF a.holding.start=d3 at *;generalize dF a.holding.stop=d4 at *;generalize ig a.holding.ah=e1 at *;generalize ig a.holding.aB=e2 at *;generalize hjs:a.holding.joint=js at *;clear hjs;obtain⟨R,hR⟩:∃ R,Hid (CH.join [32] ([([104,111,108,100,105,110,103]:List UInt8),a.holding.id,a.holding.company,a.holding.holder,e1,e2,d1,d2,d3,d4]++js)=R):=⟨_,Aa rfl⟩
 have hRl:R.length<=10000:=by rw [<- hR.out];exact hjl
 rw [hR.out];obtain⟨NJ,hNJ⟩:∃ NJ,js.length=NJ:=⟨_,rfl⟩
 rw [hNJ] at hcells HJ;generalize Av a s=C at *;generalize A5 a.holding s.vj=C1 at *;replace hcells:=Aa hcells;have hr0:=Aa (B7 w C 65);have hB0:=Aa ((Ac _ w).alloc nR (.cells C.toArray 65));have hl7:C1.length=10:=by rw [hcells.out];rfl
 replace hl7:=Aa hl7;replace hjl:=Aa hjl;generalize a.holding.id=s1 at *;generalize a.holding.company=s2 at *;generalize a.holding.holder=s3 at *;generalize a.holding.ah=s4 at *;generalize a.holding.aB=s5 at *;generalize a.holding.capital=n1 at *;generalize a.holding.bZ=n2 at *;generalize a.holding.start=n3 at *;generalize a.holding.stop=n4 at *;go_enter func51,ntmps51;go_wp2_with (refine Bf rfl 65 _ rfl w 0 rfl C _ hr0.out underlying65 rfl i0 ?_)
 refine (AL.out _ hB0.out).mono ?_;rintro e w1 ⟨rfl,hb1⟩;have hB1:=hB0.out.trans (hb1.mono hB0.out.size);have PP:=P.out w1 _ (Cg hr0.out hb1 sM);have q0:=PP.1;have r1:=Aa PP.2.2.2.2.1;have hn1:=Aa (B7 w1 C1 51);clear PP P AL;have uw:=hl7.out;go_wp2_with (first|refine Bf rfl 51 _ rfl w (0+25) rfl C1 _ r1.out underlying51 rfl i1 ?_|refine Ca rfl 51 _ _ rfl C1 rfl rfl (by rw [hl7.out];rfl) i1 hone ?_|refine Bf rfl 51 _ rfl w1 0 rfl C1 _ hn1.out underlying51 rfl i1 ?_)
 rw [Tu C1 _ (by rw [uw];rfl)];clear uw hone;have hB2:=hB1.alloc hB1.size (.cells C1.toArray 51);have hB3:=hB2.alloc hB2.size (.cells C1.toArray 51);have hg2:(w1.alloc (.cells C1.toArray 51)).rangeAt w1.heap.size 0 C1:=hn1.out;have hrg:((w1.alloc (.cells C1.toArray 51)).alloc (.cells C1.toArray 51)).rangeAt (w1.heap.size+1) 0 C1:=by have:=B7 (w1.alloc (.cells C1.toArray 51)) C1 51;rwa [Dt] at this
 have hgs:w1.heap.size+1<((w1.alloc (.cells C1.toArray 51)).alloc (.cells C1.toArray 51)).heap.size:=sM;have hra:=Nd hn1.out (.cells C1.toArray 51);generalize (w1.alloc (.cells C1.toArray 51)).alloc (.cells C1.toArray 51)=Wl at *;have hlt1:w1.heap.size<Wl.heap.size:=oM;have K:=Aa fun (W':ZB) (hb:Below Wl Wl W') (j:Nat) (u:ZC) (hj:C1[j]?=some u)=>(show W'.cell? ⟨w1,j,none⟩=some u from by have:=Cg hra hb hlt1 j u hj;rwa [Bh] at this)
 rw [hcells.out] at K;refine (V.out (w1+1) Wl hB3 hrg hgs).mono ?_;rintro e w2 ⟨rfl,hb2⟩;replace hB3:=hB3.trans (hb2.mono hB3.size);clear V q0 r1 i0 hr0 hg2 hrg hgs hra hn1;have x:=K.out w2 hb2;have x0:=x 0 _ rfl;have x1:=x 1 _ rfl;have x2:=x 2 _ rfl;have x3:=x 3 _ rfl;have x4:=x 4 _ rfl;have x6:=x 6 _ rfl;have x7:=x 7 _ rfl;have x8:=x 8 _ rfl;have x9:=x 9 _ rfl;have y0:=@Ae _ _ _ x0;have y1:=@Ae _ _ _ x1;have y2:=@Ae _ _ _ x2;have y3:=@Ae _ _ _ x3;have y4:=@Ae _ _ _ x4;have y6:=@Ae _ _ _ x6;have y7:=@Ae _ _ _ x7;have y8:=@Ae _ _ _ x8;have y9:=@Ae _ _ _ x9;clear x;go_wp2_with fail;refine G4 24 kR kR ?_;simp only [Je,Ia,J7,Hz];repeat (quiet_step (first|(with_reducible exact Bg (D1.out _))|(with_reducible exact Bg (D2.out _))|(with_reducible exact Bg (D3.out _))|(with_reducible exact Bg (D4.out _))|(with_reducible exact Bg (E1.out _))|(with_reducible exact Bg (E2.out _))))
 refine Cj ?_;intro wq hbq;replace hbq:=As hbq;clear y0 y1 y2 y3 y4 y6 y7 y8 y9 x0 x1 x2 x3 x4 x6 x7 x8 x9;have hbw:=hb2.trans (hbq.mono hb2.size);have hBq:=hB3.trans (hbq.mono hB3.size);have hO:=Hd wq [([104,111,108,100,105,110,103]:List UInt8),s1,s2,s3,e1,e2,d1,d2,d3,d4] sM;have hS0:Below wq wq (wq.alloc (.cells ([([104,111,108,100,105,110,103]:List UInt8),s1,s2,s3,e1,e2,d1,d2,d3,d4].map ay).toArray 9)):=(Ac _ wq).alloc nR _;simp only [Eu,H8,ay,Az,Bj,Bh,Nat.reduceAdd] at hO hS0;have x5:=K.out _ (hbw.trans (hS0.mono hbw.size)) 5 _ rfl;have hJ:=HJ.out _ (hBq.trans (hS0.mono hBq.size));have hsz:wq.heap.size<=(wq.alloc (.cells #[.string ⟨[104,111,108,100,105,110,103].toArray⟩,↑s1,↑s2,↑s3,↑e1,↑e2,↑d1,↑d2,↑d3,↑d4] 9)).heap.size:=hS0.size;replace hO:=Aa hO;replace hS0:=Aa hS0;replace hJ:=Aa hJ;go_wp2_with (at_builtin;refine Mw rfl _ _ rfl wq _ [([104,111,108,100,105,110,103]:List UInt8),s1,s2,s3,e1,e2,d1,d2,d3,d4] rfl hO.out w _ js rfl hJ.out (by simp;omega) hsz ?_)
 intro v5 w5 hO5 hg5 _;have hB5:Below wq wq w5:=hS0.out.grown hg5 hsz (fun j hj=>(D7 hO.out j hj).1);have hB6:=hBq.trans (hB5.mono hBq.size);have hR2:=hR.out;rw [Dn,Dn,Dn,Dn,Dn,Dn,Dn,Dn,Dn,Dn,Dp] at hR2;have JJ:=Aa (Ps v5 _ w5 hO5.strs (by rw [hR2];omega));rw [hR2] at JJ;clear hR2;obtain⟨a5,c5,rfl,_,_,_⟩:=hO5.form;clear hO5 hg5 hB5 hO hS0 hJ x5 hsz hbq hbw;generalize List.length (([104,111,108,100,105,110,103]:List UInt8)::s1::s2::s3::e1::e2::d1::d2::d3::d4::js)=n5 at *;have hq:¬ 9223372036854775807<R.length+1:=oM;go_wp2_with fail;refine JJ.out.mono ?_;rintro e w6 ⟨rfl,hb6⟩;clear JJ;go_wp2;refine Ah (Am rfl _ _ _) rfl ?_;exact⟨congrArg (fun b=>Ending.returned (.tuple #[.string b,.int .i64 0])) (bytes_append _ _),hB6.trans (hb6.mono hB6.size)⟩
end
section
open Go.Lib Go.Proofs.Tryz Go.RowKit Go.Shelf Go.Sort CH
theorem S9 (n:Int):(CH.Word.int n).texts=[dF n]:=by show (if n = -1 then _ else _)=_;unfold dF;split <;> rfl
theorem Sz (s:List UInt8):(CH.Word.str s).texts=[ig s]:=by
 show [if s=[] then _ else _]=_;unfold ig;by_cases h:s=[]
 ·rw [Ap h,Ap (by simpa using h)]
 ·rw [Af h,Af (by simpa using h)]
theorem Ifv (l:List (List UInt8)):(CH.Word.strs l).texts=l:=rfl
theorem Hi {s:List UInt8} (h:1<=s.length):ig s=s:=by unfold ig;rw [Af];intro e;simp only [Dz] at e;rw [e] at h;simp at h
theorem I28 (a:CH.Act) (s:eX) (w:ZB) (t:List UInt8) (h:fJ w w a s) (ht:aQ a=some t) : ZE prog 51 #[.agg (Av a s).toArray] w (Ret w (.tuple #[↑t,.int .i64 0])):=by
 have hlen:=Mx ht h;unfold aQ at ht;split at ht;·cases ht
 rename_i hu;have hu:CH.unused a=true:=by simpa using hu
 have hr:=h.raw;split at ht
 ·rename_i hk;cases hc:bM a.change with
  |none=>rw [hc] at ht;cases ht
  |some ct =>rw [hc] at ht;cases ht;have hS:=h.small.change.entry.names;refine Hb4 a s w ct hr hu hk (fun W hb=>Bk2 a.change s.vn W ct ((h.names.below hb nR).mono hb.size) hS hc) ?_;simp only [Aj] at hlen;omega
 split at ht
 ·rename_i hk;cases hc:cu a.measure with
  |none=>rw [hc] at ht;cases ht
  |some ct =>rw [hc] at ht;cases ht;refine Hb2 a s w ct hr hu hk (fun W hb=>Y7 a.measure s.vk W ct (A6.mono hb.size _ _ (A6.below hb nR _ _ h.meas.kids)) h.meas.short hc) ?_;simp only [Aj] at hlen;omega
 split at ht
 ·rename_i hk;split at ht
  ·rename_i hok;cases ht;have:=Has a s w hr hu hk hok;have hid:CH.isName a.licence.id=true:=by unfold aO at hok;simp only [Ar] at hok;exact hok.1.1.1.1.1.1
   unfold CH.words;simp only [Ej,Gw,S9,Sz,Ifv,Hi (Br hid).1,Hi (s:=([108,105,99,101,110,99,101]:List UInt8)) dC,Gy];exact this
  ·cases ht
 split at ht
 ·rename_i hk;split at ht;·rename_i hok;cases ht;have:=G2b a s w hr hu hk hok;have H:=Lk hok;unfold CH.words;simp only [Ej,Gw,S9,Sz,Ifv,Hi (Br H.id).1,Hi (s:=([104,111,108,100,105,110,103]:List UInt8)) dC,Hi (Br H.company).1,Hi (Br H.holder).1,Gy];exact this
  ·cases ht
 by_cases hk:a.kind=5\/a.kind=3\/a.kind=7
 ·rw [Ap hk] at ht;by_cases hok:(CH.ident a.id&&CH.within a.n (if a.kind=5 then 144001439 else 100000))=true
  ·rw [Ap hok] at ht;cases ht;rw [Ar] at hok;have hn:=jJ hok.1;have hw:=hok.2;unfold CH.within at hw;rw [Ar,Bl,Bl] at hw;have hdn:dF a.n=ZK a.n:=by unfold dF;rw [if_neg oM]
   have e1:=Hi (Br hn).1;rcases hk with e|e|e
   ·have:=G64 a s w hr hu e hn hw.1 (by have:=hw.2;rw [Ap e] at this;exact this);have hx:CH.words [.str (iT a.kind),.str a.id,.int a.n]=([114,101,118,111,107,101]:List UInt8)++[32]++a.id++[32]++ZK a.n:=by rw [e,show iT 5=([114,101,118,111,107,101]:List UInt8) from rfl];unfold CH.words;simp only [Ej,Gw,S9,Sz,e1,hdn,Hi (s:=([114,101,118,111,107,101]:List UInt8)) dC];simp [CH.join]
    rw [hx];exact this
   ·have:=Hb1 a s w hr hu e hn hw.1 (by have:=hw.2;rw [Af oM] at this;exact this);have hx:CH.words [.str (iT a.kind),.str a.id,.int a.n]=([114,101,112,101,97,108]:List UInt8)++[32]++a.id++[32]++ZK a.n:=by rw [e,show iT 3=([114,101,112,101,97,108]:List UInt8) from rfl];unfold CH.words;simp only [Ej,Gw,S9,Sz,e1,hdn,Hi (s:=([114,101,112,101,97,108]:List UInt8)) dC];simp [CH.join]
    rw [hx];exact this
   ·have:=G2a a s w hr hu e hn hw.1 (by have:=hw.2;rw [Af oM] at this;exact this);have hx:CH.words [.str (iT a.kind),.str a.id,.int a.n]=([101,110,100]:List UInt8)++[32]++a.id++[32]++ZK a.n:=by rw [e,show iT 7=([101,110,100]:List UInt8) from rfl];unfold CH.words;simp only [Ej,Gw,S9,Sz,e1,hdn,Hi (s:=([101,110,100]:List UInt8)) dC];simp [CH.join]
    rw [hx];exact this
  ·rw [Af hok] at ht;cases ht
 ·rw [Af hk] at ht;cases ht
end
section
open Go.Lib Go.Proofs.Tryz Go.RowKit Go.Shelf Go.Sort CH
attribute [local irreducible] wpQuiet
theorem Glq (a:CH.Act) (s:eX) (w:ZB) (h:dB w w a s) (hu:(ZH (1<=a.kind/\a.kind<=7)&&CH.unused a)=false) : ZE prog 51 #[.agg (Av a s).toArray] w (Ret w (.tuple #[.string ⟨#[]⟩,.int .i64 1])):=by
 have AL:=Aa fun (W:ZB) (hb:Below w w W)=>Qr a s W ((h.below hb nR).mono hb.size);rw [hu] at AL;have iA:(prog.info? 65).map (·.size)=some (Av a s).length:=kR;clear h hu;generalize Av a s=C at *;have hr0:=Aa (B7 w C 65);have hB0:=Aa ((Ac _ w).alloc nR (.cells C.toArray 65));go_enter func51,ntmps51;go_wp2_with (refine Bf rfl 65 _ rfl w 0 rfl C _ hr0.out underlying65 rfl iA ?_)
 refine (AL.out _ hB0.out).mono ?_;rintro e w1 ⟨rfl,hb1⟩;have hB1:=hB0.out.trans (hb1.mono hB0.out.size);exact FD90
theorem Hb5 (a:CH.Act) (s:eX) (w:ZB) (h:dB w w a s) (hu:CH.unused a=true) (hk:a.kind=1) (TX:∀ (W:ZB),Below w w W->ZE prog 102 #[.agg (A9 a.change s.vn).toArray] W (Ret W (.tuple #[.string ⟨#[]⟩,.int .i64 1]))) : ZE prog 51 #[.agg (Av a s).toArray] w (Ret w (.tuple #[.string ⟨#[]⟩,.int .i64 1])):=by
 have AL:=Aa fun (W:ZB) (hb:Below w w W)=>Eg a s W ((h.below hb nR).mono hb.size) hu oM;have P:=Aa fun (W:ZB) (b:Nat) (hr:W.rangeAt b 0 (Av a s))=>Fl hr;rw [hk] at P;replace TX:=Aa TX;have iA:(prog.info? 65).map (·.size)=some (Av a s).length:=kR;have i1:(prog.info? 56).map (·.size)=some (A9 a.change s.vn).length:=kR;clear h hu;generalize Av a s=C at *;have hr0:=Aa (B7 w C 65);generalize A9 a.change s.vn=C1 at *;have hB0:=Aa ((Ac _ w).alloc nR (.cells C.toArray 65));go_enter func51,ntmps51;go_wp2_with (refine Bf rfl 65 _ rfl w 0 rfl C _ hr0.out underlying65 rfl iA ?_)
 refine (AL.out _ hB0.out).mono ?_;rintro e w1 ⟨rfl,hb1⟩;have hB1:=hB0.out.trans (hb1.mono hB0.out.size);have PP:=P.out w1 _ (Cg hr0.out hb1 sM);have k0:=PP.1;have r1:=Aa (PP.2.1);clear PP P AL;go_wp2_with (refine Bf rfl 56 _ rfl w (0+1) rfl C1 _ r1.out underlying56 rfl i1 ?_)
 exact FD114
theorem Hb3 (a:CH.Act) (s:eX) (w:ZB) (h:dB w w a s) (hu:CH.unused a=true) (hk:a.kind=2) (TX:∀ (W:ZB),Below w w W->ZE prog 103 #[.agg (A4 a.measure s.vk).toArray] W (Ret W (.tuple #[.string ⟨#[]⟩,.int .i64 1]))) : ZE prog 51 #[.agg (Av a s).toArray] w (Ret w (.tuple #[.string ⟨#[]⟩,.int .i64 1])):=by
 have AL:=Aa fun (W:ZB) (hb:Below w w W)=>Eg a s W ((h.below hb nR).mono hb.size) hu oM;have P:=Aa fun (W:ZB) (b:Nat) (hr:W.rangeAt b 0 (Av a s))=>Fl hr;rw [hk] at P;replace TX:=Aa TX;have iA:(prog.info? 65).map (·.size)=some (Av a s).length:=kR;have i1:(prog.info? 61).map (·.size)=some (A4 a.measure s.vk).length:=kR;clear h hu;generalize Av a s=C at *;have hr0:=Aa (B7 w C 65);generalize A4 a.measure s.vk=C1 at *;have hB0:=Aa ((Ac _ w).alloc nR (.cells C.toArray 65));go_enter func51,ntmps51;go_wp2_with (refine Bf rfl 65 _ rfl w 0 rfl C _ hr0.out underlying65 rfl iA ?_)
 refine (AL.out _ hB0.out).mono ?_;rintro e w1 ⟨rfl,hb1⟩;have hB1:=hB0.out.trans (hb1.mono hB0.out.size);have PP:=P.out w1 _ (Cg hr0.out hb1 sM);have k0:=PP.1;have r1:=Aa (PP.2.2.1);clear PP P AL;go_wp2_with (refine Bf rfl 61 _ rfl w (0+6) rfl C1 _ r1.out underlying61 rfl i1 ?_)
 exact FD114
theorem Hb0 (a:CH.Act) (s:eX) (w:ZB) (h:dB w w a s) (hu:CH.unused a=true) (hk:a.kind=4) (V:∀ (W:ZB),Below w w W->ZE prog 104 #[.agg (Bu a.licence s.vm s.vp).toArray] W (Ret W (.bool false))) : ZE prog 51 #[.agg (Av a s).toArray] w (Ret w (.tuple #[.string ⟨#[]⟩,.int .i64 1])):=by
 have AL:=Aa fun (W:ZB) (hb:Below w w W)=>Eg a s W ((h.below hb nR).mono hb.size) hu oM;have P:=Aa fun (W:ZB) (b:Nat) (hr:W.rangeAt b 0 (Av a s))=>Fl hr;rw [hk] at P;replace V:=Aa V;have i0:(prog.info? 65).map (·.size)=some (Av a s).length:=kR;have i1:(prog.info? 63).map (·.size)=some (Bu a.licence s.vm s.vp).length:=kR;have hone:∀ v∈Bu a.licence s.vm s.vp,v.oneCell'=true:=fun v hv=>Ff h v (by unfold Av;exact List.mem_cons_of_mem _ (List.mem_append_right _ (List.mem_append_right _ (List.mem_append_left _ hv))));have hl7:Hid ((Bu a.licence s.vm s.vp).length=7):=Aa rfl;clear h hu;generalize Av a s=C at *;generalize Bu a.licence s.vm s.vp=C1 at *;have hr0:=Aa (B7 w C 65);have hB0:=Aa ((Ac _ w).alloc nR (.cells C.toArray 65));go_enter func51,ntmps51;go_wp2_with (refine Bf rfl 65 _ rfl w 0 rfl C _ hr0.out underlying65 rfl i0 ?_)
 refine (AL.out _ hB0.out).mono ?_;rintro e w1 ⟨rfl,hb1⟩;have hB1:=hB0.out.trans (hb1.mono hB0.out.size);have PP:=P.out w1 _ (Cg hr0.out hb1 sM);have q0:=PP.1;have r1:=Aa PP.2.2.2.1;have hn1:=Aa (B7 w1 C1 63);clear PP P AL;go_wp2_with (first|refine Bf rfl 63 _ rfl w (0+18) rfl C1 _ r1.out underlying63 rfl i1 ?_|refine Ca rfl 63 _ _ rfl C1 rfl rfl (by rw [hl7.out];rfl) i1 hone ?_|refine Bf rfl 63 _ rfl w1 0 rfl C1 _ hn1.out underlying63 rfl i1 ?_)
 have hB2:=hB1.alloc hB1.size (.cells C1.toArray 63);refine (V.out _ hB2).mono ?_;rintro e w2 ⟨rfl,hb2⟩;have hB3:=hB2.trans (hb2.mono hB2.size);go_wp2;refine Ah (Am rfl _ _ _) rfl ?_;exact⟨rfl,hB3⟩
theorem G2c (a:CH.Act) (s:eX) (w:ZB) (h:dB w w a s) (hu:CH.unused a=true) (hk:a.kind=6) (V:∀ (g:Nat) (W:ZB),Below w w W->W.rangeAt g 0 (A5 a.holding s.vj)->g<W.heap.size->ZE prog 105 #[.slice (some ⟨g,0,none⟩) 1 1] W (Ret W (.bool false))) : ZE prog 51 #[.agg (Av a s).toArray] w (Ret w (.tuple #[.string ⟨#[]⟩,.int .i64 1])):=by
 have AL:=Aa fun (W:ZB) (hb:Below w w W)=>Eg a s W ((h.below hb nR).mono hb.size) hu oM;have P:=Aa fun (W:ZB) (b:Nat) (hr:W.rangeAt b 0 (Av a s))=>Fl hr;rw [hk] at P;replace V:=Aa V;have i0:(prog.info? 65).map (·.size)=some (Av a s).length:=kR;have i1:(prog.info? 51).map (·.size)=some (A5 a.holding s.vj).length:=kR;have hone:∀ v∈A5 a.holding s.vj,v.oneCell'=true:=fun v hv=>Ff h v (by unfold Av;exact List.mem_cons_of_mem _ (List.mem_append_right _ (List.mem_append_right _ (List.mem_append_right _ (List.mem_append_left _ hv)))));have hl7:Hid ((A5 a.holding s.vj).length=10):=Aa rfl;clear h hu;generalize Av a s=C at *;generalize A5 a.holding s.vj=C1 at *;have hr0:=Aa (B7 w C 65);have hB0:=Aa ((Ac _ w).alloc nR (.cells C.toArray 65));go_enter func51,ntmps51;go_wp2_with (refine Bf rfl 65 _ rfl w 0 rfl C _ hr0.out underlying65 rfl i0 ?_)
 refine (AL.out _ hB0.out).mono ?_;rintro e w1 ⟨rfl,hb1⟩;have hB1:=hB0.out.trans (hb1.mono hB0.out.size);have PP:=P.out w1 _ (Cg hr0.out hb1 sM);have q0:=PP.1;have r1:=Aa PP.2.2.2.2.1;have hn1:=Aa (B7 w1 C1 51);clear PP P AL;have uw:=hl7.out;go_wp2_with (first|refine Bf rfl 51 _ rfl w (0+25) rfl C1 _ r1.out underlying51 rfl i1 ?_|refine Ca rfl 51 _ _ rfl C1 rfl rfl (by rw [hl7.out];rfl) i1 hone ?_|refine Bf rfl 51 _ rfl w1 0 rfl C1 _ hn1.out underlying51 rfl i1 ?_)
 rw [Tu C1 _ (by rw [uw];rfl)];clear uw hone;have hB2:=hB1.alloc hB1.size (.cells C1.toArray 51);have hB3:=hB2.alloc hB2.size (.cells C1.toArray 51);have hrg:((w1.alloc (.cells C1.toArray 51)).alloc (.cells C1.toArray 51)).rangeAt (w1.heap.size+1) 0 C1:=by have:=B7 (w1.alloc (.cells C1.toArray 51)) C1 51;rwa [Dt] at this
 have hgs:w1.heap.size+1<((w1.alloc (.cells C1.toArray 51)).alloc (.cells C1.toArray 51)).heap.size:=sM;generalize (w1.alloc (.cells C1.toArray 51)).alloc (.cells C1.toArray 51)=Wl at *;refine (V.out (w1+1) Wl hB3 hrg hgs).mono ?_;rintro e w2 ⟨rfl,hb2⟩;have hB4:=hB3.trans (hb2.mono hB3.size);go_wp2;refine Ah (Am rfl _ _ _) rfl ?_;exact⟨rfl,hB4⟩
theorem Got (a:CH.Act) (s:eX) (w:ZB) (h:dB w w a s) (hu:CH.unused a=true) (k:Int) (hk:a.kind=k) (hk3:k=3\/k=5\/k=7) (hl:a.id.length<=9223372036854775807) (hno:(CH.isName a.id&&CH.within a.n (if k=5 then 144001439 else 100000))=false) : ZE prog 51 #[.agg (Av a s).toArray] w (Ret w (.tuple #[.string ⟨#[]⟩,.int .i64 1])):=by
 have AL:=Aa fun (W:ZB) (hb:Below w w W)=>Eg a s W ((h.below hb nR).mono hb.size) hu oM;have P:=Aa fun (W:ZB) (b:Nat) (hr:W.rangeAt b 0 (Av a s))=>Fl hr;rw [hk] at P;have NM:=Aa fun (W:ZB)=>Fw a.id W hl;have iA:(prog.info? 65).map (·.size)=some (Av a s).length:=kR;clear h hu hk hl;generalize Av a s=C at *;have hr0:=Aa (B7 w C 65);generalize CH.isName a.id=b at *;generalize a.id=id at *;generalize a.n=n at *;have hB0:=Aa ((Ac _ w).alloc nR (.cells C.toArray 65));have hc:b=false\/b=true/\ZH (n<0)=true\/b=true/\ZH (n<0)=false/\ZH ((if k=5 then 144001439 else 100000)<n)=true:=by
  unfold CH.within at hno;cases b;·exact .inl rfl
  ·simp only [a_Bool_true_and,Ih,Df] at hno;by_cases q:n<0;·exact .inr (.inl ⟨rfl,Ak q⟩)
   ·exact .inr (.inr ⟨rfl,Aq q,Ak oM⟩)
 clear hno;have hB:=hB0.out;rcases hk3 with rfl|rfl|rfl;all_goals
  simp only [reduceIte,Int.reduceEq] at hc;go_enter func51,ntmps51;go_wp2_with (refine Bf rfl 65 _ rfl w 0 rfl C _ hr0.out underlying65 rfl iA ?_)
  refine (AL.out _ hB0.out).mono ?_;rintro e w1 ⟨rfl,hb1⟩;have hB1:=hB0.out.trans (hb1.mono hB0.out.size);have PP:=P.out w1 _ (Cg hr0.out hb1 sM);have k0:=PP.1;have k35:=PP.2.2.2.2.2.1;rw [Bh] at k35;clear PP AL;go_wp2_with fail;refine (NM.out _).mono ?_;rintro e w2 ⟨rfl,hb2⟩;have hB2:=hB1.trans (hb2.mono hB1.size);replace hb2:=hb1.trans (hb2.mono hb1.size);have PP:=P.out w2 _ (Cg hr0.out hb2 sM);clear k0 k35;have k36:=PP.2.2.2.2.2.2;rw [Bh] at k36;clear PP P NM;rcases hc with rfl|⟨rfl,q1⟩|⟨rfl,q1,q2⟩;all_goals go_wp2;refine Ah (Am rfl _ _ _) rfl ?_;exact⟨rfl,hB2⟩
theorem I29 (a:CH.Act) (s:eX) (w:ZB) (h:fJ w w a s) (ht:aQ a=none) : ZE prog 51 #[.agg (Av a s).toArray] w (Ret w (.tuple #[.string ⟨#[]⟩,.int .i64 1])):=by
 cases hA:ZH (1<=a.kind/\a.kind<=7)&&CH.unused a with
 |false=>exact Glq a s w h.raw hA
 |true =>
 rw [Ar,Bl] at hA;obtain⟨hk,hu⟩:=hA;have hS:=h.small;have big:∀ {n:Nat},n<=10000->n<=4611686018427387904:=fun e=>by omega
 have tH:∀ {n:Nat},n<=10000->n<=9223372036854775807:=fun e=>by omega
 unfold aQ at ht;rw [hu] at ht;simp only [Gi,G9,Kr] at ht;rcases (oM:a.kind=1\/a.kind=2\/a.kind=4\/a.kind=6\/a.kind=3\/a.kind=5\/a.kind=7) with e|e|e|e|e;·rw [Ap e,Option.map_eq_none_iff] at ht;exact Hb5 a s w h.raw hu e fun W hb=>Bla a.change s.vn W ((h.names.below hb nR).mono hb.size) (fun n hn l hl=>Ag ((hS.change.entry.names n hn).2 l hl) oM) (tH hS.change.id) (tH hS.change.entry.id) ht
 ·rw [Af oM,Ap e,Option.map_eq_none_iff] at ht;exact Hb3 a s w h.raw hu e fun W hb=>Y8 a.measure s.vk W (A6.mono hb.size _ _ (A6.below hb nR _ _ h.meas.kids)) h.meas.short h.meas.count h.meas.depth (tH h.meas.id) (tH h.meas.authority) (tH h.meas.target) ht
 ·rw [Af oM,Af oM,Ap e] at ht;refine Hb0 a s w h.raw hu e fun W hb=>?_;have:=Sy a.licence s.vm s.vp W ((h.lm.below hb nR).mono hb.size) ((h.lp.below hb nR).mono hb.size) (big hS.lid) (fun x hx=>big (hS.lm.2 x hx)) (fun x hx=>big (hS.lp.2 x hx));split at ht;·cases ht
  ·rename_i q;rwa [show aO a.licence=false by simpa using q] at this
 ·rw [Af oM,Af oM,Af oM,Ap e] at ht;refine G2c a s w h.raw hu e fun g W hb hr hg=>?_;have H:=hS.hold;have:=Tj a.holding s.vj g W hr hg ((h.hj.below hb nR).mono hb.size) ⟨big H.id,big H.company,big H.holder,big H.ah,big H.aB,fun x hx=>big (H.joint.2 x hx)⟩;split at ht;·cases ht
  ·rename_i q;rwa [show bD a.holding=false by simpa using q] at this
 ·rw [Af oM,Af oM,Af oM,Af oM,Ap oM] at ht;refine Got a s w h.raw hu a.kind rfl e (tH hS.id) ?_;rw [<- lN];by_cases q:(CH.ident a.id&&CH.within a.n (if a.kind=5 then 144001439 else 100000))=true;·rw [Ap q] at ht;cases ht
  ·simpa only [Bool.not_eq_true] using q
end
section
open Go.Lib Go.Proofs.Tryz Go.RowKit Go.Shelf Go.Sort CH
attribute [local irreducible] wpQuiet
theorem Are {v:CH.Version} {t:List UInt8} (h:CH.bare v=some t):(0<=v.authority/\v.authority<6/\1<=v.number/\v.number<=200/\0<=v.pos/\v.pos<=144001439/\v.acts.length<=40) /\ (v.number=1/\v.prev=[]\/v.number≠1/\v.prev≠[]/\aC v.prev=true)/\(∀ a∈v.acts,(aQ a).isSome=true)/\t=CH.words (F0 v)++[10]++v.acts.flatMap Cn:=by
 rw [Rz] at h;split at h;·cases h
 ·rename_i hc;simp only [Dq,Fg,Jy,Jb,Ar,Bl,bne_iff_ne,ne_eq,Decidable.not_not,not_and] at hc;obtain⟨⟨⟨⟨⟨⟨⟨⟨a1,a2⟩,a3⟩,a4⟩,a5⟩,a6⟩,a7⟩,b⟩,c⟩:=hc;have hall:∀ a∈v.acts,(aQ a).isSome=true:=fun a ha=>by
   cases hx:aQ a with
   |some _=>rfl
   |none=>rw [K3 hx _ ha] at h;cases h
  rw [K2 _ hall] at h;cases h;refine⟨⟨a1,a2,a3,a4,a5,a6,oM⟩,?_,hall,rfl⟩;by_cases e:v.number=1;·left;rw [e] at b;exact⟨e,by simpa using b.symm⟩
  ·right;have hn:(v.number==1)=false:=by simpa using e
   rw [hn] at b;have hp:v.prev≠[]:=by simpa using b.symm
   exact⟨e,hp,c hp⟩
theorem L38 (l:List CH.Act) (k:Nat) (x:CH.Act) (h:l[k]?=some x):(l.take (k+1)).flatMap Cn=(l.take k).flatMap Cn++Cn x:=by rw [D6,h,F7,Ig];simp
def qE (v:CH.Version):Prop:=(0<=v.authority/\v.authority<6/\1<=v.number/\v.number<=200/\0<=v.pos/\v.pos<=144001439/\v.acts.length<=40)/\(v.number=1/\v.prev=[]\/v.number≠1/\v.prev≠[]/\aC v.prev=true)
theorem L34 {v:CH.Version} (h:qE v):CH.bare v=(fB v.acts).map (CH.words (F0 v)++[10]++·):=by
 obtain⟨⟨a1,a2,a3,a4,a5,a6,a7⟩,hp⟩:=h;rw [Rz,Ak a1,Ak a2,Ak a3,Ak a4,Ak a5,Ak a6,Ak (show (v.acts.length:Int)<=40 by omega)];rcases hp with⟨p1,p2⟩|⟨p1,p2,p3⟩;·rw [p1,p2];rfl
 ·rw [show (v.number==1)=false by simpa using p1,show (v.prev==[])=false by simpa using p2,p3];simp only [a_Bool_true_and,Gi,Bool.and_false,Bool.or_false,bne_self_eq_false,G9,Kr]
theorem Hw1 {v:CH.Version} (h:¬ qE v):CH.bare v=none:=by
 cases hb:CH.bare v with
 |none=>rfl
 |some t=>exact absurd ⟨(Are hb).1,(Are hb).2.1⟩ h
def rZ (o:Option (List UInt8)):ZC:=.tuple #[.string ⟨(o.getD []).toArray⟩,.bool o.isSome]
theorem Ctd (v:CH.Version) (s:dA) (w:ZB) (h:aP w w v s) (hh:¬ qE v) : ZE prog 20 #[.agg (Al v s).toArray] w (Ret w (rZ none)):=by
 have IS:=Aa fun (W:ZB)=>Uh v.prev W (by have:=h.small.prev;omega);obtain⟨aa,ca,ea,hla,hca,hna⟩:=h.acts;obtain⟨b1,c1,f1,_,_⟩:=h.sig.form;obtain⟨b2,c2,f2,_,_⟩:=h.path.form;clear h hna;have hB0:=Aa fun o=>(Ac _ w).alloc nR o;unfold qE at hh;dsimp only [Al,ay,aJ];rw [ea,f1,f2];clear ea f1 f2;generalize v.sel.sig.length=m1 at *;generalize v.sel.path.length=m2 at *;generalize v.sel.index=ix at *;generalize v.acts.length=N at *;generalize v.authority=au at *;generalize v.number=nu at *;generalize v.pos=po at *;generalize v.prev=pr at *;cases q1:ZH (au<0) with
 |true =>clear hh;exact FD27
 |false =>
 cases q2:ZH (6<=au) with
 |true =>clear hh;exact FD27
 |false =>
 cases q3:ZH (nu<1) with
 |true =>clear hh;exact FD27
 |false =>
 cases q4:ZH (200<nu) with
 |true =>clear hh;exact FD27
 |false =>
 cases q5:ZH (po<0) with
 |true =>clear hh;exact FD27
 |false =>
 cases q6:ZH (144001439<po) with
 |true =>clear hh;exact FD27
 |false =>
 cases q7:ZH ((40:Int)<(N:Int)) with
 |true =>clear hh;exact FD27
 |false =>
 have hp:nu=1/\pr≠[]\/¬ nu=1/\aC pr=false:=by
  simp only [Df] at q1 q2 q3 q4 q5 q6 q7;by_cases e:nu=1;·exact .inl ⟨e,fun e2=>hh ⟨⟨oM,oM,oM,oM,oM,oM,oM⟩,.inl ⟨e,e2⟩⟩⟩
  ·refine .inr ⟨e,?_⟩;rw [<- Bool.not_eq_true];intro e3;exact hh ⟨⟨oM,oM,oM,oM,oM,oM,oM⟩,.inr ⟨e,by rintro rfl;revert e3;decide,e3⟩⟩
 clear hh;rcases hp with⟨rfl,hp⟩|⟨hn,hp⟩
 ·rcases Gb pr with e|⟨x1,x2,x3⟩;·exact absurd e hp
  clear hp q3 q4 IS;exact FD27
 ·rw [hp] at IS;have p1:(nu==1)=false:=by simpa using hn
  have p2:ZH (1<nu)=true:=by simp only [Df] at q3;exact Ak oM
  go_enter func20,ntmps20;go_wp2_with fail;refine (IS.out _).mono ?_;rintro e w1 ⟨rfl,hb⟩;have hB1:=(hB0.out _).trans (hb.mono (hB0.out _).size);exact FD90
theorem Pc (v:CH.Version) (s:dA) (w:ZB) (h:aP w w v s) : ZE prog 20 #[.agg (Al v s).toArray] w (Ret w (rZ (CH.bare v))):=by
 by_cases hh:qE v;rotate_left;·rw [Hw1 hh];exact Ctd v s w h hh
 obtain⟨R,hR⟩:∃ R,CH.bare v=R:=⟨_,rfl⟩
 rw [hR];have ht:=L34 hh;rw [hR] at ht;clear hR;obtain⟨⟨a1,a2,a3,a4,a5,a6,a7⟩,hp⟩:=hh;have hwl:=R0 h.small;have hw:CH.words (F0 v)=CH.join [32] [([118,101,114,115,105,111,110]:List UInt8),dF v.authority,dF v.number,dF v.pos,ig v.prev]:=by unfold CH.words F0;simp only [Ej,Gw,S9,Sz,Hi (s:=([118,101,114,115,105,111,110]:List UInt8)) dC];rfl
 rw [hw] at ht hwl;have D1:=Aa fun (W:ZB)=>Cf v.authority W oM oM;have D2:=Aa fun (W:ZB)=>Cf v.number W oM oM;have D3:=Aa fun (W:ZB)=>Cf v.pos W oM oM;have E1:=Aa fun (W:ZB)=>Th v.prev W;have IS:=Aa fun (e:aC v.prev=true) (W:ZB)=>(show ZE prog 47 #[↑v.prev] W (Ret W (.bool true)) from by have:=Uh v.prev W (by have:=h.small.prev;omega);rwa [e] at this)
 obtain⟨aa,ca,ea,hla,hca,hna⟩:=h.acts;obtain⟨b1,c1,f1,_,_⟩:=h.sig.form;obtain⟨b2,c2,f2,_,_⟩:=h.path.form;have AC:=Aa fun (k:Nat) (x:CH.Act) (hk:v.acts[k]?=some x) (sx:eX) (W:ZB) (hx:fJ W W x sx)=>(show (∃ tx:List UInt8,aQ x=some tx/\Cn x=tx++[10]/\tx.length<=100000100/\ZE prog 51 #[.agg (Av x sx).toArray] W (Ret W (.tuple #[↑tx,.int .i64 0])))\/R=none/\ZE prog 51 #[.agg (Av x sx).toArray] W (Ret W (.tuple #[.string ⟨#[]⟩,.int .i64 1])) from by
  cases htx:aQ x with
  |some tx=>exact .inl ⟨tx,rfl,M7 htx,Mx htx hx,I28 x sx W tx hx htx⟩
  |none=>exact .inr ⟨by rw [ht,K3 htx _ (Aw hk)];rfl,I29 x sx W hx htx⟩)
 replace hna:=Aa hna;have q1:ZH (v.authority<0)=false:=Aq oM;have q2:ZH (6<=v.authority)=false:=Aq oM;have q3:ZH (v.number<1)=false:=Aq oM;have q4:ZH (200<v.number)=false:=Aq oM;have q5:ZH (v.pos<0)=false:=Aq oM;have q6:ZH (144001439<v.pos)=false:=Aq oM;have qA:v.number=1/\v.prev=[]\/(v.number==1)=false/\ZH (1<v.number)=true/\1<=v.prev.length/\aC v.prev=true:=by
  rcases hp with e|⟨e1,e2,e3⟩;·exact .inl e
  ·refine .inr ⟨by simpa using e1,Ak oM,?_,e3⟩;rcases Nat.eq_zero_or_pos v.prev.length with h0|h0;·exact absurd (Cb.1 h0) e2
   ·exact h0
 clear h hp hw a1 a2 a3 a4 a5 a6;dsimp only [Al,ay,aJ];rw [ea,f1,f2];clear ea f1 f2;generalize v.sel.sig.length=m1 at *;generalize v.sel.path.length=m2 at *;generalize dF v.authority=d1 at *;generalize dF v.number=d2 at *;generalize dF v.pos=d3 at *;generalize ig v.prev=d4 at *;generalize v.acts=acs at *;obtain⟨N,hN⟩:∃ N,acs.length=N:=⟨_,rfl⟩
 rw [hN] at hla a7 ⊢;replace hN:=Aa hN;obtain⟨J,hJ⟩:∃ J,Hid (CH.join [32] [([118,101,114,115,105,111,110]:List UInt8),d1,d2,d3,d4]=J):=⟨_,Aa rfl⟩
 rw [hJ.out] at ht hwl;replace ht:=Aa ht;have q7:ZH ((40:Int)<(N:Int))=false:=Aq oM;generalize v.sel.index=ix at *;have hB0:=Aa fun o=>(Ac _ w).alloc nR o;rcases qA with⟨p1,p2⟩|⟨p1,p2,p3,p4⟩;focus
  rw [p1] at D2 ⊢;rw [p2] at E1 ⊢;clear p1 p2 IS q3 q4;go_enter func20,ntmps20;go_wp2_with fail;have B:=hB0.out;generalize hWd:w.alloc _=W at *;have hBW:Below w w W:=by rw [<- hWd];exact B _
  have K:=Aa (Ct (C:=_) hWd);have hbc:Below W W W:=Ac _ _;clear hWd hB0 B
 rotate_left;focus
  have x1:=Kl p3;have x2:=I6 p3;have IS:=Aa (IS.out p4);clear p4;go_enter func20,ntmps20;go_wp2_with fail;have B:=hB0.out;generalize hWd:w.alloc _=W at *;have hBW:Below w w W:=by rw [<- hWd];exact B _
  have K:=Aa (Ct (C:=_) hWd);clear hWd hB0 B;refine (IS.out _).mono ?_;rintro e w1 ⟨rfl,hbc⟩;go_wp2_with fail
 all_goals
  have x0:=K.out _ hbc 0 _ rfl;have x1:=K.out _ hbc 1 _ rfl;have x2:=K.out _ hbc 2 _ rfl;have x3:=K.out _ hbc 3 _ rfl;have y0:=@Ae _ _ _ x0;have y1:=@Ae _ _ _ x1;have y2:=@Ae _ _ _ x2;have y3:=@Ae _ _ _ x3;refine G4 12 kR kR ?_;simp only [Je,Ia,J7,Hz];repeat (quiet_step (first|(with_reducible exact Bg (D1.out _))|(with_reducible exact Bg (D2.out _))|(with_reducible exact Bg (D3.out _))|(with_reducible exact Bg (E1.out _))))
  refine Cj ?_;intro wq hbq;replace hbq:=As hbq;clear y0 y1 y2 y3 x0 x1 x2 x3 D1 D2 D3 E1;have hbw:=hbc.trans (hbq.mono hbc.size);have hO:=Hd wq [([118,101,114,115,105,111,110]:List UInt8),d1,d2,d3,d4] sM;have hS0:Below wq wq (wq.alloc (.cells ([([118,101,114,115,105,111,110]:List UInt8),d1,d2,d3,d4].map ay).toArray 9)):=(Ac _ wq).alloc nR _;simp only [Eu,H8,ay,Az,Bj,Bh,Nat.reduceAdd] at hO hS0;have JJ:=Aa (Ps _ _ _ hO.strs (by rw [hJ.out];exact hwl));rw [hJ.out] at JJ;have hbx:=hbw.trans (hS0.mono hbw.size);clear hO;have hqj:¬ 9223372036854775807<J.length+1:=oM;go_wp2_with fail;refine JJ.out.mono ?_;rintro e w3 ⟨rfl,hb3⟩;have hb3:=Aa (hbx.trans (hb3.mono hbx.size));clear JJ hS0 hbx hbq hbw hbc;go_wp2_with fail;go_loopw [4,5] (fun sv iv wr=>∃ (k:Nat) (x:List UInt8),k<=N/\iv=↑k/\sv=↑x/\x.length<=2000000+k*100001000/\Hid (x=J++[10]++(acs.take k).flatMap Cn)/\Hid (∀ (j:Nat) (y:CH.Act),j<k->acs[j]?=some y->(aQ y).isSome=true)/\Hid (Below W W wr)) (fun _ iv _=>N - (RowKit.intOf iv).toNat);case atStart=>exact⟨0,J++[10],Bd _,rfl,by simp only [bytes_append],by simp only [Aj,Az,Bj];omega,Aa sM,Aa (fun j y hj=>absurd hj (Nat.not_lt_zero _)),hb3⟩
  case round =>
   obtain⟨k,x,hk,rfl,rfl,hxl,hx,hA,hB⟩:=hrel;have x4:=K.out wr hB.out 4 _ rfl;have hkm:k*100001000<=40*100001000:=Dk _ oM;by_cases hlt:k<N
   ·obtain⟨b,off,rfl,hbl,hcells⟩:=hna.out (by intro h;have:=hN.out;simp [h] at this;omega);obtain⟨y,hy⟩:∃ y,acs[k]?=some y:=⟨_,Ad (by rw [hN.out];exact hlt)⟩
    obtain⟨sy,hc,hat⟩:=hcells k y hy;have hBw:=hBW.trans (hB.out.mono hBW.size);have hrg:=Aa (show wr.rangeAt b (off+k*37) (Av y sy) from fun j u hj=>(hBw.cell (p:=⟨b,off+k*37+j,none⟩) hbl).trans (hc j u hj));have zD:(prog.info? 65).map (·.size)=some (Av y sy).length:=kR;have z0:(0:Int)<=(k:Int):=oM;have zk:((k:Int)).toNat=k:=oM;have hk':(k:Int)<(N:Int):=oM;rcases AC.out k y hy sy wr ((hat.below hBw nR).mono hBw.size) with⟨ty,sty,ety,lty,CT⟩|⟨rfl,CT⟩;rotate_left
    ·clear hcells hc hat hy hx hA;generalize Av y sy=C at *;replace CT:=Aa CT;go_wp2_with (refine Bf rfl 65 _ rfl b (off+k*37) rfl C _ hrg.out underlying65 rfl zD ?_)
     refine CT.out.mono ?_;rintro e w4 ⟨rfl,hb4⟩;have hB4:=hBW.trans ((hB.out.trans (hb4.mono hB.out.size)).mono hBW.size);clear CT hrg x4 hB hb4 hBw;go_wp2;refine Ah (Am rfl _ _ _) rfl ?_;exact⟨rfl,hB4⟩
    have hA2:=Aa fun (j:Nat) (u:CH.Act) (hj:j<k+1) (hu:acs[j]?=some u)=>(show (aQ u).isSome=true from by
     rcases Nat.lt_succ_iff_lt_or_eq.1 hj with e|e;·exact hA.out j u e hu
     ·subst e;rw [hy] at hu;cases hu;rw [sty];rfl)
    have hsn:=L38 acs k y hy;have hnx:Hid (x++(ty++[10])=J++[10]++(acs.take (k+1)).flatMap Cn):=Aa (by rw [hsn,ety,hx.out];simp);clear hcells hc hat hsn ety sty hy hx hA hBw;generalize Av y sy=C at *;replace CT:=Aa CT;have hq1:¬ 9223372036854775807<ty.length+1:=oM;have hq2:¬ 9223372036854775807<x.length+(ty.length+1):=oM;go_wp2_with (refine Bf rfl 65 _ rfl b (off+k*37) rfl C _ hrg.out underlying65 rfl zD ?_)
    refine CT.out.mono ?_;rintro e w4 ⟨rfl,hb4⟩;have hB4:=Aa (hB.out.trans (hb4.mono hB.out.size));clear CT hrg x4 hB hb4;go_wp2_with fail;refine⟨⟨k+1,x++(ty++[10]),oM,by go_num,by simp only [bytes_append],by simp only [Aj,Az,Bj];omega,hnx,hA2,hB4⟩,by simp [RowKit.intOf];omega⟩
   ·obtain rfl:k=N:=oM;have hxt:R=some x:=by rw [ht.out,K2 _ fun y hy=>by obtain⟨j,hj⟩:=Dy.1 hy;exact hA.out j y (by rw [<- hN.out];exact (lS hj)) hj,hx.out,Cc (by rw [hN.out];exact Bo _)];rfl
    subst hxt;clear hx ht hA;go_wp2;refine Ah (Am rfl _ _ _) rfl ?_;exact⟨rfl,hBW.trans (hB.out.mono hBW.size)⟩
end
section
open Go.Lib Go.Proofs.Tryz Go.RowKit Go.Shelf Go.Sort CH
attribute [local irreducible] wpQuiet
theorem Hj.kept {B:Nat} {w w':ZB} {v:ZC} {ls:List CH.Version} (h:Hj B w v ls) (hc:Cells w w'):Hj B w' v ls:=by exact FD55
theorem B10 (w:ZB):ZE prog 9 #[.pointer none] w (fun e w'=>e=.returned (.slice none 0 0)/\w=w'):=by go_enter func9,ntmps9;go_wp2_with fail;go_ret;exact⟨rfl,rfl⟩
end
end Go.Proofs.YtpkjhpenpfcpfaaGreatDoor
