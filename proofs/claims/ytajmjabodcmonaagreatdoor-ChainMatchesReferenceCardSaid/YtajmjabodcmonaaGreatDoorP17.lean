/- Part 18. -/
import Derived.Test.YtajmjabodcmonaaGreatDoorP15
import Derived.Test.YtajmjabodcmonaaGreatDoorP16
set_option linter.all false
set_option maxHeartbeats 40000000
set_option maxRecDepth 100000
open Go renaming World -> ZB, Value -> ZC, Calls -> ZE
open Go.RowKit renaming intOf -> ZG
open Decidable renaming decide -> ZH
open Go.Lib renaming itoa -> ZK
namespace Go.Proofs.Y
section
open Go.Lib Go.Proofs.Tryz Go.RowKit Go.Shelf Go.Sort CH
attribute [local irreducible] wpQuiet
variable {v:Q01}
theorem Ifn (a:Q02) (s:eG) (w:ZB) (ct:Q00) (h:dA w w a s) (hu:CH.unused a=true) (hk:a.kind=1) (TX:∀ (W:ZB),Below w w W->ZE prog 132 #[.agg (A5 a.change s.vn).toArray] W (Ret W (.tuple #[↑ct,.int .i64 0]))) (hl:ct.length<=1000000000) : ZE prog 74 #[.agg (As a s).toArray] w (Ret w (.tuple #[.string ⟨(([99,104,97,110,103,101,32]:Q00)++ct).toArray⟩,.int .i64 0])):=by
 have AL:=Aa fun (W:ZB) (hb:Below w w W)=>C8 a s W ((h.below hb nR).mono hb.size) hu oM;have P:=Aa fun (W:ZB) (b:Nat) (hr:W.rangeAt b 0 (As a s))=>Er hr;rw [hk] at P;replace TX:=Aa TX;have iA:(prog.info? 73).map (·.size)=some (As a s).length:=kR;have i1:(prog.info? 64).map (·.size)=some (A5 a.change s.vn).length:=kR;clear h hu;generalize As a s=C at *;have hr0:=Aa (Bp w C 73);generalize A5 a.change s.vn=C1 at *;have hB0:=Aa ((Ac _ w).alloc nR (.cells C.toArray 73));have hq:¬ 9223372036854775807<7+ct.length:=oM;go_enter func74,ntmps74;go_wp2_with (refine Bd rfl 73 _ rfl w 0 rfl C _ hr0.out underlying73 rfl iA ?_)
 refine CmZ (AL.out _ hB0.out) fun w1 hb1=>?_;have hB1:=hB0.out.trans (hb1.mono hB0.out.size);have PP:=P.out w1 _ (A6 hr0.out hb1 sM);have k0:=PP.1;have r1:=Aa (PP.2.1);clear PP P AL;go_wp2_with (refine Bd rfl 64 _ rfl w (0+1) rfl C1 _ r1.out underlying64 rfl i1 ?_)
 exact FD57
theorem Idx (a:Q02) (s:eG) (w:ZB) (ct:Q00) (h:dA w w a s) (hu:CH.unused a=true) (hk:a.kind=2) (TX:∀ (W:ZB),Below w w W->ZE prog 133 #[.agg (Av a.measure s.vk).toArray] W (Ret W (.tuple #[↑ct,.int .i64 0]))) (hl:ct.length<=1000000000) : ZE prog 74 #[.agg (As a s).toArray] w (Ret w (.tuple #[.string ⟨(([109,101,97,115,117,114,101,32]:Q00)++ct).toArray⟩,.int .i64 0])):=by
 have AL:=Aa fun (W:ZB) (hb:Below w w W)=>C8 a s W ((h.below hb nR).mono hb.size) hu oM;have P:=Aa fun (W:ZB) (b:Nat) (hr:W.rangeAt b 0 (As a s))=>Er hr;rw [hk] at P;replace TX:=Aa TX;have iA:(prog.info? 73).map (·.size)=some (As a s).length:=kR;have i1:(prog.info? 69).map (·.size)=some (Av a.measure s.vk).length:=kR;clear h hu;generalize As a s=C at *;have hr0:=Aa (Bp w C 73);generalize Av a.measure s.vk=C1 at *;have hB0:=Aa ((Ac _ w).alloc nR (.cells C.toArray 73));have hq:¬ 9223372036854775807<8+ct.length:=oM;go_enter func74,ntmps74;go_wp2_with (refine Bd rfl 73 _ rfl w 0 rfl C _ hr0.out underlying73 rfl iA ?_)
 refine CmZ (AL.out _ hB0.out) fun w1 hb1=>?_;have hB1:=hB0.out.trans (hb1.mono hB0.out.size);have PP:=P.out w1 _ (A6 hr0.out hb1 sM);have k0:=PP.1;have r1:=Aa (PP.2.2.1);clear PP P AL;go_wp2_with (refine Bd rfl 69 _ rfl w (0+6) rfl C1 _ r1.out underlying69 rfl i1 ?_)
 exact FD57
theorem Ids (a:Q02) (s:eG) (w:ZB) (h:dA w w a s) (hu:CH.unused a=true) (hk:a.kind=3) (hid:CH.isName a.id=true) (hn0:0<=a.n) (hn1:a.n<=100000) : ZE prog 74 #[.agg (As a s).toArray] w (Ret w (.tuple #[.string ⟨(([114,101,112,101,97,108]:Q00)++[32]++a.id++[32]++ZK a.n++[59]).toArray⟩,.int .i64 0])):=by
 have AL:=Aa fun (W:ZB) (hb:Below w w W)=>C8 a s W ((h.below hb nR).mono hb.size) hu oM;have P:=Aa fun (W:ZB) (b:Nat) (hr:W.rangeAt b 0 (As a s))=>Er hr;rw [hk] at P;have NM:=Aa fun (W:ZB)=>Ff a.id W (by have:=(Bn hid).2;omega);rw [hid] at NM;have DE:=Aa fun (W:ZB)=>B9 a.n W oM oM;have hd:dG a.n=ZK a.n:=by unfold dG;rw [if_neg oM]
 rw [hd] at DE;have hil:=(Bn hid).2;have hnl:=Nx hn0 oM;have iA:(prog.info? 73).map (·.size)=some (As a s).length:=kR;clear h hu hd hid;generalize As a s=C at *;have hr0:=Aa (Bp w C 73);generalize ZK a.n=nt at *;generalize a.id=id at *;generalize a.n=n at *;have hB0:=Aa ((Ac _ w).alloc nR (.cells C.toArray 73));have q1:ZH (n<0)=false:=Ak oM;have q2:ZH (100000<n)=false:=Ak oM;exact FD56
theorem Hyp (a:Q02) (s:eG) (w:ZB) (h:dA w w a s) (hu:CH.unused a=true) (hk:a.kind=5) (hid:CH.isName a.id=true) (hn0:0<=a.n) (hn1:a.n<=144001439) : ZE prog 74 #[.agg (As a s).toArray] w (Ret w (.tuple #[.string ⟨(([114,101,118,111,107,101]:Q00)++[32]++a.id++[32]++ZK a.n++[59]).toArray⟩,.int .i64 0])):=by
 have AL:=Aa fun (W:ZB) (hb:Below w w W)=>C8 a s W ((h.below hb nR).mono hb.size) hu oM;have P:=Aa fun (W:ZB) (b:Nat) (hr:W.rangeAt b 0 (As a s))=>Er hr;rw [hk] at P;have NM:=Aa fun (W:ZB)=>Ff a.id W (by have:=(Bn hid).2;omega);rw [hid] at NM;have DE:=Aa fun (W:ZB)=>B9 a.n W oM oM;have hd:dG a.n=ZK a.n:=by unfold dG;rw [if_neg oM]
 rw [hd] at DE;have hil:=(Bn hid).2;have hnl:=Nx hn0 oM;have iA:(prog.info? 73).map (·.size)=some (As a s).length:=kR;clear h hu hd hid;generalize As a s=C at *;have hr0:=Aa (Bp w C 73);generalize ZK a.n=nt at *;generalize a.id=id at *;generalize a.n=n at *;have hB0:=Aa ((Ac _ w).alloc nR (.cells C.toArray 73));have q1:ZH (n<0)=false:=Ak oM;have q2:ZH (144001439<n)=false:=Ak oM;exact FD56
theorem Hxo (a:Q02) (s:eG) (w:ZB) (h:dA w w a s) (hu:CH.unused a=true) (hk:a.kind=7) (hid:CH.isName a.id=true) (hn0:0<=a.n) (hn1:a.n<=100000) : ZE prog 74 #[.agg (As a s).toArray] w (Ret w (.tuple #[.string ⟨(([101,110,100]:Q00)++[32]++a.id++[32]++ZK a.n++[59]).toArray⟩,.int .i64 0])):=by
 have AL:=Aa fun (W:ZB) (hb:Below w w W)=>C8 a s W ((h.below hb nR).mono hb.size) hu oM;have P:=Aa fun (W:ZB) (b:Nat) (hr:W.rangeAt b 0 (As a s))=>Er hr;rw [hk] at P;have NM:=Aa fun (W:ZB)=>Ff a.id W (by have:=(Bn hid).2;omega);rw [hid] at NM;have DE:=Aa fun (W:ZB)=>B9 a.n W oM oM;have hd:dG a.n=ZK a.n:=by unfold dG;rw [if_neg oM]
 rw [hd] at DE;have hil:=(Bn hid).2;have hnl:=Nx hn0 oM;have iA:(prog.info? 73).map (·.size)=some (As a s).length:=kR;clear h hu hd hid;generalize As a s=C at *;have hr0:=Aa (Bp w C 73);generalize ZK a.n=nt at *;generalize a.id=id at *;generalize a.n=n at *;have hB0:=Aa ((Ac _ w).alloc nR (.cells C.toArray 73));have q1:ZH (n<0)=false:=Ak oM;have q2:ZH (100000<n)=false:=Ak oM;have z1:¬ 9223372036854775807<3+1+id.length:=oM;have z2:¬ 9223372036854775807<3+1+id.length+1:=oM;have z3:¬ 9223372036854775807<3+1+id.length+1+nt.length:=oM;have z4:¬ 9223372036854775807<3+1+id.length+1+nt.length+1:=oM;exact FD7
theorem H1n (a:Q02) (s:eG) (w:ZB) (h:dA w w a s) (hu:CH.unused a=true) (hk:a.kind=4) (hok:aO a.licence=true) : ZE prog 74 #[.agg (As a s).toArray] w (Ret w (.tuple #[.string ⟨(CH.join [32] ([([108,105,99,101,110,99,101]:Q00),a.licence.id,dG a.licence.quota,dG a.licence.uses,dG a.licence.start,dG a.licence.aF,dG a.licence.measures.length]++a.licence.measures++a.licence.aH)++[59]).toArray⟩,.int .i64 0])):=by
 have AL:=Aa fun (W:ZB) (hb:Below w w W)=>C8 a s W ((h.below hb nR).mono hb.size) hu oM;have P:=Aa fun (W:ZB) (b:Nat) (hr:W.rangeAt b 0 (As a s))=>Er hr;rw [hk] at P;have V:=Aa fun (W:ZB) (hb:Below w w W)=>Xo a.licence s.vm s.vp W ((h.lm.below hb nR).mono hb.size) ((h.lp.below hb nR).mono hb.size) hok;have HM:=Aa fun (W:ZB) (hb:Below w w W)=>h.lm.below hb nR;have HP:=Aa fun (W:ZB) (hb:Below w w W)=>h.lp.below hb nR;have hf:=hok;unfold aO CH.within aN at hf;simp only [Ba,Bq] at hf;obtain⟨⟨⟨⟨⟨⟨k1,⟨⟨k2,_⟩,⟨k3,_⟩⟩,⟨k4,k5⟩,k6⟩,k7,k8⟩,k9,k10⟩,k11,k12⟩,k13,k14⟩,k15⟩:=hf;have D1:=Aa fun (W:ZB)=>B9 a.licence.quota W oM oM;have D2:=Aa fun (W:ZB)=>B9 a.licence.uses W oM oM;have D3:=Aa fun (W:ZB)=>B9 a.licence.start W oM oM;have D4:=Aa fun (W:ZB)=>B9 a.licence.aF W oM oM;have D5:=Aa fun (W:ZB)=>B9 (a.licence.measures.length:Int) W oM oM;have i0:(prog.info? 73).map (·.size)=some (As a s).length:=kR;have i1:(prog.info? 71).map (·.size)=some (Br a.licence s.vm s.vp).length:=kR;have hone:∀ v∈Br a.licence s.vm s.vp,v.oneCell'=true:=fun v hv=>Ek h v (by unfold As;exact List.mem_cons_of_mem _ (List.mem_append_right _ (List.mem_append_right _ (List.mem_append_left _ hv))));have dl:∀ n:Int,0<=n->n<=1000000000->(dG n).length<=21:=fun n h0 h1=>by unfold dG;rw [Ai oM];exact Lib.itoa_length_le n oM oM
 have hjl:(CH.join [32] ([([108,105,99,101,110,99,101]:Q00),a.licence.id,dG a.licence.quota,dG a.licence.uses,dG a.licence.start,dG a.licence.aF,dG a.licence.measures.length]++a.licence.measures++a.licence.aH)).length<=10000:=by
  have hj:=Kj [32] 30 ([([108,105,99,101,110,99,101]:Q00),a.licence.id,dG a.licence.quota,dG a.licence.uses,dG a.licence.start,dG a.licence.aF,dG a.licence.measures.length]++a.licence.measures++a.licence.aH) (fun l hl=>by
   rcases Dp.1 hl with hl|hl
   ·rcases Dp.1 hl with hl|hl
    ·simp only [Bl,Ci,Et] at hl;rcases hl with rfl|rfl|rfl|rfl|rfl|rfl|rfl;·decide
     ·have:=(Bn k1).2;omega
     all_goals exact Af (dl _ oM oM) oM
    ·exact Af (Bn (Df.1 k2 l hl)).2 oM
   ·exact Af (Bn (Df.1 k3 l hl)).2 oM)
  simp only [Ah,A8,Bj] at hj ⊢;have:(7+a.licence.measures.length+a.licence.aH.length)*31<=79*31:=Dh _ oM;omega
 obtain⟨am,cm,em,_,_⟩:=h.lm.form;obtain⟨ap,cp,ep,_,_⟩:=h.lp.form;have kj:Br a.licence s.vm s.vp=[↑a.licence.id,.slice am a.licence.measures.length cm,.slice ap a.licence.aH.length cp,↑a.licence.quota,↑a.licence.uses,↑a.licence.start,↑a.licence.aF]:=by unfold Br;rw [em,ep]
 rw [em] at HM;rw [ep] at HP;have wG:=(Bn k1).2;replace hjl:=Aa hjl;have hns:a.licence.measures.length<=12/\a.licence.aH.length<=60:=⟨k5,k6⟩
 clear h hu em ep k1 k2 k3 k4 k5 k6 k7 k8 k9 k10 k11 k12 k13 k14 k15 dl hok;generalize dG a.licence.quota=d1 at *;generalize dG a.licence.uses=d2 at *;generalize dG a.licence.start=d3 at *;generalize dG a.licence.aF=d4 at *;generalize dG (a.licence.measures.length:Int)=d5 at *;generalize hms:a.licence.measures=ms at *;generalize hps:a.licence.aH=ps at *;generalize a.licence.id=id at *;generalize a.licence.quota=n1 at *;generalize a.licence.uses=n2 at *;generalize a.licence.start=n3 at *;generalize a.licence.aF=n4 at *;clear hms hps;obtain⟨R,hR⟩:∃ R,Hid (CH.join [32] ([([108,105,99,101,110,99,101]:Q00),id,d1,d2,d3,d4,d5]++ms++ps)=R):=⟨_,Aa rfl⟩
 have hRl:R.length<=10000:=by rw [<- hR.out];exact hjl.out
 rw [hR.out];obtain⟨NM,hNM⟩:∃ NM,ms.length=NM:=⟨_,rfl⟩
 obtain⟨NP,hNP⟩:∃ NP,ps.length=NP:=⟨_,rfl⟩
 rw [hNM,hNP] at kj;rw [hNM] at HM D5;rw [hNP] at HP;generalize As a s=C at *;generalize Br a.licence s.vm s.vp=C1 at *;replace kj:=Aa kj;have hr0:=Aa (Bp w C 73);have hB0:=Aa ((Ac _ w).alloc nR (.cells C.toArray 73));have hl7:C1.length=7:=by rw [kj.out];rfl
 replace hl7:=Aa hl7;go_enter func74,ntmps74;go_wp2_with (refine Bd rfl 73 _ rfl w 0 rfl C _ hr0.out underlying73 rfl i0 ?_)
 refine CmZ (AL.out _ hB0.out) fun w1 hb1=>?_;have hB1:=hB0.out.trans (hb1.mono hB0.out.size);have PP:=P.out w1 _ (A6 hr0.out hb1 sM);have q0:=PP.1;have r1:=Aa PP.2.2.2.1;have hn1:=Aa (Bp w1 C1 71);clear PP P AL;go_wp2_with (first|refine Bd rfl 71 _ rfl w (0+18) rfl C1 _ r1.out underlying71 rfl i1 ?_|refine Bw rfl 71 _ _ rfl C1 rfl rfl (by rw [hl7.out];rfl) i1 hone ?_|refine Bd rfl 71 _ rfl w1 0 rfl C1 _ hn1.out underlying71 rfl i1 ?_)
 have hB2:=hB1.alloc hB1.size (.cells C1.toArray 71);refine CmZ (V.out _ hB2) fun w2 hb2=>?_;have hB3:=hB2.trans (hb2.mono hB2.size);have hlt1:w1.heap.size<(w1.alloc (.cells C1.toArray 71)).heap.size:=sM;clear hone V;generalize w1.alloc (.cells C1.toArray 71)=Wl at *;have K:=Aa fun (W':ZB) (hb:Below Wl Wl W') (j:Nat) (u:ZC) (hj:C1[j]?=some u)=>(show W'.cell? ⟨w1,j,none⟩=some u from by have:=A6 hn1.out hb hlt1 j u hj;rwa [Bf] at this)
 rw [kj.out] at K;have x0:=K.out w2 hb2 0 _ rfl;have x1:=K.out w2 hb2 1 _ rfl;have x3:=K.out w2 hb2 3 _ rfl;have x4:=K.out w2 hb2 4 _ rfl;have x5:=K.out w2 hb2 5 _ rfl;have x6:=K.out w2 hb2 6 _ rfl;have y0:=@Ag _ _ _ x0;have y1:=@Ag _ _ _ x1;have y3:=@Ag _ _ _ x3;have y4:=@Ag _ _ _ x4;have y5:=@Ag _ _ _ x5;have y6:=@Ag _ _ _ x6;clear q0 r1 i0 hr0;go_wp2_with fail;refine Gk 18 kR kR ?_;simp only [Jh,H6,Jv,Iz];repeat (quiet_step (first|(with_reducible exact Bc (D1.out _))|(with_reducible exact Bc (D2.out _))|(with_reducible exact Bc (D3.out _))|(with_reducible exact Bc (D4.out _))|(with_reducible exact Bc (D5.out _))))
 refine Bv ?_;intro wq hbq;replace hbq:=An hbq;clear y0 y1 y3 y4 y5 y6 x0 x1 x3 x4 x5 x6;have hbw:=hb2.trans (hbq.mono hb2.size);have hBq:=hB3.trans (hbq.mono hB3.size);have hO:=Fu wq [([108,105,99,101,110,99,101]:Q00),id,d1,d2,d3,d4,d5] sM;have hsz:wq.heap.size<=(wq.alloc (.cells ([([108,105,99,101,110,99,101]:Q00),id,d1,d2,d3,d4,d5].map aA).toArray 9)).heap.size:=sM;have hS0:Below wq wq (wq.alloc (.cells ([([108,105,99,101,110,99,101]:Q00),id,d1,d2,d3,d4,d5].map aA).toArray 9)):=(Ac _ wq).alloc nR _;simp only [Fa,Iq,aA,A8,Bj,Bf,Nat.reduceAdd] at hO hsz hS0;go_wp2_with fail;generalize hW3:wq.alloc _=W3 at *;have hD:Below wq wq W3.drew:=hS0.drew;have hOd:=hO.below (Ac _ W3).drew;replace hjl:=Aa hjl;clear hW3 hO hS0 hbq;refine Ed (S:=fun W'=>Below wq wq W') kR hD fun kz=>?_;refine tj 0 ?_;push_cast;refine tj 1 ?_;push_cast;refine tk 2 (v:=?_) rfl rF kz ?_ ?_;rotate_left;·(intro w hSw;have q:=K.out w (hbw.trans (hSw.mono hbw.size)) 1 _ rfl;go_simp;try with_reducible rfl)
 push_cast;refine tj 4 ?_;push_cast;refine tk 5 (v:=?_) rfl rF kz ?_ ?_;rotate_left;·(intro w hSw;have q:=K.out w (hbw.trans (hSw.mono hbw.size)) 2 _ rfl;go_simp;try with_reducible rfl)
 push_cast;refine rk 3 rfl fun Kx hK=>?_;rw [Au rF];refine Ck _ _ rfl wq _ _ rfl hOd w _ ms rfl (HM.out _ (hBq.trans (hD.mono hBq.size))) (by simp;omega) hD.size ?_;intro v4 w4 hO4 hg4;have hB4:Below wq wq w4:=hD.grown hg4 hD.size (fun j hj=>(Dw hOd j hj).1);refine hK.out _ _ hB4 fun kz=>?_;clear hK;push_cast;refine rk 6 rfl fun Kx hK=>?_;rw [Au rF];refine Ck _ _ rfl wq _ _ rfl hO4 w _ ps rfl (HP.out _ (hBq.trans (hB4.mono hBq.size))) (by simp;omega) hB4.size ?_;intro v5 w5 hO5 hg5;have hB5:Below wq wq w5:=hB4.grown hg5 hB4.size (fun j hj=>(Dw hO4 j hj).1);refine hK.out _ _ hB5 fun kz=>?_;clear hK;push_cast;refine tj 7 ?_;push_cast;refine Dy kR ?_ _;have hB6:=hBq.trans (hB5.mono hBq.size);have JJ:=Aa (Mj v5 _ w5 hO5.strs (by rw [hR.out];omega));rw [hR.out] at JJ;obtain⟨a5,c5,rfl,_,_,_⟩:=hO5.form;clear kz hO5 hg5 hB5 hO4 hg4 hB4 hOd hD;generalize List.length (([([108,105,99,101,110,99,101]:Q00),id,d1,d2,d3,d4,d5]:List Q00)++ms++ps)=n5 at *;have hq:¬ 9223372036854775807<R.length+1:=oM;go_wp2_with fail;refine CmZ JJ.out fun w6 hb6=>?_;clear JJ;go_wp2;refine Aj (Aq rfl _ _ _) rfl ?_;exact⟨congrArg (fun b=>Ending.returned (.tuple #[.string b,.int .i64 0])) (bytes_append _ _),hB6.trans (hb6.mono hB6.size)⟩
theorem Hp {w:ZB} {n:Nat} {e:Ending} {w':ZB} (h:I39 w n e w'):∃ v ls a c,e=.returned v/\v=.slice a ls.length c/\At 0 w' v ls/\ls.length<=n/\Below w w w':=by obtain⟨v,ls,rfl,hO,hl,hb⟩:=h;obtain⟨a,c,hv,_⟩:=hO.form;exact⟨v,ls,a,c,rfl,hv,hO,hl,hb⟩
theorem Zz (h:aQ) (vj:ZC) (g:Nat) (w:ZB) (hr:w.rangeAt g 0 (Ax h vj)) (hg:g<w.heap.size) (hv:Strs w w vj h.joint) (hj4:h.joint.length<=4) : ZE prog 213 #[.slice (some ⟨g,0,none⟩) 1 1] w (I39 w 8):=by
 have P:=Aa fun (v:ZC) (ls:List Q00) (s:Q00) (W:ZB) (hO:At 0 W v ls) (hl:ls.length<=7)=>Htw v ls s W hO oM;have HR:=Aa fun (W:ZB) (hb:Below w w W) (j:Nat) (u:ZC) (hj:(Ax h vj)[j]?=some u)=>(show W.cell? ⟨g,j,none⟩=some u from by have:=hr j u hj;rw [Bf] at this;exact (hb.cell (p:=⟨g,j,none⟩) hg).trans this)
 obtain⟨aj,cj,rfl,hl,hcap,hne⟩:=hv;replace hne:=Aa hne;obtain⟨N,hN⟩:∃ N,h.joint.length=N:=⟨_,rfl⟩
 rw [hN] at hl hj4;clear hr;dsimp only [Ax,aA,aJ] at *;rw [hN] at HR;replace hN:=Aa hN;go_enter func213,ntmps213;go_wp2_with fail;go_loopw [3,4] (fun ov iv wr=>((iv=.int .i64 0/\ov=.slice none 0 0)\/(iv=.int .i64 1/\∃ a n c,ov=.slice a n c/\Hid (∃ ls,At 0 wr ov ls/\ls.length<=8)))/\Hid (Below w w wr)) (fun _ iv _=>1 - (ZG iv).toNat);case atStart=>exact⟨.inl ⟨rfl,rfl⟩,Aa (Ac _ _)⟩
 case round =>
  obtain⟨⟨rfl,rfl⟩|⟨rfl,a,n,c,rfl,hO⟩,hB⟩:=hrel
  ·have x:=HR.out _ hB.out;have x0:=x 0 _ rfl;have x1:=x 1 _ rfl;have x2:=x 2 _ rfl;have x3:=x 3 _ rfl;have x4:=x 4 _ rfl;have x5:=x 5 _ rfl;have x6:=x 6 _ rfl;have x7:=x 7 _ rfl;have x8:=x 8 _ rfl;have x9:=x 9 _ rfl;clear x;go_wp2_with fail;generalize hWd:wr.alloc _=W at *;have hBW:Below w w W:=by rw [<- hWd];exact hB.out.alloc hB.out.size _
   have K:=Aa (Cp (C:=_) hWd);clear hWd x0 x1 x2 x3 x4 x5 x6 x7 x8 x9 hB;have hD:Below W W W.drew:=(Ac _ W).drew;refine Ed (S:=fun W'=>Below W W W') kR hD fun kz=>?_;refine tj 0 ?_;push_cast;refine tj 1 ?_;push_cast;refine tk 2 (v:=?_) rfl rF kz ?_ ?_;rotate_left;·(intro w hSw;have q:=K.out w hSw 1 _ rfl;go_simp;try with_reducible rfl)
   push_cast;refine tj 4 ?_;push_cast;refine tk 5 (v:=?_) rfl rF kz ?_ ?_;rotate_left;·(intro w hSw;have q:=K.out w hSw 2 _ rfl;go_simp;try with_reducible rfl)
   push_cast;refine rk 3 rfl fun Kx hK=>?_;go_simp;refine (P.out _ [] _ _ (At.nil _ _) sM).mono ?_;rintro e w2 hP;obtain⟨v2,l2,a2,c2,rfl,rfl,hO2,hl2,hb2⟩:=Hp hP;have hE2:Below W W w2:=hD.trans (hb2.mono hD.size);go_wp2_with fail;refine hK.out _ _ hE2 fun kz=>?_;clear hK hP;push_cast;refine rk 6 rfl fun Kx hK=>?_;go_simp;refine (P.out _ l2 _ _ hO2 (by simp at hl2;omega)).mono ?_;rintro e w3 hP;obtain⟨v3,l3,a3,c3,rfl,rfl,hO3,hl3,hb3⟩:=Hp hP;have hE3:Below W W w3:=hE2.trans (hb3.mono hE2.size);have hl3:l3.length<=2:=by simp at hl2;omega
   go_wp2_with fail;refine hK.out _ _ hE3 fun kz=>?_;clear hK hP;push_cast;refine tj 7 ?_;push_cast;refine Dy kR ?_ _;replace hE3:=Aa hE3;clear kz hO2 hb2 hb3 hE2 hD;go_wp2_with fail;go_loopw [3,6] (fun ov kv wr=>∃ (k:Nat) (a:Option Addr) (n c:Nat),k<=N/\kv=↑k/\ov=.slice a n c/\Hid (∃ ls,At 0 wr ov ls/\ls.length<=2+k/\ls.length=n)/\Hid (Below W W wr)) (fun _ kv _=>N - (ZG kv).toNat);case atStart=>exact⟨0,_,_,_,Az _,rfl,rfl,Aa ⟨l3,hO3,oM,rfl⟩,hE3⟩
   case round =>
    obtain⟨k,a,n,c,hk,rfl,rfl,⟨lo,hO,hlo,hln⟩,hB⟩:=hrel;have k5:=K.out _ hB.out 5 _ rfl;by_cases hlt:k<N
    ·obtain⟨b,off,rfl,hbl,kj⟩:=hne.out (by intro e;have:=hN.out;rw [e] at this;simp at this;omega);obtain⟨x,hx⟩:∃ x,h.joint[k]?=some x:=⟨_,Ad (by rw [hN.out];exact hlt)⟩
     have hBw:=hBW.trans (hB.out.mono hBW.size);have e1:=(hBw.cell (p:=⟨b,off+k,none⟩) hbl).trans (kj k x hx);have z0:(0:Int)<=(k:Int):=oM;have zk:((k:Int)).toNat=k:=oM;have hk':(k:Int)<(N:Int):=oM;have PP:=Aa (P.out _ lo x _ hO oM);clear kj hx hBw hO;go_wp2_with fail;refine PP.out.mono ?_;rintro e w4 hP;obtain⟨v4,l4,a4,c4,rfl,rfl,hO4,hl4,hb4⟩:=Hp hP;have hB4:=Aa (hB.out.trans (hb4.mono hB.out.size));have hO4:=Aa (⟨l4,hO4,oM,rfl⟩:∃ ls,At 0 w4 (.slice a4 l4.length c4) ls/\ls.length<=2+(k+1)/\ls.length=l4.length);generalize l4.length=n4 at *;clear PP hP hb4 e1 k5;go_wp2;go_roundw;case rel=>exact⟨k+1,_,_,_,oM,by go_num,rfl,hO4,hB4⟩
     case measure=>simp [ZG];omega
    ·have hk':¬ (k:Int)<(N:Int):=oM;have k3:=K.out _ hB.out 3 _ rfl;have k4:=K.out _ hB.out 4 _ rfl;have NS:lo.length<=6:=oM;subst hln;replace hE3:=Aa (hBW.trans (hB.out.mono hBW.size));rcases Nat.eq_zero_or_pos h.ah.length with n0|n0 <;> rcases Nat.eq_zero_or_pos h.aC.length with p0|p0
     ·have e3:h.ah=[]:=Bo.1 n0;rw [e3] at k3;have e4:h.aC=[]:=Bo.1 p0;rw [e4] at k4;go_wp2;go_roundw;case rel=>exact⟨.inr ⟨by go_num,_,_,_,rfl,Aa ⟨_,hO,oM⟩⟩,Aa hE3.out⟩
      case measure=>simp [ZG]
     ·have e3:h.ah=[]:=Bo.1 n0;rw [e3] at k3;have y1:=I0 p0;have y2:=Hi p0;go_wp2_with fail;refine (P.out _ lo _ _ hO oM).mono ?_;rintro e w5 hP;obtain⟨v5,l5,a5,c5,rfl,rfl,hO5,hl5,hb5⟩:=Hp hP;have hb5:=hB.out.trans (hb5.mono hB.out.size);have k4:=K.out _ hb5 4 _ rfl;clear hP;exact FD98
     ·have x1:=I0 n0;have x2:=Hi n0;go_wp2_with fail;refine (P.out _ lo _ _ hO oM).mono ?_;rintro e w5 hP;obtain⟨v5,l5,a5,c5,rfl,rfl,hO5,hl5,hb5⟩:=Hp hP;have hb5:=hB.out.trans (hb5.mono hB.out.size);have k4:=K.out _ hb5 4 _ rfl;clear hP;have e4:h.aC=[]:=Bo.1 p0;rw [e4] at k4;exact FD98
     ·have x1:=I0 n0;have x2:=Hi n0;have y1:=I0 p0;have y2:=Hi p0;go_wp2_with fail;refine (P.out _ lo _ _ hO oM).mono ?_;rintro e w5 hP;obtain⟨v5,l5,a5,c5,rfl,rfl,hO5,hl5,hb5⟩:=Hp hP;have hb5:=hB.out.trans (hb5.mono hB.out.size);have k4:=K.out _ hb5 4 _ rfl;clear hP;go_wp2_with fail;refine (P.out _ l5 _ _ hO5 oM).mono ?_;rintro e w6 hP;obtain⟨v6,l6,a6,c6,rfl,rfl,hO6,hl6,hb6⟩:=Hp hP;have hb6:=hb5.trans (hb6.mono hb5.size);have k4:=K.out _ hb6 4 _ rfl;clear hP;go_wp2;go_roundw;case rel=>exact⟨.inr ⟨by go_num,_,_,_,rfl,Aa ⟨_,hO6,oM⟩⟩,Aa (hBW.trans (hb6.mono hBW.size))⟩
      case measure=>simp [ZG]
  ·obtain⟨ls,hO,hl⟩:=hO.out;go_wp2;go_ret;exact⟨_,ls,rfl,hO,hl,hB.out⟩
theorem Rd (h:aQ) (vj:ZC) (g:Nat) (w:ZB) (hr:w.rangeAt g 0 (Ax h vj)) (hg:g<w.heap.size) (hv:Strs w w vj h.joint) (hL:sN h) : ZE prog 135 #[.slice (some ⟨g,0,none⟩) 1 1] w (Ret w (.bool (bC h))):=by
 have HRg:=fun (W:ZB) (hb:Below w w W)=>(show W.rangeAt g 0 (Ax h vj) from fun j u hj=>(hb.cell (p:=⟨g,0+j,none⟩) hg).trans (hr j u hj))
 have HV:=fun (W:ZB) (hb:Below w w W)=>(hv.below hb nR).mono hb.size;have PR:=Aa fun (W:ZB) (hb:Below w w W)=>Q5 h vj W (HV W hb) hL;obtain⟨R,hR⟩:∃ R,bC h=R:=⟨_,rfl⟩
 rw [hR] at PR ⊢;have PA:=Aa fun (e:R=true) (W:ZB) (hb:Below w w W)=>Zz h vj g W (HRg W hb) (Ae hg hb.size) (HV W hb) (H5 (hR.trans e)).j4;have SU:=Aa fun (e:R=true) (W:ZB) (hb:Below w w W)=>Htd h vj g W (HRg W hb) (Ae hg hb.size) (HV W hb) ((H5 (hR.trans e)).en.imp id fun e=>e.2.2) (H5 (hR.trans e)).cap (H5 (hR.trans e)).vot;have FI:=Aa fun (W:ZB)=>Hws (some ⟨g,0,none⟩) 1 h.id W;have HR:=Aa fun (W:ZB) (hb:Below w w W) (j:Nat) (u:ZC) (hj:(Ax h vj)[j]?=some u)=>(show W.cell? ⟨g,j,none⟩=some u from by have:=HRg W hb j u hj;rw [Bf] at this;exact this)
 obtain⟨_,_,rfl,_,_⟩:=hv.form;clear hv hr HRg HV hR hL;generalize h.joint.length=n1 at *;dsimp only [Ax,aA,aJ] at *;go_enter func135,ntmps135;go_wp2_with fail;go_loopw [3] (fun iv wr=>(iv=.int .i64 0\/iv=.int .i64 1/\R=true)/\Hid (Below w w wr)) (fun iv _=>1 - (ZG iv).toNat);case atStart=>exact⟨.inl rfl,Aa (Ac _ _)⟩
 case round =>
  obtain⟨rfl|⟨rfl,rfl⟩,hB⟩:=hrel
  ·cases R;all_goals
    have x:=HR.out _ hB.out;have x0:=x 0 _ rfl;have x1:=x 1 _ rfl;have x2:=x 2 _ rfl;have x3:=x 3 _ rfl;have x4:=x 4 _ rfl;have x5:=x 5 _ rfl;have x6:=x 6 _ rfl;have x7:=x 7 _ rfl;have x8:=x 8 _ rfl;have x9:=x 9 _ rfl;have y0:=@Ag _ _ _ x0;have y1:=@Ag _ _ _ x1;have y2:=@Ag _ _ _ x2;have y3:=@Ag _ _ _ x3;have y4:=@Ag _ _ _ x4;have y5:=@Ag _ _ _ x5;have y6:=@Ag _ _ _ x6;have y7:=@Ag _ _ _ x7;have y8:=@Ag _ _ _ x8;have y9:=@Ag _ _ _ x9;have RR:=Aa fun (W':ZB) (hb':Below _ _ W')=>PR.out W' (hB.out.trans (hb'.mono hB.out.size));clear x;go_wp2_with fail;refine Ar kR kR ?_;repeat (quiet_step (first|(with_reducible exact Bc (RR.out _ (D6 _ _ _)))|(with_reducible exact Bc (FI.out _))))
    refine Bv ?_;intro wq hbq;replace hbq:=An hbq;clear y0 y1 y2 y3 y4 y5 y6 y7 y8 y9 x0 x1 x2 x3 x4 x5 x6 x7 x8 x9 RR;have hB2:=Aa (hB.out.trans (hbq.mono hB.out.size));first
     |(
       go_wp2
       go_ret
       exact⟨rfl,hB2.out⟩)
     |(
       go_wp2
       go_roundw
       case rel=>exact⟨.inr ⟨by go_num,by trivial⟩,hB2⟩
       case measure=>simp [ZG])
  ·go_wp2_with fail;refine (PA.out (by trivial) _ hB.out).mono ?_;rintro e w2 hP;obtain⟨v2,l2,a2,c2,rfl,rfl,hO2,hl2,hb2⟩:=Hp hP;have hB2:=hB.out.trans (hb2.mono hB.out.size);have q:ZH ((l2.length:Int)<=60)=true:=Am oM;go_wp2_with fail;refine CmZ (SU.out (by trivial) _ hB2) fun w3 hb3=>?_;go_wp2;go_ret;exact FD136
theorem Vp (h:aQ) (vj:ZC) (g:Nat) (w:ZB) (hr:w.rangeAt g 0 (Ax h vj)) (hg:g<w.heap.size) (hv:Strs w w vj h.joint) (hh:bC h=true) : ZE prog 135 #[.slice (some ⟨g,0,none⟩) 1 1] w (Ret w (.bool true)):=by
 have H:=H5 hh;have n24:∀ s:Q00,CH.isName s=true->s.length<=4611686018427387904:=fun s e=>by have:=(Bn e).2;omega
 have n0:∀ s:Q00,s=[]\/CH.isName s=true->s.length<=4611686018427387904:=fun s e=>by
  rcases e with e|e;·rw [e];simp
  ·exact n24 s e
 have:=Rd h vj g w hr hg hv ⟨n24 _ H.id,n24 _ H.company,n24 _ H.holder,n0 _ (H.nom.imp (fun e=>e) (fun e=>e.1)),n0 _ H.vU,fun x hx=>n24 x (H.jn x hx)⟩;rwa [hh] at this
theorem Got {s:Q00} (h:s.length<=30):(ig s).length<=30:=by
 unfold ig;split;·simp
 ·exact h
theorem Hxs (a:Q02) (s:eG) (w:ZB) (h:dA w w a s) (hu:CH.unused a=true) (hk:a.kind=6) (hok:bC a.holding=true) : ZE prog 74 #[.agg (As a s).toArray] w (Ret w (.tuple #[.string ⟨(CH.join [32] ([([104,111,108,100,105,110,103]:Q00),a.holding.id,a.holding.company,a.holding.holder,ig a.holding.ah,ig a.holding.aC,dG a.holding.capital,dG a.holding.cZ,dG a.holding.start,dG a.holding.stop]++a.holding.joint)++[59]).toArray⟩,.int .i64 0])):=by
 have AL:=Aa fun (W:ZB) (hb:Below w w W)=>C8 a s W ((h.below hb nR).mono hb.size) hu oM;have P:=Aa fun (W:ZB) (b:Nat) (hr:W.rangeAt b 0 (As a s))=>Er hr;rw [hk] at P;have V:=Aa fun (g:Nat) (W:ZB) (hb:Below w w W) (hr:W.rangeAt g 0 (Ax a.holding s.vj)) (hg:g<W.heap.size)=>Vp a.holding s.vj g W hr hg ((h.hj.below hb nR).mono hb.size) hok;have HJ:=Aa fun (W:ZB) (hb:Below w w W)=>h.hj.below hb nR;have H:=H5 hok;have hst:-1<=a.holding.stop/\a.holding.stop<=100000:=by have:=H.en;omega
 have D1:=Aa fun (W:ZB)=>B9 a.holding.capital W (by have:=H.cap;omega) (by have:=H.cap;omega);have D2:=Aa fun (W:ZB)=>B9 a.holding.cZ W (by have:=H.vot;omega) (by have:=H.vot;omega);have D3:=Aa fun (W:ZB)=>B9 a.holding.start W (by have:=H.st;omega) (by have:=H.st;omega);have D4:=Aa fun (W:ZB)=>B9 a.holding.stop W oM oM;have E1:=Aa fun (W:ZB)=>Tp a.holding.ah W;have E2:=Aa fun (W:ZB)=>Tp a.holding.aC W;have i0:(prog.info? 73).map (·.size)=some (As a s).length:=kR;have i1:(prog.info? 59).map (·.size)=some (Ax a.holding s.vj).length:=kR;have hone:∀ v∈Ax a.holding s.vj,v.oneCell'=true:=fun v hv=>Ek h v (by unfold As;exact List.mem_cons_of_mem _ (List.mem_append_right _ (List.mem_append_right _ (List.mem_append_right _ (List.mem_append_left _ hv)))));have dl:∀ n:Int,-1<=n->n<=1000000000->(dG n).length<=30:=fun n h0 h1=>by
  unfold dG;split;·simp
  ·exact Af (Lib.itoa_length_le n oM oM) oM
 have nl:a.holding.ah.length<=30:=by
  rcases H.nom with e|e;·rw [e];simp
  ·have:=(Bn e.1).2;omega
 have pl:a.holding.aC.length<=30:=by
  rcases H.vU with e|e;·rw [e];simp
  ·have:=(Bn e).2;omega
 have hjl:(CH.join [32] ([([104,111,108,100,105,110,103]:Q00),a.holding.id,a.holding.company,a.holding.holder,ig a.holding.ah,ig a.holding.aC,dG a.holding.capital,dG a.holding.cZ,dG a.holding.start,dG a.holding.stop]++a.holding.joint)).length<=10000:=by
  have hj:=Kj [32] 30 ([([104,111,108,100,105,110,103]:Q00),a.holding.id,a.holding.company,a.holding.holder,ig a.holding.ah,ig a.holding.aC,dG a.holding.capital,dG a.holding.cZ,dG a.holding.start,dG a.holding.stop]++a.holding.joint) (fun l hl=>by
   rcases Dp.1 hl with hl|hl
   ·simp only [Bl,Ci,Et] at hl;rcases hl with rfl|rfl|rfl|rfl|rfl|rfl|rfl|rfl|rfl|rfl;·decide
    ·have:=(Bn H.id).2;omega
    ·have:=(Bn H.company).2;omega
    ·have:=(Bn H.holder).2;omega
    ·exact Got nl
    ·exact Got pl
    ·have:=H.cap;exact dl _ oM oM
    ·have:=H.vot;exact dl _ oM oM
    ·have:=H.st;exact dl _ oM oM
    ·exact dl _ oM oM
   ·exact Af (Bn (H.jn l hl)).2 oM)
  have hj4:=H.j4;simp only [Ah,A8,Bj] at hj ⊢;omega
 have hns:=H.j4;obtain⟨aj,cj,ej,_,_⟩:=h.hj.form;have kj:Ax a.holding s.vj=[↑a.holding.id,↑a.holding.company,↑a.holding.holder,↑a.holding.ah,↑a.holding.aC,.slice aj a.holding.joint.length cj,↑a.holding.capital,↑a.holding.cZ,↑a.holding.start,↑a.holding.stop]:=by unfold Ax;rw [ej];first|rfl|skip
 rw [ej] at HJ;clear h hu ej H hst dl nl pl hok;generalize dG a.holding.capital=d1 at *;generalize dG a.holding.cZ=d2 at *;generalize dG a.holding.start=d3 at *;generalize dG a.holding.stop=d4 at *;generalize ig a.holding.ah=e1 at *;generalize ig a.holding.aC=e2 at *;generalize hjs:a.holding.joint=js at *;clear hjs;obtain⟨R,hR⟩:∃ R,Hid (CH.join [32] ([([104,111,108,100,105,110,103]:Q00),a.holding.id,a.holding.company,a.holding.holder,e1,e2,d1,d2,d3,d4]++js)=R):=⟨_,Aa rfl⟩
 have hRl:R.length<=10000:=by rw [<- hR.out];exact hjl
 rw [hR.out];obtain⟨NJ,hNJ⟩:∃ NJ,js.length=NJ:=⟨_,rfl⟩
 rw [hNJ] at kj HJ;generalize As a s=C at *;generalize Ax a.holding s.vj=C1 at *;replace kj:=Aa kj;have hr0:=Aa (Bp w C 73);have hB0:=Aa ((Ac _ w).alloc nR (.cells C.toArray 73));have hl7:C1.length=10:=by rw [kj.out];rfl
 replace hl7:=Aa hl7;replace hjl:=Aa hjl;generalize a.holding.id=s1 at *;generalize a.holding.company=s2 at *;generalize a.holding.holder=s3 at *;generalize a.holding.ah=s4 at *;generalize a.holding.aC=s5 at *;generalize a.holding.capital=n1 at *;generalize a.holding.cZ=n2 at *;generalize a.holding.start=n3 at *;generalize a.holding.stop=n4 at *;go_enter func74,ntmps74;go_wp2_with (refine Bd rfl 73 _ rfl w 0 rfl C _ hr0.out underlying73 rfl i0 ?_)
 refine CmZ (AL.out _ hB0.out) fun w1 hb1=>?_;have hB1:=hB0.out.trans (hb1.mono hB0.out.size);have PP:=P.out w1 _ (A6 hr0.out hb1 sM);have q0:=PP.1;have r1:=Aa PP.2.2.2.2.1;have hn1:=Aa (Bp w1 C1 59);clear PP P AL;have wF:=hl7.out;go_wp2_with (first|refine Bd rfl 59 _ rfl w (0+25) rfl C1 _ r1.out underlying59 rfl i1 ?_|refine Bw rfl 59 _ _ rfl C1 rfl rfl (by rw [hl7.out];rfl) i1 hone ?_|refine Bd rfl 59 _ rfl w1 0 rfl C1 _ hn1.out underlying59 rfl i1 ?_)
 rw [Kk C1 _ (by rw [wF];rfl)];clear wF hone;have hB2:=hB1.alloc hB1.size (.cells C1.toArray 59);have hB3:=hB2.alloc hB2.size (.cells C1.toArray 59);have hg2:(w1.alloc (.cells C1.toArray 59)).rangeAt w1.heap.size 0 C1:=hn1.out;have hrg:((w1.alloc (.cells C1.toArray 59)).alloc (.cells C1.toArray 59)).rangeAt (w1.heap.size+1) 0 C1:=by have:=Bp (w1.alloc (.cells C1.toArray 59)) C1 59;rwa [Dt] at this
 have hgs:w1.heap.size+1<((w1.alloc (.cells C1.toArray 59)).alloc (.cells C1.toArray 59)).heap.size:=sM;have hra:=M4 hn1.out (.cells C1.toArray 59);generalize (w1.alloc (.cells C1.toArray 59)).alloc (.cells C1.toArray 59)=Wl at *;have hlt1:w1.heap.size<Wl.heap.size:=oM;have K:=Aa fun (W':ZB) (hb:Below Wl Wl W') (j:Nat) (u:ZC) (hj:C1[j]?=some u)=>(show W'.cell? ⟨w1,j,none⟩=some u from by have:=A6 hra hb hlt1 j u hj;rwa [Bf] at this)
 rw [kj.out] at K;refine CmZ (V.out (w1+1) Wl hB3 hrg hgs) fun w2 hb2=>?_;replace hB3:=hB3.trans (hb2.mono hB3.size);clear V q0 r1 i0 hr0 hg2 hrg hgs hra hn1;have x:=K.out w2 hb2;have x0:=x 0 _ rfl;have x1:=x 1 _ rfl;have x2:=x 2 _ rfl;have x3:=x 3 _ rfl;have x4:=x 4 _ rfl;have x6:=x 6 _ rfl;have x7:=x 7 _ rfl;have x8:=x 8 _ rfl;have x9:=x 9 _ rfl;have y0:=@Ag _ _ _ x0;have y1:=@Ag _ _ _ x1;have y2:=@Ag _ _ _ x2;have y3:=@Ag _ _ _ x3;have y4:=@Ag _ _ _ x4;have y6:=@Ag _ _ _ x6;have y7:=@Ag _ _ _ x7;have y8:=@Ag _ _ _ x8;have y9:=@Ag _ _ _ x9;clear x;go_wp2_with fail;refine Gk 24 kR kR ?_;simp only [Jh,H6,Jv,Iz];repeat (quiet_step (first|(with_reducible exact Bc (D1.out _))|(with_reducible exact Bc (D2.out _))|(with_reducible exact Bc (D3.out _))|(with_reducible exact Bc (D4.out _))|(with_reducible exact Bc (E1.out _))|(with_reducible exact Bc (E2.out _))))
 refine Bv ?_;intro wq hbq;replace hbq:=An hbq;clear y0 y1 y2 y3 y4 y6 y7 y8 y9 x0 x1 x2 x3 x4 x6 x7 x8 x9;have hbw:=hb2.trans (hbq.mono hb2.size);have hBq:=hB3.trans (hbq.mono hB3.size);have hO:=Fu wq [([104,111,108,100,105,110,103]:Q00),s1,s2,s3,e1,e2,d1,d2,d3,d4] sM;have hS0:Below wq wq (wq.alloc (.cells ([([104,111,108,100,105,110,103]:Q00),s1,s2,s3,e1,e2,d1,d2,d3,d4].map aA).toArray 9)):=(Ac _ wq).alloc nR _;simp only [Fa,Iq,aA,A8,Bj,Bf,Nat.reduceAdd] at hO hS0;have x5:=K.out _ (hbw.trans (hS0.mono hbw.size)) 5 _ rfl;have hJ:=HJ.out _ (hBq.trans (hS0.mono hBq.size));have hsz:wq.heap.size<=(wq.alloc (.cells #[.string ⟨[104,111,108,100,105,110,103].toArray⟩,↑s1,↑s2,↑s3,↑e1,↑e2,↑d1,↑d2,↑d3,↑d4] 9)).heap.size:=hS0.size;replace hO:=Aa hO;replace hS0:=Aa hS0;replace hJ:=Aa hJ;go_wp2_with (at_builtin;refine K7 rfl _ _ rfl wq _ [([104,111,108,100,105,110,103]:Q00),s1,s2,s3,e1,e2,d1,d2,d3,d4] rfl hO.out w _ js rfl hJ.out (by simp;omega) hsz ?_)
 intro v5 w5 hO5 hg5 _;have hB5:Below wq wq w5:=hS0.out.grown hg5 hsz (fun j hj=>(Dw hO.out j hj).1);have hB6:=hBq.trans (hB5.mono hBq.size);have hR2:=hR.out;rw [Ea,Ea,Ea,Ea,Ea,Ea,Ea,Ea,Ea,Ea,Dl] at hR2;have JJ:=Aa (Mj v5 _ w5 hO5.strs (by rw [hR2];omega));rw [hR2] at JJ;clear hR2;obtain⟨a5,c5,rfl,_,_,_⟩:=hO5.form;clear hO5 hg5 hB5 hO hS0 hJ x5 hsz hbq hbw;generalize List.length (([104,111,108,100,105,110,103]:Q00)::s1::s2::s3::e1::e2::d1::d2::d3::d4::js)=n5 at *;have hq:¬ 9223372036854775807<R.length+1:=oM;go_wp2_with fail;refine CmZ JJ.out fun w6 hb6=>?_;clear JJ;go_wp2;refine Aj (Aq rfl _ _ _) rfl ?_;exact⟨congrArg (fun b=>Ending.returned (.tuple #[.string b,.int .i64 0])) (bytes_append _ _),hB6.trans (hb6.mono hB6.size)⟩
theorem Pz (n:Int):(CH.Word.int n).texts=[dG n]:=by show (if n = -1 then _ else _)=_;unfold dG;split <;> rfl
theorem Py (s:Q00):(CH.Word.str s).texts=[ig s]:=by
 show [if s=[] then _ else _]=_;unfold ig;by_cases h:s=[]
 ·rw [Au h,Au (by simpa using h)]
 ·rw [Ai h,Ai (by simpa using h)]
theorem I46 (l:List Q00):(CH.Word.strs l).texts=l:=rfl
theorem Ge {s:Q00} (h:1<=s.length):ig s=s:=by unfold ig;rw [Ai];intro e;simp only [Eb] at e;rw [e] at h;simp at h
theorem Knb (a:Q02) (s:eG) (w:ZB) (t:Q00) (h:fH w w a s) (ht:aP a=some t) : ZE prog 74 #[.agg (As a s).toArray] w (Ret w (.tuple #[↑t,.int .i64 0])):=by
 have hlen:=Mp ht h;unfold aP at ht;split at ht;·cases ht
 rename_i hu;have hu:CH.unused a=true:=by simpa using hu
 have hr:=h.raw;split at ht
 ·rename_i hk;cases hc:bQ a.change with
  |none=>rw [hc] at ht;cases ht
  |some ct =>rw [hc] at ht;cases ht;have hS:=h.small.change.entry.names;refine Ifn a s w ct hr hu hk (fun W hb=>Ch7 a.change s.vn W ct ((h.names.below hb nR).mono hb.size) hS hc) ?_;simp only [Ah] at hlen;omega
 split at ht
 ·rename_i hk;cases hc:dh a.measure with
  |none=>rw [hc] at ht;cases ht
  |some ct =>rw [hc] at ht;cases ht;refine Idx a s w ct hr hu hk (fun W hb=>Z4 a.measure s.vk W ct (Ay.mono hb.size _ _ (Ay.below hb nR _ _ h.meas.kids)) h.meas.short hc) ?_;simp only [Ah] at hlen;omega
 split at ht
 ·rename_i hk;split at ht
  ·rename_i hok;cases ht;have:=H1n a s w hr hu hk hok;have hid:CH.isName a.licence.id=true:=by unfold aO at hok;simp only [Ba] at hok;exact hok.1.1.1.1.1.1
   unfold CH.words;simp only [Dx,Gx,Pz,Py,I46,Ge (Bn hid).1,Ge (s:=([108,105,99,101,110,99,101]:Q00)) dC,Gg];exact this
  ·cases ht
 split at ht
 ·rename_i hk;split at ht;·rename_i hok;cases ht;have:=Hxs a s w hr hu hk hok;have H:=H5 hok;unfold CH.words;simp only [Dx,Gx,Pz,Py,I46,Ge (Bn H.id).1,Ge (s:=([104,111,108,100,105,110,103]:Q00)) dC,Ge (Bn H.company).1,Ge (Bn H.holder).1,Gg];exact this
  ·cases ht
 by_cases hk:a.kind=5\/a.kind=3\/a.kind=7
 ·rw [Au hk] at ht;by_cases hok:(CH.ident a.id&&CH.within a.n (if a.kind=5 then 144001439 else 100000))=true
  ·rw [Au hok] at ht;cases ht;rw [Ba] at hok;have hn:=jU hok.1;have hw:=hok.2;unfold CH.within at hw;rw [Ba,Bq,Bq] at hw;have hdn:dG a.n=ZK a.n:=by unfold dG;rw [if_neg oM]
   have e1:=Ge (Bn hn).1;rcases hk with e|e|e
   ·have:=Hyp a s w hr hu e hn hw.1 (by have:=hw.2;rw [Au e] at this;exact this);have hx:CH.words [.str (je a.kind),.str a.id,.int a.n]=([114,101,118,111,107,101]:Q00)++[32]++a.id++[32]++ZK a.n:=by rw [e,show je 5=([114,101,118,111,107,101]:Q00) from rfl];unfold CH.words;simp only [Dx,Gx,Pz,Py,e1,hdn,Ge (s:=([114,101,118,111,107,101]:Q00)) dC];simp [CH.join]
    rw [hx];exact this
   ·have:=Ids a s w hr hu e hn hw.1 (by have:=hw.2;rw [Ai oM] at this;exact this);have hx:CH.words [.str (je a.kind),.str a.id,.int a.n]=([114,101,112,101,97,108]:Q00)++[32]++a.id++[32]++ZK a.n:=by rw [e,show je 3=([114,101,112,101,97,108]:Q00) from rfl];unfold CH.words;simp only [Dx,Gx,Pz,Py,e1,hdn,Ge (s:=([114,101,112,101,97,108]:Q00)) dC];simp [CH.join]
    rw [hx];exact this
   ·have:=Hxo a s w hr hu e hn hw.1 (by have:=hw.2;rw [Ai oM] at this;exact this);have hx:CH.words [.str (je a.kind),.str a.id,.int a.n]=([101,110,100]:Q00)++[32]++a.id++[32]++ZK a.n:=by rw [e,show je 7=([101,110,100]:Q00) from rfl];unfold CH.words;simp only [Dx,Gx,Pz,Py,e1,hdn,Ge (s:=([101,110,100]:Q00)) dC];simp [CH.join]
    rw [hx];exact this
  ·rw [Ai hok] at ht;cases ht
 ·rw [Ai hk] at ht;cases ht
theorem Hxa (a:Q02) (s:eG) (w:ZB) (h:dA w w a s) (hu:(ZH (1<=a.kind/\a.kind<=7)&&CH.unused a)=false) : ZE prog 74 #[.agg (As a s).toArray] w (Ret w (.tuple #[.string ⟨#[]⟩,.int .i64 1])):=by
 have AL:=Aa fun (W:ZB) (hb:Below w w W)=>Q9 a s W ((h.below hb nR).mono hb.size);rw [hu] at AL;have iA:(prog.info? 73).map (·.size)=some (As a s).length:=kR;clear h hu;generalize As a s=C at *;have hr0:=Aa (Bp w C 73);have hB0:=Aa ((Ac _ w).alloc nR (.cells C.toArray 73));go_enter func74,ntmps74;go_wp2_with (refine Bd rfl 73 _ rfl w 0 rfl C _ hr0.out underlying73 rfl iA ?_)
 refine CmZ (AL.out _ hB0.out) fun w1 hb1=>?_;have hB1:=hB0.out.trans (hb1.mono hB0.out.size);exact FD95
theorem Ifr (a:Q02) (s:eG) (w:ZB) (h:dA w w a s) (hu:CH.unused a=true) (hk:a.kind=1) (TX:∀ (W:ZB),Below w w W->ZE prog 132 #[.agg (A5 a.change s.vn).toArray] W (Ret W (.tuple #[.string ⟨#[]⟩,.int .i64 1]))) : ZE prog 74 #[.agg (As a s).toArray] w (Ret w (.tuple #[.string ⟨#[]⟩,.int .i64 1])):=by
 have AL:=Aa fun (W:ZB) (hb:Below w w W)=>C8 a s W ((h.below hb nR).mono hb.size) hu oM;have P:=Aa fun (W:ZB) (b:Nat) (hr:W.rangeAt b 0 (As a s))=>Er hr;rw [hk] at P;replace TX:=Aa TX;have iA:(prog.info? 73).map (·.size)=some (As a s).length:=kR;have i1:(prog.info? 64).map (·.size)=some (A5 a.change s.vn).length:=kR;clear h hu;generalize As a s=C at *;have hr0:=Aa (Bp w C 73);generalize A5 a.change s.vn=C1 at *;have hB0:=Aa ((Ac _ w).alloc nR (.cells C.toArray 73));go_enter func74,ntmps74;go_wp2_with (refine Bd rfl 73 _ rfl w 0 rfl C _ hr0.out underlying73 rfl iA ?_)
 refine CmZ (AL.out _ hB0.out) fun w1 hb1=>?_;have hB1:=hB0.out.trans (hb1.mono hB0.out.size);have PP:=P.out w1 _ (A6 hr0.out hb1 sM);have k0:=PP.1;have r1:=Aa (PP.2.1);clear PP P AL;go_wp2_with (refine Bd rfl 64 _ rfl w (0+1) rfl C1 _ r1.out underlying64 rfl i1 ?_)
 exact FD132
theorem Ifb (a:Q02) (s:eG) (w:ZB) (h:dA w w a s) (hu:CH.unused a=true) (hk:a.kind=2) (TX:∀ (W:ZB),Below w w W->ZE prog 133 #[.agg (Av a.measure s.vk).toArray] W (Ret W (.tuple #[.string ⟨#[]⟩,.int .i64 1]))) : ZE prog 74 #[.agg (As a s).toArray] w (Ret w (.tuple #[.string ⟨#[]⟩,.int .i64 1])):=by
 have AL:=Aa fun (W:ZB) (hb:Below w w W)=>C8 a s W ((h.below hb nR).mono hb.size) hu oM;have P:=Aa fun (W:ZB) (b:Nat) (hr:W.rangeAt b 0 (As a s))=>Er hr;rw [hk] at P;replace TX:=Aa TX;have iA:(prog.info? 73).map (·.size)=some (As a s).length:=kR;have i1:(prog.info? 69).map (·.size)=some (Av a.measure s.vk).length:=kR;clear h hu;generalize As a s=C at *;have hr0:=Aa (Bp w C 73);generalize Av a.measure s.vk=C1 at *;have hB0:=Aa ((Ac _ w).alloc nR (.cells C.toArray 73));go_enter func74,ntmps74;go_wp2_with (refine Bd rfl 73 _ rfl w 0 rfl C _ hr0.out underlying73 rfl iA ?_)
 refine CmZ (AL.out _ hB0.out) fun w1 hb1=>?_;have hB1:=hB0.out.trans (hb1.mono hB0.out.size);have PP:=P.out w1 _ (A6 hr0.out hb1 sM);have k0:=PP.1;have r1:=Aa (PP.2.2.1);clear PP P AL;go_wp2_with (refine Bd rfl 69 _ rfl w (0+6) rfl C1 _ r1.out underlying69 rfl i1 ?_)
 exact FD132
theorem H3l (a:Q02) (s:eG) (w:ZB) (h:dA w w a s) (hu:CH.unused a=true) (hk:a.kind=4) (V:∀ (W:ZB),Below w w W->ZE prog 134 #[.agg (Br a.licence s.vm s.vp).toArray] W (Ret W (.bool false))) : ZE prog 74 #[.agg (As a s).toArray] w (Ret w (.tuple #[.string ⟨#[]⟩,.int .i64 1])):=by
 have AL:=Aa fun (W:ZB) (hb:Below w w W)=>C8 a s W ((h.below hb nR).mono hb.size) hu oM;have P:=Aa fun (W:ZB) (b:Nat) (hr:W.rangeAt b 0 (As a s))=>Er hr;rw [hk] at P;replace V:=Aa V;have i0:(prog.info? 73).map (·.size)=some (As a s).length:=kR;have i1:(prog.info? 71).map (·.size)=some (Br a.licence s.vm s.vp).length:=kR;have hone:∀ v∈Br a.licence s.vm s.vp,v.oneCell'=true:=fun v hv=>Ek h v (by unfold As;exact List.mem_cons_of_mem _ (List.mem_append_right _ (List.mem_append_right _ (List.mem_append_left _ hv))));have hl7:Hid ((Br a.licence s.vm s.vp).length=7):=Aa rfl;clear h hu;generalize As a s=C at *;generalize Br a.licence s.vm s.vp=C1 at *;have hr0:=Aa (Bp w C 73);have hB0:=Aa ((Ac _ w).alloc nR (.cells C.toArray 73));go_enter func74,ntmps74;go_wp2_with (refine Bd rfl 73 _ rfl w 0 rfl C _ hr0.out underlying73 rfl i0 ?_)
 refine CmZ (AL.out _ hB0.out) fun w1 hb1=>?_;have hB1:=hB0.out.trans (hb1.mono hB0.out.size);have PP:=P.out w1 _ (A6 hr0.out hb1 sM);have q0:=PP.1;have r1:=Aa PP.2.2.2.1;have hn1:=Aa (Bp w1 C1 71);clear PP P AL;go_wp2_with (first|refine Bd rfl 71 _ rfl w (0+18) rfl C1 _ r1.out underlying71 rfl i1 ?_|refine Bw rfl 71 _ _ rfl C1 rfl rfl (by rw [hl7.out];rfl) i1 hone ?_|refine Bd rfl 71 _ rfl w1 0 rfl C1 _ hn1.out underlying71 rfl i1 ?_)
 have hB2:=hB1.alloc hB1.size (.cells C1.toArray 71);refine CmZ (V.out _ hB2) fun w2 hb2=>?_;have hB3:=hB2.trans (hb2.mono hB2.size);go_wp2;refine Aj (Aq rfl _ _ _) rfl ?_;exact⟨rfl,hB3⟩
theorem Hym (a:Q02) (s:eG) (w:ZB) (h:dA w w a s) (hu:CH.unused a=true) (hk:a.kind=6) (V:∀ (g:Nat) (W:ZB),Below w w W->W.rangeAt g 0 (Ax a.holding s.vj)->g<W.heap.size->ZE prog 135 #[.slice (some ⟨g,0,none⟩) 1 1] W (Ret W (.bool false))) : ZE prog 74 #[.agg (As a s).toArray] w (Ret w (.tuple #[.string ⟨#[]⟩,.int .i64 1])):=by
 have AL:=Aa fun (W:ZB) (hb:Below w w W)=>C8 a s W ((h.below hb nR).mono hb.size) hu oM;have P:=Aa fun (W:ZB) (b:Nat) (hr:W.rangeAt b 0 (As a s))=>Er hr;rw [hk] at P;replace V:=Aa V;have i0:(prog.info? 73).map (·.size)=some (As a s).length:=kR;have i1:(prog.info? 59).map (·.size)=some (Ax a.holding s.vj).length:=kR;have hone:∀ v∈Ax a.holding s.vj,v.oneCell'=true:=fun v hv=>Ek h v (by unfold As;exact List.mem_cons_of_mem _ (List.mem_append_right _ (List.mem_append_right _ (List.mem_append_right _ (List.mem_append_left _ hv)))));have hl7:Hid ((Ax a.holding s.vj).length=10):=Aa rfl;clear h hu;generalize As a s=C at *;generalize Ax a.holding s.vj=C1 at *;have hr0:=Aa (Bp w C 73);have hB0:=Aa ((Ac _ w).alloc nR (.cells C.toArray 73));go_enter func74,ntmps74;go_wp2_with (refine Bd rfl 73 _ rfl w 0 rfl C _ hr0.out underlying73 rfl i0 ?_)
 refine CmZ (AL.out _ hB0.out) fun w1 hb1=>?_;have hB1:=hB0.out.trans (hb1.mono hB0.out.size);have PP:=P.out w1 _ (A6 hr0.out hb1 sM);have q0:=PP.1;have r1:=Aa PP.2.2.2.2.1;have hn1:=Aa (Bp w1 C1 59);clear PP P AL;have wF:=hl7.out;go_wp2_with (first|refine Bd rfl 59 _ rfl w (0+25) rfl C1 _ r1.out underlying59 rfl i1 ?_|refine Bw rfl 59 _ _ rfl C1 rfl rfl (by rw [hl7.out];rfl) i1 hone ?_|refine Bd rfl 59 _ rfl w1 0 rfl C1 _ hn1.out underlying59 rfl i1 ?_)
 rw [Kk C1 _ (by rw [wF];rfl)];clear wF hone;have hB2:=hB1.alloc hB1.size (.cells C1.toArray 59);have hB3:=hB2.alloc hB2.size (.cells C1.toArray 59);have hrg:((w1.alloc (.cells C1.toArray 59)).alloc (.cells C1.toArray 59)).rangeAt (w1.heap.size+1) 0 C1:=by have:=Bp (w1.alloc (.cells C1.toArray 59)) C1 59;rwa [Dt] at this
 have hgs:w1.heap.size+1<((w1.alloc (.cells C1.toArray 59)).alloc (.cells C1.toArray 59)).heap.size:=sM;generalize (w1.alloc (.cells C1.toArray 59)).alloc (.cells C1.toArray 59)=Wl at *;refine CmZ (V.out (w1+1) Wl hB3 hrg hgs) fun w2 hb2=>?_;have hB4:=hB3.trans (hb2.mono hB3.size);go_wp2;refine Aj (Aq rfl _ _ _) rfl ?_;exact⟨rfl,hB4⟩
theorem Hxk (a:Q02) (s:eG) (w:ZB) (h:dA w w a s) (hu:CH.unused a=true) (k:Int) (hk:a.kind=k) (hk3:k=3\/k=5\/k=7) (hl:a.id.length<=9223372036854775807) (hno:(CH.isName a.id&&CH.within a.n (if k=5 then 144001439 else 100000))=false) : ZE prog 74 #[.agg (As a s).toArray] w (Ret w (.tuple #[.string ⟨#[]⟩,.int .i64 1])):=by
 have AL:=Aa fun (W:ZB) (hb:Below w w W)=>C8 a s W ((h.below hb nR).mono hb.size) hu oM;have P:=Aa fun (W:ZB) (b:Nat) (hr:W.rangeAt b 0 (As a s))=>Er hr;rw [hk] at P;have NM:=Aa fun (W:ZB)=>Ff a.id W hl;have iA:(prog.info? 73).map (·.size)=some (As a s).length:=kR;clear h hu hk hl;generalize As a s=C at *;have hr0:=Aa (Bp w C 73);generalize CH.isName a.id=b at *;generalize a.id=id at *;generalize a.n=n at *;have hB0:=Aa ((Ac _ w).alloc nR (.cells C.toArray 73));have hc:b=false\/b=true/\ZH (n<0)=true\/b=true/\ZH (n<0)=false/\ZH ((if k=5 then 144001439 else 100000)<n)=true:=by
  unfold CH.within at hno;cases b;·exact .inl rfl
  ·simp only [a_Bool_true_and,J6,Dc] at hno;by_cases q:n<0;·exact .inr (.inl ⟨rfl,Am q⟩)
   ·exact .inr (.inr ⟨rfl,Ak q,Am oM⟩)
 clear hno;have hB:=hB0.out;rcases hk3 with rfl|rfl|rfl;all_goals
  simp only [reduceIte,Int.reduceEq] at hc;go_enter func74,ntmps74;go_wp2_with (refine Bd rfl 73 _ rfl w 0 rfl C _ hr0.out underlying73 rfl iA ?_)
  refine CmZ (AL.out _ hB0.out) fun w1 hb1=>?_;have hB1:=hB0.out.trans (hb1.mono hB0.out.size);have PP:=P.out w1 _ (A6 hr0.out hb1 sM);have k0:=PP.1;have k35:=PP.2.2.2.2.2.1;rw [Bf] at k35;clear PP AL;go_wp2_with fail;refine CmZ (NM.out _) fun w2 hb2=>?_;have hB2:=hB1.trans (hb2.mono hB1.size);replace hb2:=hb1.trans (hb2.mono hb1.size);have PP:=P.out w2 _ (A6 hr0.out hb2 sM);clear k0 k35;have k36:=PP.2.2.2.2.2.2;rw [Bf] at k36;clear PP P NM;rcases hc with rfl|⟨rfl,q1⟩|⟨rfl,q1,q2⟩;all_goals go_wp2;refine Aj (Aq rfl _ _ _) rfl ?_;exact⟨rfl,hB2⟩
theorem Knc (a:Q02) (s:eG) (w:ZB) (h:fH w w a s) (ht:aP a=none) : ZE prog 74 #[.agg (As a s).toArray] w (Ret w (.tuple #[.string ⟨#[]⟩,.int .i64 1])):=by
 cases hA:ZH (1<=a.kind/\a.kind<=7)&&CH.unused a with
 |false=>exact Hxa a s w h.raw hA
 |true =>
 rw [Ba,Bq] at hA;obtain⟨hk,hu⟩:=hA;have hS:=h.small;have big:∀ {n:Nat},n<=10000->n<=4611686018427387904:=fun e=>by omega
 have vJ:∀ {n:Nat},n<=10000->n<=9223372036854775807:=fun e=>by omega
 unfold aP at ht;rw [hu] at ht;simp only [Gv,Ic,Le] at ht;rcases (oM:a.kind=1\/a.kind=2\/a.kind=4\/a.kind=6\/a.kind=3\/a.kind=5\/a.kind=7) with e|e|e|e|e;·rw [Au e,Option.map_eq_none_iff] at ht;exact Ifr a s w h.raw hu e fun W hb=>Ckt a.change s.vn W ((h.names.below hb nR).mono hb.size) (fun n hn l hl=>Af ((hS.change.entry.names n hn).2 l hl) oM) (vJ hS.change.id) (vJ hS.change.entry.id) ht
 ·rw [Ai oM,Au e,Option.map_eq_none_iff] at ht;exact Ifb a s w h.raw hu e fun W hb=>Z5 a.measure s.vk W (Ay.mono hb.size _ _ (Ay.below hb nR _ _ h.meas.kids)) h.meas.short h.meas.count h.meas.depth (vJ h.meas.id) (vJ h.meas.authority) (vJ h.meas.target) ht
 ·rw [Ai oM,Ai oM,Au e] at ht;refine H3l a s w h.raw hu e fun W hb=>?_;have:=S5 a.licence s.vm s.vp W ((h.lm.below hb nR).mono hb.size) ((h.lp.below hb nR).mono hb.size) (big hS.lid) (fun x hx=>big (hS.lm.2 x hx)) (fun x hx=>big (hS.lp.2 x hx));split at ht;·cases ht
  ·rename_i q;rwa [show aO a.licence=false by simpa using q] at this
 ·rw [Ai oM,Ai oM,Ai oM,Au e] at ht;refine Hym a s w h.raw hu e fun g W hb hr hg=>?_;have H:=hS.hold;have:=Rd a.holding s.vj g W hr hg ((h.hj.below hb nR).mono hb.size) ⟨big H.id,big H.company,big H.holder,big H.ah,big H.aC,fun x hx=>big (H.joint.2 x hx)⟩;split at ht;·cases ht
  ·rename_i q;rwa [show bC a.holding=false by simpa using q] at this
 ·rw [Ai oM,Ai oM,Ai oM,Ai oM,Au oM] at ht;refine Hxk a s w h.raw hu a.kind rfl e (vJ hS.id) ?_;rw [<- ng];by_cases q:(CH.ident a.id&&CH.within a.n (if a.kind=5 then 144001439 else 100000))=true;·rw [Au q] at ht;cases ht
  ·simpa only [Gz] using q
theorem Bst {t:Q00} (h:CH.bare v=some t):(0<=v.authority/\v.authority<6/\1<=v.number/\v.number<=200/\0<=v.pos/\v.pos<=144001439/\v.acts.length<=40) /\ (v.number=1/\v.prev=[]\/v.number≠1/\v.prev≠[]/\ay v.prev=true)/\(∀ a∈v.acts,(aP a).isSome=true)/\t=CH.words (Fl v)++[10]++v.acts.flatMap Cl:=by
 rw [Tf] at h;split at h;·cases h
 ·rename_i hc;simp only [Ec,F9,Lu,Ko,Ba,Bq,bne_iff_ne,ne_eq,Decidable.not_not,not_and] at hc;obtain⟨⟨⟨⟨⟨⟨⟨⟨a1,a2⟩,a3⟩,a4⟩,a5⟩,a6⟩,a7⟩,b⟩,c⟩:=hc;have hall:∀ a∈v.acts,(aP a).isSome=true:=fun a ha=>by
   cases hx:aP a with
   |some _=>rfl
   |none=>rw [Kc hx _ ha] at h;cases h
  rw [Kb _ hall] at h;cases h;refine⟨⟨a1,a2,a3,a4,a5,a6,oM⟩,?_,hall,rfl⟩;by_cases e:v.number=1;·left;rw [e] at b;exact⟨e,by simpa using b.symm⟩
  ·right;have hn:(v.number==1)=false:=by simpa using e
   rw [hn] at b;have hp:v.prev≠[]:=by simpa using b.symm
   exact⟨e,hp,c hp⟩
theorem Oer (l:List Q02) (k:Nat) (x:Q02) (h:l[k]?=some x):(l.take (k+1)).flatMap Cl=(l.take k).flatMap Cl++Cl x:=by rw [D7,h,Gf,Hg];simp
def rV (v:Q01):Prop:=(0<=v.authority/\v.authority<6/\1<=v.number/\v.number<=200/\0<=v.pos/\v.pos<=144001439/\v.acts.length<=40)/\(v.number=1/\v.prev=[]\/v.number≠1/\v.prev≠[]/\ay v.prev=true)
theorem Oct (h:rV v):CH.bare v=(fE v.acts).map (CH.words (Fl v)++[10]++·):=by
 obtain⟨⟨a1,a2,a3,a4,a5,a6,a7⟩,hp⟩:=h;rw [Tf,Am a1,Am a2,Am a3,Am a4,Am a5,Am a6,Am (show (v.acts.length:Int)<=40 by omega)];rcases hp with⟨p1,p2⟩|⟨p1,p2,p3⟩;·rw [p1,p2];rfl
 ·rw [show (v.number==1)=false by simpa using p1,show (v.prev==[])=false by simpa using p2,p3];simp only [a_Bool_true_and,Gv,Ee,Bool.or_false,bne_self_eq_false,Ic,Le]
theorem I29 (h:¬ rV v):CH.bare v=none:=by
 cases hb:CH.bare v with
 |none=>rfl
 |some t=>exact absurd ⟨(Bst hb).1,(Bst hb).2.1⟩ h
def uO (o:Option Q00):ZC:=.tuple #[.string ⟨(o.getD []).toArray⟩,.bool o.isSome]
theorem Feb (v:Q01) (s:aS) (w:ZB) (h:aG w w v s) (hh:¬ rV v) : ZE prog 40 #[.agg (Al v s).toArray] w (Ret w (uO none)):=by
 have IS:=Aa fun (W:ZB)=>Mm v.prev W (by have:=h.small.prev;omega);obtain⟨aa,ca,ea,hla,hca,hna⟩:=h.acts;obtain⟨b1,c1,f1,_,_⟩:=h.sig.form;obtain⟨b2,c2,f2,_,_⟩:=h.path.form;clear h hna;have hB0:=Aa fun o=>(Ac _ w).alloc nR o;unfold rV at hh;dsimp only [Al,aA,aJ];rw [ea,f1,f2];clear ea f1 f2;generalize v.sel.sig.length=m1 at *;generalize v.sel.path.length=m2 at *;generalize v.sel.index=ix at *;generalize v.acts.length=N at *;generalize v.authority=au at *;generalize v.number=nu at *;generalize v.pos=po at *;generalize v.prev=pr at *;cases q1:ZH (au<0) with
 |true =>clear hh;exact FD27
 |false =>
 cases q2:ZH (6<=au) with
 |true =>clear hh;exact FD27
 |false =>
 cases q3:ZH (nu<1) with
 |true =>clear hh;exact FD27
 |false =>
 cases q4:ZH (200<nu) with
 |true =>clear hh;exact FD27
 |false =>
 cases q5:ZH (po<0) with
 |true =>clear hh;exact FD27
 |false =>
 cases q6:ZH (144001439<po) with
 |true =>clear hh;exact FD27
 |false =>
 cases q7:ZH ((40:Int)<(N:Int)) with
 |true =>clear hh;exact FD27
 |false =>
 have hp:nu=1/\pr≠[]\/¬ nu=1/\ay pr=false:=by
  simp only [Dc] at q1 q2 q3 q4 q5 q6 q7;by_cases e:nu=1;·exact .inl ⟨e,fun e2=>hh ⟨⟨oM,oM,oM,oM,oM,oM,oM⟩,.inl ⟨e,e2⟩⟩⟩
  ·refine .inr ⟨e,?_⟩;rw [<- Gz];intro e3;exact hh ⟨⟨oM,oM,oM,oM,oM,oM,oM⟩,.inr ⟨e,by rintro rfl;revert e3;decide,e3⟩⟩
 clear hh;rcases hp with⟨rfl,hp⟩|⟨hn,hp⟩
 ·rcases Fo pr with e|⟨x1,x2,x3⟩;·exact absurd e hp
  clear hp q3 q4 IS;exact FD27
 ·rw [hp] at IS;have p1:(nu==1)=false:=by simpa using hn
  have p2:ZH (1<nu)=true:=by simp only [Dc] at q3;exact Am oM
  go_enter func40,ntmps40;go_wp2_with fail;refine CmZ (IS.out _) fun w1 hb=>?_;have hB1:=(hB0.out _).trans (hb.mono (hB0.out _).size);exact FD95
theorem Tr (v:Q01) (s:aS) (w:ZB) (h:aG w w v s) : ZE prog 40 #[.agg (Al v s).toArray] w (Ret w (uO (CH.bare v))):=by
 by_cases hh:rV v;rotate_left;·rw [I29 hh];exact Feb v s w h hh
 obtain⟨R,hR⟩:∃ R,CH.bare v=R:=⟨_,rfl⟩
 rw [hR];have ht:=Oct hh;rw [hR] at ht;clear hR;obtain⟨⟨a1,a2,a3,a4,a5,a6,a7⟩,hp⟩:=hh;have hwl:=R5 h.small;have hw:CH.words (Fl v)=CH.join [32] [([118,101,114,115,105,111,110]:Q00),dG v.authority,dG v.number,dG v.pos,ig v.prev]:=by unfold CH.words Fl;simp only [Dx,Gx,Pz,Py,Ge (s:=([118,101,114,115,105,111,110]:Q00)) dC];rfl
 rw [hw] at ht hwl;have D1:=Aa fun (W:ZB)=>B9 v.authority W oM oM;have D2:=Aa fun (W:ZB)=>B9 v.number W oM oM;have D3:=Aa fun (W:ZB)=>B9 v.pos W oM oM;have E1:=Aa fun (W:ZB)=>Tp v.prev W;have IS:=Aa fun (e:ay v.prev=true) (W:ZB)=>(show ZE prog 66 #[↑v.prev] W (Ret W (.bool true)) from by have:=Mm v.prev W (by have:=h.small.prev;omega);rwa [e] at this)
 obtain⟨aa,ca,ea,hla,hca,hna⟩:=h.acts;obtain⟨b1,c1,f1,_,_⟩:=h.sig.form;obtain⟨b2,c2,f2,_,_⟩:=h.path.form;have AC:=Aa fun (k:Nat) (x:Q02) (hk:v.acts[k]?=some x) (sx:eG) (W:ZB) (hx:fH W W x sx)=>(show (∃ tx:Q00,aP x=some tx/\Cl x=tx++[10]/\tx.length<=100000100/\ZE prog 74 #[.agg (As x sx).toArray] W (Ret W (.tuple #[↑tx,.int .i64 0])))\/R=none/\ZE prog 74 #[.agg (As x sx).toArray] W (Ret W (.tuple #[.string ⟨#[]⟩,.int .i64 1])) from by
  cases htx:aP x with
  |some tx=>exact .inl ⟨tx,rfl,My htx,Mp htx hx,Knb x sx W tx hx htx⟩
  |none=>exact .inr ⟨by rw [ht,Kc htx _ (Ap hk)];rfl,Knc x sx W hx htx⟩)
 replace hna:=Aa hna;have q1:ZH (v.authority<0)=false:=Ak oM;have q2:ZH (6<=v.authority)=false:=Ak oM;have q3:ZH (v.number<1)=false:=Ak oM;have q4:ZH (200<v.number)=false:=Ak oM;have q5:ZH (v.pos<0)=false:=Ak oM;have q6:ZH (144001439<v.pos)=false:=Ak oM;have CZ:v.number=1/\v.prev=[]\/(v.number==1)=false/\ZH (1<v.number)=true/\1<=v.prev.length/\ay v.prev=true:=by
  rcases hp with e|⟨e1,e2,e3⟩;·exact .inl e
  ·refine .inr ⟨by simpa using e1,Am oM,?_,e3⟩;rcases Nat.eq_zero_or_pos v.prev.length with h0|h0;·exact absurd (Bo.1 h0) e2
   ·exact h0
 clear h hp hw a1 a2 a3 a4 a5 a6;dsimp only [Al,aA,aJ];rw [ea,f1,f2];clear ea f1 f2;generalize v.sel.sig.length=m1 at *;generalize v.sel.path.length=m2 at *;generalize dG v.authority=d1 at *;generalize dG v.number=d2 at *;generalize dG v.pos=d3 at *;generalize ig v.prev=d4 at *;generalize v.acts=acs at *;obtain⟨N,hN⟩:∃ N,acs.length=N:=⟨_,rfl⟩
 rw [hN] at hla a7 ⊢;replace hN:=Aa hN;obtain⟨J,hJ⟩:∃ J,Hid (CH.join [32] [([118,101,114,115,105,111,110]:Q00),d1,d2,d3,d4]=J):=⟨_,Aa rfl⟩
 rw [hJ.out] at ht hwl;replace ht:=Aa ht;have q7:ZH ((40:Int)<(N:Int))=false:=Ak oM;generalize v.sel.index=ix at *;have hB0:=Aa fun o=>(Ac _ w).alloc nR o;rcases CZ with⟨p1,p2⟩|⟨p1,p2,p3,p4⟩;focus
  rw [p1] at D2 ⊢;rw [p2] at E1 ⊢;clear p1 p2 IS q3 q4;go_enter func40,ntmps40;go_wp2_with fail;have B:=hB0.out;generalize hWd:w.alloc _=W at *;have hBW:Below w w W:=by rw [<- hWd];exact B _
  have K:=Aa (Cp (C:=_) hWd);have hbc:Below W W W:=Ac _ _;clear hWd hB0 B
 rotate_left;focus
  have x1:=I0 p3;have x2:=Hi p3;have IS:=Aa (IS.out p4);clear p4;go_enter func40,ntmps40;go_wp2_with fail;have B:=hB0.out;generalize hWd:w.alloc _=W at *;have hBW:Below w w W:=by rw [<- hWd];exact B _
  have K:=Aa (Cp (C:=_) hWd);clear hWd hB0 B;refine CmZ (IS.out _) fun w1 hbc=>?_;go_wp2_with fail
 all_goals
  have x0:=K.out _ hbc 0 _ rfl;have x1:=K.out _ hbc 1 _ rfl;have x2:=K.out _ hbc 2 _ rfl;have x3:=K.out _ hbc 3 _ rfl;have y0:=@Ag _ _ _ x0;have y1:=@Ag _ _ _ x1;have y2:=@Ag _ _ _ x2;have y3:=@Ag _ _ _ x3;refine Gk 12 kR kR ?_;simp only [Jh,H6,Jv,Iz];repeat (quiet_step (first|(with_reducible exact Bc (D1.out _))|(with_reducible exact Bc (D2.out _))|(with_reducible exact Bc (D3.out _))|(with_reducible exact Bc (E1.out _))))
  refine Bv ?_;intro wq hbq;replace hbq:=An hbq;clear y0 y1 y2 y3 x0 x1 x2 x3 D1 D2 D3 E1;have hbw:=hbc.trans (hbq.mono hbc.size);have hO:=Fu wq [([118,101,114,115,105,111,110]:Q00),d1,d2,d3,d4] sM;have hS0:Below wq wq (wq.alloc (.cells ([([118,101,114,115,105,111,110]:Q00),d1,d2,d3,d4].map aA).toArray 9)):=(Ac _ wq).alloc nR _;simp only [Fa,Iq,aA,A8,Bj,Bf,Nat.reduceAdd] at hO hS0;have JJ:=Aa (Mj _ _ _ hO.strs (by rw [hJ.out];exact hwl));rw [hJ.out] at JJ;have hbx:=hbw.trans (hS0.mono hbw.size);clear hO;have hqj:¬ 9223372036854775807<J.length+1:=oM;go_wp2_with fail;refine CmZ JJ.out fun w3 hb3=>?_;have hb3:=Aa (hbx.trans (hb3.mono hbx.size));clear JJ hS0 hbx hbq hbw hbc;go_wp2_with fail;go_loopw [4,5] (fun sv iv wr=>∃ (k:Nat) (x:Q00),k<=N/\iv=↑k/\sv=↑x/\x.length<=2000000+k*100001000/\Hid (x=J++[10]++(acs.take k).flatMap Cl)/\Hid (∀ (j:Nat) (y:Q02),j<k->acs[j]?=some y->(aP y).isSome=true)/\Hid (Below W W wr)) (fun _ iv _=>N - (ZG iv).toNat);case atStart=>exact⟨0,J++[10],Az _,rfl,by simp only [bytes_append],by simp only [Ah,A8,Bj];omega,Aa sM,Aa (fun j y hj=>absurd hj (Nat.not_lt_zero _)),hb3⟩
  case round =>
   obtain⟨k,x,hk,rfl,rfl,hxl,hx,hA,hB⟩:=hrel;have x4:=K.out wr hB.out 4 _ rfl;have hkm:k*100001000<=40*100001000:=Dh _ oM;by_cases hlt:k<N
   ·obtain⟨b,off,rfl,hbl,kj⟩:=hna.out (by intro h;have:=hN.out;simp [h] at this;omega);obtain⟨y,hy⟩:∃ y,acs[k]?=some y:=⟨_,Ad (by rw [hN.out];exact hlt)⟩
    obtain⟨sy,hc,hat⟩:=kj k y hy;have hBw:=hBW.trans (hB.out.mono hBW.size);have hrg:=Aa (show wr.rangeAt b (off+k*37) (As y sy) from fun j u hj=>(hBw.cell (p:=⟨b,off+k*37+j,none⟩) hbl).trans (hc j u hj));have DV:(prog.info? 73).map (·.size)=some (As y sy).length:=kR;have z0:(0:Int)<=(k:Int):=oM;have zk:((k:Int)).toNat=k:=oM;have hk':(k:Int)<(N:Int):=oM;rcases AC.out k y hy sy wr ((hat.below hBw nR).mono hBw.size) with⟨ty,sty,ety,lty,CT⟩|⟨rfl,CT⟩;rotate_left
    ·clear kj hc hat hy hx hA;generalize As y sy=C at *;replace CT:=Aa CT;go_wp2_with (refine Bd rfl 73 _ rfl b (off+k*37) rfl C _ hrg.out underlying73 rfl DV ?_)
     refine CmZ CT.out fun w4 hb4=>?_;have hB4:=hBW.trans ((hB.out.trans (hb4.mono hB.out.size)).mono hBW.size);clear CT hrg x4 hB hb4 hBw;go_wp2;refine Aj (Aq rfl _ _ _) rfl ?_;exact⟨rfl,hB4⟩
    have hA2:=Aa fun (j:Nat) (u:Q02) (hj:j<k+1) (hu:acs[j]?=some u)=>(show (aP u).isSome=true from by
     rcases Nat.lt_succ_iff_lt_or_eq.1 hj with e|e;·exact hA.out j u e hu
     ·subst e;rw [hy] at hu;cases hu;rw [sty];rfl)
    have hsn:=Oer acs k y hy;have hnx:Hid (x++(ty++[10])=J++[10]++(acs.take (k+1)).flatMap Cl):=Aa (by rw [hsn,ety,hx.out];simp);clear kj hc hat hsn ety sty hy hx hA hBw;generalize As y sy=C at *;replace CT:=Aa CT;have hq1:¬ 9223372036854775807<ty.length+1:=oM;have hq2:¬ 9223372036854775807<x.length+(ty.length+1):=oM;go_wp2_with (refine Bd rfl 73 _ rfl b (off+k*37) rfl C _ hrg.out underlying73 rfl DV ?_)
    refine CmZ CT.out fun w4 hb4=>?_;have hB4:=Aa (hB.out.trans (hb4.mono hB.out.size));clear CT hrg x4 hB hb4;go_wp2_with fail;refine⟨⟨k+1,x++(ty++[10]),oM,by go_num,by simp only [bytes_append],by simp only [Ah,A8,Bj];omega,hnx,hA2,hB4⟩,by simp [ZG];omega⟩
   ·obtain rfl:k=N:=oM;have hxt:R=some x:=by rw [ht.out,Kb _ fun y hy=>by obtain⟨j,hj⟩:=Dj.1 hy;exact hA.out j y (by rw [<- hN.out];exact (lS hj)) hj,hx.out,Bz (by rw [hN.out];exact Bg _)];rfl
    subst hxt;clear hx ht hA;go_wp2;refine Aj (Aq rfl _ _ _) rfl ?_;exact⟨rfl,hBW.trans (hB.out.mono hBW.size)⟩
end
end Go.Proofs.Y
