/-
  ChainOrder: the proof, part 25 of 28.
-/
import Derived.Test.YtpkjhpenpfcpfaaGreatDoorP23
set_option linter.unusedSimpArgs false
set_option linter.unusedVariables false
set_option maxHeartbeats 40000000
set_option maxRecDepth 100000
open Go renaming World -> ZB
namespace Go.Proofs.YtpkjhpenpfcpfaaGreatDoor
section
open Go.Lib Go.Proofs.Tryz Go.RowKit Go.Shelf Go.Sort CH
attribute [local irreducible] wpQuiet
theorem Joe (l:List CH.Version) (k:Nat) (x:CH.Version) (h:l[k]?=some x):(l.drop k).reverse=(l.drop (k+1)).reverse++[x]:=by obtain⟨hk,rfl⟩:=Mc.1 h;rw [Gx hk,List.reverse_cons]
theorem Len (v w:CH.Version) (h:CH.bare v=CH.bare w):CH.msg v=CH.msg w:=by unfold CH.msg CH.message dD;rw [jr,jr,h];rfl
theorem Lt3 (v:CH.Version) (k:List UInt8) (h:eU v k=true):∃ t,CH.bare v=some t:=by
 unfold eU dD at h;cases hb:CH.bare v with
 |none=>rw [hb] at h;cases h
 |some t=>exact⟨t,rfl⟩
theorem Hdy (vk vl:Value) (keys:List (List UInt8)) (l:List CH.Version) (w:ZB) (hG:Gc w) (hk:Strs w w vk keys) (hraw:Mk w w vl l) (hl:Hj w w vl l) (hfew:CH.few l 8=true) (hlen:keys.length<=8) (hkl:∀ x∈keys,x.length<=9223372036854775807) : Calls prog 3 #[vk,vl] w (Ret w (.bool true)):=by
 have hl8:l.length<=8:=by unfold CH.few at hfew;rw [Ar] at hfew;exact Gn hfew.2
 have LAW:=Aa fun (h:CH.Clean l)=>sV (chk:=eU) (keys:=keys) Len Lt3 h;have FW:=Aa fun (W:ZB) (hb:Below w w W)=>Isd vl l W ((hraw.below hb nR).mono hb.size);rw [hfew] at FW;have HL:=Aa fun (W:ZB) (hb:Below w w W)=>hl.below hb nR;have CL:=Aa fun (W:ZB) (hb:Below w w W)=>I59 vl l W ((hl.below hb nR).mono hb.size);have AD:=Aa fun (W:ZB) (hb:Below w w W)=>U0 w vk vl keys l W hb.size (hG.below hb) ((hk.below hb nR).mono hb.size) (hl.below hb nR) hkl oM;have AO:=Aa fun (W:ZB) (hb:Below w w W) (v:Value) (hv:Hj W W v (l.reverse++l))=>Jun vk v keys (l.reverse++l) W (hG.below hb) ((hk.below hb nR).mono hb.size) hv hkl oM;have SS:=Aa fun (c r1 r2 d q1 q2:Nat) (W:ZB) (h1:Gc W) (h2:De W c r1 r2 keys (fG keys l).1 (fG keys l).2) (h3:De W d q1 q2 keys (fG keys (l.reverse++l)).1 (fG keys (l.reverse++l)).2) (hcl:CH.Clean l) =>Yw c r1 r2 d q1 q2 keys l (l.reverse++l) W h1 h2 h3 hlen oM (by rw [Aj,List.length_reverse];omega) (LAW.out hcl).2.2.1 (LAW.out hcl).2.2.2;have SN:=Aa fun (W:ZB)=>Ti keys.length hlen W;obtain⟨ak,ck,rfl,hck1,JO,_⟩:=hk;obtain⟨al,cl,rfl,hlc,hcl,hlx⟩:=hl;have hlx:=Aa hlx;obtain⟨NK,hNK⟩:∃ N,Hid (keys.length=N):=⟨_,Aa rfl⟩
 obtain⟨NL,hNL⟩:∃ N,Hid (l.length=N):=⟨_,Aa rfl⟩
 rw [hNK.out] at hlen hck1 ⊢;rw [hNL.out] at hl8 hlc ⊢;simp only [hNL.out,hNK.out] at FW AD AO CL SS SN HL;have q8:decide ((8:Int)<(NK:Int))=false:=by simp;omega
 clear hraw hfew hkl;have hi8:(prog.info? 31).map (·.size)=some 8:=kR;go_enter func3,ntmps3;go_wp2_with fail;refine (Tr w hG).mono ?_;rintro e w1 ⟨rfl,hb1⟩;go_wp2_with fail;refine (FW.out w1 hb1).mono ?_;rintro e w2 ⟨rfl,hb2⟩;have hB2:=hb1.trans (hb2.mono hb1.size);clear FW hb1 hb2;go_wp2_with fail;refine (CL.out w2 hB2).mono ?_;rintro e w3 ⟨hb3,B,rfl,vI⟩;have hB3:=Aa (hB2.trans (hb3.mono hB2.size));clear CL hb3 hB2;cases B with
 |false =>go_wp2;go_ret;exact⟨rfl,hB3.out⟩
 |true =>
 replace vI:=Aa (vI rfl);replace LAW:=Aa (LAW.out vI.out);have hw0:IntKind.i64.wrap ((NL:Int) - 1)=(NL:Int) - 1:=by rw [IntKind.wrap_i64];omega
 go_wp2_with fail;go_loopw [6,7] (fun ov i wr=>∃ k:Nat,k<=NL/\i=.int .i64 ((k:Int) - 1)/\Hid (Cv w3 w3 wr ov (l.drop k).reverse)/\Hid (Below w3 w3 wr)) (fun _ i _=>(RowKit.intOf i+1).toNat);case atStart=>exact⟨NL,Bo _,by first|rfl|(rw [hw0]),Aa (by rw [List.drop_of_length_le (by rw [hNL.out];exact Bo _)];exact Cv.nil nR nR),Aa (Ac _ _)⟩
 case round =>
  obtain⟨k,hkN,rfl,hO,hBr⟩:=hrel;rcases Nat.eq_zero_or_pos k with rfl|hpos;rotate_left
  ·obtain⟨m,rfl⟩:∃ m,k=m+1:=⟨k - 1,oM⟩
   rw [show ((m+1:Nat):Int) - 1=(m:Int) by omega];obtain⟨b,off,rfl,hbl,hx⟩:=hlx.out (by intro h;have:=hNL.out;simp [h] at this;omega);obtain⟨x,hxk⟩:∃ x,l[m]?=some x:=⟨_,Ad (by rw [hNL.out];omega)⟩
   obtain⟨s,hc,hat⟩:=hx m x hxk;have hBw:=hB3.out.trans (hBr.out.mono hB3.out.size);have hrg:=Aa (show wr.rangeAt b (off+m*8) (Al x s) from fun j u hj=>(hBw.cell (p:=⟨b,off+m*8+j,none⟩) hbl).trans (hc j u hj));have sn:=Aa (Joe l m x hxk);have h1c:=Aa (Hv hat);have FM:=Aa fun (W:ZB) (hb:Below w w W)=>hat.below hb nR;have nD:(prog.info? 31).map (·.size)=some (Al x s).length:=hi8;have wo:(Al x s).length=8:=rfl;obtain⟨av,cv,rfl,hcv⟩:=hO.out.form;obtain⟨n,hn⟩:∃ n,Hid (((l.drop (m+1)).reverse).length=n):=⟨_,Aa rfl⟩
   have hn8:n<=8:=by have:=hn.out;have h2:=hNL.out;rw [List.length_reverse,Et] at this;omega
   rw [hn.out] at hcv hO ⊢;have hn1:=Aa (B7 wr (Al x s) 31);have hBn:=Aa ((Ac _ wr).alloc nR (.cells (Al x s).toArray 31));have hO':=Aa (hO.out.below hBn.out);have hz0:(0:Int)<=(m:Int):=oM;have hzm:((m:Int)).toNat=m:=oM;have hml:(m:Int)<(NL:Int):=oM;have hwm:IntKind.i64.wrap ((m:Int) - 1)=(m:Int) - 1:=by rw [IntKind.wrap_i64];omega
   clear hx hc hat hxk hO;generalize hLL:Al x s=LL at *;have hLL:=Aa hLL;go_wp2_with (first|at_builtin;rw [Tu LL _ (by rw [wo];rfl)];refine Hw2 rfl _ _ rfl w3 w3 _ _ hO'.out rfl x s wr _ rfl (by rw [hLL.out];exact hn1.out) ((FM.out _ (hBw.trans (hBn.out.mono hBw.size))).mono hB3.out.size) n hn.out oM ?_|refine Bf rfl 31 _ rfl b (off+m*8) rfl LL _ hrg.out underlying31 rfl nD ?_|refine Ca rfl 31 _ _ rfl LL rfl rfl (by rw [wo];rfl) nD h1c.out ?_)
   intro av' cv' w' g1 g2;have g1':Hid (Cv w3 w3 w' (.slice av' (n+1) cv') (l.drop m).reverse):=Aa (by rw [sn.out];exact g1);have g2':Hid (Below w3 w3 w'):=Aa ((hBr.out.trans (hBn.out.mono hBr.out.size)).trans g2);clear g1 g2 sn hO' hn1 hBn hrg hBw;go_wp2;go_roundw;case rel=>exact⟨m,oM,by go_num,g1',g2'⟩
   case measure=>simp [RowKit.intOf]
  ·have hOl:=hO.out;rw [Hz] at hOl;have hOl:=Aa hOl;have hBw:=Aa (hB3.out.trans (hBr.out.mono hB3.out.size));clear hO hlx;rw [show ((0:Nat):Int) - 1 = -1 by omega];have hrl:l.reverse.length=NL:=by rw [List.length_reverse];exact hNL.out
   obtain⟨ao,co,rfl,hco⟩:=hOl.out.form;rw [hrl] at hOl hco ⊢;go_wp2_with fail;refine (AD.out wr hBw.out).mono ?_;rintro e w4 ⟨hG4,hb4,hif⟩;have hB4:=Aa (hBw.out.trans (hb4.mono hBw.out.size));have hO4:=Aa (hOl.out.below hb4);have hOw:=Aa fun (j:Nat) (hj:(Value.slice ao NL co).ownBlock=some j)=>hOl.out.own j hj;clear AD hOl;by_cases hok:Sd keys=true
   ·rw [Ap hok] at hif;obtain⟨c,r1,r2,rfl,hC,p1,p2,p3⟩:=hif;have hC:=Aa hC;have pp:=Aa (And.intro p1 (And.intro p2 p3));clear p1 p2 p3;have hlv:=Aa ((HL.out w4 hB4.out).mono hB3.out.size);go_wp2_with (at_builtin;refine Uz rfl _ _ rfl w3 w3 _ _ hO4.out rfl _ l rfl hlv.out (by rw [hrl,hNL.out];omega) ?_)
    intro v5 w5 g1 g2 g3;have hO5:=Aa g1.at;have hB5:=Aa (hB4.out.trans (g2.mono hB3.out.size));have hC5:=Aa (ChainIn.at (hC.out.over g3 (fun j hj=>⟨Ag hB3.out.size (hOw.out j hj).1,(hOw.out j hj).2⟩) pp.out.1 pp.out.2.1 pp.out.2.2));clear g1 g2 g3 hO4 hlv hC pp hOw;go_wp2_with fail;refine (AO.out w5 hB5.out _ hO5.out).mono ?_;rintro e w6 ⟨hG6,hb6,hif⟩;rw [Ap hok] at hif;obtain⟨d,q1,q2,rfl,hD,_,_,_⟩:=hif;have hB6:=Aa (hB5.out.trans (hb6.mono hB5.out.size));have hC6:=Aa (hC5.out.below hb6);have hS:=Aa (SS.out c r1 r2 d q1 q2 w6 hG6 hC6.out hD vI.out);have N1:=Aa fun (W:ZB) (hb:Below w6 w6 W)=>Uj c r1 r2 keys _ W (by have:=hC6.out.below hb;rwa [show (fG keys l).2=[] from LAW.out.1] at this);have N2:=Aa fun (W:ZB) (hb:Below w6 w6 W)=>Uj d q1 q2 keys _ W (by have:=hD.below hb;rwa [show (fG keys (l.reverse++l)).2=[] from LAW.out.2.1] at this);clear AO SS SN LAW hO5 hC5 hC6 hD hok;exact FD32
   ·rw [Af hok] at hif;subst hif;have hlv:=Aa ((HL.out w4 hB4.out).mono hB3.out.size);go_wp2_with (at_builtin;refine Uz rfl _ _ rfl w3 w3 _ _ hO4.out rfl _ l rfl hlv.out (by rw [hrl,hNL.out];omega) ?_)
    intro v5 w5 g1 g2 g3;have hO5:=Aa g1.at;have hB5:=Aa (hB4.out.trans (g2.mono hB3.out.size));clear g1 g2 g3 hO4 hlv hOw;go_wp2_with fail;refine (AO.out w5 hB5.out _ hO5.out).mono ?_;rintro e w6 ⟨hG6,hb6,hif⟩;rw [Af hok] at hif;subst hif;have hB6:=Aa (hB5.out.trans (hb6.mono hB5.out.size));have hS:=Aa (SN.out w6);have N1:=Aa fun (W:ZB) (_:Below w6 w6 W)=>Xj W;have N2:=N1;clear AO SS SN LAW hO5 hok;exact FD32
end
end Go.Proofs.YtpkjhpenpfcpfaaGreatDoor
