/-
  ChainMakes: the proof, part 1 of 34.
-/
import Derived.Deep.RegionHeld3
import Derived.Test.YtdgmgjeoikcgbaaGreatDoorProg
import Derived.WalkKit
import Derived.Deep.RegionHeld
import Derived.Deep.WholeRow
import Derived.Lib.QuietBelow
import Derived.Lib.Hide
set_option linter.unusedSimpArgs false
set_option linter.unusedVariables false
set_option maxHeartbeats 40000000
set_option maxRecDepth 100000
set_option linter.defProp false
theorem kR {P:Prop} (h:P:=by kernel_rfl):P:=h
theorem oM {P:Prop} (h:P:=by omega):P:=h
theorem sM {P:Prop} (h:P:=by simp):P:=h
theorem dC {P:Prop} (h:P:=by decide):P:=h
theorem rF {P:Prop} (h:P:=by rfl):P:=h
theorem FD0 {P:Prop} (h:P:=by
 obtain⟨x,hx⟩:∃ x,c.entry.names[j]?=some x:=⟨_,Ad (by rw [hN];omega)⟩
 obtain⟨a',c',e',_,_,hcs⟩:=hv;injection e' with ea eb ec;clear eb;subst ea ec;obtain⟨bb,off,rfl,hblt,hcs⟩:=hcs (fun e=>by rw [e] at hN;simp at hN;omega);obtain⟨vw,d1,d2,d3⟩:=hcs j x hx;have e1:=(hBw.cell (p:=⟨bb,off+j*2,none⟩) hblt).trans d1;have e2:=(hBw.cell (p:=⟨bb,off+j*2+1,none⟩) hblt).trans d2;have hmem:x∈c.entry.names:=Aq hx;have NT:=Aa fun (W:ZB) (hb:Below w w W)=>Ni [aJ x.script,vw] x W (hG.below hb) ⟨vw,rfl,(d3.below hb nR).mono hb.size⟩ (hS.entry.names x hmem) (M3 hok x hmem);have htl:=Mi x (hS.entry.names x hmem);have hts:Hid ((c.entry.names.take (j+1)).map Cf=(c.entry.names.take j).map Cf++[[34]++aV x++[34]]):=Aa (by rw [aI _ j x hx];simp [Cf]);obtain⟨aw,cw,rfl,_,_⟩:=d3.form;generalize x.words.length=xn at *;generalize aV x=T at *;have ht0:((c.entry.names.take j).map Cf).length<=8:=by simp;omega
 replace hBw:=Aa hBw;clear hcs d1 d2 d3 hmem hx;have l1:¬ (9223372036854775807<1+T.length):=oM;have l2:¬ (9223372036854775807<1+T.length+1):=oM;clear htl;go_wp2_with fail;refine (NT.out _ (hBw.out.alloc hBw.out.size _)).mono ?_;rintro e w5 ⟨rfl,hb5⟩;have hA5:=Aa ((hA4.out.alloc _).below hb5);have hB5:Hid (Below w1 w1 w5):=Aa ((hB4.out.alloc hB4.out.size _).trans (hb5.mono (by simp;have:=hB4.out.size;omega)));clear NT hb5 e1 e2;go_wp2_with fail;rw [show (⟨#[34]⟩:ByteArray)++⟨T.toArray⟩++⟨#[34]⟩=⟨([34]++T++[34]).toArray⟩ from by rw [<- bytes_append,<- bytes_append]];refine (K5 _ [[34]++T++[34]] (pre++(c.entry.names.take j).map Cf) w1.heap.size P _ _ (hA5.out.alloc _) (G1 w5 [[34]++T++[34]] sM).strs (by rw [Au];simp only [Ba,Bj];omega)).mono ?_;rintro e w6 ⟨rfl,hA6,hb6,hs6⟩;have hA6:Hid (Cx w1 P w6 (pre++(c.entry.names.take (j+1)).map Cf)):=Aa (by rw [hts.out,<- D9];exact hA6);have hB6:Hid (Below w1 w1 w6):=Aa ((hB5.out.alloc hB5.out.size _).trans hb6);clear hA5 hB5 hb6 hA4 hB4;go_wp2;go_roundw;case rel=>exact⟨j+1,oM,by go_num,hA6,hB6⟩
 case measure=>simp [ZG];omega):P:=h
theorem FD1 {P:Prop} (h:P:=by
 obtain⟨WV,hWV⟩:∃ x,CH.words (Gb v)=x:=⟨_,rfl⟩
 have WN:=fun bo T=>Li (Gb v) [.iface 9 (aA ([118,101,114,115,105,111,110]:List UInt8)),.iface 3 ↑v.authority,.iface 3 ↑v.number,.iface 3 ↑v.pos,.iface 9 (aA v.prev)] T 5 (W1.alloc bo) ((hG.below hB1).gl.below ((Ac _ W1).alloc nR _)) ⟨rfl,⟨rfl,HS.out.authority⟩,⟨rfl,HS.out.number⟩,⟨rfl,HS.out.pos⟩,rfl,trivial⟩ rfl dC (by have:=hl.out;omega);have hl:Hid (WV.length<=1000000):=Aa (by rw [<- hWV];exact hl.out);rw [hWV] at WN;have hR3:Hid (iO ((fE v.acts).map (WV++[10]++·))=R):=Aa (by rw [<- hR2.out,hWV];rfl);simp only [Dn] at WN;have WN:=Aa WN;clear hR2 hWV;refine (WN.out _ _).mono ?_;rintro e w2 ⟨rfl,hb2⟩;have hIB:Lib.IsBuilder 130 5 W1.heap.size W1 (ZL []) w2:=C8 (C8 (Lib.fresh_isBuilder _ _ W1) ((Ac _ _).alloc nR _)) hb2;have hB2:Below W1 W1 w2:=(((Ac _ W1).alloc nR _).alloc sM _).trans (hb2.mono (by simp;omega));have hs2:=hB2.size;clear WN hb2;have hl9:¬ (9223372036854775807<WV.length+1):=by have:=hl.out;omega
 have BW:=Aa fun (sb:ByteArray) (hsb:sb.size<=2000000)=>Eg W1 W1 _ sb w2 hIB (by simp [ZL];omega) hs2;go_wp2_with fail;refine (BW.out _ (by have:=hl.out;simp [Jc];simp [ByteArray.size];omega)).mono ?_;rintro e w3 ⟨rfl,rE,hb3⟩;clear BW hIB;have hB3:Below W1 W1 w3:=hB2.trans hb3;have rE:Lib.IsBuilder 130 5 W1.heap.size W1 (ZL (WV++[10]++(v.acts.take 0).flatMap Cr)) w3:=.inr (by
  have e:ZL (WV++[10]++(v.acts.take 0).flatMap Cr)=ZL []++Lib.strCells (⟨WV.toArray⟩++⟨#[10]⟩):=by simp [ZL,Lib.strCells,bytes_append WV [10]]
  rw [e];exact rE)
 clear hB2 hb3 hs2;have m4:=(hB3.cell (p:=⟨w,4,none⟩) hlt1).trans k4;go_wp2_with fail;go_loopw [86] (fun i wr=>∃ k:Nat,k<=N/\i=↑k/\Hid (Lib.IsBuilder 130 5 W1.heap.size W1 (ZL (WV++[10]++(v.acts.take k).flatMap Cr)) wr)/\Hid (Below W1 W1 wr)/\Hid (∀ x∈v.acts.take k,(aQ x).isSome=true)) (fun i _=>N - (ZG i).toNat);case atStart=>exact⟨0,Bg _,rfl,Aa rE,Aa hB3,Aa fun x hx=>by simp at hx⟩
 case round =>
  obtain⟨k,hk,rfl,hI,hBr,hJ⟩:=hrel;have hBw:Below w w wr:=hB1.trans (hBr.out.mono hB1.size);by_cases hlt:k<N
  ·obtain⟨b,off,rfl,hbl,hcells⟩:=HA3.out (by intro h;have:=HN.out;simp [h] at this;omega);obtain⟨x,hx⟩:∃ x,v.acts[k]?=some x:=⟨_,Ad (by rw [HN.out];exact hlt)⟩
   obtain⟨sx,hc,hat⟩:=hcells k x hx;have hrg:wr.rangeAt b (off+k*37) (Av x sx):=fun j u hj=>(hBw.cell (p:=⟨b,off+k*37+j,none⟩) hbl).trans (hc j u hj);have hlen:(prog.info? 63).map (·.size)=some (Av x sx).length:=kR;have h1c:=Aa (Ry hat);have hlenA:(Av x sx).length=37:=rfl;have T:=Aa fun o=>AT x sx (wr.alloc o) (hG.below (hBw.alloc hBw.size o)) ((hat.below (hBw.alloc hBw.size o) nR).mono (hBw.alloc hBw.size o).size);obtain⟨t,ht⟩:∃ t,aQ x=t:=⟨_,rfl⟩
   have hle:∀ y,t=some y->y.length<=100000100:=fun y hy=>M5 (ht.trans hy) hat;rw [ht] at T;have ht:=Aa ht;have hx:=Aa hx;clear hcells hc hat;generalize Av x sx=C at *;have hn1:=Aa (Ca wr C 63);have hrg:=Aa hrg;go_wp2_with (first|refine Bf rfl 63 _ rfl b (off+k*37) rfl C _ hrg.out underlying63 rfl hlen ?_|refine B8 rfl 63 _ _ rfl C rfl rfl (by rw [hlenA];rfl) hlen h1c.out ?_|refine Bf rfl 63 _ rfl wr 0 rfl C _ hn1.out underlying63 rfl hlen ?_)
   refine (T.out _).mono ?_;rintro e w4 ⟨rfl,hb4⟩;clear T hrg hn1 h1c hlenA hlen;have hba:=hBr.out.alloc hBr.out.size (.cells C.toArray 63);have hB4:Below W1 W1 w4:=hba.trans (hb4.mono hba.size);cases t with
   |none =>dsimp only [bQ];go_wp2;refine Ag (Am rfl _ _ _) rfl ?_;refine⟨?_,hB1.trans (hB4.mono hB1.size)⟩;rw [<- hR3.out,K4 ht.out v.acts (Aq hx.out)];rfl
   |some t =>
    have hle:=hle t rfl;have hI4:Hid (Lib.IsBuilder 130 5 W1.heap.size W1 (ZL (WV++[10]++(v.acts.take k).flatMap Cr)) w4):=Aa (C8 (C8 hI.out ((Ac _ wr).alloc nR _)) hb4);have hl8:¬ (9223372036854775807<t.length+1):=oM;have htl:=Zs (l:=v.acts.take k) fun y hy=>HA.out.acts y (He hy);have htk:(v.acts.take k).length<=40:=by rw [Dz,HN.out];have:=Gw h7;omega
    have htl:Hid (((v.acts.take k).flatMap Cr).length<=4000004040):=Aa (by have:=Dh 100000101 htk;omega);have BW:=Aa fun (sb:ByteArray) (hsb:sb.size<=200000000)=>Eg W1 W1 _ sb w4 hI4.out (by have:=hl.out;have:=htl.out;simp only [ZL,Dt,Au,Dx];omega) hB4.size;have hfs:=Aa (Zy Cr v.acts k x hx.out);have xY:=Aa (Nn ht.out);have hJ':Hid (∀ y∈v.acts.take (k+1),(aQ y).isSome=true):=Aa (by
     intro y hy;rw [aI v.acts k x hx.out] at hy;rcases Ea.1 hy with hy|hy;·exact hJ.out y hy
     ·cases Ci.1 hy;rw [ht.out];rfl)
    clear htk hb4;dsimp only [bQ];go_wp2_with fail;refine (BW.out _ (by simp [Jc];simp [ByteArray.size];omega)).mono ?_;rintro e w5 ⟨rfl,hI5,hb5⟩;have hI5:Hid (Lib.IsBuilder 130 5 W1.heap.size W1 (ZL (WV++[10]++(v.acts.take (k+1)).flatMap Cr)) w5):=Aa (.inr (by
     have e:ZL (WV++[10]++(v.acts.take (k+1)).flatMap Cr)=ZL (WV++[10]++(v.acts.take k).flatMap Cr)++Lib.strCells (⟨t.toArray⟩++⟨#[10]⟩):=by rw [hfs.out,xY.out];simp [ZL,Lib.strCells,bytes_append t [10]]
     rw [e];exact hI5))
    have hB5:Hid (Below W1 W1 w5):=Aa (hB4.trans hb5);clear BW hb5;go_wp2;go_roundw;case rel=>exact⟨k+1,oM,by go_num,hI5,hB5,hJ'⟩
    case measure=>simp [ZG];omega
  ·have hkN:k=N:=oM;subst hkN;have hI:=hI.out;have hJ:=hJ.out;rw [<- HN.out,Dw] at hI hJ;have hR4:Hid (iO (some (WV++[10]++v.acts.flatMap Cr))=R):=Aa (by rw [<- hR3.out,K3 v.acts hJ];rfl);generalize WV++[10]++v.acts.flatMap Cr=FT at *;go_wp2_with fail;refine (Tryz.Builder_String_any _ _ _ _ hI hBr.out.size).mono ?_;rintro e w4 ⟨rfl,hb4⟩;go_wp2;refine Ag (Am rfl _ _ _) rfl ?_;exact⟨by rw [<- hR4.out];rfl,hBw.trans (hb4.mono hB1.size)⟩):P:=h
theorem FD2 {P:Prop} (h:P:=by
 have gX:KT=[40]++T++[41]:=hkP.out (by rw [hpar.out];rfl);replace gX:=Aa gX;clear hkP hkB hpar hKT;go_wp2_with (at_builtin;refine Cs rfl _ _ rfl (w+1) _ L rfl (hO2.out.alloc _) w2.heap.size 1 ([40]++T++[41]) rfl ?c1 ?c2 ?c3 ?_)
 case c1=>rw [Cj _ _ _ _ rfl];show some (Value.string ((⟨[40].toArray⟩:ByteArray)++⟨T.toArray⟩++⟨[41].toArray⟩))=_;rw [bytes_append,bytes_append]
 case c2=>rw [hLl.out];omega
 case c3=>simp;omega
 intro v3 w3 hO3 hg3 _;obtain⟨hO4,hB4⟩:=STEP.out v3 w3 _ (by rw [gX.out];exact hO3) hg3;exact FD114):P:=h
theorem FD3 {P:Prop} (h:P:=by
 go_wp2_with fail;go_loopw [5] (fun i wr=>∃ k:Nat,k<=N/\i=↑k/\Hid (Below w w wr)) (fun i _=>N - (ZG i).toNat);case atStart=>exact⟨0,Bg _,rfl,Aa (Ac _ _)⟩
 case round =>
  obtain⟨k,hk,rfl,hBr⟩:=hrel;by_cases hlt:k<N
  ·obtain⟨b,off,rfl,hbl,hcells⟩:=hne.out (by intro h;have:=hN.out;simp [h] at this;omega);obtain⟨b',off',rfl,ig,hcells'⟩:=hne'.out (by intro h;have:=hN.out;simp [h] at this;omega);obtain⟨l,hl'⟩:∃ l,ls[k]?=some l:=⟨_,Ad (by rw [hN.out];exact hlt)⟩
   have e1:wr.cell? ⟨b,off+k,none⟩=some ↑l:=(hBr.out.cell (p:=⟨b,off+k,none⟩) hbl).trans (hcells k l hl');have e2:wr.cell? ⟨b',off'+k,none⟩=some ↑l:=(hBr.out.cell (p:=⟨b',off'+k,none⟩) ig).trans (hcells' k l hl');clear hcells hcells' hl';have z0:(0:Int)<=(k:Int):=oM;have zk:((k:Int)).toNat=k:=oM;have hk':(k:Int)<(N:Int):=oM;have g1:∀ (d:Nat) (os:Array Obj),(grow (ZI wr d) os).cell? ⟨b,off+k,none⟩=some ↑l:=Ae e1;have g2:∀ (d:Nat) (os:Array Obj),(grow (ZI wr d) os).cell? ⟨b',off'+k,none⟩=some ↑l:=Ae e2;go_wp2_with fail;refine Bc kR kR ?_;repeat (quiet_step (fail))
   refine Cm ?_;intro wq hbq;replace hbq:=As hbq;clear g1 g2;have hB2:Hid (Below w w wq):=Aa (hBr.out.trans (hbq.mono hBr.out.size));clear hbq e1 e2;go_wp2;go_roundw;case rel=>exact⟨k+1,oM,by go_num,hB2⟩
   case measure=>simp [ZG];omega
  ·obtain rfl:k=N:=oM;exact FD152):P:=h
theorem FD4 {P:Prop} (h:P:=by
 go_wp2_with fail;refine A.out.mono ?_;clear A;rintro e w1 ⟨hb,hm⟩;cases hl:CH.lex s with
 |error x =>
  have hr':r=false:=by rw [<- hr.out,hl]
  clear hr;rw [hl] at hm;dsimp only at hm;subst hm;have hx:=Box s x hl;have z0:((x.1:Int)==0)=false:=by simp;omega
  clear hl;exact FD67
 |ok ts =>
  rw [hl] at hm;obtain⟨v,rfl,hO⟩:=hm;obtain⟨av,cv,rfl,hc1,hc2⟩:=hO.form;replace hr:=Aa ((congrArg (fun x=>match x with|.ok [t]=>t.kind==1&&t.text==s|_=>false) hl).symm.trans hr.out);clear hl;rcases ts with _|⟨t,_|⟨t2,ts⟩⟩;·have hr':r=false:=hr.out.symm;clear hr hO;exact FD67
  ·obtain⟨g,rfl,k0,k3⟩:=hO.cellAt;have hsb:=Cy t.text s;by_cases hk:t.kind=1
   ·have z1:((t.kind:Int)==1)=true:=by simp;omega
    have hr':r=(t.text==s):=by rw [<- hr.out];show (t.kind==1&&t.text==s)=_;rw [D7.2 hk];rfl
    clear hr;go_wp2;go_ret;exact⟨by rw [hr',<- hsb];rfl,hb⟩
   ·have z1:((t.kind:Int)==1)=false:=by simp;omega
    have hr':r=false:=by rw [<- hr.out];show (t.kind==1&&t.text==s)=_;rw [Bo.2 hk];rfl
    clear hr;exact FD67
  ·have z1:(((t::t2::ts).length:Int)==1)=false:=by simp;omega
   generalize hn:(t::t2::ts).length=n at *;have hr':r=false:=hr.out.symm;clear hO hr;exact FD67):P:=h
theorem FD5 {P:Prop} (h:P:=by
 refine Kd (J:=UnJ d p z X) (fun l a w i hi hJ=>Qd hp hS l a w i hi hJ) (fun l a w h0 hJ=>Vm H l a w h0 hJ) _ _ _ _ (by decide +kernel) ?_;refine⟨by decide +kernel,Uq (by decide +kernel),hb,?_,fun h=>absurd h (by decide +kernel),.map (some r),ZA,ZA,kR,?_,fun h=>absurd h (by decide +kernel),fun h=>absurd h (by decide +kernel)⟩;·intro i hi h;decide +kernel
 ·intro _;refine⟨r,kvs,rfl,hrX,hmap,hnd,fun k v=>?_⟩;rw [hmem];constructor;·rintro⟨i,b,hi,hm,e⟩;refine⟨i,b,hi,?_,e⟩;revert hm;have:=Er hi;simp only [A8,Az,Df] at this;rcases this with rfl|rfl|rfl|rfl|rfl <;> intro hm <;> first|(decide +kernel)|(exact absurd hm dC)
  ·rintro⟨i,b,hi,hl,e⟩;refine⟨i,b,hi,?_,e⟩;have:=Er hi;simp only [A8,Az,Df] at this;rcases this with rfl|rfl|rfl|rfl|rfl <;> first|decide|(exact absurd hl (by decide +kernel))):P:=h
theorem FD6 {P:Prop} (h:P:=by
 subst e;go_wp2_with fail;refine (Hd c.pos X hp0 hp1 (hG.1.below (hB1.trans (hBX.mono hB1.size)))).mono ?_;rintro e w2 ⟨rfl,hb2⟩;have hA2:=hA.below hb2;have hB2:Below w1 w1 w2:=hBX.trans (hb2.mono hBX.size);go_wp2_with fail;refine (K5 _ [ZK c.pos] [kw,c.id] w1.heap.size P _ _ (hA2.alloc _) (G1 w2 [ZK c.pos] sM).strs sM).mono ?_;rintro e w3 ⟨rfl,hA3,hb3,hs3⟩;have hB3:Below w1 w1 w3:=(hB2.alloc hB2.size _).trans hb3;have m33:w3.cell? ⟨w,3,none⟩=some (.slice an N cn):=(hB3.cell (p:=⟨w,3,none⟩) hlt1).trans (Ab HB.out 3);obtain⟨pre,hpre⟩:∃ pre,Hid (pre=[kw,c.id,ZK c.pos]):=⟨_,Aa rfl⟩
 have hA3:Cx w1 P w3 pre:=by rw [hpre.out];exact hA3
 clear hA hA2 m0 m3 m4;have hNp:N<=8:=by rw [<- hN];exact G3 hok
 have hpl:pre.length<=3:=by rw [hpre.out];simp
 go_wp2_with fail;go_loopw [40] (fun iv wr=>∃ j:Nat,j<=N/\iv=↑j/\Hid (Cx w1 P wr (pre++(c.entry.names.take j).map Cf))/\Hid (Below w1 w1 wr)) (fun iv _=>N - (ZG iv).toNat);case atStart=>exact⟨0,Bg _,rfl,Aa (by simpa using hA3),Aa hB3⟩
 case round =>
  obtain⟨j,hj,rfl,hA4,hB4⟩:=hrel;have hBw:Below w w wr:=hB1.trans (hB4.out.mono hB1.size);by_cases hlt:j<N;·exact FD0
  ·obtain rfl:j=N:=oM;have htk:c.entry.names.take j=c.entry.names:=by rw [<- hN,Dw]
   rw [htk] at hA4;clear htk;obtain⟨v,hv4,hO,_,_⟩:=hA4.out;obtain⟨av,cv,rfl,_,_,_⟩:=hO.form;have c11:wr.cell? ⟨P,0,none⟩=some (.slice av (pre++c.entry.names.map Cf).length cv):=Ab hv4 0;have hll:(pre++c.entry.names.map Cf).length<=11:=by rw [Au,Dt,hN];omega
   have hjl:=Mm c hok hS.entry.names pre hpl (by rw [hpre.out];exact .cons hkl.out (.cons uq.out (.one xu.out)));exact FD28):P:=h
theorem FD7 {P:Prop} (h:P:=by have hql:=HQ.out k n hn';have hqd:K9 n=[32,34]++aV n++[34]:=rfl;clear hcells d1 d2 hn' ht;obtain⟨vwa,vwc,rfl,_,_⟩:=d3;generalize n.words.length=nw at *;generalize aV n=nt at *;rw [hqd] at hs;have z0:(0:Int)<=(k:Int):=oM;have zk:((k:Int)).toNat=k:=oM;have hk':(k:Int)<(N:Int):=oM;have hs':=Aa hs.symm;have hkm:k*61000<=8*61000:=Dh _ oM;clear hs hqd;go_wp2_with fail;refine F.out.mono ?_;rintro e w2 ⟨rfl,hb2⟩;have qm:=Aa (hBr.out.trans (hb2.mono hBr.out.size));have hb2:=Aa (hb.out.trans (hb2.mono hb.out.size));clear F e1 e2 c3 hBr hb;go_wp2_with fail;refine⟨⟨k+1,t++([32,34]++nt++[34]),oM,by go_num,by simp only [bytes_append,D9],by simp only [Au,Ba,Bj];omega,hs',qm,hb2⟩,by simp [ZG];omega⟩):P:=h
theorem FD8 {P:Prop} (h:P:=by
 clear hn0 hn1;go_enter func121,ntmps121;go_wp2_with (refine Bf rfl 63 _ rfl w 0 rfl C _ hr0.out underlying63 rfl iA ?_)
 refine (AL.out _ hB0.out).mono ?_;rintro e w1 ⟨rfl,hb1⟩;have hB1:=hB0.out.trans (hb1.mono hB0.out.size);have PP:=P.out w1 _ (Cg hr0.out hb1 sM);have k0:=PP.1;have k35:=PP.2.2.2.2.2.1;rw [Bh] at k35;clear PP AL;go_wp2_with fail;refine (NM.out _).mono ?_;rintro e w2 ⟨rfl,hb2⟩;have hB2:=hB1.trans (hb2.mono hB1.size);replace hb2:=hb1.trans (hb2.mono hb1.size);have PP:=P.out w2 _ (Cg hr0.out hb2 sM);clear k0 k35;have k0:=PP.1;have k35:=PP.2.2.2.2.2.1;have k36:=PP.2.2.2.2.2.2;rw [Bh] at k35 k36;have g35:=@Ae _ _ _ k35;have g36:=@Ae _ _ _ k36;clear PP P NM;go_wp2_with fail;refine Bc kR kR ?_;repeat (quiet_step ((with_reducible exact Bd (DE.out _))))
 refine Cm ?_;intro wq hbq;replace hbq:=As hbq;clear g35 g36 k0 k35 k36 DE;have hB3:=hB2.trans (hbq.mono hB2.size);go_wp2;refine Ag (Am rfl _ _ _) rfl ?_;exact⟨congrArg (fun b=>Ending.returned (.tuple #[.string b,.int .i64 0])) (by simp only [bytes_append,D9,Dv,Dp]),hB3⟩):P:=h
theorem FD9 {P:Prop} (h:P:=by
 go_wp2_with fail;refine (M.out _ (kG _ _)).mono ?_;rintro e w1 ⟨rfl,hb1⟩;clear M;have hB1:Below w w w1:=(kG _ _).trans (hb1.mono (by simp;omega));have hblk:=(hb1.block (w+1) sM).trans (Pl _ _ _);have gQ:=(hb1.block w (by simp;omega)).trans (Lg _ _ _);have hlt:w.heap.size+1<w1.heap.size:=(aZ hblk)
 go_wp2_with fail;refine (S.out _).mono ?_;rintro e w2 ⟨rfl,hb2⟩;clear S;have hB2:Below w w w2:=hB1.trans (hb2.mono hB1.size);have hblk2:=(hb2.block (w+1) hlt).trans hblk;have gW:=(hb2.block w oM).trans gQ;have qg:w2.there (w+1) 5 3:=fun j hj=>⟨by
  rcases (oM:j=0\/j=1\/j=2) with rfl|rfl|rfl;·rw [Ab hblk2 5];rfl
  ·rw [Ab hblk2 6];rfl
  ·rw [Ab hblk2 7];rfl,A9 hblk2 _⟩
 have h0:w2.rangeAt w 0 B7:=fun j u hj=>by rw [Bh,Ab gW j];simpa [B7] using hj
 have h0X:(w2.setCells (w+1) 5 [.int .i64 0,.slice none 0 0,.slice none 0 0]).rangeAt w.heap.size 0 B7:=World.rangeAt_setCells_apart h0 _ _ _ (.inl oM);have h0f:∀ j,(w2.setCells (w+1) 5 [.int .i64 0,.slice none 0 0,.slice none 0 0]).frozen? ⟨w,j,none⟩=false:=fun j=>by rw [World.frozen?_setCells];exact A9 gW j
 have hBX:=Br hB2 (Ij _) [.int .i64 0,.slice none 0 0,.slice none 0 0] 5;have hall:(#[.int .i64 0,.slice none 0 0,.slice none 0 0]:Array Value).all (·.oneCell')=true:=Ec (cs:=[.int .i64 0,.slice none 0 0,.slice none 0 0]) (by intro u hu;simp only [A8,Az,Df] at hu;rcases hu with rfl|rfl|rfl <;> rfl);have hth:(w2.setCells (w+1) 5 [.int .i64 0,.slice none 0 0,.slice none 0 0]).there w.heap.size 0 8:=fun j hj=>⟨by
  obtain⟨u,hu⟩:∃ u,B7[j]?=some u:=⟨_,Ad hj⟩
  rw [h0X j u hu];rfl,h0f _⟩
 have hrF:=Aa (Dc _ w 0 B7 hth);have hBF:=Aa (Br hBX nR B7 0);have hth:=Aa hth;have qg:=Aa qg;have hall:=Aa hall;clear h0 h0X h0f hblk gQ hblk2 gW hb1 hb2 hB1 hB2 hBX;go_wp2_with (first|refine Ef rfl 27 _ _ rfl (w+1) 5 #[.int .i64 0,.slice none 0 0,.slice none 0 0] rfl rfl qg.out hi3 hall.out ?_|refine Ef rfl 29 _ _ rfl w 0 B7.toArray rfl rfl hth.out hi8 Rc ?_)
 exact FD117):P:=h
theorem FD10 {P:Prop} (h:P:=by
 have hrF:=Aa (Dc w3 w 0 [↑v.authority,↑v.number,↑v.pos,↑v.prev,.slice aa N ca,↑i,.slice a1 n1 c1,.slice a2 n2 c2] hth);have hBF:=Aa (Br hB3 nR [↑v.authority,↑v.number,↑v.pos,↑v.prev,.slice aa N ca,↑i,.slice a1 n1 c1,.slice a2 n2 c2] 0);have hsF:=Aa (Mt w3 w.heap.size [↑v.authority,↑v.number,↑v.pos,↑v.prev,.slice aa N ca,↑i,.slice a1 n1 c1,.slice a2 n2 c2] 0);have hrZ:=Aa (Dc w3 w 0 B7 hth);have hBZ:=Aa (Br hB3 nR B7 0);replace hth:=Aa hth;replace hall:=Aa hall;replace hr3:=Aa hr3;clear hno h03 hf3 hy1 hy2 hx1 hx2 hX1 hX2 hBX hsX rG qh hb3 hB3;cases r with
 |error er =>
  have q1:(er==0)=false:=by simpa using hr0 er rfl
  have q2:(er != 0)=true:=by simpa using hr0 er rfl
  dsimp only [It];clear hrF hBF hsF hz1 hz2;go_wp2_with (first|refine Ef rfl 29 _ _ rfl w 0 B7.toArray rfl rfl hth.out hi8 Rc ?_)
  refine Ag (Cl rfl _ _ ⟨w,0,none⟩ _ rfl (Fg _ w 0 29 B7 _ hrZ.out underlying29 rfl hi8)) rfl ?_;exact⟨hBZ.out,.inr ⟨er,rfl,rfl⟩⟩
 |ok t =>
  dsimp only [It];clear hrZ hBZ;go_wp2_with (first|refine Ef rfl 29 _ _ rfl w 0 #[↑v.authority,↑v.number,↑v.pos,↑v.prev,.slice aa N ca,↑i,.slice a1 n1 c1,.slice a2 n2 c2] rfl rfl hth.out hi8 hall.out ?_|refine Bf rfl 29 _ rfl (w+1) 0 rfl [↑v.authority,↑v.number,↑v.pos,↑v.prev,.slice aa N ca,↑i,.slice a1 n1 c1,.slice a2 n2 c2] _ hr3.out underlying29 rfl hi8 ?_)
  refine Ag (Cl rfl _ _ ⟨w,0,none⟩ _ rfl (Fg _ w 0 29 [↑v.authority,↑v.number,↑v.pos,↑v.prev,.slice aa N ca,↑i,.slice a1 n1 c1,.slice a2 n2 c2] _ hrF.out underlying29 rfl hi8)) rfl ?_;refine⟨hBF.out,.inl ⟨⟨.slice aa N ca,.slice a1 n1 c1,.slice a2 n2 c2⟩,rfl,⟨((HV.out _ hBF.out).acts),?_,?_,⟨HS.out.authority,HS.out.number,HS.out.pos,HS.out.prev,⟨by show (-9223372036854775808:Int)<=(i:Int);omega,by show (i:Int)<=9223372036854775807;omega⟩,h1,h2⟩⟩,⟨t,rfl⟩⟩⟩;·exact hz1.out.mono (Jq hsF.out.symm)
  ·exact hz2.out.mono (Jq hsF.out.symm)):P:=h
theorem FD11 {P:Prop} (h:P:=by have k1:w1.cell? ⟨w,1,none⟩=some ↑cid:=Ab hblk 1;have k2:w1.cell? ⟨w,2,none⟩=some ↑en.id:=Ab hblk 2;have k3:w1.cell? ⟨w,3,none⟩=some (.slice an N cn):=Ab hblk 3;have k4:w1.cell? ⟨w,4,none⟩=some ↑ps:=Ab hblk 4;clear E T;exact FD30):P:=h
theorem FD12 {P:Prop} (h:P:=by
 subst e;obtain⟨pre,hpre⟩:∃ pre,Hid (pre=[kw,c.id]):=⟨_,Aa rfl⟩
 have hA3:Cx w1 P X pre:=by rw [hpre.out];exact hA
 have hB3:Below w1 w1 X:=hBX;clear hA m4;have hNp:N<=8:=by rw [<- hN];exact G3 hok
 have hpl:pre.length<=3:=by rw [hpre.out];simp
 go_wp2_with fail;go_loopw [40] (fun iv wr=>∃ j:Nat,j<=N/\iv=↑j/\Hid (Cx w1 P wr (pre++(c.entry.names.take j).map Cf))/\Hid (Below w1 w1 wr)) (fun iv _=>N - (ZG iv).toNat);case atStart=>exact⟨0,Bg _,rfl,Aa (by simpa using hA3),Aa hB3⟩
 case round =>
  obtain⟨j,hj,rfl,hA4,hB4⟩:=hrel;have hBw:Below w w wr:=hB1.trans (hB4.out.mono hB1.size);by_cases hlt:j<N;·exact FD0
  ·obtain rfl:j=N:=oM;have htk:c.entry.names.take j=c.entry.names:=by rw [<- hN,Dw]
   rw [htk] at hA4;clear htk;obtain⟨v,hv4,hO,_,_⟩:=hA4.out;obtain⟨av,cv,rfl,_,_,_⟩:=hO.form;have c11:wr.cell? ⟨P,0,none⟩=some (.slice av (pre++c.entry.names.map Cf).length cv):=Ab hv4 0;have hll:(pre++c.entry.names.map Cf).length<=11:=by rw [Au,Dt,hN];omega
   have hjl:=Mm c hok hS.entry.names pre hpl (by rw [hpre.out];exact .cons hkl.out (.one uq.out));exact FD28):P:=h
theorem FD13 {P:Prop} (h:P:=by intro W hSw;(try dsimp only at hSw);go_simp):P:=h
theorem FD14 {P:Prop} (h:P:=by
 go_wp2_with fail;cases hi:CH.isName l.id with
 |false =>exact FD73
 |true =>have A:=A3.out w2;rw [hi] at A;replace A:=Aa A;clear A3;refine (A.out).mono ?_;rintro e w9 ⟨rfl,hw9⟩;rw [hw9];clear hw9 w9;clear A;clear W;go_wp2;go_ret;exact⟨by rw [<- hr.out];simp [aP,hi,HL.out],hB2⟩):P:=h
theorem FD15 {P:Prop} (h:P:=by
 obtain rfl:KT=T:=hkB.out (by rw [hpar.out];rfl);clear hkP hkB hpar hKT;go_wp2_with (at_builtin;refine Cs rfl _ _ rfl (w+1) _ L rfl (hO2.out.alloc _) w2.heap.size 1 KT rfl ?c1 ?c2 ?c3 ?_)
 case c1=>rw [Cj _ _ _ _ rfl];rfl
 case c2=>rw [hLl.out];omega
 case c3=>simp;omega
 intro v3 w3 hO3 hg3 _;obtain⟨hO4,hB4⟩:=STEP.out v3 w3 _ hO3 hg3;exact FD114):P:=h
theorem FD16 {P:Prop} (h:P:=by
 go_wp2_with fail;go_loopw [8] (fun i wr=>∃ k:Nat,k<=ls.length/\i=↑k/\Hid ((ls.take k).any p=false)/\Below w w wr) (fun i _=>ls.length - (ZG i).toNat);case atStart=>exact⟨0,Bg _,rfl,rfl,Ac _ _⟩
 case round =>
  obtain⟨k,hk,rfl,hH,hb⟩:=hrel;by_cases hlt:k<ls.length
  ·obtain⟨b,off,rfl,hbl,hcells⟩:=hne (by intro h;simp [h] at hlt);obtain⟨l,hl'⟩:∃ l,ls[k]?=some l:=⟨_,Ad hlt⟩
   have hcell:wr.cell? ⟨b,off+k,none⟩=some ↑l:=(hb.cell (p:=⟨b,off+k,none⟩) hbl).trans (hcells k l hl');have hmem:l∈ls:=Aq hl';have HT:=Aa (O8 p ls k l hl');clear hcells hl';go_wp2_with fail;refine (HC.out l _ (hG.below hb) (HM.out l hmem)).mono ?_;rintro e w1 ⟨rfl,hb1⟩;have hb1':=hb.trans (hb1.mono hb.size);rcases hpl:p l with _|_
   ·have HT':Hid ((ls.take (k+1)).any p=false):=by rw [HT.out,hH.out,hpl];exact rfl
    clear hpl;go_wp2;go_roundw;case rel=>exact⟨k+1,oM,by go_num,HT',hb1'⟩
    case measure=>simp [ZG];omega
   ·have hfin:ls.any p=true:=Iy.2 ⟨l,hmem,hpl⟩;have HF:=Aa hfin;clear hpl hfin;go_wp2;go_ret;exact⟨k,rfl,by rw [HF.out];simp,hb1'⟩
  ·have hfin:ls.any p=false:=by have:=hH.out;rwa [Cb oM] at this
   have HF:=Aa hfin;clear hfin hH hne;go_wp2;go_ret;exact⟨-1,rfl,by rw [HF.out];rfl,hb⟩):P:=h
theorem FD17 {P:Prop} (h:P:=by
 have EL:pp.length<=1000:=by rw [<- hpp,List.length_reverse];omega
 clear hpp hpl;go_enter func125,ntmps125;go_wp2_with fail;refine HH.out.mono ?_;rintro e w' ⟨rfl,rfl⟩;go_wp2_with fail;go_region_held3 (fun W'=>Below w w W') (first|exact hB5|exact hB3.alloc hB3.size _|exact hB3|exact hB1|exact hbd)
  (first
  |(rw [Ar rF];refine Cd _ _ rfl w _ _ rfl (hO3.alloc _) w3.heap.size _ rd rfl (Bz _ _ _ _ _) oM (by have:=hB3.size;simp;omega) ?_;intro v5 w5 hO5 hg5;have hB5:Below w w w5:=(hB3.alloc hB3.size _).grown hg5 (by have:=hB3.size;simp;omega) (fun j hj=>(Dj hO3 j hj).1))
  |(go_at_call 125;refine PT.out.mono ?_;rintro e w1 ⟨v1,rfl,hO1,hb1⟩;have hB1:Below w w w1:=hbd.trans (hb1.mono hbd.size);obtain⟨a1,c1,rfl,hf1⟩:=hO1.form;clear hf1)
  |(go_at_call 189;refine (RT.out _ hB1).mono ?_;rintro e w3 ⟨rfl,hb3⟩;have hB3:Below w w w3:=hB1.trans (hb3.mono hB1.size);have hO3:Ax w w3 _ pp:=hO1.below hb3))
 go_wp2;go_ret;exact⟨_,rfl,hO5,hB5⟩):P:=h
theorem FD18 {P:Prop} (h:P:=by
 obtain rfl:k=N:=oM;have htR:t++[59]=R:=by rw [ht.out,<- hR.out,Cb (by rw [hN.out];exact Bv _)]
 have hbx:(⟨t.toArray⟩:ByteArray)++⟨#[59]⟩=⟨R.toArray⟩:=by rw [<- htR,bytes_append]
 have hkm:k*61000<=8*61000:=Dh _ oM;clear ht htR;go_wp2;refine Ag (Am rfl _ _ _) rfl ?_;exact⟨by first|rfl|(rw [hbx];rfl),hBr.out⟩):P:=h
theorem FD19 {P:Prop} (h:P:=by
 go_enter func98,ntmps98;go_wp2_with fail;refine (I.out _).mono ?_;rintro e w1 ⟨rfl,hb1⟩;have hB1:Below w w w1:=(hB0 _).trans (hb1.mono sM);have hblk:=(hb1.block w sM).trans (hW _);have hlt1:w.heap.size<w1.heap.size:=(aZ hblk)
 clear I hb1 hW hB0;have k0:w1.cell? ⟨w,0,none⟩=some ↑kd:=Ab hblk 0;exact FD11):P:=h
theorem FD20 {P:Prop} (h:P:=by
 refine Bc kR kR ?_;repeat (quiet_step (first|exact r1 _ _|exact r2 _ _))
 refine Cm ?_;intro wq hbq;replace hbq:=As hbq;go_wp2_with fail;exact⟨_,J3 rfl _ _ _,by rw [HF.out];rfl,hB0 _ hbq⟩):P:=h
theorem FD21 {P:Prop} (h:P:=by
 refine Bc kR kR ?_;repeat (quiet_step (first|exact Bd (cT _ (Dq _ _ _))|exact Bd (cJ _ (Dq _ _ _))))
 refine Cm ?_;intro wq hbq;replace hbq:=As hbq;clear cT cJ g0 g1;go_wp2;refine Ag (Am rfl _ _ _) rfl ?_;refine⟨?_,hB1.trans (hbq.mono hB1.size)⟩;rw [<- hres'.out,<- bytes_append,<- bytes_append];rfl):P:=h
theorem FD22 {P:Prop} (h:P:=by
 go_wp2;refine Gk (r:=r) (cells:=[.int .i64 0,.int .i64 0,.int .i64 0,.string ⟨#[]⟩]) ?_ hth ?_ hbb nR (Aa ?_) <;> try rfl
 rw [<- hr.out,Hn.out];rfl):P:=h
theorem FD23 {P:Prop} (h:P:=by
 go_wp2_with (refine M4 rfl _ _ rfl base _ ls rfl hO B _ lx rfl hX oM oM ?_;intro v5 w5 hO5 hg5 h45;have hn5:v5.ownBlock≠some p:=h45.elim (fun h=>(by rw [h];exact hne)) (fun h e=>(by rw [h] at e;injection e;omega));clear h45;obtain⟨a5,c5,rfl,hf5⟩:=hO5.form;have hp5:=(hg5.block p hpl (fun e=>hne e.symm)).trans hv;have c5':w5.cell? ⟨p,0,none⟩=some (.slice av N cv):=Ab hp5 0;have f5':w5.frozen? ⟨p,0,none⟩=false:=A9 hp5 0)
 go_end0;have y0:=Be w5 p 0 (.slice a5 (ls++lx).length c5) _ _ _ hp5;simp only [List.setIfInBounds_toArray,List.set_cons_zero] at y0;have e1:(ls++lx).length=N+M:=by simp [hN,hM]
 refine⟨rfl,⟨_,?_,J9 hO5 (K1 w5 ⟨p,0,none⟩ _) (.inr hn5),hn5,hbp⟩,?_,?_⟩;·simpa [e1] using y0
 ·exact (((Ac base w).grown hg5 oM (fun k e=>hblk k e))).setCell (p:=⟨p,0,none⟩) hbp _
 ·simp [World.setCell];exact hg5.size):P:=h
theorem FD24 {P:Prop} (h:P:=by go_wp2_with fail;refine⟨sM,.inl ⟨_,_,rfl,run_takeDeferred (ds:=[]) hdef,?_⟩⟩;exact⟨_,Am rfl _ _ _,_,rfl,hbD⟩):P:=h
theorem FD25 {P:Prop} (h:P:=by
 go_wp2_with fail;refine (M.out _ (kG _ _)).mono ?_;rintro e w1 ⟨rfl,hb1⟩;clear M;have hB1:Below w w w1:=(kG _ _).trans (hb1.mono (by simp;omega));have gQ:=(hb1.block w (by simp;omega)).trans (Lg _ _ _);have h0:w1.rangeAt w 0 B7:=fun j u hj=>by rw [Bh,Ab gQ j];simpa [B7] using hj
 have hth:w1.there w 0 8:=fun j hj=>⟨by
  obtain⟨u,hu⟩:∃ u,B7[j]?=some u:=⟨_,Ad hj⟩
  rw [h0 j u hu];rfl,A9 gQ _⟩
 have hrF:=Aa (Dc w1 w 0 B7 hth);have hBF:=Aa (Br hB1 nR B7 0);have hth:=Aa hth;clear h0 gQ hb1 hB1;go_wp2_with (refine Ef rfl 29 _ _ rfl w 0 B7.toArray rfl rfl hth.out hi8 Rc ?_)
 exact FD117):P:=h
theorem FD26 {P:Prop} (h:P:=by
 go_wp2;go_loop [3] (fun t=>∃ k f:Nat,t=↑k/\1<=k/\k<=2305843009213693952/\Hid (n<=k*2 ^ f/\jC f n k=CH.half n)) (fun t=>n - (ZG t).toNat);case atStart=>exact⟨1,n,rfl,oM,oM,by rw [Nat.one_mul];exact G9 Nat.lt_two_pow_self,rfl⟩
 case round =>
  obtain⟨k,f,rfl,hk,hk2,hH⟩:=hrel;by_cases hlt:2*k<n
  ·go_wp2;go_round;case rel =>
    obtain⟨h1,h2⟩:=hH.out;cases f with
    |zero=>simp at h1;omega
    |succ f =>
     refine⟨2*k,f,by go_num,oM,oM,?_,?_⟩;·rw [Iu] at h1;rw [Lc 2 k,Nat.mul_assoc,Lc 2];exact h1
     ·rw [jC,Ar hlt] at h2;exact h2
   case measure=>simp [ZG];omega
  ·go_wp2;go_ret;exact⟨Pu (by rw [<- hH.out.2,lM _ _ _ hlt]),rfl⟩):P:=h
theorem FD27 {P:Prop} (h:P:=by rw [hb] at A;replace A:=Aa A;go_enter func305,ntmps305;go_wp2_with fail;refine A.out.mono ?_;rintro e w9 ⟨rfl,hw9⟩;rw [hw9];clear A hw9 w9;clear I;go_wp2;go_ret;exact⟨by rw [<- hr.out];simp only [CH.slen,hb];rfl,Ac _ _⟩):P:=h
theorem FD28 {P:Prop} (h:P:=by have J:=Aa (Ml _ (pre++c.entry.names.map Cf) [32] wr hO.strs oM oM);have hRf:Hid (r=bQ (some (CH.join [32] (pre++c.entry.names.map Cf)++[59]))):=Aa (by rw [<- hr.out,hpre.out,<- hkw.out,hkn];unfold bJ;rw [hok,hkn];rfl);generalize CH.join [32] (pre++c.entry.names.map Cf)=JJ at *;generalize (pre++c.entry.names.map Cf).length=LL at *;have l1:¬ (9223372036854775807<JJ.length+1):=oM;clear hjl;clear hO hv4 hA4;go_wp2_with fail;refine J.out.mono ?_;rintro e w7 ⟨rfl,hb7⟩;clear J c11;go_wp2;refine Ag (Am rfl _ _ _) rfl ?_;refine⟨?_,hBw.trans (hb7.mono hBw.size)⟩;rw [hRf.out];unfold bQ;dsimp only;rw [<- bytes_append];rfl):P:=h
theorem FD29 {P:Prop} (h:P:=by obtain⟨a,cap,h1,h2,h3,h4⟩:=h;refine⟨a,cap,h1,h2,h3,fun hne=>?_⟩;obtain⟨b,off,e,hlt,hx⟩:=h4 hne;refine⟨b,off,e,Ai hlt hB,fun j x hj=>?_⟩;obtain⟨s,c1,c2⟩:=hx j x hj;exact⟨s,c1,c2.mono hB⟩):P:=h
theorem FD30 {P:Prop} (h:P:=by go_wp2;go_ret;exact⟨rfl,hB1⟩):P:=h
theorem FD31 {P:Prop} (h:P:=by go_enter func162,ntmps162;go_wp2;go_ret;exact⟨rfl,hB0 _⟩):P:=h
theorem FD32 {P:Prop} (h:P:=by go_enter func55,ntmps55;go_wp2;refine Ag (Am rfl _ _ _) rfl ?_;exact⟨rfl,hB0.out _⟩):P:=h
theorem FD33 {P:Prop} (h:P:=by
 subst hwm;rcases (by cases b1 <;> cases b2 <;> cases b3 <;> simp:(b1=true)\/(b1=false/\b2=false)\/(b1=false/\b2=true/\b3=false)\/(b1=false/\b2=true/\b3=true)) with rfl|⟨rfl,rfl⟩|⟨rfl,rfl,rfl⟩|⟨rfl,rfl,rfl⟩;all_goals rcases (by cases b4 <;> cases b5 <;> cases b6 <;> simp:(b4=false)\/(b4=true/\b5=false)\/(b4=true/\b5=true/\b6=false)\/(b4=true/\b5=true/\b6=true)) with rfl|⟨rfl,rfl⟩|⟨rfl,rfl,rfl⟩|⟨rfl,rfl,rfl⟩
 all_goals go_wp2;go_ret;exact⟨by rw [<- hr'.out];rfl,(Ac _ w).alloc nR _⟩):P:=h
theorem FD34 {P:Prop} (h:P:=by go_wp2;go_ret;exact⟨rfl,Ac _ _⟩):P:=h
theorem FD35 {P:Prop} (h:P:=by
 rcases Ld j 5 with h5|h5;·exact World.rangeAt_setCells_apart rl (w+1) 5 [↑i,.slice a1 n1 c1,.slice a2 n2 c2] (.inr (.inl sM)) j u (by rw [<- hj];rcases (oM:j=0\/j=1\/j=2\/j=3\/j=4) with rfl|rfl|rfl|rfl|rfl <;> rfl)
 ·have:=Dc w2 (w+1) 5 [↑i,.slice a1 n1 c1,.slice a2 n2 c2] lJ (j - 5) u (by
   rw [<- hj];have hj8:j<8:=by have:=(lS hj);simpa using this
   rcases (oM:j=5\/j=6\/j=7) with rfl|rfl|rfl <;> rfl)
  rw [show 0+j=5+(j - 5) from by omega];exact this):P:=h
theorem FD36 {P:Prop} (h:P:=by have hO4:Hid (Ax w w3 v3 ((ws.take (k+1)).flatMap CH.Word.texts)):=Aa (by rw [hts.out];exact hO3);have hB4:Hid (Below w w w3):=Aa (((hB2).alloc oM _).grown hg3 (by simp;omega) (fun j hj=>(Dj hO2 j hj).1));have rD:Hid (((ws.take (k+1)).flatMap CH.Word.texts).length<=(k+1)*5000):=Aa (by rw [hts.out,Au,Dx];have h9:=hLe.out;omega);exact FD68):P:=h
theorem FD37 {P:Prop} (h:P:=by
 rcases (oM:j=0\/j=1\/j=2\/j=3\/j=4\/j=5\/j=6\/j=7) with rfl|rfl|rfl|rfl|rfl|rfl|rfl|rfl;·rw [h03 0 _ rfl] at e;cases e
 ·rw [h03 1 _ rfl] at e;cases e
 ·rw [h03 2 _ rfl] at e;cases e
 ·rw [h03 3 _ rfl] at e;simp only [Fq,Value.string.injEq,ByteArray.mk.injEq] at e;exact hl (by simpa using e.symm)
 ·rw [h03 4 _ rfl] at e;cases e
 ·rw [h03 5 _ rfl] at e;cases e
 ·rw [h03 6 _ rfl] at e;cases e
 ·rw [h03 7 _ rfl] at e;cases e):P:=h
theorem FD38 {P:Prop} (h:P:=by go_wp2;refine Ag (Am rfl _ _ _) rfl ?_;exact⟨by rw [<- hR1.out];rfl,hB1.alloc hB1.size _⟩):P:=h
theorem FD39 {P:Prop} (h:P:=by replace hR:=Aa hR;clear T1 T2;go_enter func319,ntmps319;go_wp2;go_ret;exact⟨by rw [<- hR.out];rfl,hB0.out _⟩):P:=h
theorem FD40 {P:Prop} (h:P:=by go_wp2;go_ret;exact⟨rfl,rfl⟩):P:=h
theorem FD41 {P:Prop} (h:P:=by go_wp2;go_ret;exact⟨rfl,hb1⟩):P:=h
theorem FD42 {P:Prop} (h:P:=by
 clear hR hfalse;rcases hop with rfl|rfl|rfl|rfl|rfl|⟨⟨k1,k2,k3⟩,k4,k5,k6⟩ <;>
  (go_enter func319,ntmps319
   go_wp2
   go_ret
   exact⟨by rw [hr.out];rfl,hB0.out _⟩)):P:=h
theorem FD43 {P:Prop} (h:P:=by go_wp2;go_ret;exact⟨by rw [<- hr.out];unfold CH.within;rw [d0];rfl,rfl⟩):P:=h
theorem FD44 {P:Prop} (h:P:=by dsimp only [bQ];go_wp2;refine Ag (Am rfl _ _ _) rfl ?_;exact⟨by rw [<- hR1.out];rfl,hB1.trans (hb2.mono hB1.size)⟩):P:=h
theorem FD45 {P:Prop} (h:P:=by
 by_cases uP:N<=12
 ·have z1:ZH ((12:Int)<(N:Int))=false:=by simp;omega
  have hr1:r=0:=by rw [<- hr.out,hword.out,h0,hR0,Aj uP];rfl
  subst hr1;exact FD24
 ·have z1:ZH ((12:Int)<(N:Int))=true:=by simp;omega
  have hr1:r=1:=by rw [<- hr.out,hword.out,h0,hR0,Ak uP];rfl
  subst hr1;exact FD24):P:=h
theorem FD46 {P:Prop} (h:P:=by have k3:w1.cell? ⟨w,3,none⟩=some (.string ⟨List.toArray tg⟩):=Ab hblk 3;clear I2 I3;exact FD30):P:=h
theorem FD47 {P:Prop} (h:P:=by obtain⟨a,cap,h1,h2,h3,h4⟩:=h;refine⟨a,cap,h1,h2,h3,fun hne=>?_⟩;obtain⟨b,off,e,hlt,hx⟩:=h4 hne;refine⟨b,off,e,hlt,fun j x hj=>?_⟩;obtain⟨s,c1,c2⟩:=hx j x hj;exact⟨s,fun i u hi=>(hb.cell (p:=⟨b,off+j*37+i,none⟩) (Ai hlt hB)).trans (c1 i u hi),c2.below hb hB⟩):P:=h
theorem FD48 {P:Prop} (h:P:=by obtain⟨a,cap,h1,h2,h3,h4⟩:=h;refine⟨a,cap,h1,h2,h3,fun hne=>?_⟩;obtain⟨b,off,e,hlt,hx⟩:=h4 hne;refine⟨b,off,e,hlt,fun j x hj=>?_⟩;obtain⟨s,c1,c2⟩:=hx j x hj;exact⟨s,fun i u hi=>(hb.cell (p:=⟨b,off+j*8+i,none⟩) (Ai hlt hB)).trans (c1 i u hi),c2.below hb hB⟩):P:=h
theorem FD49 {P:Prop} (h:P:=by go_wp2;go_ret;exact⟨by rw [hr.out];rfl,hB0.out _⟩):P:=h
theorem FD50 {P:Prop} (h:P:=by
 go_enter Tryz.func96,Tryz.ntmps96;go_wp2_with (first|(refine (Ti _ _).mono ?_;rintro e w' ⟨rfl,rfl⟩)|fail)
 go_ret;exact⟨rfl,rfl⟩):P:=h
theorem FD51 {P:Prop} (h:P:=by
 obtain⟨es,clock,hb,hes,_⟩:=h;have hf:=Pq w k kvs es.toList hes;cases hq:Cn k kvs 0 with
 |none =>rw [hq] at hf;simp [Instr.lookup,Eh hT,Gz hb,M0,hf,hz,Result.andThen]
 |some p =>rw [hq] at hf;simp [Instr.lookup,Eh hT,Gz hb,M0,hf,Result.andThen]):P:=h
theorem FD52 {P:Prop} (h:P:=by go_wp2_with fail;refine Ag (Am rfl _ _ _) rfl ?_;exact⟨_,rfl,hO.out.below ((Ac _ wr).alloc nR _),hB.out.alloc hB.out.size _⟩):P:=h
theorem FD53 {P:Prop} (h:P:=by rw [hx] at hr;replace hr:=Aa hr.out;exact FD148):P:=h
theorem FD54 {P:Prop} (h:P:=by clear hR2;go_wp2;refine Ag (Am rfl _ _ _) rfl ?_;exact⟨by rw [<- hR3.out];rfl,hB4⟩):P:=h
theorem FD55 {P:Prop} (h:P:=by have A:=I.out [110] 0 dC w;rw [h4] at A;replace A:=Aa A;go_wp2_with fail;refine A.out.mono ?_;rintro e w9 ⟨rfl,hw9⟩;rw [hw9];clear A hw9 w9;clear I;go_wp2;go_ret;exact⟨by rw [<- hr.out];simp only [CH.slen,h1,h2,h3,h4];rfl,Ac _ _⟩):P:=h
theorem FD56 {P:Prop} (h:P:=by have A:=I.out [39,96,94] 1 dC w1;rw [hq] at A;replace A:=Aa A;go_wp2_with fail;refine A.out.mono ?_;rintro e w9 ⟨rfl,hw9⟩;rw [hw9];clear A hw9 w9;clear I;go_wp2;go_ret;exact⟨by rw [<- hr.out];simp only [CH.slen,hL,hq];rfl,hb1⟩):P:=h
theorem FD57 {P:Prop} (h:P:=by have A:=I.out [110] 0 dC w;rw [h4] at A;replace A:=Aa A;go_wp2_with fail;refine A.out.mono ?_;rintro e w9 ⟨rfl,hw9⟩;rw [hw9];clear A hw9 w9;clear I;go_wp2;go_ret;exact⟨by rw [<- hr.out];simp only [CH.slen,h1,h3,h4];rfl,Ac _ _⟩):P:=h
theorem FD58 {P:Prop} (h:P:=by have z1:¬ 9223372036854775807<6+1+id.length:=oM;have z2:¬ 9223372036854775807<6+1+id.length+1:=oM;have z3:¬ 9223372036854775807<6+1+id.length+1+nt.length:=oM;have z4:¬ 9223372036854775807<6+1+id.length+1+nt.length+1:=oM;exact FD8):P:=h
theorem FD59 {P:Prop} (h:P:=by refine (TX.out _ hB1).mono ?_;rintro e w2 ⟨rfl,hb2⟩;clear TX;go_wp2;refine Ag (Am rfl _ _ _) rfl ?_;exact⟨congrArg (fun b=>Ending.returned (.tuple #[.string b,.int .i64 0])) (bytes_append _ _),hB1.trans (hb2.mono hB1.size)⟩):P:=h
theorem FD60 {P:Prop} (h:P:=by clear i1 i2 hI hd hne HW;go_wp2_with fail;refine L1.out.mono ?_;rintro e w1 ⟨rfl,hb1⟩;have hB1:=hB.out.trans (hb1.mono hB.out.size);clear L1 hb1;go_wp2;refine Ag (Am rfl _ _ _) rfl ?_;exact⟨_,_,rfl,by rw [hr.out];rfl,hB1⟩):P:=h
theorem FD61 {P:Prop} (h:P:=by unfold Fi;exact dU.fO (dU.fO (dU.fO (dU.fO (dU.fO (dU.fO (dU.fO (fun _ h=>by cases h) (.one oM)) (.one oM)) (.cons oM (.cons sM (.one oM)))) (.cons sM (.one oM))) (.cons sM (.one oM))) (.cons sM (.one oM))) (.cons sM (.one oM))):P:=h
theorem FD62 {P:Prop} (h:P:=by obtain⟨_,_,e3,_,_⟩:=h.lm.form;obtain⟨_,_,e4,_,_⟩:=h.lp.form;obtain⟨_,_,e5,_,_⟩:=h.hj.form;change vn=_ at e1;change vk=_ at e2;change vm=_ at e3;change vp=_ at e4;change vj=_ at e5;subst e1 e2 e3 e4 e5;exact Dk.1 rF):P:=h
theorem FD63 {P:Prop} (h:P:=by
 have hbf:Below w w w3:=(hb2'.alloc oM _).grown hg3 (by simp;omega) (fun j hj=>(Dj hO2 j hj).1);clear hO2 hg3 hb2';go_wp2;go_roundw;case rel=>exact⟨k+1,out++[c],oM,by go_num,hO3,hln,HN,hbf⟩
 case measure=>simp [ZG];omega):P:=h
theorem FD64 {P:Prop} (h:P:=by
 generalize CH.isIn s i _=b at *;replace hsl:=Aa hsl;go_enter func346,ntmps346;go_wp2_with fail;refine (C.out _).mono ?_;rintro e w1 ⟨rfl,hb1⟩;cases b;·obtain rfl:=hsl.out;exact FD41
 ·obtain rfl:=hsl.out;exact FD41):P:=h
theorem FD65 {P:Prop} (h:P:=by go_wp2_with fail;refine (WN.out _).mono ?_;rintro e w3 ⟨rfl,hb3⟩;clear WN;go_wp2;refine Ag (Am rfl _ _ _) rfl ?_;exact⟨by rw [<- hR2.out];rfl,(hB2.alloc hB2.size _).trans (hb3.mono (hB2.alloc hB2.size _).size)⟩):P:=h
theorem FD66 {P:Prop} (h:P:=by go_wp2;refine Ag (Am rfl _ _ _) rfl ?_;exact⟨by rw [<- hR1.out];rfl,hB2⟩):P:=h
theorem FD67 {P:Prop} (h:P:=by go_wp2;go_ret;exact⟨by rw [hr'];rfl,hb⟩):P:=h
theorem FD68 {P:Prop} (h:P:=by
 clear hO3 hg3;go_wp2;go_roundw;case rel=>exact⟨k+1,oM,by go_num,hO4,rD,hB4⟩
 case measure=>simp [ZG];omega):P:=h
theorem FD69 {P:Prop} (h:P:=by obtain⟨a,cap,hv,h1,h2,h3⟩:=h;refine⟨a,cap,hv,h1,h2,fun hne=>?_⟩;obtain⟨b,off,ha,hlt,hc⟩:=h3 hne;exact⟨b,off,ha,hlt,fun j l hj=>(hb.cell (p:=⟨b,off+j,none⟩) (Ai hlt hB)).trans (hc j l hj)⟩):P:=h
theorem FD70 {P:Prop} (h:P:=by
 intro k v;rw [hent.mem];constructor;·rintro⟨i,b,hi,hl,e⟩;exact⟨i,b,hi,Cc hl,e⟩
 ·rintro⟨i,b,hi,hl,e⟩;exact⟨i,b,hi,At hl (fun e'=>by have:=Er hi;rw [<- e'] at this;exact absurd this dC),e⟩):P:=h
theorem FD71 {P:Prop} (h:P:=by
 have hr1:r=false:=by rw [<- hr];simp
 clear hr;subst hr1;clear T;exact FD30):P:=h
theorem FD72 {P:Prop} (h:P:=by
 rintro e w1 ⟨rfl,hb1⟩;go_wp2;go_roundw;case rel=>exact⟨k+1,CH.sum t,oM,by go_num,rfl,by rw [dK];omega,by rw [hH.out,<- iM];exact rfl,hb.trans (hb1.mono hb.size)⟩
 case measure=>simp [ZG];omega):P:=h
theorem FD73 {P:Prop} (h:P:=by have A:=A3.out w2;rw [hi] at A;replace A:=Aa A;clear A3 W;refine (A.out).mono ?_;rintro e w9 ⟨rfl,hw9⟩;rw [hw9];clear hw9 w9;clear A;go_wp2;go_ret;exact⟨by rw [<- hr.out];simp [aP,hi],hB2⟩):P:=h
theorem FD74 {P:Prop} (h:P:=by
 go_wp2;refine Gk (r:=r) (cells:=[.int .i64 4,↑i,.int .i64 0,.string ((ByteArray.mk s.toArray).extract i (i+1))]) ?_ hth ?_ hb nR (Aa ?_) <;> try rfl
 rw [<- hr.out,Hn.out];simp only [Ga,Hw];rfl):P:=h
theorem FD75 {P:Prop} (h:P:=by go_wp2_with fail;refine (Bso l w hl).mono ?_;rintro e w1 ⟨rfl,hb⟩;exact FD123):P:=h
theorem FD76 {P:Prop} (h:P:=by go_enter func137,ntmps137;go_wp2_with fail;refine HH.out.mono ?_;rintro e w' ⟨rfl,rfl⟩;go_wp2_with fail;refine IH.out.mono ?_;rintro e w' ⟨rfl,rfl⟩;go_wp2;go_ret;exact⟨Pu oM,rfl⟩):P:=h
theorem FD77 {P:Prop} (h:P:=by clear E;go_enter func154,ntmps154;go_wp2;go_ret;exact⟨rfl,hB0 _ _⟩):P:=h
theorem FD78 {P:Prop} (h:P:=by
 obtain⟨t,ht⟩:=ht;unfold lD;rw [ht];have:hK.getD v.authority.toNat []=jO:=by rw [ha];rfl
 rw [this,hc,hl];have q:ZH (v.authority >= (hK.length:Int))=false:=by rw [ha];decide
 rw [q];rfl):P:=h
theorem FD79 {P:Prop} (h:P:=by exact⟨none,_,by have:=run_endLoop (P:=P) hl (by rw [hrec];simp);rw [hrec] at this;exact this,hdone _ xs _ nR hS (hI.putObj _ hi oM hl rfl) ((World.putObj_heap_other oM).trans hk)⟩):P:=h
theorem FD80 {P:Prop} (h:P:=by rintro e w1 ⟨rfl,hb1⟩;have hB1:=(hB0.out _ _).trans (hb1.mono (hB0.out _ _).size);exact FD30):P:=h
theorem FD81 {P:Prop} (h:P:=by
 simp only [A8,Az,Df] at hr;rcases hr with rfl|rfl;·obtain⟨kvs,⟨es,ck,e,_⟩,_⟩:=hC.known;exact⟨es,ck,e⟩
 ·obtain⟨kvs,⟨es,ck,e,_⟩,_⟩:=hC.forks;exact⟨es,ck,e⟩):P:=h
theorem FD82 {P:Prop} (h:P:=by exact⟨rfl,hB1.trans (hb2.mono hB1.size)⟩):P:=h
theorem FD83 {P:Prop} (h:P:=by replace hr:=Aa hr;go_wp2;go_ret;exact⟨by rw [hr.out];rfl,hBW.trans (hB.out.mono hBW.size)⟩):P:=h
theorem FD84 {P:Prop} (h:P:=by
 intro j u hj;rcases j with _|j;·simp at hj;subst hj;simpa [Addr.add] using hcell
 ·simp at hj):P:=h
theorem FD85 {P:Prop} (h:P:=by clear I3;go_wp2;go_ret;exact⟨rfl,hBw2⟩):P:=h
theorem FD86 {P:Prop} (h:P:=by
 have l1:¬ (9223372036854775807<1+T.length):=oM;have l2:¬ (9223372036854775807<1+T.length+1):=oM;cases b6 <;> cases b5;·exact FD15
 ·exact FD2
 ·exact FD2
 ·exact FD2):P:=h
theorem FD87 {P:Prop} (h:P:=by
 intro e;subst e;have hlt:bU s [1] i<s.length:=oM;have hg:=Ad hlt;rw [jq s _ _ hg] at hc;have:s[bU s [1] i]=10:=by simpa using hb
 rw [this] at hc;exact absurd hc dC):P:=h
theorem FD88 {P:Prop} (h:P:=by go_wp2;go_ret;refine⟨rfl,?_,hfin.out.mono sM⟩;have:=Ut (p:=(v.authority,v.number)) HC.out hv0.out hfin.out zy.out lK.out hmm.out;rw [hA.out] at this;exact this):P:=h
theorem FD89 {P:Prop} (h:P:=by simp only [ZM,Dl,Ed];rw [Ah oM,Ah oM,Ar trivial]):P:=h
theorem FD90 {P:Prop} (h:P:=by clear hO;go_wp2_with fail;refine J.out.mono ?_;rintro e w2 ⟨rfl,hb2⟩;clear J m0;go_wp2;go_ret;exact⟨by rw [<- hRe.out];rfl,hB.trans (hb2.mono hB.size)⟩):P:=h
theorem FD91 {P:Prop} (h:P:=by go_wp2_with fail;refine (V.out _ hB2).mono ?_;rintro e w3 ⟨rfl,hb3⟩;clear V;go_wp2;go_ret;exact⟨by rw [<- hR2.out];rfl,hB2.trans (hb3.mono hB2.size)⟩):P:=h
theorem FD92 {P:Prop} (h:P:=by obtain⟨_,o,ho,hall⟩:=Ht.1 h;obtain⟨oj,hj,e,he,hb,hon⟩:=Region.waitsFor_spec hw;obtain rfl:oj=o:=Ic (hj.symm.trans ho);rw [<- hon];exact hall e he hb):P:=h
theorem FD93 {P:Prop} (h:P:=by go_wp2;go_ret;exact⟨rfl,hb1.trans (hb2.mono hb1.size)⟩):P:=h
theorem FD94 {P:Prop} (h:P:=by
 rw [hx] at hne;rw [show (en.id != cid)=true from by rw [bne,hx];rfl] at hr;have hr1:r=false:=by rw [<- hr];simp
 clear hr;subst hr1;clear E T;exact FD30):P:=h
theorem FD95 {P:Prop} (h:P:=by go_wp2;refine Ag (Am rfl _ _ _) rfl ?_;exact⟨rfl,hB2⟩):P:=h
theorem FD96 {P:Prop} (h:P:=by go_wp2;refine Ag (Am rfl _ _ _) rfl ?_;exact⟨rfl,hB1⟩):P:=h
theorem FD97 {P:Prop} (h:P:=by
 go_wp2;refine Gk (r:=r) (cells:=[.int .i64 0,.int .i64 0,.int .i64 0,.string ⟨#[]⟩]) ?_ hth ?_ hb nR (Aa ?_) <;> try rfl
 rw [<- hr.out,Hn.out];rfl):P:=h
theorem FD98 {P:Prop} (h:P:=by
 go_wp2;go_roundw;case rel=>exact⟨.inr ⟨by go_num,_,_,_,rfl,Aa ⟨_,hO5,oM⟩⟩,Aa (hBW.trans (hb5.mono hBW.size))⟩
 case measure=>simp [ZG]):P:=h
theorem FD99 {P:Prop} (h:P:=by go_wp2_with fail;refine HI.out.mono ?_;rintro e w1 ⟨i,rfl,hi,hb⟩;have HH:=Aa hi;clear hi;go_wp2;go_ret;exact⟨by rw [<- HH.out];rfl,hb⟩):P:=h
theorem FD100 {P:Prop} (h:P:=by go_wp2;refine Ag (Am rfl _ _ _) rfl ?_;exact⟨by rw [<- hR1.out];rfl,hB1⟩):P:=h
theorem FD101 {P:Prop} (h:P:=by
 have h4:(CH.title n.script).length<=6:=by unfold CH.title;exact FD146
 unfold aV;simp only [Au,Ba,Bj,Bh] at h1 ⊢;omega):P:=h
theorem FD102 {P:Prop} (h:P:=by obtain⟨a,cap,hv,h1,h2,h3⟩:=h;refine⟨a,cap,hv,h1,h2,fun hne=>?_⟩;obtain⟨b,off,ha,hlt,hc⟩:=h3 hne;exact⟨b,off,ha,Ai hlt hB,hc⟩):P:=h
theorem FD103 {P:Prop} (h:P:=by
 have hr1:r=1:=by
  have h0:(R==[])=false:=by cases R with|nil=>cases hRe|cons _ _=>rfl
  rw [<- hr.out,hword.out,h0];rfl
 subst hr1;exact FD24):P:=h
theorem FD104 {P:Prop} (h:P:=by go_wp2;refine Ag (results_tmp3 rfl _ _ _) rfl ?_;refine⟨(hBr.trans (hb3.mono hBr.size)).alloc (Af hBr.size hb3.size) _,?_⟩;rw [hl'];rfl):P:=h
theorem FD105 {P:Prop} (h:P:=by go_enter func286,ntmps286;go_wp2;go_ret;exact⟨Ac _ _,_,rfl,fun _=>rfl⟩):P:=h
theorem FD106 {P:Prop} (h:P:=by exact⟨rfl,(hB0 _).trans (hb1.mono sM)⟩):P:=h
theorem FD107 {P:Prop} (h:P:=by rintro e w3 ⟨rfl,hb3⟩;clear S;go_wp2;refine Ag (Am rfl _ _ _) rfl ?_;exact⟨by rw [<- hR1.out];rfl,hB2.trans (hb3.mono hB2.size)⟩):P:=h
theorem FD108 {P:Prop} (h:P:=by go_enter func123,ntmps123;go_wp2;go_ret;exact⟨Ac _ _,_,rfl,rfl,nofun⟩):P:=h
theorem FD109 {P:Prop} (h:P:=by
 rcases (oM:j=0\/j=1\/j=2) with rfl|rfl|rfl;·rw [rr 0 _ rfl] at e;cases e
 ·rw [rr 1 _ rfl] at e;cases e
 ·rw [rr 2 _ rfl] at e;cases e):P:=h
theorem FD110 {P:Prop} (h:P:=by
 cases y2;·have:=List.isEmpty_eq_false_iff.1 s3;exact .inr ⟨⟨this,Bo.2 this⟩,rfl⟩
 ·exact .inl ⟨List.isEmpty_iff.1 s3,rfl⟩):P:=h
theorem FD111 {P:Prop} (h:P:=by rw [Kz,F8,Ky];refine⟨hnd,sM,?_⟩;intro a ha b hb' e;obtain⟨x,hx,rfl⟩:=Ej.1 ha;simp only [F9,Iw,Ci] at hb';have:=hold x hx;omega):P:=h
theorem FD112 {P:Prop} (h:P:=by refine⟨?_,A9 hz _⟩;rw [Bh,Ab hz j];rcases (oM:j=0\/j=1\/j=2\/j=3\/j=4\/j=5\/j=6\/j=7) with rfl|rfl|rfl|rfl|rfl|rfl|rfl|rfl <;> rfl):P:=h
theorem FD113 {P:Prop} (h:P:=by go_wp2;go_ret;exact⟨rfl,hBw3⟩):P:=h
theorem FD114 {P:Prop} (h:P:=by
 clear STEP hO3 hg3 hO2 hB2 n0 n1;go_wp2;go_roundw;case rel=>exact⟨j+1,oM,by go_num,hO4,hB4⟩
 case measure=>simp [ZG];omega):P:=h
theorem FD115 {P:Prop} (h:P:=by have A:=I.out ([98,100,102,103,104,106,107,108,109,110,112,113,114,115,116,119,120,121,122,39]:List UInt8) 0 dC w;exact FD27):P:=h
theorem FD116 {P:Prop} (h:P:=by go_wp2;go_ret;exact⟨rfl,hB0.out _⟩):P:=h
theorem FD117 {P:Prop} (h:P:=by refine Ag (Cl rfl _ _ ⟨w,0,none⟩ _ rfl (Fg _ w 0 29 B7 _ hrF.out underlying29 rfl hi8)) rfl ?_;exact⟨rfl,hBF.out⟩):P:=h
theorem FD118 {P:Prop} (h:P:=by rcases Re (hx.trans he) with rfl|rfl <;> decide):P:=h
theorem FD119 {P:Prop} (h:P:=by go_wp2;go_ret;exact⟨rfl,hB2⟩):P:=h
theorem FD120 {P:Prop} (h:P:=by
 rcases hu with rfl|rfl|rfl|rfl|rfl|rfl|rfl|rfl;·rfl
 ·rfl
 ·rfl
 ·rfl
 ·rw [e1];rfl
 ·rfl
 ·rw [e2];rfl
 ·rw [e3];rfl):P:=h
theorem FD121 {P:Prop} (h:P:=by unfold Cp;rw [hk];exact⟨rfl,rfl,⟨rfl,HS.out.n⟩,trivial⟩):P:=h
theorem FD122 {P:Prop} (h:P:=by have l4:¬ (9223372036854775807<6+List.length J):=oM;exact FD21):P:=h
theorem FD123 {P:Prop} (h:P:=by go_wp2;go_ret;exact⟨rfl,hb⟩):P:=h
theorem FD124 {P:Prop} (h:P:=by simp only [ZM,Dl,Ed];rw [Ar trivial]):P:=h
theorem FD125 {P:Prop} (h:P:=by refine (TX.out _ hB1).mono ?_;rintro e w2 ⟨rfl,hb2⟩;clear TX;go_wp2;refine Ag (Am rfl _ _ _) rfl ?_;exact FD82):P:=h
theorem FD126 {P:Prop} (h:P:=by go_enter func36,ntmps36;go_wp2_with fail;refine Ag (Am rfl _ _ _) rfl ?_;exact⟨by rw [<- hR2.out];rfl,(hB0 _)⟩):P:=h
theorem FD127 {P:Prop} (h:P:=by go_enter func174,ntmps174;go_wp2;go_ret;exact⟨by rw [<- hr.out];simp only [Tr,h1,h2];rfl,(Ac _ w).alloc nR _⟩):P:=h
theorem FD128 {P:Prop} (h:P:=by exact⟨rfl,hB2.trans (hb3.mono hB2.size)⟩):P:=h
theorem FD129 {P:Prop} (h:P:=by go_wp2;go_ret;exact⟨rfl,hB.out⟩):P:=h
theorem FD130 {P:Prop} (h:P:=by exact⟨rfl,(Cu w _).trans (hb1.mono sM)⟩):P:=h
theorem FD131 {P:Prop} (h:P:=by
 go_wp2;go_roundw;case rel=>exact⟨j+1,m+1,oM,oM,by go_num,rfl,by trivial⟩
 case measure=>simp [ZG];omega):P:=h
theorem FD132 {P:Prop} (h:P:=by exact⟨rfl,(Ac _ w).alloc nR _⟩):P:=h
theorem FD133 {P:Prop} (h:P:=by rintro e w1 ⟨rfl,hb1⟩;have hB1:=(hB0.out _ _).trans (hb1.mono (hB0.out _ _).size);clear F;exact FD30):P:=h
theorem FD134 {P:Prop} (h:P:=by obtain⟨a,cap,h1,h2,h3,_⟩:=h;exact⟨a,cap,h1,h2,h3⟩):P:=h
theorem FD135 {P:Prop} (h:P:=by go_wp2;go_ret;exact⟨rfl,hBW.trans (hb.mono hBW.size)⟩):P:=h
theorem FD136 {P:Prop} (h:P:=by have h2:16 ^ k<16 ^ 16:=Ko h1 (by simpa using hn);have:=(Nat.pow_lt_pow_iff_right (dC:1<16)).1 h2;omega):P:=h
theorem FD137 {P:Prop} (h:P:=by simp [Instr.mapUpdate,Eh hT,Gz hb,hK.check,Instr.findKey,Eh hK.under,hf,Result.andThen,Kv _ hb];rfl):P:=h
theorem FD138 {P:Prop} (h:P:=by
 refine⟨by simp;omega,?_⟩;intro x hx;rcases A8.1 hx with rfl|hx;·exact eF _
 ·exact this.2 x hx):P:=h
theorem FD139 {P:Prop} (h:P:=by dsimp only [iO];generalize v.sel.sig.length=n1 at *;generalize v.sel.path.length=n2 at *;exact FD38):P:=h
theorem FD140 {P:Prop} (h:P:=by have:=Ap (w.alloc (.deferred (some []))) (.loop (rec .ready none));rw [Dn,hV] at this;exact this):P:=h
theorem FD141 {P:Prop} (h:P:=by subst h0;exact⟨_,[],rfl,⟨a,cap,rfl,h1,h2,fun hne=>absurd rfl hne⟩,fun _ h=>by cases h⟩):P:=h
theorem FD142 {P:Prop} (h:P:=by go_enter func270,ntmps270;go_wp2;go_ret;exact⟨by rw [<- hr.out];unfold aW;rw [d0];rfl,rfl⟩):P:=h
theorem FD143 {P:Prop} (h:P:=by unfold maxLen;omega):P:=h
theorem FD144 {P:Prop} (h:P:=by
 split at h;·cases h;decide
 ·cases h):P:=h
theorem FD145 {P:Prop} (h:P:=by have hkN:k=N:=oM;rw [hkN,<- hN.out,Dw] at hi;rw [Dk] at hi ⊢;exact fun x hx=>hi x (He hx)):P:=h
theorem FD146 {P:Prop} (h:P:=by
 repeat' split
 all_goals decide):P:=h
theorem FD147 {P:Prop} (h:P:=by have hR3:Hid (It (.error 2)=R):=Aa (by rw [<- hR2.out,Ar (by simpa using h20)]);exact FD54):P:=h
theorem FD148 {P:Prop} (h:P:=by go_wp2;go_ret;exact⟨by rw [<- hr.out];rfl,hB3⟩):P:=h
theorem FD149 {P:Prop} (h:P:=by go_wp2;go_ret;exact⟨by rw [<- hr.out];rfl,hB2⟩):P:=h
theorem FD150 {P:Prop} (h:P:=by
 intro x hx;rw [Kz,Ea,Ci] at hx;rcases hx with hx|rfl;·have:=hold x hx;omega
 ·exact Ez _):P:=h
theorem FD151 {P:Prop} (h:P:=by simpa using this):P:=h
theorem FD152 {P:Prop} (h:P:=by go_wp2;go_ret;exact⟨rfl,hBr.out⟩):P:=h
theorem FD153 {P:Prop} (h:P:=by go_enter func237,ntmps237;exact FD49):P:=h
theorem FD154 {P:Prop} (h:P:=by exact⟨none,0,rfl,Bv _,oM,fun h=>absurd rfl h⟩):P:=h
theorem FD155 {P:Prop} (h:P:=by have hB1:=Aa (hB.out.trans (hb1.mono hB.out.size));go_wp2;go_ret;exact⟨rfl,hB1.out⟩):P:=h
theorem FD156 {P:Prop} (h:P:=by
 by_cases e:j=k;·subst e;cases Hl.out.symm.trans hx;exact hb
 ·exact hT.out j x oM hx):P:=h
theorem FD157 {P:Prop} (h:P:=by simp only [World.alloc,Dl,Ed];exact⟨by rw [Ah oM,Ar trivial],by rw [Ar trivial]⟩):P:=h
theorem FD158 {P:Prop} (h:P:=by obtain⟨es,clock,h1,h2⟩:=h;exact⟨es,clock,(hb.block r (aZ h1)).trans h1,h2⟩):P:=h
theorem FD159 {P:Prop} (h:P:=by go_wp2_with fail;refine D.out.mono ?_;rintro e w1 ⟨rfl,hb1⟩;clear D;exact FD41):P:=h
theorem FD160 {P:Prop} (h:P:=by go_wp2_with fail;refine A.out.mono ?_;rintro e w1 ⟨rfl,rfl⟩;clear A;exact FD67):P:=h
theorem FD161 {P:Prop} (h:P:=by clear h0 hne;go_enter func136,ntmps136;go_wp2;go_ret;exact⟨by rw [e'];rfl,rfl⟩):P:=h
theorem FD162 {P:Prop} (h:P:=by rw [decide_eq_true_iff,show ((2:Int) ^ n2)=((2 ^ n2:Nat):Int) from by simp];omega):P:=h
theorem lR {P:Prop} (h:P:=by repeat' first|(intros;kernel_rfl)|decide|constructor):P:=h
instance cW : Coe Go.World Nat := ⟨fun w => w.heap.size⟩
instance cS : Coe (List UInt8) Go.Value := ⟨fun l => .string ⟨l.toArray⟩⟩
instance cI : Coe Int Go.Value := ⟨fun n => .int .i64 n⟩
instance cN : Coe Nat Go.Value := ⟨fun n => .int .i64 n⟩
def Fh:=@Classical.byContradiction
def Ei:=@Bool.and_false
def Gi:=@Bool.false_and
def Gq:=@Bool.not_eq_true
def Gv:=@Bool.not_false
def Hz:=@List.append_nil
def Gw:=@of_decide_eq_true
def Ar:=@if_pos
def Ah:=@if_neg
def Ic:=@Option.some.inj
def Le:=@Array.mem_of_getElem?
def Dk:=@List.all_eq_true
def C9:=@Go.wpAnyH_take
def Eb:=@Go.wpAnyH_ready
def Bq:=@Go.AllReadyH.cons
def Eo:=@Go.AllReadyH.nil
def Bv:=@Nat.le_refl
def Ai:=@Nat.lt_of_lt_of_le
def Af:=@Nat.le_trans
def Nw:=@Array.getElem?_eq_some_iff
def Ny:=@List.getElem?_eq_some_iff
def Ad:=@List.getElem?_eq_getElem
def Jo:=@Nat.mod_lt
def Ko:=@Nat.lt_of_le_of_lt
def Nl:=@Nat.div_eq_of_lt
def Jf:=@Nat.pow_le_pow_right
def J6:=@List.replicate_succ
def Jl:=@List.take_succ_cons
def Au:=@List.length_append
def Ee:=@List.take_add_one
def Ba:=@List.length_cons
def Gf:=@Array.getElem?_modify
def Ej:=@List.mem_map
def Eh:=@Go.run_underlying
def H7:=@List.drop_eq_getElem_cons
def J8:=@Array.length_toList
def Ld:=@Nat.lt_or_ge
def Iu:=@Nat.pow_succ
def Lc:=@Nat.mul_comm
def Gy:=@Go.World.cell?_alloc_past
def Ac:=@Go.RowKit.Below.refl
def Gu:=@Array.getElem?_eq_getElem
def Aa:=@Go.Lib.hid
def Nk:=@Nat.mod_eq_of_lt
def Ie:=@List.getElem?_drop
def Lh:=@Array.getElem?_toList
def Ih:=@Go.IntKind.wrap_u64
def Jy:=@Go.World.cell?_setCell_same'
def Jd:=@Go.World.frozen?_alloc_past
def Jr:=@Go.World.frozen?_setCell
def Jz:=@Go.ByteArray.extract_mk
def Cb:=@List.take_of_length_le
def Ik:=@List.take_zero
def Dp:=@List.nil_append
def Dt:=@List.length_map
def Dz:=@List.length_take
def Bh:=@Nat.zero_add
def G9:=@Nat.le_of_lt
def Cj:=@Go.World.cell?_alloc_at
def Kt:=@Go.World.frozen?_alloc_at
def Bg:=@Nat.zero_le
def En:=@Bool.eq_iff_iff
def D7:=@beq_iff_eq
def Aq:=@List.mem_of_getElem?
def Dx:=@List.length_singleton
def Bj:=@List.length_nil
def Dn:=@Go.World.size_alloc
def Lm:=@Nat.add_assoc
def Jg:=@List.mem_of_mem_drop
def He:=@List.mem_of_mem_take
def Jj:=@Go.World.ownsRow_nil
def Ce:=@List.length_eq_zero_iff
def Ig:=@Go.World.ownsRow.cellAt
def I7:=@Go.info_parts
def H8:=@Go.World.ownsRow.alloc
def Iy:=@List.any_eq_true
def Jv:=@List.ext_getElem?
def Dj:=@Go.World.ownsRow.lt
def Nu:=@List.map_map
def F8:=@List.map_append
def F9:=@List.map_cons
def Iw:=@List.map_nil
def Ea:=@List.mem_append
def Lp:=@List.sum_cons
def Dh:=@Nat.mul_le_mul_right
def Fv:=@List.getElem?_map
def Hy:=@Option.map_some
def Fq:=@Option.some.injEq
def G7:=@Prod.mk.injEq
def Gm:=@List.getElem?_eq_none
def Kw:=@List.drop_eq_nil_of_le
def Fa:=@List.length_drop
def Gj:=@List.findIdx?_eq_some_iff_getElem
def Bo:=@beq_eq_false_iff_ne
def Ak:=@decide_eq_false
def Hw:=@Nat.add_sub_cancel_left
def I9:=@List.all_append
def Jt:=@List.all_cons
def N9:=@List.getElem_of_mem
def Na:=@List.mem_range
def J4:=@List.getElem_mem
def Jw:=@List.all_eq_false
def Eu:=@List.getElem?_cons_zero
def Ew:=@List.getElem?_cons_succ
def A8:=@List.mem_cons
def Fb:=@UInt8.toNat_lt
def a_Bool_true_and:=@Bool.true_and
def Ey:=@decide_eq_decide
def Dq:=@Go.below_regrown
def Bz:=@Go.World.cell?_alloc_mark
def Np:=@if_true
def Bc:=@Go.wp_region_quiet_below
def Cm:=@Go.wpQuiet_nil
def Bd:=@Go.Calls.regrown_of
def Ia:=@Nat.add_zero
def Aw:=@Bool.and_eq_true
def Bl:=@decide_eq_true_eq
def Dy:=@Bool.or_eq_true
def I8:=@List.contains_eq_mem
def Az:=@List.not_mem_nil
def Df:=@or_false
def Di:=@decide_eq_false_iff_not
def Ag:=@Go.bodyPost_ret
def Fg:=@Go.run_loadVar_mid
def Dc:=@Go.World.rangeAt_setCells_same
def Ap:=@Go.heap_alloc_last
def Hu:=@List.size_toArray
def Il:=@List.drop_zero
def Aj:=@decide_eq_true
def Dl:=@Array.getElem?_push
def Ed:=@Array.size_push
def Nv:=@List.foldl_cons
def Gh:=@Option.toList_some
def Dw:=@List.take_length
def Kq:=@Array.all_eq_true'
def Et:=@Nat.lt_of_succ_lt
def Ij:=@Nat.le_succ
def Jb:=@Nat.ne_of_lt
def Ez:=@Nat.lt_succ_self
def Bf:=@Go.wpList_load_mid
def Ef:=@Go.wpList_store_mid
def Ii:=@Array.getElem?_setIfInBounds_ne
def Io:=@Array.getElem?_eq_none
def G5:=@Bool.or_eq_false_iff
def Ht:=@Go.mem_ready
def Ae:=@Go.cell_regrown
def J7:=@List.drop_succ_cons
def Jp:=@Go.Sem.run_bind
def Ip:=@Go.Result.andThen_ok
def Gn:=@Bool.not_true
def H6:=@Bool.false_eq_true
def Kr:=@if_false
def Lu:=@Go.Sem.run_pure
def Ep:=@List.take_append_drop
def Fz:=@Bool.not_eq_true'
def Am:=@Go.results_tmp2
def Jc:=@ByteArray.size_append
def Gz:=@Go.MapKept.run_getObj_map
def Kv:=@Go.MapKept.run_setObj_map
def Ls:=@List.length_set
def Je:=@Go.Oper.semAt_some
def Nh:=@Go.callsIn_of_wp
def Ho:=@Array.replicate_succ
def Hg:=@Array.replicate_zero
def H9:=@List.push_toArray
def Hq:=@List.append_toArray
def Dv:=@List.cons_append
def Ir:=@Go.callsIn_wide
def Hf:=@List.getElem?_append_left
def Nq:=@Go.results_none
def Gs:=@List.getElem?_append_right
def J9:=@Go.World.ownsRow.kept
def Lj:=@Go.wpIn_wide
def Es:=@Go.RowKit.Below.alloc
def D6:=@Go.World.cell?_setCell_far
def D8:=@Go.wpAnyH_done
def Gt:=@List.getElem?_toArray
def J5:=@Go.RowKit.Below.heap_alloc
def Mc:=@List.all_nil
def I5:=@Bool.and_true
def Iz:=@Go.RowKit.run_makeMap
def Gx:=@Go.World.cell?_alloc_some
def bT:=@Go.heap_setCell_other
def Nc:=@List.length_pos_of_mem
def Iq:=@List.any_eq_false
def Ci:=@List.mem_singleton
def La:=@not_or
def Em:=@Go.World.block_lt_of_cell?
def Kz:=@Array.toList_push
def Ky:=@List.nodup_append
def Jm:=@Go.World.setCell_alloc_at
def Ec:=@Go.all_oneCell_toArray
def Ns:=@List.nodup_cons
def Gp:=@List.mem_cons_of_mem
def Nb:=@Nat.lt_trichotomy
def N8:=@List.pairwise_append
def Fp:=@List.mem_iff_getElem?
def Nr:=@Option.map_none
def Nj:=@Option.getD_none
def Md:=@Bool.not_eq_false'
def Js:=@Bool.and_eq_false_iff
def Gg:=@List.flatMap_cons
def G8:=@List.flatMap_nil
def Ku:=@Option.map_eq_some_iff
def Ja:=@List.flatMap_append
def D9:=@List.append_assoc
def Fe:=@Go.wp_region_held_drew
def G6:=@Go.RowKit.Below.drew
def F7:=@Go.RowKit.Below.setCell
def Fj:=@Array.getD_eq_getD_getElem?
def Cc:=@Go.getD_set_true
def Ju:=@Bool.false_or
def Jh:=@List.mem_append_left
def Ib:=@List.mem_append_right
def Me:=@Go.wpAnyH_all
def fK:=@Go.cell_of_row
def N7:=@Go.mem_left
def J3:=@Go.results_tmp
def Ll:=@Option.getD_some
def Jk:=@Bool.not_eq_false
def Jq:=@Nat.le_of_eq
def Lr:=@List.getElem?_range
def Ji:=@List.getElem?_take_of_lt
theorem nR {n:Nat}:n<=n:=Nat.le_refl n
theorem aZ {α:Type} {xs:Array α} {i:Nat} {b:α} (h:xs[i]?=some b):i<xs.size:=(Array.getElem?_eq_some_iff.1 h).1
theorem lS {α:Type} {xs:List α} {i:Nat} {b:α} (h:xs[i]?=some b):i<xs.length:=(List.getElem?_eq_some_iff.1 h).1
namespace Go.Proofs.YtdgmgjeoikcgbaaGreatDoor
theorem tk {P:Program} {md:Region.Mode} {ops:Array Oper} {S:World->Prop} {Q:Exit->Act->World->Prop} {fuel:Nat} {listed:Array Bool} {a:Act} {w:World} {oi:Oper} {v:Value} (i:Nat) (hi:ops[i]?=some oi) (hw:Region.wanted oi (yielded ops a.tmps)=true) (hS:S w) (hy:∀ w,S w->(execOp a.eval oi).run P w=.ok (.value v) w) (h:wpAnyH P md ops Q S fuel (listed.setIfInBounds i true) (a.put oi.dst v) w) (hs:Region.noSelect ops=true:=by kernel_rfl) (hf:Region.free md ops listed i=true:=by kernel_rfl) (hr:(Region.ready md ops listed).contains i=true:=by kernel_rfl) (hQ:∀ c a w,Q (.panic c) (a.put oi.dst v) w->Q (.panic c) a w:=by exact fun _ _ _ h=>h):wpAnyH P md ops Q S (fuel+1) listed a w := wpAnyH_take hi hs hf hr hQ (Or.inl ⟨hw,hy⟩) hS h
theorem tj {P:Program} {md:Region.Mode} {ops:Array Oper} {S:World->Prop} {Q:Exit->Act->World->Prop} {fuel:Nat} {listed:Array Bool} {a:Act} {w:World} {oi:Oper} {v:Value} (i:Nat) (hi:ops[i]?=some oi) (hw:Region.wanted oi (yielded ops a.tmps)=true) (hS:S w) (h:wpAnyH P md ops Q S fuel (listed.setIfInBounds i true) (a.put oi.dst v) w) (hy:∀ w,S w->(execOp a.eval oi).run P w=.ok (.value v) w:=by intro w hSw;(try dsimp only at hSw);go_simp;try with_reducible rfl) (hs:Region.noSelect ops=true:=by kernel_rfl) (hf:Region.free md ops listed i=true:=by kernel_rfl) (hr:(Region.ready md ops listed).contains i=true:=by kernel_rfl) (hQ:∀ c a w,Q (.panic c) (a.put oi.dst v) w->Q (.panic c) a w:=by exact fun _ _ _ h=>h):wpAnyH P md ops Q S (fuel+1) listed a w := wpAnyH_take hi hs hf hr hQ (Or.inl ⟨hw,hy⟩) hS h
theorem rk {P:Program} {md:Region.Mode} {ops:Array Oper} {S:World->Prop} {Q:Exit->Act->World->Prop} {fuel:Nat} {listed:Array Bool} {a:Act} {w:World} {o:Oper} (i:Nat) (ho:ops[i]?=some o) (h:∀ K':Act->World->Prop,Shut (∀ a w,S w->(S w->wpAnyH P md ops Q S fuel (listed.setIfInBounds i true) a w)->K' a w)->if Region.wanted o (yielded ops a.tmps)=true then Oper.wp P o a w K' Q else K' (a.put o.dst undef) w) (hr:Region.ready md ops listed=[i]:=by kernel_rfl):wpAnyH P md ops Q S (fuel+1) listed a w := wpAnyH_ready hr (List.cons_ne_nil _ _) (AllReadyH.cons ho h AllReadyH.nil)
theorem pA {α:Type} (l:List α) (i:Nat) (a:α):l.toArray.setIfInBounds i a=(l.set i a).toArray:=List.setIfInBounds_toArray _ _ _
theorem pB {α:Type} (a b:α) (l:List α):(a::l).set 0 b=b::l:=rfl
theorem pC {α:Type} (a b:α) (l:List α) (n:Nat):(a::l).set (n+1) b=a::l.set n b:=rfl
end Go.Proofs.YtdgmgjeoikcgbaaGreatDoor
