/- ChainTexts, part 20 of 31. -/
import Derived.Test.YtkboocifdaebgaaGreatDoorP10
import Derived.Test.YtkboocifdaebgaaGreatDoorP11
import Derived.Test.YtkboocifdaebgaaGreatDoorP18
set_option linter.all false
set_option maxHeartbeats 40000000
set_option maxRecDepth 100000
open Go renaming World -> ZB, Value -> ZC, Calls -> ZE
open Decidable renaming decide -> ZH
namespace CH
def jh (v:Version):Version:={ v with sel:=⟨0,[],[]⟩ }
def message (v:Version):Except Int Str:=match bM (jh v) with
 |.error e=>.error e
 |.ok _=>.ok (sum ((bare v).getD []))
def msg (v:Version):Str:=match message v with
 |.error _=>[]
 |.ok m=>m
theorem qA (v:Version):bare (jh v)=bare v:=rfl
end CH
namespace Go.Proofs.Y
open Go.RowKit Go.Lib Go.Shelf Go.Sort CH
theorem Hk1:Hl2:=fun a s W hG h=>I30 a s W hG h fun W' hb=>Ch3 a s W' (hG.below hb) ((h.below hb nR).mono hb.size)
theorem Vm (v:Q01) (s:dA) (w:ZB) (hG:Gc w) (h:aK w w v s) : ZE Tryz.prog 20 #[.agg (At v s).toArray] w (Ret w (kY (CH.bare v))):=Pnd Hk1 v s w hG h
def P1:Except Int Q00->ZC
 |.ok t=>.tuple #[↑t,.int .i64 0]
 |.error e=>.tuple #[.string ⟨#[]⟩,↑e]
theorem Hdr {v:Q01} {s:dA} {B:Nat} {w:ZB} {t:Q00} (hb:CH.bare v=some t) (h:aK B w v s):t.length<=5000000000:=by
 rw [Feb] at hb;split at hb;·cases hb
 ·rename_i hc;obtain⟨u,hu,rfl⟩:=F7.1 hb;have h40:v.acts.length<=40:=by simp only [Ej,G8,Le,Lm,Dw,not_and] at hc;omega
  have hs:∀ a∈v.acts,(aY a).isSome=true:=fun a ha=>by
   cases he:aY a with
   |none=>rw [Ow he v.acts ha] at hu;cases hu
   |some _=>rfl
  rw [On v.acts hs] at hu;cases hu;have h1:=Qn h.acts.acts;have h2:=Ec 100000101 h40;have h3:=Ul h.small;simp only [Am,Dq];omega
def Ka (s:yF):List CH.Word:=[.str ([115,101,97,108]:Q00),.int s.index,.strs s.sig,.str [47],.strs s.path]
theorem Boo {s:yF} (hi:I64 s.index) (h1:Er s.sig) (h2:Er s.path) (h18:s.sig.length<=18) (h8:s.path.length<=8):(CH.words (Ka s)).length<=2000000:=by
 have h3:((Ka s).flatMap CH.Word.texts).length<=80:=by unfold Ka;simp only [Fe,Ii,Am,Ma,Bf];show 1+(1+(s.sig.length+(1+(s.path.length+0))))<=80;omega
 refine Aj (Sg _ 20000 80 ?_ h3) dC;intro x hx;simp only [Ka,Az,Bo,Ey] at hx;rcases hx with rfl|rfl|rfl|rfl|rfl;·exact C0 _ sM
 ·exact C6 _ hi
 ·exact h1.2
 ·exact C0 _ sM
 ·exact h2.2
theorem Zb (v:Q01):bM v=match CH.bare v with
  |none=>.error 1
  |some s=>if ZH (v.sel.index<0)||(ZH (255<v.sel.index)||(!dN v.sel.sig 18||!dN v.sel.path 8)) then .error 1
   else if 20000<(s++(CH.words (Ka v.sel)++[10])).length then .error 2 else .ok (s++(CH.words (Ka v.sel)++[10])):=by
 unfold bM CH.within Ka
 cases CH.bare v with
 |none=>rfl
 |some s =>
  dsimp only
  have e1:ZH (0<=v.sel.index)=!ZH (v.sel.index<0):=by
   by_cases h:v.sel.index<0
   ·rw [Di h,Cj oM];rfl
   ·rw [Cj h,Di oM];rfl
  have e2:ZH (v.sel.index<=255)=!ZH (255<v.sel.index):=by
   by_cases h:255<v.sel.index
   ·rw [Di h,Cj oM];rfl
   ·rw [Cj h,Di oM];rfl
  rw [e1,e2,Dk]
  cases ZH (v.sel.index<0) <;> cases ZH (255<v.sel.index) <;> cases dN v.sel.sig 18 <;> cases dN v.sel.path 8 <;> rfl
theorem J2 (v:Q01) (s:dA) (w:ZB) (hG:Gc w) (h:aK w w v s) : ZE Tryz.prog 6 #[.agg (At v s).toArray] w (Ret w (P1 (bM v))):=by
 obtain⟨R,hR⟩:=nac (P1 (bM v));rw [hR.out];have hR1:=hR.out;rw [Zb] at hR1;clear hR;have hB0:=fun o=>(Ac _ w).alloc nR o;have HV:=Aa fun (W:ZB) (hb:Below w w W)=>(h.below hb nR).mono hb.size;have T:=fun (W:ZB) (hb:Below w w W)=>Vm v s W (hG.below hb) (HV.out W hb);obtain⟨t,ht⟩:=naa (CH.bare v);have hl:∀ x,t=some x->x.length<=5000000000:=fun x hx=>Hdr (ht.trans hx) h;rw [ht] at T hR1;have T:=Aa T;have hR1:=Aa hR1;have HS:=Aa h.small;obtain⟨va,v1,v2⟩:=s;clear h ht;generalize hC:At v { va:=va,v1:=v1,v2:=v2 }=C at T ⊢;have hlen:(Tryz.prog.info? 27).map (·.size)=some C.length:=by rw [<- hC];kernel_rfl
 have hC:=Aa hC;have hr0:=Aa (C8 w C 27);go_in;go_wp2_with (refine Dn rfl 27 _ rfl w 0 rfl C _ hr0.out Tryz.underlying27 rfl hlen ?_)
 refine CmZ (T.out _ (hB0 _)) fun w1 hb1=>?_;clear T;have hB1:Below w w w1:=(hB0 _).trans (hb1.mono sM);have hlt1:w.heap.size<w1.heap.size:=Af sM hb1.size;have hr1:w1.rangeAt w 0 C:=Kb hr0.out hb1 sM;rw [<- hC.out] at hr1;have r5:w1.rangeAt w 5 [aI v.sel.index,v1,v2]:=D4 (l:=[aI v.authority,aI v.number,aI v.pos,ay v.prev,va]) hr1 5 rfl;have k5:w1.cell? ⟨w,5,none⟩=some ↑v.sel.index:=hr1 5 _ rfl;have k6:w1.cell? ⟨w,6,none⟩=some v1:=hr1 6 _ rfl;have k7:w1.cell? ⟨w,7,none⟩=some v2:=hr1 7 _ rfl;clear hb1 hr0 hr1 hlen r5;have hv1:Strs w1 w1 v1 v.sel.sig:=(HV.out w1 hB1).sig;have hv2:Strs w1 w1 v2 v.sel.path:=(HV.out w1 hB1).path;obtain⟨a1,c1,rfl,_,_⟩:=hv1.form;obtain⟨a2,c2,rfl,_,_⟩:=hv2.form;have JZ:=fun o=>(Ac _ w1).alloc nR o;cases t with
 |none =>dsimp only [kY];generalize v.sel.sig.length=n1 at *;generalize v.sel.path.length=n2 at *;exact FD81
 |some t =>
  have hl:=hl t rfl;dsimp only at hR1;dsimp only [kY];obtain⟨b1,h1⟩:=naa (ZH (v.sel.index<0));obtain⟨b2,h2⟩:=naa (ZH (255<v.sel.index));have D1:=fun (W:ZB) (hb:Below w1 w1 W)=>T5 _ v.sel.sig 18 W ((hG.below hB1).gl.below hb) ((hv1.below hb nR).mono hb.size) (fun l hl=>Aj (HS.out.sig.2 l hl) dC);have D2:=fun (W:ZB) (hb:Below w1 w1 W)=>T5 _ v.sel.path 8 W ((hG.below hB1).gl.below hb) ((hv2.below hb nR).mono hb.size) (fun l hl=>Aj (HS.out.path.2 l hl) dC);obtain⟨b3,h3⟩:=naa (dN v.sel.sig 18);obtain⟨b4,h4⟩:=naa (dN v.sel.path 8);rw [h1,h2,h3,h4] at hR1;rw [h3] at D1;rw [h4] at D2;have D1:=Aa D1;have D2:=Aa D2;have H3:=Aa h3;have H4:=Aa h4;have hv1:=Aa hv1;have hv2:=Aa hv2;clear h3 h4;generalize hn1:v.sel.sig.length=n1 at *;generalize hn2:v.sel.path.length=n2 at *;have hn1:=Aa hn1;have hn2:=Aa hn2;rcases (by cases b1 <;> cases b2 <;> simp:(b1=true)\/(b1=false/\b2=true)\/(b1=false/\b2=false)) with rfl|⟨rfl,rfl⟩|⟨rfl,rfl⟩;·exact FD81
  ·exact FD81
  ·go_wp2_with fail;refine CmZ (D1.out _ (JZ _)) fun w2 hb2=>?_;have hblk:=(hb2.block w1 sM).trans (Ag w1 _);have hlt2:w1.heap.size<w2.heap.size:=(aZ hblk)
   have g0:w2.cell? ⟨w1,0,none⟩=some ↑v.sel.index:=Ab hblk 0;have g1:w2.cell? ⟨w1,1,none⟩=some (.slice a1 n1 c1):=Ab hblk 1;have g2:w2.cell? ⟨w1,2,none⟩=some (.slice a2 n2 c2):=Ab hblk 2;have AV:Below w1 w1 w2:=(JZ _).trans (hb2.mono sM);have hB2:Below w w w2:=hB1.trans (AV.mono hB1.size);clear D1 hb2 hblk;cases b3 with
   |false =>exact FD104
   |true =>
    go_wp2_with fail;refine CmZ (D2.out _ AV) fun w3 hb3=>?_;have m0:=(hb3.cell (p:=⟨w1,0,none⟩) hlt2).trans g0;have m1:=(hb3.cell (p:=⟨w1,1,none⟩) hlt2).trans g1;have m2:=(hb3.cell (p:=⟨w1,2,none⟩) hlt2).trans g2;have hB3:Below w w w3:=hB2.trans (hb3.mono hB2.size);have AU:Below w1 w1 w3:=AV.trans (hb3.mono AV.size);clear D2 hb3 g0 g1 g2;cases b4 with
    |false =>go_wp2;go_ret2;exact⟨by rw [<- hR1.out];rfl,hB3⟩
    |true =>
     have h18:v.sel.sig.length<=18:=by have:=H3.out;unfold dN at this;simp only [Bool.and_eq_true,decide_eq_true_eq] at this;exact this.1
     have h8:v.sel.path.length<=8:=by have:=H4.out;unfold dN at this;simp only [Bool.and_eq_true,decide_eq_true_eq] at this;exact this.1
     have hwl:=Boo HS.out.index HS.out.sig HS.out.path h18 h8;have hWV:Ki w3 w3 (Ka v.sel) [.iface 9 (ay ([115,101,97,108]:Q00)),.iface 3 ↑v.sel.index,.iface 23 (.slice a1 n1 c1),.iface 9 (ay [47]),.iface 23 (.slice a2 n2 c2)] := ⟨rfl,⟨rfl,HS.out.index⟩,⟨_,rfl,(hv1.out.below AU nR).mono AU.size,oM⟩,rfl,⟨_,rfl,(hv2.out.below AU nR).mono AU.size,oM⟩,trivial⟩
     have WN:=Aa fun T=>Lt (Ka v.sel) _ T 5 w3 (hG.below hB3).gl hWV rfl dC oM;generalize hWW:CH.words (Ka v.sel)=WW at *;have hl4:¬ (9223372036854775807<WW.length+1):=oM;have hl5:¬ (9223372036854775807<t.length+(WW.length+1)):=oM;have hR2:Hid (P1 (if 20000<(t++(WW++[10])).length then .error 2 else .ok (t++(WW++[10])))=R):=Aa (by rw [<- hR1.out];rfl);clear hR1 hWV h18 h8;go_wp2_with fail;refine CmZ (WN.out _) fun w4 hb4=>?_;have hB4:Below w w w4:=(hB3.alloc hB3.size _).trans (hb4.mono (hB3.alloc hB3.size _).size);clear WN hb4;have RP:(⟨t.toArray⟩++(⟨WW.toArray⟩++⟨#[10]⟩):ByteArray)=⟨(t++(WW++[10])).toArray⟩:=by rw [<- A5,<- A5]
     have hsz:(⟨t.toArray⟩++(⟨WW.toArray⟩++⟨#[10]⟩):ByteArray).size=t.length+(WW.length+1):=by rw [RP];simp [ByteArray.size]
     by_cases h20:20000<t.length+(WW.length+1)
     ·have q:=nai ((20000:Int)<((t.length+(WW.length+1):Nat):Int));have hR3:Hid (P1 (.error 2)=R):=Aa (by rw [<- hR2.out,Ah (by simpa using h20)]);clear hR2;go_wp2;go_ret2;exact⟨by rw [<- hR3.out];rfl,hB4⟩
     ·have q:=naj ((20000:Int)<((t.length+(WW.length+1):Nat):Int));have hR3:Hid (P1 (.ok (t++(WW++[10])))=R):=Aa (by rw [<- hR2.out,Ai (by simpa using h20)]);clear hR2;go_wp2;go_ret2;exact⟨by rw [<- hR3.out];rfl,hB4⟩
theorem aK.jh {B:Nat} {w:ZB} {v:Q01} {s:dA} (h:aK B w v s):aK B w (CH.jh v) ⟨s.va,.slice none 0 0,.slice none 0 0⟩ := ⟨h.acts,⟨none,0,rfl,Au _,dC,fun e=>absurd rfl e⟩,⟨none,0,rfl,Au _,dC,fun e=>absurd rfl e⟩, ⟨h.small.authority,h.small.number,h.small.pos,h.small.prev,⟨by show (-9223372036854775808:Int)<=0;decide,by show (0:Int)<=9223372036854775807;decide⟩,⟨by simp [CH.jh],fun l hl=>by cases hl⟩,⟨by simp [CH.jh],fun l hl=>by cases hl⟩⟩⟩
theorem Za {v:Q01} {t:Q00} (h:bM v=.ok t):∃ u,CH.bare v=some u:=by
 rw [Zb] at h;cases hb:CH.bare v with
 |none=>rw [hb] at h;cases h
 |some u=>exact⟨u,rfl⟩
theorem Sk {v:Q01} {e:Int} (h:bM v=.error e):e=1\/e=2:=by
 rw [Zb] at h;cases hb:CH.bare v with
 |none=>rw [hb] at h;cases h;exact .inl rfl
 |some u =>
  rw [hb] at h;dsimp only at h;split at h;·cases h;exact .inl rfl
  ·split at h;·cases h;exact .inr rfl
   ·cases h
theorem Alt (v:Q01):CH.message v=match bM (jh v) with
 |.error e=>.error e
 |.ok _=>.ok (CH.sum ((CH.bare v).getD [])):=rfl
theorem Rs (v:Q01) (s:dA) (w:ZB) (hG:Gc w) (h:aK w w v s) : ZE Tryz.prog 13 #[.agg (At v s).toArray] w (Ret w (P1 (CH.message v))):=by
 obtain⟨R,hR⟩:=nac (P1 (CH.message v));rw [hR.out];have hR1:=hR.out;rw [Alt] at hR1;have hB0:=fun o=>(Ac _ w).alloc nR o;have h0:=h.jh;have HV:=Aa fun (W:ZB) (hb:Below w w W)=>(h0.below hb nR).mono hb.size;have T:=fun (W:ZB) (hb:Below w w W)=>J2 (jh v) _ W (hG.below hb) (HV.out W hb);have TB:=fun (W:ZB) (hb:Below w w W)=>Vm (jh v) _ W (hG.below hb) (HV.out W hb);rw [qA] at TB;obtain⟨t,ht⟩:=naa (CH.bare v);obtain⟨x,hx⟩:=naa (bM (jh v));have hl:∀ u,t=some u->u.length<=5000000000:=fun u hu=>Hdr (ht.trans hu) h;have hsome:∀ y,x=.ok y->∃ u,t=some u:=fun y hy=>by obtain⟨u,hu⟩:=Za (hx.trans hy);rw [qA,ht] at hu;exact⟨u,hu⟩
 have herr:∀ e,x=.error e->e≠0:=fun e he=>by rcases Sk (hx.trans he) with rfl|rfl <;> decide
 rw [hx,ht] at hR1;rw [hx] at T;rw [ht] at TB;obtain⟨va,v1,v2⟩:=s;clear h h0 hx ht hR;dsimp only [At,jh] at T TB ⊢;have T:=Aa T;have TB:=Aa TB;have hR1:=Aa hR1;have hsz:∀ o,(w.alloc o).heap.size=w.heap.size+1:=fun o=>by simp
 go_in;go_wp2_with fail;refine CmZ (T.out _ (hB0 _)) fun w1 hb1=>?_;have hB1:Below w w w1:=(hB0 _).trans (hb1.mono sM);have hblk:=(hb1.block w sM).trans (Ag w _);have k0:=Ab hblk 0;have k1:=Ab hblk 1;have k2:=Ab hblk 2;have k3:=Ab hblk 3;have k4:=Ab hblk 4;have k5:=Ab hblk 5;have k6:=Ab hblk 6;have k7:=Ab hblk 7;clear T hb1 hblk hsz;cases x with
 |error e =>
  dsimp only [P1];dsimp only at hR1;have q:(e==0)=false:=by simpa using herr e rfl
  clear herr hsome hl;go_wp2;go_ret2;exact⟨by rw [<- hR1.out];rfl,hB1⟩
 |ok y =>obtain⟨u,rfl⟩:=hsome y rfl;dsimp only [P1];have S:=Aa fun W hG=>Yu u W hG (Aj (hl u rfl) dC);dsimp only [Option.getD_some] at hR1;go_wp2_with fail;refine CmZ (TB.out _ hB1) fun w2 hb2=>?_;have hB2:Below w w w2:=hB1.trans (hb2.mono hB1.size);clear TB;dsimp only [kY];go_wp2_with fail;refine CmZ (S.out _ (hG.below hB2).gl) fun w3 hb3=>?_;clear S;go_wp2;go_ret2;exact⟨by rw [<- hR1.out];rfl,hB2.trans (hb3.mono hB2.size)⟩
theorem Pnc {v:Q01} {u:Q00} (h:CH.bare v=some u):0<=v.authority/\v.authority<6/\1<=v.number/\v.number<=200/\0<=v.pos:=by
 rw [Feb] at h;split at h;·cases h
 ·rename_i hc;simp only [Ej,G8,Le,Nq,Aq,Bj] at hc;omega
theorem Xw {v:Q01} {m:Q00} (h:CH.message v=.ok m):m.length=16:=by
 rw [Alt] at h;split at h;·cases h
 ·cases h;exact eH _
theorem Pfe (v:Q01):(CH.msg v).length<=16:=by
 unfold CH.msg;cases h:CH.message v with
 |error e=>simp
 |ok m=>rw [Xw h];exact Au _
def I22:Except Int Q00->Int
 |.ok _=>0
 |.error e=>e
theorem Gcd (v:Q01):P1 (CH.message v)=.tuple #[.string ⟨(CH.msg v).toArray⟩,.int .i64 (I22 (CH.message v))]:=by unfold CH.msg;cases CH.message v <;> rfl
end Go.Proofs.Y
namespace Go.Proofs.Y
section
open Go.Lib Go.Proofs.Tryz Go.RowKit Go.Shelf Go.Sort CH
variable {B:Nat} {w:ZB} {ls:List Q01}
theorem dG.raw {a:Q02} {s:gV} (h:dG B w a s):iH B w a s:=⟨h.names,h.meas.kids,h.lm,h.lp,h.hj⟩
theorem Gr.raw {v:ZC} {l:List Q02} (h:Gr B w v l):K9 B w v l:=by obtain⟨a,cap,h1,h2,h3,h4⟩:=h;refine⟨a,cap,h1,h2,h3,fun hne=>?_⟩;obtain⟨b,off,e,hlt,hx⟩:=h4 hne;refine⟨b,off,e,hlt,fun j x hj=>?_⟩;obtain⟨s,c1,c2⟩:=hx j x hj;exact⟨s,c1,c2.raw⟩
theorem aK.raw {v:Q01} {s:dA} (h:aK B w v s):fQ B w v s:=⟨h.acts.raw,h.sig,h.path⟩
theorem Qx {W:ZB} {b o:Nat} {a:Q02} {s:gV} (h:W.rangeAt b o (A4 a s)) : W.cell? ⟨b,o,none⟩=some ↑a.kind/\W.rangeAt b (o+1) (Bt a.change s.vn)/\W.rangeAt b (o+6) (A6 a.measure s.vk)/\W.rangeAt b (o+18) (Dm a.licence s.vm s.vp)/\W.rangeAt b (o+25) (Bi a.holding s.vj) /\ W.cell? ⟨b,o+35,none⟩=some ↑a.id/\W.cell? ⟨b,o+36,none⟩=some ↑a.n:=by have r1:W.rangeAt b (o+1) (Bt a.change s.vn++(A6 a.measure s.vk++(Dm a.licence s.vm s.vp++(Bi a.holding s.vj++[ay a.id,aI a.n])))):=D4 (l:=[aI a.kind]) h (o+1) rfl;have r6:=D4 r1 (o+6) rfl;have r18:=D4 r6 (o+18) rfl;have r25:=D4 r18 (o+25) rfl;have r35:=D4 r25 (o+35) rfl;exact⟨h 0 _ rfl,Im r1,Im r6,Im r18,Im r25,r35 0 _ rfl,r35 1 _ rfl⟩
theorem Kc8 {s t:Q00} (h:(s==t)=false):((⟨s.toArray⟩:ByteArray)==⟨t.toArray⟩)=false/\¬ s=t/\¬ t=s := ⟨by rw [Fr];exact h,Dl.1 h,fun e=>Dl.1 h e.symm⟩
theorem Ifn (a b:Q02) (s s':gV) (w:ZB) (R1 R2 R3 R4:Bool) (hk:a.kind=b.kind) (T1:∀ (W:ZB),Below w w W->ZE prog 78 #[.agg (Bt a.change s.vn).toArray,.agg (Bt b.change s'.vn).toArray] W (Ret W (.bool R1))) (T2:∀ (W:ZB),Below w w W->ZE prog 79 #[.agg (A6 a.measure s.vk).toArray,.agg (A6 b.measure s'.vk).toArray] W (Ret W (.bool R2))) (T3:∀ (W:ZB),Below w w W->ZE prog 80 #[.agg (Dm a.licence s.vm s.vp).toArray,.agg (Dm b.licence s'.vm s'.vp).toArray] W (Ret W (.bool R3))) (T4:∀ (W:ZB),Below w w W->ZE prog 81 #[.agg (Bi a.holding s.vj).toArray,.agg (Bi b.holding s'.vj).toArray] W (Ret W (.bool R4))) : ZE prog 33 #[.agg (A4 a s).toArray,.agg (A4 b s').toArray] w (Ret w (.bool (R1&&(R2&&(R3&&(R4&&(a.id==b.id&&a.n==b.n))))))):=by
 replace T1:=Aa T1;replace T2:=Aa T2;replace T3:=Aa T3;replace T4:=Aa T4;have P:=Aa fun (W:ZB) (b:Nat) (hr:W.rangeAt b 0 (A4 a s))=>Qx hr;have P':=Aa fun (W:ZB) (c:Nat) (hr:W.rangeAt c 0 (A4 b s'))=>Qx hr;rw [<- hk] at P';clear hk;have i1:(prog.info? 55).map (·.size)=some (Bt a.change s.vn).length:=kR;have i2:(prog.info? 60).map (·.size)=some (A6 a.measure s.vk).length:=kR;have i3:(prog.info? 62).map (·.size)=some (Dm a.licence s.vm s.vp).length:=kR;have i4:(prog.info? 50).map (·.size)=some (Bi a.holding s.vj).length:=kR;have i1':(prog.info? 55).map (·.size)=some (Bt b.change s'.vn).length:=kR;have i2':(prog.info? 60).map (·.size)=some (A6 b.measure s'.vk).length:=kR;have i3':(prog.info? 62).map (·.size)=some (Dm b.licence s'.vm s'.vp).length:=kR;have i4':(prog.info? 50).map (·.size)=some (Bi b.holding s'.vj).length:=kR;generalize Bt a.change s.vn=C1 at *;generalize A6 a.measure s.vk=C2 at *;generalize Dm a.licence s.vm s.vp=C3 at *;generalize Bi a.holding s.vj=C4 at *;generalize Bt b.change s'.vn=C1' at *;generalize A6 b.measure s'.vk=C2' at *;generalize Dm b.licence s'.vm s'.vp=C3' at *;generalize Bi b.holding s'.vj=C4' at *;generalize A4 a s=C at *;generalize A4 b s'=C' at *;generalize a.kind=ak at *;generalize a.id=aid at *;generalize a.n=an at *;generalize b.id=bid at *;generalize b.n=bn at *;have hB0:=Aa fun o o2=>((Ac _ w).alloc nR o).alloc sM o2;have hr0:=Aa (Wi (C8 w C 64) (.cells C'.toArray 64));have yu:Hid (((w.alloc (.cells C.toArray 64)).alloc (.cells C'.toArray 64)).rangeAt (w.heap.size+1) 0 C'):=Aa (by have:=C8 (w.alloc (.cells C.toArray 64)) C' 64;rwa [Df] at this);obtain⟨k0,r1,_⟩:=P.out _ _ hr0.out;obtain⟨k0',r1',_⟩:=P'.out _ _ yu.out;have r1:=Aa r1;have r1':=Aa r1';go_in;go_wp2_with (first|refine Bb rfl 55 _ rfl w (0+1) rfl C1 _ r1.out underlying55 rfl i1 ?_|refine Bb rfl 55 _ rfl (w+1) (0+1) rfl C1' _ r1'.out underlying55 rfl i1' ?_)
 have B:=hB0.out (.cells C.toArray 64) (.cells C'.toArray 64);have hlt:w.heap.size+1<((w.alloc (.cells C.toArray 64)).alloc (.cells C'.toArray 64)).heap.size:=sM;clear hB0;generalize (w.alloc (.cells C.toArray 64)).alloc (.cells C'.toArray 64)=W at *;have R:=Aa fun (W':ZB) (hb:Below W W W')=>P.out W' _ (Kb hr0.out hb oM);have R':=Aa fun (W':ZB) (hb:Below W W W')=>P'.out W' _ (Kb yu.out hb hlt);clear P P' hr0 yu;refine CmZ (T1.out _ B) fun w1 hb1=>?_;have B1:=B.trans (hb1.mono B.size);clear T1 r1 r1' k0 k0' i1 i1';cases R1;focus clear R R';go_wp2;go_ret;exact⟨rfl,B1⟩
 obtain⟨_,_,r2,_⟩:=R.out w1 hb1;obtain⟨_,_,r2',_⟩:=R'.out w1 hb1;have r2:=Aa r2;have r2':=Aa r2';go_wp2_with (first|refine Bb rfl 60 _ rfl w (0+6) rfl C2 _ r2.out underlying60 rfl i2 ?_|refine Bb rfl 60 _ rfl (w+1) (0+6) rfl C2' _ r2'.out underlying60 rfl i2' ?_)
 refine CmZ (T2.out _ B1) fun w2 hb=>?_;have B2:=B1.trans (hb.mono B1.size);have hb2:=hb1.trans (hb.mono hb1.size);clear T2 r2 r2' hb i2 i2';cases R2;focus clear R R';go_wp2;go_ret;exact⟨rfl,B2⟩
 obtain⟨_,_,_,r3,_⟩:=R.out w2 hb2;obtain⟨_,_,_,r3',_⟩:=R'.out w2 hb2;have r3:=Aa r3;have r3':=Aa r3';go_wp2_with (first|refine Bb rfl 62 _ rfl w (0+18) rfl C3 _ r3.out underlying62 rfl i3 ?_|refine Bb rfl 62 _ rfl (w+1) (0+18) rfl C3' _ r3'.out underlying62 rfl i3' ?_)
 refine CmZ (T3.out _ B2) fun w3 hb=>?_;have B3:=B2.trans (hb.mono B2.size);have hb3:=hb2.trans (hb.mono hb2.size);clear T3 r3 r3' hb i3 i3';cases R3;focus clear R R';go_wp2;go_ret;exact⟨rfl,B3⟩
 obtain⟨_,_,_,_,r4,_⟩:=R.out w3 hb3;obtain⟨_,_,_,_,r4',_⟩:=R'.out w3 hb3;have r4:=Aa r4;have r4':=Aa r4';go_wp2_with (first|refine Bb rfl 50 _ rfl w (0+25) rfl C4 _ r4.out underlying50 rfl i4 ?_|refine Bb rfl 50 _ rfl (w+1) (0+25) rfl C4' _ r4'.out underlying50 rfl i4' ?_)
 refine CmZ (T4.out _ B3) fun w4 hb=>?_;have B4:=B3.trans (hb.mono B3.size);have hb4:=hb3.trans (hb.mono hb3.size);clear T4 r4 r4' hb i4 i4';cases R4;focus clear R R';go_wp2;go_ret;exact⟨rfl,B4⟩
 obtain⟨_,_,_,_,_,k35,k36⟩:=R.out w4 hb4;obtain⟨_,_,_,_,_,NV,NU⟩:=R'.out w4 hb4;clear R R';simp only [Ba] at k35 k36 NV NU;cases hx:aid==bid with
 |false =>obtain⟨s1,s2,s3⟩:=Kc8 hx;go_wp2;go_ret;exact⟨by rw [hx];rfl,B4⟩
 |true =>
  obtain rfl:=eq_of_beq hx;clear hx;cases hy:an==bn with
  |false =>go_wp2;go_ret;exact⟨by rw [beq_self_eq_true,hy];rfl,B4⟩
  |true =>obtain rfl:=eq_of_beq hy;clear hy;go_wp2;go_ret;exact⟨by rw [beq_self_eq_true,beq_self_eq_true];rfl,B4⟩
def Cmm:ZC->Nat
 |.slice _ n _=>n
 |_=>0
def Def (w:ZB) (B:Nat) (r:List Q01 × Q00) (e:Ending) (w':ZB):Prop := ∃ v,e=.returned (.tuple #[v,↑r.2])/\Lk w B w' v r.1/\Below w w w'
theorem Lt3 (w:ZB):(zeroValue 27).run prog w=.ok (.agg #[.int .i64 0,.int .i64 0,.int .i64 0,.string ⟨#[]⟩,.slice none 0 0,.int .i64 0,.slice none 0 0,.slice none 0 0]) w:=kR
theorem Hex (w:ZB) (o1 o2:Obj):((w.alloc o1).alloc o2).heap[w.heap.size]?=some o1 := (((Ac _ (w.alloc o1)).alloc nR o2).block w.heap.size sM).trans (Ag w o1)
theorem Bar {w':ZB} {row:Option Nat} {C:Nat} (h:w.grownBy w' row) (hC:C<=w.heap.size) (hr:∀ j,row=some j->C<=j):Below C w w' := ⟨h.os,h.tape,h.output,h.size,fun k hk=>h.block k oM (fun e=>by have:=hr k e.symm;omega)⟩
theorem Y9 (xs:List (Q01 × dA)) (v:Q01) (s:dA):Pd (xs++[(v,s)])=Pd xs++At v s:=by unfold Pd;rw [I7];simp
theorem Lk.form {base:Nat} {v:ZC} (h:Lk base B w v ls):∃ av cv,v=.slice av ls.length cv/\ls.length<=cv:=by
 obtain⟨xs,hx1,hx2,hx3,hx4,hx5⟩:=h;obtain⟨hlen,⟨rfl,h0⟩|⟨g,cap,cur,rfl,hb,hg,hn,hc,hsz,htk⟩⟩:=hx2;·exact⟨none,0,by rw [h0],oM⟩
 ·exact⟨_,cap,rfl,hn⟩
theorem G2b (known:List ((Int × Int) × Q01)) (a:Int) (f:Nat) (out:List Q01) (hd:Q00) (last:Int) (h:cu (a,(out.length:Int)+1) known=none):CH.follow CH.msg known a f out hd last=(out,hd):=by
 cases f with
 |zero=>rfl
 |succ f=>rw [CH.follow,h]
theorem I20 (c r1 B:Nat) (known:List ((Int × Int) × Q01)) (kvs:List ((Int × Int) × ZC)) (a:Int) (w:ZB) (hG:Gc w) (hc1:w.cell? ⟨c,1,none⟩=some (.map (some r1))) (hm0:Cq Be r1 w kvs) (oD:KVs B w kvs known) (hBw:B<=w.heap.size) (hn:∀ p v,(p,v)∈known->p.2<=200) : ZE prog 95 #[.pointer (some ⟨c,0,none⟩),↑a] w (Def w B (fol CH.msg known a)):=by
 obtain⟨R,hR⟩:=nac (fol CH.msg known a);rw [hR.out];have jY:c<w.heap.size:=Bd w _ hc1;replace hc1:=Aa hc1;replace hm0:=Aa hm0;replace oD:=Aa oD;replace hn:=Aa hn;go_in;go_wp2_with fail;go_loopw [6,7,8] (fun ov hv lv wr=>∃ (out:List Q01) (hd:Q00) (last:Int) (f:Nat),Hid (Lk w B wr ov out)/\hv=↑hd/\lv=↑last/\Hid (Below w w wr)/\f+out.length=201/\Hid (CH.follow CH.msg known a f out hd last=R)) (fun ov _ _ _=>201 - Cmm ov);case atStart=>exact⟨[],[],0,201,Aa (Lk.nil hBw nR),rfl,rfl,Aa (Ac _ _),rfl,hR⟩
 case round =>
  obtain⟨out,hd,last,f,hO,rfl,rfl,hB,hf,hI⟩:=hrel;obtain⟨av,cv,rfl,hcv⟩:=hO.out.form;have hm:=hm0.out.below hB.out;have hkv:=oD.out;have c1:wr.cell? ⟨c,1,none⟩=some (.map (some r1)):=(hB.out.cell (p:=⟨c,1,none⟩) jY).trans hc1.out;have L:=Ml underlying86 _ Lt3 hm (a,(out.length:Int)+1);have SE:out.length<=201:=oM;cases hlk:cu (a,(out.length:Int)+1) known with
  |none =>have hRR:(out,hd)=R:=(G2b known a f out hd last hlk).symm.trans hI.out;rw [hkv.none 0 hlk] at L;simp only [Me,Lr,Option.isSome_none] at L;subst hRR;clear hI hkv hm;generalize hN:out.length=n at *;replace hN:=Aa hN;dsimp only [Be] at L;clear hR;exact FD51
  |some v =>
   obtain⟨j,s,hfk,hvs⟩:=hkv.some 0 hlk;rw [hfk] at L;simp only [Gz,Ee,Option.isSome_some] at L;have BF:=hn.out _ _ (jy hlk);dsimp only at BF;obtain⟨f,rfl⟩:∃ f',f=f'+1:=⟨f - 1,oM⟩
   have hI1:=hI.out;rw [CH.follow,hlk] at hI1;dsimp only at hI1;have hB2:=hB.out;have hBp:Below B w wr:=hB2.mono hBw;obtain⟨jj,s',JU,hvs'⟩:=oD.out.some 0 hlk;have hss:s'=s/\aK B w v s:=by rw [JU] at hfk;simp only [G6,Ib,Value.agg.injEq] at hfk;have:=congrArg Array.toList hfk.2;simp only [At] at this;obtain⟨x1,x2,x3⟩:=s;obtain⟨y1,y2,y3⟩:=s';simp at this;obtain⟨e1,e2,e3⟩:=this;subst e1 e2 e3;exact⟨rfl,hvs'⟩
   have hvs:=hss.2;clear hss hvs' JU;have HV:=Aa fun (W:ZB) (hb:Below w w W)=>hvs.below hb hBw;have M:=fun (W:ZB) (hb:Below w w W)=>Rs v s W (hG.below hb) ((HV.out W hb).mono (Aj hBw hb.size));simp only [Gcd] at M;generalize I22 (CH.message v)=me at M;have hone:=Aa (Mf hvs);obtain⟨va,v1,v2⟩:=s;obtain⟨xa,ya,e1,_,_⟩:=hvs.acts.form;obtain⟨x1,y1,e2,_,_⟩:=hvs.sig.form;obtain⟨x2,y2,e3,_,_⟩:=hvs.path.form;change va=_ at e1;change v1=_ at e2;change v2=_ at e3;subst e1 e2 e3;clear hvs hkv hfk hI hR hm;have eb:((⟨v.prev.toArray⟩:ByteArray)==⟨hd.toArray⟩)=(v.prev==hd):=Fr _ _;obtain⟨b1,hb1⟩:=naa (v.prev==hd);obtain⟨b2,hb2⟩:=naa (ZH (v.pos<last));have ebn:(v.prev != hd)=!b1:=by rw [<- hb1];rfl
   rw [ebn,hb2] at hI1;rw [hb1] at eb;replace hI1:=Aa hI1;replace hlk:=Aa hlk;clear ebn;dsimp only [At,Be] at L M;replace M:=Aa M;generalize hN:out.length=n at *;replace hN:=Aa hN;generalize v.acts.length=n0 at *;generalize v.sel.sig.length=n1 at *;generalize v.sel.path.length=n2 at *;rcases (by cases b1 <;> cases b2 <;> simp:(b1=false)\/(b1=true/\b2=true)\/(b1=true/\b2=false)) with rfl|⟨rfl,rfl⟩|⟨rfl,rfl⟩
   ·have hRR:(out,hd)=R:=by rw [<- hI1.out];rfl
    subst hRR;exact FD51
   ·have hRR:(out,hd)=R:=by rw [<- hI1.out];rfl
    subst hRR;exact FD51
   ·have hI2:Hid (CH.follow CH.msg known a f (out++[v]) (CH.msg v) v.pos=R):=Aa (by rw [<- hI1.out];rfl);clear hI1;obtain⟨xs,hx1,hx2,hx3,hx4,hx5⟩:=hO.out;rw [hN.out] at hx2;have hW2:∀ o1 o2,((wr.alloc o1).alloc o2).ownsRow w.heap.size 27 8 (.slice av n cv) n (Pd xs):=fun o1 o2=>Jj (Jj hx2 o1) o2;have hsz:=hB2.size;have hx3:=Aa hx3;have hx1:=Aa hx1;have hob:∀ j,(Value.slice av n cv).ownBlock=some j->w.heap.size<=j:=by
     obtain⟨_,⟨e,_⟩|⟨g,cap,cur,e,hb,_⟩⟩:=hx2;·rw [e];intro j hj;cases hj
     ·rw [e];intro j hj;simp [Value.ownBlock] at hj;omega
    have DK:∀ j,(Value.slice av n cv).ownBlock=some j->j<wr.heap.size:=by
     obtain⟨_,⟨e,_⟩|⟨g,cap,cur,e,_,hg,_⟩⟩:=hx2;·rw [e];intro j hj;cases hj
     ·rw [e];intro j hj;simp [Value.ownBlock] at hj;subst hj;exact (aZ hg)
    have hob:=Aa hob;have DK:=Aa DK;have hW2:=Aa hW2;clear hx2;go_wp2_with (at_builtin;refine Hdy rfl _ _ rfl w _ n (Pd xs) rfl (hW2.out _ _) _ 1 [↑v.authority,↑v.number,↑v.pos,↑v.prev,.slice xa n0 ya,↑v.sel.index,.slice x1 n1 y1,.slice x2 n2 y2] rfl (.inl ⟨⟨wr+1,0,none⟩,1,rfl,?c1⟩) rfl ?c2 ?c3 ?c4 ?_)
    case c1 =>intro j u hj;rw [Go.WideShapes.add_plain];have:=C8 (wr.alloc (.cells #[↑v.authority,↑v.number,↑v.pos,↑v.prev,.slice xa n0 ya,↑v.sel.index,.slice x1 n1 y1,.slice x2 n2 y2] 27)) [↑v.authority,↑v.number,↑v.pos,↑v.prev,.slice xa n0 ya,↑v.sel.index,.slice x1 n1 y1,.slice x2 n2 y2] 27 j u hj;rwa [Df] at this
    case c2=>exact hone.out
    case c3=>omega
    case c4=>simp;omega
    ·intro v' w' g1 g2 g3;have hBa:Below w w ((wr.alloc (.cells #[↑v.authority,↑v.number,↑v.pos,↑v.prev,.slice xa n0 ya,↑v.sel.index,.slice x1 n1 y1,.slice x2 n2 y2] 27)).alloc (.cells #[↑v.authority,↑v.number,↑v.pos,↑v.prev,.slice xa n0 ya,↑v.sel.index,.slice x1 n1 y1,.slice x2 n2 y2] 27)):=(hB2.alloc hB2.size _).alloc naf _;have hbl:=Hex wr (.cells #[↑v.authority,↑v.number,↑v.pos,↑v.prev,.slice xa n0 ya,↑v.sel.index,.slice x1 n1 y1,.slice x2 n2 y2] 27) (.cells #[↑v.authority,↑v.number,↑v.pos,↑v.prev,.slice xa n0 ya,↑v.sel.index,.slice x1 n1 y1,.slice x2 n2 y2] 27);have hgb:Below w ((wr.alloc (.cells #[↑v.authority,↑v.number,↑v.pos,↑v.prev,.slice xa n0 ya,↑v.sel.index,.slice x1 n1 y1,.slice x2 n2 y2] 27)).alloc (.cells #[↑v.authority,↑v.number,↑v.pos,↑v.prev,.slice xa n0 ya,↑v.sel.index,.slice x1 n1 y1,.slice x2 n2 y2] 27)) w':=Bar g2 hBa.size hob.out;have hB3:Below w w w':=hBa.trans hgb;have iK:=(g2.block wr naf (fun e=>by have:=DK.out _ e.symm;omega)).trans hbl;have hV3:=Aa (HV.out w' hB3);have hlt3:wr.heap.size<w'.heap.size:=(aZ iK)
     have hO3:Lk w B w' v' (out++[v]):=by
      refine⟨xs++[(v,⟨.slice xa n0 ya,.slice x1 n1 y1,.slice x2 n2 y2⟩)],by rw [Gi,hx1.out];rfl,?_,?_,hx4,hB3.size⟩;·rw [Am,hN.out,Dq];rw [Y9];exact g1
      ·intro x hx;rcases Bz.1 hx with h|h;·have q:=hx3.out x h;exact q.below ((((Ac B wr).alloc (Aj hBw hsz) _).alloc naf _).trans (hgb.mono hBw)) nR
       ·cases Ad.1 h;exact hV3.out
     obtain⟨a',c',rfl,_⟩:=hO3.form;have hlen3:(out++[v]).length=n+1:=by rw [Am,hN.out];rfl
     rw [hlen3];have k0:w'.cell? ⟨wr,0,none⟩=some ↑v.authority:=Ab iK 0;have k1:w'.cell? ⟨wr,1,none⟩=some ↑v.number:=Ab iK 1;have k2:w'.cell? ⟨wr,2,none⟩=some ↑v.pos:=Ab iK 2;have k3:w'.cell? ⟨wr,3,none⟩=some ↑v.prev:=Ab iK 3;have k4:w'.cell? ⟨wr,4,none⟩=some (.slice xa n0 ya):=Ab iK 4;have k5:w'.cell? ⟨wr,5,none⟩=some ↑v.sel.index:=Ab iK 5;have k6:w'.cell? ⟨wr,6,none⟩=some (.slice x1 n1 y1):=Ab iK 6;have k7:w'.cell? ⟨wr,7,none⟩=some (.slice x2 n2 y2):=Ab iK 7;have hO3:=Aa hO3;have hlen3:=Aa hlen3;clear hgb hBa g1 g2 g3 hbl iK hW2 hone;go_wp2_with fail;refine CmZ (M.out w' hB3) fun w4 hb4=>?_;have hB4:Hid (Below w w w4):=Aa (hB3.trans (hb4.mono hB3.size));have hO4:Hid (Lk w B w4 (.slice a' (n+1) c') (out++[v])):=Aa (by have:=hO3.out.below hb4;rwa [hlen3.out] at this);clear k0 k1 k2 k3 k4 k5 k6 k7 hb4 hO3;go_wp2;go_roundw;case rel=>exact⟨out++[v],CH.msg v,v.pos,f,hO4,rfl,rfl,hB4,by have:=hlen3.out;omega,hI2⟩
     case measure=>simp [Cmm];omega
def Xm (B:Nat) (w:ZB) (v:ZC) (ls:List Q01):Prop := ∃ a cap,v=.slice a ls.length cap/\ls.length<=cap/\cap<=9223372036854775807 /\ (ls≠[]->∃ b off,a=some ⟨b,off,none⟩/\b<B/\∀ j x,ls[j]?=some x->∃ s,(∀ i u,(At x s)[i]?=some u->w.cell? ⟨b,off+j*8+i,none⟩=some u)/\aK B w x s)
theorem Xm.below {B':Nat} {w':ZB} {v:ZC} (h:Xm B w v ls) (hb:Below B' w w') (hB:B<=B'):Xm B w' v ls:=by exact FD31
theorem Xm.mono {B':Nat} {v:ZC} (h:Xm B w v ls) (hB:B<=B'):Xm B' w v ls:=by exact FD17
end
end Go.Proofs.Y
namespace CH
def counts (msg:Version->Str) (known:Known) (n:Nat):List Int:=(List.range n).map fun (a:Nat)=>(((fol msg known (a:Int)).1.length:Nat):Int)
end CH
namespace Go.Proofs.Y
open Go.RowKit Go.Lib Go.Shelf Go.Sort CH
theorem I25 (msg:Q01->Q00) (known:Q06) (n:Nat):(CH.counts msg known n).length=n:=by simp [CH.counts]
theorem Ev8 (c r1 r2:Nat) (keys:List Q00) (known:Q06) (forks:Q04) (a:Int) (w:ZB) (hG:Gc w) (hC:J0 w c r1 r2 keys known forks) (hn:∀ p v,(p,v)∈known->p.2<=200) : ZE Tryz.prog 95 #[.pointer (some ⟨c,0,none⟩),↑a] w (Def w w (fol CH.msg known a)):=by obtain⟨vk,h1,_⟩:=hC.ex;obtain⟨kvs,h2,h3⟩:=hC.known;exact I20 c r1 w known kvs a w hG (Ab h1 1) h2 h3 nR hn
def Pse (w:ZB) (ls:List Int) (e:Ending) (w':ZB):Prop:=∃ v,e=.returned v/\Hll w' w' v ls/\Below w w w'
def rU (cs:List Int) (N k:Nat):Array ZC:=((cs.take k++List.replicate (N - k) 0).map aI).toArray
theorem Met (cs:List Int) (N k:Nat) (x:Int) (hN:cs.length=N) (hk:k<N) (hx:cs[k]?=some x):(rU cs N k).setIfInBounds k ↑x=rU cs N (k+1):=by
 have h1:(cs.take k).length=k:=by rw [C9];omega
 have h2:List.replicate (N - k) (0:Int)=0::List.replicate (N - (k+1)) 0:=by rw [<- J9];congr 1;omega
 unfold rU;rw [h2,Ip,hx,List.setIfInBounds_toArray];congr 1;rw [Gi,Gg,List.set_append_right _ _ (by rw [Ce,h1];exact Au _),Ce,h1,Nat.sub_self];simp
theorem Pdg (cs:List Int) (N k:Nat) (hN:cs.length=N) (hk:k<N):(rU cs N k)[k]?=some (.int .i64 0):=by
 have h1:(cs.take k).length=k:=by rw [C9];omega
 unfold rU;rw [Hy,Gi,Eb (by rw [Ce,h1];exact Au _),Ce,h1,Nat.sub_self];have:N - k=(N - k - 1)+1:=oM;rw [this,J9];rfl
theorem Kf8 (cs:List Int) (N:Nat) (hN:cs.length=N):rU cs N N=(cs.map aI).toArray:=by unfold rU;rw [Dz oM,Nat.sub_self];simp
theorem Hsm (c r1 r2:Nat) (keys:List Q00) (known:Q06) (forks:Q04) (w:ZB) (hG:Gc w) (hC:J0 w c r1 r2 keys known forks) (hn:∀ p v,(p,v)∈known->p.2<=200) (hkl:keys.length<=1000) : ZE Tryz.prog 42 #[.pointer (some ⟨c,0,none⟩)] w (Pse w (CH.counts CH.msg known keys.length)):=by
 have HF:=Aa fun (W:ZB) (hb:Below w w W) (k:Nat)=>Ev8 c r1 r2 keys known forks (k:Int) W (hG.below hb) (hC.below hb) hn;obtain⟨vk,mM,hks⟩:=hC.ex;obtain⟨ak,ck,rfl,_,_⟩:=hks.form;have jY:c<w.heap.size:=(aZ mM)
 have kc:w.cell? ⟨c,0,none⟩=some (.slice ak keys.length ck):=Ab mM 0;have hcl:=I25 CH.msg known keys.length;have hat:∀ k,k<keys.length->(CH.counts CH.msg known keys.length)[k]?=some (((fol CH.msg known (k:Int)).1.length:Nat):Int):=fun k hk=>by unfold CH.counts;rw [Es,Md hk];rfl
 generalize CH.counts CH.msg known keys.length=cs at *;clear mM hks hC hn hG;generalize keys.length=N at *;have hat:=Aa hat;have hcl:=Aa hcl;have hmk:=fun W=>run_make_row' (P:=Tryz.prog) 104 3 (.int .i64 0) 8 Tryz.underlying104 Pin rfl .i64 .i64 N oM oM W;go_in;go_wp2_with fail;have hrow0:(w.alloc (.cells (madeCells #[.int .i64 0] N) 3)).heap[w.heap.size]?=some (.cells (rU cs N 0) 3 (0,0)):=by
  rw [Ag w _];congr 2;unfold rU;apply Array.ext';rw [Ic,Eu,Nat.sub_zero,List.map_replicate];apply Jy;intro i;by_cases hi:i<N;·simp [madeCells,hi,Nat.mod_one]
  ·simp [madeCells,hi]
 have hBa:Below w w (w.alloc (.cells (madeCells #[.int .i64 0] N) 3)):=(Ac _ w).alloc nR _;clear hmk;generalize w.alloc (.cells (madeCells #[.int .i64 0] N) 3)=W at *;have hBa:=Aa hBa;have hrow0:=Aa hrow0;go_loopw [17] (fun i wr=>∃ k:Nat,k<=N/\i=↑k/\Hid (Below w w wr)/\Hid (wr.heap[w.heap.size]?=some (.cells (rU cs N k) 3 (0,0)))) (fun i _=>N - (RowKit.intOf i).toNat);case atStart=>exact⟨0,Ak _,rfl,hBa,hrow0⟩
 case round =>
  obtain⟨k,hk,rfl,hBr,hrow⟩:=hrel;by_cases hlt:k<N
  ·go_wp2_with fail;refine (HF.out wr hBr.out k).mono ?_;rintro e w1 ⟨v,rfl,hO,hb1⟩;have hx:=Aa (hat.out k hlt);obtain⟨av,cv,rfl,_⟩:=hO.form;have hr1:=(hb1.block w (aZ hrow.out)).trans hrow.out;have hB1:Below w w w1:=hBr.out.trans (hb1.mono hBr.out.size);have kc0:w1.cell? ⟨w,k,none⟩=some (.int .i64 0):=(Ab hr1 k).trans (Pdg cs N k hcl.out hlt);have kf0:w1.frozen? ⟨w,k,none⟩=false:=Ao hr1 k;have hr2:=Al w1 w k (.int .i64 (((fol CH.msg known (k:Int)).1.length:Nat):Int)) _ _ _ hr1;rw [Met cs N k _ hcl.out hlt hx.out] at hr2;clear hO hb1 hr1 hrow hBr;generalize (fol CH.msg known (k:Int)).1.length=m at *;generalize (fol CH.msg known (k:Int)).2=s at *;have hB2:Hid (Below w w (w1.setCell ⟨w,k,none⟩ ↑m)):=Aa (hB1.setCell nR _);have hr2:=Aa hr2;have hB1:=Aa hB1;have z0:(0:Int)<=(k:Int):=oM;have zk:((k:Int)).toNat=k:=oM;have hk':(k:Int)<(N:Int):=oM;go_wp2;go_roundw;case rel=>exact⟨k+1,oM,by go_num,hB2,hr2⟩
   case measure=>simp [RowKit.intOf];omega
  ·obtain rfl:k=N:=oM;have hfin:=hrow.out;rw [Kf8 cs k hcl.out] at hfin;have hlt2:=(aZ hfin)
   have hI:Hll wr wr (.slice (some ⟨w,0,none⟩) k k) cs:=by refine⟨_,k,by rw [hcl.out],by rw [hcl.out];exact Au _,oM,fun _=>⟨w,0,rfl,hlt2,fun j n hj=>?_⟩⟩;rw [Ba,Ab hfin j];simp [hj]
   have hI:=Aa hI;have QW:=Aa hBr.out;clear hfin hrow;go_wp2;go_ret;exact⟨_,rfl,hI.out,QW.out⟩
end Go.Proofs.Y
