/-
  ChainOrder: the proof, part 19 of 28.
-/
import Derived.Test.YtpkjhpenpfcpfaaGreatDoorP14
import Derived.Test.YtpkjhpenpfcpfaaGreatDoorP15
import Derived.Test.YtpkjhpenpfcpfaaGreatDoorP16
import Derived.Test.YtpkjhpenpfcpfaaGreatDoorP29
import Derived.Deep.OwnRows
set_option linter.unusedSimpArgs false
set_option linter.unusedVariables false
set_option maxHeartbeats 40000000
set_option maxRecDepth 100000
open Go renaming World -> ZB, Value -> ZC, Calls -> ZE
open Go.RowKit renaming intOf -> ZG
open Decidable renaming decide -> ZH
namespace CH
def iJ (v:Version):Version:={ v with sel:=⟨0,[],[]⟩ }
def message (v:Version):Except Int Str:=match dD (iJ v) with
 |.error e=>.error e
 |.ok _=>.ok (sum ((bare v).getD []))
def msg (v:Version):Str:=match message v with
 |.error _=>[]
 |.ok m=>m
theorem jr (v:Version):bare (iJ v)=bare v:=rfl
end CH
namespace Go.Proofs.YtpkjhpenpfcpfaaGreatDoor
open Go.RowKit Go.Lib Go.Shelf Go.Sort CH
theorem F10:F27:=fun a s W hG h=>H1n a s W hG h fun W' hb=>Zx a s W' (hG.below hb) ((h.below hb nR).mono hb.size)
theorem Si (v:CH.Version) (s:dA) (w:ZB) (hG:Gc w) (h:aP w w v s) : ZE Tryz.prog 32 #[.agg (Al v s).toArray] w (Ret w (jQ (CH.bare v))):=M14 F10 v s w hG h
def Ow:Except Int (List UInt8)->ZC
 |.ok t=>.tuple #[↑t,.int .i64 0]
 |.error e=>.tuple #[.string ⟨#[]⟩,↑e]
theorem Flb {v:CH.Version} {s:dA} {B:Nat} {w:ZB} {t:List UInt8} (hb:CH.bare v=some t) (h:aP B w v s):t.length<=5000000000:=by
 rw [Rz] at hb;split at hb;·cases hb
 ·rename_i hc;obtain⟨u,hu,rfl⟩:=Jg.1 hb;have h40:v.acts.length<=40:=by simp only [Dq,Fg,Jy,Ih,Df,not_and] at hc;omega
  have hs:∀ a∈v.acts,(aQ a).isSome=true:=fun a ha=>by
   cases he:aQ a with
   |none=>rw [K3 he v.acts ha] at hu;cases hu
   |some _=>rfl
  rw [K2 v.acts hs] at hu;cases hu;have h1:=Wk h.acts.acts;have h2:=Dk 100000101 h40;have h3:=R0 h.small;simp only [Aj,Dw];omega
def I0 (s:yw):List CH.Word:=[.str ([115,101,97,108]:List UInt8),.int s.index,.strs s.sig,.str [47],.strs s.path]
theorem Yu {s:yw} (hi:I64 s.index) (h1:Gk s.sig) (h2:Gk s.path) (h18:s.sig.length<=18) (h8:s.path.length<=8):(CH.words (I0 s)).length<=1000000:=by
 have h3:((I0 s).flatMap CH.Word.texts).length<=80:=by unfold I0;simp only [Ej,Gw,Aj,Lx,Bj];show 1+(1+(s.sig.length+(1+(s.path.length+0))))<=80;omega
 refine Ag (P4 _ 10000 80 ?_ h3) dC;intro x hx;simp only [I0,A8,Bc,Dj] at hx;rcases hx with rfl|rfl|rfl|rfl|rfl;·exact Cz _ sM
 ·exact C0 _ hi
 ·exact h1.2
 ·exact Cz _ sM
 ·exact h2.2
theorem Vw (v:CH.Version):dD v=match CH.bare v with
  |none=>.error 1
  |some s=>if ZH (v.sel.index<0)||(ZH (255<v.sel.index)||(!dY v.sel.sig 18||!dY v.sel.path 8)) then .error 1
   else if 20000<(s++(CH.words (I0 v.sel)++[10])).length then .error 2 else .ok (s++(CH.words (I0 v.sel)++[10])):=by
 unfold dD CH.within I0
 cases CH.bare v with
 |none=>rfl
 |some s =>
  dsimp only
  have e1:ZH (0<=v.sel.index)=!ZH (v.sel.index<0):=by
   by_cases h:v.sel.index<0
   ·rw [Ak h,Aq oM];rfl
   ·rw [Aq h,Ak oM];rfl
  have e2:ZH (v.sel.index<=255)=!ZH (255<v.sel.index):=by
   by_cases h:255<v.sel.index
   ·rw [Ak h,Aq oM];rfl
   ·rw [Aq h,Ak oM];rfl
  rw [e1,e2,D9]
  cases ZH (v.sel.index<0) <;> cases ZH (255<v.sel.index) <;> cases dY v.sel.sig 18 <;> cases dY v.sel.path 8 <;> rfl
theorem Kh (v:CH.Version) (s:dA) (w:ZB) (hG:Gc w) (h:aP w w v s) : ZE Tryz.prog 31 #[.agg (Al v s).toArray] w (Ret w (Ow (dD v))):=by
 obtain⟨R,hR⟩:∃ R,Hid (Ow (dD v)=R):=⟨_,Aa rfl⟩
 rw [hR.out];have hR1:=hR.out;rw [Vw] at hR1;clear hR;have hB0:=fun o=>(Ac _ w).alloc nR o;have HV:=Aa fun (W:ZB) (hb:Below w w W)=>(h.below hb nR).mono hb.size;have T:=fun (W:ZB) (hb:Below w w W)=>Si v s W (hG.below hb) (HV.out W hb);obtain⟨t,ht⟩:∃ t,CH.bare v=t:=⟨_,rfl⟩
 have hl:∀ x,t=some x->x.length<=5000000000:=fun x hx=>Flb (ht.trans hx) h;rw [ht] at T hR1;have T:=Aa T;have hR1:=Aa hR1;have HS:=Aa h.small;obtain⟨va,v1,v2⟩:=s;clear h ht;generalize hC:Al v { va:=va,v1:=v1,v2:=v2 }=C at T ⊢;have hlen:(Tryz.prog.info? 31).map (·.size)=some C.length:=by rw [<- hC];kernel_rfl
 have hC:=Aa hC;have hr0:=Aa (B7 w C 31);go_enter Tryz.func31,Tryz.ntmps31;go_wp2_with (refine Bf rfl 31 _ rfl w 0 rfl C _ hr0.out Tryz.underlying31 rfl hlen ?_)
 refine (T.out _ (hB0 _)).mono ?_;rintro e w1 ⟨rfl,hb1⟩;clear T;have hB1:Below w w w1:=(hB0 _).trans (hb1.mono sM);have hlt1:w.heap.size<w1.heap.size:=Ai sM hb1.size;have hr1:w1.rangeAt w 0 C:=Cg hr0.out hb1 sM;rw [<- hC.out] at hr1;have r5:w1.rangeAt w 5 [aJ v.sel.index,v1,v2]:=Dd (l:=[aJ v.authority,aJ v.number,aJ v.pos,ay v.prev,va]) hr1 5 rfl;have k5:w1.cell? ⟨w,5,none⟩=some ↑v.sel.index:=hr1 5 _ rfl;have k6:w1.cell? ⟨w,6,none⟩=some v1:=hr1 6 _ rfl;have k7:w1.cell? ⟨w,7,none⟩=some v2:=hr1 7 _ rfl;clear hb1 hr0 hr1 hlen r5;have hv1:Strs w1 w1 v1 v.sel.sig:=(HV.out w1 hB1).sig;have hv2:Strs w1 w1 v2 v.sel.path:=(HV.out w1 hB1).path;obtain⟨a1,c1,rfl,_,_⟩:=hv1.form;obtain⟨a2,c2,rfl,_,_⟩:=hv2.form;have zQ:=fun o=>(Ac _ w1).alloc nR o;cases t with
 |none =>dsimp only [jQ];generalize v.sel.sig.length=n1 at *;generalize v.sel.path.length=n2 at *;exact FD78
 |some t =>
  have hl:=hl t rfl;dsimp only at hR1;dsimp only [jQ];obtain⟨b1,h1⟩:∃ b,ZH (v.sel.index<0)=b:=⟨_,rfl⟩
  obtain⟨b2,h2⟩:∃ b,ZH (255<v.sel.index)=b:=⟨_,rfl⟩
  have D1:=fun (W:ZB) (hb:Below w1 w1 W)=>Sk _ v.sel.sig 18 W ((hG.below hB1).gl.below hb) ((hv1.below hb nR).mono hb.size) (fun l hl=>Ag (HS.out.sig.2 l hl) dC);have D2:=fun (W:ZB) (hb:Below w1 w1 W)=>Sk _ v.sel.path 8 W ((hG.below hB1).gl.below hb) ((hv2.below hb nR).mono hb.size) (fun l hl=>Ag (HS.out.path.2 l hl) dC);obtain⟨b3,h3⟩:∃ b,dY v.sel.sig 18=b:=⟨_,rfl⟩
  obtain⟨b4,h4⟩:∃ b,dY v.sel.path 8=b:=⟨_,rfl⟩
  rw [h1,h2,h3,h4] at hR1;rw [h3] at D1;rw [h4] at D2;have D1:=Aa D1;have D2:=Aa D2;have H3:=Aa h3;have H4:=Aa h4;have hv1:=Aa hv1;have hv2:=Aa hv2;clear h3 h4;generalize hn1:v.sel.sig.length=n1 at *;generalize hn2:v.sel.path.length=n2 at *;have hn1:=Aa hn1;have hn2:=Aa hn2;rcases (by cases b1 <;> cases b2 <;> simp:(b1=true)\/(b1=false/\b2=true)\/(b1=false/\b2=false)) with rfl|⟨rfl,rfl⟩|⟨rfl,rfl⟩;·exact FD78
  ·exact FD78
  ·go_wp2_with fail;refine (D1.out _ (zQ _)).mono ?_;rintro e w2 ⟨rfl,hb2⟩;have hblk:=(hb2.block w1 sM).trans (Au w1 _);have hlt2:w1.heap.size<w2.heap.size:=(aZ hblk)
   have g0:w2.cell? ⟨w1,0,none⟩=some ↑v.sel.index:=Ab hblk 0;have g1:w2.cell? ⟨w1,1,none⟩=some (.slice a1 n1 c1):=Ab hblk 1;have g2:w2.cell? ⟨w1,2,none⟩=some (.slice a2 n2 c2):=Ab hblk 2;have vP:Below w1 w1 w2:=(zQ _).trans (hb2.mono sM);have hB2:Below w w w2:=hB1.trans (vP.mono hB1.size);clear D1 hb2 hblk;cases b3 with
   |false =>exact FD95
   |true =>
    go_wp2_with fail;refine (D2.out _ vP).mono ?_;rintro e w3 ⟨rfl,hb3⟩;have m0:=(hb3.cell (p:=⟨w1,0,none⟩) hlt2).trans g0;have m1:=(hb3.cell (p:=⟨w1,1,none⟩) hlt2).trans g1;have m2:=(hb3.cell (p:=⟨w1,2,none⟩) hlt2).trans g2;have hB3:Below w w w3:=hB2.trans (hb3.mono hB2.size);have vO:Below w1 w1 w3:=vP.trans (hb3.mono vP.size);clear D2 hb3 g0 g1 g2;cases b4 with
    |false =>go_wp2;refine Ah (Am rfl _ _ _) rfl ?_;exact⟨by rw [<- hR1.out];rfl,hB3⟩
    |true =>
     have h18:v.sel.sig.length<=18:=by have:=H3.out;unfold dY at this;simp only [Bool.and_eq_true,decide_eq_true_eq] at this;exact this.1
     have h8:v.sel.path.length<=8:=by have:=H4.out;unfold dY at this;simp only [Bool.and_eq_true,decide_eq_true_eq] at this;exact this.1
     have hwl:=Yu HS.out.index HS.out.sig HS.out.path h18 h8;have hWV:Ke w3 w3 (I0 v.sel) [.iface 9 (ay ([115,101,97,108]:List UInt8)),.iface 3 ↑v.sel.index,.iface 22 (.slice a1 n1 c1),.iface 9 (ay [47]),.iface 22 (.slice a2 n2 c2)] := ⟨rfl,⟨rfl,HS.out.index⟩,⟨_,rfl,(hv1.out.below vO nR).mono vO.size,oM⟩,rfl,⟨_,rfl,(hv2.out.below vO nR).mono vO.size,oM⟩,trivial⟩
     have WN:=Aa fun T=>Ln (I0 v.sel) _ T 5 w3 (hG.below hB3).gl hWV rfl dC oM;generalize hWW:CH.words (I0 v.sel)=WW at *;have hl4:¬ (9223372036854775807<WW.length+1):=oM;have hl5:¬ (9223372036854775807<t.length+(WW.length+1)):=oM;have hR2:Hid (Ow (if 20000<(t++(WW++[10])).length then .error 2 else .ok (t++(WW++[10])))=R):=Aa (by rw [<- hR1.out];rfl);clear hR1 hWV h18 h8;go_wp2_with fail;refine (WN.out _).mono ?_;rintro e w4 ⟨rfl,hb4⟩;have hB4:Below w w w4:=(hB3.alloc hB3.size _).trans (hb4.mono (hB3.alloc hB3.size _).size);clear WN hb4;have GN:(⟨t.toArray⟩++(⟨WW.toArray⟩++⟨#[10]⟩):ByteArray)=⟨(t++(WW++[10])).toArray⟩:=by rw [<- bytes_append,<- bytes_append]
     have hsz:(⟨t.toArray⟩++(⟨WW.toArray⟩++⟨#[10]⟩):ByteArray).size=t.length+(WW.length+1):=by rw [GN];simp [ByteArray.size]
     by_cases h20:20000<t.length+(WW.length+1)
     ·have q:ZH ((20000:Int)<((t.length+(WW.length+1):Nat):Int))=true:=by simp;omega
      have hR3:Hid (Ow (.error 2)=R):=Aa (by rw [<- hR2.out,Ap (by simpa using h20)]);exact FD139
     ·have q:ZH ((20000:Int)<((t.length+(WW.length+1):Nat):Int))=false:=by simp;omega
      have hR3:Hid (Ow (.ok (t++(WW++[10])))=R):=Aa (by rw [<- hR2.out,Af (by simpa using h20)]);exact FD139
theorem aP.iJ {B:Nat} {w:ZB} {v:CH.Version} {s:dA} (h:aP B w v s):aP B w (CH.iJ v) ⟨s.va,.slice none 0 0,.slice none 0 0⟩ := ⟨h.acts,⟨none,0,rfl,Bo _,dC,fun e=>absurd rfl e⟩,⟨none,0,rfl,Bo _,dC,fun e=>absurd rfl e⟩, ⟨h.small.authority,h.small.number,h.small.pos,h.small.prev,⟨by show (-9223372036854775808:Int)<=0;decide,by show (0:Int)<=9223372036854775807;decide⟩,⟨by simp [CH.iJ],fun l hl=>by cases hl⟩,⟨by simp [CH.iJ],fun l hl=>by cases hl⟩⟩⟩
theorem Vu {v:CH.Version} {t:List UInt8} (h:dD v=.ok t):∃ u,CH.bare v=some u:=by
 rw [Vw] at h;cases hb:CH.bare v with
 |none=>rw [hb] at h;cases h
 |some u=>exact⟨u,rfl⟩
theorem Sr {v:CH.Version} {e:Int} (h:dD v=.error e):e=1\/e=2:=by
 rw [Vw] at h;cases hb:CH.bare v with
 |none=>rw [hb] at h;cases h;exact .inl rfl
 |some u =>
  rw [hb] at h;dsimp only at h;split at h;·cases h;exact .inl rfl
  ·split at h;·cases h;exact .inr rfl
   ·cases h
theorem Xm (v:CH.Version):CH.message v=match dD (iJ v) with
 |.error e=>.error e
 |.ok _=>.ok (CH.sum ((CH.bare v).getD [])):=rfl
theorem Pe (v:CH.Version) (s:dA) (w:ZB) (hG:Gc w) (h:aP w w v s) : ZE Tryz.prog 14 #[.agg (Al v s).toArray] w (Ret w (Ow (CH.message v))):=by
 obtain⟨R,hR⟩:∃ R,Hid (Ow (CH.message v)=R):=⟨_,Aa rfl⟩
 rw [hR.out];have hR1:=hR.out;rw [Xm] at hR1;have hB0:=fun o=>(Ac _ w).alloc nR o;have h0:=h.iJ;have HV:=Aa fun (W:ZB) (hb:Below w w W)=>(h0.below hb nR).mono hb.size;have T:=fun (W:ZB) (hb:Below w w W)=>Kh (iJ v) _ W (hG.below hb) (HV.out W hb);have TB:=fun (W:ZB) (hb:Below w w W)=>Si (iJ v) _ W (hG.below hb) (HV.out W hb);rw [jr] at TB;obtain⟨t,ht⟩:∃ t,CH.bare v=t:=⟨_,rfl⟩
 obtain⟨x,hx⟩:∃ x,dD (iJ v)=x:=⟨_,rfl⟩
 have hl:∀ u,t=some u->u.length<=5000000000:=fun u hu=>Flb (ht.trans hu) h;have hsome:∀ y,x=.ok y->∃ u,t=some u:=fun y hy=>by obtain⟨u,hu⟩:=Vu (hx.trans hy);rw [jr,ht] at hu;exact⟨u,hu⟩
 have herr:∀ e,x=.error e->e≠0:=fun e he=>by rcases Sr (hx.trans he) with rfl|rfl <;> decide
 rw [hx,ht] at hR1;rw [hx] at T;rw [ht] at TB;obtain⟨va,v1,v2⟩:=s;clear h h0 hx ht hR;dsimp only [Al,iJ] at T TB ⊢;have T:=Aa T;have TB:=Aa TB;have hR1:=Aa hR1;have hsz:∀ o,(w.alloc o).heap.size=w.heap.size+1:=fun o=>by simp
 go_enter Tryz.func14,Tryz.ntmps14;go_wp2_with fail;refine (T.out _ (hB0 _)).mono ?_;rintro e w1 ⟨rfl,hb1⟩;have hB1:Below w w w1:=(hB0 _).trans (hb1.mono sM);have hblk:=(hb1.block w sM).trans (Au w _);have k0:=Ab hblk 0;have k1:=Ab hblk 1;have k2:=Ab hblk 2;have k3:=Ab hblk 3;have k4:=Ab hblk 4;have k5:=Ab hblk 5;have k6:=Ab hblk 6;have k7:=Ab hblk 7;clear T hb1 hblk hsz;cases x with
 |error e =>
  dsimp only [Ow];dsimp only at hR1;have q:(e==0)=false:=by simpa using herr e rfl
  clear herr hsome hl;go_wp2;refine Ah (Am rfl _ _ _) rfl ?_;exact⟨by rw [<- hR1.out];rfl,hB1⟩
 |ok y =>obtain⟨u,rfl⟩:=hsome y rfl;dsimp only [Ow];have S:=Aa fun W hG=>Vj u W hG (Ag (hl u rfl) dC);dsimp only [Option.getD_some] at hR1;go_wp2_with fail;refine (TB.out _ hB1).mono ?_;rintro e w2 ⟨rfl,hb2⟩;have hB2:Below w w w2:=hB1.trans (hb2.mono hB1.size);clear TB;dsimp only [jQ];go_wp2_with fail;refine (S.out _ (hG.below hB2).gl).mono ?_;rintro e w3 ⟨rfl,hb3⟩;clear S;go_wp2;refine Ah (Am rfl _ _ _) rfl ?_;exact⟨by rw [<- hR1.out];rfl,hB2.trans (hb3.mono hB2.size)⟩
theorem M13 {v:CH.Version} {u:List UInt8} (h:CH.bare v=some u):0<=v.authority/\v.authority<6/\1<=v.number/\v.number<=200/\0<=v.pos:=by
 rw [Rz] at h;split at h;·cases h
 ·rename_i hc;simp only [Dq,Fg,Jy,Jb,Ar,Bl] at hc;omega
theorem Uk {v:CH.Version} {m:List UInt8} (h:CH.message v=.ok m):m.length=16:=by
 rw [Xm] at h;split at h;·cases h
 ·cases h;exact eu _
theorem Mst (v:CH.Version):(CH.msg v).length<=16:=by
 unfold CH.msg;cases h:CH.message v with
 |error e=>simp
 |ok m=>rw [Uk h];exact Bo _
def Htw:Except Int (List UInt8)->Int
 |.ok _=>0
 |.error e=>e
theorem Cnt (v:CH.Version):Ow (CH.message v)=.tuple #[.string ⟨(CH.msg v).toArray⟩,.int .i64 (Htw (CH.message v))]:=by unfold CH.msg;cases CH.message v <;> rfl
end Go.Proofs.YtpkjhpenpfcpfaaGreatDoor
namespace Go.Proofs.YtpkjhpenpfcpfaaGreatDoor
section
open Go.Lib Go.Proofs.Tryz Go.RowKit Go.Shelf Go.Sort CH
def Z8:ZC->Nat
 |.slice _ n _=>n
 |_=>0
def Ue (w:ZB) (B:Nat) (r:List CH.Version × List UInt8) (e:Ending) (w':ZB):Prop := ∃ v,e=.returned (.tuple #[v,↑r.2])/\Cv w B w' v r.1/\Below w w w'
theorem Kf8 (w:ZB):(zeroValue 31).run prog w=.ok (.agg #[.int .i64 0,.int .i64 0,.int .i64 0,.string ⟨#[]⟩,.slice none 0 0,.int .i64 0,.slice none 0 0,.slice none 0 0]) w:=kR
theorem Foo (w:ZB) (o1 o2:Obj):((w.alloc o1).alloc o2).heap[w.heap.size]?=some o1 := (((Ac _ (w.alloc o1)).alloc nR o2).block w.heap.size sM).trans (Au w o1)
theorem Kc {w w':ZB} {row:Option Nat} {C:Nat} (h:w.grownBy w' row) (hC:C<=w.heap.size) (hr:∀ j,row=some j->C<=j):Below C w w' := ⟨h.os,h.tape,h.output,h.size,fun k hk=>h.block k oM (fun e=>by have:=hr k e.symm;omega)⟩
theorem S3 (xs:List (CH.Version × dA)) (v:CH.Version) (s:dA):B6 (xs++[(v,s)])=B6 xs++Al v s:=by unfold B6;rw [Ig];simp
theorem Cv.form {base B:Nat} {w:ZB} {v:ZC} {ls:List CH.Version} (h:Cv base B w v ls):∃ av cv,v=.slice av ls.length cv/\ls.length<=cv:=by
 obtain⟨xs,hx1,hx2,hx3,hx4,hx5⟩:=h;obtain⟨hlen,⟨rfl,h0⟩|⟨g,cap,cur,rfl,hb,hg,hn,hc,hsz,htk⟩⟩:=hx2;·exact⟨none,0,by rw [h0],oM⟩
 ·exact⟨_,cap,rfl,hn⟩
theorem Ext (known:List ((Int × Int) × CH.Version)) (a:Int) (f:Nat) (out:List CH.Version) (hd:List UInt8) (last:Int) (h:bH (a,(out.length:Int)+1) known=none):CH.follow CH.msg known a f out hd last=(out,hd):=by
 cases f with
 |zero=>rfl
 |succ f=>rw [CH.follow,h]
theorem X8 (c r1 B:Nat) (known:List ((Int × Int) × CH.Version)) (kvs:List ((Int × Int) × ZC)) (a:Int) (w:ZB) (hG:Gc w) (hc1:w.cell? ⟨c,1,none⟩=some (.map (some r1))) (hm0:Cp Bk r1 w kvs) (lD:KVs B w kvs known) (hBw:B<=w.heap.size) (hn:∀ p v,(p,v)∈known->p.2<=200) : ZE prog 52 #[.pointer (some ⟨c,0,none⟩),↑a] w (Ue w B (fol CH.msg known a)):=by
 obtain⟨R,hR⟩:∃ R,Hid (fol CH.msg known a=R):=⟨_,Aa rfl⟩
 rw [hR.out];have iw:c<w.heap.size:=Ef w _ hc1;replace hc1:=Aa hc1;replace hm0:=Aa hm0;replace lD:=Aa lD;replace hn:=Aa hn;go_enter func52,ntmps52;go_wp2_with fail;go_loopw [6,7,8] (fun ov hv lv wr=>∃ (out:List CH.Version) (hd:List UInt8) (last:Int) (f:Nat),Hid (Cv w B wr ov out)/\hv=↑hd/\lv=↑last/\Hid (Below w w wr)/\f+out.length=201/\Hid (CH.follow CH.msg known a f out hd last=R)) (fun ov _ _ _=>201 - Z8 ov);case atStart=>exact⟨[],[],0,201,Aa (Cv.nil hBw nR),rfl,rfl,Aa (Ac _ _),rfl,hR⟩
 case round =>
  obtain⟨out,hd,last,f,hO,rfl,rfl,hB,hf,hI⟩:=hrel;obtain⟨av,cv,rfl,hcv⟩:=hO.out.form;have hm:=hm0.out.below hB.out;have hkv:=lD.out;have c1:wr.cell? ⟨c,1,none⟩=some (.map (some r1)):=(hB.out.cell (p:=⟨c,1,none⟩) iw).trans hc1.out;have L:=L0 underlying76 _ Kf8 hm (a,(out.length:Int)+1);have GX:out.length<=201:=oM;cases hlk:bH (a,(out.length:Int)+1) known with
  |none =>have hRR:(out,hd)=R:=(Ext known a f out hd last hlk).symm.trans hI.out;rw [hkv.none 0 hlk] at L;simp only [Nr,Nl,Option.isSome_none] at L;subst hRR;clear hI hkv hm;generalize hN:out.length=n at *;replace hN:=Aa hN;dsimp only [Bk] at L;clear hR;exact FD48
  |some v =>
   obtain⟨j,s,hfk,hvs⟩:=hkv.some 0 hlk;rw [hfk] at L;simp only [Gv,Le,Option.isSome_some] at L;have vW:=hn.out _ _ (iV hlk);dsimp only at vW;obtain⟨f,rfl⟩:∃ f',f=f'+1:=⟨f - 1,oM⟩
   have hI1:=hI.out;rw [CH.follow,hlk] at hI1;dsimp only at hI1;have hB2:=hB.out;have hBp:Below B w wr:=hB2.mono hBw;obtain⟨jj,s',zI,hvs'⟩:=lD.out.some 0 hlk;have hss:s'=s/\aP B w v s:=by rw [zI] at hfk;simp only [Ep,Gg,Value.agg.injEq] at hfk;have:=congrArg Array.toList hfk.2;simp only [Al] at this;obtain⟨x1,x2,x3⟩:=s;obtain⟨y1,y2,y3⟩:=s';simp at this;obtain⟨e1,e2,e3⟩:=this;subst e1 e2 e3;exact⟨rfl,hvs'⟩
   have hvs:=hss.2;clear hss hvs' zI;have HV:=Aa fun (W:ZB) (hb:Below w w W)=>hvs.below hb hBw;have M:=fun (W:ZB) (hb:Below w w W)=>Pe v s W (hG.below hb) ((HV.out W hb).mono (Ag hBw hb.size));simp only [Cnt] at M;generalize Htw (CH.message v)=me at M;have hone:=Aa (Hv hvs);obtain⟨va,v1,v2⟩:=s;obtain⟨xa,ya,e1,_,_⟩:=hvs.acts.form;obtain⟨x1,y1,e2,_,_⟩:=hvs.sig.form;obtain⟨x2,y2,e3,_,_⟩:=hvs.path.form;change va=_ at e1;change v1=_ at e2;change v2=_ at e3;subst e1 e2 e3;clear hvs hkv hfk hI hR hm;have eb:((⟨v.prev.toArray⟩:ByteArray)==⟨hd.toArray⟩)=(v.prev==hd):=Cw _ _;obtain⟨b1,hb1⟩:∃ b,(v.prev==hd)=b:=⟨_,rfl⟩
   obtain⟨b2,hb2⟩:∃ b,ZH (v.pos<last)=b:=⟨_,rfl⟩
   have ebn:(v.prev != hd)=!b1:=by rw [<- hb1];rfl
   rw [ebn,hb2] at hI1;rw [hb1] at eb;replace hI1:=Aa hI1;replace hlk:=Aa hlk;clear ebn;dsimp only [Al,Bk] at L M;replace M:=Aa M;generalize hN:out.length=n at *;replace hN:=Aa hN;generalize v.acts.length=n0 at *;generalize v.sel.sig.length=n1 at *;generalize v.sel.path.length=n2 at *;rcases (by cases b1 <;> cases b2 <;> simp:(b1=false)\/(b1=true/\b2=true)\/(b1=true/\b2=false)) with rfl|⟨rfl,rfl⟩|⟨rfl,rfl⟩
   ·have hRR:(out,hd)=R:=by rw [<- hI1.out];rfl
    subst hRR;exact FD48
   ·have hRR:(out,hd)=R:=by rw [<- hI1.out];rfl
    subst hRR;exact FD48
   ·have hI2:Hid (CH.follow CH.msg known a f (out++[v]) (CH.msg v) v.pos=R):=Aa (by rw [<- hI1.out];rfl);clear hI1;obtain⟨xs,hx1,hx2,hx3,hx4,hx5⟩:=hO.out;rw [hN.out] at hx2;have hW2:∀ o1 o2,((wr.alloc o1).alloc o2).ownsRow w.heap.size 31 8 (.slice av n cv) n (B6 xs):=fun o1 o2=>Jd (Jd hx2 o1) o2;have hsz:=hB2.size;have hx3:=Aa hx3;have hx1:=Aa hx1;have hob:∀ j,(Value.slice av n cv).ownBlock=some j->w.heap.size<=j:=by exact FD34
    have wR:∀ j,(Value.slice av n cv).ownBlock=some j->j<wr.heap.size:=by
     obtain⟨_,⟨e,_⟩|⟨g,cap,cur,e,_,hg,_⟩⟩:=hx2;·rw [e];intro j hj;cases hj
     ·rw [e];intro j hj;simp [Value.ownBlock] at hj;subst hj;exact (aZ hg)
    have hob:=Aa hob;have wR:=Aa wR;have hW2:=Aa hW2;clear hx2;go_wp2_with (at_builtin;refine Pp rfl _ _ rfl w _ n (B6 xs) rfl (hW2.out _ _) _ 1 [↑v.authority,↑v.number,↑v.pos,↑v.prev,.slice xa n0 ya,↑v.sel.index,.slice x1 n1 y1,.slice x2 n2 y2] rfl (.inl ⟨⟨wr+1,0,none⟩,1,rfl,?c1⟩) rfl ?c2 ?c3 ?c4 ?_)
    case c1 =>intro j u hj;rw [Go.WideShapes.add_plain];have:=B7 (wr.alloc (.cells #[↑v.authority,↑v.number,↑v.pos,↑v.prev,.slice xa n0 ya,↑v.sel.index,.slice x1 n1 y1,.slice x2 n2 y2] 31)) [↑v.authority,↑v.number,↑v.pos,↑v.prev,.slice xa n0 ya,↑v.sel.index,.slice x1 n1 y1,.slice x2 n2 y2] 31 j u hj;rwa [Dt] at this
    case c2=>exact hone.out
    case c3=>omega
    case c4=>simp;omega
    ·intro v' w' g1 g2 g3;have hBa:Below w w ((wr.alloc (.cells #[↑v.authority,↑v.number,↑v.pos,↑v.prev,.slice xa n0 ya,↑v.sel.index,.slice x1 n1 y1,.slice x2 n2 y2] 31)).alloc (.cells #[↑v.authority,↑v.number,↑v.pos,↑v.prev,.slice xa n0 ya,↑v.sel.index,.slice x1 n1 y1,.slice x2 n2 y2] 31)):=(hB2.alloc hB2.size _).alloc (by simp;omega) _;have hbl:=Foo wr (.cells #[↑v.authority,↑v.number,↑v.pos,↑v.prev,.slice xa n0 ya,↑v.sel.index,.slice x1 n1 y1,.slice x2 n2 y2] 31) (.cells #[↑v.authority,↑v.number,↑v.pos,↑v.prev,.slice xa n0 ya,↑v.sel.index,.slice x1 n1 y1,.slice x2 n2 y2] 31);have hgb:Below w ((wr.alloc (.cells #[↑v.authority,↑v.number,↑v.pos,↑v.prev,.slice xa n0 ya,↑v.sel.index,.slice x1 n1 y1,.slice x2 n2 y2] 31)).alloc (.cells #[↑v.authority,↑v.number,↑v.pos,↑v.prev,.slice xa n0 ya,↑v.sel.index,.slice x1 n1 y1,.slice x2 n2 y2] 31)) w':=Kc g2 hBa.size hob.out;have hB3:Below w w w':=hBa.trans hgb;have iL:=(g2.block wr (by simp;omega) (fun e=>by have:=wR.out _ e.symm;omega)).trans hbl;have hV3:=Aa (HV.out w' hB3);have hlt3:wr.heap.size<w'.heap.size:=(aZ iL)
     have hO3:Cv w B w' v' (out++[v]):=by
      refine⟨xs++[(v,⟨.slice xa n0 ya,.slice x1 n1 y1,.slice x2 n2 y2⟩)],by rw [Eh,hx1.out];rfl,?_,?_,hx4,hB3.size⟩;·rw [Aj,hN.out,Dw];rw [S3];exact g1
      ·intro x hx;rcases Di.1 hx with h|h;·have q:=hx3.out x h;exact q.below ((((Ac B wr).alloc (Ag hBw hsz) _).alloc (by simp;omega) _).trans (hgb.mono hBw)) nR
       ·cases Bv.1 h;exact hV3.out
     obtain⟨a',c',rfl,_⟩:=hO3.form;have hlen3:(out++[v]).length=n+1:=by rw [Aj,hN.out];rfl
     rw [hlen3];have k0:w'.cell? ⟨wr,0,none⟩=some ↑v.authority:=Ab iL 0;have k1:w'.cell? ⟨wr,1,none⟩=some ↑v.number:=Ab iL 1;have k2:w'.cell? ⟨wr,2,none⟩=some ↑v.pos:=Ab iL 2;have k3:w'.cell? ⟨wr,3,none⟩=some ↑v.prev:=Ab iL 3;have k4:w'.cell? ⟨wr,4,none⟩=some (.slice xa n0 ya):=Ab iL 4;have k5:w'.cell? ⟨wr,5,none⟩=some ↑v.sel.index:=Ab iL 5;have k6:w'.cell? ⟨wr,6,none⟩=some (.slice x1 n1 y1):=Ab iL 6;have k7:w'.cell? ⟨wr,7,none⟩=some (.slice x2 n2 y2):=Ab iL 7;have hO3:=Aa hO3;have hlen3:=Aa hlen3;clear hgb hBa g1 g2 g3 hbl iL hW2 hone;go_wp2_with fail;refine (M.out w' hB3).mono ?_;rintro e w4 ⟨rfl,hb4⟩;have hB4:Hid (Below w w w4):=Aa (hB3.trans (hb4.mono hB3.size));have hO4:Hid (Cv w B w4 (.slice a' (n+1) c') (out++[v])):=Aa (by have:=hO3.out.below hb4;rwa [hlen3.out] at this);clear k0 k1 k2 k3 k4 k5 k6 k7 hb4 hO3;go_wp2;go_roundw;case rel=>exact⟨out++[v],CH.msg v,v.pos,f,hO4,rfl,rfl,hB4,by have:=hlen3.out;omega,hI2⟩
     case measure=>simp [Z8];omega
def Hj (B:Nat) (w:ZB) (v:ZC) (ls:List CH.Version):Prop := ∃ a cap,v=.slice a ls.length cap/\ls.length<=cap/\cap<=9223372036854775807 /\ (ls≠[]->∃ b off,a=some ⟨b,off,none⟩/\b<B/\∀ j x,ls[j]?=some x->∃ s,(∀ i u,(Al x s)[i]?=some u->w.cell? ⟨b,off+j*8+i,none⟩=some u)/\aP B w x s)
theorem Hj.below {B B':Nat} {w w':ZB} {v:ZC} {ls:List CH.Version} (h:Hj B w v ls) (hb:Below B' w w') (hB:B<=B'):Hj B w' v ls:=by exact FD43
theorem Hj.mono {B B':Nat} {w:ZB} {v:ZC} {ls:List CH.Version} (h:Hj B w v ls) (hB:B<=B'):Hj B' w v ls:=by exact FD24
def Vr (w:ZB) (ls:List CH.Version) (e:Ending) (w':ZB):Prop:=∃ v,e=.returned v/\Hj w' w' v ls/\Below w w w'
theorem Ch3 {base B:Nat} {w:ZB} {v:ZC} {ls:List CH.Version} (h:Cv base B w v ls):∃ xs:List (CH.Version × dA),xs.map (·.1)=ls/\Ym w v ls.length (B6 xs)/\(∀ x∈xs,aP B w x.1 x.2)/\∀ u∈B6 xs,u.oneCell'=true:=by
 obtain⟨xs,h1,h2,h3,h4,h5⟩:=h;have hl:xs.length=ls.length:=by rw [<- h1,Cm]
 refine⟨xs,h1,?_,h3,?_⟩
 ·have h2':=h2;obtain⟨hlen,⟨rfl,h0⟩|⟨g,cap,cur,rfl,hb,hg,hn,hc,hsz,htk⟩⟩:=h2;·have:xs=[]:=Cb.1 oM;subst this;exact .inr ⟨0,rfl,h0,rfl⟩
  ·refine .inl ⟨⟨g,0,none⟩,cap,rfl,fun j u hj=>?_⟩;have hjl:=(lS hj)
   rw [Mp,hl] at hjl;rw [Go.WideShapes.add_plain,Bh,G8 h2' j oM];exact hj
 ·intro u hu;unfold B6 at hu;obtain⟨x,hx,hux⟩:=List.mem_flatMap.1 hu;exact Hv (h3 x hx) u hux
theorem Yb (msg:CH.Version->List UInt8) (known:CH.Known) {k:Nat}:∀ {n:Nat},k<=n->(bF msg known k).length<=(bF msg known n).length
 |0,h=>by
  obtain rfl:k=0:=oM
  exact Bo _
 |n+1,h=>by
  by_cases e:k=n+1
  ·rw [e];exact Bo _
  ·have:=Yb msg known (k:=k) (n:=n) oM
   show _<=(bF msg known n++_).length
   rw [Aj]
   omega
theorem wG (f:VP->List ZC) (hf:∀ x,(f x).length=8):∀ (l:List VP) (t:Nat),t<l.length*8->(l.flatMap f)[t]?=some ((f l.toArray[t / 8]!)[t % 8]!)
 |[],t,h=>by simp at h
 |x::l,t,h=>by
  rw [Ej]
  by_cases h8:t<8
  ·rw [Gh (by rw [hf];exact h8)]
   have e1:t / 8=0:=Ll h8
   have e2:t % 8=t:=Lj h8
   rw [e1,e2]
   have:t<(f x).length:=by rw [hf];exact h8
   simp [this]
  ·rw [Fj (by rw [hf];omega),hf,wG f hf l (t - 8) (by rw [Az] at h;omega)]
   have e1:t / 8=(t - 8) / 8+1:=oM
   have e2:t % 8=(t - 8) % 8:=oM
   rw [e1,e2]
   simp
theorem Key {B:Nat} {w:ZB}:∀ (xs:List (CH.Version × dA)),(∀ x∈xs,aP B w x.1 x.2)->∃ ds:List VP,ds.map (fun y=>(y.v,y.s))=xs
 |[],_=>⟨[],rfl⟩
 |(v,s)::xs,h=>by
  obtain⟨ds,hd⟩:=Key xs fun x hx=>h x (by simp [hx])
  obtain⟨a1,n1,c1,a2,n2,c2,a3,n3,c3,e⟩:=(h (v,s) sM).sl
  refine⟨⟨v,a1,n1,c1,a2,n2,c2,a3,n3,c3⟩::ds,?_⟩
  change s=_ at e
  rw [Eu,hd,e]
  rfl
theorem Ud {C g n:Nat} {w:ZB} {d:Array VP} {os:Array Obj} (hC:C<=g) (hw:C<=w.heap.size):Below C w (sortWorldK iy 8 w g 0 n d os):=by refine⟨rfl,rfl,rfl,size_sortWorldK_c iy 8 w g 0 n d os,fun k hk=>?_⟩;show ((w.heap.modify g (onCells (putCells id 0 (flatK iy 8 d))))++os)[k]?=w.heap[k]?;rw [Array.getElem?_append_left (by simp;omega),Fb,Af oM]
theorem Mzr:Sort.insertionSort iM (#[]:Array CH.Version) 0 0=#[]:=by unfold Sort.insertionSort;rw [Sort.insOuter.eq_1,Af oM]
theorem Ggn {base B g cap:Nat} {w:ZB} {ls:List CH.Version} (hO:Cv base B w (.slice (some ⟨g,0,none⟩) ls.length cap) ls) : ∃ d:Array VP,d.size=ls.length/\HoldsK iy 8 w g 0 d/\g<w.heap.size/\base<=g/\∀ w',(∃ n os,w'=sortWorldK iy 8 w g 0 n (Sort.insertionSort (ltOf kT) d 0 d.size) os) -> Hj w' w' (.slice (some ⟨g,0,none⟩) ls.length cap) (Sort.insertionSort iM ls.toArray 0 ls.length).toList/\Below base w w':=by
 obtain⟨xs,h1,h2,h3,h4,h5⟩:=hO;have h2':=h2;have hl:xs.length=ls.length:=by rw [<- h1,Cm]
 obtain⟨ds,hds⟩:=Key xs h3;have hdl:ds.length=ls.length:=by rw [<- hl,<- hds,Cm]
 have hmap:ds.map (·.v)=ls:=by rw [<- h1,<- hds,J3];rfl
 have zG:B6 xs=ds.flatMap iy:=by rw [<- hds];unfold B6;rw [List.flatMap_map];rfl
 obtain⟨hlen,⟨e,h0⟩|⟨g',cap',cur,e,hb,hg,hn,hc,hsz,htk⟩⟩:=h2;·cases e
 simp only [Value.slice.injEq,Ep,Addr.mk.injEq,and_true,true_and] at e;obtain⟨rfl,rfl⟩:=e;have mP:g<w.heap.size:=(aZ hg)
 have hH:HoldsK iy 8 w g 0 ds.toArray:=by
  intro t ht;rw [size_flatK] at ht;have ht':t<ds.length*8:=by simpa using ht
  rw [get_flatK _ _ _ _ ht];refine⟨?_,Bi hg _⟩;rw [Bh,G8 h2' t (by rw [<- hdl];exact ht'),zG];exact wG iy (fun _=>rfl) ds t ht'
 have hsize:ds.toArray.size=ls.length:=by simpa using hdl
 refine⟨ds.toArray,hsize,hH,mP,hb,?_⟩;rintro w' ⟨n,os,rfl⟩;have hinv:=fV (lt:=ltOf kT) (I:=fun L=>L.length=ds.length/\∀ y∈L,y∈ds) (fun l m x y _ h=>⟨by simpa using h.1,fun z hz=>h.2 z (by
  simp only [Di,A8] at hz ⊢;rcases hz with h|h|h|h;·exact .inl h
  ·exact .inr (.inr (.inl h))
  ·exact .inr (.inl h)
  ·exact .inr (.inr (.inr h)))⟩) ds ⟨rfl,fun _ h=>h⟩
 rw [show ds.length=ds.toArray.size from by simp] at hinv;have hv:=Pj ds.toArray 0 ds.toArray.size;have e1:ds.toArray.map (·.v)=ls.toArray:=by rw [<- hmap];simp
 rw [e1] at hv;obtain⟨d',hd'⟩:∃ d',Sort.insertionSort (ltOf kT) ds.toArray 0 ds.toArray.size=d':=⟨_,rfl⟩
 rw [hd'] at hinv hv ⊢;rw [<- hsize,<- hv];have hs':d'.size=ds.toArray.size:=by have:=hinv.1;simpa using this
 have hH':=holdsK_sortWorldK_c iy 8 w g 0 ds.toArray d' n os hH mP hs';have hBb:Below base w (sortWorldK iy 8 w g 0 n d' os):=Ud hb h5;have hgs:w.heap.size<=(sortWorldK iy 8 w g 0 n d' os).heap.size:=hBb.size;refine⟨⟨_,cap,?_,?_,?_,fun _=>⟨g,0,rfl,Ai mP hgs,fun j x hj=>?_⟩⟩,hBb⟩;·simp [hs']
 ·simp only [Array.toList_map,Cm,Ip,hs',hsize];exact hn
 ·unfold maxLen at hc;omega
 ·rw [Array.toList_map,Fe] at hj;cases hy:d'.toList[j]? with
  |none=>rw [hy] at hj;cases hj
  |some y =>
   rw [hy] at hj;cases hj;have hmem:=hinv.2 y (Aw hy);have hxs:(y.v,y.s)∈xs:=by rw [<- hds];exact Eo.2 ⟨y,hmem,rfl⟩
   have hjl:j<d'.size:=by have:=(lS hy);simpa using this
   have hat:d'[j]! =y:=by rw [Jk] at hy;rw [getElem!_def,hy]
   refine⟨y.s,fun i u hi=>?_,((h3 _ hxs).below (hBb.mono h4) nR).mono (Ag h4 (Ag h5 hgs))⟩;have hi8:i<8:=by have:=(lS hi);exact this
   have:=(HoldsK.cell hH' hjl hi8).1;rw [this,hat];have h9:(iy y)[i]?=some u:=hi;congr 1;rw [List.getElem!_eq_getElem?_getD,h9];rfl
theorem I53 (c r1 r2:Nat) (keys:List (List UInt8)) (known:CH.Known) (forks:CH.Forks) (a:Int) (w W:ZB) (hG:Gc w) (hC:De w c r1 r2 keys known forks) (hn:∀ p v,(p,v)∈known->p.2<=200) (hb:Below w w W) : ZE prog 52 #[.pointer (some ⟨c,0,none⟩),↑a] W (Ue W w (fol CH.msg known a)):=by obtain⟨vk,h1,_⟩:=hC.ex;obtain⟨kvs,h2,h3⟩:=hC.known;exact X8 c r1 w known kvs a W (hG.below hb) (Ab ((hb.block c (aZ h1)).trans h1) 1) (h2.below hb) (h3.imp fun _ _ h=>h.below hb nR) hb.size hn
theorem P6 (c r1 r2:Nat) (keys:List (List UInt8)) (known:CH.Known) (forks:CH.Forks) (w:ZB) (hG:Gc w) (hC:De w c r1 r2 keys known forks) (hn:∀ p v,(p,v)∈known->p.2<=200) (hkl:keys.length<=1000) (hlen:(bF CH.msg known keys.length).length<20) : ZE prog 22 #[.pointer (some ⟨c,0,none⟩)] w (Vr w (CH.versions CH.msg known keys.length)):=by
 have HF:=Aa fun (W:ZB) (hb:Below w w W) (k:Nat)=>I53 c r1 r2 keys known forks (k:Int) w W hG hC hn hb;have HL:=Aa fun (k:Nat) (hk:k<=keys.length)=>Ko (Yb CH.msg known hk) hlen;obtain⟨vk,gI,hks⟩:=hC.ex;obtain⟨ak,ck,rfl,_,_⟩:=hks.form;have iw:c<w.heap.size:=(aZ gI)
 have kc:w.cell? ⟨c,0,none⟩=some (.slice ak keys.length ck):=Ab gI 0;obtain⟨R,hR⟩:∃ R,Hid (CH.versions CH.msg known keys.length=R):=⟨_,Aa rfl⟩
 rw [hR.out];clear gI hks hC hn hG hlen;generalize keys.length=N at *;go_enter func22,ntmps22;go_wp2_with fail;go_loopw [3,14] (fun ov i wr=>∃ k:Nat,k<=N/\i=↑k/\Hid (Cv w w wr ov (bF CH.msg known k))/\Hid (Below w w wr)) (fun _ i _=>N - (ZG i).toNat);case atStart=>exact⟨0,Bd _,rfl,Aa (Cv.nil nR nR),Aa (Ac _ _)⟩
 case round =>
  obtain⟨k,hk,rfl,hO,hBr⟩:=hrel;by_cases hlt:k<N
  ·obtain⟨av,cv,rfl,hcv⟩:=hO.out.form;go_wp2_with fail;refine (HF.out wr hBr.out k).mono ?_;rintro e w1 ⟨v,rfl,hO1,hb1⟩;have hB1:Below w w w1:=hBr.out.trans (hb1.mono hBr.out.size);have hL1:=HL.out (k+1) hlt;have rU:bF CH.msg known (k+1)=bF CH.msg known k++(fol CH.msg known (k:Int)).1:=rfl;rw [rU,Aj] at hL1;obtain⟨xs1,e1,hsrc,xO,uo⟩:=Ch3 hO1;have hO2:=hO.out.below hb1;obtain⟨a1,c1,rfl,_⟩:=hO1.form;obtain⟨xs,hx1,hx2,hx3,hx4,hx5⟩:=hO2;have hx1:=Aa hx1;have hx3:=Aa hx3;have hl1:(B6 xs1).length=(fol CH.msg known (k:Int)).1.length*8:=by rw [Mp,<- e1,Cm]
   have hob:∀ j,(Value.slice av (bF CH.msg known k).length cv).ownBlock=some j->w.heap.size<=j:=by exact FD34
   have hob:=Aa hob;have e1:=Aa e1;have rU:=Aa rU;have xO:=Aa xO;have uo:=Aa uo;have hsrc:=Aa hsrc;have hl1:=Aa hl1;have hx2:=Aa hx2;have hB1:=Aa hB1;clear hO hO1 hb1 hBr;obtain⟨n,hn⟩:∃ n,Hid ((bF CH.msg known k).length=n):=⟨_,Aa rfl⟩
   obtain⟨m,hm⟩:∃ m,Hid ((fol CH.msg known (k:Int)).1.length=m):=⟨_,Aa rfl⟩
   rw [hn.out] at hL1 hcv hob hx2 ⊢;rw [hm.out] at hL1 hsrc hl1 ⊢;go_wp2_with (at_builtin;refine Pp rfl _ _ rfl w _ n (B6 xs) rfl hx2.out _ m (B6 xs1) rfl hsrc.out hl1.out uo.out ?c3 hx5 ?_)
   case c3=>omega
   ·intro v' w' g1 g2 g3;have hgb:Below w w1 w':=Kc g2 hB1.out.size hob.out;have hB2:Hid (Below w w w'):=Aa (hB1.out.trans hgb);have hO3:Cv w w w' v' (bF CH.msg known (k+1)):=by
     rw [rU.out];refine⟨xs++xs1,by rw [Eh,hx1.out,e1.out],?_,?_,Bo _,hB2.out.size⟩;·rw [Aj,hn.out,hm.out,show B6 (xs++xs1)=B6 xs++B6 xs1 from by unfold B6;rw [List.flatMap_append]];exact g1
     ·intro x hx;rcases Di.1 hx with h|h;·exact (hx3.out x h).below hgb nR
      ·exact (xO.out x h).below hgb nR
    obtain⟨a',c',rfl,_⟩:=hO3.form;have hO3:=Aa hO3;clear hgb g1 g2 g3;generalize (bF CH.msg known (k+1)).length=n' at *;go_wp2;go_roundw;case rel=>exact⟨k+1,oM,by go_num,hO3,hB2⟩
    case measure=>simp [ZG];omega
  ·obtain rfl:k=N:=oM;have hL1:=HL.out k nR;have hRR:R=(Sort.insertionSort iM (bF CH.msg known k).toArray 0 (bF CH.msg known k).length).toList:=hR.out.symm;obtain⟨ls,hls⟩:∃ ls,bF CH.msg known k=ls:=⟨_,rfl⟩
   rw [hls] at hO hL1 hRR;have hRR:=Aa hRR;clear hR HL HF;obtain⟨av,cv,rfl,hcv⟩:=hO.out.form;have hO2:=hO.out;obtain⟨xs,hx1,⟨_,⟨e,h0⟩|⟨g,cap,cur,e,hb,hg,hn,hc,hsz,htk⟩⟩,hx3,hx4,hx5⟩:=hO2;·have hnil:ls=[]:=Cb.1 h0;subst hnil;simp only [Value.slice.injEq] at e;obtain⟨rfl,_,rfl⟩:=e;clear hx1 hx3 hO h0;simp only [Bj];go_wp2_with fail;refine (Qg wr).mono ?_;rintro e w' ⟨rfl,rfl⟩;go_wp2;go_ret;refine⟨_,rfl,?_,hBr.out⟩;rw [hRR.out,Bj,show ([]:List CH.Version).toArray=#[] from rfl,Mzr];exact FD81
   ·have hx0:True:=trivial
    ·simp only [Value.slice.injEq] at e;obtain⟨rfl,_,rfl⟩:=e;obtain⟨d,hds,hH,mP,hbg,hpost⟩:=Ggn hO.out;have S:=V8 g cv d wr hH mP oM;rw [hds] at S hpost;have hpost:=Aa hpost;obtain⟨Q,hQ⟩:∃ Q:ZB->Prop,(fun w'=>∃ n os,w'=sortWorldK iy 8 wr g 0 n (Sort.insertionSort (ltOf kT) d 0 ls.length) os)=Q:=⟨_,rfl⟩
     have S:Hid (ZE prog 53 #[.slice (some ⟨g,0,none⟩) ls.length cv,.func (.func 54) #[] #[]] wr fun e w'=>e=.returned (.tuple #[])/\Q w'):=Aa (by rw [<- hQ];exact S);have hQ:=Aa hQ;have hBr:=Aa hBr.out;clear hO hx1 hg hn hsz htk hx3 hx4 hx5 hH hds;obtain⟨n,hn⟩:∃ n,Hid (ls.length=n):=⟨_,Aa rfl⟩
     rw [hn.out] at S hcv ⊢;clear hc;go_wp2_with fail;refine S.out.mono ?_;rintro e w' ⟨rfl,hq⟩;have hp:=hpost.out w' (by rw [<- hQ.out] at hq;exact hq);rw [hn.out] at hp;have hp:=Aa hp;clear hq S;go_wp2;go_ret;refine⟨_,rfl,?_,hBr.out.trans hp.out.2⟩;rw [hRR.out,hn.out];exact hp.out.1
theorem How (a:Nat) (c:UInt8):ZH ((a:Int)<=(c.toNat:Int))=ZH (a<=c.toNat):=sM
theorem Hpl (a:Nat) (c:UInt8):ZH ((c.toNat:Int)<=(a:Int))=ZH (c.toNat<=a):=sM
theorem W8 (c:UInt8) (w:ZB):ZE prog 171 #[.int .u8 c.toNat] w (Ret w (.bool (CH.letterB c))):=by
 have e:CH.letterB c=(ZH ((97:Int)<=(c.toNat:Int))&&ZH ((c.toNat:Int)<=122)||ZH ((65:Int)<=(c.toNat:Int))&&ZH ((c.toNat:Int)<=90)):=by unfold CH.letterB;rw [<- How 97,<- Hpl 122,<- How 65,<- Hpl 90];rfl
 rw [e];clear e;generalize e1:ZH ((97:Int)<=(c.toNat:Int))=b1;generalize e2:ZH ((c.toNat:Int)<=122)=b2;generalize e3:ZH ((65:Int)<=(c.toNat:Int))=b3;generalize e4:ZH ((c.toNat:Int)<=90)=b4;cases b1 <;> cases b2 <;> cases b3 <;> cases b4;all_goals go_enter func171,ntmps171;go_wp2;go_ret;exact⟨rfl,Ac _ _⟩
theorem Bit (c:UInt8) (w:ZB):ZE prog 231 #[.int .u8 c.toNat] w (Ret w (.bool (ZH (48<=c.toNat)&&ZH (c.toNat<=57)))):=by
 have e:(ZH (48<=c.toNat)&&ZH (c.toNat<=57))=(ZH ((48:Int)<=(c.toNat:Int))&&ZH ((c.toNat:Int)<=57)):=by rw [<- How 48,<- Hpl 57];rfl
 rw [e];clear e;generalize e1:ZH ((48:Int)<=(c.toNat:Int))=b1;generalize e2:ZH ((c.toNat:Int)<=57)=b2;cases b1 <;> cases b2;all_goals go_enter func231,ntmps231;go_wp2;go_ret;exact⟨rfl,Ac _ _⟩
theorem Crs (n:Int) (w:ZB):ZE prog 221 #[↑n] w (Ret w (.bool (aW n))):=by unfold aW;generalize e1:ZH (0<=n)=b1;generalize e2:ZH (n<=144001439)=b2;cases b1 <;> cases b2;all_goals go_enter func221,ntmps221;go_wp2;go_ret;exact⟨rfl,Ac _ _⟩
theorem Cnw (c:UInt8) (w:ZB):ZE prog 170 #[.int .u8 c.toNat] w (Ret w (.bool (CH.tailB c))):=by
 have L:=Aa fun (W:ZB)=>W8 c W;have D:=Aa fun (W:ZB)=>Bit c W;have e3:(c==95)=((c.toNat:Int)==95):=by rw [Ei,Dz,Dz,<- UInt8.toNat_inj];show c.toNat=95↔_;omega
 unfold CH.tailB;rw [e3];clear e3;generalize CH.letterB c=b1 at *;generalize (ZH (48<=c.toNat)&&ZH (c.toNat<=57))=b2 at *;generalize e3:((c.toNat:Int)==95)=b3;cases b1 with
 |true =>go_enter func170,ntmps170;go_wp2_with fail;refine (L.out w).mono ?_;rintro e w1 ⟨rfl,hb1⟩;exact FD44
 |false =>
  cases b2 with
  |true =>go_enter func170,ntmps170;go_wp2_with fail;refine (L.out w).mono ?_;rintro e w1 ⟨rfl,hb1⟩;go_wp2_with fail;refine (D.out w1).mono ?_;rintro e w2 ⟨rfl,hb2⟩;have hB:=hb1.trans (hb2.mono hb1.size);go_wp2;go_ret;exact⟨rfl,hB⟩
  |false =>cases b3;all_goals go_enter func170,ntmps170;go_wp2_with fail;refine (L.out w).mono ?_;rintro e w1 ⟨rfl,hb1⟩;go_wp2_with fail;refine (D.out w1).mono ?_;rintro e w2 ⟨rfl,hb2⟩;have hB:=hb1.trans (hb2.mono hb1.size);go_wp2;go_ret;exact⟨rfl,hB⟩
theorem Hnl {s:List UInt8} {k:Nat} {ch:UInt8} (hk:s[k]?=some ch) (h:CH.tailB ch=false):CH.isName s=false:=by
 unfold CH.isName;split;·rfl
 ·rename_i c l;have hl:CH.letterB ch=false:=by unfold CH.tailB at h;exact (Gt.1 h).1
  rcases k with _|k;·simp only [Fv,Ep] at hk;rw [hk,hl];rfl
  ·simp only [Fz] at hk;have:l.all CH.tailB=false:=Jr.2 ⟨ch,Aw hk,by simp [h]⟩;rw [this,Bool.and_false];rfl
theorem Hno {c:UInt8} {l:List UInt8} (h:(c::l).all CH.tailB=true):CH.isName (c::l)=(ZH ((c::l).length<=24)&&CH.letterB c):=by show (CH.letterB c&&l.all CH.tailB&&ZH ((c::l).length<=24))=_;rw [Jl,Ar] at h;rw [h.2,Ik,Bool.and_comm]
theorem Fw (s:List UInt8) (w:ZB) (hs:s.length<=9223372036854775807):ZE prog 106 #[↑s] w (Ret w (.bool (CH.isName s))):=by
 obtain⟨R,hR⟩:∃ R,Hid (CH.isName s=R):=⟨_,Aa rfl⟩
 rw [hR.out];have W:=Aa fun (c:UInt8) (W:ZB)=>Cnw c W;have L:=Aa fun (c:UInt8) (W:ZB)=>W8 c W;go_enter func106,ntmps106;go_wp2_with fail;go_loopw [3] (fun i wr=>∃ k:Nat,k<=s.length/\i=↑k/\Hid ((s.take k).all CH.tailB=true)/\Hid (Below w w wr)) (fun i _=>s.length - (ZG i).toNat);case atStart=>exact⟨0,Bd _,rfl,Aa rfl,Aa (Ac _ _)⟩
 case round =>
  obtain⟨k,hk,rfl,hI,hB⟩:=hrel;by_cases hlt:k<s.length
  ·obtain⟨ch,hch⟩:∃ ch,s[k]?=some ch:=⟨_,Ad hlt⟩
   have hgk:=Lf s k hlt ch hch;have hlt':(k:Int)<(s.length:Int):=oM;have hI':CH.tailB ch=true->Hid ((s.take (k+1)).all CH.tailB=true):=fun ht=>Aa (by rw [D6,hch,F7,Io,hI.out,a_Bool_true_and,Jl,Nb,ht];rfl);have hbad:CH.tailB ch=false->R=false:=fun ht=>by rw [<- hR.out];exact Hnl hch ht
   replace hch:=Aa hch;have W1:=Aa (W.out ch wr);generalize CH.tailB ch=tb at *;cases tb with
   |true =>
    have hI2:=hI' rfl;clear hI' hbad hI;go_wp2_with fail;refine W1.out.mono ?_;rintro e w1 ⟨rfl,hb1⟩;have hB1:=Aa (hB.out.trans (hb1.mono hB.out.size));go_wp2;go_roundw;case rel=>exact⟨k+1,oM,by go_num,hI2,hB1⟩
    case measure=>simp [ZG];omega
   |false =>have hb:=hbad rfl;clear hI' hbad hI;go_wp2_with fail;refine W1.out.mono ?_;rintro e w1 ⟨rfl,hb1⟩;have hB1:=Aa (hB.out.trans (hb1.mono hB.out.size));go_wp2;go_ret;subst hb;exact⟨rfl,hB1.out⟩
  ·obtain rfl:k=s.length:=oM;have hall:=hI.out;rw [Dv] at hall;cases s with
   |nil =>
    have hb:R=false:=by rw [<- hR.out];rfl
    go_wp2;go_ret;subst hb;exact⟨rfl,hB.out⟩
   |cons c l =>
    have hb:(ZH ((c::l).length<=24)&&CH.letterB c)=R:=by rw [<- hR.out,Hno hall]
    have hp:(0:Int)<(l.length:Int)+1:=oM;have hg0:=Lf (c::l) 0 sM c rfl;by_cases h24:(c::l).length<=24;·have q:ZH ((l.length:Int)+1<=24)=true:=Ak (by rw [Az] at h24;omega);rw [Ak h24,a_Bool_true_and] at hb;have L1:=Aa (L.out c wr);rw [hb] at L1;replace hb:=Aa hb;clear hI hall;go_wp2_with fail;refine L1.out.mono ?_;rintro e w1 ⟨rfl,hb1⟩;exact FD137
    ·have q:ZH ((l.length:Int)+1<=24)=false:=Aq (by rw [Az] at h24;omega);rw [Aq h24,Bool.false_and] at hb;clear hI hall;subst hb;exact FD118
end
end Go.Proofs.YtpkjhpenpfcpfaaGreatDoor
namespace CH
def counts (msg:Version->Str) (known:Known) (n:Nat):List Int:=(List.range n).map fun (a:Nat)=>(((fol msg known (a:Int)).1.length:Nat):Int)
end CH
namespace Go.Proofs.YtpkjhpenpfcpfaaGreatDoor
open Go.RowKit Go.Lib Go.Shelf Go.Sort CH
theorem Hwl (msg:CH.Version->List UInt8) (known:CH.Known) (n:Nat):(CH.counts msg known n).length=n:=by simp [CH.counts]
theorem Rn (c r1 r2:Nat) (keys:List (List UInt8)) (known:CH.Known) (forks:CH.Forks) (a:Int) (w:ZB) (hG:Gc w) (hC:De w c r1 r2 keys known forks) (hn:∀ p v,(p,v)∈known->p.2<=200) : ZE Tryz.prog 52 #[.pointer (some ⟨c,0,none⟩),↑a] w (Ue w w (fol CH.msg known a)):=by obtain⟨vk,h1,_⟩:=hC.ex;obtain⟨kvs,h2,h3⟩:=hC.known;exact X8 c r1 w known kvs a w hG (Ab h1 1) h2 h3 nR hn
theorem Ev8 (c r1 r2:Nat) (keys:List (List UInt8)) (known:CH.Known) (forks:CH.Forks) (a:Int) (w:ZB) (hG:Gc w) (hC:De w c r1 r2 keys known forks) (hn:∀ p v,(p,v)∈known->p.2<=200) : ZE Tryz.prog 21 #[.pointer (some ⟨c,0,none⟩),↑a] w (Ret w (.tuple #[.int .i64 ((fol CH.msg known a).1.length:Nat),.string ⟨(fol CH.msg known a).2.toArray⟩])):=by
 have F:=Rn c r1 r2 keys known forks a w hG hC hn;obtain⟨R,hR⟩:∃ R,fol CH.msg known a=R:=⟨_,rfl⟩
 rw [hR] at F ⊢;have F:=Aa F;clear hR hC hG hn;go_enter Tryz.func21,Tryz.ntmps21;go_wp2_with fail;refine F.out.mono ?_;rintro e w1 ⟨v,rfl,hO,hb1⟩;obtain⟨av,cv,rfl,_⟩:=hO.form;clear F hO;generalize R.1.length=n at *;go_wp2;refine Ah (Am rfl _ _ _) rfl ?_;exact⟨rfl,hb1⟩
def Vs (w:ZB) (ls:List Int) (e:Ending) (w':ZB):Prop:=∃ v,e=.returned v/\Zz w' w' v ls/\Below w w w'
theorem Mwe:(Tryz.prog.info? 3).map (fun i=>(i.zero,i.size,i.bytes))=some (some (.int .i64 0),1,8):=kR
def oC (cs:List Int) (N k:Nat):Array ZC:=((cs.take k++List.replicate (N - k) 0).map aJ).toArray
theorem Kn2 (cs:List Int) (N k:Nat) (x:Int) (hN:cs.length=N) (hk:k<N) (hx:cs[k]?=some x):(oC cs N k).setIfInBounds k ↑x=oC cs N (k+1):=by
 have h1:(cs.take k).length=k:=by rw [Ec];omega
 have h2:List.replicate (N - k) (0:Int)=0::List.replicate (N - (k+1)) 0:=by rw [<- J6];congr 1;omega
 unfold oC;rw [h2,D6,hx,List.setIfInBounds_toArray];congr 1;rw [Eh,Eu,List.set_append_right _ _ (by rw [Cm,h1];exact Bo _),Cm,h1,Nat.sub_self];simp
theorem Mru (cs:List Int) (N k:Nat) (hN:cs.length=N) (hk:k<N):(oC cs N k)[k]?=some (.int .i64 0):=by
 have h1:(cs.take k).length=k:=by rw [Ec];omega
 unfold oC;rw [Hy,Eh,Fj (by rw [Cm,h1];exact Bo _),Cm,h1,Nat.sub_self];have:N - k=(N - k - 1)+1:=oM;rw [this,J6];rfl
theorem I27 (cs:List Int) (N:Nat) (hN:cs.length=N):oC cs N N=(cs.map aJ).toArray:=by unfold oC;rw [Cc oM,Nat.sub_self];simp
theorem O7 (c r1 r2:Nat) (keys:List (List UInt8)) (known:CH.Known) (forks:CH.Forks) (w:ZB) (hG:Gc w) (hC:De w c r1 r2 keys known forks) (hn:∀ p v,(p,v)∈known->p.2<=200) (hkl:keys.length<=1000) : ZE Tryz.prog 24 #[.pointer (some ⟨c,0,none⟩)] w (Vs w (CH.counts CH.msg known keys.length)):=by
 have HF:=Aa fun (W:ZB) (hb:Below w w W) (k:Nat)=>Rn c r1 r2 keys known forks (k:Int) W (hG.below hb) (hC.below hb) hn;obtain⟨vk,gI,hks⟩:=hC.ex;obtain⟨ak,ck,rfl,_,_⟩:=hks.form;have iw:c<w.heap.size:=(aZ gI)
 have kc:w.cell? ⟨c,0,none⟩=some (.slice ak keys.length ck):=Ab gI 0;have hcl:=Hwl CH.msg known keys.length;have hat:∀ k,k<keys.length->(CH.counts CH.msg known keys.length)[k]?=some (((fol CH.msg known (k:Int)).1.length:Nat):Int):=fun k hk=>by unfold CH.counts;rw [Fe,Lr hk];rfl
 generalize CH.counts CH.msg known keys.length=cs at *;clear gI hks hC hn hG;generalize keys.length=N at *;have hat:=Aa hat;have hcl:=Aa hcl;have hmk:=fun W=>run_make_row' (P:=Tryz.prog) 74 3 (.int .i64 0) 8 Tryz.underlying74 Mwe rfl .i64 .i64 N oM oM W;go_enter Tryz.func24,Tryz.ntmps24;go_wp2_with fail;have hrow0:(w.alloc (.cells (madeCells #[.int .i64 0] N) 3)).heap[w.heap.size]?=some (.cells (oC cs N 0) 3 (0,0)):=by
  rw [Au w _];congr 2;unfold oC;apply Array.ext';rw [Ia,Dp,Nat.sub_zero,List.map_replicate];apply Jp;intro i;by_cases hi:i<N;·simp [madeCells,hi,Nat.mod_one]
  ·simp [madeCells,hi]
 have hBa:Below w w (w.alloc (.cells (madeCells #[.int .i64 0] N) 3)):=(Ac _ w).alloc nR _;clear hmk;generalize w.alloc (.cells (madeCells #[.int .i64 0] N) 3)=W at *;have hBa:=Aa hBa;have hrow0:=Aa hrow0;go_loopw [17] (fun i wr=>∃ k:Nat,k<=N/\i=↑k/\Hid (Below w w wr)/\Hid (wr.heap[w.heap.size]?=some (.cells (oC cs N k) 3 (0,0)))) (fun i _=>N - (ZG i).toNat);case atStart=>exact⟨0,Bd _,rfl,hBa,hrow0⟩
 case round =>
  obtain⟨k,hk,rfl,hBr,hrow⟩:=hrel;by_cases hlt:k<N
  ·go_wp2_with fail;refine (HF.out wr hBr.out k).mono ?_;rintro e w1 ⟨v,rfl,hO,hb1⟩;have hx:=Aa (hat.out k hlt);obtain⟨av,cv,rfl,_⟩:=hO.form;have hr1:=(hb1.block w (aZ hrow.out)).trans hrow.out;have hB1:Below w w w1:=hBr.out.trans (hb1.mono hBr.out.size);have kc0:w1.cell? ⟨w,k,none⟩=some (.int .i64 0):=(Ab hr1 k).trans (Mru cs N k hcl.out hlt);have kf0:w1.frozen? ⟨w,k,none⟩=false:=Bi hr1 k;have hr2:=Be w1 w k (.int .i64 (((fol CH.msg known (k:Int)).1.length:Nat):Int)) _ _ _ hr1;rw [Kn2 cs N k _ hcl.out hlt hx.out] at hr2;clear hO hb1 hr1 hrow hBr;generalize (fol CH.msg known (k:Int)).1.length=m at *;generalize (fol CH.msg known (k:Int)).2=s at *;have hB2:Hid (Below w w (w1.setCell ⟨w,k,none⟩ ↑m)):=Aa (hB1.setCell nR _);have hr2:=Aa hr2;have hB1:=Aa hB1;have z0:(0:Int)<=(k:Int):=oM;have zk:((k:Int)).toNat=k:=oM;have hk':(k:Int)<(N:Int):=oM;go_wp2;go_roundw;case rel=>exact⟨k+1,oM,by go_num,hB2,hr2⟩
   case measure=>simp [ZG];omega
  ·obtain rfl:k=N:=oM;have hfin:=hrow.out;rw [I27 cs k hcl.out] at hfin;have hlt2:=(aZ hfin)
   have hI:Zz wr wr (.slice (some ⟨w,0,none⟩) k k) cs:=by refine⟨_,k,by rw [hcl.out],by rw [hcl.out];exact Bo _,oM,fun _=>⟨w,0,rfl,hlt2,fun j n hj=>?_⟩⟩;rw [Bh,Ab hfin j];simp [hj]
   have hI:=Aa hI;have pX:=Aa hBr.out;clear hfin hrow;go_wp2;go_ret;exact⟨_,rfl,hI.out,pX.out⟩
end Go.Proofs.YtpkjhpenpfcpfaaGreatDoor
