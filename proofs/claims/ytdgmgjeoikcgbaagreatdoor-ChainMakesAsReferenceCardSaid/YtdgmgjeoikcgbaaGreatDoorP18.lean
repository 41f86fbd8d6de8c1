/-
  ChainMakes: the proof, part 19 of 34.
-/
import Derived.Test.YtdgmgjeoikcgbaaGreatDoorP14
import Derived.Test.YtdgmgjeoikcgbaaGreatDoorP15
import Derived.Test.YtdgmgjeoikcgbaaGreatDoorP16
import Derived.Deep.OwnRows
set_option linter.unusedSimpArgs false
set_option linter.unusedVariables false
set_option maxHeartbeats 40000000
set_option maxRecDepth 100000
open Go renaming World -> ZB, Value -> ZC
open Decidable renaming decide -> ZH
namespace CH
def fZ (v:Version):Version:={ v with sel:=⟨0,[],[]⟩ }
def message (v:Version):Except Int Str:=match bZ (fZ v) with
 |.error e=>.error e
 |.ok _=>.ok (sum ((bare v).getD []))
def msg (v:Version):Str:=match message v with
 |.error _=>[]
 |.ok m=>m
theorem jD (v:Version):bare (fZ v)=bare v:=rfl
end CH
namespace Go.Proofs.YtdgmgjeoikcgbaaGreatDoor
open Go.RowKit Go.Lib Go.Shelf Go.Sort CH
theorem F10:Gb8:=fun a s W hG h=>Hyp a s W hG h fun W' hb=>Zi a s W' (hG.below hb) ((h.below hb nR).mono hb.size)
theorem Rx (v:CH.Version) (s:dI) (w:ZB) (hG:Gc w) (h:aN w w v s) : Calls Tryz.prog 36 #[.agg (Al v s).toArray] w (Ret w (iO (CH.bare v))):=Mrt F10 v s w hG h
def It:Except Int (List UInt8)->ZC
 |.ok t=>.tuple #[↑t,.int .i64 0]
 |.error e=>.tuple #[.string ⟨#[]⟩,↑e]
theorem Ru {v:CH.Version} {s:dI} {B:Nat} {w:ZB} {t:List UInt8} (hb:CH.bare v=some t) (h:aN B w v s):t.length<=5000000000:=by
 rw [Rw] at hb;split at hb;·cases hb
 ·rename_i hc;obtain⟨u,hu,rfl⟩:=Ku.1 hb;have h40:v.acts.length<=40:=by simp only [Dy,Fz,La,Js,Di,not_and] at hc;omega
  have hs:∀ a∈v.acts,(aQ a).isSome=true:=fun a ha=>by
   cases he:aQ a with
   |none=>rw [K4 he v.acts ha] at hu;cases hu
   |some _=>rfl
  rw [K3 v.acts hs] at hu;cases hu;have h1:=Zs h.acts.acts;have h2:=Dh 100000101 h40;have h3:=Sh h.small;simp only [Au,Dx];omega
def G2 (s:vF):List CH.Word:=[.str ([115,101,97,108]:List UInt8),.int s.index,.strs s.sig,.str [47],.strs s.path]
theorem Om {s:vF} (hi:I64 s.index) (h1:Fd s.sig) (h2:Fd s.path) (h18:s.sig.length<=18) (h8:s.path.length<=8):(CH.words (G2 s)).length<=1000000:=by
 have h3:((G2 s).flatMap CH.Word.texts).length<=80:=by unfold G2;simp only [Gg,G8,Au,Lx,Bj];show 1+(1+(s.sig.length+(1+(s.path.length+0))))<=80;omega
 refine Af (Rd _ 10000 80 ?_ h3) dC;intro x hx;simp only [G2,A8,Az,Df] at hx;rcases hx with rfl|rfl|rfl|rfl|rfl;·exact C5 _ sM
 ·exact C6 _ hi
 ·exact h1.2
 ·exact C5 _ sM
 ·exact h2.2
theorem P8 (v:CH.Version):bZ v=match CH.bare v with
  |none=>.error 1
  |some s=>if ZH (v.sel.index<0)||(ZH (255<v.sel.index)||(!bP v.sel.sig 18||!bP v.sel.path 8)) then .error 1
   else if 20000<(s++(CH.words (G2 v.sel)++[10])).length then .error 2 else .ok (s++(CH.words (G2 v.sel)++[10])):=by
 unfold bZ CH.within G2
 cases CH.bare v with
 |none=>rfl
 |some s =>
  dsimp only
  have e1:ZH (0<=v.sel.index)=!ZH (v.sel.index<0):=by
   by_cases h:v.sel.index<0
   ·rw [Aj h,Ak oM];rfl
   ·rw [Ak h,Aj oM];rfl
  have e2:ZH (v.sel.index<=255)=!ZH (255<v.sel.index):=by
   by_cases h:255<v.sel.index
   ·rw [Aj h,Ak oM];rfl
   ·rw [Ak h,Aj oM];rfl
  rw [e1,e2,D9]
  cases ZH (v.sel.index<0) <;> cases ZH (255<v.sel.index) <;> cases bP v.sel.sig 18 <;> cases bP v.sel.path 8 <;> rfl
theorem Lk (v:CH.Version) (s:dI) (w:ZB) (hG:Gc w) (h:aN w w v s) : Calls Tryz.prog 24 #[.agg (Al v s).toArray] w (Ret w (It (bZ v))):=by
 obtain⟨R,hR⟩:∃ R,Hid (It (bZ v)=R):=⟨_,Aa rfl⟩
 rw [hR.out];have hR1:=hR.out;rw [P8] at hR1;clear hR;have hB0:=fun o=>(Ac _ w).alloc nR o;have HV:=Aa fun (W:ZB) (hb:Below w w W)=>(h.below hb nR).mono hb.size;have T:=fun (W:ZB) (hb:Below w w W)=>Rx v s W (hG.below hb) (HV.out W hb);obtain⟨t,ht⟩:∃ t,CH.bare v=t:=⟨_,rfl⟩
 have hl:∀ x,t=some x->x.length<=5000000000:=fun x hx=>Ru (ht.trans hx) h;rw [ht] at T hR1;have T:=Aa T;have hR1:=Aa hR1;have HS:=Aa h.small;obtain⟨va,v1,v2⟩:=s;clear h ht;generalize hC:Al v { va:=va,v1:=v1,v2:=v2 }=C at T ⊢;have hlen:(Tryz.prog.info? 29).map (·.size)=some C.length:=by rw [<- hC];kernel_rfl
 have hC:=Aa hC;have hr0:=Aa (Ca w C 29);go_enter Tryz.func24,Tryz.ntmps24;go_wp2_with (refine Bf rfl 29 _ rfl w 0 rfl C _ hr0.out Tryz.underlying29 rfl hlen ?_)
 refine (T.out _ (hB0 _)).mono ?_;rintro e w1 ⟨rfl,hb1⟩;clear T;have hB1:Below w w w1:=(hB0 _).trans (hb1.mono sM);have hlt1:w.heap.size<w1.heap.size:=Ai sM hb1.size;have hr1:w1.rangeAt w 0 C:=Cg hr0.out hb1 sM;rw [<- hC.out] at hr1;have r5:w1.rangeAt w 5 [aJ v.sel.index,v1,v2]:=Cz (l:=[aJ v.authority,aJ v.number,aJ v.pos,aA v.prev,va]) hr1 5 rfl;have k5:w1.cell? ⟨w,5,none⟩=some ↑v.sel.index:=hr1 5 _ rfl;have k6:w1.cell? ⟨w,6,none⟩=some v1:=hr1 6 _ rfl;have k7:w1.cell? ⟨w,7,none⟩=some v2:=hr1 7 _ rfl;clear hb1 hr0 hr1 hlen r5;have hv1:Strs w1 w1 v1 v.sel.sig:=(HV.out w1 hB1).sig;have hv2:Strs w1 w1 v2 v.sel.path:=(HV.out w1 hB1).path;obtain⟨a1,c1,rfl,_,_⟩:=hv1.form;obtain⟨a2,c2,rfl,_,_⟩:=hv2.form;have uM:=fun o=>(Ac _ w1).alloc nR o;cases t with
 |none =>exact FD139
 |some t =>
  have hl:=hl t rfl;dsimp only at hR1;dsimp only [iO];obtain⟨b1,h1⟩:∃ b,ZH (v.sel.index<0)=b:=⟨_,rfl⟩
  obtain⟨b2,h2⟩:∃ b,ZH (255<v.sel.index)=b:=⟨_,rfl⟩
  have D1:=fun (W:ZB) (hb:Below w1 w1 W)=>S7 _ v.sel.sig 18 W ((hG.below hB1).gl.below hb) ((hv1.below hb nR).mono hb.size) (fun l hl=>Af (HS.out.sig.2 l hl) dC);have D2:=fun (W:ZB) (hb:Below w1 w1 W)=>S7 _ v.sel.path 8 W ((hG.below hB1).gl.below hb) ((hv2.below hb nR).mono hb.size) (fun l hl=>Af (HS.out.path.2 l hl) dC);obtain⟨b3,h3⟩:∃ b,bP v.sel.sig 18=b:=⟨_,rfl⟩
  obtain⟨b4,h4⟩:∃ b,bP v.sel.path 8=b:=⟨_,rfl⟩
  rw [h1,h2,h3,h4] at hR1;rw [h3] at D1;rw [h4] at D2;have D1:=Aa D1;have D2:=Aa D2;have H3:=Aa h3;have H4:=Aa h4;have hv1:=Aa hv1;have hv2:=Aa hv2;clear h3 h4;generalize hn1:v.sel.sig.length=n1 at *;generalize hn2:v.sel.path.length=n2 at *;have hn1:=Aa hn1;have hn2:=Aa hn2;rcases (by cases b1 <;> cases b2 <;> simp:(b1=true)\/(b1=false/\b2=true)\/(b1=false/\b2=false)) with rfl|⟨rfl,rfl⟩|⟨rfl,rfl⟩;·exact FD38
  ·exact FD38
  ·go_wp2_with fail;refine (D1.out _ (uM _)).mono ?_;rintro e w2 ⟨rfl,hb2⟩;have hblk:=(hb2.block w1 sM).trans (Ap w1 _);have hlt2:w1.heap.size<w2.heap.size:=(aZ hblk)
   have g0:w2.cell? ⟨w1,0,none⟩=some ↑v.sel.index:=Ab hblk 0;have g1:w2.cell? ⟨w1,1,none⟩=some (.slice a1 n1 c1):=Ab hblk 1;have g2:w2.cell? ⟨w1,2,none⟩=some (.slice a2 n2 c2):=Ab hblk 2;have qj:Below w1 w1 w2:=(uM _).trans (hb2.mono sM);have hB2:Below w w w2:=hB1.trans (qj.mono hB1.size);clear D1 hb2 hblk;cases b3 with
   |false =>exact FD66
   |true =>
    go_wp2_with fail;refine (D2.out _ qj).mono ?_;rintro e w3 ⟨rfl,hb3⟩;have m0:=(hb3.cell (p:=⟨w1,0,none⟩) hlt2).trans g0;have m1:=(hb3.cell (p:=⟨w1,1,none⟩) hlt2).trans g1;have m2:=(hb3.cell (p:=⟨w1,2,none⟩) hlt2).trans g2;have hB3:Below w w w3:=hB2.trans (hb3.mono hB2.size);have qZ:Below w1 w1 w3:=qj.trans (hb3.mono qj.size);clear D2 hb3 g0 g1 g2;cases b4 with
    |false =>go_wp2;refine Ag (Am rfl _ _ _) rfl ?_;exact⟨by rw [<- hR1.out];rfl,hB3⟩
    |true =>
     have h18:v.sel.sig.length<=18:=by have:=H3.out;unfold bP at this;simp only [Bool.and_eq_true,decide_eq_true_eq] at this;exact this.1
     have h8:v.sel.path.length<=8:=by have:=H4.out;unfold bP at this;simp only [Bool.and_eq_true,decide_eq_true_eq] at this;exact this.1
     have hwl:=Om HS.out.index HS.out.sig HS.out.path h18 h8;have hWV:Ke w3 w3 (G2 v.sel) [.iface 9 (aA ([115,101,97,108]:List UInt8)),.iface 3 ↑v.sel.index,.iface 25 (.slice a1 n1 c1),.iface 9 (aA [47]),.iface 25 (.slice a2 n2 c2)] := ⟨rfl,⟨rfl,HS.out.index⟩,⟨_,rfl,(hv1.out.below qZ nR).mono qZ.size,oM⟩,rfl,⟨_,rfl,(hv2.out.below qZ nR).mono qZ.size,oM⟩,trivial⟩
     have WN:=Aa fun T=>Li (G2 v.sel) _ T 5 w3 (hG.below hB3).gl hWV rfl dC oM;generalize hWW:CH.words (G2 v.sel)=WW at *;have hl4:¬ (9223372036854775807<WW.length+1):=oM;have hl5:¬ (9223372036854775807<t.length+(WW.length+1)):=oM;have hR2:Hid (It (if 20000<(t++(WW++[10])).length then .error 2 else .ok (t++(WW++[10])))=R):=Aa (by rw [<- hR1.out];rfl);clear hR1 hWV h18 h8;go_wp2_with fail;refine (WN.out _).mono ?_;rintro e w4 ⟨rfl,hb4⟩;have hB4:Below w w w4:=(hB3.alloc hB3.size _).trans (hb4.mono (hB3.alloc hB3.size _).size);clear WN hb4;have yB:(⟨t.toArray⟩++(⟨WW.toArray⟩++⟨#[10]⟩):ByteArray)=⟨(t++(WW++[10])).toArray⟩:=by rw [<- bytes_append,<- bytes_append]
     have hsz:(⟨t.toArray⟩++(⟨WW.toArray⟩++⟨#[10]⟩):ByteArray).size=t.length+(WW.length+1):=by rw [yB];simp [ByteArray.size]
     by_cases h20:20000<t.length+(WW.length+1)
     ·have q:ZH ((20000:Int)<((t.length+(WW.length+1):Nat):Int))=true:=by simp;omega
      exact FD147
     ·have q:ZH ((20000:Int)<((t.length+(WW.length+1):Nat):Int))=false:=by simp;omega
      have hR3:Hid (It (.ok (t++(WW++[10])))=R):=Aa (by rw [<- hR2.out,Ah (by simpa using h20)]);exact FD54
theorem aN.fZ {B:Nat} {w:ZB} {v:CH.Version} {s:dI} (h:aN B w v s):aN B w (CH.fZ v) ⟨s.va,.slice none 0 0,.slice none 0 0⟩ := ⟨h.acts,⟨none,0,rfl,Bv _,dC,fun e=>absurd rfl e⟩,⟨none,0,rfl,Bv _,dC,fun e=>absurd rfl e⟩, ⟨h.small.authority,h.small.number,h.small.pos,h.small.prev,⟨by show (-9223372036854775808:Int)<=0;decide,by show (0:Int)<=9223372036854775807;decide⟩,⟨by simp [CH.fZ],fun l hl=>by cases hl⟩,⟨by simp [CH.fZ],fun l hl=>by cases hl⟩⟩⟩
theorem Sk {v:CH.Version} {t:List UInt8} (h:bZ v=.ok t):∃ u,CH.bare v=some u:=by
 rw [P8] at h;cases hb:CH.bare v with
 |none=>rw [hb] at h;cases h
 |some u=>exact⟨u,rfl⟩
theorem Re {v:CH.Version} {e:Int} (h:bZ v=.error e):e=1\/e=2:=by
 rw [P8] at h;cases hb:CH.bare v with
 |none=>rw [hb] at h;cases h;exact .inl rfl
 |some u =>
  rw [hb] at h;dsimp only at h;split at h;·cases h;exact .inl rfl
  ·split at h;·cases h;exact .inr rfl
   ·cases h
theorem Py (v:CH.Version):CH.message v=match bZ (fZ v) with
 |.error e=>.error e
 |.ok _=>.ok (CH.sum ((CH.bare v).getD [])):=rfl
theorem Lt (v:CH.Version) (s:dI) (w:ZB) (hG:Gc w) (h:aN w w v s) : Calls Tryz.prog 14 #[.agg (Al v s).toArray] w (Ret w (It (CH.message v))):=by
 obtain⟨R,hR⟩:∃ R,Hid (It (CH.message v)=R):=⟨_,Aa rfl⟩
 rw [hR.out];have hR1:=hR.out;rw [Py] at hR1;have hB0:=fun o=>(Ac _ w).alloc nR o;have h0:=h.fZ;have HV:=Aa fun (W:ZB) (hb:Below w w W)=>(h0.below hb nR).mono hb.size;have T:=fun (W:ZB) (hb:Below w w W)=>Lk (fZ v) _ W (hG.below hb) (HV.out W hb);have TB:=fun (W:ZB) (hb:Below w w W)=>Rx (fZ v) _ W (hG.below hb) (HV.out W hb);rw [jD] at TB;obtain⟨t,ht⟩:∃ t,CH.bare v=t:=⟨_,rfl⟩
 obtain⟨x,hx⟩:∃ x,bZ (fZ v)=x:=⟨_,rfl⟩
 have hl:∀ u,t=some u->u.length<=5000000000:=fun u hu=>Ru (ht.trans hu) h;have hsome:∀ y,x=.ok y->∃ u,t=some u:=fun y hy=>by obtain⟨u,hu⟩:=Sk (hx.trans hy);rw [jD,ht] at hu;exact⟨u,hu⟩
 have herr:∀ e,x=.error e->e≠0:=fun e he=>by exact FD118
 rw [hx,ht] at hR1;rw [hx] at T;rw [ht] at TB;obtain⟨va,v1,v2⟩:=s;clear h h0 hx ht hR;dsimp only [Al,fZ] at T TB ⊢;have T:=Aa T;have TB:=Aa TB;have hR1:=Aa hR1;have hsz:∀ o,(w.alloc o).heap.size=w.heap.size+1:=fun o=>by simp
 go_enter Tryz.func14,Tryz.ntmps14;go_wp2_with fail;refine (T.out _ (hB0 _)).mono ?_;rintro e w1 ⟨rfl,hb1⟩;have hB1:Below w w w1:=(hB0 _).trans (hb1.mono sM);have hblk:=(hb1.block w sM).trans (Ap w _);have k0:=Ab hblk 0;have k1:=Ab hblk 1;have k2:=Ab hblk 2;have k3:=Ab hblk 3;have k4:=Ab hblk 4;have k5:=Ab hblk 5;have k6:=Ab hblk 6;have k7:=Ab hblk 7;clear T hb1 hblk hsz;cases x with
 |error e =>
  dsimp only [It];dsimp only at hR1;have q:(e==0)=false:=by simpa using herr e rfl
  clear herr hsome hl;exact FD100
 |ok y =>obtain⟨u,rfl⟩:=hsome y rfl;dsimp only [It];have S:=Aa fun W hG=>Vb u W hG (Af (hl u rfl) dC);dsimp only [Option.getD_some] at hR1;go_wp2_with fail;refine (TB.out _ hB1).mono ?_;rintro e w2 ⟨rfl,hb2⟩;have hB2:Below w w w2:=hB1.trans (hb2.mono hB1.size);clear TB;dsimp only [iO];go_wp2_with fail;refine (S.out _ (hG.below hB2).gl).mono ?_;exact FD107
theorem Is4 {v:CH.Version} {u:List UInt8} (h:CH.bare v=some u):0<=v.authority/\v.authority<6/\1<=v.number/\v.number<=200/\0<=v.pos:=by
 rw [Rw] at h;split at h;·cases h
 ·rename_i hc;simp only [Dy,Fz,La,Jk,Aw,Bl] at hc;omega
theorem Uv {v:CH.Version} {m:List UInt8} (h:CH.message v=.ok m):m.length=16:=by
 rw [Py] at h;split at h;·cases h
 ·cases h;exact dK _
theorem Ino (v:CH.Version):(CH.msg v).length<=16:=by
 unfold CH.msg;cases h:CH.message v with
 |error e=>simp
 |ok m=>rw [Uv h];exact Bv _
def Bwb:Except Int (List UInt8)->Int
 |.ok _=>0
 |.error e=>e
theorem V6 (v:CH.Version):It (CH.message v)=.tuple #[.string ⟨(CH.msg v).toArray⟩,.int .i64 (Bwb (CH.message v))]:=by unfold CH.msg;cases CH.message v <;> rfl
end Go.Proofs.YtdgmgjeoikcgbaaGreatDoor
namespace Go.Proofs.YtdgmgjeoikcgbaaGreatDoor
section
open Go.Lib Go.Proofs.Tryz Go.RowKit Go.Shelf Go.Sort CH
def Zm:ZC->Nat
 |.slice _ n _=>n
 |_=>0
def Z9 (w:ZB) (B:Nat) (r:List CH.Version × List UInt8) (e:Ending) (w':ZB):Prop := ∃ v,e=.returned (.tuple #[v,↑r.2])/\Lb w B w' v r.1/\Below w w w'
theorem Kg8 (w:ZB):(zeroValue 29).run prog w=.ok (.agg #[.int .i64 0,.int .i64 0,.int .i64 0,.string ⟨#[]⟩,.slice none 0 0,.int .i64 0,.slice none 0 0,.slice none 0 0]) w:=kR
theorem Fn8 (w:ZB) (o1 o2:Obj):((w.alloc o1).alloc o2).heap[w.heap.size]?=some o1 := (((Ac _ (w.alloc o1)).alloc nR o2).block w.heap.size sM).trans (Ap w o1)
theorem X6 {w w':ZB} {row:Option Nat} {C:Nat} (h:w.grownBy w' row) (hC:C<=w.heap.size) (hr:∀ j,row=some j->C<=j):Below C w w' := ⟨h.os,h.tape,h.output,h.size,fun k hk=>h.block k oM (fun e=>by have:=hr k e.symm;omega)⟩
theorem Vk (xs:List (CH.Version × dI)) (v:CH.Version) (s:dI):Nt (xs++[(v,s)])=Nt xs++Al v s:=by unfold Nt;rw [Ja];simp
theorem Lb.form {base B:Nat} {w:ZB} {v:ZC} {ls:List CH.Version} (h:Lb base B w v ls):∃ av cv,v=.slice av ls.length cv/\ls.length<=cv:=by
 obtain⟨xs,hx1,hx2,hx3,hx4,hx5⟩:=h;obtain⟨hlen,⟨rfl,h0⟩|⟨g,cap,cur,rfl,hb,hg,hn,hc,hsz,htk⟩⟩:=hx2;·exact⟨none,0,by rw [h0],oM⟩
 ·exact⟨_,cap,rfl,hn⟩
theorem Ex2 (known:List ((Int × Int) × CH.Version)) (a:Int) (f:Nat) (out:List CH.Version) (hd:List UInt8) (last:Int) (h:dY (a,(out.length:Int)+1) known=none):CH.follow CH.msg known a f out hd last=(out,hd):=by
 cases f with
 |zero=>rfl
 |succ f=>rw [CH.follow,h]
theorem Hvm (c r1 B:Nat) (known:List ((Int × Int) × CH.Version)) (kvs:List ((Int × Int) × ZC)) (a:Int) (w:ZB) (hG:Gc w) (hc1:w.cell? ⟨c,1,none⟩=some (.map (some r1))) (hm0:Ct Bi r1 w kvs) (lK:KVs B w kvs known) (hBw:B<=w.heap.size) (hn:∀ p v,(p,v)∈known->p.2<=200) : Calls prog 91 #[.pointer (some ⟨c,0,none⟩),↑a] w (Z9 w B (fol CH.msg known a)):=by
 obtain⟨R,hR⟩:∃ R,Hid (fol CH.msg known a=R):=⟨_,Aa rfl⟩
 rw [hR.out];have iK:c<w.heap.size:=Em w _ hc1;replace hc1:=Aa hc1;replace hm0:=Aa hm0;replace lK:=Aa lK;replace hn:=Aa hn;go_enter func91,ntmps91;go_wp2_with fail;go_loopw [6,7,8] (fun ov hv lv wr=>∃ (out:List CH.Version) (hd:List UInt8) (last:Int) (f:Nat),Hid (Lb w B wr ov out)/\hv=↑hd/\lv=↑last/\Hid (Below w w wr)/\f+out.length=201/\Hid (CH.follow CH.msg known a f out hd last=R)) (fun ov _ _ _=>201 - Zm ov);case atStart=>exact⟨[],[],0,201,Aa (Lb.nil hBw nR),rfl,rfl,Aa (Ac _ _),rfl,hR⟩
 case round =>
  obtain⟨out,hd,last,f,hO,rfl,rfl,hB,hf,hI⟩:=hrel;obtain⟨av,cv,rfl,hcv⟩:=hO.out.form;have hm:=hm0.out.below hB.out;have hkv:=lK.out;have c1:wr.cell? ⟨c,1,none⟩=some (.map (some r1)):=(hB.out.cell (p:=⟨c,1,none⟩) iK).trans hc1.out;have L:=Mb underlying77 _ Kg8 hm (a,(out.length:Int)+1);have IC:out.length<=201:=oM;cases hlk:dY (a,(out.length:Int)+1) known with
  |none =>have hRR:(out,hd)=R:=(Ex2 known a f out hd last hlk).symm.trans hI.out;rw [hkv.none 0 hlk] at L;simp only [Nr,Nj,Option.isSome_none] at L;subst hRR;clear hI hkv hm;generalize hN:out.length=n at *;replace hN:=Aa hN;dsimp only [Bi] at L;clear hR;exact FD52
  |some v =>
   obtain⟨j,s,hfk,hvs⟩:=hkv.some 0 hlk;rw [hfk] at L;simp only [Hy,Ll,Option.isSome_some] at L;have vZ:=hn.out _ _ (oZ hlk);dsimp only at vZ;obtain⟨f,rfl⟩:∃ f',f=f'+1:=⟨f - 1,oM⟩
   have hI1:=hI.out;rw [CH.follow,hlk] at hI1;dsimp only at hI1;have hB2:=hB.out;have hBp:Below B w wr:=hB2.mono hBw;obtain⟨jj,s',zQ,hvs'⟩:=lK.out.some 0 hlk;have hss:s'=s/\aN B w v s:=by rw [zQ] at hfk;simp only [Fq,G7,Value.agg.injEq] at hfk;have:=congrArg Array.toList hfk.2;simp only [Al] at this;obtain⟨x1,x2,x3⟩:=s;obtain⟨y1,y2,y3⟩:=s';simp at this;obtain⟨e1,e2,e3⟩:=this;subst e1 e2 e3;exact⟨rfl,hvs'⟩
   have hvs:=hss.2;clear hss hvs' zQ;have HV:=Aa fun (W:ZB) (hb:Below w w W)=>hvs.below hb hBw;have M:=fun (W:ZB) (hb:Below w w W)=>Lt v s W (hG.below hb) ((HV.out W hb).mono (Af hBw hb.size));simp only [V6] at M;generalize Bwb (CH.message v)=me at M;have hone:=Aa (Ly hvs);obtain⟨va,v1,v2⟩:=s;obtain⟨xa,ya,e1,_,_⟩:=hvs.acts.form;obtain⟨x1,y1,e2,_,_⟩:=hvs.sig.form;obtain⟨x2,y2,e3,_,_⟩:=hvs.path.form;change va=_ at e1;change v1=_ at e2;change v2=_ at e3;subst e1 e2 e3;clear hvs hkv hfk hI hR hm;have eb:((⟨v.prev.toArray⟩:ByteArray)==⟨hd.toArray⟩)=(v.prev==hd):=Cy _ _;obtain⟨b1,hb1⟩:∃ b,(v.prev==hd)=b:=⟨_,rfl⟩
   obtain⟨b2,hb2⟩:∃ b,ZH (v.pos<last)=b:=⟨_,rfl⟩
   have ebn:(v.prev != hd)=!b1:=by rw [<- hb1];rfl
   rw [ebn,hb2] at hI1;rw [hb1] at eb;replace hI1:=Aa hI1;replace hlk:=Aa hlk;clear ebn;dsimp only [Al,Bi] at L M;replace M:=Aa M;generalize hN:out.length=n at *;replace hN:=Aa hN;generalize v.acts.length=n0 at *;generalize v.sel.sig.length=n1 at *;generalize v.sel.path.length=n2 at *;rcases (by cases b1 <;> cases b2 <;> simp:(b1=false)\/(b1=true/\b2=true)\/(b1=true/\b2=false)) with rfl|⟨rfl,rfl⟩|⟨rfl,rfl⟩
   ·have hRR:(out,hd)=R:=by rw [<- hI1.out];rfl
    subst hRR;exact FD52
   ·have hRR:(out,hd)=R:=by rw [<- hI1.out];rfl
    subst hRR;exact FD52
   ·have hI2:Hid (CH.follow CH.msg known a f (out++[v]) (CH.msg v) v.pos=R):=Aa (by rw [<- hI1.out];rfl);clear hI1;obtain⟨xs,hx1,hx2,hx3,hx4,hx5⟩:=hO.out;rw [hN.out] at hx2;have hW2:∀ o1 o2,((wr.alloc o1).alloc o2).ownsRow w.heap.size 29 8 (.slice av n cv) n (Nt xs):=fun o1 o2=>H8 (H8 hx2 o1) o2;have hsz:=hB2.size;have hx3:=Aa hx3;have hx1:=Aa hx1;have hob:∀ j,(Value.slice av n cv).ownBlock=some j->w.heap.size<=j:=by
     obtain⟨_,⟨e,_⟩|⟨g,cap,cur,e,hb,_⟩⟩:=hx2;·rw [e];intro j hj;cases hj
     ·rw [e];intro j hj;simp [Value.ownBlock] at hj;omega
    have wY:∀ j,(Value.slice av n cv).ownBlock=some j->j<wr.heap.size:=by
     obtain⟨_,⟨e,_⟩|⟨g,cap,cur,e,_,hg,_⟩⟩:=hx2;·rw [e];intro j hj;cases hj
     ·rw [e];intro j hj;simp [Value.ownBlock] at hj;subst hj;exact (aZ hg)
    have hob:=Aa hob;have wY:=Aa wY;have hW2:=Aa hW2;clear hx2;go_wp2_with (at_builtin;refine Fm8 rfl _ _ rfl w _ n (Nt xs) rfl (hW2.out _ _) _ 1 [↑v.authority,↑v.number,↑v.pos,↑v.prev,.slice xa n0 ya,↑v.sel.index,.slice x1 n1 y1,.slice x2 n2 y2] rfl (.inl ⟨⟨wr+1,0,none⟩,1,rfl,?c1⟩) rfl ?c2 ?c3 ?c4 ?_)
    case c1 =>intro j u hj;rw [Go.WideShapes.add_plain];have:=Ca (wr.alloc (.cells #[↑v.authority,↑v.number,↑v.pos,↑v.prev,.slice xa n0 ya,↑v.sel.index,.slice x1 n1 y1,.slice x2 n2 y2] 29)) [↑v.authority,↑v.number,↑v.pos,↑v.prev,.slice xa n0 ya,↑v.sel.index,.slice x1 n1 y1,.slice x2 n2 y2] 29 j u hj;rwa [Dn] at this
    case c2=>exact hone.out
    case c3=>omega
    case c4=>simp;omega
    ·intro v' w' g1 g2 g3;have hBa:Below w w ((wr.alloc (.cells #[↑v.authority,↑v.number,↑v.pos,↑v.prev,.slice xa n0 ya,↑v.sel.index,.slice x1 n1 y1,.slice x2 n2 y2] 29)).alloc (.cells #[↑v.authority,↑v.number,↑v.pos,↑v.prev,.slice xa n0 ya,↑v.sel.index,.slice x1 n1 y1,.slice x2 n2 y2] 29)):=(hB2.alloc hB2.size _).alloc (by simp;omega) _;have hbl:=Fn8 wr (.cells #[↑v.authority,↑v.number,↑v.pos,↑v.prev,.slice xa n0 ya,↑v.sel.index,.slice x1 n1 y1,.slice x2 n2 y2] 29) (.cells #[↑v.authority,↑v.number,↑v.pos,↑v.prev,.slice xa n0 ya,↑v.sel.index,.slice x1 n1 y1,.slice x2 n2 y2] 29);have hgb:Below w ((wr.alloc (.cells #[↑v.authority,↑v.number,↑v.pos,↑v.prev,.slice xa n0 ya,↑v.sel.index,.slice x1 n1 y1,.slice x2 n2 y2] 29)).alloc (.cells #[↑v.authority,↑v.number,↑v.pos,↑v.prev,.slice xa n0 ya,↑v.sel.index,.slice x1 n1 y1,.slice x2 n2 y2] 29)) w':=X6 g2 hBa.size hob.out;have hB3:Below w w w':=hBa.trans hgb;have ig:=(g2.block wr (by simp;omega) (fun e=>by have:=wY.out _ e.symm;omega)).trans hbl;have hV3:=Aa (HV.out w' hB3);have hlt3:wr.heap.size<w'.heap.size:=(aZ ig)
     have hO3:Lb w B w' v' (out++[v]):=by
      refine⟨xs++[(v,⟨.slice xa n0 ya,.slice x1 n1 y1,.slice x2 n2 y2⟩)],by rw [F8,hx1.out];rfl,?_,?_,hx4,hB3.size⟩;·rw [Au,hN.out,Dx];rw [Vk];exact g1
      ·intro x hx;rcases Ea.1 hx with h|h;·have q:=hx3.out x h;exact q.below ((((Ac B wr).alloc (Af hBw hsz) _).alloc (by simp;omega) _).trans (hgb.mono hBw)) nR
       ·cases Ci.1 h;exact hV3.out
     obtain⟨a',c',rfl,_⟩:=hO3.form;have hlen3:(out++[v]).length=n+1:=by rw [Au,hN.out];rfl
     rw [hlen3];have k0:w'.cell? ⟨wr,0,none⟩=some ↑v.authority:=Ab ig 0;have k1:w'.cell? ⟨wr,1,none⟩=some ↑v.number:=Ab ig 1;have k2:w'.cell? ⟨wr,2,none⟩=some ↑v.pos:=Ab ig 2;have k3:w'.cell? ⟨wr,3,none⟩=some ↑v.prev:=Ab ig 3;have k4:w'.cell? ⟨wr,4,none⟩=some (.slice xa n0 ya):=Ab ig 4;have k5:w'.cell? ⟨wr,5,none⟩=some ↑v.sel.index:=Ab ig 5;have k6:w'.cell? ⟨wr,6,none⟩=some (.slice x1 n1 y1):=Ab ig 6;have k7:w'.cell? ⟨wr,7,none⟩=some (.slice x2 n2 y2):=Ab ig 7;have hO3:=Aa hO3;have hlen3:=Aa hlen3;clear hgb hBa g1 g2 g3 hbl ig hW2 hone;go_wp2_with fail;refine (M.out w' hB3).mono ?_;rintro e w4 ⟨rfl,hb4⟩;have hB4:Hid (Below w w w4):=Aa (hB3.trans (hb4.mono hB3.size));have hO4:Hid (Lb w B w4 (.slice a' (n+1) c') (out++[v])):=Aa (by have:=hO3.out.below hb4;rwa [hlen3.out] at this);clear k0 k1 k2 k3 k4 k5 k6 k7 hb4 hO3;go_wp2;go_roundw;case rel=>exact⟨out++[v],CH.msg v,v.pos,f,hO4,rfl,rfl,hB4,by have:=hlen3.out;omega,hI2⟩
     case measure=>simp [Zm];omega
def Tt (B:Nat) (w:ZB) (v:ZC) (ls:List CH.Version):Prop := ∃ a cap,v=.slice a ls.length cap/\ls.length<=cap/\cap<=9223372036854775807 /\ (ls≠[]->∃ b off,a=some ⟨b,off,none⟩/\b<B/\∀ j x,ls[j]?=some x->∃ s,(∀ i u,(Al x s)[i]?=some u->w.cell? ⟨b,off+j*8+i,none⟩=some u)/\aN B w x s)
theorem Tt.below {B B':Nat} {w w':ZB} {v:ZC} {ls:List CH.Version} (h:Tt B w v ls) (hb:Below B' w w') (hB:B<=B'):Tt B w' v ls:=by exact FD48
theorem Tt.mono {B B':Nat} {w:ZB} {v:ZC} {ls:List CH.Version} (h:Tt B w v ls) (hB:B<=B'):Tt B' w v ls:=by exact FD29
end
end Go.Proofs.YtdgmgjeoikcgbaaGreatDoor
namespace CH
def counts (msg:Version->Str) (known:Known) (n:Nat):List Int:=(List.range n).map fun (a:Nat)=>(((fol msg known (a:Int)).1.length:Nat):Int)
end CH
namespace Go.Proofs.YtdgmgjeoikcgbaaGreatDoor
open Go.RowKit Go.Lib Go.Shelf Go.Sort CH
theorem Hw1 (msg:CH.Version->List UInt8) (known:CH.Known) (n:Nat):(CH.counts msg known n).length=n:=by simp [CH.counts]
theorem Buf (c r1 r2:Nat) (keys:List (List UInt8)) (known:CH.Known) (forks:CH.Forks) (a:Int) (w:ZB) (hG:Gc w) (hC:H0 w c r1 r2 keys known forks) (hn:∀ p v,(p,v)∈known->p.2<=200) : Calls Tryz.prog 91 #[.pointer (some ⟨c,0,none⟩),↑a] w (Z9 w w (fol CH.msg known a)):=by obtain⟨vk,h1,_⟩:=hC.ex;obtain⟨kvs,h2,h3⟩:=hC.known;exact Hvm c r1 w known kvs a w hG (Ab h1 1) h2 h3 nR hn
def Mx9 (w:ZB) (ls:List Int) (e:Ending) (w':ZB):Prop:=∃ v,e=.returned v/\F20 w' w' v ls/\Below w w w'
def oG (cs:List Int) (N k:Nat):Array ZC:=((cs.take k++List.replicate (N - k) 0).map aJ).toArray
theorem Kn3 (cs:List Int) (N k:Nat) (x:Int) (hN:cs.length=N) (hk:k<N) (hx:cs[k]?=some x):(oG cs N k).setIfInBounds k ↑x=oG cs N (k+1):=by
 have h1:(cs.take k).length=k:=by rw [Dz];omega
 have h2:List.replicate (N - k) (0:Int)=0::List.replicate (N - (k+1)) 0:=by rw [<- J6];congr 1;omega
 unfold oG;rw [h2,Ee,hx,List.setIfInBounds_toArray];congr 1;rw [F8,F9,List.set_append_right _ _ (by rw [Dt,h1];exact Bv _),Dt,h1,Nat.sub_self];simp
theorem Mon (cs:List Int) (N k:Nat) (hN:cs.length=N) (hk:k<N):(oG cs N k)[k]?=some (.int .i64 0):=by
 have h1:(cs.take k).length=k:=by rw [Dz];omega
 unfold oG;rw [Gt,F8,Gs (by rw [Dt,h1];exact Bv _),Dt,h1,Nat.sub_self];have:N - k=(N - k - 1)+1:=oM;rw [this,J6];rfl
theorem I27 (cs:List Int) (N:Nat) (hN:cs.length=N):oG cs N N=(cs.map aJ).toArray:=by unfold oG;rw [Cb oM,Nat.sub_self];simp
theorem Get (c r1 r2:Nat) (keys:List (List UInt8)) (known:CH.Known) (forks:CH.Forks) (w:ZB) (hG:Gc w) (hC:H0 w c r1 r2 keys known forks) (hn:∀ p v,(p,v)∈known->p.2<=200) (hkl:keys.length<=1000) : Calls Tryz.prog 40 #[.pointer (some ⟨c,0,none⟩)] w (Mx9 w (CH.counts CH.msg known keys.length)):=by
 have HF:=Aa fun (W:ZB) (hb:Below w w W) (k:Nat)=>Buf c r1 r2 keys known forks (k:Int) W (hG.below hb) (hC.below hb) hn;obtain⟨vk,iw,hks⟩:=hC.ex;obtain⟨ak,ck,rfl,_,_⟩:=hks.form;have iK:c<w.heap.size:=(aZ iw)
 have kc:w.cell? ⟨c,0,none⟩=some (.slice ak keys.length ck):=Ab iw 0;have hcl:=Hw1 CH.msg known keys.length;have hat:∀ k,k<keys.length->(CH.counts CH.msg known keys.length)[k]?=some (((fol CH.msg known (k:Int)).1.length:Nat):Int):=fun k hk=>by unfold CH.counts;rw [Fv,Lr hk];rfl
 generalize CH.counts CH.msg known keys.length=cs at *;clear iw hks hC hn hG;generalize keys.length=N at *;have hat:=Aa hat;have hcl:=Aa hcl;have hmk:=fun W=>run_make_row' (P:=Tryz.prog) 95 3 (.int .i64 0) 8 Tryz.underlying95 Ipc rfl .i64 .i64 N oM oM W;go_enter Tryz.func40,Tryz.ntmps40;go_wp2_with fail;have hrow0:(w.alloc (.cells (madeCells #[.int .i64 0] N) 3)).heap[w.heap.size]?=some (.cells (oG cs N 0) 3 (0,0)):=by
  rw [Ap w _];congr 2;unfold oG;apply Array.ext';rw [Ik,Dp,Nat.sub_zero,List.map_replicate];apply Jv;intro i;by_cases hi:i<N;·simp [madeCells,hi,Nat.mod_one]
  ·simp [madeCells,hi]
 have hBa:Below w w (w.alloc (.cells (madeCells #[.int .i64 0] N) 3)):=(Ac _ w).alloc nR _;clear hmk;generalize w.alloc (.cells (madeCells #[.int .i64 0] N) 3)=W at *;have hBa:=Aa hBa;have hrow0:=Aa hrow0;go_loopw [17] (fun i wr=>∃ k:Nat,k<=N/\i=↑k/\Hid (Below w w wr)/\Hid (wr.heap[w.heap.size]?=some (.cells (oG cs N k) 3 (0,0)))) (fun i _=>N - (RowKit.intOf i).toNat);case atStart=>exact⟨0,Bg _,rfl,hBa,hrow0⟩
 case round =>
  obtain⟨k,hk,rfl,hBr,hrow⟩:=hrel;by_cases hlt:k<N
  ·go_wp2_with fail;refine (HF.out wr hBr.out k).mono ?_;rintro e w1 ⟨v,rfl,hO,hb1⟩;have hx:=Aa (hat.out k hlt);obtain⟨av,cv,rfl,_⟩:=hO.form;have hr1:=(hb1.block w (aZ hrow.out)).trans hrow.out;have hB1:Below w w w1:=hBr.out.trans (hb1.mono hBr.out.size);have kc0:w1.cell? ⟨w,k,none⟩=some (.int .i64 0):=(Ab hr1 k).trans (Mon cs N k hcl.out hlt);have kf0:w1.frozen? ⟨w,k,none⟩=false:=A9 hr1 k;have hr2:=Be w1 w k (.int .i64 (((fol CH.msg known (k:Int)).1.length:Nat):Int)) _ _ _ hr1;rw [Kn3 cs N k _ hcl.out hlt hx.out] at hr2;clear hO hb1 hr1 hrow hBr;generalize (fol CH.msg known (k:Int)).1.length=m at *;generalize (fol CH.msg known (k:Int)).2=s at *;have hB2:Hid (Below w w (w1.setCell ⟨w,k,none⟩ ↑m)):=Aa (hB1.setCell nR _);have hr2:=Aa hr2;have hB1:=Aa hB1;have z0:(0:Int)<=(k:Int):=oM;have zk:((k:Int)).toNat=k:=oM;have hk':(k:Int)<(N:Int):=oM;go_wp2;go_roundw;case rel=>exact⟨k+1,oM,by go_num,hB2,hr2⟩
   case measure=>simp [RowKit.intOf];omega
  ·obtain rfl:k=N:=oM;have hfin:=hrow.out;rw [I27 cs k hcl.out] at hfin;have hlt2:=(aZ hfin)
   have hI:F20 wr wr (.slice (some ⟨w,0,none⟩) k k) cs:=by refine⟨_,k,by rw [hcl.out],by rw [hcl.out];exact Bv _,oM,fun _=>⟨w,0,rfl,hlt2,fun j n hj=>?_⟩⟩;rw [Bh,Ab hfin j];simp [hj]
   have hI:=Aa hI;have qm:=Aa hBr.out;clear hfin hrow;go_wp2;go_ret;exact⟨_,rfl,hI.out,qm.out⟩
end Go.Proofs.YtdgmgjeoikcgbaaGreatDoor
