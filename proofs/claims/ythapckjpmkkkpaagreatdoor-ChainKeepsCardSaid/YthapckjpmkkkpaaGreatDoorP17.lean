/-
  ChainKeeps: the proof, part 18 of 25.
-/
import Derived.Test.YthapckjpmkkkpaaGreatDoorP14
import Derived.Test.YthapckjpmkkkpaaGreatDoorP15
import Derived.Test.YthapckjpmkkkpaaGreatDoorP16
import Derived.Deep.OwnRows
set_option linter.unusedSimpArgs false
set_option linter.unusedVariables false
set_option maxHeartbeats 40000000
set_option maxRecDepth 100000
open Go renaming World -> ZB, Value -> ZC, Calls -> ZE
open Go.Act renaming put -> ZF
open Go.RowKit renaming intOf -> ZG
open Decidable renaming decide -> ZH
namespace CH
def iU (v:Version):Version:={ v with sel:=⟨0,[],[]⟩ }
def message (v:Version):Except Int Str:=match dw (iU v) with
 |.error e=>.error e
 |.ok _=>.ok (sum ((bare v).getD []))
def msg (v:Version):Str:=match message v with
 |.error _=>[]
 |.ok m=>m
theorem ng (v:Version):bare (iU v)=bare v:=rfl
end CH
namespace Go.Proofs.YthapckjpmkkkpaaGreatDoor
open Go.RowKit Go.Lib Go.Shelf Go.Sort CH
theorem Dfe:Doc:=fun a s W hG h=>G2a a s W hG h fun W' hb=>Yb a s W' (hG.below hb) ((h.below hb nR).mono hb.size)
theorem Qg (v:CH.Version) (s:bZ) (w:ZB) (hG:Gc w) (h:aO w w v s) : ZE Tryz.prog 31 #[.agg (An v s).toArray] w (Ret w (jT (CH.bare v))):=Lkn Dfe v s w hG h
def Nx:Except Int (List UInt8)->ZC
 |.ok t=>.tuple #[↑t,.int .i64 0]
 |.error e=>.tuple #[.string ⟨#[]⟩,↑e]
theorem C13 {v:CH.Version} {s:bZ} {B:Nat} {w:ZB} {t:List UInt8} (hb:CH.bare v=some t) (h:aO B w v s):t.length<=5000000000:=by
 rw [Uc] at hb;split at hb;·cases hb
 ·rename_i hc;obtain⟨u,hu,rfl⟩:=Kr.1 hb;have h40:v.acts.length<=40:=by simp only [Dw,Ea,Ky,Jf,Es,not_and] at hc;omega
  have hs:∀ a∈v.acts,(aU a).isSome=true:=fun a ha=>by
   cases he:aU a with
   |none=>rw [Mb he v.acts ha] at hu;cases hu
   |some _=>rfl
  rw [Ma v.acts hs] at hu;cases hu;have h1:=Tu h.acts.acts;have h2:=Dj 100000101 h40;have h3:=Q3 h.small;simp only [Aj,Dz];omega
def I6 (s:wo):List CH.Word:=[.str ([115,101,97,108]:List UInt8),.int s.index,.strs s.sig,.str [47],.strs s.path]
theorem Wy {s:wo} (hi:I64 s.index) (h1:Gd s.sig) (h2:Gd s.path) (h18:s.sig.length<=18) (h8:s.path.length<=8):(CH.words (I6 s)).length<=1000000:=by
 have h3:((I6 s).flatMap CH.Word.texts).length<=80:=by unfold I6;simp only [Ep,G7,Aj,Ln,Bo];show 1+(1+(s.sig.length+(1+(s.path.length+0))))<=80;omega
 refine Ag (Pl _ 10000 80 ?_ h3) dC;intro x hx;simp only [I6,A8,Ba,Dh] at hx;rcases hx with rfl|rfl|rfl|rfl|rfl;·exact C0 _ sM
 ·exact C5 _ hi
 ·exact h1.2
 ·exact C0 _ sM
 ·exact h2.2
theorem Ug (v:CH.Version):dw v=match CH.bare v with
  |none=>.error 1
  |some s=>if ZH (v.sel.index<0)||(ZH (255<v.sel.index)||(!dV v.sel.sig 18||!dV v.sel.path 8)) then .error 1
   else if 20000<(s++(CH.words (I6 v.sel)++[10])).length then .error 2 else .ok (s++(CH.words (I6 v.sel)++[10])):=by
 unfold dw CH.within I6
 cases CH.bare v with
 |none=>rfl
 |some s =>
  dsimp only
  have e1:ZH (0<=v.sel.index)=!ZH (v.sel.index<0):=by
   by_cases h:v.sel.index<0
   ·rw [Az h,Aq oM];rfl
   ·rw [Aq h,Az oM];rfl
  have e2:ZH (v.sel.index<=255)=!ZH (255<v.sel.index):=by
   by_cases h:255<v.sel.index
   ·rw [Az h,Aq oM];rfl
   ·rw [Aq h,Az oM];rfl
  rw [e1,e2,D9]
  cases ZH (v.sel.index<0) <;> cases ZH (255<v.sel.index) <;> cases dV v.sel.sig 18 <;> cases dV v.sel.path 8 <;> rfl
theorem Ki (v:CH.Version) (s:bZ) (w:ZB) (hG:Gc w) (h:aO w w v s) : ZE Tryz.prog 29 #[.agg (An v s).toArray] w (Ret w (Nx (dw v))):=by
 obtain⟨R,hR⟩:∃ R,Hid (Nx (dw v)=R):=⟨_,Aa rfl⟩
 rw [hR.out];have hR1:=hR.out;rw [Ug] at hR1;clear hR;have hB0:=fun o=>(Ac _ w).alloc nR o;have HV:=Aa fun (W:ZB) (hb:Below w w W)=>(h.below hb nR).mono hb.size;have T:=fun (W:ZB) (hb:Below w w W)=>Qg v s W (hG.below hb) (HV.out W hb);obtain⟨t,ht⟩:∃ t,CH.bare v=t:=⟨_,rfl⟩
 have hl:∀ x,t=some x->x.length<=5000000000:=fun x hx=>C13 (ht.trans hx) h;rw [ht] at T hR1;have T:=Aa T;have hR1:=Aa hR1;have HS:=Aa h.small;obtain⟨va,v1,v2⟩:=s;clear h ht;generalize hC:An v { va:=va,v1:=v1,v2:=v2 }=C at T ⊢;have hlen:(Tryz.prog.info? 38).map (·.size)=some C.length:=by rw [<- hC];kernel_rfl
 have hC:=Aa hC;have hr0:=Aa (B6 w C 38);go_enter Tryz.func29,Tryz.ntmps29;go_wp2_with (refine Bh rfl 38 _ rfl w 0 rfl C _ hr0.out Tryz.underlying38 rfl hlen ?_)
 refine (T.out _ (hB0 _)).mono ?_;rintro e w1 ⟨rfl,hb1⟩;clear T;have hB1:Below w w w1:=(hB0 _).trans (hb1.mono sM);have hlt1:w.heap.size<w1.heap.size:=Ah sM hb1.size;have hr1:w1.rangeAt w 0 C:=B9 hr0.out hb1 sM;rw [<- hC.out] at hr1;have r5:w1.rangeAt w 5 [aJ v.sel.index,v1,v2]:=De (l:=[aJ v.authority,aJ v.number,aJ v.pos,ay v.prev,va]) hr1 5 rfl;have k5:w1.cell? ⟨w,5,none⟩=some ↑v.sel.index:=hr1 5 _ rfl;have k6:w1.cell? ⟨w,6,none⟩=some v1:=hr1 6 _ rfl;have k7:w1.cell? ⟨w,7,none⟩=some v2:=hr1 7 _ rfl;clear hb1 hr0 hr1 hlen r5;have hv1:Strs w1 w1 v1 v.sel.sig:=(HV.out w1 hB1).sig;have hv2:Strs w1 w1 v2 v.sel.path:=(HV.out w1 hB1).path;obtain⟨a1,c1,rfl,_,_⟩:=hv1.form;obtain⟨a2,c2,rfl,_,_⟩:=hv2.form;have zZ:=fun o=>(Ac _ w1).alloc nR o;cases t with
 |none =>dsimp only [jT];generalize v.sel.sig.length=n1 at *;generalize v.sel.path.length=n2 at *;go_wp2;refine Au (Bc rfl _ _ _) rfl ?_;exact⟨by rw [<- hR1.out];rfl,hB1.alloc hB1.size _⟩
 |some t =>
  have hl:=hl t rfl;dsimp only at hR1;dsimp only [jT];obtain⟨b1,h1⟩:∃ b,ZH (v.sel.index<0)=b:=⟨_,rfl⟩
  obtain⟨b2,h2⟩:∃ b,ZH (255<v.sel.index)=b:=⟨_,rfl⟩
  have D1:=fun (W:ZB) (hb:Below w1 w1 W)=>Rs _ v.sel.sig 18 W ((hG.below hB1).gl.below hb) ((hv1.below hb nR).mono hb.size) (fun l hl=>Ag (HS.out.sig.2 l hl) dC);have D2:=fun (W:ZB) (hb:Below w1 w1 W)=>Rs _ v.sel.path 8 W ((hG.below hB1).gl.below hb) ((hv2.below hb nR).mono hb.size) (fun l hl=>Ag (HS.out.path.2 l hl) dC);obtain⟨b3,h3⟩:∃ b,dV v.sel.sig 18=b:=⟨_,rfl⟩
  obtain⟨b4,h4⟩:∃ b,dV v.sel.path 8=b:=⟨_,rfl⟩
  rw [h1,h2,h3,h4] at hR1;rw [h3] at D1;rw [h4] at D2;have D1:=Aa D1;have D2:=Aa D2;have H3:=Aa h3;have H4:=Aa h4;have hv1:=Aa hv1;have hv2:=Aa hv2;clear h3 h4;generalize hn1:v.sel.sig.length=n1 at *;generalize hn2:v.sel.path.length=n2 at *;have hn1:=Aa hn1;have hn2:=Aa hn2;rcases (by cases b1 <;> cases b2 <;> simp:(b1=true)\/(b1=false/\b2=true)\/(b1=false/\b2=false)) with rfl|⟨rfl,rfl⟩|⟨rfl,rfl⟩;·go_wp2;refine Au (Bc rfl _ _ _) rfl ?_;exact⟨by rw [<- hR1.out];rfl,hB1.alloc hB1.size _⟩
  ·go_wp2;refine Au (Bc rfl _ _ _) rfl ?_;exact⟨by rw [<- hR1.out];rfl,hB1.alloc hB1.size _⟩
  ·go_wp2_with fail;refine (D1.out _ (zZ _)).mono ?_;rintro e w2 ⟨rfl,hb2⟩;have hblk:=(hb2.block w1 sM).trans (Ai w1 _);have hlt2:w1.heap.size<w2.heap.size:=(aZ hblk)
   have g0:w2.cell? ⟨w1,0,none⟩=some ↑v.sel.index:=Ab hblk 0;have g1:w2.cell? ⟨w1,1,none⟩=some (.slice a1 n1 c1):=Ab hblk 1;have g2:w2.cell? ⟨w1,2,none⟩=some (.slice a2 n2 c2):=Ab hblk 2;have vS:Below w1 w1 w2:=(zZ _).trans (hb2.mono sM);have hB2:Below w w w2:=hB1.trans (vS.mono hB1.size);clear D1 hb2 hblk;cases b3 with
   |false =>go_wp2;refine Au (Bc rfl _ _ _) rfl ?_;exact⟨by rw [<- hR1.out];rfl,hB2⟩
   |true =>
    go_wp2_with fail;refine (D2.out _ vS).mono ?_;rintro e w3 ⟨rfl,hb3⟩;have m0:=(hb3.cell (p:=⟨w1,0,none⟩) hlt2).trans g0;have m1:=(hb3.cell (p:=⟨w1,1,none⟩) hlt2).trans g1;have m2:=(hb3.cell (p:=⟨w1,2,none⟩) hlt2).trans g2;have hB3:Below w w w3:=hB2.trans (hb3.mono hB2.size);have vP:Below w1 w1 w3:=vS.trans (hb3.mono vS.size);clear D2 hb3 g0 g1 g2;cases b4 with
    |false =>go_wp2;refine Au (Bc rfl _ _ _) rfl ?_;exact⟨by rw [<- hR1.out];rfl,hB3⟩
    |true =>
     have h18:v.sel.sig.length<=18:=by have:=H3.out;unfold dV at this;simp only [Bool.and_eq_true,decide_eq_true_eq] at this;exact this.1
     have h8:v.sel.path.length<=8:=by have:=H4.out;unfold dV at this;simp only [Bool.and_eq_true,decide_eq_true_eq] at this;exact this.1
     have hwl:=Wy HS.out.index HS.out.sig HS.out.path h18 h8;have hWV:Kf w3 w3 (I6 v.sel) [.iface 9 (ay ([115,101,97,108]:List UInt8)),.iface 3 ↑v.sel.index,.iface 22 (.slice a1 n1 c1),.iface 9 (ay [47]),.iface 22 (.slice a2 n2 c2)] := ⟨rfl,⟨rfl,HS.out.index⟩,⟨_,rfl,(hv1.out.below vP nR).mono vP.size,oM⟩,rfl,⟨_,rfl,(hv2.out.below vP nR).mono vP.size,oM⟩,trivial⟩
     have WN:=Aa fun T=>Lf (I6 v.sel) _ T 5 w3 (hG.below hB3).gl hWV rfl dC oM;generalize hWW:CH.words (I6 v.sel)=WW at *;have hl4:¬ (9223372036854775807<WW.length+1):=oM;have hl5:¬ (9223372036854775807<t.length+(WW.length+1)):=oM;have hR2:Hid (Nx (if 20000<(t++(WW++[10])).length then .error 2 else .ok (t++(WW++[10])))=R):=Aa (by rw [<- hR1.out];rfl);clear hR1 hWV h18 h8;go_wp2_with fail;refine (WN.out _).mono ?_;rintro e w4 ⟨rfl,hb4⟩;have hB4:Below w w w4:=(hB3.alloc hB3.size _).trans (hb4.mono (hB3.alloc hB3.size _).size);clear WN hb4;have GZ:(⟨t.toArray⟩++(⟨WW.toArray⟩++⟨#[10]⟩):ByteArray)=⟨(t++(WW++[10])).toArray⟩:=by rw [<- bytes_append,<- bytes_append]
     have hsz:(⟨t.toArray⟩++(⟨WW.toArray⟩++⟨#[10]⟩):ByteArray).size=t.length+(WW.length+1):=by rw [GZ];simp [ByteArray.size]
     by_cases h20:20000<t.length+(WW.length+1)
     ·have q:ZH ((20000:Int)<((t.length+(WW.length+1):Nat):Int))=true:=by simp;omega
      have hR3:Hid (Nx (.error 2)=R):=Aa (by rw [<- hR2.out,Aw (by simpa using h20)]);clear hR2;go_wp2;refine Au (Bc rfl _ _ _) rfl ?_;exact⟨by rw [<- hR3.out];rfl,hB4⟩
     ·have q:ZH ((20000:Int)<((t.length+(WW.length+1):Nat):Int))=false:=by simp;omega
      have hR3:Hid (Nx (.ok (t++(WW++[10])))=R):=Aa (by rw [<- hR2.out,Ak (by simpa using h20)]);clear hR2;go_wp2;refine Au (Bc rfl _ _ _) rfl ?_;exact⟨by rw [<- hR3.out];rfl,hB4⟩
theorem aO.iU {B:Nat} {w:ZB} {v:CH.Version} {s:bZ} (h:aO B w v s):aO B w (CH.iU v) ⟨s.va,.slice none 0 0,.slice none 0 0⟩ := ⟨h.acts,⟨none,0,rfl,Bv _,dC,fun e=>absurd rfl e⟩,⟨none,0,rfl,Bv _,dC,fun e=>absurd rfl e⟩, ⟨h.small.authority,h.small.number,h.small.pos,h.small.prev,⟨by show (-9223372036854775808:Int)<=0;decide,by show (0:Int)<=9223372036854775807;decide⟩,⟨by simp [CH.iU],fun l hl=>by cases hl⟩,⟨by simp [CH.iU],fun l hl=>by cases hl⟩⟩⟩
theorem Uf {v:CH.Version} {t:List UInt8} (h:dw v=.ok t):∃ u,CH.bare v=some u:=by
 rw [Ug] at h;cases hb:CH.bare v with
 |none=>rw [hb] at h;cases h
 |some u=>exact⟨u,rfl⟩
theorem Ql {v:CH.Version} {e:Int} (h:dw v=.error e):e=1\/e=2:=by
 rw [Ug] at h;cases hb:CH.bare v with
 |none=>rw [hb] at h;cases h;exact .inl rfl
 |some u =>
  rw [hb] at h;dsimp only at h;split at h;·cases h;exact .inl rfl
  ·split at h;·cases h;exact .inr rfl
   ·cases h
theorem U9 (v:CH.Version):CH.message v=match dw (iU v) with
 |.error e=>.error e
 |.ok _=>.ok (CH.sum ((CH.bare v).getD [])):=rfl
theorem N6 (v:CH.Version) (s:bZ) (w:ZB) (hG:Gc w) (h:aO w w v s) : ZE Tryz.prog 17 #[.agg (An v s).toArray] w (Ret w (Nx (CH.message v))):=by
 obtain⟨R,hR⟩:∃ R,Hid (Nx (CH.message v)=R):=⟨_,Aa rfl⟩
 rw [hR.out];have hR1:=hR.out;rw [U9] at hR1;have hB0:=fun o=>(Ac _ w).alloc nR o;have h0:=h.iU;have HV:=Aa fun (W:ZB) (hb:Below w w W)=>(h0.below hb nR).mono hb.size;have T:=fun (W:ZB) (hb:Below w w W)=>Ki (iU v) _ W (hG.below hb) (HV.out W hb);have TB:=fun (W:ZB) (hb:Below w w W)=>Qg (iU v) _ W (hG.below hb) (HV.out W hb);rw [ng] at TB;obtain⟨t,ht⟩:∃ t,CH.bare v=t:=⟨_,rfl⟩
 obtain⟨x,hx⟩:∃ x,dw (iU v)=x:=⟨_,rfl⟩
 have hl:∀ u,t=some u->u.length<=5000000000:=fun u hu=>C13 (ht.trans hu) h;have hsome:∀ y,x=.ok y->∃ u,t=some u:=fun y hy=>by obtain⟨u,hu⟩:=Uf (hx.trans hy);rw [ng,ht] at hu;exact⟨u,hu⟩
 have herr:∀ e,x=.error e->e≠0:=fun e he=>by rcases Ql (hx.trans he) with rfl|rfl <;> decide
 rw [hx,ht] at hR1;rw [hx] at T;rw [ht] at TB;obtain⟨va,v1,v2⟩:=s;clear h h0 hx ht hR;dsimp only [An,iU] at T TB ⊢;have T:=Aa T;have TB:=Aa TB;have hR1:=Aa hR1;have hsz:∀ o,(w.alloc o).heap.size=w.heap.size+1:=fun o=>by simp
 go_enter Tryz.func17,Tryz.ntmps17;go_wp2_with fail;refine (T.out _ (hB0 _)).mono ?_;rintro e w1 ⟨rfl,hb1⟩;have hB1:Below w w w1:=(hB0 _).trans (hb1.mono sM);have hblk:=(hb1.block w sM).trans (Ai w _);have k0:=Ab hblk 0;have k1:=Ab hblk 1;have k2:=Ab hblk 2;have k3:=Ab hblk 3;have k4:=Ab hblk 4;have k5:=Ab hblk 5;have k6:=Ab hblk 6;have k7:=Ab hblk 7;clear T hb1 hblk hsz;cases x with
 |error e =>
  dsimp only [Nx];dsimp only at hR1;have q:(e==0)=false:=by simpa using herr e rfl
  clear herr hsome hl;go_wp2;refine Au (Bc rfl _ _ _) rfl ?_;exact⟨by rw [<- hR1.out];rfl,hB1⟩
 |ok y =>obtain⟨u,rfl⟩:=hsome y rfl;dsimp only [Nx];have S:=Aa fun W hG=>Tq u W hG (Ag (hl u rfl) dC);dsimp only [Option.getD_some] at hR1;go_wp2_with fail;refine (TB.out _ hB1).mono ?_;rintro e w2 ⟨rfl,hb2⟩;have hB2:Below w w w2:=hB1.trans (hb2.mono hB1.size);clear TB;dsimp only [jT];go_wp2_with fail;refine (S.out _ (hG.below hB2).gl).mono ?_;rintro e w3 ⟨rfl,hb3⟩;clear S;go_wp2;refine Au (Bc rfl _ _ _) rfl ?_;exact⟨by rw [<- hR1.out];rfl,hB2.trans (hb3.mono hB2.size)⟩
theorem Lia {v:CH.Version} {u:List UInt8} (h:CH.bare v=some u):0<=v.authority/\v.authority<6/\1<=v.number/\v.number<=200/\0<=v.pos:=by
 rw [Uc] at h;split at h;·cases h
 ·rename_i hc;simp only [Dw,Ea,Ky,Ii,Am,Bq] at hc;omega
theorem Rh {v:CH.Version} {m:List UInt8} (h:CH.message v=.ok m):m.length=16:=by
 rw [U9] at h;split at h;·cases h
 ·cases h;exact dY _
theorem Lbh (v:CH.Version):(CH.msg v).length<=16:=by
 unfold CH.msg;cases h:CH.message v with
 |error e=>simp
 |ok m=>rw [Rh h];exact Bv _
def Ggt:Except Int (List UInt8)->Int
 |.ok _=>0
 |.error e=>e
theorem Bsd (v:CH.Version):Nx (CH.message v)=.tuple #[.string ⟨(CH.msg v).toArray⟩,.int .i64 (Ggt (CH.message v))]:=by unfold CH.msg;cases CH.message v <;> rfl
end Go.Proofs.YthapckjpmkkkpaaGreatDoor
namespace Go.Proofs.YthapckjpmkkkpaaGreatDoor
section
open Go.Lib Go.Proofs.Tryz Go.RowKit Go.Shelf Go.Sort CH
def Yf:ZC->Nat
 |.slice _ n _=>n
 |_=>0
def Q7 (w:ZB) (B:Nat) (r:List CH.Version × List UInt8) (e:Ending) (w':ZB):Prop := ∃ v,e=.returned (.tuple #[v,↑r.2])/\G3 w B w' v r.1/\Below w w w'
theorem I21 (w:ZB):(zeroValue 38).run prog w=.ok (.agg #[.int .i64 0,.int .i64 0,.int .i64 0,.string ⟨#[]⟩,.slice none 0 0,.int .i64 0,.slice none 0 0,.slice none 0 0]) w:=kR
theorem Def (w:ZB) (o1 o2:Obj):((w.alloc o1).alloc o2).heap[w.heap.size]?=some o1 := (((Ac _ (w.alloc o1)).alloc nR o2).block w.heap.size sM).trans (Ai w o1)
theorem S6 {w w':ZB} {row:Option Nat} {C:Nat} (h:w.grownBy w' row) (hC:C<=w.heap.size) (hr:∀ j,row=some j->C<=j):Below C w w' := ⟨h.os,h.tape,h.output,h.size,fun k hk=>h.block k oM (fun e=>by have:=hr k e.symm;omega)⟩
theorem Ue (xs:List (CH.Version × bZ)) (v:CH.Version) (s:bZ):Cv (xs++[(v,s)])=Cv xs++An v s:=by unfold Cv;rw [Ik];simp
theorem G3.form {base B:Nat} {w:ZB} {v:ZC} {ls:List CH.Version} (h:G3 base B w v ls):∃ av cv,v=.slice av ls.length cv/\ls.length<=cv:=by
 obtain⟨xs,hx1,hx2,hx3,hx4,hx5⟩:=h;obtain⟨hlen,⟨rfl,h0⟩|⟨g,cap,cur,rfl,hb,hg,hn,hc,hsz,htk⟩⟩:=hx2;·exact⟨none,0,by rw [h0],oM⟩
 ·exact⟨_,cap,rfl,hn⟩
theorem Cnw (known:List ((Int × Int) × CH.Version)) (a:Int) (f:Nat) (out:List CH.Version) (hd:List UInt8) (last:Int) (h:bI (a,(out.length:Int)+1) known=none):CH.follow CH.msg known a f out hd last=(out,hd):=by
 cases f with
 |zero=>rfl
 |succ f=>rw [CH.follow,h]
theorem Vu (c r1 B:Nat) (known:List ((Int × Int) × CH.Version)) (kvs:List ((Int × Int) × ZC)) (a:Int) (w:ZB) (hG:Gc w) (hc1:w.cell? ⟨c,1,none⟩=some (.map (some r1))) (hm0:Co Bn r1 w kvs) (lC:KVs B w kvs known) (hBw:B<=w.heap.size) (hn:∀ p v,(p,v)∈known->p.2<=200) : ZE prog 24 #[.pointer (some ⟨c,0,none⟩),↑a] w (Q7 w B (fol CH.msg known a)):=by
 obtain⟨R,hR⟩:∃ R,Hid (fol CH.msg known a=R):=⟨_,Aa rfl⟩
 rw [hR.out];have iH:c<w.heap.size:=Ef w _ hc1;replace hc1:=Aa hc1;replace hm0:=Aa hm0;replace lC:=Aa lC;replace hn:=Aa hn;go_enter func24,ntmps24;go_wp2_with fail;go_loopw [6,7,8] (fun ov hv lv wr=>∃ (out:List CH.Version) (hd:List UInt8) (last:Int) (f:Nat),Hid (G3 w B wr ov out)/\hv=↑hd/\lv=↑last/\Hid (Below w w wr)/\f+out.length=201/\Hid (CH.follow CH.msg known a f out hd last=R)) (fun ov _ _ _=>201 - Yf ov);case atStart=>exact⟨[],[],0,201,Aa (G3.nil hBw nR),rfl,rfl,Aa (Ac _ _),rfl,hR⟩
 case round =>
  obtain⟨out,hd,last,f,hO,rfl,rfl,hB,hf,hI⟩:=hrel;obtain⟨av,cv,rfl,hcv⟩:=hO.out.form;have hm:=hm0.out.below hB.out;have hkv:=lC.out;have c1:wr.cell? ⟨c,1,none⟩=some (.map (some r1)):=(hB.out.cell (p:=⟨c,1,none⟩) iH).trans hc1.out;have L:=Lv underlying73 _ I21 hm (a,(out.length:Int)+1);have II:out.length<=201:=oM;cases hlk:bI (a,(out.length:Int)+1) known with
  |none =>have hRR:(out,hd)=R:=(Cnw known a f out hd last hlk).symm.trans hI.out;rw [hkv.none 0 hlk] at L;simp only [Nw,Nr,Option.isSome_none] at L;subst hRR;clear hI hkv hm;generalize hN:out.length=n at *;replace hN:=Aa hN;dsimp only [Bn] at L;clear hR;go_wp2_with fail;refine Au (Bc rfl _ _ _) rfl ?_;exact⟨_,rfl,hO.out.below ((Ac _ wr).alloc nR _),hB.out.alloc hB.out.size _⟩
  |some v =>
   obtain⟨j,s,hfk,hvs⟩:=hkv.some 0 hlk;rw [hfk] at L;simp only [Hg,La,Option.isSome_some] at L;have vY:=hn.out _ _ (je hlk);dsimp only at vY;obtain⟨f,rfl⟩:∃ f',f=f'+1:=⟨f - 1,oM⟩
   have hI1:=hI.out;rw [CH.follow,hlk] at hI1;dsimp only at hI1;have hB2:=hB.out;have hBp:Below B w wr:=hB2.mono hBw;obtain⟨jj,s',zS,hvs'⟩:=lC.out.some 0 hlk;have hss:s'=s/\aO B w v s:=by rw [zS] at hfk;simp only [Eu,Gp,Value.agg.injEq] at hfk;have:=congrArg Array.toList hfk.2;simp only [An] at this;obtain⟨x1,x2,x3⟩:=s;obtain⟨y1,y2,y3⟩:=s';simp at this;obtain⟨e1,e2,e3⟩:=this;subst e1 e2 e3;exact⟨rfl,hvs'⟩
   have hvs:=hss.2;clear hss hvs' zS;have HV:=Aa fun (W:ZB) (hb:Below w w W)=>hvs.below hb hBw;have M:=fun (W:ZB) (hb:Below w w W)=>N6 v s W (hG.below hb) ((HV.out W hb).mono (Ag hBw hb.size));simp only [Bsd] at M;generalize Ggt (CH.message v)=me at M;have hone:=Aa (Kj hvs);obtain⟨va,v1,v2⟩:=s;obtain⟨xa,ya,e1,_,_⟩:=hvs.acts.form;obtain⟨x1,y1,e2,_,_⟩:=hvs.sig.form;obtain⟨x2,y2,e3,_,_⟩:=hvs.path.form;change va=_ at e1;change v1=_ at e2;change v2=_ at e3;subst e1 e2 e3;clear hvs hkv hfk hI hR hm;have eb:((⟨v.prev.toArray⟩:ByteArray)==⟨hd.toArray⟩)=(v.prev==hd):=Cy _ _;obtain⟨b1,hb1⟩:∃ b,(v.prev==hd)=b:=⟨_,rfl⟩
   obtain⟨b2,hb2⟩:∃ b,ZH (v.pos<last)=b:=⟨_,rfl⟩
   have ebn:(v.prev != hd)=!b1:=by rw [<- hb1];rfl
   rw [ebn,hb2] at hI1;rw [hb1] at eb;replace hI1:=Aa hI1;replace hlk:=Aa hlk;clear ebn;dsimp only [An,Bn] at L M;replace M:=Aa M;generalize hN:out.length=n at *;replace hN:=Aa hN;generalize v.acts.length=n0 at *;generalize v.sel.sig.length=n1 at *;generalize v.sel.path.length=n2 at *;rcases (by cases b1 <;> cases b2 <;> simp:(b1=false)\/(b1=true/\b2=true)\/(b1=true/\b2=false)) with rfl|⟨rfl,rfl⟩|⟨rfl,rfl⟩
   ·have hRR:(out,hd)=R:=by rw [<- hI1.out];rfl
    subst hRR;go_wp2_with fail;refine Au (Bc rfl _ _ _) rfl ?_;exact⟨_,rfl,hO.out.below ((Ac _ wr).alloc nR _),hB.out.alloc hB.out.size _⟩
   ·have hRR:(out,hd)=R:=by rw [<- hI1.out];rfl
    subst hRR;go_wp2_with fail;refine Au (Bc rfl _ _ _) rfl ?_;exact⟨_,rfl,hO.out.below ((Ac _ wr).alloc nR _),hB.out.alloc hB.out.size _⟩
   ·have hI2:Hid (CH.follow CH.msg known a f (out++[v]) (CH.msg v) v.pos=R):=Aa (by rw [<- hI1.out];rfl);clear hI1;obtain⟨xs,hx1,hx2,hx3,hx4,hx5⟩:=hO.out;rw [hN.out] at hx2;have hW2:∀ o1 o2,((wr.alloc o1).alloc o2).ownsRow w.heap.size 38 8 (.slice av n cv) n (Cv xs):=fun o1 o2=>Iz (Iz hx2 o1) o2;have hsz:=hB2.size;have hx3:=Aa hx3;have hx1:=Aa hx1;have hob:∀ j,(Value.slice av n cv).ownBlock=some j->w.heap.size<=j:=by
     obtain⟨_,⟨e,_⟩|⟨g,cap,cur,e,hb,_⟩⟩:=hx2;·rw [e];intro j hj;cases hj
     ·rw [e];intro j hj;simp [Value.ownBlock] at hj;omega
    have wV:∀ j,(Value.slice av n cv).ownBlock=some j->j<wr.heap.size:=by
     obtain⟨_,⟨e,_⟩|⟨g,cap,cur,e,_,hg,_⟩⟩:=hx2;·rw [e];intro j hj;cases hj
     ·rw [e];intro j hj;simp [Value.ownBlock] at hj;subst hj;exact (aZ hg)
    have hob:=Aa hob;have wV:=Aa wV;have hW2:=Aa hW2;clear hx2;go_wp2_with (at_builtin;refine Rx rfl _ _ rfl w _ n (Cv xs) rfl (hW2.out _ _) _ 1 [↑v.authority,↑v.number,↑v.pos,↑v.prev,.slice xa n0 ya,↑v.sel.index,.slice x1 n1 y1,.slice x2 n2 y2] rfl (.inl ⟨⟨wr+1,0,none⟩,1,rfl,?c1⟩) rfl ?c2 ?c3 ?c4 ?_)
    case c1 =>intro j u hj;rw [Go.WideShapes.add_plain];have:=B6 (wr.alloc (.cells #[↑v.authority,↑v.number,↑v.pos,↑v.prev,.slice xa n0 ya,↑v.sel.index,.slice x1 n1 y1,.slice x2 n2 y2] 38)) [↑v.authority,↑v.number,↑v.pos,↑v.prev,.slice xa n0 ya,↑v.sel.index,.slice x1 n1 y1,.slice x2 n2 y2] 38 j u hj;rwa [Cc] at this
    case c2=>exact hone.out
    case c3=>omega
    case c4=>simp;omega
    ·intro v' w' g1 g2 g3;have hBa:Below w w ((wr.alloc (.cells #[↑v.authority,↑v.number,↑v.pos,↑v.prev,.slice xa n0 ya,↑v.sel.index,.slice x1 n1 y1,.slice x2 n2 y2] 38)).alloc (.cells #[↑v.authority,↑v.number,↑v.pos,↑v.prev,.slice xa n0 ya,↑v.sel.index,.slice x1 n1 y1,.slice x2 n2 y2] 38)):=(hB2.alloc hB2.size _).alloc (by simp;omega) _;have hbl:=Def wr (.cells #[↑v.authority,↑v.number,↑v.pos,↑v.prev,.slice xa n0 ya,↑v.sel.index,.slice x1 n1 y1,.slice x2 n2 y2] 38) (.cells #[↑v.authority,↑v.number,↑v.pos,↑v.prev,.slice xa n0 ya,↑v.sel.index,.slice x1 n1 y1,.slice x2 n2 y2] 38);have hgb:Below w ((wr.alloc (.cells #[↑v.authority,↑v.number,↑v.pos,↑v.prev,.slice xa n0 ya,↑v.sel.index,.slice x1 n1 y1,.slice x2 n2 y2] 38)).alloc (.cells #[↑v.authority,↑v.number,↑v.pos,↑v.prev,.slice xa n0 ya,↑v.sel.index,.slice x1 n1 y1,.slice x2 n2 y2] 38)) w':=S6 g2 hBa.size hob.out;have hB3:Below w w w':=hBa.trans hgb;have gG:=(g2.block wr (by simp;omega) (fun e=>by have:=wV.out _ e.symm;omega)).trans hbl;have hV3:=Aa (HV.out w' hB3);have hlt3:wr.heap.size<w'.heap.size:=(aZ gG)
     have hO3:G3 w B w' v' (out++[v]):=by
      refine⟨xs++[(v,⟨.slice xa n0 ya,.slice x1 n1 y1,.slice x2 n2 y2⟩)],by rw [Fh,hx1.out];rfl,?_,?_,hx4,hB3.size⟩;·rw [Aj,hN.out,Dz];rw [Ue];exact g1
      ·intro x hx;rcases Dp.1 hx with h|h;·have q:=hx3.out x h;exact q.below ((((Ac B wr).alloc (Ag hBw hsz) _).alloc (by simp;omega) _).trans (hgb.mono hBw)) nR
       ·cases Bz.1 h;exact hV3.out
     obtain⟨a',c',rfl,_⟩:=hO3.form;have hlen3:(out++[v]).length=n+1:=by rw [Aj,hN.out];rfl
     rw [hlen3];have k0:w'.cell? ⟨wr,0,none⟩=some ↑v.authority:=Ab gG 0;have k1:w'.cell? ⟨wr,1,none⟩=some ↑v.number:=Ab gG 1;have k2:w'.cell? ⟨wr,2,none⟩=some ↑v.pos:=Ab gG 2;have k3:w'.cell? ⟨wr,3,none⟩=some ↑v.prev:=Ab gG 3;have k4:w'.cell? ⟨wr,4,none⟩=some (.slice xa n0 ya):=Ab gG 4;have k5:w'.cell? ⟨wr,5,none⟩=some ↑v.sel.index:=Ab gG 5;have k6:w'.cell? ⟨wr,6,none⟩=some (.slice x1 n1 y1):=Ab gG 6;have k7:w'.cell? ⟨wr,7,none⟩=some (.slice x2 n2 y2):=Ab gG 7;have hO3:=Aa hO3;have hlen3:=Aa hlen3;clear hgb hBa g1 g2 g3 hbl gG hW2 hone;go_wp2_with fail;refine (M.out w' hB3).mono ?_;rintro e w4 ⟨rfl,hb4⟩;have hB4:Hid (Below w w w4):=Aa (hB3.trans (hb4.mono hB3.size));have hO4:Hid (G3 w B w4 (.slice a' (n+1) c') (out++[v])):=Aa (by have:=hO3.out.below hb4;rwa [hlen3.out] at this);clear k0 k1 k2 k3 k4 k5 k6 k7 hb4 hO3;go_wp2;go_roundw;case rel=>exact⟨out++[v],CH.msg v,v.pos,f,hO4,rfl,rfl,hB4,by have:=hlen3.out;omega,hI2⟩
     case measure=>simp [Yf];omega
def Kg (B:Nat) (w:ZB) (v:ZC) (ls:List CH.Version):Prop := ∃ a cap,v=.slice a ls.length cap/\ls.length<=cap/\cap<=9223372036854775807 /\ (ls≠[]->∃ b off,a=some ⟨b,off,none⟩/\b<B/\∀ j x,ls[j]?=some x->∃ s,(∀ i u,(An x s)[i]?=some u->w.cell? ⟨b,off+j*8+i,none⟩=some u)/\aO B w x s)
theorem Kg.below {B B':Nat} {w w':ZB} {v:ZC} {ls:List CH.Version} (h:Kg B w v ls) (hb:Below B' w w') (hB:B<=B'):Kg B w' v ls:=by obtain⟨a,cap,h1,h2,h3,h4⟩:=h;refine⟨a,cap,h1,h2,h3,fun hne=>?_⟩;obtain⟨b,off,e,hlt,hx⟩:=h4 hne;refine⟨b,off,e,hlt,fun j x hj=>?_⟩;obtain⟨s,c1,c2⟩:=hx j x hj;exact⟨s,fun i u hi=>(hb.cell (p:=⟨b,off+j*8+i,none⟩) (Ah hlt hB)).trans (c1 i u hi),c2.below hb hB⟩
theorem Kg.mono {B B':Nat} {w:ZB} {v:ZC} {ls:List CH.Version} (h:Kg B w v ls) (hB:B<=B'):Kg B' w v ls:=by obtain⟨a,cap,h1,h2,h3,h4⟩:=h;refine⟨a,cap,h1,h2,h3,fun hne=>?_⟩;obtain⟨b,off,e,hlt,hx⟩:=h4 hne;refine⟨b,off,e,Ah hlt hB,fun j x hj=>?_⟩;obtain⟨s,c1,c2⟩:=hx j x hj;exact⟨s,c1,c2.mono hB⟩
def Hex (w:ZB) (ls:List CH.Version) (e:Ending) (w':ZB):Prop:=∃ v,e=.returned v/\Kg w' w' v ls/\Below w w w'
theorem Bfp {base B:Nat} {w:ZB} {v:ZC} {ls:List CH.Version} (h:G3 base B w v ls):∃ xs:List (CH.Version × bZ),xs.map (·.1)=ls/\Bad w v ls.length (Cv xs)/\(∀ x∈xs,aO B w x.1 x.2)/\∀ u∈Cv xs,u.oneCell'=true:=by
 obtain⟨xs,h1,h2,h3,h4,h5⟩:=h;have hl:xs.length=ls.length:=by rw [<- h1,Dc]
 refine⟨xs,h1,?_,h3,?_⟩
 ·have h2':=h2;obtain⟨hlen,⟨rfl,h0⟩|⟨g,cap,cur,rfl,hb,hg,hn,hc,hsz,htk⟩⟩:=h2;·have:xs=[]:=Df.1 oM;subst this;exact .inr ⟨0,rfl,h0,rfl⟩
  ·refine .inl ⟨⟨g,0,none⟩,cap,rfl,fun j u hj=>?_⟩;have hjl:=(lS hj)
   rw [T8,hl] at hjl;rw [Go.WideShapes.add_plain,Bl,Gy h2' j oM];exact hj
 ·intro u hu;unfold Cv at hu;obtain⟨x,hx,hux⟩:=List.mem_flatMap.1 hu;exact Kj (h3 x hx) u hux
theorem Vx (msg:CH.Version->List UInt8) (known:CH.Known) {k:Nat}:∀ {n:Nat},k<=n->(aX msg known k).length<=(aX msg known n).length
 |0,h=>by
  obtain rfl:k=0:=oM
  exact Bv _
 |n+1,h=>by
  by_cases e:k=n+1
  ·rw [e];exact Bv _
  ·have:=Vx msg known (k:=k) (n:=n) oM
   show _<=(aX msg known n++_).length
   rw [Aj]
   omega
theorem wI (f:VP->List ZC) (hf:∀ x,(f x).length=8):∀ (l:List VP) (t:Nat),t<l.length*8->(l.flatMap f)[t]?=some ((f l.toArray[t / 8]!)[t % 8]!)
 |[],t,h=>by simp at h
 |x::l,t,h=>by
  rw [Ep]
  by_cases h8:t<8
  ·rw [Fv (by rw [hf];exact h8)]
   have e1:t / 8=0:=Le h8
   have e2:t % 8=t:=Ld h8
   rw [e1,e2]
   have:t<(f x).length:=by rw [hf];exact h8
   simp [this]
  ·rw [Et (by rw [hf];omega),hf,wI f hf l (t - 8) (by rw [Ar] at h;omega)]
   have e1:t / 8=(t - 8) / 8+1:=oM
   have e2:t % 8=(t - 8) % 8:=oM
   rw [e1,e2]
   simp
theorem I20 {B:Nat} {w:ZB}:∀ (xs:List (CH.Version × bZ)),(∀ x∈xs,aO B w x.1 x.2)->∃ ds:List VP,ds.map (fun y=>(y.v,y.s))=xs
 |[],_=>⟨[],rfl⟩
 |(v,s)::xs,h=>by
  obtain⟨ds,hd⟩:=I20 xs fun x hx=>h x (by simp [hx])
  obtain⟨a1,n1,c1,a2,n2,c2,a3,n3,c3,e⟩:=(h (v,s) sM).sl
  refine⟨⟨v,a1,n1,c1,a2,n2,c2,a3,n3,c3⟩::ds,?_⟩
  change s=_ at e
  rw [Ew,hd,e]
  rfl
theorem Q5 {C g n:Nat} {w:ZB} {d:Array VP} {os:Array Obj} (hC:C<=g) (hw:C<=w.heap.size):Below C w (sortWorldK iI 8 w g 0 n d os):=by refine⟨rfl,rfl,rfl,size_sortWorldK_c iI 8 w g 0 n d os,fun k hk=>?_⟩;show ((w.heap.modify g (onCells (putCells id 0 (flatK iI 8 d))))++os)[k]?=w.heap[k]?;rw [Array.getElem?_append_left (by simp;omega),Fb,Ak oM]
theorem Let:Sort.insertionSort iP (#[]:Array CH.Version) 0 0=#[]:=by unfold Sort.insertionSort;rw [Sort.insOuter.eq_1,Ak oM]
theorem Eta {base B g cap:Nat} {w:ZB} {ls:List CH.Version} (hO:G3 base B w (.slice (some ⟨g,0,none⟩) ls.length cap) ls) : ∃ d:Array VP,d.size=ls.length/\HoldsK iI 8 w g 0 d/\g<w.heap.size/\base<=g/\∀ w',(∃ n os,w'=sortWorldK iI 8 w g 0 n (Sort.insertionSort (ltOf kS) d 0 d.size) os) -> Kg w' w' (.slice (some ⟨g,0,none⟩) ls.length cap) (Sort.insertionSort iP ls.toArray 0 ls.length).toList/\Below base w w':=by
 obtain⟨xs,h1,h2,h3,h4,h5⟩:=hO;have h2':=h2;have hl:xs.length=ls.length:=by rw [<- h1,Dc]
 obtain⟨ds,hds⟩:=I20 xs h3;have hdl:ds.length=ls.length:=by rw [<- hl,<- hds,Dc]
 have hmap:ds.map (·.v)=ls:=by rw [<- h1,<- hds,Nh];rfl
 have zQ:Cv xs=ds.flatMap iI:=by rw [<- hds];unfold Cv;rw [List.flatMap_map];rfl
 obtain⟨hlen,⟨e,h0⟩|⟨g',cap',cur,e,hb,hg,hn,hc,hsz,htk⟩⟩:=h2;·cases e
 simp only [Value.slice.injEq,Eu,Addr.mk.injEq,and_true,true_and] at e;obtain⟨rfl,rfl⟩:=e;have mO:g<w.heap.size:=(aZ hg)
 have hH:HoldsK iI 8 w g 0 ds.toArray:=by
  intro t ht;rw [size_flatK] at ht;have ht':t<ds.length*8:=by simpa using ht
  rw [get_flatK _ _ _ _ ht];refine⟨?_,Be hg _⟩;rw [Bl,Gy h2' t (by rw [<- hdl];exact ht'),zQ];exact wI iI (fun _=>rfl) ds t ht'
 have hsize:ds.toArray.size=ls.length:=by simpa using hdl
 refine⟨ds.toArray,hsize,hH,mO,hb,?_⟩;rintro w' ⟨n,os,rfl⟩;have hinv:=dS (lt:=ltOf kS) (I:=fun L=>L.length=ds.length/\∀ y∈L,y∈ds) (fun l m x y _ h=>⟨by simpa using h.1,fun z hz=>h.2 z (by
  simp only [Dp,A8] at hz ⊢;rcases hz with h|h|h|h;·exact .inl h
  ·exact .inr (.inr (.inl h))
  ·exact .inr (.inl h)
  ·exact .inr (.inr (.inr h)))⟩) ds ⟨rfl,fun _ h=>h⟩
 rw [show ds.length=ds.toArray.size from by simp] at hinv;have hv:=Ww ds.toArray 0 ds.toArray.size;have e1:ds.toArray.map (·.v)=ls.toArray:=by rw [<- hmap];simp
 rw [e1] at hv;obtain⟨d',hd'⟩:∃ d',Sort.insertionSort (ltOf kS) ds.toArray 0 ds.toArray.size=d':=⟨_,rfl⟩
 rw [hd'] at hinv hv ⊢;rw [<- hsize,<- hv];have hs':d'.size=ds.toArray.size:=by have:=hinv.1;simpa using this
 have hH':=holdsK_sortWorldK_c iI 8 w g 0 ds.toArray d' n os hH mO hs';have hBb:Below base w (sortWorldK iI 8 w g 0 n d' os):=Q5 hb h5;have hgs:w.heap.size<=(sortWorldK iI 8 w g 0 n d' os).heap.size:=hBb.size;refine⟨⟨_,cap,?_,?_,?_,fun _=>⟨g,0,rfl,Ah mO hgs,fun j x hj=>?_⟩⟩,hBb⟩;·simp [hs']
 ·simp only [Array.toList_map,Dc,Il,hs',hsize];exact hn
 ·unfold maxLen at hc;omega
 ·rw [Array.toList_map,Gg] at hj;cases hy:d'.toList[j]? with
  |none=>rw [hy] at hj;cases hj
  |some y =>
   rw [hy] at hj;cases hj;have hmem:=hinv.2 y (Ap hy);have hxs:(y.v,y.s)∈xs:=by rw [<- hds];exact Ee.2 ⟨y,hmem,rfl⟩
   have hjl:j<d'.size:=by have:=(lS hy);simpa using this
   have hat:d'[j]! =y:=by rw [Jg] at hy;rw [getElem!_def,hy]
   refine⟨y.s,fun i u hi=>?_,((h3 _ hxs).below (hBb.mono h4) nR).mono (Ag h4 (Ag h5 hgs))⟩;have hi8:i<8:=by have:=(lS hi);exact this
   have:=(HoldsK.cell hH' hjl hi8).1;rw [this,hat];have h9:(iI y)[i]?=some u:=hi;congr 1;rw [List.getElem!_eq_getElem?_getD,h9];rfl
theorem Is4 (c r1 r2:Nat) (keys:List (List UInt8)) (known:CH.Known) (forks:CH.Forks) (a:Int) (w W:ZB) (hG:Gc w) (hC:ChainAt w c r1 r2 keys known forks) (hn:∀ p v,(p,v)∈known->p.2<=200) (hb:Below w w W) : ZE prog 24 #[.pointer (some ⟨c,0,none⟩),↑a] W (Q7 W w (fol CH.msg known a)):=by obtain⟨vk,h1,_⟩:=hC.ex;obtain⟨kvs,h2,h3⟩:=hC.known;exact Vu c r1 w known kvs a W (hG.below hb) (Ab ((hb.block c (aZ h1)).trans h1) 1) (h2.below hb) (h3.imp fun _ _ h=>h.below hb nR) hb.size hn
theorem Y5 (c r1 r2:Nat) (keys:List (List UInt8)) (known:CH.Known) (forks:CH.Forks) (w:ZB) (hG:Gc w) (hC:ChainAt w c r1 r2 keys known forks) (hn:∀ p v,(p,v)∈known->p.2<=200) (hkl:keys.length<=1000) (hlen:(aX CH.msg known keys.length).length<20) : ZE prog 7 #[.pointer (some ⟨c,0,none⟩)] w (Hex w (CH.versions CH.msg known keys.length)):=by
 have HF:=Aa fun (W:ZB) (hb:Below w w W) (k:Nat)=>Is4 c r1 r2 keys known forks (k:Int) w W hG hC hn hb;have HL:=Aa fun (k:Nat) (hk:k<=keys.length)=>J8 (Vx CH.msg known hk) hlen;obtain⟨vk,gI,hks⟩:=hC.ex;obtain⟨ak,ck,rfl,_,_⟩:=hks.form;have iH:c<w.heap.size:=(aZ gI)
 have kc:w.cell? ⟨c,0,none⟩=some (.slice ak keys.length ck):=Ab gI 0;obtain⟨R,hR⟩:∃ R,Hid (CH.versions CH.msg known keys.length=R):=⟨_,Aa rfl⟩
 rw [hR.out];clear gI hks hC hn hG hlen;generalize keys.length=N at *;go_enter func7,ntmps7;go_wp2_with fail;go_loopw [3,14] (fun ov i wr=>∃ k:Nat,k<=N/\i=↑k/\Hid (G3 w w wr ov (aX CH.msg known k))/\Hid (Below w w wr)) (fun _ i _=>N - (ZG i).toNat);case atStart=>exact⟨0,Bg _,rfl,Aa (G3.nil nR nR),Aa (Ac _ _)⟩
 case round =>
  obtain⟨k,hk,rfl,hO,hBr⟩:=hrel;by_cases hlt:k<N
  ·obtain⟨av,cv,rfl,hcv⟩:=hO.out.form;go_wp2_with fail;refine (HF.out wr hBr.out k).mono ?_;rintro e w1 ⟨v,rfl,hO1,hb1⟩;have hB1:Below w w w1:=hBr.out.trans (hb1.mono hBr.out.size);have hL1:=HL.out (k+1) hlt;have rZ:aX CH.msg known (k+1)=aX CH.msg known k++(fol CH.msg known (k:Int)).1:=rfl;rw [rZ,Aj] at hL1;obtain⟨xs1,e1,hsrc,xR,uy⟩:=Bfp hO1;have hO2:=hO.out.below hb1;obtain⟨a1,c1,rfl,_⟩:=hO1.form;obtain⟨xs,hx1,hx2,hx3,hx4,hx5⟩:=hO2;have hx1:=Aa hx1;have hx3:=Aa hx3;have hl1:(Cv xs1).length=(fol CH.msg known (k:Int)).1.length*8:=by rw [T8,<- e1,Dc]
   have hob:∀ j,(Value.slice av (aX CH.msg known k).length cv).ownBlock=some j->w.heap.size<=j:=by
    obtain⟨_,⟨e,_⟩|⟨g,cap,cur,e,hb,_⟩⟩:=hx2;·rw [e];intro j hj;cases hj
    ·rw [e];intro j hj;simp [Value.ownBlock] at hj;omega
   have hob:=Aa hob;have e1:=Aa e1;have rZ:=Aa rZ;have xR:=Aa xR;have uy:=Aa uy;have hsrc:=Aa hsrc;have hl1:=Aa hl1;have hx2:=Aa hx2;have hB1:=Aa hB1;clear hO hO1 hb1 hBr;obtain⟨n,hn⟩:∃ n,Hid ((aX CH.msg known k).length=n):=⟨_,Aa rfl⟩
   obtain⟨m,hm⟩:∃ m,Hid ((fol CH.msg known (k:Int)).1.length=m):=⟨_,Aa rfl⟩
   rw [hn.out] at hL1 hcv hob hx2 ⊢;rw [hm.out] at hL1 hsrc hl1 ⊢;go_wp2_with (at_builtin;refine Rx rfl _ _ rfl w _ n (Cv xs) rfl hx2.out _ m (Cv xs1) rfl hsrc.out hl1.out uy.out ?c3 hx5 ?_)
   case c3=>omega
   ·intro v' w' g1 g2 g3;have hgb:Below w w1 w':=S6 g2 hB1.out.size hob.out;have hB2:Hid (Below w w w'):=Aa (hB1.out.trans hgb);have hO3:G3 w w w' v' (aX CH.msg known (k+1)):=by
     rw [rZ.out];refine⟨xs++xs1,by rw [Fh,hx1.out,e1.out],?_,?_,Bv _,hB2.out.size⟩;·rw [Aj,hn.out,hm.out,show Cv (xs++xs1)=Cv xs++Cv xs1 from by unfold Cv;rw [List.flatMap_append]];exact g1
     ·intro x hx;rcases Dp.1 hx with h|h;·exact (hx3.out x h).below hgb nR
      ·exact (xR.out x h).below hgb nR
    obtain⟨a',c',rfl,_⟩:=hO3.form;have hO3:=Aa hO3;clear hgb g1 g2 g3;generalize (aX CH.msg known (k+1)).length=n' at *;go_wp2;go_roundw;case rel=>exact⟨k+1,oM,by go_num,hO3,hB2⟩
    case measure=>simp [ZG];omega
  ·obtain rfl:k=N:=oM;have hL1:=HL.out k nR;have hRR:R=(Sort.insertionSort iP (aX CH.msg known k).toArray 0 (aX CH.msg known k).length).toList:=hR.out.symm;obtain⟨ls,hls⟩:∃ ls,aX CH.msg known k=ls:=⟨_,rfl⟩
   rw [hls] at hO hL1 hRR;have hRR:=Aa hRR;clear hR HL HF;obtain⟨av,cv,rfl,hcv⟩:=hO.out.form;have hO2:=hO.out;obtain⟨xs,hx1,⟨_,⟨e,h0⟩|⟨g,cap,cur,e,hb,hg,hn,hc,hsz,htk⟩⟩,hx3,hx4,hx5⟩:=hO2;·have hnil:ls=[]:=Df.1 h0;subst hnil;simp only [Value.slice.injEq] at e;obtain⟨rfl,_,rfl⟩:=e;clear hx1 hx3 hO h0;simp only [Bo];go_wp2_with fail;refine (Z2 wr).mono ?_;rintro e w' ⟨rfl,rfl⟩;go_wp2;go_ret;refine⟨_,rfl,?_,hBr.out⟩;rw [hRR.out,Bo,show ([]:List CH.Version).toArray=#[] from rfl,Let];exact⟨none,0,rfl,Bv _,oM,fun h=>absurd rfl h⟩
   ·have hx0:True:=trivial
    ·simp only [Value.slice.injEq] at e;obtain⟨rfl,_,rfl⟩:=e;obtain⟨d,hds,hH,mO,hbg,hpost⟩:=Eta hO.out;have S:=Um g cv d wr hH mO oM;rw [hds] at S hpost;have hpost:=Aa hpost;obtain⟨Q,hQ⟩:∃ Q:ZB->Prop,(fun w'=>∃ n os,w'=sortWorldK iI 8 wr g 0 n (Sort.insertionSort (ltOf kS) d 0 ls.length) os)=Q:=⟨_,rfl⟩
     have S:Hid (ZE prog 25 #[.slice (some ⟨g,0,none⟩) ls.length cv,.func (.func 26) #[] #[]] wr fun e w'=>e=.returned (.tuple #[])/\Q w'):=Aa (by rw [<- hQ];exact S);have hQ:=Aa hQ;have hBr:=Aa hBr.out;clear hO hx1 hg hn hsz htk hx3 hx4 hx5 hH hds;obtain⟨n,hn⟩:∃ n,Hid (ls.length=n):=⟨_,Aa rfl⟩
     rw [hn.out] at S hcv ⊢;clear hc;go_wp2_with fail;refine S.out.mono ?_;rintro e w' ⟨rfl,hq⟩;have hp:=hpost.out w' (by rw [<- hQ.out] at hq;exact hq);rw [hn.out] at hp;have hp:=Aa hp;clear hq S;go_wp2;go_ret;refine⟨_,rfl,?_,hBr.out.trans hp.out.2⟩;rw [hRR.out,hn.out];exact hp.out.1
theorem Oz (v v':ZC) (l:List CH.Version) (w:ZB) (h:Kg w w v l) (h':Kg w w v' l) : ZE prog 10 #[v,v'] w (Ret w (.bool true)):=by
 obtain⟨a,cap,rfl,hl,hcap,hne⟩:=h;obtain⟨a',cap',rfl,hl',hcap',hne'⟩:=h';have hne:=Aa hne;have hne':=Aa hne';obtain⟨N,hN⟩:∃ N,l.length=N:=⟨_,rfl⟩
 rw [hN] at hl hl' ⊢;have hN:=Aa hN;have hi8:(prog.info? 38).map (·.size)=some 8:=kR;go_enter func10,ntmps10;go_wp2_with fail;go_loopw [5] (fun i wr=>∃ k:Nat,k<=N/\i=↑k/\Hid (Below w w wr)) (fun i _=>N - (ZG i).toNat);case atStart=>exact⟨0,Bg _,rfl,Aa (Ac _ _)⟩
 case round =>
  obtain⟨k,hk,rfl,hBr⟩:=hrel;by_cases hlt:k<N
  ·obtain⟨b,off,rfl,hbl,hcells⟩:=hne.out (by intro h;have:=hN.out;simp [h] at this;omega);obtain⟨b',off',rfl,gG,hcells'⟩:=hne'.out (by intro h;have:=hN.out;simp [h] at this;omega);obtain⟨y,hy⟩:∃ y,l[k]?=some y:=⟨_,Ad (by rw [hN.out];exact hlt)⟩
   obtain⟨sy,hc,hat⟩:=hcells k y hy;obtain⟨sy',hc',hat'⟩:=hcells' k y hy;have hrg:wr.rangeAt b (off+k*8) (An y sy):=fun j u hj=>(hBr.out.cell (p:=⟨b,off+k*8+j,none⟩) hbl).trans (hc j u hj);have qy:wr.rangeAt b' (off'+k*8) (An y sy'):=fun j u hj=>(hBr.out.cell (p:=⟨b',off'+k*8+j,none⟩) gG).trans (hc' j u hj);have F:=Aa fun (W':ZB) (hb:Below wr wr W')=>Rf y sy sy' W' ((hat.raw.below (hBr.out.trans (hb.mono hBr.out.size)) nR).mono (Ag hBr.out.size hb.size)) ((hat'.raw.below (hBr.out.trans (hb.mono hBr.out.size)) nR).mono (Ag hBr.out.size hb.size));have hl1:(prog.info? 38).map (·.size)=some (An y sy).length:=hi8;have hl2:(prog.info? 38).map (·.size)=some (An y sy').length:=hi8;clear hcells hcells' hc hc' hat hat' hy;generalize An y sy=C at *;generalize An y sy'=C' at *;have z0:(0:Int)<=(k:Int):=oM;have zk:((k:Int)).toNat=k:=oM;have hk':(k:Int)<(N:Int):=oM;have hs3:b<wr.heap.size:=Ah hbl hBr.out.size;have hs4:b'<wr.heap.size:=Ah gG hBr.out.size;have SS:=Aa fun (W':ZB) (hb:Below wr wr W')=>(⟨B9 hrg hb hs3,B9 qy hb hs4⟩:W'.rangeAt b (off+k*8) C/\W'.rangeAt b' (off'+k*8) C')
   have hD:Below wr wr wr.drew:=(Ac _ wr).drew;clear hrg qy;go_wp2_with fail;refine Ej (S:=(fun W'=>W'.rangeAt b (off+k*8) C/\W'.rangeAt b' (off'+k*8) C')) kR (SS.out _ hD) (fun hHeld=>?_);refine tk 0 (v:=?_) rfl rF hHeld ?_ ?_;rotate_left;·(intro w hSw;(try dsimp only at hSw);go_simp;try with_reducible rfl)
   (try simp only [ZF,pD,pE,pF,pA,pB,pC]);refine tk 1 (v:=?_) rfl rF hHeld ?_ ?_;rotate_left;·(intro w hSw;(try dsimp only at hSw);go_simp;try with_reducible rfl)
   (try simp only [ZF,pD,pE,pF,pA,pB,pC]);refine tk 2 (v:=?_) rfl rF hHeld ?_ ?_;rotate_left;·(intro w hSw;(try dsimp only at hSw);go_simp;try with_reducible rfl)
   (try simp only [ZF,pD,pE,pF,pA,pB,pC]);refine Ce (i:=3) (v:=.agg C.toArray) rfl kR kR kR (fun _ _ _ h=>h) ?_ hHeld ?_;·exact yieldsIf_load_mid rF _ _ rfl _ _ rfl C _ (fun W hSw=>hSw.1) underlying38 rfl hl1
   (try simp only [ZF,pD,pE,pF,pA,pB,pC]);refine tk 4 (v:=?_) rfl rF hHeld ?_ ?_;rotate_left;·(intro w hSw;(try dsimp only at hSw);go_simp;try with_reducible rfl)
   (try simp only [ZF,pD,pE,pF,pA,pB,pC]);refine tk 5 (v:=?_) rfl rF hHeld ?_ ?_;rotate_left;·(intro w hSw;(try dsimp only at hSw);go_simp;try with_reducible rfl)
   (try simp only [ZF,pD,pE,pF,pA,pB,pC]);refine tk 6 (v:=?_) rfl rF hHeld ?_ ?_;rotate_left;·(intro w hSw;(try dsimp only at hSw);go_simp;try with_reducible rfl)
   (try simp only [ZF,pD,pE,pF,pA,pB,pC]);refine Ce (i:=7) (v:=.agg C'.toArray) rfl kR kR kR (fun _ _ _ h=>h) ?_ hHeld ?_;·exact yieldsIf_load_mid rF _ _ rfl _ _ rfl C' _ (fun W hSw=>hSw.2) underlying38 rfl hl2
   (try simp only [ZF,pD,pE,pF,pA,pB,pC]);refine rk 8 rfl (fun K hK=>?_);go_simp;refine (F.out _ hD).mono ?_;rintro e w2 ⟨rfl,hb2⟩;have hE:Below wr wr w2:=hD.trans (hb2.mono hD.size);go_wp2_with fail;refine hK.out _ _ (SS.out _ hE) (fun hHeld=>?_);clear hK K;(try simp only [ZF,pD,pE,pF,pA,pB,pC]);refine tk 9 (v:=?_) rfl rF hHeld ?_ ?_;rotate_left;·(intro w hSw;(try dsimp only at hSw);go_simp;try with_reducible rfl)
   (try simp only [ZF,pD,pE,pF,pA,pB,pC]);refine D6 kR ?_ _;have hB2:Hid (Below w w w2):=Aa (hBr.out.trans (hE.mono hBr.out.size));clear F SS;go_wp2;go_roundw;case rel=>exact⟨k+1,oM,by go_num,hB2⟩
   case measure=>simp [ZG];omega
  ·obtain rfl:k=N:=oM;go_wp2;go_ret;exact⟨rfl,hBr.out⟩
theorem Ggl (a:Nat) (c:UInt8):ZH ((a:Int)<=(c.toNat:Int))=ZH (a<=c.toNat):=sM
theorem Ggm (a:Nat) (c:UInt8):ZH ((c.toNat:Int)<=(a:Int))=ZH (c.toNat<=a):=sM
theorem Uq (c:UInt8) (w:ZB):ZE prog 143 #[.int .u8 c.toNat] w (Ret w (.bool (CH.letterB c))):=by
 have e:CH.letterB c=(ZH ((97:Int)<=(c.toNat:Int))&&ZH ((c.toNat:Int)<=122)||ZH ((65:Int)<=(c.toNat:Int))&&ZH ((c.toNat:Int)<=90)):=by unfold CH.letterB;rw [<- Ggl 97,<- Ggm 122,<- Ggl 65,<- Ggm 90];rfl
 rw [e];clear e;generalize e1:ZH ((97:Int)<=(c.toNat:Int))=b1;generalize e2:ZH ((c.toNat:Int)<=122)=b2;generalize e3:ZH ((65:Int)<=(c.toNat:Int))=b3;generalize e4:ZH ((c.toNat:Int)<=90)=b4;cases b1 <;> cases b2 <;> cases b3 <;> cases b4;all_goals go_enter func143,ntmps143;go_wp2;go_ret;exact⟨rfl,Ac _ _⟩
theorem Zk (c:UInt8) (w:ZB):ZE prog 209 #[.int .u8 c.toNat] w (Ret w (.bool (ZH (48<=c.toNat)&&ZH (c.toNat<=57)))):=by
 have e:(ZH (48<=c.toNat)&&ZH (c.toNat<=57))=(ZH ((48:Int)<=(c.toNat:Int))&&ZH ((c.toNat:Int)<=57)):=by rw [<- Ggl 48,<- Ggm 57];rfl
 rw [e];clear e;generalize e1:ZH ((48:Int)<=(c.toNat:Int))=b1;generalize e2:ZH ((c.toNat:Int)<=57)=b2;cases b1 <;> cases b2;all_goals go_enter func209,ntmps209;go_wp2;go_ret;exact⟨rfl,Ac _ _⟩
theorem Bst (n:Int) (w:ZB):ZE prog 199 #[↑n] w (Ret w (.bool (bg n))):=by unfold bg;generalize e1:ZH (0<=n)=b1;generalize e2:ZH (n<=144001439)=b2;cases b1 <;> cases b2;all_goals go_enter func199,ntmps199;go_wp2;go_ret;exact⟨rfl,Ac _ _⟩
theorem Bsi (c:UInt8) (w:ZB):ZE prog 142 #[.int .u8 c.toNat] w (Ret w (.bool (CH.tailB c))):=by
 have L:=Aa fun (W:ZB)=>Uq c W;have D:=Aa fun (W:ZB)=>Zk c W;have e3:(c==95)=((c.toNat:Int)==95):=by rw [F8,Dl,Dl,<- UInt8.toNat_inj];show c.toNat=95↔_;omega
 unfold CH.tailB;rw [e3];clear e3;generalize CH.letterB c=b1 at *;generalize (ZH (48<=c.toNat)&&ZH (c.toNat<=57))=b2 at *;generalize e3:((c.toNat:Int)==95)=b3;cases b1 with
 |true =>go_enter func142,ntmps142;go_wp2_with fail;refine (L.out w).mono ?_;rintro e w1 ⟨rfl,hb1⟩;go_wp2;go_ret;exact⟨rfl,hb1⟩
 |false =>
  cases b2 with
  |true =>go_enter func142,ntmps142;go_wp2_with fail;refine (L.out w).mono ?_;rintro e w1 ⟨rfl,hb1⟩;go_wp2_with fail;refine (D.out w1).mono ?_;rintro e w2 ⟨rfl,hb2⟩;have hB:=hb1.trans (hb2.mono hb1.size);go_wp2;go_ret;exact⟨rfl,hB⟩
  |false =>cases b3;all_goals go_enter func142,ntmps142;go_wp2_with fail;refine (L.out w).mono ?_;rintro e w1 ⟨rfl,hb1⟩;go_wp2_with fail;refine (D.out w1).mono ?_;rintro e w2 ⟨rfl,hb2⟩;have hB:=hb1.trans (hb2.mono hb1.size);go_wp2;go_ret;exact⟨rfl,hB⟩
theorem Ggi {s:List UInt8} {k:Nat} {ch:UInt8} (hk:s[k]?=some ch) (h:CH.tailB ch=false):CH.isName s=false:=by
 unfold CH.isName;split;·rfl
 ·rename_i c l;have hl:CH.letterB ch=false:=by unfold CH.tailB at h;exact (Gh.1 h).1
  rcases k with _|k;·simp only [Fp,Eu] at hk;rw [hk,hl];rfl
  ·simp only [Fq] at hk;have:l.all CH.tailB=false:=Jo.2 ⟨ch,Ap hk,by simp [h]⟩;rw [this,Bool.and_false];rfl
theorem Ggj {c:UInt8} {l:List UInt8} (h:(c::l).all CH.tailB=true):CH.isName (c::l)=(ZH ((c::l).length<=24)&&CH.letterB c):=by show (CH.letterB c&&l.all CH.tailB&&ZH ((c::l).length<=24))=_;rw [Jh,Am] at h;rw [h.2,Lp,Bool.and_comm]
theorem J0 (s:List UInt8) (w:ZB) (hs:s.length<=9223372036854775807):ZE prog 79 #[↑s] w (Ret w (.bool (CH.isName s))):=by
 obtain⟨R,hR⟩:∃ R,Hid (CH.isName s=R):=⟨_,Aa rfl⟩
 rw [hR.out];have W:=Aa fun (c:UInt8) (W:ZB)=>Bsi c W;have L:=Aa fun (c:UInt8) (W:ZB)=>Uq c W;go_enter func79,ntmps79;go_wp2_with fail;go_loopw [3] (fun i wr=>∃ k:Nat,k<=s.length/\i=↑k/\Hid ((s.take k).all CH.tailB=true)/\Hid (Below w w wr)) (fun i _=>s.length - (ZG i).toNat);case atStart=>exact⟨0,Bg _,rfl,Aa rfl,Aa (Ac _ _)⟩
 case round =>
  obtain⟨k,hk,rfl,hI,hB⟩:=hrel;by_cases hlt:k<s.length
  ·obtain⟨ch,hch⟩:∃ ch,s[k]?=some ch:=⟨_,Ad hlt⟩
   have hgk:=K8 s k hlt ch hch;have hlt':(k:Int)<(s.length:Int):=oM;have hI':CH.tailB ch=true->Hid ((s.take (k+1)).all CH.tailB=true):=fun ht=>Aa (by rw [Eo,hch,Gv,Ij,hI.out,a_Bool_true_and,Jh,Nj,ht];rfl);have hbad:CH.tailB ch=false->R=false:=fun ht=>by rw [<- hR.out];exact Ggi hch ht
   replace hch:=Aa hch;have W1:=Aa (W.out ch wr);generalize CH.tailB ch=tb at *;cases tb with
   |true =>
    have hI2:=hI' rfl;clear hI' hbad hI;go_wp2_with fail;refine W1.out.mono ?_;rintro e w1 ⟨rfl,hb1⟩;have hB1:=Aa (hB.out.trans (hb1.mono hB.out.size));go_wp2;go_roundw;case rel=>exact⟨k+1,oM,by go_num,hI2,hB1⟩
    case measure=>simp [ZG];omega
   |false =>have hb:=hbad rfl;clear hI' hbad hI;go_wp2_with fail;refine W1.out.mono ?_;rintro e w1 ⟨rfl,hb1⟩;have hB1:=Aa (hB.out.trans (hb1.mono hB.out.size));go_wp2;go_ret;subst hb;exact⟨rfl,hB1.out⟩
  ·obtain rfl:k=s.length:=oM;have hall:=hI.out;rw [Dx] at hall;cases s with
   |nil =>
    have hb:R=false:=by rw [<- hR.out];rfl
    go_wp2;go_ret;subst hb;exact⟨rfl,hB.out⟩
   |cons c l =>
    have hb:(ZH ((c::l).length<=24)&&CH.letterB c)=R:=by rw [<- hR.out,Ggj hall]
    have hp:(0:Int)<(l.length:Int)+1:=oM;have hg0:=K8 (c::l) 0 sM c rfl;by_cases h24:(c::l).length<=24;·have q:ZH ((l.length:Int)+1<=24)=true:=Az (by rw [Ar] at h24;omega);rw [Az h24,a_Bool_true_and] at hb;have L1:=Aa (L.out c wr);rw [hb] at L1;replace hb:=Aa hb;clear hI hall;go_wp2_with fail;refine L1.out.mono ?_;rintro e w1 ⟨rfl,hb1⟩;have hB1:=Aa (hB.out.trans (hb1.mono hB.out.size));go_wp2;go_ret;exact⟨rfl,hB1.out⟩
    ·have q:ZH ((l.length:Int)+1<=24)=false:=Aq (by rw [Ar] at h24;omega);rw [Aq h24,Bool.false_and] at hb;clear hI hall;subst hb;go_wp2;go_ret;exact⟨rfl,hB.out⟩
end
end Go.Proofs.YthapckjpmkkkpaaGreatDoor
namespace CH
def counts (msg:Version->Str) (known:Known) (n:Nat):List Int:=(List.range n).map fun (a:Nat)=>(((fol msg known (a:Int)).1.length:Nat):Int)
end CH
namespace Go.Proofs.YthapckjpmkkkpaaGreatDoor
open Go.RowKit Go.Lib Go.Shelf Go.Sort CH
theorem Ggw (msg:CH.Version->List UInt8) (known:CH.Known) (n:Nat):(CH.counts msg known n).length=n:=by simp [CH.counts]
theorem Ans (c r1 r2:Nat) (keys:List (List UInt8)) (known:CH.Known) (forks:CH.Forks) (a:Int) (w:ZB) (hG:Gc w) (hC:ChainAt w c r1 r2 keys known forks) (hn:∀ p v,(p,v)∈known->p.2<=200) : ZE Tryz.prog 24 #[.pointer (some ⟨c,0,none⟩),↑a] w (Q7 w w (fol CH.msg known a)):=by obtain⟨vk,h1,_⟩:=hC.ex;obtain⟨kvs,h2,h3⟩:=hC.known;exact Vu c r1 w known kvs a w hG (Ab h1 1) h2 h3 nR hn
def Lps (w:ZB) (ls:List Int) (e:Ending) (w':ZB):Prop:=∃ v,e=.returned v/\Dir w' w' v ls/\Below w w w'
theorem Len:(Tryz.prog.info? 3).map (fun i=>(i.zero,i.size,i.bytes))=some (some (.int .i64 0),1,8):=kR
def oC (cs:List Int) (N k:Nat):Array ZC:=((cs.take k++List.replicate (N - k) 0).map aJ).toArray
theorem I34 (cs:List Int) (N k:Nat) (x:Int) (hN:cs.length=N) (hk:k<N) (hx:cs[k]?=some x):(oC cs N k).setIfInBounds k ↑x=oC cs N (k+1):=by
 have h1:(cs.take k).length=k:=by rw [Dy];omega
 have h2:List.replicate (N - k) (0:Int)=0::List.replicate (N - (k+1)) 0:=by rw [<- J3];congr 1;omega
 unfold oC;rw [h2,Eo,hx,List.setIfInBounds_toArray];congr 1;rw [Fh,Ew,List.set_append_right _ _ (by rw [Dc,h1];exact Bv _),Dc,h1,Nat.sub_self];simp
theorem K10 (cs:List Int) (N k:Nat) (hN:cs.length=N) (hk:k<N):(oC cs N k)[k]?=some (.int .i64 0):=by
 have h1:(cs.take k).length=k:=by rw [Dy];omega
 unfold oC;rw [G9,Fh,Et (by rw [Dc,h1];exact Bv _),Dc,h1,Nat.sub_self];have:N - k=(N - k - 1)+1:=oM;rw [this,J3];rfl
theorem Hw2 (cs:List Int) (N:Nat) (hN:cs.length=N):oC cs N N=(cs.map aJ).toArray:=by unfold oC;rw [Di oM,Nat.sub_self];simp
theorem Eff (c r1 r2:Nat) (keys:List (List UInt8)) (known:CH.Known) (forks:CH.Forks) (w:ZB) (hG:Gc w) (hC:ChainAt w c r1 r2 keys known forks) (hn:∀ p v,(p,v)∈known->p.2<=200) (hkl:keys.length<=1000) : ZE Tryz.prog 45 #[.pointer (some ⟨c,0,none⟩)] w (Lps w (CH.counts CH.msg known keys.length)):=by
 have HF:=Aa fun (W:ZB) (hb:Below w w W) (k:Nat)=>Ans c r1 r2 keys known forks (k:Int) W (hG.below hb) (hC.below hb) hn;obtain⟨vk,gI,hks⟩:=hC.ex;obtain⟨ak,ck,rfl,_,_⟩:=hks.form;have iH:c<w.heap.size:=(aZ gI)
 have kc:w.cell? ⟨c,0,none⟩=some (.slice ak keys.length ck):=Ab gI 0;have hcl:=Ggw CH.msg known keys.length;have hat:∀ k,k<keys.length->(CH.counts CH.msg known keys.length)[k]?=some (((fol CH.msg known (k:Int)).1.length:Nat):Int):=fun k hk=>by unfold CH.counts;rw [Gg,Ls hk];rfl
 generalize CH.counts CH.msg known keys.length=cs at *;clear gI hks hC hn hG;generalize keys.length=N at *;have hat:=Aa hat;have hcl:=Aa hcl;have hmk:=fun W=>run_make_row' (P:=Tryz.prog) 102 3 (.int .i64 0) 8 Tryz.underlying102 Len rfl .i64 .i64 N oM oM W;go_enter Tryz.func45,Tryz.ntmps45;go_wp2_with fail;have hrow0:(w.alloc (.cells (madeCells #[.int .i64 0] N) 3)).heap[w.heap.size]?=some (.cells (oC cs N 0) 3 (0,0)):=by
  rw [Ai w _];congr 2;unfold oC;apply Array.ext';rw [H7,Dn,Nat.sub_zero,List.map_replicate];apply Jl;intro i;by_cases hi:i<N;·simp [madeCells,hi,Nat.mod_one]
  ·simp [madeCells,hi]
 have hBa:Below w w (w.alloc (.cells (madeCells #[.int .i64 0] N) 3)):=(Ac _ w).alloc nR _;clear hmk;generalize w.alloc (.cells (madeCells #[.int .i64 0] N) 3)=W at *;have hBa:=Aa hBa;have hrow0:=Aa hrow0;go_loopw [17] (fun i wr=>∃ k:Nat,k<=N/\i=↑k/\Hid (Below w w wr)/\Hid (wr.heap[w.heap.size]?=some (.cells (oC cs N k) 3 (0,0)))) (fun i _=>N - (ZG i).toNat);case atStart=>exact⟨0,Bg _,rfl,hBa,hrow0⟩
 case round =>
  obtain⟨k,hk,rfl,hBr,hrow⟩:=hrel;by_cases hlt:k<N
  ·go_wp2_with fail;refine (HF.out wr hBr.out k).mono ?_;rintro e w1 ⟨v,rfl,hO,hb1⟩;have hx:=Aa (hat.out k hlt);obtain⟨av,cv,rfl,_⟩:=hO.form;have hr1:=(hb1.block w (aZ hrow.out)).trans hrow.out;have hB1:Below w w w1:=hBr.out.trans (hb1.mono hBr.out.size);have kc0:w1.cell? ⟨w,k,none⟩=some (.int .i64 0):=(Ab hr1 k).trans (K10 cs N k hcl.out hlt);have kf0:w1.frozen? ⟨w,k,none⟩=false:=Be hr1 k;have hr2:=Bk w1 w k (.int .i64 (((fol CH.msg known (k:Int)).1.length:Nat):Int)) _ _ _ hr1;rw [I34 cs N k _ hcl.out hlt hx.out] at hr2;clear hO hb1 hr1 hrow hBr;generalize (fol CH.msg known (k:Int)).1.length=m at *;generalize (fol CH.msg known (k:Int)).2=s at *;have hB2:Hid (Below w w (w1.setCell ⟨w,k,none⟩ ↑m)):=Aa (hB1.setCell nR _);have hr2:=Aa hr2;have hB1:=Aa hB1;have z0:(0:Int)<=(k:Int):=oM;have zk:((k:Int)).toNat=k:=oM;have hk':(k:Int)<(N:Int):=oM;go_wp2;go_roundw;case rel=>exact⟨k+1,oM,by go_num,hB2,hr2⟩
   case measure=>simp [ZG];omega
  ·obtain rfl:k=N:=oM;have hfin:=hrow.out;rw [Hw2 cs k hcl.out] at hfin;have hlt2:=(aZ hfin)
   have hI:Dir wr wr (.slice (some ⟨w,0,none⟩) k k) cs:=by refine⟨_,k,by rw [hcl.out],by rw [hcl.out];exact Bv _,oM,fun _=>⟨w,0,rfl,hlt2,fun j n hj=>?_⟩⟩;rw [Bl,Ab hfin j];simp [hj]
   have hI:=Aa hI;have pR:=Aa hBr.out;clear hfin hrow;go_wp2;go_ret;exact⟨_,rfl,hI.out,pR.out⟩
end Go.Proofs.YthapckjpmkkkpaaGreatDoor
