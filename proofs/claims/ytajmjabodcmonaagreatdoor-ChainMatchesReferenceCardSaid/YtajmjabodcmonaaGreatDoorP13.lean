/- ChainMatch, part 14 of 26. -/
import Derived.Test.YtajmjabodcmonaaGreatDoorP10
import Derived.Test.YtajmjabodcmonaaGreatDoorP11
import Derived.Test.YtajmjabodcmonaaGreatDoorP12
import Derived.Deep.OwnRows
set_option linter.all false
set_option maxHeartbeats 40000000
set_option maxRecDepth 100000
open Go renaming World -> ZB, Value -> ZC, Calls -> ZE
open Go.RowKit renaming intOf -> ZG
open Decidable renaming decide -> ZH
namespace CH
def fZ (v:Version):Version:={ v with sel:=⟨0,[],[]⟩ }
def message (v:Version):Except Int Str:=match bY (fZ v) with
 |.error e=>.error e
 |.ok _=>.ok (sum ((bare v).getD []))
def msg (v:Version):Str:=match message v with
 |.error _=>[]
 |.ok m=>m
theorem jD (v:Version):bare (fZ v)=bare v:=rfl
end CH
namespace Go.Proofs.Y
open Go.RowKit Go.Lib Go.Shelf Go.Sort CH
theorem Hct:Hdv:=fun a s W hG h=>I38 a s W hG h fun W' hb=>At0 a s W' (hG.below hb) ((h.below hb nR).mono hb.size)
theorem Ti (v:Q01) (s:aS) (w:ZB) (hG:Gc w) (h:aG w w v s) : ZE Tryz.prog 35 #[.agg (Al v s).toArray] w (Ret w (iQ (CH.bare v))):=Ptr Hct v s w hG h
def Hk:Except Int Q00->ZC
 |.ok t=>.tuple #[↑t,.int .i64 0]
 |.error e=>.tuple #[.string ⟨#[]⟩,↑e]
theorem Td {v:Q01} {s:aS} {B:Nat} {w:ZB} {t:Q00} (hb:CH.bare v=some t) (h:aG B w v s):t.length<=5000000000:=by
 rw [Tf] at hb;split at hb;·cases hb
 ·rename_i hc;obtain⟨u,hu,rfl⟩:=Jz.1 hb;have h40:v.acts.length<=40:=by simp only [Ec,F9,Lu,J6,Dc,not_and] at hc;omega
  have hs:∀ a∈v.acts,(aP a).isSome=true:=fun a ha=>by
   cases he:aP a with
   |none=>rw [Kc he v.acts ha] at hu;cases hu
   |some _=>rfl
  rw [Kb v.acts hs] at hu;cases hu;have h1:=Wz h.acts.acts;have h2:=Dh 100000101 h40;have h3:=R5 h.small;simp only [Ah,Di];omega
def Ga (s:xu):List CH.Word:=[.str ([115,101,97,108]:Q00),.int s.index,.strs s.sig,.str [47],.strs s.path]
theorem Z3 {s:xu} (hi:I64 s.index) (h1:Fx s.sig) (h2:Fx s.path) (h18:s.sig.length<=18) (h8:s.path.length<=8):(CH.words (Ga s)).length<=1000000:=by
 have h3:((Ga s).flatMap CH.Word.texts).length<=80:=by unfold Ga;simp only [Dx,Gx,Ah,Lb,Bj];show 1+(1+(s.sig.length+(1+(s.path.length+0))))<=80;omega
 refine Af (Q1 _ 10000 80 ?_ h3) dC;intro x hx;simp only [Ga,Bl,Ci,Et] at hx;rcases hx with rfl|rfl|rfl|rfl|rfl;·exact Cv _ sM
 ·exact Cw _ hi
 ·exact h1.2
 ·exact Cv _ sM
 ·exact h2.2
theorem Qm (v:Q01):bY v=match CH.bare v with
  |none=>.error 1
  |some s=>if ZH (v.sel.index<0)||(ZH (255<v.sel.index)||(!bJ v.sel.sig 18||!bJ v.sel.path 8)) then .error 1
   else if 20000<(s++(CH.words (Ga v.sel)++[10])).length then .error 2 else .ok (s++(CH.words (Ga v.sel)++[10])):=by
 unfold bY CH.within Ga
 cases CH.bare v with
 |none=>rfl
 |some s =>
  dsimp only
  have e1:ZH (0<=v.sel.index)=!ZH (v.sel.index<0):=by
   by_cases h:v.sel.index<0
   ·rw [Am h,Ak oM];rfl
   ·rw [Ak h,Am oM];rfl
  have e2:ZH (v.sel.index<=255)=!ZH (255<v.sel.index):=by
   by_cases h:255<v.sel.index
   ·rw [Am h,Ak oM];rfl
   ·rw [Ak h,Am oM];rfl
  rw [e1,e2,Dv]
  cases ZH (v.sel.index<0) <;> cases ZH (255<v.sel.index) <;> cases bJ v.sel.sig 18 <;> cases bJ v.sel.path 8 <;> rfl
theorem Mb (v:Q01) (s:aS) (w:ZB) (hG:Gc w) (h:aG w w v s) : ZE Tryz.prog 32 #[.agg (Al v s).toArray] w (Ret w (Hk (bY v))):=by
 obtain⟨R,hR⟩:∃ R,Hid (Hk (bY v)=R):=⟨_,Aa rfl⟩
 rw [hR.out];have hR1:=hR.out;rw [Qm] at hR1;clear hR;have hB0:=fun o=>(Ac _ w).alloc nR o;have HV:=Aa fun (W:ZB) (hb:Below w w W)=>(h.below hb nR).mono hb.size;have T:=fun (W:ZB) (hb:Below w w W)=>Ti v s W (hG.below hb) (HV.out W hb);obtain⟨t,ht⟩:∃ t,CH.bare v=t:=⟨_,rfl⟩
 have hl:∀ x,t=some x->x.length<=5000000000:=fun x hx=>Td (ht.trans hx) h;rw [ht] at T hR1;have T:=Aa T;have hR1:=Aa hR1;have HS:=Aa h.small;obtain⟨va,v1,v2⟩:=s;clear h ht;generalize hC:Al v { va:=va,v1:=v1,v2:=v2 }=C at T ⊢;have hlen:(Tryz.prog.info? 38).map (·.size)=some C.length:=by rw [<- hC];kernel_rfl
 have hC:=Aa hC;have hr0:=Aa (Bp w C 38);go_enter Tryz.func32,Tryz.ntmps32;go_wp2_with (refine Bd rfl 38 _ rfl w 0 rfl C _ hr0.out Tryz.underlying38 rfl hlen ?_)
 refine CmZ (T.out _ (hB0 _)) fun w1 hb1=>?_;clear T;have hB1:Below w w w1:=(hB0 _).trans (hb1.mono sM);have hlt1:w.heap.size<w1.heap.size:=Ae sM hb1.size;have hr1:w1.rangeAt w 0 C:=A6 hr0.out hb1 sM;rw [<- hC.out] at hr1;have r5:w1.rangeAt w 5 [aJ v.sel.index,v1,v2]:=Cx (l:=[aJ v.authority,aJ v.number,aJ v.pos,aA v.prev,va]) hr1 5 rfl;have k5:w1.cell? ⟨w,5,none⟩=some ↑v.sel.index:=hr1 5 _ rfl;have k6:w1.cell? ⟨w,6,none⟩=some v1:=hr1 6 _ rfl;have k7:w1.cell? ⟨w,7,none⟩=some v2:=hr1 7 _ rfl;clear hb1 hr0 hr1 hlen r5;have hv1:Strs w1 w1 v1 v.sel.sig:=(HV.out w1 hB1).sig;have hv2:Strs w1 w1 v2 v.sel.path:=(HV.out w1 hB1).path;obtain⟨a1,c1,rfl,_,_⟩:=hv1.form;obtain⟨a2,c2,rfl,_,_⟩:=hv2.form;have wR:=fun o=>(Ac _ w1).alloc nR o;cases t with
 |none =>exact FD147
 |some t =>
  have hl:=hl t rfl;dsimp only at hR1;dsimp only [iQ];obtain⟨b1,h1⟩:∃ b,ZH (v.sel.index<0)=b:=⟨_,rfl⟩
  obtain⟨b2,h2⟩:∃ b,ZH (255<v.sel.index)=b:=⟨_,rfl⟩
  have D1:=fun (W:ZB) (hb:Below w1 w1 W)=>Ss _ v.sel.sig 18 W ((hG.below hB1).gl.below hb) ((hv1.below hb nR).mono hb.size) (fun l hl=>Af (HS.out.sig.2 l hl) dC);have D2:=fun (W:ZB) (hb:Below w1 w1 W)=>Ss _ v.sel.path 8 W ((hG.below hB1).gl.below hb) ((hv2.below hb nR).mono hb.size) (fun l hl=>Af (HS.out.path.2 l hl) dC);obtain⟨b3,h3⟩:∃ b,bJ v.sel.sig 18=b:=⟨_,rfl⟩
  obtain⟨b4,h4⟩:∃ b,bJ v.sel.path 8=b:=⟨_,rfl⟩
  rw [h1,h2,h3,h4] at hR1;rw [h3] at D1;rw [h4] at D2;have D1:=Aa D1;have D2:=Aa D2;have H3:=Aa h3;have H4:=Aa h4;have hv1:=Aa hv1;have hv2:=Aa hv2;clear h3 h4;generalize hn1:v.sel.sig.length=n1 at *;generalize hn2:v.sel.path.length=n2 at *;have hn1:=Aa hn1;have hn2:=Aa hn2;rcases (by cases b1 <;> cases b2 <;> simp:(b1=true)\/(b1=false/\b2=true)\/(b1=false/\b2=false)) with rfl|⟨rfl,rfl⟩|⟨rfl,rfl⟩;·exact FD33
  ·exact FD33
  ·go_wp2_with fail;refine CmZ (D1.out _ (wR _)) fun w2 hb2=>?_;have hblk:=(hb2.block w1 sM).trans (Aw w1 _);have hlt2:w1.heap.size<w2.heap.size:=(aZ hblk)
   have g0:w2.cell? ⟨w1,0,none⟩=some ↑v.sel.index:=Ab hblk 0;have g1:w2.cell? ⟨w1,1,none⟩=some (.slice a1 n1 c1):=Ab hblk 1;have g2:w2.cell? ⟨w1,2,none⟩=some (.slice a2 n2 c2):=Ab hblk 2;have qR:Below w1 w1 w2:=(wR _).trans (hb2.mono sM);have hB2:Below w w w2:=hB1.trans (qR.mono hB1.size);clear D1 hb2 hblk;cases b3 with
   |false =>exact FD63
   |true =>
    go_wp2_with fail;refine CmZ (D2.out _ qR) fun w3 hb3=>?_;have m0:=(hb3.cell (p:=⟨w1,0,none⟩) hlt2).trans g0;have m1:=(hb3.cell (p:=⟨w1,1,none⟩) hlt2).trans g1;have m2:=(hb3.cell (p:=⟨w1,2,none⟩) hlt2).trans g2;have hB3:Below w w w3:=hB2.trans (hb3.mono hB2.size);have tC:Below w1 w1 w3:=qR.trans (hb3.mono qR.size);clear D2 hb3 g0 g1 g2;cases b4 with
    |false =>go_wp2;refine Aj (Aq rfl _ _ _) rfl ?_;exact⟨by rw [<- hR1.out];rfl,hB3⟩
    |true =>
     have h18:v.sel.sig.length<=18:=by have:=H3.out;unfold bJ at this;simp only [Bool.and_eq_true,decide_eq_true_eq] at this;exact this.1
     have h8:v.sel.path.length<=8:=by have:=H4.out;unfold bJ at this;simp only [Bool.and_eq_true,decide_eq_true_eq] at this;exact this.1
     have hwl:=Z3 HS.out.index HS.out.sig HS.out.path h18 h8;have hWV:Im w3 w3 (Ga v.sel) [.iface 9 (aA ([115,101,97,108]:Q00)),.iface 3 ↑v.sel.index,.iface 22 (.slice a1 n1 c1),.iface 9 (aA [47]),.iface 22 (.slice a2 n2 c2)] := ⟨rfl,⟨rfl,HS.out.index⟩,⟨_,rfl,(hv1.out.below tC nR).mono tC.size,oM⟩,rfl,⟨_,rfl,(hv2.out.below tC nR).mono tC.size,oM⟩,trivial⟩
     have WN:=Aa fun T=>K3 (Ga v.sel) _ T 5 w3 (hG.below hB3).gl hWV rfl dC oM;generalize hWW:CH.words (Ga v.sel)=WW at *;have hl4:¬ (9223372036854775807<WW.length+1):=oM;have hl5:¬ (9223372036854775807<t.length+(WW.length+1)):=oM;have hR2:Hid (Hk (if 20000<(t++(WW++[10])).length then .error 2 else .ok (t++(WW++[10])))=R):=Aa (by rw [<- hR1.out];rfl);clear hR1 hWV h18 h8;go_wp2_with fail;refine CmZ (WN.out _) fun w4 hb4=>?_;have hB4:Below w w w4:=(hB3.alloc hB3.size _).trans (hb4.mono (hB3.alloc hB3.size _).size);clear WN hb4;have BD:(⟨t.toArray⟩++(⟨WW.toArray⟩++⟨#[10]⟩):ByteArray)=⟨(t++(WW++[10])).toArray⟩:=by rw [<- bytes_append,<- bytes_append]
     have hsz:(⟨t.toArray⟩++(⟨WW.toArray⟩++⟨#[10]⟩):ByteArray).size=t.length+(WW.length+1):=by rw [BD];simp [ByteArray.size]
     by_cases h20:20000<t.length+(WW.length+1)
     ·have q:ZH ((20000:Int)<((t.length+(WW.length+1):Nat):Int))=true:=by simp;omega
      exact FD155
     ·have q:ZH ((20000:Int)<((t.length+(WW.length+1):Nat):Int))=false:=by simp;omega
      have hR3:Hid (Hk (.ok (t++(WW++[10])))=R):=Aa (by rw [<- hR2.out,Ai (by simpa using h20)]);exact FD52
theorem aG.fZ {B:Nat} {w:ZB} {v:Q01} {s:aS} (h:aG B w v s):aG B w (CH.fZ v) ⟨s.va,.slice none 0 0,.slice none 0 0⟩ := ⟨h.acts,⟨none,0,rfl,Bg _,dC,fun e=>absurd rfl e⟩,⟨none,0,rfl,Bg _,dC,fun e=>absurd rfl e⟩, ⟨h.small.authority,h.small.number,h.small.pos,h.small.prev,⟨by show (-9223372036854775808:Int)<=0;decide,by show (0:Int)<=9223372036854775807;decide⟩,⟨by simp [CH.fZ],fun l hl=>by cases hl⟩,⟨by simp [CH.fZ],fun l hl=>by cases hl⟩⟩⟩
theorem R6 {v:Q01} {t:Q00} (h:bY v=.ok t):∃ u,CH.bare v=some u:=by
 rw [Qm] at h;cases hb:CH.bare v with
 |none=>rw [hb] at h;cases h
 |some u=>exact⟨u,rfl⟩
theorem M0 {v:Q01} {e:Int} (h:bY v=.error e):e=1\/e=2:=by
 rw [Qm] at h;cases hb:CH.bare v with
 |none=>rw [hb] at h;cases h;exact .inl rfl
 |some u =>
  rw [hb] at h;dsimp only at h;split at h;·cases h;exact .inl rfl
  ·split at h;·cases h;exact .inr rfl
   ·cases h
theorem Qe (v:Q01):CH.message v=match bY (fZ v) with
 |.error e=>.error e
 |.ok _=>.ok (CH.sum ((CH.bare v).getD [])):=rfl
theorem Pa (v:Q01) (s:aS) (w:ZB) (hG:Gc w) (h:aG w w v s) : ZE Tryz.prog 24 #[.agg (Al v s).toArray] w (Ret w (Hk (CH.message v))):=by
 obtain⟨R,hR⟩:∃ R,Hid (Hk (CH.message v)=R):=⟨_,Aa rfl⟩
 rw [hR.out];have hR1:=hR.out;rw [Qe] at hR1;have hB0:=fun o=>(Ac _ w).alloc nR o;have h0:=h.fZ;have HV:=Aa fun (W:ZB) (hb:Below w w W)=>(h0.below hb nR).mono hb.size;have T:=fun (W:ZB) (hb:Below w w W)=>Mb (fZ v) _ W (hG.below hb) (HV.out W hb);have TB:=fun (W:ZB) (hb:Below w w W)=>Ti (fZ v) _ W (hG.below hb) (HV.out W hb);rw [jD] at TB;obtain⟨t,ht⟩:∃ t,CH.bare v=t:=⟨_,rfl⟩
 obtain⟨x,hx⟩:∃ x,bY (fZ v)=x:=⟨_,rfl⟩
 have hl:∀ u,t=some u->u.length<=5000000000:=fun u hu=>Td (ht.trans hu) h;have hsome:∀ y,x=.ok y->∃ u,t=some u:=fun y hy=>by obtain⟨u,hu⟩:=R6 (hx.trans hy);rw [jD,ht] at hu;exact⟨u,hu⟩
 have herr:∀ e,x=.error e->e≠0:=fun e he=>by exact FD122
 rw [hx,ht] at hR1;rw [hx] at T;rw [ht] at TB;obtain⟨va,v1,v2⟩:=s;clear h h0 hx ht hR;dsimp only [Al,fZ] at T TB ⊢;have T:=Aa T;have TB:=Aa TB;have hR1:=Aa hR1;have hsz:∀ o,(w.alloc o).heap.size=w.heap.size+1:=fun o=>by simp
 go_enter Tryz.func24,Tryz.ntmps24;go_wp2_with fail;refine CmZ (T.out _ (hB0 _)) fun w1 hb1=>?_;have hB1:Below w w w1:=(hB0 _).trans (hb1.mono sM);have hblk:=(hb1.block w sM).trans (Aw w _);have k0:=Ab hblk 0;have k1:=Ab hblk 1;have k2:=Ab hblk 2;have k3:=Ab hblk 3;have k4:=Ab hblk 4;have k5:=Ab hblk 5;have k6:=Ab hblk 6;have k7:=Ab hblk 7;clear T hb1 hblk hsz;cases x with
 |error e =>
  dsimp only [Hk];dsimp only at hR1;have q:(e==0)=false:=by simpa using herr e rfl
  clear herr hsome hl;exact FD100
 |ok y =>obtain⟨u,rfl⟩:=hsome y rfl;dsimp only [Hk];have S:=Aa fun W hG=>V5 u W hG (Af (hl u rfl) dC);dsimp only [Option.getD_some] at hR1;go_wp2_with fail;refine CmZ (TB.out _ hB1) fun w2 hb2=>?_;have hB2:Below w w w2:=hB1.trans (hb2.mono hB1.size);clear TB;dsimp only [iQ];go_wp2_with fail;refine (S.out _ (hG.below hB2).gl).mono ?_;exact FD107
theorem I60 {v:Q01} {u:Q00} (h:CH.bare v=some u):0<=v.authority/\v.authority<6/\1<=v.number/\v.number<=200/\0<=v.pos:=by
 rw [Tf] at h;split at h;·cases h
 ·rename_i hc;simp only [Ec,F9,Lu,Ko,Ba,Bq] at hc;omega
theorem Ux {v:Q01} {m:Q00} (h:CH.message v=.ok m):m.length=16:=by
 rw [Qe] at h;split at h;·cases h
 ·cases h;exact dL _
theorem I50 (v:Q01):(CH.msg v).length<=16:=by
 unfold CH.msg;cases h:CH.message v with
 |error e=>simp
 |ok m=>rw [Ux h];exact Bg _
def Uh:Except Int Q00->Int
 |.ok _=>0
 |.error e=>e
theorem Th (v:Q01):Hk (CH.message v)=.tuple #[.string ⟨(CH.msg v).toArray⟩,.int .i64 (Uh (CH.message v))]:=by unfold CH.msg;cases CH.message v <;> rfl
end Go.Proofs.Y
namespace Go.Proofs.Y
section
open Go.Lib Go.Proofs.Tryz Go.RowKit Go.Shelf Go.Sort CH
variable {w:ZB} {B:Nat} {v:ZC} {ls:List Q01}
def Bal:ZC->Nat
 |.slice _ n _=>n
 |_=>0
def Un (w:ZB) (B:Nat) (r:List Q01 × Q00) (e:Ending) (w':ZB):Prop := ∃ v,e=.returned (.tuple #[v,↑r.2])/\Bi w B w' v r.1/\Below w w w'
theorem Met (w:ZB):(zeroValue 38).run prog w=.ok (.agg #[.int .i64 0,.int .i64 0,.int .i64 0,.string ⟨#[]⟩,.slice none 0 0,.int .i64 0,.slice none 0 0,.slice none 0 0]) w:=kR
theorem Hb3 (w:ZB) (o1 o2:Obj):((w.alloc o1).alloc o2).heap[w.heap.size]?=some o1 := (((Ac _ (w.alloc o1)).alloc nR o2).block w.heap.size sM).trans (Aw w o1)
theorem Bu {w':ZB} {row:Option Nat} {C:Nat} (h:w.grownBy w' row) (hC:C<=w.heap.size) (hr:∀ j,row=some j->C<=j):Below C w w' := ⟨h.os,h.tape,h.output,h.size,fun k hk=>h.block k oM (fun e=>by have:=hr k e.symm;omega)⟩
theorem Wq (xs:List (Q01 × aS)) (v:Q01) (s:aS):A9 (xs++[(v,s)])=A9 xs++Al v s:=by unfold A9;rw [Hg];simp
theorem Bi.form {base:Nat} (h:Bi base B w v ls):∃ av cv,v=.slice av ls.length cv/\ls.length<=cv:=by
 obtain⟨xs,hx1,hx2,hx3,hx4,hx5⟩:=h;obtain⟨hlen,⟨rfl,h0⟩|⟨g,cap,cur,rfl,hb,hg,hn,hc,hsz,htk⟩⟩:=hx2;·exact⟨none,0,by rw [h0],oM⟩
 ·exact⟨_,cap,rfl,hn⟩
theorem Ggs (known:List ((Int × Int) × Q01)) (a:Int) (f:Nat) (out:List Q01) (hd:Q00) (last:Int) (h:bH (a,(out.length:Int)+1) known=none):CH.follow CH.msg known a f out hd last=(out,hd):=by
 cases f with
 |zero=>rfl
 |succ f=>rw [CH.follow,h]
theorem Yo (c r1 B:Nat) (known:List ((Int × Int) × Q01)) (kvs:List ((Int × Int) × ZC)) (a:Int) (w:ZB) (hG:Gc w) (hc1:w.cell? ⟨c,1,none⟩=some (.map (some r1))) (hm0:Co Bk r1 w kvs) (nC:KVs B w kvs known) (hBw:B<=w.heap.size) (hn:∀ p v,(p,v)∈known->p.2<=200) : ZE prog 41 #[.pointer (some ⟨c,0,none⟩),↑a] w (Un w B (fol CH.msg known a)):=by
 obtain⟨R,hR⟩:∃ R,Hid (fol CH.msg known a=R):=⟨_,Aa rfl⟩
 rw [hR.out];have eF:c<w.heap.size:=Ez w _ hc1;replace hc1:=Aa hc1;replace hm0:=Aa hm0;replace nC:=Aa nC;replace hn:=Aa hn;go_enter func41,ntmps41;go_wp2_with fail;go_loopw [6,7,8] (fun ov hv lv wr=>∃ (out:List Q01) (hd:Q00) (last:Int) (f:Nat),Hid (Bi w B wr ov out)/\hv=↑hd/\lv=↑last/\Hid (Below w w wr)/\f+out.length=201/\Hid (CH.follow CH.msg known a f out hd last=R)) (fun ov _ _ _=>201 - Bal ov);case atStart=>exact⟨[],[],0,201,Aa (Bi.nil hBw nR),rfl,rfl,Aa (Ac _ _),rfl,hR⟩
 case round =>
  obtain⟨out,hd,last,f,hO,rfl,rfl,hB,hf,hI⟩:=hrel;obtain⟨av,cv,rfl,hcv⟩:=hO.out.form;have hm:=hm0.out.below hB.out;have hkv:=nC.out;have c1:wr.cell? ⟨c,1,none⟩=some (.map (some r1)):=(hB.out.cell (p:=⟨c,1,none⟩) eF).trans hc1.out;have L:=Lk underlying77 _ Met hm (a,(out.length:Int)+1);have MK:out.length<=201:=oM;cases hlk:bH (a,(out.length:Int)+1) known with
  |none =>have hRR:(out,hd)=R:=(Ggs known a f out hd last hlk).symm.trans hI.out;rw [hkv.none 0 hlk] at L;simp only [N8,Ny,Option.isSome_none] at L;subst hRR;clear hI hkv hm;generalize hN:out.length=n at *;replace hN:=Aa hN;dsimp only [Bk] at L;clear hR;exact FD49
  |some v =>
   obtain⟨j,s,hfk,hvs⟩:=hkv.some 0 hlk;rw [hfk] at L;simp only [Gq,Me,Option.isSome_some] at L;have yw:=hn.out _ _ (gG hlk);dsimp only at yw;obtain⟨f,rfl⟩:∃ f',f=f'+1:=⟨f - 1,oM⟩
   have hI1:=hI.out;rw [CH.follow,hlk] at hI1;dsimp only at hI1;have hB2:=hB.out;have hBp:Below B w wr:=hB2.mono hBw;obtain⟨jj,s',ED,hvs'⟩:=nC.out.some 0 hlk;have hss:s'=s/\aG B w v s:=by rw [ED] at hfk;simp only [Fe,Hu,Value.agg.injEq] at hfk;have:=congrArg Array.toList hfk.2;simp only [Al] at this;obtain⟨x1,x2,x3⟩:=s;obtain⟨y1,y2,y3⟩:=s';simp at this;obtain⟨e1,e2,e3⟩:=this;subst e1 e2 e3;exact⟨rfl,hvs'⟩
   have hvs:=hss.2;clear hss hvs' ED;have HV:=Aa fun (W:ZB) (hb:Below w w W)=>hvs.below hb hBw;have M:=fun (W:ZB) (hb:Below w w W)=>Pa v s W (hG.below hb) ((HV.out W hb).mono (Af hBw hb.size));simp only [Th] at M;generalize Uh (CH.message v)=me at M;have hone:=Aa (Ha hvs);obtain⟨va,v1,v2⟩:=s;obtain⟨xa,ya,e1,_,_⟩:=hvs.acts.form;obtain⟨x1,y1,e2,_,_⟩:=hvs.sig.form;obtain⟨x2,y2,e3,_,_⟩:=hvs.path.form;change va=_ at e1;change v1=_ at e2;change v2=_ at e3;subst e1 e2 e3;clear hvs hkv hfk hI hR hm;have eb:((⟨v.prev.toArray⟩:ByteArray)==⟨hd.toArray⟩)=(v.prev==hd):=Cr _ _;obtain⟨b1,hb1⟩:∃ b,(v.prev==hd)=b:=⟨_,rfl⟩
   obtain⟨b2,hb2⟩:∃ b,ZH (v.pos<last)=b:=⟨_,rfl⟩
   have ebn:(v.prev != hd)=!b1:=by rw [<- hb1];rfl
   rw [ebn,hb2] at hI1;rw [hb1] at eb;replace hI1:=Aa hI1;replace hlk:=Aa hlk;clear ebn;dsimp only [Al,Bk] at L M;replace M:=Aa M;generalize hN:out.length=n at *;replace hN:=Aa hN;generalize v.acts.length=n0 at *;generalize v.sel.sig.length=n1 at *;generalize v.sel.path.length=n2 at *;rcases (by cases b1 <;> cases b2 <;> simp:(b1=false)\/(b1=true/\b2=true)\/(b1=true/\b2=false)) with rfl|⟨rfl,rfl⟩|⟨rfl,rfl⟩
   ·have hRR:(out,hd)=R:=by rw [<- hI1.out];rfl
    subst hRR;exact FD49
   ·have hRR:(out,hd)=R:=by rw [<- hI1.out];rfl
    subst hRR;exact FD49
   ·have hI2:Hid (CH.follow CH.msg known a f (out++[v]) (CH.msg v) v.pos=R):=Aa (by rw [<- hI1.out];rfl);clear hI1;obtain⟨xs,hx1,hx2,hx3,hx4,hx5⟩:=hO.out;rw [hN.out] at hx2;have hW2:∀ o1 o2,((wr.alloc o1).alloc o2).ownsRow w.heap.size 38 8 (.slice av n cv) n (A9 xs):=fun o1 o2=>Ik (Ik hx2 o1) o2;have hsz:=hB2.size;have hx3:=Aa hx3;have hx1:=Aa hx1;have hob:∀ j,(Value.slice av n cv).ownBlock=some j->w.heap.size<=j:=by exact FD116
    have zf:∀ j,(Value.slice av n cv).ownBlock=some j->j<wr.heap.size:=by
     obtain⟨_,⟨e,_⟩|⟨g,cap,cur,e,_,hg,_⟩⟩:=hx2;·rw [e];intro j hj;cases hj
     ·rw [e];intro j hj;simp [Value.ownBlock] at hj;subst hj;exact (aZ hg)
    have hob:=Aa hob;have zf:=Aa zf;have hW2:=Aa hW2;clear hx2;go_wp2_with (at_builtin;refine Vn rfl _ _ rfl w _ n (A9 xs) rfl (hW2.out _ _) _ 1 [↑v.authority,↑v.number,↑v.pos,↑v.prev,.slice xa n0 ya,↑v.sel.index,.slice x1 n1 y1,.slice x2 n2 y2] rfl (.inl ⟨⟨wr+1,0,none⟩,1,rfl,?c1⟩) rfl ?c2 ?c3 ?c4 ?_)
    case c1 =>intro j u hj;rw [Go.WideShapes.add_plain];have:=Bp (wr.alloc (.cells #[↑v.authority,↑v.number,↑v.pos,↑v.prev,.slice xa n0 ya,↑v.sel.index,.slice x1 n1 y1,.slice x2 n2 y2] 38)) [↑v.authority,↑v.number,↑v.pos,↑v.prev,.slice xa n0 ya,↑v.sel.index,.slice x1 n1 y1,.slice x2 n2 y2] 38 j u hj;rwa [Dt] at this
    case c2=>exact hone.out
    case c3=>omega
    case c4=>simp;omega
    ·intro v' w' g1 g2 g3;have hBa:Below w w ((wr.alloc (.cells #[↑v.authority,↑v.number,↑v.pos,↑v.prev,.slice xa n0 ya,↑v.sel.index,.slice x1 n1 y1,.slice x2 n2 y2] 38)).alloc (.cells #[↑v.authority,↑v.number,↑v.pos,↑v.prev,.slice xa n0 ya,↑v.sel.index,.slice x1 n1 y1,.slice x2 n2 y2] 38)):=(hB2.alloc hB2.size _).alloc (by simp;omega) _;have hbl:=Hb3 wr (.cells #[↑v.authority,↑v.number,↑v.pos,↑v.prev,.slice xa n0 ya,↑v.sel.index,.slice x1 n1 y1,.slice x2 n2 y2] 38) (.cells #[↑v.authority,↑v.number,↑v.pos,↑v.prev,.slice xa n0 ya,↑v.sel.index,.slice x1 n1 y1,.slice x2 n2 y2] 38);have hgb:Below w ((wr.alloc (.cells #[↑v.authority,↑v.number,↑v.pos,↑v.prev,.slice xa n0 ya,↑v.sel.index,.slice x1 n1 y1,.slice x2 n2 y2] 38)).alloc (.cells #[↑v.authority,↑v.number,↑v.pos,↑v.prev,.slice xa n0 ya,↑v.sel.index,.slice x1 n1 y1,.slice x2 n2 y2] 38)) w':=Bu g2 hBa.size hob.out;have hB3:Below w w w':=hBa.trans hgb;have gV:=(g2.block wr (by simp;omega) (fun e=>by have:=zf.out _ e.symm;omega)).trans hbl;have hV3:=Aa (HV.out w' hB3);have hlt3:wr.heap.size<w'.heap.size:=(aZ gV)
     have hO3:Bi w B w' v' (out++[v]):=by
      refine⟨xs++[(v,⟨.slice xa n0 ya,.slice x1 n1 y1,.slice x2 n2 y2⟩)],by rw [Ep,hx1.out];rfl,?_,?_,hx4,hB3.size⟩;·rw [Ah,hN.out,Di];rw [Wq];exact g1
      ·intro x hx;rcases Dp.1 hx with h|h;·have q:=hx3.out x h;exact q.below ((((Ac B wr).alloc (Af hBw hsz) _).alloc (by simp;omega) _).trans (hgb.mono hBw)) nR
       ·cases Ce.1 h;exact hV3.out
     obtain⟨a',c',rfl,_⟩:=hO3.form;have hlen3:(out++[v]).length=n+1:=by rw [Ah,hN.out];rfl
     rw [hlen3];have k0:w'.cell? ⟨wr,0,none⟩=some ↑v.authority:=Ab gV 0;have k1:w'.cell? ⟨wr,1,none⟩=some ↑v.number:=Ab gV 1;have k2:w'.cell? ⟨wr,2,none⟩=some ↑v.pos:=Ab gV 2;have k3:w'.cell? ⟨wr,3,none⟩=some ↑v.prev:=Ab gV 3;have k4:w'.cell? ⟨wr,4,none⟩=some (.slice xa n0 ya):=Ab gV 4;have k5:w'.cell? ⟨wr,5,none⟩=some ↑v.sel.index:=Ab gV 5;have k6:w'.cell? ⟨wr,6,none⟩=some (.slice x1 n1 y1):=Ab gV 6;have k7:w'.cell? ⟨wr,7,none⟩=some (.slice x2 n2 y2):=Ab gV 7;have hO3:=Aa hO3;have hlen3:=Aa hlen3;clear hgb hBa g1 g2 g3 hbl gV hW2 hone;go_wp2_with fail;refine CmZ (M.out w' hB3) fun w4 hb4=>?_;have hB4:Hid (Below w w w4):=Aa (hB3.trans (hb4.mono hB3.size));have hO4:Hid (Bi w B w4 (.slice a' (n+1) c') (out++[v])):=Aa (by have:=hO3.out.below hb4;rwa [hlen3.out] at this);clear k0 k1 k2 k3 k4 k5 k6 k7 hb4 hO3;go_wp2;go_roundw;case rel=>exact⟨out++[v],CH.msg v,v.pos,f,hO4,rfl,rfl,hB4,by have:=hlen3.out;omega,hI2⟩
     case measure=>simp [Bal];omega
def L3 (B:Nat) (w:ZB) (v:ZC) (ls:List Q01):Prop := ∃ a cap,v=.slice a ls.length cap/\ls.length<=cap/\cap<=9223372036854775807 /\ (ls≠[]->∃ b off,a=some ⟨b,off,none⟩/\b<B/\∀ j x,ls[j]?=some x->∃ s,(∀ i u,(Al x s)[i]?=some u->w.cell? ⟨b,off+j*8+i,none⟩=some u)/\aG B w x s)
theorem L3.below {B':Nat} {w':ZB} (h:L3 B w v ls) (hb:Below B' w w') (hB:B<=B'):L3 B w' v ls:=by exact FD44
theorem L3.mono {B':Nat} (h:L3 B w v ls) (hB:B<=B'):L3 B' w v ls:=by exact FD24
def Wh (w:ZB) (ls:List Q01) (e:Ending) (w':ZB):Prop:=∃ v,e=.returned v/\L3 w' w' v ls/\Below w w w'
theorem Eff {base:Nat} (h:Bi base B w v ls):∃ xs:List (Q01 × aS),xs.map (·.1)=ls/\Fy w v ls.length (A9 xs)/\(∀ x∈xs,aG B w x.1 x.2)/\∀ u∈A9 xs,u.oneCell'=true:=by
 obtain⟨xs,h1,h2,h3,h4,h5⟩:=h;have hl:xs.length=ls.length:=by rw [<- h1,Bh]
 refine⟨xs,h1,?_,h3,?_⟩
 ·have h2':=h2;obtain⟨hlen,⟨rfl,h0⟩|⟨g,cap,cur,rfl,hb,hg,hn,hc,hsz,htk⟩⟩:=h2;·have:xs=[]:=Bo.1 oM;subst this;exact .inr ⟨0,rfl,h0,rfl⟩
  ·refine .inl ⟨⟨g,0,none⟩,cap,rfl,fun j u hj=>?_⟩;have hjl:=(lS hj)
   rw [Kg,hl] at hjl;rw [Go.WideShapes.add_plain,Bf,Fq h2' j oM];exact hj
 ·intro u hu;unfold A9 at hu;obtain⟨x,hx,hux⟩:=List.mem_flatMap.1 hu;exact Ha (h3 x hx) u hux
theorem Yr (msg:Q01->Q00) (known:Q04) {k:Nat}:∀ {n:Nat},k<=n->(bF msg known k).length<=(bF msg known n).length
 |0,h=>by
  obtain rfl:k=0:=oM
  exact Bg _
 |n+1,h=>by
  by_cases e:k=n+1
  ·rw [e];exact Bg _
  ·have:=Yr msg known (k:=k) (n:=n) oM
   show _<=(bF msg known n++_).length
   rw [Ah]
   omega
theorem yJ (f:VP->List ZC) (hf:∀ x,(f x).length=8):∀ (l:List VP) (t:Nat),t<l.length*8->(l.flatMap f)[t]?=some ((f l.toArray[t / 8]!)[t % 8]!)
 |[],t,h=>by simp at h
 |x::l,t,h=>by
  rw [Dx]
  by_cases h8:t<8
  ·rw [Eu (by rw [hf];exact h8)]
   have e1:t / 8=0:=Nb h8
   have e2:t % 8=t:=Na h8
   rw [e1,e2]
   have:t<(f x).length:=by rw [hf];exact h8
   simp [this]
  ·rw [Em (by rw [hf];omega),hf,yJ f hf l (t - 8) (by rw [A8] at h;omega)]
   have e1:t / 8=(t - 8) / 8+1:=oM
   have e2:t % 8=(t - 8) % 8:=oM
   rw [e1,e2]
   simp
theorem Mem:∀ (xs:List (Q01 × aS)),(∀ x∈xs,aG B w x.1 x.2)->∃ ds:List VP,ds.map (fun y=>(y.v,y.s))=xs
 |[],_=>⟨[],rfl⟩
 |(v,s)::xs,h=>by
  obtain⟨ds,hd⟩:=Mem xs fun x hx=>h x (by simp [hx])
  obtain⟨a1,n1,c1,a2,n2,c2,a3,n3,c3,e⟩:=(h (v,s) sM).sl
  refine⟨⟨v,a1,n1,c1,a2,n2,c2,a3,n3,c3⟩::ds,?_⟩
  change s=_ at e
  rw [Fa,hd,e]
  rfl
theorem Ul {C g n:Nat} {d:Array VP} {os:Array Obj} (hC:C<=g) (hw:C<=w.heap.size):Below C w (sortWorldK iH 8 w g 0 n d os):=by refine⟨rfl,rfl,rfl,size_sortWorldK_c iH 8 w g 0 n d os,fun k hk=>?_⟩;show ((w.heap.modify g (onCells (putCells id 0 (flatK iH 8 d))))++os)[k]?=w.heap[k]?;rw [Array.getElem?_append_left (by simp;omega),Fh,Ai oM]
theorem Pr8:Sort.insertionSort iW (#[]:Array Q01) 0 0=#[]:=by unfold Sort.insertionSort;rw [Sort.insOuter.eq_1,Ai oM]
theorem Hno {base g cap:Nat} (hO:Bi base B w (.slice (some ⟨g,0,none⟩) ls.length cap) ls) : ∃ d:Array VP,d.size=ls.length/\HoldsK iH 8 w g 0 d/\g<w.heap.size/\base<=g/\∀ w',(∃ n os,w'=sortWorldK iH 8 w g 0 n (Sort.insertionSort (ltOf lM) d 0 d.size) os) -> L3 w' w' (.slice (some ⟨g,0,none⟩) ls.length cap) (Sort.insertionSort iW ls.toArray 0 ls.length).toList/\Below base w w':=by
 obtain⟨xs,h1,h2,h3,h4,h5⟩:=hO;have h2':=h2;have hl:xs.length=ls.length:=by rw [<- h1,Bh]
 obtain⟨ds,hds⟩:=Mem xs h3;have hdl:ds.length=ls.length:=by rw [<- hl,<- hds,Bh]
 have hmap:ds.map (·.v)=ls:=by rw [<- h1,<- hds,Nq];rfl
 have EC:A9 xs=ds.flatMap iH:=by rw [<- hds];unfold A9;rw [List.flatMap_map];rfl
 obtain⟨hlen,⟨e,h0⟩|⟨g',cap',cur,e,hb,hg,hn,hc,hsz,htk⟩⟩:=h2;·cases e
 simp only [Value.slice.injEq,Fe,Addr.mk.injEq,and_true,true_and] at e;obtain⟨rfl,rfl⟩:=e;have nX:g<w.heap.size:=(aZ hg)
 have hH:HoldsK iH 8 w g 0 ds.toArray:=by
  intro t ht;rw [size_flatK] at ht;have ht':t<ds.length*8:=by simpa using ht
  rw [get_flatK _ _ _ _ ht];refine⟨?_,Bb hg _⟩;rw [Bf,Fq h2' t (by rw [<- hdl];exact ht'),EC];exact yJ iH (fun _=>rfl) ds t ht'
 have hsize:ds.toArray.size=ls.length:=by simpa using hdl
 refine⟨ds.toArray,hsize,hH,nX,hb,?_⟩;rintro w' ⟨n,os,rfl⟩;have hinv:=fU (lt:=ltOf lM) (I:=fun L=>L.length=ds.length/\∀ y∈L,y∈ds) (fun l m x y _ h=>⟨by simpa using h.1,fun z hz=>h.2 z (by
  simp only [Dp,Bl] at hz ⊢;rcases hz with h|h|h|h;·exact .inl h
  ·exact .inr (.inr (.inl h))
  ·exact .inr (.inl h)
  ·exact .inr (.inr (.inr h)))⟩) ds ⟨rfl,fun _ h=>h⟩
 rw [show ds.length=ds.toArray.size from by simp] at hinv;have hv:=Qg ds.toArray 0 ds.toArray.size;have e1:ds.toArray.map (·.v)=ls.toArray:=by rw [<- hmap];simp
 rw [e1] at hv;obtain⟨d',hd'⟩:∃ d',Sort.insertionSort (ltOf lM) ds.toArray 0 ds.toArray.size=d':=⟨_,rfl⟩
 rw [hd'] at hinv hv ⊢;rw [<- hsize,<- hv];have hs':d'.size=ds.toArray.size:=by have:=hinv.1;simpa using this
 have hH':=holdsK_sortWorldK_c iH 8 w g 0 ds.toArray d' n os hH nX hs';have hBb:Below base w (sortWorldK iH 8 w g 0 n d' os):=Ul hb h5;have hgs:w.heap.size<=(sortWorldK iH 8 w g 0 n d' os).heap.size:=hBb.size;refine⟨⟨_,cap,?_,?_,?_,fun _=>⟨g,0,rfl,Ae nX hgs,fun j x hj=>?_⟩⟩,hBb⟩;·simp [hs']
 ·simp only [Array.toList_map,Bh,I9,hs',hsize];exact hn
 ·unfold maxLen at hc;omega
 ·rw [Array.toList_map,Dq] at hj;cases hy:d'.toList[j]? with
  |none=>rw [hy] at hj;cases hj
  |some y =>
   rw [hy] at hj;cases hj;have hmem:=hinv.2 y (Ap hy);have hxs:(y.v,y.s)∈xs:=by rw [<- hds];exact Dz.2 ⟨y,hmem,rfl⟩
   have hjl:j<d'.size:=by have:=(lS hy);simpa using this
   have hat:d'[j]! =y:=by rw [Jq] at hy;rw [getElem!_def,hy]
   refine⟨y.s,fun i u hi=>?_,((h3 _ hxs).below (hBb.mono h4) nR).mono (Af h4 (Af h5 hgs))⟩;have hi8:i<8:=by have:=(lS hi);exact this
   have:=(HoldsK.cell hH' hjl hi8).1;rw [this,hat];have h9:(iH y)[i]?=some u:=hi;congr 1;rw [List.getElem!_eq_getElem?_getD,h9];rfl
theorem Lps (c r1 r2:Nat) (keys:List Q00) (known:Q04) (forks:Q03) (a:Int) (w W:ZB) (hG:Gc w) (hC:Fw w c r1 r2 keys known forks) (hn:∀ p v,(p,v)∈known->p.2<=200) (hb:Below w w W) : ZE prog 41 #[.pointer (some ⟨c,0,none⟩),↑a] W (Un W w (fol CH.msg known a)):=by obtain⟨vk,h1,_⟩:=hC.ex;obtain⟨kvs,h2,h3⟩:=hC.known;exact Yo c r1 w known kvs a W (hG.below hb) (Ab ((hb.block c (aZ h1)).trans h1) 1) (h2.below hb) (h3.imp fun _ _ h=>h.below hb nR) hb.size hn
theorem Bwb (c r1 r2:Nat) (keys:List Q00) (known:Q04) (forks:Q03) (w:ZB) (hG:Gc w) (hC:Fw w c r1 r2 keys known forks) (hn:∀ p v,(p,v)∈known->p.2<=200) (hkl:keys.length<=1000) (hlen:(bF CH.msg known keys.length).length<20) : ZE prog 16 #[.pointer (some ⟨c,0,none⟩)] w (Wh w (CH.versions CH.msg known keys.length)):=by
 have HF:=Aa fun (W:ZB) (hb:Below w w W) (k:Nat)=>Lps c r1 r2 keys known forks (k:Int) w W hG hC hn hb;have HL:=Aa fun (k:Nat) (hk:k<=keys.length)=>J4 (Yr CH.msg known hk) hlen;obtain⟨vk,dZ,hks⟩:=hC.ex;obtain⟨ak,ck,rfl,_,_⟩:=hks.form;have eF:c<w.heap.size:=(aZ dZ)
 have kc:w.cell? ⟨c,0,none⟩=some (.slice ak keys.length ck):=Ab dZ 0;obtain⟨R,hR⟩:∃ R,Hid (CH.versions CH.msg known keys.length=R):=⟨_,Aa rfl⟩
 rw [hR.out];clear dZ hks hC hn hG hlen;generalize keys.length=N at *;go_enter func16,ntmps16;go_wp2_with fail;go_loopw [3,14] (fun ov i wr=>∃ k:Nat,k<=N/\i=↑k/\Hid (Bi w w wr ov (bF CH.msg known k))/\Hid (Below w w wr)) (fun _ i _=>N - (ZG i).toNat);case atStart=>exact⟨0,Az _,rfl,Aa (Bi.nil nR nR),Aa (Ac _ _)⟩
 case round =>
  obtain⟨k,hk,rfl,hO,hBr⟩:=hrel;by_cases hlt:k<N
  ·obtain⟨av,cv,rfl,hcv⟩:=hO.out.form;go_wp2_with fail;refine (HF.out wr hBr.out k).mono ?_;rintro e w1 ⟨v,rfl,hO1,hb1⟩;have hB1:Below w w w1:=hBr.out.trans (hb1.mono hBr.out.size);have hL1:=HL.out (k+1) hlt;have uy:bF CH.msg known (k+1)=bF CH.msg known k++(fol CH.msg known (k:Int)).1:=rfl;rw [uy,Ah] at hL1;obtain⟨xs1,e1,hsrc,zZ,wo⟩:=Eff hO1;have hO2:=hO.out.below hb1;obtain⟨a1,c1,rfl,_⟩:=hO1.form;obtain⟨xs,hx1,hx2,hx3,hx4,hx5⟩:=hO2;have hx1:=Aa hx1;have hx3:=Aa hx3;have hl1:(A9 xs1).length=(fol CH.msg known (k:Int)).1.length*8:=by rw [Kg,<- e1,Bh]
   have hob:∀ j,(Value.slice av (bF CH.msg known k).length cv).ownBlock=some j->w.heap.size<=j:=by exact FD116
   have hob:=Aa hob;have e1:=Aa e1;have uy:=Aa uy;have zZ:=Aa zZ;have wo:=Aa wo;have hsrc:=Aa hsrc;have hl1:=Aa hl1;have hx2:=Aa hx2;have hB1:=Aa hB1;clear hO hO1 hb1 hBr;obtain⟨n,hn⟩:∃ n,Hid ((bF CH.msg known k).length=n):=⟨_,Aa rfl⟩
   obtain⟨m,hm⟩:∃ m,Hid ((fol CH.msg known (k:Int)).1.length=m):=⟨_,Aa rfl⟩
   rw [hn.out] at hL1 hcv hob hx2 ⊢;rw [hm.out] at hL1 hsrc hl1 ⊢;go_wp2_with (at_builtin;refine Vn rfl _ _ rfl w _ n (A9 xs) rfl hx2.out _ m (A9 xs1) rfl hsrc.out hl1.out wo.out ?c3 hx5 ?_)
   case c3=>omega
   ·intro v' w' g1 g2 g3;have hgb:Below w w1 w':=Bu g2 hB1.out.size hob.out;have hB2:Hid (Below w w w'):=Aa (hB1.out.trans hgb);have hO3:Bi w w w' v' (bF CH.msg known (k+1)):=by
     rw [uy.out];refine⟨xs++xs1,by rw [Ep,hx1.out,e1.out],?_,?_,Bg _,hB2.out.size⟩;·rw [Ah,hn.out,hm.out,show A9 (xs++xs1)=A9 xs++A9 xs1 from by unfold A9;rw [List.flatMap_append]];exact g1
     ·intro x hx;rcases Dp.1 hx with h|h;·exact (hx3.out x h).below hgb nR
      ·exact (zZ.out x h).below hgb nR
    obtain⟨a',c',rfl,_⟩:=hO3.form;have hO3:=Aa hO3;clear hgb g1 g2 g3;generalize (bF CH.msg known (k+1)).length=n' at *;go_wp2;go_roundw;case rel=>exact⟨k+1,oM,by go_num,hO3,hB2⟩
    case measure=>simp [ZG];omega
  ·obtain rfl:k=N:=oM;have hL1:=HL.out k nR;have hRR:R=(Sort.insertionSort iW (bF CH.msg known k).toArray 0 (bF CH.msg known k).length).toList:=hR.out.symm;obtain⟨ls,hls⟩:∃ ls,bF CH.msg known k=ls:=⟨_,rfl⟩
   rw [hls] at hO hL1 hRR;have hRR:=Aa hRR;clear hR HL HF;obtain⟨av,cv,rfl,hcv⟩:=hO.out.form;have hO2:=hO.out;obtain⟨xs,hx1,⟨_,⟨e,h0⟩|⟨g,cap,cur,e,hb,hg,hn,hc,hsz,htk⟩⟩,hx3,hx4,hx5⟩:=hO2;·have hnil:ls=[]:=Bo.1 h0;subst hnil;simp only [Value.slice.injEq] at e;obtain⟨rfl,_,rfl⟩:=e;clear hx1 hx3 hO h0;simp only [Bj];go_wp2_with fail;refine (Qr wr).mono ?_;rintro e w' ⟨rfl,rfl⟩;go_wp2;go_ret;refine⟨_,rfl,?_,hBr.out⟩;rw [hRR.out,Bj,show ([]:List Q01).toArray=#[] from rfl,Pr8];exact FD86
   ·have hx0:True:=trivial
    ·simp only [Value.slice.injEq] at e;obtain⟨rfl,_,rfl⟩:=e;obtain⟨d,hds,hH,nX,hbg,hpost⟩:=Hno hO.out;have S:=Xb g cv d wr hH nX oM;rw [hds] at S hpost;have hpost:=Aa hpost;obtain⟨Q,hQ⟩:∃ Q:ZB->Prop,(fun w'=>∃ n os,w'=sortWorldK iH 8 wr g 0 n (Sort.insertionSort (ltOf lM) d 0 ls.length) os)=Q:=⟨_,rfl⟩
     have S:Hid (ZE prog 45 #[.slice (some ⟨g,0,none⟩) ls.length cv,.func (.func 46) #[] #[]] wr fun e w'=>e=.returned (.tuple #[])/\Q w'):=Aa (by rw [<- hQ];exact S);have hQ:=Aa hQ;have hBr:=Aa hBr.out;clear hO hx1 hg hn hsz htk hx3 hx4 hx5 hH hds;obtain⟨n,hn⟩:∃ n,Hid (ls.length=n):=⟨_,Aa rfl⟩
     rw [hn.out] at S hcv ⊢;clear hc;go_wp2_with fail;refine CmZ S.out fun w' hq=>?_;have hp:=hpost.out w' (by rw [<- hQ.out] at hq;exact hq);rw [hn.out] at hp;have hp:=Aa hp;clear hq S;go_wp2;go_ret;refine⟨_,rfl,?_,hBr.out.trans hp.out.2⟩;rw [hRR.out,hn.out];exact hp.out.1
theorem fH.raw {a:Q02} {s:eG} (h:fH B w a s):dA B w a s:=⟨h.names,h.meas.kids,h.lm,h.lp,h.hj⟩
theorem F0.raw {l:List Q02} (h:F0 B w v l):Ke B w v l:=by obtain⟨a,cap,h1,h2,h3,h4⟩:=h;refine⟨a,cap,h1,h2,h3,fun hne=>?_⟩;obtain⟨b,off,e,hlt,hx⟩:=h4 hne;refine⟨b,off,e,hlt,fun j x hj=>?_⟩;obtain⟨s,c1,c2⟩:=hx j x hj;exact⟨s,c1,c2.raw⟩
theorem aG.raw {v:Q01} {s:aS} (h:aG B w v s):iI B w v s:=⟨h.acts.raw,h.sig,h.path⟩
theorem Er {W:ZB} {b o:Nat} {a:Q02} {s:eG} (h:W.rangeAt b o (As a s)) : W.cell? ⟨b,o,none⟩=some ↑a.kind/\W.rangeAt b (o+1) (A5 a.change s.vn)/\W.rangeAt b (o+6) (Av a.measure s.vk)/\W.rangeAt b (o+18) (Br a.licence s.vm s.vp)/\W.rangeAt b (o+25) (Ax a.holding s.vj) /\ W.cell? ⟨b,o+35,none⟩=some ↑a.id/\W.cell? ⟨b,o+36,none⟩=some ↑a.n:=by have r1:W.rangeAt b (o+1) (A5 a.change s.vn++(Av a.measure s.vk++(Br a.licence s.vm s.vp++(Ax a.holding s.vj++[aA a.id,aJ a.n])))):=Cx (l:=[aJ a.kind]) h (o+1) rfl;have r6:=Cx r1 (o+6) rfl;have r18:=Cx r6 (o+18) rfl;have r25:=Cx r18 (o+25) rfl;have r35:=Cx r25 (o+35) rfl;exact⟨h 0 _ rfl,G1 r1,G1 r6,G1 r18,G1 r25,r35 0 _ rfl,r35 1 _ rfl⟩
theorem Iv {s t:Q00} (h:(s==t)=false):((⟨s.toArray⟩:ByteArray)==⟨t.toArray⟩)=false/\¬ s=t/\¬ t=s := ⟨by rw [Cr];exact h,Cb.1 h,fun e=>Cb.1 h e.symm⟩
theorem Xh (a b:Q02) (s s':eG) (w:ZB) (R1 R2 R3 R4:Bool) (hk:a.kind=b.kind) (T1:∀ (W:ZB),Below w w W->ZE prog 139 #[.agg (A5 a.change s.vn).toArray,.agg (A5 b.change s'.vn).toArray] W (Ret W (.bool R1))) (T2:∀ (W:ZB),Below w w W->ZE prog 140 #[.agg (Av a.measure s.vk).toArray,.agg (Av b.measure s'.vk).toArray] W (Ret W (.bool R2))) (T3:∀ (W:ZB),Below w w W->ZE prog 141 #[.agg (Br a.licence s.vm s.vp).toArray,.agg (Br b.licence s'.vm s'.vp).toArray] W (Ret W (.bool R3))) (T4:∀ (W:ZB),Below w w W->ZE prog 142 #[.agg (Ax a.holding s.vj).toArray,.agg (Ax b.holding s'.vj).toArray] W (Ret W (.bool R4))) : ZE prog 77 #[.agg (As a s).toArray,.agg (As b s').toArray] w (Ret w (.bool (R1&&(R2&&(R3&&(R4&&(a.id==b.id&&a.n==b.n))))))):=by
 replace T1:=Aa T1;replace T2:=Aa T2;replace T3:=Aa T3;replace T4:=Aa T4;have P:=Aa fun (W:ZB) (b:Nat) (hr:W.rangeAt b 0 (As a s))=>Er hr;have P':=Aa fun (W:ZB) (c:Nat) (hr:W.rangeAt c 0 (As b s'))=>Er hr;rw [<- hk] at P';clear hk;have i1:(prog.info? 64).map (·.size)=some (A5 a.change s.vn).length:=kR;have i2:(prog.info? 69).map (·.size)=some (Av a.measure s.vk).length:=kR;have i3:(prog.info? 71).map (·.size)=some (Br a.licence s.vm s.vp).length:=kR;have i4:(prog.info? 59).map (·.size)=some (Ax a.holding s.vj).length:=kR;have i1':(prog.info? 64).map (·.size)=some (A5 b.change s'.vn).length:=kR;have i2':(prog.info? 69).map (·.size)=some (Av b.measure s'.vk).length:=kR;have i3':(prog.info? 71).map (·.size)=some (Br b.licence s'.vm s'.vp).length:=kR;have i4':(prog.info? 59).map (·.size)=some (Ax b.holding s'.vj).length:=kR;generalize A5 a.change s.vn=C1 at *;generalize Av a.measure s.vk=C2 at *;generalize Br a.licence s.vm s.vp=C3 at *;generalize Ax a.holding s.vj=C4 at *;generalize A5 b.change s'.vn=C1' at *;generalize Av b.measure s'.vk=C2' at *;generalize Br b.licence s'.vm s'.vp=C3' at *;generalize Ax b.holding s'.vj=C4' at *;generalize As a s=C at *;generalize As b s'=C' at *;generalize a.kind=ak at *;generalize a.id=aid at *;generalize a.n=an at *;generalize b.id=bid at *;generalize b.n=bn at *;have hB0:=Aa fun o o2=>((Ac _ w).alloc nR o).alloc sM o2;have hr0:=Aa (M4 (Bp w C 73) (.cells C'.toArray 73));have yZ:Hid (((w.alloc (.cells C.toArray 73)).alloc (.cells C'.toArray 73)).rangeAt (w.heap.size+1) 0 C'):=Aa (by have:=Bp (w.alloc (.cells C.toArray 73)) C' 73;rwa [Dt] at this);obtain⟨k0,r1,_⟩:=P.out _ _ hr0.out;obtain⟨k0',r1',_⟩:=P'.out _ _ yZ.out;have r1:=Aa r1;have r1':=Aa r1';go_enter func77,ntmps77;go_wp2_with (first|refine B6 rfl 64 _ rfl w (0+1) rfl C1 _ r1.out underlying64 rfl i1 ?_|refine B6 rfl 64 _ rfl (w+1) (0+1) rfl C1' _ r1'.out underlying64 rfl i1' ?_)
 have B:=hB0.out (.cells C.toArray 73) (.cells C'.toArray 73);have hlt:w.heap.size+1<((w.alloc (.cells C.toArray 73)).alloc (.cells C'.toArray 73)).heap.size:=sM;clear hB0;generalize (w.alloc (.cells C.toArray 73)).alloc (.cells C'.toArray 73)=W at *;have R:=Aa fun (W':ZB) (hb:Below W W W')=>P.out W' _ (A6 hr0.out hb oM);have R':=Aa fun (W':ZB) (hb:Below W W W')=>P'.out W' _ (A6 yZ.out hb hlt);clear P P' hr0 yZ;refine CmZ (T1.out _ B) fun w1 hb1=>?_;have B1:=B.trans (hb1.mono B.size);clear T1 r1 r1' k0 k0' i1 i1';cases R1;focus clear R R';go_wp2;go_ret;exact⟨rfl,B1⟩
 obtain⟨_,_,r2,_⟩:=R.out w1 hb1;obtain⟨_,_,r2',_⟩:=R'.out w1 hb1;have r2:=Aa r2;have r2':=Aa r2';go_wp2_with (first|refine B6 rfl 69 _ rfl w (0+6) rfl C2 _ r2.out underlying69 rfl i2 ?_|refine B6 rfl 69 _ rfl (w+1) (0+6) rfl C2' _ r2'.out underlying69 rfl i2' ?_)
 refine CmZ (T2.out _ B1) fun w2 hb=>?_;have B2:=B1.trans (hb.mono B1.size);have hb2:=hb1.trans (hb.mono hb1.size);clear T2 r2 r2' hb i2 i2';cases R2;focus clear R R';go_wp2;go_ret;exact⟨rfl,B2⟩
 obtain⟨_,_,_,r3,_⟩:=R.out w2 hb2;obtain⟨_,_,_,r3',_⟩:=R'.out w2 hb2;have r3:=Aa r3;have r3':=Aa r3';go_wp2_with (first|refine B6 rfl 71 _ rfl w (0+18) rfl C3 _ r3.out underlying71 rfl i3 ?_|refine B6 rfl 71 _ rfl (w+1) (0+18) rfl C3' _ r3'.out underlying71 rfl i3' ?_)
 refine CmZ (T3.out _ B2) fun w3 hb=>?_;have B3:=B2.trans (hb.mono B2.size);have hb3:=hb2.trans (hb.mono hb2.size);clear T3 r3 r3' hb i3 i3';cases R3;focus clear R R';go_wp2;go_ret;exact⟨rfl,B3⟩
 obtain⟨_,_,_,_,r4,_⟩:=R.out w3 hb3;obtain⟨_,_,_,_,r4',_⟩:=R'.out w3 hb3;have r4:=Aa r4;have r4':=Aa r4';go_wp2_with (first|refine B6 rfl 59 _ rfl w (0+25) rfl C4 _ r4.out underlying59 rfl i4 ?_|refine B6 rfl 59 _ rfl (w+1) (0+25) rfl C4' _ r4'.out underlying59 rfl i4' ?_)
 refine CmZ (T4.out _ B3) fun w4 hb=>?_;have B4:=B3.trans (hb.mono B3.size);have hb4:=hb3.trans (hb.mono hb3.size);clear T4 r4 r4' hb i4 i4';cases R4;focus clear R R';go_wp2;go_ret;exact⟨rfl,B4⟩
 obtain⟨_,_,_,_,_,k35,k36⟩:=R.out w4 hb4;obtain⟨_,_,_,_,_,IX,IW⟩:=R'.out w4 hb4;clear R R';simp only [Bf] at k35 k36 IX IW;cases hx:aid==bid with
 |false =>obtain⟨s1,s2,s3⟩:=Iv hx;go_wp2;go_ret;exact⟨by rw [hx];rfl,B4⟩
 |true =>
  obtain rfl:=eq_of_beq hx;clear hx;cases hy:an==bn with
  |false =>go_wp2;go_ret;exact⟨by rw [beq_self_eq_true,hy];rfl,B4⟩
  |true =>obtain rfl:=eq_of_beq hy;clear hy;go_wp2;go_ret;exact⟨by rw [beq_self_eq_true,beq_self_eq_true];rfl,B4⟩
theorem Eta (a:Q02) (s s':eG) (w:ZB) (h:dA w w a s) (h':dA w w a s') : ZE prog 77 #[.agg (As a s).toArray,.agg (As a s').toArray] w (Ret w (.bool true)):=by have HA:=fun (W:ZB) (hb:Below w w W)=>(h.below hb nR).mono hb.size;have HA':=fun (W:ZB) (hb:Below w w W)=>(h'.below hb nR).mono hb.size;have:=Xh a a s s' w true true true true rfl (fun W hb=>Ng a.change s.vn s'.vn W (HA W hb).names (HA' W hb).names) (fun W hb=>Mq a.measure s.vk s'.vk W (HA W hb).kids (HA' W hb).kids) (fun W hb=>Mr a.licence s.vm s.vp s'.vm s'.vp W (HA W hb).lm (HA W hb).lp (HA' W hb).lm (HA' W hb).lp) (fun W hb=>R7 a.holding s.vj s'.vj W (HA W hb).hj (HA' W hb).hj);exact FD159
theorem Te (x:Q01) (s s':aS) (w:ZB) (h:iI w w x s) (h':iI w w x s') : ZE prog 44 #[.agg (Al x s).toArray,.agg (Al x s').toArray] w (Ret w (.bool true)):=by
 have S:=Aa fun (W:ZB) (hb:Below w w W)=>B7d x.sel s.v1 s.v2 s'.v1 s'.v2 W ((h.sig.below hb nR).mono hb.size) ((h.path.below hb nR).mono hb.size) ((h'.sig.below hb nR).mono hb.size) ((h'.path.below hb nR).mono hb.size);obtain⟨va,v1,v2⟩:=s;obtain⟨va',v1',v2'⟩:=s';obtain⟨a,cap,e,hl,hcap,hne⟩:=h.acts;obtain⟨a',cap',e',hl',hcap',hne'⟩:=h'.acts;change va=_ at e;change va'=_ at e';subst e e';obtain⟨_,_,e,_,_⟩:=h.sig.form;change v1=_ at e;subst e;obtain⟨_,_,e,_,_⟩:=h.path.form;change v2=_ at e;subst e;obtain⟨_,_,e,_,_⟩:=h'.sig.form;change v1'=_ at e;subst e;obtain⟨_,_,e,_,_⟩:=h'.path.form;change v2'=_ at e;subst e;clear h h';generalize x.sel.sig.length=n1 at *;generalize x.sel.path.length=n2 at *;have hne:=Aa hne;have hne':=Aa hne';obtain⟨N,hN⟩:∃ N,x.acts.length=N:=⟨_,rfl⟩
 rw [hN] at hl hl' ⊢;have hN:=Aa hN;have hB0:=Aa fun o o2=>((Ac _ w).alloc nR o).alloc sM o2;have DX:(prog.info? 73).map (·.size)=some 37:=kR;dsimp only [Al] at *;go_enter func44,ntmps44;go_wp2_with fail;have B:=hB0.out;generalize hWd:(w.alloc _).alloc _=W at *;have hBW:Below w w W:=by rw [<- hWd];exact B _ _
 have K:=Aa (Mg hWd);have hlW:w.heap.size+1<W.heap.size:=by rw [<- hWd];simp
 clear hWd hB0 B;refine CmZ (S.out _ hBW) fun w1 hb1=>?_;have hB1:=hBW.trans (hb1.mono hBW.size);clear S;go_wp2_with fail;go_loopw [5] (fun i wr=>∃ k:Nat,k<=N/\i=↑k/\Hid (Below w w wr)/\Hid (Below W W wr)) (fun i _=>N - (ZG i).toNat);case atStart=>exact⟨0,Az _,rfl,Aa hB1,Aa hb1⟩
 case round =>
  obtain⟨k,hk,rfl,hBr,hbr⟩:=hrel;have k4:=(K.out wr hbr.out).1 4 _ rfl;have k4':=(K.out wr hbr.out).2 4 _ rfl;by_cases hlt:k<N
  ·obtain⟨b,off,rfl,hbl,kj⟩:=hne.out (by intro h;have:=hN.out;simp [h] at this;omega);obtain⟨b',off',rfl,gV,hcells'⟩:=hne'.out (by intro h;have:=hN.out;simp [h] at this;omega);obtain⟨y,hy⟩:∃ y,x.acts[k]?=some y:=⟨_,Ad (by rw [hN.out];exact hlt)⟩
   obtain⟨sy,hc,hat⟩:=kj k y hy;obtain⟨sy',hc',hat'⟩:=hcells' k y hy;have hrg:wr.rangeAt b (off+k*37) (As y sy):=fun j u hj=>(hBr.out.cell (p:=⟨b,off+k*37+j,none⟩) hbl).trans (hc j u hj);have vZ:wr.rangeAt b' (off'+k*37) (As y sy'):=fun j u hj=>(hBr.out.cell (p:=⟨b',off'+k*37+j,none⟩) gV).trans (hc' j u hj);have F:=Aa fun (W':ZB) (hb:Below wr wr W')=>Eta y sy sy' W' ((hat.below (hBr.out.trans (hb.mono hBr.out.size)) nR).mono (Af hBr.out.size hb.size)) ((hat'.below (hBr.out.trans (hb.mono hBr.out.size)) nR).mono (Af hBr.out.size hb.size));have hl1:(prog.info? 73).map (·.size)=some (As y sy).length:=DX;have hl2:(prog.info? 73).map (·.size)=some (As y sy').length:=DX;clear kj hcells' hc hc' hat hat' hy;generalize As y sy=C at *;generalize As y sy'=C' at *;have z0:(0:Int)<=(k:Int):=oM;have zk:((k:Int)).toNat=k:=oM;have hk':(k:Int)<(N:Int):=oM;have hs1:w.heap.size<wr.heap.size:=Ae oM hbr.out.size;have hs2:w.heap.size+1<wr.heap.size:=Ae hlW hbr.out.size;have hs3:b<wr.heap.size:=Ae hbl hBr.out.size;have hs4:b'<wr.heap.size:=Ae gV hBr.out.size;have SS:=Aa fun (W':ZB) (hb:Below wr wr W')=>(⟨(hb.cell (p:=⟨w,4,none⟩) hs1).trans k4,(hb.cell (p:=⟨w+1,4,none⟩) hs2).trans k4',A6 hrg hb hs3,A6 vZ hb hs4⟩:W'.cell? ⟨w,4,none⟩=some (.slice (some ⟨b,off,none⟩) N cap)/\W'.cell? ⟨w+1,4,none⟩=some (.slice (some ⟨b',off',none⟩) N cap')/\W'.rangeAt b (off+k*37) C/\W'.rangeAt b' (off'+k*37) C')
   have hD:Below wr wr wr.drew:=(Ac _ wr).drew;clear hrg vZ;go_wp2_with fail;refine Ed (S:=(fun W'=>W'.cell? ⟨w,4,none⟩=some (.slice (some ⟨b,off,none⟩) N cap)/\W'.cell? ⟨w+1,4,none⟩=some (.slice (some ⟨b',off',none⟩) N cap')/\W'.rangeAt b (off+k*37) C/\W'.rangeAt b' (off'+k*37) C')) kR (SS.out _ hD) fun kz=>?_;refine tj 0 ?_;push_cast;refine tj 1 ?_;push_cast;refine tj 2 ?_;push_cast;refine tj 3 ?_;push_cast;refine Ir (i:=4) (v:=.agg C.toArray) rfl kR kR kR (fun _ _ _ h=>h) ?_ kz ?_;·exact yieldsIf_load_mid rF _ _ rfl _ _ rfl C _ (fun W hSw=>hSw.2.2.1) underlying73 rfl hl1
   push_cast;refine tj 5 ?_;push_cast;refine tj 6 ?_;push_cast;refine tj 7 ?_;push_cast;refine tj 8 ?_;push_cast;refine Ir (i:=9) (v:=.agg C'.toArray) rfl kR kR kR (fun _ _ _ h=>h) ?_ kz ?_;·exact yieldsIf_load_mid rF _ _ rfl _ _ rfl C' _ (fun W hSw=>hSw.2.2.2) underlying73 rfl hl2
   push_cast;refine rk 10 rfl fun K hK=>?_;go_simp;refine CmZ (F.out _ hD) fun w2 hb2=>?_;have hE:Below wr wr w2:=hD.trans (hb2.mono hD.size);go_wp2_with fail;refine hK.out _ _ (SS.out _ hE) fun kz=>?_;clear hK K;push_cast;refine tj 11 ?_;push_cast;refine Dy kR ?_ _;have hb2:=hE;have hB2:Hid (Below w w w2):=Aa (hBr.out.trans (hb2.mono hBr.out.size));have hb2:Hid (Below W W w2):=Aa (hbr.out.trans (hb2.mono hbr.out.size));clear F SS k4 k4';go_wp2;go_roundw;case rel=>exact⟨k+1,oM,by go_num,hB2,hb2⟩
   case measure=>simp [ZG];omega
  ·exact FD97
end
end Go.Proofs.Y
namespace CH
def counts (msg:Version->Str) (known:Known) (n:Nat):List Int:=(List.range n).map fun (a:Nat)=>(((fol msg known (a:Int)).1.length:Nat):Int)
end CH
namespace Go.Proofs.Y
open Go.RowKit Go.Lib Go.Shelf Go.Sort CH
theorem Yy (msg:Q01->Q00) (known:Q04) (n:Nat):(CH.counts msg known n).length=n:=by simp [CH.counts]
theorem Sm (c r1 r2:Nat) (keys:List Q00) (known:Q04) (forks:Q03) (a:Int) (w:ZB) (hG:Gc w) (hC:Fw w c r1 r2 keys known forks) (hn:∀ p v,(p,v)∈known->p.2<=200) : ZE Tryz.prog 41 #[.pointer (some ⟨c,0,none⟩),↑a] w (Un w w (fol CH.msg known a)):=by obtain⟨vk,h1,_⟩:=hC.ex;obtain⟨kvs,h2,h3⟩:=hC.known;exact Yo c r1 w known kvs a w hG (Ab h1 1) h2 h3 nR hn
theorem Ncl (c r1 r2:Nat) (keys:List Q00) (known:Q04) (forks:Q03) (a:Int) (w:ZB) (hG:Gc w) (hC:Fw w c r1 r2 keys known forks) (hn:∀ p v,(p,v)∈known->p.2<=200) : ZE Tryz.prog 13 #[.pointer (some ⟨c,0,none⟩),↑a] w (Ret w (.tuple #[.int .i64 ((fol CH.msg known a).1.length:Nat),.string ⟨(fol CH.msg known a).2.toArray⟩])):=by
 have F:=Sm c r1 r2 keys known forks a w hG hC hn;obtain⟨R,hR⟩:∃ R,fol CH.msg known a=R:=⟨_,rfl⟩
 rw [hR] at F ⊢;have F:=Aa F;clear hR hC hG hn;go_enter Tryz.func13,Tryz.ntmps13;go_wp2_with fail;refine F.out.mono ?_;rintro e w1 ⟨v,rfl,hO,hb1⟩;obtain⟨av,cv,rfl,_⟩:=hO.form;clear F hO;generalize R.1.length=n at *;go_wp2;refine Aj (Aq rfl _ _ _) rfl ?_;exact⟨rfl,hb1⟩
def Wi (w:ZB) (ls:List Int) (e:Ending) (w':ZB):Prop:=∃ v,e=.returned v/\Tn w' w' v ls/\Below w w w'
def pY (cs:List Int) (N k:Nat):Array ZC:=((cs.take k++List.replicate (N - k) 0).map aJ).toArray
theorem Mrs (cs:List Int) (N k:Nat) (x:Int) (hN:cs.length=N) (hk:k<N) (hx:cs[k]?=some x):(pY cs N k).setIfInBounds k ↑x=pY cs N (k+1):=by
 have h1:(cs.take k).length=k:=by rw [C9];omega
 have h2:List.replicate (N - k) (0:Int)=0::List.replicate (N - (k+1)) 0:=by rw [<- Ky];congr 1;omega
 unfold pY;rw [h2,D7,hx,List.setIfInBounds_toArray];congr 1;rw [Ep,Fa,List.set_append_right _ _ (by rw [Bh,h1];exact Bg _),Bh,h1,Nat.sub_self];simp
theorem Pmo (cs:List Int) (N k:Nat) (hN:cs.length=N) (hk:k<N):(pY cs N k)[k]?=some (.int .i64 0):=by
 have h1:(cs.take k).length=k:=by rw [C9];omega
 unfold pY;rw [Hy,Ep,Em (by rw [Bh,h1];exact Bg _),Bh,h1,Nat.sub_self];have:N - k=(N - k - 1)+1:=oM;rw [this,Ky];rfl
theorem Kl8 (cs:List Int) (N:Nat) (hN:cs.length=N):pY cs N N=(cs.map aJ).toArray:=by unfold pY;rw [Bz oM,Nat.sub_self];simp
theorem Ws (c r1 r2:Nat) (keys:List Q00) (known:Q04) (forks:Q03) (w:ZB) (hG:Gc w) (hC:Fw w c r1 r2 keys known forks) (hn:∀ p v,(p,v)∈known->p.2<=200) (hkl:keys.length<=1000) : ZE Tryz.prog 11 #[.pointer (some ⟨c,0,none⟩)] w (Wi w (CH.counts CH.msg known keys.length)):=by
 have HF:=Aa fun (W:ZB) (hb:Below w w W) (k:Nat)=>Sm c r1 r2 keys known forks (k:Int) W (hG.below hb) (hC.below hb) hn;obtain⟨vk,dZ,hks⟩:=hC.ex;obtain⟨ak,ck,rfl,_,_⟩:=hks.form;have eF:c<w.heap.size:=(aZ dZ)
 have kc:w.cell? ⟨c,0,none⟩=some (.slice ak keys.length ck):=Ab dZ 0;have hcl:=Yy CH.msg known keys.length;have hat:∀ k,k<keys.length->(CH.counts CH.msg known keys.length)[k]?=some (((fol CH.msg known (k:Int)).1.length:Nat):Int):=fun k hk=>by unfold CH.counts;rw [Dq,Kz hk];rfl
 generalize CH.counts CH.msg known keys.length=cs at *;clear dZ hks hC hn hG;generalize keys.length=N at *;have hat:=Aa hat;have hcl:=Aa hcl;have hmk:=fun W=>run_make_row' (P:=Tryz.prog) 40 3 (.int .i64 0) 8 Tryz.underlying40 C10 rfl .i64 .i64 N oM oM W;go_enter Tryz.func11,Tryz.ntmps11;go_wp2_with fail;have hrow0:(w.alloc (.cells (madeCells #[.int .i64 0] N) 3)).heap[w.heap.size]?=some (.cells (pY cs N 0) 3 (0,0)):=by
  rw [Aw w _];congr 2;unfold pY;apply Array.ext';rw [H6,Dl,Nat.sub_zero,List.map_replicate];apply Jf;intro i;by_cases hi:i<N;·simp [madeCells,hi,Nat.mod_one]
  ·simp [madeCells,hi]
 have hBa:Below w w (w.alloc (.cells (madeCells #[.int .i64 0] N) 3)):=(Ac _ w).alloc nR _;clear hmk;generalize w.alloc (.cells (madeCells #[.int .i64 0] N) 3)=W at *;have hBa:=Aa hBa;have hrow0:=Aa hrow0;go_loopw [17] (fun i wr=>∃ k:Nat,k<=N/\i=↑k/\Hid (Below w w wr)/\Hid (wr.heap[w.heap.size]?=some (.cells (pY cs N k) 3 (0,0)))) (fun i _=>N - (ZG i).toNat);case atStart=>exact⟨0,Az _,rfl,hBa,hrow0⟩
 case round =>
  obtain⟨k,hk,rfl,hBr,hrow⟩:=hrel;by_cases hlt:k<N
  ·go_wp2_with fail;refine (HF.out wr hBr.out k).mono ?_;rintro e w1 ⟨v,rfl,hO,hb1⟩;have hx:=Aa (hat.out k hlt);obtain⟨av,cv,rfl,_⟩:=hO.form;have hr1:=(hb1.block w (aZ hrow.out)).trans hrow.out;have hB1:Below w w w1:=hBr.out.trans (hb1.mono hBr.out.size);have kc0:w1.cell? ⟨w,k,none⟩=some (.int .i64 0):=(Ab hr1 k).trans (Pmo cs N k hcl.out hlt);have kf0:w1.frozen? ⟨w,k,none⟩=false:=Bb hr1 k;have hr2:=A7 w1 w k (.int .i64 (((fol CH.msg known (k:Int)).1.length:Nat):Int)) _ _ _ hr1;rw [Mrs cs N k _ hcl.out hlt hx.out] at hr2;clear hO hb1 hr1 hrow hBr;generalize (fol CH.msg known (k:Int)).1.length=m at *;generalize (fol CH.msg known (k:Int)).2=s at *;have hB2:Hid (Below w w (w1.setCell ⟨w,k,none⟩ ↑m)):=Aa (hB1.setCell nR _);have hr2:=Aa hr2;have hB1:=Aa hB1;have z0:(0:Int)<=(k:Int):=oM;have zk:((k:Int)).toNat=k:=oM;have hk':(k:Int)<(N:Int):=oM;go_wp2;go_roundw;case rel=>exact⟨k+1,oM,by go_num,hB2,hr2⟩
   case measure=>simp [ZG];omega
  ·obtain rfl:k=N:=oM;have hfin:=hrow.out;rw [Kl8 cs k hcl.out] at hfin;have hlt2:=(aZ hfin)
   have hI:Tn wr wr (.slice (some ⟨w,0,none⟩) k k) cs:=by refine⟨_,k,by rw [hcl.out],by rw [hcl.out];exact Bg _,oM,fun _=>⟨w,0,rfl,hlt2,fun j n hj=>?_⟩⟩;rw [Bf,Ab hfin j];simp [hj]
   have hI:=Aa hI;have qV:=Aa hBr.out;clear hfin hrow;go_wp2;go_ret;exact⟨_,rfl,hI.out,qV.out⟩
end Go.Proofs.Y
namespace Go.Proofs.Y
section
open Go.Lib Go.Proofs.Tryz Go.RowKit Go.Shelf Go.Sort CH
attribute [local irreducible] wpQuiet
theorem Fo (s:Q00):s=[]\/s.isEmpty=false/\((⟨s.toArray⟩:ByteArray)==⟨#[]⟩)=false/\¬ s=[]:=by
 cases s with
 |nil=>exact .inl rfl
 |cons c s=>exact .inr ⟨rfl,by rw [show (#[]:Array UInt8)=([]:Q00).toArray from rfl,Cr];rfl,sM⟩
theorem Ev (n:Int):n=0\/(n==0)=false/\¬ n=0:=by
 by_cases h:n=0;·exact .inl h
 ·exact .inr ⟨by simpa using h,h⟩
theorem Wu (a:Option Addr) (n c:Nat) (w:ZB) (h:0<n):ZE prog 219 #[.slice a n c,.slice none 0 0] w (Ret w (.bool false)):=by
 have h1:((n:Int)==0)=false:=by simp;omega
 go_enter func219,ntmps219;exact FD30
theorem Hmy (a:Option Addr) (n c:Nat) (w:ZB) (h:0<n):ZE prog 220 #[.slice a n c,.slice none 0 0] w (Ret w (.bool false)):=by
 have h1:((n:Int)==0)=false:=by simp;omega
 go_enter func220,ntmps220;exact FD30
theorem Can (id:Q00) (a:Option Addr) (n c:Nat) (w:ZB) (h:id≠[]\/0<n) : ZE prog 217 #[.agg #[↑id,.slice a n c],.agg #[.string ⟨#[]⟩,.slice none 0 0]] w (Ret w (.bool false)):=by
 have hB0:=fun o o2=>((Ac _ w).alloc nR o).alloc sM o2;rcases Fo id with rfl|⟨h1,h2,h3⟩
 ·have h1:((n:Int)==0)=false:=by simp at h ⊢;omega
  go_enter func217,ntmps217;go_wp2;go_ret;exact⟨rfl,hB0 _ _⟩
 ·go_enter func217,ntmps217;go_wp2;go_ret;exact⟨rfl,hB0 _ _⟩
theorem Mrb (f:CH.Formula) (a:Option Addr) (n c:Nat) (w:ZB) (h:f.op≠0\/f.name≠[]\/f.cmp≠0\/f.n≠0\/0<n) : ZE prog 218 #[.agg (Ao f (.slice a n c)),.agg (Ao zM.aB (.slice none 0 0))] w (Ret w (.bool false)):=by
 have hB0:=Aa fun o o2=>((Ac _ w).alloc nR o).alloc sM o2;obtain⟨op,nm,cm,fn,ks⟩:=f;dsimp only [Ao,zM,CH.Formula.op,CH.Formula.name,CH.Formula.cmp,CH.Formula.n] at *;rcases Ev op with rfl|⟨h1,h2⟩;rcases Fo nm with rfl|⟨h1,h2,h3⟩;rcases Ev cm with rfl|⟨h1,h2⟩;rcases Ev fn with rfl|⟨h1,h2⟩;have h1:((n:Int)==0)=false:=by simp at h ⊢;omega
 all_goals clear h;go_enter func218,ntmps218;go_wp2;go_ret;exact⟨rfl,hB0.out _ _⟩
theorem Ud (B:Nat) (w:ZB):C6 B w (.slice none 0 0) []:=⟨none,0,rfl,Bg _,oM,fun h=>absurd rfl h⟩
theorem Ln (B:Nat) (w:ZB):Strs B w (.slice none 0 0) []:=⟨none,0,rfl,Bg _,oM,fun h=>absurd rfl h⟩
theorem F10 (B:Nat) (w:ZB):Ay B w zM.aB (.slice none 0 0):=by unfold zM Ay;exact FD86
theorem Zn (c:CH.Change) (v:ZC) (w:ZB) (hv:Fs w w v c.entry.names) (h:dJ c=true) : ZE prog 139 #[.agg (A5 c v).toArray,.agg (A5 zC (.slice none 0 0)).toArray] w (Ret w (.bool false)):=by
 have hB0:=Aa fun o o2=>((Ac _ w).alloc nR o).alloc sM o2;obtain⟨kd,id,⟨eid,ns⟩,p⟩:=c;have E2:=Aa fun (e:eid=[]) (n0:ns.length=0) (W:ZB) (hb:Below w w W)=>(show ZE prog 217 #[.agg #[↑eid,v],.agg #[.string ⟨#[]⟩,.slice none 0 0]] W (Ret W (.bool true)) from by obtain rfl:ns=[]:=Bo.1 n0;subst e;exact Z6 ⟨[],[]⟩ v (.slice none 0 0) W (hv.grow hb) (Ud _ _))
 obtain⟨a,cap,rfl,hl,hcap,_⟩:=hv;have E1:=Aa fun (q:eid≠[]\/0<ns.length) (W:ZB)=>Can eid a ns.length cap W q;unfold dJ at h;dsimp only [A5,zC] at *;generalize ns.length=N at *;simp only [Ec,bne_iff_ne,Bq] at h;replace h:=Aa h;rcases Ev kd with rfl|⟨h1,h2⟩;rcases Fo id with rfl|⟨h1,h2,h3⟩;by_cases hE:eid≠[]\/0<N;·replace E1:=Aa (E1.out hE);clear E2 hE h;go_enter func139,ntmps139;go_wp2_with fail;refine (E1.out _).mono ?_;exact FD79
 ·have e0:eid=[]:=Gp fun q=>hE (.inl q);have n0:N=0:=oM;have hp:p≠0:=fun q=>by have:=h.out;simp [e0,n0,q] at this
  have hp1:(p==0)=false:=by simpa using hp
  replace E2:=Aa (E2.out e0 n0);clear E1 hE h hp e0 n0;have A2:=M7 w;go_enter func139,ntmps139;go_wp2_with fail;have B:=hB0.out;generalize hWd:(w.alloc _).alloc _=W at *;have hBW:Below w w W:=by rw [<- hWd];exact B _ _
  have K:=Aa (Mg hWd);clear hWd hB0 A2 B;refine CmZ (E2.out _ hBW) fun w1 hb1=>?_;have k4:=(K.out w1 hb1).1 4 _ rfl;have k4':=(K.out w1 hb1).2 4 _ rfl;have hB1:=hBW.trans (hb1.mono hBW.size);clear E2 K;exact FD25
 all_goals clear E1 E2 h;go_enter func139,ntmps139;go_wp2;go_ret;exact⟨rfl,hB0.out _ _⟩
theorem BK {f:CH.Formula} (h:¬ (f.op≠0\/f.name≠[]\/f.cmp≠0\/f.n≠0\/0<f.kids.length)):f=zM.aB:=by obtain⟨op,nm,cm,n,ks⟩:=f;simp only [CH.Formula.op,CH.Formula.name,CH.Formula.cmp,CH.Formula.n,CH.Formula.kids,Lu,Decidable.not_not,ne_eq,Nat.not_lt,Nat.le_zero,Bo] at h;obtain⟨rfl,rfl,rfl,rfl,rfl⟩:=h;rfl
theorem Xf (m:bD) (vk:ZC) (w:ZB) (hK:Ay w w m.aB vk) (h:bM m=false) : ZE prog 140 #[.agg (Av m vk).toArray,.agg (Av zM (.slice none 0 0)).toArray] w (Ret w (.bool false)):=by
 have hB0:=Aa fun o o2=>((Ac _ w).alloc nR o).alloc sM o2;have hne:m≠zM:=fun e=>by rw [e] at h;revert h;decide +kernel
 obtain⟨id,au,k,tg,⟨f1,f2,f3,f4,ks⟩,st,un,wi⟩:=m;obtain⟨a,cap,rfl,_,_,_⟩:=hK.form;clear hK h;dsimp only at *;have F:Hid (id=[]->au=[]->k=0->tg=[]->st=0->un=0->wi=0->∀ W,ZE prog 218 #[.agg (Ao (.mk f1 f2 f3 f4 ks) (.slice a ks.length cap)),.agg (Ao zM.aB (.slice none 0 0))] W (Ret W (.bool false))):=Aa (by rintro rfl rfl rfl rfl rfl rfl rfl W;refine Mrb (.mk f1 f2 f3 f4 ks) a _ cap W (Gp fun q=>hne ?_);rw [BK q];rfl);clear hne;dsimp only [Av,Ao,zM,CH.Formula.op,CH.Formula.name,CH.Formula.cmp,CH.Formula.n,CH.Formula.kids] at *;generalize ks.length=N at *;rcases Fo id with rfl|⟨h1,h2,h3⟩;rcases Fo au with rfl|⟨h1,h2,h3⟩;rcases Ev k with rfl|⟨h1,h2⟩;rcases Fo tg with rfl|⟨h1,h2,h3⟩;rcases Ev st with rfl|⟨h1,h2⟩;rcases Ev un with rfl|⟨h1,h2⟩;rcases Ev wi with rfl|⟨h1,h2⟩;·replace F:=Aa (F.out rfl rfl rfl rfl rfl rfl rfl);go_enter func140,ntmps140;go_wp2_with fail;refine (F.out _).mono ?_;exact FD141
 all_goals clear F;go_enter func140,ntmps140;go_wp2;go_ret;exact⟨rfl,hB0.out _ _⟩
theorem Xg (l:fF) (vm vp:ZC) (w:ZB) (h1:Strs w w vm l.measures) (h2:Strs w w vp l.aH) (h:dB l=true) : ZE prog 141 #[.agg (Br l vm vp).toArray,.agg (Br zL (.slice none 0 0) (.slice none 0 0)).toArray] w (Ret w (.bool false)):=by
 have hB0:=Aa fun o o2=>((Ac _ w).alloc nR o).alloc sM o2;obtain⟨id,ms,ps,q,u,st,un⟩:=l;have M2:=Aa fun (e:ms.length=0) (W:ZB) (hb:Below w w W)=>(show ZE prog 219 #[vm,.slice none 0 0] W (Ret W (.bool true)) from by obtain rfl:ms=[]:=Bo.1 e;exact Kl vm _ [] W ((h1.below hb nR).mono hb.size) (Ln _ _))
 have P2:=Aa fun (e:ps.length=0) (W:ZB) (hb:Below w w W)=>(show ZE prog 219 #[vp,.slice none 0 0] W (Ret W (.bool true)) from by obtain rfl:ps=[]:=Bo.1 e;exact Kl vp _ [] W ((h2.below hb nR).mono hb.size) (Ln _ _))
 obtain⟨am,cm,rfl,_,_⟩:=h1.form;obtain⟨ap,cp,rfl,_,_⟩:=h2.form;have M1:=Aa fun (e:0<ms.length) (W:ZB)=>Wu am ms.length cm W e;have P1:=Aa fun (e:0<ps.length) (W:ZB)=>Wu ap ps.length cp W e;clear h1 h2;unfold dB at h;dsimp only [Br,zL,aA,aJ] at *;simp only [Ec,bne_iff_ne,Bq] at h;generalize ms.length=NM at *;generalize ps.length=NP at *;replace h:=Aa h;rcases Fo id with rfl|⟨h1,h2,h3⟩;rotate_left;·clear M1 M2 P1 P2 h;go_enter func141,ntmps141;go_wp2;go_ret;exact⟨rfl,hB0.out _ _⟩
 rcases Nat.eq_zero_or_pos NM with rfl|m0;rotate_left;·replace M1:=Aa (M1.out m0);clear M2 P1 P2 h;go_enter func141,ntmps141;go_wp2_with fail;refine (M1.out _).mono ?_;exact FD79
 replace M2:=Aa (M2.out rfl);clear M1;go_enter func141,ntmps141;go_wp2_with fail;have B:=hB0.out;generalize hWd:(w.alloc _).alloc _=W at *;have hBW:Below w w W:=by rw [<- hWd];exact B _ _
 have K:=Aa (Mg hWd);clear hWd hB0 B;refine CmZ (M2.out _ hBW) fun w1 hb1=>?_;have hB1:=hBW.trans (hb1.mono hBW.size);have k2:=(K.out w1 hb1).1 2 _ rfl;have k2':=(K.out w1 hb1).2 2 _ rfl;clear M2;rcases Nat.eq_zero_or_pos NP with rfl|p0;rotate_left;·replace P1:=Aa (P1.out p0);clear P2 h K;go_wp2_with fail;refine CmZ (P1.out _) fun w2 hb2=>?_;have hB2:=hB1.trans (hb2.mono hB1.size);exact FD123
 replace P2:=Aa (P2.out rfl);clear P1;go_wp2_with fail;refine CmZ (P2.out _ hB1) fun w2 hb2=>?_;have hB2:=hB1.trans (hb2.mono hB1.size);have hb:=hb1.trans (hb2.mono hb1.size);have k3:=(K.out w2 hb).1 3 _ rfl;have k3':=(K.out w2 hb).2 3 _ rfl;have k4:=(K.out w2 hb).1 4 _ rfl;have k4':=(K.out w2 hb).2 4 _ rfl;have k5:=(K.out w2 hb).1 5 _ rfl;have k5':=(K.out w2 hb).2 5 _ rfl;have k6:=(K.out w2 hb).1 6 _ rfl;have k6':=(K.out w2 hb).2 6 _ rfl;have h6:q≠0\/u≠0\/st≠0\/un≠0:=by have:=h.out;simp at this;omega
 clear P2 k2 k2' h;rcases Ev q with rfl|⟨h1,h2⟩;rcases Ev u with rfl|⟨h1,h2⟩;rcases Ev st with rfl|⟨h1,h2⟩;rcases Ev un with rfl|⟨h1,h2⟩;·simp at h6
 all_goals clear h6 K;go_wp2;go_ret;exact⟨rfl,hB2⟩
theorem Er8 (x:aQ) (vj:ZC) (w:ZB) (h1:Strs w w vj x.joint) (h:dD x=true) : ZE prog 142 #[.agg (Ax x vj).toArray,.agg (Ax zH (.slice none 0 0)).toArray] w (Ret w (.bool false)):=by
 have hB0:=Aa fun o o2=>((Ac _ w).alloc nR o).alloc sM o2;obtain⟨id,co,ho,no,pl,js,ca,vo,st,en⟩:=x;have M2:=Aa fun (e:js.length=0) (W:ZB) (hb:Below w w W)=>(show ZE prog 220 #[vj,.slice none 0 0] W (Ret W (.bool true)) from by obtain rfl:js=[]:=Bo.1 e;exact Sy vj _ [] W ((h1.below hb nR).mono hb.size) (Ln _ _))
 obtain⟨am,cm,rfl,_,_⟩:=h1.form;have M1:=Aa fun (e:0<js.length) (W:ZB)=>Hmy am js.length cm W e;clear h1;unfold dD at h;dsimp only [Ax,zH,aA,aJ] at *;simp only [Ec,bne_iff_ne,Bq] at h;generalize js.length=NM at *;replace h:=Aa h;rcases Fo id with rfl|⟨h1,h2,h3⟩;rcases Fo co with rfl|⟨h1,h2,h3⟩;rcases Fo ho with rfl|⟨h1,h2,h3⟩;rcases Fo no with rfl|⟨h1,h2,h3⟩;rcases Fo pl with rfl|⟨h1,h2,h3⟩;rotate_left;iterate 5 ·clear M1 M2 h;go_enter func142,ntmps142;go_wp2;go_ret;exact⟨rfl,hB0.out _ _⟩
 rcases Nat.eq_zero_or_pos NM with rfl|m0;rotate_left;·replace M1:=Aa (M1.out m0);clear M2 h;go_enter func142,ntmps142;go_wp2_with fail;refine (M1.out _).mono ?_;exact FD79
 replace M2:=Aa (M2.out rfl);clear M1;go_enter func142,ntmps142;go_wp2_with fail;have B:=hB0.out;generalize hWd:(w.alloc _).alloc _=W at *;have hBW:Below w w W:=by rw [<- hWd];exact B _ _
 have K:=Aa (Mg hWd);clear hWd hB0 B;refine CmZ (M2.out _ hBW) fun w1 hb1=>?_;have hB1:=hBW.trans (hb1.mono hBW.size);have k6:=(K.out w1 hb1).1 6 _ rfl;have k6':=(K.out w1 hb1).2 6 _ rfl;have k7:=(K.out w1 hb1).1 7 _ rfl;have k7':=(K.out w1 hb1).2 7 _ rfl;have k8:=(K.out w1 hb1).1 8 _ rfl;have k8':=(K.out w1 hb1).2 8 _ rfl;have k9:=(K.out w1 hb1).1 9 _ rfl;have k9':=(K.out w1 hb1).2 9 _ rfl;have h6:ca≠0\/vo≠0\/st≠0\/en≠0:=by have:=h.out;simp at this;omega
 clear M2 h K;rcases Ev ca with rfl|⟨h1,h2⟩;rcases Ev vo with rfl|⟨h1,h2⟩;rcases Ev st with rfl|⟨h1,h2⟩;rcases Ev en with rfl|⟨h1,h2⟩;·simp at h6
 all_goals clear h6;go_wp2;go_ret;exact⟨rfl,hB1⟩
end
end Go.Proofs.Y
