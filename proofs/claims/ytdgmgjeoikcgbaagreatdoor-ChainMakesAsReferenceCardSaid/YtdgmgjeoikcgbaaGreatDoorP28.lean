/-
  ChainMakes: the proof, part 29 of 34.
-/
import Derived.Test.YtdgmgjeoikcgbaaGreatDoorP23
import Derived.Test.YtdgmgjeoikcgbaaGreatDoorP27
set_option linter.unusedSimpArgs false
set_option linter.unusedVariables false
set_option maxHeartbeats 40000000
set_option maxRecDepth 100000
open Go renaming World -> ZB
namespace Go.Proofs.YtdgmgjeoikcgbaaGreatDoor
section
open Go.Lib Go.Proofs.Tryz Go.RowKit Go.Shelf Go.Sort CH
attribute [local irreducible] wpQuiet
theorem Low (o:Option (List UInt8)):uZ o=iO o:=by cases o <;> rfl
theorem Qq (v:CH.Version) (s:dI) (w:ZB) (h:aN w w v s) : Calls prog 55 #[.agg (Al v s).toArray] w (Ret w (iO (CH.bare v))):=by have:=Ctd v s w h;rwa [Low] at this
theorem Vt (s:vF):CH.words (G2 s)=CH.join [32] ([([115,101,97,108]:List UInt8),dF s.index]++s.sig++[[47]]++s.path):=by unfold CH.words G2;simp only [Gg,G8,Pm,Pj,G4 (s:=([115,101,97,108]:List UInt8)) dC];rw [show gZ [47]=[47] from rfl];simp [CH.Word.texts]
theorem Ov (v:Value) (ls:List (List UInt8)) (most:Nat) (w:ZB) (hv:Strs w w v ls) (hl:∀ l∈ls,l.length<=9223372036854775807) : Calls prog 63 #[v,↑most] w (Ret w (.bool (bP ls most))):=by
 obtain⟨a,cap,rfl,hlc,hcap,hne⟩:=hv;have HL:=Aa hl;replace hne:=Aa hne;obtain⟨R,hR⟩:∃ R,Hid (bP ls most=R):=⟨_,Aa rfl⟩
 rw [hR.out];obtain⟨N,hN⟩:∃ N,Hid (ls.length=N):=⟨_,Aa rfl⟩
 rw [hN.out] at hlc ⊢;clear hl;go_enter func63,ntmps63;go_wp2_with fail;go_loopw [5] (fun iv wr=>∃ k:Nat,k<=N/\iv=↑k/\Hid ((ls.take k).any (fun s=>!ay s)=false)/\Below w w wr) (fun iv _=>N - (RowKit.intOf iv).toNat);case atStart=>exact⟨0,Bg _,rfl,Aa rfl,Ac _ _⟩
 case round =>
  obtain⟨k,hk,rfl,hA,hb⟩:=hrel;by_cases hlt:k<N
  ·obtain⟨l,hl'⟩:∃ l,ls[k]?=some l:=⟨_,Ad (by rw [hN.out];exact hlt)⟩
   obtain⟨b,off,rfl,hbl,hcells⟩:=hne.out (by rintro rfl;simp at hl');have hcell:wr.cell? ⟨b,off+k,none⟩=some ↑l:=(hb.cell (p:=⟨b,off+k,none⟩) hbl).trans (hcells k l hl');have D:=Mz l wr (HL.out l (Aq hl'));cases hd:ay l with
   |true =>
    have hA2:Hid ((ls.take (k+1)).any (fun s=>!ay s)=false):=Aa (by rw [aI ls k l hl',List.any_append,hA.out];simp [hd]);rw [hd] at D;replace D:=Aa D;clear hcells hl' hd hA;go_wp2_with fail;refine D.out.mono ?_;rintro e w1 ⟨rfl,hb1⟩;have hb2:=hb.trans (hb1.mono hb.size);go_wp2;go_roundw;case rel=>exact⟨k+1,oM,by go_num,hA2,hb2⟩
    case measure=>simp [RowKit.intOf];omega
   |false =>
    have hF:R=false:=by rw [<- hR.out];unfold bP;rw [Iy.2 ⟨l,Aq hl',by rw [hd];rfl⟩];simp
    subst hF;rw [hd] at D;replace D:=Aa D;clear hcells hl' hd hA;go_wp2_with fail;refine D.out.mono ?_;rintro e w1 ⟨rfl,hb1⟩;have hb2:=hb.trans (hb1.mono hb.size);go_wp2;go_ret;exact⟨rfl,hb2⟩
  ·have e:ls.take k=ls:=Cb (by have:=hN.out;omega);have hF:Hid (decide (N<=most)=R):=Aa (by rw [<- hR.out,<- hN.out];unfold bP;have:=hA.out;rw [e] at this;rw [this];simp);clear hA e;go_wp2;go_ret;exact⟨by rw [<- hF.out];simp,hb⟩
theorem Tw (v:CH.Version) (s:dI) (w:ZB) (h:aN w w v s) : Calls prog 27 #[.agg (Al v s).toArray] w (Ret w (It (bZ v))):=by
 obtain⟨R,hR⟩:∃ R,Hid (It (bZ v)=R):=⟨_,Aa rfl⟩
 rw [hR.out];have hR1:=hR.out;rw [P8] at hR1;clear hR;have hB0:=fun o=>(Ac _ w).alloc nR o;have HV:=Aa fun (W:ZB) (hb:Below w w W)=>(h.below hb nR).mono hb.size;have T:=fun (W:ZB) (hb:Below w w W)=>Qq v s W (HV.out W hb);obtain⟨t,ht⟩:∃ t,CH.bare v=t:=⟨_,rfl⟩
 have hl:∀ x,t=some x->x.length<=5000000000:=fun x hx=>Ru (ht.trans hx) h;rw [ht] at T hR1;have T:=Aa T;have hR1:=Aa hR1;have HS:=Aa h.small;obtain⟨va,v1,v2⟩:=s;clear h ht;generalize hC:Al v { va:=va,v1:=v1,v2:=v2 }=C at T ⊢;have hlen:(prog.info? 29).map (·.size)=some C.length:=by rw [<- hC];kernel_rfl
 have hC:=Aa hC;have hr0:=Aa (Ca w C 29);go_enter func27,ntmps27;go_wp2_with (refine Bf rfl 29 _ rfl w 0 rfl C _ hr0.out underlying29 rfl hlen ?_)
 refine (T.out _ (hB0 _)).mono ?_;rintro e w1 ⟨rfl,hb1⟩;clear T;have hB1:Below w w w1:=(hB0 _).trans (hb1.mono sM);have hlt1:w.heap.size<w1.heap.size:=Ai sM hb1.size;have hr1:w1.rangeAt w 0 C:=Cg hr0.out hb1 sM;rw [<- hC.out] at hr1;have r5:w1.rangeAt w 5 [aJ v.sel.index,v1,v2]:=Cz (l:=[aJ v.authority,aJ v.number,aJ v.pos,aA v.prev,va]) hr1 5 rfl;have k5:w1.cell? ⟨w,5,none⟩=some ↑v.sel.index:=hr1 5 _ rfl;have k6:w1.cell? ⟨w,6,none⟩=some v1:=hr1 6 _ rfl;have k7:w1.cell? ⟨w,7,none⟩=some v2:=hr1 7 _ rfl;clear hb1 hr0 hr1 hlen r5;have hv1:Strs w1 w1 v1 v.sel.sig:=(HV.out w1 hB1).sig;have hv2:Strs w1 w1 v2 v.sel.path:=(HV.out w1 hB1).path;obtain⟨a1,c1,rfl,_,_⟩:=hv1.form;obtain⟨a2,c2,rfl,_,_⟩:=hv2.form;have uM:=fun o=>(Ac _ w1).alloc nR o;cases t with
 |none =>exact FD139
 |some t =>
  have hl:=hl t rfl;dsimp only at hR1;dsimp only [iO];obtain⟨b1,h1⟩:∃ b,decide (v.sel.index<0)=b:=⟨_,rfl⟩
  obtain⟨b2,h2⟩:∃ b,decide (255<v.sel.index)=b:=⟨_,rfl⟩
  have D1:=fun (W:ZB) (hb:Below w1 w1 W)=>Ov _ v.sel.sig 18 W ((hv1.below hb nR).mono hb.size) (fun l hl=>Af (HS.out.sig.2 l hl) dC);have D2:=fun (W:ZB) (hb:Below w1 w1 W)=>Ov _ v.sel.path 8 W ((hv2.below hb nR).mono hb.size) (fun l hl=>Af (HS.out.path.2 l hl) dC);obtain⟨b3,h3⟩:∃ b,bP v.sel.sig 18=b:=⟨_,rfl⟩
  obtain⟨b4,h4⟩:∃ b,bP v.sel.path 8=b:=⟨_,rfl⟩
  rw [h1,h2,h3,h4] at hR1;rw [h3] at D1;rw [h4] at D2;have D1:=Aa D1;have D2:=Aa D2;have H3:=Aa h3;have H4:=Aa h4;have hv1:=Aa hv1;have hv2:=Aa hv2;clear h3 h4;generalize hn1:v.sel.sig.length=n1 at *;generalize hn2:v.sel.path.length=n2 at *;have hn1:=Aa hn1;have hn2:=Aa hn2;rcases (by cases b1 <;> cases b2 <;> simp:(b1=true)\/(b1=false/\b2=true)\/(b1=false/\b2=false)) with rfl|⟨rfl,rfl⟩|⟨rfl,rfl⟩;·exact FD38
  ·exact FD38
  ·go_wp2_with fail;refine (D1.out _ (uM _)).mono ?_;rintro e w2 ⟨rfl,hb2⟩;have hblk:=(hb2.block w1 sM).trans (Ap w1 _);have hlt2:w1.heap.size<w2.heap.size:=(aZ hblk)
   have g0:w2.cell? ⟨w1,0,none⟩=some ↑v.sel.index:=Ab hblk 0;have g1:w2.cell? ⟨w1,1,none⟩=some (.slice a1 n1 c1):=Ab hblk 1;have g2:w2.cell? ⟨w1,2,none⟩=some (.slice a2 n2 c2):=Ab hblk 2;have qj:Below w1 w1 w2:=(uM _).trans (hb2.mono sM);have hB2:Below w w w2:=hB1.trans (qj.mono hB1.size);clear D1 hb2 hblk;cases b3 with
   |false =>exact FD66
   |true =>
    go_wp2_with fail;refine (D2.out _ qj).mono ?_;rintro e w3 ⟨rfl,hb3⟩;have m0:=(hb3.cell (p:=⟨w1,0,none⟩) hlt2).trans g0;have m1:=(hb3.cell (p:=⟨w1,1,none⟩) hlt2).trans g1;have m2:=(hb3.cell (p:=⟨w1,2,none⟩) hlt2).trans g2;have hB3:Below w w w3:=hB2.trans (hb3.mono hB2.size);have qZ:Below w1 w1 w3:=qj.trans (hb3.mono qj.size);have hlt3:w1.heap.size<w3.heap.size:=Ai hlt2 hb3.size;clear D2 hb3 g0 g1 g2;cases b4 with
    |false =>go_wp2;refine Ag (Am rfl _ _ _) rfl ?_;exact⟨by rw [<- hR1.out];rfl,hB3⟩
    |true =>
     have h18:v.sel.sig.length<=18:=by have:=H3.out;unfold bP at this;simp only [Bool.and_eq_true,decide_eq_true_eq] at this;exact this.1
     have h8:v.sel.path.length<=8:=by have:=H4.out;unfold bP at this;simp only [Bool.and_eq_true,decide_eq_true_eq] at this;exact this.1
     have hwl:=Om HS.out.index HS.out.sig HS.out.path h18 h8;rw [Vt] at hwl hR1;have hS1:=hv1.out;have hS2:=hv2.out;have HS1:=Aa fun (W:ZB) (hb:Below w1 w1 W)=>hS1.below hb nR;have HS2:=Aa fun (W:ZB) (hb:Below w1 w1 W)=>hS2.below hb nR;have DC:=Aa fun (W:ZB)=>Ch v.sel.index W (by have:=of_decide_eq_false h1;omega) (by have:=of_decide_eq_false h2;omega);have hs1:v.sel.sig.length<=18:=h18;have hs2:v.sel.path.length<=8:=h8;have e1:=hn1.out;have e2:=hn2.out;rw [<- e1] at m1;rw [<- e2] at m2;clear hv1 hv2 hS1 hS2 H3 H4 hn1 hn2 h18 h8;subst e1 e2;generalize dF v.sel.index=dx at *;generalize v.sel.sig=sg at *;generalize v.sel.path=pt at *;have hR2:Hid (It (if 20000<(t++(CH.join [32] ([([115,101,97,108]:List UInt8),dx]++sg++[[47]]++pt)++[10])).length then .error 2 else .ok (t++(CH.join [32] ([([115,101,97,108]:List UInt8),dx]++sg++[[47]]++pt)++[10])))=R):=Aa (by rw [<- hR1.out];rfl);have SS:=Aa fun (W':ZB) (hb:Below w3 w3 W')=>(show W'.cell? ⟨w1,0,none⟩=some ↑v.sel.index/\W'.cell? ⟨w1,1,none⟩=some (.slice a1 sg.length c1)/\W'.cell? ⟨w1,2,none⟩=some (.slice a2 pt.length c2) from
      ⟨(hb.cell (p:=⟨w1,0,none⟩) hlt3).trans m0,(hb.cell (p:=⟨w1,1,none⟩) hlt3).trans m1,(hb.cell (p:=⟨w1,2,none⟩) hlt3).trans m2⟩)
     have hD3:Below w3 w3 w3.drew:=(Ac _ w3).drew;have HB:=Aa fun (W':ZB) (hb:Below w3 w3 W')=>qZ.trans (hb.mono qZ.size);clear hR1 m0 m1 m2;go_wp2_with fail;go_region_held3 (fun W'=>W'.cell? ⟨w1,0,none⟩=some ↑v.sel.index/\W'.cell? ⟨w1,1,none⟩=some (.slice a1 sg.length c1)/\W'.cell? ⟨w1,2,none⟩=some (.slice a2 pt.length c2)) (first|exact SS.out _ hB6|exact SS.out _ (hB5.alloc hB5.size _)|exact SS.out _ hB5|exact SS.out _ hD3)
      (first
      |(rw [Ar rF];refine Cq _ _ rfl w5 _ [([115,101,97,108]:List UInt8),dx] rfl (G1 w5 [([115,101,97,108]:List UInt8),dx] sM) w1.heap.size _ sg rfl (HS1.out _ (HB.out _ (hB5.alloc hB5.size _))) (by simp;omega) sM ?_;intro v6 w6 hO6 hg6;have hB6:Below w3 w3 w6:=(hB5.alloc hB5.size _).grown hg6 (by have:=hB5.size;simp;omega) (fun j hj=>Af hB5.size ((G1 w5 [([115,101,97,108]:List UInt8),dx] sM).ownBlock j hj).1))
      |(go_at_call 64;refine (DC.out _).mono ?_;rintro e w5 ⟨rfl,hb5⟩;have hB5:Below w3 w3 w5:=hD3.trans (hb5.mono hD3.size)))
     have hs5:w3.heap.size<=w5.heap.size:=hB5.size;have hs6:w5.heap.size<=w6.heap.size:=by have:=hg6.size;simp at this;omega
     have hD6:Below w3 w3 w6.drew:=hB6.drew;have hO7:=hO6.below (Ac _ w6).drew;have hl6:([([115,101,97,108]:List UInt8),dx]++sg).length<=20:=by simp;omega
     obtain⟨a6,c6,e6,_⟩:=hO6.form;generalize [([115,101,97,108]:List UInt8),dx]++sg=L6 at *;generalize L6.length=n6 at e6;subst e6;have JJ:=Aa fun (v:Value) (W:ZB) (hv:Strs W W v (L6++[[47]]++pt))=>Mv v _ W hv hwl;generalize CH.join [32] (L6++[[47]]++pt)=J at *;have hl4:¬ (9223372036854775807<J.length+1):=oM;have hl5:¬ (9223372036854775807<t.length+(J.length+1)):=oM;clear hO6 hg6 hb5;go_wp2_with fail;go_region_held3 (fun W'=>W'.cell? ⟨w1,0,none⟩=some ↑v.sel.index/\W'.cell? ⟨w1,1,none⟩=some (.slice a1 sg.length c1)/\W'.cell? ⟨w1,2,none⟩=some (.slice a2 pt.length c2)) (first|exact SS.out _ hC4|exact SS.out _ hC3|exact SS.out _ hC2|exact SS.out _ (hD6.alloc hD6.size _)|exact SS.out _ hD6)
      (first
      |(rw [Ar rF];refine Cd _ _ rfl w5 _ L6 rfl (hO7.alloc _) w6.drew.heap.size _ [47] rfl (Bz _ _ _ _ _) oM (by simp;omega) ?_;intro v8 w8 hO8 hg8;have hC2:Below w3 w3 w8:=(hD6.alloc hD6.size _).grown hg8 (by have:=hD6.size;simp;omega) (fun j hj=>Af hs5 (hO7.ownBlock j hj).1);have hs8:w5.heap.size<=w8.heap.size:=by (have:=hg8.size;simp at this;omega))
      |(rw [Ar rF];refine Cq _ _ rfl w5 _ _ rfl hO8 w1 _ pt rfl (HS2.out _ (HB.out _ hC2)) (by simp;omega) hs8 ?_;intro v9 w9 hO9 hg9;have hC3:Below w3 w3 w9:=hC2.grown hg9 hC2.size (fun j hj=>Af hs5 (hO8.ownBlock j hj).1))
      |(go_at_call 65;refine (JJ.out _ _ hO9.strs).mono ?_;rintro e w10 ⟨rfl,oL⟩;have hC4:Below w3 w3 w10:=hC3.trans (oL.mono hC3.size)))
     have hB4:Below w w w10:=hB3.trans (hC4.mono hB3.size);have yB:(⟨t.toArray⟩++(⟨J.toArray⟩++⟨#[10]⟩):ByteArray)=⟨(t++(J++[10])).toArray⟩:=by rw [<- bytes_append,<- bytes_append]
     have hsz:(⟨t.toArray⟩++(⟨J.toArray⟩++⟨#[10]⟩):ByteArray).size=t.length+(J.length+1):=by rw [yB];simp [ByteArray.size]
     clear SS HB HS1 HS2 DC JJ hO8 hO9 hg8 hg9 oL hC2 hC3 hC4 hB5 hB6 hD3 hD6 hO7;by_cases h20:20000<t.length+(J.length+1)
     ·have q:decide ((20000:Int)<((t.length+(J.length+1):Nat):Int))=true:=by simp;omega
      exact FD147
     ·have q:decide ((20000:Int)<((t.length+(J.length+1):Nat):Int))=false:=by simp;omega
      have hR3:Hid (It (.ok (t++(J++[10])))=R):=Aa (by rw [<- hR2.out,Ah (by simpa using h20)]);exact FD54
end
section
open Go.Lib Go.Proofs.Tryz Go.RowKit Go.Shelf Go.Sort CH
theorem Ggc {v:CH.Version} {t:List UInt8} (h:bZ v=.ok t):0<=v.sel.index/\v.sel.index<=255/\bP v.sel.sig 18=true/\bP v.sel.path 8=true:=by
 unfold bZ at h;split at h;·cases h
 ·split at h;·rename_i hc;unfold CH.within at hc;simp only [Aw,Bl] at hc;exact⟨hc.1.1.1,hc.1.1.2,hc.1.2,hc.2⟩
  ·cases h
theorem Um {ls:List (List UInt8)} {n:Nat} (h:bP ls n=true):ls.length<=n/\∀ l∈ls,ay l=true:=by unfold bP at h;rw [Aw,Bl,Fz,Iq] at h;exact⟨h.1,fun l hl=>by simpa using h.2 l hl⟩
theorem Ma (v:CH.Version) (s:dI) (w:ZB) (h:aN w w v s) : Calls prog 25 #[.agg (Al v s).toArray] w (Ret w (It (CH.message v))):=by
 obtain⟨R,hR⟩:∃ R,Hid (It (CH.message v)=R):=⟨_,Aa rfl⟩
 rw [hR.out];have hR1:=hR.out;rw [Py] at hR1;have hB0:=fun o=>(Ac _ w).alloc nR o;have h0:=h.fZ;have HV:=Aa fun (W:ZB) (hb:Below w w W)=>(h0.below hb nR).mono hb.size;have T:=fun (W:ZB) (hb:Below w w W)=>Tw (fZ v) _ W (HV.out W hb);have TB:=fun (W:ZB) (hb:Below w w W)=>Qq (fZ v) _ W (HV.out W hb);rw [jD] at TB;obtain⟨t,ht⟩:∃ t,CH.bare v=t:=⟨_,rfl⟩
 obtain⟨x,hx⟩:∃ x,bZ (fZ v)=x:=⟨_,rfl⟩
 have hl:∀ u,t=some u->u.length<=5000000000:=fun u hu=>Ru (ht.trans hu) h;have hsome:∀ y,x=.ok y->∃ u,t=some u:=fun y hy=>by obtain⟨u,hu⟩:=Sk (hx.trans hy);rw [jD,ht] at hu;exact⟨u,hu⟩
 have herr:∀ e,x=.error e->e≠0:=fun e he=>by exact FD118
 rw [hx,ht] at hR1;rw [hx] at T;rw [ht] at TB;obtain⟨va,v1,v2⟩:=s;clear h h0 hx ht hR;dsimp only [Al,fZ] at T TB ⊢;have T:=Aa T;have TB:=Aa TB;have hR1:=Aa hR1;have hsz:∀ o,(w.alloc o).heap.size=w.heap.size+1:=fun o=>by simp
 go_enter func25,ntmps25;go_wp2_with fail;refine (T.out _ (hB0 _)).mono ?_;rintro e w1 ⟨rfl,hb1⟩;have hB1:Below w w w1:=(hB0 _).trans (hb1.mono sM);have hblk:=(hb1.block w sM).trans (Ap w _);have k0:=Ab hblk 0;have k1:=Ab hblk 1;have k2:=Ab hblk 2;have k3:=Ab hblk 3;have k4:=Ab hblk 4;have k5:=Ab hblk 5;have k6:=Ab hblk 6;have k7:=Ab hblk 7;clear T hb1 hblk hsz;cases x with
 |error e =>
  dsimp only [It];dsimp only at hR1;have q:(e != 0)=true:=by simpa using herr e rfl
  clear herr hsome hl;exact FD100
 |ok y =>obtain⟨u,rfl⟩:=hsome y rfl;dsimp only [It];have S:=Aa fun W=>Sq u W (Af (hl u rfl) dC);dsimp only [Option.getD_some] at hR1;go_wp2_with fail;refine (TB.out _ hB1).mono ?_;rintro e w2 ⟨rfl,hb2⟩;have hB2:Below w w w2:=hB1.trans (hb2.mono hB1.size);clear TB;dsimp only [iO];go_wp2_with fail;refine (S.out _).mono ?_;exact FD107
theorem Wp (v:CH.Version) (s:dI) (key:List UInt8) (w:ZB) (h:aN w w v s) : Calls prog 10 #[.agg (Al v s).toArray,↑key] w (Ret w (.bool (gJ v key))):=by
 obtain⟨R,hR⟩:∃ R,Hid (gJ v key=R):=⟨_,Aa rfl⟩
 rw [hR.out];have hR1:=hR.out;unfold gJ at hR1;have hB0:=fun o=>(Ac _ w).alloc nR o;have HV:=Aa fun (W:ZB) (hb:Below w w W)=>(h.below hb nR).mono hb.size;have T:=fun (W:ZB) (hb:Below w w W)=>Tw v s W (HV.out W hb);have M:=fun (W:ZB) (hb:Below w w W)=>Ma v s W (HV.out W hb);obtain⟨x,hx⟩:∃ x,bZ v=x:=⟨_,rfl⟩
 have herr:∀ e,x=.error e->e≠0:=fun e he=>by exact FD118
 have hnum:∀ y,x=.ok y->1<=v.number/\v.number<=200:=fun y hy=>by obtain⟨u,hu⟩:=Sk (hx.trans hy);have:=Is4 hu;omega
 simp only [V6] at M;have hml:=Ino v;generalize Bwb (CH.message v)=me at M;generalize CH.msg v=mm at M hR1 hml;rw [hx] at hR1 T;have HS:=Aa h.small;have V:=fun (y:List UInt8) (hy:x=.ok y) (W:ZB) (hb:Below w w W)=>(show Calls prog 31 #[↑key,↑mm,.agg #[↑v.sel.index,s.v1,s.v2]] W (Ret W (.bool (Mp key mm v.sel.index v.sel.sig v.sel.path))) from by obtain⟨g1,g2,g3,g4⟩:=Ggc (hx.trans hy);obtain⟨g5,g6⟩:=Um g3;obtain⟨g7,g8⟩:=Um g4;have e:((v.sel.index.toNat:Nat):Int)=v.sel.index:=Int.toNat_of_nonneg g1;have:=Ym key mm v.sel.index.toNat s.v1 s.v2 v.sel.sig v.sel.path W (Af hml dC) (HV.out W hb).sig (HV.out W hb).path g6 g8 g5 g7 oM;rwa [e] at this)
 obtain⟨va,v1,v2⟩:=s;clear h hx hR;dsimp only [Al] at T M V ⊢;have T:=Aa T;have M:=Aa M;have V:=Aa V;go_enter func10,ntmps10;go_wp2_with fail;refine (T.out _ (hB0 _)).mono ?_;rintro e w1 ⟨rfl,hb1⟩;have hB1:Below w w w1:=(hB0 _).trans (hb1.mono sM);have hblk:=(hb1.block w sM).trans (Ap w _);have hlt1:w.heap.size<w1.heap.size:=(aZ hblk)
 have k0:w1.cell? ⟨w,0,none⟩=some ↑v.authority:=Ab hblk 0;have k1:w1.cell? ⟨w,1,none⟩=some ↑v.number:=Ab hblk 1;have k2:w1.cell? ⟨w,2,none⟩=some ↑v.pos:=Ab hblk 2;have k3:w1.cell? ⟨w,3,none⟩=some ↑v.prev:=Ab hblk 3;have k4:w1.cell? ⟨w,4,none⟩=some va:=Ab hblk 4;have k5:w1.cell? ⟨w,5,none⟩=some ↑v.sel.index:=Ab hblk 5;have k6:w1.cell? ⟨w,6,none⟩=some v1:=Ab hblk 6;have k7:w1.cell? ⟨w,7,none⟩=some v2:=Ab hblk 7;clear T hb1;clear hB0;replace M:=Aa (M.out _ hB1);cases x with
 |error e =>
  dsimp only [It];dsimp only at hR1;have q:(e==0)=false:=by simpa using herr e rfl
  replace hR1:=Aa hR1;clear herr hnum V;go_wp2_with fail;refine M.out.mono ?_;rintro e w2 ⟨rfl,hb2⟩;have hB2:Below w w w2:=hB1.trans (hb2.mono hB1.size);go_wp2;go_ret;exact⟨by rw [<- hR1.out];rfl,hB2⟩
 |ok y =>
  have hn:=hnum y rfl;dsimp only [It];dsimp only at hR1;replace hR1:=Aa hR1;replace V:=Aa (V.out y rfl);clear herr hnum;go_wp2_with fail;refine M.out.mono ?_;rintro e w2 ⟨rfl,hb2⟩;have hB2:Below w w w2:=hB1.trans (hb2.mono hB1.size);have hblk2:=(hb2.block w hlt1).trans hblk;have m1:w2.cell? ⟨w,1,none⟩=some ↑v.number:=Ab hblk2 1;have m5:w2.cell? ⟨w,5,none⟩=some ↑v.sel.index:=Ab hblk2 5;have m6:w2.cell? ⟨w,6,none⟩=some v1:=Ab hblk2 6;have m7:w2.cell? ⟨w,7,none⟩=some v2:=Ab hblk2 7;clear M k0 k1 k2 k3 k4 k5 k6 k7 hblk hblk2;by_cases hi:v.sel.index=v.number - 1
  ·have q1:(v.sel.index==v.number - 1)=true:=by simpa using hi
   have hR2:Hid (Mp key mm v.sel.index v.sel.sig v.sel.path=R):=Aa (by rw [<- hR1.out,q1];rfl);clear hR1 hi;exact FD91
  ·have q1:(v.sel.index==v.number - 1)=false:=by simpa using hi
   have hR2:Hid (false=R):=Aa (by rw [<- hR1.out,q1];rfl);clear hR1 V;go_wp2;go_ret;exact⟨by rw [<- hR2.out];rfl,hB2⟩
end
end Go.Proofs.YtdgmgjeoikcgbaaGreatDoor
