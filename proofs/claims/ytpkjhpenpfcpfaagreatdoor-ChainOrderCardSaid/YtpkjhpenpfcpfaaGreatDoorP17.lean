/-
  ChainOrder: the proof, part 18 of 28.
-/
import Derived.Test.YtpkjhpenpfcpfaaGreatDoorP15
import Derived.Test.YtpkjhpenpfcpfaaGreatDoorP16
import Derived.Test.YtpkjhpenpfcpfaaGreatDoorP29
set_option linter.unusedSimpArgs false
set_option linter.unusedVariables false
set_option maxHeartbeats 40000000
set_option maxRecDepth 100000
open Go renaming World -> ZB, Calls -> ZE
namespace Go.Proofs.YtpkjhpenpfcpfaaGreatDoor
section
open Go.Lib Go.Proofs.Tryz Go.RowKit Go.Shelf Go.Sort CH
theorem fJ.raw {B:Nat} {w:ZB} {a:CH.Act} {s:eX} (h:fJ B w a s):dB B w a s:=⟨h.names,h.meas.kids,h.lm,h.lp,h.hj⟩
theorem Gr.raw {B:Nat} {w:ZB} {v:Value} {l:List CH.Act} (h:Gr B w v l):K5 B w v l:=by obtain⟨a,cap,h1,h2,h3,h4⟩:=h;refine⟨a,cap,h1,h2,h3,fun hne=>?_⟩;obtain⟨b,off,e,hlt,hx⟩:=h4 hne;refine⟨b,off,e,hlt,fun j x hj=>?_⟩;obtain⟨s,c1,c2⟩:=hx j x hj;exact⟨s,c1,c2.raw⟩
theorem aP.raw {B:Nat} {w:ZB} {v:CH.Version} {s:dA} (h:aP B w v s):ji B w v s:=⟨h.acts.raw,h.sig,h.path⟩
theorem Fl {W:ZB} {b o:Nat} {a:CH.Act} {s:eX} (h:W.rangeAt b o (Av a s)) : W.cell? ⟨b,o,none⟩=some ↑a.kind/\W.rangeAt b (o+1) (A9 a.change s.vn)/\W.rangeAt b (o+6) (A4 a.measure s.vk)/\W.rangeAt b (o+18) (Bu a.licence s.vm s.vp)/\W.rangeAt b (o+25) (A5 a.holding s.vj) /\ W.cell? ⟨b,o+35,none⟩=some ↑a.id/\W.cell? ⟨b,o+36,none⟩=some ↑a.n:=by have r1:W.rangeAt b (o+1) (A9 a.change s.vn++(A4 a.measure s.vk++(Bu a.licence s.vm s.vp++(A5 a.holding s.vj++[ay a.id,aJ a.n])))):=Dd (l:=[aJ a.kind]) h (o+1) rfl;have r6:=Dd r1 (o+6) rfl;have r18:=Dd r6 (o+18) rfl;have r25:=Dd r18 (o+25) rfl;have r35:=Dd r25 (o+35) rfl;exact⟨h 0 _ rfl,Hh r1,Hh r6,Hh r18,Hh r25,r35 0 _ rfl,r35 1 _ rfl⟩
theorem Ggs (a b:CH.Act) (s s':eX) (w:ZB) (R1 R2 R3 R4:Bool) (hk:a.kind=b.kind) (T1:∀ (W:ZB),Below w w W->ZE prog 216 #[.agg (A9 a.change s.vn).toArray,.agg (A9 b.change s'.vn).toArray] W (Ret W (.bool R1))) (T2:∀ (W:ZB),Below w w W->ZE prog 217 #[.agg (A4 a.measure s.vk).toArray,.agg (A4 b.measure s'.vk).toArray] W (Ret W (.bool R2))) (T3:∀ (W:ZB),Below w w W->ZE prog 218 #[.agg (Bu a.licence s.vm s.vp).toArray,.agg (Bu b.licence s'.vm s'.vp).toArray] W (Ret W (.bool R3))) (T4:∀ (W:ZB),Below w w W->ZE prog 219 #[.agg (A5 a.holding s.vj).toArray,.agg (A5 b.holding s'.vj).toArray] W (Ret W (.bool R4))) : ZE prog 157 #[.agg (Av a s).toArray,.agg (Av b s').toArray] w (Ret w (.bool (R1&&(R2&&(R3&&(R4&&(a.id==b.id&&a.n==b.n))))))):=by
 replace T1:=Aa T1;replace T2:=Aa T2;replace T3:=Aa T3;replace T4:=Aa T4;have P:=Aa fun (W:ZB) (b:Nat) (hr:W.rangeAt b 0 (Av a s))=>Fl hr;have P':=Aa fun (W:ZB) (c:Nat) (hr:W.rangeAt c 0 (Av b s'))=>Fl hr;rw [<- hk] at P';clear hk;have i1:(prog.info? 56).map (·.size)=some (A9 a.change s.vn).length:=kR;have i2:(prog.info? 61).map (·.size)=some (A4 a.measure s.vk).length:=kR;have i3:(prog.info? 63).map (·.size)=some (Bu a.licence s.vm s.vp).length:=kR;have i4:(prog.info? 51).map (·.size)=some (A5 a.holding s.vj).length:=kR;have i1':(prog.info? 56).map (·.size)=some (A9 b.change s'.vn).length:=kR;have i2':(prog.info? 61).map (·.size)=some (A4 b.measure s'.vk).length:=kR;have i3':(prog.info? 63).map (·.size)=some (Bu b.licence s'.vm s'.vp).length:=kR;have i4':(prog.info? 51).map (·.size)=some (A5 b.holding s'.vj).length:=kR;generalize A9 a.change s.vn=C1 at *;generalize A4 a.measure s.vk=C2 at *;generalize Bu a.licence s.vm s.vp=C3 at *;generalize A5 a.holding s.vj=C4 at *;generalize A9 b.change s'.vn=C1' at *;generalize A4 b.measure s'.vk=C2' at *;generalize Bu b.licence s'.vm s'.vp=C3' at *;generalize A5 b.holding s'.vj=C4' at *;generalize Av a s=C at *;generalize Av b s'=C' at *;generalize a.kind=ak at *;generalize a.id=aid at *;generalize a.n=an at *;generalize b.id=bid at *;generalize b.n=bn at *;have hB0:=Aa fun o o2=>((Ac _ w).alloc nR o).alloc sM o2;have hr0:=Aa (Nd (B7 w C 65) (.cells C'.toArray 65));have wQ:Hid (((w.alloc (.cells C.toArray 65)).alloc (.cells C'.toArray 65)).rangeAt (w.heap.size+1) 0 C'):=Aa (by have:=B7 (w.alloc (.cells C.toArray 65)) C' 65;rwa [Dt] at this);obtain⟨k0,r1,_⟩:=P.out _ _ hr0.out;obtain⟨k0',r1',_⟩:=P'.out _ _ wQ.out;have r1:=Aa r1;have r1':=Aa r1';go_enter func157,ntmps157;go_wp2_with (first|refine Bw rfl 56 _ rfl w (0+1) rfl C1 _ r1.out underlying56 rfl i1 ?_|refine Bw rfl 56 _ rfl (w+1) (0+1) rfl C1' _ r1'.out underlying56 rfl i1' ?_)
 have B:=hB0.out (.cells C.toArray 65) (.cells C'.toArray 65);have hlt:w.heap.size+1<((w.alloc (.cells C.toArray 65)).alloc (.cells C'.toArray 65)).heap.size:=sM;clear hB0;generalize (w.alloc (.cells C.toArray 65)).alloc (.cells C'.toArray 65)=W at *;have R:=Aa fun (W':ZB) (hb:Below W W W')=>P.out W' _ (Cg hr0.out hb oM);have R':=Aa fun (W':ZB) (hb:Below W W W')=>P'.out W' _ (Cg wQ.out hb hlt);clear P P' hr0 wQ;refine (T1.out _ B).mono ?_;rintro e w1 ⟨rfl,hb1⟩;have B1:=B.trans (hb1.mono B.size);clear T1 r1 r1' k0 k0' i1 i1';cases R1;focus clear R R';go_wp2;go_ret;exact⟨rfl,B1⟩
 obtain⟨_,_,r2,_⟩:=R.out w1 hb1;obtain⟨_,_,r2',_⟩:=R'.out w1 hb1;have r2:=Aa r2;have r2':=Aa r2';go_wp2_with (first|refine Bw rfl 61 _ rfl w (0+6) rfl C2 _ r2.out underlying61 rfl i2 ?_|refine Bw rfl 61 _ rfl (w+1) (0+6) rfl C2' _ r2'.out underlying61 rfl i2' ?_)
 refine (T2.out _ B1).mono ?_;rintro e w2 ⟨rfl,hb⟩;have B2:=B1.trans (hb.mono B1.size);have hb2:=hb1.trans (hb.mono hb1.size);clear T2 r2 r2' hb i2 i2';cases R2;focus clear R R';go_wp2;go_ret;exact⟨rfl,B2⟩
 obtain⟨_,_,_,r3,_⟩:=R.out w2 hb2;obtain⟨_,_,_,r3',_⟩:=R'.out w2 hb2;have r3:=Aa r3;have r3':=Aa r3';go_wp2_with (first|refine Bw rfl 63 _ rfl w (0+18) rfl C3 _ r3.out underlying63 rfl i3 ?_|refine Bw rfl 63 _ rfl (w+1) (0+18) rfl C3' _ r3'.out underlying63 rfl i3' ?_)
 refine (T3.out _ B2).mono ?_;rintro e w3 ⟨rfl,hb⟩;have B3:=B2.trans (hb.mono B2.size);have hb3:=hb2.trans (hb.mono hb2.size);clear T3 r3 r3' hb i3 i3';cases R3;focus clear R R';go_wp2;go_ret;exact⟨rfl,B3⟩
 obtain⟨_,_,_,_,r4,_⟩:=R.out w3 hb3;obtain⟨_,_,_,_,r4',_⟩:=R'.out w3 hb3;have r4:=Aa r4;have r4':=Aa r4';go_wp2_with (first|refine Bw rfl 51 _ rfl w (0+25) rfl C4 _ r4.out underlying51 rfl i4 ?_|refine Bw rfl 51 _ rfl (w+1) (0+25) rfl C4' _ r4'.out underlying51 rfl i4' ?_)
 refine (T4.out _ B3).mono ?_;rintro e w4 ⟨rfl,hb⟩;have B4:=B3.trans (hb.mono B3.size);have hb4:=hb3.trans (hb.mono hb3.size);clear T4 r4 r4' hb i4 i4';cases R4;focus clear R R';go_wp2;go_ret;exact⟨rfl,B4⟩
 obtain⟨_,_,_,_,_,k35,k36⟩:=R.out w4 hb4;obtain⟨_,_,_,_,_,DK,DJ⟩:=R'.out w4 hb4;clear R R';simp only [Bh] at k35 k36 DK DJ;cases hx:aid==bid with
 |false =>obtain⟨s1,s2,s3⟩:=Kk hx;go_wp2;go_ret;exact⟨by rw [hx];rfl,B4⟩
 |true =>
  obtain rfl:=eq_of_beq hx;clear hx;cases hy:an==bn with
  |false =>go_wp2;go_ret;exact⟨by rw [beq_self_eq_true,hy];rfl,B4⟩
  |true =>obtain rfl:=eq_of_beq hy;clear hy;go_wp2;go_ret;exact⟨by rw [beq_self_eq_true,beq_self_eq_true];rfl,B4⟩
end
section
open Go.Lib Go.Proofs.Tryz Go.RowKit Go.Shelf Go.Sort CH
attribute [local irreducible] wpQuiet
theorem Gb (s:List UInt8):s=[]\/s.isEmpty=false/\((⟨s.toArray⟩:ByteArray)==⟨#[]⟩)=false/\¬ s=[]:=by
 cases s with
 |nil=>exact .inl rfl
 |cons c s=>exact .inr ⟨rfl,by rw [show (#[]:Array UInt8)=([]:List UInt8).toArray from rfl,Cw];rfl,sM⟩
theorem Fm (n:Int):n=0\/(n==0)=false/\¬ n=0:=by
 by_cases h:n=0;·exact .inl h
 ·exact .inr ⟨by simpa using h,h⟩
theorem V5 (a:Option Addr) (n c:Nat) (w:ZB) (h:0<n):ZE prog 272 #[.slice a n c,.slice none 0 0] w (Ret w (.bool false)):=by
 have h1:((n:Int)==0)=false:=by simp;omega
 go_enter func272,ntmps272;exact FD29
theorem Ggk (a:Option Addr) (n c:Nat) (w:ZB) (h:0<n):ZE prog 273 #[.slice a n c,.slice none 0 0] w (Ret w (.bool false)):=by
 have h1:((n:Int)==0)=false:=by simp;omega
 go_enter func273,ntmps273;exact FD29
theorem Bal (id:List UInt8) (a:Option Addr) (n c:Nat) (w:ZB) (h:id≠[]\/0<n) : ZE prog 270 #[.agg #[↑id,.slice a n c],.agg #[.string ⟨#[]⟩,.slice none 0 0]] w (Ret w (.bool false)):=by
 have hB0:=fun o o2=>((Ac _ w).alloc nR o).alloc sM o2;rcases Gb id with rfl|⟨h1,h2,h3⟩
 ·have h1:((n:Int)==0)=false:=by simp at h ⊢;omega
  go_enter func270,ntmps270;go_wp2;go_ret;exact⟨rfl,hB0 _ _⟩
 ·go_enter func270,ntmps270;go_wp2;go_ret;exact⟨rfl,hB0 _ _⟩
theorem Knb (f:CH.Formula) (a:Option Addr) (n c:Nat) (w:ZB) (h:f.op≠0\/f.name≠[]\/f.cmp≠0\/f.n≠0\/0<n) : ZE prog 271 #[.agg (An f (.slice a n c)),.agg (An zM.aA (.slice none 0 0))] w (Ret w (.bool false)):=by
 have hB0:=Aa fun o o2=>((Ac _ w).alloc nR o).alloc sM o2;obtain⟨op,nm,cm,fn,ks⟩:=f;dsimp only [An,zM,CH.Formula.op,CH.Formula.name,CH.Formula.cmp,CH.Formula.n] at *;rcases Fm op with rfl|⟨h1,h2⟩;rcases Gb nm with rfl|⟨h1,h2,h3⟩;rcases Fm cm with rfl|⟨h1,h2⟩;rcases Fm fn with rfl|⟨h1,h2⟩;have h1:((n:Int)==0)=false:=by simp at h ⊢;omega
 all_goals clear h;go_enter func271,ntmps271;go_wp2;go_ret;exact⟨rfl,hB0.out _ _⟩
theorem Tm (B:Nat) (w:ZB):Dr B w (.slice none 0 0) []:=⟨none,0,rfl,Bo _,oM,fun h=>absurd rfl h⟩
theorem L3 (B:Nat) (w:ZB):Strs B w (.slice none 0 0) []:=⟨none,0,rfl,Bo _,oM,fun h=>absurd rfl h⟩
theorem Dir (B:Nat) (w:ZB):A6 B w zM.aA (.slice none 0 0):=by unfold zM A6;exact FD81
theorem Yx (c:CH.Change) (v:Value) (w:ZB) (hv:Ge w w v c.entry.names) (h:dG c=true) : ZE prog 216 #[.agg (A9 c v).toArray,.agg (A9 zC (.slice none 0 0)).toArray] w (Ret w (.bool false)):=by
 have hB0:=Aa fun o o2=>((Ac _ w).alloc nR o).alloc sM o2;obtain⟨kd,id,⟨eid,ns⟩,p⟩:=c;have E2:=Aa fun (e:eid=[]) (n0:ns.length=0) (W:ZB) (hb:Below w w W)=>(show ZE prog 270 #[.agg #[↑eid,v],.agg #[.string ⟨#[]⟩,.slice none 0 0]] W (Ret W (.bool true)) from by obtain rfl:ns=[]:=Cb.1 n0;subst e;exact W7 ⟨[],[]⟩ v (.slice none 0 0) W (hv.grow hb) (Tm _ _))
 obtain⟨a,cap,rfl,hl,hcap,_⟩:=hv;have E1:=Aa fun (q:eid≠[]\/0<ns.length) (W:ZB)=>Bal eid a ns.length cap W q;unfold dG at h;dsimp only [A9,zC] at *;generalize ns.length=N at *;simp only [Dq,bne_iff_ne,Bl] at h;replace h:=Aa h;rcases Fm kd with rfl|⟨h1,h2⟩;rcases Gb id with rfl|⟨h1,h2,h3⟩;by_cases hE:eid≠[]\/0<N;·replace E1:=Aa (E1.out hE);clear E2 hE h;go_enter func216,ntmps216;go_wp2_with fail;refine (E1.out _).mono ?_;exact FD73
 ·have e0:eid=[]:=Classical.byContradiction fun q=>hE (.inl q);have n0:N=0:=oM;have hp:p≠0:=fun q=>by have:=h.out;simp [e0,n0,q] at this
  have hp1:(p==0)=false:=by simpa using hp
  replace E2:=Aa (E2.out e0 n0);clear E1 hE h hp e0 n0;have A2:=Ni w;go_enter func216,ntmps216;go_wp2_with fail;have B:=hB0.out;generalize hWd:(w.alloc _).alloc _=W at *;have hBW:Below w w W:=by rw [<- hWd];exact B _ _
  have K:=Aa (Q1 hWd);clear hWd hB0 A2 B;refine (E2.out _ hBW).mono ?_;rintro e w1 ⟨rfl,hb1⟩;have k4:=(K.out w1 hb1).1 4 _ rfl;have k4':=(K.out w1 hb1).2 4 _ rfl;have hB1:=hBW.trans (hb1.mono hBW.size);clear E2 K;exact FD25
 all_goals clear E1 E2 h;go_enter func216,ntmps216;go_wp2;go_ret;exact⟨rfl,hB0.out _ _⟩
theorem yA {f:CH.Formula} (h:¬ (f.op≠0\/f.name≠[]\/f.cmp≠0\/f.n≠0\/0<f.kids.length)):f=zM.aA:=by obtain⟨op,nm,cm,n,ks⟩:=f;simp only [CH.Formula.op,CH.Formula.name,CH.Formula.cmp,CH.Formula.n,CH.Formula.kids,Jy,Decidable.not_not,ne_eq,Nat.not_lt,Nat.le_zero,Cb] at h;obtain⟨rfl,rfl,rfl,rfl,rfl⟩:=h;rfl
theorem Wi (m:bC) (vk:Value) (w:ZB) (hK:A6 w w m.aA vk) (h:bJ m=false) : ZE prog 217 #[.agg (A4 m vk).toArray,.agg (A4 zM (.slice none 0 0)).toArray] w (Ret w (.bool false)):=by
 have hB0:=Aa fun o o2=>((Ac _ w).alloc nR o).alloc sM o2;have hne:m≠zM:=fun e=>by rw [e] at h;revert h;decide +kernel
 obtain⟨id,au,k,tg,⟨f1,f2,f3,f4,ks⟩,st,un,wi⟩:=m;obtain⟨a,cap,rfl,_,_,_⟩:=hK.form;clear hK h;dsimp only at *;have F:Hid (id=[]->au=[]->k=0->tg=[]->st=0->un=0->wi=0->∀ W,ZE prog 271 #[.agg (An (.mk f1 f2 f3 f4 ks) (.slice a ks.length cap)),.agg (An zM.aA (.slice none 0 0))] W (Ret W (.bool false))):=Aa (by rintro rfl rfl rfl rfl rfl rfl rfl W;refine Knb (.mk f1 f2 f3 f4 ks) a _ cap W (Classical.byContradiction fun q=>hne ?_);rw [yA q];rfl);clear hne;dsimp only [A4,An,zM,CH.Formula.op,CH.Formula.name,CH.Formula.cmp,CH.Formula.n,CH.Formula.kids] at *;generalize ks.length=N at *;rcases Gb id with rfl|⟨h1,h2,h3⟩;rcases Gb au with rfl|⟨h1,h2,h3⟩;rcases Fm k with rfl|⟨h1,h2⟩;rcases Gb tg with rfl|⟨h1,h2,h3⟩;rcases Fm st with rfl|⟨h1,h2⟩;rcases Fm un with rfl|⟨h1,h2⟩;rcases Fm wi with rfl|⟨h1,h2⟩;·replace F:=Aa (F.out rfl rfl rfl rfl rfl rfl rfl);go_enter func217,ntmps217;go_wp2_with fail;refine (F.out _).mono ?_;exact FD120
 all_goals clear F;go_enter func217,ntmps217;go_wp2;go_ret;exact⟨rfl,hB0.out _ _⟩
theorem Wj (l:fE) (vm vp:Value) (w:ZB) (h1:Strs w w vm l.measures) (h2:Strs w w vp l.aG) (h:dn l=true) : ZE prog 218 #[.agg (Bu l vm vp).toArray,.agg (Bu zL (.slice none 0 0) (.slice none 0 0)).toArray] w (Ret w (.bool false)):=by
 have hB0:=Aa fun o o2=>((Ac _ w).alloc nR o).alloc sM o2;obtain⟨id,ms,ps,q,u,st,un⟩:=l;have M2:=Aa fun (e:ms.length=0) (W:ZB) (hb:Below w w W)=>(show ZE prog 272 #[vm,.slice none 0 0] W (Ret W (.bool true)) from by obtain rfl:ms=[]:=Cb.1 e;exact K9 vm _ [] W ((h1.below hb nR).mono hb.size) (L3 _ _))
 have P2:=Aa fun (e:ps.length=0) (W:ZB) (hb:Below w w W)=>(show ZE prog 272 #[vp,.slice none 0 0] W (Ret W (.bool true)) from by obtain rfl:ps=[]:=Cb.1 e;exact K9 vp _ [] W ((h2.below hb nR).mono hb.size) (L3 _ _))
 obtain⟨am,cm,rfl,_,_⟩:=h1.form;obtain⟨ap,cp,rfl,_,_⟩:=h2.form;have M1:=Aa fun (e:0<ms.length) (W:ZB)=>V5 am ms.length cm W e;have P1:=Aa fun (e:0<ps.length) (W:ZB)=>V5 ap ps.length cp W e;clear h1 h2;unfold dn at h;dsimp only [Bu,zL,ay,aJ] at *;simp only [Dq,bne_iff_ne,Bl] at h;generalize ms.length=NM at *;generalize ps.length=NP at *;replace h:=Aa h;rcases Gb id with rfl|⟨h1,h2,h3⟩;rotate_left;·clear M1 M2 P1 P2 h;go_enter func218,ntmps218;go_wp2;go_ret;exact⟨rfl,hB0.out _ _⟩
 rcases Nat.eq_zero_or_pos NM with rfl|m0;rotate_left;·replace M1:=Aa (M1.out m0);clear M2 P1 P2 h;go_enter func218,ntmps218;go_wp2_with fail;refine (M1.out _).mono ?_;exact FD73
 replace M2:=Aa (M2.out rfl);clear M1;go_enter func218,ntmps218;go_wp2_with fail;have B:=hB0.out;generalize hWd:(w.alloc _).alloc _=W at *;have hBW:Below w w W:=by rw [<- hWd];exact B _ _
 have K:=Aa (Q1 hWd);clear hWd hB0 B;refine (M2.out _ hBW).mono ?_;rintro e w1 ⟨rfl,hb1⟩;have hB1:=hBW.trans (hb1.mono hBW.size);have k2:=(K.out w1 hb1).1 2 _ rfl;have k2':=(K.out w1 hb1).2 2 _ rfl;clear M2;rcases Nat.eq_zero_or_pos NP with rfl|p0;rotate_left;·replace P1:=Aa (P1.out p0);clear P2 h K;go_wp2_with fail;refine (P1.out _).mono ?_;rintro e w2 ⟨rfl,hb2⟩;have hB2:=hB1.trans (hb2.mono hB1.size);exact FD126
 replace P2:=Aa (P2.out rfl);clear P1;go_wp2_with fail;refine (P2.out _ hB1).mono ?_;rintro e w2 ⟨rfl,hb2⟩;have hB2:=hB1.trans (hb2.mono hB1.size);have hb:=hb1.trans (hb2.mono hb1.size);have k3:=(K.out w2 hb).1 3 _ rfl;have k3':=(K.out w2 hb).2 3 _ rfl;have k4:=(K.out w2 hb).1 4 _ rfl;have k4':=(K.out w2 hb).2 4 _ rfl;have k5:=(K.out w2 hb).1 5 _ rfl;have k5':=(K.out w2 hb).2 5 _ rfl;have k6:=(K.out w2 hb).1 6 _ rfl;have k6':=(K.out w2 hb).2 6 _ rfl;have h6:q≠0\/u≠0\/st≠0\/un≠0:=by have:=h.out;simp at this;omega
 clear P2 k2 k2' h;rcases Fm q with rfl|⟨h1,h2⟩;rcases Fm u with rfl|⟨h1,h2⟩;rcases Fm st with rfl|⟨h1,h2⟩;rcases Fm un with rfl|⟨h1,h2⟩;·simp at h6
 all_goals clear h6 K;go_wp2;go_ret;exact⟨rfl,hB2⟩
theorem Cls (x:aS) (vj:Value) (w:ZB) (h1:Strs w w vj x.joint) (h:dw x=true) : ZE prog 219 #[.agg (A5 x vj).toArray,.agg (A5 zH (.slice none 0 0)).toArray] w (Ret w (.bool false)):=by
 have hB0:=Aa fun o o2=>((Ac _ w).alloc nR o).alloc sM o2;obtain⟨id,co,ho,no,pl,js,ca,vo,st,en⟩:=x;have M2:=Aa fun (e:js.length=0) (W:ZB) (hb:Below w w W)=>(show ZE prog 273 #[vj,.slice none 0 0] W (Ret W (.bool true)) from by obtain rfl:js=[]:=Cb.1 e;exact Sq vj _ [] W ((h1.below hb nR).mono hb.size) (L3 _ _))
 obtain⟨am,cm,rfl,_,_⟩:=h1.form;have M1:=Aa fun (e:0<js.length) (W:ZB)=>Ggk am js.length cm W e;clear h1;unfold dw at h;dsimp only [A5,zH,ay,aJ] at *;simp only [Dq,bne_iff_ne,Bl] at h;generalize js.length=NM at *;replace h:=Aa h;rcases Gb id with rfl|⟨h1,h2,h3⟩;rcases Gb co with rfl|⟨h1,h2,h3⟩;rcases Gb ho with rfl|⟨h1,h2,h3⟩;rcases Gb no with rfl|⟨h1,h2,h3⟩;rcases Gb pl with rfl|⟨h1,h2,h3⟩;rotate_left;iterate 5 ·clear M1 M2 h;go_enter func219,ntmps219;go_wp2;go_ret;exact⟨rfl,hB0.out _ _⟩
 rcases Nat.eq_zero_or_pos NM with rfl|m0;rotate_left;·replace M1:=Aa (M1.out m0);clear M2 h;go_enter func219,ntmps219;go_wp2_with fail;refine (M1.out _).mono ?_;exact FD73
 replace M2:=Aa (M2.out rfl);clear M1;go_enter func219,ntmps219;go_wp2_with fail;have B:=hB0.out;generalize hWd:(w.alloc _).alloc _=W at *;have hBW:Below w w W:=by rw [<- hWd];exact B _ _
 have K:=Aa (Q1 hWd);clear hWd hB0 B;refine (M2.out _ hBW).mono ?_;rintro e w1 ⟨rfl,hb1⟩;have hB1:=hBW.trans (hb1.mono hBW.size);have k6:=(K.out w1 hb1).1 6 _ rfl;have k6':=(K.out w1 hb1).2 6 _ rfl;have k7:=(K.out w1 hb1).1 7 _ rfl;have k7':=(K.out w1 hb1).2 7 _ rfl;have k8:=(K.out w1 hb1).1 8 _ rfl;have k8':=(K.out w1 hb1).2 8 _ rfl;have k9:=(K.out w1 hb1).1 9 _ rfl;have k9':=(K.out w1 hb1).2 9 _ rfl;have h6:ca≠0\/vo≠0\/st≠0\/en≠0:=by have:=h.out;simp at this;omega
 clear M2 h K;rcases Fm ca with rfl|⟨h1,h2⟩;rcases Fm vo with rfl|⟨h1,h2⟩;rcases Fm st with rfl|⟨h1,h2⟩;rcases Fm en with rfl|⟨h1,h2⟩;·simp at h6
 all_goals clear h6;go_wp2;go_ret;exact⟨rfl,hB1⟩
end
end Go.Proofs.YtpkjhpenpfcpfaaGreatDoor
