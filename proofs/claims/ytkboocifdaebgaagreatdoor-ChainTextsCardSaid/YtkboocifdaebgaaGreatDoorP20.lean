/- ChainTexts, part 21 of 31. -/
import Derived.Test.YtkboocifdaebgaaGreatDoorP14
import Derived.Test.YtkboocifdaebgaaGreatDoorP19
set_option linter.all false
set_option maxHeartbeats 40000000
set_option maxRecDepth 100000
open Go renaming World -> ZB, Value -> ZC, Calls -> ZE, redrawn -> ZI
open Go.RowKit renaming intOf -> ZG
namespace Go.Proofs.Y
section
open Go.Lib Go.Proofs.Tryz Go.RowKit Go.Shelf Go.Sort CH
attribute [local irreducible] wpQuiet
variable {k:Nat} {R:Bool}
theorem Hs (p:Prop):∃ R:Bool,(R=true↔p):=by
 by_cases h:p;·exact⟨true,by simp [h]⟩
 ·exact⟨false,by simp [h]⟩
theorem Hb3 {α:Type} {ls ls':List α} {l l':α} (h:R=true↔ls.drop k=ls'.drop k) (e:ls[k]?=some l) (e':ls'[k]?=some l'):(l=l'->(R=true↔ls.drop (k+1)=ls'.drop (k+1)))/\(¬ l=l'->R=false):=by
 have q:∀ (xs:List α) (x:α),xs[k]?=some x->xs.drop k=x::xs.drop (k+1):=fun xs x hx=>by obtain⟨hlt,rfl⟩:=En.1 hx;exact Ei hlt
 rw [q _ _ e,q _ _ e',List.cons.injEq] at h;exact⟨fun hx=>h.trans ⟨And.right,fun y=>⟨hx,y⟩⟩,fun hx=>Bool.eq_false_iff.2 fun y=>hx (h.1 y).1⟩
theorem Ve {ls ls':List Q00} {l l':Q00} (h:R=true↔ls.drop k=ls'.drop k) (e:ls[k]?=some l) (e':ls'[k]?=some l'):(l=l'/\Hid (R=true↔ls.drop (k+1)=ls'.drop (k+1)))\/(((⟨l.toArray⟩:ByteArray)==⟨l'.toArray⟩)=false/\(l==l')=false/\¬ l=l'/\¬ l'=l/\R=false):=by
 obtain⟨q1,q2⟩:=Hb3 h e e';rcases Hb l l' with hx|⟨n1,n2,n3,n4⟩;·exact .inl ⟨hx,Aa (q1 hx)⟩
 ·exact .inr ⟨n1,n2,n3,n4,q2 n3⟩
theorem Xf {α:Type} {ls ls':List α} {l l':α} {S:Bool} (h:R=true↔ls.drop k=ls'.drop k) (e:ls[k]?=some l) (e':ls'[k]?=some l') (hS:S=true↔l=l'):(S=true/\Hid (R=true↔ls.drop (k+1)=ls'.drop (k+1)))\/(S=false/\R=false):=by
 obtain⟨q1,q2⟩:=Hb3 h e e';cases S with
 |true=>exact .inl ⟨rfl,Aa (q1 (hS.1 rfl))⟩
 |false=>exact .inr ⟨rfl,q2 fun e=>by have:=hS.2 e;cases this⟩
theorem Q6 {α:Type} {ls ls':List α} (h:R=true↔ls.drop k=ls'.drop k) (e:ls.length=k) (e':ls'.length=k):R=true:=h.2 (by rw [List.drop_of_length_le (Lj e),List.drop_of_length_le (Lj e')])
theorem Rj (v v':ZC) (ls ls':List Q00) (R:Bool) (w:ZB) (hR:R=true↔ls=ls') (hv:Strs w w v ls) (hv':Strs w w v' ls') : ZE prog 77 #[v,v'] w (Ret w (.bool R)):=by exact FD0
theorem Bsi (v v':ZC) (ls ls':List Q00) (R:Bool) (w:ZB) (hR:R=true↔ls=ls') (hv:Strs w w v ls) (hv':Strs w w v' ls') : ZE prog 263 #[v,v'] w (Ret w (.bool R)):=by exact FD0
theorem Bsd (v v':ZC) (ls ls':List Q00) (R:Bool) (w:ZB) (hR:R=true↔ls=ls') (hv:Strs w w v ls) (hv':Strs w w v' ls') : ZE prog 147 #[v,v'] w (Ret w (.bool R)):=by exact FD0
theorem Ri (v v':ZC) (ls ls':List Q00) (R:Bool) (w:ZB) (hR:R=true↔ls=ls') (hv:Strs w w v ls) (hv':Strs w w v' ls') : ZE prog 146 #[v,v'] w (Ret w (.bool R)):=by exact FD0
theorem Idx (sc sc':Int) (v v':ZC) (ls ls':List Q00) (R:Bool) (w:ZB) (hR:R=true↔sc=sc'/\ls=ls') (hv:Strs w w v ls) (hv':Strs w w v' ls') : ZE prog 218 #[.agg #[↑sc,v],.agg #[↑sc',v']] w (Ret w (.bool R)):=by
 have hB0:=Aa fun o o2=>((Ac _ w).alloc nR o).alloc sM o2;have T:=Aa fun (h:sc=sc') (W:ZB) (hb:Below w w W)=>Bsi v v' ls ls' R W (by rw [hR];exact and_iff_right h) ((hv.below hb nR).mono hb.size) ((hv'.below hb nR).mono hb.size);obtain⟨a,cap,rfl,_,_,_⟩:=hv;obtain⟨a',cap',rfl,_,_,_⟩:=hv';generalize ls.length=n at *;generalize ls'.length=n' at *;rcases Fd sc sc' with rfl|⟨h1,h2,h3⟩;·replace T:=Aa (T.out rfl);clear hR;go_in;go_wp2_with fail;refine CmZ (T.out _ (hB0.out _ _)) fun w1 hb1=>?_;have hB1:=(hB0.out _ _).trans (hb1.mono (hB0.out _ _).size);clear T;cases R;all_goals go_wp2;go_ret;exact⟨rfl,hB1⟩
 ·obtain rfl:R=false:=Bool.eq_false_iff.2 fun h=>h2 (hR.1 h).1;clear T hR;exact FD115
theorem F20 (e f:CH.Entry) (v v':ZC) (R:Bool) (w:ZB) (hR:R=true↔e=f) (hv:Mt w w v e.names) (hv':Mt w w v' f.names) : ZE prog 144 #[.agg #[↑e.id,v],.agg #[↑f.id,v']] w (Ret w (.bool R)):=by
 obtain⟨id,ls⟩:=e;obtain⟨id',ls'⟩:=f;obtain⟨a,cap,rfl,hl,hcap,hne⟩:=hv;obtain⟨a',cap',rfl,hl',hcap',hne'⟩:=hv';rw [CH.Entry.mk.injEq] at hR;dsimp only at *;have hB0:=fun o o2=>((Ac _ w).alloc nR o).alloc sM o2;rcases Hb id id' with rfl|⟨n1,n2,n3,n4⟩;rcases N4 ls.length ls'.length with hN|⟨h1,h2⟩;rotate_left;·obtain rfl:R=false:=Bool.eq_false_iff.2 fun h=>h2 (congrArg List.length (hR.1 h).2);exact FD111
 ·obtain rfl:R=false:=Bool.eq_false_iff.2 fun h=>n3 (hR.1 h).1;exact FD111
 replace hR:R=true↔ls=ls':=by rw [hR];exact and_iff_right rfl
 obtain⟨N,hn⟩:=naa ls.length;rw [<- hN] at hl' ⊢;rw [hn] at hN hl hl' ⊢;replace hne:=Aa hne;replace hne':=Aa hne';replace hN:=Aa hN;replace hn:=Aa hn;replace hR:=Aa hR;have A2:=S4 w;go_in;go_wp2_with fail;generalize hWd:(w.alloc _).alloc _=W at *;have c1:W.cell? ⟨w,1,none⟩=some (.slice a N cap):=by rw [<- hWd];exact Ab (A2 _ _).1 1
 have c1':W.cell? ⟨w+1,1,none⟩=some (.slice a' N cap'):=by rw [<- hWd];exact Ab (A2 _ _).2 1
 have hBW:Below w w W:=by rw [<- hWd];exact hB0 _ _
 have hlW:w.heap.size+1<W.heap.size:=by rw [<- hWd];simp
 clear hWd hB0 A2;go_loopw [5] (fun i wr=>∃ k:Nat,k<=N/\i=↑k/\Hid (R=true↔ls.drop k=ls'.drop k)/\Hid (Below W W wr)) (fun i _=>N - (ZG i).toNat);case atStart=>exact⟨0,Ak _,rfl,hR,Aa (Ac _ _)⟩
 case round =>
  obtain⟨k,hk,rfl,hQ,hBr⟩:=hrel;have k1:=(hBr.out.cell (p:=⟨w,1,none⟩) (by show w.heap.size<_;omega)).trans c1;have k1':=(hBr.out.cell (p:=⟨w+1,1,none⟩) hlW).trans c1';have hBw:Below w w wr:=hBW.trans (hBr.out.mono hBW.size);by_cases hlt:k<N
  ·obtain⟨b,off,rfl,hbl,kj⟩:=hne.out (by intro h;have:=hn.out;simp [h] at this;omega);obtain⟨b',off',rfl,iK,hcells'⟩:=hne'.out (by intro h;have:=hN.out;simp [h] at this;omega);obtain⟨n,hg⟩:∃ l,ls[k]?=some l:=⟨_,Ae (by rw [hn.out];exact hlt)⟩
   obtain⟨n',hg'⟩:∃ l,ls'[k]?=some l:=⟨_,Ae (by rw [<- hN.out];exact hlt)⟩
   obtain⟨vw,d1,d2,d3⟩:=kj k n hg;obtain⟨vw',d1',d2',d3'⟩:=hcells' k n' hg';obtain⟨S,hS⟩:=Hs (n=n');have hcase:=Xf hQ.out hg hg' hS;have e1:=(hBw.cell (p:=⟨b,off+k*2,none⟩) hbl).trans d1;have e2:=(hBw.cell (p:=⟨b,off+k*2+1,none⟩) hbl).trans d2;have e1':=(hBw.cell (p:=⟨b',off'+k*2,none⟩) iK).trans d1';have e2':=(hBw.cell (p:=⟨b',off'+k*2+1,none⟩) iK).trans d2';clear kj hcells' d1 d2 d1' d2' hg hg' hQ;obtain⟨sn,wn⟩:=n;obtain⟨sn',wn'⟩:=n';rw [CH.Name.mk.injEq] at hS;dsimp only at *;have F:=Aa fun (W:ZB) (hb:Below wr wr W)=>Idx sn sn' vw vw' wn wn' S W hS ((d3.below (hBw.trans (hb.mono hBw.size)) nR).mono (Aj hBw.size hb.size)) ((d3'.below (hBw.trans (hb.mono hBw.size)) nR).mono (Aj hBw.size hb.size));clear hS;obtain⟨vwa,vwc,rfl,_,_⟩:=d3;obtain⟨MZ,MX,rfl,_,_⟩:=d3';generalize wn.length=nw at *;generalize wn'.length=nw' at *;have z0:(0:Int)<=(k:Int):=oM;have zk:((k:Int)).toNat=k:=oM;have hk':(k:Int)<(N:Int):=oM;have g0:∀ (d:Nat) (os:Array Obj),(grow (ZI wr d) os).cell? ⟨w,1,none⟩=some (.slice (some ⟨b,off,none⟩) N cap):=A8 k1;have g0':∀ (d:Nat) (os:Array Obj),(grow (ZI wr d) os).cell? ⟨w+1,1,none⟩=some (.slice (some ⟨b',off',none⟩) N cap'):=A8 k1';have g1:∀ (d:Nat) (os:Array Obj),(grow (ZI wr d) os).cell? ⟨b,off+k*2,none⟩=some ↑sn:=A8 e1;have g2:∀ (d:Nat) (os:Array Obj),(grow (ZI wr d) os).cell? ⟨b,off+k*2+1,none⟩=some (.slice vwa nw vwc):=A8 e2;have g1':∀ (d:Nat) (os:Array Obj),(grow (ZI wr d) os).cell? ⟨b',off'+k*2,none⟩=some ↑sn':=A8 e1';have g2':∀ (d:Nat) (os:Array Obj),(grow (ZI wr d) os).cell? ⟨b',off'+k*2+1,none⟩=some (.slice MZ nw' MX):=A8 e2';rcases hcase with⟨rfl,hQ2⟩|⟨rfl,rfl⟩;all_goals
    go_wp2_with fail;refine Bh kR kR ?_;repeat (quiet_step ((with_reducible exact Dp (F.out _ (Ea _ _ _)))))
    refine D8 ?_;intro wq hbq;replace hbq:=Ay hbq;clear F g0 g0' g1 g2 g1' g2' e1 e2 e1' e2' k1 k1';have hb1:=hbq;have hB1:Hid (Below W W wq):=Aa (hBr.out.trans (hb1.mono hBr.out.size));go_wp2
   ·go_roundw;case rel=>exact⟨k+1,oM,by go_num,hQ2,hB1⟩
    case measure=>simp [ZG];omega
   ·go_ret;exact⟨rfl,hBW.trans (hB1.out.mono hBW.size)⟩
  ·obtain rfl:k=N:=oM;obtain rfl:R=true:=Q6 hQ.out hn.out (by rw [<- hN.out]);go_wp2;go_ret;exact⟨rfl,hBw⟩
theorem Doc (c d:Q07) (v v':ZC) (R:Bool) (w:ZB) (hR:R=true↔c=d) (hv:Mt w w v c.entry.names) (hv':Mt w w v' d.entry.names) : ZE prog 78 #[.agg #[↑c.kind,↑c.id,↑c.entry.id,v,↑c.pos],.agg #[↑d.kind,↑d.id,↑d.entry.id,v',↑d.pos]] w (Ret w (.bool R)):=by
 have hB0:=Aa fun o o2=>((Ac _ w).alloc nR o).alloc sM o2;obtain⟨ck,ci,ce,cp⟩:=c;obtain⟨dk,di,de,dp⟩:=d;rw [CH.Change.mk.injEq] at hR;dsimp only at *;obtain⟨S,hS⟩:=Hs (ce=de);have F:=Aa fun (W:ZB) (hb:Below w w W)=>F20 ce de v v' S W hS (hv.grow hb) (hv'.grow hb);have A2:=S4 w;obtain⟨a,cap,rfl,hl,hcap,_⟩:=hv;obtain⟨a',cap',rfl,hl',hcap',_⟩:=hv';obtain⟨ei,en⟩:=ce;obtain⟨fi,fn⟩:=de;dsimp only at *;generalize en.length=N at *;generalize fn.length=M at *;replace hS:=Aa hS;replace hR:=Aa hR;rcases Fd ck dk with rfl|⟨h1,h2,h3⟩;rcases Hb ci di with rfl|⟨n1,n2,n3,n4⟩;rotate_left;iterate 2
  ·obtain rfl:R=false:=Bool.eq_false_iff.2 fun h=>by
    have:=hR.out.1 h
    simp_all
   clear F hR hS
   go_in
   go_wp2
   go_ret
   exact⟨rfl,hB0.out _ _⟩
 go_in;go_wp2_with fail;have B:=hB0.out;generalize hWd:(w.alloc _).alloc _=W at *;have c4:W.cell? ⟨w,4,none⟩=some ↑cp:=by rw [<- hWd];exact Ab (A2 _ _).1 4
 have c4':W.cell? ⟨w+1,4,none⟩=some ↑dp:=by rw [<- hWd];exact Ab (A2 _ _).2 4
 have hBW:Below w w W:=by rw [<- hWd];exact B _ _
 have hlW:w.heap.size+1<W.heap.size:=by rw [<- hWd];simp
 clear hWd hB0 A2 B;refine CmZ (F.out _ hBW) fun w1 hb1=>?_;have k4:=(hb1.cell (p:=⟨w,4,none⟩) (by show w.heap.size<_;omega)).trans c4;have k4':=(hb1.cell (p:=⟨w+1,4,none⟩) hlW).trans c4';have hB1:=hBW.trans (hb1.mono hBW.size);clear F;rcases Fd cp dp with rfl|⟨h1,h2,h3⟩;all_goals cases S;all_goals go_wp2;go_ret;refine⟨congrArg (fun x=>Ending.returned (Value.bool x)) ?_,hB1⟩;have h1:=hR.out;have h2:=hS.out;revert h1 h2;cases R <;> simp_all
theorem I39:∀ (d:Nat) (f f':CH.Formula) (vk vk':ZC) (R:Bool) (w:ZB),f.depth<=d->(R=true↔f=f')->Ax w w f vk->Ax w w f' vk' ->
  ZE prog 145 #[.agg (An f vk),.agg (An f' vk')] w (Ret w (.bool R))
 |0,f,f',vk,vk',R,w,hd,hR,hK,hK'=>by
  rw [Li] at hd
  omega
 |d+1,.mk op name cmp fn kids,.mk op' name' cmp' fn' sJ,vk,vk',R,w,hd,hR,hK,hK'=>by
  obtain⟨a,cap,rfl,hl,hcap,hne⟩:=hK.form
  obtain⟨a',cap',rfl,hl',hcap',hne'⟩:=hK'.form
  rw [CH.Formula.mk.injEq] at hR
  dsimp only [An,CH.Formula.op,CH.Formula.name,CH.Formula.cmp,CH.Formula.n,CH.Formula.kids] at *
  rw [Li] at hd
  dsimp only [CH.Formula.kids] at hd
  have IH:=Aa (I39 d)
  have hdk:=Aa hd
  clear hd hK hK'
  replace hne:=Aa hne
  replace hne':=Aa hne'
  have hB0:=Aa fun o o2=>((Ac _ w).alloc nR o).alloc sM o2
  replace hR:=Aa hR
  rcases Fd op op' with rfl|⟨h1,h2,h3⟩
  rcases Hb name name' with rfl|⟨h1,h2,h3,h4⟩
  rcases Fd cmp cmp' with rfl|⟨h1,h2,h3⟩
  rcases Fd fn fn' with rfl|⟨h1,h2,h3⟩
  rcases N4 kids.length sJ.length with hN|⟨h1,h2⟩
  rotate_left
  iterate 5
   ·obtain rfl:R=false:=Bool.eq_false_iff.2 fun h=>by
     have:=hR.out.1 h
     simp_all
    clear hne hne' hR IH hdk
    generalize kids.length=N at *
    generalize sJ.length=M at *
    go_in
    go_wp2
    go_ret
    exact⟨rfl,hB0.out _ _⟩
  replace hR:Hid (R=true↔kids=sJ):=Aa (by rw [hR.out];simp)
  obtain⟨N,hn⟩:=naa kids.length
  rw [<- hN] at hl' ⊢
  rw [hn] at hN hl hl' ⊢
  replace hN:=Aa hN
  replace hn:=Aa hn
  have A2:=S4 w
  go_in
  go_wp2_with fail
  have B:=hB0.out
  generalize hWd:(w.alloc _).alloc _=W at *
  have c4:W.cell? ⟨w,4,none⟩=some (.slice a N cap):=by rw [<- hWd];exact Ab (A2 _ _).1 4
  have c4':W.cell? ⟨w+1,4,none⟩=some (.slice a' N cap'):=by rw [<- hWd];exact Ab (A2 _ _).2 4
  have hBW:Below w w W:=by rw [<- hWd];exact B _ _
  have hlW:w.heap.size+1<W.heap.size:=by rw [<- hWd];simp
  clear hWd hB0 A2 B
  go_loopw [5] (fun i wr=>∃ j:Nat,j<=N/\i=↑j/\Hid (R=true↔kids.drop j=sJ.drop j)/\Hid (Below W W wr)) (fun i _=>N - (ZG i).toNat)
  case atStart=>exact⟨0,Ak _,rfl,hR,Aa (Ac _ _)⟩
  case round =>
   obtain⟨j,hj,rfl,hQ,hBr⟩:=hrel
   have k4:=(hBr.out.cell (p:=⟨w,4,none⟩) (by show w.heap.size<_;omega)).trans c4
   have k4':=(hBr.out.cell (p:=⟨w+1,4,none⟩) hlW).trans c4'
   have hBw:Below w w wr:=hBW.trans (hBr.out.mono hBW.size)
   by_cases hlt:j<N
   ·obtain⟨f,hget⟩:∃ f,kids[j]?=some f:=⟨_,Ae (by rw [hn.out];exact hlt)⟩
    obtain⟨f',yS⟩:∃ f,sJ[j]?=some f:=⟨_,Ae (by rw [<- hN.out];exact hlt)⟩
    obtain⟨b,off,rfl,hbl,hrow⟩:=hne.out (by intro h;have:=hn.out;simp [h] at this;omega)
    obtain⟨b',off',rfl,iK,hrow'⟩:=hne'.out (by intro h;have:=hN.out;simp [h] at this;omega)
    obtain⟨vf,e0,e1,e2,e3,e4,hkf⟩:=bP.get kids b off j f hrow hget
    obtain⟨vf',e0',e1',e2',e3',e4',DU⟩:=bP.get sJ b' off' j f' hrow' yS
    obtain⟨S,hS⟩:=Hs (f=f')
    have hcase:=Xf hQ.out hget yS hS
    have k0:=(hBw.cell (p:=⟨b,off+j*5,none⟩) hbl).trans e0
    have k1:=(hBw.cell (p:=⟨b,off+j*5+1,none⟩) hbl).trans e1
    have k2:=(hBw.cell (p:=⟨b,off+j*5+2,none⟩) hbl).trans e2
    have k3:=(hBw.cell (p:=⟨b,off+j*5+3,none⟩) hbl).trans e3
    have k5:=(hBw.cell (p:=⟨b,off+j*5+4,none⟩) hbl).trans e4
    have k0':=(hBw.cell (p:=⟨b',off'+j*5,none⟩) iK).trans e0'
    have k1':=(hBw.cell (p:=⟨b',off'+j*5+1,none⟩) iK).trans e1'
    have k2':=(hBw.cell (p:=⟨b',off'+j*5+2,none⟩) iK).trans e2'
    have k3':=(hBw.cell (p:=⟨b',off'+j*5+3,none⟩) iK).trans e3'
    have k5':=(hBw.cell (p:=⟨b',off'+j*5+4,none⟩) iK).trans e4'
    have C:=Aa fun (W':ZB) (hb:Below wr wr W')=>IH.out f f' vf vf' S W' (by have:=Sw (Bg hget);have:=hdk.out;omega) hS (Ax.mono (Aj hBw.size hb.size) _ _ (Ax.below (hBw.trans (hb.mono hBw.size)) nR _ _ hkf)) (Ax.mono (Aj hBw.size hb.size) _ _ (Ax.below (hBw.trans (hb.mono hBw.size)) nR _ _ DU))
    obtain⟨af,cf,rfl,_,_,_⟩:=hkf.form
    obtain⟨af',cf',rfl,_,_,_⟩:=DU.form
    clear e0 e1 e2 e3 e4 e0' e1' e2' e3' e4' hrow hrow' hget yS hkf DU IH hS hQ
    obtain⟨fop,fname,LV,ffn,fks⟩:=f
    obtain⟨gop,gname,RG,gfn,gks⟩:=f'
    dsimp only [An,CH.Formula.op,CH.Formula.name,CH.Formula.cmp,CH.Formula.n,CH.Formula.kids] at *
    generalize fks.length=nf at *
    generalize gks.length=nf' at *
    have z0:(0:Int)<=(j:Int):=oM
    have zk:((j:Int)).toNat=j:=oM
    have hk':(j:Int)<(N:Int):=oM
    have gk4:=A8 k4
    have QZ:=A8 k4'
    replace k0:=A8 k0
    replace k1:=A8 k1
    replace k2:=A8 k2
    replace k3:=A8 k3
    replace k5:=A8 k5
    replace k0':=A8 k0'
    replace k1':=A8 k1'
    replace k2':=A8 k2'
    replace k3':=A8 k3'
    replace k5':=A8 k5'
    rcases hcase with⟨rfl,hQ2⟩|⟨rfl,rfl⟩
    all_goals
     go_wp2_with fail
     refine Bh kR kR ?_
     repeat (quiet_step ((with_reducible exact Dp (C.out _ (Ea _ _ _)))))
     refine D8 ?_
     intro wq hbq
     replace hbq:=Ay hbq
     clear C gk4 QZ k4 k4' k0 k1 k2 k3 k5 k0' k1' k2' k3' k5'
     have hB1:Hid (Below W W wq):=Aa (hBr.out.trans (hbq.mono hBr.out.size))
     go_wp2
    ·go_roundw
     case rel=>exact⟨j+1,oM,by go_num,hQ2,hB1⟩
     case measure=>simp [ZG];omega
    ·go_ret
     exact⟨rfl,hBW.trans (hB1.out.mono hBW.size)⟩
   ·obtain rfl:j=N:=oM
    obtain rfl:R=true:=Q6 hQ.out hn.out (by rw [<- hN.out])
    go_wp2
    go_ret
    exact⟨rfl,hBw⟩
theorem Dat {S:Bool} (h:R=true↔S=true):S=R:=Fv.2 h.symm
theorem Bsn (m m':aC) (vk vk':ZC) (R:Bool) (w:ZB) (hR:R=true↔m=m') (hK:Ax w w m.aB vk) (hK':Ax w w m'.aB vk') : ZE prog 79 #[.agg (A6 m vk).toArray,.agg (A6 m' vk').toArray] w (Ret w (.bool R)):=by
 have hB0:=Aa fun o o2=>((Ac _ w).alloc nR o).alloc sM o2;obtain⟨S,hS⟩:=Hs (m.aB=m'.aB);have F:=Aa fun (W:ZB) (hb:Below w w W)=>I39 m.aB.depth m.aB m'.aB vk vk' S W nR hS (Ax.mono hb.size _ _ (Ax.below hb nR _ _ hK)) (Ax.mono hb.size _ _ (Ax.below hb nR _ _ hK'));obtain⟨a,cap,rfl,_,_,_⟩:=hK.form;obtain⟨a',cap',rfl,_,_,_⟩:=hK'.form;clear hK hK';obtain⟨i,au,kd,tg,wh,st,un,wi⟩:=m;obtain⟨i',au',kd',tg',wh',st',un',wi'⟩:=m';rw [aC.mk.injEq] at hR;dsimp only at *;obtain⟨fop,fname,LV,ffn,fks⟩:=wh;obtain⟨gop,gname,RG,gfn,gks⟩:=wh';dsimp only [A6,An,CH.Formula.op,CH.Formula.name,CH.Formula.cmp,CH.Formula.n,CH.Formula.kids] at *;generalize fks.length=N at *;generalize gks.length=M at *;replace hR:R=true↔i=i'/\au=au'/\kd=kd'/\tg=tg'/\S=true/\st=st'/\un=un'/\wi=wi':=by rw [hR,hS]
 clear hS;replace hR:=Aa hR;rcases Hb i i' with rfl|⟨h1,h2,h3,h4⟩;rcases Hb au au' with rfl|⟨h1,h2,h3,h4⟩;rcases Fd kd kd' with rfl|⟨h1,h2,h3⟩;rcases Hb tg tg' with rfl|⟨h1,h2,h3,h4⟩;rcases Fd st st' with rfl|⟨h1,h2,h3⟩;rcases Fd un un' with rfl|⟨h1,h2,h3⟩;rcases Fd wi wi' with rfl|⟨h1,h2,h3⟩;·obtain rfl:S=R:=Dat (hR.out.trans sM);go_in;go_wp2_with fail;refine CmZ (F.out _ (hB0.out _ _)) fun w1 hb1=>?_;have hB1:=(hB0.out _ _).trans (hb1.mono (hB0.out _ _).size);clear F hR;cases S;all_goals go_wp2;go_ret;exact⟨rfl,hB1⟩
 all_goals
  obtain rfl:R=false:=Bool.eq_false_iff.2 fun h=>by have:=hR.out.1 h;simp_all
  clear F hR;go_in;go_wp2;go_ret;exact⟨rfl,hB0.out _ _⟩
theorem Bso (l l':fV) (vm vp vm' vp':ZC) (R:Bool) (w:ZB) (hR:R=true↔l=l') (h1:Strs w w vm l.measures) (h2:Strs w w vp l.aO) (h1':Strs w w vm' l'.measures) (h2':Strs w w vp' l'.aO) : ZE prog 80 #[.agg (Dm l vm vp).toArray,.agg (Dm l' vm' vp').toArray] w (Ret w (.bool R)):=by
 have hB0:=Aa fun o o2=>((Ac _ w).alloc nR o).alloc sM o2;obtain⟨i,ms,ps,q,us,st,un⟩:=l;obtain⟨i',ms',ps',q',us',st',un'⟩:=l';rw [fV.mk.injEq] at hR;dsimp only at *;obtain⟨S1,hS1⟩:=Hs (ms=ms');obtain⟨S2,hS2⟩:=Hs (ps=ps');have T1:=Aa fun (W:ZB) (hb:Below w w W)=>Ri vm vm' ms ms' S1 W hS1 ((h1.below hb nR).mono hb.size) ((h1'.below hb nR).mono hb.size);have T2:=Aa fun (W:ZB) (hb:Below w w W)=>Ri vp vp' ps ps' S2 W hS2 ((h2.below hb nR).mono hb.size) ((h2'.below hb nR).mono hb.size);replace hR:R=true↔i=i'/\S1=true/\S2=true/\q=q'/\us=us'/\st=st'/\un=un':=by rw [hR,hS1,hS2]
 obtain⟨_,_,rfl,_,_⟩:=h1.form;obtain⟨_,_,rfl,_,_⟩:=h2.form;obtain⟨_,_,rfl,_,_⟩:=h1'.form;obtain⟨_,_,rfl,_,_⟩:=h2'.form;clear h1 h2 h1' h2' hS1 hS2;generalize ms.length=n1 at *;generalize ps.length=n2 at *;generalize ms'.length=m1 at *;generalize ps'.length=m2 at *;dsimp only [Dm,ay,aI] at *;replace hR:=Aa hR;rcases Hb i i' with rfl|⟨p1,p2,p3,p4⟩;rotate_left;·obtain rfl:R=false:=Bool.eq_false_iff.2 fun h=>p3 (hR.out.1 h).1;clear T1 T2 hR;exact FD115
 go_in;go_wp2_with fail;have B:=hB0.out;generalize hWd:(w.alloc _).alloc _=W at *;have hBW:Below w w W:=by rw [<- hWd];exact B _ _
 have K:=Aa (Qd hWd);clear hWd hB0 B;refine CmZ (T1.out _ hBW) fun w1 hb1=>?_;have hB1:=hBW.trans (hb1.mono hBW.size);have k2:=(K.out w1 hb1).1 2 _ rfl;have k2':=(K.out w1 hb1).2 2 _ rfl;clear T1;cases S1
 ·obtain rfl:R=false:=Bool.eq_false_iff.2 fun h=>by have:=(hR.out.1 h).2.1;cases this
  clear T2 K hR;exact FD25
 go_wp2_with fail;refine CmZ (T2.out _ hB1) fun w2 hb2=>?_;have hB2:=hB1.trans (hb2.mono hB1.size);have hb2:=hb1.trans (hb2.mono hb1.size);have k3:=(K.out w2 hb2).1 3 _ rfl;have k3':=(K.out w2 hb2).2 3 _ rfl;have k4:=(K.out w2 hb2).1 4 _ rfl;have k4':=(K.out w2 hb2).2 4 _ rfl;have k5:=(K.out w2 hb2).1 5 _ rfl;have k5':=(K.out w2 hb2).2 5 _ rfl;have k6:=(K.out w2 hb2).1 6 _ rfl;have k6':=(K.out w2 hb2).2 6 _ rfl;clear T2 K k2 k2';cases S2
 ·obtain rfl:R=false:=Bool.eq_false_iff.2 fun h=>by have:=(hR.out.1 h).2.2.1;cases this
  clear hR;exact FD99
 rcases Fd q q' with rfl|⟨p1,p2,p3⟩;rcases Fd us us' with rfl|⟨p1,p2,p3⟩;rcases Fd st st' with rfl|⟨p1,p2,p3⟩;rcases Fd un un' with rfl|⟨p1,p2,p3⟩;·obtain rfl:R=true:=hR.out.2 sM;clear hR;exact FD99
 all_goals
  obtain rfl:R=false:=Bool.eq_false_iff.2 fun h=>by have:=hR.out.1 h;simp_all
  clear hR;go_wp2;go_ret;exact⟨rfl,hB2⟩
theorem Ifb (h h':bC) (vj vj':ZC) (R:Bool) (w:ZB) (hR:R=true↔h=h') (h1:Strs w w vj h.joint) (h1':Strs w w vj' h'.joint) : ZE prog 81 #[.agg (Bi h vj).toArray,.agg (Bi h' vj').toArray] w (Ret w (.bool R)):=by
 have hB0:=Aa fun o o2=>((Ac _ w).alloc nR o).alloc sM o2;obtain⟨i,co,ho,no,pl,js,ca,vo,st,en⟩:=h;obtain⟨i',co',ho',no',pl',js',ca',vo',st',en'⟩:=h';rw [bC.mk.injEq] at hR;dsimp only at *;obtain⟨S,hS⟩:=Hs (js=js');have T1:=Aa fun (W:ZB) (hb:Below w w W)=>Bsd vj vj' js js' S W hS ((h1.below hb nR).mono hb.size) ((h1'.below hb nR).mono hb.size);replace hR:R=true↔i=i'/\co=co'/\ho=ho'/\no=no'/\pl=pl'/\S=true/\ca=ca'/\vo=vo'/\st=st'/\en=en':=by rw [hR,hS]
 obtain⟨_,_,rfl,_,_⟩:=h1.form;obtain⟨_,_,rfl,_,_⟩:=h1'.form;clear h1 h1' hS;generalize js.length=n1 at *;generalize js'.length=m1 at *;dsimp only [Bi,ay,aI] at *;replace hR:=Aa hR;rcases Hb i i' with rfl|⟨p1,p2,p3,p4⟩;rcases Hb co co' with rfl|⟨p1,p2,p3,p4⟩;rcases Hb ho ho' with rfl|⟨p1,p2,p3,p4⟩;rcases Hb no no' with rfl|⟨p1,p2,p3,p4⟩;rcases Hb pl pl' with rfl|⟨p1,p2,p3,p4⟩;rotate_left;iterate 5
  ·obtain rfl:R=false:=Bool.eq_false_iff.2 fun h=>by
    have:=hR.out.1 h
    simp_all
   clear T1 hR
   go_in
   go_wp2
   go_ret
   exact⟨rfl,hB0.out _ _⟩
 go_in;go_wp2_with fail;have B:=hB0.out;generalize hWd:(w.alloc _).alloc _=W at *;have hBW:Below w w W:=by rw [<- hWd];exact B _ _
 have K:=Aa (Qd hWd);clear hWd hB0 B;refine CmZ (T1.out _ hBW) fun w1 hb1=>?_;have hB1:=hBW.trans (hb1.mono hBW.size);have k6:=(K.out w1 hb1).1 6 _ rfl;have k6':=(K.out w1 hb1).2 6 _ rfl;have k7:=(K.out w1 hb1).1 7 _ rfl;have k7':=(K.out w1 hb1).2 7 _ rfl;have k8:=(K.out w1 hb1).1 8 _ rfl;have k8':=(K.out w1 hb1).2 8 _ rfl;have k9:=(K.out w1 hb1).1 9 _ rfl;have k9':=(K.out w1 hb1).2 9 _ rfl;clear T1 K;cases S
 ·obtain rfl:R=false:=Bool.eq_false_iff.2 fun h=>by have:=(hR.out.1 h).2.2.2.2.2.1;cases this
  clear hR;exact FD25
 rcases Fd ca ca' with rfl|⟨p1,p2,p3⟩;rcases Fd vo vo' with rfl|⟨p1,p2,p3⟩;rcases Fd st st' with rfl|⟨p1,p2,p3⟩;rcases Fd en en' with rfl|⟨p1,p2,p3⟩;·obtain rfl:R=true:=hR.out.2 sM;clear hR;exact FD25
 all_goals
  obtain rfl:R=false:=Bool.eq_false_iff.2 fun h=>by have:=hR.out.1 h;simp_all
  clear hR;go_wp2;go_ret;exact⟨rfl,hB1⟩
theorem Ids (x y:yF) (v1 v2 v1' v2':ZC) (R:Bool) (w:ZB) (hR:R=true↔x=y) (h1:Strs w w v1 x.sig) (h2:Strs w w v2 x.path) (h1':Strs w w v1' y.sig) (h2':Strs w w v2' y.path) : ZE prog 32 #[.agg #[↑x.index,v1,v2],.agg #[↑y.index,v1',v2']] w (Ret w (.bool R)):=by
 have hB0:=Aa fun o o2=>((Ac _ w).alloc nR o).alloc sM o2;obtain⟨xi,xs,xp⟩:=x;obtain⟨yi,ys,yp⟩:=y;rw [yF.mk.injEq] at hR;dsimp only at *;obtain⟨S1,hS1⟩:=Hs (xs=ys);obtain⟨S2,hS2⟩:=Hs (xp=yp);have T1:=Aa fun (W:ZB) (hb:Below w w W)=>Rj v1 v1' xs ys S1 W hS1 ((h1.below hb nR).mono hb.size) ((h1'.below hb nR).mono hb.size);have T2:=Aa fun (W:ZB) (hb:Below w w W)=>Rj v2 v2' xp yp S2 W hS2 ((h2.below hb nR).mono hb.size) ((h2'.below hb nR).mono hb.size);replace hR:R=true↔xi=yi/\S1=true/\S2=true:=by rw [hR,hS1,hS2]
 obtain⟨_,_,rfl,_,_⟩:=h1.form;obtain⟨_,_,rfl,_,_⟩:=h2.form;obtain⟨_,_,rfl,_,_⟩:=h1'.form;obtain⟨_,_,rfl,_,_⟩:=h2'.form;clear h1 h2 h1' h2' hS1 hS2;generalize xs.length=n1 at *;generalize xp.length=n2 at *;generalize ys.length=m1 at *;generalize yp.length=m2 at *;replace hR:=Aa hR;rcases Fd xi yi with rfl|⟨p1,p2,p3⟩;rotate_left;·obtain rfl:R=false:=Bool.eq_false_iff.2 fun h=>p2 (hR.out.1 h).1;clear T1 T2 hR;exact FD115
 go_in;go_wp2_with fail;have B:=hB0.out;generalize hWd:(w.alloc _).alloc _=W at *;have hBW:Below w w W:=by rw [<- hWd];exact B _ _
 have K:=Aa (Qd hWd);clear hWd hB0 B;refine CmZ (T1.out _ hBW) fun w1 hb1=>?_;have hB1:=hBW.trans (hb1.mono hBW.size);have k2:=(K.out w1 hb1).1 2 _ rfl;have k2':=(K.out w1 hb1).2 2 _ rfl;clear T1 K;cases S1
 ·obtain rfl:R=false:=Bool.eq_false_iff.2 fun h=>by have:=(hR.out.1 h).2.1;cases this
  clear T2 hR;exact FD25
 go_wp2_with fail;refine CmZ (T2.out _ hB1) fun w2 hb2=>?_;have hB2:=hB1.trans (hb2.mono hB1.size);obtain rfl:S2=R:=Dat (hR.out.trans sM);clear T2 hR;cases S2;all_goals go_wp2;go_ret;exact⟨rfl,hB2⟩
theorem Ifr (a b:Q02) (s s':gV) (w:ZB) (hk:¬ a.kind=b.kind) : ZE prog 33 #[.agg (A4 a s).toArray,.agg (A4 b s').toArray] w (Ret w (.bool false)):=by
 have P:=Aa fun (W:ZB) (b:Nat) (hr:W.rangeAt b 0 (A4 a s))=>Qx hr;have P':=Aa fun (W:ZB) (c:Nat) (hr:W.rangeAt c 0 (A4 b s'))=>Qx hr;generalize A4 a s=C at *;generalize A4 b s'=C' at *;generalize a.kind=ak at *;generalize b.kind=bk at *;have hB0:=Aa fun o o2=>((Ac _ w).alloc nR o).alloc sM o2;have hr0:=Aa (Wi (C8 w C 64) (.cells C'.toArray 64));have yu:Hid (((w.alloc (.cells C.toArray 64)).alloc (.cells C'.toArray 64)).rangeAt (w.heap.size+1) 0 C'):=Aa (by have:=C8 (w.alloc (.cells C.toArray 64)) C' 64;rwa [Df] at this);obtain⟨k0,_⟩:=P.out _ _ hr0.out;obtain⟨k0',_⟩:=P'.out _ _ yu.out;have h1:(ak==bk)=false:=by simpa using hk
 clear P P' hr0 yu;go_in;go_wp2_with fail;go_ret;exact⟨rfl,hB0.out _ _⟩
theorem Ke8 (a b:Q02) (s s':gV) (R:Bool) (w:ZB) (hR:R=true↔a=b) (h:iH w w a s) (h':iH w w b s') : ZE prog 33 #[.agg (A4 a s).toArray,.agg (A4 b s').toArray] w (Ret w (.bool R)):=by
 by_cases hk:a.kind=b.kind
 ·have HA:=fun (W:ZB) (hb:Below w w W)=>(h.below hb nR).mono hb.size;have HA':=fun (W:ZB) (hb:Below w w W)=>(h'.below hb nR).mono hb.size;obtain⟨R1,h1⟩:=Hs (a.change=b.change);obtain⟨R2,h2⟩:=Hs (a.measure=b.measure);obtain⟨R3,h3⟩:=Hs (a.licence=b.licence);obtain⟨R4,h4⟩:=Hs (a.holding=b.holding);have:=Ifn a b s s' w R1 R2 R3 R4 hk (fun W hb=>Doc a.change b.change s.vn s'.vn R1 W h1 (HA W hb).names (HA' W hb).names) (fun W hb=>Bsn a.measure b.measure s.vk s'.vk R2 W h2 (HA W hb).kids (HA' W hb).kids) (fun W hb=>Bso a.licence b.licence s.vm s.vp s'.vm s'.vp R3 W h3 (HA W hb).lm (HA W hb).lp (HA' W hb).lm (HA' W hb).lp) (fun W hb=>Ifb a.holding b.holding s.vj s'.vj R4 W h4 (HA W hb).hj (HA' W hb).hj);have e:(R1&&(R2&&(R3&&(R4&&(a.id==b.id&&a.n==b.n)))))=R:=by rw [Fv,hR];simp only [Aq,h1,h2,h3,h4,Eh];obtain⟨k,c,m,l,q,i,n⟩:=a;obtain⟨k',c',m',l',q',i',n'⟩:=b;rw [CH.Act.mk.injEq];dsimp only at *;exact⟨fun h=>⟨hk,h⟩,fun h=>h.2⟩
  rw [e] at this;exact this
 ·obtain rfl:R=false:=Bool.eq_false_iff.2 fun e=>hk (by rw [hR.1 e]);exact Ifr a b s s' w hk
theorem Wh (x y:Q01) (s s':dA) (R:Bool) (w:ZB) (hR:R=true↔x=y) (h:fQ w w x s) (h':fQ w w y s') : ZE prog 8 #[.agg (At x s).toArray,.agg (At y s').toArray] w (Ret w (.bool R)):=by
 obtain⟨S0,hS0⟩:=Hs (x.sel=y.sel);have S:=Aa fun (W:ZB) (hb:Below w w W)=>Ids x.sel y.sel s.v1 s.v2 s'.v1 s'.v2 S0 W hS0 ((h.sig.below hb nR).mono hb.size) ((h.path.below hb nR).mono hb.size) ((h'.sig.below hb nR).mono hb.size) ((h'.path.below hb nR).mono hb.size);obtain⟨va,v1,v2⟩:=s;obtain⟨va',v1',v2'⟩:=s';obtain⟨a,cap,e,hl,hcap,hne⟩:=h.acts;obtain⟨a',cap',e',hl',hcap',hne'⟩:=h'.acts;change va=_ at e;change va'=_ at e';subst e e';obtain⟨_,_,e,_,_⟩:=h.sig.form;change v1=_ at e;subst e;obtain⟨_,_,e,_,_⟩:=h.path.form;change v2=_ at e;subst e;obtain⟨_,_,e,_,_⟩:=h'.sig.form;change v1'=_ at e;subst e;obtain⟨_,_,e,_,_⟩:=h'.path.form;change v2'=_ at e;subst e;clear h h';obtain⟨xa,xn,xt,xp,xs,xl⟩:=x;obtain⟨ya,yn,yt,yp,ys,yl⟩:=y;rw [CH.Version.mk.injEq] at hR;dsimp only [At] at *;replace hR:R=true↔xa=ya/\xn=yn/\xt=yt/\xp=yp/\xs=ys/\S0=true:=by rw [hR,hS0]
 clear hS0;replace hR:=Aa hR;obtain⟨xli,xlg,xlp⟩:=xl;obtain⟨yli,ylg,ylp⟩:=yl;dsimp only at *;generalize xlg.length=n1 at *;generalize xlp.length=n2 at *;generalize ylg.length=m1 at *;generalize ylp.length=m2 at *;replace hne:=Aa hne;replace hne':=Aa hne';have hB0:=Aa fun o o2=>((Ac _ w).alloc nR o).alloc sM o2;have JR:(prog.info? 64).map (·.size)=some 37:=kR;rcases Fd xa ya with rfl|⟨p1,p2,p3⟩;rcases Fd xn yn with rfl|⟨p1,p2,p3⟩;rcases Fd xt yt with rfl|⟨p1,p2,p3⟩;rcases Hb xp yp with rfl|⟨p1,p2,p3,p4⟩;rcases N4 xs.length ys.length with hN|⟨p1,p2⟩;rotate_left;iterate 5
  ·obtain rfl:R=false:=Bool.eq_false_iff.2 fun h=>by
    have:=hR.out.1 h
    simp_all
   clear hne hne' hR S
   generalize xs.length=N at *
   generalize ys.length=M at *
   go_in
   go_wp2
   go_ret
   exact⟨rfl,hB0.out _ _⟩
 obtain⟨N,hn⟩:=naa xs.length;rw [<- hN] at hl' ⊢;rw [hn] at hN hl hl' ⊢;replace hN:=Aa hN;replace hn:=Aa hn;go_in;go_wp2_with fail;have B:=hB0.out;generalize hWd:(w.alloc _).alloc _=W at *;have hBW:Below w w W:=by rw [<- hWd];exact B _ _
 have K:=Aa (Qd hWd);have hlW:w.heap.size+1<W.heap.size:=by rw [<- hWd];simp
 clear hWd hB0 B;refine CmZ (S.out _ hBW) fun w1 hb1=>?_;have hB1:=hBW.trans (hb1.mono hBW.size);clear S;cases S0
 ·obtain rfl:R=false:=Bool.eq_false_iff.2 fun h=>by have:=(hR.out.1 h).2.2.2.2.2;cases this
  clear hR K;exact FD25
 replace hR:Hid (R=true↔xs=ys):=Aa (by rw [hR.out];simp);go_wp2_with fail;go_loopw [5] (fun i wr=>∃ k:Nat,k<=N/\i=↑k/\Hid (R=true↔xs.drop k=ys.drop k)/\Hid (Below w w wr)/\Hid (Below W W wr)) (fun i _=>N - (ZG i).toNat);case atStart=>exact⟨0,Ak _,rfl,hR,Aa hB1,Aa hb1⟩
 case round =>
  obtain⟨k,hk,rfl,hQ,hBr,hbr⟩:=hrel;have k4:=(K.out wr hbr.out).1 4 _ rfl;have k4':=(K.out wr hbr.out).2 4 _ rfl;by_cases hlt:k<N
  ·obtain⟨b,off,rfl,hbl,kj⟩:=hne.out (by intro h;have:=hn.out;simp [h] at this;omega);obtain⟨b',off',rfl,iK,hcells'⟩:=hne'.out (by intro h;have:=hN.out;simp [h] at this;omega);obtain⟨y,hy⟩:∃ y,xs[k]?=some y:=⟨_,Ae (by rw [hn.out];exact hlt)⟩
   obtain⟨y',hy'⟩:∃ y,ys[k]?=some y:=⟨_,Ae (by rw [<- hN.out];exact hlt)⟩
   obtain⟨sy,hc,hat⟩:=kj k y hy;obtain⟨sy',hc',hat'⟩:=hcells' k y' hy';obtain⟨T,hT⟩:=Hs (y=y');have hcase:=Xf hQ.out hy hy' hT;have hrg:wr.rangeAt b (off+k*37) (A4 y sy):=fun j u hj=>(hBr.out.cell (p:=⟨b,off+k*37+j,none⟩) hbl).trans (hc j u hj);have JA:wr.rangeAt b' (off'+k*37) (A4 y' sy'):=fun j u hj=>(hBr.out.cell (p:=⟨b',off'+k*37+j,none⟩) iK).trans (hc' j u hj);have F:=Aa fun (W':ZB) (hb:Below wr wr W')=>Ke8 y y' sy sy' T W' hT ((hat.below (hBr.out.trans (hb.mono hBr.out.size)) nR).mono (Aj hBr.out.size hb.size)) ((hat'.below (hBr.out.trans (hb.mono hBr.out.size)) nR).mono (Aj hBr.out.size hb.size));have hl1:(prog.info? 64).map (·.size)=some (A4 y sy).length:=JR;have hl2:(prog.info? 64).map (·.size)=some (A4 y' sy').length:=JR;clear kj hcells' hc hc' hat hat' hy hy' hQ hT;generalize A4 y sy=C at *;generalize A4 y' sy'=C' at *;have z0:(0:Int)<=(k:Int):=oM;have zk:((k:Int)).toNat=k:=oM;have hk':(k:Int)<(N:Int):=oM;have hs1:w.heap.size<wr.heap.size:=Af oM hbr.out.size;have hs2:w.heap.size+1<wr.heap.size:=Af hlW hbr.out.size;have hs3:b<wr.heap.size:=Af hbl hBr.out.size;have hs4:b'<wr.heap.size:=Af iK hBr.out.size;have SS:=Aa fun (W':ZB) (hb:Below wr wr W')=>(⟨(hb.cell (p:=⟨w,4,none⟩) hs1).trans k4,(hb.cell (p:=⟨w+1,4,none⟩) hs2).trans k4',Kb hrg hb hs3,Kb JA hb hs4⟩:W'.cell? ⟨w,4,none⟩=some (.slice (some ⟨b,off,none⟩) N cap)/\W'.cell? ⟨w+1,4,none⟩=some (.slice (some ⟨b',off',none⟩) N cap')/\W'.rangeAt b (off+k*37) C/\W'.rangeAt b' (off'+k*37) C')
   have hD:Below wr wr wr.drew:=(Ac _ wr).drew;clear hrg JA;go_wp2_with fail;refine Dt (S:=(fun W'=>W'.cell? ⟨w,4,none⟩=some (.slice (some ⟨b,off,none⟩) N cap)/\W'.cell? ⟨w+1,4,none⟩=some (.slice (some ⟨b',off',none⟩) N cap')/\W'.rangeAt b (off+k*37) C/\W'.rangeAt b' (off'+k*37) C')) kR (SS.out _ hD) fun kz=>?_;refine tj 0 ?_;push_cast;refine tj 1 ?_;push_cast;refine tj 2 ?_;push_cast;refine tj 3 ?_;push_cast;refine Ox (i:=4) (v:=.agg C.toArray) rfl kR kR kR (fun _ _ _ h=>h) ?_ kz ?_;·exact yieldsIf_load_mid rF _ _ rfl _ _ rfl C _ (fun W hSw=>hSw.2.2.1) underlying64 rfl hl1
   push_cast;refine tj 5 ?_;push_cast;refine tj 6 ?_;push_cast;refine tj 7 ?_;push_cast;refine tj 8 ?_;push_cast;refine Ox (i:=9) (v:=.agg C'.toArray) rfl kR kR kR (fun _ _ _ h=>h) ?_ kz ?_;·exact yieldsIf_load_mid rF _ _ rfl _ _ rfl C' _ (fun W hSw=>hSw.2.2.2) underlying64 rfl hl2
   push_cast;refine rk 10 rfl fun K hK=>?_;go_simp;refine CmZ (F.out _ hD) fun w2 hb2=>?_;have hE:Below wr wr w2:=hD.trans (hb2.mono hD.size);go_wp2_with fail;refine hK.out _ _ (SS.out _ hE) fun kz=>?_;clear hK K;push_cast;refine tj 11 ?_;push_cast;refine Dc kR ?_ _;have hb2:=hE;have hB2:Hid (Below w w w2):=Aa (hBr.out.trans (hb2.mono hBr.out.size));have hb2:Hid (Below W W w2):=Aa (hbr.out.trans (hb2.mono hbr.out.size));clear F SS k4 k4';rcases hcase with⟨rfl,hQ2⟩|⟨rfl,rfl⟩
   ·go_wp2;go_roundw;case rel=>exact⟨k+1,oM,by go_num,hQ2,hB2,hb2⟩
    case measure=>simp [ZG];omega
   ·go_wp2;go_ret;exact⟨rfl,hB2.out⟩
  ·exact FD94
end
end Go.Proofs.Y
