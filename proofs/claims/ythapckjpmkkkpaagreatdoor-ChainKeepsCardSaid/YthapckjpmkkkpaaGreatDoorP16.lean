/-
  ChainKeeps: the proof, part 17 of 25.
-/
import Derived.Test.YthapckjpmkkkpaaGreatDoorP10
import Derived.Test.YthapckjpmkkkpaaGreatDoorP11
import Derived.DataShut
import Derived.Deep.Strs
set_option linter.unusedSimpArgs false
set_option linter.unusedVariables false
set_option maxHeartbeats 40000000
set_option maxRecDepth 100000
open Go renaming World -> ZB, Value -> ZC, Calls -> ZE, redrawn -> ZI, TypeId -> ZJ
open Go.Act renaming put -> ZF
open Go.RowKit renaming intOf -> ZG
open Decidable renaming decide -> ZH
namespace Go.Proofs.YthapckjpmkkkpaaGreatDoor
section
open Go.Lib Go.Proofs.Tryz Go.RowKit Go.Shelf Go.Sort CH
attribute [local irreducible] wpQuiet
theorem Tg {w W:ZB} {C C':List ZC} {T T':ZJ} (hW:(w.alloc (.cells C.toArray T)).alloc (.cells C'.toArray T')=W) (W':ZB) (hb:Below W W W') : (∀ i u,C[i]?=some u->W'.cell? ⟨w,i,none⟩=some u)/\(∀ i u,C'[i]?=some u->W'.cell? ⟨w+1,i,none⟩=some u):=by subst hW;have h1:=(hb.block w (by simp;omega)).trans (M4 w _ _).1;have h2:=(hb.block (w+1) sM).trans (M4 w _ _).2;exact⟨fun i u hi=>(Ab h1 i).trans (by simpa using hi),fun i u hi=>(Ab h2 i).trans (by simpa using hi)⟩
theorem Yi:∀ (d:Nat) (f:CH.Formula) (vk vk':ZC) (w:ZB),f.depth<=d->A7 w w f vk->A7 w w f vk' ->
  ZE prog 126 #[.agg (Av f vk),.agg (Av f vk')] w (Ret w (.bool true))
 |0,f,vk,vk',w,hd,hK,hK'=>by
  rw [Fs] at hd
  omega
 |d+1,.mk op name cmp fn kids,vk,vk',w,hd,hK,hK'=>by
  obtain⟨a,cap,rfl,hl,hcap,hne⟩:=hK.form
  obtain⟨a',cap',rfl,hl',hcap',hne'⟩:=hK'.form
  dsimp only [Av,CH.Formula.op,CH.Formula.name,CH.Formula.cmp,CH.Formula.n,CH.Formula.kids] at *
  rw [Fs] at hd
  dsimp only [CH.Formula.kids] at hd
  have IH:=Aa (Yi d)
  have hdk:=Aa hd
  clear hd hK hK'
  have hne:=Aa hne
  have hne':=Aa hne'
  obtain⟨N,hN⟩:∃ N,kids.length=N:=⟨_,rfl⟩
  rw [hN] at hl hl' ⊢
  have hN:=Aa hN
  have hB0:=fun o o2=>((Ac _ w).alloc nR o).alloc sM o2
  have A2:=M4 w
  go_enter func126,ntmps126
  go_wp2_with fail
  generalize hWd:(w.alloc _).alloc _=W at *
  have c4:W.cell? ⟨w,4,none⟩=some (.slice a N cap):=by rw [<- hWd];exact Ab (A2 _ _).1 4
  have c4':W.cell? ⟨w+1,4,none⟩=some (.slice a' N cap'):=by rw [<- hWd];exact Ab (A2 _ _).2 4
  have hBW:Below w w W:=by rw [<- hWd];exact hB0 _ _
  have hlW:w.heap.size+1<W.heap.size:=by rw [<- hWd];simp
  clear hWd hB0 A2
  go_loopw [5] (fun i wr=>∃ j:Nat,j<=N/\i=↑j/\Hid (Below W W wr)) (fun i _=>N - (ZG i).toNat)
  case atStart=>exact⟨0,Bg _,rfl,Aa (Ac _ _)⟩
  case round =>
   obtain⟨j,hj,rfl,hBr⟩:=hrel
   have k4:=(hBr.out.cell (p:=⟨w,4,none⟩) (by show w.heap.size<_;omega)).trans c4
   have k4':=(hBr.out.cell (p:=⟨w+1,4,none⟩) hlW).trans c4'
   have hBw:Below w w wr:=hBW.trans (hBr.out.mono hBW.size)
   by_cases hlt:j<N
   ·obtain⟨f,hget⟩:∃ f,kids[j]?=some f:=⟨_,Ad (by rw [hN.out];exact hlt)⟩
    obtain⟨b,off,rfl,hbl,hrow⟩:=hne.out (by intro h;have:=hN.out;simp [h] at this;omega)
    obtain⟨b',off',rfl,gG,hrow'⟩:=hne'.out (by intro h;have:=hN.out;simp [h] at this;omega)
    obtain⟨vf,e0,e1,e2,e3,e4,hkf⟩:=bP.get kids b off j f hrow hget
    obtain⟨vf',e0',e1',e2',e3',e4',xg⟩:=bP.get kids b' off' j f hrow' hget
    have k0:=(hBw.cell (p:=⟨b,off+j*5,none⟩) hbl).trans e0
    have k1:=(hBw.cell (p:=⟨b,off+j*5+1,none⟩) hbl).trans e1
    have k2:=(hBw.cell (p:=⟨b,off+j*5+2,none⟩) hbl).trans e2
    have k3:=(hBw.cell (p:=⟨b,off+j*5+3,none⟩) hbl).trans e3
    have k5:=(hBw.cell (p:=⟨b,off+j*5+4,none⟩) hbl).trans e4
    have k0':=(hBw.cell (p:=⟨b',off'+j*5,none⟩) gG).trans e0'
    have k1':=(hBw.cell (p:=⟨b',off'+j*5+1,none⟩) gG).trans e1'
    have k2':=(hBw.cell (p:=⟨b',off'+j*5+2,none⟩) gG).trans e2'
    have k3':=(hBw.cell (p:=⟨b',off'+j*5+3,none⟩) gG).trans e3'
    have k5':=(hBw.cell (p:=⟨b',off'+j*5+4,none⟩) gG).trans e4'
    have C:=Aa fun (W':ZB) (hb:Below wr wr W')=>IH.out f vf vf' W' (by have:=Lk (Ap hget);have:=hdk.out;omega) (A7.mono (Ag hBw.size hb.size) _ _ (A7.below (hBw.trans (hb.mono hBw.size)) nR _ _ hkf)) (A7.mono (Ag hBw.size hb.size) _ _ (A7.below (hBw.trans (hb.mono hBw.size)) nR _ _ xg))
    obtain⟨af,cf,rfl,_,_,_⟩:=hkf.form
    obtain⟨af',cf',rfl,_,_,_⟩:=xg.form
    clear e0 e1 e2 e3 e4 e0' e1' e2' e3' e4' hrow hrow' hget hkf xg IH
    dsimp only [Av] at C
    generalize f.kids.length=nf at *
    generalize f.name=fname at *
    generalize f.op=fop at *
    generalize f.cmp=yx at *
    generalize f.n=ffn at *
    have z0:(0:Int)<=(j:Int):=oM
    have zk:((j:Int)).toNat=j:=oM
    have hk':(j:Int)<(N:Int):=oM
    have gk4:∀ (d:Nat) (os:Array Obj),(grow (ZI wr d) os).cell? ⟨w,4,none⟩=some (.slice (some ⟨b,off,none⟩) N cap):=Ae k4
    have GR:∀ (d:Nat) (os:Array Obj),(grow (ZI wr d) os).cell? ⟨w+1,4,none⟩=some (.slice (some ⟨b',off',none⟩) N cap'):=Ae k4'
    have gk0:∀ (d:Nat) (os:Array Obj),(grow (ZI wr d) os).cell? ⟨b,off+j*5,none⟩=some ↑fop:=Ae k0
    have gk1:∀ (d:Nat) (os:Array Obj),(grow (ZI wr d) os).cell? ⟨b,off+j*5+1,none⟩=some ↑fname:=Ae k1
    have gk2:∀ (d:Nat) (os:Array Obj),(grow (ZI wr d) os).cell? ⟨b,off+j*5+2,none⟩=some ↑yx:=Ae k2
    have gk3:∀ (d:Nat) (os:Array Obj),(grow (ZI wr d) os).cell? ⟨b,off+j*5+3,none⟩=some ↑ffn:=Ae k3
    have gk5:∀ (d:Nat) (os:Array Obj),(grow (ZI wr d) os).cell? ⟨b,off+j*5+4,none⟩=some (.slice af nf cf):=Ae k5
    have GY:∀ (d:Nat) (os:Array Obj),(grow (ZI wr d) os).cell? ⟨b',off'+j*5,none⟩=some ↑fop:=Ae k0'
    have GX:∀ (d:Nat) (os:Array Obj),(grow (ZI wr d) os).cell? ⟨b',off'+j*5+1,none⟩=some ↑fname:=Ae k1'
    have GV:∀ (d:Nat) (os:Array Obj),(grow (ZI wr d) os).cell? ⟨b',off'+j*5+2,none⟩=some ↑yx:=Ae k2'
    have GU:∀ (d:Nat) (os:Array Obj),(grow (ZI wr d) os).cell? ⟨b',off'+j*5+3,none⟩=some ↑ffn:=Ae k3'
    have GN:∀ (d:Nat) (os:Array Obj),(grow (ZI wr d) os).cell? ⟨b',off'+j*5+4,none⟩=some (.slice af' nf cf'):=Ae k5'
    go_wp2_with fail
    refine Bd kR kR ?_
    repeat (quiet_step ((with_reducible exact Bj (C.out _ (Dv _ _ _)))))
    refine C9 ?_
    intro wq hbq
    replace hbq:=At hbq
    clear C gk4 GR gk0 gk1 gk2 gk3 gk5 GY GX GV GU GN k4 k4' k0 k1 k2 k3 k5 k0' k1' k2' k3' k5'
    have hB1:Hid (Below W W wq):=Aa (hBr.out.trans (hbq.mono hBr.out.size))
    go_wp2
    go_roundw
    case rel=>exact⟨j+1,oM,by go_num,hB1⟩
    case measure=>simp [ZG];omega
   ·obtain rfl:j=N:=oM
    go_wp2
    go_ret
    exact⟨rfl,hBw⟩
theorem Sm (m:bD) (vk vk':ZC) (w:ZB) (hK:A7 w w m.aC vk) (hK':A7 w w m.aC vk') : ZE prog 69 #[.agg (A5 m vk).toArray,.agg (A5 m vk').toArray] w (Ret w (.bool true)):=by have hB0:=Aa fun o o2=>((Ac _ w).alloc nR o).alloc sM o2;have F:=Aa fun (W:ZB) (hb:Below w w W)=>Yi m.aC.depth m.aC vk vk' W nR (A7.mono hb.size _ _ (A7.below hb nR _ _ hK)) (A7.mono hb.size _ _ (A7.below hb nR _ _ hK'));obtain⟨a,cap,rfl,_,_,_⟩:=hK.form;obtain⟨a',cap',rfl,_,_,_⟩:=hK'.form;clear hK hK';generalize m.aC.kids.length=N at *;dsimp only [A5,Av] at *;go_enter func69,ntmps69;go_wp2_with fail;refine (F.out _ (hB0.out _ _)).mono ?_;rintro e w1 ⟨rfl,hb1⟩;have hB1:=(hB0.out _ _).trans (hb1.mono (hB0.out _ _).size);clear F;go_wp2;go_ret;exact⟨rfl,hB1⟩
theorem Sr (l:gy) (vm vp vm' vp':ZC) (w:ZB) (h1:Strs w w vm l.measures) (h2:Strs w w vp l.aK) (h1':Strs w w vm' l.measures) (h2':Strs w w vp' l.aK) : ZE prog 70 #[.agg (Bu l vm vp).toArray,.agg (Bu l vm' vp').toArray] w (Ret w (.bool true)):=by
 have hB0:=Aa fun o o2=>((Ac _ w).alloc nR o).alloc sM o2;have T1:=Aa fun (W:ZB) (hb:Below w w W)=>R1 vm vm' l.measures W ((h1.below hb nR).mono hb.size) ((h1'.below hb nR).mono hb.size);have T2:=Aa fun (W:ZB) (hb:Below w w W)=>R1 vp vp' l.aK W ((h2.below hb nR).mono hb.size) ((h2'.below hb nR).mono hb.size);obtain⟨_,_,rfl,_,_⟩:=h1.form;obtain⟨_,_,rfl,_,_⟩:=h2.form;obtain⟨_,_,rfl,_,_⟩:=h1'.form;obtain⟨_,_,rfl,_,_⟩:=h2'.form;clear h1 h2 h1' h2';generalize l.measures.length=n1 at *;generalize l.aK.length=n2 at *;dsimp only [Bu] at *;go_enter func70,ntmps70;go_wp2_with fail;have B:=hB0.out;generalize hWd:(w.alloc _).alloc _=W at *;have hBW:Below w w W:=by rw [<- hWd];exact B _ _
 have K:=Aa (Tg hWd);clear hWd hB0 B;refine (T1.out _ hBW).mono ?_;rintro e w1 ⟨rfl,hb1⟩;have hB1:=hBW.trans (hb1.mono hBW.size);have k2:=(K.out w1 hb1).1 2 _ rfl;have k2':=(K.out w1 hb1).2 2 _ rfl;clear T1;go_wp2_with fail;refine (T2.out _ hB1).mono ?_;rintro e w2 ⟨rfl,hb2⟩;have hB2:=hB1.trans (hb2.mono hB1.size);have hb2:=hb1.trans (hb2.mono hb1.size);have k3:=(K.out w2 hb2).1 3 _ rfl;have k3':=(K.out w2 hb2).2 3 _ rfl;have k4:=(K.out w2 hb2).1 4 _ rfl;have k4':=(K.out w2 hb2).2 4 _ rfl;have k5:=(K.out w2 hb2).1 5 _ rfl;have k5':=(K.out w2 hb2).2 5 _ rfl;have k6:=(K.out w2 hb2).1 6 _ rfl;have k6':=(K.out w2 hb2).2 6 _ rfl;clear T2 K k2 k2';go_wp2;go_ret;exact⟨rfl,hB2⟩
theorem Zd (h:aS) (vj vj':ZC) (w:ZB) (h1:Strs w w vj h.joint) (h1':Strs w w vj' h.joint) : ZE prog 71 #[.agg (A4 h vj).toArray,.agg (A4 h vj').toArray] w (Ret w (.bool true)):=by
 have hB0:=Aa fun o o2=>((Ac _ w).alloc nR o).alloc sM o2;have T1:=Aa fun (W:ZB) (hb:Below w w W)=>Sj vj vj' h.joint W ((h1.below hb nR).mono hb.size) ((h1'.below hb nR).mono hb.size);obtain⟨_,_,rfl,_,_⟩:=h1.form;obtain⟨_,_,rfl,_,_⟩:=h1'.form;clear h1 h1';generalize h.joint.length=n1 at *;dsimp only [A4] at *;go_enter func71,ntmps71;go_wp2_with fail;have B:=hB0.out;generalize hWd:(w.alloc _).alloc _=W at *;have hBW:Below w w W:=by rw [<- hWd];exact B _ _
 have K:=Aa (Tg hWd);clear hWd hB0 B;refine (T1.out _ hBW).mono ?_;rintro e w1 ⟨rfl,hb1⟩;have hB1:=hBW.trans (hb1.mono hBW.size);have k6:=(K.out w1 hb1).1 6 _ rfl;have k6':=(K.out w1 hb1).2 6 _ rfl;have k7:=(K.out w1 hb1).1 7 _ rfl;have k7':=(K.out w1 hb1).2 7 _ rfl;have k8:=(K.out w1 hb1).1 8 _ rfl;have k8':=(K.out w1 hb1).2 8 _ rfl;have k9:=(K.out w1 hb1).1 9 _ rfl;have k9':=(K.out w1 hb1).2 9 _ rfl;dsimp only [ay,aJ] at k6 k6' k7 k7' k8 k8' k9 k9';clear T1 K;go_wp2;go_ret;exact⟨rfl,hB1⟩
theorem Zb (x:wo) (v1 v2 v1' v2':ZC) (w:ZB) (h1:Strs w w v1 x.sig) (h2:Strs w w v2 x.path) (h1':Strs w w v1' x.sig) (h2':Strs w w v2' x.path) : ZE prog 33 #[.agg #[↑x.index,v1,v2],.agg #[↑x.index,v1',v2']] w (Ret w (.bool true)):=by
 have hB0:=Aa fun o o2=>((Ac _ w).alloc nR o).alloc sM o2;have T1:=Aa fun (W:ZB) (hb:Below w w W)=>R2 v1 v1' x.sig W ((h1.below hb nR).mono hb.size) ((h1'.below hb nR).mono hb.size);have T2:=Aa fun (W:ZB) (hb:Below w w W)=>R2 v2 v2' x.path W ((h2.below hb nR).mono hb.size) ((h2'.below hb nR).mono hb.size);obtain⟨_,_,rfl,_,_⟩:=h1.form;obtain⟨_,_,rfl,_,_⟩:=h2.form;obtain⟨_,_,rfl,_,_⟩:=h1'.form;obtain⟨_,_,rfl,_,_⟩:=h2'.form;clear h1 h2 h1' h2';generalize x.sig.length=n1 at *;generalize x.path.length=n2 at *;go_enter func33,ntmps33;go_wp2_with fail;have B:=hB0.out;generalize hWd:(w.alloc _).alloc _=W at *;have hBW:Below w w W:=by rw [<- hWd];exact B _ _
 have K:=Aa (Tg hWd);clear hWd hB0 B;refine (T1.out _ hBW).mono ?_;rintro e w1 ⟨rfl,hb1⟩;have hB1:=hBW.trans (hb1.mono hBW.size);have k2:=(K.out w1 hb1).1 2 _ rfl;have k2':=(K.out w1 hb1).2 2 _ rfl;clear T1 K;go_wp2_with fail;refine (T2.out _ hB1).mono ?_;rintro e w2 ⟨rfl,hb2⟩;have hB2:=hB1.trans (hb2.mono hB1.size);clear T2;go_wp2;go_ret;exact⟨rfl,hB2⟩
end
end Go.Proofs.YthapckjpmkkkpaaGreatDoor
namespace CH
mutual
def Formula.iO:Formula->Int->Int
 |.mk _ name _ _ kids,n=>if 100<name.length then n+1 else dQ kids n 1
def dQ:List Formula->Int->Int->Int
 |[],_,k=>k
 |f::l,n,k=>if k<=n then dQ l n (k+f.iO (n - k)) else k
end
mutual
theorem jU:∀ (f:Formula) (n:Int),0<=n->1<=f.iO n/\f.iO n<=n+1
 |.mk _ name _ _ kids,n,hn=>by
  rw [Formula.iO]
  split
  ·omega
  ·have:=Oa kids n 1 oM oM
   omega
theorem Oa:∀ (l:List Formula) (n k:Int),1<=k->k<=n+1->k<=dQ l n k/\dQ l n k<=n+1
 |[],n,k,h1,h2=>by rw [dQ];omega
 |f::l,n,k,h1,h2=>by
  rw [dQ]
  split
  ·have b:=jU f (n - k) oM
   have:=Oa l n (k+f.iO (n - k)) oM oM
   omega
  ·omega
end
mutual
def Formula.jY:Formula->Prop
 |.mk _ name _ _ kids=>name.length<=100/\fP kids
def fP:List Formula->Prop
 |[]=>True
 |f::l=>f.jY/\fP l
end
mutual
theorem mW:∀ (f:Formula) (n:Int),0<=n->f.iO n<=n->f.iO n=f.count/\f.jY
 |.mk _ name _ _ kids,n,hn,h=>by
  rw [Formula.iO] at h ⊢
  split at h
  ·omega
  ·rename_i hl
   rw [Ak hl]
   have:=Oi kids n 1 oM oM h
   rw [Formula.count,Formula.jY]
   exact⟨oM,oM,this.2⟩
theorem Oi:∀ (l:List Formula) (n k:Int),1<=k->k<=n+1->dQ l n k<=n->dQ l n k=k+aI l/\fP l
 |[],n,k,h1,h2,h=>by
  rw [dQ,aI,fP]
  exact⟨sM,trivial⟩
 |f::l,n,k,h1,h2,h=>by
  rw [dQ] at h ⊢
  split at h
  ·rename_i hk
   rw [Aw hk]
   have b:=jU f (n - k) oM
   have c:=Oa l n (k+f.iO (n - k)) oM oM
   have d:=mW f (n - k) oM oM
   have e:=Oi l n (k+f.iO (n - k)) oM oM h
   rw [aI,fP]
   exact⟨oM,d.2,e.2⟩
  ·omega
end
def mF (f:Formula) (n:Int):Bool:=ZH (f.iO n<=n)
end CH
namespace Go.Proofs.YthapckjpmkkkpaaGreatDoor
open Go.RowKit Go.Lib CH
theorem Yg:∀ (d:Nat) (f:CH.Formula) (vk:ZC) (n:Int) (w:ZB),f.depth<=d->A7 w w f vk->0<=n->n<=1000 ->
  ZE Tryz.prog 116 #[.agg (Av f vk),↑n] w (Ret w (.int .i64 (f.iO n)))
 |0,f,vk,n,w,hd,hK,h0,h1=>by
  rw [Fs] at hd
  omega
 |d+1,.mk op name cmp fn kids,vk,n,w,hd,hK,h0,h1=>by
  obtain⟨a,cap,rfl,hl,hcap,hne⟩:=hK.form
  dsimp only [Av,CH.Formula.op,CH.Formula.name,CH.Formula.cmp,CH.Formula.n,CH.Formula.kids] at *
  rw [Fs] at hd
  dsimp only [CH.Formula.kids] at hd
  have IH:=Aa (Yg d)
  have hdk:=Aa hd
  clear hd hK
  obtain⟨R,hR⟩:∃ R,Hid ((CH.Formula.mk op name cmp fn kids).iO n=R):=⟨_,Aa rfl⟩
  rw [hR.out]
  have hR1:Hid ((if 100<name.length then n+1 else dQ kids n 1)=R):=Aa (by rw [<- hR.out,CH.Formula.iO])
  clear hR
  have hne:=Aa hne
  obtain⟨N,hN⟩:∃ N,kids.length=N:=⟨_,rfl⟩
  rw [hN] at hl ⊢
  have hN:=Aa hN
  have hB0:=fun o=>(Ac _ w).alloc nR o
  obtain⟨m,hm⟩:∃ m,name.length=m:=⟨_,rfl⟩
  rw [hm] at hR1
  by_cases BG:100<m
  ·have q1:ZH ((100:Int)<(m:Int))=true:=by simp;omega
   rw [Aw BG] at hR1
   go_enter Tryz.func116,Tryz.ntmps116
   go_wp2_with fail
   go_ret
   exact⟨Tv (by rw [<- hR1.out]),hB0 _⟩
  ·have q1:ZH ((100:Int)<(m:Int))=false:=by simp;omega
   rw [Ak BG] at hR1
   go_enter Tryz.func116,Tryz.ntmps116
   go_wp2_with fail
   generalize hWd:w.alloc _=W at *
   have c4:W.cell? ⟨w,4,none⟩=some (.slice a N cap):=by rw [<- hWd];exact Ab (Ai w _) 4
   have hBW:Below w w W:=by rw [<- hWd];exact hB0 _
   have hlW:w.heap.size<W.heap.size:=by rw [<- hWd];simp
   clear hWd hB0
   go_loopw [5,6] (fun kv i wr=>∃ (j:Nat) (k:Int),j<=N/\i=↑j/\kv=↑k/\1<=k/\k<=n+1/\Hid (Below W W wr)/\Hid (dQ (kids.drop j) n k=R)) (fun _ i _=>N - (ZG i).toNat)
   case atStart=>exact⟨0,1,Bg _,rfl,rfl,oM,oM,Aa (Ac _ _),hR1⟩
   case round =>
    obtain⟨j,k,hj,rfl,rfl,hk1,hk2,hBr,hI⟩:=hrel
    have k4:=(hBr.out.cell (p:=⟨w,4,none⟩) hlW).trans c4
    have hBw:Below w w wr:=hBW.trans (hBr.out.mono hBW.size)
    by_cases hlt:j<N
    ·have q2:ZH ((j:Int)<(N:Int))=true:=by simp;omega
     have hdr:kids.drop j=kids[j]'(by rw [hN.out];exact hlt)::kids.drop (j+1):=Gm (by rw [hN.out];exact hlt)
     have hget:kids[j]?=some (kids[j]'(by rw [hN.out];exact hlt)):=Ad (by rw [hN.out];exact hlt)
     generalize kids[j]'(by rw [hN.out];exact hlt)=f at hdr hget
     have hI2:=hI.out
     rw [hdr,dQ] at hI2
     by_cases hkn:k<=n
     ·have q3:ZH (k<=n)=true:=by simpa using hkn
      rw [Aw hkn] at hI2
      obtain⟨b,off,rfl,hbl,hrow⟩:=hne.out (by intro h;have:=hN.out;simp [h] at this;omega)
      obtain⟨vf,e0,e1,e2,e3,e4,hkf⟩:=bP.get kids b off j f hrow hget
      have k0:=(hBw.cell (p:=⟨b,off+j*5,none⟩) hbl).trans e0
      have k1:=(hBw.cell (p:=⟨b,off+j*5+1,none⟩) hbl).trans e1
      have k2:=(hBw.cell (p:=⟨b,off+j*5+2,none⟩) hbl).trans e2
      have k3:=(hBw.cell (p:=⟨b,off+j*5+3,none⟩) hbl).trans e3
      have k5:=(hBw.cell (p:=⟨b,off+j*5+4,none⟩) hbl).trans e4
      have C:=Aa (IH.out f vf (n - k) wr (by have:=Lk (Ap hget);have:=hdk.out;omega) (A7.mono hBw.size _ _ (A7.below hBw nR _ _ hkf)) oM oM)
      have hb:=jU f (n - k) oM
      have hI2:=Aa hI2
      generalize CH.Formula.iO f (n - k)=sz at *
      obtain⟨af,cf,rfl,_,_,_⟩:=hkf.form
      clear e0 e1 e2 e3 e4 hrow hget hdr hkf IH
      dsimp only [Av] at C
      generalize f.kids.length=nf at *
      generalize f.name=fname at *
      generalize f.op=fop at *
      generalize f.cmp=yx at *
      generalize f.n=ffn at *
      go_wp2_with fail
      refine C.out.mono ?_
      rintro e w1 ⟨rfl,hb1⟩
      clear C
      have hB1:Hid (Below W W w1):=Aa (hBr.out.trans (hb1.mono hBr.out.size))
      go_wp2
      go_roundw
      case rel=>exact⟨j+1,k+sz,oM,by go_num,by go_num,oM,oM,hB1,hI2⟩
      case measure=>simp [ZG];omega
     ·have q3:ZH (k<=n)=false:=by simpa using hkn
      rw [Ak hkn] at hI2
      go_wp2
      go_ret
      exact⟨by subst hI2;rfl,hBw⟩
    ·have q2:ZH ((j:Int)<(N:Int))=false:=by simp;omega
     have hI2:=hI.out
     rw [List.drop_of_length_le (by rw [hN.out];omega),dQ] at hI2
     go_wp2
     go_ret
     exact⟨by subst hI2;rfl,hBw⟩
theorem Ety (f:CH.Formula) (vk:ZC) (n:Int) (w:ZB) (hK:A7 w w f vk) (h0:0<=n) (h1:n<=1000) : ZE Tryz.prog 54 #[.agg (Av f vk),↑n] w (Ret w (.bool (mF f n))):=by
 have hB0:=fun o=>(Ac _ w).alloc nR o;have C:=Aa fun o=>Yg f.depth f vk n (w.alloc o) nR (A7.mono (hB0 o).size _ _ (A7.below (hB0 o) nR _ _ hK)) h0 h1;obtain⟨af,cf,rfl,_,_,_⟩:=hK.form;obtain⟨R,hR⟩:∃ R,Hid (mF f n=R):=⟨_,Aa rfl⟩
 rw [hR.out];have hR1:Hid (ZH (f.iO n<=n)=R):=hR;clear hR;generalize f.iO n=sz at *;generalize f.kids.length=nf at *;dsimp only [Av] at *;go_enter Tryz.func54,Tryz.ntmps54;go_wp2_with fail;refine (C.out _).mono ?_;rintro e w1 ⟨rfl,hb1⟩;go_wp2;go_ret;exact⟨by rw [<- hR1.out];rfl,(hB0 _).trans (hb1.mono sM)⟩
end Go.Proofs.YthapckjpmkkkpaaGreatDoor
namespace CH
def kF (a:Act):Bool:=jg a.change&&(mF a.measure.aC 60&&(dZ [a.id,a.measure.id,a.measure.authority,a.measure.target,a.licence.id] 5&&(dZ a.licence.measures 70&&(dZ a.licence.aK 70&&kM a.holding))))
def jP (l:List Act) (most:Nat):Bool:=l.all kF&&ZH (l.length<=most)
end CH
namespace Go.Proofs.YthapckjpmkkkpaaGreatDoor
open Go.RowKit Go.Lib Go.Shelf Go.Sort CH
structure cu (B:Nat) (w:ZB) (a:CH.Act) (s:fF):Prop where
 names:Er B w s.vn a.change.entry.names
 kids:A7 B w a.measure.aC s.vk
 lm:Strs B w s.vm a.licence.measures
 lp:Strs B w s.vp a.licence.aK
 hj:Strs B w s.vj a.holding.joint
theorem cu.below {B B':Nat} {w w':ZB} {a:CH.Act} {s:fF} (h:cu B w a s) (hb:Below B' w w') (hB:B<=B'):cu B w' a s:=⟨h.names.below hb hB,A7.below hb hB _ _ h.kids,h.lm.below hb hB,h.lp.below hb hB,h.hj.below hb hB⟩
theorem cu.mono {B B':Nat} {w:ZB} {a:CH.Act} {s:fF} (h:cu B w a s) (hB:B<=B'):cu B' w a s:=⟨h.names.mono hB,A7.mono hB _ _ h.kids,h.lm.mono hB,h.lp.mono hB,h.hj.mono hB⟩
theorem Cq {B:Nat} {w:ZB} {a:CH.Act} {s:fF} (h:cu B w a s):∀ v∈Al a s,v.oneCell'=true:=by obtain⟨vn,vk,vm,vp,vj⟩:=s;obtain⟨_,_,e1,_,_⟩:=h.names.form;obtain⟨_,_,e2,_,_,_⟩:=h.kids.form;obtain⟨_,_,e3,_,_⟩:=h.lm.form;obtain⟨_,_,e4,_,_⟩:=h.lp.form;obtain⟨_,_,e5,_,_⟩:=h.hj.form;change vn=_ at e1;change vk=_ at e2;change vm=_ at e3;change vp=_ at e4;change vj=_ at e5;subst e1 e2 e3 e4 e5;exact Dt.1 rF
def K3 (B:Nat) (w:ZB) (v:ZC) (l:List CH.Act):Prop := ∃ a cap,v=.slice a l.length cap/\l.length<=cap/\cap<=9223372036854775807 /\ (l≠[]->∃ b off,a=some ⟨b,off,none⟩/\b<B/\∀ j x,l[j]?=some x->∃ s,(∀ i u,(Al x s)[i]?=some u->w.cell? ⟨b,off+j*37+i,none⟩=some u)/\cu B w x s)
theorem K3.below {B B':Nat} {w w':ZB} {v:ZC} {l:List CH.Act} (h:K3 B w v l) (hb:Below B' w w') (hB:B<=B'):K3 B w' v l:=by obtain⟨a,cap,h1,h2,h3,h4⟩:=h;refine⟨a,cap,h1,h2,h3,fun hne=>?_⟩;obtain⟨b,off,e,hlt,hx⟩:=h4 hne;refine⟨b,off,e,hlt,fun j x hj=>?_⟩;obtain⟨s,c1,c2⟩:=hx j x hj;exact⟨s,fun i u hi=>(hb.cell (p:=⟨b,off+j*37+i,none⟩) (Ah hlt hB)).trans (c1 i u hi),c2.below hb hB⟩
theorem K3.mono {B B':Nat} {w:ZB} {v:ZC} {l:List CH.Act} (h:K3 B w v l) (hB:B<=B'):K3 B' w v l:=by obtain⟨a,cap,h1,h2,h3,h4⟩:=h;refine⟨a,cap,h1,h2,h3,fun hne=>?_⟩;obtain⟨b,off,e,hlt,hx⟩:=h4 hne;refine⟨b,off,e,Ah hlt hB,fun j x hj=>?_⟩;obtain⟨s,c1,c2⟩:=hx j x hj;exact⟨s,c1,c2.mono hB⟩
theorem Bw {P:Program} {ops:Array Oper} {rest:List Oper} {op:Oper} {a:Act} {w:ZB} {Q:Exit->Act->ZB->Prop} (hw:Region.wanted op (yielded ops a.tmps)=true) (ty:ZJ) (x:Operand) (ho:op.op=.load ty x) (b o:Nat) (hx:a.eval x=.pointer (some ⟨b,o,none⟩)) (cs:List ZC) (d:TypeDesc) (hc:w.rangeAt b o cs) (hu:P.underlying ty=some d) (hd:d.isRow=true) (hi:(P.info? ty).map (·.size)=some cs.length) (h:wpList P ops Q rest (a.put op.dst (.agg cs.toArray)) w):wpList P ops Q (op::rest) a w := wpList_step fun K hK=>by rw [hw,Aw rfl];exact wp_load_mid ty x ho b o hx cs d hc hu hd hi (hK _ _ h)
end Go.Proofs.YthapckjpmkkkpaaGreatDoor
namespace Go.Proofs.YthapckjpmkkkpaaGreatDoor
section
open Go.Lib Go.Proofs.Tryz Go.RowKit Go.Shelf Go.Sort CH
theorem I29 (w:ZB) (ls:List (List UInt8)) (h:ls.length<=1000000):Strs (w.alloc (.cells (ls.map ay).toArray 9)).heap.size (w.alloc (.cells (ls.map ay).toArray 9)) (.slice (some ⟨w,0,none⟩) ls.length ls.length) ls:=(Ha w ls h).strs
theorem Crs (v:ZC) (l:List CH.Act) (w:ZB) (hv:K3 w.heap.size w v l) : ZE prog 20 #[v,.int .i64 5] w (Ret w (.bool (jP l 5))):=by
 obtain⟨a,cap,rfl,hl,hcap,hne⟩:=hv;obtain⟨R,hR⟩:∃ R,Hid (jP l 5=R):=⟨_,Aa rfl⟩
 rw [hR.out];have hne:=Aa hne;obtain⟨N,hN⟩:∃ N,l.length=N:=⟨_,rfl⟩
 rw [hN] at hl ⊢;have hN:=Aa hN;go_enter func20,ntmps20;go_wp2_with fail;go_loopw [5] (fun i wr=>∃ k:Nat,k<=N/\i=.int .i64 k/\Hid (Below w.heap.size w wr)/\Hid ((l.take k).all kF=true)) (fun i _=>N - (ZG i).toNat);case atStart=>exact⟨0,Bg _,rfl,Aa (Ac _ _),Aa rfl⟩
 case round =>
  obtain⟨k,hk,rfl,hBr,hI⟩:=hrel;by_cases hlt:k<N
  ·obtain⟨b,off,rfl,hbl,hcells⟩:=hne.out (by intro h;have:=hN.out;simp [h] at this;omega);obtain⟨x,hx⟩:∃ x,l[k]?=some x:=⟨_,Ad (by rw [hN.out];exact hlt)⟩
   obtain⟨sx,hc,hat⟩:=hcells k x hx;have hrg:wr.rangeAt b (off+k*37) (Al x sx):=fun j u hj=>(hBr.out.cell (p:=⟨b,off+k*37+j,none⟩) hbl).trans (hc j u hj);have hlen:(prog.info? 69).map (·.size)=some (Al x sx).length:=kR;have h1c:=Aa (Cq hat);have hlenA:(Al x sx).length=37:=rfl;have HA:=Aa fun (W:ZB) (hb:Below w.heap.size w W)=>(hat.below hb nR).mono hb.size;have hx:=Aa hx;clear hcells hc hat;obtain⟨vn,vk,vm,vp,vj⟩:=sx;have n35:(Al x ⟨vn,vk,vm,vp,vj⟩)[35]?=some (.string ⟨x.id.toArray⟩):=rfl;have n6:(Al x ⟨vn,vk,vm,vp,vj⟩)[6]?=some (.string ⟨x.measure.id.toArray⟩):=rfl;have n7:(Al x ⟨vn,vk,vm,vp,vj⟩)[7]?=some (.string ⟨x.measure.authority.toArray⟩):=rfl;have n9:(Al x ⟨vn,vk,vm,vp,vj⟩)[9]?=some (.string ⟨x.measure.target.toArray⟩):=rfl;have n18:(Al x ⟨vn,vk,vm,vp,vj⟩)[18]?=some (.string ⟨x.licence.id.toArray⟩):=rfl;generalize hC:Al x { vn:=vn,vk:=vk,vm:=vm,vp:=vp,vj:=vj }=C at *;have hn1:=Aa (B6 wr C 69);have hrg:=Aa hrg;have hC:=Aa hC;go_upto_region 5 with (first|refine Bh rfl 69 _ rfl b (off+k*37) rfl C _ hrg.out underlying69 rfl hlen ?_|refine Ca rfl 69 _ _ rfl C rfl rfl (by rw [hlenA];rfl) hlen h1c.out ?_)
   have hb0:Below w.heap.size w (wr.alloc (.cells C.toArray 69)):=hBr.out.alloc hBr.out.size _;have hblk:(wr.alloc (.cells C.toArray 69)).heap[wr.heap.size]?=some (.cells C.toArray 69 (0,0)):=Ai wr _;generalize wr.alloc (.cells C.toArray 69)=W1 at *;have hlt1:wr.heap.size<W1.heap.size:=(aZ hblk)
   have KC:Hid (∀ (W:ZB),W.heap[wr.heap.size]?=some (.cells C.toArray 69 (0,0))->∀ (i:Nat) (u:ZC),C[i]?=some u->W.cell? ⟨wr.heap.size,i,none⟩=some u):=Aa fun W hW i u hu=>(Ab hW i).trans (by simpa using hu);have k35:=KC.out W1 hblk 35 _ n35;have k6:=KC.out W1 hblk 6 _ n6;have k7:=KC.out W1 hblk 7 _ n7;have k9:=KC.out W1 hblk 9 _ n9;have k18:=KC.out W1 hblk 18 _ n18;clear hrg hn1 n35 n6 n7 n9 n18;go_upto_region 6 with (fail)
   have RB:Hid (∀ (W:ZB),W.heap[wr.heap.size]?=some (.cells C.toArray 69 (0,0))->W.rangeAt wr.heap.size 1 (Bb x.change vn)/\W.rangeAt wr.heap.size 10 (Av x.measure.aC vk).toList/\W.rangeAt wr.heap.size 25 (A4 x.holding vj)/\W.cell? ⟨wr.heap.size,19,none⟩=some vm/\W.cell? ⟨wr.heap.size,20,none⟩=some vp):=Aa fun W hW=>by
    have h0:W.rangeAt wr.heap.size 0 (Al x { vn:=vn,vk:=vk,vm:=vm,vp:=vp,vj:=vj }):=fun j u hj=>by rw [hC.out] at hj;rw [Bl];exact KC.out W hW j u hj
    have q1:=De (l:=[aJ x.kind]) h0 1 rfl;have q2:=De (l:=Bb x.change vn) q1 6 rfl;have q3:=De (l:=A5 x.measure vk) q2 18 rfl;have q4:=De (l:=Bu x.licence vm vp) q3 25 rfl;have q5:=Hb (l:=A5 x.measure vk) q2;have q6:=De (l:=[ay x.measure.id,ay x.measure.authority,aJ x.measure.kind,ay x.measure.target]) (m:=(Av x.measure.aC vk).toList++[aJ x.measure.start,aJ x.measure.aB,aJ x.measure.dF]) q5 10 rfl;exact⟨Hb q1,Hb q6,Hb q4,q3 1 _ rfl,q3 2 _ rfl⟩
   obtain⟨W2,hW2⟩:∃ W2,W1.alloc (.cells #[ay x.id,ay x.measure.id,ay x.measure.authority,ay x.measure.target,ay x.licence.id] 9)=W2:=⟨_,rfl⟩
   have hb2:Below W1.heap.size W1 W2:=by rw [<- hW2];exact (Ac _ W1).alloc nR _
   have hs5:Strs W2.heap.size W2 (.slice (some ⟨W1.heap.size,0,none⟩) 5 5) [x.id,x.measure.id,x.measure.authority,x.measure.target,x.licence.id]:=by rw [<- hW2];exact I29 W1 [x.id,x.measure.id,x.measure.authority,x.measure.target,x.licence.id] sM
   rw [hW2];clear hW2;have hblk2:=(hb2.block _ hlt1).trans hblk;have hbW2:Below w.heap.size w W2:=hb0.trans (hb2.mono hb0.size);have hlt2:wr.heap.size<W2.heap.size:=Ah hlt1 hb2.size;clear k35 k6 k7 k9 k18 hb2 hblk hb0;have HS:=Aa fun (W:ZB) (hb:Below W2.heap.size W2 W)=>(hs5.below hb nR).mono hb.size;clear hs5;obtain⟨p1,hp1⟩:∃ p,Hid (jg x.change=p):=⟨_,Aa rfl⟩
   obtain⟨p2,hp2⟩:∃ p,Hid (mF x.measure.aC 60=p):=⟨_,Aa rfl⟩
   obtain⟨p3,hp3⟩:∃ p,Hid (dZ [x.id,x.measure.id,x.measure.authority,x.measure.target,x.licence.id] 5=p):=⟨_,Aa rfl⟩
   obtain⟨p4,hp4⟩:∃ p,Hid (dZ x.licence.measures 70=p):=⟨_,Aa rfl⟩
   obtain⟨p5,hp5⟩:∃ p,Hid (dZ x.licence.aK 70=p):=⟨_,Aa rfl⟩
   obtain⟨p6,hp6⟩:∃ p,Hid (kM x.holding=p):=⟨_,Aa rfl⟩
   have hact:Hid (kF x=(p1&&(p2&&(p3&&(p4&&(p5&&p6)))))):=Aa (by rw [<- hp1.out,<- hp2.out,<- hp3.out,<- hp4.out,<- hp5.out,<- hp6.out];rfl);have hfalse:Hid ((p1&&(p2&&(p3&&(p4&&(p5&&p6)))))=false->R=false):=Aa fun h=>by rw [<- hR.out];unfold jP;rw [fZ _ l k x hx.out (hact.out.trans h)];rfl
   have F1:=Aa (hp1.out ▸ Xx x.change vn W2 (HA.out W2 hbW2).names);have F2:=Aa fun (W:ZB) (hb:Below w.heap.size w W)=>hp2.out ▸ Ety x.measure.aC vk 60 W (HA.out W hb).kids dC dC;have F3:=Aa fun (W:ZB) (hb:Below W2.heap.size W2 W)=>hp3.out ▸ Pu _ _ 5 W (HS.out W hb);have F4:=Aa fun (W:ZB) (hb:Below w.heap.size w W)=>hp4.out ▸ Pu _ _ 70 W (HA.out W hb).lm;have F5:=Aa fun (W:ZB) (hb:Below w.heap.size w W)=>hp5.out ▸ Pu _ _ 70 W (HA.out W hb).lp;obtain⟨r1,_,_,_,_⟩:=RB.out W2 hblk2;have r1:=Aa r1;have FH:(prog.info? 60).map (·.size)=some 5:=kR;have hi64:(prog.info? 63).map (·.size)=some 5:=kR;have FK:(prog.info? 55).map (·.size)=some 10:=kR;go_wp2_with (refine Bh rfl 60 _ rfl wr.heap.size 1 rfl (Bb x.change vn) _ r1.out underlying60 rfl FH ?_)
   refine F1.out.mono ?_;rintro e w3 ⟨rfl,hb3⟩;have eP:Below W2.heap.size W2 w3:=hb3;have hblk3:=(hb3.block _ hlt2).trans hblk2;have vN:Below w.heap.size w w3:=hbW2.trans (hb3.mono hbW2.size);have hlt3:wr.heap.size<w3.heap.size:=Ah hlt2 hb3.size;clear F1 r1 hb3;cases p1 with
   |false =>go_wp2;go_ret;exact⟨by rw [hfalse.out rfl];rfl,vN⟩
   |true =>
    obtain⟨_,r2,_,_,_⟩:=RB.out w3 hblk3;have r2:=Aa r2;go_wp2_with (refine Bw rfl 63 _ rfl wr.heap.size 10 rfl (Av x.measure.aC vk).toList _ r2.out underlying63 rfl hi64 ?_)
    refine (F2.out w3 vN).mono ?_;rintro e w4 ⟨rfl,hb4⟩;have vO:Below W2.heap.size W2 w4:=eP.trans (hb4.mono eP.size);have zW:=(hb4.block _ hlt3).trans hblk3;have xJ:Below w.heap.size w w4:=vN.trans (hb4.mono vN.size);have hlt4:wr.heap.size<w4.heap.size:=Ah hlt3 hb4.size;clear F2 r2 hb4;cases p2 with
    |false =>go_wp2;go_ret;exact⟨by rw [hfalse.out rfl];rfl,xJ⟩
    |true =>
     go_wp2_with fail;refine (F3.out w4 vO).mono ?_;rintro e w5 ⟨rfl,hb5⟩;have hblk5:=(hb5.block _ hlt4).trans zW;have vM:Below w.heap.size w w5:=xJ.trans (hb5.mono xJ.size);have zF:wr.heap.size<w5.heap.size:=Ah hlt4 hb5.size;clear F3 hb5;cases p3 with
     |false =>go_wp2;go_ret;exact⟨by rw [hfalse.out rfl];rfl,vM⟩
     |true =>
      obtain⟨_,_,_,k19,_⟩:=RB.out w5 hblk5;go_wp2_with fail;refine (F4.out w5 vM).mono ?_;rintro e w6 ⟨rfl,hb6⟩;have hblk6:=(hb6.block _ zF).trans hblk5;have vK:Below w.heap.size w w6:=vM.trans (hb6.mono vM.size);have zD:wr.heap.size<w6.heap.size:=Ah zF hb6.size;clear F4 hb6 k19;cases p4 with
      |false =>go_wp2;go_ret;exact⟨by rw [hfalse.out rfl];rfl,vK⟩
      |true =>
       obtain⟨_,_,_,_,k20⟩:=RB.out w6 hblk6;go_wp2_with fail;refine (F5.out w6 vK).mono ?_;rintro e w7 ⟨rfl,hb7⟩;have hblk7:=(hb7.block _ zD).trans hblk6;have xI:Below w.heap.size w w7:=vK.trans (hb7.mono vK.size);have JO:wr.heap.size<w7.heap.size:=Ah zD hb7.size;clear F5 hb7 k20;cases p5 with
       |false =>go_wp2;go_ret;exact⟨by rw [hfalse.out rfl];rfl,xI⟩
       |true =>
        obtain⟨_,_,r3,_,_⟩:=RB.out w7 hblk7;generalize hLL:A4 x.holding vj=LL at *;have mM:LL.length=10:=by rw [<- hLL];rfl
        have hLL:=Aa hLL;have zN:(prog.info? 55).map (·.size)=some LL.length:=by rw [mM];exact FK
        have r3:=Aa r3;clear RB;go_wp2_with (refine Bw rfl 55 _ rfl wr.heap.size 25 rfl LL _ r3.out underlying55 rfl zN ?_)
        rw [Vw LL _ (by rw [mM];rfl)];have hbb:Below w7.heap.size w7 (w7.alloc (.cells LL.toArray 55)):=(Ac _ w7).alloc nR _;have xH:Below w.heap.size w (w7.alloc (.cells LL.toArray 55)):=xI.trans (hbb.mono xI.size);have F6:=Aa (hp6.out ▸ Coq (.slice (some ⟨w7.heap.size,0,none⟩) 1 1) x.holding (w7.alloc (.cells LL.toArray 55)) ⟨w7.heap.size,vj,rfl,sM,fun j y hj=>by rw [hLL.out] at hj;have:=B6 w7 LL 55 j y hj;rwa [Bl] at this,(HA.out _ xH).hj⟩);refine F6.out.mono ?_;rintro e w8 ⟨rfl,hb8⟩;have zX:Below w.heap.size w w8:=xH.trans (hb8.mono xH.size);clear F6 hb8 hbb mM r3;cases p6 with
        |false =>go_wp2;go_ret;exact⟨by rw [hfalse.out rfl];rfl,zX⟩
        |true =>
         have hI':Hid ((l.take (k+1)).all kF=true):=Aa (by rw [eY _ l k x hx.out,hI.out,hact.out];rfl);have hB':Hid (Below w.heap.size w w8):=Aa zX;go_wp2;go_roundw;case rel=>exact⟨k+1,oM,by go_num,hB',hI'⟩
         case measure=>simp [ZG];omega
  ·obtain rfl:k=N:=oM;have hall:l.all kF=true:=by have:=hI.out;rwa [<- hN.out,Dx] at this
   go_wp2;go_ret;have hk5:ZH ((k:Int)<=5)=R:=by rw [<- hR.out];unfold jP;rw [hall,hN.out,a_Bool_true_and,Eh];omega
   exact⟨by rw [<- hk5];rfl,hBr.out⟩
end
section
open Go.Deep Go.Lib Go.Proofs.Tryz Go.RowKit Go.Shelf Go.Sort Go.WideShapes CH
section
open CH
variable {H:Type} {enc:ZJ × ZC->H} {w:ZB} {spare:Nat->Bool} {held:Bool}
theorem O6 {t e:ZJ} {C fuel:Nat} {cs:List ZC} {x:DataW H × List MemPlace} (ht:prog.underlying t=some (.slice e)) (hC:prog.cellsOf e=C) (hpos:0<C) (h:DataW.trod enc prog w 0 spare held fuel t cs=some x) : ∃ a len cap,cs=[.slice a len cap]/\len<=cap/\cap<=9223372036854775807 /\ (len≠0->∃ b off,a=some ⟨b,off,none⟩/\b<w.heap.size/\∀ j,j<len->∃ cs' k y,k<fuel/\cs'.length=C/\(∀ i u,cs'[i]?=some u->w.cell? ⟨b,off+j*C+i,none⟩=some u)/\DataW.trod enc prog w 0 spare held k e cs'=some y):=by
 subst hC;rcases DataW.trod_slice ht h with⟨h0,_⟩|⟨a,len,cap,elems,rest,n,hn,rfl,_,_,hl,hm,hlen,hel,_,_⟩;·exact⟨none,0,0,h0,oM,oM,fun h=>absurd rfl h⟩
 ·unfold maxLen at hm;refine⟨some a,len,cap,rfl,hl,oM,fun hne=>?_⟩;have key:∀ j,j<len->∃ cs' y,cs'.length=prog.cellsOf e/\(∀ i,i<prog.cellsOf e->w.cell? ((a.add (j*prog.cellsOf e)).add i)=cs'[i]?)/\DataW.trod enc prog w 0 spare held n e cs'=some y:=fun j hj=>by have h1:=hel j hj;rw [Ad oM] at h1;obtain⟨cs',h2,h3⟩:=Option.bind_eq_some_iff.1 h1;obtain⟨_,h4,h5⟩:=World.cells?_some h2;exact⟨cs',_,h4,h5,h3⟩
  have hplain:∃ b off,a=⟨b,off,none⟩/\b<w.heap.size:=by
   obtain⟨cs',y,h4,h5,_⟩:=key 0 oM;have h6:=h5 0 hpos;rw [Ad oM] at h6;have e0:(a.add (0*prog.cellsOf e)).add 0=a:=by simp [Addr.add]
   rw [e0] at h6;have h7:=Ef w _ h6;obtain⟨b,off,sub⟩:=a;cases sub with
   |none=>exact⟨b,off,rfl,h7⟩
   |some q =>
    exfalso;unfold World.cell? at h6;split at h6;·simp at h6
    ·cases h6
  obtain⟨b,off,rfl,hb⟩:=hplain;refine⟨b,off,rfl,hb,fun j hj=>?_⟩;obtain⟨cs',y,h4,h5,h6⟩:=key j hj;refine⟨cs',n,y,oM,h4,fun i u hu=>?_,h6⟩;have hi:i<cs'.length:=(lS hu)
  have h7:=h5 i oM;rw [Deep.add_add,hu] at h7;rw [Ll,<- Go.WideShapes.add_plain];exact h7
theorem Bi {t:ZJ} {fs:Array Field} {fuel:Nat} {cs:List ZC} {x:DataW H × List MemPlace} (ht:prog.underlying t=some (.struct fs)) (h:DataW.trod enc prog w 0 spare held fuel t cs=some x) (i:Nat) (e:ZJ) (o n:Nat) (hf:(fs[i]?).map (fun f=>(f.type,f.offset))=some (e,o)) (hn:prog.cellsOf e=n) : ∃ k y,k<fuel/\DataW.trod enc prog w 0 spare held k e ((cs.drop o).take n)=some y:=by
 obtain⟨xs,k,rfl,_,_,hlen,hx⟩:=DataW.trod_struct ht h;cases hi:fs[i]? with
 |none=>rw [hi] at hf;cases hf
 |some f =>
  rw [hi] at hf;simp only [Hg,Eu,Gp] at hf;obtain⟨rfl,rfl⟩:=hf;have hlt:i<xs.length:=by rw [hlen];exact (aZ hi)
  have:=hx i f hi;rw [hn,Ad hlt] at this;exact⟨k,_,oM,this⟩
theorem M8 {t:ZJ} {fs:Array Field} {fuel:Nat} {cs:List ZC} {x:DataW H × List MemPlace} (ht:prog.underlying t=some (.struct fs)) (h:DataW.trod enc prog w 0 spare held fuel t cs=some x) (n:Nat) (hn:prog.cellsOf t=n):cs.length=n:=by obtain⟨xs,k,_,_,hl,_,_⟩:=DataW.trod_struct ht h;rw [hl,hn]
theorem Fu {k:Nat} {cs:List ZC} {y:DataW H × List MemPlace} (h:DataW.trod enc prog w 0 spare held k 3 cs=some y):∃ n:Int,cs=[aJ n]/\I64 n:=by obtain⟨n,h1,_,h3⟩:=DataW.trod_int underlying3 h;rw [Lit.wf_int_iff] at h3;exact⟨n,h1,h3⟩
theorem K9 {k:Nat} {cs:List ZC} {y:DataW H × List MemPlace} (h:DataW.trod enc prog w 0 spare held k 9 cs=some y):∃ l:List UInt8,cs=[ay l]/\l.length<=9223372036854775807:=by obtain⟨s,h1,_,h3⟩:=DataW.trod_string underlying9 h;unfold maxLen at h3;obtain⟨⟨l⟩⟩:=s;refine⟨l,h1,?_⟩;have:l.length<=2 ^ 63 - 1:=h3;omega
theorem Ts {α:Type} {p:Nat->α->Prop}:∀ n,(∀ j,j<n->∃ x,p j x)->∃ l:List α,l.length=n/\∀ j x,l[j]?=some x->p j x
 |0,_=>⟨[],rfl,fun j x h=>by simp at h⟩
 |n+1,h=>by
  obtain⟨l,hl,hx⟩:=Ts n (fun j hj=>h j oM)
  obtain⟨x,hp⟩:=h n oM
  refine⟨l++[x],by simp [hl],fun j y hj=>?_⟩
  rcases Kv j n with h1|h1|h1
  ·rw [Fv oM] at hj
   exact hx j y hj
  ·subst h1
   rw [<- hl] at hj
   simp at hj
   subst hj
   exact hp
  ·rw [Gj (by simp;omega)] at hj
   cases hj
theorem Ra {k:Nat} {cs:List ZC} {y:DataW H × List MemPlace} (h:DataW.trod enc prog w 0 spare held k 22 cs=some y) : ∃ v ls,cs=[v]/\Strs w w v ls/\∀ l∈ls,l.length<=9223372036854775807:=by
 obtain⟨a,len,cap,rfl,h1,h2,h3⟩:=O6 (C:=1) underlying22 kR dC h;by_cases h0:len=0;·subst h0;exact⟨_,[],rfl,⟨a,cap,rfl,h1,h2,fun hne=>absurd rfl hne⟩,fun _ h=>by cases h⟩
 ·obtain⟨b,off,rfl,hb,hx⟩:=h3 h0;obtain⟨ls,hl,hp⟩:=Ts (p:=fun j (l:List UInt8)=>w.cell? ⟨b,off+j,none⟩=some (ay l)/\l.length<=9223372036854775807) len (fun j hj=>by obtain⟨cs',k',y',_,_,hc,ht⟩:=hx j hj;obtain⟨l,rfl,hl⟩:=K9 ht;have:=hc 0 _ rfl;rw [Nat.mul_one,Hl] at this;exact⟨l,this,hl⟩);refine⟨_,ls,rfl,⟨_,cap,by rw [hl],oM,h2,fun _=>⟨b,off,rfl,hb,fun j l hj=>(hp j l hj).1⟩⟩,fun l hl'=>?_⟩;obtain⟨j,hj⟩:=Gi.1 hl';exact (hp j l hj).2
theorem Fpt {k:Nat} {cs:List ZC} {y:DataW H × List MemPlace} (h:DataW.trod enc prog w 0 spare held k 56 cs=some y) : ∃ v ns,cs=[v]/\Er w w v ns:=by
 obtain⟨a,len,cap,rfl,h1,h2,h3⟩:=O6 (C:=2) underlying56 kR dC h;by_cases h0:len=0;·subst h0;exact⟨_,[],rfl,⟨a,cap,rfl,h1,h2,fun hne=>absurd rfl hne⟩⟩
 ·obtain⟨b,off,rfl,hb,hx⟩:=h3 h0;obtain⟨ns,hl,hp⟩:=Ts (p:=fun j (n:CH.Name)=>∃ vw,w.cell? ⟨b,off+j*2,none⟩=some ↑n.script/\w.cell? ⟨b,off+j*2+1,none⟩=some vw/\Strs w w vw n.words) len (fun j hj=>by
   obtain⟨cs',k',y',_,hlen,hc,ht⟩:=hx j hj;obtain⟨_,_,_,t0⟩:=Bi underlying163 ht 0 3 0 1 rfl kR;obtain⟨_,_,_,t1⟩:=Bi underlying163 ht 1 22 1 1 rfl kR;match cs',hlen with
   |[c0,c1],_ =>obtain⟨n,e0,_⟩:=Fu t0;obtain⟨v,ls,e1,hs,_⟩:=Ra t1;simp at e0 e1;subst e0 e1;exact⟨⟨n,ls⟩,_,hc 0 _ rfl,hc 1 _ rfl,hs⟩)
  exact⟨_,ns,rfl,⟨_,cap,by rw [hl],oM,h2,fun _=>⟨b,off,rfl,hb,hp⟩⟩⟩
theorem Boo {B:Nat}:∀ (l:List CH.Formula) (b off:Nat),(∀ (j:Nat) (f:CH.Formula),l[j]?=some f->∃ vk,w.cell? ⟨b,off+j*5,none⟩=some ↑f.op/\w.cell? ⟨b,off+j*5+1,none⟩=some ↑f.name/\w.cell? ⟨b,off+j*5+2,none⟩=some ↑f.cmp/\w.cell? ⟨b,off+j*5+3,none⟩=some ↑f.n/\w.cell? ⟨b,off+j*5+4,none⟩=some vk/\A7 B w f vk)->bP B w l b off
 |[],_,_,_=>by unfold bP;trivial
 |f::l,b,off,h=>by
  unfold bP
  refine⟨?_,Boo l b (off+5) fun j g hj=>?_⟩
  ·have:=h 0 f rfl
   rw [Nat.zero_mul,Hl] at this
   exact this
  ·have:=h (j+1) g (by simpa using hj)
   rw [show off+(j+1)*5=off+5+j*5 from by omega] at this
   exact this
def Yp (f:CH.Formula) (vk:ZC):List ZC:=[aJ f.op,ay f.name,aJ f.cmp,aJ f.n,vk]
theorem H3l:∀ (k:Nat) {cs:List ZC} {y:DataW H × List MemPlace},DataW.trod enc prog w 0 spare held k 63 cs=some y->∃ f vk,cs=Yp f vk/\A7 w w f vk:=by
 intro k;induction k using Nat.strongRecOn with
 |_ k ih =>
  intro cs y ht;have hlen:=M8 underlying63 ht 5 kR;obtain⟨_,_,_,t0⟩:=Bi underlying63 ht 0 3 0 1 rfl kR;obtain⟨_,_,_,t1⟩:=Bi underlying63 ht 1 9 1 1 rfl kR;obtain⟨_,_,_,t2⟩:=Bi underlying63 ht 2 3 2 1 rfl kR;obtain⟨_,_,_,t3⟩:=Bi underlying63 ht 3 3 3 1 rfl kR;obtain⟨k4,_,hk4,t4⟩:=Bi underlying63 ht 4 61 4 1 rfl kR;obtain⟨a,len,cap,e4,h1,h2,h3⟩:=O6 (C:=5) underlying61 kR dC t4;obtain⟨op,e0,_⟩:=Fu t0;obtain⟨name,e1,_⟩:=K9 t1;obtain⟨cmp,e2,_⟩:=Fu t2;obtain⟨n,e3,_⟩:=Fu t3;match cs,hlen with
  |[c0,c1,c2,c3,c4],_ =>
   simp at e0 e1 e2 e3 e4;subst e0 e1 e2 e3 e4;by_cases h0:len=0;·subst h0;refine⟨.mk op name cmp n [],_,rfl,?_⟩;unfold A7;exact⟨a,cap,rfl,h1,h2,fun hne=>absurd rfl hne⟩
   ·obtain⟨b,off,rfl,hb,hx⟩:=h3 h0;obtain⟨kids,hl,hp⟩:=Ts (p:=fun j (f:CH.Formula)=>∃ vk,w.cell? ⟨b,off+j*5,none⟩=some ↑f.op/\w.cell? ⟨b,off+j*5+1,none⟩=some ↑f.name/\w.cell? ⟨b,off+j*5+2,none⟩=some ↑f.cmp/\w.cell? ⟨b,off+j*5+3,none⟩=some ↑f.n/\w.cell? ⟨b,off+j*5+4,none⟩=some vk/\A7 w w f vk) len (fun j hj=>by obtain⟨cs',k',y',hk',_,hc,ht'⟩:=hx j hj;obtain⟨f,vk,rfl,hK⟩:=ih k' oM ht';exact⟨f,vk,hc 0 _ rfl,hc 1 _ rfl,hc 2 _ rfl,hc 3 _ rfl,hc 4 _ rfl,hK⟩);refine⟨.mk op name cmp n kids,_,rfl,?_⟩;unfold A7;exact⟨_,cap,by rw [hl],oM,h2,fun _=>⟨b,off,rfl,hb,Boo kids b off hp⟩⟩
structure kP (a:CH.Act):Prop where
 kind:I64 a.kind
 n:I64 a.n
 pos:I64 a.change.pos
 meas:jy a.measure
theorem B7d {k:Nat} {cs:List ZC} {y:DataW H × List MemPlace} (ht:DataW.trod enc prog w 0 spare held k 60 cs=some y) : ∃ c vn,cs=Bb c vn/\Er w w vn c.entry.names/\I64 c.pos:=by
 have hlen:=M8 underlying60 ht 5 kR;obtain⟨_,_,_,t0⟩:=Bi underlying60 ht 0 3 0 1 rfl kR;obtain⟨_,_,_,t1⟩:=Bi underlying60 ht 1 9 1 1 rfl kR;obtain⟨_,_,_,t2⟩:=Bi underlying60 ht 2 58 2 2 rfl kR;obtain⟨_,_,_,t3⟩:=Bi underlying60 ht 3 3 4 1 rfl kR;obtain⟨_,_,_,u0⟩:=Bi underlying58 t2 0 9 0 1 rfl kR;obtain⟨_,_,_,u1⟩:=Bi underlying58 t2 1 56 1 1 rfl kR;obtain⟨kind,e0,_⟩:=Fu t0;obtain⟨id,e1,_⟩:=K9 t1;obtain⟨eid,e2,_⟩:=K9 u0;obtain⟨vn,ns,e3,hN⟩:=Fpt u1;obtain⟨pos,e4,hp⟩:=Fu t3;match cs,hlen with
 |[c0,c1,c2,c3,c4],_ =>simp at e0 e1 e2 e3 e4;subst e0 e1 e2 e3 e4;exact⟨⟨kind,id,⟨eid,ns⟩,pos⟩,_,rfl,hN,hp⟩
theorem Hyp {k:Nat} {cs:List ZC} {y:DataW H × List MemPlace} (ht:DataW.trod enc prog w 0 spare held k 65 cs=some y) : ∃ m vk,cs=A5 m vk/\A7 w w m.aC vk/\jy m:=by
 have hlen:=M8 underlying65 ht 12 kR;obtain⟨_,_,_,t0⟩:=Bi underlying65 ht 0 9 0 1 rfl kR;obtain⟨_,_,_,t1⟩:=Bi underlying65 ht 1 9 1 1 rfl kR;obtain⟨_,_,_,t2⟩:=Bi underlying65 ht 2 3 2 1 rfl kR;obtain⟨_,_,_,t3⟩:=Bi underlying65 ht 3 9 3 1 rfl kR;obtain⟨_,_,_,t4⟩:=Bi underlying65 ht 4 63 4 5 rfl kR;obtain⟨_,_,_,t5⟩:=Bi underlying65 ht 5 3 9 1 rfl kR;obtain⟨_,_,_,t6⟩:=Bi underlying65 ht 6 3 10 1 rfl kR;obtain⟨_,_,_,t7⟩:=Bi underlying65 ht 7 3 11 1 rfl kR;obtain⟨id,e0,_⟩:=K9 t0;obtain⟨au,e1,_⟩:=K9 t1;obtain⟨kind,e2,n2⟩:=Fu t2;obtain⟨tg,e3,_⟩:=K9 t3;obtain⟨f,vk,e4,hK⟩:=H3l _ t4;obtain⟨x5,e5,n5⟩:=Fu t5;obtain⟨x6,e6,n6⟩:=Fu t6;obtain⟨x7,e7,n7⟩:=Fu t7;match cs,hlen with
 |[c0,c1,c2,c3,c4,c5,c6,c7,c8,c9,c10,c11],_ =>simp [Yp] at e0 e1 e2 e3 e4 e5 e6 e7;obtain⟨f0,f1,f2,f3,f4⟩:=e4;subst e0 e1 e2 e3 f0 f1 f2 f3 f4 e5 e6 e7;exact⟨⟨id,au,kind,tg,f,x5,x6,x7⟩,_,rfl,hK,⟨n2,n5,n6,n7⟩⟩
theorem I41 {k:Nat} {cs:List ZC} {y:DataW H × List MemPlace} (ht:DataW.trod enc prog w 0 spare held k 67 cs=some y) : ∃ l vm vp,cs=Bu l vm vp/\Strs w w vm l.measures/\Strs w w vp l.aK:=by
 have hlen:=M8 underlying67 ht 7 kR;obtain⟨_,_,_,t0⟩:=Bi underlying67 ht 0 9 0 1 rfl kR;obtain⟨_,_,_,t1⟩:=Bi underlying67 ht 1 22 1 1 rfl kR;obtain⟨_,_,_,t2⟩:=Bi underlying67 ht 2 22 2 1 rfl kR;obtain⟨_,_,_,t3⟩:=Bi underlying67 ht 3 3 3 1 rfl kR;obtain⟨_,_,_,t4⟩:=Bi underlying67 ht 4 3 4 1 rfl kR;obtain⟨_,_,_,t5⟩:=Bi underlying67 ht 5 3 5 1 rfl kR;obtain⟨_,_,_,t6⟩:=Bi underlying67 ht 6 3 6 1 rfl kR;obtain⟨id,e0,_⟩:=K9 t0;obtain⟨vm,lm,e1,hm,_⟩:=Ra t1;obtain⟨vp,lp,e2,hp,_⟩:=Ra t2;obtain⟨x3,e3,_⟩:=Fu t3;obtain⟨x4,e4,_⟩:=Fu t4;obtain⟨x5,e5,_⟩:=Fu t5;obtain⟨x6,e6,_⟩:=Fu t6;match cs,hlen with
 |[c0,c1,c2,c3,c4,c5,c6],_ =>simp at e0 e1 e2 e3 e4 e5 e6;subst e0 e1 e2 e3 e4 e5 e6;exact⟨⟨id,lm,lp,x3,x4,x5,x6⟩,_,_,rfl,hm,hp⟩
theorem H1n {k:Nat} {cs:List ZC} {y:DataW H × List MemPlace} (ht:DataW.trod enc prog w 0 spare held k 55 cs=some y) : ∃ l vj,cs=A4 l vj/\Strs w w vj l.joint:=by
 have hlen:=M8 underlying55 ht 10 kR;obtain⟨_,_,_,t0⟩:=Bi underlying55 ht 0 9 0 1 rfl kR;obtain⟨_,_,_,t1⟩:=Bi underlying55 ht 1 9 1 1 rfl kR;obtain⟨_,_,_,t2⟩:=Bi underlying55 ht 2 9 2 1 rfl kR;obtain⟨_,_,_,t3⟩:=Bi underlying55 ht 3 9 3 1 rfl kR;obtain⟨_,_,_,t4⟩:=Bi underlying55 ht 4 9 4 1 rfl kR;obtain⟨_,_,_,t5⟩:=Bi underlying55 ht 5 22 5 1 rfl kR;obtain⟨_,_,_,t6⟩:=Bi underlying55 ht 6 3 6 1 rfl kR;obtain⟨_,_,_,t7⟩:=Bi underlying55 ht 7 3 7 1 rfl kR;obtain⟨_,_,_,t8⟩:=Bi underlying55 ht 8 3 8 1 rfl kR;obtain⟨_,_,_,t9⟩:=Bi underlying55 ht 9 3 9 1 rfl kR;obtain⟨x0,e0,_⟩:=K9 t0;obtain⟨x1,e1,_⟩:=K9 t1;obtain⟨x2,e2,_⟩:=K9 t2;obtain⟨x3,e3,_⟩:=K9 t3;obtain⟨x4,e4,_⟩:=K9 t4;obtain⟨vj,x5,e5,hj,_⟩:=Ra t5;obtain⟨x6,e6,_⟩:=Fu t6;obtain⟨x7,e7,_⟩:=Fu t7;obtain⟨x8,e8,_⟩:=Fu t8;obtain⟨x9,e9,_⟩:=Fu t9;match cs,hlen with
 |[c0,c1,c2,c3,c4,c5,c6,c7,c8,c9],_ =>simp at e0 e1 e2 e3 e4 e5 e6 e7 e8 e9;subst e0 e1 e2 e3 e4 e5 e6 e7 e8 e9;exact⟨⟨x0,x1,x2,x3,x4,x5,x6,x7,x8,x9⟩,_,rfl,hj⟩
theorem K1c {α:Type} (cs:List α) (h:cs.length=37):cs=(cs.drop 0).take 1++((cs.drop 1).take 5++((cs.drop 6).take 12++((cs.drop 18).take 7++((cs.drop 25).take 10++((cs.drop 35).take 1++(cs.drop 36).take 1))))):=by
 have key:∀ (o n m:Nat),m=o+n->cs.drop o=(cs.drop o).take n++cs.drop m:=fun o n m e=>by subst e;rw [<- List.drop_drop,F7]
 have e36:(cs.drop 36).take 1=cs.drop 36:=Di (by simp;omega);rw [e36,<- key 35 1 36 rfl,<- key 25 10 35 rfl,<- key 18 7 25 rfl,<- key 6 12 18 rfl,<- key 1 5 6 rfl,<- key 0 1 1 rfl,I7]
theorem I42 {k:Nat} {cs:List ZC} {y:DataW H × List MemPlace} (ht:DataW.trod enc prog w 0 spare held k 69 cs=some y) : ∃ a s,cs=Al a s/\cu w w a s/\kP a:=by have hlen:=M8 underlying69 ht 37 kR;obtain⟨_,_,_,t0⟩:=Bi underlying69 ht 0 3 0 1 rfl kR;obtain⟨_,_,_,t1⟩:=Bi underlying69 ht 1 60 1 5 rfl kR;obtain⟨_,_,_,t2⟩:=Bi underlying69 ht 2 65 6 12 rfl kR;obtain⟨_,_,_,t3⟩:=Bi underlying69 ht 3 67 18 7 rfl kR;obtain⟨_,_,_,t4⟩:=Bi underlying69 ht 4 55 25 10 rfl kR;obtain⟨_,_,_,t5⟩:=Bi underlying69 ht 5 9 35 1 rfl kR;obtain⟨_,_,_,t6⟩:=Bi underlying69 ht 6 3 36 1 rfl kR;obtain⟨kind,e0,n0⟩:=Fu t0;obtain⟨c,vn,e1,hN,np⟩:=B7d t1;obtain⟨m,vk,e2,hK,nm⟩:=Hyp t2;obtain⟨l,vm,vp,e3,hm,hp⟩:=I41 t3;obtain⟨h,vj,e4,hj⟩:=H1n t4;obtain⟨id,e5,_⟩:=K9 t5;obtain⟨n,e6,nn⟩:=Fu t6;refine⟨⟨kind,c,m,l,h,id,n⟩,⟨vn,vk,vm,vp,vj⟩,?_,⟨hN,hK,hm,hp,hj⟩,⟨n0,nn,np,nm⟩⟩;rw [K1c cs hlen,e0,e1,e2,e3,e4,e5,e6];rfl
theorem Ids {k:Nat} {cs:List ZC} {y:DataW H × List MemPlace} (h:DataW.trod enc prog w 0 spare held k 34 cs=some y) : ∃ v l,cs=[v]/\K3 w w v l/\∀ a∈l,kP a:=by
 obtain⟨a,len,cap,rfl,h1,h2,h3⟩:=O6 (C:=37) underlying34 kR dC h;by_cases h0:len=0;·subst h0;exact⟨_,[],rfl,⟨a,cap,rfl,h1,h2,fun hne=>absurd rfl hne⟩,fun _ h=>by cases h⟩
 ·obtain⟨b,off,rfl,hb,hx⟩:=h3 h0;obtain⟨l,hl,hp⟩:=Ts (p:=fun j (x:CH.Act)=>(∃ s,(∀ i u,(Al x s)[i]?=some u->w.cell? ⟨b,off+j*37+i,none⟩=some u)/\cu w w x s)/\kP x) len (fun j hj=>by obtain⟨cs',k',y',_,_,hc,ht⟩:=hx j hj;obtain⟨x,s,rfl,hr,hn⟩:=I42 ht;exact⟨x,⟨s,hc,hr⟩,hn⟩);refine⟨_,l,rfl,⟨_,cap,by rw [hl],oM,h2,fun _=>⟨b,off,rfl,hb,fun j x hj=>(hp j x hj).1⟩⟩,fun x hx=>?_⟩;obtain⟨j,hj⟩:=Gi.1 hx;exact (hp j x hj).2
structure gV (B:Nat) (w:ZB) (v:CH.Version) (s:bZ):Prop where
 acts:K3 B w s.va v.acts
 sig:Strs B w s.v1 v.sel.sig
 path:Strs B w s.v2 v.sel.path
structure kN (v:CH.Version):Prop where
 authority:I64 v.authority
 number:I64 v.number
 pos:I64 v.pos
 index:I64 v.sel.index
 acts:∀ a∈v.acts,kP a
theorem I40 {k:Nat} {cs:List ZC} {y:DataW H × List MemPlace} (ht:DataW.trod enc prog w 0 spare held k 38 cs=some y) : ∃ v s,cs=An v s/\gV w w v s/\kN v:=by
 have hlen:=M8 underlying38 ht 8 kR;obtain⟨_,_,_,t0⟩:=Bi underlying38 ht 0 3 0 1 rfl kR;obtain⟨_,_,_,t1⟩:=Bi underlying38 ht 1 3 1 1 rfl kR;obtain⟨_,_,_,t2⟩:=Bi underlying38 ht 2 3 2 1 rfl kR;obtain⟨_,_,_,t3⟩:=Bi underlying38 ht 3 9 3 1 rfl kR;obtain⟨_,_,_,t4⟩:=Bi underlying38 ht 4 34 4 1 rfl kR;obtain⟨_,_,_,t5⟩:=Bi underlying38 ht 5 36 5 3 rfl kR;obtain⟨_,_,_,u0⟩:=Bi underlying36 t5 0 3 0 1 rfl kR;obtain⟨_,_,_,u1⟩:=Bi underlying36 t5 1 22 1 1 rfl kR;obtain⟨_,_,_,u2⟩:=Bi underlying36 t5 2 22 2 1 rfl kR;obtain⟨x0,e0,n0⟩:=Fu t0;obtain⟨x1,e1,n1⟩:=Fu t1;obtain⟨x2,e2,n2⟩:=Fu t2;obtain⟨x3,e3,_⟩:=K9 t3;obtain⟨va,x4,e4,ha,na⟩:=Ids t4;obtain⟨x5,e5,n5⟩:=Fu u0;obtain⟨v1,x6,e6,h1,_⟩:=Ra u1;obtain⟨v2,x7,e7,h2,_⟩:=Ra u2;match cs,hlen with
 |[c0,c1,c2,c3,c4,c5,c6,c7],_ =>simp at e0 e1 e2 e3 e4 e5 e6 e7;subst e0 e1 e2 e3 e4 e5 e6 e7;exact⟨⟨x0,x1,x2,x3,x4,⟨x5,x6,x7⟩⟩,⟨_,_,_⟩,rfl,⟨ha,h1,h2⟩,⟨n0,n1,n2,n5,na⟩⟩
def Mf (B:Nat) (w:ZB) (v:ZC) (l:List CH.Version):Prop := ∃ a cap,v=.slice a l.length cap/\l.length<=cap/\cap<=9223372036854775807 /\ (l≠[]->∃ b off,a=some ⟨b,off,none⟩/\b<B/\∀ j x,l[j]?=some x->∃ s,(∀ i u,(An x s)[i]?=some u->w.cell? ⟨b,off+j*8+i,none⟩=some u)/\gV B w x s)
theorem Hym {k:Nat} {cs:List ZC} {y:DataW H × List MemPlace} (h:DataW.trod enc prog w 0 spare held k 23 cs=some y) : ∃ v l,cs=[v]/\Mf w w v l/\∀ a∈l,kN a:=by
 obtain⟨a,len,cap,rfl,h1,h2,h3⟩:=O6 (C:=8) underlying23 kR dC h;by_cases h0:len=0;·subst h0;exact⟨_,[],rfl,⟨a,cap,rfl,h1,h2,fun hne=>absurd rfl hne⟩,fun _ h=>by cases h⟩
 ·obtain⟨b,off,rfl,hb,hx⟩:=h3 h0;obtain⟨l,hl,hp⟩:=Ts (p:=fun j (x:CH.Version)=>(∃ s,(∀ i u,(An x s)[i]?=some u->w.cell? ⟨b,off+j*8+i,none⟩=some u)/\gV w w x s)/\kN x) len (fun j hj=>by obtain⟨cs',k',y',_,_,hc,ht⟩:=hx j hj;obtain⟨x,s,rfl,hr,hn⟩:=I40 ht;exact⟨x,⟨s,hc,hr⟩,hn⟩);refine⟨_,l,rfl,⟨_,cap,by rw [hl],oM,h2,fun _=>⟨b,off,rfl,hb,fun j x hj=>(hp j x hj).1⟩⟩,fun x hx=>?_⟩;obtain⟨j,hj⟩:=Gi.1 hx;exact (hp j x hj).2
end
end
end Go.Proofs.YthapckjpmkkkpaaGreatDoor
namespace CH
def jO (v:Version):Bool:=jP v.acts 5&&(ZH (v.prev.length<=60)&&(dZ v.sel.sig 30&&dZ v.sel.path 30))
def few (l:List Version) (most:Nat):Bool:=l.all jO&&ZH (l.length<=most)
end CH
namespace Go.Proofs.YthapckjpmkkkpaaGreatDoor
open Go.RowKit Go.Lib Go.Shelf Go.Sort CH
theorem K3.form {B:Nat} {w:ZB} {v:ZC} {l:List CH.Act} (h:K3 B w v l):∃ a cap,v=.slice a l.length cap:=by obtain⟨a,cap,h1,_⟩:=h;exact⟨a,cap,h1⟩
theorem gV.below {B B':Nat} {w w':ZB} {v:CH.Version} {s:bZ} (h:gV B w v s) (hb:Below B' w w') (hB:B<=B'):gV B w' v s:=⟨h.acts.below hb hB,h.sig.below hb hB,h.path.below hb hB⟩
theorem gV.mono {B B':Nat} {w:ZB} {v:CH.Version} {s:bZ} (h:gV B w v s) (hB:B<=B'):gV B' w v s:=⟨h.acts.mono hB,h.sig.mono hB,h.path.mono hB⟩
theorem Hd1 (v:ZC) (l:List CH.Version) (w:ZB) (hv:Mf w w v l) : ZE Tryz.prog 5 #[v,.int .i64 8] w (Ret w (.bool (CH.few l 8))):=by
 obtain⟨a,cap,rfl,hl,hcap,hne⟩:=hv;obtain⟨R,hR⟩:∃ R,Hid (CH.few l 8=R):=⟨_,Aa rfl⟩
 rw [hR.out];have hne:=Aa hne;obtain⟨N,hN⟩:∃ N,l.length=N:=⟨_,rfl⟩
 rw [hN] at hl ⊢;have hN:=Aa hN;go_enter Tryz.func5,Tryz.ntmps5;go_wp2_with fail;go_loopw [5] (fun i wr=>∃ k:Nat,k<=N/\i=↑k/\Hid (Below w w wr)/\Hid ((l.take k).all jO=true)) (fun i _=>N - (ZG i).toNat);case atStart=>exact⟨0,Bg _,rfl,Aa (Ac _ _),Aa rfl⟩
 case round =>
  obtain⟨k,hk,rfl,hBr,hI⟩:=hrel;by_cases hlt:k<N
  ·obtain⟨b,off,rfl,hbl,hcells⟩:=hne.out (by intro h;have:=hN.out;simp [h] at this;omega);obtain⟨x,hx⟩:∃ x,l[k]?=some x:=⟨_,Ad (by rw [hN.out];exact hlt)⟩
   obtain⟨⟨va,v1,v2⟩,hc,hat⟩:=hcells k x hx;have KC:=Aa fun (W:ZB) (hb:Below w w W) (i:Nat) (u:ZC) (hi:(An x ⟨va,v1,v2⟩)[i]?=some u)=>(hb.cell (p:=⟨b,off+k*8+i,none⟩) hbl).trans (hc i u hi);have HA:=Aa fun (W:ZB) (hb:Below w w W)=>(hat.below hb nR).mono hb.size;have hx:=Aa hx;clear hcells hc;have hfalse:Hid (jO x=false->R=false):=Aa fun h=>by rw [<- hR.out];unfold CH.few;rw [fZ _ l k x hx.out h];rfl
   obtain⟨p1,hp1⟩:∃ p,Hid (jP x.acts 5=p):=⟨_,Aa rfl⟩
   obtain⟨m,hm⟩:∃ m,Hid (x.prev.length=m):=⟨_,Aa rfl⟩
   obtain⟨p3,hp3⟩:∃ p,Hid (dZ x.sel.sig 30=p):=⟨_,Aa rfl⟩
   obtain⟨p4,hp4⟩:∃ p,Hid (dZ x.sel.path 30=p):=⟨_,Aa rfl⟩
   obtain⟨p2,hp2⟩:∃ p,Hid (ZH (m<=60)=p):=⟨_,Aa rfl⟩
   have hact:Hid (jO x=(p1&&(p2&&(p3&&p4)))):=Aa (by rw [<- hp1.out,<- hp2.out,<- hp3.out,<- hp4.out,<- hm.out];rfl);have F1:=Aa fun (W:ZB) (hb:Below w w W)=>hp1.out ▸ Crs va x.acts W (HA.out W hb).acts;have F3:=Aa fun (W:ZB) (hb:Below w w W)=>hp3.out ▸ Pu v1 x.sel.sig 30 W (HA.out W hb).sig;have F4:=Aa fun (W:ZB) (hb:Below w w W)=>hp4.out ▸ Pu v2 x.sel.path 30 W (HA.out W hb).path;obtain⟨xa,ya,e1⟩:=hat.acts.form;obtain⟨x1,y1,e2,_,_⟩:=hat.sig.form;obtain⟨x2,y2,e3,_,_⟩:=hat.path.form;change va=_ at e1;change v1=_ at e2;change v2=_ at e3;subst e1 e2 e3;clear hat HA;generalize x.acts.length=na at *;generalize x.sel.sig.length=n1 at *;generalize x.sel.path.length=n2 at *;have k4:=KC.out wr hBr.out 4 _ rfl;try dsimp only at k4
   go_wp2_with fail;refine (F1.out wr hBr.out).mono ?_;rintro e w3 ⟨rfl,hb3⟩;have hB3:Below w w w3:=hBr.out.trans (hb3.mono hBr.out.size);clear F1 hb3 k4;cases p1 with
   |false =>go_wp2;go_ret;exact⟨by rw [hfalse.out (by rw [hact.out];rfl)];rfl,hB3⟩
   |true =>
    have k3:=KC.out w3 hB3 3 _ rfl;try dsimp only at k3
    have q60:ZH ((60:Int)<(x.prev.length:Int))=!p2:=by rw [<- hp2.out,hm.out];exact tK m
    cases p2 with
    |false =>go_wp2;go_ret;exact⟨by rw [hfalse.out (by rw [hact.out];rfl)];rfl,hB3⟩
    |true =>
     have k6:=KC.out w3 hB3 6 _ rfl;try dsimp only at k6
     go_wp2_with fail;refine (F3.out w3 hB3).mono ?_;rintro e w4 ⟨rfl,hb4⟩;have hB4:Below w w w4:=hB3.trans (hb4.mono hB3.size);clear F3 hb4 k3 k6;cases p3 with
     |false =>go_wp2;go_ret;exact⟨by rw [hfalse.out (by rw [hact.out];rfl)];rfl,hB4⟩
     |true =>
      have k7:=KC.out w4 hB4 7 _ rfl;try dsimp only at k7
      go_wp2_with fail;refine (F4.out w4 hB4).mono ?_;rintro e w5 ⟨rfl,hb5⟩;have hB5:Below w w w5:=hB4.trans (hb5.mono hB4.size);clear F4 hb5 k7;cases p4 with
      |false =>go_wp2;go_ret;exact⟨by rw [hfalse.out (by rw [hact.out];rfl)];rfl,hB5⟩
      |true =>
       have hI':Hid ((l.take (k+1)).all jO=true):=Aa (by rw [eY _ l k x hx.out,hI.out,hact.out];rfl);have hB':Hid (Below w w w5):=Aa hB5;clear q60;go_wp2;go_roundw;case rel=>exact⟨k+1,oM,by go_num,hB',hI'⟩
       case measure=>simp [ZG];omega
  ·obtain rfl:k=N:=oM;have hall:l.all jO=true:=by have:=hI.out;rwa [<- hN.out,Dx] at this
   go_wp2;go_ret;have hk5:ZH ((k:Int)<=8)=R:=by rw [<- hR.out];unfold CH.few;rw [hall,hN.out,a_Bool_true_and,Eh];omega
   exact⟨by rw [<- hk5];rfl,hBr.out⟩
end Go.Proofs.YthapckjpmkkkpaaGreatDoor
namespace Go.Proofs.YthapckjpmkkkpaaGreatDoor
section
open Go.Lib Go.Proofs.Tryz Go.RowKit Go.Shelf Go.Sort CH
theorem pD {α:Type} (l:List α) (i:Nat) (h:i<l.toArray.size):l.toArray[i]=l[i]'(by simpa using h):=rfl
theorem pE {α:Type} (a:α) (l:List α) (h:0<(a::l).length):(a::l)[0]=a:=rfl
theorem pF {α:Type} (a:α) (l:List α) (n:Nat) (h:n+1<(a::l).length):(a::l)[n+1]=l[n]'(Nat.lt_of_succ_lt_succ h):=rfl
theorem fM.raw {B:Nat} {w:ZB} {a:CH.Act} {s:fF} (h:fM B w a s):cu B w a s:=⟨h.names,h.meas.kids,h.lm,h.lp,h.hj⟩
theorem Ge.raw {B:Nat} {w:ZB} {v:ZC} {l:List CH.Act} (h:Ge B w v l):K3 B w v l:=by obtain⟨a,cap,h1,h2,h3,h4⟩:=h;refine⟨a,cap,h1,h2,h3,fun hne=>?_⟩;obtain⟨b,off,e,hlt,hx⟩:=h4 hne;refine⟨b,off,e,hlt,fun j x hj=>?_⟩;obtain⟨s,c1,c2⟩:=hx j x hj;exact⟨s,c1,c2.raw⟩
theorem aO.raw {B:Nat} {w:ZB} {v:CH.Version} {s:bZ} (h:aO B w v s):gV B w v s:=⟨h.acts.raw,h.sig,h.path⟩
theorem Ek {W:ZB} {b o:Nat} {a:CH.Act} {s:fF} (h:W.rangeAt b o (Al a s)) : W.cell? ⟨b,o,none⟩=some ↑a.kind/\W.rangeAt b (o+1) (Bb a.change s.vn)/\W.rangeAt b (o+6) (A5 a.measure s.vk)/\W.rangeAt b (o+18) (Bu a.licence s.vm s.vp)/\W.rangeAt b (o+25) (A4 a.holding s.vj) /\ W.cell? ⟨b,o+35,none⟩=some ↑a.id/\W.cell? ⟨b,o+36,none⟩=some ↑a.n:=by have r1:W.rangeAt b (o+1) (Bb a.change s.vn++(A5 a.measure s.vk++(Bu a.licence s.vm s.vp++(A4 a.holding s.vj++[ay a.id,aJ a.n])))):=De (l:=[aJ a.kind]) h (o+1) rfl;have r6:=De r1 (o+6) rfl;have r18:=De r6 (o+18) rfl;have r25:=De r18 (o+25) rfl;have r35:=De r25 (o+35) rfl;exact⟨h 0 _ rfl,Hb r1,Hb r6,Hb r18,Hb r25,r35 0 _ rfl,r35 1 _ rfl⟩
theorem Hj (a:CH.Act) (s s':fF) (w:ZB) (h:cu w w a s) (h':cu w w a s') : ZE prog 34 #[.agg (Al a s).toArray,.agg (Al a s').toArray] w (Ret w (.bool true)):=by
 have HA:=Aa fun (W:ZB) (hb:Below w w W)=>(h.below hb nR).mono hb.size;have HA':=Aa fun (W:ZB) (hb:Below w w W)=>(h'.below hb nR).mono hb.size;have T1:Hid (∀ (W:ZB),Below w w W->ZE prog 68 #[.agg (Bb a.change s.vn).toArray,.agg (Bb a.change s'.vn).toArray] W (Ret W (.bool true))):=Aa fun W hb=>Ur a.change s.vn s'.vn W (HA.out W hb).names (HA'.out W hb).names;have T2:=Aa fun (W:ZB) (hb:Below w w W)=>Sm a.measure s.vk s'.vk W (HA.out W hb).kids (HA'.out W hb).kids;have T3:=Aa fun (W:ZB) (hb:Below w w W)=>Sr a.licence s.vm s.vp s'.vm s'.vp W (HA.out W hb).lm (HA.out W hb).lp (HA'.out W hb).lm (HA'.out W hb).lp;have T4:=Aa fun (W:ZB) (hb:Below w w W)=>Zd a.holding s.vj s'.vj W (HA.out W hb).hj (HA'.out W hb).hj;have P:=Aa fun (W:ZB) (b:Nat) (hr:W.rangeAt b 0 (Al a s))=>Ek hr;have P':=Aa fun (W:ZB) (b:Nat) (hr:W.rangeAt b 0 (Al a s'))=>Ek hr;clear h h' HA HA';have i1:(prog.info? 60).map (·.size)=some (Bb a.change s.vn).length:=kR;have i2:(prog.info? 65).map (·.size)=some (A5 a.measure s.vk).length:=kR;have i3:(prog.info? 67).map (·.size)=some (Bu a.licence s.vm s.vp).length:=kR;have i4:(prog.info? 55).map (·.size)=some (A4 a.holding s.vj).length:=kR;have i1':(prog.info? 60).map (·.size)=some (Bb a.change s'.vn).length:=kR;have i2':(prog.info? 65).map (·.size)=some (A5 a.measure s'.vk).length:=kR;have i3':(prog.info? 67).map (·.size)=some (Bu a.licence s'.vm s'.vp).length:=kR;have i4':(prog.info? 55).map (·.size)=some (A4 a.holding s'.vj).length:=kR;generalize Bb a.change s.vn=C1 at *;generalize A5 a.measure s.vk=C2 at *;generalize Bu a.licence s.vm s.vp=C3 at *;generalize A4 a.holding s.vj=C4 at *;generalize Bb a.change s'.vn=C1' at *;generalize A5 a.measure s'.vk=C2' at *;generalize Bu a.licence s'.vm s'.vp=C3' at *;generalize A4 a.holding s'.vj=C4' at *;generalize Al a s=C at *;generalize Al a s'=C' at *;generalize a.kind=ak at *;generalize a.id=aid at *;generalize a.n=an at *;have hB0:=Aa fun o o2=>((Ac _ w).alloc nR o).alloc sM o2;have hr0:=Aa (Ds (B6 w C 69) (.cells C'.toArray 69));have wU:Hid (((w.alloc (.cells C.toArray 69)).alloc (.cells C'.toArray 69)).rangeAt (w.heap.size+1) 0 C'):=Aa (by have:=B6 (w.alloc (.cells C.toArray 69)) C' 69;rwa [Cc] at this);obtain⟨k0,r1,_⟩:=P.out _ _ hr0.out;obtain⟨k0',r1',_⟩:=P'.out _ _ wU.out;have r1:=Aa r1;have r1':=Aa r1';go_enter func34,ntmps34;go_wp2_with (first|refine Bw rfl 60 _ rfl w (0+1) rfl C1 _ r1.out underlying60 rfl i1 ?_|refine Bw rfl 60 _ rfl (w+1) (0+1) rfl C1' _ r1'.out underlying60 rfl i1' ?_)
 have B:=hB0.out (.cells C.toArray 69) (.cells C'.toArray 69);have hlt:w.heap.size+1<((w.alloc (.cells C.toArray 69)).alloc (.cells C'.toArray 69)).heap.size:=sM;clear hB0;generalize (w.alloc (.cells C.toArray 69)).alloc (.cells C'.toArray 69)=W at *;have R:=Aa fun (W':ZB) (hb:Below W W W')=>P.out W' _ (B9 hr0.out hb oM);have R':=Aa fun (W':ZB) (hb:Below W W W')=>P'.out W' _ (B9 wU.out hb hlt);clear P P' hr0 wU;refine (T1.out _ B).mono ?_;rintro e w1 ⟨rfl,hb1⟩;have B1:=B.trans (hb1.mono B.size);clear T1 r1 r1' k0 k0' i1 i1';obtain⟨_,_,r2,_⟩:=R.out w1 hb1;obtain⟨_,_,r2',_⟩:=R'.out w1 hb1;have r2:=Aa r2;have r2':=Aa r2';go_wp2_with (first|refine Bw rfl 65 _ rfl w (0+6) rfl C2 _ r2.out underlying65 rfl i2 ?_|refine Bw rfl 65 _ rfl (w+1) (0+6) rfl C2' _ r2'.out underlying65 rfl i2' ?_)
 refine (T2.out _ B1).mono ?_;rintro e w2 ⟨rfl,hb⟩;have B2:=B1.trans (hb.mono B1.size);have hb2:=hb1.trans (hb.mono hb1.size);clear T2 r2 r2' hb i2 i2';obtain⟨_,_,_,r3,_⟩:=R.out w2 hb2;obtain⟨_,_,_,r3',_⟩:=R'.out w2 hb2;have r3:=Aa r3;have r3':=Aa r3';go_wp2_with (first|refine Bw rfl 67 _ rfl w (0+18) rfl C3 _ r3.out underlying67 rfl i3 ?_|refine Bw rfl 67 _ rfl (w+1) (0+18) rfl C3' _ r3'.out underlying67 rfl i3' ?_)
 refine (T3.out _ B2).mono ?_;rintro e w3 ⟨rfl,hb⟩;have B3:=B2.trans (hb.mono B2.size);have hb3:=hb2.trans (hb.mono hb2.size);clear T3 r3 r3' hb i3 i3';obtain⟨_,_,_,_,r4,_⟩:=R.out w3 hb3;obtain⟨_,_,_,_,r4',_⟩:=R'.out w3 hb3;have r4:=Aa r4;have r4':=Aa r4';go_wp2_with (first|refine Bw rfl 55 _ rfl w (0+25) rfl C4 _ r4.out underlying55 rfl i4 ?_|refine Bw rfl 55 _ rfl (w+1) (0+25) rfl C4' _ r4'.out underlying55 rfl i4' ?_)
 refine (T4.out _ B3).mono ?_;rintro e w4 ⟨rfl,hb⟩;have B4:=B3.trans (hb.mono B3.size);have hb4:=hb3.trans (hb.mono hb3.size);clear T4 r4 r4' hb i4 i4';obtain⟨_,_,_,_,_,k35,k36⟩:=R.out w4 hb4;obtain⟨_,_,_,_,_,DZ,DX⟩:=R'.out w4 hb4;clear R R';simp only [Bl] at k35 k36 DZ DX;go_wp2;go_ret;exact⟨rfl,B4⟩
theorem Rf (x:CH.Version) (s s':bZ) (w:ZB) (h:gV w w x s) (h':gV w w x s') : ZE prog 11 #[.agg (An x s).toArray,.agg (An x s').toArray] w (Ret w (.bool true)):=by
 have S:=Aa fun (W:ZB) (hb:Below w w W)=>Zb x.sel s.v1 s.v2 s'.v1 s'.v2 W ((h.sig.below hb nR).mono hb.size) ((h.path.below hb nR).mono hb.size) ((h'.sig.below hb nR).mono hb.size) ((h'.path.below hb nR).mono hb.size);obtain⟨va,v1,v2⟩:=s;obtain⟨va',v1',v2'⟩:=s';obtain⟨a,cap,e,hl,hcap,hne⟩:=h.acts;obtain⟨a',cap',e',hl',hcap',hne'⟩:=h'.acts;change va=_ at e;change va'=_ at e';subst e e';obtain⟨_,_,e,_,_⟩:=h.sig.form;change v1=_ at e;subst e;obtain⟨_,_,e,_,_⟩:=h.path.form;change v2=_ at e;subst e;obtain⟨_,_,e,_,_⟩:=h'.sig.form;change v1'=_ at e;subst e;obtain⟨_,_,e,_,_⟩:=h'.path.form;change v2'=_ at e;subst e;clear h h';generalize x.sel.sig.length=n1 at *;generalize x.sel.path.length=n2 at *;have hne:=Aa hne;have hne':=Aa hne';obtain⟨N,hN⟩:∃ N,x.acts.length=N:=⟨_,rfl⟩
 rw [hN] at hl hl' ⊢;have hN:=Aa hN;have hB0:=Aa fun o o2=>((Ac _ w).alloc nR o).alloc sM o2;have zO:(prog.info? 69).map (·.size)=some 37:=kR;dsimp only [An] at *;go_enter func11,ntmps11;go_wp2_with fail;have B:=hB0.out;generalize hWd:(w.alloc _).alloc _=W at *;have hBW:Below w w W:=by rw [<- hWd];exact B _ _
 have K:=Aa (Tg hWd);have hlW:w.heap.size+1<W.heap.size:=by rw [<- hWd];simp
 clear hWd hB0 B;refine (S.out _ hBW).mono ?_;rintro e w1 ⟨rfl,hb1⟩;have hB1:=hBW.trans (hb1.mono hBW.size);clear S;go_wp2_with fail;go_loopw [5] (fun i wr=>∃ k:Nat,k<=N/\i=↑k/\Hid (Below w w wr)/\Hid (Below W W wr)) (fun i _=>N - (ZG i).toNat);case atStart=>exact⟨0,Bg _,rfl,Aa hB1,Aa hb1⟩
 case round =>
  obtain⟨k,hk,rfl,hBr,hbr⟩:=hrel;have k4:=(K.out wr hbr.out).1 4 _ rfl;have k4':=(K.out wr hbr.out).2 4 _ rfl;by_cases hlt:k<N
  ·obtain⟨b,off,rfl,hbl,hcells⟩:=hne.out (by intro h;have:=hN.out;simp [h] at this;omega);obtain⟨b',off',rfl,gG,hcells'⟩:=hne'.out (by intro h;have:=hN.out;simp [h] at this;omega);obtain⟨y,hy⟩:∃ y,x.acts[k]?=some y:=⟨_,Ad (by rw [hN.out];exact hlt)⟩
   obtain⟨sy,hc,hat⟩:=hcells k y hy;obtain⟨sy',hc',hat'⟩:=hcells' k y hy;have hrg:wr.rangeAt b (off+k*37) (Al y sy):=fun j u hj=>(hBr.out.cell (p:=⟨b,off+k*37+j,none⟩) hbl).trans (hc j u hj);have qy:wr.rangeAt b' (off'+k*37) (Al y sy'):=fun j u hj=>(hBr.out.cell (p:=⟨b',off'+k*37+j,none⟩) gG).trans (hc' j u hj);have F:=Aa fun (W':ZB) (hb:Below wr wr W')=>Hj y sy sy' W' ((hat.below (hBr.out.trans (hb.mono hBr.out.size)) nR).mono (Ag hBr.out.size hb.size)) ((hat'.below (hBr.out.trans (hb.mono hBr.out.size)) nR).mono (Ag hBr.out.size hb.size));have hl1:(prog.info? 69).map (·.size)=some (Al y sy).length:=zO;have hl2:(prog.info? 69).map (·.size)=some (Al y sy').length:=zO;clear hcells hcells' hc hc' hat hat' hy;generalize Al y sy=C at *;generalize Al y sy'=C' at *;have z0:(0:Int)<=(k:Int):=oM;have zk:((k:Int)).toNat=k:=oM;have hk':(k:Int)<(N:Int):=oM;have hs1:w.heap.size<wr.heap.size:=Ah oM hbr.out.size;have hs2:w.heap.size+1<wr.heap.size:=Ah hlW hbr.out.size;have hs3:b<wr.heap.size:=Ah hbl hBr.out.size;have hs4:b'<wr.heap.size:=Ah gG hBr.out.size;have SS:=Aa fun (W':ZB) (hb:Below wr wr W')=>(⟨(hb.cell (p:=⟨w,4,none⟩) hs1).trans k4,(hb.cell (p:=⟨w+1,4,none⟩) hs2).trans k4',B9 hrg hb hs3,B9 qy hb hs4⟩:W'.cell? ⟨w,4,none⟩=some (.slice (some ⟨b,off,none⟩) N cap)/\W'.cell? ⟨w+1,4,none⟩=some (.slice (some ⟨b',off',none⟩) N cap')/\W'.rangeAt b (off+k*37) C/\W'.rangeAt b' (off'+k*37) C')
   have hD:Below wr wr wr.drew:=(Ac _ wr).drew;clear hrg qy;go_wp2_with fail;refine Ej (S:=(fun W'=>W'.cell? ⟨w,4,none⟩=some (.slice (some ⟨b,off,none⟩) N cap)/\W'.cell? ⟨w+1,4,none⟩=some (.slice (some ⟨b',off',none⟩) N cap')/\W'.rangeAt b (off+k*37) C/\W'.rangeAt b' (off'+k*37) C')) kR (SS.out _ hD) (fun hHeld=>?_);refine tk 0 (v:=?_) rfl rF hHeld ?_ ?_;rotate_left;·(intro w hSw;(try dsimp only at hSw);go_simp;try with_reducible rfl)
   (try simp only [ZF,pD,pE,pF,pA,pB,pC]);refine tk 1 (v:=?_) rfl rF hHeld ?_ ?_;rotate_left;·(intro w hSw;(try dsimp only at hSw);go_simp;try with_reducible rfl)
   (try simp only [ZF,pD,pE,pF,pA,pB,pC]);refine tk 2 (v:=?_) rfl rF hHeld ?_ ?_;rotate_left;·(intro w hSw;(try dsimp only at hSw);go_simp;try with_reducible rfl)
   (try simp only [ZF,pD,pE,pF,pA,pB,pC]);refine tk 3 (v:=?_) rfl rF hHeld ?_ ?_;rotate_left;·(intro w hSw;(try dsimp only at hSw);go_simp;try with_reducible rfl)
   (try simp only [ZF,pD,pE,pF,pA,pB,pC]);refine Ce (i:=4) (v:=.agg C.toArray) rfl kR kR kR (fun _ _ _ h=>h) ?_ hHeld ?_;·exact yieldsIf_load_mid rF _ _ rfl _ _ rfl C _ (fun W hSw=>hSw.2.2.1) underlying69 rfl hl1
   (try simp only [ZF,pD,pE,pF,pA,pB,pC]);refine tk 5 (v:=?_) rfl rF hHeld ?_ ?_;rotate_left;·(intro w hSw;(try dsimp only at hSw);go_simp;try with_reducible rfl)
   (try simp only [ZF,pD,pE,pF,pA,pB,pC]);refine tk 6 (v:=?_) rfl rF hHeld ?_ ?_;rotate_left;·(intro w hSw;(try dsimp only at hSw);go_simp;try with_reducible rfl)
   (try simp only [ZF,pD,pE,pF,pA,pB,pC]);refine tk 7 (v:=?_) rfl rF hHeld ?_ ?_;rotate_left;·(intro w hSw;(try dsimp only at hSw);go_simp;try with_reducible rfl)
   (try simp only [ZF,pD,pE,pF,pA,pB,pC]);refine tk 8 (v:=?_) rfl rF hHeld ?_ ?_;rotate_left;·(intro w hSw;(try dsimp only at hSw);go_simp;try with_reducible rfl)
   (try simp only [ZF,pD,pE,pF,pA,pB,pC]);refine Ce (i:=9) (v:=.agg C'.toArray) rfl kR kR kR (fun _ _ _ h=>h) ?_ hHeld ?_;·exact yieldsIf_load_mid rF _ _ rfl _ _ rfl C' _ (fun W hSw=>hSw.2.2.2) underlying69 rfl hl2
   (try simp only [ZF,pD,pE,pF,pA,pB,pC]);refine rk 10 rfl (fun K hK=>?_);go_simp;refine (F.out _ hD).mono ?_;rintro e w2 ⟨rfl,hb2⟩;have hE:Below wr wr w2:=hD.trans (hb2.mono hD.size);go_wp2_with fail;refine hK.out _ _ (SS.out _ hE) (fun hHeld=>?_);clear hK K;(try simp only [ZF,pD,pE,pF,pA,pB,pC]);refine tk 11 (v:=?_) rfl rF hHeld ?_ ?_;rotate_left;·(intro w hSw;(try dsimp only at hSw);go_simp;try with_reducible rfl)
   (try simp only [ZF,pD,pE,pF,pA,pB,pC]);refine D6 kR ?_ _;have hb2:=hE;have hB2:Hid (Below w w w2):=Aa (hBr.out.trans (hb2.mono hBr.out.size));have hb2:Hid (Below W W w2):=Aa (hbr.out.trans (hb2.mono hbr.out.size));clear F SS k4 k4';go_wp2;go_roundw;case rel=>exact⟨k+1,oM,by go_num,hB2,hb2⟩
   case measure=>simp [ZG];omega
  ·obtain rfl:k=N:=oM;go_wp2;go_ret;exact⟨rfl,hBr.out⟩
def KVs (B:Nat) (w:ZB):List ((Int × Int) × ZC)->List ((Int × Int) × CH.Version)->Prop
 |[],[]=>True
 |(p,x)::l,(q,v)::m=>(p=q/\∃ s,x=.agg (An v s).toArray/\aO B w v s)/\KVs B w l m
 |_,_=>False
theorem KVs.imp {B B':Nat} {w w':ZB} (f:∀ v s,aO B w v s->aO B' w' v s):∀ {l:List ((Int × Int) × ZC)} {m:List ((Int × Int) × CH.Version)},KVs B w l m->KVs B' w' l m
 |[],[],_=>trivial
 |(p,x)::l,(q,v)::m,h=>by
  obtain⟨⟨h1,s,h2,h3⟩,h4⟩:=h
  exact⟨⟨h1,s,h2,f v s h3⟩,KVs.imp f h4⟩
 |[],_::_,h=>h.elim
 |_::_,[],h=>h.elim
theorem KVs.snoc {B:Nat} {w:ZB} {p:Int × Int} {v:CH.Version} {s:bZ} (hv:aO B w v s):∀ {l:List ((Int × Int) × ZC)} {m:List ((Int × Int) × CH.Version)},KVs B w l m->KVs B w (l++[(p,.agg (An v s).toArray)]) (m++[(p,v)])
 |[],[],_=>⟨⟨rfl,s,rfl,hv⟩,trivial⟩
 |(p,x)::l,(q,v)::m,h=>⟨h.1,KVs.snoc hv h.2⟩
 |[],_::_,h=>h.elim
 |_::_,[],h=>h.elim
theorem KVs.none {B:Nat} {w:ZB} {p:Int × Int}:∀ {l:List ((Int × Int) × ZC)} {m:List ((Int × Int) × CH.Version)} (i:Nat),KVs B w l m->bI p m=none->Cg p l i=none
 |[],[],_,_,_=>rfl
 |(a,x)::l,(q,v)::m,i,h,hn=>by
  obtain⟨⟨rfl,_⟩,h4⟩:=h
  rw [bI] at hn
  rw [Cg]
  split at hn
  ·cases hn
  ·rename_i e
   rw [Ak e]
   exact KVs.none (i+1) h4 hn
 |[],_::_,_,h,_=>h.elim
 |_::_,[],_,h,_=>h.elim
theorem KVs.some {B:Nat} {w:ZB} {p:Int × Int} {v:CH.Version}:∀ {l:List ((Int × Int) × ZC)} {m:List ((Int × Int) × CH.Version)} (i:Nat),KVs B w l m->bI p m=some v->∃ j s,Cg p l i=some (j,.agg (An v s).toArray)/\aO B w v s
 |[],[],_,_,hn=>by cases hn
 |(a,x)::l,(q,u)::m,i,h,hn=>by
  obtain⟨⟨rfl,s,rfl,hs⟩,h4⟩:=h
  rw [bI] at hn
  rw [Cg]
  split at hn
  ·rename_i e
   cases hn
   rw [Aw e]
   exact⟨i,s,rfl,hs⟩
  ·rename_i e
   rw [Ak e]
   exact KVs.some (i+1) h4 hn
 |[],_::_,_,h,_=>h.elim
 |_::_,[],_,h,_=>h.elim
def SlV (s:bZ):Prop:=∃ a1 n1 c1 a2 n2 c2 a3 n3 c3,s=⟨.slice a1 n1 c1,.slice a2 n2 c2,.slice a3 n3 c3⟩
theorem aO.sl {B:Nat} {w:ZB} {v:CH.Version} {s:bZ} (h:aO B w v s):SlV s:=by obtain⟨va,v1,v2⟩:=s;obtain⟨_,_,e1,_,_⟩:=h.acts.form;obtain⟨_,_,e2,_,_⟩:=h.sig.form;obtain⟨_,_,e3,_,_⟩:=h.path.form;change va=_ at e1;change v1=_ at e2;change v2=_ at e3;subst e1 e2 e3;exact⟨_,_,_,_,_,_,_,_,_,rfl⟩
def G2c (B:Nat) (w:ZB) (x:ZC) (f:CH.Version × CH.Version):Prop:=∃ s s',x=.agg (An f.1 s++An f.2 s').toArray/\aO B w f.1 s/\aO B w f.2 s'
def jd (B:Nat) (w:ZB):List ((Int × Int) × ZC)->CH.Forks->Prop
 |[],[]=>True
 |(p,x)::l,(q,f)::m=>(p=q/\G2c B w x f)/\jd B w l m
 |_,_=>False
theorem jd.imp {B B':Nat} {w w':ZB} (f:∀ v s,aO B w v s->aO B' w' v s):∀ {l:List ((Int × Int) × ZC)} {m:CH.Forks},jd B w l m->jd B' w' l m
 |[],[],_=>trivial
 |(p,x)::l,(q,v)::m,h=>by
  obtain⟨⟨h1,s,s',h2,h3,h3'⟩,h4⟩:=h
  exact⟨⟨h1,s,s',h2,f _ _ h3,f _ _ h3'⟩,jd.imp f h4⟩
 |[],_::_,h=>h.elim
 |_::_,[],h=>h.elim
theorem jd.snoc {B:Nat} {w:ZB} {p:Int × Int} {x:ZC} {f:CH.Version × CH.Version} (hv:G2c B w x f):∀ {l:List ((Int × Int) × ZC)} {m:CH.Forks},jd B w l m->jd B w (l++[(p,x)]) (m++[(p,f)])
 |[],[],_=>⟨⟨rfl,hv⟩,trivial⟩
 |(_,_)::l,(_,_)::m,h=>⟨h.1,jd.snoc hv h.2⟩
 |[],_::_,h=>h.elim
 |_::_,[],h=>h.elim
theorem jd.none {B:Nat} {w:ZB} {p:Int × Int}:∀ {l:List ((Int × Int) × ZC)} {m:CH.Forks} (i:Nat),jd B w l m->bI p m=none->Cg p l i=none
 |[],[],_,_,_=>rfl
 |(a,x)::l,(q,v)::m,i,h,hn=>by
  obtain⟨⟨rfl,_⟩,h4⟩:=h
  rw [bI] at hn
  rw [Cg]
  split at hn
  ·cases hn
  ·rename_i e
   rw [Ak e]
   exact jd.none (i+1) h4 hn
 |[],_::_,_,h,_=>h.elim
 |_::_,[],_,h,_=>h.elim
theorem jd.some {B:Nat} {w:ZB} {p:Int × Int} {f:CH.Version × CH.Version}:∀ {l:List ((Int × Int) × ZC)} {m:CH.Forks} (i:Nat),jd B w l m->bI p m=some f->∃ j x,Cg p l i=some (j,x)/\G2c B w x f
 |[],[],_,_,hn=>by cases hn
 |(a,x)::l,(q,u)::m,i,h,hn=>by
  obtain⟨⟨rfl,hx⟩,h4⟩:=h
  rw [bI] at hn
  rw [Cg]
  split at hn
  ·rename_i e
   cases hn
   rw [Aw e]
   exact⟨i,x,rfl,hx⟩
  ·rename_i e
   rw [Ak e]
   exact jd.some (i+1) h4 hn
 |[],_::_,_,h,_=>h.elim
 |_::_,[],_,h,_=>h.elim
structure ChainAt (w:ZB) (c r1 r2:Nat) (keys:List (List UInt8)) (known:List ((Int × Int) × CH.Version)) (forks:CH.Forks):Prop where
 ex:∃ vk,w.heap[c]?=some (.cells #[vk,.map (some r1),.map (some r2)] 80 (0,0))/\Strs w w vk keys
 known:∃ kvs,Co Bn r1 w kvs/\KVs w w kvs known
 forks:∃ kvs,Co Bn r2 w kvs/\jd w w kvs forks
 ne:r1≠r2
theorem ChainAt.below {w w':ZB} {c r1 r2:Nat} {keys:List (List UInt8)} {known:List ((Int × Int) × CH.Version)} {forks:CH.Forks} (h:ChainAt w c r1 r2 keys known forks) (hb:Below w w w'):ChainAt w' c r1 r2 keys known forks:=by obtain⟨vk,h1,h2⟩:=h.ex;obtain⟨k1,h3,h4⟩:=h.known;obtain⟨k2,h5,h6⟩:=h.forks;exact⟨⟨vk,(hb.block c (aZ h1)).trans h1,(h2.below hb nR).mono hb.size⟩,⟨k1,h3.below hb,h4.imp fun _ _ h=>h.grow hb⟩,⟨k2,h5.below hb,h6.imp fun _ _ h=>h.grow hb⟩,h.ne⟩
def Dir (B:Nat) (w:ZB) (v:ZC) (ls:List Int):Prop := ∃ a cap,v=.slice a ls.length cap/\ls.length<=cap/\cap<=9223372036854775807 /\ (ls≠[]->∃ b off,a=some ⟨b,off,none⟩/\b<B/\∀ j n,ls[j]?=some n->w.cell? ⟨b,off+j,none⟩=some (aJ n))
theorem Dir.below {B B':Nat} {w w':ZB} {v:ZC} {ls:List Int} (h:Dir B w v ls) (hb:Below B' w w') (hB:B<=B'):Dir B w' v ls:=by obtain⟨a,cap,hv,h1,h2,h3⟩:=h;refine⟨a,cap,hv,h1,h2,fun hne=>?_⟩;obtain⟨b,off,ha,hlt,hc⟩:=h3 hne;exact⟨b,off,ha,hlt,fun j l hj=>(hb.cell (p:=⟨b,off+j,none⟩) (Ah hlt hB)).trans (hc j l hj)⟩
theorem Dir.mono {B B':Nat} {w:ZB} {v:ZC} {ls:List Int} (h:Dir B w v ls) (hB:B<=B'):Dir B' w v ls:=by obtain⟨a,cap,hv,h1,h2,h3⟩:=h;refine⟨a,cap,hv,h1,h2,fun hne=>?_⟩;obtain⟨b,off,ha,hlt,hc⟩:=h3 hne;exact⟨b,off,ha,Ah hlt hB,hc⟩
def Ve (keys:List (List UInt8)):Bool:=!(keys.length==0)&&dV keys 6
def Mon (w:ZB) (keys:List (List UInt8)) (e:Ending) (w':ZB):Prop := Below w w w'/\if Ve keys=true then ∃ c r1 r2,e=.returned (.tuple #[.pointer (some ⟨c,0,none⟩),.int .i64 0])/\ChainAt w' c r1 r2 keys [] []/\w.heap.size<=c/\w.heap.size<=r1/\w.heap.size<=r2 else e=.returned (.tuple #[.pointer none,.int .i64 1])
theorem I12 (w:ZB) (o1 o2 o3:Obj):(((w.alloc o1).alloc o2).alloc o3).heap[w.heap.size]?=some o1/\(((w.alloc o1).alloc o2).alloc o3).heap[w.heap.size+1]?=some o2/\(((w.alloc o1).alloc o2).alloc o3).heap[w.heap.size+1+1]?=some o3:=by
 refine⟨?_,?_,?_⟩ <;> simp only [World.alloc,Dk,Eb];·rw [Ak oM,Ak oM,Aw trivial]
 ·rw [Ak oM,Aw trivial]
 ·rw [Aw trivial]
theorem Hct (v:ZC) (keys:List (List UInt8)) (w:ZB) (hG:Gl w) (hv:Strs w w v keys) (hl:∀ l∈keys,l.length<=9223372036854775807) (hlen:keys.length<=1099511627776) : ZE prog 6 #[v] w (Mon w keys):=by
 have D:=Rs v keys 6 w hG hv hl;have C:=Aa fun (W:ZB) (hb:Below w w W)=>Yw v keys W ((hv.below hb nR).mono hb.size) hlen;obtain⟨b,hb⟩:∃ b,dV keys 6=b:=⟨_,rfl⟩
 rw [hb] at D;replace D:=Aa D;replace hb:=Aa hb;have hmm:=@Ig prog;obtain⟨a,cap,rfl,_,_⟩:=hv.form;obtain⟨N,hN⟩:∃ N,keys.length=N:=⟨_,rfl⟩
 have hok:∀ x,Hid ((!(N==0)&&b)=x)->Ve keys=x:=fun x hx=>by rw [<- hx.out,<- hb.out,<- hN];rfl
 rw [hN] at D C ⊢;replace hN:=Aa hN;clear hv hl hlen;by_cases h0:N=0;·subst h0;have hk:=hok false (Aa rfl);clear hok;go_enter func6,ntmps6;go_wp2_with fail;refine Au (Bc rfl _ _ _) rfl ?_;refine⟨Ac _ _,?_⟩;rw [hk];rfl
 ·have q:((N:Int)==0)=false:=by simpa using (oM:¬ (N:Int)=0)
  have q':(N==0)=false:=by simpa using h0
  go_enter func6,ntmps6;go_wp2_with fail;refine D.out.mono ?_;rintro e w1 ⟨rfl,hb1⟩;clear D;cases b with
  |false =>have hk:=hok false (Aa (by rw [Bool.and_false]));clear hok;go_wp2;refine Au (Bc rfl _ _ _) rfl ?_;refine⟨hb1,?_⟩;rw [hk];rfl
  |true =>
   have hk:=hok true (Aa (by rw [q'];rfl));clear hok;go_wp2_with fail;refine (C.out _ hb1).mono ?_;rintro e w2 ⟨vk,rfl,hO,hb2⟩;have hB2:Below w w w2:=hb1.trans (hb2.mono hb1.size);have hOs:=Aa hO.strs;obtain⟨ak,ck,rfl,_,_,_⟩:=hO.form;clear C hO;generalize keys.length=NN at *;go_wp2;refine Au (Bc rfl _ _ _) rfl ?_;have hB3:=fun o1 o2 o3=>(((Ac _ w2).alloc nR o1).alloc sM o2).alloc (by simp;omega) o3;refine⟨hB2.trans ((hB3 _ _ _).mono hB2.size),?_⟩;rw [hk,Aw rfl];refine⟨w2+1+1,w2.heap.size,w2.heap.size+1,rfl,?_,?_,?_,?_⟩;·obtain⟨a1,a2,a3⟩:=I12 w2 (.map #[] 0) (.map #[] 0) (.cells #[.slice ak NN ck,.map (some w2.heap.size),.map (some (w2.heap.size+1))] 80);exact⟨⟨_,a3,(hOs.out.below (hB3 _ _ _) nR).mono (hB3 _ _ _).size⟩,⟨[],⟨#[],0,a1,rfl,sM,sM⟩,trivial⟩,⟨[],⟨#[],0,a2,rfl,sM,sM⟩,trivial⟩,oM⟩
   ·have:=hB2.size;omega
   ·exact hB2.size
   ·have:=hB2.size;omega
theorem K4 {ls:List (List UInt8)} {n:Nat} (h:dZ ls n=true) (hn:n<=100000):Gd ls:=by unfold dZ at h;simp only [Am,Dt,Bq] at h;exact⟨oM,fun l hl=>by have:=h.1 l hl;omega⟩
mutual
theorem Yh:∀ (f:CH.Formula),f.jY->Fi f
 |.mk _ _ _ _ kids,h=>by
  unfold CH.Formula.jY at h
  unfold Fi
  exact⟨oM,Q9 kids h.2⟩
theorem Q9:∀ (l:List CH.Formula),fP l->Hd l
 |[],_=>by unfold Hd;trivial
 |f::l,h=>by
  unfold fP at h
  unfold Hd
  exact⟨Yh f h.1,Q9 l h.2⟩
end
mutual
theorem Sy:∀ (f:CH.Formula),f.depth<=f.count
 |.mk _ _ _ _ kids=>by
  unfold CH.Formula.depth CH.Formula.count
  have:=Rt kids
  omega
theorem Rt:∀ (l:List CH.Formula),aV l<=aI l
 |[]=>by unfold aV aI;omega
 |f::l=>by
  unfold aV aI
  have h1:=Sy f
  have h2:=Rt l
  omega
end
theorem Eto {f:CH.Formula} (h:mF f 60=true):Fi f/\f.count<=60/\f.depth<=60:=by unfold mF at h;have h1:=Ih h;obtain⟨h2,h3⟩:=mW f 60 oM h1;have h4:=Sy f;refine⟨Yh f h3,?_,?_⟩ <;> omega
theorem Tj {c:CH.Change} (h:jg c=true):iR c:=by
 unfold jg kE at h;simp only [Am,Bq,Dt] at h;obtain⟨h1,h2,h3,h4⟩:=h;refine⟨oM,⟨oM,oM,fun n hn=>?_⟩⟩;have hn':n∈c.entry.names.take 10:=by rw [Di oM];exact hn
 have:=h2 n hn';unfold iY at this;simp only [Am,Bq,Dt] at this;refine⟨oM,fun l hl=>?_⟩;have hl':l∈n.words.take 20:=by rw [Di oM];exact hl
 have:=this.1 l hl';omega
theorem Xw {h:aS} (hf:kM h=true):ji h:=by unfold kM at hf;simp only [Am,Bq,Dt] at hf;obtain⟨⟨h1,h2,h3,h4,h5,h6⟩,h7⟩:=hf;exact⟨oM,oM,oM,oM,oM,⟨oM,fun l hl=>by have:=h7 l hl;omega⟩⟩
theorem I13 {B:Nat} {w:ZB} {a:CH.Act} {s:fF} (h:cu B w a s) (hn:kP a) (hf:kF a=true):fM B w a s:=by unfold kF at hf;simp only [Am] at hf;obtain⟨h1,h2,h3,h4,h5,h6⟩:=hf;obtain⟨q1,q2,q3⟩:=Eto h2;have s3:=K4 h3 oM;have q5:=s3.2 a.id sM;have q6:=s3.2 a.measure.id sM;have q7:=s3.2 a.measure.authority sM;have q8:=s3.2 a.measure.target sM;have q9:=s3.2 a.licence.id sM;exact⟨h.names,⟨h.kids,hn.meas,q6,q7,q8,q1,oM,oM⟩,h.lm,h.lp,h.hj,⟨Tj h1,hn.pos,q9,K4 h4 oM,K4 h5 oM,Xw h6,q5,hn.kind,hn.n⟩⟩
theorem Got {B:Nat} {w:ZB} {v:ZC} {l:List CH.Act} (h:K3 B w v l) (hn:∀ a∈l,kP a) (hf:∀ a∈l,kF a=true):Ge B w v l:=by obtain⟨a,cap,h1,h2,h3,h4⟩:=h;refine⟨a,cap,h1,h2,h3,fun hne=>?_⟩;obtain⟨b,off,e,hlt,hx⟩:=h4 hne;refine⟨b,off,e,hlt,fun j x hj=>?_⟩;obtain⟨s,c1,c2⟩:=hx j x hj;have hm:=Ap hj;exact⟨s,c1,I13 c2 (hn x hm) (hf x hm)⟩
theorem Hnd {B:Nat} {w:ZB} {v:CH.Version} {s:bZ} (h:gV B w v s) (hn:kN v) (hf:jO v=true):aO B w v s:=by unfold jO jP at hf;simp only [Am,Bq,Dt] at hf;obtain⟨⟨h1,h2⟩,h3,h4,h5⟩:=hf;exact⟨Got h.acts hn.acts h1,h.sig,h.path,⟨hn.authority,hn.number,hn.pos,oM,hn.index,K4 h4 oM,K4 h5 oM⟩⟩
end
end Go.Proofs.YthapckjpmkkkpaaGreatDoor
