/- ChainTexts, part 19 of 31. -/
import Derived.Test.YtkboocifdaebgaaGreatDoorP09
import Derived.DataShut
import Derived.Deep.Strs
set_option linter.all false
set_option maxHeartbeats 40000000
set_option maxRecDepth 100000
open Go renaming World -> ZB, Value -> ZC, TypeId -> ZJ
open Go.RowKit renaming intOf -> ZG
open Decidable renaming decide -> ZH
namespace CH
mutual
def Formula.jd:Formula->Int->Int
 |.mk _ name _ _ kids,n=>if 100<name.length then n+1 else dY kids n 1
def dY:List Formula->Int->Int->Int
 |[],_,k=>k
 |f::l,n,k=>if k<=n then dY l n (k+f.jd (n - k)) else k
end
mutual
theorem lF:∀ (f:Formula) (n:Int),0<=n->1<=f.jd n/\f.jd n<=n+1
 |.mk _ name _ _ kids,n,hn=>by
  rw [Formula.jd]
  split
  ·omega
  ·have:=Oi kids n 1 oM oM
   omega
theorem Oi:∀ (l:List Formula) (n k:Int),1<=k->k<=n+1->k<=dY l n k/\dY l n k<=n+1
 |[],n,k,h1,h2=>by rw [dY];omega
 |f::l,n,k,h1,h2=>by
  rw [dY]
  split
  ·have b:=lF f (n - k) oM
   have:=Oi l n (k+f.jd (n - k)) oM oM
   omega
  ·omega
end
mutual
def Formula.lI:Formula->Prop
 |.mk _ name _ _ kids=>name.length<=100/\gy kids
def gy:List Formula->Prop
 |[]=>True
 |f::l=>f.lI/\gy l
end
mutual
theorem qh:∀ (f:Formula) (n:Int),0<=n->f.jd n<=n->f.jd n=f.count/\f.lI
 |.mk _ name _ _ kids,n,hn,h=>by
  rw [Formula.jd] at h ⊢
  split at h
  ·omega
  ·rename_i hl
   rw [Ai hl]
   have:=Pn kids n 1 oM oM h
   rw [Formula.count,Formula.lI]
   exact⟨oM,oM,this.2⟩
theorem Pn:∀ (l:List Formula) (n k:Int),1<=k->k<=n+1->dY l n k<=n->dY l n k=k+aA l/\gy l
 |[],n,k,h1,h2,h=>by
  rw [dY,aA,gy]
  exact⟨sM,trivial⟩
 |f::l,n,k,h1,h2,h=>by
  rw [dY] at h ⊢
  split at h
  ·rename_i hk
   rw [Ah hk]
   have b:=lF f (n - k) oM
   have c:=Oi l n (k+f.jd (n - k)) oM oM
   have d:=qh f (n - k) oM oM
   have e:=Pn l n (k+f.jd (n - k)) oM oM h
   rw [aA,gy]
   exact⟨oM,d.2,e.2⟩
  ·omega
end
def pz (f:Formula) (n:Int):Bool:=ZH (f.jd n<=n)
end CH
namespace Go.Proofs.Y
open Go.RowKit Go.Lib CH
theorem Cmp:∀ (d:Nat) (f:CH.Formula) (vk:ZC) (n:Int) (w:ZB),f.depth<=d->Ax w w f vk->0<=n->n<=1000 ->
  Calls Tryz.prog 118 #[.agg (An f vk),↑n] w (Ret w (.int .i64 (f.jd n)))
 |0,f,vk,n,w,hd,hK,h0,h1=>by
  rw [Li] at hd
  omega
 |d+1,.mk op name cmp fn kids,vk,n,w,hd,hK,h0,h1=>by
  obtain⟨a,cap,rfl,hl,hcap,hne⟩:=hK.form
  dsimp only [An,CH.Formula.op,CH.Formula.name,CH.Formula.cmp,CH.Formula.n,CH.Formula.kids] at *
  rw [Li] at hd
  dsimp only [CH.Formula.kids] at hd
  have IH:=Aa (Cmp d)
  have hdk:=Aa hd
  clear hd hK
  obtain⟨R,hR⟩:=nac ((CH.Formula.mk op name cmp fn kids).jd n)
  rw [hR.out]
  have hR1:Hid ((if 100<name.length then n+1 else dY kids n 1)=R):=Aa (by rw [<- hR.out,CH.Formula.jd])
  clear hR
  have hne:=Aa hne
  obtain⟨N,hN⟩:=naa kids.length
  rw [hN] at hl ⊢
  have hN:=Aa hN
  have hB0:=fun o=>(Ac _ w).alloc nR o
  obtain⟨m,hm⟩:=naa name.length
  rw [hm] at hR1
  by_cases LK:100<m
  ·have q1:=nai ((100:Int)<(m:Int))
   rw [Ah LK] at hR1
   go_in
   go_wp2_with fail
   go_ret
   exact⟨Yw (by rw [<- hR1.out]),hB0 _⟩
  ·have q1:=naj ((100:Int)<(m:Int))
   rw [Ai LK] at hR1
   go_in
   go_wp2_with fail
   generalize hWd:w.alloc _=W at *
   have c4:W.cell? ⟨w,4,none⟩=some (.slice a N cap):=by rw [<- hWd];exact Ab (Ag w _) 4
   have hBW:Below w w W:=by rw [<- hWd];exact hB0 _
   have hlW:w.heap.size<W.heap.size:=by rw [<- hWd];simp
   clear hWd hB0
   go_loopw [5,6] (fun kv i wr=>∃ (j:Nat) (k:Int),j<=N/\i=↑j/\kv=↑k/\1<=k/\k<=n+1/\Hid (Below W W wr)/\Hid (dY (kids.drop j) n k=R)) (fun _ i _=>N - (ZG i).toNat)
   case atStart=>exact⟨0,1,Ak _,rfl,rfl,oM,oM,Aa (Ac _ _),hR1⟩
   case round =>
    obtain⟨j,k,hj,rfl,rfl,hk1,hk2,hBr,hI⟩:=hrel
    have k4:=(hBr.out.cell (p:=⟨w,4,none⟩) hlW).trans c4
    have hBw:Below w w wr:=hBW.trans (hBr.out.mono hBW.size)
    by_cases hlt:j<N
    ·have q2:=nai ((j:Int)<(N:Int))
     have hdr:kids.drop j=kids[j]'(by rw [hN.out];exact hlt)::kids.drop (j+1):=Ei (by rw [hN.out];exact hlt)
     have hget:kids[j]?=some (kids[j]'(by rw [hN.out];exact hlt)):=Ae (by rw [hN.out];exact hlt)
     generalize kids[j]'(by rw [hN.out];exact hlt)=f at hdr hget
     have hI2:=hI.out
     rw [hdr,dY] at hI2
     by_cases hkn:k<=n
     ·have q3:ZH (k<=n)=true:=by simpa using hkn
      rw [Ah hkn] at hI2
      obtain⟨b,off,rfl,hbl,hrow⟩:=hne.out (by intro h;have:=hN.out;simp [h] at this;omega)
      obtain⟨vf,e0,e1,e2,e3,e4,hkf⟩:=bP.get kids b off j f hrow hget
      have k0:=(hBw.cell (p:=⟨b,off+j*5,none⟩) hbl).trans e0
      have k1:=(hBw.cell (p:=⟨b,off+j*5+1,none⟩) hbl).trans e1
      have k2:=(hBw.cell (p:=⟨b,off+j*5+2,none⟩) hbl).trans e2
      have k3:=(hBw.cell (p:=⟨b,off+j*5+3,none⟩) hbl).trans e3
      have k5:=(hBw.cell (p:=⟨b,off+j*5+4,none⟩) hbl).trans e4
      have C:=Aa (IH.out f vf (n - k) wr (by have:=Sw (Bg hget);have:=hdk.out;omega) (Ax.mono hBw.size _ _ (Ax.below hBw nR _ _ hkf)) oM oM)
      have hb:=lF f (n - k) oM
      have hI2:=Aa hI2
      generalize CH.Formula.jd f (n - k)=sz at *
      obtain⟨af,cf,rfl,_,_,_⟩:=hkf.form
      clear e0 e1 e2 e3 e4 hrow hget hdr hkf IH
      dsimp only [An] at C
      generalize f.kids.length=nf at *
      generalize f.name=fname at *
      generalize f.op=fop at *
      generalize f.cmp=LV at *
      generalize f.n=ffn at *
      go_wp2_with fail
      refine CmZ C.out fun w1 hb1=>?_
      clear C
      have hB1:Hid (Below W W w1):=Aa (hBr.out.trans (hb1.mono hBr.out.size))
      go_wp2
      go_roundw
      case rel=>exact⟨j+1,k+sz,oM,by go_num,by go_num,oM,oM,hB1,hI2⟩
      case measure=>simp [ZG];omega
     ·have q3:ZH (k<=n)=false:=by simpa using hkn
      rw [Ai hkn] at hI2
      go_wp2
      go_ret
      exact⟨by subst hI2;rfl,hBw⟩
    ·have q2:=naj ((j:Int)<(N:Int))
     have hI2:=hI.out
     rw [List.drop_of_length_le (by rw [hN.out];omega),dY] at hI2
     go_wp2
     go_ret
     exact⟨by subst hI2;rfl,hBw⟩
theorem Hxs (f:CH.Formula) (vk:ZC) (n:Int) (w:ZB) (hK:Ax w w f vk) (h0:0<=n) (h1:n<=1000) : Calls Tryz.prog 51 #[.agg (An f vk),↑n] w (Ret w (.bool (pz f n))):=by have hB0:=fun o=>(Ac _ w).alloc nR o;have C:=Aa fun o=>Cmp f.depth f vk n (w.alloc o) nR (Ax.mono (hB0 o).size _ _ (Ax.below (hB0 o) nR _ _ hK)) h0 h1;obtain⟨af,cf,rfl,_,_,_⟩:=hK.form;obtain⟨R,hR⟩:=nac (pz f n);rw [hR.out];have hR1:Hid (ZH (f.jd n<=n)=R):=hR;clear hR;generalize f.jd n=sz at *;generalize f.kids.length=nf at *;dsimp only [An] at *;go_in;go_wp2_with fail;refine CmZ (C.out _) fun w1 hb1=>?_;go_wp2;go_ret;exact⟨by rw [<- hR1.out];rfl,(hB0 _).trans (hb1.mono sM)⟩
end Go.Proofs.Y
namespace CH
def lQ (a:Act):Bool:=jB a.change&&(pz a.measure.aB 60&&(eX [a.id,a.measure.id,a.measure.authority,a.measure.target,a.licence.id] 5&&(eX a.licence.measures 70&&(eX a.licence.aO 70&&l9 a.holding))))
def kQ (l:List Act) (most:Nat):Bool:=l.all lQ&&ZH (l.length<=most)
end CH
namespace Go.Proofs.Y
open Go.RowKit Go.Lib Go.Shelf Go.Sort CH
structure iH (B:Nat) (w:ZB) (a:Q02) (s:gV):Prop where
 names:Ek B w s.vn a.change.entry.names
 kids:Ax B w a.measure.aB s.vk
 lm:Strs B w s.vm a.licence.measures
 lp:Strs B w s.vp a.licence.aO
 hj:Strs B w s.vj a.holding.joint
theorem iH.below {B B':Nat} {w w':ZB} {a:Q02} {s:gV} (h:iH B w a s) (hb:Below B' w w') (hB:B<=B'):iH B w' a s:=⟨h.names.below hb hB,Ax.below hb hB _ _ h.kids,h.lm.below hb hB,h.lp.below hb hB,h.hj.below hb hB⟩
theorem iH.mono {B B':Nat} {w:ZB} {a:Q02} {s:gV} (h:iH B w a s) (hB:B<=B'):iH B' w a s:=⟨h.names.mono hB,Ax.mono hB _ _ h.kids,h.lm.mono hB,h.lp.mono hB,h.hj.mono hB⟩
theorem Hp {B:Nat} {w:ZB} {a:Q02} {s:gV} (h:iH B w a s):∀ v∈A4 a s,v.oneCell'=true:=by obtain⟨vn,vk,vm,vp,vj⟩:=s;obtain⟨_,_,e1,_,_⟩:=h.names.form;obtain⟨_,_,e2,_,_,_⟩:=h.kids.form;exact FD43
def K9 (B:Nat) (w:ZB) (v:ZC) (l:List Q02):Prop := ∃ a cap,v=.slice a l.length cap/\l.length<=cap/\cap<=9223372036854775807 /\ (l≠[]->∃ b off,a=some ⟨b,off,none⟩/\b<B/\∀ j x,l[j]?=some x->∃ s,(∀ i u,(A4 x s)[i]?=some u->w.cell? ⟨b,off+j*37+i,none⟩=some u)/\iH B w x s)
theorem K9.below {B B':Nat} {w w':ZB} {v:ZC} {l:List Q02} (h:K9 B w v l) (hb:Below B' w w') (hB:B<=B'):K9 B w' v l:=by exact FD30
theorem K9.mono {B B':Nat} {w:ZB} {v:ZC} {l:List Q02} (h:K9 B w v l) (hB:B<=B'):K9 B' w v l:=by exact FD17
theorem Bb {P:Program} {ops:Array Oper} {rest:List Oper} {op:Oper} {a:Act} {w:ZB} {Q:Exit->Act->ZB->Prop} (hw:Region.wanted op (yielded ops a.tmps)=true) (ty:ZJ) (x:Operand) (ho:op.op=.load ty x) (b o:Nat) (hx:a.eval x=.pointer (some ⟨b,o,none⟩)) (cs:List ZC) (d:TypeDesc) (hc:w.rangeAt b o cs) (hu:P.underlying ty=some d) (hd:d.isRow=true) (hi:(P.info? ty).map (·.size)=some cs.length) (h:wpList P ops Q rest (a.put op.dst (.agg cs.toArray)) w):wpList P ops Q (op::rest) a w := wpList_step fun K hK=>by rw [hw,Ah rfl];exact wp_load_mid ty x ho b o hx cs d hc hu hd hi (hK _ _ h)
end Go.Proofs.Y
namespace Go.Proofs.Y
section
open Go.Lib Go.Proofs.Tryz Go.RowKit Go.Shelf Go.Sort CH
attribute [local irreducible] wpQuiet
theorem Qd {w W:ZB} {C C':List ZC} {T T':ZJ} (hW:(w.alloc (.cells C.toArray T)).alloc (.cells C'.toArray T')=W) (W':ZB) (hb:Below W W W') : (∀ i u,C[i]?=some u->W'.cell? ⟨w,i,none⟩=some u)/\(∀ i u,C'[i]?=some u->W'.cell? ⟨w+1,i,none⟩=some u):=by subst hW;have h1:=(hb.block w naf).trans (S4 w _ _).1;have h2:=(hb.block (w+1) sM).trans (S4 w _ _).2;exact⟨fun i u hi=>(Ab h1 i).trans (by simpa using hi),fun i u hi=>(Ab h2 i).trans (by simpa using hi)⟩
theorem Mar (w:ZB) (ls:List Q00) (h:ls.length<=1000000):Strs (w.alloc (.cells (ls.map ay).toArray 9)).heap.size (w.alloc (.cells (ls.map ay).toArray 9)) (.slice (some ⟨w,0,none⟩) ls.length ls.length) ls:=(Nx w ls h).strs
theorem Hb1 (v:ZC) (l:List Q02) (w:ZB) (hv:K9 w.heap.size w v l) : Calls prog 18 #[v,.int .i64 5] w (Ret w (.bool (kQ l 5))):=by
 obtain⟨a,cap,rfl,hl,hcap,hne⟩:=hv;obtain⟨R,hR⟩:=nac (kQ l 5);rw [hR.out];have hne:=Aa hne;obtain⟨N,hN⟩:=naa l.length;rw [hN] at hl ⊢;have hN:=Aa hN;go_in;go_wp2_with fail;go_loopw [5] (fun i wr=>∃ k:Nat,k<=N/\i=.int .i64 k/\Hid (Below w.heap.size w wr)/\Hid ((l.take k).all lQ=true)) (fun i _=>N - (ZG i).toNat);case atStart=>exact⟨0,Ak _,rfl,Aa (Ac _ _),Aa rfl⟩
 case round =>
  obtain⟨k,hk,rfl,hBr,hI⟩:=hrel;by_cases hlt:k<N
  ·obtain⟨b,off,rfl,hbl,kj⟩:=hne.out (by intro h;have:=hN.out;simp [h] at this;omega);obtain⟨x,hx⟩:∃ x,l[k]?=some x:=⟨_,Ae (by rw [hN.out];exact hlt)⟩
   obtain⟨sx,hc,hat⟩:=kj k x hx;have hrg:wr.rangeAt b (off+k*37) (A4 x sx):=fun j u hj=>(hBr.out.cell (p:=⟨b,off+k*37+j,none⟩) hbl).trans (hc j u hj);have hlen:(prog.info? 64).map (·.size)=some (A4 x sx).length:=kR;have h1c:=Aa (Hp hat);have hlenA:(A4 x sx).length=37:=rfl;have HA:=Aa fun (W:ZB) (hb:Below w.heap.size w W)=>(hat.below hb nR).mono hb.size;have hx:=Aa hx;clear kj hc hat;obtain⟨vn,vk,vm,vp,vj⟩:=sx;have n35:(A4 x ⟨vn,vk,vm,vp,vj⟩)[35]?=some (.string ⟨x.id.toArray⟩):=rfl;have n6:(A4 x ⟨vn,vk,vm,vp,vj⟩)[6]?=some (.string ⟨x.measure.id.toArray⟩):=rfl;have n7:(A4 x ⟨vn,vk,vm,vp,vj⟩)[7]?=some (.string ⟨x.measure.authority.toArray⟩):=rfl;have n9:(A4 x ⟨vn,vk,vm,vp,vj⟩)[9]?=some (.string ⟨x.measure.target.toArray⟩):=rfl;have n18:(A4 x ⟨vn,vk,vm,vp,vj⟩)[18]?=some (.string ⟨x.licence.id.toArray⟩):=rfl;generalize hC:A4 x { vn:=vn,vk:=vk,vm:=vm,vp:=vp,vj:=vj }=C at *;have hn1:=Aa (C8 wr C 64);have hrg:=Aa hrg;have hC:=Aa hC;go_upto_region 5 with (first|refine Dn rfl 64 _ rfl b (off+k*37) rfl C _ hrg.out underlying64 rfl hlen ?_|refine Br rfl 64 _ _ rfl C rfl rfl (by rw [hlenA];rfl) hlen h1c.out ?_)
   have hb0:Below w.heap.size w (wr.alloc (.cells C.toArray 64)):=hBr.out.alloc hBr.out.size _;have hblk:(wr.alloc (.cells C.toArray 64)).heap[wr.heap.size]?=some (.cells C.toArray 64 (0,0)):=Ag wr _;generalize wr.alloc (.cells C.toArray 64)=W1 at *;have hlt1:wr.heap.size<W1.heap.size:=(aZ hblk)
   have KC:Hid (∀ (W:ZB),W.heap[wr.heap.size]?=some (.cells C.toArray 64 (0,0))->∀ (i:Nat) (u:ZC),C[i]?=some u->W.cell? ⟨wr.heap.size,i,none⟩=some u):=Aa fun W hW i u hu=>(Ab hW i).trans (by simpa using hu);have k35:=KC.out W1 hblk 35 _ n35;have k6:=KC.out W1 hblk 6 _ n6;have k7:=KC.out W1 hblk 7 _ n7;have k9:=KC.out W1 hblk 9 _ n9;have k18:=KC.out W1 hblk 18 _ n18;clear hrg hn1 n35 n6 n7 n9 n18;go_upto_region 6 with (fail)
   have RB:Hid (∀ (W:ZB),W.heap[wr.heap.size]?=some (.cells C.toArray 64 (0,0))->W.rangeAt wr.heap.size 1 (Bt x.change vn)/\W.rangeAt wr.heap.size 10 (An x.measure.aB vk).toList/\W.rangeAt wr.heap.size 25 (Bi x.holding vj)/\W.cell? ⟨wr.heap.size,19,none⟩=some vm/\W.cell? ⟨wr.heap.size,20,none⟩=some vp):=Aa fun W hW=>by
    have h0:W.rangeAt wr.heap.size 0 (A4 x { vn:=vn,vk:=vk,vm:=vm,vp:=vp,vj:=vj }):=fun j u hj=>by rw [hC.out] at hj;rw [Ba];exact KC.out W hW j u hj
    have q1:=D4 (l:=[aI x.kind]) h0 1 rfl;have q2:=D4 (l:=Bt x.change vn) q1 6 rfl;have q3:=D4 (l:=A6 x.measure vk) q2 18 rfl;have q4:=D4 (l:=Dm x.licence vm vp) q3 25 rfl;have q5:=Im (l:=A6 x.measure vk) q2;have q6:=D4 (l:=[ay x.measure.id,ay x.measure.authority,aI x.measure.kind,ay x.measure.target]) (m:=(An x.measure.aB vk).toList++[aI x.measure.start,aI x.measure.aF,aI x.measure.aQ]) q5 10 rfl;exact⟨Im q1,Im q6,Im q4,q3 1 _ rfl,q3 2 _ rfl⟩
   obtain⟨W2,hW2⟩:=naa (W1.alloc (.cells #[ay x.id,ay x.measure.id,ay x.measure.authority,ay x.measure.target,ay x.licence.id] 9));have hb2:Below W1.heap.size W1 W2:=by rw [<- hW2];exact (Ac _ W1).alloc nR _
   have hs5:Strs W2.heap.size W2 (.slice (some ⟨W1.heap.size,0,none⟩) 5 5) [x.id,x.measure.id,x.measure.authority,x.measure.target,x.licence.id]:=by rw [<- hW2];exact Mar W1 [x.id,x.measure.id,x.measure.authority,x.measure.target,x.licence.id] sM
   rw [hW2];clear hW2;have hblk2:=(hb2.block _ hlt1).trans hblk;have hbW2:Below w.heap.size w W2:=hb0.trans (hb2.mono hb0.size);have hlt2:wr.heap.size<W2.heap.size:=Af hlt1 hb2.size;clear k35 k6 k7 k9 k18 hb2 hblk hb0;have HS:=Aa fun (W:ZB) (hb:Below W2.heap.size W2 W)=>(hs5.below hb nR).mono hb.size;clear hs5;obtain⟨p1,hp1⟩:=nac (jB x.change);obtain⟨p2,hp2⟩:=nac (pz x.measure.aB 60);obtain⟨p3,hp3⟩:=nac (eX [x.id,x.measure.id,x.measure.authority,x.measure.target,x.licence.id] 5);obtain⟨p4,hp4⟩:=nac (eX x.licence.measures 70);obtain⟨p5,hp5⟩:=nac (eX x.licence.aO 70);obtain⟨p6,hp6⟩:=nac (l9 x.holding);have hact:Hid (lQ x=(p1&&(p2&&(p3&&(p4&&(p5&&p6)))))):=Aa (by rw [<- hp1.out,<- hp2.out,<- hp3.out,<- hp4.out,<- hp5.out,<- hp6.out];rfl);have hfalse:Hid ((p1&&(p2&&(p3&&(p4&&(p5&&p6)))))=false->R=false):=Aa fun h=>by rw [<- hR.out];unfold kQ;rw [gU _ l k x hx.out (hact.out.trans h)];rfl
   have F1:=Aa (hp1.out ▸ Ca8 x.change vn W2 (HA.out W2 hbW2).names);have F2:=Aa fun (W:ZB) (hb:Below w.heap.size w W)=>hp2.out ▸ Hxs x.measure.aB vk 60 W (HA.out W hb).kids dC dC;have F3:=Aa fun (W:ZB) (hb:Below W2.heap.size W2 W)=>hp3.out ▸ Sq _ _ 5 W (HS.out W hb);have F4:=Aa fun (W:ZB) (hb:Below w.heap.size w W)=>hp4.out ▸ Sq _ _ 70 W (HA.out W hb).lm;have F5:=Aa fun (W:ZB) (hb:Below w.heap.size w W)=>hp5.out ▸ Sq _ _ 70 W (HA.out W hb).lp;obtain⟨r1,_,_,_,_⟩:=RB.out W2 hblk2;have r1:=Aa r1;have PY:(prog.info? 55).map (·.size)=some 5:=kR;have hi64:(prog.info? 58).map (·.size)=some 5:=kR;have QA:(prog.info? 50).map (·.size)=some 10:=kR;go_wp2_with (refine Dn rfl 55 _ rfl wr.heap.size 1 rfl (Bt x.change vn) _ r1.out underlying55 rfl PY ?_)
   refine CmZ F1.out fun w3 hb3=>?_;have fK:Below W2.heap.size W2 w3:=hb3;have hblk3:=(hb3.block _ hlt2).trans hblk2;have AO:Below w.heap.size w w3:=hbW2.trans (hb3.mono hbW2.size);have hlt3:wr.heap.size<w3.heap.size:=Af hlt2 hb3.size;clear F1 r1 hb3;cases p1 with
   |false =>go_wp2;go_ret;exact⟨by rw [hfalse.out rfl];rfl,AO⟩
   |true =>
    obtain⟨_,r2,_,_,_⟩:=RB.out w3 hblk3;have r2:=Aa r2;go_wp2_with (refine Bb rfl 58 _ rfl wr.heap.size 10 rfl (An x.measure.aB vk).toList _ r2.out underlying58 rfl hi64 ?_)
    refine CmZ (F2.out w3 AO) fun w4 hb4=>?_;have AP:Below W2.heap.size W2 w4:=fK.trans (hb4.mono fK.size);have JX:=(hb4.block _ hlt3).trans hblk3;have EN:Below w.heap.size w w4:=AO.trans (hb4.mono AO.size);have hlt4:wr.heap.size<w4.heap.size:=Af hlt3 hb4.size;clear F2 r2 hb4;cases p2 with
    |false =>go_wp2;go_ret;exact⟨by rw [hfalse.out rfl];rfl,EN⟩
    |true =>
     go_wp2_with fail;refine CmZ (F3.out w4 AP) fun w5 hb5=>?_;have hblk5:=(hb5.block _ hlt4).trans JX;have AL:Below w.heap.size w w5:=EN.trans (hb5.mono EN.size);have JI:wr.heap.size<w5.heap.size:=Af hlt4 hb5.size;clear F3 hb5;cases p3 with
     |false =>go_wp2;go_ret;exact⟨by rw [hfalse.out rfl];rfl,AL⟩
     |true =>
      obtain⟨_,_,_,k19,_⟩:=RB.out w5 hblk5;go_wp2_with fail;refine CmZ (F4.out w5 AL) fun w6 hb6=>?_;have hblk6:=(hb6.block _ JI).trans hblk5;have AB:Below w.heap.size w w6:=AL.trans (hb6.mono AL.size);have JH:wr.heap.size<w6.heap.size:=Af JI hb6.size;clear F4 hb6 k19;cases p4 with
      |false =>go_wp2;go_ret;exact⟨by rw [hfalse.out rfl];rfl,AB⟩
      |true =>
       obtain⟨_,_,_,_,k20⟩:=RB.out w6 hblk6;go_wp2_with fail;refine CmZ (F5.out w6 AB) fun w7 hb7=>?_;have hblk7:=(hb7.block _ JH).trans hblk6;have EM:Below w.heap.size w w7:=AB.trans (hb7.mono AB.size);have PD:wr.heap.size<w7.heap.size:=Af JH hb7.size;clear F5 hb7 k20;cases p5 with
       |false =>go_wp2;go_ret;exact⟨by rw [hfalse.out rfl];rfl,EM⟩
       |true =>
        obtain⟨_,_,r3,_,_⟩:=RB.out w7 hblk7;generalize hLL:Bi x.holding vj=LL at *;have pO:LL.length=10:=by rw [<- hLL];rfl
        have hLL:=Aa hLL;have JQ:(prog.info? 50).map (·.size)=some LL.length:=by rw [pO];exact QA
        have r3:=Aa r3;clear RB;go_wp2_with (refine Bb rfl 50 _ rfl wr.heap.size 25 rfl LL _ r3.out underlying50 rfl JQ ?_)
        rw [G64 LL _ (by rw [pO];rfl)];have hbb:Below w7.heap.size w7 (w7.alloc (.cells LL.toArray 50)):=(Ac _ w7).alloc nR _;have EL:Below w.heap.size w (w7.alloc (.cells LL.toArray 50)):=EM.trans (hbb.mono EM.size);have F6:=Aa (hp6.out ▸ Hb0 (.slice (some ⟨w7.heap.size,0,none⟩) 1 1) x.holding (w7.alloc (.cells LL.toArray 50)) ⟨w7.heap.size,vj,rfl,sM,fun j y hj=>by rw [hLL.out] at hj;have:=C8 w7 LL 50 j y hj;rwa [Ba] at this,(HA.out _ EL).hj⟩);refine CmZ F6.out fun w8 hb8=>?_;have JY:Below w.heap.size w w8:=EL.trans (hb8.mono EL.size);clear F6 hb8 hbb pO r3;cases p6 with
        |false =>go_wp2;go_ret;exact⟨by rw [hfalse.out rfl];rfl,JY⟩
        |true =>have hI':Hid ((l.take (k+1)).all lQ=true):=Aa (by rw [fM _ l k x hx.out,hI.out,hact.out];rfl);have hB':Hid (Below w.heap.size w w8):=Aa JY;exact FD106
  ·obtain rfl:k=N:=oM;have hall:l.all lQ=true:=by have:=hI.out;rwa [<- hN.out,D5] at this
   go_wp2;go_ret;have hk5:ZH ((k:Int)<=5)=R:=by rw [<- hR.out];unfold kQ;rw [hall,hN.out,a_Bool_true_and,Ed];omega
   exact⟨by rw [<- hk5];rfl,hBr.out⟩
end
section
open Go.Deep Go.Lib Go.Proofs.Tryz Go.RowKit Go.Shelf Go.Sort Go.WideShapes CH
section
open CH
variable {H:Type} {enc:ZJ × ZC->H} {w:ZB} {spare:Nat->Bool} {held:Bool}
theorem Yx {t e:ZJ} {C fuel:Nat} {cs:List ZC} {x:DataW H × List MemPlace} (ht:prog.underlying t=some (.slice e)) (hC:prog.cellsOf e=C) (hpos:0<C) (h:DataW.trod enc prog w 0 spare held fuel t cs=some x) : ∃ a len cap,cs=[.slice a len cap]/\len<=cap/\cap<=9223372036854775807 /\ (len≠0->∃ b off,a=some ⟨b,off,none⟩/\b<w.heap.size/\∀ j,j<len->∃ cs' k y,k<fuel/\cs'.length=C/\(∀ i u,cs'[i]?=some u->w.cell? ⟨b,off+j*C+i,none⟩=some u)/\DataW.trod enc prog w 0 spare held k e cs'=some y):=by
 subst hC;rcases DataW.trod_slice ht h with⟨h0,_⟩|⟨a,len,cap,elems,rest,n,hn,rfl,_,_,hl,hm,hlen,hel,_,_⟩;·exact⟨none,0,0,h0,oM,oM,fun h=>absurd rfl h⟩
 ·unfold maxLen at hm;refine⟨some a,len,cap,rfl,hl,oM,fun hne=>?_⟩;have key:∀ j,j<len->∃ cs' y,cs'.length=prog.cellsOf e/\(∀ i,i<prog.cellsOf e->w.cell? ((a.add (j*prog.cellsOf e)).add i)=cs'[i]?)/\DataW.trod enc prog w 0 spare held n e cs'=some y:=fun j hj=>by have h1:=hel j hj;rw [Ae oM] at h1;obtain⟨cs',h2,h3⟩:=Option.bind_eq_some_iff.1 h1;obtain⟨_,h4,h5⟩:=World.cells?_some h2;exact⟨cs',_,h4,h5,h3⟩
  have hplain:∃ b off,a=⟨b,off,none⟩/\b<w.heap.size:=by
   obtain⟨cs',y,h4,h5,_⟩:=key 0 oM;have h6:=h5 0 hpos;rw [Ae oM] at h6;have e0:(a.add (0*prog.cellsOf e)).add 0=a:=by simp [Addr.add]
   rw [e0] at h6;have h7:=Bd w _ h6;obtain⟨b,off,sub⟩:=a;cases sub with
   |none=>exact⟨b,off,rfl,h7⟩
   |some q =>
    exfalso;unfold World.cell? at h6;split at h6;·simp at h6
    ·cases h6
  obtain⟨b,off,rfl,hb⟩:=hplain;refine⟨b,off,rfl,hb,fun j hj=>?_⟩;obtain⟨cs',y,h4,h5,h6⟩:=key j hj;refine⟨cs',n,y,oM,h4,fun i u hu=>?_,h6⟩;have hi:i<cs'.length:=(lS hu)
  have h7:=h5 i oM;rw [Deep.add_add,hu] at h7;rw [Lu,<- Go.WideShapes.add_plain];exact h7
theorem A9 {t:ZJ} {fs:Array Field} {fuel:Nat} {cs:List ZC} {x:DataW H × List MemPlace} (ht:prog.underlying t=some (.struct fs)) (h:DataW.trod enc prog w 0 spare held fuel t cs=some x) (i:Nat) (e:ZJ) (o n:Nat) (hf:(fs[i]?).map (fun f=>(f.type,f.offset))=some (e,o)) (hn:prog.cellsOf e=n) : ∃ k y,k<fuel/\DataW.trod enc prog w 0 spare held k e ((cs.drop o).take n)=some y:=by
 obtain⟨xs,k,rfl,_,_,hlen,hx⟩:=DataW.trod_struct ht h;cases hi:fs[i]? with
 |none=>rw [hi] at hf;cases hf
 |some f =>
  rw [hi] at hf;simp only [Gz,G6,Ib] at hf;obtain⟨rfl,rfl⟩:=hf;have hlt:i<xs.length:=by rw [hlen];exact (aZ hi)
  have:=hx i f hi;rw [hn,Ae hlt] at this;exact⟨k,_,oM,this⟩
theorem P2 {t:ZJ} {fs:Array Field} {fuel:Nat} {cs:List ZC} {x:DataW H × List MemPlace} (ht:prog.underlying t=some (.struct fs)) (h:DataW.trod enc prog w 0 spare held fuel t cs=some x) (n:Nat) (hn:prog.cellsOf t=n):cs.length=n:=by obtain⟨xs,k,_,_,hl,_,_⟩:=DataW.trod_struct ht h;rw [hl,hn]
theorem F0 {k:Nat} {cs:List ZC} {y:DataW H × List MemPlace} (h:DataW.trod enc prog w 0 spare held k 3 cs=some y):∃ n:Int,cs=[aI n]/\I64 n:=by obtain⟨n,h1,_,h3⟩:=DataW.trod_int underlying3 h;rw [Lit.wf_int_iff] at h3;exact⟨n,h1,h3⟩
theorem Ln {k:Nat} {cs:List ZC} {y:DataW H × List MemPlace} (h:DataW.trod enc prog w 0 spare held k 9 cs=some y):∃ l:Q00,cs=[ay l]/\l.length<=9223372036854775807:=by obtain⟨s,h1,_,h3⟩:=DataW.trod_string underlying9 h;unfold maxLen at h3;obtain⟨⟨l⟩⟩:=s;refine⟨l,h1,?_⟩;have:l.length<=2 ^ 63 - 1:=h3;omega
theorem U0 {α:Type} {p:Nat->α->Prop}:∀ n,(∀ j,j<n->∃ x,p j x)->∃ l:List α,l.length=n/\∀ j x,l[j]?=some x->p j x
 |0,_=>⟨[],rfl,fun j x h=>by simp at h⟩
 |n+1,h=>by
  obtain⟨l,hl,hx⟩:=U0 n (fun j hj=>h j oM)
  obtain⟨x,hp⟩:=h n oM
  refine⟨l++[x],by simp [hl],fun j y hj=>?_⟩
  rcases Kz j n with h1|h1|h1
  ·rw [Gn oM] at hj
   exact hx j y hj
  ·subst h1
   rw [<- hl] at hj
   simp at hj
   subst hj
   exact hp
  ·rw [Gw naf] at hj
   cases hj
theorem Qj {k:Nat} {cs:List ZC} {y:DataW H × List MemPlace} (h:DataW.trod enc prog w 0 spare held k 23 cs=some y) : ∃ v ls,cs=[v]/\Strs w w v ls/\∀ l∈ls,l.length<=9223372036854775807:=by
 obtain⟨a,len,cap,rfl,h1,h2,h3⟩:=Yx (C:=1) underlying23 kR dC h;by_cases h0:len=0;·exact FD102
 ·obtain⟨b,off,rfl,hb,hx⟩:=h3 h0;obtain⟨ls,hl,hp⟩:=U0 (p:=fun j (l:Q00)=>w.cell? ⟨b,off+j,none⟩=some (ay l)/\l.length<=9223372036854775807) len (fun j hj=>by obtain⟨cs',k',y',_,_,hc,ht⟩:=hx j hj;obtain⟨l,rfl,hl⟩:=Ln ht;have:=hc 0 _ rfl;rw [Nat.mul_one,Hu] at this;exact⟨l,this,hl⟩);refine⟨_,ls,rfl,⟨_,cap,by rw [hl],oM,h2,fun _=>⟨b,off,rfl,hb,fun j l hj=>(hp j l hj).1⟩⟩,fun l hl'=>?_⟩;obtain⟨j,hj⟩:=Gj.1 hl';exact (hp j l hj).2
theorem Isd {k:Nat} {cs:List ZC} {y:DataW H × List MemPlace} (h:DataW.trod enc prog w 0 spare held k 51 cs=some y) : ∃ v ns,cs=[v]/\Ek w w v ns:=by
 obtain⟨a,len,cap,rfl,h1,h2,h3⟩:=Yx (C:=2) underlying51 kR dC h;by_cases h0:len=0;·subst h0;exact⟨_,[],rfl,⟨a,cap,rfl,h1,h2,fun hne=>absurd rfl hne⟩⟩
 ·obtain⟨b,off,rfl,hb,hx⟩:=h3 h0;obtain⟨ns,hl,hp⟩:=U0 (p:=fun j (n:Q05)=>∃ vw,w.cell? ⟨b,off+j*2,none⟩=some ↑n.script/\w.cell? ⟨b,off+j*2+1,none⟩=some vw/\Strs w w vw n.words) len (fun j hj=>by
   obtain⟨cs',k',y',_,hlen,hc,ht⟩:=hx j hj;obtain⟨_,_,_,t0⟩:=A9 underlying176 ht 0 3 0 1 rfl kR;obtain⟨_,_,_,t1⟩:=A9 underlying176 ht 1 23 1 1 rfl kR;match cs',hlen with
   |[c0,c1],_ =>obtain⟨n,e0,_⟩:=F0 t0;obtain⟨v,ls,e1,hs,_⟩:=Qj t1;simp at e0 e1;subst e0 e1;exact⟨⟨n,ls⟩,_,hc 0 _ rfl,hc 1 _ rfl,hs⟩)
  exact⟨_,ns,rfl,⟨_,cap,by rw [hl],oM,h2,fun _=>⟨b,off,rfl,hb,hp⟩⟩⟩
theorem F27 {B:Nat}:∀ (l:List CH.Formula) (b off:Nat),(∀ (j:Nat) (f:CH.Formula),l[j]?=some f->∃ vk,w.cell? ⟨b,off+j*5,none⟩=some ↑f.op/\w.cell? ⟨b,off+j*5+1,none⟩=some ↑f.name/\w.cell? ⟨b,off+j*5+2,none⟩=some ↑f.cmp/\w.cell? ⟨b,off+j*5+3,none⟩=some ↑f.n/\w.cell? ⟨b,off+j*5+4,none⟩=some vk/\Ax B w f vk)->bP B w l b off
 |[],_,_,_=>by unfold bP;trivial
 |f::l,b,off,h=>by
  unfold bP
  refine⟨?_,F27 l b (off+5) fun j g hj=>?_⟩
  ·have:=h 0 f rfl
   rw [Nat.zero_mul,Hu] at this
   exact this
  ·have:=h (j+1) g (by simpa using hj)
   rw [show off+(j+1)*5=off+5+j*5 from by omega] at this
   exact this
def Cut (f:CH.Formula) (vk:ZC):List ZC:=[aI f.op,ay f.name,aI f.cmp,aI f.n,vk]
theorem Kk8:∀ (k:Nat) {cs:List ZC} {y:DataW H × List MemPlace},DataW.trod enc prog w 0 spare held k 58 cs=some y->∃ f vk,cs=Cut f vk/\Ax w w f vk:=by
 intro k;induction k using Nat.strongRecOn with
 |_ k ih =>
  intro cs y ht;have hlen:=P2 underlying58 ht 5 kR;obtain⟨_,_,_,t0⟩:=A9 underlying58 ht 0 3 0 1 rfl kR;obtain⟨_,_,_,t1⟩:=A9 underlying58 ht 1 9 1 1 rfl kR;obtain⟨_,_,_,t2⟩:=A9 underlying58 ht 2 3 2 1 rfl kR;obtain⟨_,_,_,t3⟩:=A9 underlying58 ht 3 3 3 1 rfl kR;obtain⟨k4,_,hk4,t4⟩:=A9 underlying58 ht 4 56 4 1 rfl kR;obtain⟨a,len,cap,e4,h1,h2,h3⟩:=Yx (C:=5) underlying56 kR dC t4;obtain⟨op,e0,_⟩:=F0 t0;obtain⟨name,e1,_⟩:=Ln t1;obtain⟨cmp,e2,_⟩:=F0 t2;obtain⟨n,e3,_⟩:=F0 t3;match cs,hlen with
  |[c0,c1,c2,c3,c4],_ =>
   simp at e0 e1 e2 e3 e4;subst e0 e1 e2 e3 e4;by_cases h0:len=0;·subst h0;refine⟨.mk op name cmp n [],_,rfl,?_⟩;unfold Ax;exact⟨a,cap,rfl,h1,h2,fun hne=>absurd rfl hne⟩
   ·obtain⟨b,off,rfl,hb,hx⟩:=h3 h0;obtain⟨kids,hl,hp⟩:=U0 (p:=fun j (f:CH.Formula)=>∃ vk,w.cell? ⟨b,off+j*5,none⟩=some ↑f.op/\w.cell? ⟨b,off+j*5+1,none⟩=some ↑f.name/\w.cell? ⟨b,off+j*5+2,none⟩=some ↑f.cmp/\w.cell? ⟨b,off+j*5+3,none⟩=some ↑f.n/\w.cell? ⟨b,off+j*5+4,none⟩=some vk/\Ax w w f vk) len (fun j hj=>by obtain⟨cs',k',y',hk',_,hc,ht'⟩:=hx j hj;obtain⟨f,vk,rfl,hK⟩:=ih k' oM ht';exact⟨f,vk,hc 0 _ rfl,hc 1 _ rfl,hc 2 _ rfl,hc 3 _ rfl,hc 4 _ rfl,hK⟩);refine⟨.mk op name cmp n kids,_,rfl,?_⟩;unfold Ax;exact⟨_,cap,by rw [hl],oM,h2,fun _=>⟨b,off,rfl,hb,F27 kids b off hp⟩⟩
structure mD (a:Q02):Prop where
 kind:I64 a.kind
 n:I64 a.n
 pos:I64 a.change.pos
 meas:jg a.measure
theorem Ggo {k:Nat} {cs:List ZC} {y:DataW H × List MemPlace} (ht:DataW.trod enc prog w 0 spare held k 55 cs=some y) : ∃ c vn,cs=Bt c vn/\Ek w w vn c.entry.names/\I64 c.pos:=by
 have hlen:=P2 underlying55 ht 5 kR;obtain⟨_,_,_,t0⟩:=A9 underlying55 ht 0 3 0 1 rfl kR;obtain⟨_,_,_,t1⟩:=A9 underlying55 ht 1 9 1 1 rfl kR;obtain⟨_,_,_,t2⟩:=A9 underlying55 ht 2 53 2 2 rfl kR;obtain⟨_,_,_,t3⟩:=A9 underlying55 ht 3 3 4 1 rfl kR;obtain⟨_,_,_,u0⟩:=A9 underlying53 t2 0 9 0 1 rfl kR;obtain⟨_,_,_,u1⟩:=A9 underlying53 t2 1 51 1 1 rfl kR;obtain⟨kind,e0,_⟩:=F0 t0;obtain⟨id,e1,_⟩:=Ln t1;obtain⟨eid,e2,_⟩:=Ln u0;obtain⟨vn,ns,e3,hN⟩:=Isd u1;obtain⟨pos,e4,hp⟩:=F0 t3;match cs,hlen with
 |[c0,c1,c2,c3,c4],_ =>simp at e0 e1 e2 e3 e4;subst e0 e1 e2 e3 e4;exact⟨⟨kind,id,⟨eid,ns⟩,pos⟩,_,rfl,hN,hp⟩
theorem Ki8 {k:Nat} {cs:List ZC} {y:DataW H × List MemPlace} (ht:DataW.trod enc prog w 0 spare held k 60 cs=some y) : ∃ m vk,cs=A6 m vk/\Ax w w m.aB vk/\jg m:=by
 have hlen:=P2 underlying60 ht 12 kR;obtain⟨_,_,_,t0⟩:=A9 underlying60 ht 0 9 0 1 rfl kR;obtain⟨_,_,_,t1⟩:=A9 underlying60 ht 1 9 1 1 rfl kR;obtain⟨_,_,_,t2⟩:=A9 underlying60 ht 2 3 2 1 rfl kR;obtain⟨_,_,_,t3⟩:=A9 underlying60 ht 3 9 3 1 rfl kR;obtain⟨_,_,_,t4⟩:=A9 underlying60 ht 4 58 4 5 rfl kR;obtain⟨_,_,_,t5⟩:=A9 underlying60 ht 5 3 9 1 rfl kR;obtain⟨_,_,_,t6⟩:=A9 underlying60 ht 6 3 10 1 rfl kR;obtain⟨_,_,_,t7⟩:=A9 underlying60 ht 7 3 11 1 rfl kR;obtain⟨id,e0,_⟩:=Ln t0;obtain⟨au,e1,_⟩:=Ln t1;obtain⟨kind,e2,n2⟩:=F0 t2;obtain⟨tg,e3,_⟩:=Ln t3;obtain⟨f,vk,e4,hK⟩:=Kk8 _ t4;obtain⟨x5,e5,n5⟩:=F0 t5;obtain⟨x6,e6,n6⟩:=F0 t6;obtain⟨x7,e7,n7⟩:=F0 t7;match cs,hlen with
 |[c0,c1,c2,c3,c4,c5,c6,c7,c8,c9,c10,c11],_ =>simp [Cut] at e0 e1 e2 e3 e4 e5 e6 e7;obtain⟨f0,f1,f2,f3,f4⟩:=e4;subst e0 e1 e2 e3 f0 f1 f2 f3 f4 e5 e6 e7;exact⟨⟨id,au,kind,tg,f,x5,x6,x7⟩,_,rfl,hK,⟨n2,n5,n6,n7⟩⟩
theorem Mlk {k:Nat} {cs:List ZC} {y:DataW H × List MemPlace} (ht:DataW.trod enc prog w 0 spare held k 62 cs=some y) : ∃ l vm vp,cs=Dm l vm vp/\Strs w w vm l.measures/\Strs w w vp l.aO:=by
 have hlen:=P2 underlying62 ht 7 kR;obtain⟨_,_,_,t0⟩:=A9 underlying62 ht 0 9 0 1 rfl kR;obtain⟨_,_,_,t1⟩:=A9 underlying62 ht 1 23 1 1 rfl kR;obtain⟨_,_,_,t2⟩:=A9 underlying62 ht 2 23 2 1 rfl kR;obtain⟨_,_,_,t3⟩:=A9 underlying62 ht 3 3 3 1 rfl kR;obtain⟨_,_,_,t4⟩:=A9 underlying62 ht 4 3 4 1 rfl kR;obtain⟨_,_,_,t5⟩:=A9 underlying62 ht 5 3 5 1 rfl kR;obtain⟨_,_,_,t6⟩:=A9 underlying62 ht 6 3 6 1 rfl kR;obtain⟨id,e0,_⟩:=Ln t0;obtain⟨vm,lm,e1,hm,_⟩:=Qj t1;obtain⟨vp,lp,e2,hp,_⟩:=Qj t2;obtain⟨x3,e3,_⟩:=F0 t3;obtain⟨x4,e4,_⟩:=F0 t4;obtain⟨x5,e5,_⟩:=F0 t5;obtain⟨x6,e6,_⟩:=F0 t6;match cs,hlen with
 |[c0,c1,c2,c3,c4,c5,c6],_ =>simp at e0 e1 e2 e3 e4 e5 e6;subst e0 e1 e2 e3 e4 e5 e6;exact⟨⟨id,lm,lp,x3,x4,x5,x6⟩,_,_,rfl,hm,hp⟩
theorem Kj8 {k:Nat} {cs:List ZC} {y:DataW H × List MemPlace} (ht:DataW.trod enc prog w 0 spare held k 50 cs=some y) : ∃ l vj,cs=Bi l vj/\Strs w w vj l.joint:=by
 have hlen:=P2 underlying50 ht 10 kR;obtain⟨_,_,_,t0⟩:=A9 underlying50 ht 0 9 0 1 rfl kR;obtain⟨_,_,_,t1⟩:=A9 underlying50 ht 1 9 1 1 rfl kR;obtain⟨_,_,_,t2⟩:=A9 underlying50 ht 2 9 2 1 rfl kR;obtain⟨_,_,_,t3⟩:=A9 underlying50 ht 3 9 3 1 rfl kR;obtain⟨_,_,_,t4⟩:=A9 underlying50 ht 4 9 4 1 rfl kR;obtain⟨_,_,_,t5⟩:=A9 underlying50 ht 5 23 5 1 rfl kR;obtain⟨_,_,_,t6⟩:=A9 underlying50 ht 6 3 6 1 rfl kR;obtain⟨_,_,_,t7⟩:=A9 underlying50 ht 7 3 7 1 rfl kR;obtain⟨_,_,_,t8⟩:=A9 underlying50 ht 8 3 8 1 rfl kR;obtain⟨_,_,_,t9⟩:=A9 underlying50 ht 9 3 9 1 rfl kR;obtain⟨x0,e0,_⟩:=Ln t0;obtain⟨x1,e1,_⟩:=Ln t1;obtain⟨x2,e2,_⟩:=Ln t2;obtain⟨x3,e3,_⟩:=Ln t3;obtain⟨x4,e4,_⟩:=Ln t4;obtain⟨vj,x5,e5,hj,_⟩:=Qj t5;obtain⟨x6,e6,_⟩:=F0 t6;obtain⟨x7,e7,_⟩:=F0 t7;obtain⟨x8,e8,_⟩:=F0 t8;obtain⟨x9,e9,_⟩:=F0 t9;match cs,hlen with
 |[c0,c1,c2,c3,c4,c5,c6,c7,c8,c9],_ =>simp at e0 e1 e2 e3 e4 e5 e6 e7 e8 e9;subst e0 e1 e2 e3 e4 e5 e6 e7 e8 e9;exact⟨⟨x0,x1,x2,x3,x4,x5,x6,x7,x8,x9⟩,_,rfl,hj⟩
theorem Pbd {α:Type} (cs:List α) (h:cs.length=37):cs=(cs.drop 0).take 1++((cs.drop 1).take 5++((cs.drop 6).take 12++((cs.drop 18).take 7++((cs.drop 25).take 10++((cs.drop 35).take 1++(cs.drop 36).take 1))))):=by
 have key:∀ (o n m:Nat),m=o+n->cs.drop o=(cs.drop o).take n++cs.drop m:=fun o n m e=>by subst e;rw [<- List.drop_drop,Fb]
 have e36:(cs.drop 36).take 1=cs.drop 36:=Dz naf;rw [e36,<- key 35 1 36 rfl,<- key 25 10 35 rfl,<- key 18 7 25 rfl,<- key 6 12 18 rfl,<- key 1 5 6 rfl,<- key 0 1 1 rfl,Gv]
theorem Mnw {k:Nat} {cs:List ZC} {y:DataW H × List MemPlace} (ht:DataW.trod enc prog w 0 spare held k 64 cs=some y) : ∃ a s,cs=A4 a s/\iH w w a s/\mD a:=by have hlen:=P2 underlying64 ht 37 kR;obtain⟨_,_,_,t0⟩:=A9 underlying64 ht 0 3 0 1 rfl kR;obtain⟨_,_,_,t1⟩:=A9 underlying64 ht 1 55 1 5 rfl kR;obtain⟨_,_,_,t2⟩:=A9 underlying64 ht 2 60 6 12 rfl kR;obtain⟨_,_,_,t3⟩:=A9 underlying64 ht 3 62 18 7 rfl kR;obtain⟨_,_,_,t4⟩:=A9 underlying64 ht 4 50 25 10 rfl kR;obtain⟨_,_,_,t5⟩:=A9 underlying64 ht 5 9 35 1 rfl kR;obtain⟨_,_,_,t6⟩:=A9 underlying64 ht 6 3 36 1 rfl kR;obtain⟨kind,e0,n0⟩:=F0 t0;obtain⟨c,vn,e1,hN,np⟩:=Ggo t1;obtain⟨m,vk,e2,hK,nm⟩:=Ki8 t2;obtain⟨l,vm,vp,e3,hm,hp⟩:=Mlk t3;obtain⟨h,vj,e4,hj⟩:=Kj8 t4;obtain⟨id,e5,_⟩:=Ln t5;obtain⟨n,e6,nn⟩:=F0 t6;refine⟨⟨kind,c,m,l,h,id,n⟩,⟨vn,vk,vm,vp,vj⟩,?_,⟨hN,hK,hm,hp,hj⟩,⟨n0,nn,np,nm⟩⟩;rw [Pbd cs hlen,e0,e1,e2,e3,e4,e5,e6];rfl
theorem Kl8 {k:Nat} {cs:List ZC} {y:DataW H × List MemPlace} (h:DataW.trod enc prog w 0 spare held k 22 cs=some y) : ∃ v l,cs=[v]/\K9 w w v l/\∀ a∈l,mD a:=by
 obtain⟨a,len,cap,rfl,h1,h2,h3⟩:=Yx (C:=37) underlying22 kR dC h;by_cases h0:len=0;·exact FD102
 ·obtain⟨b,off,rfl,hb,hx⟩:=h3 h0;obtain⟨l,hl,hp⟩:=U0 (p:=fun j (x:Q02)=>(∃ s,(∀ i u,(A4 x s)[i]?=some u->w.cell? ⟨b,off+j*37+i,none⟩=some u)/\iH w w x s)/\mD x) len (fun j hj=>by obtain⟨cs',k',y',_,_,hc,ht⟩:=hx j hj;obtain⟨x,s,rfl,hr,hn⟩:=Mnw ht;exact⟨x,⟨s,hc,hr⟩,hn⟩);refine⟨_,l,rfl,⟨_,cap,by rw [hl],oM,h2,fun _=>⟨b,off,rfl,hb,fun j x hj=>(hp j x hj).1⟩⟩,fun x hx=>?_⟩;obtain⟨j,hj⟩:=Gj.1 hx;exact (hp j x hj).2
structure fQ (B:Nat) (w:ZB) (v:Q01) (s:dA):Prop where
 acts:K9 B w s.va v.acts
 sig:Strs B w s.v1 v.sel.sig
 path:Strs B w s.v2 v.sel.path
structure oV (v:Q01):Prop where
 authority:I64 v.authority
 number:I64 v.number
 pos:I64 v.pos
 index:I64 v.sel.index
 acts:∀ a∈v.acts,mD a
theorem Mk6 {k:Nat} {cs:List ZC} {y:DataW H × List MemPlace} (ht:DataW.trod enc prog w 0 spare held k 27 cs=some y) : ∃ v s,cs=At v s/\fQ w w v s/\oV v:=by
 have hlen:=P2 underlying27 ht 8 kR;obtain⟨_,_,_,t0⟩:=A9 underlying27 ht 0 3 0 1 rfl kR;obtain⟨_,_,_,t1⟩:=A9 underlying27 ht 1 3 1 1 rfl kR;obtain⟨_,_,_,t2⟩:=A9 underlying27 ht 2 3 2 1 rfl kR;obtain⟨_,_,_,t3⟩:=A9 underlying27 ht 3 9 3 1 rfl kR;obtain⟨_,_,_,t4⟩:=A9 underlying27 ht 4 22 4 1 rfl kR;obtain⟨_,_,_,t5⟩:=A9 underlying27 ht 5 25 5 3 rfl kR;obtain⟨_,_,_,u0⟩:=A9 underlying25 t5 0 3 0 1 rfl kR;obtain⟨_,_,_,u1⟩:=A9 underlying25 t5 1 23 1 1 rfl kR;obtain⟨_,_,_,u2⟩:=A9 underlying25 t5 2 23 2 1 rfl kR;obtain⟨x0,e0,n0⟩:=F0 t0;obtain⟨x1,e1,n1⟩:=F0 t1;obtain⟨x2,e2,n2⟩:=F0 t2;obtain⟨x3,e3,_⟩:=Ln t3;obtain⟨va,x4,e4,ha,na⟩:=Kl8 t4;obtain⟨x5,e5,n5⟩:=F0 u0;obtain⟨v1,x6,e6,h1,_⟩:=Qj u1;obtain⟨v2,x7,e7,h2,_⟩:=Qj u2;match cs,hlen with
 |[c0,c1,c2,c3,c4,c5,c6,c7],_ =>simp at e0 e1 e2 e3 e4 e5 e6 e7;subst e0 e1 e2 e3 e4 e5 e6 e7;exact⟨⟨x0,x1,x2,x3,x4,⟨x5,x6,x7⟩⟩,⟨_,_,_⟩,rfl,⟨ha,h1,h2⟩,⟨n0,n1,n2,n5,na⟩⟩
def Pa (B:Nat) (w:ZB) (v:ZC) (l:List Q01):Prop := ∃ a cap,v=.slice a l.length cap/\l.length<=cap/\cap<=9223372036854775807 /\ (l≠[]->∃ b off,a=some ⟨b,off,none⟩/\b<B/\∀ j x,l[j]?=some x->∃ s,(∀ i u,(At x s)[i]?=some u->w.cell? ⟨b,off+j*8+i,none⟩=some u)/\fQ B w x s)
end
end
end Go.Proofs.Y
namespace CH
def kP (v:Version):Bool:=kQ v.acts 5&&(ZH (v.prev.length<=60)&&(eX v.sel.sig 30&&eX v.sel.path 30))
def few (l:List Version) (most:Nat):Bool:=l.all kP&&ZH (l.length<=most)
end CH
namespace Go.Proofs.Y
open Go.RowKit Go.Lib Go.Shelf Go.Sort CH
theorem K9.form {B:Nat} {w:ZB} {v:ZC} {l:List Q02} (h:K9 B w v l):∃ a cap,v=.slice a l.length cap:=by obtain⟨a,cap,h1,_⟩:=h;exact⟨a,cap,h1⟩
theorem fQ.below {B B':Nat} {w w':ZB} {v:Q01} {s:dA} (h:fQ B w v s) (hb:Below B' w w') (hB:B<=B'):fQ B w' v s:=⟨h.acts.below hb hB,h.sig.below hb hB,h.path.below hb hB⟩
theorem fQ.mono {B B':Nat} {w:ZB} {v:Q01} {s:dA} (h:fQ B w v s) (hB:B<=B'):fQ B' w v s:=⟨h.acts.mono hB,h.sig.mono hB,h.path.mono hB⟩
theorem Mwe (M:Nat) (v:ZC) (l:List Q01) (w:ZB) (hv:Pa w w v l) : Calls Tryz.prog 5 #[v,↑M] w (Ret w (.bool (CH.few l M))):=by
 obtain⟨a,cap,rfl,hl,hcap,hne⟩:=hv;obtain⟨R,hR⟩:=nac (CH.few l M);rw [hR.out];have hne:=Aa hne;obtain⟨N,hN⟩:=naa l.length;rw [hN] at hl ⊢;have hN:=Aa hN;go_in;go_wp2_with fail;go_loopw [5] (fun i wr=>∃ k:Nat,k<=N/\i=↑k/\Hid (Below w w wr)/\Hid ((l.take k).all kP=true)) (fun i _=>N - (ZG i).toNat);case atStart=>exact⟨0,Ak _,rfl,Aa (Ac _ _),Aa rfl⟩
 case round =>
  obtain⟨k,hk,rfl,hBr,hI⟩:=hrel;by_cases hlt:k<N
  ·obtain⟨b,off,rfl,hbl,kj⟩:=hne.out (by intro h;have:=hN.out;simp [h] at this;omega);obtain⟨x,hx⟩:∃ x,l[k]?=some x:=⟨_,Ae (by rw [hN.out];exact hlt)⟩
   obtain⟨⟨va,v1,v2⟩,hc,hat⟩:=kj k x hx;have KC:=Aa fun (W:ZB) (hb:Below w w W) (i:Nat) (u:ZC) (hi:(At x ⟨va,v1,v2⟩)[i]?=some u)=>(hb.cell (p:=⟨b,off+k*8+i,none⟩) hbl).trans (hc i u hi);have HA:=Aa fun (W:ZB) (hb:Below w w W)=>(hat.below hb nR).mono hb.size;have hx:=Aa hx;clear kj hc;have hfalse:Hid (kP x=false->R=false):=Aa fun h=>by rw [<- hR.out];unfold CH.few;rw [gU _ l k x hx.out h];rfl
   obtain⟨p1,hp1⟩:=nac (kQ x.acts 5);obtain⟨m,hm⟩:=nac x.prev.length;obtain⟨p3,hp3⟩:=nac (eX x.sel.sig 30);obtain⟨p4,hp4⟩:=nac (eX x.sel.path 30);obtain⟨p2,hp2⟩:=nac (ZH (m<=60));have hact:Hid (kP x=(p1&&(p2&&(p3&&p4)))):=Aa (by rw [<- hp1.out,<- hp2.out,<- hp3.out,<- hp4.out,<- hm.out];rfl);have F1:=Aa fun (W:ZB) (hb:Below w w W)=>hp1.out ▸ Hb1 va x.acts W (HA.out W hb).acts;have F3:=Aa fun (W:ZB) (hb:Below w w W)=>hp3.out ▸ Sq v1 x.sel.sig 30 W (HA.out W hb).sig;have F4:=Aa fun (W:ZB) (hb:Below w w W)=>hp4.out ▸ Sq v2 x.sel.path 30 W (HA.out W hb).path;obtain⟨xa,ya,e1⟩:=hat.acts.form;obtain⟨x1,y1,e2,_,_⟩:=hat.sig.form;obtain⟨x2,y2,e3,_,_⟩:=hat.path.form;change va=_ at e1;change v1=_ at e2;change v2=_ at e3;subst e1 e2 e3;clear hat HA;generalize x.acts.length=na at *;generalize x.sel.sig.length=n1 at *;generalize x.sel.path.length=n2 at *;have k4:=KC.out wr hBr.out 4 _ rfl;try dsimp only at k4
   go_wp2_with fail;refine CmZ (F1.out wr hBr.out) fun w3 hb3=>?_;have hB3:Below w w w3:=hBr.out.trans (hb3.mono hBr.out.size);clear F1 hb3 k4;cases p1 with
   |false =>go_wp2;go_ret;exact⟨by rw [hfalse.out (by rw [hact.out];rfl)];rfl,hB3⟩
   |true =>
    have k3:=KC.out w3 hB3 3 _ rfl;try dsimp only at k3
    have q60:ZH ((60:Int)<(x.prev.length:Int))=!p2:=by rw [<- hp2.out,hm.out];exact yC m
    cases p2 with
    |false =>go_wp2;go_ret;exact⟨by rw [hfalse.out (by rw [hact.out];rfl)];rfl,hB3⟩
    |true =>
     have k6:=KC.out w3 hB3 6 _ rfl;try dsimp only at k6
     go_wp2_with fail;refine CmZ (F3.out w3 hB3) fun w4 hb4=>?_;have hB4:Below w w w4:=hB3.trans (hb4.mono hB3.size);clear F3 hb4 k3 k6;cases p3 with
     |false =>go_wp2;go_ret;exact⟨by rw [hfalse.out (by rw [hact.out];rfl)];rfl,hB4⟩
     |true =>
      have k7:=KC.out w4 hB4 7 _ rfl;try dsimp only at k7
      go_wp2_with fail;refine CmZ (F4.out w4 hB4) fun w5 hb5=>?_;have hB5:Below w w w5:=hB4.trans (hb5.mono hB4.size);clear F4 hb5 k7;cases p4 with
      |false =>go_wp2;go_ret;exact⟨by rw [hfalse.out (by rw [hact.out];rfl)];rfl,hB5⟩
      |true =>have hI':Hid ((l.take (k+1)).all kP=true):=Aa (by rw [fM _ l k x hx.out,hI.out,hact.out];rfl);have hB':Hid (Below w w w5):=Aa hB5;clear q60;exact FD106
  ·obtain rfl:k=N:=oM;have hall:l.all kP=true:=by have:=hI.out;rwa [<- hN.out,D5] at this
   go_wp2;go_ret;have hk5:ZH ((k:Int)<=(M:Int))=R:=by rw [<- hR.out];unfold CH.few;rw [hall,hN.out,a_Bool_true_and,Ed];omega
   exact⟨by rw [<- hk5];simp,hBr.out⟩
end Go.Proofs.Y
namespace Go.Proofs.Y
section
open Go.Lib Go.Proofs.Tryz Go.RowKit Go.Shelf Go.Sort CH
theorem Lg {ls:List Q00} {n:Nat} (h:eX ls n=true) (hn:n<=100000):Er ls:=by unfold eX at h;simp only [Aq,Dj,Bj] at h;exact⟨oM,fun l hl=>by have:=h.1 l hl;omega⟩
mutual
theorem Cnw:∀ (f:CH.Formula),f.lI->Ct f
 |.mk _ _ _ _ kids,h=>by
  unfold CH.Formula.lI at h
  unfold Ct
  exact⟨oM,Xt kids h.2⟩
theorem Xt:∀ (l:List CH.Formula),gy l->Cp l
 |[],_=>by unfold Cp;trivial
 |f::l,h=>by
  unfold gy at h
  unfold Cp
  exact⟨Cnw f h.1,Xt l h.2⟩
end
mutual
theorem gG:∀ (f:CH.Formula),f.depth<=f.count
 |.mk _ _ _ _ kids=>by
  unfold CH.Formula.depth CH.Formula.count
  have:=Ya kids
  omega
theorem Ya:∀ (l:List CH.Formula),aX l<=aA l
 |[]=>by unfold aX aA;omega
 |f::l=>by
  unfold aX aA
  have h1:=gG f
  have h2:=Ya l
  omega
end
theorem Hxo {f:CH.Formula} (h:pz f 60=true):Ct f/\f.count<=60/\f.depth<=60:=by unfold pz at h;have h1:=Il h;obtain⟨h2,h3⟩:=qh f 60 oM h1;have h4:=gG f;refine⟨Cnw f h3,?_,?_⟩ <;> omega
theorem Yp {c:Q07} (h:jB c=true):gI c:=by
 unfold jB lN at h;simp only [Aq,Bj,Dj] at h;obtain⟨h1,h2,h3,h4⟩:=h;refine⟨oM,⟨oM,oM,fun n hn=>?_⟩⟩;have hn':n∈c.entry.names.take 10:=by rw [Dz oM];exact hn
 have:=h2 n hn';unfold jq at this;simp only [Aq,Bj,Dj] at this;refine⟨oM,fun l hl=>?_⟩;have hl':l∈n.words.take 20:=by rw [Dz oM];exact hl
 have:=this.1 l hl';omega
theorem Cat {h:bC} (hf:l9 h=true):jC h:=by unfold l9 at hf;simp only [Aq,Bj,Dj] at hf;obtain⟨⟨h1,h2,h3,h4,h5,h6⟩,h7⟩:=hf;exact⟨oM,oM,oM,oM,oM,⟨oM,fun l hl=>by have:=h7 l hl;omega⟩⟩
theorem Lot {B:Nat} {w:ZB} {a:Q02} {s:gV} (h:iH B w a s) (hn:mD a) (hf:lQ a=true):dG B w a s:=by unfold lQ at hf;simp only [Aq] at hf;obtain⟨h1,h2,h3,h4,h5,h6⟩:=hf;obtain⟨q1,q2,q3⟩:=Hxo h2;have s3:=Lg h3 oM;have q5:=s3.2 a.id sM;have q6:=s3.2 a.measure.id sM;have q7:=s3.2 a.measure.authority sM;have q8:=s3.2 a.measure.target sM;have q9:=s3.2 a.licence.id sM;exact⟨h.names,⟨h.kids,hn.meas,q6,q7,q8,q1,oM,oM⟩,h.lm,h.lp,h.hj,⟨Yp h1,hn.pos,q9,Lg h4 oM,Lg h5 oM,Cat h6,q5,hn.kind,hn.n⟩⟩
theorem I29 {B:Nat} {w:ZB} {v:ZC} {l:List Q02} (h:K9 B w v l) (hn:∀ a∈l,mD a) (hf:∀ a∈l,lQ a=true):Gr B w v l:=by obtain⟨a,cap,h1,h2,h3,h4⟩:=h;refine⟨a,cap,h1,h2,h3,fun hne=>?_⟩;obtain⟨b,off,e,hlt,hx⟩:=h4 hne;refine⟨b,off,e,hlt,fun j x hj=>?_⟩;obtain⟨s,c1,c2⟩:=hx j x hj;have hm:=Bg hj;exact⟨s,c1,Lot c2 (hn x hm) (hf x hm)⟩
theorem Ch6 {B:Nat} {w:ZB} {v:Q01} {s:dA} (h:fQ B w v s) (hn:oV v) (hf:kP v=true):aK B w v s:=by unfold kP kQ at hf;simp only [Aq,Bj,Dj] at hf;obtain⟨⟨h1,h2⟩,h3,h4,h5⟩:=hf;exact⟨I29 h.acts hn.acts h1,h.sig,h.path,⟨hn.authority,hn.number,hn.pos,oM,hn.index,Lg h4 oM,Lg h5 oM⟩⟩
def KVs (B:Nat) (w:ZB):List ((Int × Int) × ZC)->List ((Int × Int) × Q01)->Prop
 |[],[]=>True
 |(p,x)::l,(q,v)::m=>(p=q/\∃ s,x=.agg (At v s).toArray/\aK B w v s)/\KVs B w l m
 |_,_=>False
theorem KVs.imp {B B':Nat} {w w':ZB} (f:∀ v s,aK B w v s->aK B' w' v s):∀ {l:List ((Int × Int) × ZC)} {m:List ((Int × Int) × Q01)},KVs B w l m->KVs B' w' l m
 |[],[],_=>trivial
 |(p,x)::l,(q,v)::m,h=>by
  obtain⟨⟨h1,s,h2,h3⟩,h4⟩:=h
  exact⟨⟨h1,s,h2,f v s h3⟩,KVs.imp f h4⟩
 |[],_::_,h=>h.elim
 |_::_,[],h=>h.elim
theorem KVs.snoc {B:Nat} {w:ZB} {p:Int × Int} {v:Q01} {s:dA} (hv:aK B w v s):∀ {l:List ((Int × Int) × ZC)} {m:List ((Int × Int) × Q01)},KVs B w l m->KVs B w (l++[(p,.agg (At v s).toArray)]) (m++[(p,v)])
 |[],[],_=>⟨⟨rfl,s,rfl,hv⟩,trivial⟩
 |(p,x)::l,(q,v)::m,h=>⟨h.1,KVs.snoc hv h.2⟩
 |[],_::_,h=>h.elim
 |_::_,[],h=>h.elim
theorem KVs.none {B:Nat} {w:ZB} {p:Int × Int}:∀ {l:List ((Int × Int) × ZC)} {m:List ((Int × Int) × Q01)} (i:Nat),KVs B w l m->cu p m=none->Bp p l i=none
 |[],[],_,_,_=>rfl
 |(a,x)::l,(q,v)::m,i,h,hn=>by
  obtain⟨⟨rfl,_⟩,h4⟩:=h
  rw [cu] at hn
  rw [Bp]
  split at hn
  ·cases hn
  ·rename_i e
   rw [Ai e]
   exact KVs.none (i+1) h4 hn
 |[],_::_,_,h,_=>h.elim
 |_::_,[],_,h,_=>h.elim
theorem KVs.some {B:Nat} {w:ZB} {p:Int × Int} {v:Q01}:∀ {l:List ((Int × Int) × ZC)} {m:List ((Int × Int) × Q01)} (i:Nat),KVs B w l m->cu p m=some v->∃ j s,Bp p l i=some (j,.agg (At v s).toArray)/\aK B w v s
 |[],[],_,_,hn=>by cases hn
 |(a,x)::l,(q,u)::m,i,h,hn=>by
  obtain⟨⟨rfl,s,rfl,hs⟩,h4⟩:=h
  rw [cu] at hn
  rw [Bp]
  split at hn
  ·rename_i e
   cases hn
   rw [Ah e]
   exact⟨i,s,rfl,hs⟩
  ·rename_i e
   rw [Ai e]
   exact KVs.some (i+1) h4 hn
 |[],_::_,_,h,_=>h.elim
 |_::_,[],_,h,_=>h.elim
def SlV (s:dA):Prop:=∃ a1 n1 c1 a2 n2 c2 a3 n3 c3,s=⟨.slice a1 n1 c1,.slice a2 n2 c2,.slice a3 n3 c3⟩
theorem aK.sl {B:Nat} {w:ZB} {v:Q01} {s:dA} (h:aK B w v s):SlV s:=by obtain⟨va,v1,v2⟩:=s;obtain⟨_,_,e1,_,_⟩:=h.acts.form;obtain⟨_,_,e2,_,_⟩:=h.sig.form;obtain⟨_,_,e3,_,_⟩:=h.path.form;change va=_ at e1;change v1=_ at e2;change v2=_ at e3;subst e1 e2 e3;exact⟨_,_,_,_,_,_,_,_,_,rfl⟩
def I32 (B:Nat) (w:ZB) (x:ZC) (f:Q01 × Q01):Prop:=∃ s s',x=.agg (At f.1 s++At f.2 s').toArray/\aK B w f.1 s/\aK B w f.2 s'
def jw (B:Nat) (w:ZB):List ((Int × Int) × ZC)->Q04->Prop
 |[],[]=>True
 |(p,x)::l,(q,f)::m=>(p=q/\I32 B w x f)/\jw B w l m
 |_,_=>False
theorem jw.imp {B B':Nat} {w w':ZB} (f:∀ v s,aK B w v s->aK B' w' v s):∀ {l:List ((Int × Int) × ZC)} {m:Q04},jw B w l m->jw B' w' l m
 |[],[],_=>trivial
 |(p,x)::l,(q,v)::m,h=>by
  obtain⟨⟨h1,s,s',h2,h3,h3'⟩,h4⟩:=h
  exact⟨⟨h1,s,s',h2,f _ _ h3,f _ _ h3'⟩,jw.imp f h4⟩
 |[],_::_,h=>h.elim
 |_::_,[],h=>h.elim
theorem jw.snoc {B:Nat} {w:ZB} {p:Int × Int} {x:ZC} {f:Q01 × Q01} (hv:I32 B w x f):∀ {l:List ((Int × Int) × ZC)} {m:Q04},jw B w l m->jw B w (l++[(p,x)]) (m++[(p,f)])
 |[],[],_=>⟨⟨rfl,hv⟩,trivial⟩
 |(_,_)::l,(_,_)::m,h=>⟨h.1,jw.snoc hv h.2⟩
 |[],_::_,h=>h.elim
 |_::_,[],h=>h.elim
theorem jw.none {B:Nat} {w:ZB} {p:Int × Int}:∀ {l:List ((Int × Int) × ZC)} {m:Q04} (i:Nat),jw B w l m->cu p m=none->Bp p l i=none
 |[],[],_,_,_=>rfl
 |(a,x)::l,(q,v)::m,i,h,hn=>by
  obtain⟨⟨rfl,_⟩,h4⟩:=h
  rw [cu] at hn
  rw [Bp]
  split at hn
  ·cases hn
  ·rename_i e
   rw [Ai e]
   exact jw.none (i+1) h4 hn
 |[],_::_,_,h,_=>h.elim
 |_::_,[],_,h,_=>h.elim
theorem jw.some {B:Nat} {w:ZB} {p:Int × Int} {f:Q01 × Q01}:∀ {l:List ((Int × Int) × ZC)} {m:Q04} (i:Nat),jw B w l m->cu p m=some f->∃ j x,Bp p l i=some (j,x)/\I32 B w x f
 |[],[],_,_,hn=>by cases hn
 |(a,x)::l,(q,u)::m,i,h,hn=>by
  obtain⟨⟨rfl,hx⟩,h4⟩:=h
  rw [cu] at hn
  rw [Bp]
  split at hn
  ·rename_i e
   cases hn
   rw [Ah e]
   exact⟨i,x,rfl,hx⟩
  ·rename_i e
   rw [Ai e]
   exact jw.some (i+1) h4 hn
 |[],_::_,_,h,_=>h.elim
 |_::_,[],_,h,_=>h.elim
structure ChainIn (B K:Nat) (w:ZB) (c r1 r2:Nat) (keys:List Q00) (known:List ((Int × Int) × Q01)) (forks:Q04):Prop where
 ex:∃ vk,w.heap[c]?=some (.cells #[vk,.map (some r1),.map (some r2)] 93 (0,0))/\Strs w w vk keys
 known:∃ kvs,Cq Be r1 w kvs/\KVs B w kvs known
 forks:∃ kvs,Cq Be r2 w kvs/\jw B w kvs forks
 ne:r1≠r2
 le:B<=w.heap.size
 far:∀ ad n cap x y,w.heap[c]?=some (.cells #[.slice (some ad) n cap,x,y] 93 (0,0))->K<=ad.block
abbrev J0 (w:ZB):=ChainIn w 0 w
theorem ChainIn.weak {B B' K K':Nat} {w:ZB} {c r1 r2:Nat} {keys:List Q00} {known:List ((Int × Int) × Q01)} {forks:Q04} (h:ChainIn B K w c r1 r2 keys known forks) (h1:B<=B') (h2:B'<=w.heap.size) (h3:K'<=K):ChainIn B' K' w c r1 r2 keys known forks:=by obtain⟨k1,h4,h5⟩:=h.known;obtain⟨k2,h6,h7⟩:=h.forks;exact⟨h.ex,⟨k1,h4,h5.imp fun _ _ h=>h.mono h1⟩,⟨k2,h6,h7.imp fun _ _ h=>h.mono h1⟩,h.ne,h2,fun ad n cap x y e=>Aj h3 (h.far ad n cap x y e)⟩
theorem ChainIn.grow {B K:Nat} {w w':ZB} {c r1 r2:Nat} {keys:List Q00} {known:List ((Int × Int) × Q01)} {forks:Q04} (h:ChainIn B K w c r1 r2 keys known forks) (hb:Below w w w'):ChainIn B K w' c r1 r2 keys known forks:=by obtain⟨vk,h1,h2⟩:=h.ex;obtain⟨k1,h3,h4⟩:=h.known;obtain⟨k2,h5,h6⟩:=h.forks;have hc:=hb.block c (aZ h1);exact⟨⟨vk,hc.trans h1,(h2.below hb nR).mono hb.size⟩,⟨k1,h3.below hb,h4.imp fun _ _ x=>x.below hb h.le⟩,⟨k2,h5.below hb,h6.imp fun _ _ x=>x.below hb h.le⟩,h.ne,Aj h.le hb.size,fun ad n cap x y e=>h.far ad n cap x y (hc.symm.trans e)⟩
theorem ChainIn.at {B K:Nat} {w:ZB} {c r1 r2:Nat} {keys:List Q00} {known:List ((Int × Int) × Q01)} {forks:Q04} (h:ChainIn B K w c r1 r2 keys known forks):J0 w c r1 r2 keys known forks:=h.weak h.le nR (Ak _)
theorem J0.below {w w':ZB} {c r1 r2:Nat} {keys:List Q00} {known:List ((Int × Int) × Q01)} {forks:Q04} (h:J0 w c r1 r2 keys known forks) (hb:Below w w w'):J0 w' c r1 r2 keys known forks := (ChainIn.grow h hb).at
def Hll (B:Nat) (w:ZB) (v:ZC) (ls:List Int):Prop := ∃ a cap,v=.slice a ls.length cap/\ls.length<=cap/\cap<=9223372036854775807 /\ (ls≠[]->∃ b off,a=some ⟨b,off,none⟩/\b<B/\∀ j n,ls[j]?=some n->w.cell? ⟨b,off+j,none⟩=some (aI n))
theorem Hll.below {B B':Nat} {w w':ZB} {v:ZC} {ls:List Int} (h:Hll B w v ls) (hb:Below B' w w') (hB:B<=B'):Hll B w' v ls:=by exact FD47
theorem Hll.mono {B B':Nat} {w:ZB} {v:ZC} {ls:List Int} (h:Hll B w v ls) (hB:B<=B'):Hll B' w v ls:=by exact FD75
theorem Pin:(prog.info? 3).map (fun i=>(i.zero,i.size,i.bytes))=some (some (.int .i64 0),1,8):=kR
def Alx (keys:List Q00):Bool:=!(keys.length==0)&&dN keys 6
def MR (w:ZB) (keys:List Q00) (e:Ending) (w':ZB):Prop := Below w w w'/\if Alx keys=true then ∃ c r1 r2,e=.returned (.tuple #[.pointer (some ⟨c,0,none⟩),.int .i64 0])/\ChainIn 0 w.heap.size w' c r1 r2 keys [] []/\w.heap.size<=c/\w.heap.size<=r1/\w.heap.size<=r2 else e=.returned (.tuple #[.pointer none,.int .i64 1])
def Rct (w:ZB) (keys:List Q00) (e:Ending) (w':ZB):Prop := Below w w w'/\if Alx keys=true then ∃ c r1 r2,e=.returned (.tuple #[.pointer (some ⟨c,0,none⟩),.int .i64 0])/\J0 w' c r1 r2 keys [] []/\w.heap.size<=c/\w.heap.size<=r1/\w.heap.size<=r2 else e=.returned (.tuple #[.pointer none,.int .i64 1])
theorem Av.far {base:Nat} {w:ZB} {v:ZC} {ls:List Q00} (h:Av base w v ls) (ad:Addr) (n cap:Nat) (e:v=.slice (some ad) n cap):base<=ad.block:=by
 obtain⟨_,⟨rfl,_⟩|⟨g,cap',cur,rfl,hb,_⟩⟩:=h;·cases e
 ·cases e;exact hb
theorem Loc (w:ZB) (o1 o2 o3:Obj):(((w.alloc o1).alloc o2).alloc o3).heap[w.heap.size]?=some o1/\(((w.alloc o1).alloc o2).alloc o3).heap[w.heap.size+1]?=some o2/\(((w.alloc o1).alloc o2).alloc o3).heap[w.heap.size+1+1]?=some o3:=by
 refine⟨?_,?_,?_⟩ <;> simp only [World.alloc,Dh,D9];·rw [Ai oM,Ai oM,Ah trivial]
 ·rw [Ai oM,Ah trivial]
 ·rw [Ah trivial]
theorem Kna (v:ZC) (keys:List Q00) (w:ZB) (hG:Gl w) (hv:Strs w w v keys) (hl:∀ l∈keys,l.length<=9223372036854775807) (hlen:keys.length<=1099511627776) : Calls prog 10 #[v] w (MR w keys):=by
 have D:=T5 v keys 6 w hG hv hl;have C:=Aa fun (W:ZB) (hb:Below w w W)=>Dao v keys W ((hv.below hb nR).mono hb.size) hlen;obtain⟨b,hb⟩:=naa (dN keys 6);rw [hb] at D;replace D:=Aa D;replace hb:=Aa hb;have hmm:=@Hz prog;obtain⟨a,cap,rfl,_,_⟩:=hv.form;obtain⟨N,hN⟩:=naa keys.length;have hok:∀ x,Hid ((!(N==0)&&b)=x)->Alx keys=x:=fun x hx=>by rw [<- hx.out,<- hb.out,<- hN];rfl
 rw [hN] at D C ⊢;replace hN:=Aa hN;clear hv hl hlen;by_cases h0:N=0;·subst h0;have hk:=hok false (Aa rfl);clear hok;go_in;go_wp2_with fail;go_ret2;refine⟨Ac _ _,?_⟩;rw [hk];rfl
 ·have q:((N:Int)==0)=false:=by simpa using (oM:¬ (N:Int)=0)
  have q':(N==0)=false:=by simpa using h0
  go_in;go_wp2_with fail;refine CmZ D.out fun w1 hb1=>?_;clear D;cases b with
  |false =>have hk:=hok false (Aa (by rw [Xl]));clear hok;go_wp2;go_ret2;refine⟨hb1,?_⟩;rw [hk];rfl
  |true =>
   have hk:=hok true (Aa (by rw [q'];rfl));clear hok;go_wp2_with fail;refine (C.out _ hb1).mono ?_;rintro e w2 ⟨vk,rfl,hO,hb2⟩;have hB2:Below w w w2:=hb1.trans (hb2.mono hb1.size);have hOs:=Aa hO.strs;have hof:=Aa fun (ad:Addr) (n cap:Nat) (e:vk=.slice (some ad) n cap)=>hO.far ad n cap e;obtain⟨ak,ck,rfl,_,_,_⟩:=hO.form;clear C hO;generalize keys.length=NN at *;go_wp2;go_ret2;have hB3:=fun o1 o2 o3=>(((Ac _ w2).alloc nR o1).alloc sM o2).alloc naf o3;refine⟨hB2.trans ((hB3 _ _ _).mono hB2.size),?_⟩;rw [hk,Ah rfl];refine⟨w2+1+1,w2.heap.size,w2.heap.size+1,rfl,?_,?_,?_,?_⟩;·obtain⟨a1,a2,a3⟩:=Loc w2 (.map #[] 0) (.map #[] 0) (.cells #[.slice ak NN ck,.map (some w2.heap.size),.map (some (w2.heap.size+1))] 93);exact⟨⟨_,a3,(hOs.out.below (hB3 _ _ _) nR).mono (hB3 _ _ _).size⟩,⟨[],⟨#[],0,a1,rfl,sM,sM⟩,trivial⟩,⟨[],⟨#[],0,a2,rfl,sM,sM⟩,trivial⟩,oM,Ak _,fun ad n cap x y e=>by rw [a3] at e;injection e with e;injection e with e;have e:=congrArg Array.toList e;simp only [List.cons.injEq] at e;have:=hof.out ad n cap e.1;have:=hb1.size;omega⟩
   ·have:=hB2.size;omega
   ·exact hB2.size
   ·have:=hB2.size;omega
theorem Per (v:ZC) (keys:List Q00) (w:ZB) (hG:Gl w) (hv:Strs w w v keys) (hl:∀ l∈keys,l.length<=9223372036854775807) (hlen:keys.length<=1099511627776) : Calls prog 10 #[v] w (Rct w keys):=by
 refine (Kna v keys w hG hv hl hlen).mono ?_;rintro e w1 ⟨hb,hif⟩;refine⟨hb,?_⟩;split at hif;·rename_i hk;rw [Ah hk];obtain⟨c,r1,r2,h1,h2,h3⟩:=hif;exact⟨c,r1,r2,h1,h2.at,h3⟩
 ·rename_i hk;rw [Ai hk];exact hif
end
end Go.Proofs.Y
