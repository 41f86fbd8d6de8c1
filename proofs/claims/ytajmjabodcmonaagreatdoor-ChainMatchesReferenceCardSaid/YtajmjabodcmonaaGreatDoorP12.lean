/- ChainMatch, part 13 of 26. -/
import Derived.Test.YtajmjabodcmonaaGreatDoorP09
import Derived.DataShut
import Derived.Deep.Strs
set_option linter.all false
set_option maxHeartbeats 40000000
set_option maxRecDepth 100000
open Go renaming World -> ZB, Value -> ZC, Calls -> ZE, redrawn -> ZI, TypeId -> ZJ
open Go.RowKit renaming intOf -> ZG
open Decidable renaming decide -> ZH
namespace Go.Proofs.Y
section
open Go.Lib Go.Proofs.Tryz Go.RowKit Go.Shelf Go.Sort CH
variable {B c r1 r2:Nat} {w:ZB} {p:Int × Int} {v:Q01} {f:Q01 × Q01} {known:List ((Int × Int) × Q01)} {forks:Q03}
def KVs (B:Nat) (w:ZB):List ((Int × Int) × ZC)->List ((Int × Int) × Q01)->Prop
 |[],[]=>True
 |(p,x)::l,(q,v)::m=>(p=q/\∃ s,x=.agg (Al v s).toArray/\aG B w v s)/\KVs B w l m
 |_,_=>False
theorem KVs.imp {B':Nat} {w':ZB} (f:∀ v s,aG B w v s->aG B' w' v s):∀ {l:List ((Int × Int) × ZC)} {m:List ((Int × Int) × Q01)},KVs B w l m->KVs B' w' l m
 |[],[],_=>trivial
 |(p,x)::l,(q,v)::m,h=>by
  obtain⟨⟨h1,s,h2,h3⟩,h4⟩:=h
  exact⟨⟨h1,s,h2,f v s h3⟩,KVs.imp f h4⟩
 |[],_::_,h=>h.elim
 |_::_,[],h=>h.elim
theorem KVs.snoc {s:aS} (hv:aG B w v s):∀ {l:List ((Int × Int) × ZC)} {m:List ((Int × Int) × Q01)},KVs B w l m->KVs B w (l++[(p,.agg (Al v s).toArray)]) (m++[(p,v)])
 |[],[],_=>⟨⟨rfl,s,rfl,hv⟩,trivial⟩
 |(p,x)::l,(q,v)::m,h=>⟨h.1,KVs.snoc hv h.2⟩
 |[],_::_,h=>h.elim
 |_::_,[],h=>h.elim
theorem KVs.none:∀ {l:List ((Int × Int) × ZC)} {m:List ((Int × Int) × Q01)} (i:Nat),KVs B w l m->bH p m=none->Cd p l i=none
 |[],[],_,_,_=>rfl
 |(a,x)::l,(q,v)::m,i,h,hn=>by
  obtain⟨⟨rfl,_⟩,h4⟩:=h
  rw [bH] at hn
  rw [Cd]
  split at hn
  ·cases hn
  ·rename_i e
   rw [Ai e]
   exact KVs.none (i+1) h4 hn
 |[],_::_,_,h,_=>h.elim
 |_::_,[],_,h,_=>h.elim
theorem KVs.some:∀ {l:List ((Int × Int) × ZC)} {m:List ((Int × Int) × Q01)} (i:Nat),KVs B w l m->bH p m=some v->∃ j s,Cd p l i=some (j,.agg (Al v s).toArray)/\aG B w v s
 |[],[],_,_,hn=>by cases hn
 |(a,x)::l,(q,u)::m,i,h,hn=>by
  obtain⟨⟨rfl,s,rfl,hs⟩,h4⟩:=h
  rw [bH] at hn
  rw [Cd]
  split at hn
  ·rename_i e
   cases hn
   rw [Au e]
   exact⟨i,s,rfl,hs⟩
  ·rename_i e
   rw [Ai e]
   exact KVs.some (i+1) h4 hn
 |[],_::_,_,h,_=>h.elim
 |_::_,[],_,h,_=>h.elim
def SlV (s:aS):Prop:=∃ a1 n1 c1 a2 n2 c2 a3 n3 c3,s=⟨.slice a1 n1 c1,.slice a2 n2 c2,.slice a3 n3 c3⟩
theorem aG.sl {s:aS} (h:aG B w v s):SlV s:=by obtain⟨va,v1,v2⟩:=s;obtain⟨_,_,e1,_,_⟩:=h.acts.form;obtain⟨_,_,e2,_,_⟩:=h.sig.form;obtain⟨_,_,e3,_,_⟩:=h.path.form;change va=_ at e1;change v1=_ at e2;change v2=_ at e3;subst e1 e2 e3;exact⟨_,_,_,_,_,_,_,_,_,rfl⟩
def I40 (B:Nat) (w:ZB) (x:ZC) (f:Q01 × Q01):Prop:=∃ s s',x=.agg (Al f.1 s++Al f.2 s').toArray/\aG B w f.1 s/\aG B w f.2 s'
def jf (B:Nat) (w:ZB):List ((Int × Int) × ZC)->Q03->Prop
 |[],[]=>True
 |(p,x)::l,(q,f)::m=>(p=q/\I40 B w x f)/\jf B w l m
 |_,_=>False
theorem jf.imp {B':Nat} {w':ZB} (f:∀ v s,aG B w v s->aG B' w' v s):∀ {l:List ((Int × Int) × ZC)} {m:Q03},jf B w l m->jf B' w' l m
 |[],[],_=>trivial
 |(p,x)::l,(q,v)::m,h=>by
  obtain⟨⟨h1,s,s',h2,h3,h3'⟩,h4⟩:=h
  exact⟨⟨h1,s,s',h2,f _ _ h3,f _ _ h3'⟩,jf.imp f h4⟩
 |[],_::_,h=>h.elim
 |_::_,[],h=>h.elim
theorem jf.snoc {x:ZC} (hv:I40 B w x f):∀ {l:List ((Int × Int) × ZC)} {m:Q03},jf B w l m->jf B w (l++[(p,x)]) (m++[(p,f)])
 |[],[],_=>⟨⟨rfl,hv⟩,trivial⟩
 |(_,_)::l,(_,_)::m,h=>⟨h.1,jf.snoc hv h.2⟩
 |[],_::_,h=>h.elim
 |_::_,[],h=>h.elim
theorem jf.none:∀ {l:List ((Int × Int) × ZC)} {m:Q03} (i:Nat),jf B w l m->bH p m=none->Cd p l i=none
 |[],[],_,_,_=>rfl
 |(a,x)::l,(q,v)::m,i,h,hn=>by
  obtain⟨⟨rfl,_⟩,h4⟩:=h
  rw [bH] at hn
  rw [Cd]
  split at hn
  ·cases hn
  ·rename_i e
   rw [Ai e]
   exact jf.none (i+1) h4 hn
 |[],_::_,_,h,_=>h.elim
 |_::_,[],_,h,_=>h.elim
theorem jf.some:∀ {l:List ((Int × Int) × ZC)} {m:Q03} (i:Nat),jf B w l m->bH p m=some f->∃ j x,Cd p l i=some (j,x)/\I40 B w x f
 |[],[],_,_,hn=>by cases hn
 |(a,x)::l,(q,u)::m,i,h,hn=>by
  obtain⟨⟨rfl,hx⟩,h4⟩:=h
  rw [bH] at hn
  rw [Cd]
  split at hn
  ·rename_i e
   cases hn
   rw [Au e]
   exact⟨i,x,rfl,hx⟩
  ·rename_i e
   rw [Ai e]
   exact jf.some (i+1) h4 hn
 |[],_::_,_,h,_=>h.elim
 |_::_,[],_,h,_=>h.elim
structure ChainIn (B K:Nat) (w:ZB) (c r1 r2:Nat) (keys:List Q00) (known:List ((Int × Int) × Q01)) (forks:Q03):Prop where
 ex:∃ vk,w.heap[c]?=some (.cells #[vk,.map (some r1),.map (some r2)] 84 (0,0))/\Strs w w vk keys
 known:∃ kvs,Co Bk r1 w kvs/\KVs B w kvs known
 forks:∃ kvs,Co Bk r2 w kvs/\jf B w kvs forks
 ne:r1≠r2
 le:B<=w.heap.size
 far:∀ ad n cap x y,w.heap[c]?=some (.cells #[.slice (some ad) n cap,x,y] 84 (0,0))->K<=ad.block
abbrev Fw (w:ZB):=ChainIn w 0 w
theorem ChainIn.weak {B' K K':Nat} {keys:List Q00} (h:ChainIn B K w c r1 r2 keys known forks) (h1:B<=B') (h2:B'<=w.heap.size) (h3:K'<=K):ChainIn B' K' w c r1 r2 keys known forks:=by obtain⟨k1,h4,h5⟩:=h.known;obtain⟨k2,h6,h7⟩:=h.forks;exact⟨h.ex,⟨k1,h4,h5.imp fun _ _ h=>h.mono h1⟩,⟨k2,h6,h7.imp fun _ _ h=>h.mono h1⟩,h.ne,h2,fun ad n cap x y e=>Af h3 (h.far ad n cap x y e)⟩
theorem ChainIn.grow {K:Nat} {w':ZB} {keys:List Q00} (h:ChainIn B K w c r1 r2 keys known forks) (hb:Below w w w'):ChainIn B K w' c r1 r2 keys known forks:=by obtain⟨vk,h1,h2⟩:=h.ex;obtain⟨k1,h3,h4⟩:=h.known;obtain⟨k2,h5,h6⟩:=h.forks;have hc:=hb.block c (aZ h1);exact⟨⟨vk,hc.trans h1,(h2.below hb nR).mono hb.size⟩,⟨k1,h3.below hb,h4.imp fun _ _ x=>x.below hb h.le⟩,⟨k2,h5.below hb,h6.imp fun _ _ x=>x.below hb h.le⟩,h.ne,Af h.le hb.size,fun ad n cap x y e=>h.far ad n cap x y (hc.symm.trans e)⟩
theorem ChainIn.at {K:Nat} {keys:List Q00} (h:ChainIn B K w c r1 r2 keys known forks):Fw w c r1 r2 keys known forks:=h.weak h.le nR (Az _)
theorem Fw.below {w':ZB} {keys:List Q00} (h:Fw w c r1 r2 keys known forks) (hb:Below w w w'):Fw w' c r1 r2 keys known forks := (ChainIn.grow h hb).at
end
end Go.Proofs.Y
namespace CH
mutual
def Formula.iM:Formula->Int->Int
 |.mk _ name _ _ kids,n=>if 100<name.length then n+1 else dX kids n 1
def dX:List Formula->Int->Int->Int
 |[],_,k=>k
 |f::l,n,k=>if k<=n then dX l n (k+f.iM (n - k)) else k
end
mutual
theorem kH:∀ (f:Formula) (n:Int),0<=n->1<=f.iM n/\f.iM n<=n+1
 |.mk _ name _ _ kids,n,hn=>by
  rw [Formula.iM]
  split
  ·omega
  ·have:=Ob kids n 1 oM oM
   omega
theorem Ob:∀ (l:List Formula) (n k:Int),1<=k->k<=n+1->k<=dX l n k/\dX l n k<=n+1
 |[],n,k,h1,h2=>by rw [dX];omega
 |f::l,n,k,h1,h2=>by
  rw [dX]
  split
  ·have b:=kH f (n - k) oM
   have:=Ob l n (k+f.iM (n - k)) oM oM
   omega
  ·omega
end
mutual
def Formula.kP:Formula->Prop
 |.mk _ name _ _ kids=>name.length<=100/\gq kids
def gq:List Formula->Prop
 |[]=>True
 |f::l=>f.kP/\gq l
end
mutual
theorem oD:∀ (f:Formula) (n:Int),0<=n->f.iM n<=n->f.iM n=f.count/\f.kP
 |.mk _ name _ _ kids,n,hn,h=>by
  rw [Formula.iM] at h ⊢
  split at h
  ·omega
  ·rename_i hl
   rw [Ai hl]
   have:=Oh kids n 1 oM oM h
   rw [Formula.count,Formula.kP]
   exact⟨oM,oM,this.2⟩
theorem Oh:∀ (l:List Formula) (n k:Int),1<=k->k<=n+1->dX l n k<=n->dX l n k=k+aK l/\gq l
 |[],n,k,h1,h2,h=>by
  rw [dX,aK,gq]
  exact⟨sM,trivial⟩
 |f::l,n,k,h1,h2,h=>by
  rw [dX] at h ⊢
  split at h
  ·rename_i hk
   rw [Au hk]
   have b:=kH f (n - k) oM
   have c:=Ob l n (k+f.iM (n - k)) oM oM
   have d:=oD f (n - k) oM oM
   have e:=Oh l n (k+f.iM (n - k)) oM oM h
   rw [aK,gq]
   exact⟨oM,d.2,e.2⟩
  ·omega
end
def nT (f:Formula) (n:Int):Bool:=ZH (f.iM n<=n)
end CH
namespace Go.Proofs.Y
open Go.RowKit Go.Lib CH
theorem Bar:∀ (d:Nat) (f:CH.Formula) (vk:ZC) (n:Int) (w:ZB),f.depth<=d->Ay w w f vk->0<=n->n<=1000 ->
  ZE Tryz.prog 116 #[.agg (Ao f vk),↑n] w (Ret w (.int .i64 (f.iM n)))
 |0,f,vk,n,w,hd,hK,h0,h1=>by
  rw [Ex] at hd
  omega
 |d+1,.mk op name cmp fn kids,vk,n,w,hd,hK,h0,h1=>by
  obtain⟨a,cap,rfl,hl,hcap,hne⟩:=hK.form
  dsimp only [Ao,CH.Formula.op,CH.Formula.name,CH.Formula.cmp,CH.Formula.n,CH.Formula.kids] at *
  rw [Ex] at hd
  dsimp only [CH.Formula.kids] at hd
  have IH:=Aa (Bar d)
  have hdk:=Aa hd
  clear hd hK
  obtain⟨R,hR⟩:∃ R,Hid ((CH.Formula.mk op name cmp fn kids).iM n=R):=⟨_,Aa rfl⟩
  rw [hR.out]
  have hR1:Hid ((if 100<name.length then n+1 else dX kids n 1)=R):=Aa (by rw [<- hR.out,CH.Formula.iM])
  clear hR
  have hne:=Aa hne
  obtain⟨N,hN⟩:∃ N,kids.length=N:=⟨_,rfl⟩
  rw [hN] at hl ⊢
  have hN:=Aa hN
  have hB0:=fun o=>(Ac _ w).alloc nR o
  obtain⟨m,hm⟩:∃ m,name.length=m:=⟨_,rfl⟩
  rw [hm] at hR1
  by_cases yx:100<m
  ·have q1:ZH ((100:Int)<(m:Int))=true:=by simp;omega
   rw [Au yx] at hR1
   go_enter Tryz.func116,Tryz.ntmps116
   go_wp2_with fail
   go_ret
   exact⟨O0 (by rw [<- hR1.out]),hB0 _⟩
  ·have q1:ZH ((100:Int)<(m:Int))=false:=by simp;omega
   rw [Ai yx] at hR1
   go_enter Tryz.func116,Tryz.ntmps116
   go_wp2_with fail
   generalize hWd:w.alloc _=W at *
   have c4:W.cell? ⟨w,4,none⟩=some (.slice a N cap):=by rw [<- hWd];exact Ab (Aw w _) 4
   have hBW:Below w w W:=by rw [<- hWd];exact hB0 _
   have hlW:w.heap.size<W.heap.size:=by rw [<- hWd];simp
   clear hWd hB0
   go_loopw [5,6] (fun kv i wr=>∃ (j:Nat) (k:Int),j<=N/\i=↑j/\kv=↑k/\1<=k/\k<=n+1/\Hid (Below W W wr)/\Hid (dX (kids.drop j) n k=R)) (fun _ i _=>N - (ZG i).toNat)
   case atStart=>exact⟨0,1,Az _,rfl,rfl,oM,oM,Aa (Ac _ _),hR1⟩
   case round =>
    obtain⟨j,k,hj,rfl,rfl,hk1,hk2,hBr,hI⟩:=hrel
    have k4:=(hBr.out.cell (p:=⟨w,4,none⟩) hlW).trans c4
    have hBw:Below w w wr:=hBW.trans (hBr.out.mono hBW.size)
    by_cases hlt:j<N
    ·have q2:ZH ((j:Int)<(N:Int))=true:=by simp;omega
     have hdr:kids.drop j=kids[j]'(by rw [hN.out];exact hlt)::kids.drop (j+1):=Ij (by rw [hN.out];exact hlt)
     have hget:kids[j]?=some (kids[j]'(by rw [hN.out];exact hlt)):=Ad (by rw [hN.out];exact hlt)
     generalize kids[j]'(by rw [hN.out];exact hlt)=f at hdr hget
     have hI2:=hI.out
     rw [hdr,dX] at hI2
     by_cases hkn:k<=n
     ·have q3:ZH (k<=n)=true:=by simpa using hkn
      rw [Au hkn] at hI2
      obtain⟨b,off,rfl,hbl,hrow⟩:=hne.out (by intro h;have:=hN.out;simp [h] at this;omega)
      obtain⟨vf,e0,e1,e2,e3,e4,hkf⟩:=dw.get kids b off j f hrow hget
      have k0:=(hBw.cell (p:=⟨b,off+j*5,none⟩) hbl).trans e0
      have k1:=(hBw.cell (p:=⟨b,off+j*5+1,none⟩) hbl).trans e1
      have k2:=(hBw.cell (p:=⟨b,off+j*5+2,none⟩) hbl).trans e2
      have k3:=(hBw.cell (p:=⟨b,off+j*5+3,none⟩) hbl).trans e3
      have k5:=(hBw.cell (p:=⟨b,off+j*5+4,none⟩) hbl).trans e4
      have C:=Aa (IH.out f vf (n - k) wr (by have:=K6 (Ap hget);have:=hdk.out;omega) (Ay.mono hBw.size _ _ (Ay.below hBw nR _ _ hkf)) oM oM)
      have hb:=kH f (n - k) oM
      have hI2:=Aa hI2
      generalize CH.Formula.iM f (n - k)=sz at *
      obtain⟨af,cf,rfl,_,_,_⟩:=hkf.form
      clear e0 e1 e2 e3 e4 hrow hget hdr hkf IH
      dsimp only [Ao] at C
      generalize f.kids.length=nf at *
      generalize f.name=fname at *
      generalize f.op=fop at *
      generalize f.cmp=AZ at *
      generalize f.n=ffn at *
      go_wp2_with fail
      refine CmZ C.out fun w1 hb1=>?_
      clear C
      have hB1:Hid (Below W W w1):=Aa (hBr.out.trans (hb1.mono hBr.out.size))
      go_wp2
      go_roundw
      case rel=>exact⟨j+1,k+sz,oM,by go_num,by go_num,oM,oM,hB1,hI2⟩
      case measure=>simp [ZG];omega
     ·have q3:ZH (k<=n)=false:=by simpa using hkn
      rw [Ai hkn] at hI2
      go_wp2
      go_ret
      exact⟨by subst hI2;rfl,hBw⟩
    ·have q2:ZH ((j:Int)<(N:Int))=false:=by simp;omega
     have hI2:=hI.out
     rw [List.drop_of_length_le (by rw [hN.out];omega),dX] at hI2
     go_wp2
     go_ret
     exact⟨by subst hI2;rfl,hBw⟩
theorem Hpl (f:CH.Formula) (vk:ZC) (n:Int) (w:ZB) (hK:Ay w w f vk) (h0:0<=n) (h1:n<=1000) : ZE Tryz.prog 61 #[.agg (Ao f vk),↑n] w (Ret w (.bool (nT f n))):=by
 have hB0:=fun o=>(Ac _ w).alloc nR o;have C:=Aa fun o=>Bar f.depth f vk n (w.alloc o) nR (Ay.mono (hB0 o).size _ _ (Ay.below (hB0 o) nR _ _ hK)) h0 h1;obtain⟨af,cf,rfl,_,_,_⟩:=hK.form;obtain⟨R,hR⟩:∃ R,Hid (nT f n=R):=⟨_,Aa rfl⟩
 rw [hR.out];have hR1:Hid (ZH (f.iM n<=n)=R):=hR;clear hR;generalize f.iM n=sz at *;generalize f.kids.length=nf at *;dsimp only [Ao] at *;go_enter Tryz.func61,Tryz.ntmps61;go_wp2_with fail;refine CmZ (C.out _) fun w1 hb1=>?_;go_wp2;go_ret;exact⟨by rw [<- hR1.out];rfl,(hB0 _).trans (hb1.mono sM)⟩
end Go.Proofs.Y
namespace CH
def kU (a:Act):Bool:=jg a.change&&(nT a.measure.aB 60&&(eH [a.id,a.measure.id,a.measure.authority,a.measure.target,a.licence.id] 5&&(eH a.licence.measures 70&&(eH a.licence.aH 70&&lD a.holding))))
def jW (l:List Act) (most:Nat):Bool:=l.all kU&&ZH (l.length<=most)
end CH
namespace Go.Proofs.Y
open Go.RowKit Go.Lib Go.Shelf Go.Sort CH
structure dA (B:Nat) (w:ZB) (a:Q02) (s:eG):Prop where
 names:C6 B w s.vn a.change.entry.names
 kids:Ay B w a.measure.aB s.vk
 lm:Strs B w s.vm a.licence.measures
 lp:Strs B w s.vp a.licence.aH
 hj:Strs B w s.vj a.holding.joint
theorem dA.below {B B':Nat} {w w':ZB} {a:Q02} {s:eG} (h:dA B w a s) (hb:Below B' w w') (hB:B<=B'):dA B w' a s:=⟨h.names.below hb hB,Ay.below hb hB _ _ h.kids,h.lm.below hb hB,h.lp.below hb hB,h.hj.below hb hB⟩
theorem dA.mono {B B':Nat} {w:ZB} {a:Q02} {s:eG} (h:dA B w a s) (hB:B<=B'):dA B' w a s:=⟨h.names.mono hB,Ay.mono hB _ _ h.kids,h.lm.mono hB,h.lp.mono hB,h.hj.mono hB⟩
theorem Ek {B:Nat} {w:ZB} {a:Q02} {s:eG} (h:dA B w a s):∀ v∈As a s,v.oneCell'=true:=by obtain⟨vn,vk,vm,vp,vj⟩:=s;obtain⟨_,_,e1,_,_⟩:=h.names.form;obtain⟨_,_,e2,_,_,_⟩:=h.kids.form;exact FD60
def Ke (B:Nat) (w:ZB) (v:ZC) (l:List Q02):Prop := ∃ a cap,v=.slice a l.length cap/\l.length<=cap/\cap<=9223372036854775807 /\ (l≠[]->∃ b off,a=some ⟨b,off,none⟩/\b<B/\∀ j x,l[j]?=some x->∃ s,(∀ i u,(As x s)[i]?=some u->w.cell? ⟨b,off+j*37+i,none⟩=some u)/\dA B w x s)
theorem Ke.below {B B':Nat} {w w':ZB} {v:ZC} {l:List Q02} (h:Ke B w v l) (hb:Below B' w w') (hB:B<=B'):Ke B w' v l:=by exact FD43
theorem Ke.mono {B B':Nat} {w:ZB} {v:ZC} {l:List Q02} (h:Ke B w v l) (hB:B<=B'):Ke B' w v l:=by exact FD24
theorem B6 {P:Program} {ops:Array Oper} {rest:List Oper} {op:Oper} {a:Act} {w:ZB} {Q:Exit->Act->ZB->Prop} (hw:Region.wanted op (yielded ops a.tmps)=true) (ty:ZJ) (x:Operand) (ho:op.op=.load ty x) (b o:Nat) (hx:a.eval x=.pointer (some ⟨b,o,none⟩)) (cs:List ZC) (d:TypeDesc) (hc:w.rangeAt b o cs) (hu:P.underlying ty=some d) (hd:d.isRow=true) (hi:(P.info? ty).map (·.size)=some cs.length) (h:wpList P ops Q rest (a.put op.dst (.agg cs.toArray)) w):wpList P ops Q (op::rest) a w := wpList_step fun K hK=>by rw [hw,Au rfl];exact wp_load_mid ty x ho b o hx cs d hc hu hd hi (hK _ _ h)
end Go.Proofs.Y
namespace Go.Proofs.Y
section
open Go.Lib Go.Proofs.Tryz Go.RowKit Go.Shelf Go.Sort CH
def Tx (keys:List Q00):Bool:=!(keys.length==0)&&bJ keys 6
def GN (w:ZB) (keys:List Q00) (e:Ending) (w':ZB):Prop := Below w w w'/\if Tx keys=true then ∃ c r1 r2,e=.returned (.tuple #[.pointer (some ⟨c,0,none⟩),.int .i64 0])/\ChainIn 0 w.heap.size w' c r1 r2 keys [] []/\w.heap.size<=c/\w.heap.size<=r1/\w.heap.size<=r2 else e=.returned (.tuple #[.pointer none,.int .i64 1])
def Ric (w:ZB) (keys:List Q00) (e:Ending) (w':ZB):Prop := Below w w w'/\if Tx keys=true then ∃ c r1 r2,e=.returned (.tuple #[.pointer (some ⟨c,0,none⟩),.int .i64 0])/\Fw w' c r1 r2 keys [] []/\w.heap.size<=c/\w.heap.size<=r1/\w.heap.size<=r2 else e=.returned (.tuple #[.pointer none,.int .i64 1])
theorem At.far {base:Nat} {w:ZB} {v:ZC} {ls:List Q00} (h:At base w v ls) (ad:Addr) (n cap:Nat) (e:v=.slice (some ad) n cap):base<=ad.block:=by
 obtain⟨_,⟨rfl,_⟩|⟨g,cap',cur,rfl,hb,_⟩⟩:=h;·cases e
 ·cases e;exact hb
theorem Mac (w:ZB) (o1 o2 o3:Obj):(((w.alloc o1).alloc o2).alloc o3).heap[w.heap.size]?=some o1/\(((w.alloc o1).alloc o2).alloc o3).heap[w.heap.size+1]?=some o2/\(((w.alloc o1).alloc o2).alloc o3).heap[w.heap.size+1+1]?=some o3:=by
 refine⟨?_,?_,?_⟩ <;> simp only [World.alloc,Dk,Ef];·rw [Ai oM,Ai oM,Au trivial]
 ·rw [Ai oM,Au trivial]
 ·rw [Au trivial]
theorem Bit (v:ZC) (keys:List Q00) (w:ZB) (hG:Gl w) (hv:Strs w w v keys) (hl:∀ l∈keys,l.length<=9223372036854775807) (hlen:keys.length<=1099511627776) : ZE prog 6 #[v] w (GN w keys):=by
 have D:=Ss v keys 6 w hG hv hl;have C:=Aa fun (W:ZB) (hb:Below w w W)=>Bsr v keys W ((hv.below hb nR).mono hb.size) hlen;obtain⟨b,hb⟩:∃ b,bJ keys 6=b:=⟨_,rfl⟩
 rw [hb] at D;replace D:=Aa D;replace hb:=Aa hb;have hmm:=@Ji prog;obtain⟨a,cap,rfl,_,_⟩:=hv.form;obtain⟨N,hN⟩:∃ N,keys.length=N:=⟨_,rfl⟩
 have hok:∀ x,Hid ((!(N==0)&&b)=x)->Tx keys=x:=fun x hx=>by rw [<- hx.out,<- hb.out,<- hN];rfl
 rw [hN] at D C ⊢;replace hN:=Aa hN;clear hv hl hlen;by_cases h0:N=0;·subst h0;have hk:=hok false (Aa rfl);clear hok;go_enter func6,ntmps6;exact FD169
 ·have q:((N:Int)==0)=false:=by simpa using (oM:¬ (N:Int)=0)
  have q':(N==0)=false:=by simpa using h0
  go_enter func6,ntmps6;go_wp2_with fail;refine CmZ D.out fun w1 hb1=>?_;clear D;cases b with
  |false =>exact FD129
  |true =>
   have hk:=hok true (Aa (by rw [q'];rfl));clear hok;go_wp2_with fail;refine (C.out _ hb1).mono ?_;rintro e w2 ⟨vk,rfl,hO,hb2⟩;have hB2:Below w w w2:=hb1.trans (hb2.mono hb1.size);have hOs:=Aa hO.strs;have hof:=Aa fun (ad:Addr) (n cap:Nat) (e:vk=.slice (some ad) n cap)=>hO.far ad n cap e;obtain⟨ak,ck,rfl,_,_,_⟩:=hO.form;clear C hO;generalize keys.length=NN at *;go_wp2;refine Aj (Aq rfl _ _ _) rfl ?_;have hB3:=fun o1 o2 o3=>(((Ac _ w2).alloc nR o1).alloc sM o2).alloc (by simp;omega) o3;refine⟨hB2.trans ((hB3 _ _ _).mono hB2.size),?_⟩;rw [hk,Au rfl];refine⟨w2+1+1,w2.heap.size,w2.heap.size+1,rfl,?_,?_,?_,?_⟩;·obtain⟨a1,a2,a3⟩:=Mac w2 (.map #[] 0) (.map #[] 0) (.cells #[.slice ak NN ck,.map (some w2.heap.size),.map (some (w2.heap.size+1))] 84);exact⟨⟨_,a3,(hOs.out.below (hB3 _ _ _) nR).mono (hB3 _ _ _).size⟩,⟨[],⟨#[],0,a1,rfl,sM,sM⟩,trivial⟩,⟨[],⟨#[],0,a2,rfl,sM,sM⟩,trivial⟩,oM,Az _,fun ad n cap x y e=>by rw [a3] at e;injection e with e;injection e with e;have e:=congrArg Array.toList e;simp only [List.cons.injEq] at e;have:=hof.out ad n cap e.1;have:=hb1.size;omega⟩
   ·have:=hB2.size;omega
   ·exact hB2.size
   ·have:=hB2.size;omega
theorem Pop (v:ZC) (keys:List Q00) (w:ZB) (hG:Gl w) (hv:Strs w w v keys) (hl:∀ l∈keys,l.length<=9223372036854775807) (hlen:keys.length<=1099511627776) : ZE prog 6 #[v] w (Ric w keys):=by
 refine (Bit v keys w hG hv hl hlen).mono ?_;rintro e w1 ⟨hb,hif⟩;refine⟨hb,?_⟩;split at hif;·rename_i hk;rw [Au hk];obtain⟨c,r1,r2,h1,h2,h3⟩:=hif;exact⟨c,r1,r2,h1,h2.at,h3⟩
 ·rename_i hk;rw [Ai hk];exact hif
def Tn (B:Nat) (w:ZB) (v:ZC) (ls:List Int):Prop := ∃ a cap,v=.slice a ls.length cap/\ls.length<=cap/\cap<=9223372036854775807 /\ (ls≠[]->∃ b off,a=some ⟨b,off,none⟩/\b<B/\∀ j n,ls[j]?=some n->w.cell? ⟨b,off+j,none⟩=some (aJ n))
theorem Tn.below {B B':Nat} {w w':ZB} {v:ZC} {ls:List Int} (h:Tn B w v ls) (hb:Below B' w w') (hB:B<=B'):Tn B w' v ls:=by exact FD66
theorem Tn.mono {B B':Nat} {w:ZB} {v:ZC} {ls:List Int} (h:Tn B w v ls) (hB:B<=B'):Tn B' w v ls:=by exact FD102
theorem C10:(prog.info? 3).map (fun i=>(i.zero,i.size,i.bytes))=some (some (.int .i64 0),1,8):=kR
theorem Mpo (w:ZB) (ls:List Q00) (h:ls.length<=1000000):Strs (w.alloc (.cells (ls.map aA).toArray 9)).heap.size (w.alloc (.cells (ls.map aA).toArray 9)) (.slice (some ⟨w,0,none⟩) ls.length ls.length) ls:=(Fu w ls h).strs
theorem Ggw (v:ZC) (l:List Q02) (w:ZB) (hv:Ke w.heap.size w v l) : ZE prog 27 #[v,.int .i64 5] w (Ret w (.bool (jW l 5))):=by
 obtain⟨a,cap,rfl,hl,hcap,hne⟩:=hv;obtain⟨R,hR⟩:∃ R,Hid (jW l 5=R):=⟨_,Aa rfl⟩
 rw [hR.out];have hne:=Aa hne;obtain⟨N,hN⟩:∃ N,l.length=N:=⟨_,rfl⟩
 rw [hN] at hl ⊢;have hN:=Aa hN;go_enter func27,ntmps27;go_wp2_with fail;go_loopw [5] (fun i wr=>∃ k:Nat,k<=N/\i=.int .i64 k/\Hid (Below w.heap.size w wr)/\Hid ((l.take k).all kU=true)) (fun i _=>N - (ZG i).toNat);case atStart=>exact⟨0,Az _,rfl,Aa (Ac _ _),Aa rfl⟩
 case round =>
  obtain⟨k,hk,rfl,hBr,hI⟩:=hrel;by_cases hlt:k<N
  ·obtain⟨b,off,rfl,hbl,kj⟩:=hne.out (by intro h;have:=hN.out;simp [h] at this;omega);obtain⟨x,hx⟩:∃ x,l[k]?=some x:=⟨_,Ad (by rw [hN.out];exact hlt)⟩
   obtain⟨sx,hc,hat⟩:=kj k x hx;have hrg:wr.rangeAt b (off+k*37) (As x sx):=fun j u hj=>(hBr.out.cell (p:=⟨b,off+k*37+j,none⟩) hbl).trans (hc j u hj);have hlen:(prog.info? 73).map (·.size)=some (As x sx).length:=kR;have h1c:=Aa (Ek hat);have hlenA:(As x sx).length=37:=rfl;have HA:=Aa fun (W:ZB) (hb:Below w.heap.size w W)=>(hat.below hb nR).mono hb.size;have hx:=Aa hx;clear kj hc hat;obtain⟨vn,vk,vm,vp,vj⟩:=sx;have n35:(As x ⟨vn,vk,vm,vp,vj⟩)[35]?=some (.string ⟨x.id.toArray⟩):=rfl;have n6:(As x ⟨vn,vk,vm,vp,vj⟩)[6]?=some (.string ⟨x.measure.id.toArray⟩):=rfl;have n7:(As x ⟨vn,vk,vm,vp,vj⟩)[7]?=some (.string ⟨x.measure.authority.toArray⟩):=rfl;have n9:(As x ⟨vn,vk,vm,vp,vj⟩)[9]?=some (.string ⟨x.measure.target.toArray⟩):=rfl;have n18:(As x ⟨vn,vk,vm,vp,vj⟩)[18]?=some (.string ⟨x.licence.id.toArray⟩):=rfl;generalize hC:As x { vn:=vn,vk:=vk,vm:=vm,vp:=vp,vj:=vj }=C at *;have hn1:=Aa (Bp wr C 73);have hrg:=Aa hrg;have hC:=Aa hC;go_upto_region 5 with (first|refine Bd rfl 73 _ rfl b (off+k*37) rfl C _ hrg.out underlying73 rfl hlen ?_|refine Bw rfl 73 _ _ rfl C rfl rfl (by rw [hlenA];rfl) hlen h1c.out ?_)
   have hb0:Below w.heap.size w (wr.alloc (.cells C.toArray 73)):=hBr.out.alloc hBr.out.size _;have hblk:(wr.alloc (.cells C.toArray 73)).heap[wr.heap.size]?=some (.cells C.toArray 73 (0,0)):=Aw wr _;generalize wr.alloc (.cells C.toArray 73)=W1 at *;have hlt1:wr.heap.size<W1.heap.size:=(aZ hblk)
   have KC:Hid (∀ (W:ZB),W.heap[wr.heap.size]?=some (.cells C.toArray 73 (0,0))->∀ (i:Nat) (u:ZC),C[i]?=some u->W.cell? ⟨wr.heap.size,i,none⟩=some u):=Aa fun W hW i u hu=>(Ab hW i).trans (by simpa using hu);have k35:=KC.out W1 hblk 35 _ n35;have k6:=KC.out W1 hblk 6 _ n6;have k7:=KC.out W1 hblk 7 _ n7;have k9:=KC.out W1 hblk 9 _ n9;have k18:=KC.out W1 hblk 18 _ n18;clear hrg hn1 n35 n6 n7 n9 n18;go_upto_region 6 with (fail)
   have RB:Hid (∀ (W:ZB),W.heap[wr.heap.size]?=some (.cells C.toArray 73 (0,0))->W.rangeAt wr.heap.size 1 (A5 x.change vn)/\W.rangeAt wr.heap.size 10 (Ao x.measure.aB vk).toList/\W.rangeAt wr.heap.size 25 (Ax x.holding vj)/\W.cell? ⟨wr.heap.size,19,none⟩=some vm/\W.cell? ⟨wr.heap.size,20,none⟩=some vp):=Aa fun W hW=>by
    have h0:W.rangeAt wr.heap.size 0 (As x { vn:=vn,vk:=vk,vm:=vm,vp:=vp,vj:=vj }):=fun j u hj=>by rw [hC.out] at hj;rw [Bf];exact KC.out W hW j u hj
    have q1:=Cx (l:=[aJ x.kind]) h0 1 rfl;have q2:=Cx (l:=A5 x.change vn) q1 6 rfl;have q3:=Cx (l:=Av x.measure vk) q2 18 rfl;have q4:=Cx (l:=Br x.licence vm vp) q3 25 rfl;have q5:=G1 (l:=Av x.measure vk) q2;have q6:=Cx (l:=[aA x.measure.id,aA x.measure.authority,aJ x.measure.kind,aA x.measure.target]) (m:=(Ao x.measure.aB vk).toList++[aJ x.measure.start,aJ x.measure.aF,aJ x.measure.dP]) q5 10 rfl;exact⟨G1 q1,G1 q6,G1 q4,q3 1 _ rfl,q3 2 _ rfl⟩
   obtain⟨W2,hW2⟩:∃ W2,W1.alloc (.cells #[aA x.id,aA x.measure.id,aA x.measure.authority,aA x.measure.target,aA x.licence.id] 9)=W2:=⟨_,rfl⟩
   have hb2:Below W1.heap.size W1 W2:=by rw [<- hW2];exact (Ac _ W1).alloc nR _
   have hs5:Strs W2.heap.size W2 (.slice (some ⟨W1.heap.size,0,none⟩) 5 5) [x.id,x.measure.id,x.measure.authority,x.measure.target,x.licence.id]:=by rw [<- hW2];exact Mpo W1 [x.id,x.measure.id,x.measure.authority,x.measure.target,x.licence.id] sM
   rw [hW2];clear hW2;have hblk2:=(hb2.block _ hlt1).trans hblk;have hbW2:Below w.heap.size w W2:=hb0.trans (hb2.mono hb0.size);have hlt2:wr.heap.size<W2.heap.size:=Ae hlt1 hb2.size;clear k35 k6 k7 k9 k18 hb2 hblk hb0;have HS:=Aa fun (W:ZB) (hb:Below W2.heap.size W2 W)=>(hs5.below hb nR).mono hb.size;clear hs5;obtain⟨p1,hp1⟩:∃ p,Hid (jg x.change=p):=⟨_,Aa rfl⟩
   obtain⟨p2,hp2⟩:∃ p,Hid (nT x.measure.aB 60=p):=⟨_,Aa rfl⟩
   obtain⟨p3,hp3⟩:∃ p,Hid (eH [x.id,x.measure.id,x.measure.authority,x.measure.target,x.licence.id] 5=p):=⟨_,Aa rfl⟩
   obtain⟨p4,hp4⟩:∃ p,Hid (eH x.licence.measures 70=p):=⟨_,Aa rfl⟩
   obtain⟨p5,hp5⟩:∃ p,Hid (eH x.licence.aH 70=p):=⟨_,Aa rfl⟩
   obtain⟨p6,hp6⟩:∃ p,Hid (lD x.holding=p):=⟨_,Aa rfl⟩
   have hact:Hid (kU x=(p1&&(p2&&(p3&&(p4&&(p5&&p6)))))):=Aa (by rw [<- hp1.out,<- hp2.out,<- hp3.out,<- hp4.out,<- hp5.out,<- hp6.out];rfl);have hfalse:Hid ((p1&&(p2&&(p3&&(p4&&(p5&&p6)))))=false->R=false):=Aa fun h=>by rw [<- hR.out];unfold jW;rw [gJ _ l k x hx.out (hact.out.trans h)];rfl
   have F1:=Aa (hp1.out ▸ Arg x.change vn W2 (HA.out W2 hbW2).names);have F2:=Aa fun (W:ZB) (hb:Below w.heap.size w W)=>hp2.out ▸ Hpl x.measure.aB vk 60 W (HA.out W hb).kids dC dC;have F3:=Aa fun (W:ZB) (hb:Below W2.heap.size W2 W)=>hp3.out ▸ Rb _ _ 5 W (HS.out W hb);have F4:=Aa fun (W:ZB) (hb:Below w.heap.size w W)=>hp4.out ▸ Rb _ _ 70 W (HA.out W hb).lm;have F5:=Aa fun (W:ZB) (hb:Below w.heap.size w W)=>hp5.out ▸ Rb _ _ 70 W (HA.out W hb).lp;obtain⟨r1,_,_,_,_⟩:=RB.out W2 hblk2;have r1:=Aa r1;have KF:(prog.info? 64).map (·.size)=some 5:=kR;have hi64:(prog.info? 67).map (·.size)=some 5:=kR;have KG:(prog.info? 59).map (·.size)=some 10:=kR;go_wp2_with (refine Bd rfl 64 _ rfl wr.heap.size 1 rfl (A5 x.change vn) _ r1.out underlying64 rfl KF ?_)
   refine CmZ F1.out fun w3 hb3=>?_;have fG:Below W2.heap.size W2 w3:=hb3;have hblk3:=(hb3.block _ hlt2).trans hblk2;have xY:Below w.heap.size w w3:=hbW2.trans (hb3.mono hbW2.size);have hlt3:wr.heap.size<w3.heap.size:=Ae hlt2 hb3.size;clear F1 r1 hb3;cases p1 with
   |false =>go_wp2;go_ret;exact⟨by rw [hfalse.out rfl];rfl,xY⟩
   |true =>
    obtain⟨_,r2,_,_,_⟩:=RB.out w3 hblk3;have r2:=Aa r2;go_wp2_with (refine B6 rfl 67 _ rfl wr.heap.size 10 rfl (Ao x.measure.aB vk).toList _ r2.out underlying67 rfl hi64 ?_)
    refine CmZ (F2.out w3 xY) fun w4 hb4=>?_;have xZ:Below W2.heap.size W2 w4:=fG.trans (hb4.mono fG.size);have EJ:=(hb4.block _ hlt3).trans hblk3;have zQ:Below w.heap.size w w4:=xY.trans (hb4.mono xY.size);have hlt4:wr.heap.size<w4.heap.size:=Ae hlt3 hb4.size;clear F2 r2 hb4;cases p2 with
    |false =>go_wp2;go_ret;exact⟨by rw [hfalse.out rfl];rfl,zQ⟩
    |true =>
     go_wp2_with fail;refine CmZ (F3.out w4 xZ) fun w5 hb5=>?_;have hblk5:=(hb5.block _ hlt4).trans EJ;have xX:Below w.heap.size w w5:=zQ.trans (hb5.mono zQ.size);have xP:wr.heap.size<w5.heap.size:=Ae hlt4 hb5.size;clear F3 hb5;cases p3 with
     |false =>go_wp2;go_ret;exact⟨by rw [hfalse.out rfl];rfl,xX⟩
     |true =>
      obtain⟨_,_,_,k19,_⟩:=RB.out w5 hblk5;go_wp2_with fail;refine CmZ (F4.out w5 xX) fun w6 hb6=>?_;have hblk6:=(hb6.block _ xP).trans hblk5;have xW:Below w.heap.size w w6:=xX.trans (hb6.mono xX.size);have DK:wr.heap.size<w6.heap.size:=Ae xP hb6.size;clear F4 hb6 k19;cases p4 with
      |false =>go_wp2;go_ret;exact⟨by rw [hfalse.out rfl];rfl,xW⟩
      |true =>
       obtain⟨_,_,_,_,k20⟩:=RB.out w6 hblk6;go_wp2_with fail;refine CmZ (F5.out w6 xW) fun w7 hb7=>?_;have hblk7:=(hb7.block _ DK).trans hblk6;have zO:Below w.heap.size w w7:=xW.trans (hb7.mono xW.size);have NQ:wr.heap.size<w7.heap.size:=Ae DK hb7.size;clear F5 hb7 k20;cases p5 with
       |false =>go_wp2;go_ret;exact⟨by rw [hfalse.out rfl];rfl,zO⟩
       |true =>
        obtain⟨_,_,r3,_,_⟩:=RB.out w7 hblk7;generalize hLL:Ax x.holding vj=LL at *;have nV:LL.length=10:=by rw [<- hLL];rfl
        have hLL:=Aa hLL;have DW:(prog.info? 59).map (·.size)=some LL.length:=by rw [nV];exact KG
        have r3:=Aa r3;clear RB;go_wp2_with (refine B6 rfl 59 _ rfl wr.heap.size 25 rfl LL _ r3.out underlying59 rfl DW ?_)
        rw [Kk LL _ (by rw [nV];rfl)];have hbb:Below w7.heap.size w7 (w7.alloc (.cells LL.toArray 59)):=(Ac _ w7).alloc nR _;have zN:Below w.heap.size w (w7.alloc (.cells LL.toArray 59)):=zO.trans (hbb.mono zO.size);have F6:=Aa (hp6.out ▸ Ggv (.slice (some ⟨w7.heap.size,0,none⟩) 1 1) x.holding (w7.alloc (.cells LL.toArray 59)) ⟨w7.heap.size,vj,rfl,sM,fun j y hj=>by rw [hLL.out] at hj;have:=Bp w7 LL 59 j y hj;rwa [Bf] at this,(HA.out _ zN).hj⟩);refine CmZ F6.out fun w8 hb8=>?_;have EK:Below w.heap.size w w8:=zN.trans (hb8.mono zN.size);clear F6 hb8 hbb nV r3;cases p6 with
        |false =>go_wp2;go_ret;exact⟨by rw [hfalse.out rfl];rfl,EK⟩
        |true =>have hI':Hid ((l.take (k+1)).all kU=true):=Aa (by rw [fJ _ l k x hx.out,hI.out,hact.out];rfl);have hB':Hid (Below w.heap.size w w8):=Aa EK;exact FD152
  ·obtain rfl:k=N:=oM;have hall:l.all kU=true:=by have:=hI.out;rwa [<- hN.out,Dn] at this
   go_wp2;go_ret;have hk5:ZH ((k:Int)<=5)=R:=by rw [<- hR.out];unfold jW;rw [hall,hN.out,a_Bool_true_and,Eh];omega
   exact⟨by rw [<- hk5];rfl,hBr.out⟩
end
section
open Go.Deep Go.Lib Go.Proofs.Tryz Go.RowKit Go.Shelf Go.Sort Go.WideShapes CH
section
open CH
variable {H:Type} {enc:ZJ × ZC->H} {w:ZB} {spare:Nat->Bool} {held:Bool}
theorem Ri {t e:ZJ} {C fuel:Nat} {cs:List ZC} {x:DataW H × List MemPlace} (ht:prog.underlying t=some (.slice e)) (hC:prog.cellsOf e=C) (hpos:0<C) (h:DataW.trod enc prog w 0 spare held fuel t cs=some x) : ∃ a len cap,cs=[.slice a len cap]/\len<=cap/\cap<=9223372036854775807 /\ (len≠0->∃ b off,a=some ⟨b,off,none⟩/\b<w.heap.size/\∀ j,j<len->∃ cs' k y,k<fuel/\cs'.length=C/\(∀ i u,cs'[i]?=some u->w.cell? ⟨b,off+j*C+i,none⟩=some u)/\DataW.trod enc prog w 0 spare held k e cs'=some y):=by
 subst hC;rcases DataW.trod_slice ht h with⟨h0,_⟩|⟨a,len,cap,elems,rest,n,hn,rfl,_,_,hl,hm,hlen,hel,_,_⟩;·exact⟨none,0,0,h0,oM,oM,fun h=>absurd rfl h⟩
 ·unfold maxLen at hm;refine⟨some a,len,cap,rfl,hl,oM,fun hne=>?_⟩;have key:∀ j,j<len->∃ cs' y,cs'.length=prog.cellsOf e/\(∀ i,i<prog.cellsOf e->w.cell? ((a.add (j*prog.cellsOf e)).add i)=cs'[i]?)/\DataW.trod enc prog w 0 spare held n e cs'=some y:=fun j hj=>by have h1:=hel j hj;rw [Ad oM] at h1;obtain⟨cs',h2,h3⟩:=Option.bind_eq_some_iff.1 h1;obtain⟨_,h4,h5⟩:=World.cells?_some h2;exact⟨cs',_,h4,h5,h3⟩
  have hplain:∃ b off,a=⟨b,off,none⟩/\b<w.heap.size:=by
   obtain⟨cs',y,h4,h5,_⟩:=key 0 oM;have h6:=h5 0 hpos;rw [Ad oM] at h6;have e0:(a.add (0*prog.cellsOf e)).add 0=a:=by simp [Addr.add]
   rw [e0] at h6;have h7:=Ez w _ h6;obtain⟨b,off,sub⟩:=a;cases sub with
   |none=>exact⟨b,off,rfl,h7⟩
   |some q =>
    exfalso;unfold World.cell? at h6;split at h6;·simp at h6
    ·cases h6
  obtain⟨b,off,rfl,hb⟩:=hplain;refine⟨b,off,rfl,hb,fun j hj=>?_⟩;obtain⟨cs',y,h4,h5,h6⟩:=key j hj;refine⟨cs',n,y,oM,h4,fun i u hu=>?_,h6⟩;have hi:i<cs'.length:=(lS hu)
  have h7:=h5 i oM;rw [Deep.add_add,hu] at h7;rw [La,<- Go.WideShapes.add_plain];exact h7
theorem Be {t:ZJ} {fs:Array Field} {fuel:Nat} {cs:List ZC} {x:DataW H × List MemPlace} (ht:prog.underlying t=some (.struct fs)) (h:DataW.trod enc prog w 0 spare held fuel t cs=some x) (i:Nat) (e:ZJ) (o n:Nat) (hf:(fs[i]?).map (fun f=>(f.type,f.offset))=some (e,o)) (hn:prog.cellsOf e=n) : ∃ k y,k<fuel/\DataW.trod enc prog w 0 spare held k e ((cs.drop o).take n)=some y:=by
 obtain⟨xs,k,rfl,_,_,hlen,hx⟩:=DataW.trod_struct ht h;cases hi:fs[i]? with
 |none=>rw [hi] at hf;cases hf
 |some f =>
  rw [hi] at hf;simp only [Gq,Fe,Hu] at hf;obtain⟨rfl,rfl⟩:=hf;have hlt:i<xs.length:=by rw [hlen];exact (aZ hi)
  have:=hx i f hi;rw [hn,Ad hlt] at this;exact⟨k,_,oM,this⟩
theorem Nn {t:ZJ} {fs:Array Field} {fuel:Nat} {cs:List ZC} {x:DataW H × List MemPlace} (ht:prog.underlying t=some (.struct fs)) (h:DataW.trod enc prog w 0 spare held fuel t cs=some x) (n:Nat) (hn:prog.cellsOf t=n):cs.length=n:=by obtain⟨xs,k,_,_,hl,_,_⟩:=DataW.trod_struct ht h;rw [hl,hn]
theorem Fc {k:Nat} {cs:List ZC} {y:DataW H × List MemPlace} (h:DataW.trod enc prog w 0 spare held k 3 cs=some y):∃ n:Int,cs=[aJ n]/\I64 n:=by obtain⟨n,h1,_,h3⟩:=DataW.trod_int underlying3 h;rw [Lit.wf_int_iff] at h3;exact⟨n,h1,h3⟩
theorem Ks {k:Nat} {cs:List ZC} {y:DataW H × List MemPlace} (h:DataW.trod enc prog w 0 spare held k 9 cs=some y):∃ l:Q00,cs=[aA l]/\l.length<=9223372036854775807:=by obtain⟨s,h1,_,h3⟩:=DataW.trod_string underlying9 h;unfold maxLen at h3;obtain⟨⟨l⟩⟩:=s;refine⟨l,h1,?_⟩;have:l.length<=2 ^ 63 - 1:=h3;omega
theorem Ww {α:Type} {p:Nat->α->Prop}:∀ n,(∀ j,j<n->∃ x,p j x)->∃ l:List α,l.length=n/\∀ j x,l[j]?=some x->p j x
 |0,_=>⟨[],rfl,fun j x h=>by simp at h⟩
 |n+1,h=>by
  obtain⟨l,hl,hx⟩:=Ww n (fun j hj=>h j oM)
  obtain⟨x,hp⟩:=h n oM
  refine⟨l++[x],by simp [hl],fun j y hj=>?_⟩
  rcases Lr j n with h1|h1|h1
  ·rw [Eu oM] at hj
   exact hx j y hj
  ·subst h1
   rw [<- hl] at hj
   simp at hj
   subst hj
   exact hp
  ·rw [F8 (by simp;omega)] at hj
   cases hj
theorem Sd {k:Nat} {cs:List ZC} {y:DataW H × List MemPlace} (h:DataW.trod enc prog w 0 spare held k 22 cs=some y) : ∃ v ls,cs=[v]/\Strs w w v ls/\∀ l∈ls,l.length<=9223372036854775807:=by
 obtain⟨a,len,cap,rfl,h1,h2,h3⟩:=Ri (C:=1) underlying22 kR dC h;by_cases h0:len=0;·exact FD82
 ·obtain⟨b,off,rfl,hb,hx⟩:=h3 h0;obtain⟨ls,hl,hp⟩:=Ww (p:=fun j (l:Q00)=>w.cell? ⟨b,off+j,none⟩=some (aA l)/\l.length<=9223372036854775807) len (fun j hj=>by obtain⟨cs',k',y',_,_,hc,ht⟩:=hx j hj;obtain⟨l,rfl,hl⟩:=Ks ht;have:=hc 0 _ rfl;rw [Nat.mul_one,Ia] at this;exact⟨l,this,hl⟩);refine⟨_,ls,rfl,⟨_,cap,by rw [hl],oM,h2,fun _=>⟨b,off,rfl,hb,fun j l hj=>(hp j l hj).1⟩⟩,fun l hl'=>?_⟩;obtain⟨j,hj⟩:=Dj.1 hl';exact (hp j l hj).2
theorem Ipc {k:Nat} {cs:List ZC} {y:DataW H × List MemPlace} (h:DataW.trod enc prog w 0 spare held k 60 cs=some y) : ∃ v ns,cs=[v]/\C6 w w v ns:=by
 obtain⟨a,len,cap,rfl,h1,h2,h3⟩:=Ri (C:=2) underlying60 kR dC h;by_cases h0:len=0;·subst h0;exact⟨_,[],rfl,⟨a,cap,rfl,h1,h2,fun hne=>absurd rfl hne⟩⟩
 ·obtain⟨b,off,rfl,hb,hx⟩:=h3 h0;obtain⟨ns,hl,hp⟩:=Ww (p:=fun j (n:Q05)=>∃ vw,w.cell? ⟨b,off+j*2,none⟩=some ↑n.script/\w.cell? ⟨b,off+j*2+1,none⟩=some vw/\Strs w w vw n.words) len (fun j hj=>by
   obtain⟨cs',k',y',_,hlen,hc,ht⟩:=hx j hj;obtain⟨_,_,_,t0⟩:=Be underlying165 ht 0 3 0 1 rfl kR;obtain⟨_,_,_,t1⟩:=Be underlying165 ht 1 22 1 1 rfl kR;match cs',hlen with
   |[c0,c1],_ =>obtain⟨n,e0,_⟩:=Fc t0;obtain⟨v,ls,e1,hs,_⟩:=Sd t1;simp at e0 e1;subst e0 e1;exact⟨⟨n,ls⟩,_,hc 0 _ rfl,hc 1 _ rfl,hs⟩)
  exact⟨_,ns,rfl,⟨_,cap,by rw [hl],oM,h2,fun _=>⟨b,off,rfl,hb,hp⟩⟩⟩
theorem Ety {B:Nat}:∀ (l:List CH.Formula) (b off:Nat),(∀ (j:Nat) (f:CH.Formula),l[j]?=some f->∃ vk,w.cell? ⟨b,off+j*5,none⟩=some ↑f.op/\w.cell? ⟨b,off+j*5+1,none⟩=some ↑f.name/\w.cell? ⟨b,off+j*5+2,none⟩=some ↑f.cmp/\w.cell? ⟨b,off+j*5+3,none⟩=some ↑f.n/\w.cell? ⟨b,off+j*5+4,none⟩=some vk/\Ay B w f vk)->dw B w l b off
 |[],_,_,_=>by unfold dw;trivial
 |f::l,b,off,h=>by
  unfold dw
  refine⟨?_,Ety l b (off+5) fun j g hj=>?_⟩
  ·have:=h 0 f rfl
   rw [Nat.zero_mul,Ia] at this
   exact this
  ·have:=h (j+1) g (by simpa using hj)
   rw [show off+(j+1)*5=off+5+j*5 from by omega] at this
   exact this
def Blt (f:CH.Formula) (vk:ZC):List ZC:=[aJ f.op,aA f.name,aJ f.cmp,aJ f.n,vk]
theorem K2a:∀ (k:Nat) {cs:List ZC} {y:DataW H × List MemPlace},DataW.trod enc prog w 0 spare held k 67 cs=some y->∃ f vk,cs=Blt f vk/\Ay w w f vk:=by
 intro k;induction k using Nat.strongRecOn with
 |_ k ih =>
  intro cs y ht;have hlen:=Nn underlying67 ht 5 kR;obtain⟨_,_,_,t0⟩:=Be underlying67 ht 0 3 0 1 rfl kR;obtain⟨_,_,_,t1⟩:=Be underlying67 ht 1 9 1 1 rfl kR;obtain⟨_,_,_,t2⟩:=Be underlying67 ht 2 3 2 1 rfl kR;obtain⟨_,_,_,t3⟩:=Be underlying67 ht 3 3 3 1 rfl kR;obtain⟨k4,_,hk4,t4⟩:=Be underlying67 ht 4 65 4 1 rfl kR;obtain⟨a,len,cap,e4,h1,h2,h3⟩:=Ri (C:=5) underlying65 kR dC t4;obtain⟨op,e0,_⟩:=Fc t0;obtain⟨name,e1,_⟩:=Ks t1;obtain⟨cmp,e2,_⟩:=Fc t2;obtain⟨n,e3,_⟩:=Fc t3;match cs,hlen with
  |[c0,c1,c2,c3,c4],_ =>
   simp at e0 e1 e2 e3 e4;subst e0 e1 e2 e3 e4;by_cases h0:len=0;·subst h0;refine⟨.mk op name cmp n [],_,rfl,?_⟩;unfold Ay;exact⟨a,cap,rfl,h1,h2,fun hne=>absurd rfl hne⟩
   ·obtain⟨b,off,rfl,hb,hx⟩:=h3 h0;obtain⟨kids,hl,hp⟩:=Ww (p:=fun j (f:CH.Formula)=>∃ vk,w.cell? ⟨b,off+j*5,none⟩=some ↑f.op/\w.cell? ⟨b,off+j*5+1,none⟩=some ↑f.name/\w.cell? ⟨b,off+j*5+2,none⟩=some ↑f.cmp/\w.cell? ⟨b,off+j*5+3,none⟩=some ↑f.n/\w.cell? ⟨b,off+j*5+4,none⟩=some vk/\Ay w w f vk) len (fun j hj=>by obtain⟨cs',k',y',hk',_,hc,ht'⟩:=hx j hj;obtain⟨f,vk,rfl,hK⟩:=ih k' oM ht';exact⟨f,vk,hc 0 _ rfl,hc 1 _ rfl,hc 2 _ rfl,hc 3 _ rfl,hc 4 _ rfl,hK⟩);refine⟨.mk op name cmp n kids,_,rfl,?_⟩;unfold Ay;exact⟨_,cap,by rw [hl],oM,h2,fun _=>⟨b,off,rfl,hb,Ety kids b off hp⟩⟩
structure lI (a:Q02):Prop where
 kind:I64 a.kind
 n:I64 a.n
 pos:I64 a.change.pos
 meas:jF a.measure
theorem For {k:Nat} {cs:List ZC} {y:DataW H × List MemPlace} (ht:DataW.trod enc prog w 0 spare held k 64 cs=some y) : ∃ c vn,cs=A5 c vn/\C6 w w vn c.entry.names/\I64 c.pos:=by
 have hlen:=Nn underlying64 ht 5 kR;obtain⟨_,_,_,t0⟩:=Be underlying64 ht 0 3 0 1 rfl kR;obtain⟨_,_,_,t1⟩:=Be underlying64 ht 1 9 1 1 rfl kR;obtain⟨_,_,_,t2⟩:=Be underlying64 ht 2 62 2 2 rfl kR;obtain⟨_,_,_,t3⟩:=Be underlying64 ht 3 3 4 1 rfl kR;obtain⟨_,_,_,u0⟩:=Be underlying62 t2 0 9 0 1 rfl kR;obtain⟨_,_,_,u1⟩:=Be underlying62 t2 1 60 1 1 rfl kR;obtain⟨kind,e0,_⟩:=Fc t0;obtain⟨id,e1,_⟩:=Ks t1;obtain⟨eid,e2,_⟩:=Ks u0;obtain⟨vn,ns,e3,hN⟩:=Ipc u1;obtain⟨pos,e4,hp⟩:=Fc t3;match cs,hlen with
 |[c0,c1,c2,c3,c4],_ =>simp at e0 e1 e2 e3 e4;subst e0 e1 e2 e3 e4;exact⟨⟨kind,id,⟨eid,ns⟩,pos⟩,_,rfl,hN,hp⟩
theorem K1c {k:Nat} {cs:List ZC} {y:DataW H × List MemPlace} (ht:DataW.trod enc prog w 0 spare held k 69 cs=some y) : ∃ m vk,cs=Av m vk/\Ay w w m.aB vk/\jF m:=by
 have hlen:=Nn underlying69 ht 12 kR;obtain⟨_,_,_,t0⟩:=Be underlying69 ht 0 9 0 1 rfl kR;obtain⟨_,_,_,t1⟩:=Be underlying69 ht 1 9 1 1 rfl kR;obtain⟨_,_,_,t2⟩:=Be underlying69 ht 2 3 2 1 rfl kR;obtain⟨_,_,_,t3⟩:=Be underlying69 ht 3 9 3 1 rfl kR;obtain⟨_,_,_,t4⟩:=Be underlying69 ht 4 67 4 5 rfl kR;obtain⟨_,_,_,t5⟩:=Be underlying69 ht 5 3 9 1 rfl kR;obtain⟨_,_,_,t6⟩:=Be underlying69 ht 6 3 10 1 rfl kR;obtain⟨_,_,_,t7⟩:=Be underlying69 ht 7 3 11 1 rfl kR;obtain⟨id,e0,_⟩:=Ks t0;obtain⟨au,e1,_⟩:=Ks t1;obtain⟨kind,e2,n2⟩:=Fc t2;obtain⟨tg,e3,_⟩:=Ks t3;obtain⟨f,vk,e4,hK⟩:=K2a _ t4;obtain⟨x5,e5,n5⟩:=Fc t5;obtain⟨x6,e6,n6⟩:=Fc t6;obtain⟨x7,e7,n7⟩:=Fc t7;match cs,hlen with
 |[c0,c1,c2,c3,c4,c5,c6,c7,c8,c9,c10,c11],_ =>simp [Blt] at e0 e1 e2 e3 e4 e5 e6 e7;obtain⟨f0,f1,f2,f3,f4⟩:=e4;subst e0 e1 e2 e3 f0 f1 f2 f3 f4 e5 e6 e7;exact⟨⟨id,au,kind,tg,f,x5,x6,x7⟩,_,rfl,hK,⟨n2,n5,n6,n7⟩⟩
theorem Msk {k:Nat} {cs:List ZC} {y:DataW H × List MemPlace} (ht:DataW.trod enc prog w 0 spare held k 71 cs=some y) : ∃ l vm vp,cs=Br l vm vp/\Strs w w vm l.measures/\Strs w w vp l.aH:=by
 have hlen:=Nn underlying71 ht 7 kR;obtain⟨_,_,_,t0⟩:=Be underlying71 ht 0 9 0 1 rfl kR;obtain⟨_,_,_,t1⟩:=Be underlying71 ht 1 22 1 1 rfl kR;obtain⟨_,_,_,t2⟩:=Be underlying71 ht 2 22 2 1 rfl kR;obtain⟨_,_,_,t3⟩:=Be underlying71 ht 3 3 3 1 rfl kR;obtain⟨_,_,_,t4⟩:=Be underlying71 ht 4 3 4 1 rfl kR;obtain⟨_,_,_,t5⟩:=Be underlying71 ht 5 3 5 1 rfl kR;obtain⟨_,_,_,t6⟩:=Be underlying71 ht 6 3 6 1 rfl kR;obtain⟨id,e0,_⟩:=Ks t0;obtain⟨vm,lm,e1,hm,_⟩:=Sd t1;obtain⟨vp,lp,e2,hp,_⟩:=Sd t2;obtain⟨x3,e3,_⟩:=Fc t3;obtain⟨x4,e4,_⟩:=Fc t4;obtain⟨x5,e5,_⟩:=Fc t5;obtain⟨x6,e6,_⟩:=Fc t6;match cs,hlen with
 |[c0,c1,c2,c3,c4,c5,c6],_ =>simp at e0 e1 e2 e3 e4 e5 e6;subst e0 e1 e2 e3 e4 e5 e6;exact⟨⟨id,lm,lp,x3,x4,x5,x6⟩,_,_,rfl,hm,hp⟩
theorem K10 {k:Nat} {cs:List ZC} {y:DataW H × List MemPlace} (ht:DataW.trod enc prog w 0 spare held k 59 cs=some y) : ∃ l vj,cs=Ax l vj/\Strs w w vj l.joint:=by
 have hlen:=Nn underlying59 ht 10 kR;obtain⟨_,_,_,t0⟩:=Be underlying59 ht 0 9 0 1 rfl kR;obtain⟨_,_,_,t1⟩:=Be underlying59 ht 1 9 1 1 rfl kR;obtain⟨_,_,_,t2⟩:=Be underlying59 ht 2 9 2 1 rfl kR;obtain⟨_,_,_,t3⟩:=Be underlying59 ht 3 9 3 1 rfl kR;obtain⟨_,_,_,t4⟩:=Be underlying59 ht 4 9 4 1 rfl kR;obtain⟨_,_,_,t5⟩:=Be underlying59 ht 5 22 5 1 rfl kR;obtain⟨_,_,_,t6⟩:=Be underlying59 ht 6 3 6 1 rfl kR;obtain⟨_,_,_,t7⟩:=Be underlying59 ht 7 3 7 1 rfl kR;obtain⟨_,_,_,t8⟩:=Be underlying59 ht 8 3 8 1 rfl kR;obtain⟨_,_,_,t9⟩:=Be underlying59 ht 9 3 9 1 rfl kR;obtain⟨x0,e0,_⟩:=Ks t0;obtain⟨x1,e1,_⟩:=Ks t1;obtain⟨x2,e2,_⟩:=Ks t2;obtain⟨x3,e3,_⟩:=Ks t3;obtain⟨x4,e4,_⟩:=Ks t4;obtain⟨vj,x5,e5,hj,_⟩:=Sd t5;obtain⟨x6,e6,_⟩:=Fc t6;obtain⟨x7,e7,_⟩:=Fc t7;obtain⟨x8,e8,_⟩:=Fc t8;obtain⟨x9,e9,_⟩:=Fc t9;match cs,hlen with
 |[c0,c1,c2,c3,c4,c5,c6,c7,c8,c9],_ =>simp at e0 e1 e2 e3 e4 e5 e6 e7 e8 e9;subst e0 e1 e2 e3 e4 e5 e6 e7 e8 e9;exact⟨⟨x0,x1,x2,x3,x4,x5,x6,x7,x8,x9⟩,_,rfl,hj⟩
theorem Pmb {α:Type} (cs:List α) (h:cs.length=37):cs=(cs.drop 0).take 1++((cs.drop 1).take 5++((cs.drop 6).take 12++((cs.drop 18).take 7++((cs.drop 25).take 10++((cs.drop 35).take 1++(cs.drop 36).take 1))))):=by
 have key:∀ (o n m:Nat),m=o+n->cs.drop o=(cs.drop o).take n++cs.drop m:=fun o n m e=>by subst e;rw [<- List.drop_drop,D8]
 have e36:(cs.drop 36).take 1=cs.drop 36:=Bz (by simp;omega);rw [e36,<- key 35 1 36 rfl,<- key 25 10 35 rfl,<- key 18 7 25 rfl,<- key 6 12 18 rfl,<- key 1 5 6 rfl,<- key 0 1 1 rfl,Iz]
theorem Mst {k:Nat} {cs:List ZC} {y:DataW H × List MemPlace} (ht:DataW.trod enc prog w 0 spare held k 73 cs=some y) : ∃ a s,cs=As a s/\dA w w a s/\lI a:=by have hlen:=Nn underlying73 ht 37 kR;obtain⟨_,_,_,t0⟩:=Be underlying73 ht 0 3 0 1 rfl kR;obtain⟨_,_,_,t1⟩:=Be underlying73 ht 1 64 1 5 rfl kR;obtain⟨_,_,_,t2⟩:=Be underlying73 ht 2 69 6 12 rfl kR;obtain⟨_,_,_,t3⟩:=Be underlying73 ht 3 71 18 7 rfl kR;obtain⟨_,_,_,t4⟩:=Be underlying73 ht 4 59 25 10 rfl kR;obtain⟨_,_,_,t5⟩:=Be underlying73 ht 5 9 35 1 rfl kR;obtain⟨_,_,_,t6⟩:=Be underlying73 ht 6 3 36 1 rfl kR;obtain⟨kind,e0,n0⟩:=Fc t0;obtain⟨c,vn,e1,hN,np⟩:=For t1;obtain⟨m,vk,e2,hK,nm⟩:=K1c t2;obtain⟨l,vm,vp,e3,hm,hp⟩:=Msk t3;obtain⟨h,vj,e4,hj⟩:=K10 t4;obtain⟨id,e5,_⟩:=Ks t5;obtain⟨n,e6,nn⟩:=Fc t6;refine⟨⟨kind,c,m,l,h,id,n⟩,⟨vn,vk,vm,vp,vj⟩,?_,⟨hN,hK,hm,hp,hj⟩,⟨n0,nn,np,nm⟩⟩;rw [Pmb cs hlen,e0,e1,e2,e3,e4,e5,e6];rfl
theorem K2b {k:Nat} {cs:List ZC} {y:DataW H × List MemPlace} (h:DataW.trod enc prog w 0 spare held k 34 cs=some y) : ∃ v l,cs=[v]/\Ke w w v l/\∀ a∈l,lI a:=by
 obtain⟨a,len,cap,rfl,h1,h2,h3⟩:=Ri (C:=37) underlying34 kR dC h;by_cases h0:len=0;·exact FD82
 ·obtain⟨b,off,rfl,hb,hx⟩:=h3 h0;obtain⟨l,hl,hp⟩:=Ww (p:=fun j (x:Q02)=>(∃ s,(∀ i u,(As x s)[i]?=some u->w.cell? ⟨b,off+j*37+i,none⟩=some u)/\dA w w x s)/\lI x) len (fun j hj=>by obtain⟨cs',k',y',_,_,hc,ht⟩:=hx j hj;obtain⟨x,s,rfl,hr,hn⟩:=Mst ht;exact⟨x,⟨s,hc,hr⟩,hn⟩);exact FD89
structure iI (B:Nat) (w:ZB) (v:Q01) (s:aS):Prop where
 acts:Ke B w s.va v.acts
 sig:Strs B w s.v1 v.sel.sig
 path:Strs B w s.v2 v.sel.path
structure lG (v:Q01):Prop where
 authority:I64 v.authority
 number:I64 v.number
 pos:I64 v.pos
 index:I64 v.sel.index
 acts:∀ a∈v.acts,lI a
theorem Mrz {k:Nat} {cs:List ZC} {y:DataW H × List MemPlace} (ht:DataW.trod enc prog w 0 spare held k 38 cs=some y) : ∃ v s,cs=Al v s/\iI w w v s/\lG v:=by
 have hlen:=Nn underlying38 ht 8 kR;obtain⟨_,_,_,t0⟩:=Be underlying38 ht 0 3 0 1 rfl kR;obtain⟨_,_,_,t1⟩:=Be underlying38 ht 1 3 1 1 rfl kR;obtain⟨_,_,_,t2⟩:=Be underlying38 ht 2 3 2 1 rfl kR;obtain⟨_,_,_,t3⟩:=Be underlying38 ht 3 9 3 1 rfl kR;obtain⟨_,_,_,t4⟩:=Be underlying38 ht 4 34 4 1 rfl kR;obtain⟨_,_,_,t5⟩:=Be underlying38 ht 5 36 5 3 rfl kR;obtain⟨_,_,_,u0⟩:=Be underlying36 t5 0 3 0 1 rfl kR;obtain⟨_,_,_,u1⟩:=Be underlying36 t5 1 22 1 1 rfl kR;obtain⟨_,_,_,u2⟩:=Be underlying36 t5 2 22 2 1 rfl kR;obtain⟨x0,e0,n0⟩:=Fc t0;obtain⟨x1,e1,n1⟩:=Fc t1;obtain⟨x2,e2,n2⟩:=Fc t2;obtain⟨x3,e3,_⟩:=Ks t3;obtain⟨va,x4,e4,ha,na⟩:=K2b t4;obtain⟨x5,e5,n5⟩:=Fc u0;obtain⟨v1,x6,e6,h1,_⟩:=Sd u1;obtain⟨v2,x7,e7,h2,_⟩:=Sd u2;match cs,hlen with
 |[c0,c1,c2,c3,c4,c5,c6,c7],_ =>simp at e0 e1 e2 e3 e4 e5 e6 e7;subst e0 e1 e2 e3 e4 e5 e6 e7;exact⟨⟨x0,x1,x2,x3,x4,⟨x5,x6,x7⟩⟩,⟨_,_,_⟩,rfl,⟨ha,h1,h2⟩,⟨n0,n1,n2,n5,na⟩⟩
def L2 (B:Nat) (w:ZB) (v:ZC) (l:List Q01):Prop := ∃ a cap,v=.slice a l.length cap/\l.length<=cap/\cap<=9223372036854775807 /\ (l≠[]->∃ b off,a=some ⟨b,off,none⟩/\b<B/\∀ j x,l[j]?=some x->∃ s,(∀ i u,(Al x s)[i]?=some u->w.cell? ⟨b,off+j*8+i,none⟩=some u)/\iI B w x s)
theorem Kpy {k:Nat} {cs:List ZC} {y:DataW H × List MemPlace} (h:DataW.trod enc prog w 0 spare held k 23 cs=some y) : ∃ v l,cs=[v]/\L2 w w v l/\∀ a∈l,lG a:=by
 obtain⟨a,len,cap,rfl,h1,h2,h3⟩:=Ri (C:=8) underlying23 kR dC h;by_cases h0:len=0;·exact FD82
 ·obtain⟨b,off,rfl,hb,hx⟩:=h3 h0;obtain⟨l,hl,hp⟩:=Ww (p:=fun j (x:Q01)=>(∃ s,(∀ i u,(Al x s)[i]?=some u->w.cell? ⟨b,off+j*8+i,none⟩=some u)/\iI w w x s)/\lG x) len (fun j hj=>by obtain⟨cs',k',y',_,_,hc,ht⟩:=hx j hj;obtain⟨x,s,rfl,hr,hn⟩:=Mrz ht;exact⟨x,⟨s,hc,hr⟩,hn⟩);exact FD89
end
end
end Go.Proofs.Y
namespace CH
def jV (v:Version):Bool:=jW v.acts 5&&(ZH (v.prev.length<=60)&&(eH v.sel.sig 30&&eH v.sel.path 30))
def few (l:List Version) (most:Nat):Bool:=l.all jV&&ZH (l.length<=most)
end CH
namespace Go.Proofs.Y
open Go.RowKit Go.Lib Go.Shelf Go.Sort CH
theorem Ke.form {B:Nat} {w:ZB} {v:ZC} {l:List Q02} (h:Ke B w v l):∃ a cap,v=.slice a l.length cap:=by obtain⟨a,cap,h1,_⟩:=h;exact⟨a,cap,h1⟩
theorem iI.below {B B':Nat} {w w':ZB} {v:Q01} {s:aS} (h:iI B w v s) (hb:Below B' w w') (hB:B<=B'):iI B w' v s:=⟨h.acts.below hb hB,h.sig.below hb hB,h.path.below hb hB⟩
theorem iI.mono {B B':Nat} {w:ZB} {v:Q01} {s:aS} (h:iI B w v s) (hB:B<=B'):iI B' w v s:=⟨h.acts.mono hB,h.sig.mono hB,h.path.mono hB⟩
theorem I55 (v:ZC) (l:List Q01) (w:ZB) (hv:L2 w w v l) : ZE Tryz.prog 5 #[v,.int .i64 8] w (Ret w (.bool (CH.few l 8))):=by
 obtain⟨a,cap,rfl,hl,hcap,hne⟩:=hv;obtain⟨R,hR⟩:∃ R,Hid (CH.few l 8=R):=⟨_,Aa rfl⟩
 rw [hR.out];have hne:=Aa hne;obtain⟨N,hN⟩:∃ N,l.length=N:=⟨_,rfl⟩
 rw [hN] at hl ⊢;have hN:=Aa hN;go_enter Tryz.func5,Tryz.ntmps5;go_wp2_with fail;go_loopw [5] (fun i wr=>∃ k:Nat,k<=N/\i=↑k/\Hid (Below w w wr)/\Hid ((l.take k).all jV=true)) (fun i _=>N - (ZG i).toNat);case atStart=>exact⟨0,Az _,rfl,Aa (Ac _ _),Aa rfl⟩
 case round =>
  obtain⟨k,hk,rfl,hBr,hI⟩:=hrel;by_cases hlt:k<N
  ·obtain⟨b,off,rfl,hbl,kj⟩:=hne.out (by intro h;have:=hN.out;simp [h] at this;omega);obtain⟨x,hx⟩:∃ x,l[k]?=some x:=⟨_,Ad (by rw [hN.out];exact hlt)⟩
   obtain⟨⟨va,v1,v2⟩,hc,hat⟩:=kj k x hx;have KC:=Aa fun (W:ZB) (hb:Below w w W) (i:Nat) (u:ZC) (hi:(Al x ⟨va,v1,v2⟩)[i]?=some u)=>(hb.cell (p:=⟨b,off+k*8+i,none⟩) hbl).trans (hc i u hi);have HA:=Aa fun (W:ZB) (hb:Below w w W)=>(hat.below hb nR).mono hb.size;have hx:=Aa hx;clear kj hc;have hfalse:Hid (jV x=false->R=false):=Aa fun h=>by rw [<- hR.out];unfold CH.few;rw [gJ _ l k x hx.out h];rfl
   obtain⟨p1,hp1⟩:∃ p,Hid (jW x.acts 5=p):=⟨_,Aa rfl⟩
   obtain⟨m,hm⟩:∃ m,Hid (x.prev.length=m):=⟨_,Aa rfl⟩
   obtain⟨p3,hp3⟩:∃ p,Hid (eH x.sel.sig 30=p):=⟨_,Aa rfl⟩
   obtain⟨p4,hp4⟩:∃ p,Hid (eH x.sel.path 30=p):=⟨_,Aa rfl⟩
   obtain⟨p2,hp2⟩:∃ p,Hid (ZH (m<=60)=p):=⟨_,Aa rfl⟩
   have hact:Hid (jV x=(p1&&(p2&&(p3&&p4)))):=Aa (by rw [<- hp1.out,<- hp2.out,<- hp3.out,<- hp4.out,<- hm.out];rfl);have F1:=Aa fun (W:ZB) (hb:Below w w W)=>hp1.out ▸ Ggw va x.acts W (HA.out W hb).acts;have F3:=Aa fun (W:ZB) (hb:Below w w W)=>hp3.out ▸ Rb v1 x.sel.sig 30 W (HA.out W hb).sig;have F4:=Aa fun (W:ZB) (hb:Below w w W)=>hp4.out ▸ Rb v2 x.sel.path 30 W (HA.out W hb).path;obtain⟨xa,ya,e1⟩:=hat.acts.form;obtain⟨x1,y1,e2,_,_⟩:=hat.sig.form;obtain⟨x2,y2,e3,_,_⟩:=hat.path.form;change va=_ at e1;change v1=_ at e2;change v2=_ at e3;subst e1 e2 e3;clear hat HA;generalize x.acts.length=na at *;generalize x.sel.sig.length=n1 at *;generalize x.sel.path.length=n2 at *;have k4:=KC.out wr hBr.out 4 _ rfl;try dsimp only at k4
   go_wp2_with fail;refine CmZ (F1.out wr hBr.out) fun w3 hb3=>?_;have hB3:Below w w w3:=hBr.out.trans (hb3.mono hBr.out.size);clear F1 hb3 k4;cases p1 with
   |false =>go_wp2;go_ret;exact⟨by rw [hfalse.out (by rw [hact.out];rfl)];rfl,hB3⟩
   |true =>
    have k3:=KC.out w3 hB3 3 _ rfl;try dsimp only at k3
    have q60:ZH ((60:Int)<(x.prev.length:Int))=!p2:=by rw [<- hp2.out,hm.out];exact vH m
    cases p2 with
    |false =>go_wp2;go_ret;exact⟨by rw [hfalse.out (by rw [hact.out];rfl)];rfl,hB3⟩
    |true =>
     have k6:=KC.out w3 hB3 6 _ rfl;try dsimp only at k6
     go_wp2_with fail;refine CmZ (F3.out w3 hB3) fun w4 hb4=>?_;have hB4:Below w w w4:=hB3.trans (hb4.mono hB3.size);clear F3 hb4 k3 k6;cases p3 with
     |false =>go_wp2;go_ret;exact⟨by rw [hfalse.out (by rw [hact.out];rfl)];rfl,hB4⟩
     |true =>
      have k7:=KC.out w4 hB4 7 _ rfl;try dsimp only at k7
      go_wp2_with fail;refine CmZ (F4.out w4 hB4) fun w5 hb5=>?_;have hB5:Below w w w5:=hB4.trans (hb5.mono hB4.size);clear F4 hb5 k7;cases p4 with
      |false =>go_wp2;go_ret;exact⟨by rw [hfalse.out (by rw [hact.out];rfl)];rfl,hB5⟩
      |true =>have hI':Hid ((l.take (k+1)).all jV=true):=Aa (by rw [fJ _ l k x hx.out,hI.out,hact.out];rfl);have hB':Hid (Below w w w5):=Aa hB5;clear q60;exact FD152
  ·obtain rfl:k=N:=oM;have hall:l.all jV=true:=by have:=hI.out;rwa [<- hN.out,Dn] at this
   go_wp2;go_ret;have hk5:ZH ((k:Int)<=8)=R:=by rw [<- hR.out];unfold CH.few;rw [hall,hN.out,a_Bool_true_and,Eh];omega
   exact⟨by rw [<- hk5];rfl,hBr.out⟩
end Go.Proofs.Y
namespace Go.Proofs.Y
section
open Go.Lib Go.Proofs.Tryz Go.RowKit Go.Shelf Go.Sort CH
theorem Kh {ls:List Q00} {n:Nat} (h:eH ls n=true) (hn:n<=100000):Fx ls:=by unfold eH at h;simp only [Ba,Df,Bq] at h;exact⟨oM,fun l hl=>by have:=h.1 l hl;omega⟩
mutual
theorem Baz:∀ (f:CH.Formula),f.kP->Cy f
 |.mk _ _ _ _ kids,h=>by
  unfold CH.Formula.kP at h
  unfold Cy
  exact⟨oM,Us kids h.2⟩
theorem Us:∀ (l:List CH.Formula),gq l->G2 l
 |[],_=>by unfold G2;trivial
 |f::l,h=>by
  unfold gq at h
  unfold G2
  exact⟨Baz f h.1,Us l h.2⟩
end
mutual
theorem Up:∀ (f:CH.Formula),f.depth<=f.count
 |.mk _ _ _ _ kids=>by
  unfold CH.Formula.depth CH.Formula.count
  have:=U6 kids
  omega
theorem U6:∀ (l:List CH.Formula),aX l<=aK l
 |[]=>by unfold aX aK;omega
 |f::l=>by
  unfold aX aK
  have h1:=Up f
  have h2:=U6 l
  omega
end
theorem How {f:CH.Formula} (h:nT f 60=true):Cy f/\f.count<=60/\f.depth<=60:=by unfold nT at h;have h1:=G5 h;obtain⟨h2,h3⟩:=oD f 60 oM h1;have h4:=Up f;refine⟨Baz f h3,?_,?_⟩ <;> omega
theorem Vw {c:CH.Change} (h:jg c=true):iT c:=by
 unfold jg kT at h;simp only [Ba,Bq,Df] at h;obtain⟨h1,h2,h3,h4⟩:=h;refine⟨oM,⟨oM,oM,fun n hn=>?_⟩⟩;have hn':n∈c.entry.names.take 10:=by rw [Bz oM];exact hn
 have:=h2 n hn';unfold jd at this;simp only [Ba,Bq,Df] at this;refine⟨oM,fun l hl=>?_⟩;have hl':l∈n.words.take 20:=by rw [Bz oM];exact hl
 have:=this.1 l hl';omega
theorem Are {h:aQ} (hf:lD h=true):jk h:=by unfold lD at hf;simp only [Ba,Bq,Df] at hf;obtain⟨⟨h1,h2,h3,h4,h5,h6⟩,h7⟩:=hf;exact⟨oM,oM,oM,oM,oM,⟨oM,fun l hl=>by have:=h7 l hl;omega⟩⟩
theorem Map {B:Nat} {w:ZB} {a:Q02} {s:eG} (h:dA B w a s) (hn:lI a) (hf:kU a=true):fH B w a s:=by unfold kU at hf;simp only [Ba] at hf;obtain⟨h1,h2,h3,h4,h5,h6⟩:=hf;obtain⟨q1,q2,q3⟩:=How h2;have s3:=Kh h3 oM;have q5:=s3.2 a.id sM;have q6:=s3.2 a.measure.id sM;have q7:=s3.2 a.measure.authority sM;have q8:=s3.2 a.measure.target sM;have q9:=s3.2 a.licence.id sM;exact⟨h.names,⟨h.kids,hn.meas,q6,q7,q8,q1,oM,oM⟩,h.lm,h.lp,h.hj,⟨Vw h1,hn.pos,q9,Kh h4 oM,Kh h5 oM,Are h6,q5,hn.kind,hn.n⟩⟩
theorem I37 {B:Nat} {w:ZB} {v:ZC} {l:List Q02} (h:Ke B w v l) (hn:∀ a∈l,lI a) (hf:∀ a∈l,kU a=true):F0 B w v l:=by obtain⟨a,cap,h1,h2,h3,h4⟩:=h;refine⟨a,cap,h1,h2,h3,fun hne=>?_⟩;obtain⟨b,off,e,hlt,hx⟩:=h4 hne;refine⟨b,off,e,hlt,fun j x hj=>?_⟩;obtain⟨s,c1,c2⟩:=hx j x hj;have hm:=Ap hj;exact⟨s,c1,Map c2 (hn x hm) (hf x hm)⟩
theorem Ka8 {B:Nat} {w:ZB} {v:Q01} {s:aS} (h:iI B w v s) (hn:lG v) (hf:jV v=true):aG B w v s:=by unfold jV jW at hf;simp only [Ba,Bq,Df] at hf;obtain⟨⟨h1,h2⟩,h3,h4,h5⟩:=hf;exact⟨I37 h.acts hn.acts h1,h.sig,h.path,⟨hn.authority,hn.number,hn.pos,oM,hn.index,Kh h4 oM,Kh h5 oM⟩⟩
end
section
open Go.Lib Go.Proofs.Tryz Go.RowKit Go.Shelf Go.Sort CH
attribute [local irreducible] wpQuiet
theorem Mg {w W:ZB} {C C':List ZC} {T T':ZJ} (hW:(w.alloc (.cells C.toArray T)).alloc (.cells C'.toArray T')=W) (W':ZB) (hb:Below W W W') : (∀ i u,C[i]?=some u->W'.cell? ⟨w,i,none⟩=some u)/\(∀ i u,C'[i]?=some u->W'.cell? ⟨w+1,i,none⟩=some u):=by subst hW;have h1:=(hb.block w (by simp;omega)).trans (M7 w _ _).1;have h2:=(hb.block (w+1) sM).trans (M7 w _ _).2;exact⟨fun i u hi=>(Ab h1 i).trans (by simpa using hi),fun i u hi=>(Ab h2 i).trans (by simpa using hi)⟩
theorem Bfp:∀ (d:Nat) (f:CH.Formula) (vk vk':ZC) (w:ZB),f.depth<=d->Ay w w f vk->Ay w w f vk' ->
  ZE prog 218 #[.agg (Ao f vk),.agg (Ao f vk')] w (Ret w (.bool true))
 |0,f,vk,vk',w,hd,hK,hK'=>by
  rw [Ex] at hd
  omega
 |d+1,.mk op name cmp fn kids,vk,vk',w,hd,hK,hK'=>by
  obtain⟨a,cap,rfl,hl,hcap,hne⟩:=hK.form
  obtain⟨a',cap',rfl,hl',hcap',hne'⟩:=hK'.form
  dsimp only [Ao,CH.Formula.op,CH.Formula.name,CH.Formula.cmp,CH.Formula.n,CH.Formula.kids] at *
  rw [Ex] at hd
  dsimp only [CH.Formula.kids] at hd
  have IH:=Aa (Bfp d)
  have hdk:=Aa hd
  clear hd hK hK'
  have hne:=Aa hne
  have hne':=Aa hne'
  obtain⟨N,hN⟩:∃ N,kids.length=N:=⟨_,rfl⟩
  rw [hN] at hl hl' ⊢
  have hN:=Aa hN
  have hB0:=fun o o2=>((Ac _ w).alloc nR o).alloc sM o2
  have A2:=M7 w
  go_enter func218,ntmps218
  go_wp2_with fail
  generalize hWd:(w.alloc _).alloc _=W at *
  have c4:W.cell? ⟨w,4,none⟩=some (.slice a N cap):=by rw [<- hWd];exact Ab (A2 _ _).1 4
  have c4':W.cell? ⟨w+1,4,none⟩=some (.slice a' N cap'):=by rw [<- hWd];exact Ab (A2 _ _).2 4
  have hBW:Below w w W:=by rw [<- hWd];exact hB0 _ _
  have hlW:w.heap.size+1<W.heap.size:=by rw [<- hWd];simp
  clear hWd hB0 A2
  go_loopw [5] (fun i wr=>∃ j:Nat,j<=N/\i=↑j/\Hid (Below W W wr)) (fun i _=>N - (ZG i).toNat)
  case atStart=>exact⟨0,Az _,rfl,Aa (Ac _ _)⟩
  case round =>
   obtain⟨j,hj,rfl,hBr⟩:=hrel
   have k4:=(hBr.out.cell (p:=⟨w,4,none⟩) (by show w.heap.size<_;omega)).trans c4
   have k4':=(hBr.out.cell (p:=⟨w+1,4,none⟩) hlW).trans c4'
   have hBw:Below w w wr:=hBW.trans (hBr.out.mono hBW.size)
   by_cases hlt:j<N
   ·obtain⟨f,hget⟩:∃ f,kids[j]?=some f:=⟨_,Ad (by rw [hN.out];exact hlt)⟩
    obtain⟨b,off,rfl,hbl,hrow⟩:=hne.out (by intro h;have:=hN.out;simp [h] at this;omega)
    obtain⟨b',off',rfl,gV,hrow'⟩:=hne'.out (by intro h;have:=hN.out;simp [h] at this;omega)
    obtain⟨vf,e0,e1,e2,e3,e4,hkf⟩:=dw.get kids b off j f hrow hget
    obtain⟨vf',e0',e1',e2',e3',e4',zq⟩:=dw.get kids b' off' j f hrow' hget
    have k0:=(hBw.cell (p:=⟨b,off+j*5,none⟩) hbl).trans e0
    have k1:=(hBw.cell (p:=⟨b,off+j*5+1,none⟩) hbl).trans e1
    have k2:=(hBw.cell (p:=⟨b,off+j*5+2,none⟩) hbl).trans e2
    have k3:=(hBw.cell (p:=⟨b,off+j*5+3,none⟩) hbl).trans e3
    have k5:=(hBw.cell (p:=⟨b,off+j*5+4,none⟩) hbl).trans e4
    have k0':=(hBw.cell (p:=⟨b',off'+j*5,none⟩) gV).trans e0'
    have k1':=(hBw.cell (p:=⟨b',off'+j*5+1,none⟩) gV).trans e1'
    have k2':=(hBw.cell (p:=⟨b',off'+j*5+2,none⟩) gV).trans e2'
    have k3':=(hBw.cell (p:=⟨b',off'+j*5+3,none⟩) gV).trans e3'
    have k5':=(hBw.cell (p:=⟨b',off'+j*5+4,none⟩) gV).trans e4'
    have C:=Aa fun (W':ZB) (hb:Below wr wr W')=>IH.out f vf vf' W' (by have:=K6 (Ap hget);have:=hdk.out;omega) (Ay.mono (Af hBw.size hb.size) _ _ (Ay.below (hBw.trans (hb.mono hBw.size)) nR _ _ hkf)) (Ay.mono (Af hBw.size hb.size) _ _ (Ay.below (hBw.trans (hb.mono hBw.size)) nR _ _ zq))
    obtain⟨af,cf,rfl,_,_,_⟩:=hkf.form
    obtain⟨af',cf',rfl,_,_,_⟩:=zq.form
    clear e0 e1 e2 e3 e4 e0' e1' e2' e3' e4' hrow hrow' hget hkf zq IH
    dsimp only [Ao] at C
    generalize f.kids.length=nf at *
    generalize f.name=fname at *
    generalize f.op=fop at *
    generalize f.cmp=AZ at *
    generalize f.n=ffn at *
    have z0:(0:Int)<=(j:Int):=oM
    have zk:((j:Int)).toNat=j:=oM
    have hk':(j:Int)<(N:Int):=oM
    have gk4:∀ (d:Nat) (os:Array Obj),(grow (ZI wr d) os).cell? ⟨w,4,none⟩=some (.slice (some ⟨b,off,none⟩) N cap):=Ag k4
    have LY:∀ (d:Nat) (os:Array Obj),(grow (ZI wr d) os).cell? ⟨w+1,4,none⟩=some (.slice (some ⟨b',off',none⟩) N cap'):=Ag k4'
    have gk0:∀ (d:Nat) (os:Array Obj),(grow (ZI wr d) os).cell? ⟨b,off+j*5,none⟩=some ↑fop:=Ag k0
    have gk1:∀ (d:Nat) (os:Array Obj),(grow (ZI wr d) os).cell? ⟨b,off+j*5+1,none⟩=some ↑fname:=Ag k1
    have gk2:∀ (d:Nat) (os:Array Obj),(grow (ZI wr d) os).cell? ⟨b,off+j*5+2,none⟩=some ↑AZ:=Ag k2
    have gk3:∀ (d:Nat) (os:Array Obj),(grow (ZI wr d) os).cell? ⟨b,off+j*5+3,none⟩=some ↑ffn:=Ag k3
    have gk5:∀ (d:Nat) (os:Array Obj),(grow (ZI wr d) os).cell? ⟨b,off+j*5+4,none⟩=some (.slice af nf cf):=Ag k5
    have MF:∀ (d:Nat) (os:Array Obj),(grow (ZI wr d) os).cell? ⟨b',off'+j*5,none⟩=some ↑fop:=Ag k0'
    have MC:∀ (d:Nat) (os:Array Obj),(grow (ZI wr d) os).cell? ⟨b',off'+j*5+1,none⟩=some ↑fname:=Ag k1'
    have MB:∀ (d:Nat) (os:Array Obj),(grow (ZI wr d) os).cell? ⟨b',off'+j*5+2,none⟩=some ↑AZ:=Ag k2'
    have LZ:∀ (d:Nat) (os:Array Obj),(grow (ZI wr d) os).cell? ⟨b',off'+j*5+3,none⟩=some ↑ffn:=Ag k3'
    have LW:∀ (d:Nat) (os:Array Obj),(grow (ZI wr d) os).cell? ⟨b',off'+j*5+4,none⟩=some (.slice af' nf cf'):=Ag k5'
    go_wp2_with fail
    refine Ar kR kR ?_
    repeat (quiet_step ((with_reducible exact Bc (C.out _ (D6 _ _ _)))))
    refine Bv ?_
    intro wq hbq
    replace hbq:=An hbq
    clear C gk4 LY gk0 gk1 gk2 gk3 gk5 MF MC MB LZ LW k4 k4' k0 k1 k2 k3 k5 k0' k1' k2' k3' k5'
    have hB1:Hid (Below W W wq):=Aa (hBr.out.trans (hbq.mono hBr.out.size))
    go_wp2
    go_roundw
    case rel=>exact⟨j+1,oM,by go_num,hB1⟩
    case measure=>simp [ZG];omega
   ·obtain rfl:j=N:=oM
    go_wp2
    go_ret
    exact⟨rfl,hBw⟩
theorem Mq (m:bD) (vk vk':ZC) (w:ZB) (hK:Ay w w m.aB vk) (hK':Ay w w m.aB vk') : ZE prog 140 #[.agg (Av m vk).toArray,.agg (Av m vk').toArray] w (Ret w (.bool true)):=by have hB0:=Aa fun o o2=>((Ac _ w).alloc nR o).alloc sM o2;have F:=Aa fun (W:ZB) (hb:Below w w W)=>Bfp m.aB.depth m.aB vk vk' W nR (Ay.mono hb.size _ _ (Ay.below hb nR _ _ hK)) (Ay.mono hb.size _ _ (Ay.below hb nR _ _ hK'));obtain⟨a,cap,rfl,_,_,_⟩:=hK.form;obtain⟨a',cap',rfl,_,_,_⟩:=hK'.form;clear hK hK';generalize m.aB.kids.length=N at *;dsimp only [Av,Ao] at *;go_enter func140,ntmps140;go_wp2_with fail;refine (F.out _ (hB0.out _ _)).mono ?_;exact FD141
theorem Mr (l:fF) (vm vp vm' vp':ZC) (w:ZB) (h1:Strs w w vm l.measures) (h2:Strs w w vp l.aH) (h1':Strs w w vm' l.measures) (h2':Strs w w vp' l.aH) : ZE prog 141 #[.agg (Br l vm vp).toArray,.agg (Br l vm' vp').toArray] w (Ret w (.bool true)):=by
 have hB0:=Aa fun o o2=>((Ac _ w).alloc nR o).alloc sM o2;have T1:=Aa fun (W:ZB) (hb:Below w w W)=>Kl vm vm' l.measures W ((h1.below hb nR).mono hb.size) ((h1'.below hb nR).mono hb.size);have T2:=Aa fun (W:ZB) (hb:Below w w W)=>Kl vp vp' l.aH W ((h2.below hb nR).mono hb.size) ((h2'.below hb nR).mono hb.size);obtain⟨_,_,rfl,_,_⟩:=h1.form;obtain⟨_,_,rfl,_,_⟩:=h2.form;obtain⟨_,_,rfl,_,_⟩:=h1'.form;obtain⟨_,_,rfl,_,_⟩:=h2'.form;clear h1 h2 h1' h2';generalize l.measures.length=n1 at *;generalize l.aH.length=n2 at *;dsimp only [Br] at *;go_enter func141,ntmps141;go_wp2_with fail;have B:=hB0.out;generalize hWd:(w.alloc _).alloc _=W at *;have hBW:Below w w W:=by rw [<- hWd];exact B _ _
 have K:=Aa (Mg hWd);clear hWd hB0 B;refine CmZ (T1.out _ hBW) fun w1 hb1=>?_;have hB1:=hBW.trans (hb1.mono hBW.size);have k2:=(K.out w1 hb1).1 2 _ rfl;have k2':=(K.out w1 hb1).2 2 _ rfl;clear T1;go_wp2_with fail;refine CmZ (T2.out _ hB1) fun w2 hb2=>?_;have hB2:=hB1.trans (hb2.mono hB1.size);have hb2:=hb1.trans (hb2.mono hb1.size);have k3:=(K.out w2 hb2).1 3 _ rfl;have k3':=(K.out w2 hb2).2 3 _ rfl;have k4:=(K.out w2 hb2).1 4 _ rfl;have k4':=(K.out w2 hb2).2 4 _ rfl;have k5:=(K.out w2 hb2).1 5 _ rfl;have k5':=(K.out w2 hb2).2 5 _ rfl;have k6:=(K.out w2 hb2).1 6 _ rfl;have k6':=(K.out w2 hb2).2 6 _ rfl;clear T2 K k2 k2';exact FD123
theorem R7 (h:aQ) (vj vj':ZC) (w:ZB) (h1:Strs w w vj h.joint) (h1':Strs w w vj' h.joint) : ZE prog 142 #[.agg (Ax h vj).toArray,.agg (Ax h vj').toArray] w (Ret w (.bool true)):=by
 have hB0:=Aa fun o o2=>((Ac _ w).alloc nR o).alloc sM o2;have T1:=Aa fun (W:ZB) (hb:Below w w W)=>Sy vj vj' h.joint W ((h1.below hb nR).mono hb.size) ((h1'.below hb nR).mono hb.size);obtain⟨_,_,rfl,_,_⟩:=h1.form;obtain⟨_,_,rfl,_,_⟩:=h1'.form;clear h1 h1';generalize h.joint.length=n1 at *;dsimp only [Ax] at *;go_enter func142,ntmps142;go_wp2_with fail;have B:=hB0.out;generalize hWd:(w.alloc _).alloc _=W at *;have hBW:Below w w W:=by rw [<- hWd];exact B _ _
 have K:=Aa (Mg hWd);clear hWd hB0 B;refine CmZ (T1.out _ hBW) fun w1 hb1=>?_;have hB1:=hBW.trans (hb1.mono hBW.size);have k6:=(K.out w1 hb1).1 6 _ rfl;have k6':=(K.out w1 hb1).2 6 _ rfl;have k7:=(K.out w1 hb1).1 7 _ rfl;have k7':=(K.out w1 hb1).2 7 _ rfl;have k8:=(K.out w1 hb1).1 8 _ rfl;have k8':=(K.out w1 hb1).2 8 _ rfl;have k9:=(K.out w1 hb1).1 9 _ rfl;have k9':=(K.out w1 hb1).2 9 _ rfl;dsimp only [aA,aJ] at k6 k6' k7 k7' k8 k8' k9 k9';clear T1 K;exact FD25
theorem B7d (x:xu) (v1 v2 v1' v2':ZC) (w:ZB) (h1:Strs w w v1 x.sig) (h2:Strs w w v2 x.path) (h1':Strs w w v1' x.sig) (h2':Strs w w v2' x.path) : ZE prog 76 #[.agg #[↑x.index,v1,v2],.agg #[↑x.index,v1',v2']] w (Ret w (.bool true)):=by
 have hB0:=Aa fun o o2=>((Ac _ w).alloc nR o).alloc sM o2;have T1:=Aa fun (W:ZB) (hb:Below w w W)=>S3 v1 v1' x.sig W ((h1.below hb nR).mono hb.size) ((h1'.below hb nR).mono hb.size);have T2:=Aa fun (W:ZB) (hb:Below w w W)=>S3 v2 v2' x.path W ((h2.below hb nR).mono hb.size) ((h2'.below hb nR).mono hb.size);obtain⟨_,_,rfl,_,_⟩:=h1.form;obtain⟨_,_,rfl,_,_⟩:=h2.form;obtain⟨_,_,rfl,_,_⟩:=h1'.form;obtain⟨_,_,rfl,_,_⟩:=h2'.form;clear h1 h2 h1' h2';generalize x.sig.length=n1 at *;generalize x.path.length=n2 at *;go_enter func76,ntmps76;go_wp2_with fail;have B:=hB0.out;generalize hWd:(w.alloc _).alloc _=W at *;have hBW:Below w w W:=by rw [<- hWd];exact B _ _
 have K:=Aa (Mg hWd);clear hWd hB0 B;refine CmZ (T1.out _ hBW) fun w1 hb1=>?_;have hB1:=hBW.trans (hb1.mono hBW.size);have k2:=(K.out w1 hb1).1 2 _ rfl;have k2':=(K.out w1 hb1).2 2 _ rfl;clear T1 K;go_wp2_with fail;refine CmZ (T2.out _ hB1) fun w2 hb2=>?_;have hB2:=hB1.trans (hb2.mono hB1.size);clear T2;exact FD123
end
end Go.Proofs.Y
