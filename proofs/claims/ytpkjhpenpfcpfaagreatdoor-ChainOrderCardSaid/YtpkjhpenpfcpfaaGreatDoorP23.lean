/-
  ChainOrder: the proof, part 24 of 28.
-/
import Derived.Test.YtpkjhpenpfcpfaaGreatDoorP21
import Derived.Test.YtpkjhpenpfcpfaaGreatDoorP22
set_option linter.unusedSimpArgs false
set_option linter.unusedVariables false
set_option maxHeartbeats 40000000
set_option maxRecDepth 100000
open Go renaming World -> ZB, Value -> ZC, Calls -> ZE
open Go.RowKit renaming intOf -> ZG
namespace Go.Proofs.YtpkjhpenpfcpfaaGreatDoor
section
open Go.Lib Go.Proofs.Tryz Go.RowKit Go.Shelf Go.Sort CH
theorem Rv:∀ (xs:List (CH.Version × dA)) (j i:Nat) (y:CH.Version × dA),xs[j]?=some y->i<8->(B6 xs)[j*8+i]?=(Al y.1 y.2)[i]?
 |[],j,i,y,h,_=>by simp at h
 |x::xs,0,i,y,h,hi=>by
  simp only [Fv,Ep] at h
  subst h
  unfold B6
  rw [Ej,Gh (by show 0*8+i<8;omega),Nat.zero_mul,Bh]
 |x::xs,j+1,i,y,h,hi=>by
  simp only [Fz] at h
  have:=Rv xs j i y h hi
  unfold B6 at this ⊢
  have e8:(Al x.1 x.2).length=8:=rfl
  rw [Ej,Fj (by rw [e8];omega),e8,<- this]
  congr 1
  omega
theorem Cv.at {base B:Nat} {w:ZB} {v:ZC} {ls:List CH.Version} (h:Cv base B w v ls):Hj w w v ls:=by
 obtain⟨xs,h1,h2,h3,h4,h5⟩:=h;have h2':=h2;have hl:xs.length=ls.length:=by rw [<- h1,Cm]
 obtain⟨hlen,⟨rfl,h0⟩|⟨g,cap,cur,rfl,hb,hg,hn,hc,hsz,htk⟩⟩:=h2;·have:ls=[]:=Cb.1 h0;subst this;exact FD81
 ·have mP:=(aZ hg)
  refine⟨_,cap,rfl,hn,by unfold maxLen at hc;omega,fun _=>⟨g,0,rfl,mP,fun j x hj=>?_⟩⟩;rw [<- h1,Fe] at hj;cases hy:xs[j]? with
  |none=>rw [hy] at hj;cases hj
  |some y =>
   rw [hy] at hj;cases hj;have hjl:=(lS hy)
   refine⟨y.2,fun i u hi=>?_,(h3 _ (Aw hy)).mono (Ag h4 h5)⟩;have hi8:i<8:=(lS hi)
   rw [Bh,G8 h2' (j*8+i) oM,Rv xs j i y hy hi8];exact hi
theorem Hw2 {w:ZB} {ops:Array Oper} {rest:List Oper} {o:Oper} {a:Act} {Q:Exit->Act->ZB->Prop} (hgd:o.guard=none) (s x:Operand) (ho:o.op=.call { callee:=.builtin .append,args:=#[s,x],argTypes:=#[23,23] }) (base B:Nat) (v:ZC) (out:List CH.Version) (hO:Cv base B w v out) (hs:a.eval s=v) (y:CH.Version) (sy:dA) (g c:Nat) (hx:a.eval x=.slice (some ⟨g,0,none⟩) 1 c) (hr:w.rangeAt g 0 (Al y sy)) (hat:aP B w y sy) (n:Nat) (hn:out.length=n) (hlen:n+1<=1000000) (h:∀ av cv w',Cv base B w' (.slice av (n+1) cv) (out++[y])->Below base w w'->wpList prog ops Q rest (a.put o.dst (.slice av (n+1) cv)) w') : wpList prog ops Q (o::rest) a w:=by
 obtain⟨xs,hx1,hx2,hx3,hx4,hx5⟩:=hO;rw [hn] at hx2;have hob:∀ j,v.ownBlock=some j->base<=j:=by exact FD34
 refine Pp hgd s x ho base v n (B6 xs) hs hx2 _ 1 (Al y sy) hx (.inl ⟨⟨g,0,none⟩,c,rfl,fun j u hj=>?_⟩) rfl (Hv hat) hlen hx5 ?_;·rw [Go.WideShapes.add_plain];exact hr j u hj
 ·intro v' w' g1 g2 g3;have hgb:Below base w w':=Kc g2 hx5 hob;have hO3:Cv base B w' v' (out++[y]):=by
   refine⟨xs++[(y,sy)],by rw [Eh,hx1];rfl,?_,fun z hz=>?_,hx4,Ag hx5 hgb.size⟩;·rw [Aj,hn,Dw,S3];exact g1
   ·rcases Di.1 hz with h1|h1;·exact (hx3 z h1).below hgb hx4
    ·cases Bv.1 h1;exact hat.below hgb hx4
  obtain⟨a',c',rfl,_⟩:=hO3.form;have e:(out++[y]).length=n+1:=by rw [Aj,hn];rfl
  rw [e] at hO3 ⊢;exact h a' c' w' hO3 hgb
theorem Zp (a:Int) (w:ZB):ZE prog 52 #[.pointer none,↑a] w (fun e w'=>e=.returned (.tuple #[.slice none 0 0,.string ⟨#[]⟩])/\w=w'):=by
 go_enter func52,ntmps52;go_wp2_with fail;go_loopw [6,7,8] (fun ov hv lv wr=>ov=.slice none 0 0/\hv=.string ⟨#[]⟩/\lv=.int .i64 0/\wr=w) (fun _ _ _ _=>0);case atStart=>exact⟨rfl,rfl,rfl,rfl⟩
 case round =>obtain⟨rfl,rfl,rfl,rfl⟩:=hrel;go_wp2;refine Ah (Am rfl _ _ _) rfl ?_;exact⟨rfl,rfl⟩
theorem Exp (a:Int) (w:ZB):ZE prog 21 #[.pointer none,↑a] w (fun e w'=>e=.returned (.tuple #[.int .i64 0,.string ⟨#[]⟩])/\w=w'):=by go_enter func21,ntmps21;go_wp2_with fail;refine (Zp a w).mono ?_;rintro e w1 ⟨rfl,rfl⟩;go_wp2;refine Ah (Am rfl _ _ _) rfl ?_;exact⟨rfl,rfl⟩
theorem Rd (keys:List (List UInt8)) (l:List CH.Version):∀ p v,(p,v)∈(fG keys l).1->p.2<=200:=fun p v hpv=>by have good:=iG (chk:=eU) (keys:=keys) l [] [] (l7 eU keys);have h1:=good.key _ _ hpv;have h2:=good.number _ _ hpv;rw [h1];exact h2.2
end
section
open Go.Lib Go.Proofs.Tryz Go.RowKit Go.Shelf Go.Sort CH
attribute [local irreducible] wpQuiet
theorem Dat {α β:Type} {P:Nat->α->β->Prop}:∀ (l:List α) (o:Nat),(∀ j x,l[j]?=some x->∃ s,P (o+j) x s)->∃ xs:List (α × β),xs.map (·.1)=l/\∀ j y,xs[j]?=some y->P (o+j) y.1 y.2
 |[],_,_=>⟨[],rfl,fun j y h=>by simp at h⟩
 |x::l,o,h=>by
  obtain⟨s,hs⟩:=h 0 x rfl
  obtain⟨xs,h1,h2⟩:=Dat l (o+1) fun j y hy=>by
   obtain⟨s,hs⟩:=h (j+1) y (by simpa using hy)
   exact⟨s,by rwa [Jc,Nat.add_comm 1 j]⟩
  refine⟨(x,s)::xs,by rw [Eu,h1],fun j y hy=>?_⟩
  cases j with
  |zero =>
   cases hy
   exact hs
  |succ j =>
   have:=h2 j y (by simpa using hy)
   rwa [Jc,Nat.add_comm 1 j] at this
theorem Ke8 {B:Nat} {w:ZB} {v:ZC} {ls:List CH.Version} (h:Hj B w v ls):∃ xs:List (CH.Version × dA),xs.map (·.1)=ls/\Ym w v ls.length (B6 xs)/\(∀ x∈xs,aP B w x.1 x.2)/\∀ u∈B6 xs,u.oneCell'=true:=by
 obtain⟨a,cap,rfl,h2,h3,h4⟩:=h;by_cases hne:ls=[]
 ·subst hne;refine⟨[],rfl,?_,(fun _ h=>by cases h),(fun _ h=>by cases h)⟩;cases a with
  |none=>exact .inr ⟨cap,rfl,rfl,rfl⟩
  |some a=>exact .inl ⟨a,cap,rfl,fun j u hj=>by simp [B6] at hj⟩
 ·obtain⟨b,off,rfl,hb,hx⟩:=h4 hne;obtain⟨xs,h5,h6⟩:=Dat (P:=fun j x s=>(∀ i u,(Al x s)[i]?=some u->w.cell? ⟨b,off+j*8+i,none⟩=some u)/\aP B w x s) ls 0 (fun j x hj=>by rw [Bh];exact hx j x hj);have hat:∀ y∈xs,aP B w y.1 y.2:=fun y hy=>by obtain⟨j,hj⟩:=Dy.1 hy;exact (h6 j y hj).2
  have hl:xs.length=ls.length:=by rw [<- h5,Cm]
  refine⟨xs,h5,.inl ⟨⟨b,off,none⟩,cap,rfl,fun j u hj=>?_⟩,hat,fun u hu=>?_⟩
  ·have hjl:=(lS hj)
   rw [Mp] at hjl;obtain⟨y,hy⟩:∃ y,xs[j / 8]?=some y:=⟨_,Ad oM⟩
   have e:=(h6 _ y hy).1 (j % 8) u (by rw [<- Rv xs (j / 8) (j % 8) y hy oM,show j / 8*8+j % 8=j by omega];exact hj);rw [Go.WideShapes.add_plain];rwa [Bh,Jc,show j / 8*8+j % 8=j by omega] at e
  ·unfold B6 at hu;obtain⟨x,hx,hux⟩:=List.mem_flatMap.1 hu;exact Hv (hat x hx) u hux
theorem Uz {w:ZB} {ops:Array Oper} {rest:List Oper} {o:Oper} {a:Act} {Q:Exit->Act->ZB->Prop} (hgd:o.guard=none) (s x:Operand) (ho:o.op=.call { callee:=.builtin .append,args:=#[s,x],argTypes:=#[23,23] }) (base B:Nat) (v:ZC) (out:List CH.Version) (hO:Cv base B w v out) (hs:a.eval s=v) (vx:ZC) (ys:List CH.Version) (hx:a.eval x=vx) (hv:Hj B w vx ys) (hlen:out.length+ys.length<=1000000) (h:∀ v' w',Cv base B w' v' (out++ys)->Below base w w'->w.grownBy w' v.ownBlock->wpList prog ops Q rest (a.put o.dst v') w') : wpList prog ops Q (o::rest) a w:=by
 obtain⟨xs,hx1,hx2,hx3,hx4,hx5⟩:=hO;obtain⟨zs,hz1,hz2,hz3,hz4⟩:=Ke8 hv;have hob:∀ j,v.ownBlock=some j->base<=j:=by exact FD34
 refine Pp hgd s x ho base v out.length (B6 xs) hs hx2 vx ys.length (B6 zs) hx hz2 (by rw [Mp,<- hz1,Cm]) hz4 hlen hx5 ?_;intro v' w' g1 g2 g3;have hgb:Below base w w':=Kc g2 hx5 hob;refine h v' w' ⟨xs++zs,by rw [Eh,hx1,hz1],?_,fun z hz=>?_,hx4,Ag hx5 hgb.size⟩ hgb g2;·rw [Aj];have:B6 (xs++zs)=B6 xs++B6 zs:=Ig;rw [this];exact g1
 ·rcases Di.1 hz with h1|h1;·exact (hx3 z h1).below hgb hx4
  ·exact (hz3 z h1).below hgb hx4
theorem Cv.own {base B:Nat} {w:ZB} {v:ZC} {ls:List CH.Version} (h:Cv base B w v ls) (j:Nat) (hj:v.ownBlock=some j):base<=j/\j<w.heap.size:=by
 obtain⟨xs,_,⟨_,⟨rfl,_⟩|⟨g,cap,cur,rfl,hb,hg,_⟩⟩,_⟩:=h;·cases hj
 ·cases hj;exact⟨hb,(aZ hg)⟩
theorem ChainIn.over {B K:Nat} {w w':ZB} {row:Option Nat} {c r1 r2:Nat} {keys:List (List UInt8)} {known:List ((Int × Int) × CH.Version)} {forks:CH.Forks} (h:ChainIn B K w c r1 r2 keys known forks) (g:w.grownBy w' row) (hr:∀ j,row=some j->B<=j/\j<K) (hc:K<=c) (h1:K<=r1) (h2:K<=r2):ChainIn B K w' c r1 r2 keys known forks:=by
 have hne:∀ k,K<=k->some k≠row:=fun k hk e=>by have:=(hr k e.symm).2;omega
 have hb:Below B w w':=Kc g h.le fun j hj=>(hr j hj).1;obtain⟨vk,e1,e2⟩:=h.ex;obtain⟨k1,e3,e4⟩:=h.known;obtain⟨k2,e5,e6⟩:=h.forks;have hcb:=g.block c (aZ e1) (hne c hc);refine⟨⟨vk,hcb.trans e1,?_⟩,⟨k1,e3.same (g.block r1 e3.lt (hne r1 h1)),e4.imp fun _ _ x=>x.below hb nR⟩,⟨k2,e5.same (g.block r2 e5.lt (hne r2 h2)),e6.imp fun _ _ x=>x.below hb nR⟩,h.ne,Ag h.le g.size,fun ad n cap x y e=>h.far ad n cap x y (hcb.symm.trans e)⟩;obtain⟨a,cap,rfl,f1,f2,f3⟩:=e2;refine⟨a,cap,rfl,f1,f2,fun hk=>?_⟩;obtain⟨b,off,rfl,hbl,hx⟩:=f3 hk;have hKb:=h.far _ _ _ _ _ e1;exact⟨b,off,rfl,Ai hbl g.size,fun j l hj=>g.cells (hx j l hj) (hne b hKb).symm⟩
theorem Era (keys:List (List UInt8)) (l:List CH.Version) (hl:l.length<=16):(bF CH.msg (fG keys l).1 keys.length).length<20:=by have good:=iG (chk:=eU) (keys:=keys) l [] [] (l7 eU keys);have hkn:=kX (chk:=eU) (keys:=keys) l [] [];have:=oK (msg:=CH.msg) good keys.length;have e:([]:CH.Known).length=0:=rfl;show (bF CH.msg (dM eU keys l [] []).1 keys.length).length<20;omega
def Mdn (w:ZB) (l:List CH.Version) (e:Ending) (w':ZB):Prop:=Below w w w'/\∃ B,e=.returned (.bool B)/\(B=true->CH.Clean l)
theorem Fit (x y:CH.Version) (tx ty:List UInt8) (hx:(CH.bare x).getD []=tx) (hy:(CH.bare y).getD []=ty):(x.authority==y.authority)=false/\CH.clash x y=false\/(y.authority=x.authority/\(x.number==y.number)=false)/\CH.clash x y=false \/ (y.authority=x.authority/\y.number=x.number/\ty=tx)/\CH.clash x y=false\/y.authority=x.authority/\y.number=x.number/\(tx==ty)=false:=by
 unfold CH.clash;rw [hx,hy];cases h1:x.authority==y.authority with
 |false=>exact .inl ⟨rfl,rfl⟩
 |true =>
  have e1:=eq_of_beq h1;cases h2:x.number==y.number with
  |false=>exact .inr (.inl ⟨⟨e1.symm,rfl⟩,rfl⟩)
  |true =>
   have e2:=eq_of_beq h2;cases h3:tx==ty with
   |false=>exact .inr (.inr (.inr ⟨e1.symm,e2.symm,rfl⟩))
   |true =>have e3:=eq_of_beq h3;refine .inr (.inr (.inl ⟨⟨e1.symm,e2.symm,e3.symm⟩,?_⟩));rw [e3];simp
theorem I59 (vl:ZC) (l:List CH.Version) (w:ZB) (hl:Hj w w vl l) : ZE prog 6 #[vl] w (Mdn w l):=by
 obtain⟨al,cl,rfl,hlc,hcl,hlx⟩:=hl;have hlx:=Aa hlx;obtain⟨NL,hNL⟩:∃ N,Hid (l.length=N):=⟨_,Aa rfl⟩
 rw [hNL.out] at hlc ⊢;have hi8:(prog.info? 31).map (·.size)=some 8:=kR;go_enter func6,ntmps6;go_wp2_with fail;go_loopw [3] (fun i wr=>∃ k:Nat,k<=NL/\i=↑k/\Hid (∀ (i k':Nat) (a b:CH.Version),i<k->k'<i->l[i]?=some a->l[k']?=some b->CH.clash a b=false)/\Hid (Below w w wr)) (fun i _=>NL - (ZG i).toNat);case atStart=>exact⟨0,Bd _,rfl,Aa fun i _ _ _ h=>absurd h (Nat.not_lt_zero _),Aa (Ac _ _)⟩
 case round =>
  obtain⟨k,hkN,rfl,hI,hBr⟩:=hrel;by_cases hlt:k<NL
  ·obtain⟨b,off,rfl,hbl,hx⟩:=hlx.out (by intro h;have:=hNL.out;simp [h] at this;omega);have hx:=Aa hx;obtain⟨x,hxk⟩:∃ x,l[k]?=some x:=⟨_,Ad (by rw [hNL.out];exact hlt)⟩
   obtain⟨s,hc,hat⟩:=hx.out k x hxk;have HXr:=Aa fun (W:ZB) (hb:Below w w W)=>(show W.rangeAt b (off+k*8) (Al x s) from fun j u hj=>(hb.cell (p:=⟨b,off+k*8+j,none⟩) hbl).trans (hc j u hj))
   have BX:=Aa fun (W:ZB) (hb:Below w w W)=>Pc x s W ((hat.below hb nR).mono hb.size);have hix:(prog.info? 31).map (·.size)=some (Al x s).length:=hi8;have hxk:=Aa hxk;obtain⟨X0,hX0⟩:∃ C,Hid (Al x s=C):=⟨_,Aa rfl⟩
   rw [hX0.out] at hix BX HXr;have hz0:(0:Int)<=(k:Int):=oM;have hzk:((k:Int)).toNat=k:=oM;have hkl:(k:Int)<(NL:Int):=oM;clear hc hat;go_wp2_with fail;go_loopw [4] (fun i wr=>∃ m:Nat,m<=k/\i=↑m/\Hid (∀ (j:Nat) (b:CH.Version),j<m->l[j]?=some b->CH.clash x b=false)/\Hid (Below w w wr)) (fun i _=>k - (ZG i).toNat);case atStart=>exact⟨0,Bd _,rfl,Aa fun j _ h=>absurd h (Nat.not_lt_zero _),hBr⟩
   case round =>
    obtain⟨m,hmk,rfl,hJ,hBm⟩:=hrel;by_cases hlt2:m<k
    ·obtain⟨y,hym⟩:∃ y,l[m]?=some y:=⟨_,Ad (by rw [hNL.out];omega)⟩
     obtain⟨sy,hc,hat⟩:=hx.out m y hym;have HYr:=Aa fun (W:ZB) (hb:Below w w W)=>(show W.rangeAt b (off+m*8) (Al y sy) from fun j u hj=>(hb.cell (p:=⟨b,off+m*8+j,none⟩) hbl).trans (hc j u hj))
     have BY:=Aa fun (W:ZB) (hb:Below w w W)=>Pc y sy W ((hat.below hb nR).mono hb.size);have hiy:(prog.info? 31).map (·.size)=some (Al y sy).length:=hi8;have hJ2:=Aa fun (hcl:CH.clash x y=false) (j:Nat) (u:CH.Version) (hj:j<m+1) (hu:l[j]?=some u)=>(show CH.clash x u=false from by
      rcases Nat.lt_succ_iff_lt_or_eq.1 hj with e|e;·exact hJ.out j u e hu
      ·subst e;rw [hym] at hu;cases hu;exact hcl)
     obtain⟨Y0,hY0⟩:∃ C,Hid (Al y sy=C):=⟨_,Aa rfl⟩
     rw [hY0.out] at hiy BY HYr;obtain⟨tx,htx⟩:∃ t,(CH.bare x).getD []=t:=⟨_,rfl⟩
     obtain⟨ty,hty⟩:∃ t,(CH.bare y).getD []=t:=⟨_,rfl⟩
     have hcc:=Fit x y tx ty htx hty;unfold rZ at BX BY;rw [htx] at BX;rw [hty] at BY;generalize (CH.bare x).isSome=bx at *;generalize (CH.bare y).isSome=bY at *;have hm0:(0:Int)<=(m:Int):=oM;have hzm:((m:Int)).toNat=m:=oM;have hml:(m:Int)<(k:Int):=oM;have hmn:(m:Int)<(NL:Int):=oM;have hr1:=Aa (HXr.out _ hBm.out);clear hc hat hym hJ htx hty;go_wp2_with (refine Bf rfl 31 _ rfl b (off+k*8) rfl X0 _ hr1.out underlying31 rfl hix ?_)
     refine (BX.out _ hBm.out).mono ?_;rintro e w1 ⟨rfl,hb1⟩;have hB1:=Aa (hBm.out.trans (hb1.mono hBm.out.size));have hr2:=Aa (HYr.out _ hB1.out);clear hr1 hb1;go_wp2_with (refine Bf rfl 31 _ rfl b (off+m*8) rfl Y0 _ hr2.out underlying31 rfl hiy ?_)
     refine (BY.out _ hB1.out).mono ?_;rintro e w2 ⟨rfl,hb2⟩;have hB2:=Aa (hB1.out.trans (hb2.mono hB1.out.size));have q1:=HXr.out _ hB2.out;have q2:=HYr.out _ hB2.out;rw [<- hX0.out] at q1;rw [<- hY0.out] at q2;have x0:w2.cell? ⟨b,off+k*8,none⟩=some ↑x.authority:=q1 0 _ rfl;have x1:w2.cell? ⟨b,off+k*8+1,none⟩=some ↑x.number:=q1 1 _ rfl;have y0:w2.cell? ⟨b,off+m*8,none⟩=some ↑y.authority:=q2 0 _ rfl;have y1:w2.cell? ⟨b,off+m*8+1,none⟩=some ↑y.number:=q2 1 _ rfl;clear hr2 hb2 hB1 BY HYr hBm hY0 hiy q1 q2;generalize y.authority=ya at *;generalize y.number=yn at *;have g1:=@Ae _ _ _ x0;have g2:=@Ae _ _ _ x1;have g3:=@Ae _ _ _ y0;have g4:=@Ae _ _ _ y1;rcases hcc with⟨c1,c2⟩|⟨⟨rfl,c1⟩,c2⟩|⟨⟨rfl,rfl,rfl⟩,c2⟩|⟨rfl,rfl,c1⟩;rotate_right;focus
      have c3:¬ tx=ty:=Bq.1 c1;clear hJ2;go_wp2_with fail;refine Ba kR kR ?_;repeat (quiet_step (fail))
      refine Cj ?_;intro wq hbq;replace hbq:=As hbq;clear g1 g2 g3 g4 x0 x1 y0 y1;go_wp2;go_ret;exact⟨hB2.out.trans (hbq.mono hB2.out.size),false,rfl,fun h=>by cases h⟩
     all_goals
      replace hJ2:=Aa (hJ2.out c2);clear c2;go_wp2_with fail;refine Ba kR kR ?_;repeat (quiet_step (fail))
      refine Cj ?_;intro wq hbq;replace hbq:=As hbq;clear g1 g2 g3 g4 x0 x1 y0 y1;have hB3:=Aa (hB2.out.trans (hbq.mono hB2.out.size));clear hbq;go_wp2;go_roundw;case rel=>exact⟨m+1,oM,by go_num,hJ2,hB3⟩
      case measure=>simp [ZG];omega
    ·obtain rfl:m=k:=oM;have hI2:=Aa fun (i k':Nat) (a b:CH.Version) (h1:i<m+1) (h2:k'<i) (ha:l[i]?=some a) (hb:l[k']?=some b)=>(show CH.clash a b=false from by
      rcases Nat.lt_succ_iff_lt_or_eq.1 h1 with e|e;·exact hI.out i k' a b e h2 ha hb
      ·subst e;rw [hxk.out] at ha;cases ha;exact hJ.out k' b h2 hb)
     go_wp2;go_roundw;case rel=>exact⟨m+1,oM,by go_num,hI2,hBm⟩
     case measure=>simp [ZG];omega
  ·obtain rfl:k=NL:=oM;have hcl:=uS fun i k' a b h1 ha hb=>hI.out i k' a b (by rw [<- hNL.out];exact (lS ha)) h1 ha hb;go_wp2;go_ret;exact⟨hBr.out,true,rfl,fun _=>hcl⟩
theorem Qj (vc vd:ZC) (n:Nat) (N:Nat->Nat) (S:Nat->List UInt8) (L1 L2:List CH.Version) (I:List Int) (w:ZB) (hn:n<=8) (H1:∀ (i:Nat) (W:ZB),Below w w W->ZE prog 21 #[vc,↑i] W (Ret W (.tuple #[.int .i64 (N i),.string ⟨(S i).toArray⟩]))) (H2:∀ (i:Nat) (W:ZB),Below w w W->ZE prog 21 #[vd,↑i] W (Ret W (.tuple #[.int .i64 (N i),.string ⟨(S i).toArray⟩]))) (V1:∀ (W:ZB),Below w w W->ZE prog 22 #[vc] W (Vr W L1)) (V2:∀ (W:ZB),Below w w W->ZE prog 22 #[vd] W (Vr W L2)) (hL:L1.map (fun v=>(CH.bare v).getD [])=L2.map (fun v=>(CH.bare v).getD [])) (X1:∀ (W:ZB),Below w w W->ZE prog 24 #[vc] W (Vs W I)) (X2:∀ (W:ZB),Below w w W->ZE prog 24 #[vd] W (Vs W I)) : ZE prog 8 #[vc,vd,↑n] w (Ret w (.bool true)):=by
 replace H1:=Aa H1;replace H2:=Aa H2;replace V1:=Aa V1;replace V2:=Aa V2;replace X1:=Aa X1;replace X2:=Aa X2;replace hL:=Aa hL;have hi8:(prog.info? 31).map (·.size)=some 8:=kR;go_enter func8,ntmps8;go_wp2_with fail;go_loopw [7] (fun i wr=>∃ k:Nat,k<=n/\i=↑k/\Hid (Below w w wr)) (fun i _=>n - (ZG i).toNat);case atStart=>exact⟨0,Bd _,rfl,Aa (Ac _ _)⟩
 case round =>
  obtain⟨k,hk,rfl,hB⟩:=hrel;by_cases hlt:k<n
  ·have hk':(k:Int)<(n:Int):=oM;have G1:=Aa (H1.out k);have G2:=Aa (H2.out k);generalize N k=nk at *;generalize S k=sk at *;have eb:((⟨sk.toArray⟩:ByteArray)==⟨sk.toArray⟩)=true:=by rw [Cw];simp
   go_wp2_with fail;refine (G1.out _ hB.out).mono ?_;rintro e w1 ⟨rfl,hb1⟩;have hB1:=hB.out.trans (hb1.mono hB.out.size);go_wp2_with fail;refine (G2.out _ hB1).mono ?_;rintro e w2 ⟨rfl,hb2⟩;have hB2:=Aa (hB1.trans (hb2.mono hB1.size));clear hB hB1 hb1 hb2 G1 G2;go_wp2;go_roundw;case rel=>exact⟨k+1,oM,by go_num,hB2⟩
   case measure=>simp [ZG];omega
  ·obtain rfl:k=n:=oM;clear H1 H2;go_wp2_with fail;refine (V1.out _ hB.out).mono ?_;rintro e w1 ⟨v1,rfl,hv1,hb1⟩;have hB1:=hB.out.trans (hb1.mono hB.out.size);go_wp2_with fail;refine (V2.out _ hB1).mono ?_;rintro e w2 ⟨v2,rfl,hv2,hb2⟩;have hB2:=Aa (hB1.trans (hb2.mono hB1.size));have DX:=(hv1.below hb2 nR).mono hb2.size;have hlen:L2.length=L1.length:=by have:=congrArg List.length hL.out;simpa using this.symm
   obtain⟨a1,c1,rfl,m1,n1,y1⟩:=DX;obtain⟨a2,c2,rfl,m2,n2,y2⟩:=hv2;have hlen:=Aa hlen;rw [hlen.out] at m2 ⊢;obtain⟨M,hM⟩:∃ M,Hid (L1.length=M):=⟨_,Aa rfl⟩
   rw [hM.out] at m1 m2 ⊢;replace y1:=Aa y1;replace y2:=Aa y2;clear V1 V2 hB hB1 hb1 hb2 hv1;go_wp2_with fail;go_loopw [14] (fun i wr=>∃ j:Nat,j<=M/\i=↑j/\Hid (Below w2 w2 wr)) (fun i _=>M - (ZG i).toNat);case atStart=>exact⟨0,Bd _,rfl,Aa (Ac _ _)⟩
   case round =>
    obtain⟨j,hj,rfl,hBj⟩:=hrel;by_cases hlt2:j<M
    ·obtain⟨b1,o1,rfl,g1,z1⟩:=y1.out (by intro h;have:=hM.out;simp [h] at this;omega);obtain⟨b2,o2,rfl,g2,z2⟩:=y2.out (by intro h;have:=hM.out;have:=hlen.out;simp [h] at this;omega);obtain⟨x,hx⟩:∃ x,L1[j]?=some x:=⟨_,Ad (by rw [hM.out];exact hlt2)⟩
     obtain⟨y,hy⟩:∃ y,L2[j]?=some y:=⟨_,Ad (by rw [hlen.out,hM.out];exact hlt2)⟩
     obtain⟨sx,cx,zT⟩:=z1 j x hx;obtain⟨sy,cy,zS⟩:=z2 j y hy;have het:(CH.bare y).getD []=(CH.bare x).getD []:=by have:=congrArg (fun l:List (List UInt8)=>l[j]?) hL.out;simp only [Fe,hx,hy,Gv,Ep] at this;exact this.symm
     have BX:=Aa fun (W:ZB) (hb:Below w2 w2 W)=>Pc x sx W ((zT.below hb nR).mono hb.size);have BY:=Aa fun (W:ZB) (hb:Below w2 w2 W)=>Pc y sy W ((zS.below hb nR).mono hb.size);unfold rZ at BX BY;rw [het] at BY;have HX:=Aa fun (W:ZB) (hb:Below w2 w2 W)=>(show W.rangeAt b1 (o1+j*8) (Al x sx) from fun i u hi=>(hb.cell (p:=⟨b1,o1+j*8+i,none⟩) g1).trans (cx i u hi))
     have HY:=Aa fun (W:ZB) (hb:Below w2 w2 W)=>(show W.rangeAt b2 (o2+j*8) (Al y sy) from fun i u hi=>(hb.cell (p:=⟨b2,o2+j*8+i,none⟩) g2).trans (cy i u hi))
     have hix:(prog.info? 31).map (·.size)=some (Al x sx).length:=hi8;have hiy:(prog.info? 31).map (·.size)=some (Al y sy).length:=hi8;generalize Al x sx=X0 at *;generalize Al y sy=Y0 at *;generalize (CH.bare x).getD []=tx at *;generalize (CH.bare x).isSome=bx at *;generalize (CH.bare y).isSome=bY at *;clear cx cy zT zS hx hy het z1 z2;have hj0:(0:Int)<=(j:Int):=oM;have hzj:((j:Int)).toNat=j:=oM;have hj':(j:Int)<(M:Int):=oM;have eb:((⟨tx.toArray⟩:ByteArray)==⟨tx.toArray⟩)=true:=by rw [Cw];simp
     have hr1:=Aa (HX.out _ hBj.out);go_wp2_with (refine Bf rfl 31 _ rfl b1 (o1+j*8) rfl X0 _ hr1.out underlying31 rfl hix ?_)
     refine (BX.out _ hBj.out).mono ?_;rintro e w3 ⟨rfl,hb3⟩;have hB3:=Aa (hBj.out.trans (hb3.mono hBj.out.size));have hr2:=Aa (HY.out _ hB3.out);clear hr1 hb3;go_wp2_with (refine Bf rfl 31 _ rfl b2 (o2+j*8) rfl Y0 _ hr2.out underlying31 rfl hiy ?_)
     refine (BY.out _ hB3.out).mono ?_;rintro e w4 ⟨rfl,hb4⟩;have hB4:=Aa (hB3.out.trans (hb4.mono hB3.out.size));clear hr2 hb4 hB3 BX BY HX HY;go_wp2;go_roundw;case rel=>exact⟨j+1,oM,by go_num,hB4⟩
     case measure=>simp [ZG];omega
    ·obtain rfl:j=M:=oM;have hBz:=hB2.out.trans (hBj.out.mono hB2.out.size);clear y1 y2;go_wp2_with fail;refine (X1.out _ hBz).mono ?_;rintro e w5 ⟨u1,rfl,i1,hb5⟩;have hB5:=hBz.trans (hb5.mono hBz.size);go_wp2_with fail;refine (X2.out _ hB5).mono ?_;rintro e w6 ⟨u2,rfl,i2,hb6⟩;have hB6:=hB5.trans (hb6.mono hB5.size);have IN:=Lg8 u1 u2 I I w6 ((i1.below hb6 nR).mono hb6.size) i2;rw [beq_self_eq_true] at IN;obtain⟨_,_,rfl,_,_,_⟩:=i1;obtain⟨_,_,rfl,_,_,_⟩:=i2;replace IN:=Aa IN;generalize I.length=NI at *;go_wp2_with fail;refine IN.out.mono ?_;rintro e w7 ⟨rfl,hb7⟩;go_wp2;go_ret;exact⟨rfl,hB6.trans (hb7.mono hB6.size)⟩
theorem Yw (c r1 r2 d q1 q2:Nat) (keys:List (List UInt8)) (m m':List CH.Version) (w:ZB) (hG:Gc w) (hC:De w c r1 r2 keys (fG keys m).1 (fG keys m).2) (hD:De w d q1 q2 keys (fG keys m').1 (fG keys m').2) (hlen:keys.length<=8) (hm:m.length<=16) (hm':m'.length<=16) (hF:∀ a:Int,(fol CH.msg (fG keys m).1 a).1.length=(fol CH.msg (fG keys m').1 a).1.length/\(fol CH.msg (fG keys m).1 a).2=(fol CH.msg (fG keys m').1 a).2) (hL:(CH.versions CH.msg (fG keys m).1 keys.length).map (fun v=>(CH.bare v).getD [])=(CH.versions CH.msg (fG keys m').1 keys.length).map (fun v=>(CH.bare v).getD [])) : ZE prog 8 #[.pointer (some ⟨c,0,none⟩),.pointer (some ⟨d,0,none⟩),↑keys.length] w (Ret w (.bool true)):=by
 have hI:CH.counts CH.msg (fG keys m).1 keys.length=CH.counts CH.msg (fG keys m').1 keys.length:=by unfold CH.counts;refine List.map_congr_left fun a _=>?_;rw [(hF a).1]
 refine Qj _ _ keys.length (fun i=>(fol CH.msg (fG keys m).1 i).1.length) (fun i=>(fol CH.msg (fG keys m).1 i).2) _ _ (CH.counts CH.msg (fG keys m).1 keys.length) w hlen (fun i W hb=>Ev8 c r1 r2 keys _ _ i W (hG.below hb) (hC.below hb) (Rd keys m)) (fun i W hb=>?_) (fun W hb=>P6 c r1 r2 keys _ _ W (hG.below hb) (hC.below hb) (Rd keys m) oM (Era keys m hm)) (fun W hb=>P6 d q1 q2 keys _ _ W (hG.below hb) (hD.below hb) (Rd keys m') oM (Era keys m' hm')) hL (fun W hb=>O7 c r1 r2 keys _ _ W (hG.below hb) (hC.below hb) (Rd keys m) oM) (fun W hb=>?_);·have:=Ev8 d q1 q2 keys _ _ i W (hG.below hb) (hD.below hb) (Rd keys m');rwa [<- (hF i).1,<- (hF i).2] at this
 ·have:=O7 d q1 q2 keys _ _ W (hG.below hb) (hD.below hb) (Rd keys m') oM;rwa [<- hI] at this
theorem Ti (n:Nat) (hn:n<=8) (w:ZB):ZE prog 8 #[.pointer none,.pointer none,↑n] w (Ret w (.bool true)):=by have hV:∀ (W:ZB),ZE prog 22 #[.pointer none] W (Vr W []):=fun W=>(U3 W).mono (by rintro e w1 ⟨rfl,rfl⟩;exact⟨_,rfl,⟨none,0,rfl,Bo _,oM,fun h=>absurd rfl h⟩,Ac _ _⟩);have hX:∀ (W:ZB),ZE prog 24 #[.pointer none] W (Vs W []):=fun W=>(Yq W).mono (by rintro e w1 ⟨rfl,rfl⟩;exact⟨_,rfl,⟨none,0,rfl,Bo _,oM,fun h=>absurd rfl h⟩,Ac _ _⟩);have hH:∀ (i:Nat) (W:ZB),ZE prog 21 #[.pointer none,↑i] W (Ret W (.tuple #[.int .i64 ((0:Nat):Int),.string ⟨([]:List UInt8).toArray⟩])):=fun i W=>(Exp i W).mono (by rintro e w1 ⟨rfl,rfl⟩;exact⟨rfl,Ac _ _⟩);exact Qj _ _ n (fun _=>0) (fun _=>[]) [] [] [] w hn (fun i W _=>hH i W) (fun i W _=>hH i W) (fun W _=>hV W) (fun W _=>hV W) rfl (fun W _=>hX W) (fun W _=>hX W)
def I01 (w:ZB) (e:Ending) (w':ZB):Prop:=∃ a cap,e=.returned (.slice a 0 cap)/\Below w w w'
theorem Uj (c r1 r2:Nat) (keys:List (List UInt8)) (known:CH.Known) (w:ZB) (hC:De w c r1 r2 keys known []) : ZE prog 9 #[.pointer (some ⟨c,0,none⟩)] w (I01 w):=by
 refine (Amp c r1 r2 keys known [] w hC sM sM).mono ?_;rintro e w1 ⟨v,base,rfl,_,⟨xs,h1,⟨hlen,⟨rfl,h0⟩|⟨g,cap,cur,rfl,hb,hg,hn,hc,hsz,htk⟩⟩,_⟩,hb1⟩;·exact⟨none,0,rfl,hb1⟩
 ·exact⟨_,cap,rfl,hb1⟩
theorem Xj (w:ZB):ZE prog 9 #[.pointer none] w (I01 w):=by refine (B10 w).mono ?_;rintro e w1 ⟨rfl,rfl⟩;exact⟨none,0,rfl,Ac _ _⟩
end
end Go.Proofs.YtpkjhpenpfcpfaaGreatDoor
