/- Part 22. -/
import Derived.Test.YtajmjabodcmonaaGreatDoorP17
import Derived.Test.YtajmjabodcmonaaGreatDoorP20
set_option linter.all false
set_option maxHeartbeats 40000000
set_option maxRecDepth 100000
open Go renaming World -> ZB, Calls -> ZE
open Go.RowKit renaming intOf -> ZG
open Decidable renaming decide -> ZH
namespace Go.Proofs.Y
section
open Go.Lib Go.Proofs.Tryz Go.RowKit Go.Shelf Go.Sort CH
abbrev jR (keys:List Q00) (l:List Q01):=iE dI keys l [] []
theorem Lf:∀ (xs:List (Q01 × aS)) (j i:Nat) (y:Q01 × aS),xs[j]?=some y->i<8->(A9 xs)[j*8+i]?=(Al y.1 y.2)[i]?
 |[],j,i,y,h,_=>by simp at h
 |x::xs,0,i,y,h,hi=>by
  simp only [Fv,Fe] at h
  subst h
  unfold A9
  rw [Dx,Eu (by show 0*8+i<8;omega),Nat.zero_mul,Bf]
 |x::xs,j+1,i,y,h,hi=>by
  simp only [Fz] at h
  have:=Lf xs j i y h hi
  unfold A9 at this ⊢
  have e8:(Al x.1 x.2).length=8:=rfl
  rw [Dx,Em (by rw [e8];omega),e8,<- this]
  congr 1
  omega
theorem Bi.at {base B:Nat} {w:ZB} {v:Value} {ls:List Q01} (h:Bi base B w v ls):L3 w w v ls:=by
 obtain⟨xs,h1,h2,h3,h4,h5⟩:=h;have h2':=h2;have hl:xs.length=ls.length:=by rw [<- h1,Bh]
 obtain⟨hlen,⟨rfl,h0⟩|⟨g,cap,cur,rfl,hb,hg,hn,hc,hsz,htk⟩⟩:=h2;·have:ls=[]:=Bo.1 h0;subst this;exact FD86
 ·have nX:=(aZ hg)
  refine⟨_,cap,rfl,hn,by unfold maxLen at hc;omega,fun _=>⟨g,0,rfl,nX,fun j x hj=>?_⟩⟩;rw [<- h1,Dq] at hj;cases hy:xs[j]? with
  |none=>rw [hy] at hj;cases hj
  |some y =>
   rw [hy] at hj;cases hj;have hjl:=(lS hy)
   refine⟨y.2,fun i u hi=>?_,(h3 _ (Ap hy)).mono (Af h4 h5)⟩;have hi8:i<8:=(lS hi)
   rw [Bf,Fq h2' (j*8+i) oM,Lf xs j i y hy hi8];exact hi
theorem Apr (a:Int) (w:ZB):ZE prog 41 #[.pointer none,↑a] w (fun e w'=>e=.returned (.tuple #[.slice none 0 0,.string ⟨#[]⟩])/\w=w'):=by
 go_enter func41,ntmps41;go_wp2_with fail;go_loopw [6,7,8] (fun ov hv lv wr=>ov=.slice none 0 0/\hv=.string ⟨#[]⟩/\lv=.int .i64 0/\wr=w) (fun _ _ _ _=>0);case atStart=>exact⟨rfl,rfl,rfl,rfl⟩
 case round =>obtain⟨rfl,rfl,rfl,rfl⟩:=hrel;go_wp2;refine Aj (Aq rfl _ _ _) rfl ?_;exact⟨rfl,rfl⟩
theorem Ggr (a:Int) (w:ZB):ZE prog 13 #[.pointer none,↑a] w (fun e w'=>e=.returned (.tuple #[.int .i64 0,.string ⟨#[]⟩])/\w=w'):=by go_enter func13,ntmps13;go_wp2_with fail;refine (Apr a w).mono ?_;rintro e w1 ⟨rfl,rfl⟩;go_wp2;refine Aj (Aq rfl _ _ _) rfl ?_;exact⟨rfl,rfl⟩
theorem Yd (keys:List Q00) (l:List Q01):∀ p v,(p,v)∈(jR keys l).1->p.2<=200:=fun p v hpv=>by have good:=jE (chk:=dI) (keys:=keys) l [] [] (pG dI keys);have h1:=good.key _ _ hpv;have h2:=good.number _ _ hpv;rw [h1];exact h2.2
theorem Pos (keys:List Q00) (l:List Q01) (hl:l.length<=8):(bF CH.msg (jR keys l).1 keys.length).length<20:=by have good:=jE (chk:=dI) (keys:=keys) l [] [] (pG dI keys);have hkn:=jJ (chk:=dI) (keys:=keys) l [] [];have:=lU (msg:=CH.msg) good keys.length;have h0:([]:Q04).length=0:=rfl;rw [h0] at hkn;show (bF CH.msg (iE dI keys l [] []).1 keys.length).length<20;omega
attribute [local irreducible] wpQuiet
theorem Bwg (pub m:Q00) (i:Nat) (sig path:List Q00) (d1:∀ l∈sig,ay l=true) (d2:∀ l∈path,ay l=true) (n2:path.length<=8) : Mf pub m (i:Int) sig path=(sig.length==18&&(ZH (i<2 ^ path.length)&&dF pub (2 ^ path.length) i (CH.dl (CH.ends sig m)) path)):=by
 have q1:(sig.any fun l=>!ay l)=false:=by rw [I8];intro x hx;rw [d1 x hx];decide
 have q2:(path.any fun l=>!ay l)=false:=by rw [I8];intro x hx;rw [d2 x hx];decide
 have q3:ZH ((i:Int)<2 ^ path.length)=ZH (i<2 ^ path.length):=by rw [show ((2:Int) ^ path.length)=((2 ^ path.length:Nat):Int) from by simp];simp only [Int.ofNat_lt]
 unfold Mf;rw [q1,q2,q3,Am n2,Am (show (0:Int)<=(i:Int) by omega)];simp only [Gy,a_Bool_true_and,Int.toNat_natCast]
theorem Zv (pub m:Q00) (i:Nat) (v1 v2:Value) (sig path:List Q00) (w:ZB) (hm:m.length<=1000000) (h1:Strs w w v1 sig) (h2:Strs w w v2 path) (d1:∀ l∈sig,ay l=true) (d2:∀ l∈path,ay l=true) (n1:sig.length<=18) (n2:path.length<=8) (hi:i<=255) : ZE prog 72 #[↑pub,↑m,.agg #[↑i,v1,v2]] w (Ret w (.bool (Mf pub m i sig path))):=by
 rw [Bwg pub m i sig path d1 d2 n2];have hp:=Dd path.length n2;have PW:=Aa fun (W:ZB)=>(show ZE prog 126 #[↑path.length] W (Ret W (.int .i64 ((2 ^ path.length:Nat):Int))) from (Ch1 path.length W n2).mono fun e w' h=>by obtain⟨rfl,rfl⟩:=h;exact⟨rfl,Ac _ _⟩)
 have CK:=Aa fun (hi:i<2 ^ path.length) (W:ZB) (hb:Below w w W)=>Xu pub (CH.dl (CH.ends sig m)) path.length i v2 path W n2 hi (by rw [gZ];decide) ((h2.below hb nR).mono hb.size) rfl d2;have DG:=Aa fun (W:ZB)=>Ch6 m W oM;have IS:=Aa fun (l:Q00) (hd:ay l=true) (W:ZB)=>(show ZE prog 66 #[↑l] W (Ret W (.bool true)) from by have:=Mm l W (by have:=J0 hd;omega);rwa [hd] at this)
 obtain⟨a1,c1,rfl,hl1,hc1,hne1⟩:=h1;obtain⟨a2,c2,rfl,hl2,hc2,hne2⟩:=h2;have q8:ZH ((8:Int)<(path.length:Int))=false:=Ak oM;have qi:ZH ((i:Int)<0)=false:=sM;have hB0:=Aa fun o=>(Ac _ w).alloc nR o;replace hne1:=Aa hne1;replace hne2:=Aa hne2;obtain⟨N1,hN1⟩:∃ N,sig.length=N:=⟨_,rfl⟩
 obtain⟨N2,hN2⟩:∃ N,path.length=N:=⟨_,rfl⟩
 rw [hN1] at n1 hl1 ⊢;rw [hN2] at hp PW CK n2 hl2 q8 ⊢;obtain⟨n,hn⟩:∃ n,2 ^ N2=n:=⟨_,rfl⟩
 rw [hn] at hp PW CK ⊢;replace hN1:=Aa hN1;replace hN2:=Aa hN2;clear hn;by_cases h18:N1=18;rotate_left;focus
  have q18:((N1:Int) != 18)=true:=by simp;omega
  have e:(N1==18)=false:=by simpa using h18
  rw [e,Gi];clear h18
 rotate_left;by_cases hin:i<n;rotate_left;focus subst h18;have q18:(((18:Nat):Int) != 18)=false:=dC;have qn:ZH (n<=i)=true:=Am oM;rw [Ak hin,Gi,Ee];clear hin
 rotate_left 2;focus
  subst h18;have q18:(((18:Nat):Int) != 18)=false:=dC;have qn:ZH (n<=i)=false:=Ak oM;have hE0:=CH.length_digits m;have EF:=Aa (oh m);have hEk:Hid (∀ k d t,(CH.digits m)[k]?=some d->sig[k]?=some t->(CH.ends sig m).take (k+1)=(CH.ends sig m).take k++[CH.chain (15 - d) t]):=Aa fun k d t hd ht=>by have hz:((CH.digits m).zip sig)[k]?=some (d,t):=List.getElem?_zip_eq_some.2 ⟨hd,ht⟩;refine aI _ k _ ?_;unfold CH.ends;rw [Dq,hz];rfl
  have hEl:(CH.ends sig m).length=18:=by unfold CH.ends;simp [CH.length_digits,hN1.out]
  have hEm:=Ggx sig m (fun l hl=>by have:=J0 (d1 l hl);omega);have LS:=Aa fun (v:Value) (W:ZB) (hv:Strs W W v (CH.ends sig m))=>Uu v (CH.ends sig m) W hv (by rintro e;rw [e] at hEl;simp at hEl) oM hEm;replace CK:=Aa (CK.out hin);rw [Am hin,a_Bool_true_and];clear hEm;generalize dF pub n i (CH.dl (CH.ends sig m)) path=R at *;generalize CH.dl (CH.ends sig m)=ed at *;generalize CH.ends sig m=E at *;generalize CH.digits m=ds at *;replace d1:=Aa d1;replace d2:=Aa d2;go_enter func72,ntmps72;go_wp2_with fail;have B:=hB0.out;generalize hWd:w.alloc _=W at *;have hBW:Below w w W:=by rw [<- hWd];exact B _
  have K:=Aa (Cp (C:=_) hWd);have hWs:W.heap.size=w.heap.size+1:=by rw [<- hWd];simp
  have x0:=K.out _ (Ac _ _) 0 _ rfl;have x1:=K.out _ (Ac _ _) 1 _ rfl;have x2:=K.out _ (Ac _ _) 2 _ rfl;have y0:=@Ag _ _ _ x0;have y1:=@Ag _ _ _ x1;have y2:=@Ag _ _ _ x2;clear hWd hB0 B;refine Ar kR kR ?_;repeat (quiet_step (first|(with_reducible exact Bc (PW.out _))))
  refine Bv ?_;intro wq hbq;replace hbq:=An hbq;clear y0 y1 y2 x0 x1 x2 q18 qn q8 qi;go_wp2_with fail;refine (DG.out wq).mono ?_;rintro e w2 ⟨dv,rfl,hOD,hbD⟩;obtain⟨g,cd,rfl,⟨hg1,hg2,hg3⟩,hdc⟩:=hOD.at (by rintro rfl;simp at hE0);replace hdc:=Aa hdc;rw [hE0] at hg3 ⊢;have hB2:=hbq.trans (hbD.mono hbq.size);have hs2:=hB2.size;have hBw2:=hBW.trans (hB2.mono hBW.size);have K2:=Aa fun (W':ZB) (hb:Below w2 w2 W') (j:Nat) (u:Value) (hj:_[j]?=some u)=>K.out W' (hB2.trans (hb.mono hs2)) j u hj;clear hOD hbD DG hbq hB2 K;go_wp2_with fail;go_loopw [8,9] (fun ov kv wr=>∃ k:Nat,k<=18/\kv=↑k/\At w2 wr ov (E.take k)/\Below w2 w2 wr) (fun _ kv _=>18 - (ZG kv).toNat);case atStart=>exact⟨0,oM,rfl,At.nil _ _,Ac _ _⟩
  case round =>
   obtain⟨k,hk,rfl,hO,hb⟩:=hrel;have hsz:=hb.size;by_cases hlt:k<18
   ·obtain⟨d,hd⟩:∃ d,ds[k]?=some d:=⟨_,Ad oM⟩
    obtain⟨t,ht⟩:∃ t,sig[k]?=some t:=⟨_,Ad (by rw [hN1.out];exact hlt)⟩
    have OD:=EF.out d (Ap hd);have htd:=d1.out t (Ap ht);have htl:=J0 htd;have hsn:=Aa (hEk.out k d t hd ht);obtain⟨b,off,rfl,hbl,kj⟩:=hne1.out (by rintro rfl;simp at ht);have hg0:=hdc.out k d hd;have hc0:=kj k t ht;have SS:=Aa fun (W':ZB) (hb:Below w2 w2 W')=>(show W'.cell? ⟨w,1,none⟩=some (.slice (some ⟨b,off,none⟩) 18 c1)/\W'.cell? ⟨b,off+k,none⟩=some ↑t/\W'.cell? ⟨g,k,none⟩=some (.int .i64 (d:Int)) from
     ⟨K2.out W' hb 1 _ rfl,((hBw2.trans (hb.mono hBw2.size)).cell (p:=⟨b,off+k,none⟩) hbl).trans hc0,(hb.cell (p:=⟨g,k,none⟩) hg2).trans hg0⟩)
    have II:=Aa (IS.out t htd);have hol:(E.take k).length<=18:=by rw [C9];omega
    have x0:=SS.out _ hb;obtain⟨x1,x2,x3⟩:=x0;have z0:(0:Int)<=(k:Int):=oM;have z1:(k:Int)<18:=oM;have zk:((k:Int)).toNat=k:=oM;have hsub:(15:Int) - (d:Int)=((15 - d:Nat):Int):=oM;have hsw:IntKind.i64.wrap ((15 - d:Nat):Int)=((15 - d:Nat):Int):=by rw [IntKind.wrap_i64];omega
    generalize E.take k=pre at *;clear hd ht kj hg0 hc0 hdc hEk;go_wp2_with fail;refine CmZ (II.out wr) fun w3 hb3=>?_;have hB3:=hb.trans (hb3.mono hsz);have hO3:=hO.below hb3;have hB4:Below w2 w2 w3.drew:=hB3.drew;have hO4:=hO3.below (Ac _ w3).drew;have hs4:=hB4.size;clear x1 x2 x3 hO hb hb3 hO3;go_wp2_with fail;go_region_held3 (fun W'=>W'.cell? ⟨w,1,none⟩=some (.slice (some ⟨b,off,none⟩) 18 c1)/\W'.cell? ⟨b,off+k,none⟩=some ↑t/\W'.cell? ⟨g,k,none⟩=some (.int .i64 (d:Int))) (first|exact SS.out _ hB6|exact SS.out _ (hB5.alloc hs5 _)|exact SS.out _ hB5|exact SS.out _ hB4)
     (first
     |(rw [Au rF];refine Ca _ _ rfl w2 _ _ rfl (hO5.alloc _) w5.heap.size _ (CH.chain (15 - d) t) rfl (Cm _ _ _ _ _) oM (by simp;omega) ?_;intro v6 w6 hO6 hg6;have hB6:Below w2 w2 w6:=(hB5.alloc hs5 _).grown hg6 (by simp;omega) (fun j hj=>(Dw hO5 j hj).1))
     |(go_at_call 128;refine CmZ (Cli t (15 - d) _ oM oM) fun w5 hb5=>?_;have hB5:Below w2 w2 w5:=hB4.trans (hb5.mono hs4);have hs5:w2.heap.size<=w5.heap.size:=hB5.size;have hO5:=hO4.below hb5))
    rw [<- hsn.out] at hO6;go_wp2;go_roundw;case rel=>exact⟨k+1,oM,by go_num,hO6,hB6⟩
    case measure=>simp [ZG];omega
   ·have e:E.take k=E:=Bz oM;rw [e] at hO;have LJ:=LS.out;clear e hEk hdc LJ;go_wp2_with fail;go_loopw [10] (fun kv wz=>∃ k:Nat,k<=N2/\kv=↑k/\At w2 wz _ E/\Below w2 w2 wz) (fun kv _=>N2 - (ZG kv).toNat);case atStart=>exact⟨0,Az _,rfl,hO,hb⟩
    case round =>
     clear hO hb hsz;obtain⟨j,hj,rfl,hO,hb⟩:=hrel;have hsz:=hb.size;have x2:=K2.out _ hb 2 _ rfl;by_cases hjl:j<N2
     ·obtain⟨t,ht⟩:∃ t,path[j]?=some t:=⟨_,Ad (by rw [hN2.out];exact hjl)⟩
      have htd:=d2.out t (Ap ht);obtain⟨b,off,rfl,hbl,kj⟩:=hne2.out (by rintro rfl;simp at ht);have hc:=((hBw2.trans (hb.mono hBw2.size)).cell (p:=⟨b,off+j,none⟩) hbl).trans (kj j t ht);have II:=Aa (IS.out t htd);clear ht kj;go_wp2_with fail;refine CmZ (II.out _) fun w3 hb3=>?_;have hB3:=hb.trans (hb3.mono hsz);have hO3:=hO.below hb3;go_wp2;go_roundw;case rel=>exact⟨j+1,oM,by go_num,hO3,hB3⟩
      case measure=>simp [ZG];omega
     ·have x0:=K2.out _ hb 0 _ rfl;have HL:=Aa fun (W':ZB) (hb':Below wr wr W')=>LS.out _ W' (hO.below hb').strs;have HC:=Aa fun (W':ZB) (hb':Below wr wr W')=>CK.out W' (hBw2.trans ((hb.trans (hb'.mono hsz)).mono hBw2.size));have y0:=@Ag _ _ _ x0;have y2:=@Ag _ _ _ x2;have hBf:=hBw2.trans (hb.mono hBw2.size);clear K2 LS CK IS hO hb hBw2 d1 d2 EF hne1 hne2;go_wp2_with fail;refine Ar kR kR ?_;repeat (quiet_step (first|(with_reducible exact Bc (PW.out _))|(with_reducible exact Bc (HL.out _ (D6 _ _ _)))|(with_reducible exact Bc (HC.out _ (D6 _ _ _)))))
      refine Bv ?_;intro wq hbq;replace hbq:=An hbq;go_wp2;go_ret;exact⟨rfl,hBf.trans (hbq.mono hBf.size)⟩
 all_goals
  go_enter func72,ntmps72;go_wp2_with fail;have B:=hB0.out;generalize hWd:w.alloc _=W at *;have hBW:Below w w W:=by rw [<- hWd];exact B _
  have K:=Aa (Cp (C:=_) hWd);have x0:=K.out _ (Ac _ _) 0 _ rfl;have x1:=K.out _ (Ac _ _) 1 _ rfl;have x2:=K.out _ (Ac _ _) 2 _ rfl;have y0:=@Ag _ _ _ x0;have y1:=@Ag _ _ _ x1;have y2:=@Ag _ _ _ x2;clear hWd hB0 B;refine Ar kR kR ?_;repeat (quiet_step (first|(with_reducible exact Bc (PW.out _))))
  refine Bv ?_;intro wq hbq;replace hbq:=An hbq;go_wp2;go_ret;exact⟨rfl,hBW.trans (hbq.mono hBW.size)⟩
theorem Ody (o:Option Q00):uO o=iQ o:=by cases o <;> rfl
theorem Q8 (v:Q01) (s:aS) (w:ZB) (h:aG w w v s) : ZE prog 40 #[.agg (Al v s).toArray] w (Ret w (iQ (CH.bare v))):=by have:=Tr v s w h;rwa [Ody] at this
theorem Xd (s:xu):CH.words (Ga s)=CH.join [32] ([([115,101,97,108]:Q00),dG s.index]++s.sig++[[47]]++s.path):=by unfold CH.words Ga;simp only [Dx,Gx,Pz,Py,Ge (s:=([115,101,97,108]:Q00)) dC];rw [show ig [47]=[47] from rfl];simp [CH.Word.texts]
theorem Pr (v:Value) (ls:List Q00) (most:Nat) (w:ZB) (hv:Strs w w v ls) (hl:∀ l∈ls,l.length<=9223372036854775807) : ZE prog 31 #[v,↑most] w (Ret w (.bool (bJ ls most))):=by
 obtain⟨a,cap,rfl,hlc,hcap,hne⟩:=hv;have HL:=Aa hl;replace hne:=Aa hne;obtain⟨R,hR⟩:∃ R,Hid (bJ ls most=R):=⟨_,Aa rfl⟩
 rw [hR.out];obtain⟨N,hN⟩:∃ N,Hid (ls.length=N):=⟨_,Aa rfl⟩
 rw [hN.out] at hlc ⊢;clear hl;go_enter func31,ntmps31;go_wp2_with fail;go_loopw [5] (fun iv wr=>∃ k:Nat,k<=N/\iv=↑k/\Hid ((ls.take k).any (fun s=>!ay s)=false)/\Below w w wr) (fun iv _=>N - (ZG iv).toNat);case atStart=>exact⟨0,Az _,rfl,Aa rfl,Ac _ _⟩
 case round =>
  obtain⟨k,hk,rfl,hA,hb⟩:=hrel;by_cases hlt:k<N
  ·obtain⟨l,hl'⟩:∃ l,ls[k]?=some l:=⟨_,Ad (by rw [hN.out];exact hlt)⟩
   obtain⟨b,off,rfl,hbl,kj⟩:=hne.out (by rintro rfl;simp at hl');have hcell:wr.cell? ⟨b,off+k,none⟩=some ↑l:=(hb.cell (p:=⟨b,off+k,none⟩) hbl).trans (kj k l hl');have D:=Mm l wr (HL.out l (Ap hl'));cases hd:ay l with
   |true =>
    have hA2:Hid ((ls.take (k+1)).any (fun s=>!ay s)=false):=Aa (by rw [aI ls k l hl',List.any_append,hA.out];simp [hd]);rw [hd] at D;replace D:=Aa D;clear kj hl' hd hA;go_wp2_with fail;refine CmZ D.out fun w1 hb1=>?_;have hb2:=hb.trans (hb1.mono hb.size);go_wp2;go_roundw;case rel=>exact⟨k+1,oM,by go_num,hA2,hb2⟩
    case measure=>simp [ZG];omega
   |false =>
    have hF:R=false:=by rw [<- hR.out];unfold bJ;rw [Jc.2 ⟨l,Ap hl',by rw [hd];rfl⟩];simp
    subst hF;rw [hd] at D;replace D:=Aa D;clear kj hl' hd hA;go_wp2_with fail;refine CmZ D.out fun w1 hb1=>?_;have hb2:=hb.trans (hb1.mono hb.size);go_wp2;go_ret;exact⟨rfl,hb2⟩
  ·have e:ls.take k=ls:=Bz (by have:=hN.out;omega);have hF:Hid (ZH (N<=most)=R):=Aa (by rw [<- hR.out,<- hN.out];unfold bJ;have:=hA.out;rw [e] at this;rw [this];simp);clear hA e;go_wp2;go_ret;exact⟨by rw [<- hF.out];simp,hb⟩
theorem K5 (v:Q01) (s:aS) (w:ZB) (h:aG w w v s) : ZE prog 37 #[.agg (Al v s).toArray] w (Ret w (Hk (bY v))):=by
 obtain⟨R,hR⟩:∃ R,Hid (Hk (bY v)=R):=⟨_,Aa rfl⟩
 rw [hR.out];have hR1:=hR.out;rw [Qm] at hR1;clear hR;have hB0:=fun o=>(Ac _ w).alloc nR o;have HV:=Aa fun (W:ZB) (hb:Below w w W)=>(h.below hb nR).mono hb.size;have T:=fun (W:ZB) (hb:Below w w W)=>Q8 v s W (HV.out W hb);obtain⟨t,ht⟩:∃ t,CH.bare v=t:=⟨_,rfl⟩
 have hl:∀ x,t=some x->x.length<=5000000000:=fun x hx=>Td (ht.trans hx) h;rw [ht] at T hR1;have T:=Aa T;have hR1:=Aa hR1;have HS:=Aa h.small;obtain⟨va,v1,v2⟩:=s;clear h ht;generalize hC:Al v { va:=va,v1:=v1,v2:=v2 }=C at T ⊢;have hlen:(prog.info? 38).map (·.size)=some C.length:=by rw [<- hC];kernel_rfl
 have hC:=Aa hC;have hr0:=Aa (Bp w C 38);go_enter func37,ntmps37;go_wp2_with (refine Bd rfl 38 _ rfl w 0 rfl C _ hr0.out underlying38 rfl hlen ?_)
 refine CmZ (T.out _ (hB0 _)) fun w1 hb1=>?_;clear T;have hB1:Below w w w1:=(hB0 _).trans (hb1.mono sM);have hlt1:w.heap.size<w1.heap.size:=Ae sM hb1.size;have hr1:w1.rangeAt w 0 C:=A6 hr0.out hb1 sM;rw [<- hC.out] at hr1;have r5:w1.rangeAt w 5 [aJ v.sel.index,v1,v2]:=Cx (l:=[aJ v.authority,aJ v.number,aJ v.pos,aA v.prev,va]) hr1 5 rfl;have k5:w1.cell? ⟨w,5,none⟩=some ↑v.sel.index:=hr1 5 _ rfl;have k6:w1.cell? ⟨w,6,none⟩=some v1:=hr1 6 _ rfl;have k7:w1.cell? ⟨w,7,none⟩=some v2:=hr1 7 _ rfl;clear hb1 hr0 hr1 hlen r5;have hv1:Strs w1 w1 v1 v.sel.sig:=(HV.out w1 hB1).sig;have hv2:Strs w1 w1 v2 v.sel.path:=(HV.out w1 hB1).path;obtain⟨a1,c1,rfl,_,_⟩:=hv1.form;obtain⟨a2,c2,rfl,_,_⟩:=hv2.form;have wR:=fun o=>(Ac _ w1).alloc nR o;cases t with
 |none =>exact FD147
 |some t =>
  have hl:=hl t rfl;dsimp only at hR1;dsimp only [iQ];obtain⟨b1,h1⟩:∃ b,ZH (v.sel.index<0)=b:=⟨_,rfl⟩
  obtain⟨b2,h2⟩:∃ b,ZH (255<v.sel.index)=b:=⟨_,rfl⟩
  have D1:=fun (W:ZB) (hb:Below w1 w1 W)=>Pr _ v.sel.sig 18 W ((hv1.below hb nR).mono hb.size) (fun l hl=>Af (HS.out.sig.2 l hl) dC);have D2:=fun (W:ZB) (hb:Below w1 w1 W)=>Pr _ v.sel.path 8 W ((hv2.below hb nR).mono hb.size) (fun l hl=>Af (HS.out.path.2 l hl) dC);obtain⟨b3,h3⟩:∃ b,bJ v.sel.sig 18=b:=⟨_,rfl⟩
  obtain⟨b4,h4⟩:∃ b,bJ v.sel.path 8=b:=⟨_,rfl⟩
  rw [h1,h2,h3,h4] at hR1;rw [h3] at D1;rw [h4] at D2;have D1:=Aa D1;have D2:=Aa D2;have H3:=Aa h3;have H4:=Aa h4;have hv1:=Aa hv1;have hv2:=Aa hv2;clear h3 h4;generalize hn1:v.sel.sig.length=n1 at *;generalize hn2:v.sel.path.length=n2 at *;have hn1:=Aa hn1;have hn2:=Aa hn2;rcases (by cases b1 <;> cases b2 <;> simp:(b1=true)\/(b1=false/\b2=true)\/(b1=false/\b2=false)) with rfl|⟨rfl,rfl⟩|⟨rfl,rfl⟩;·exact FD33
  ·exact FD33
  ·go_wp2_with fail;refine CmZ (D1.out _ (wR _)) fun w2 hb2=>?_;have hblk:=(hb2.block w1 sM).trans (Aw w1 _);have hlt2:w1.heap.size<w2.heap.size:=(aZ hblk)
   have g0:w2.cell? ⟨w1,0,none⟩=some ↑v.sel.index:=Ab hblk 0;have g1:w2.cell? ⟨w1,1,none⟩=some (.slice a1 n1 c1):=Ab hblk 1;have g2:w2.cell? ⟨w1,2,none⟩=some (.slice a2 n2 c2):=Ab hblk 2;have qR:Below w1 w1 w2:=(wR _).trans (hb2.mono sM);have hB2:Below w w w2:=hB1.trans (qR.mono hB1.size);clear D1 hb2 hblk;cases b3 with
   |false =>exact FD63
   |true =>
    go_wp2_with fail;refine CmZ (D2.out _ qR) fun w3 hb3=>?_;have m0:=(hb3.cell (p:=⟨w1,0,none⟩) hlt2).trans g0;have m1:=(hb3.cell (p:=⟨w1,1,none⟩) hlt2).trans g1;have m2:=(hb3.cell (p:=⟨w1,2,none⟩) hlt2).trans g2;have hB3:Below w w w3:=hB2.trans (hb3.mono hB2.size);have tC:Below w1 w1 w3:=qR.trans (hb3.mono qR.size);have hlt3:w1.heap.size<w3.heap.size:=Ae hlt2 hb3.size;clear D2 hb3 g0 g1 g2;cases b4 with
    |false =>go_wp2;refine Aj (Aq rfl _ _ _) rfl ?_;exact⟨by rw [<- hR1.out];rfl,hB3⟩
    |true =>
     have h18:v.sel.sig.length<=18:=by have:=H3.out;unfold bJ at this;simp only [Bool.and_eq_true,decide_eq_true_eq] at this;exact this.1
     have h8:v.sel.path.length<=8:=by have:=H4.out;unfold bJ at this;simp only [Bool.and_eq_true,decide_eq_true_eq] at this;exact this.1
     have hwl:=Z3 HS.out.index HS.out.sig HS.out.path h18 h8;rw [Xd] at hwl hR1;have hS1:=hv1.out;have hS2:=hv2.out;have HS1:=Aa fun (W:ZB) (hb:Below w1 w1 W)=>hS1.below hb nR;have HS2:=Aa fun (W:ZB) (hb:Below w1 w1 W)=>hS2.below hb nR;have DC:=Aa fun (W:ZB)=>B9 v.sel.index W (by have:=of_decide_eq_false h1;omega) (by have:=of_decide_eq_false h2;omega);have hs1:v.sel.sig.length<=18:=h18;have hs2:v.sel.path.length<=8:=h8;have e1:=hn1.out;have e2:=hn2.out;rw [<- e1] at m1;rw [<- e2] at m2;clear hv1 hv2 hS1 hS2 H3 H4 hn1 hn2 h18 h8;subst e1 e2;generalize dG v.sel.index=dx at *;generalize v.sel.sig=sg at *;generalize v.sel.path=pt at *;have hR2:Hid (Hk (if 20000<(t++(CH.join [32] ([([115,101,97,108]:Q00),dx]++sg++[[47]]++pt)++[10])).length then .error 2 else .ok (t++(CH.join [32] ([([115,101,97,108]:Q00),dx]++sg++[[47]]++pt)++[10])))=R):=Aa (by rw [<- hR1.out];rfl);have SS:=Aa fun (W':ZB) (hb:Below w3 w3 W')=>(show W'.cell? ⟨w1,0,none⟩=some ↑v.sel.index/\W'.cell? ⟨w1,1,none⟩=some (.slice a1 sg.length c1)/\W'.cell? ⟨w1,2,none⟩=some (.slice a2 pt.length c2) from
      ⟨(hb.cell (p:=⟨w1,0,none⟩) hlt3).trans m0,(hb.cell (p:=⟨w1,1,none⟩) hlt3).trans m1,(hb.cell (p:=⟨w1,2,none⟩) hlt3).trans m2⟩)
     have hD3:Below w3 w3 w3.drew:=(Ac _ w3).drew;have HB:=Aa fun (W':ZB) (hb:Below w3 w3 W')=>tC.trans (hb.mono tC.size);clear hR1 m0 m1 m2;go_wp2_with fail;go_region_held3 (fun W'=>W'.cell? ⟨w1,0,none⟩=some ↑v.sel.index/\W'.cell? ⟨w1,1,none⟩=some (.slice a1 sg.length c1)/\W'.cell? ⟨w1,2,none⟩=some (.slice a2 pt.length c2)) (first|exact SS.out _ hB6|exact SS.out _ (hB5.alloc hB5.size _)|exact SS.out _ hB5|exact SS.out _ hD3)
      (first
      |(rw [Au rF];refine Ck _ _ rfl w5 _ [([115,101,97,108]:Q00),dx] rfl (Fu w5 [([115,101,97,108]:Q00),dx] sM) w1.heap.size _ sg rfl (HS1.out _ (HB.out _ (hB5.alloc hB5.size _))) (by simp;omega) sM ?_;intro v6 w6 hO6 hg6;have hB6:Below w3 w3 w6:=(hB5.alloc hB5.size _).grown hg6 (by have:=hB5.size;simp;omega) (fun j hj=>Af hB5.size ((Fu w5 [([115,101,97,108]:Q00),dx] sM).ownBlock j hj).1))
      |(go_at_call 70;refine CmZ (DC.out _) fun w5 hb5=>?_;have hB5:Below w3 w3 w5:=hD3.trans (hb5.mono hD3.size)))
     have hs5:w3.heap.size<=w5.heap.size:=hB5.size;have hs6:w5.heap.size<=w6.heap.size:=by have:=hg6.size;simp at this;omega
     have hD6:Below w3 w3 w6.drew:=hB6.drew;have hO7:=hO6.below (Ac _ w6).drew;have hl6:([([115,101,97,108]:Q00),dx]++sg).length<=20:=by simp;omega
     obtain⟨a6,c6,e6,_⟩:=hO6.form;generalize [([115,101,97,108]:Q00),dx]++sg=L6 at *;generalize L6.length=n6 at e6;subst e6;have JJ:=Aa fun (v:Value) (W:ZB) (hv:Strs W W v (L6++[[47]]++pt))=>Mj v _ W hv hwl;generalize CH.join [32] (L6++[[47]]++pt)=J at *;have hl4:¬ (9223372036854775807<J.length+1):=oM;have hl5:¬ (9223372036854775807<t.length+(J.length+1)):=oM;clear hO6 hg6 hb5;go_wp2_with fail;go_region_held3 (fun W'=>W'.cell? ⟨w1,0,none⟩=some ↑v.sel.index/\W'.cell? ⟨w1,1,none⟩=some (.slice a1 sg.length c1)/\W'.cell? ⟨w1,2,none⟩=some (.slice a2 pt.length c2)) (first|exact SS.out _ hC4|exact SS.out _ hC3|exact SS.out _ hC2|exact SS.out _ (hD6.alloc hD6.size _)|exact SS.out _ hD6)
      (first
      |(rw [Au rF];refine Ca _ _ rfl w5 _ L6 rfl (hO7.alloc _) w6.drew.heap.size _ [47] rfl (Cm _ _ _ _ _) oM (by simp;omega) ?_;intro v8 w8 hO8 hg8;have hC2:Below w3 w3 w8:=(hD6.alloc hD6.size _).grown hg8 (by have:=hD6.size;simp;omega) (fun j hj=>Af hs5 (hO7.ownBlock j hj).1);have hs8:w5.heap.size<=w8.heap.size:=by (have:=hg8.size;simp at this;omega))
      |(rw [Au rF];refine Ck _ _ rfl w5 _ _ rfl hO8 w1 _ pt rfl (HS2.out _ (HB.out _ hC2)) (by simp;omega) hs8 ?_;intro v9 w9 hO9 hg9;have hC3:Below w3 w3 w9:=hC2.grown hg9 hC2.size (fun j hj=>Af hs5 (hO8.ownBlock j hj).1))
      |(go_at_call 71;refine CmZ (JJ.out _ _ hO9.strs) fun w10 jO=>?_;have hC4:Below w3 w3 w10:=hC3.trans (jO.mono hC3.size)))
     have hB4:Below w w w10:=hB3.trans (hC4.mono hB3.size);have BD:(⟨t.toArray⟩++(⟨J.toArray⟩++⟨#[10]⟩):ByteArray)=⟨(t++(J++[10])).toArray⟩:=by rw [<- bytes_append,<- bytes_append]
     have hsz:(⟨t.toArray⟩++(⟨J.toArray⟩++⟨#[10]⟩):ByteArray).size=t.length+(J.length+1):=by rw [BD];simp [ByteArray.size]
     clear SS HB HS1 HS2 DC JJ hO8 hO9 hg8 hg9 jO hC2 hC3 hC4 hB5 hB6 hD3 hD6 hO7;by_cases h20:20000<t.length+(J.length+1)
     ·have q:ZH ((20000:Int)<((t.length+(J.length+1):Nat):Int))=true:=by simp;omega
      exact FD155
     ·have q:ZH ((20000:Int)<((t.length+(J.length+1):Nat):Int))=false:=by simp;omega
      have hR3:Hid (Hk (.ok (t++(J++[10])))=R):=Aa (by rw [<- hR2.out,Ai (by simpa using h20)]);exact FD52
theorem Hex {v:Q01} {t:Q00} (h:bY v=.ok t):0<=v.sel.index/\v.sel.index<=255/\bJ v.sel.sig 18=true/\bJ v.sel.path 8=true:=by
 unfold bY at h;split at h;·cases h
 ·split at h;·rename_i hc;unfold CH.within at hc;simp only [Ba,Bq] at hc;exact⟨hc.1.1.1,hc.1.1.2,hc.1.2,hc.2⟩
  ·cases h
theorem U5 {ls:List Q00} {n:Nat} (h:bJ ls n=true):ls.length<=n/\∀ l∈ls,ay l=true:=by unfold bJ at h;rw [Ba,Bq,F9,I8] at h;exact⟨h.1,fun l hl=>by simpa using h.2 l hl⟩
theorem Nm (v:Q01) (s:aS) (w:ZB) (h:aG w w v s) : ZE prog 43 #[.agg (Al v s).toArray] w (Ret w (Hk (CH.message v))):=by
 obtain⟨R,hR⟩:∃ R,Hid (Hk (CH.message v)=R):=⟨_,Aa rfl⟩
 rw [hR.out];have hR1:=hR.out;rw [Qe] at hR1;have hB0:=fun o=>(Ac _ w).alloc nR o;have h0:=h.fZ;have HV:=Aa fun (W:ZB) (hb:Below w w W)=>(h0.below hb nR).mono hb.size;have T:=fun (W:ZB) (hb:Below w w W)=>K5 (fZ v) _ W (HV.out W hb);have TB:=fun (W:ZB) (hb:Below w w W)=>Q8 (fZ v) _ W (HV.out W hb);rw [jD] at TB;obtain⟨t,ht⟩:∃ t,CH.bare v=t:=⟨_,rfl⟩
 obtain⟨x,hx⟩:∃ x,bY (fZ v)=x:=⟨_,rfl⟩
 have hl:∀ u,t=some u->u.length<=5000000000:=fun u hu=>Td (ht.trans hu) h;have hsome:∀ y,x=.ok y->∃ u,t=some u:=fun y hy=>by obtain⟨u,hu⟩:=R6 (hx.trans hy);rw [jD,ht] at hu;exact⟨u,hu⟩
 have herr:∀ e,x=.error e->e≠0:=fun e he=>by exact FD122
 rw [hx,ht] at hR1;rw [hx] at T;rw [ht] at TB;obtain⟨va,v1,v2⟩:=s;clear h h0 hx ht hR;dsimp only [Al,fZ] at T TB ⊢;have T:=Aa T;have TB:=Aa TB;have hR1:=Aa hR1;have hsz:∀ o,(w.alloc o).heap.size=w.heap.size+1:=fun o=>by simp
 go_enter func43,ntmps43;go_wp2_with fail;refine CmZ (T.out _ (hB0 _)) fun w1 hb1=>?_;have hB1:Below w w w1:=(hB0 _).trans (hb1.mono sM);have hblk:=(hb1.block w sM).trans (Aw w _);have k0:=Ab hblk 0;have k1:=Ab hblk 1;have k2:=Ab hblk 2;have k3:=Ab hblk 3;have k4:=Ab hblk 4;have k5:=Ab hblk 5;have k6:=Ab hblk 6;have k7:=Ab hblk 7;clear T hb1 hblk hsz;cases x with
 |error e =>
  dsimp only [Hk];dsimp only at hR1;have q:(e != 0)=true:=by simpa using herr e rfl
  clear herr hsome hl;exact FD100
 |ok y =>obtain⟨u,rfl⟩:=hsome y rfl;dsimp only [Hk];have S:=Aa fun W=>R8 u W (Af (hl u rfl) dC);dsimp only [Option.getD_some] at hR1;go_wp2_with fail;refine CmZ (TB.out _ hB1) fun w2 hb2=>?_;have hB2:Below w w w2:=hB1.trans (hb2.mono hB1.size);clear TB;dsimp only [iQ];go_wp2_with fail;refine (S.out _).mono ?_;exact FD107
theorem Xt (v:Q01) (s:aS) (key:Q00) (w:ZB) (h:aG w w v s) : ZE prog 38 #[.agg (Al v s).toArray,↑key] w (Ret w (.bool (dI v key))):=by
 obtain⟨R,hR⟩:∃ R,Hid (dI v key=R):=⟨_,Aa rfl⟩
 rw [hR.out];have hR1:=hR.out;unfold dI at hR1;have hB0:=fun o=>(Ac _ w).alloc nR o;have HV:=Aa fun (W:ZB) (hb:Below w w W)=>(h.below hb nR).mono hb.size;have T:=fun (W:ZB) (hb:Below w w W)=>K5 v s W (HV.out W hb);have M:=fun (W:ZB) (hb:Below w w W)=>Nm v s W (HV.out W hb);obtain⟨x,hx⟩:∃ x,bY v=x:=⟨_,rfl⟩
 have herr:∀ e,x=.error e->e≠0:=fun e he=>by exact FD122
 have hnum:∀ y,x=.ok y->1<=v.number/\v.number<=200:=fun y hy=>by obtain⟨u,hu⟩:=R6 (hx.trans hy);have:=I60 hu;omega
 simp only [Th] at M;have hml:=I50 v;generalize Uh (CH.message v)=me at M;generalize CH.msg v=mm at M hR1 hml;rw [hx] at hR1 T;have HS:=Aa h.small;have V:=fun (y:Q00) (hy:x=.ok y) (W:ZB) (hb:Below w w W)=>(show ZE prog 72 #[↑key,↑mm,.agg #[↑v.sel.index,s.v1,s.v2]] W (Ret W (.bool (Mf key mm v.sel.index v.sel.sig v.sel.path))) from by obtain⟨g1,g2,g3,g4⟩:=Hex (hx.trans hy);obtain⟨g5,g6⟩:=U5 g3;obtain⟨g7,g8⟩:=U5 g4;have e:((v.sel.index.toNat:Nat):Int)=v.sel.index:=Int.toNat_of_nonneg g1;have:=Zv key mm v.sel.index.toNat s.v1 s.v2 v.sel.sig v.sel.path W (Af hml dC) (HV.out W hb).sig (HV.out W hb).path g6 g8 g5 g7 oM;rwa [e] at this)
 obtain⟨va,v1,v2⟩:=s;clear h hx hR;dsimp only [Al] at T M V ⊢;have T:=Aa T;have M:=Aa M;have V:=Aa V;go_enter func38,ntmps38;go_wp2_with fail;refine CmZ (T.out _ (hB0 _)) fun w1 hb1=>?_;have hB1:Below w w w1:=(hB0 _).trans (hb1.mono sM);have hblk:=(hb1.block w sM).trans (Aw w _);have hlt1:w.heap.size<w1.heap.size:=(aZ hblk)
 have k0:w1.cell? ⟨w,0,none⟩=some ↑v.authority:=Ab hblk 0;have k1:w1.cell? ⟨w,1,none⟩=some ↑v.number:=Ab hblk 1;have k2:w1.cell? ⟨w,2,none⟩=some ↑v.pos:=Ab hblk 2;have k3:w1.cell? ⟨w,3,none⟩=some ↑v.prev:=Ab hblk 3;have k4:w1.cell? ⟨w,4,none⟩=some va:=Ab hblk 4;have k5:w1.cell? ⟨w,5,none⟩=some ↑v.sel.index:=Ab hblk 5;have k6:w1.cell? ⟨w,6,none⟩=some v1:=Ab hblk 6;have k7:w1.cell? ⟨w,7,none⟩=some v2:=Ab hblk 7;clear T hb1;clear hB0;replace M:=Aa (M.out _ hB1);cases x with
 |error e =>
  dsimp only [Hk];dsimp only at hR1;have q:(e==0)=false:=by simpa using herr e rfl
  replace hR1:=Aa hR1;clear herr hnum V;go_wp2_with fail;refine CmZ M.out fun w2 hb2=>?_;have hB2:Below w w w2:=hB1.trans (hb2.mono hB1.size);go_wp2;go_ret;exact⟨by rw [<- hR1.out];rfl,hB2⟩
 |ok y =>
  have hn:=hnum y rfl;dsimp only [Hk];dsimp only at hR1;replace hR1:=Aa hR1;replace V:=Aa (V.out y rfl);clear herr hnum;go_wp2_with fail;refine CmZ M.out fun w2 hb2=>?_;have hB2:Below w w w2:=hB1.trans (hb2.mono hB1.size);have hblk2:=(hb2.block w hlt1).trans hblk;have m1:w2.cell? ⟨w,1,none⟩=some ↑v.number:=Ab hblk2 1;have m5:w2.cell? ⟨w,5,none⟩=some ↑v.sel.index:=Ab hblk2 5;have m6:w2.cell? ⟨w,6,none⟩=some v1:=Ab hblk2 6;have m7:w2.cell? ⟨w,7,none⟩=some v2:=Ab hblk2 7;clear M k0 k1 k2 k3 k4 k5 k6 k7 hblk hblk2;by_cases hi:v.sel.index=v.number - 1
  ·have q1:(v.sel.index==v.number - 1)=true:=by simpa using hi
   have hR2:Hid (Mf key mm v.sel.index v.sel.sig v.sel.path=R):=Aa (by rw [<- hR1.out,q1];rfl);clear hR1 hi;exact FD91
  ·have q1:(v.sel.index==v.number - 1)=false:=by simpa using hi
   have hR2:Hid (false=R):=Aa (by rw [<- hR1.out,q1];rfl);clear hR1 V;go_wp2;go_ret;exact⟨by rw [<- hR2.out];rfl,hB2⟩
end
end Go.Proofs.Y
