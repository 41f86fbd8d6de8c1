/- Part 25. -/
import Derived.Test.YtajmjabodcmonaaGreatDoorP23
set_option linter.all false
set_option maxHeartbeats 40000000
set_option maxRecDepth 100000
open Go renaming World -> ZB, Value -> ZC, redrawn -> ZI, Calls -> ZE
open Go.RowKit renaming intOf -> ZG
namespace Go.Proofs.Y
section
open Go.Lib Go.Proofs.Tryz Go.RowKit Go.Shelf Go.Sort CH
attribute [local irreducible] wpQuiet
variable {c B:Nat} {w:ZB} {ls:List (Q01 × Q01)} {a:Option Addr} {K:Act->ZB->Prop} {Q:Exit->Act->ZB->Prop}
def Sl (a:Option Addr) (lo hi cap size:Nat):ZC:=sliced a lo hi cap size
theorem CP (a:Option Addr) (lo hi cap size:Nat):sliced a lo hi cap size=Sl a lo hi cap size:=rfl
attribute [local go_sem ↓] CP
theorem Held.CQ (W:ZB) (c i:Nat) (v:ZC):Held [c] W (W.setCell ⟨c,i,none⟩ v) := ⟨rfl,rfl,rfl,by simp [World.setCell],fun k _ hk=>Bt W ⟨c,i,none⟩ v k (by simpa using hk)⟩
theorem O1 {w':ZB} {T:TypeId} {s n:Nat} {v:ZC} {xs:List ZC} (h:w.ownsRow (c+1) T s v n xs) (hh:Held [c] w w'):w'.ownsRow (c+1) T s v n xs:=by
 obtain⟨h1,h2|⟨g,cap,cur,e,hb,hg,h3⟩⟩:=h;·exact⟨h1,.inl h2⟩
 ·exact⟨h1,.inr ⟨g,cap,cur,e,hb,(hh.block g (aZ hg) (by simp;omega)).trans hg,h3⟩⟩
theorem Bi.rU {w':ZB} {v:ZC} {ls:List Q01} (h:Bi (c+1) B w v ls) (hh:Held [c] w w') (hB:B<=c):Bi (c+1) B w' v ls:=by obtain⟨xs,h1,h2,h3,h4,h5⟩:=h;have hb:=hh.below (B:=c) oM sM;exact⟨xs,h1,O1 h2 hh,fun x hx=>(h3 x hx).below hb hB,h4,Af h5 hh.size⟩
theorem dH.rU {w':ZB} {v:ZC} {fs:List (Q01 × Q01)} (h:dH (c+1) B w v fs) (hh:Held [c] w w') (hB:B<=c):dH (c+1) B w' v fs:=by obtain⟨xs,h1,h2,h3,h4,h5⟩:=h;have hb:=hh.below (B:=c) oM sM;exact⟨xs,h1,O1 h2 hh,fun x hx=>⟨(h3 x hx).1.below hb hB,(h3 x hx).2.below hb hB⟩,h4,Af h5 hh.size⟩
theorem dH.low {base b:Nat} {v:ZC} (h:dH base B w v ls) (hb:b<=base) (hB:B<=b):dH b B w v ls:=by exact FD76
theorem Mrt {W:ZB} {vk vn vf vn':ZC} {keys:List Q00} {known':Q04} {forks:Q03} {rk':List Q01} {rf:List (Q01 × Q01)} (h1:w.heap[c]?=some (.cells #[vk,vn,vf] 86 (0,0))) (h2:Strs c w vk keys) (h4:dH (c+1) B w vf rf) (h6:dM (fun f=>CH.place f.1) forks rf) (hle:B<=c) (hb:Below w w W) (hO:Bi (c+1) B W vn' rk') (hR:dM CH.place known' rk'):RIn B (W.setCell ⟨c,1,none⟩ vn') c keys known' forks/\Held [c] w (W.setCell ⟨c,1,none⟩ vn'):=by
 have hc:=(aZ h1)
 have hS:=Held.CQ W c 1 vn';have hH:=(Held.of_below (R:=[c]) hb).trans hS;have hbc:=hH.below (B:=c) oM sM;refine⟨⟨⟨vk,vn',vf,rk',rf,?_,h2.below hbc nR,hO.rU hS hle,h4.rU hH hle,hR,h6⟩,hle⟩,hH⟩;exact A7 W c 1 vn' _ _ _ ((hb.block c hc).trans h1)
theorem Km8 {W:ZB} {vk vn vf vf':ZC} {keys:List Q00} {known:Q04} {kS:Q03} {rq:List Q01} {rf':List (Q01 × Q01)} (h1:w.heap[c]?=some (.cells #[vk,vn,vf] 86 (0,0))) (h2:Strs c w vk keys) (h3:Bi (c+1) B w vn rq) (h5:dM CH.place known rq) (hle:B<=c) (hb:Below w w W) (hO:dH (c+1) B W vf' rf') (hR:dM (fun f=>CH.place f.1) kS rf'):RIn B (W.setCell ⟨c,2,none⟩ vf') c keys known kS/\Held [c] w (W.setCell ⟨c,2,none⟩ vf'):=by
 have hc:=(aZ h1)
 have hS:=Held.CQ W c 2 vf';have hH:=(Held.of_below (R:=[c]) hb).trans hS;have hbc:=hH.below (B:=c) oM sM;refine⟨⟨⟨vk,vn,vf',rq,rf',?_,h2.below hbc nR,h3.rU hH hle,hO.rU hS hle,h5,hR⟩,hle⟩,hH⟩;exact A7 W c 2 vf' _ _ _ ((hb.block c hc).trans h1)
theorem Bi.BH {base:Nat} {n cap:Nat} {ls:List Q01} (h:Bi base B w (.slice a n cap) ls) (k:Nat) (hk:k<=n):∃ xs:List (Q01 × aS),xs.map (·.1)=ls/\(∀ x∈xs,aG B w x.1 x.2) /\ (∀ W,Below w w W->Fy W (Sl a 0 k cap 8) k (A9 (xs.take k)))/\∀ W,Below w w W->Fy W (Sl a k n cap 8) (n - k) (A9 (xs.drop k)):=by
 obtain⟨xs,e1,e2,SA,hparts⟩:=h.parts k hk;have ea:(a.map fun x=>x.add (0*8))=a:=by rcases h.row.2.2.1 with⟨rfl,_⟩|⟨g,rfl,_⟩ <;> rfl
 refine⟨xs,e1,e2,?_,?_⟩;·unfold Sl sliced;rw [ea,ite_self];exact SA
 ·unfold Sl sliced;rcases hparts with⟨rfl,SB⟩|⟨hcm,g,rfl,SB⟩;·rw [Au rfl,Nat.sub_self];exact SB
  ·rw [Ai hcm];intro W hb;have:=SB W hb;rw [Gq,Go.WideShapes.add_plain,Bf];exact this
theorem Um {o:Oper} {a:Act} (s x:Operand) (ho:o.op=.call { callee:=.builtin .append,args:=#[s,x],argTypes:=#[23,23] }) (base B:Nat) (v:ZC) (out:List Q01) (hO:Bi base B w v out) (hs:a.eval s=v) (vx:ZC) (zs:List (Q01 × aS)) (m:Nat) (hx:a.eval x=vx) (hX:Fy w vx m (A9 zs)) (hm:zs.length=m) (hat:∀ z∈zs,aG B w z.1 z.2) (n:Nat) (hn:out.length=n) (hlen:n+m<=1000000) (h:∀ av nn cv w',Bi base B w' (.slice av nn cv) (out++zs.map (·.1))->w.grownBy w' v.ownBlock->K (a.put o.dst (.slice av nn cv)) w'):o.wp prog a w K Q := Kn s x ho base B v out hO hs vx zs m hx hX hm hat n hn hlen fun av cv w' h1 h2=>h av _ cv w' h1 h2
theorem dH.BH {base:Nat} {n cap:Nat} (h:dH base B w (.slice a n cap) ls) (k:Nat) (hk:k<=n):∃ xs:List ((Q01 × Q01) × (aS × aS)),xs.map (·.1)=ls/\(∀ x∈xs,aG B w x.1.1 x.2.1/\aG B w x.1.2 x.2.2) /\ (∀ W,Below w w W->Fy W (Sl a 0 k cap 16) k ((xs.take k).flatMap Cg))/\∀ W,Below w w W->Fy W (Sl a k n cap 16) (n - k) ((xs.drop k).flatMap Cg):=by
 obtain⟨hl,hn,hcase,xs,e1,e2,e3⟩:=h.row;have hxl:xs.length=n:=by rw [<- hl,<- e1,Bh]
 have cell:=fun (g:Nat) (hg:a=some ⟨g,0,none⟩) (hlt:g<w.heap.size) (W:ZB) (hb:Below w w W) (j:Nat) (u:ZC) (hj:(xs.flatMap Cg)[j]?=some u)=>(hb.cell (p:=⟨g,j,none⟩) hlt).trans (e3 g hg j u hj);refine⟨xs,e1,e2,fun W hb=>?_,fun W hb=>?_⟩
 ·rcases hcase with⟨rfl,rfl,rfl⟩|⟨g,rfl,_,hg⟩;·obtain rfl:k=0:=oM;exact .inr ⟨0,rfl,rfl,rfl⟩
  ·have:=Wv (f:=Cg) (s:=16) (fun _=>rfl) (cell g rfl hg W hb) k cap;unfold Sl sliced;rw [Gq,Go.WideShapes.add_plain,ite_self];exact this
 ·unfold Sl sliced;by_cases e:cap=k
  ·have hz:xs.drop k=[]:=Jl oM;have hn0:n - k=0:=oM;rw [hz,hn0,Au e];cases a with
   |none=>exact .inr ⟨_,rfl,rfl,rfl⟩
   |some ad=>exact .inl ⟨ad,_,rfl,fun j u hj=>by simp at hj⟩
  ·rw [Ai e];rcases hcase with⟨rfl,rfl,rfl⟩|⟨g,rfl,_,hg⟩;·exact absurd (show 0=k by omega) e
   ·rw [Gq,Go.WideShapes.add_plain,Bf];exact Ggz (f:=Cg) (s:=16) (fun _=>rfl) (cell g rfl hg W hb) k (n - k) (cap - k)
theorem Y6 {o:Oper} {a:Act} (s x:Operand) (ho:o.op=.call { callee:=.builtin .append,args:=#[s,x],argTypes:=#[47,47] }) (base B:Nat) (v:ZC) (out:List (Q01 × Q01)) (hO:dH base B w v out) (hs:a.eval s=v) (vx:ZC) (zs:List ((Q01 × Q01) × (aS × aS))) (m:Nat) (hx:a.eval x=vx) (hX:Fy w vx m (zs.flatMap Cg)) (hm:zs.length=m) (hat:∀ z∈zs,aG B w z.1.1 z.2.1/\aG B w z.1.2 z.2.2) (n:Nat) (hn:out.length=n) (hlen:n+m<=1000000) (h:∀ av nn cv w',dH base B w' (.slice av nn cv) (out++zs.map (·.1))->w.grownBy w' v.ownBlock->K (a.put o.dst (.slice av nn cv)) w'):o.wp prog a w K Q := Pn s x ho base B v out hO hs vx zs m hx hX hm hat n hn hlen fun av cv w' h1 h2=>h av _ cv w' h1 h2
theorem Pr9 (l:List (ZC × Nat)):∀ z:Array ZC,(l.foldl (fun (cs:Array ZC) (x:ZC × Nat)=>cs.setIfInBounds x.2 x.1) z).size=z.size:=by
 induction l with
 |nil=>exact fun _=>rfl
 |cons a l ih=>exact fun z=>(ih _).trans (Array.size_setIfInBounds ..)
theorem Yp:∀ (cs pre z post:List ZC),z.length=cs.length->List.foldl (fun (c:Array ZC) (x:ZC × Nat)=>c.setIfInBounds x.2 x.1) (pre++z++post).toArray (cs.zipIdx pre.length)=(pre++cs++post).toArray
 |[],pre,z,post,h=>by
  have:z=[]:=Bo.1 (by simpa using h)
  subst this;rfl
 |v::cs,pre,z,post,h=>by
  cases z with
  |nil=>simp at h
  |cons u z =>
   rw [List.zipIdx_cons,Nl]
   have e:((pre++u::z++post).toArray.setIfInBounds pre.length v)=((pre++[v])++z++post).toArray:=sM
   dsimp only
   rw [e]
   have:=Yp cs (pre++[v]) z post (by simpa using h)
   rw [Ah,Di] at this
   rw [this]
   simp
theorem Net {C D:List ZC} (hC:C.length=8) (hD:D.length=8) (z:Array ZC) (hz:z.size=16):D.zipIdx.foldl (fun (cs:Array ZC) (x:ZC × Nat)=>cs.setIfInBounds (8+x.2) x.1) (C.zipIdx.foldl (fun (cs:Array ZC) (x:ZC × Nat)=>cs.setIfInBounds x.2 x.1) z)=(C++D).toArray:=by
 have h1:=Yp C [] (z.toList.take 8) (z.toList.drop 8) (by rw [C9,hC];simp [hz]);rw [Dl,D8,Dl,Bj,Array.toArray_toList] at h1;have h2:=Yp D C (z.toList.drop 8) [] (by rw [Ei,hD];simp [hz]);rw [Gg,Gg,hC] at h2;rw [h1,<- h2,show D.zipIdx 8=D.zipIdx.map (fun x:ZC × Nat=>(x.1,8+x.2)) from by
  refine Jf fun i=>?_;rw [Dq,List.getElem?_zipIdx,List.getElem?_zipIdx];cases D[i]? with
  |none=>rfl
  |some u=>simp,List.foldl_map]
theorem Pnc (B c:Nat) (keys:List Q00) (known:Q04) (forks:Q03) (v:Q01) (s:aS) (w:ZB) (hC:RIn B w c keys known forks) (hv0:aG B w v s) (hN:known.length<=1000) (hF:forks.length<=1000) (t:Q00) (ht:bY v=.ok t) (ha:v.authority<(keys.length:Int)) : Calls prog 9 #[.pointer (some ⟨c,0,none⟩),.agg (Al v s).toArray] w (Pi B w c keys (dV dI keys known forks v)):=by
 have hv:=hv0.mono hC.low;have hn:=lX ht;obtain⟨b,hk⟩:∃ b,dI v (keys.getD v.authority.toNat [])=b:=⟨_,rfl⟩
 have KEY:=fun (e:b=false)=>sD (forks:=forks) (known:=known) ht ha (hk.trans e);have FREE:=fun (hl:bH (v.authority,v.number) known=none) (e:b=true)=>qC (forks:=forks) ht ha (hk.trans e) hl;have TAKEN:=fun (x:Q01) (hl:bH (v.authority,v.number) known=some x) (e:b=true)=>pJ (forks:=forks) ht ha (hk.trans e) hl;obtain⟨R,hR⟩:∃ R,dV dI keys known forks v=R:=⟨_,rfl⟩
 rw [hR];simp only [hR] at KEY FREE TAKEN;have KEY:=Aa KEY;have HC:=Aa hC;clear hR;have hB0:=fun o=>(Ac _ w).alloc nR o;have HV:=Aa fun (W:ZB) (hb:Below w w W)=>(hv.below hb nR).mono hb.size;replace hv0:=Aa hv0;have T:=fun (W:ZB) (hb:Below w w W)=>K5 v s W (HV.out W hb);rw [ht] at T;obtain⟨vk,vn,vf,rq,rf,dZ,xQ,hvs,hfs,hr5,hr6⟩:=hC.ex;have hBc:=hC.le;have hBw:=hC.low;have uN:=Aa fun (eb:b=true) (k:Nat) (W:ZB) (vn':ZC) (hs:ou CH.place rq (CH.place v) k) (h:∀ x,rq[k]?=some x->ltP (CH.place v) (CH.place x)) (hb:Below w w W) (hO:Bi (c+1) B W vn' (rq.take k++v::rq.drop k)) =>(show Pi B w c keys R (.returned (.int .i64 0)) (W.setCell ⟨c,1,none⟩ vn') by obtain⟨i,j⟩:=Mrt dZ xQ hfs hr6 hBc hb hO (hr5.add hs h v rfl);rw [FREE (hr5.free hs h) eb];exact⟨rfl,i,j⟩)
 have done2:=Aa fun (eb:b=true) (k:Nat) (x:Q01) (W:ZB) (hs:ou CH.place rq (CH.place v) k) (hx:rq[k]?=some x) (h:¬ ltP (CH.place v) (CH.place x)) (e:((CH.bare x).getD []==(CH.bare v).getD [])=true) (hb:Below w w W) =>(show Pi B w c keys R (.returned (.int .i64 0)) W by rw [TAKEN x (hr5.taken hs hx h).2 eb,Au e];exact⟨rfl,hC.grow hb,Held.of_below hb⟩)
 have uM:=Aa fun (eb:b=true) (k:Nat) (x:Q01) (j:Nat) (W:ZB) (vf':ZC) (hs:ou CH.place rq (CH.place v) k) (hx:rq[k]?=some x) (h:¬ ltP (CH.place v) (CH.place x)) (e:¬ ((CH.bare x).getD []==(CH.bare v).getD [])=true) (hs':ou (fun f:Q01 × Q01=>CH.place f.1) rf (CH.place v) j) (h':∀ f,rf[j]?=some f->ltP (CH.place v) (CH.place f.1)) (hb:Below w w W) (hO:dH (c+1) B W vf' (rf.take j++(x,v)::rf.drop j)) =>(show Pi B w c keys R (.returned (.int .i64 17)) (W.setCell ⟨c,2,none⟩ vf') by obtain⟨e1,e2⟩:=hr5.taken hs hx h;rw [TAKEN x e2 eb,Ai e];have hl:=hr6.free hs' h';have:=hr6.add hs' h' (x,v) e1.symm;unfold iL;rw [show (v.authority,v.number)=CH.place v from rfl,hl];obtain⟨i,j⟩:=Km8 dZ xQ hvs hr5 hBc hb hO this;exact⟨rfl,i,j⟩)
 have uK:=Aa fun (eb:b=true) (k:Nat) (x:Q01) (j:Nat) (f:Q01 × Q01) (W:ZB) (hs:ou CH.place rq (CH.place v) k) (hx:rq[k]?=some x) (h:¬ ltP (CH.place v) (CH.place x)) (e:¬ ((CH.bare x).getD []==(CH.bare v).getD [])=true) (hs':ou (fun f:Q01 × Q01=>CH.place f.1) rf (CH.place v) j) (hf:rf[j]?=some f) (h':¬ ltP (CH.place v) (CH.place f.1)) (hb:Below w w W) =>(show Pi B w c keys R (.returned (.int .i64 17)) W by obtain⟨e1,e2⟩:=hr5.taken hs hx h;rw [TAKEN x e2 eb,Ai e];have hl:=(hr6.taken hs' hf h').2;unfold iL;rw [show (v.authority,v.number)=CH.place v from rfl,hl];exact⟨rfl,hC.grow hb,Held.of_below hb⟩)
 clear FREE TAKEN;have DR:rq.length<=1000:=Af hr5.len hN;have DU:rf.length<=1000:=Af hr6.len hF;have yE:c<w.heap.size:=(aZ dZ)
 obtain⟨ak,ck,rfl,_,_,hks⟩:=xQ.mono (Gw yE);obtain⟨A,hA⟩:∃ A:Nat,v.authority=A:=⟨v.authority.toNat,oM⟩
 have hAt:v.authority.toNat=A:=oM;rw [hAt] at hk;rw [hA] at ha;have hAl:A<keys.length:=oM;obtain⟨key,hkey⟩:∃ key,keys[A]?=some key:=⟨_,Ad hAl⟩
 have hgd:keys.getD A []=key:=by simp [hkey]
 rw [hgd] at hk;obtain⟨bk,ok,rfl,hbk,hkc⟩:=hks (fun e=>by rw [e] at hAl;simp at hAl);have hkc:=hkc A key hkey;have C:=fun (W:ZB) (hb:Below w w W)=>Xt v s key W (HV.out W hb);rw [hk] at C;have BA:=fun (W:ZB) (hb:Below w w W)=>Tr v s W (HV.out W hb);have hVs:=Aa hvs;have hFs:=Aa hfs;obtain⟨an,cn,rfl,hcn⟩:=hvs.form;obtain⟨af,cf,rfl,hcf⟩:=hfs.form;have LC:=hvs;obtain⟨va,v1,v2⟩:=s;dsimp only [Al,Hk] at T C ⊢;rw [hA] at T C ⊢;have T:=Aa T;have C:=Aa C;have BA:=Aa BA;have BF:=Aa fun (x:Q01) (sx:aS) (W:ZB)=>Oz x v sx ⟨va,v1,v2⟩ W;have BG:=Aa fun (x:Q01) (sx:aS) (W:ZB)=>Oz v x ⟨va,v1,v2⟩ sx W;dsimp only [Al] at BF BG;rw [hA] at BF BG;have eF:c<w.heap.size:=yE;have hAt:=Aa hAt;have hA:=Aa hA;obtain⟨P,hP⟩:∃ P,CH.place v=P:=⟨_,rfl⟩
 simp only [hP] at uN done2 uM uK BF BG;have hP:=Aa hP;obtain⟨n,hn'⟩:∃ n,Hid (rq.length=n):=⟨_,Aa rfl⟩
 obtain⟨m,hm'⟩:∃ n,Hid (rf.length=n):=⟨_,Aa rfl⟩
 rw [hn'.out] at DR hcn dZ hVs;rw [hm'.out] at DU hcf dZ hFs;generalize keys.length=N at *;have q:decide ((N:Int)<=(A:Int))=false:=by simp;omega
 have z0:(0:Int)<=(A:Int):=oM;have zA:((A:Int)).toNat=A:=oM;have ha':(A:Int)<(N:Int):=oM;clear hC hv hks xQ hkey hgd hk hn hvs hfs LC hr5 hr6 hN hF;replace dZ:=Aa dZ;replace ht:=Aa ht;go_enter func9,ntmps9;go_wp2_with fail;refine CmZ (T.out _ (hB0 _)) fun w1 hb1=>?_;have hB1:Below w w w1:=(hB0 _).trans (hb1.mono sM);have hblk:=(hb1.block w sM).trans (Aw w _);have hlt1:w.heap.size<w1.heap.size:=(aZ hblk)
 have k0:w1.cell? ⟨w,0,none⟩=some ↑A:=Ab hblk 0;have kc:w1.cell? ⟨c,0,none⟩=some (.slice (some ⟨bk,ok,none⟩) N ck):=Ab ((hB1.block c eF).trans dZ.out) 0;have g0:∀ (d:Nat) (os:Array Obj),(grow (ZI w1 d) os).cell? ⟨w,0,none⟩=some ↑A:=Ag k0;have gc:∀ (d:Nat) (os:Array Obj),(grow (ZI w1 d) os).cell? ⟨c,0,none⟩=some (.slice (some ⟨bk,ok,none⟩) N ck):=Ag kc;clear T hb1 k0 kc;go_wp2_with fail;refine Ar kR kR ?_;repeat (quiet_step (fail))
 refine Bv ?_;intro wq hbq;replace hbq:=An hbq;clear g0 gc;have hB2:=hB1.trans (hbq.mono hB1.size);replace hblk:=(hbq.block w hlt1).trans hblk;have hlt2:w.heap.size<wq.heap.size:=(aZ hblk)
 clear hbq;have C2:=Aa fun (W:ZB) (hb:Below wq wq W)=>C.out W (hB2.trans (hb.mono hB2.size));obtain⟨X,hX⟩:∃ X,X=wq:=⟨_,rfl⟩
 rw [<- hX] at hB2 hblk hlt2 C2 ⊢;have BOX:=Aa fun (W:ZB) (h:W.heap[w.heap.size]?=X.heap[w.heap.size]?) (j:Nat)=>Ab (h.trans hblk) j;obtain⟨g0,g1,g2,g3,g4,g5,g6,g7⟩:=vI hblk;have gc:∀ (d:Nat) (os:Array Obj),(grow (ZI X d) os).cell? ⟨c,0,none⟩=some (.slice (some ⟨bk,ok,none⟩) N ck):=Ag (Ab ((hB2.block c eF).trans dZ.out) 0);have gk:∀ (d:Nat) (os:Array Obj),(grow (ZI X d) os).cell? ⟨bk,ok+A,none⟩=some ↑key:=Ag ((hB2.cell (p:=⟨bk,ok+A,none⟩) hbk).trans hkc);clear hX C w1 hB1 hlt1;go_wp2_with fail;refine Ar kR kR ?_;repeat (quiet_step ((with_reducible exact Bc (C2.out _ (D6 _ _ _)))))
 refine Bv ?_;intro wq hbq;replace hbq:=An hbq;clear g0 g1 g2 g3 g4 g5 g6 g7 gc gk;have hB3:=Aa (hB2.trans (hbq.mono hB2.size));replace hblk:=Aa ((hbq.block w hlt2).trans hblk);have hlt3:w.heap.size<wq.heap.size:=(aZ hblk.out)
 clear C2 hbq hlt2 hB2 BOX q z0 zA ha' hbk hkc;cases b with
 |false =>obtain rfl:=KEY.out rfl;go_wp2;go_ret;exact⟨rfl,HC.out.grow hB3.out,Held.of_below hB3.out⟩
 |true =>
 replace uN:=Aa (uN.out rfl);replace done2:=Aa (done2.out rfl);replace uM:=Aa (uM.out rfl);replace uK:=Aa (uK.out rfl);clear KEY HC;try simp only [Gv]
 go_wp2_with fail;obtain⟨Y,rfl⟩:∃ z,z=wq:=⟨wq,rfl⟩
 go_loopw [7] (fun iv wr=>∃ k:Nat,k<=n/\iv=↑k/\Hid (∀ j x,j<k->rq[j]?=some x->ltP (CH.place x) P)/\Hid (Below Y Y wr)) (fun iv _=>n - (ZG iv).toNat);case atStart=>exact⟨0,Az _,rfl,Aa fun j x h=>absurd h (Nat.not_lt_zero _),Aa (Ac _ _)⟩
 case round =>
  obtain⟨k,hkn,rfl,hlo,hBr⟩:=hrel;have hwk:IntKind.i64.wrap ((k:Int)+1)=(k:Int)+1:=by rw [IntKind.wrap_i64];omega
  have hBW:=hB3.out.trans (hBr.out.mono hB3.out.size);have hbx:=(hBr.out.block w hlt3).trans hblk.out;have hbc:=(hBW.block c eF).trans dZ.out;have gc1:∀ (d:Nat) (os:Array Obj),(grow (ZI wr d) os).cell? ⟨c,1,none⟩=some (.slice an n cn):=Ag (Ab hbc 1);have z0:(0:Int)<=(k:Int):=oM;have zk:((k:Int)).toNat=k:=oM;by_cases hlt:k<n;focus
   obtain⟨x,hx⟩:∃ x,rq[k]?=some x:=⟨_,Ad (by rw [hn'.out];exact hlt)⟩
   obtain⟨g,⟨xa,x1,x2⟩,rfl,hg1,hg2,hr,yc⟩:=hVs.out.pos hx;have hrr:wr.rangeAt g (k*8) (Al x ⟨xa,x1,x2⟩):=A6 hr hBW hg2;have hk':(k:Int)<(n:Int):=oM;obtain⟨g0,g1,g2,g3,g4,g5,g6,g7⟩:=vI hbx;obtain⟨r0,r1,r2,r3,r4,r5,r6,r7⟩:=xG hrr;have hrr:=Aa hrr;have F:=BF.out x ⟨xa,x1,x2⟩;dsimp only [Al] at F;by_cases hb:ltP (CH.place x) P
   ·rw [Am hb] at F;have F:=Aa F;have zl:Hid (∀ j x,j<k+1->rq[j]?=some x->ltP (CH.place x) P):=Aa fun j y hj hy=>by
     rcases H9 j k with h|h;·exact hlo.out j y h hy
     ·obtain rfl:j=k:=oM;rw [hx] at hy;cases hy;exact hb
    clear hb hr yc hrr;go_wp2_with fail;refine Ar kR kR ?_;repeat (quiet_step ((with_reducible exact Bc (F.out _))))
    refine Bv ?_;intro wq hbq;replace hbq:=An hbq;have hB4:=Aa (hBr.out.trans (hbq.mono hBr.out.size));clear g0 g1 g2 g3 g4 g5 g6 g7 r0 r1 r2 r3 r4 r5 r6 r7 gc1 hbq;go_wp2;go_roundw;case rel=>exact⟨k+1,oM,by go_num,zl,hB4⟩
    case measure=>simp [ZG];omega
   have hspot:Hid (ou CH.place rq P k):=Aa ⟨by rw [hn'.out];exact hkn,fun j y hj hy=>hlo.out j y hj hy,fun y hy=>by rw [hx] at hy;cases hy;exact hb⟩;rw [Ak hb] at F;have F:=Aa F;go_wp2_with fail;refine Ar kR kR ?_;repeat (quiet_step ((with_reducible exact Bc (F.out _))))
   refine Bv ?_;intro wq hbq;replace hbq:=An hbq;have hB4:=Aa (hBW.trans (hbq.mono hBW.size));have hs4:=hbq.size;have hlt4:w.heap.size<wr.heap.size:=Ae hlt3 hBr.out.size;have rW:=Aa ((hbq.block w hlt4).trans hbx);have vG:=Aa ((hB4.out.block c eF).trans dZ.out);have yY:=Aa (A6 hrr.out hbq (Ae hg2 hBW.size));clear g0 g1 g2 g3 g4 g5 g6 g7 r0 r1 r2 r3 r4 r5 r6 r7 gc1 hbq hrr hbx hbc hblk hlo hb F;obtain⟨X4,rfl⟩:∃ z,z=wq:=⟨wq,rfl⟩
   have gc1:∀ (d:Nat) (os:Array Obj),(grow (ZI X4 d) os).cell? ⟨c,1,none⟩=some (.slice (some ⟨g,0,none⟩) n cn):=Ag (Ab vG.out 1);obtain⟨g0,g1,g2,g3,g4,g5,g6,g7⟩:=vI rW.out;obtain⟨r0,r1,r2,r3,r4,r5,r6,r7⟩:=xG yY.out;have q9:((k:Int)==(n:Int))=false:=by simp;omega
   have F:=BG.out x ⟨xa,x1,x2⟩;dsimp only [Al] at F;by_cases hb:ltP P (CH.place x);focus
    have hfree:Hid (∀ y,rq[k]?=some y->ltP P (CH.place y)):=Aa fun y hy=>by rw [hx] at hy;cases hy;exact hb
    rw [Am hb] at F;have F:=Aa F;clear hb;go_wp2_with fail;refine Ar kR kR ?_;repeat (quiet_step ((with_reducible exact Bc (F.out _))))
    refine Bv ?_;intro wq hbq;replace hbq:=An hbq;have hB5:=Aa (hB4.out.trans (hbq.mono hB4.out.size));have tq:=Aa ((hbq.block w (Ae hlt4 hs4)).trans rW.out);clear g0 g1 g2 g3 g4 g5 g6 g7 r0 r1 r2 r3 r4 r5 r6 r7 gc1 hbq yY vG hB4 rW F hr yc hx q9
  rotate_left;focus
   have hn2:=Aa hb;rw [Ak hb] at F;have F:=Aa F;clear hb;go_wp2_with fail;refine Ar kR kR ?_;repeat (quiet_step ((with_reducible exact Bc (F.out _))))
   refine Bv ?_;intro wq hbq;replace hbq:=An hbq;have hB5:=Aa (hB4.out.trans (hbq.mono hB4.out.size));have tq:=Aa ((hbq.block w (Ae hlt4 hs4)).trans rW.out);clear g0 g1 g2 g3 g4 g5 g6 g7 r0 r1 r2 r3 r4 r5 r6 r7 gc1 hbq yY vG hB4 rW F q9;obtain⟨X5,rfl⟩:∃ z,z=wq:=⟨wq,rfl⟩
   have hs5:=hB5.out.size;have wM:=Aa ((hB5.out.block c eF).trans dZ.out);have kc1:X5.cell? ⟨c,1,none⟩=some (.slice (some ⟨g,0,none⟩) n cn):=Ab wM.out 1;have BX:=fun (W:ZB) (hb:Below w w W)=>Tr x ⟨xa,x1,x2⟩ W ((yc.below hb hBw).mono (Af hBw hb.size));have BV:=BA.out;simp only [uO] at BX BV;obtain⟨LL,hLL⟩:∃ LL,Hid (Al v ⟨va,v1,v2⟩=LL):=⟨_,Aa rfl⟩
   obtain⟨LX,hLX⟩:∃ LL,Hid (Al x ⟨xa,x1,x2⟩=LL):=⟨_,Aa rfl⟩
   have hi8:(prog.info? 38).map (·.size)=some LL.length:=by rw [<- hLL.out];kernel_rfl
   have hix:(prog.info? 38).map (·.size)=some LX.length:=by rw [<- hLX.out];kernel_rfl
   have hrx:Hid (X5.rangeAt g (k*8) LX):=Aa (by have:=A6 hr hB5.out hg2;rwa [hLX.out] at this);have hrv:Hid (X5.rangeAt w 0 LL):=Aa fun j u hj=>by rw [Bf,Ab tq.out j];rw [<- hLL.out] at hj;have:=hA.out;simpa [Al,this] using hj
   rw [hLX.out] at BX;rw [hLL.out] at BV;obtain⟨t1,ht1⟩:∃ t,Hid ((CH.bare x).getD []=t):=⟨_,Aa rfl⟩
   obtain⟨t2,ht2⟩:∃ t,Hid ((CH.bare v).getD []=t):=⟨_,Aa rfl⟩
   simp only [ht1.out] at BX;simp only [ht2.out] at BV;generalize (CH.bare x).isSome=i1 at BX;generalize (CH.bare v).isSome=i2 at BV;have BX:=Aa BX;have BV:=Aa BV;go_wp2_with (refine Bd rfl 38 _ rfl g (k*8) rfl LX _ hrx.out underlying38 rfl hix ?_)
   refine CmZ (BX.out _ hB5.out) fun w6 hb6=>?_;have hB6:=Aa (hB5.out.trans (hb6.mono hs5));have hw5:w.heap.size<X5.heap.size:=(aZ tq.out)
   have CY:=Aa (A6 hrv.out hb6 hw5);have EG:=(hb6.block w hw5).trans tq.out;have hw6:w.heap.size<w6.heap.size:=Ae hw5 hb6.size;clear hb6 kc1 BX;go_wp2_with (refine Bd rfl 38 _ rfl w 0 rfl LL _ CY.out underlying38 rfl hi8 ?_)
   refine CmZ (BV.out _ hB6.out) fun w7 hb7=>?_;have hB7:=Aa (hB6.out.trans (hb7.mono hB6.out.size));have KU:=Aa ((hb7.block w hw6).trans EG);have hw7:w.heap.size<w7.heap.size:=Ae hw6 hb7.size;clear hb7 BV CY hB6 EG;by_cases e:(t1==t2)=true;focus have tK:=Aa (done2.out k x w7 hspot.out hx hn2.out (by rw [ht1.out,ht2.out];exact e) hB7.out);obtain rfl:t1=t2:=eq_of_beq e;clear e;go_wp2;go_ret;exact tK.out
   have eb:(t1==t2)=false:=Bool.eq_false_iff.2 e;have hne:Hid (¬ ((CH.bare x).getD []==(CH.bare v).getD [])=true):=Aa (by rw [ht1.out,ht2.out];exact e);clear e;go_wp2_with fail;clear eb;have hs7:=hB7.out.size;go_loopw [13] (fun iv wy=>∃ j:Nat,j<=m/\iv=↑j/\Hid (∀ i f,i<j->rf[i]?=some f->ltP (CH.place f.1) P)/\Hid (Below w7 w7 wy)) (fun iv _=>m - (ZG iv).toNat);case atStart=>exact⟨0,Az _,rfl,Aa fun j x h=>absurd h (Nat.not_lt_zero _),Aa (Ac _ _)⟩
   case round =>
    obtain⟨j,hjm,rfl,wC,hBy⟩:=hrel;obtain⟨wy,rfl⟩:∃ z,z=wr:=⟨wr,rfl⟩
    have hwj:IntKind.i64.wrap ((j:Int)+1)=(j:Int)+1:=by rw [IntKind.wrap_i64];omega
    have hBY:=hB7.out.trans (hBy.out.mono hs7);have hby:=(hBy.out.block w hw7).trans KU.out;have hcy:=(hBY.block c eF).trans dZ.out;have gc2:∀ (d:Nat) (os:Array Obj),(grow (ZI wy d) os).cell? ⟨c,2,none⟩=some (.slice af m cf):=Ag (Ab hcy 2);have y0:(0:Int)<=(j:Int):=oM;have yk:((j:Int)).toNat=j:=oM;by_cases DJ:j<m;focus
     obtain⟨f,hf⟩:∃ f,rf[j]?=some f:=⟨_,Ad (by rw [hm'.out];exact DJ)⟩
     obtain⟨a',cap',e',_,hne'⟩:=hFs.out.at;obtain⟨gf,ea,hgf,hx'⟩:=hne' (by intro h;rw [h] at hf;simp at hf);obtain rfl:=(Value.slice.inj e').1.trans ea;obtain⟨⟨fa,f1,f2⟩,sf,rr1,rr2,hf1,hf2⟩:=hx' j f hf;clear e' hne' hx';have hry:wy.rangeAt gf (j*16) (Al f.1 ⟨fa,f1,f2⟩):=A6 rr1 hBY hgf;have hj':(j:Int)<(m:Int):=oM;obtain⟨g0,g1,g2,g3,g4,g5,g6,g7⟩:=vI hby
     obtain⟨r0,r1,r2,r3,r4,r5,r6,r7⟩:=xG hry;have hry:=Aa hry;have F:=BF.out f.1 ⟨fa,f1,f2⟩;dsimp only [Al] at F;by_cases hb:ltP (CH.place f.1) P
     ·rw [Am hb] at F;have F:=Aa F;have zl:Hid (∀ i f,i<j+1->rf[i]?=some f->ltP (CH.place f.1) P):=Aa fun i y hi hy=>by
       rcases H9 i j with h|h;·exact wC.out i y h hy
       ·obtain rfl:i=j:=oM;rw [hf] at hy;cases hy;exact hb
      clear hb rr1 rr2 hf1 hf2 hry;go_wp2_with fail;refine Ar kR kR ?_;repeat (quiet_step ((with_reducible exact Bc (F.out _))))
      refine Bv ?_;intro wq hbq;replace hbq:=An hbq;have hB8:=Aa (hBy.out.trans (hbq.mono hBy.out.size));clear g0 g1 g2 g3 g4 g5 g6 g7 r0 r1 r2 r3 r4 r5 r6 r7 gc2 hbq;go_wp2;go_roundw;case rel=>exact⟨j+1,oM,by go_num,zl,hB8⟩
      case measure=>simp [ZG];omega
     have yX:Hid (ou (fun f:Q01 × Q01=>CH.place f.1) rf P j):=Aa ⟨by rw [hm'.out];exact hjm,fun i y hi hy=>wC.out i y hi hy,fun y hy=>by rw [hf] at hy;cases hy;exact hb⟩;rw [Ak hb] at F;have F:=Aa F;go_wp2_with fail;refine Ar kR kR ?_;repeat (quiet_step ((with_reducible exact Bc (F.out _))))
     refine Bv ?_;intro wq hbq;replace hbq:=An hbq;have hs8:=hbq.size;have hB8:=Aa (hBY.trans (hbq.mono hBY.size));have hwy:w.heap.size<wy.heap.size:=Ae hw7 hBy.out.size;have vF:=Aa ((hbq.block w hwy).trans hby);have wL:=Aa ((hB8.out.block c eF).trans dZ.out);have CX:=Aa (A6 hry.out hbq (Ae hgf hBY.size));clear g0 g1 g2 g3 g4 g5 g6 g7 r0 r1 r2 r3 r4 r5 r6 r7 gc2 hbq hry hby hcy wC hb F;obtain⟨X8,rfl⟩:∃ z,z=wq:=⟨wq,rfl⟩
     have gc2:∀ (d:Nat) (os:Array Obj),(grow (ZI X8 d) os).cell? ⟨c,2,none⟩=some (.slice (some ⟨gf,0,none⟩) m cf):=Ag (Ab wL.out 2);obtain⟨g0,g1,g2,g3,g4,g5,g6,g7⟩:=vI vF.out;obtain⟨r0,r1,r2,r3,r4,r5,r6,r7⟩:=xG CX.out;have q9:((j:Int)==(m:Int))=false:=by simp;omega
     have F:=BG.out f.1 ⟨fa,f1,f2⟩;dsimp only [Al] at F;by_cases hb:ltP P (CH.place f.1);focus
      have DZ:Hid (∀ y,rf[j]?=some y->ltP P (CH.place y.1)):=Aa fun y hy=>by rw [hf] at hy;cases hy;exact hb
      rw [Am hb] at F;have F:=Aa F;clear hb;go_wp2_with fail;refine Ar kR kR ?_;repeat (quiet_step ((with_reducible exact Bc (F.out _))))
      refine Bv ?_;intro wq hbq;replace hbq:=An hbq;have hB9:=Aa (hB8.out.trans (hbq.mono hB8.out.size));have zD:=Aa ((hbq.block w (Ae hwy hs8)).trans vF.out);clear g0 g1 g2 g3 g4 g5 g6 g7 r0 r1 r2 r3 r4 r5 r6 r7 gc2 hbq CX wL hB8 vF F rr1 rr2 hf1 hf2 hf q9
    rotate_left;focus
     have hn3:=Aa hb;rw [Ak hb] at F;have F:=Aa F;clear hb;go_wp2_with fail;refine Ar kR kR ?_;repeat (quiet_step ((with_reducible exact Bc (F.out _))))
     refine Bv ?_;intro wq hbq;replace hbq:=An hbq;have tK:=Aa (uK.out k x j f wq hspot.out hx hn2.out hne.out yX.out hf hn3.out (hB8.out.trans (hbq.mono hB8.out.size)));clear g0 g1 g2 g3 g4 g5 g6 g7 r0 r1 r2 r3 r4 r5 r6 r7 gc2 hbq F;go_wp2;go_ret;exact tK.out
    focus
     have KD:j=m:=oM;clear DJ hjm;subst KD;have hjm:=Bg j;have yX:Hid (ou (fun f:Q01 × Q01=>CH.place f.1) rf P j):=Aa ⟨by rw [hm'.out];exact Bg _,fun i y hi hy=>wC.out i y hi hy,fun y hy=>absurd (lS hy) (by rw [hm'.out];omega)⟩;have DZ:Hid (∀ y,rf[j]?=some y->ltP P (CH.place y.1)):=Aa fun y hy=>absurd (lS hy) (by rw [hm'.out];omega);go_wp2_with fail;refine Ar kR kR ?_;repeat (quiet_step (fail))
     refine Bv ?_;intro wq hbq;replace hbq:=An hbq;have hs8:=hbq.size;have hB8:=Aa (hBY.trans (hbq.mono hBY.size));have hwy:w.heap.size<wy.heap.size:=Ae hw7 hBy.out.size;have vF:=Aa ((hbq.block w hwy).trans hby);have wL:=Aa ((hB8.out.block c eF).trans dZ.out);clear gc2 hbq hby hcy wC;obtain⟨X8,rfl⟩:∃ z,z=wq:=⟨wq,rfl⟩
     have gc2:∀ (d:Nat) (os:Array Obj),(grow (ZI X8 d) os).cell? ⟨c,2,none⟩=some (.slice af j cf):=Ag (Ab wL.out 2);go_wp2_with fail;refine Ar kR kR ?_;repeat (quiet_step (fail))
     refine Bv ?_;intro wq hbq;replace hbq:=An hbq;have hB9:=Aa (hB8.out.trans (hbq.mono hB8.out.size));have zD:=Aa ((hbq.block w (Ae hwy hs8)).trans vF.out);clear gc2 hbq wL hB8 vF
    all_goals
     have hs9:=hB9.out.size;obtain⟨xs,e1,e2,SA,SB⟩:=(hFs.out.below hB9.out).BH j (by first|exact hjm|exact Bg _);have hxl:=(congrArg List.length e1).trans hm'.out;rw [Bh] at hxl;have SA:=Aa SA;have SB:=Aa SB;have mD:=Aa e2;have hjc:(j:Int)<=(cf:Int):=oM;have OB:=Int.ofNat_le.2 hjm;have nM:=Aa ((Ac _ wq).alloc nR (.cells #[] 94));have hOe:Hid (dH wq B (wq.alloc (.cells #[] 94)) (.slice (some ⟨wq,0,none⟩) 0 0) []):=Aa ⟨[],rfl,Ki 16 nR (Aw wq _),(fun _ h=>by cases h),oM,nM.out.size⟩;have xU:=Aa ((hB9.out.block c eF).trans dZ.out);have k1:(wq.alloc (.cells #[] 94)).cell? ⟨c,2,none⟩=some (.slice _ _ cf):=(nM.out.cell (p:=⟨c,2,none⟩) (Ae eF hs9)).trans (Ab xU.out 2);have eT:[]++(xs.take j).map (·.1)=rf.take j:=by rw [Dl,List.map_take,e1]
     have eD:(xs.drop j).map (·.1)=rf.drop j:=by rw [List.map_drop,e1]
     clear e2;go_wp2_with (first|(at_builtin;go_loud (refine Y7 rfl _ _ rfl wq B _ [] hOe.out rfl _ (xs.take j) j rfl (SA.out _ nM.out) (by rw [C9];omega) (fun z hz=>⟨(mD.out z (Gs hz)).1.below nM.out oM,(mD.out z (Gs hz)).2.below nM.out oM⟩) 0 rfl oM ?_))|fail)
     intro av2 cv2 w10 hO6 hgr;have jO:=Aa (nM.out.trans (Bu hgr nM.out.size fun j hj=>(hOe.out.mine j hj).1));have hO7:Hid (dH wq B w10 (.slice av2 j cv2) (rf.take j)):=Aa hO6;have hTl:Hid ((rf.take j).length=j):=Aa (by rw [C9,hm'.out];omega);clear hO6 hgr SA nM hOe eT k1;have hw9:w.heap.size<wq.heap.size:=(aZ zD.out)
     have hr1:Hid (wq.rangeAt w 0 LL):=Aa fun j u hj=>by rw [Bf,Ab zD.out j];rw [<- hLL.out] at hj;have:=hA.out;simpa [Al,this] using hj
     have hr2:Hid (wq.rangeAt g (k*8) LX):=Aa (by have:=A6 hr hB9.out hg2;rwa [hLX.out] at this);have hs10:=jO.out.size;have kq:=Ab xU.out 1;have kq2:=Ab xU.out 2;have kc4:=Aa fun (W:ZB) (hb:Below wq wq W)=>(hb.cell (p:=⟨c,2,none⟩) (Ae eF hs9)).trans kq2;have hSS:Hid (∀ (W:ZB) (hb:Below wq wq W),W.rangeAt w 0 LL/\W.rangeAt g (k*8) LX/\W.cell? ⟨c,1,none⟩=some (.slice (some ⟨g,0,none⟩) n cn)):=Aa fun (W:ZB) (hb:Below wq wq W)=>And.intro (A6 hr1.out hb hw9) (And.intro (A6 hr2.out hb (Ae hg2 hB9.out.size)) ((hb.cell (p:=⟨c,1,none⟩) (Ae eF hs9)).trans kq));clear kq kq2;have hD:Below w10 w10 w10.drew:=(Ac _ w10).drew;try go_wp2_with fail
     refine Ed (S:=fun W'=>W'.rangeAt w 0 LL/\W'.rangeAt g (k*8) LX/\W'.cell? ⟨c,1,none⟩=some (.slice (some ⟨g,0,none⟩) n cn)) kR (hSS.out _ (jO.out.trans (hD.mono hs10))) fun kz=>?_;refine tj 0 ?_;push_cast;refine tj 1 ?_;push_cast;refine tj 2 ?_;push_cast;refine tj 3 ?_;push_cast;refine tj 4 ?_;push_cast;refine tj 5 ?_;push_cast;refine tj 6 ?_;push_cast;refine tj 7 ?_;push_cast;refine Ir (i:=8) (v:=.agg LX.toArray) rfl kR kR kR (fun _ _ _ h=>h) ?_ kz ?_;·exact yieldsIf_load_mid rF _ _ rfl _ _ rfl LX _ (fun W hSw=>hSw.2.1) underlying38 rfl hix
     push_cast;refine Ir (i:=9) (v:=.agg LL.toArray) rfl kR kR kR (fun _ _ _ h=>h) ?_ kz ?_;·exact yieldsIf_load_mid rF _ _ rfl _ _ rfl LL _ (fun W hSw=>hSw.1) underlying38 rfl hi8
     push_cast;have hlx:LX.length=8:=by rw [<- hLX.out];rfl
     have hll:LL.length=8:=by rw [<- hLL.out];rfl
     refine tk 10 (v:=.agg (LX++LL).toArray) rfl rF kz ?_ ?_;·intro w hSw;go_simp;rw [Net hlx hll _ rfl];simp only [Pr9];rfl
     push_cast;obtain⟨LP,hLP⟩:∃ L,Hid (LX++LL=L):=⟨_,Aa rfl⟩
     have hlp:LP.length=16:=by rw [<- hLP.out,Ah,hlx,hll]
     rw [hLP.out];clear hlx hll;refine tj 13 ?_;push_cast;refine tj 14 ?_;push_cast;refine tj 15 ?_;push_cast;refine tj 17 ?_;push_cast;have zU:=Aa (jO.out.trans (hD.mono hs10));have hb5:=((Ac _ w10).alloc nR (.cells LP.toArray 94)).drew;have nZ:=Aa (jO.out.trans (hb5.mono hs10));have pq:=Aa (hO7.out.below hb5);have hQ5:=Aa (Bp w10 LP 94);have hBq:B<=wq.heap.size:=oM;have kA:w10.cell? ⟨c,2,none⟩=some (.slice _ _ cf):=kc4.out _ jO.out;have kB:(w10.alloc (.cells LP.toArray 94)).cell? ⟨c,2,none⟩=some (.slice _ _ cf):=kc4.out _ (jO.out.trans (((Ac _ w10).alloc nR (.cells LP.toArray 94)).mono hs10));have HVV:=Aa fun (W:ZB) (hb:Below wq wq W)=>And.intro (yc.below (hB9.out.trans (hb.mono hs9)) hBw) (hv0.out.below (hB9.out.trans (hb.mono hs9)) hBw);have hPC:Hid ([((x,v),((⟨xa,x1,x2⟩:aS),(⟨va,v1,v2⟩:aS)))].flatMap Cg=LP):=Aa (by rw [Dx,Gx,Gg];unfold Cg;dsimp only;rw [hLX.out,hLL.out,hLP.out]);clear hb5 hD;refine Ew (rs:=[11,16]) kR sM ?_;refine Cc (o:=_) rfl (fun K hK=>?_) (Cc (o:=_) rfl (fun K hK=>?_) Eo);focus go_simp;rw [Kk LP _ (by rw [hlp];rfl)];refine hK.out _ _ (hSS.out _ nZ.out) fun kz=>?_;clear hK K;push_cast;refine Ew (rs:=[12,16]) kR sM ?_;refine Cc (o:=_) rfl (fun K hK=>?_) (Cc (o:=_) rfl (fun K hK=>?_) Eo)
     rotate_left;focus go_simp;refine hK.out _ _ (hSS.out _ nZ.out) fun kz=>?_;clear hK K;push_cast;refine tj 18 ?_;push_cast;refine rk 12 rfl fun K hK=>?_
     rotate_left;focus go_simp;refine hK.out _ _ (hSS.out _ zU.out) fun kz=>?_;clear hK K;push_cast;refine tj 18 ?_;push_cast;refine rk 11 rfl fun K hK=>?_;go_simp;rw [Kk LP _ (by rw [hlp];rfl)];refine hK.out _ _ (hSS.out _ nZ.out) fun kz=>?_;clear hK K;push_cast;refine rk 12 rfl fun K hK=>?_
     all_goals
      rw [Au rF];refine Pn _ _ rfl wq B _ _ pq.out rfl _ [((x,v),(⟨xa,x1,x2⟩,⟨va,v1,v2⟩))] 1 rfl (.inl ⟨⟨w10,0,none⟩,_,rfl,fun j u hj=>?c1⟩) rfl ?c2 j hTl.out oM ?_;case c1 =>rw [hPC.out] at hj;rw [Go.WideShapes.add_plain];exact hQ5.out j u hj
      case c2 =>intro z hz;cases Ce.1 hz;exact HVV.out _ nZ.out
      intro av3 cv3 w11 hO8 hg8;have hb8:=Aa (nZ.out.trans (Bu hg8 nZ.out.size fun j hj=>(pq.out.mine j hj).1));have kC:w11.cell? ⟨c,2,none⟩=some (.slice _ _ cf):=kc4.out _ hb8.out;clear hg8;refine hK.out _ _ (hSS.out _ hb8.out) fun kz=>?_;clear hK K;push_cast
     rotate_left;focus refine rk 16 rfl fun K hK=>?_;go_simp;refine hK.out _ _ (hSS.out _ hb8.out) fun kz=>?_;clear hK K;push_cast;refine tj 18 ?_;push_cast
     all_goals refine rk 19 rfl fun K hK=>?_;rw [Au rF];refine Y6 _ _ rfl wq B _ _ hO8 rfl _ (xs.drop j) _ rfl (SB.out _ hb8.out) (by rw [Ei,hxl]) (fun z hz=>⟨(mD.out z (Iu hz)).1.below hb8.out hBq,(mD.out z (Iu hz)).2.below hb8.out hBq⟩) (j+1) (by rw [Ah,hTl.out];rfl) oM ?_;intro av4 n4 cv4 w12 hO9 hg9;have hb9:=Aa (hb8.out.trans (Bu hg9 hb8.out.size fun j hj=>(hO8.mine j hj).1));have kD:w12.cell? ⟨c,2,none⟩=some (.slice _ _ cf):=kc4.out _ hb9.out;have kF:w12.frozen? ⟨c,2,none⟩=false:=Bb ((hb9.out.block c (Ae eF hs9)).trans xU.out) 2;refine hK.out _ _ (hSS.out _ hb9.out) fun kz=>?_;clear hK K;push_cast;clear hg9 kA kB kC;refine tj 20 ?_;push_cast;refine tj 21 ?_;push_cast;refine rk 22 rfl fun K hK=>?_;go_simp;have hS9:=hSS.out _ hb9.out;refine hK.out _ _ ⟨fun j u hj=>(D9 _ ⟨c,2,none⟩ ⟨w,0+j,none⟩ _ (fun e=>by dsimp only at e;omega)).trans (hS9.1 j u hj),fun i u hi=>(World.cell?_setCell_far _ ⟨c,2,none⟩ ⟨g,k*8+i,none⟩ _ (fun e=>by dsimp only at e;omega)).trans (hS9.2.1 i u hi),(World.cell?_setCell_other _ ⟨c,2,none⟩ ⟨c,1,none⟩ _ (fun e=>by cases e)).trans hS9.2.2⟩ (fun kz=>?_);clear hK K kD kF;push_cast;refine Dy kR ?_ _;have qU:=hO9.low (b:=c+1) oM oM;rw [eD,Dv] at qU;have tK:=Aa (uM.out k x j w12 _ hspot.out hx hn2.out hne.out yX.out DZ.out (hB9.out.trans (hb9.out.mono hs9)) qU);clear hO9 qU hO8 pq hQ5;go_wp2;go_ret;exact tK.out
  focus
   have hkn2:k=n:=oM;clear hlt hkn;subst hkn2;have hkn:=Bg k;have hspot:Hid (ou CH.place rq P k):=Aa ⟨by rw [hn'.out];exact Bg _,fun j y hj hy=>hlo.out j y hj hy,fun y hy=>absurd (lS hy) (by rw [hn'.out];omega)⟩;have hfree:Hid (∀ y,rq[k]?=some y->ltP P (CH.place y)):=Aa fun y hy=>absurd (lS hy) (by rw [hn'.out];omega);go_wp2_with fail;refine Ar kR kR ?_;repeat (quiet_step (fail))
   refine Bv ?_;intro wq hbq;replace hbq:=An hbq;have hB4:=Aa (hBW.trans (hbq.mono hBW.size));have hs4:=hbq.size;have hlt4:w.heap.size<wr.heap.size:=Ae hlt3 hBr.out.size;have rW:=Aa ((hbq.block w hlt4).trans hbx);have vG:=Aa ((hB4.out.block c eF).trans dZ.out);clear gc1 hbq hbx hbc hblk hlo;obtain⟨X4,rfl⟩:∃ z,z=wq:=⟨wq,rfl⟩
   have gc1:∀ (d:Nat) (os:Array Obj),(grow (ZI X4 d) os).cell? ⟨c,1,none⟩=some (.slice an k cn):=Ag (Ab vG.out 1);go_wp2_with fail;refine Ar kR kR ?_;repeat (quiet_step (fail))
   refine Bv ?_;intro wq hbq;replace hbq:=An hbq;have hB5:=Aa (hB4.out.trans (hbq.mono hB4.out.size));have tq:=Aa ((hbq.block w (Ae hlt4 hs4)).trans rW.out);clear gc1 hbq vG hB4 rW
  all_goals
   have hs5:=hB5.out.size;obtain⟨xs,e1,e2,SA,SB⟩:=(hVs.out.below hB5.out).BH k (by first|exact hkn|exact Bg _);have hxl:=(congrArg List.length e1).trans hn'.out;rw [Bh] at hxl;have SA:=Aa SA;have SB:=Aa SB;have mD:=Aa e2;have hkc:(k:Int)<=(cn:Int):=oM;have hkn':=Int.ofNat_le.2 hkn;have hB6:=Aa ((Ac _ wq).alloc nR (.cells #[] 38));have hOe:Hid (Bi wq B (wq.alloc (.cells #[] 38)) (.slice (some ⟨wq,0,none⟩) 0 0) []):=Aa ⟨[],rfl,Ki 8 nR (Aw wq _),(fun _ h=>by cases h),oM,hB6.out.size⟩;have wM:=Aa ((hB5.out.block c eF).trans dZ.out);have k1:(wq.alloc (.cells #[] 38)).cell? ⟨c,1,none⟩=some (.slice _ _ cn):=(hB6.out.cell (p:=⟨c,1,none⟩) (Ae eF hs5)).trans (Ab wM.out 1);have eT:[]++(xs.take k).map (·.1)=rq.take k:=by rw [Dl,List.map_take,e1]
   have eD:(xs.drop k).map (·.1)=rq.drop k:=by rw [List.map_drop,e1]
   clear e2;go_wp2_with (first|(at_builtin;refine Vv rfl _ _ rfl wq B _ [] hOe.out rfl _ (xs.take k) k rfl (SA.out _ hB6.out) (by rw [C9];omega) (fun z hz=>(mD.out z (Gs hz)).below hB6.out oM) 0 rfl oM ?_)|fail)
   intro av2 cv2 w4 hO6 hgr;have hb6:=Aa (hB6.out.trans (Bu hgr hB6.out.size fun j hj=>(hOe.out.mine j hj).1));have hO7:Hid (Bi wq B w4 (.slice av2 k cv2) (rq.take k)):=Aa hO6;have hTl:Hid ((rq.take k).length=k):=Aa (by rw [C9,hn'.out];omega);clear hO6 hgr SA hB6 hOe eT k1;obtain⟨LL,hLL⟩:∃ LL,Hid (Al v ⟨va,v1,v2⟩=LL):=⟨_,Aa rfl⟩
   have hll:LL.length=8:=by rw [<- hLL.out];rfl
   have hi8:(prog.info? 38).map (·.size)=some LL.length:=by rw [hll];kernel_rfl
   have hr6:Hid (wq.rangeAt w 0 LL):=Aa fun j u hj=>by rw [Bf,Ab tq.out j];rw [<- hLL.out] at hj;have:=hA.out;simpa [Al,this] using hj
   have hw5:w.heap.size<wq.heap.size:=(aZ tq.out)
   have hs6:=hb6.out.size;have kq:=Ab wM.out 1;have kc4:=Aa fun (W:ZB) (hb:Below wq wq W)=>(hb.cell (p:=⟨c,1,none⟩) (Ae eF hs5)).trans kq;have hSS:=Aa fun (W:ZB) (hb:Below wq wq W)=>A6 hr6.out hb hw5;clear kq;have hD:Below w4 w4 w4.drew:=(Ac _ w4).drew;try go_wp2_with fail
   refine Ed (S:=fun W'=>W'.rangeAt w 0 LL) kR (hSS.out _ (hb6.out.trans (hD.mono hs6))) fun kz=>?_;refine tj 0 ?_;push_cast;refine tj 1 ?_;push_cast;refine Ir (i:=2) (v:=.agg LL.toArray) rfl kR kR kR (fun _ _ _ h=>h) ?_ kz ?_;·exact yieldsIf_load_mid rF _ _ rfl _ _ rfl LL _ (fun W hSw=>hSw) underlying38 rfl hi8
   push_cast;refine tj 5 ?_;push_cast;refine tj 6 ?_;push_cast;refine tj 7 ?_;push_cast;refine tj 9 ?_;push_cast;have zU:=Aa (hb6.out.trans (hD.mono hs6));have hb5:=((Ac _ w4).alloc nR (.cells LL.toArray 38)).drew;have nZ:=Aa (hb6.out.trans (hb5.mono hs6));have pq:=Aa (hO7.out.below hb5);have hQ5:=Aa (Bp w4 LL 38);have hBq:B<=wq.heap.size:=oM;have kA:w4.cell? ⟨c,1,none⟩=some (.slice _ _ cn):=kc4.out _ hb6.out;have kB:(w4.alloc (.cells LL.toArray 38)).cell? ⟨c,1,none⟩=some (.slice _ _ cn):=kc4.out _ (hb6.out.trans (((Ac _ w4).alloc nR (.cells LL.toArray 38)).mono hs6));have HVV:=Aa fun (W:ZB) (hb:Below wq wq W)=>hv0.out.below (hB5.out.trans (hb.mono hs5)) hBw;clear hb5 hD;refine Ew (rs:=[3,8]) kR sM ?_;refine Cc (o:=_) rfl (fun K hK=>?_) (Cc (o:=_) rfl (fun K hK=>?_) Eo);focus go_simp;rw [Kk LL _ (by rw [hll];rfl)];refine hK.out _ _ (hSS.out _ nZ.out) fun kz=>?_;clear hK K;push_cast;refine Ew (rs:=[4,8]) kR sM ?_;refine Cc (o:=_) rfl (fun K hK=>?_) (Cc (o:=_) rfl (fun K hK=>?_) Eo)
   rotate_left;focus go_simp;refine hK.out _ _ (hSS.out _ nZ.out) fun kz=>?_;clear hK K;push_cast;refine tj 10 ?_;push_cast;refine rk 4 rfl fun K hK=>?_
   rotate_left;focus go_simp;refine hK.out _ _ (hSS.out _ zU.out) fun kz=>?_;clear hK K;push_cast;refine tj 10 ?_;push_cast;refine rk 3 rfl fun K hK=>?_;go_simp;rw [Kk LL _ (by rw [hll];rfl)];refine hK.out _ _ (hSS.out _ nZ.out) fun kz=>?_;clear hK K;push_cast;refine rk 4 rfl fun K hK=>?_
   all_goals
    rw [Au rF];refine Kn _ _ rfl wq B _ _ pq.out rfl _ [(v,⟨va,v1,v2⟩)] 1 rfl (.inl ⟨⟨w4,0,none⟩,_,rfl,fun j u hj=>?c1⟩) rfl ?c2 k hTl.out oM ?_;case c1 =>rw [M9,hLL.out] at hj;rw [Go.WideShapes.add_plain];exact hQ5.out j u hj
    case c2 =>intro z hz;cases Ce.1 hz;exact HVV.out _ nZ.out
    intro av3 cv3 w5 hO8 hg8;have hb8:=Aa (nZ.out.trans (Bu hg8 nZ.out.size fun j hj=>(pq.out.mine j hj).1));have kC:w5.cell? ⟨c,1,none⟩=some (.slice _ _ cn):=kc4.out _ hb8.out;clear hg8;refine hK.out _ _ (hSS.out _ hb8.out) fun kz=>?_;clear hK K;push_cast
   rotate_left;focus refine rk 8 rfl fun K hK=>?_;go_simp;refine hK.out _ _ (hSS.out _ hb8.out) fun kz=>?_;clear hK K;push_cast;refine tj 10 ?_;push_cast
   all_goals refine rk 11 rfl fun K hK=>?_;rw [Au rF];refine Um _ _ rfl wq B _ _ hO8 rfl _ (xs.drop k) _ rfl (SB.out _ hb8.out) (by rw [Ei,hxl]) (fun z hz=>(mD.out z (Iu hz)).below hb8.out hBq) (k+1) (by rw [Ah,hTl.out];rfl) oM ?_;intro av4 n4 cv4 w6 hO9 hg9;have hb9:=Aa (hb8.out.trans (Bu hg9 hb8.out.size fun j hj=>(hO8.mine j hj).1));have kD:w6.cell? ⟨c,1,none⟩=some (.slice _ _ cn):=kc4.out _ hb9.out;have kF:w6.frozen? ⟨c,1,none⟩=false:=Bb ((hb9.out.block c (Ae eF hs5)).trans wM.out) 1;refine hK.out _ _ (hSS.out _ hb9.out) fun kz=>?_;clear hK K;push_cast;clear hg9 kA kB kC;refine tj 12 ?_;push_cast;refine tj 13 ?_;push_cast;refine rk 14 rfl fun K hK=>?_;go_simp;refine hK.out _ _ (fun j u hj=>(D9 _ ⟨c,1,none⟩ ⟨w,0+j,none⟩ _ (fun e=>by dsimp only at e;omega)).trans (hSS.out _ hb9.out j u hj)) (fun kz=>?_);clear hK K kD kF;push_cast;refine Dy kR ?_ _;have qU:=hO9.low (b:=c+1) oM oM;rw [eD,Dv] at qU;have tK:=Aa (uN.out k w6 _ hspot.out hfree.out (hB5.out.trans (hb9.out.mono hs5)) qU);clear hO9 qU hO8 pq hQ5;go_wp2;go_ret;exact tK.out
theorem Hw2 (B c:Nat) (keys:List Q00) (known:Q04) (forks:Q03) (v:Q01) (s:aS) (w:ZB) (hC:RIn B w c keys known forks) (hv0:aG B w v s) (hN:known.length<=1000) (hF:forks.length<=1000) : Calls prog 9 #[.pointer (some ⟨c,0,none⟩),.agg (Al v s).toArray] w (Pi B w c keys (dV dI keys known forks v)):=by
 cases ht:bY v with
 |error er =>
  have e:dV dI keys known forks v=(1,known,forks):=by unfold dV;rw [ht]
  rw [e];exact Kn1 B c keys known forks v s w hC hv0 er ht
 |ok t =>
  by_cases ha:(keys.length:Int)<=v.authority
  ·have e:dV dI keys known forks v=(1,known,forks):=by unfold dV;rw [ht];dsimp only;rw [Am (show v.authority >= keys.length from ha),Au rfl]
   rw [e];exact Kn2 B c keys known forks v s w hC hv0 t ht ha
  ·exact Pnc B c keys known forks v s w hC hv0 hN hF t ht oM
end
section
open Go.Lib Go.Proofs.Tryz Go.RowKit Go.Shelf Go.Sort CH
theorem Ain (w:ZB):ZE prog 19 #[.pointer none] w (fun e w'=>e=.returned (.slice none 0 0)/\w=w'):=by go_enter func19,ntmps19;exact FD138
def GX (RK:List (Q01 × Q01)->Prop) (w:ZB) (e:Ending) (w':ZB):Prop:=∃ v rf,e=.returned v/\RK rf/\qZ w' v rf/\rf.length<=1000/\Below w w w'
def GY (RK:List (Q01 × Q01)->Prop) (w:ZB) (e:Ending) (w':ZB):Prop:=∃ v,e=.returned v/\(∀ rf,RK rf->qZ w' v rf)/\Below w w w'
structure Side (w0:ZB) (pc pd:Value) (l:List Q01) (I J:Nat->ZB->Prop) (er:Nat->Int) (cs:Nat->List Int) (hn:Int->Nat) (hs:Int->Q00) (vs:List Q01) (RK:List (Q01 × Q01)->Prop):Prop where
 up:∀ k W,I k W->Below w0 w0 W
 upJ:∀ k W,J k W->Below w0 w0 W
 grow:∀ k W W',I k W->Below W W W'->I k W'
 add:∀ k x s W,l[k]?=some x->I k W->aG w0 W x s->ZE prog 8 #[pc,.agg (Al x s).toArray] W fun e w'=>e=.returned (.int .i64 (er k))/\J k w'
 yT:∀ k x s W,l[k]?=some x->J k W->aG w0 W x s->ZE prog 9 #[pd,.agg (Al x s).toArray] W fun e w'=>e=.returned (.int .i64 (er k))/\I (k+1) w'
 vec:∀ k W,I k W->ZE prog 11 #[pc] W (Wi W (cs k))
 rvec:∀ k W,I k W->ZE prog 12 #[pd] W (Wi W (cs k))
 head:∀ (a:Int) W,I l.length W->ZE prog 13 #[pc,↑a] W (Ret W (.tuple #[.int .i64 (hn a:Nat),.string ⟨(hs a).toArray⟩]))
 vS:∀ (a:Int) W,I l.length W->ZE prog 14 #[pd,↑a] W (Ret W (.tuple #[.int .i64 (hn a:Nat),.string ⟨(hs a).toArray⟩]))
 vers:∀ W,I l.length W->ZE prog 16 #[pc] W (Wh W vs)
 vP:∀ W,I l.length W->ZE prog 17 #[pd] W (Wh W vs)
 forks:∀ W,I l.length W->ZE prog 19 #[pc] W (GY RK W)
 sU:∀ W,I l.length W->ZE prog 20 #[pd] W (GX RK W)
theorem RIn.CU {B:Nat} {w:ZB} {c:Nat} {keys:List Q00} {known:Q04} {forks:Q03} (h:RIn B w c keys known forks):∀ i l,w.cell? ⟨c,i,none⟩≠some (.string l):=fun i l hc=>by
 obtain⟨vk,vn,vf,rk,rf,h1,h2,h3,h4,_⟩:=h.ex;obtain⟨_,_,rfl,_⟩:=h2.form;obtain⟨_,_,rfl,_⟩:=h3.form;obtain⟨_,_,rfl,_⟩:=h4.form;by_cases hi:i<3
 ·have e:=Ab h1 i;rw [hc] at e;rcases H9 i 1 with h|h;·obtain rfl:i=0:=oM;cases e
  ·rcases H9 i 2 with h|h;·obtain rfl:i=1:=oM;cases e
   ·obtain rfl:i=2:=oM;cases e
 ·have e:=Ab h1 i;rw [hc] at e;rw [Lp (by simpa using hi)] at e;cases e
theorem ChainIn.maps {B K:Nat} {w:ZB} {c r1 r2:Nat} {keys:List Q00} {known:Q04} {forks:Q03} (h:ChainIn B K w c r1 r2 keys known forks):∀ r∈[r1,r2],But w r:=fun r hr=>by
 simp only [Bl,Ci,Et] at hr;rcases hr with rfl|rfl;·obtain⟨kvs,⟨es,ck,e,_⟩,_⟩:=h.known;exact⟨es,ck,e⟩
 ·obtain⟨kvs,⟨es,ck,e,_⟩,_⟩:=h.forks;exact⟨es,ck,e⟩
structure xw (w0:ZB) (c r1 r2 d:Nat) (keys:List Q00) (m m':List Q01) (W:ZB):Prop where
 a:ChainIn w0 0 W c r1 r2 keys (jR keys m).1 (jR keys m).2
 b:RIn w0 W d keys (jR keys m').1 (jR keys m').2
 up:Below w0 w0 W
theorem Pmk (w0:ZB) (c r1 r2 d:Nat) (keys:List Q00) (l:List Q01) (hG:Gc w0) (hc:c<d) (h1:r1<d) (h2:r2<d) (g1:w0.heap.size<=r1) (g2:w0.heap.size<=r2) (hl:l.length<=8) (hkl:keys.length<=8) : Side w0 (.pointer (some ⟨c,0,none⟩)) (.pointer (some ⟨d,0,none⟩)) l (fun k=>xw w0 c r1 r2 d keys (l.take k) (l.take k)) (fun k=>xw w0 c r1 r2 d keys (l.take (k+1)) (l.take k)) (fun k=>match l[k]? with|some x=>(dV dI keys (jR keys (l.take k)).1 (jR keys (l.take k)).2 x).1|none=>0) (fun k=>CH.counts CH.msg (jR keys (l.take k)).1 keys.length) (fun a=>(fol CH.msg (jR keys l).1 a).1.length) (fun a=>(fol CH.msg (jR keys l).1 a).2) (CH.versions CH.msg (jR keys l).1 keys.length) (dM (fun f=>CH.place f.1) (jR keys l).2):=by
 have LT:∀ k,(l.take k).length<=8:=fun k=>by rw [C9];omega
 have LK:∀ m:List Q01,m.length<=8->(jR keys m).1.length<=1000:=fun m hm=>by have:=jJ (chk:=dI) (keys:=keys) m [] [];have h0:([]:Q04).length=0:=rfl;rw [h0] at this;show (iE dI keys m [] []).1.length<=1000;omega
 have LF:∀ m:List Q01,m.length<=8->(((jR keys m).2.map (·.1)).Nodup/\(jR keys m).2.length<=8):=fun m hm=>by have:=lV (chk:=dI) (keys:=keys) m [] [] List.nodup_nil;have h0:([]:Q03).length=0:=rfl;rw [h0] at this;exact⟨this.1,by have:=this.2;show (iE dI keys m [] []).2.length<=8;omega⟩
 have GD:∀ m:List Q01,CH.Good dI keys (jR keys m).1:=fun m=>jE (chk:=dI) (keys:=keys) m [] [] (pG dI keys);have SN:∀ k x,l[k]?=some x->jR keys (l.take (k+1))=(dV dI keys (jR keys (l.take k)).1 (jR keys (l.take k)).2 x).2:=fun k x hx=>by rw [aI _ _ _ hx];exact oJ dI keys (l.take k) x [] []
 have TL:l.take l.length=l:=Dn;have GU:∀ {W:ZB},Below w0 w0 W->Gc W:=fun hb=>hG.below hb;refine { up:=fun k W h=>h.up,upJ:=fun k W h=>h.up,grow:=fun k W W' h hb=>⟨h.a.grow hb,h.b.grow hb,h.up.trans (hb.mono h.up.size)⟩,add:=fun k x s W hx h hv=>?_,yT:=fun k x s W hx h hv=>?_,vec:=fun k W h=>?_,rvec:=fun k W h=>?_,head:=fun a W h=>?_,vS:=fun a W h=>?_,vers:=fun W h=>?_,vP:=fun W h=>?_,forks:=fun W h=>?_,sU:=fun W h=>?_ }
 ·refine (Bug _ 0 c r1 r2 keys _ _ x s W (GU h.up) h.a hv).mono ?_;rintro e W' ⟨rfl,hC,hh⟩;have hB:=h.up.trans (hh.below h.up.size fun r hr=>by simp only [Bl,Ci,Et] at hr;rcases hr with rfl|rfl <;> assumption);refine⟨?_,?_,h.b.held hh h.a.maps,hB⟩;·simp only [hx]
  ·rw [SN k x hx];exact hC
 ·refine (Hw2 _ d keys _ _ x s W h.b hv (LK _ (LT k)) (by have:=(LF _ (LT k)).2;omega)).mono ?_;rintro e W' ⟨rfl,hR,hh⟩;refine⟨?_,h.a.apart hh h.b.le oM oM oM h.b.CU,?_,h.up.trans (hh.below h.up.size fun r hr=>by rw [Ce.1 hr];exact h.b.le)⟩;·simp only [hx]
  ·rw [SN k x hx];exact hR
 ·exact Ws c r1 r2 keys _ _ W (GU h.up) h.a.at (Yd keys _) oM
 ·exact Zw _ d keys _ _ W h.b (GD _) (LK _ (LT k)) oM
 ·rw [TL] at h;exact Ncl c r1 r2 keys _ _ a W (GU h.up) h.a.at (Yd keys _)
 ·rw [TL] at h;exact E6b _ d keys _ _ a W h.b (GD _) (LK _ hl)
 ·rw [TL] at h;exact Bwb c r1 r2 keys _ _ W (GU h.up) h.a.at (Yd keys _) oM (Pos keys l hl)
 ·rw [TL] at h;exact Vm _ d keys _ _ W h.b (GD _) (LK _ hl) oM
 ·rw [TL] at h;refine (Boo c r1 r2 keys _ _ W h.a.at (LF _ hl).1 (by have:=(LF _ hl).2;omega)).mono ?_;rintro e W' ⟨v,base,rfl,_,hO,hb⟩;exact⟨v,rfl,fun rf hr=>(Day hO (LF _ hl).1 hr).at,hb⟩
 ·rw [TL] at h;obtain⟨vk,vn,vf,rk,rf,q1,q2,q3,q4,q5,q6⟩:=h.b.ex;refine (Ch4 _ d keys _ _ rf W h.b q6 (by have:=(LF _ hl).2;omega)).mono ?_;rintro e W' ⟨v,base,rfl,hO,hb⟩;exact⟨v,rf,rfl,q6,hO.at,by have:=q6.len;have:=(LF _ hl).2;omega,hb⟩
theorem Mpy (w0:ZB) (l:List Q01) (hG:Gc w0) : Side w0 (.pointer none) (.pointer none) l (fun _=>Below w0 w0) (fun _=>Below w0 w0) (fun _=>1) (fun _=>[]) (fun _=>0) (fun _=>[]) [] (fun rf=>rf=[]):=by
 have VN:∀ W:ZB,L3 W W (.slice none 0 0) []:=fun W=>⟨none,0,rfl,Bg _,oM,fun h=>absurd rfl h⟩
 have IN:∀ W:ZB,Tn W W (.slice none 0 0) []:=fun W=>⟨none,0,rfl,Bg _,oM,fun h=>absurd rfl h⟩
 have PN:∀ W:ZB,qZ W (.slice none 0 0) []:=fun W=>⟨none,0,rfl,Bg _,fun h=>absurd rfl h⟩
 refine { up:=fun _ W h=>h,upJ:=fun _ W h=>h,grow:=fun _ W W' h hb=>h.trans (hb.mono h.size),add:=fun k x s W hx h hv=>?_,yT:=fun k x s W hx h hv=>?_,vec:=fun k W h=>?_,rvec:=fun k W h=>?_,head:=fun a W h=>?_,vS:=fun a W h=>?_,vers:=fun W h=>?_,vP:=fun W h=>?_,forks:=fun W h=>?_,sU:=fun W h=>?_ };·refine CmZ (I36 x s W (hG.below h) (hv.mono h.size)) fun W' hb=>?_;exact⟨rfl,h.trans (hb.mono h.size)⟩
 ·refine CmZ (Fit x s W (hv.mono h.size)) fun W' hb=>?_;exact⟨rfl,h.trans (hb.mono h.size)⟩
 ·refine (Zh W).mono ?_;rintro e W' ⟨rfl,rfl⟩;exact⟨_,rfl,IN _,Ac _ _⟩
 ·refine (Xi W).mono ?_;rintro e W' ⟨rfl,rfl⟩;exact⟨_,rfl,IN _,Ac _ _⟩
 ·refine (Ggr a W).mono ?_;rintro e W' ⟨rfl,rfl⟩;exact⟨rfl,Ac _ _⟩
 ·exact Cap a W
 ·refine (Ve W).mono ?_;rintro e W' ⟨rfl,rfl⟩;exact⟨_,rfl,VN _,Ac _ _⟩
 ·refine (Ub W).mono ?_;rintro e W' ⟨rfl,rfl⟩;exact⟨_,rfl,VN _,Ac _ _⟩
 ·refine (Ain W).mono ?_;rintro e W' ⟨rfl,rfl⟩;exact⟨_,rfl,fun rf hr=>by subst hr;exact PN _,Ac _ _⟩
 ·refine (Zq W).mono ?_;rintro e W' ⟨rfl,rfl⟩;exact⟨_,[],rfl,rfl,PN _,Az _,Ac _ _⟩
attribute [local irreducible] wpQuiet
theorem Is4 (vk vl:Value) (keys:List Q00) (l:List Q01) (w:ZB) (hG:Gc w) (hk:Strs w w vk keys) (hraw:L2 w w vl l) (hl:L3 w w vl l) (hfew:CH.few l 8=true) (hlen:keys.length<=8) (hkl:∀ x∈keys,x.length<=9223372036854775807) : ZE prog 3 #[vk,vl] w (Ret w (.bool true)):=by
 have hl8:l.length<=8:=by unfold CH.few at hfew;rw [Ba] at hfew;exact G5 hfew.2
 have FW:=Aa fun (W:ZB) (hb:Below w w W)=>I55 vl l W ((hraw.below hb nR).mono hb.size);rw [hfew] at FW;have NW:=Aa fun (W:ZB) (hb:Below w w W)=>Bit vk keys W (hG.below hb).gl ((hk.below hb nR).mono hb.size) hkl oM;have NR:=Aa fun (W:ZB) (hb:Below w w W)=>Hvm w vk keys W hb.size ((hk.below hb nR).mono hb.size) hkl oM;have S1:=Aa fun (c r1 r2 d:Nat) (a1:c<d) (a2:r1<d) (a3:r2<d) (a4:w.heap.size<=r1) (a5:w.heap.size<=r2)=>Pmk w c r1 r2 d keys l hG a1 a2 a3 a4 a5 hl8 hlen;have S2:=Aa (Mpy w l hG);have IA:=Aa fun (va vb:Value) (a b:List Int) (W:ZB) (ha:Tn W W va a) (hb:Tn W W vb b)=>M11 va vb a b W ha hb;obtain⟨ak,ck,rfl,hck1,KO,hkc⟩:=hk;replace hkc:=Aa hkc;obtain⟨al,cl,rfl,hlc,hcl,hlx⟩:=hl;replace hlx:=Aa hlx;obtain⟨NK,hNK⟩:∃ N,Hid (keys.length=N):=⟨_,Aa rfl⟩
 obtain⟨NL,hNL⟩:∃ N,Hid (l.length=N):=⟨_,Aa rfl⟩
 rw [hNK.out] at hlen hck1 ⊢;rw [hNL.out] at hl8 hlc ⊢;simp only [hNL.out,hNK.out] at FW NW NR;have q8:decide ((8:Int)<(NK:Int))=false:=by simp;omega
 have hG0:=Aa hG;clear hraw hfew hkl hG;have hi8:(prog.info? 38).map (·.size)=some 8:=kR;go_enter func3,ntmps3;go_wp2_with fail;refine CmZ (Tw w hG0.out) fun w1 hb1=>?_;go_wp2_with fail;refine CmZ (FW.out w1 hb1) fun w2 hb2=>?_;have hB2:=Aa (hb1.trans (hb2.mono hb1.size));clear FW hb1 hb2;go_wp2_with fail;go_loopw [6] (fun iv wr=>∃ k:Nat,k<=NK/\iv=↑k/\Hid (Below w w wr)) (fun iv _=>NK - (ZG iv).toNat);case atStart=>exact⟨0,Az _,rfl,hB2⟩
 case round =>
  obtain⟨k,hkN,rfl,hB⟩:=hrel;by_cases hlt:k<NK
  ·obtain⟨s,hs⟩:∃ s,keys[k]?=some s:=⟨_,Ad (by rw [hNK.out];exact hlt)⟩
   obtain⟨b,off,rfl,hbl,kj⟩:=hkc.out (by rintro rfl;simp at hs);have hcell:wr.cell? ⟨b,off+k,none⟩=some ↑s:=(hB.out.cell (p:=⟨b,off+k,none⟩) hbl).trans (kj k s hs);clear kj hs NW NR S1 S2 IA hlx;generalize s.toArray=sa at *;rcases H9 100 sa.size with yx|yx
   ·have q1:decide ((100:Int)<(sa.size:Int))=true:=by simp;omega
    exact FD112
   ·have q1:decide ((100:Int)<(sa.size:Int))=false:=by simp;omega
    go_wp2;go_roundw;case rel=>exact⟨k+1,oM,by go_num,hB⟩
    case measure=>simp [ZG];omega
  ·obtain rfl:NK=k:=oM;clear hkc hck1 KO;go_wp2_with fail;refine (NW.out wr hB.out).mono ?_;rintro e w3 ⟨hb3,hif⟩;have hB3:=Aa (hB.out.trans (hb3.mono hB.out.size));have NR3:=Aa (NR.out w3 hB3.out);clear NW NR;by_cases hok:Tx keys=true;rotate_left;focus
    rw [Ai hok] at hif;subst hif;clear S1;go_wp2_with fail;refine NR3.out.mono ?_;rintro e w4 ⟨hb4,hif⟩;have hB4:=hB3.out.trans (hb4.mono hB3.out.size);rw [Ai hok] at hif;subst hif;have hB4:=Aa hB4;clear hok hb3 hb4 hB3 NR3;go_wp2_with fail;obtain⟨pc,I,J,er,cs,hn,hs,vs,RK,hS,hI,hpc⟩:∃ pc I J er cs hn hs vs RK,Hid (Side w pc pc l I J er cs hn hs vs RK)/\Hid (I 0 w4)/\Value.pointer none=pc:=⟨_,_,_,_,_,_,_,_,_,S2,hB4,rfl⟩
    rw [hpc];clear S2 hB4;clear hpc
   rotate_left;focus
    rw [Au hok] at hif;obtain⟨c,r1,r2,rfl,hC,p1,p2,p3⟩:=hif;go_wp2_with fail;refine NR3.out.mono ?_;rintro e w4 ⟨hb4,hif⟩;have hB4:=hB3.out.trans (hb4.mono hB3.out.size);rw [Au hok] at hif;obtain⟨d,rfl,hR,hd⟩:=hif;have hC3:ChainIn w 0 w3 c r1 r2 keys [] []:=hC.weak (Az _) hB3.out.size (Az _);obtain⟨vkc,hvc,_⟩:=hC3.ex;have lc:=Ae (aZ hvc) hd;obtain⟨kv1,m1,_⟩:=hC3.known;obtain⟨kv2,m2,_⟩:=hC3.forks;have S:=S1.out c r1 r2 d lc (Ae m1.lt hd) (Ae m2.lt hd) (Af hB.out.size p2) (Af hB.out.size p3);have P:xw w c r1 r2 d keys (l.take 0) (l.take 0) w4:=⟨hC3.grow hb4,hR,hB4⟩
    have P:=Aa P;have S:=Aa S;clear m1 m2 lc hvc hC3 hC hR S1 S2 hok hb3 hb4 hB3 hB4 NR3 p1 p2 p3 hd;go_wp2_with fail;obtain⟨pc,pd,I,J,er,cs,hn,hs,vs,RK,hS,hI,hpc,hpd⟩:∃ pc pd I J er cs hn hs vs RK,Hid (Side w pc pd l I J er cs hn hs vs RK)/\Hid (I 0 w4)/\Value.pointer (some ⟨c,0,none⟩)=pc/\Value.pointer (some ⟨d,0,none⟩)=pd:=⟨_,_,_,_,_,_,_,_,_,_,S,P,rfl,rfl⟩
    clear P S;rw [hpc,hpd];clear hpc hpd
   all_goals
    go_loopw [11] (fun iv wr=>∃ k:Nat,k<=NL/\iv=↑k/\Hid (I k wr)) (fun iv _=>NL - (ZG iv).toNat);case atStart=>exact⟨0,Az _,rfl,hI⟩
    case round =>
     obtain⟨k,hkN,rfl,hIk⟩:=hrel;by_cases hlt:k<NL
     ·obtain⟨b,off,rfl,hbl,hx⟩:=hlx.out (by intro h;have:=hNL.out;simp [h] at this;omega);obtain⟨x,hxk⟩:∃ x,l[k]?=some x:=⟨_,Ad (by rw [hNL.out];exact hlt)⟩
      obtain⟨s,hc,hat⟩:=hx k x hxk;have zY:=fun (W:ZB) (hb:Below w w W)=>hat.below hb nR;have SS:=Aa fun (W:ZB) (hb:Below w w W)=>(show W.rangeAt b (off+k*8) (Al x s) from fun j u hj=>(hb.cell (p:=⟨b,off+k*8+j,none⟩) hbl).trans (hc j u hj))
      have A1:=Aa fun (W:ZB) (h:I k W) (hb:Below w w W)=>hS.out.add k x s W hxk h (zY W hb);have A2:=Aa fun (W:ZB) (h:J k W) (hb:Below w w W)=>hS.out.yT k x s W hxk h (zY W hb);have V1:=Aa fun (W:ZB) (h:I (k+1) W)=>hS.out.vec (k+1) W h;have V2:=Aa fun (W:ZB) (h:I (k+1) W)=>hS.out.rvec (k+1) W h;have lK:(prog.info? 38).map (·.size)=some (Al x s).length:=hi8;clear hx hc hat zY hxk hcl;generalize Al x s=LL at *;generalize er k=E at *;have z0:(0:Int)<=(k:Int):=oM;have zk:((k:Int)).toNat=k:=oM;have hk':(k:Int)<(NL:Int):=oM;have hI1:=Aa (hS.out.grow _ _ _ hIk.out ((Ac _ wr).drew));have hUp:=Aa (hS.out.up _ _ hI1.out);go_wp2_with fail;refine Ed (S:=fun W'=>W'.rangeAt b (off+k*8) LL) kR (SS.out _ hUp.out) fun kz=>?_;refine tj 0 ?_;push_cast;refine tj 1 ?_;push_cast;refine tj 2 ?_;push_cast;refine tj 3 ?_;push_cast;refine Ir (i:=4) (v:=.agg LL.toArray) rfl kR kR kR (fun _ _ _ h=>h) ?_ kz ?_;·exact yieldsIf_load_mid rF _ _ rfl _ _ rfl LL _ (fun W hSw=>hSw) underlying38 rfl lK
      push_cast;refine tj 6 ?_;push_cast;refine tj 7 ?_;push_cast;refine tj 8 ?_;push_cast;refine tj 9 ?_;push_cast;refine Ir (i:=10) (v:=.agg LL.toArray) rfl kR kR kR (fun _ _ _ h=>h) ?_ kz ?_;·exact yieldsIf_load_mid rF _ _ rfl _ _ rfl LL _ (fun W hSw=>hSw) underlying38 rfl lK
      push_cast;refine rk 5 rfl fun K hK=>?_;go_simp;refine CmZ (A1.out _ hI1.out hUp.out) fun w5 hJ5=>?_;have hJ5:=Aa hJ5;replace hUp:=Aa (hS.out.upJ _ _ hJ5.out);go_wp2_with fail;refine hK.out _ _ (SS.out _ hUp.out) fun kz=>?_;clear hK K;push_cast;refine rk 11 rfl fun K hK=>?_;go_simp;refine CmZ (A2.out _ hJ5.out hUp.out) fun w6 hI6=>?_;have hI6:=Aa hI6;replace hUp:=Aa (hS.out.up _ _ hI6.out);clear hJ5 hI1;go_wp2_with fail;refine hK.out _ _ (SS.out _ hUp.out) fun kz=>?_;clear hK K;push_cast;refine tj 12 ?_;push_cast;refine tj 13 ?_;push_cast;refine tj 14 ?_;push_cast;refine tj 16 ?_;push_cast;refine rk 15 rfl fun K hK=>?_;go_simp;refine (V1.out _ hI6.out).mono ?_;rintro e w7 ⟨v7,rfl,hv7,hb7⟩;have hI7:=Aa (hS.out.grow _ _ _ hI6.out hb7);have hv7:=Aa hv7;replace hUp:=Aa (hS.out.up _ _ hI7.out);clear hI6 hb7;go_wp2_with fail;refine hK.out _ _ (SS.out _ hUp.out) fun kz=>?_;clear hK K;push_cast;refine rk 17 rfl fun K hK=>?_;go_simp;refine (V2.out _ hI7.out).mono ?_;rintro e w8 ⟨v8,rfl,hv8,hb8⟩;have hI8:=Aa (hS.out.grow _ _ _ hI7.out hb8);have IF:=IA.out v7 v8 _ _ w8 ((hv7.out.below hb8 nR).mono hb8.size) hv8;rw [beq_self_eq_true] at IF;have IF:=Aa IF;replace hUp:=Aa (hS.out.up _ _ hI8.out);clear hI7 hv7 hv8 hb8;go_wp2_with fail;refine hK.out _ _ (SS.out _ hUp.out) fun kz=>?_;clear hK K;push_cast;refine rk 18 rfl fun K hK=>?_;go_simp;refine CmZ IF.out fun w9 hb9=>?_;have hI9:=Aa (hS.out.grow _ _ _ hI8.out hb9);replace hUp:=Aa (hS.out.up _ _ hI9.out);clear hI8 hb9 IF;go_wp2_with fail;refine hK.out _ _ (SS.out _ hUp.out) fun kz=>?_;clear hK K;push_cast;refine tj 19 ?_;push_cast;refine tj 20 ?_;push_cast;refine Dy kR ?_ _;clear SS A1 A2 V1 V2 kz hUp;go_wp2;go_roundw;case rel=>exact⟨k+1,oM,by go_num,hI9⟩
      case measure=>simp [ZG];omega
     ·obtain rfl:k=NL:=oM;clear hlx hi8;go_wp2_with fail;go_loopw [12] (fun iv wr=>∃ m:Nat,m<=NK+2/\iv=.int .i64 ((m:Int) - 1)/\Hid (I k wr)) (fun iv _=>(NK+1 - ZG iv).toNat);case atStart=>exact⟨0,Az _,rfl,hIk⟩
      case round =>
       obtain⟨m,hmN,rfl,hIm⟩:=hrel;have hl':l.length=k:=hNL.out;by_cases hm:m<=NK+1
       ·have H1:=Aa (hS.out.head ((m:Int) - 1) wr (by rw [hl'];exact hIm.out));have H2:=Aa fun (W:ZB) (h:I k W)=>hS.out.vS ((m:Int) - 1) W (by rw [hl'];exact h);generalize ((hn ((m:Int) - 1):Nat):Int)=A at *;generalize (hs ((m:Int) - 1)).toArray=B at *;have wm:IntKind.i64.wrap ((m:Int) - 1+1)=((m+1:Nat):Int) - 1:=by rw [IntKind.wrap_i64];omega
        have lm:(m:Int) - 1<=(NK:Int):=oM;go_wp2_with fail;refine CmZ H1.out fun w5 hb5=>?_;have hI5:=Aa (hS.out.grow _ _ _ hIm.out hb5);clear hIm H1 hb5;go_wp2_with fail;refine CmZ (H2.out _ hI5.out) fun w6 hb6=>?_;have hI6:=Aa (hS.out.grow _ _ _ hI5.out hb6);clear hI5 H2 hb6;go_wp2;go_roundw;case rel=>exact⟨m+1,oM,by go_num,hI6⟩
        case measure=>simp [ZG];omega
       ·have lm:¬ ((m:Int) - 1<=(NK:Int)):=oM;have F1:=Aa fun (W:ZB) (h:I k W)=>hS.out.vers W (by rw [hl'];exact h);have F2:=Aa fun (W:ZB) (h:I k W)=>hS.out.vP W (by rw [hl'];exact h);have F3:=Aa fun (W:ZB) (h:I k W)=>hS.out.forks W (by rw [hl'];exact h);have F4:=Aa fun (W:ZB) (h:I k W)=>hS.out.sU W (by rw [hl'];exact h);go_wp2_with fail;refine (F1.out _ hIm.out).mono ?_;rintro e w5 ⟨v5,rfl,hv5,hb5⟩;have hI5:=Aa (hS.out.grow _ _ _ hIm.out hb5);have hv5:=Aa hv5;clear hIm F1 hb5;go_wp2_with fail;refine (F2.out _ hI5.out).mono ?_;rintro e w6 ⟨v6,rfl,hv6,hb6⟩;have hI6:=Aa (hS.out.grow _ _ _ hI5.out hb6);have SV:=Aa (B7c v5 v6 vs w6 ((hv5.out.below hb6 nR).mono hb6.size) hv6);clear hI5 F2 hb6 hv5 hv6;go_wp2_with fail;refine CmZ SV.out fun w7 hb7=>?_;have hI7:=Aa (hS.out.grow _ _ _ hI6.out hb7);clear hI6 SV hb7;go_wp2_with fail;refine (F3.out _ hI7.out).mono ?_;rintro e w8 ⟨v8,rfl,hv8,hb8⟩;have hI8:=Aa (hS.out.grow _ _ _ hI7.out hb8);have hv8:=Aa hv8;clear hI7 F3 hb8;go_wp2_with fail;refine (F4.out _ hI8.out).mono ?_;rintro e w9 ⟨v9,rf,rfl,hrf,hv9,hlf,hb9⟩;have hI9:=Aa (hS.out.grow _ _ _ hI8.out hb9);have SF:=Aa (Zm _ v9 rf w9 ((hv8.out rf hrf).below hb9) hv9 hlf);clear hI8 F4 hb9 hv8 hv9;go_wp2_with fail;refine CmZ SF.out fun w10 jO=>?_;have LH:=hS.out.up _ _ (hS.out.grow _ _ _ hI9.out jO);clear hI9 SF jO;go_wp2;go_ret;exact⟨rfl,LH⟩
theorem Len (vk vl:Value) (keys:List Q00) (l:List Q01) (w:ZB) (hG:Gc w) (hk:Strs w w vk keys) (hraw:L2 w w vl l) (hn:∀ a∈l,lG a) (hkl:∀ x∈keys,x.length<=9223372036854775807) : ZE prog 3 #[vk,vl] w (Ret w (.bool true)):=by
 have FW:=Aa fun (W:ZB) (hb:Below w w W)=>I55 vl l W ((hraw.below hb nR).mono hb.size);by_cases hfew:CH.few l 8=true
 ·by_cases hlen:keys.length<=8;·refine Is4 vk vl keys l w hG hk hraw (Heo hraw hn fun a ha=>?_) hfew hlen hkl;unfold CH.few at hfew;rw [Ba] at hfew;exact Df.1 hfew.1 a ha
  ·rw [hfew] at FW;obtain⟨ak,ck,rfl,_,_⟩:=hk.form;obtain⟨al,cl,rfl,_,_,_⟩:=hraw;have q8:decide ((8:Int)<(keys.length:Int))=true:=Am oM;clear hk hfew hlen;exact FD40
 ·have hff:CH.few l 8=false:=by simpa using hfew
  rw [hff] at FW;obtain⟨ak,ck,rfl,_,_⟩:=hk.form;obtain⟨al,cl,rfl,_,_,_⟩:=hraw;clear hk hfew hff;exact FD40
end
end Go.Proofs.Y