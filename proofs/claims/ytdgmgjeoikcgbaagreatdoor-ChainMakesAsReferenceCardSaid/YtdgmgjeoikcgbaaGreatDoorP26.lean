/-
  ChainMakes: the proof, part 27 of 34.
-/
import Derived.Test.YtdgmgjeoikcgbaaGreatDoorP25
set_option linter.unusedSimpArgs false
set_option linter.unusedVariables false
set_option maxHeartbeats 40000000
set_option maxRecDepth 100000
open Go renaming World -> ZB, Value -> ZC, Calls -> ZE
open Go.Act renaming put -> ZF
open Go.RowKit renaming intOf -> ZG
namespace Go.Proofs.YtdgmgjeoikcgbaaGreatDoor
section
open Go.Lib Go.Proofs.Tryz Go.RowKit Go.Shelf Go.Sort CH
def pI:ZC:=.slice none 0 0
def qY:eH:=⟨pI,pI,pI,pI,pI⟩
def Mzr (w:ZB) (n:Int) (e:Ending) (w':ZB):Prop:=∃ v,e=.returned v/\G0 w' w' v [iD n]/\Below w w w'
theorem I59 (n:Int) (hn:I64 n) (B:Nat) (w:ZB):fJ B w (iD n) qY:=by
 have s0:Strs B w pI []:=⟨none,0,rfl,Bv _,oM,fun h=>absurd rfl h⟩
 have hf:C7 (.mk 0 [] 0 0 []):=by unfold C7 Hi;exact⟨sM,trivial⟩
 have hc:(CH.Formula.mk 0 [] 0 0 []).count<=100000000:=by unfold CH.Formula.count aK;omega
 have hd:(CH.Formula.mk 0 [] 0 0 []).depth<=100000000:=by unfold CH.Formula.depth aX;omega
 have i0:I64 0:=⟨dC,dC⟩
 have z:(0:Nat)<=10000:=oM;have z1:(0:Nat)<=100000:=oM;have z2:(2:Nat)<=10000:=oM;have sh:Fd []:=⟨z1,fun l h=>by cases h⟩
 refine⟨⟨none,0,rfl,Bv _,oM,fun h=>absurd rfl h⟩,⟨?_,⟨i0,i0,i0,i0⟩,z,z,z,hf,hc,hd⟩,s0,s0,s0,⟨⟨z,⟨z,z1,fun _ h=>by cases h⟩⟩,i0,z,sh,sh,⟨z,z,z,z,z,sh⟩,z2,⟨by show (-9223372036854775808:Int)<=7;decide,by show (7:Int)<=9223372036854775807;decide⟩,hn⟩⟩;show A6 B w (.mk 0 [] 0 0 []) pI;unfold A6;exact FD154
theorem Lia (n:Int) (hn:I64 n) (w:ZB):ZE prog 13 #[↑n] w (Mzr w n):=by
 go_enter func13,ntmps13;go_wp2_with fail;go_ret;have hlt:w.heap.size<(w.alloc (.cells (Av (iD n) qY).toArray 63)).heap.size:=sM;exact⟨.slice (some ⟨w,0,none⟩) 1 1,rfl,⟨some ⟨w,0,none⟩,1,rfl,Bv _,oM,fun _=>⟨w,0,rfl,hlt,fun j x hj=>by
  cases j with
  |zero =>cases hj;refine⟨qY,fun i u hi=>?_,I59 n hn _ _⟩;rw [Nat.zero_mul,Bh];have h:=Ca w (Av (iD n) qY) 63 i u hi;rw [Bh] at h;exact h
  |succ j=>simp at hj⟩⟩,(Ac _ w).alloc nR _⟩
def VAt (w:ZB) (x:Nat × CH.Version):Prop:=x.1<w.heap.size/\∃ s,w.rangeAt x.1 0 (Al x.2 s)/\aN w w x.2 s
theorem VAt.kept {w w':ZB} {x:Nat × CH.Version} (h:VAt w x) (hc:Cells w w') (hs:w.heap.size<=w'.heap.size):VAt w' x:=by obtain⟨h0,s,h1,h2⟩:=h;exact⟨Ai h0 hs,s,fun j u hj=>hc _ _ (h1 j u hj),(h2.kept hc).mono hs⟩
structure St (w0 w:ZB) (l:List (Nat × CH.Version)):Prop where
 gc:Gc w
 below:Below w0 w0 w
 vers:∀ x∈l,VAt w x
theorem St.go {w0 w w':ZB} {l:List (Nat × CH.Version)} (h:St w0 w l) (hb:Below w w w'):St w0 w' l := ⟨h.gc.below hb,h.below.trans (hb.mono h.below.size),fun x hx=>(h.vers x hx).kept (Cells.of_below hb) hb.size⟩
theorem St.put {w0 w:ZB} {l:List (Nat × CH.Version)} {v:CH.Version} {s:dI} (h:St w0 w l) (hv:aN w w v s):St w0 (w.alloc (.cells (Al v s).toArray 29)) ((w.heap.size,v)::l):=by
 have hb:Below w w (w.alloc (.cells (Al v s).toArray 29)):=(Ac _ w).alloc nR _;have h1:=h.go hb;refine⟨h1.gc,h1.below,fun x hx=>?_⟩;rcases A8.1 hx with rfl|hx;·exact⟨sM,s,Ca w (Al v s) _,(hv.below hb nR).mono hb.size⟩
 ·exact h1.vers x hx
theorem St.added {w0 w w':ZB} {l:List (Nat × CH.Version)} {c r1 r2:Nat} {keys:List (List UInt8)} {known:CH.Known} {forks:CH.Forks} {x:Int × CH.Known × CH.Forks} {e:Ending} (h:St w0 w l) (hC:H0 w c r1 r2 keys known forks) (h1:w0.heap.size<=r1) (h2:w0.heap.size<=r2) (h9:9<=w0.heap.size) (hR:Ifb w c r1 r2 keys x e w'):St w0 w' l:=by obtain⟨a1,a2,a3⟩:=Fri h.gc hC h1 h2 h9 h.below hR;refine⟨a1,a2,fun y hy=>(h.vers y hy).kept ?_ a3.size⟩;obtain⟨_,_,hH⟩:=hR;refine hH.cells fun r hr=>?_;exact FD81
theorem St.at {w0 w:ZB} {l:List (Nat × CH.Version)} (h:St w0 w l) {b:Nat} {v:CH.Version} (hm:(b,v)∈l):∃ s,w.rangeAt b 0 (Al v s)/\aN w w v s:=(h.vers _ hm).2
def ChP (w0 w:ZB) (K:List UInt8) (c r1 r2:Nat) (known:CH.Known) (forks:CH.Forks):Prop:=H0 w c r1 r2 [K] known forks/\w0.heap.size<=r1/\w0.heap.size<=r2
theorem ChP.go {w0 w w':ZB} {K:List UInt8} {c r1 r2:Nat} {known:CH.Known} {forks:CH.Forks} (h:ChP w0 w K c r1 r2 known forks) (hb:Below w w w'):ChP w0 w' K c r1 r2 known forks:=⟨h.1.below hb,h.2⟩
theorem Lt4 (B:Nat) (w:ZB):G0 B w (.slice none 0 0) []:=⟨none,0,rfl,Bv _,oM,fun h=>absurd rfl h⟩
def oQ (K:List UInt8) (V:CH.Version) (known:CH.Known) (forks:CH.Forks) (er:Int) (known':CH.Known) (og:CH.Forks):Prop := ∀ (w0 w:ZB) (l:List (Nat × CH.Version)) (c r1 r2:Nat) (s:dI),9<=w0.heap.size->St w0 w l->ChP w0 w K c r1 r2 known forks->aN w w V s -> ZE prog 15 #[.pointer (some ⟨c,0,none⟩),.agg (Al V s).toArray] w fun e w'=>e=.returned ↑er/\St w0 w' l/\ChP w0 w' K c r1 r2 known' og
def vC (K:List UInt8) (known:CH.Known) (n:Int):Prop := ∀ (w0 w:ZB) (l:List (Nat × CH.Version)) (c r1 r2:Nat) (forks:CH.Forks),St w0 w l->ChP w0 w K c r1 r2 known forks -> ZE prog 16 #[.pointer (some ⟨c,0,none⟩),↑n] w fun e w'=>e=.returned (.bool true)/\St w0 w' l/\ChP w0 w' K c r1 r2 known forks
def qU (V:CH.Version) (n pos:Int) (prev:List UInt8) (acts:List CH.Act):Prop := ∀ (w:ZB) (va:ZC),Gc w->G0 w w va acts -> ZE prog 6 #[.int .i64 0,↑n,↑pos,↑prev,va,.string ⟨#[115]⟩,.int .i64 1] w fun e w'=>∃ a1 n1 c1 a2 n2 c2 a3 n3 c3,e=.returned (.tuple #[.agg (Al V ⟨.slice a1 n1 c1,.slice a2 n2 c2,.slice a3 n3 c3⟩).toArray,.int .i64 0])/\aN w' w' V ⟨.slice a1 n1 c1,.slice a2 n2 c2,.slice a3 n3 c3⟩/\Below w w w'
def sG (n:Int) (acts:List CH.Act):Prop := ∀ (w:ZB),ZE prog 13 #[↑n] w fun e w'=>∃ a m c,e=.returned (.slice a m c)/\G0 w' w' (.slice a m c) acts/\Below w w w'
structure HF (K M:List UInt8) (V1 V2 V3 V4:CH.Version) (A1 A2 A3:List CH.Act) (c1 c2 d1 d2 x1 x2:CH.Known) (fC fD:CH.Forks):Prop where
 pub:∀ w,Gl w->ZE prog 11 #[.string ⟨#[115]⟩,.int .i64 1] w (Ret w (.tuple #[↑K,.int .i64 0]))
 new:∀ w v,Gl w->Strs w w v [K]->ZE prog 12 #[v] w fun e w'=>∃ c r1 r2,e=.returned (.tuple #[.pointer (some ⟨c,0,none⟩),.int .i64 0])/\H0 w' c r1 r2 [K] [] []/\w.heap.size<=r1/\w.heap.size<=r2/\Below w w w'
 e1:sG 1 A1
 e2:sG 2 A2
 e3:sG 3 A3
 m1:qU V1 1 100 [] A1
 m2:qU V2 2 100 M A2
 m3:qU V3 1 100 [] A3
 m4:qU V4 2 99 M []
 msg:∀ w s,Gc w->aN w w V1 s->ZE prog 14 #[.agg (Al V1 s).toArray] w (Ret w (.tuple #[↑M,.int .i64 0]))
 ac1:oQ K V2 [] [] 0 c1 []
 ac2:oQ K V1 c1 [] 0 c2 []
 ac3:oQ K V1 c2 [] 0 c2 []
 ac4:oQ K V3 c2 [] 17 c2 fC
 ad1:oQ K V3 [] [] 0 d1 []
 ad2:oQ K V1 d1 [] 17 d1 fD
 ad3:oQ K V2 d1 fD 0 d2 fD
 ax1:oQ K V1 [] [] 0 x1 []
 ax2:oQ K V4 x1 [] 0 x2 []
 vc1:vC K c1 0
 vc2:vC K c2 2
 vd2:vC K d2 1
 vx2:vC K x2 1
 forks:∀ w0 w l c r1 r2,St w0 w l->ChP w0 w K c r1 r2 c2 fC->ZE prog 17 #[.pointer (some ⟨c,0,none⟩)] w fun e w'=>∃ a cap,e=.returned (.slice a 1 cap)/\St w0 w' l
 act:∀ w,Gc w->ZE prog 18 #[.agg (Av l7 qY).toArray] w (Ret w (.tuple #[.string ⟨#[104,111,108,100,105,110,103,32,104,49,32,112,49,32,112,48,32,45,32,45,32,54,48,32,53,49,32,48,32,45,59]⟩,.int .i64 0]))
theorem Pt (V:CH.Version) (a1 a2 a3:Option Addr) (n1 n2 n3 c1 c2 c3:Nat):∀ u∈Al V ⟨.slice a1 n1 c1,.slice a2 n2 c2,.slice a3 n3 c3⟩,u.oneCell'=true:=by intro u hu;simp only [Al,A8,Az,Df] at hu;rcases hu with rfl|rfl|rfl|rfl|rfl|rfl|rfl|rfl <;> rfl
theorem Vr (w:ZB) (K:List UInt8):Strs (w.alloc (.cells #[aA K] 9)).heap.size (w.alloc (.cells #[aA K] 9)) (.slice (some ⟨w,0,none⟩) 1 1) [K] :=
 ⟨some ⟨w,0,none⟩,1,rfl,Bv _,oM,fun _=>⟨w,0,rfl,sM,fun j l hj=>by
  cases j with
  |zero=>cases hj;exact Ab (Ap w _) 0
  |succ j=>simp at hj⟩⟩
theorem I54 {K M:List UInt8} {V1 V2 V3 V4:CH.Version} {A1 A2 A3:List CH.Act} {kc1 kc2 kd1 kd2 kx1 kx2:CH.Known} {fC fD:CH.Forks} (H:HF K M V1 V2 V3 V4 A1 A2 A3 kc1 kc2 kd1 kd2 kx1 kx2 fC fD) (w:ZB) (hG:Gc w) : ZE prog 4 #[] w (Ret w (.bool true)):=by
 have h9:9<=w.heap.size:=hG.gl.size;have H:=Aa H;have h9:=Aa h9;have hi8:(prog.info? 29).map (·.size)=some 8:=kR;go_enter func4,ntmps4;go_wp2_with fail;refine (H.out.pub w hG.gl).mono ?_;rintro e w1 ⟨rfl,hb1⟩;have S:Hid (St w w1 []):=Aa ⟨hG.below hb1,hb1,fun _ h=>by cases h⟩;clear hb1 hG;go_wp2_with fail;have S:=Aa (S.out.go ((Ac _ w1).alloc nR (.cells #[aA K] 9)));have ST:=Aa (Vr w1 K);dsimp only [aA] at S ST;generalize w1.alloc (.cells #[↑K] 9)=W at *;refine (H.out.new W _ S.out.gc.gl ST.out).mono ?_;rintro e w2 ⟨c,r1,r2,rfl,hC,g1,g2,hb⟩;have C:Hid (ChP w w2 K c r1 r2 [] []):=Aa ⟨hC,Af S.out.below.size g1,Af S.out.below.size g2⟩;have S:=Aa (S.out.go hb);clear hb hC g1 g2 ST;go_wp2_with fail;refine (H.out.e1 w2).mono ?_;rintro e w3 ⟨a,m,cc,rfl,hA,hb⟩;have C:=Aa (C.out.go hb);have S:=Aa (S.out.go hb);have hA:=Aa hA;clear hb;go_wp2_with fail;refine (H.out.m1 w3 _ S.out.gc hA.out).mono ?_;rintro e w4 ⟨a1,n1,c1,a2,n2,c2,a3,n3,c3,rfl,hv,hb⟩;have C:=Aa ((C.out.go hb).go ((Ac _ w4).alloc nR (.cells (Al V1 ⟨.slice a1 n1 c1,.slice a2 n2 c2,.slice a3 n3 c3⟩).toArray 29)));have S:=Aa ((S.out.go hb).put hv);have h1:=Aa (Pt V1 a1 a2 a3 n1 n2 n3 c1 c2 c3);have hl:Hid ((Al V1 ⟨.slice a1 n1 c1,.slice a2 n2 c2,.slice a3 n3 c3⟩).length=8):=Aa rfl;clear hb hv;generalize Al V1 ⟨.slice a1 n1 c1,.slice a2 n2 c2,.slice a3 n3 c3⟩=LL at *;obtain⟨b1,hbb⟩:∃ b,Hid (w4.heap.size=b):=⟨_,Aa rfl⟩
 rw [hbb.out] at S;have hi:(prog.info? 29).map (·.size)=some LL.length:=by rw [hl.out];exact hi8
 obtain⟨s,hr,hv⟩:=S.out.at (b:=b1) (v:=V1) sM;have hr:=Aa hr;have hv:=Aa hv;have hlv:(prog.info? 29).map (·.size)=some (Al V1 s).length:=hi8;rw [<- hbb.out] at hr;go_wp2_with (first|refine B8 rfl 29 _ _ rfl LL rfl rfl (by rw [hl.out];rfl) hi h1.out ?_|refine Bf rfl 29 _ rfl w4.heap.size 0 rfl (Al V1 s) _ hr.out underlying29 rfl hlv ?_)
 rw [hbb.out];generalize w4.alloc (.cells LL.toArray 29)=W at *;clear hi hl h1 hbb;refine (H.out.msg _ s S.out.gc hv.out).mono ?_;rintro e w5 ⟨rfl,hb⟩;have C:=Aa (C.out.go hb);have S:=Aa (S.out.go hb);clear hb hr hv hlv;go_wp2_with fail;refine (H.out.e2 w5).mono ?_;rintro e w3 ⟨a,m,cc,rfl,hA,hb⟩;have C:=Aa (C.out.go hb);have S:=Aa (S.out.go hb);have hA:=Aa hA;clear hb;go_wp2_with fail;refine (H.out.m2 w3 _ S.out.gc hA.out).mono ?_;rintro e w4 ⟨a1,n1,c1,a2,n2,c2,a3,n3,c3,rfl,hv,hb⟩;have C:=Aa ((C.out.go hb).go ((Ac _ w4).alloc nR (.cells (Al V2 ⟨.slice a1 n1 c1,.slice a2 n2 c2,.slice a3 n3 c3⟩).toArray 29)));have S:=Aa ((S.out.go hb).put hv);have h1:=Aa (Pt V2 a1 a2 a3 n1 n2 n3 c1 c2 c3);have hl:Hid ((Al V2 ⟨.slice a1 n1 c1,.slice a2 n2 c2,.slice a3 n3 c3⟩).length=8):=Aa rfl;clear hb hv;generalize Al V2 ⟨.slice a1 n1 c1,.slice a2 n2 c2,.slice a3 n3 c3⟩=LL at *;obtain⟨b2,hbb⟩:∃ b,Hid (w4.heap.size=b):=⟨_,Aa rfl⟩
 rw [hbb.out] at S;have hi:(prog.info? 29).map (·.size)=some LL.length:=by rw [hl.out];exact hi8
 go_wp2_with (refine B8 rfl 29 _ _ rfl LL rfl rfl (by rw [hl.out];rfl) hi h1.out ?_)
 rw [hbb.out];generalize w4.alloc (.cells LL.toArray 29)=W at *;clear hi hl h1 hbb;refine (H.out.e3 W).mono ?_;rintro e w3 ⟨a,m,cc,rfl,hA,hb⟩;have C:=Aa (C.out.go hb);have S:=Aa (S.out.go hb);have hA:=Aa hA;clear hb;go_wp2_with fail;refine (H.out.m3 w3 _ S.out.gc hA.out).mono ?_;rintro e w4 ⟨a1,n1,c1,a2,n2,c2,a3,n3,c3,rfl,hv,hb⟩;have C:=Aa ((C.out.go hb).go ((Ac _ w4).alloc nR (.cells (Al V3 ⟨.slice a1 n1 c1,.slice a2 n2 c2,.slice a3 n3 c3⟩).toArray 29)));have S:=Aa ((S.out.go hb).put hv);have h1:=Aa (Pt V3 a1 a2 a3 n1 n2 n3 c1 c2 c3);have hl:Hid ((Al V3 ⟨.slice a1 n1 c1,.slice a2 n2 c2,.slice a3 n3 c3⟩).length=8):=Aa rfl;clear hb hv;generalize Al V3 ⟨.slice a1 n1 c1,.slice a2 n2 c2,.slice a3 n3 c3⟩=LL at *;obtain⟨b3,hbb⟩:∃ b,Hid (w4.heap.size=b):=⟨_,Aa rfl⟩
 rw [hbb.out] at S;have hi:(prog.info? 29).map (·.size)=some LL.length:=by rw [hl.out];exact hi8
 go_wp2_with (refine B8 rfl 29 _ _ rfl LL rfl rfl (by rw [hl.out];rfl) hi h1.out ?_)
 rw [hbb.out];generalize w4.alloc (.cells LL.toArray 29)=W at *;clear hi hl h1 hbb;have hA:=Aa (Lt4 W W);refine (H.out.m4 W _ S.out.gc hA.out).mono ?_;rintro e w4 ⟨a1,n1,c1,a2,n2,c2,a3,n3,c3,rfl,hv,hb⟩;have C:=Aa ((C.out.go hb).go ((Ac _ w4).alloc nR (.cells (Al V4 ⟨.slice a1 n1 c1,.slice a2 n2 c2,.slice a3 n3 c3⟩).toArray 29)));have S:=Aa ((S.out.go hb).put hv);have h1:=Aa (Pt V4 a1 a2 a3 n1 n2 n3 c1 c2 c3);have hl:Hid ((Al V4 ⟨.slice a1 n1 c1,.slice a2 n2 c2,.slice a3 n3 c3⟩).length=8):=Aa rfl;clear hb hv;generalize Al V4 ⟨.slice a1 n1 c1,.slice a2 n2 c2,.slice a3 n3 c3⟩=LL at *;obtain⟨b4,hbb⟩:∃ b,Hid (w4.heap.size=b):=⟨_,Aa rfl⟩
 rw [hbb.out] at S;have hi:(prog.info? 29).map (·.size)=some LL.length:=by rw [hl.out];exact hi8
 obtain⟨s,hr,hv⟩:=S.out.at (b:=b2) (v:=V2) sM;have hr:=Aa hr;have hv:=Aa hv;have hlv:(prog.info? 29).map (·.size)=some (Al V2 s).length:=hi8;go_wp2_with (first|refine B8 rfl 29 _ _ rfl LL rfl rfl (by rw [hl.out];rfl) hi h1.out ?_|refine Bf rfl 29 _ rfl b2 0 rfl (Al V2 s) _ hr.out underlying29 rfl hlv ?_)
 rw [hbb.out];generalize w4.alloc (.cells LL.toArray 29)=W at *;clear hi hl h1 hbb;clear hA;refine (H.out.ac1 w _ _ c r1 r2 s h9.out S.out C.out hv.out).mono ?_;clear hr hv hlv S C;rintro e w6 ⟨rfl,S,C⟩;have S:=Aa S;have C:=Aa C;go_wp2_with fail;refine (H.out.vc1 w _ _ c r1 r2 _ S.out C.out).mono ?_;clear S C;rintro e w7 ⟨rfl,S,C⟩;have S:=Aa S;have C:=Aa C;obtain⟨s,hr,hv⟩:=S.out.at (b:=b1) (v:=V1) sM;have hr:=Aa hr;have hv:=Aa hv;have hlv:(prog.info? 29).map (·.size)=some (Al V1 s).length:=hi8;go_wp2_with (refine B9 rfl 29 _ rfl b1 0 rfl (Al V1 s) _ hr.out underlying29 rfl hlv ?_)
 refine (H.out.ac2 w _ _ c r1 r2 s h9.out S.out C.out hv.out).mono ?_;clear hr hv hlv S C;rintro e w6 ⟨rfl,S,C⟩;have S:=Aa S;have C:=Aa C;go_wp2_with fail;refine (H.out.vc2 w _ _ c r1 r2 _ S.out C.out).mono ?_;clear S C;rintro e w7 ⟨rfl,S,C⟩;have S:=Aa S;have C:=Aa C;obtain⟨s,hr,hv⟩:=S.out.at (b:=b1) (v:=V1) sM;have hr:=Aa hr;have hv:=Aa hv;have hlv:(prog.info? 29).map (·.size)=some (Al V1 s).length:=hi8;go_wp2_with (refine B9 rfl 29 _ rfl b1 0 rfl (Al V1 s) _ hr.out underlying29 rfl hlv ?_)
 refine (H.out.ac3 w _ _ c r1 r2 s h9.out S.out C.out hv.out).mono ?_;clear hr hv hlv S C;rintro e w6 ⟨rfl,S,C⟩;have S:=Aa S;have C:=Aa C;obtain⟨s,hr,hv⟩:=S.out.at (b:=b3) (v:=V3) sM;have hr:=Aa hr;have hv:=Aa hv;have hlv:(prog.info? 29).map (·.size)=some (Al V3 s).length:=hi8;go_wp2_with (refine B9 rfl 29 _ rfl b3 0 rfl (Al V3 s) _ hr.out underlying29 rfl hlv ?_)
 refine (H.out.ac4 w _ _ c r1 r2 s h9.out S.out C.out hv.out).mono ?_;clear hr hv hlv S C;rintro e w6 ⟨rfl,S,C⟩;have S:=Aa S;have C:=Aa C;go_wp2_with fail;refine (H.out.vc2 w _ _ c r1 r2 _ S.out C.out).mono ?_;clear S C;rintro e w7 ⟨rfl,S,C⟩;have S:=Aa S;have C:=Aa C;go_wp2_with fail;refine (H.out.forks w _ _ c r1 r2 S.out C.out).mono ?_;clear S C;rintro e w8 ⟨a,cap,rfl,S⟩;have S:=Aa S;go_wp2_with fail;have S:=Aa (S.out.go ((Ac _ w8).alloc nR (.cells #[aA K] 9)));have ST:=Aa (Vr w8 K);dsimp only [aA] at S ST;generalize w8.alloc (.cells #[↑K] 9)=W at *;refine (H.out.new W _ S.out.gc.gl ST.out).mono ?_;rintro e w2 ⟨c,r1,r2,rfl,hC,g1,g2,hb⟩;have C:Hid (ChP w w2 K c r1 r2 [] []):=Aa ⟨hC,Af S.out.below.size g1,Af S.out.below.size g2⟩;have S:=Aa (S.out.go hb);clear hb hC g1 g2 ST;obtain⟨s,hr,hv⟩:=S.out.at (b:=b3) (v:=V3) sM;have hr:=Aa hr;have hv:=Aa hv;have hlv:(prog.info? 29).map (·.size)=some (Al V3 s).length:=hi8;go_wp2_with (refine Bf rfl 29 _ rfl b3 0 rfl (Al V3 s) _ hr.out underlying29 rfl hlv ?_)
 refine (H.out.ad1 w _ _ c r1 r2 s h9.out S.out C.out hv.out).mono ?_;clear hr hv hlv S C;rintro e w6 ⟨rfl,S,C⟩;have S:=Aa S;have C:=Aa C;obtain⟨s,hr,hv⟩:=S.out.at (b:=b1) (v:=V1) sM;have hr:=Aa hr;have hv:=Aa hv;have hlv:(prog.info? 29).map (·.size)=some (Al V1 s).length:=hi8;go_wp2_with (refine B9 rfl 29 _ rfl b1 0 rfl (Al V1 s) _ hr.out underlying29 rfl hlv ?_)
 refine (H.out.ad2 w _ _ c r1 r2 s h9.out S.out C.out hv.out).mono ?_;clear hr hv hlv S C;rintro e w6 ⟨rfl,S,C⟩;have S:=Aa S;have C:=Aa C;obtain⟨s,hr,hv⟩:=S.out.at (b:=b2) (v:=V2) sM;have hr:=Aa hr;have hv:=Aa hv;have hlv:(prog.info? 29).map (·.size)=some (Al V2 s).length:=hi8;go_wp2_with (refine B9 rfl 29 _ rfl b2 0 rfl (Al V2 s) _ hr.out underlying29 rfl hlv ?_)
 refine (H.out.ad3 w _ _ c r1 r2 s h9.out S.out C.out hv.out).mono ?_;clear hr hv hlv S C;rintro e w6 ⟨rfl,S,C⟩;have S:=Aa S;have C:=Aa C;go_wp2_with fail;refine (H.out.vd2 w _ _ c r1 r2 _ S.out C.out).mono ?_;clear S C;rintro e w7 ⟨rfl,S,C⟩;have S:=Aa S;have C:=Aa C;go_wp2_with fail;clear C;have S:=Aa (S.out.go ((Ac _ w7).alloc nR (.cells #[aA K] 9)));have ST:=Aa (Vr w7 K);dsimp only [aA] at S ST;generalize w7.alloc (.cells #[↑K] 9)=W at *;refine (H.out.new W _ S.out.gc.gl ST.out).mono ?_;rintro e w2 ⟨c,r1,r2,rfl,hC,g1,g2,hb⟩;have C:Hid (ChP w w2 K c r1 r2 [] []):=Aa ⟨hC,Af S.out.below.size g1,Af S.out.below.size g2⟩;have S:=Aa (S.out.go hb);clear hb hC g1 g2 ST;obtain⟨s,hr,hv⟩:=S.out.at (b:=b1) (v:=V1) sM;have hr:=Aa hr;have hv:=Aa hv;have hlv:(prog.info? 29).map (·.size)=some (Al V1 s).length:=hi8;go_wp2_with (refine Bf rfl 29 _ rfl b1 0 rfl (Al V1 s) _ hr.out underlying29 rfl hlv ?_)
 refine (H.out.ax1 w _ _ c r1 r2 s h9.out S.out C.out hv.out).mono ?_;clear hr hv hlv S C;rintro e w6 ⟨rfl,S,C⟩;have S:=Aa S;have C:=Aa C;obtain⟨s,hr,hv⟩:=S.out.at (b:=b4) (v:=V4) sM;have hr:=Aa hr;have hv:=Aa hv;have hlv:(prog.info? 29).map (·.size)=some (Al V4 s).length:=hi8;go_wp2_with (refine B9 rfl 29 _ rfl b4 0 rfl (Al V4 s) _ hr.out underlying29 rfl hlv ?_)
 refine (H.out.ax2 w _ _ c r1 r2 s h9.out S.out C.out hv.out).mono ?_;clear hr hv hlv S C;rintro e w6 ⟨rfl,S,C⟩;have S:=Aa S;have C:=Aa C;go_wp2_with fail;refine (H.out.vx2 w _ _ c r1 r2 _ S.out C.out).mono ?_;clear S C;rintro e w7 ⟨rfl,S,C⟩;have S:=Aa S;have C:=Aa C;go_wp2_with fail;refine (H.out.act _ S.out.gc).mono ?_;rintro e w9 ⟨rfl,hb⟩;have S:=Aa (S.out.go hb);clear hb C;go_wp2;go_ret;exact⟨rfl,S.out.below⟩
theorem I32 (a b:Int) (g:Nat) (w:ZB) (h0:w.cell? ⟨g,0,none⟩=some ↑a) (h1:w.cell? ⟨g,1,none⟩=some ↑b) : ZE prog 95 #[.slice (some ⟨g,0,none⟩) 2 2] w (fun e w'=>e=.returned (.int .i64 (if a != 0 then a else b))/\w=w'):=by
 obtain⟨R,hR⟩:∃ R,Hid ((if a != 0 then a else b)=R):=⟨_,Aa rfl⟩
 rw [hR.out];go_enter func95,ntmps95;go_wp2_with fail;go_loopw [8] (fun i wr=>∃ k:Nat,k<=2/\i=↑k/\w=wr/\Hid (1<=k->a=0)/\Hid (2<=k->b=0)) (fun i _=>2 - (ZG i).toNat);case atStart=>exact⟨0,oM,rfl,rfl,Aa (fun h=>by omega),Aa (fun h=>by omega)⟩
 case round =>
  obtain⟨k,hk,rfl,rfl,ha,hb⟩:=hrel;rcases (oM:k=0\/k=1\/k=2) with rfl|rfl|rfl
  ·by_cases h:a=0
   ·have q:(a != 0)=false:=by simp [h]
    have h:=Aa h;go_wp2;go_roundw;case rel=>exact⟨1,oM,by go_num,by trivial,Aa (fun _=>h.out),Aa (fun h=>by omega)⟩
    case measure=>simp [ZG]
   ·have q:(a != 0)=true:=by simp [h]
    have hRa:R=a:=by rw [<- hR.out,q];rfl
    subst hRa;exact FD40
  ·have ha0:a=0:=ha.out oM;have hRb:R=b:=by rw [<- hR.out,ha0];rfl
   subst hRb;by_cases h:R=0
   ·have q:(R != 0)=false:=by simp [h]
    have h:=Aa h;go_wp2;go_roundw;case rel=>exact⟨2,oM,by go_num,by trivial,Aa (fun _=>ha0),Aa (fun _=>h.out)⟩
    case measure=>simp [ZG]
   ·have q:(R != 0)=true:=by simp [h]
    exact FD40
  ·have ha0:a=0:=ha.out oM;have hb0:b=0:=hb.out oM;have hR0:R=0:=by rw [<- hR.out,ha0,hb0];rfl
   subst hR0;exact FD40
theorem Fn1 (w:ZB) (o1 o2:Obj):((w.alloc o1).alloc o2).heap[w.heap.size+1]?=some o2:=by have:=Ap (w.alloc o1) o2;rwa [Dn] at this
theorem Fn2 (w:ZB) (o1 o2:Obj):((w.alloc o1).alloc o2).heap[w.heap.size]?=some o1 := (((Ac _ (w.alloc o1)).alloc nR o2).block w.heap.size sM).trans (Ap w o1)
theorem Fne (w:ZB) (o1 o2 o3:Obj):∃ q os',(((w.alloc o1).alloc o2).alloc o3).drew=grow (w.drewN q) os':=by refine⟨1,#[o1,o2,o3],?_⟩;simp only [World.alloc,grow,World.drewN,World.drew];congr 1
def ni (a b:Int × Int):Int:=if uX a.1 b.1 != 0 then uX a.1 b.1 else uX a.2 b.2
theorem Lk2 (x y:Int × Int) (w:ZB):ZE prog 94 #[.agg (gU x).toArray,.agg (gU y).toArray] w (fun e w'=>e=.returned (.int .i64 (ni x y))/\∃ q os',w'=grow (w.drewN q) os'):=by
 obtain⟨x1,x2⟩:=x;obtain⟨y1,y2⟩:=y;obtain⟨r,hr⟩:∃ r,ni (x1,x2) (y1,y2)=r:=⟨_,rfl⟩
 unfold ni at hr;dsimp only at hr;have hC1:=fun W=>Uo x1 y1 W;have hC2:=fun W=>Uo x2 y2 W;rw [show ni (x1,x2) (y1,y2)=r from hr];generalize uX x1 y1=c1 at *;generalize uX x2 y2=c2 at *;have hO:=fun (g:Nat) (W:ZB) h0 h1=>I32 c1 c2 g W h0 h1;rw [hr] at hO;have hC1:=Aa hC1;have hC2:=Aa hC2;have hO:=Aa hO;have hG:=Aa (Fne w);clear hr;simp only [gU];go_enter func94,ntmps94;go_wp2_with fail;obtain⟨W0,hW0⟩:∃ W0,(w.alloc (.cells #[↑x1,↑x2] 89)).alloc (.cells #[↑y1,↑y2] 89)=W0:=⟨_,rfl⟩
 have hp:=Fn2 w (.cells #[↑x1,↑x2] 89) (.cells #[↑y1,↑y2] 89);have hq:=Fn1 w (.cells #[↑x1,↑x2] 89) (.cells #[↑y1,↑y2] 89);have hGW:∀ o,∃ q os',(W0.alloc o).drew=grow (w.drewN q) os':=fun o=>by rw [<- hW0];exact hG.out _ _ o
 rw [hW0] at hp hq ⊢;have hGW:=Aa hGW;clear hG hW0;have hpl:=(aZ hp)
 have hql:=(aZ hq)
 have SS:∀ W',Below W0 W0 W'->W'.cell? ⟨w,0,none⟩=some ↑x1/\W'.cell? ⟨w,1,none⟩=some ↑x2/\W'.cell? ⟨w+1,0,none⟩=some ↑y1/\W'.cell? ⟨w+1,1,none⟩=some ↑y2:=fun W' hb =>⟨Ab ((hb.block _ hpl).trans hp) 0,Ab ((hb.block _ hpl).trans hp) 1,Ab ((hb.block _ hql).trans hq) 0,Ab ((hb.block _ hql).trans hq) 1⟩
 have hBd:Below W0 W0 W0.drew:=(Ac _ W0).drew;have SS:=Aa SS;clear hp hq hpl hql;go_region_held3 (fun W'=>W'.cell? ⟨w,0,none⟩=some ↑x1/\W'.cell? ⟨w,1,none⟩=some ↑x2/\W'.cell? ⟨w+1,0,none⟩=some ↑y1/\W'.cell? ⟨w+1,1,none⟩=some ↑y2) (first|exact SS.out _ hBd|exact SS.out _ (hBd.alloc hBd.size _)) (first |(go_at_call 96;with_reducible refine (hC1.out _).mono ?_;rintro e w' ⟨rfl,rfl⟩) |(go_at_call 96;with_reducible refine (hC2.out _).mono ?_;rintro e w' ⟨rfl,rfl⟩) |(go_at_call 95;refine (hO.out _ _ (Ab (Ap _ _) 0) (Ab (Ap _ _) 1)).mono ?_;rintro e w' ⟨rfl,rfl⟩))
 go_wp2;go_ret;exact⟨rfl,hGW.out _⟩
def Let:Ren:=⟨fun|20=>260|n=>n,fun|22=>146|24=>89|25=>153|n=>n,fun n=>n⟩
theorem I52:SlLaysF0.n20 prog Let:={
 mixed:=kR
 f20:=⟨Tryz.f260.name,dC,func260.trans (congrArg some kR)⟩
 t0:=underlying0
 a0:=isAgg0
 z0:=sizeOf0
 v0:=zeroValue0
 t3:=underlying3
 a3:=isAgg3
 z3:=sizeOf3
 v3:=zeroValue3
 t4:=underlying4
 a4:=isAgg4
 z4:=sizeOf4
 v4:=zeroValue4
 t22:=underlying146
 a22:=isAgg146
 z22:=sizeOf146
 v22:=zeroValue146
 t25:=underlying153
 a25:=isAgg153
 z25:=sizeOf153
 v25:=zeroValue153 }
theorem Lex (g cap:Nat) (d:Array (Int × Int)) (w:ZB) (hH:HoldsK gU 2 w g 0 d) (hblk:g<w.heap.size) (hn:d.size<=12) : ZE prog 260 #[.slice (some ⟨g,0,none⟩) d.size cap,.int .i64 0,.int .i64 (d.size:Nat),.func (.func 94) #[] #[]] w fun e w' => e=.returned (.tuple #[])/\∃ n os,w'=sortWorldK gU 2 w g 0 n (Sort.insertionSort (ltOf ni) d 0 d.size) os := AnyQ.insertionSortCmpFunc (α:=Int × Int) I52 2 isAgg89 sizeOf89 gU (fun _=>rfl) Fam ni 94 #[] g 0 cap 0 d.size d w (fun args W=>by kernel_rfl) (fun m os dk _ x y=>Lk2 x y _) hH hblk (Bg _) nR oM
theorem K1c (g cap:Nat) (d:Array (Int × Int)) (lim:Int) (w:ZB) (hH:HoldsK gU 2 w g 0 d) (hblk:g<w.heap.size) (hn:d.size<=12) : ZE prog 212 #[.slice (some ⟨g,0,none⟩) d.size cap,.int .i64 0,.int .i64 (d.size:Nat),↑lim,.func (.func 94) #[] #[]] w fun e w' => e=.returned (.tuple #[])/\∃ n os,w'=sortWorldK gU 2 w g 0 n (Sort.insertionSort (ltOf ni) d 0 d.size) os:=by
 have I:=Aa (Lex g cap d w hH hblk hn);obtain⟨Q,hQ⟩:∃ Q:ZB->Prop,(fun w'=>∃ n os,w'=sortWorldK gU 2 w g 0 n (Sort.insertionSort (ltOf ni) d 0 d.size) os)=Q:=⟨_,rfl⟩
 have I:Hid (ZE prog 260 #[.slice (some ⟨g,0,none⟩) d.size cap,.int .i64 0,.int .i64 (d.size:Nat),.func (.func 94) #[] #[]] w fun e w'=>e=.returned (.tuple #[])/\Q w'):=Aa (by rw [<- hQ];exact I.out);have hG:ZE prog 212 #[.slice (some ⟨g,0,none⟩) d.size cap,.int .i64 0,.int .i64 (d.size:Nat),↑lim,.func (.func 94) #[] #[]] w fun e w'=>e=.returned (.tuple #[])/\Q w':=by
  clear hQ hH hblk;generalize d.size=N at *;have q:decide ((N:Int)<=12)=true:=by simp;omega
  go_enter func212,ntmps212;go_wp2_with fail;go_loopw [1,2] (fun a b wr=>a=.int .i64 0/\b=↑N/\w=wr) (fun _ _ _=>0);case atStart=>exact⟨rfl,rfl,rfl⟩
  case round =>obtain⟨rfl,rfl,rfl⟩:=hrel;go_wp2_with fail;refine I.out.mono ?_;rintro e w1 ⟨rfl,hq⟩;clear I;go_wp2;refine Ag (Nq rfl _ _ _) rfl ?_;exact⟨rfl,hq⟩
 rw [<- hQ] at hG;exact hG
theorem I25 (g cap:Nat) (d:Array (Int × Int)) (w:ZB) (hH:HoldsK gU 2 w g 0 d) (hblk:g<w.heap.size) (hn:d.size<=12) : ZE prog 150 #[.slice (some ⟨g,0,none⟩) d.size cap,.func (.func 94) #[] #[]] w fun e w' => e=.returned (.tuple #[])/\∃ n os,w'=sortWorldK gU 2 w g 0 n (Sort.insertionSort (ltOf ni) d 0 d.size) os:=by
 have I:=fun lim=>K1c g cap d lim w hH hblk hn;obtain⟨Q,hQ⟩:∃ Q:ZB->Prop,(fun w'=>∃ n os,w'=sortWorldK gU 2 w g 0 n (Sort.insertionSort (ltOf ni) d 0 d.size) os)=Q:=⟨_,rfl⟩
 have I:Hid (∀ lim:Int,ZE prog 212 #[.slice (some ⟨g,0,none⟩) d.size cap,.int .i64 0,.int .i64 (d.size:Nat),↑lim,.func (.func 94) #[] #[]] w fun e w'=>e=.returned (.tuple #[])/\Q w'):=Aa (by rw [<- hQ];exact I);have hG:ZE prog 150 #[.slice (some ⟨g,0,none⟩) d.size cap,.func (.func 94) #[] #[]] w fun e w'=>e=.returned (.tuple #[])/\Q w':=by
  clear hQ hH hblk;generalize d.size=N at *;have hu:IntKind.u64.wrap (N:Int)=(N:Int):=by rw [Ih];omega
  go_enter func150,ntmps150;go_wp2_with fail;refine (Tryz.bits_Len (N:Int) _ oM oM).mono ?_;rintro e w1 ⟨rfl,rfl⟩;go_wp2_with fail;refine (I.out _).mono ?_;rintro e w2 ⟨rfl,hq⟩;clear I;go_wp2;go_end0;exact⟨rfl,hq⟩
 rw [<- hQ] at hG;exact hG
theorem Ev0 (w:ZB):ZE prog 260 #[.slice none 0 0,.int .i64 0,.int .i64 0,.func (.func 94) #[] #[]] w fun e w'=>e=.returned (.tuple #[])/\w=w':=by
 go_enter func260,ntmps260;go_wp2_with fail;go_loopw [8] (fun a wr=>a=.int .i64 1/\w=wr) (fun _ _=>0);case atStart=>exact⟨rfl,rfl⟩
 case round =>obtain⟨rfl,rfl⟩:=hrel;go_wp2;go_end0;exact⟨rfl,rfl⟩
theorem Dcy (lim:Int) (w:ZB):ZE prog 212 #[.slice none 0 0,.int .i64 0,.int .i64 0,↑lim,.func (.func 94) #[] #[]] w fun e w'=>e=.returned (.tuple #[])/\w=w':=by
 go_enter func212,ntmps212;go_wp2_with fail;go_loopw [1,2] (fun a b wr=>a=.int .i64 0/\b=.int .i64 0/\w=wr) (fun _ _ _=>0);case atStart=>exact⟨rfl,rfl,rfl⟩
 case round =>obtain⟨rfl,rfl,rfl⟩:=hrel;go_wp2_with fail;refine (Ev0 w).mono ?_;rintro e w1 ⟨rfl,rfl⟩;go_wp2;refine Ag (Nq rfl _ _ _) rfl ?_;exact⟨rfl,rfl⟩
theorem Ain (w:ZB):ZE prog 150 #[.slice none 0 0,.func (.func 94) #[] #[]] w fun e w'=>e=.returned (.tuple #[])/\w=w':=by
 have hu:IntKind.u64.wrap (0:Int)=(0:Int):=by rw [Ih];omega
 go_enter func150,ntmps150;go_wp2_with fail;refine (Tryz.bits_Len 0 _ oM oM).mono ?_;rintro e w1 ⟨rfl,rfl⟩;go_wp2_with fail;refine (Dcy _ _).mono ?_;rintro e w2 ⟨rfl,rfl⟩;go_wp2;go_end0;exact⟨rfl,rfl⟩
def Wm (B:Nat) (w:ZB) (v:ZC) (ls:List (Int × Int)):Prop := ∃ a cap,v=.slice a ls.length cap/\ls.length<=cap/\cap<=9223372036854775807 /\ (ls≠[]->∃ b off,a=some ⟨b,off,none⟩/\b<B/\∀ j p,ls[j]?=some p->w.cell? ⟨b,off+j*2,none⟩=some (aJ p.1)/\w.cell? ⟨b,off+j*2+1,none⟩=some (aJ p.2))
theorem Wm.below {B B':Nat} {w w':ZB} {v:ZC} {ls:List (Int × Int)} (h:Wm B w v ls) (hb:Below B' w w') (hB:B<=B'):Wm B w' v ls:=by obtain⟨a,cap,h1,h2,h3,h4⟩:=h;refine⟨a,cap,h1,h2,h3,fun hne=>?_⟩;obtain⟨b,off,e,hlt,hx⟩:=h4 hne;refine⟨b,off,e,hlt,fun j p hj=>⟨(hb.cell (p:=⟨b,off+j*2,none⟩) (Ai hlt hB)).trans (hx j p hj).1,(hb.cell (p:=⟨b,off+j*2+1,none⟩) (Ai hlt hB)).trans (hx j p hj).2⟩⟩
theorem wL:∀ (l:List (Int × Int)) (t:Nat),t<l.length*2->(l.flatMap gU)[t]?=some ((gU l.toArray[t / 2]!)[t % 2]!)
 |[],t,h=>by simp at h
 |x::l,t,h=>by
  rw [Gg]
  by_cases h8:t<2
  ·rw [Hf h8]
   have e1:t / 2=0:=Nl h8
   have e2:t % 2=t:=Nk h8
   rw [e1,e2]
   have:t<(gU x).length:=h8
   simp [this]
  ·rw [Gs (by show 2<=t;omega)]
   show (l.flatMap gU)[t - 2]?=_
   rw [wL l (t - 2) (by rw [Ba] at h;omega)]
   have e1:t / 2=(t - 2) / 2+1:=oM
   have e2:t % 2=(t - 2) % 2:=oM
   rw [e1,e2]
   simp
theorem Tq {C g n:Nat} {w:ZB} {d:Array (Int × Int)} {os:Array Obj} (hC:C<=g) (hw:C<=w.heap.size):Below C w (sortWorldK gU 2 w g 0 n d os):=by refine⟨rfl,rfl,rfl,size_sortWorldK_c gU 2 w g 0 n d os,fun k hk=>?_⟩;show ((w.heap.modify g (onCells (putCells id 0 (flatK gU 2 d))))++os)[k]?=w.heap[k]?;rw [Array.getElem?_append_left (by simp;omega),Gf,Ah oM]
theorem Ch3 {base g cap:Nat} {w:ZB} {ps:List (Int × Int)} (hO:w.ownsRow base 89 2 (.slice (some ⟨g,0,none⟩) ps.length cap) ps.length (ps.flatMap gU)) (hbw:base<=w.heap.size) : HoldsK gU 2 w g 0 ps.toArray/\g<w.heap.size/\∀ w',(∃ n os,w'=sortWorldK gU 2 w g 0 n (Sort.insertionSort (ltOf ni) ps.toArray 0 ps.toArray.size) os) -> ∃ ls:List (Int × Int),ls.length=ps.length/\(∀ p∈ls,p∈ps)/\Wm w' w' (.slice (some ⟨g,0,none⟩) ps.length cap) ls/\Below base w w':=by
 have h2':=hO;obtain⟨hlen,⟨e,h0⟩|⟨g',cap',cur,e,hb,hg,hn,hc,hsz,htk⟩⟩:=hO;·cases e
 simp only [Value.slice.injEq,Fq,Addr.mk.injEq,and_true,true_and] at e;obtain⟨rfl,rfl⟩:=e;have uw:g<w.heap.size:=(aZ hg)
 have hH:HoldsK gU 2 w g 0 ps.toArray:=by
  intro t ht;rw [size_flatK] at ht;have ht':t<ps.length*2:=by simpa using ht
  rw [get_flatK _ _ _ _ ht];refine⟨?_,A9 hg _⟩;rw [Bh,Ig h2' t ht'];exact wL ps t ht'
 refine⟨hH,uw,?_⟩;rintro w' ⟨n,os,rfl⟩;have hinv:=lY (lt:=ltOf ni) (I:=fun L=>L.length=ps.length/\∀ y∈L,y∈ps) (fun l m x y _ h=>⟨by simpa using h.1,fun z hz=>h.2 z (by
  simp only [Ea,A8] at hz ⊢;rcases hz with h|h|h|h;·exact .inl h
  ·exact .inr (.inr (.inl h))
  ·exact .inr (.inl h)
  ·exact .inr (.inr (.inr h)))⟩) ps ⟨rfl,fun _ h=>h⟩
 rw [show ps.length=ps.toArray.size from by simp] at hinv;obtain⟨d',hd'⟩:∃ d',Sort.insertionSort (ltOf ni) ps.toArray 0 ps.toArray.size=d':=⟨_,rfl⟩
 rw [hd'] at hinv ⊢;have hs':d'.size=ps.toArray.size:=by have:=hinv.1;simpa using this
 have hH':=holdsK_sortWorldK_c gU 2 w g 0 ps.toArray d' n os hH uw hs';have hBb:Below base w (sortWorldK gU 2 w g 0 n d' os):=Tq hb hbw;have hgs:w.heap.size<=(sortWorldK gU 2 w g 0 n d' os).heap.size:=hBb.size;have hsl:d'.toList.length=ps.length:=by simp [hs']
 refine⟨d'.toList,hsl,hinv.2,⟨_,cap,by rw [hsl],by rw [hsl];exact hn,by unfold maxLen at hc;omega,fun _=>⟨g,0,rfl,Nat.lt_of_lt_of_le uw hgs,fun j p hj=>?_⟩⟩,hBb⟩;have hjl:j<d'.size:=by have:=(lS hj);simpa using this
 have hat:d'[j]! =p:=by rw [Lh] at hj;rw [getElem!_def,hj]
 have k0:=(HoldsK.cell hH' hjl (show 0<2 by omega)).1;have k1:=(HoldsK.cell hH' hjl (show 1<2 by omega)).1;rw [hat] at k0 k1;exact⟨k0,k1⟩
def Kdd (w:ZB) (kvs:List ((Int × Int) × ZC)) (e:Ending) (w':ZB):Prop := ∃ a c ls,e=.returned (.slice a kvs.length c)/\ls.length=kvs.length/\(∀ p∈ls,p∈kvs.map (·.1))/\Wm w' w' (.slice a kvs.length c) ls/\Below w w w'
theorem Ux (Bm r:Nat) (kvs:List ((Int × Int) × ZC)) (w:ZB) (hBm:Bm<w.heap.size) (hm:w.cell? ⟨Bm,0,none⟩=some (.map (some r))) (hmap:Ct Bi r w kvs) (hk:(kvs.map (·.1)).Nodup) (hN:kvs.length<=12) : ZE prog 92 #[.func (.func 151) #[] #[.pointer (some ⟨Bm,0,none⟩)],.func (.func 94) #[] #[]] w (Kdd w kvs):=by
 have A:=Aa (Byd Bm r kvs w hBm hm hmap hk oM);clear hm hmap;have hk:=Aa hk;have hN:=Aa hN;go_enter func92,ntmps92;go_wp2_with fail;refine A.out.mono ?_;rintro e w1 ⟨a,n,c,ps,rfl,hK,hown,hn,hb⟩;have hpl:ps.length=kvs.length:=by have h1:=Ys ps (kvs.map (·.1)) hK.1 (fun p hp=>(hK.2 p).1 hp);have h2:=Ys (kvs.map (·.1)) ps hk.out (fun p hp=>(hK.2 p).2 hp);rw [Dt] at h1 h2;omega
 have hN:=hN.out;obtain⟨M,hM⟩:∃ M,Hid (kvs.length=M):=⟨_,Aa rfl⟩
 rw [hM.out] at hpl hN;subst hn;clear A;have hown':=hown;obtain⟨hlen,⟨e0,h0⟩|⟨g,cap,cur,e0,_,_,_⟩⟩:=hown;·simp only [Value.slice.injEq] at e0;obtain⟨rfl,_,rfl⟩:=e0;have hM0:M=0:=oM;subst hM0;rw [h0];clear hlen hown' hpl;go_wp2_with fail;refine (Ain w1).mono ?_;rintro e w2 ⟨rfl,rfl⟩;go_wp2;go_ret;exact⟨none,0,[],by rw [hM.out];rfl,by rw [hM.out];rfl,(fun p hp=>by cases hp),⟨none,0,by rw [hM.out];rfl,Bv _,oM,fun h=>absurd rfl h⟩,hb⟩
 ·simp only [Value.slice.injEq] at e0;obtain⟨rfl,_,rfl⟩:=e0;obtain⟨hH,uw,hpost⟩:=Ch3 hown' hb.size;have S:=I25 g c ps.toArray w1 hH uw (by simp;omega);obtain⟨Q,hQ⟩:∃ Q:ZB->Prop,(fun w'=>∃ n os,w'=sortWorldK gU 2 w1 g 0 n (Sort.insertionSort (ltOf ni) ps.toArray 0 ps.toArray.size) os)=Q:=⟨_,rfl⟩
  have hpost:Hid (∀ w',Q w'->_):=Aa (by rw [<- hQ];exact hpost);have S:Hid (ZE prog 150 #[.slice (some ⟨g,0,none⟩) ps.length c,.func (.func 94) #[] #[]] w1 fun e w'=>e=.returned (.tuple #[])/\Q w'):=Aa (by rw [<- hQ];simpa using S);have hK:=Aa hK;clear hQ hH hown' hlen;rw [hpl] at S hpost ⊢;go_wp2_with fail;refine S.out.mono ?_;rintro e w2 ⟨rfl,hq⟩;have hp:=Aa (hpost.out w2 hq);clear hq S hpost;go_wp2;go_ret;obtain⟨ls,h1,h2,h3,h4⟩:=hp.out;exact⟨_,c,ls,by rw [hM.out];rfl,by rw [hM.out];exact h1,fun p hp=>(hK.out.2 p).1 (h2 p hp),by rw [hM.out];exact h3,hb.trans h4⟩
theorem jf.keys {B:Nat} {w:ZB}:∀ {l:List ((Int × Int) × ZC)} {m:CH.Forks},jf B w l m->l.map (·.1)=m.map (·.1)
 |[],[],_=>rfl
 |(_,_)::l,(_,_)::m,h=>by
  obtain⟨⟨rfl,_⟩,h4⟩:=h
  simp [jf.keys h4]
 |[],_::_,h=>h.elim
 |_::_,[],h=>h.elim
theorem jf.length {B:Nat} {w:ZB} {l:List ((Int × Int) × ZC)} {m:CH.Forks} (h:jf B w l m):l.length=m.length:=by have:=congrArg List.length h.keys;exact FD151
theorem Qw {β:Type} {p:Int × Int}:∀ {l:List ((Int × Int) × β)},p∈l.map (·.1)->∃ f,dY p l=some f/\(p,f)∈l
 |[],h=>by simp at h
 |(q,x)::l,h=>by
  rw [dY]
  by_cases e:p=q
  ·subst e
   exact⟨x,sM,sM⟩
  ·obtain⟨f,h1,h2⟩:=Qw (l:=l) (p:=p) (by simpa [e] using h)
   exact⟨f,by rw [Ah (by simpa using e)];exact h1,by simp [h2]⟩
def W8 (x:(CH.Version × CH.Version) × (dI × dI)):List ZC:=Al x.1.1 x.2.1++Al x.1.2 x.2.2
theorem Y0 {B:Nat} {w:ZB} {x:(CH.Version × CH.Version) × (dI × dI)} (h1:aN B w x.1.1 x.2.1) (h2:aN B w x.1.2 x.2.2):∀ u∈W8 x,u.oneCell'=true:=by
 intro u hu;rcases Ea.1 hu with h|h;·exact Ly h1 u h
 ·exact Ly h2 u h
theorem K2a:(prog.info? 92).map (fun i=>(i.zero,i.size,i.bytes))=some (some (.agg #[.int .i64 0,.int .i64 0,.int .i64 0,.string ⟨#[]⟩,.slice none 0 0,.int .i64 0,.slice none 0 0,.slice none 0 0,.int .i64 0,.int .i64 0,.int .i64 0,.string ⟨#[]⟩,.slice none 0 0,.int .i64 0,.slice none 0 0,.slice none 0 0]),16,240):=kR
def Kf (base B:Nat) (w:ZB) (v:ZC) (forks:CH.Forks) (n:Nat):Prop := ∃ xs:List ((CH.Version × CH.Version) × (dI × dI)),xs.length=n/\w.ownsRow base 92 16 v n (xs.flatMap W8)/\(∀ x∈xs,aN B w x.1.1 x.2.1/\aN B w x.1.2 x.2.2/\∃ p,(p,x.1)∈forks)/\B<=base/\base<=w.heap.size
theorem Kf.nil {base B:Nat} {w:ZB} {forks:CH.Forks} (hB:B<=base) (hb:base<=w.heap.size):Kf base B w (.slice none 0 0) forks 0:=⟨[],rfl,Jj w base _ _,(fun _ h=>by cases h),hB,hb⟩
theorem Kf.below {base B:Nat} {w w':ZB} {v:ZC} {forks:CH.Forks} {n:Nat} (h:Kf base B w v forks n) (hb:Below w w w'):Kf base B w' v forks n:=by obtain⟨xs,h1,h2,h3,h4,h5⟩:=h;exact⟨xs,h1,Ff h2 hb,fun x hx=>⟨(h3 x hx).1.below hb (Af h4 h5),(h3 x hx).2.1.below hb (Af h4 h5),(h3 x hx).2.2⟩,h4,Af h5 hb.size⟩
theorem Kf.form {base B:Nat} {w:ZB} {v:ZC} {forks:CH.Forks} {n:Nat} (h:Kf base B w v forks n):∃ a c,v=.slice a n c/\n<=c:=by
 obtain⟨xs,h1,⟨hlen,⟨rfl,h0⟩|⟨g,cap,cur,rfl,_,_,hn,_⟩⟩,_⟩:=h;·exact⟨none,0,by rw [h0],oM⟩
 ·exact⟨_,cap,rfl,hn⟩
def F27 (w:ZB) (forks:CH.Forks) (e:Ending) (w':ZB):Prop:=∃ v base,e=.returned v/\w.heap.size<=base/\Kf base w w' v forks forks.length/\Below w w w'
theorem Y3 (r:Nat) (w:ZB):ZE prog 93 #[.map (some r)] w fun e w' => e=.returned (.func (.func 151) #[] #[.pointer (some ⟨w,0,none⟩)])/\w.alloc (.cells #[.map (some r)] 80)=w':=by go_enter func93,ntmps93;exact FD40
theorem X8 {w:ZB} {o:Oper} {a:Act} {K:Act->ZB->Prop} {Q:Exit->Act->ZB->Prop} (s x:Operand) (ho:o.op=.call { callee:=.builtin .append,args:=#[s,x],argTypes:=#[45,45] }) (base:Nat) (v:ZC) (n:Nat) (xs:List ZC) (hs:a.eval s=v) (hown:w.ownsRow base 92 16 v n xs) (g c:Nat) (news:List ZC) (hx:a.eval x=.slice (some ⟨g,0,none⟩) 1 c) (hcell:w.rangeAt g 0 news) (hl:news.length=16) (h1:∀ u∈news,u.oneCell'=true) (hlen:n<=1000000) (hbase:base<=w.heap.size) (h:∀ v' w',w'.ownsRow base 92 16 v' (n+1) (xs++news)->w.grownBy w' v.ownBlock->K (a.put o.dst v') w'):o.wp prog a w K Q:=by
 obtain⟨i,hi,hz0,hz1,hz2⟩:=I7 K2a;refine wp_append_own w s x 45 ho base 92 i _ 16 240 underlying45 hi hz0 hz1 hz2 rfl dC v n _ hs hown ⟨g,0,none⟩ 1 c news hx (by rw [hl]) ?_ h1 ?_ ?_ hbase ?_;·intro j u hj;have:=hcell j u hj;rw [Bh] at this;rw [show (⟨g,0,none⟩:Addr).add j=⟨g,j,none⟩ from by simp [Addr.add];omega];exact this
 ·exact FD143
 ·omega
 ·intro v' w' h1 h2 _;exact h v' w' h1 h2
theorem Sr (c o r:Nat) (kvs:List ((Int × Int) × ZC)) (forks:CH.Forks) (w:ZB) (hc:w.cell? ⟨c,o,none⟩=some (.map (some r))) (hm:Ct Bi r w kvs) (hkv:jf w w kvs forks) (hnd:(forks.map (·.1)).Nodup) (hN:forks.length<=12) : ZE prog 41 #[.pointer (some ⟨c,o,none⟩)] w (F27 w forks):=by
 have iK:=Em w _ hc;have hk:(kvs.map (·.1)).Nodup:=by rw [hkv.keys];exact hnd
 have hle:=hkv.length;have hkeys:=hkv.keys;have hm:=Aa hm;have hkv:=Aa hkv;have hk:=Aa hk;obtain⟨N,hNN⟩:∃ N,Hid (forks.length=N):=⟨_,Aa rfl⟩
 rw [hNN.out] at hN hle;go_enter func41,ntmps41;go_wp2_with fail;refine (Y3 r w).mono ?_;rintro e W1 ⟨rfl,hW1⟩;have hb1:Below w w W1:=by rw [<- hW1];exact (Ac _ w).alloc nR _
 have hc1:W1.cell? ⟨w,0,none⟩=some (.map (some r)):=by rw [<- hW1];exact Ab (Ap w _) 0
 have hs1:w.heap.size<W1.heap.size:=by rw [<- hW1];simp
 have SF:=Aa (Ux w r kvs W1 hs1 hc1 (hm.out.below hb1) hk.out oM);clear hW1 hc1 hs1;go_wp2_with fail;refine SF.out.mono ?_;rintro e w2 ⟨a,cc,ls,rfl,hl,hsub,hP,hb2⟩;obtain⟨a',cap',hv',hcap1,hcap2,hpc⟩:=hP;have hB2:=Aa (hb1.trans (hb2.mono hb1.size));rw [hle] at hl hv' ⊢;rw [hl] at hv' hcap1;simp only [Value.slice.injEq,true_and] at hv';obtain⟨rfl,rfl⟩:=hv';have hpc:=Aa hpc;have hsub:=Aa hsub;have hl:=Aa hl;have hkeys:=Aa hkeys;clear SF hb1 hb2;go_wp2_with fail;go_loopw [3,13] (fun ov i wr=>∃ k:Nat,k<=N/\i=↑k/\Hid (Kf w2 w wr ov forks k)/\Hid (Below w2 w2 wr)) (fun _ i _=>N - (ZG i).toNat);case atStart=>exact⟨0,Bg _,rfl,Aa (Kf.nil hB2.out.size nR),Aa (Ac _ _)⟩
 case round =>
  obtain⟨k,hkN,rfl,hO,hBr⟩:=hrel;by_cases hlt:k<N
  ·obtain⟨b,off,rfl,hbl,hx⟩:=hpc.out (by intro h;have:=hl.out;simp [h] at this;omega);obtain⟨⟨p1,p2⟩,hxk⟩:∃ p,ls[k]?=some p:=⟨_,Ad (by rw [hl.out];exact hlt)⟩
   obtain⟨e1,e2⟩:=hx k _ hxk;have d1:wr.cell? ⟨b,off+k*2,none⟩=some ↑p1:=(hBr.out.cell (p:=⟨b,off+k*2,none⟩) hbl).trans e1;have d2:wr.cell? ⟨b,off+k*2+1,none⟩=some ↑p2:=(hBr.out.cell (p:=⟨b,off+k*2+1,none⟩) hbl).trans e2;have hmem:=hsub.out _ (Aq hxk);rw [hkeys.out] at hmem;obtain⟨⟨f1,f2⟩,hlk,hmf⟩:=Qw hmem;obtain⟨j,x,hf,s,s',hxx,hv1,hv2⟩:=hkv.out.some 0 hlk;obtain⟨ax1,nx1,cx1,ax2,nx2,cx2,ax3,nx3,cx3,rfl⟩:=hv1.sl;obtain⟨ay1,ny1,cy1,ay2,ny2,cy2,ay3,ny3,cy3,rfl⟩:=hv2.sl;have hBw:Below w w wr:=hB2.out.trans (hBr.out.mono hB2.out.size);have L:=fun (W:ZB) (hb:Below w w W)=>Yz underlying80 _ Wu (hm.out.below hb) (p1,p2);rw [hf,hxx] at L;simp only [Hy,Ll] at L;dsimp only [Bi,Al,List.cons_append,List.nil_append] at L;have hone:=Aa (Y0 (x:=((f1,f2),(⟨.slice ax1 nx1 cx1,.slice ax2 nx2 cx2,.slice ax3 nx3 cx3⟩,⟨.slice ay1 ny1 cy1,.slice ay2 ny2 cy2,.slice ay3 ny3 cy3⟩))) hv1 hv2);have hv1:=Aa hv1;have hv2:=Aa hv2;have hmf:=Aa hmf;obtain⟨av,cv,rfl,hcv⟩:=hO.out.form;have SS:=Aa fun (W':ZB) (hb:Below w w W') (hq:W'.heap[wr.heap.size]?=some (.cells #[↑p1,↑p2] 89 (0,0))) =>(⟨(hb.cell (p:=⟨c,o,none⟩) iK).trans hc,Ab hq 0,Ab hq 1,L W' hb⟩:W'.cell? ⟨c,o,none⟩=some (.map (some r))/\W'.cell? ⟨wr,0,none⟩=some ↑p1/\W'.cell? ⟨wr,1,none⟩=some ↑p2/\(Instr.lookup 80 (.map (some r)) (.agg #[↑p1,↑p2]) false).run prog W'=.ok (.agg #[↑f1.authority,↑f1.number,↑f1.pos,↑f1.prev,.slice ax1 nx1 cx1,↑f1.sel.index,.slice ax2 nx2 cx2,.slice ax3 nx3 cx3,↑f2.authority,↑f2.number,↑f2.pos,↑f2.prev,.slice ay1 ny1 cy1,↑f2.sel.index,.slice ay2 ny2 cy2,.slice ay3 ny3 cy3]) W')
   clear L hx hxx hf hlk hmem hxk e1 e2;go_wp2_with fail;obtain⟨W4,hW4⟩:∃ W4,wr.alloc (.cells #[↑p1,↑p2] 89)=W4:=⟨_,rfl⟩
   have hb4:Below wr wr W4:=by rw [<- hW4];exact (Ac _ wr).alloc nR _
   have hq4:W4.heap[wr.heap.size]?=some (.cells #[↑p1,↑p2] 89 (0,0)):=by rw [<- hW4];exact Ap wr _
   rw [hW4];clear hW4 d1 d2;have hql:wr.heap.size<W4.heap.size:=(aZ hq4)
   have hBd:Below wr wr W4.drew:=hb4.drew;have hBa:∀ ob,Below wr wr (W4.drew.alloc ob):=fun ob=>hBd.alloc hBd.size ob;have hqa:∀ ob,(W4.drew.alloc ob).heap[wr.heap.size]?=some (.cells #[↑p1,↑p2] 89 (0,0)):=fun ob=>(J5 W4.drew ob _ hql).trans hq4;have yj:∀ {W':ZB},Below wr wr W'->Below w w W':=fun h=>hBw.trans (h.mono hBw.size);have hBw:=Aa hBw;obtain⟨xs,hx1,hx2,hx3,hx4,hx5⟩:=hO.out;have hx3:=Aa hx3;have hrow:∀ ob,(W4.drew.alloc ob).ownsRow w2.heap.size 92 16 (.slice av k cv) k (xs.flatMap W8):=fun ob=>Ff hx2 (hBa ob);have hgb:∀ g,(Value.slice av k cv).ownBlock=some g->w2.heap.size<=g/\g<wr.heap.size:=fun g e=>by
    rcases hx2.2 with⟨e0,_⟩|⟨g',cap,cur,e0,h1,h2,_⟩;·rw [e0] at e;cases e
    ·rw [e0] at e;simp only [Value.ownBlock,Fq] at e;subst e;exact⟨h1,(aZ h2)⟩
   have hgb:=Aa hgb;clear hx2 hO;have hx1:=Aa hx1;refine wp_region_noPanic ?_;refine Fe (S:=fun W'=>W'.cell? ⟨c,o,none⟩=some (.map (some r))/\W'.cell? ⟨wr,0,none⟩=some ↑p1/\W'.cell? ⟨wr,1,none⟩=some ↑p2/\(Instr.lookup 80 (.map (some r)) (.agg #[↑p1,↑p2]) false).run prog W'=.ok (.agg #[↑f1.authority,↑f1.number,↑f1.pos,↑f1.prev,.slice ax1 nx1 cx1,↑f1.sel.index,.slice ax2 nx2 cx2,.slice ax3 nx3 cx3,↑f2.authority,↑f2.number,↑f2.pos,↑f2.prev,.slice ay1 ny1 cy1,↑f2.sel.index,.slice ay2 ny2 cy2,.slice ay3 ny3 cy3]) W') kR (SS.out _ (yj hBd) hq4) (fun hHeld=>?_);refine tk 0 (v:=.slice av k cv) rfl rF hHeld ?_ ?_;·exact FD13
   (try simp only [ZF,pA,pB,pC]);refine tk 1 (v:=.pointer (some ⟨c,o,none⟩)) rfl rF hHeld ?_ ?_;·exact FD13
   (try simp only [ZF,pA,pB,pC]);refine tk 2 (v:=.pointer (some ⟨c,o,none⟩)) rfl rF hHeld ?_ ?_;·exact FD13
   (try simp only [ZF,pA,pB,pC]);refine tk 3 (v:=.pointer (some ⟨c,o,none⟩)) rfl rF hHeld ?_ ?_;·exact FD13
   (try simp only [ZF,pA,pB,pC]);refine tk 4 (v:=.map (some r)) rfl rF hHeld ?_ ?_;·exact FD13
   (try simp only [ZF,pA,pB,pC]);refine tk 5 (v:=.agg #[↑p1,↑p2]) rfl rF hHeld ?_ ?_;·exact FD13
   (try simp only [ZF,pA,pB,pC]);refine tk 6 (v:=.agg #[↑f1.authority,↑f1.number,↑f1.pos,↑f1.prev,.slice ax1 nx1 cx1,↑f1.sel.index,.slice ax2 nx2 cx2,.slice ax3 nx3 cx3,↑f2.authority,↑f2.number,↑f2.pos,↑f2.prev,.slice ay1 ny1 cy1,↑f2.sel.index,.slice ay2 ny2 cy2,.slice ay3 ny3 cy3]) rfl rF hHeld ?_ ?_;·exact FD13
   (try simp only [ZF,pA,pB,pC]);refine rk 7 rfl (fun K hK=>?_);go_simp;refine hK.out _ _ (SS.out _ (yj (hBa _)) (hqa _)) (fun hHeld=>?_);clear hK K;(try simp only [ZF,pA,pB,pC]);refine rk 8 rfl (fun K hK=>?_);rw [Ar rF];refine X8 _ _ rfl w2 (.slice av k cv) k (xs.flatMap W8) rfl (hrow _) W4.heap.size 1 [↑f1.authority,↑f1.number,↑f1.pos,↑f1.prev,.slice ax1 nx1 cx1,↑f1.sel.index,.slice ax2 nx2 cx2,.slice ax3 nx3 cx3,↑f2.authority,↑f2.number,↑f2.pos,↑f2.prev,.slice ay1 ny1 cy1,↑f2.sel.index,.slice ay2 ny2 cy2,.slice ay3 ny3 cy3] rfl (Ca W4.drew _ _) rfl hone.out oM (by have:=hBr.out.size;have:=hb4.size;simp;omega) ?_;intro v5 w5 hO5 hg5;have hB5:Below w2 wr w5:=((hBa _).mono hBr.out.size).grown hg5 (by have:=hBr.out.size;have:=hb4.size;simp;omega) (fun g e=>(hgb.out g e).1);have hq5:w5.heap[wr.heap.size]?=some (.cells #[↑p1,↑p2] 89 (0,0)):=(hg5.block _ (by simp;omega) (fun e=>by have:=(hgb.out _ e.symm).2;omega)).trans (hqa _);have vW:Below w w w5:=hBw.out.trans (hB5.mono hB2.out.size);have hOn:Kf w2 w w5 v5 forks (k+1):=by
    refine⟨xs++[((f1,f2),(⟨.slice ax1 nx1 cx1,.slice ax2 nx2 cx2,.slice ax3 nx3 cx3⟩,⟨.slice ay1 ny1 cy1,.slice ay2 ny2 cy2,.slice ay3 ny3 cy3⟩))],by rw [Au,hx1.out];rfl,?_,fun y hy=>?_,hx4,Af hBr.out.size hB5.size⟩;·rw [Ja];exact hO5
    ·have hBx:Below w wr w5:=hB5.mono hB2.out.size;rcases Ea.1 hy with h|h;·obtain⟨a1,a2,a3⟩:=hx3.out y h;exact⟨a1.below hBx nR,a2.below hBx nR,a3⟩
     ·rw [Ci] at h;subst h;exact⟨hv1.out.below vW nR,hv2.out.below vW nR,_,hmf.out⟩
   have hOn:=Aa hOn;obtain⟨a5,c5,rfl,hc5⟩:=hOn.out.form;refine hK.out _ _ (SS.out _ vW hq5) (fun hHeld=>?_);clear hK K;(try simp only [ZF,pA,pB,pC]);refine tk 9 (v:=.slice a5 (k+1) c5) rfl rF hHeld ?_ ?_;·exact FD13
   (try simp only [ZF,pA,pB,pC]);refine D8 kR (NoPanic.normal ?_) _;have FZ:=Aa (hBr.out.trans hB5);clear hHeld SS hrow hqa hBa yj hB5 vW hO5 hg5 hq5;go_wp2;go_roundw;case rel=>exact⟨k+1,oM,by go_num,hOn,FZ⟩
   case measure=>simp [ZG];omega
  ·obtain rfl:k=N:=oM;obtain⟨av,cv,rfl,hcv⟩:=hO.out.form;go_wp2;go_ret;exact⟨_,w2.heap.size,rfl,hB2.out.size,by rw [hNN.out];exact hO.out,hB2.out.trans (hBr.out.mono hB2.out.size)⟩
theorem I56 (c r1 r2:Nat) (keys:List (List UInt8)) (known:CH.Known) (forks:CH.Forks) (w:ZB) (hC:H0 w c r1 r2 keys known forks) (hnd:(forks.map (·.1)).Nodup) (hN:forks.length<=12) : ZE prog 17 #[.pointer (some ⟨c,0,none⟩)] w (F27 w forks):=by
 obtain⟨vk,hb0,_⟩:=hC.ex;obtain⟨kvs,hm,hkv⟩:=hC.forks;have S:=Aa (Sr c 2 r2 kvs forks w (Ab hb0 2) hm hkv hnd hN);obtain⟨N,hNN⟩:∃ N,Hid (forks.length=N):=⟨_,Aa rfl⟩
 clear hb0 hm hkv hC;go_enter func17,ntmps17;go_wp2_with fail;refine S.out.mono ?_;rintro e w1 ⟨v,base,rfl,hbb,hO,hb⟩;obtain⟨a,cc,rfl,hcv⟩:=hO.form;rw [hNN.out] at hO ⊢;have hO:=Aa hO;clear S;go_wp2;go_ret;exact⟨_,base,rfl,hbb,by rw [hNN.out];exact hO.out,hb⟩
theorem Hnd (c r1 r2:Nat) (key:List UInt8) (known:CH.Known) (forks:CH.Forks) (m n:Nat) (w:ZB) (hG:Gc w) (hC:H0 w c r1 r2 [key] known forks) (hn:∀ p v,(p,v)∈known->p.2<=200) (hm:(fol CH.msg known 0).1.length=m) : ZE prog 16 #[.pointer (some ⟨c,0,none⟩),↑n] w (Ret w (.bool ((m:Int)==(n:Int)))):=by
 have V:=Get c r1 r2 [key] known forks w hG hC hn sM;have hc:CH.counts CH.msg known [key].length=[(m:Int)]:=by show CH.counts CH.msg known 1=_;unfold CH.counts;rw [<- hm];rfl
 rw [hc] at V;have V:=Aa V;clear hc hm hn hC hG;obtain⟨R,hR⟩:∃ R,Hid (((m:Int)==(n:Int))=R):=⟨_,Aa rfl⟩
 rw [hR.out];go_enter func16,ntmps16;go_wp2_with fail;refine V.out.mono ?_;rintro e w1 ⟨v,rfl,hI,hb⟩;clear V;obtain⟨a,cap,rfl,_,_,hx⟩:=hI;obtain⟨b,off,rfl,hlt,hcell⟩:=hx sM;have k0:w1.cell? ⟨b,off,none⟩=some ↑m:=by have:=hcell 0 _ rfl;rwa [Ia] at this
 simp only [Dx];clear hcell hx;have hR:=hR.out;go_wp2;go_ret;exact⟨by rw [<- hR];rfl,hb⟩
theorem Pz {l:List UInt8} (h:ay l=true):l.length=16:=by unfold ay at h;rw [Aw] at h;exact D7.1 h.1
theorem Mx {ls:List (List UInt8)} (hl:ls.length<=18) (h:∀ x∈ls,ay x=true):Fd ls/\∀ l∈ls,l≠[] :=
 ⟨⟨oM,fun l hx=>by rw [Pz (h l hx)];omega⟩,fun l hx e=>by
  have:=Pz (h l hx)
  rw [e] at this
  cases this⟩
theorem O0 (B:Nat) (w:ZB):Strs B w (.slice none 0 0) []:=⟨none,0,rfl,Bv _,oM,fun h=>absurd rfl h⟩
theorem Bk2 (i:Nat) (hi:i<2) (number pos:Int) (prev:List UInt8) (acts:List CH.Act) (m:List UInt8) (hn:number=(i:Int)+1) (hpos:I64 pos) (hp:prev.length<=10000) (hm:CH.message (kK number pos prev acts)=.ok m) (ht:∃ t,bZ (CH.sealed i (kK number pos prev acts) m)=.ok t):qU (CH.sealed i (kK number pos prev acts) m) number pos prev acts:=by
 intro w va hG hA;obtain⟨t,ht⟩:=ht;have d1:=Mx (by rw [jo];omega) (jU sS i m);have d2:=Mx (by rw [kE];omega) (jH (CH.keys sS 1) i);have h0:I64 0:=⟨dC,dC⟩
 have hnm:I64 number:=⟨oM,oM⟩
 have hsm:Fd []:=⟨sM,fun _ h=>by cases h⟩
 have C:=Len (kK number pos prev acts) i 1 sS m t va w hG ⟨hA,O0 _ _,O0 _ _,⟨h0,hnm,hpos,hp,h0,hsm,hsm⟩⟩ rfl hn hm dC dC oM ht d1.1 d2.1 d1.2 d2.2;refine C.mono ?_;rintro e w' ⟨s,rfl,hv,hb⟩;obtain⟨a1,n1,c1,a2,n2,c2,a3,n3,c3,rfl⟩:=hv.sl;exact⟨_,_,_,_,_,_,_,_,_,rfl,hv,hb⟩
theorem Hvr (n:Int) (hn:I64 n):sG n [iD n]:=by intro w;refine (Lia n hn w).mono ?_;rintro e w' ⟨v,rfl,hA,hb⟩;obtain⟨a,c,rfl,_,_⟩:=hA.form;exact⟨_,_,_,rfl,hA,hb⟩
theorem mP {V:CH.Version} {known:CH.Known} {forks:CH.Forks} {er:Int} {known':CH.Known} {og:CH.Forks} (h:lD gJ hK known forks V=(er,known',og)):oQ jO V known forks er known' og:=by intro w0 w l c r1 r2 s h9 hS hC hv;have A:=Mrz c r1 r2 hK known forks V s w hS.gc hC.1 hv;have e:wB hK known forks V=(er,known',og):=h;rw [e] at A;refine A.mono ?_;intro e w' hR;have hS':=hS.added hC.1 hC.2.1 hC.2.2 h9 hR;obtain⟨rfl,hC',_⟩:=hR;exact⟨rfl,hS',hC',hC.2⟩
theorem rU {known:CH.Known} {n:Nat} (hn:∀ p v,(p,v)∈known->p.2<=200) (hm:(fol CH.msg known 0).1.length=n):vC jO known n:=by intro w0 w l c r1 r2 forks hS hC;refine (Hnd c r1 r2 jO known forks n n w hS.gc hC.1 hn hm).mono ?_;rintro e w' ⟨rfl,hb⟩;exact⟨sM,hS.go hb,hC.1.below hb,hC.2⟩
theorem Hsm (B:Nat) (w:ZB):fJ B w l7 qY:=by
 have s0:Strs B w pI []:=O0 B w;have hf:C7 (.mk 0 [] 0 0 []):=by unfold C7 Hi;exact⟨sM,trivial⟩
 have hc:(CH.Formula.mk 0 [] 0 0 []).count<=100000000:=by unfold CH.Formula.count aK;omega
 have hd:(CH.Formula.mk 0 [] 0 0 []).depth<=100000000:=by unfold CH.Formula.depth aX;omega
 have i0:I64 0:=⟨dC,dC⟩
 have z:(0:Nat)<=10000:=oM;have z1:(0:Nat)<=100000:=oM;have z2:(2:Nat)<=10000:=oM;have sh:Fd []:=⟨z1,fun l h=>by cases h⟩
 refine⟨⟨none,0,rfl,Bv _,oM,fun h=>absurd rfl h⟩,⟨?_,⟨i0,i0,i0,i0⟩,z,z,z,hf,hc,hd⟩,s0,s0,s0,⟨⟨z,⟨z,z1,fun _ h=>by cases h⟩⟩,i0,z,sh,sh,⟨z2,z2,z2,z,z,sh⟩,z,⟨by show (-9223372036854775808:Int)<=6;decide,by show (6:Int)<=9223372036854775807;decide⟩,i0⟩⟩;show A6 B w (.mk 0 [] 0 0 []) pI;unfold A6;exact FD154
theorem Xi:ay jO=true:=by unfold jO CH.pub;exact jG _
theorem Hno:Xh [jO]=true:=by have h:=Xi;unfold Xh bP;simp [h]
theorem hf:HF jO CH.m1 jI oN iC ng [iD 1] [iD 2] [iD 3] kC1 kC2 kD1 kD2 kX1 kX2 fC fD:={
 pub:=fun w hG=>Hdr sS 1 w hG dC dC
 new:=fun w v hG hv=>by
  refine (Mpy v [jO] w hG hv (fun l hl=>?_) sM).mono ?_
  ·rw [Ci] at hl
   rw [hl,Pz Xi]
   omega
  ·rintro e w' ⟨hb,hif⟩
   rw [Ar Hno] at hif
   obtain⟨c,r1,r2,rfl,hC,_,g2,g3⟩:=hif
   exact⟨c,r1,r2,rfl,hC,g2,g3,hb⟩
 e1:=Hvr 1 ⟨dC,dC⟩
 e2:=Hvr 2 ⟨dC,dC⟩
 e3:=Hvr 3 ⟨dC,dC⟩
 m1:=Bk2 0 dC 1 100 [] [iD 1] CH.m1 rfl ⟨dC,dC⟩ dC pJ kN
 m2:=Bk2 1 dC 2 100 CH.m1 [iD 2] CH.m2 rfl ⟨dC,dC⟩ dC tZ nM
 m3:=Bk2 0 dC 1 100 [] [iD 3] CH.m3 rfl ⟨dC,dC⟩ dC nU kM
 m4:=Bk2 1 dC 2 99 CH.m1 [] CH.m4 rfl ⟨dC,dC⟩ dC qG mW
 msg:=fun w s hG hv=>by
  have:=Lt jI s w hG hv
  have e:CH.message jI=.ok CH.m1:=(jm 0 rP CH.m1 rfl).trans pJ
  rw [e] at this
  exact this
 ac1:=mP BZ
 ac2:=mP BU
 ac3:=mP BR
 ac4:=mP BQ
 ad1:=mP BP
 ad2:=mP BN
 ad3:=mP BM
 ax1:=mP BL
 ax2:=mP BK
 vc1:=rU (n:=0) (by simp [kC1]) BG
 vc2:=rU (n:=2) (by
  rintro⟨a,b⟩ v h
  simp [kC2] at h
  show b<=200
  rcases h with h|h <;> omega) BF
 vd2:=rU (n:=1) (by
  rintro⟨a,b⟩ v h
  simp [kD2] at h
  show b<=200
  rcases h with h|h <;> omega) BD
 vx2:=rU (n:=1) (by
  rintro⟨a,b⟩ v h
  simp [kX2] at h
  show b<=200
  rcases h with h|h <;> omega) BA
 forks:=fun w0 w l c r1 r2 hS hC=>by
  refine (I56 c r1 r2 [jO] kC2 fC w hC.1 (by simp [fC]) (by simp [fC])).mono ?_
  rintro e w' ⟨v,base,rfl,_,hO,hb⟩
  obtain⟨a,cap,rfl,_⟩:=hO.form
  exact⟨a,cap,rfl,hS.go hb⟩
 act:=fun w hG=>by
  have:=F10 l7 qY w hG (Hsm _ _)
  rw [Lgt] at this
  exact this }
theorem Ug (w:ZB) (hG:Gc w):ZE prog 4 #[] w (Ret w (.bool true)):=I54 hf w hG
theorem Z6.below {B B':Nat} {w w':ZB} {v:ZC} {ls:List CH.Version} (h:Z6 B w v ls) (hb:Below B' w w') (hB:B<=B'):Z6 B w' v ls:=by exact FD48
theorem Z6.mono {B B':Nat} {w:ZB} {v:ZC} {ls:List CH.Version} (h:Z6 B w v ls) (hB:B<=B'):Z6 B' w v ls:=by exact FD29
end
end Go.Proofs.YtdgmgjeoikcgbaaGreatDoor
