/- ChainTexts, part 28 of 31. -/
import Derived.Test.YtkboocifdaebgaaGreatDoorP26
set_option linter.all false
set_option maxHeartbeats 40000000
set_option maxRecDepth 100000
open Go renaming World -> ZB, Value -> ZC, Calls -> ZE
open Go.RowKit renaming intOf -> ZG
namespace Go.Proofs.Y
section
open Go.Lib Go.Proofs.Tryz Go.RowKit Go.Shelf Go.Sort CH
variable {B n base:Nat} {w w' w0:ZB} {ls:List (Int × Int)} {l:List (Nat × Q01)} {known:Q06} {forks:Q04}
theorem Pa.below {B':Nat} {v:ZC} {ls:List Q01} (h:Pa B w v ls) (hb:Below B' w w') (hB:B<=B'):Pa B w' v ls:=by exact FD31
theorem Pa.mono {B':Nat} {v:ZC} {ls:List Q01} (h:Pa B w v ls) (hB:B<=B'):Pa B' w v ls:=by exact FD17
def tu:ZC:=.slice none 0 0
def vX:gV:=⟨tu,tu,tu,tu,tu⟩
def Psn (w:ZB) (n:Int) (e:Ending) (w':ZB):Prop:=∃ v,e=.returned v/\Gr w' w' v [iT n]/\Below w w w'
theorem Leo (n:Int) (hn:I64 n) (B:Nat) (w:ZB):dG B w (iT n) vX:=by
 have s0:Strs B w tu []:=⟨none,0,rfl,Au _,oM,fun h=>absurd rfl h⟩
 have hf:Ct (.mk 0 [] 0 0 []):=by unfold Ct Cp;exact⟨sM,trivial⟩
 have hc:(CH.Formula.mk 0 [] 0 0 []).count<=100000000:=by unfold CH.Formula.count aA;omega
 have hd:(CH.Formula.mk 0 [] 0 0 []).depth<=100000000:=by unfold CH.Formula.depth aX;omega
 have i0:I64 0:=⟨dC,dC⟩
 have z:(0:Nat)<=20000:=oM;have z1:(0:Nat)<=100000:=oM;have z2:(2:Nat)<=20000:=oM;have sh:Er []:=⟨z1,fun l h=>by cases h⟩
 refine⟨⟨none,0,rfl,Au _,oM,fun h=>absurd rfl h⟩,⟨?_,⟨i0,i0,i0,i0⟩,z,z,z,hf,hc,hd⟩,s0,s0,s0,⟨⟨z,⟨z,z1,fun _ h=>by cases h⟩⟩,i0,z,sh,sh,⟨z,z,z,z,z,sh⟩,z2,⟨by show (-9223372036854775808:Int)<=7;decide,by show (7:Int)<=9223372036854775807;decide⟩,hn⟩⟩;show Ax B w (.mk 0 [] 0 0 []) tu;unfold Ax;exact FD110
theorem M12 (n:Int) (hn:I64 n) (w:ZB):ZE prog 12 #[↑n] w (Psn w n):=by
 go_in;go_wp2_with fail;go_ret;have hlt:w.heap.size<(w.alloc (.cells (A4 (iT n) vX).toArray 64)).heap.size:=sM;exact⟨.slice (some ⟨w,0,none⟩) 1 1,rfl,⟨some ⟨w,0,none⟩,1,rfl,Au _,oM,fun _=>⟨w,0,rfl,hlt,fun j x hj=>by
  cases j with
  |zero =>cases hj;refine⟨vX,fun i u hi=>?_,Leo n hn _ _⟩;rw [Nat.zero_mul,Ba];have h:=C8 w (A4 (iT n) vX) 64 i u hi;rw [Ba] at h;exact h
  |succ j=>simp at hj⟩⟩,(Ac _ w).alloc nR _⟩
def VAt (w:ZB) (x:Nat × Q01):Prop:=x.1<w.heap.size/\∃ s,w.rangeAt x.1 0 (At x.2 s)/\aK w w x.2 s
theorem VAt.kept {x:Nat × Q01} (h:VAt w x) (hc:Cells w w') (hs:w.heap.size<=w'.heap.size):VAt w' x:=by obtain⟨h0,s,h1,h2⟩:=h;exact⟨Af h0 hs,s,fun j u hj=>hc _ _ (h1 j u hj),(h2.kept hc).mono hs⟩
structure St (w0 w:ZB) (l:List (Nat × Q01)):Prop where
 gc:Gc w
 below:Below w0 w0 w
 vers:∀ x∈l,VAt w x
theorem St.go (h:St w0 w l) (hb:Below w w w'):St w0 w' l := ⟨h.gc.below hb,h.below.trans (hb.mono h.below.size),fun x hx=>(h.vers x hx).kept (Cells.of_below hb) hb.size⟩
theorem St.put {v:Q01} {s:dA} (h:St w0 w l) (hv:aK w w v s):St w0 (w.alloc (.cells (At v s).toArray 27)) ((w.heap.size,v)::l):=by
 have hb:Below w w (w.alloc (.cells (At v s).toArray 27)):=(Ac _ w).alloc nR _;have h1:=h.go hb;refine⟨h1.gc,h1.below,fun x hx=>?_⟩;rcases Az.1 hx with rfl|hx;·exact⟨sM,s,C8 w (At v s) _,(hv.below hb nR).mono hb.size⟩
 ·exact h1.vers x hx
theorem St.added {c r1 r2:Nat} {keys:List Q00} {x:Int × Q06 × Q04} {e:Ending} (h:St w0 w l) (hC:J0 w c r1 r2 keys known forks) (h1:w0.heap.size<=r1) (h2:w0.heap.size<=r2) (h9:10+1<=w0.heap.size) (hR:I35 w c r1 r2 keys x e w'):St w0 w' l:=by obtain⟨a1,a2,a3⟩:=Hia h.gc hC h1 h2 h9 h.below hR;refine⟨a1,a2,fun y hy=>(h.vers y hy).kept ?_ a3.size⟩;obtain⟨_,_,hH⟩:=hR;refine hH.cells fun r hr=>?_;exact FD59
theorem St.at (h:St w0 w l) {b:Nat} {v:Q01} (hm:(b,v)∈l):∃ s,w.rangeAt b 0 (At v s)/\aK w w v s:=(h.vers _ hm).2
def ChP (w0 w:ZB) (K:Q00) (c r1 r2:Nat) (known:Q06) (forks:Q04):Prop:=J0 w c r1 r2 [K] known forks/\w0.heap.size<=r1/\w0.heap.size<=r2
theorem ChP.go {K:Q00} {c r1 r2:Nat} (h:ChP w0 w K c r1 r2 known forks) (hb:Below w w w'):ChP w0 w' K c r1 r2 known forks:=⟨h.1.below hb,h.2⟩
theorem Nm2 (B:Nat) (w:ZB):Gr B w (.slice none 0 0) []:=⟨none,0,rfl,Au _,oM,fun h=>absurd rfl h⟩
def sD (K:Q00) (V:Q01) (known:Q06) (forks:Q04) (er:Int) (known':Q06) (rG:Q04):Prop := ∀ (w0 w:ZB) (l:List (Nat × Q01)) (c r1 r2:Nat) (s:dA),10+1<=w0.heap.size->St w0 w l->ChP w0 w K c r1 r2 known forks->aK w w V s -> ZE prog 14 #[.pointer (some ⟨c,0,none⟩),.agg (At V s).toArray] w fun e w'=>e=.returned ↑er/\St w0 w' l/\ChP w0 w' K c r1 r2 known' rG
def zL (K:Q00) (known:Q06) (n:Int):Prop := ∀ (w0 w:ZB) (l:List (Nat × Q01)) (c r1 r2:Nat) (forks:Q04),St w0 w l->ChP w0 w K c r1 r2 known forks -> ZE prog 15 #[.pointer (some ⟨c,0,none⟩),↑n] w fun e w'=>e=.returned (.bool true)/\St w0 w' l/\ChP w0 w' K c r1 r2 known forks
def vN (V:Q01) (n pos:Int) (prev:Q00) (acts:List Q02):Prop := ∀ (w:ZB) (va:ZC),Gc w->Gr w w va acts -> ZE prog 11 #[.int .i64 0,↑n,↑pos,↑prev,va,.string ⟨#[115]⟩,.int .i64 1] w fun e w'=>∃ a1 n1 c1 a2 n2 c2 a3 n3 c3,e=.returned (.tuple #[.agg (At V ⟨.slice a1 n1 c1,.slice a2 n2 c2,.slice a3 n3 c3⟩).toArray,.int .i64 0])/\aK w' w' V ⟨.slice a1 n1 c1,.slice a2 n2 c2,.slice a3 n3 c3⟩/\Below w w w'
def xM (n:Int) (acts:List Q02):Prop := ∀ (w:ZB),ZE prog 12 #[↑n] w fun e w'=>∃ a m c,e=.returned (.slice a m c)/\Gr w' w' (.slice a m c) acts/\Below w w w'
structure HF (K M:Q00) (V1 V2 V3 V4:Q01) (A1 A2 A3:List Q02) (c1 c2 d1 d2 x1 x2:Q06) (fC fD:Q04):Prop where
 pub:∀ w,Gl w->ZE prog 9 #[.string ⟨#[115]⟩,.int .i64 1] w (Ret w (.tuple #[↑K,.int .i64 0]))
 new:∀ w v,Gl w->Strs w w v [K]->ZE prog 10 #[v] w fun e w'=>∃ c r1 r2,e=.returned (.tuple #[.pointer (some ⟨c,0,none⟩),.int .i64 0])/\J0 w' c r1 r2 [K] [] []/\w.heap.size<=r1/\w.heap.size<=r2/\Below w w w'
 e1:xM 1 A1
 e2:xM 2 A2
 e3:xM 3 A3
 m1:vN V1 1 100 [] A1
 m2:vN V2 2 100 M A2
 m3:vN V3 1 100 [] A3
 m4:vN V4 2 99 M []
 msg:∀ w s,Gc w->aK w w V1 s->ZE prog 13 #[.agg (At V1 s).toArray] w (Ret w (.tuple #[↑M,.int .i64 0]))
 ac1:sD K V2 [] [] 0 c1 []
 ac2:sD K V1 c1 [] 0 c2 []
 ac3:sD K V1 c2 [] 0 c2 []
 ac4:sD K V3 c2 [] 17 c2 fC
 ad1:sD K V3 [] [] 0 d1 []
 ad2:sD K V1 d1 [] 17 d1 fD
 ad3:sD K V2 d1 fD 0 d2 fD
 ax1:sD K V1 [] [] 0 x1 []
 ax2:sD K V4 x1 [] 0 x2 []
 vc1:zL K c1 0
 vc2:zL K c2 2
 vd2:zL K d2 1
 vx2:zL K x2 1
 forks:∀ w0 w l c r1 r2,St w0 w l->ChP w0 w K c r1 r2 c2 fC->ZE prog 16 #[.pointer (some ⟨c,0,none⟩)] w fun e w'=>∃ a cap,e=.returned (.slice a 1 cap)/\St w0 w' l
 act:∀ w,Gc w->ZE prog 17 #[.agg (A4 oz vX).toArray] w (Ret w (.tuple #[.string ⟨#[104,111,108,100,105,110,103,32,104,49,32,112,49,32,112,48,32,45,32,45,32,54,48,32,53,49,32,48,32,45,59]⟩,.int .i64 0]))
theorem Rg (V:Q01) (a1 a2 a3:Option Addr) (n1 n2 n3 c1 c2 c3:Nat):∀ u∈At V ⟨.slice a1 n1 c1,.slice a2 n2 c2,.slice a3 n3 c3⟩,u.oneCell'=true:=by intro u hu;simp only [At,Az,Bo,Ey] at hu;rcases hu with rfl|rfl|rfl|rfl|rfl|rfl|rfl|rfl <;> rfl
theorem Zi (w:ZB) (K:Q00):Strs (w.alloc (.cells #[ay K] 9)).heap.size (w.alloc (.cells #[ay K] 9)) (.slice (some ⟨w,0,none⟩) 1 1) [K] :=
 ⟨some ⟨w,0,none⟩,1,rfl,Au _,oM,fun _=>⟨w,0,rfl,sM,fun j l hj=>by
  cases j with
  |zero=>cases hj;exact Ab (Ag w _) 0
  |succ j=>simp at hj⟩⟩
theorem K2b {K M:Q00} {V1 V2 V3 V4:Q01} {A1 A2 A3:List Q02} {kc1 kc2 kd1 kd2 kx1 kx2:Q06} {fC fD:Q04} (H:HF K M V1 V2 V3 V4 A1 A2 A3 kc1 kc2 kd1 kd2 kx1 kx2 fC fD) (w:ZB) (hG:Gc w) : ZE prog 4 #[] w (Ret w (.bool true)):=by
 have h9:10+1<=w.heap.size:=hG.gl.size;have H:=Aa H;have h9:=Aa h9;have hi8:(prog.info? 27).map (·.size)=some 8:=kR;go_in;go_wp2_with fail;refine CmZ (H.out.pub w hG.gl) fun w1 hb1=>?_;have S:Hid (St w w1 []):=Aa ⟨hG.below hb1,hb1,fun _ h=>by cases h⟩;clear hb1 hG;go_wp2_with fail;have S:=Aa (S.out.go ((Ac _ w1).alloc nR (.cells #[ay K] 9)));have ST:=Aa (Zi w1 K);dsimp only [ay] at S ST;generalize w1.alloc (.cells #[↑K] 9)=W at *;refine (H.out.new W _ S.out.gc.gl ST.out).mono ?_;rintro e w2 ⟨c,r1,r2,rfl,hC,g1,g2,hb⟩;have C:Hid (ChP w w2 K c r1 r2 [] []):=Aa ⟨hC,Aj S.out.below.size g1,Aj S.out.below.size g2⟩;have S:=Aa (S.out.go hb);clear hb hC g1 g2 ST;go_wp2_with fail;refine (H.out.e1 w2).mono ?_;rintro e w3 ⟨a,m,cc,rfl,hA,hb⟩;have C:=Aa (C.out.go hb);have S:=Aa (S.out.go hb);have hA:=Aa hA;clear hb;go_wp2_with fail;refine (H.out.m1 w3 _ S.out.gc hA.out).mono ?_;rintro e w4 ⟨a1,n1,c1,a2,n2,c2,a3,n3,c3,rfl,hv,hb⟩;have C:=Aa ((C.out.go hb).go ((Ac _ w4).alloc nR (.cells (At V1 ⟨.slice a1 n1 c1,.slice a2 n2 c2,.slice a3 n3 c3⟩).toArray 27)));have S:=Aa ((S.out.go hb).put hv);have h1:=Aa (Rg V1 a1 a2 a3 n1 n2 n3 c1 c2 c3);have hl:Hid ((At V1 ⟨.slice a1 n1 c1,.slice a2 n2 c2,.slice a3 n3 c3⟩).length=8):=Aa rfl;clear hb hv;generalize At V1 ⟨.slice a1 n1 c1,.slice a2 n2 c2,.slice a3 n3 c3⟩=LL at *;obtain⟨b1,hbb⟩:=nac w4.heap.size;rw [hbb.out] at S;have hi:(prog.info? 27).map (·.size)=some LL.length:=by rw [hl.out];exact hi8
 obtain⟨s,hr,hv⟩:=S.out.at (b:=b1) (v:=V1) sM;have hr:=Aa hr;have hv:=Aa hv;have hlv:(prog.info? 27).map (·.size)=some (At V1 s).length:=hi8;rw [<- hbb.out] at hr;go_wp2_with (first|refine Br rfl 27 _ _ rfl LL rfl rfl (by rw [hl.out];rfl) hi h1.out ?_|refine Dn rfl 27 _ rfl w4.heap.size 0 rfl (At V1 s) _ hr.out underlying27 rfl hlv ?_)
 rw [hbb.out];generalize w4.alloc (.cells LL.toArray 27)=W at *;clear hi hl h1 hbb;refine CmZ (H.out.msg _ s S.out.gc hv.out) fun w5 hb=>?_;have C:=Aa (C.out.go hb);have S:=Aa (S.out.go hb);clear hb hr hv hlv;go_wp2_with fail;refine (H.out.e2 w5).mono ?_;rintro e w3 ⟨a,m,cc,rfl,hA,hb⟩;have C:=Aa (C.out.go hb);have S:=Aa (S.out.go hb);have hA:=Aa hA;clear hb;go_wp2_with fail;refine (H.out.m2 w3 _ S.out.gc hA.out).mono ?_;rintro e w4 ⟨a1,n1,c1,a2,n2,c2,a3,n3,c3,rfl,hv,hb⟩;have C:=Aa ((C.out.go hb).go ((Ac _ w4).alloc nR (.cells (At V2 ⟨.slice a1 n1 c1,.slice a2 n2 c2,.slice a3 n3 c3⟩).toArray 27)));have S:=Aa ((S.out.go hb).put hv);have h1:=Aa (Rg V2 a1 a2 a3 n1 n2 n3 c1 c2 c3);have hl:Hid ((At V2 ⟨.slice a1 n1 c1,.slice a2 n2 c2,.slice a3 n3 c3⟩).length=8):=Aa rfl;clear hb hv;generalize At V2 ⟨.slice a1 n1 c1,.slice a2 n2 c2,.slice a3 n3 c3⟩=LL at *;obtain⟨b2,hbb⟩:=nac w4.heap.size;rw [hbb.out] at S;have hi:(prog.info? 27).map (·.size)=some LL.length:=by rw [hl.out];exact hi8
 go_wp2_with (refine Br rfl 27 _ _ rfl LL rfl rfl (by rw [hl.out];rfl) hi h1.out ?_)
 rw [hbb.out];generalize w4.alloc (.cells LL.toArray 27)=W at *;clear hi hl h1 hbb;refine (H.out.e3 W).mono ?_;rintro e w3 ⟨a,m,cc,rfl,hA,hb⟩;have C:=Aa (C.out.go hb);have S:=Aa (S.out.go hb);have hA:=Aa hA;clear hb;go_wp2_with fail;refine (H.out.m3 w3 _ S.out.gc hA.out).mono ?_;rintro e w4 ⟨a1,n1,c1,a2,n2,c2,a3,n3,c3,rfl,hv,hb⟩;have C:=Aa ((C.out.go hb).go ((Ac _ w4).alloc nR (.cells (At V3 ⟨.slice a1 n1 c1,.slice a2 n2 c2,.slice a3 n3 c3⟩).toArray 27)));have S:=Aa ((S.out.go hb).put hv);have h1:=Aa (Rg V3 a1 a2 a3 n1 n2 n3 c1 c2 c3);have hl:Hid ((At V3 ⟨.slice a1 n1 c1,.slice a2 n2 c2,.slice a3 n3 c3⟩).length=8):=Aa rfl;clear hb hv;generalize At V3 ⟨.slice a1 n1 c1,.slice a2 n2 c2,.slice a3 n3 c3⟩=LL at *;obtain⟨b3,hbb⟩:=nac w4.heap.size;rw [hbb.out] at S;have hi:(prog.info? 27).map (·.size)=some LL.length:=by rw [hl.out];exact hi8
 go_wp2_with (refine Br rfl 27 _ _ rfl LL rfl rfl (by rw [hl.out];rfl) hi h1.out ?_)
 rw [hbb.out];generalize w4.alloc (.cells LL.toArray 27)=W at *;clear hi hl h1 hbb;have hA:=Aa (Nm2 W W);refine (H.out.m4 W _ S.out.gc hA.out).mono ?_;rintro e w4 ⟨a1,n1,c1,a2,n2,c2,a3,n3,c3,rfl,hv,hb⟩;have C:=Aa ((C.out.go hb).go ((Ac _ w4).alloc nR (.cells (At V4 ⟨.slice a1 n1 c1,.slice a2 n2 c2,.slice a3 n3 c3⟩).toArray 27)));have S:=Aa ((S.out.go hb).put hv);have h1:=Aa (Rg V4 a1 a2 a3 n1 n2 n3 c1 c2 c3);have hl:Hid ((At V4 ⟨.slice a1 n1 c1,.slice a2 n2 c2,.slice a3 n3 c3⟩).length=8):=Aa rfl;clear hb hv;generalize At V4 ⟨.slice a1 n1 c1,.slice a2 n2 c2,.slice a3 n3 c3⟩=LL at *;obtain⟨b4,hbb⟩:=nac w4.heap.size;rw [hbb.out] at S;have hi:(prog.info? 27).map (·.size)=some LL.length:=by rw [hl.out];exact hi8
 obtain⟨s,hr,hv⟩:=S.out.at (b:=b2) (v:=V2) sM;have hr:=Aa hr;have hv:=Aa hv;have hlv:(prog.info? 27).map (·.size)=some (At V2 s).length:=hi8;go_wp2_with (first|refine Br rfl 27 _ _ rfl LL rfl rfl (by rw [hl.out];rfl) hi h1.out ?_|refine Dn rfl 27 _ rfl b2 0 rfl (At V2 s) _ hr.out underlying27 rfl hlv ?_)
 rw [hbb.out];generalize w4.alloc (.cells LL.toArray 27)=W at *;clear hi hl h1 hbb;clear hA;refine (H.out.ac1 w _ _ c r1 r2 s h9.out S.out C.out hv.out).mono ?_;clear hr hv hlv S C;rintro e w6 ⟨rfl,S,C⟩;have S:=Aa S;have C:=Aa C;go_wp2_with fail;refine (H.out.vc1 w _ _ c r1 r2 _ S.out C.out).mono ?_;clear S C;rintro e w7 ⟨rfl,S,C⟩;have S:=Aa S;have C:=Aa C;obtain⟨s,hr,hv⟩:=S.out.at (b:=b1) (v:=V1) sM;have hr:=Aa hr;have hv:=Aa hv;have hlv:(prog.info? 27).map (·.size)=some (At V1 s).length:=hi8;go_wp2_with (refine Bb rfl 27 _ rfl b1 0 rfl (At V1 s) _ hr.out underlying27 rfl hlv ?_)
 refine (H.out.ac2 w _ _ c r1 r2 s h9.out S.out C.out hv.out).mono ?_;clear hr hv hlv S C;rintro e w6 ⟨rfl,S,C⟩;have S:=Aa S;have C:=Aa C;go_wp2_with fail;refine (H.out.vc2 w _ _ c r1 r2 _ S.out C.out).mono ?_;clear S C;rintro e w7 ⟨rfl,S,C⟩;have S:=Aa S;have C:=Aa C;obtain⟨s,hr,hv⟩:=S.out.at (b:=b1) (v:=V1) sM;have hr:=Aa hr;have hv:=Aa hv;have hlv:(prog.info? 27).map (·.size)=some (At V1 s).length:=hi8;go_wp2_with (refine Bb rfl 27 _ rfl b1 0 rfl (At V1 s) _ hr.out underlying27 rfl hlv ?_)
 refine (H.out.ac3 w _ _ c r1 r2 s h9.out S.out C.out hv.out).mono ?_;clear hr hv hlv S C;rintro e w6 ⟨rfl,S,C⟩;have S:=Aa S;have C:=Aa C;obtain⟨s,hr,hv⟩:=S.out.at (b:=b3) (v:=V3) sM;have hr:=Aa hr;have hv:=Aa hv;have hlv:(prog.info? 27).map (·.size)=some (At V3 s).length:=hi8;go_wp2_with (refine Bb rfl 27 _ rfl b3 0 rfl (At V3 s) _ hr.out underlying27 rfl hlv ?_)
 refine (H.out.ac4 w _ _ c r1 r2 s h9.out S.out C.out hv.out).mono ?_;clear hr hv hlv S C;rintro e w6 ⟨rfl,S,C⟩;have S:=Aa S;have C:=Aa C;go_wp2_with fail;refine (H.out.vc2 w _ _ c r1 r2 _ S.out C.out).mono ?_;clear S C;rintro e w7 ⟨rfl,S,C⟩;have S:=Aa S;have C:=Aa C;go_wp2_with fail;refine (H.out.forks w _ _ c r1 r2 S.out C.out).mono ?_;clear S C;rintro e w8 ⟨a,cap,rfl,S⟩;have S:=Aa S;go_wp2_with fail;have S:=Aa (S.out.go ((Ac _ w8).alloc nR (.cells #[ay K] 9)));have ST:=Aa (Zi w8 K);dsimp only [ay] at S ST;generalize w8.alloc (.cells #[↑K] 9)=W at *;refine (H.out.new W _ S.out.gc.gl ST.out).mono ?_;rintro e w2 ⟨c,r1,r2,rfl,hC,g1,g2,hb⟩;have C:Hid (ChP w w2 K c r1 r2 [] []):=Aa ⟨hC,Aj S.out.below.size g1,Aj S.out.below.size g2⟩;have S:=Aa (S.out.go hb);clear hb hC g1 g2 ST;obtain⟨s,hr,hv⟩:=S.out.at (b:=b3) (v:=V3) sM;have hr:=Aa hr;have hv:=Aa hv;have hlv:(prog.info? 27).map (·.size)=some (At V3 s).length:=hi8;go_wp2_with (refine Dn rfl 27 _ rfl b3 0 rfl (At V3 s) _ hr.out underlying27 rfl hlv ?_)
 refine (H.out.ad1 w _ _ c r1 r2 s h9.out S.out C.out hv.out).mono ?_;clear hr hv hlv S C;rintro e w6 ⟨rfl,S,C⟩;have S:=Aa S;have C:=Aa C;obtain⟨s,hr,hv⟩:=S.out.at (b:=b1) (v:=V1) sM;have hr:=Aa hr;have hv:=Aa hv;have hlv:(prog.info? 27).map (·.size)=some (At V1 s).length:=hi8;go_wp2_with (refine Bb rfl 27 _ rfl b1 0 rfl (At V1 s) _ hr.out underlying27 rfl hlv ?_)
 refine (H.out.ad2 w _ _ c r1 r2 s h9.out S.out C.out hv.out).mono ?_;clear hr hv hlv S C;rintro e w6 ⟨rfl,S,C⟩;have S:=Aa S;have C:=Aa C;obtain⟨s,hr,hv⟩:=S.out.at (b:=b2) (v:=V2) sM;have hr:=Aa hr;have hv:=Aa hv;have hlv:(prog.info? 27).map (·.size)=some (At V2 s).length:=hi8;go_wp2_with (refine Bb rfl 27 _ rfl b2 0 rfl (At V2 s) _ hr.out underlying27 rfl hlv ?_)
 refine (H.out.ad3 w _ _ c r1 r2 s h9.out S.out C.out hv.out).mono ?_;clear hr hv hlv S C;rintro e w6 ⟨rfl,S,C⟩;have S:=Aa S;have C:=Aa C;go_wp2_with fail;refine (H.out.vd2 w _ _ c r1 r2 _ S.out C.out).mono ?_;clear S C;rintro e w7 ⟨rfl,S,C⟩;have S:=Aa S;have C:=Aa C;go_wp2_with fail;clear C;have S:=Aa (S.out.go ((Ac _ w7).alloc nR (.cells #[ay K] 9)));have ST:=Aa (Zi w7 K);dsimp only [ay] at S ST;generalize w7.alloc (.cells #[↑K] 9)=W at *;refine (H.out.new W _ S.out.gc.gl ST.out).mono ?_;rintro e w2 ⟨c,r1,r2,rfl,hC,g1,g2,hb⟩;have C:Hid (ChP w w2 K c r1 r2 [] []):=Aa ⟨hC,Aj S.out.below.size g1,Aj S.out.below.size g2⟩;have S:=Aa (S.out.go hb);clear hb hC g1 g2 ST;obtain⟨s,hr,hv⟩:=S.out.at (b:=b1) (v:=V1) sM;have hr:=Aa hr;have hv:=Aa hv;have hlv:(prog.info? 27).map (·.size)=some (At V1 s).length:=hi8;go_wp2_with (refine Dn rfl 27 _ rfl b1 0 rfl (At V1 s) _ hr.out underlying27 rfl hlv ?_)
 refine (H.out.ax1 w _ _ c r1 r2 s h9.out S.out C.out hv.out).mono ?_;clear hr hv hlv S C;rintro e w6 ⟨rfl,S,C⟩;have S:=Aa S;have C:=Aa C;obtain⟨s,hr,hv⟩:=S.out.at (b:=b4) (v:=V4) sM;have hr:=Aa hr;have hv:=Aa hv;have hlv:(prog.info? 27).map (·.size)=some (At V4 s).length:=hi8;go_wp2_with (refine Bb rfl 27 _ rfl b4 0 rfl (At V4 s) _ hr.out underlying27 rfl hlv ?_)
 refine (H.out.ax2 w _ _ c r1 r2 s h9.out S.out C.out hv.out).mono ?_;clear hr hv hlv S C;rintro e w6 ⟨rfl,S,C⟩;have S:=Aa S;have C:=Aa C;go_wp2_with fail;refine (H.out.vx2 w _ _ c r1 r2 _ S.out C.out).mono ?_;clear S C;rintro e w7 ⟨rfl,S,C⟩;have S:=Aa S;have C:=Aa C;go_wp2_with fail;refine CmZ (H.out.act _ S.out.gc) fun w9 hb=>?_;have S:=Aa (S.out.go hb);clear hb C;go_wp2;go_ret;exact⟨rfl,S.out.below⟩
def kZ (a b:Int × Int):Int:=if qB a.1 b.1 != 0 then qB a.1 b.1 else qB a.2 b.2
theorem Kim (a b:Int) (g:Nat) (w:ZB) (h0:w.cell? ⟨g,0,none⟩=some ↑a) (h1:w.cell? ⟨g,1,none⟩=some ↑b) : ZE prog 99 #[.slice (some ⟨g,0,none⟩) 2 2] w (fun e w'=>e=.returned (.int .i64 (if a != 0 then a else b))/\w=w'):=by
 obtain⟨R,hR⟩:=nac (if a != 0 then a else b);rw [hR.out];go_in;go_wp2_with fail;go_loopw [8] (fun i wr=>∃ k:Nat,k<=2/\i=↑k/\w=wr/\Hid (1<=k->a=0)/\Hid (2<=k->b=0)) (fun i _=>2 - (ZG i).toNat);case atStart=>exact⟨0,oM,rfl,rfl,Aa (fun h=>by omega),Aa (fun h=>by omega)⟩
 case round =>
  obtain⟨k,hk,rfl,rfl,ha,hb⟩:=hrel;rcases (oM:k=0\/k=1\/k=2) with rfl|rfl|rfl
  ·by_cases h:a=0
   ·have q:(a != 0)=false:=by simp [h]
    have h:=Aa h;go_wp2;go_roundw;case rel=>exact⟨1,oM,by go_num,by trivial,Aa (fun _=>h.out),Aa (fun h=>by omega)⟩
    case measure=>simp [ZG]
   ·have q:(a != 0)=true:=by simp [h]
    have hRa:R=a:=by rw [<- hR.out,q];rfl
    subst hRa;go_wp2;go_ret;exact⟨rfl,rfl⟩
  ·have ha0:a=0:=ha.out oM;have hRb:R=b:=by rw [<- hR.out,ha0];rfl
   subst hRb;by_cases h:R=0
   ·have q:(R != 0)=false:=by simp [h]
    have h:=Aa h;go_wp2;go_roundw;case rel=>exact⟨2,oM,by go_num,by trivial,Aa (fun _=>ha0),Aa (fun _=>h.out)⟩
    case measure=>simp [ZG]
   ·have q:(R != 0)=true:=by simp [h]
    go_wp2;go_ret;exact⟨rfl,rfl⟩
  ·have ha0:a=0:=ha.out oM;have hb0:b=0:=hb.out oM;have hR0:R=0:=by rw [<- hR.out,ha0,hb0];rfl
   subst hR0;go_wp2;go_ret;exact⟨rfl,rfl⟩
theorem Heo (w:ZB) (o1 o2:Obj):((w.alloc o1).alloc o2).heap[w.heap.size+1]?=some o2:=by have:=Ag (w.alloc o1) o2;rwa [Df] at this
theorem Heq (w:ZB) (o1 o2:Obj):((w.alloc o1).alloc o2).heap[w.heap.size]?=some o1 := (((Ac _ (w.alloc o1)).alloc nR o2).block w.heap.size sM).trans (Ag w o1)
theorem Hd2 (w:ZB) (o1 o2 o3:Obj):∃ q os',(((w.alloc o1).alloc o2).alloc o3).drew=grow (w.drewN q) os':=by refine⟨1,#[o1,o2,o3],?_⟩;simp only [World.alloc,grow,World.drewN,World.drew];congr 1
theorem M14 (x y:Int × Int) (w:ZB):ZE prog 98 #[.agg (iD x).toArray,.agg (iD y).toArray] w (fun e w'=>e=.returned (.int .i64 (kZ x y))/\∃ q os',w'=grow (w.drewN q) os'):=by
 obtain⟨x1,x2⟩:=x;obtain⟨y1,y2⟩:=y;obtain⟨r,hr⟩:=naa (kZ (x1,x2) (y1,y2));unfold kZ at hr;dsimp only at hr;have hC1:=fun W=>Yb x1 y1 W;have hC2:=fun W=>Yb x2 y2 W;rw [show kZ (x1,x2) (y1,y2)=r from hr];generalize qB x1 y1=c1 at *;generalize qB x2 y2=c2 at *;have hO:=fun (g:Nat) (W:ZB) h0 h1=>Kim c1 c2 g W h0 h1;rw [hr] at hO;have hC1:=Aa hC1;have hC2:=Aa hC2;have hO:=Aa hO;have hG:=Aa (Hd2 w);clear hr;simp only [iD];go_in;go_wp2_with fail;obtain⟨W0,hW0⟩:∃ W0,(w.alloc (.cells #[↑x1,↑x2] 98)).alloc (.cells #[↑y1,↑y2] 98)=W0:=⟨_,rfl⟩
 have hp:=Heq w (.cells #[↑x1,↑x2] 98) (.cells #[↑y1,↑y2] 98);have hq:=Heo w (.cells #[↑x1,↑x2] 98) (.cells #[↑y1,↑y2] 98);have hGW:∀ o,∃ q os',(W0.alloc o).drew=grow (w.drewN q) os':=fun o=>by rw [<- hW0];exact hG.out _ _ o
 rw [hW0] at hp hq ⊢;have hGW:=Aa hGW;clear hG hW0;have hpl:=(aZ hp)
 have hql:=(aZ hq)
 have SS:∀ W',Below W0 W0 W'->W'.cell? ⟨w,0,none⟩=some ↑x1/\W'.cell? ⟨w,1,none⟩=some ↑x2/\W'.cell? ⟨w+1,0,none⟩=some ↑y1/\W'.cell? ⟨w+1,1,none⟩=some ↑y2:=fun W' hb =>⟨Ab ((hb.block _ hpl).trans hp) 0,Ab ((hb.block _ hpl).trans hp) 1,Ab ((hb.block _ hql).trans hq) 0,Ab ((hb.block _ hql).trans hq) 1⟩
 have hBd:Below W0 W0 W0.drew:=(Ac _ W0).drew;have SS:=Aa SS;clear hp hq hpl hql;go_region_held3 (fun W'=>W'.cell? ⟨w,0,none⟩=some ↑x1/\W'.cell? ⟨w,1,none⟩=some ↑x2/\W'.cell? ⟨w+1,0,none⟩=some ↑y1/\W'.cell? ⟨w+1,1,none⟩=some ↑y2) (first|exact SS.out _ hBd|exact SS.out _ (hBd.alloc hBd.size _)) (first |(go_at_call 100;with_reducible refine (hC1.out _).mono ?_;rintro e w' ⟨rfl,rfl⟩) |(go_at_call 100;with_reducible refine (hC2.out _).mono ?_;rintro e w' ⟨rfl,rfl⟩) |(go_at_call 99;refine (hO.out _ _ (Ab (Ag _ _) 0) (Ab (Ag _ _) 1)).mono ?_;rintro e w' ⟨rfl,rfl⟩))
 go_wp2;go_ret;exact⟨rfl,hGW.out _⟩
def Mrt:Ren:=⟨fun|20=>272|n=>n,fun|22=>164|24=>98|25=>171|n=>n,fun n=>n⟩
theorem K2a:SlLaysF0.n20 prog Mrt:={
 mixed:=kR
 f20:=⟨Tryz.f272.name,dC,func272.trans (congrArg some kR)⟩
 t0:=underlying0
 a0:=isAgg0
 z0:=sizeOf0
 v0:=zeroValue0
 t3:=underlying3
 a3:=isAgg3
 z3:=sizeOf3
 v3:=zeroValue3
 t4:=underlying4
 a4:=isAgg4
 z4:=sizeOf4
 v4:=zeroValue4
 t22:=underlying164
 a22:=isAgg164
 z22:=sizeOf164
 v22:=zeroValue164
 t25:=underlying171
 a25:=isAgg171
 z25:=sizeOf171
 v25:=zeroValue171 }
theorem Mru (g cap:Nat) (d:Array (Int × Int)) (w:ZB) (hH:HoldsK iD 2 w g 0 d) (hblk:g<w.heap.size) (hn:d.size<=12) : ZE prog 272 #[.slice (some ⟨g,0,none⟩) d.size cap,.int .i64 0,.int .i64 (d.size:Nat),.func (.func 98) #[] #[]] w fun e w' => e=.returned (.tuple #[])/\∃ n os,w'=sortWorldK iD 2 w g 0 n (Sort.insertionSort (ltOf kZ) d 0 d.size) os := AnyQ.insertionSortCmpFunc (α:=Int × Int) K2a 2 isAgg98 sizeOf98 iD (fun _=>rfl) Hb2 kZ 98 #[] g 0 cap 0 d.size d w (fun args W=>by kernel_rfl) (fun m os dk _ x y=>M14 x y _) hH hblk (Ak _) nR oM
theorem Mix (g cap:Nat) (d:Array (Int × Int)) (lim:Int) (w:ZB) (hH:HoldsK iD 2 w g 0 d) (hblk:g<w.heap.size) (hn:d.size<=12) : ZE prog 231 #[.slice (some ⟨g,0,none⟩) d.size cap,.int .i64 0,.int .i64 (d.size:Nat),↑lim,.func (.func 98) #[] #[]] w fun e w' => e=.returned (.tuple #[])/\∃ n os,w'=sortWorldK iD 2 w g 0 n (Sort.insertionSort (ltOf kZ) d 0 d.size) os:=by
 have I:=Aa (Mru g cap d w hH hblk hn);obtain⟨Q,hQ⟩:∃ Q:ZB->Prop,(fun w'=>∃ n os,w'=sortWorldK iD 2 w g 0 n (Sort.insertionSort (ltOf kZ) d 0 d.size) os)=Q:=⟨_,rfl⟩
 have I:Hid (ZE prog 272 #[.slice (some ⟨g,0,none⟩) d.size cap,.int .i64 0,.int .i64 (d.size:Nat),.func (.func 98) #[] #[]] w fun e w'=>e=.returned (.tuple #[])/\Q w'):=Aa (by rw [<- hQ];exact I.out);have hG:ZE prog 231 #[.slice (some ⟨g,0,none⟩) d.size cap,.int .i64 0,.int .i64 (d.size:Nat),↑lim,.func (.func 98) #[] #[]] w fun e w'=>e=.returned (.tuple #[])/\Q w':=by
  clear hQ hH hblk;generalize d.size=N at *;have q:decide ((N:Int)<=12)=true:=naf;go_in;go_wp2_with fail;go_loopw [1,2] (fun a b wr=>a=.int .i64 0/\b=↑N/\w=wr) (fun _ _ _=>0);case atStart=>exact⟨rfl,rfl,rfl⟩
  case round =>obtain⟨rfl,rfl,rfl⟩:=hrel;go_wp2_with fail;refine CmZ I.out fun w1 hq=>?_;clear I;go_wp2;refine Ar (Ld rfl _ _ _) rfl ?_;exact⟨rfl,hq⟩
 rw [<- hQ] at hG;exact hG
theorem Kd8 (g cap:Nat) (d:Array (Int × Int)) (w:ZB) (hH:HoldsK iD 2 w g 0 d) (hblk:g<w.heap.size) (hn:d.size<=12) : ZE prog 161 #[.slice (some ⟨g,0,none⟩) d.size cap,.func (.func 98) #[] #[]] w fun e w' => e=.returned (.tuple #[])/\∃ n os,w'=sortWorldK iD 2 w g 0 n (Sort.insertionSort (ltOf kZ) d 0 d.size) os:=by
 have I:=fun lim=>Mix g cap d lim w hH hblk hn;obtain⟨Q,hQ⟩:∃ Q:ZB->Prop,(fun w'=>∃ n os,w'=sortWorldK iD 2 w g 0 n (Sort.insertionSort (ltOf kZ) d 0 d.size) os)=Q:=⟨_,rfl⟩
 have I:Hid (∀ lim:Int,ZE prog 231 #[.slice (some ⟨g,0,none⟩) d.size cap,.int .i64 0,.int .i64 (d.size:Nat),↑lim,.func (.func 98) #[] #[]] w fun e w'=>e=.returned (.tuple #[])/\Q w'):=Aa (by rw [<- hQ];exact I);have hG:ZE prog 161 #[.slice (some ⟨g,0,none⟩) d.size cap,.func (.func 98) #[] #[]] w fun e w'=>e=.returned (.tuple #[])/\Q w':=by
  clear hQ hH hblk;generalize d.size=N at *;have hu:IntKind.u64.wrap (N:Int)=(N:Int):=by rw [Jo];omega
  go_in;go_wp2_with fail;refine (Tryz.bits_Len (N:Int) _ oM oM).mono ?_;rintro e w1 ⟨rfl,rfl⟩;go_wp2_with fail;refine CmZ (I.out _) fun w2 hq=>?_;clear I;go_wp2;go_end0;exact⟨rfl,hq⟩
 rw [<- hQ] at hG;exact hG
theorem Git (w:ZB):ZE prog 272 #[.slice none 0 0,.int .i64 0,.int .i64 0,.func (.func 98) #[] #[]] w fun e w'=>e=.returned (.tuple #[])/\w=w':=by
 go_in;go_wp2_with fail;go_loopw [8] (fun a wr=>a=.int .i64 1/\w=wr) (fun _ _=>0);case atStart=>exact⟨rfl,rfl⟩
 case round =>obtain⟨rfl,rfl⟩:=hrel;go_wp2;go_end0;exact⟨rfl,rfl⟩
theorem Ggk (lim:Int) (w:ZB):ZE prog 231 #[.slice none 0 0,.int .i64 0,.int .i64 0,↑lim,.func (.func 98) #[] #[]] w fun e w'=>e=.returned (.tuple #[])/\w=w':=by
 go_in;go_wp2_with fail;go_loopw [1,2] (fun a b wr=>a=.int .i64 0/\b=.int .i64 0/\w=wr) (fun _ _ _=>0);case atStart=>exact⟨rfl,rfl,rfl⟩
 case round =>obtain⟨rfl,rfl,rfl⟩:=hrel;go_wp2_with fail;refine (Git w).mono ?_;rintro e w1 ⟨rfl,rfl⟩;go_wp2;refine Ar (Ld rfl _ _ _) rfl ?_;exact⟨rfl,rfl⟩
theorem Dfe (w:ZB):ZE prog 161 #[.slice none 0 0,.func (.func 98) #[] #[]] w fun e w'=>e=.returned (.tuple #[])/\w=w':=by
 have hu:IntKind.u64.wrap (0:Int)=(0:Int):=by rw [Jo];omega
 go_in;go_wp2_with fail;refine (Tryz.bits_Len 0 _ oM oM).mono ?_;rintro e w1 ⟨rfl,rfl⟩;go_wp2_with fail;refine (Ggk _ _).mono ?_;rintro e w2 ⟨rfl,rfl⟩;go_wp2;go_end0;exact⟨rfl,rfl⟩
def Z0 (B:Nat) (w:ZB) (v:ZC) (ls:List (Int × Int)):Prop := ∃ a cap,v=.slice a ls.length cap/\ls.length<=cap/\cap<=9223372036854775807 /\ (ls≠[]->∃ b off,a=some ⟨b,off,none⟩/\b<B/\∀ j p,ls[j]?=some p->w.cell? ⟨b,off+j*2,none⟩=some (aI p.1)/\w.cell? ⟨b,off+j*2+1,none⟩=some (aI p.2))
theorem Z0.below {B':Nat} {v:ZC} (h:Z0 B w v ls) (hb:Below B' w w') (hB:B<=B'):Z0 B w' v ls:=by obtain⟨a,cap,h1,h2,h3,h4⟩:=h;refine⟨a,cap,h1,h2,h3,fun hne=>?_⟩;obtain⟨b,off,e,hlt,hx⟩:=h4 hne;refine⟨b,off,e,hlt,fun j p hj=>⟨(hb.cell (p:=⟨b,off+j*2,none⟩) (Af hlt hB)).trans (hx j p hj).1,(hb.cell (p:=⟨b,off+j*2+1,none⟩) (Af hlt hB)).trans (hx j p hj).2⟩⟩
theorem CO:∀ (l:List (Int × Int)) (t:Nat),t<l.length*2->(l.flatMap iD)[t]?=some ((iD l.toArray[t / 2]!)[t % 2]!)
 |[],t,h=>by simp at h
 |x::l,t,h=>by
  rw [Fe]
  by_cases h8:t<2
  ·rw [Gn h8]
   have e1:t / 2=0:=Nv h8
   have e2:t % 2=t:=Oo h8
   rw [e1,e2]
   have:t<(iD x).length:=h8
   simp [this]
  ·rw [Eb (by show 2<=t;omega)]
   show (l.flatMap iD)[t - 2]?=_
   rw [CO l (t - 2) (by rw [Ap] at h;omega)]
   have e1:t / 2=(t - 2) / 2+1:=oM
   have e2:t % 2=(t - 2) % 2:=oM
   rw [e1,e2]
   simp
theorem Xj {C g:Nat} {d:Array (Int × Int)} {os:Array Obj} (hC:C<=g) (hw:C<=w.heap.size):Below C w (sortWorldK iD 2 w g 0 n d os):=by refine⟨rfl,rfl,rfl,size_sortWorldK_c iD 2 w g 0 n d os,fun k hk=>?_⟩;show ((w.heap.modify g (onCells (putCells id 0 (flatK iD 2 d))))++os)[k]?=w.heap[k]?;rw [Array.getElem?_append_left naf,Fp,Ai oM]
theorem Bad (a b:Int):(qB a b = -1/\a<b)\/(qB a b=1/\b<a)\/(qB a b=0/\a=b):=by
 unfold qB;split;·exact .inl ⟨rfl,by assumption⟩
 ·split;·exact .inr (.inl ⟨rfl,by assumption⟩)
  ·exact .inr (.inr ⟨rfl,oM⟩)
theorem Cst (x y:Int × Int):ltOf kZ x y=decide (ltP x y):=by refine Ed.2 ?_;unfold kZ ltP;rcases Bad x.1 y.1 with⟨h1,h2⟩|⟨h1,h2⟩|⟨h1,h2⟩ <;> rcases Bad x.2 y.2 with⟨h3,h4⟩|⟨h3,h4⟩|⟨h3,h4⟩ <;> simp [h1,h3] <;> omega
theorem Out:SWO (ltOf kZ):=by constructor <;> intros <;> simp only [Cst,Bj,Dw] at*<;> unfold ltP at*<;> omega
theorem F10 {g cap:Nat} {ps:List (Int × Int)} (hnd:ps.Nodup) (hO:w.ownsRow base 98 2 (.slice (some ⟨g,0,none⟩) ps.length cap) ps.length (ps.flatMap iD)) (hbw:base<=w.heap.size) : HoldsK iD 2 w g 0 ps.toArray/\g<w.heap.size/\∀ w',(∃ n os,w'=sortWorldK iD 2 w g 0 n (Sort.insertionSort (ltOf kZ) ps.toArray 0 ps.toArray.size) os) -> ∃ ls:List (Int × Int),ls.length=ps.length/\(∀ p∈ls,p∈ps)/\ls.Pairwise ltP/\Z0 w' w' (.slice (some ⟨g,0,none⟩) ps.length cap) ls/\Below base w w':=by
 have h2':=hO;obtain⟨hlen,⟨e,h0⟩|⟨g',cap',cur,e,hb,hg,hn,hc,hsz,htk⟩⟩:=hO;·cases e
 simp only [Value.slice.injEq,G6,Addr.mk.injEq,and_true,true_and] at e;obtain⟨rfl,rfl⟩:=e;have yR:g<w.heap.size:=(aZ hg)
 have hH:HoldsK iD 2 w g 0 ps.toArray:=by
  intro t ht;rw [size_flatK] at ht;have ht':t<ps.length*2:=by simpa using ht
  rw [get_flatK _ _ _ _ ht];refine⟨?_,Ao hg _⟩;rw [Ba,Jf h2' t ht'];exact CO ps t ht'
 refine⟨hH,yR,?_⟩;rintro w' ⟨n,os,rfl⟩;have hinv:=iO (lt:=ltOf kZ) (I:=fun L=>L.length=ps.length/\(∀ y∈L,y∈ps)/\L.Nodup) (fun l m x y _ h=>⟨by simpa using h.1,fun z hz=>h.2.1 z (by
  simp only [Bz,Az] at hz ⊢;rcases hz with h|h|h|h;·exact .inl h
  ·exact .inr (.inr (.inl h))
  ·exact .inr (.inl h)
  ·exact .inr (.inr (.inr h))),((List.Perm.swap x y m).append_left l).nodup_iff.2 h.2.2⟩) ps ⟨rfl,fun _ h=>h,hnd⟩
 rw [show ps.length=ps.toArray.size from by simp] at hinv;have hord:=insertionSort_holds (lt:=ltOf kZ) Out ps.toArray 0 ps.toArray.size (Ak _) nR;obtain⟨d',hd'⟩:=naa (Sort.insertionSort (ltOf kZ) ps.toArray 0 ps.toArray.size);rw [hd'] at hinv hord ⊢;have hs':d'.size=ps.toArray.size:=by have:=hinv.1;simpa using this
 have hH':=holdsK_sortWorldK_c iD 2 w g 0 ps.toArray d' n os hH yR hs';have hBb:Below base w (sortWorldK iD 2 w g 0 n d' os):=Xj hb hbw;have hgs:w.heap.size<=(sortWorldK iD 2 w g 0 n d' os).heap.size:=hBb.size;have hsl:d'.toList.length=ps.length:=by simp [hs']
 have hpw:d'.toList.Pairwise ltP:=by
  rw [Gm];intro i j hi hj hij;have hne:=(List.nodup_iff_pairwise_ne.1 hinv.2.2)
  rw [Gm] at hne;have h1:=hne i j hi hj hij;rw [I8] at hi hj;have h2:=hord.2 i j (Ak _) hij (by rw [hs'] at hj;exact hj);rw [getElem!_pos d' i hi,getElem!_pos d' j hj,Cst,Dw] at h2;simp only [Array.getElem_toList] at h1 ⊢;exact Decidable.byContradiction fun h3=>h1 (CZ _ _ h3 h2)
 refine⟨d'.toList,hsl,hinv.2.1,hpw,⟨_,cap,by rw [hsl],by rw [hsl];exact hn,by unfold maxLen at hc;omega,fun _=>⟨g,0,rfl,Nat.lt_of_lt_of_le yR hgs,fun j p hj=>?_⟩⟩,hBb⟩;have hjl:j<d'.size:=by have:=(lS hj);simpa using this
 have hat:d'[j]! =p:=by rw [Jv] at hj;rw [getElem!_def,hj]
 have k0:=(HoldsK.cell hH' hjl (show 0<2 by omega)).1;have k1:=(HoldsK.cell hH' hjl (show 1<2 by omega)).1;rw [hat] at k0 k1;exact⟨k0,k1⟩
def Low (w:ZB) (kvs:List ((Int × Int) × ZC)) (e:Ending) (w':ZB):Prop := ∃ a c ls,e=.returned (.slice a kvs.length c)/\ls.length=kvs.length/\(∀ p∈ls,p∈kvs.map (·.1))/\ls.Pairwise ltP/\Z0 w' w' (.slice a kvs.length c) ls/\Below w w w'
theorem Yg (Bm r:Nat) (kvs:List ((Int × Int) × ZC)) (w:ZB) (hBm:Bm<w.heap.size) (hm:w.cell? ⟨Bm,0,none⟩=some (.map (some r))) (hmap:Cq Be r w kvs) (hk:(kvs.map (·.1)).Nodup) (hN:kvs.length<=12) : ZE prog 96 #[.func (.func 162) #[] #[.pointer (some ⟨Bm,0,none⟩)],.func (.func 98) #[] #[]] w (Low w kvs):=by
 have A:=Aa (E4a Bm r kvs w hBm hm hmap hk oM);clear hm hmap;have hk:=Aa hk;have hN:=Aa hN;go_in;go_wp2_with fail;refine A.out.mono ?_;rintro e w1 ⟨a,n,c,ps,rfl,hK,hown,hn,hb⟩;have hpl:ps.length=kvs.length:=by have h1:=Ql ps (kvs.map (·.1)) hK.1 (fun p hp=>(hK.2 p).1 hp);have h2:=Ql (kvs.map (·.1)) ps hk.out (fun p hp=>(hK.2 p).2 hp);rw [Ce] at h1 h2;omega
 have hN:=hN.out;obtain⟨M,hM⟩:=nac kvs.length;rw [hM.out] at hpl hN;subst hn;clear A;have hown':=hown;obtain⟨hlen,⟨e0,h0⟩|⟨g,cap,cur,e0,_,_,_⟩⟩:=hown;·simp only [Value.slice.injEq] at e0;obtain⟨rfl,_,rfl⟩:=e0;have hM0:M=0:=oM;subst hM0;rw [h0];clear hlen hown' hpl;go_wp2_with fail;refine (Dfe w1).mono ?_;rintro e w2 ⟨rfl,rfl⟩;go_wp2;go_ret;exact⟨none,0,[],by rw [hM.out];rfl,by rw [hM.out];rfl,(fun p hp=>by cases hp),.nil,⟨none,0,by rw [hM.out];rfl,Au _,oM,fun h=>absurd rfl h⟩,hb⟩
 ·simp only [Value.slice.injEq] at e0;obtain⟨rfl,_,rfl⟩:=e0;obtain⟨hH,yR,hpost⟩:=F10 hK.1 hown' hb.size;have S:=Kd8 g c ps.toArray w1 hH yR naf;obtain⟨Q,hQ⟩:∃ Q:ZB->Prop,(fun w'=>∃ n os,w'=sortWorldK iD 2 w1 g 0 n (Sort.insertionSort (ltOf kZ) ps.toArray 0 ps.toArray.size) os)=Q:=⟨_,rfl⟩
  have hpost:Hid (∀ w',Q w'->_):=Aa (by rw [<- hQ];exact hpost);have S:Hid (ZE prog 161 #[.slice (some ⟨g,0,none⟩) ps.length c,.func (.func 98) #[] #[]] w1 fun e w'=>e=.returned (.tuple #[])/\Q w'):=Aa (by rw [<- hQ];simpa using S);have hK:=Aa hK;clear hQ hH hown' hlen;rw [hpl] at S hpost ⊢;go_wp2_with fail;refine CmZ S.out fun w2 hq=>?_;have hp:=Aa (hpost.out w2 hq);clear hq S hpost;go_wp2;go_ret;obtain⟨ls,h1,h2,h5,h3,h4⟩:=hp.out;exact⟨_,c,ls,by rw [hM.out];rfl,by rw [hM.out];exact h1,fun p hp=>(hK.out.2 p).1 (h2 p hp),h5,by rw [hM.out];exact h3,hb.trans h4⟩
theorem jw.keys:∀ {l:List ((Int × Int) × ZC)} {m:Q04},jw B w l m->l.map (·.1)=m.map (·.1)
 |[],[],_=>rfl
 |(_,_)::l,(_,_)::m,h=>by
  obtain⟨⟨rfl,_⟩,h4⟩:=h
  simp [jw.keys h4]
 |[],_::_,h=>h.elim
 |_::_,[],h=>h.elim
theorem jw.length {l:List ((Int × Int) × ZC)} {m:Q04} (h:jw B w l m):l.length=m.length:=by have:=congrArg List.length h.keys;exact FD86
theorem Uy {β:Type} {p:Int × Int}:∀ {l:List ((Int × Int) × β)},p∈l.map (·.1)->∃ f,cu p l=some f/\(p,f)∈l
 |[],h=>by simp at h
 |(q,x)::l,h=>by
  rw [cu]
  by_cases e:p=q
  ·subst e
   exact⟨x,sM,sM⟩
  ·obtain⟨f,h1,h2⟩:=Uy (l:=l) (p:=p) (by simpa [e] using h)
   exact⟨f,by rw [Ai (by simpa using e)];exact h1,by simp [h2]⟩
def Qh (x:(Q01 × Q01) × (dA × dA)):List ZC:=At x.1.1 x.2.1++At x.1.2 x.2.2
theorem Bwb {x:(Q01 × Q01) × (dA × dA)} (h1:aK B w x.1.1 x.2.1) (h2:aK B w x.1.2 x.2.2):∀ u∈Qh x,u.oneCell'=true:=by
 intro u hu;rcases Bz.1 hu with h|h;·exact Mf h1 u h
 ·exact Mf h2 u h
theorem Mks:(prog.info? 101).map (fun i=>(i.zero,i.size,i.bytes))=some (some (.agg #[.int .i64 0,.int .i64 0,.int .i64 0,.string ⟨#[]⟩,.slice none 0 0,.int .i64 0,.slice none 0 0,.slice none 0 0,.int .i64 0,.int .i64 0,.int .i64 0,.string ⟨#[]⟩,.slice none 0 0,.int .i64 0,.slice none 0 0,.slice none 0 0]),16,240):=kR
def Z1 (base B:Nat) (w:ZB) (v:ZC) (forks:Q04) (ls:List (Int × Int)) (n:Nat):Prop := ∃ xs:List ((Q01 × Q01) × (dA × dA)),xs.length=n/\w.ownsRow base 101 16 v n (xs.flatMap Qh)/\(∀ (j:Nat) (x:(Q01 × Q01) × (dA × dA)),xs[j]?=some x->aK B w x.1.1 x.2.1/\aK B w x.1.2 x.2.2/\∃ p,ls[j]?=some p/\cu p forks=some x.1)/\B<=base/\base<=w.heap.size
def S7 (base B:Nat) (w:ZB) (v:ZC) (forks:Q04) (n:Nat):Prop:=∃ ls,ls.length=n/\ls.Pairwise ltP/\Z1 base B w v forks ls n
theorem Z1.nil (hB:B<=base) (hb:base<=w.heap.size):Z1 base B w (.slice none 0 0) forks ls 0:=⟨[],rfl,Ji w base _ _,(fun j x h=>by simp at h),hB,hb⟩
theorem S7.below {v:ZC} (h:S7 base B w v forks n) (hb:Below w w w'):S7 base B w' v forks n:=by obtain⟨ls,h6,h7,xs,h1,h2,h3,h4,h5⟩:=h;exact⟨ls,h6,h7,xs,h1,Hm h2 hb,fun j x hx=>⟨(h3 j x hx).1.below hb (Aj h4 h5),(h3 j x hx).2.1.below hb (Aj h4 h5),(h3 j x hx).2.2⟩,h4,Aj h5 hb.size⟩
theorem Z1.form {v:ZC} (h:Z1 base B w v forks ls n):∃ a c,v=.slice a n c/\n<=c:=by
 obtain⟨xs,h1,⟨hlen,⟨rfl,h0⟩|⟨g,cap,cur,rfl,_,_,hn,_⟩⟩,_⟩:=h;·exact⟨none,0,by rw [h0],oM⟩
 ·exact⟨_,cap,rfl,hn⟩
theorem S7.form {v:ZC} (h:S7 base B w v forks n):∃ a c,v=.slice a n c/\n<=c:=by obtain⟨_,_,_,h⟩:=h;exact h.form
def Hlv (w:ZB) (forks:Q04) (e:Ending) (w':ZB):Prop:=∃ v base,e=.returned v/\w.heap.size<=base/\S7 base w w' v forks forks.length/\Below w w w'
theorem Byd (r:Nat) (w:ZB):ZE prog 97 #[.map (some r)] w fun e w' => e=.returned (.func (.func 162) #[] #[.pointer (some ⟨w,0,none⟩)])/\w.alloc (.cells #[.map (some r)] 89)=w':=by exact FD32
theorem Bfp {o:Oper} {a:Act} {K:Act->ZB->Prop} {Q:Exit->Act->ZB->Prop} (s x:Operand) (ho:o.op=.call { callee:=.builtin .append,args:=#[s,x],argTypes:=#[46,46] }) (base:Nat) (v:ZC) (n:Nat) (xs:List ZC) (hs:a.eval s=v) (hown:w.ownsRow base 101 16 v n xs) (g c:Nat) (news:List ZC) (hx:a.eval x=.slice (some ⟨g,0,none⟩) 1 c) (hcell:w.rangeAt g 0 news) (hl:news.length=16) (h1:∀ u∈news,u.oneCell'=true) (hlen:n<=1000000) (hbase:base<=w.heap.size) (h:∀ v' w',w'.ownsRow base 101 16 v' (n+1) (xs++news)->w.grownBy w' v.ownBlock->K (a.put o.dst v') w'):o.wp prog a w K Q:=by
 obtain⟨i,hi,hz0,hz1,hz2⟩:=Jb Mks;refine wp_append_own w s x 46 ho base 101 i _ 16 240 underlying46 hi hz0 hz1 hz2 rfl dC v n _ hs hown ⟨g,0,none⟩ 1 c news hx (by rw [hl]) ?_ h1 ?_ ?_ hbase ?_;·intro j u hj;have:=hcell j u hj;rw [Ba] at this;rw [show (⟨g,0,none⟩:Addr).add j=⟨g,j,none⟩ from by simp [Addr.add];omega];exact this
 ·unfold maxLen;omega
 ·omega
 ·intro v' w' h1 h2 _;exact h v' w' h1 h2
theorem V9 (c o r:Nat) (kvs:List ((Int × Int) × ZC)) (forks:Q04) (w:ZB) (hc:w.cell? ⟨c,o,none⟩=some (.map (some r))) (hm:Cq Be r w kvs) (hkv:jw w w kvs forks) (hnd:(forks.map (·.1)).Nodup) (hN:forks.length<=12) : ZE prog 43 #[.pointer (some ⟨c,o,none⟩)] w (Hlv w forks):=by
 have jY:=Bd w _ hc;have hk:(kvs.map (·.1)).Nodup:=by rw [hkv.keys];exact hnd
 have hle:=hkv.length;have hkeys:=hkv.keys;have hm:=Aa hm;have hkv:=Aa hkv;have hk:=Aa hk;obtain⟨N,hNN⟩:=nac forks.length;rw [hNN.out] at hN hle;go_in;go_wp2_with fail;refine CmZ (Byd r w) fun W1 hW1=>?_;have hb1:Below w w W1:=by rw [<- hW1];exact (Ac _ w).alloc nR _
 have hc1:W1.cell? ⟨w,0,none⟩=some (.map (some r)):=by rw [<- hW1];exact Ab (Ag w _) 0
 have hs1:w.heap.size<W1.heap.size:=by rw [<- hW1];simp
 have SF:=Aa (Yg w r kvs W1 hs1 hc1 (hm.out.below hb1) hk.out oM);clear hW1 hc1 hs1;go_wp2_with fail;refine SF.out.mono ?_;rintro e w2 ⟨a,cc,ls,rfl,hl,hsub,hpw,hP,hb2⟩;obtain⟨a',cap',hv',hcap1,hcap2,hpc⟩:=hP;have hB2:=Aa (hb1.trans (hb2.mono hb1.size));rw [hle] at hl hv' ⊢;rw [hl] at hv' hcap1;simp only [Value.slice.injEq,true_and] at hv';obtain⟨rfl,rfl⟩:=hv';have hpc:=Aa hpc;have hsub:=Aa hsub;have hl:=Aa hl;have hkeys:=Aa hkeys;have hpw:=Aa hpw;clear SF hb1 hb2;go_wp2_with fail;go_loopw [3,13] (fun ov i wr=>∃ k:Nat,k<=N/\i=↑k/\Hid (Z1 w2 w wr ov forks ls k)/\Hid (Below w2 w2 wr)) (fun _ i _=>N - (ZG i).toNat);case atStart=>exact⟨0,Ak _,rfl,Aa (Z1.nil hB2.out.size nR),Aa (Ac _ _)⟩
 case round =>
  obtain⟨k,hkN,rfl,hO,hBr⟩:=hrel;by_cases hlt:k<N
  ·obtain⟨b,off,rfl,hbl,hx⟩:=hpc.out (by intro h;have:=hl.out;simp [h] at this;omega);obtain⟨⟨p1,p2⟩,hxk⟩:∃ p,ls[k]?=some p:=⟨_,Ae (by rw [hl.out];exact hlt)⟩
   obtain⟨e1,e2⟩:=hx k _ hxk;have d1:wr.cell? ⟨b,off+k*2,none⟩=some ↑p1:=(hBr.out.cell (p:=⟨b,off+k*2,none⟩) hbl).trans e1;have d2:wr.cell? ⟨b,off+k*2+1,none⟩=some ↑p2:=(hBr.out.cell (p:=⟨b,off+k*2+1,none⟩) hbl).trans e2;have hmem:=hsub.out _ (Bg hxk);rw [hkeys.out] at hmem;obtain⟨⟨f1,f2⟩,hlk,hmf⟩:=Uy hmem;have PE:=Aa hlk;have OC:=Aa hxk;obtain⟨j,x,hf,s,s',hxx,hv1,hv2⟩:=hkv.out.some 0 hlk;obtain⟨ax1,nx1,cx1,ax2,nx2,cx2,ax3,nx3,cx3,rfl⟩:=hv1.sl;obtain⟨ay1,ny1,cy1,ay2,ny2,cy2,ay3,ny3,cy3,rfl⟩:=hv2.sl;have hBw:Below w w wr:=hB2.out.trans (hBr.out.mono hB2.out.size);have L:=fun (W:ZB) (hb:Below w w W)=>But underlying89 _ Z5 (hm.out.below hb) (p1,p2);rw [hf,hxx] at L;simp only [Gz,Ee] at L;dsimp only [Be,At,List.cons_append,List.nil_append] at L;have hone:=Aa (Bwb (x:=((f1,f2),(⟨.slice ax1 nx1 cx1,.slice ax2 nx2 cx2,.slice ax3 nx3 cx3⟩,⟨.slice ay1 ny1 cy1,.slice ay2 ny2 cy2,.slice ay3 ny3 cy3⟩))) hv1 hv2);have hv1:=Aa hv1;have hv2:=Aa hv2;clear hmf;obtain⟨av,cv,rfl,hcv⟩:=hO.out.form;have SS:=Aa fun (W':ZB) (hb:Below w w W') (hq:W'.heap[wr.heap.size]?=some (.cells #[↑p1,↑p2] 98 (0,0))) =>(⟨(hb.cell (p:=⟨c,o,none⟩) jY).trans hc,Ab hq 0,Ab hq 1,L W' hb⟩:W'.cell? ⟨c,o,none⟩=some (.map (some r))/\W'.cell? ⟨wr,0,none⟩=some ↑p1/\W'.cell? ⟨wr,1,none⟩=some ↑p2/\(Instr.lookup 89 (.map (some r)) (.agg #[↑p1,↑p2]) false).run prog W'=.ok (.agg #[↑f1.authority,↑f1.number,↑f1.pos,↑f1.prev,.slice ax1 nx1 cx1,↑f1.sel.index,.slice ax2 nx2 cx2,.slice ax3 nx3 cx3,↑f2.authority,↑f2.number,↑f2.pos,↑f2.prev,.slice ay1 ny1 cy1,↑f2.sel.index,.slice ay2 ny2 cy2,.slice ay3 ny3 cy3]) W')
   clear L hx hxx hf hlk hmem hxk e1 e2;go_wp2_with fail;obtain⟨W4,hW4⟩:∃ W4,wr.alloc (.cells #[↑p1,↑p2] 98)=W4:=⟨_,rfl⟩
   have hb4:Below wr wr W4:=by rw [<- hW4];exact (Ac _ wr).alloc nR _
   have hq4:W4.heap[wr.heap.size]?=some (.cells #[↑p1,↑p2] 98 (0,0)):=by rw [<- hW4];exact Ag wr _
   rw [hW4];clear hW4 d1 d2;have hql:wr.heap.size<W4.heap.size:=(aZ hq4)
   have hBd:Below wr wr W4.drew:=hb4.drew;have hBa:∀ ob,Below wr wr (W4.drew.alloc ob):=fun ob=>hBd.alloc hBd.size ob;have hqa:∀ ob,(W4.drew.alloc ob).heap[wr.heap.size]?=some (.cells #[↑p1,↑p2] 98 (0,0)):=fun ob=>(Ij W4.drew ob _ hql).trans hq4;have FD:∀ {W':ZB},Below wr wr W'->Below w w W':=fun h=>hBw.trans (h.mono hBw.size);have hBw:=Aa hBw;obtain⟨xs,hx1,hx2,hx3,hx4,hx5⟩:=hO.out;have hx3:=Aa hx3;have hrow:∀ ob,(W4.drew.alloc ob).ownsRow w2.heap.size 101 16 (.slice av k cv) k (xs.flatMap Qh):=fun ob=>Hm hx2 (hBa ob);have hgb:∀ g,(Value.slice av k cv).ownBlock=some g->w2.heap.size<=g/\g<wr.heap.size:=fun g e=>by
    rcases hx2.2 with⟨e0,_⟩|⟨g',cap,cur,e0,h1,h2,_⟩;·rw [e0] at e;cases e
    ·rw [e0] at e;simp only [Value.ownBlock,G6] at e;subst e;exact⟨h1,(aZ h2)⟩
   have hgb:=Aa hgb;clear hx2 hO;have hx1:=Aa hx1;refine wp_region_noPanic ?_;refine Dt (S:=fun W'=>W'.cell? ⟨c,o,none⟩=some (.map (some r))/\W'.cell? ⟨wr,0,none⟩=some ↑p1/\W'.cell? ⟨wr,1,none⟩=some ↑p2/\(Instr.lookup 89 (.map (some r)) (.agg #[↑p1,↑p2]) false).run prog W'=.ok (.agg #[↑f1.authority,↑f1.number,↑f1.pos,↑f1.prev,.slice ax1 nx1 cx1,↑f1.sel.index,.slice ax2 nx2 cx2,.slice ax3 nx3 cx3,↑f2.authority,↑f2.number,↑f2.pos,↑f2.prev,.slice ay1 ny1 cy1,↑f2.sel.index,.slice ay2 ny2 cy2,.slice ay3 ny3 cy3]) W') kR (SS.out _ (FD hBd) hq4) fun kz=>?_;refine tj 0 ?_;push_cast;refine tj 1 ?_;push_cast;refine tj 2 ?_;push_cast;refine tj 3 ?_;push_cast;refine tj 4 ?_;push_cast;refine tj 5 ?_;push_cast;refine tj 6 ?_;push_cast;refine rk 7 rfl fun K hK=>?_;go_simp;refine hK.out _ _ (SS.out _ (FD (hBa _)) (hqa _)) fun kz=>?_;clear hK K;push_cast;refine rk 8 rfl fun K hK=>?_;rw [Ah rF];refine Bfp _ _ rfl w2 (.slice av k cv) k (xs.flatMap Qh) rfl (hrow _) W4.heap.size 1 [↑f1.authority,↑f1.number,↑f1.pos,↑f1.prev,.slice ax1 nx1 cx1,↑f1.sel.index,.slice ax2 nx2 cx2,.slice ax3 nx3 cx3,↑f2.authority,↑f2.number,↑f2.pos,↑f2.prev,.slice ay1 ny1 cy1,↑f2.sel.index,.slice ay2 ny2 cy2,.slice ay3 ny3 cy3] rfl (C8 W4.drew _ _) rfl hone.out oM (by have:=hBr.out.size;have:=hb4.size;simp;omega) ?_;intro v5 w5 hO5 hg5;have hB5:Below w2 wr w5:=((hBa _).mono hBr.out.size).grown hg5 (by have:=hBr.out.size;have:=hb4.size;simp;omega) (fun g e=>(hgb.out g e).1);have hq5:w5.heap[wr.heap.size]?=some (.cells #[↑p1,↑p2] 98 (0,0)):=(hg5.block _ naf (fun e=>by have:=(hgb.out _ e.symm).2;omega)).trans (hqa _);have AY:Below w w w5:=hBw.out.trans (hB5.mono hB2.out.size);have hOn:Z1 w2 w w5 v5 forks ls (k+1):=by
    refine⟨xs++[((f1,f2),(⟨.slice ax1 nx1 cx1,.slice ax2 nx2 cx2,.slice ax3 nx3 cx3⟩,⟨.slice ay1 ny1 cy1,.slice ay2 ny2 cy2,.slice ay3 ny3 cy3⟩))],by rw [Am,hx1.out];rfl,?_,fun j y hy=>?_,hx4,Aj hBr.out.size hB5.size⟩;·rw [I7];exact hO5
    ·have hBx:Below w wr w5:=hB5.mono hB2.out.size;rcases J8 j k with h|h;·rw [Gn (by rw [hx1.out];exact h)] at hy;obtain⟨a1,a2,a3⟩:=hx3.out j y hy;exact⟨a1.below hBx nR,a2.below hBx nR,a3⟩
     ·rw [Eb (by rw [hx1.out];exact h),hx1.out] at hy;obtain⟨e1,e2⟩:=En.1 hy;rw [Dq] at e1;obtain rfl:j=k:=oM;simp only [Nat.sub_self,List.getElem_cons_zero] at e2;subst e2;exact⟨hv1.out.below AY nR,hv2.out.below AY nR,_,OC.out,PE.out⟩
   have hOn:=Aa hOn;obtain⟨a5,c5,rfl,hc5⟩:=hOn.out.form;refine hK.out _ _ (SS.out _ AY hq5) fun kz=>?_;clear hK K;push_cast;refine tj 9 ?_;push_cast;refine Dc kR (NoPanic.normal ?_) _;have QV:=Aa (hBr.out.trans hB5);clear kz SS hrow hqa hBa FD hB5 AY hO5 hg5 hq5;go_wp2;go_roundw;case rel=>exact⟨k+1,oM,by go_num,hOn,QV⟩
   case measure=>simp [ZG];omega
  ·obtain rfl:k=N:=oM;obtain⟨av,cv,rfl,hcv⟩:=hO.out.form;go_wp2;go_ret;exact⟨_,w2.heap.size,rfl,hB2.out.size,by rw [hNN.out];exact⟨ls,hl.out,hpw.out,hO.out⟩,hB2.out.trans (hBr.out.mono hB2.out.size)⟩
theorem Lbh (c r1 r2:Nat) (keys:List Q00) (known:Q06) (forks:Q04) (w:ZB) (hC:J0 w c r1 r2 keys known forks) (hnd:(forks.map (·.1)).Nodup) (hN:forks.length<=12) : ZE prog 16 #[.pointer (some ⟨c,0,none⟩)] w (Hlv w forks):=by obtain⟨vk,hb0,_⟩:=hC.ex;obtain⟨kvs,hm,hkv⟩:=hC.forks;have S:=Aa (V9 c 2 r2 kvs forks w (Ab hb0 2) hm hkv hnd hN);obtain⟨N,hNN⟩:=nac forks.length;clear hb0 hm hkv hC;go_in;go_wp2_with fail;refine S.out.mono ?_;rintro e w1 ⟨v,base,rfl,hbb,hO,hb⟩;obtain⟨a,cc,rfl,hcv⟩:=hO.form;rw [hNN.out] at hO ⊢;have hO:=Aa hO;clear S;go_wp2;go_ret;exact⟨_,base,rfl,hbb,by rw [hNN.out];exact hO.out,hb⟩
theorem I08 (c r1 r2:Nat) (key:Q00) (known:Q06) (forks:Q04) (m n:Nat) (w:ZB) (hG:Gc w) (hC:J0 w c r1 r2 [key] known forks) (hn:∀ p v,(p,v)∈known->p.2<=200) (hm:(fol CH.msg known 0).1.length=m) : ZE prog 15 #[.pointer (some ⟨c,0,none⟩),↑n] w (Ret w (.bool ((m:Int)==(n:Int)))):=by
 have V:=Hsm c r1 r2 [key] known forks w hG hC hn sM;have hc:CH.counts CH.msg known [key].length=[(m:Int)]:=by show CH.counts CH.msg known 1=_;unfold CH.counts;rw [<- hm];rfl
 rw [hc] at V;have V:=Aa V;clear hc hm hn hC hG;obtain⟨R,hR⟩:=nac ((m:Int)==(n:Int));rw [hR.out];go_in;go_wp2_with fail;refine V.out.mono ?_;rintro e w1 ⟨v,rfl,hI,hb⟩;clear V;obtain⟨a,cap,rfl,_,_,hx⟩:=hI;obtain⟨b,off,rfl,hlt,hcell⟩:=hx sM;have k0:w1.cell? ⟨b,off,none⟩=some ↑m:=by have:=hcell 0 _ rfl;rwa [Hu] at this
 simp only [Dq];clear hcell hx;have hR:=hR.out;go_wp2;go_ret;exact⟨by rw [<- hR];rfl,hb⟩
theorem Ue {l:Q00} (h:aG l=true):l.length=16:=by unfold aG at h;rw [Aq] at h;exact Eh.1 h.1
theorem Sl {ls:List Q00} (hl:ls.length<=18) (h:∀ x∈ls,aG x=true):Er ls/\∀ l∈ls,l≠[] :=
 ⟨⟨oM,fun l hx=>by rw [Ue (h l hx)];omega⟩,fun l hx e=>by
  have:=Ue (h l hx)
  rw [e] at this
  cases this⟩
theorem Zj (B:Nat) (w:ZB):Strs B w (.slice none 0 0) []:=⟨none,0,rfl,Au _,oM,fun h=>absurd rfl h⟩
theorem Eqs (i:Nat) (hi:i<2) (number pos:Int) (prev:Q00) (acts:List Q02) (m:Q00) (hn:number=(i:Int)+1) (hpos:I64 pos) (hp:prev.length<=20000) (hm:CH.message (lV number pos prev acts)=.ok m) (ht:∃ t,bM (CH.sealed i (lV number pos prev acts) m)=.ok t):vN (CH.sealed i (lV number pos prev acts) m) number pos prev acts:=by
 intro w va hG hA;obtain⟨t,ht⟩:=ht;have d1:=Sl (by rw [nC];omega) (ou sS i m);have d2:=Sl (by rw [qw];omega) (mQ (CH.keys sS 1) i);have h0:I64 0:=⟨dC,dC⟩
 have hnm:I64 number:=⟨oM,oM⟩
 have hsm:Er []:=⟨sM,fun _ h=>by cases h⟩
 have C:=Mre (lV number pos prev acts) i 1 sS m t va w hG ⟨hA,Zj _ _,Zj _ _,⟨h0,hnm,hpos,hp,h0,hsm,hsm⟩⟩ rfl hn hm dC dC oM ht d1.1 d2.1 d1.2 d2.2;refine C.mono ?_;rintro e w' ⟨s,rfl,hv,hb⟩;obtain⟨a1,n1,c1,a2,n2,c2,a3,n3,c3,rfl⟩:=hv.sl;exact⟨_,_,_,_,_,_,_,_,_,rfl,hv,hb⟩
theorem I23 (n:Int) (hn:I64 n):xM n [iT n]:=by intro w;refine (M12 n hn w).mono ?_;rintro e w' ⟨v,rfl,hA,hb⟩;obtain⟨a,c,rfl,_,_⟩:=hA.form;exact⟨_,_,_,rfl,hA,hb⟩
theorem oP {V:Q01} {er:Int} {known':Q06} {rG:Q04} (h:jr iZ hK known forks V=(er,known',rG)):sD ku V known forks er known' rG:=by intro w0 w l c r1 r2 s h9 hS hC hv;have A:=Pnl c r1 r2 hK known forks V s w hS.gc hC.1 hv;have e:uo hK known forks V=(er,known',rG):=h;rw [e] at A;refine A.mono ?_;intro e w' hR;have hS':=hS.added hC.1 hC.2.1 hC.2.2 h9 hR;obtain⟨rfl,hC',_⟩:=hR;exact⟨rfl,hS',hC',hC.2⟩
theorem wV (hn:∀ p v,(p,v)∈known->p.2<=200) (hm:(fol CH.msg known 0).1.length=n):zL ku known n:=by intro w0 w l c r1 r2 forks hS hC;refine CmZ (I08 c r1 r2 ku known forks n n w hS.gc hC.1 hn hm) fun w' hb=>?_;exact⟨sM,hS.go hb,hC.1.below hb,hC.2⟩
theorem I13 (B:Nat) (w:ZB):dG B w oz vX:=by
 have s0:Strs B w tu []:=Zj B w;have hf:Ct (.mk 0 [] 0 0 []):=by unfold Ct Cp;exact⟨sM,trivial⟩
 have hc:(CH.Formula.mk 0 [] 0 0 []).count<=100000000:=by unfold CH.Formula.count aA;omega
 have hd:(CH.Formula.mk 0 [] 0 0 []).depth<=100000000:=by unfold CH.Formula.depth aX;omega
 have i0:I64 0:=⟨dC,dC⟩
 have z:(0:Nat)<=20000:=oM;have z1:(0:Nat)<=100000:=oM;have z2:(2:Nat)<=20000:=oM;have sh:Er []:=⟨z1,fun l h=>by cases h⟩
 refine⟨⟨none,0,rfl,Au _,oM,fun h=>absurd rfl h⟩,⟨?_,⟨i0,i0,i0,i0⟩,z,z,z,hf,hc,hd⟩,s0,s0,s0,⟨⟨z,⟨z,z1,fun _ h=>by cases h⟩⟩,i0,z,sh,sh,⟨z2,z2,z2,z,z,sh⟩,z,⟨by show (-9223372036854775808:Int)<=6;decide,by show (6:Int)<=9223372036854775807;decide⟩,i0⟩⟩;show Ax B w (.mk 0 [] 0 0 []) tu;unfold Ax;exact FD110
theorem Amp:aG ku=true:=by unfold ku CH.pub;exact jU _
theorem I12:Alx [ku]=true:=by have h:=Amp;unfold Alx dN;simp [h]
theorem hf:HF ku CH.m1 jV rZ iQ pU [iT 1] [iT 2] [iT 3] kC1 kC2 kD1 kD2 kX1 kX2 fC fD:={
 pub:=fun w hG=>Ino sS 1 w hG dC dC
 new:=fun w v hG hv=>by
  refine (Per v [ku] w hG hv (fun l hl=>?_) sM).mono ?_
  ·rw [Ad] at hl
   rw [hl,Ue Amp]
   omega
  ·rintro e w' ⟨hb,hif⟩
   rw [Ah I12] at hif
   obtain⟨c,r1,r2,rfl,hC,_,g2,g3⟩:=hif
   exact⟨c,r1,r2,rfl,hC,g2,g3,hb⟩
 e1:=I23 1 ⟨dC,dC⟩
 e2:=I23 2 ⟨dC,dC⟩
 e3:=I23 3 ⟨dC,dC⟩
 m1:=Eqs 0 dC 1 100 [] [iT 1] CH.m1 rfl ⟨dC,dC⟩ dC tH lX
 m2:=Eqs 1 dC 2 100 CH.m1 [iT 2] CH.m2 rfl ⟨dC,dC⟩ dC yM qC
 m3:=Eqs 0 dC 1 100 [] [iT 3] CH.m3 rfl ⟨dC,dC⟩ dC qO lW
 m4:=Eqs 1 dC 2 99 CH.m1 [] CH.m4 rfl ⟨dC,dC⟩ dC uP pq
 msg:=fun w s hG hv=>by
  have:=Rs jV s w hG hv
  have e:CH.message jV=.ok CH.m1:=(jH 0 wP CH.m1 rfl).trans tH
  rw [e] at this
  exact this
 ac1:=oP ML
 ac2:=oP MK
 ac3:=oP MJ
 ac4:=oP MI
 ad1:=oP MH
 ad2:=oP MG
 ad3:=oP MF
 ax1:=oP MC
 ax2:=oP MB
 vc1:=wV (n:=0) (by simp [kC1]) LU
 vc2:=wV (n:=2) (by
  rintro⟨a,b⟩ v h
  simp [kC2] at h
  show b<=200
  rcases h with h|h <;> omega) LQ
 vd2:=wV (n:=1) (by
  rintro⟨a,b⟩ v h
  simp [kD2] at h
  show b<=200
  rcases h with h|h <;> omega) LP
 vx2:=wV (n:=1) (by
  rintro⟨a,b⟩ v h
  simp [kX2] at h
  show b<=200
  rcases h with h|h <;> omega) LM
 forks:=fun w0 w l c r1 r2 hS hC=>by
  refine (Lbh c r1 r2 [ku] kC2 fC w hC.1 (by simp [fC]) (by simp [fC])).mono ?_
  rintro e w' ⟨v,base,rfl,_,hO,hb⟩
  obtain⟨a,cap,rfl,_⟩:=hO.form
  exact⟨a,cap,rfl,hS.go hb⟩
 act:=fun w hG=>by
  have:=Hk1 oz vX w hG (I13 _ _)
  rw [Mrv] at this
  exact this }
theorem Ggx (w:ZB) (hG:Gc w):ZE prog 4 #[] w (Ret w (.bool true)):=K2b hf w hG
end
end Go.Proofs.Y
