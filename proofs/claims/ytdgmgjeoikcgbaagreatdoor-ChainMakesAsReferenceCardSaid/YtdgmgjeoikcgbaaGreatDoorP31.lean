/-
  ChainMakes: the proof, part 32 of 34.
-/
import Derived.Test.YtdgmgjeoikcgbaaGreatDoorP26
import Derived.Test.YtdgmgjeoikcgbaaGreatDoorP29
import Derived.Test.YtdgmgjeoikcgbaaGreatDoorP30
set_option linter.unusedSimpArgs false
set_option linter.unusedVariables false
set_option maxHeartbeats 40000000
set_option maxRecDepth 100000
open Go renaming World -> ZB, Calls -> ZE
open Decidable renaming decide -> ZH
namespace Go.Proofs.YtdgmgjeoikcgbaaGreatDoor
section
open Go.Lib Go.Proofs.Tryz Go.RowKit Go.Shelf Go.Sort CH
abbrev oV (v:CH.Version) (secret:List UInt8) (h i:Nat) (m:List UInt8):CH.Version:={ v with sel:=⟨i,CH.sig secret i m,CH.path (CH.keys secret h) i⟩ }
theorem Vl {v:CH.Version} {e:Int} (h:bZ v=.error e):e≠0:=by
 unfold bZ at h;split at h;·cases h;decide
 ·split at h;·dsimp only at h;exact FD144
  ·cases h;decide
theorem Uc {v:CH.Version} {e:Int} (h:CH.message v=.error e):e≠0:=by
 unfold CH.message at h;split at h;·rename_i e' he;cases h;exact Vl he
 ·cases h
theorem Bla {v:CH.Version} {m:List UInt8} (h:CH.message v=.ok m):1<=v.number/\v.number<=200:=by
 unfold CH.message at h;split at h;·cases h
 ·rename_i t ht;have:=jQ ht;exact⟨this.2.1,this.2.2⟩
abbrev Ke8:CH.Version:=⟨0,0,0,[],[],⟨0,[],[]⟩⟩
abbrev wF:dI:=⟨.slice none 0 0,.slice none 0 0,.slice none 0 0⟩
theorem Key (w:ZB):aN w w Ke8 wF:=by
 have i0:I64 0:=⟨dC,dC⟩
 have sn:Fd []:=⟨sM,fun _ h=>by cases h⟩
 exact⟨⟨none,0,rfl,Bv _,oM,fun h=>absurd rfl h⟩,O0 _ _,O0 _ _,⟨i0,i0,i0,sM,i0,sn,sn⟩⟩
def S1 (v:CH.Version) (secret:List UInt8) (h:Int):Int:=match CH.message v with
 |.error e=>e
 |.ok m=>if h<0\/8<h\/2 ^ h.toNat<=(v.number - 1).toNat then 1 else match bZ (oV v secret h.toNat (v.number - 1).toNat m) with
  |.error e=>e
  |.ok _=>0
def nV (v:CH.Version) (secret:List UInt8) (h:Int):CH.Version:=if S1 v secret h=0 then oV v secret h.toNat (v.number - 1).toNat (CH.msg v) else Ke8
def mQ (w:ZB) (v:CH.Version) (secret:List UInt8) (h:Int) (e:Ending) (w':ZB):Prop := Below w w w'/\∃ s,e=.returned (.tuple #[.agg (Al (nV v secret h) s).toArray,.int .i64 (S1 v secret h)])/\aN w' w' (nV v secret h) s
theorem Td {w w':ZB} {v:CH.Version} {secret:List UInt8} {h er:Int} {e:Ending} (hb:Below w w w') (hm:S1 v secret h=er) (her:er≠0) (he:e=.returned (.tuple #[.agg B7.toArray,↑er])):mQ w v secret h e w':=by
 have e1:nV v secret h=Ke8:=by unfold nV;rw [hm,if_neg her]
 unfold mQ;rw [e1,hm];exact⟨hb,wF,he,Key w'⟩
theorem Enc (f:FuncId) (v:CH.Version) (h:Int) (secret:List UInt8) (va:Value) (w:ZB)
  (E1:∀ er,CH.message v=.error er->er≠0->ZE prog f #[↑v.authority,↑v.number,↑v.pos,↑v.prev,va,↑secret,↑h] w (Ret w (.tuple #[.agg B7.toArray,↑er])))
  (E2:∀ (i:Nat) m,v.number=(i:Int)+1->i<=1000->CH.message v=.ok m->(h<0\/8<h\/∃ k:Nat,h=k/\k<=8/\2 ^ k<=i)->ZE prog f #[↑v.authority,↑v.number,↑v.pos,↑v.prev,va,↑secret,↑h] w (Ret w (.tuple #[.agg B7.toArray,.int .i64 1])))
  (E3:∀ (i k:Nat) m r,h=(k:Int)->v.number=(i:Int)+1->CH.message v=.ok m->k<=8->i<2 ^ k->bZ (oV v secret k i m)=r->(∀ er,r=.error er->er≠0)->Fd (CH.sig secret i m)->Fd (CH.path (CH.keys secret k) i)->(∀ l∈CH.sig secret i m,l≠[])->(∀ l∈CH.path (CH.keys secret k) i,l≠[]) ->
   ZE prog f #[↑v.authority,↑v.number,↑v.pos,↑v.prev,va,↑secret,↑h] w (Cal w (oV v secret k i m) r)) :
  ZE prog f #[↑v.authority,↑v.number,↑v.pos,↑v.prev,va,↑secret,↑h] w (mQ w v secret h):=by
 cases hm:CH.message v with
 |error er =>
  refine (E1 er hm (Uc hm)).mono ?_
  rintro e w' ⟨rfl,hb⟩
  exact Td hb (by unfold S1;rw [hm]) (Uc hm) rfl
 |ok m =>
  have hn:=Bla hm
  obtain⟨i,hi⟩:∃ i:Nat,v.number=(i:Int)+1:=⟨(v.number - 1).toNat,oM⟩
  have hin:(v.number - 1).toNat=i:=oM
  have hE:S1 v secret h=if h<0\/8<h\/2 ^ h.toNat<=i then 1 else match bZ (oV v secret h.toNat i m) with
    |.error e=>e
    |.ok _=>0:=by
   unfold S1
   rw [hm,hin]
  by_cases hbad:h<0\/8<h\/2 ^ h.toNat<=i
  ·refine (E2 i m hi oM hm ?_).mono ?_
   ·by_cases h0:h<0
    ·exact .inl h0
    ·by_cases h1:8<h
     ·exact .inr (.inl h1)
     ·refine .inr (.inr ⟨h.toNat,oM,oM,?_⟩)
      rcases hbad with h2|h2|h2
      ·exact absurd h2 h0
      ·exact absurd h2 h1
      ·exact h2
   ·rintro e w' ⟨rfl,hb⟩
    exact Td hb (by rw [hE,Ar hbad]) dC rfl
  ·rw [Ah hbad] at hE
   obtain⟨k,rfl⟩:∃ k:Nat,h=(k:Int):=⟨h.toNat,oM⟩
   rw [Int.toNat_natCast] at hE
   have hk8:k<=8:=oM
   have hik:i<2 ^ k:=by
    rcases Ld i (2 ^ k) with h1|h1
    ·exact h1
    ·exact absurd (.inr (.inr (by rwa [Int.toNat_natCast]))) hbad
   have d1:=Mx (by rw [jo];omega) (jU secret i m)
   have d2:=Mx (by rw [kE];omega) (jH (CH.keys secret k) i)
   refine (E3 i k m _ rfl hi hm hk8 hik rfl (fun er her=>Vl her) d1.1 d2.1 d1.2 d2.2).mono ?_
   rintro e w' ⟨hb,⟨s,rfl,e2,t,ht⟩|⟨er,rfl,ht⟩⟩
   ·rw [ht] at hE
    have hmm:CH.msg v=m:=by unfold CH.msg;rw [hm]
    have e1:nV v secret (k:Int)=oV v secret k i m:=by
     unfold nV
     rw [hE,Ar rfl,Int.toNat_natCast,hin,hmm]
    unfold mQ
    rw [e1,hE]
    exact⟨hb,s,rfl,e2⟩
   ·rw [ht] at hE
    exact Td hb hE (Vl ht) rfl
theorem I44 (v:CH.Version) (h:Int) (secret:List UInt8) (va:Value) (w:ZB) (hG:Gc w) (hA:aN w w v ⟨va,.slice none 0 0,.slice none 0 0⟩) (hv:v.sel=⟨0,[],[]⟩) (hs:secret.length<=1000000) : ZE prog 6 #[↑v.authority,↑v.number,↑v.pos,↑v.prev,va,↑secret,↑h] w (mQ w v secret h):=by refine Enc _ v h secret va w (fun er hm her=>I43 v h er secret va w hG hA hv hm her) (fun i m hn hi hm hbad=>I42 v h i secret m va w hG hA hv hn hi hm hbad) ?_;rintro i k m r rfl hn hm hk hi ht hr h1 h2 h3 h4;exact El8 v i k secret m r va w hG hA hv hn hm hs hk hi ht hr h1 h2 h3 h4
theorem Ash (v:CH.Version) (h:Int) (secret:List UInt8) (va:Value) (w:ZB) (hA:aN w w v ⟨va,.slice none 0 0,.slice none 0 0⟩) (hv:v.sel=⟨0,[],[]⟩) (hs:secret.length<=1000000) : ZE prog 7 #[↑v.authority,↑v.number,↑v.pos,↑v.prev,va,↑secret,↑h] w (mQ w v secret h):=by refine Enc _ v h secret va w (fun er hm her=>Asc v h er secret va w hA hv hm her) (fun i m hn hi hm hbad=>Arg v h i secret m va w hA hv hn hi hm hbad) ?_;rintro i k m r rfl hn hm hk hi ht hr h1 h2 h3 h4;exact Com v i k secret m r va w hA hv hn hm hs hk hi ht hr h1 h2 h3 h4
end
section
open Go.Lib Go.Proofs.Tryz Go.RowKit Go.Shelf Go.Sort CH
attribute [local irreducible] wpQuiet
theorem kZ {w:ZB} {b:Nat} {C:List Value} {T:TypeId} (h:w.heap[b]?=some (.cells C.toArray T (0,0))) (j:Nat) (u:Value) (hj:C[j]?=some u):∀ d os,(grow (redrawn w d) os).cell? ⟨b,j,none⟩=some u := Ae ((Ab h j).trans (by simpa using hj))
theorem Hex (au nu po h:Int) (prev secret key:List UInt8) (va:Value) (acts:List CH.Act) (w:ZB) (hG:Gc w) (hau:I64 au) (hnu:I64 nu) (hpo:I64 po) (hraw:H5 w w va acts) (hA:G0 w w va acts) (hfew:jd acts 5=true) (hp:prev.length<=60) (hs:secret.length<=100) (hh:h<=3\/8<h) (hk:key.length<=100) : ZE prog 3 #[↑au,↑nu,↑po,↑prev,va,↑secret,↑h,↑key] w (Ret w (.bool true)):=by
 have FW:=Aa fun (W:ZB) (hb:Below w w W)=>Uk va acts W ((hraw.below hb nR).mono hb.size);rw [hfew] at FW;obtain⟨V,hV⟩:∃ V:CH.Version,V=⟨au,nu,po,prev,acts,⟨0,[],[]⟩⟩:=⟨_,rfl⟩
 have i0:I64 0:=⟨dC,dC⟩
 have sn:Fd []:=⟨sM,fun _ h=>by cases h⟩
 have HV:Hid (∀ (W:ZB),Below w w W->aN W W V ⟨va,.slice none 0 0,.slice none 0 0⟩):=Aa fun W hb=>by subst hV;exact⟨(hA.below hb nR).mono hb.size,O0 _ _,O0 _ _,⟨hau,hnu,hpo,by show prev.length<=10000;omega,i0,sn,sn⟩⟩
 have e1:V.authority=au:=by rw [hV]
 have e2:V.number=nu:=by rw [hV]
 have e3:V.pos=po:=by rw [hV]
 have e4:V.prev=prev:=by rw [hV]
 have e5:V.sel=⟨0,[],[]⟩:=by rw [hV]
 have MK:Hid (∀ (W:ZB),Below w w W->ZE prog 6 #[↑au,↑nu,↑po,↑prev,va,↑secret,↑h] W (mQ W V secret h)):=Aa fun W hb=>by have:=I44 V h secret va W (hG.below hb) (HV.out W hb) e5 oM;rwa [e1,e2,e3,e4] at this
 have MR:Hid (∀ (W:ZB),Below w w W->ZE prog 7 #[↑au,↑nu,↑po,↑prev,va,↑secret,↑h] W (mQ W V secret h)):=Aa fun W hb=>by have:=Ash V h secret va W (HV.out W hb) e5 oM;rwa [e1,e2,e3,e4] at this
 have GB:=Aa fun (W:ZB) (hb:Below w w W)=>hG.below hb;have q60:ZH ((60:Int)<(prev.length:Int))=false:=Ak oM;have IL:ZH ((100:Int)<(secret.length:Int))=false:=Ak oM;have qk:ZH ((100:Int)<(key.length:Int))=false:=Ak oM;have hq:ZH ((3:Int)<h)=false\/ZH ((3:Int)<h)=true/\ZH (h<=8)=false:=by
  rcases hh with hh|hh;·exact .inl (Ak oM)
  ·exact .inr ⟨Aj oM,Ak oM⟩
 obtain⟨aa,ca,rfl,hca,JV⟩:=hA.form;clear hraw hA hfew hp hs hk hau hnu hpo i0 sn hh e1 e2 e3 e4 e5 hV HV;unfold mQ at MK MR;generalize S1 V secret h=er at *;generalize nV V secret h=A at *;obtain⟨N,hN⟩:∃ N,Hid (acts.length=N):=⟨_,Aa rfl⟩
 rw [hN.out] at FW MK MR hca ⊢;have qe:(er==er)=true:=sM;rcases hq with q3|⟨q3,q8⟩;all_goals
  go_enter func3,ntmps3;go_wp2_with fail;refine (Ug w hG).mono ?_;rintro e w1 ⟨rfl,hb1⟩;go_wp2_with fail;refine (FW.out w1 hb1).mono ?_;rintro e w2 ⟨rfl,hb2⟩;have hB2:=hb1.trans (hb2.mono hb1.size);clear hb1 hb2;go_wp2_with fail;refine (MK.out w2 hB2).mono ?_;rintro e w3 ⟨hb3,s1,rfl,uN⟩;have hB3:=hB2.trans (hb3.mono hB2.size);have hi8:(prog.info? 29).map (·.size)=some 8:=kR;have hl1:(Al A s1).length=8:=rfl;have hi1:(prog.info? 29).map (·.size)=some (Al A s1).length:=hi8;have h1C:=Aa (Ly uN);obtain⟨C1,hC1⟩:∃ C,Al A s1=C:=⟨_,rfl⟩
  rw [hC1] at hl1 hi1 h1C ⊢;replace hC1:=Aa hC1;replace hl1:=Aa hl1;clear MK hb3;go_wp2_with (first|refine B8 rfl 29 _ _ rfl C1 rfl rfl (by rw [hl1.out];rfl) hi1 h1C.out ?_)
  have hB4:Below w w (w3.alloc (.cells C1.toArray 29)):=hB3.alloc hB3.size _;have hb4:Below w3 w3 (w3.alloc (.cells C1.toArray 29)):=(Ac _ w3).alloc nR _;have g4:=Ap w3 (.cells C1.toArray 29);have hlt4:w3.heap.size<(w3.alloc (.cells C1.toArray 29)).heap.size:=sM;generalize w3.alloc (.cells C1.toArray 29)=W4 at *;refine (MR.out W4 hB4).mono ?_;rintro e w5 ⟨hb5,s2,rfl,rC⟩;have hB5:=hB4.trans (hb5.mono hB4.size);have xW:=hb4.trans (hb5.mono hb4.size);have g5:=(hb5.block w3 hlt4).trans g4;have uj:w3.heap.size<w5.heap.size:=Ai hlt4 hb5.size;have hl2:(Al A s2).length=8:=rfl;have hi2:(prog.info? 29).map (·.size)=some (Al A s2).length:=hi8;have h2C:=Aa (Ly rC);obtain⟨C2,hC2⟩:∃ C,Al A s2=C:=⟨_,rfl⟩
  rw [hC2] at hl2 hi2 h2C ⊢;replace hC2:=Aa hC2;replace hl2:=Aa hl2;clear MR hB4 hb4 g4 hlt4 hb5 hi8;go_wp2_with (first|refine B8 rfl 29 _ _ rfl C2 rfl rfl (by rw [hl2.out];rfl) hi2 h2C.out ?_)
  have hb6:Below w5 w5 (w5.alloc (.cells C2.toArray 29)):=(Ac _ w5).alloc nR _;have g6b:=Ap w5 (.cells C2.toArray 29);generalize w5.alloc (.cells C2.toArray 29)=W6 at *;have hB6:=hB5.trans (hb6.mono hB5.size);have oK:=xW.trans (hb6.mono xW.size);have g6a:=(hb6.block w3 uj).trans g5;have SV:=Aa fun (W:ZB) (hb:Below W6 W6 W)=>Ch6 A s1 s2 W ((uN.below (oK.trans (hb.mono oK.size)) nR).mono (Af oK.size hb.size)).raw ((rC.below (hb6.trans (hb.mono hb6.size)) nR).mono (Af hb6.size hb.size)).raw;have CK:=Aa fun (W:ZB) (hb:Below W6 W6 W)=>Z2 A s1 key W (GB.out W (hB6.trans (hb.mono hB6.size))) ((uN.below (oK.trans (hb.mono oK.size)) nR).mono (Af oK.size hb.size));have CR:=Aa fun (W:ZB) (hb:Below W6 W6 W)=>Wp A s1 key W ((uN.below (oK.trans (hb.mono oK.size)) nR).mono (Af oK.size hb.size));obtain⟨va1,va2,va3⟩:=s1;obtain⟨vb1,vb2,vb3⟩:=s2;rw [<- hC1.out] at g6a;rw [<- hC2.out] at g6b;clear hC1 hC2 hl1 hl2 hi1 hi2 h1C h2C g5 hB5 xW oK hb6 uN rC GB hB3 uj hB2 FW;have x0:=kZ g6a 0 _ rfl;have x1:=kZ g6a 1 _ rfl;have x2:=kZ g6a 2 _ rfl;have x3:=kZ g6a 3 _ rfl;have x4:=kZ g6a 4 _ rfl;have x5:=kZ g6a 5 _ rfl;have x6:=kZ g6a 6 _ rfl;have x7:=kZ g6a 7 _ rfl;have z0:=kZ g6b 0 _ rfl;have z1:=kZ g6b 1 _ rfl;have z2:=kZ g6b 2 _ rfl;have z3:=kZ g6b 3 _ rfl;have z4:=kZ g6b 4 _ rfl;have z5:=kZ g6b 5 _ rfl;have z6:=kZ g6b 6 _ rfl;have z7:=kZ g6b 7 _ rfl;clear g6a g6b;dsimp only [Al] at SV CK CR;generalize gJ A key=ck at *;have qc:(ck==ck)=true:=sM;go_wp2_with fail;refine Bc kR kR ?_;repeat (quiet_step (first|(with_reducible exact Bd (SV.out _ (Dq _ _ _)))|(with_reducible exact Bd (CK.out _ (Dq _ _ _)))|(with_reducible exact Bd (CR.out _ (Dq _ _ _)))))
  refine Cm ?_;intro wq hbq;replace hbq:=As hbq;go_wp2;go_ret;exact⟨rfl,hB6.trans (hbq.mono hB6.size)⟩
end
section
open Go.Lib Go.Proofs.Tryz Go.RowKit Go.Shelf Go.Sort CH
theorem I41 (au nu po h:Int) (prev secret key:List UInt8) (va:Value) (acts:List CH.Act) (w:ZB) (hG:Gc w) (hau:I64 au) (hnu:I64 nu) (hpo:I64 po) (hraw:H5 w w va acts) (hn:∀ a∈acts,kY a) : ZE prog 3 #[↑au,↑nu,↑po,↑prev,va,↑secret,↑h,↑key] w (Ret w (.bool true)):=by
 have FW:=Aa fun (W:ZB) (hb:Below w w W)=>Uk va acts W ((hraw.below hb nR).mono hb.size);by_cases hall:jd acts 5=true/\prev.length<=60/\secret.length<=100/\(h<=3\/8<h)/\key.length<=100;·obtain⟨h1,h2,h3,h4,h5⟩:=hall;refine Hex au nu po h prev secret key va acts w hG hau hnu hpo hraw (Hym hraw hn fun a ha=>?_) h1 h2 h3 h4 h5;unfold jd at h1;rw [Aw] at h1;exact Dk.1 h1.1 a ha
 ·obtain⟨b1,e1⟩:∃ b,jd acts 5=b:=⟨_,rfl⟩
  obtain⟨b2,e2⟩:∃ b,ZH ((60:Int)<(prev.length:Int))=b:=⟨_,rfl⟩
  obtain⟨b3,e3⟩:∃ b,ZH ((100:Int)<(secret.length:Int))=b:=⟨_,rfl⟩
  obtain⟨b4,e4⟩:∃ b,ZH ((3:Int)<h)=b:=⟨_,rfl⟩
  obtain⟨b5,e5⟩:∃ b,ZH (h<=8)=b:=⟨_,rfl⟩
  obtain⟨b6,e6⟩:∃ b,ZH ((100:Int)<(key.length:Int))=b:=⟨_,rfl⟩
  have hsel:b1=false\/b2=true\/b3=true\/b4=true/\b5=true\/b6=true:=by
   apply Fh;intro hno;simp only [La,not_and,Gq,Jk] at hno;obtain⟨n1,n2,n3,n4,n5⟩:=hno;rw [n1] at e1;rw [n2] at e2;rw [n3] at e3;rw [n5] at e6;have h2:=of_decide_eq_false e2;have h3:=of_decide_eq_false e3;have h6:=of_decide_eq_false e6;refine hall ⟨e1,oM,oM,?_,oM⟩;cases b4 with
   |false=>have:=of_decide_eq_false e4;exact .inl oM
   |true=>rw [n4 rfl] at e5;have:=of_decide_eq_false e5;exact .inr oM
  rw [e1] at FW;obtain⟨aa,ca,rfl,_,_,_⟩:=hraw;clear hall e1 hn;generalize acts.length=N at *;have sel:∀ b1 b2 b3 b4 b5 b6:Bool,(b1=false\/b2=true\/b3=true\/b4=true/\b5=true\/b6=true) ->
    b1=false\/b1=true/\b2=true\/b1=true/\b2=false/\b3=true\/b1=true/\b2=false/\b3=false/\b4=true/\b5=true\/b1=true/\b2=false/\b3=false/\b4=true/\b5=false/\b6=true\/b1=true/\b2=false/\b3=false/\b4=false/\b6=true:=by
   intro b1 b2 b3 b4 b5 b6
   cases b1 <;> cases b2 <;> cases b3 <;> cases b4 <;> cases b5 <;> cases b6 <;> simp
  rcases sel _ _ _ _ _ _ hsel with rfl|⟨rfl,rfl⟩|⟨rfl,rfl,rfl⟩|⟨rfl,rfl,rfl,rfl,rfl⟩|⟨rfl,rfl,rfl,rfl,rfl,rfl⟩|⟨rfl,rfl,rfl,rfl,rfl⟩;all_goals clear hsel sel;go_enter func3,ntmps3;go_wp2_with fail;refine (Ug w hG).mono ?_;rintro e w1 ⟨rfl,hb1⟩;go_wp2_with fail;refine (FW.out w1 hb1).mono ?_;rintro e w2 ⟨rfl,hb2⟩;have hB2:=Aa (hb1.trans (hb2.mono hb1.size));go_wp2;go_ret;exact⟨rfl,hB2.out⟩
end
end Go.Proofs.YtdgmgjeoikcgbaaGreatDoor
