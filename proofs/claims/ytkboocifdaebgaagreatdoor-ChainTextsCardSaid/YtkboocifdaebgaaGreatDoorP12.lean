/- ChainTexts, part 13 of 31. -/
import Derived.Test.YtkboocifdaebgaaGreatDoorP11
set_option linter.all false
set_option maxHeartbeats 40000000
set_option maxRecDepth 100000
namespace CH
section
variable {p:UInt8->Bool} {S s:Str} {i:Nat} {ts:List Tok}
def jX (s:Str):Prop:=∀ c,s.head?=some c->cls c≠3/\cls c≠4/\cls c≠5
inductive Lx:Str->Nat->List Tok->Prop
 |nil (i:Nat):Lx [] i []
 |sp {s:Str} {i:Nat} {ts:List Tok} (h:Lx s (i+1) ts):Lx (32::s) i ts
 |name {a s:Str} {i:Nat} {ts:List Tok} (ha:isName a=true) (hs:jX s) (h:Lx s (i+a.length) ts):Lx (a++s) i (⟨1,i,0,a⟩::ts)
 |num {a s:Str} {i:Nat} {ts:List Tok} (h0:a≠[]) (ha:∀ c∈a,cls c=4) (hl:a.length<=13) (hs:jX s) (h:Lx s (i+a.length) ts):Lx (a++s) i (⟨2,i,dec a,a⟩::ts)
 |str {a s:Str} {i:Nat} {ts:List Tok} (ha:∀ c∈a,c≠34/\c≠10) (hl:a.length<=400) (h:Lx s (i+a.length+2) ts):Lx (34::(a++34::s)) i (⟨3,i,0,a⟩::ts)
 |sym {c:UInt8} {s:Str} {i:Nat} {ts:List Tok} (hc:cls c=9\/cls c=8/\s.head?≠some 61) (h:Lx s (i+1) ts):Lx (c::s) i (⟨4,i,0,[c]⟩::ts)
 |two {c:UInt8} {s:Str} {i:Nat} {ts:List Tok} (hc:cls c=7\/cls c=8) (h:Lx s (i+2) ts):Lx (c::61::s) i (⟨4,i,0,[c,61]⟩::ts)
theorem Q9:∀ (a s:Str),(∀ c∈a,p c=true)->(∀ c,s.head?=some c->p c=false)->(a++s).takeWhile p=a
 |[],[],_,_=>rfl
 |[],c::s,_,h=>by rw [Eu,List.takeWhile_cons,Ai (by rw [h c rfl];decide)]
 |x::a,s,ha,h=>by rw [D6,List.takeWhile_cons,Ah (ha x sM),Q9 a s (fun c hc=>ha c (Bv _ hc)) h]
theorem Ab1 {set:List Nat} {a:Str} (hd:S.drop i=a++s) (ha:∀ c∈a,set.contains (cls c)=true) (hs:∀ c,s.head?=some c->set.contains (cls c)=false):bK S set i=i+a.length:=by unfold bK;rw [hd,Q9 a s ha hs]
theorem Aci (hi:i<S.length) (hc:bQ S i=1):gap S i=gap S (i+1):=by
 have hw:bK S [1] i=bK S [1] (i+1):=nI S [1] i hi (by rw [hc];rfl);have e:kC S (S.length+1 - i) i=kC S (S.length+1 - i) (i+1):=by
  obtain⟨f,e⟩:∃ f,S.length+1 - i=f+1:=⟨S.length - i,oM⟩
  rw [e,kC,kC,hw]
 unfold gap;rw [e];exact Aaz S _ _ _ oM oM oM
theorem Ac2 (hi:i<=S.length) (h1:bQ S i≠1) (h2:bQ S i≠2):gap S i=i:=by have hw:bK S [1] i=i:=oW S [1] i (.inr (by rw [List.contains_eq_any_beq];simp [h1]));rw [uZ S i hi (by rw [hw];exact h2),hw]
theorem Nr {c:UInt8} (hd:S.drop i=c::s):S[i]?=some c/\i<S.length/\S.drop (i+1)=s:=by
 have h1:(S.drop i)[0]?=some c:=by rw [hd];rfl
 rw [Ht,Hu] at h1;refine⟨h1,(lS h1),?_⟩;rw [show S.drop (i+1)=(S.drop i).drop 1 from by rw [List.drop_drop],hd];rfl
theorem Vf:∀ {a:Str} {i:Nat},S.drop i=a++s->S.drop (i+a.length)=s
 |[],i,h=>h
 |x::a,i,h=>by
  have:=(Nr (h.trans (D6 ..))).2.2
  rw [show i+(x::a).length=i+1+a.length from by simp;omega]
  exact Vf this
theorem O9 {a:Str} (h:isName a=true):a≠[]/\a.length<=24/\(∀ c,a.head?=some c->cls c=3)/\∀ c∈a,[3,4,5].contains (cls c)=true:=by
 cases a with
 |nil=>cases h
 |cons c l =>
  unfold isName at h;simp only [Aq,Bj] at h;obtain⟨⟨h1,h2⟩,h3⟩:=h;have hc:cls c=3:=by have:=Abv ⟨c.toNat,Fz c⟩;simp only [UInt8.ofNat_toNat] at this;exact this h1
  refine⟨sM,h3,fun d hd=>?_,fun x hx=>?_⟩;·cases hd;exact hc
  ·rcases Az.1 hx with rfl|hx;·rw [hc];rfl
   ·have:=Acp ⟨x.toNat,Fz x⟩;simp only [UInt8.ofNat_toNat] at this;exact this (Dj.1 h2 x hx)
theorem Po {j f:Nat} {out:List Tok} {t:Tok} (hi:i<S.length) (h1:bQ S i≠1) (h2:bQ S i≠2) (hn:next S i=.ok (t,j)) (ho:out.length<5000):jm S (f+1) (gap S i) out=jm S f (gap S j) (out++[t]):=by rw [Ac2 (Dy hi) h1 h2,jm,Ah hi,hn];show (if out.length=5000 then _ else _)=_;rw [Ai oM]
theorem GZ (h:jX s):∀ c,s.head?=some c->[3,4,5].contains (cls c)=false:=fun c hc=>by obtain⟨h1,h2,h3⟩:=h c hc;simp [h1,h2,h3]
theorem X7:∀ (a s:Str) (c:UInt8),(∀ x∈a,p x=false)->p c=true->(a++c::s).findIdx? p=some a.length
 |[],s,c,_,h=>by simp [List.findIdx?_cons,h]
 |x::a,s,c,ha,h=>by
  rw [D6,List.findIdx?_cons,ha x sM,X7 a s c (fun y hy=>ha y (Bv _ hy)) h]
  rfl
theorem Adc (S:Str) (h:Lx s i ts):∀ (f:Nat) (out:List Tok),S.drop i=s->i<=S.length->s.length<f->out.length+ts.length<=5000->jm S f (gap S i) out=.ok (out++ts):=by
 induction h with
 |nil i =>
  intro f out hd hi hf ho;have hl:i=S.length:=by have:=congrArg List.length hd;rw [Cc] at this;simp at this;omega
  have hg:gap S i=S.length:=Nat.le_antisymm (wG S i hi) (by have:=wH S i hi;omega);obtain⟨f,rfl⟩:∃ g,f=g+1:=⟨f - 1,oM⟩
  rw [hg,jm,Ai (Nat.lt_irrefl _),Fj]
 |@sp s i ts h ih =>intro f out hd hi hf ho;obtain⟨h1,h2,h3⟩:=Nr hd;rw [Aci h2 (by rw [fF S i _ h1];decide)];exact ih f out h3 h2 (by simp at hf;omega) ho
 |@name a s i ts ha hs h ih =>
  intro f out hd hi hf ho;obtain⟨c1,c2,c3,c4⟩:=O9 ha;obtain⟨c,a',rfl⟩:∃ c a',a=c::a':=by
   cases a with
   |nil=>exact absurd rfl c1
   |cons c a'=>exact⟨c,a',rfl⟩
  have hcc:=c3 c rfl;obtain⟨h1,h2,h3⟩:=Nr (hd.trans (D6 ..));have hk:bQ S i=3:=by rw [fF S i _ h1];exact hcc
  have hw:=Ab1 (set:=[3,4,5]) hd c4 (GZ hs);have hn:next S i=.ok (⟨1,i,0,c::a'⟩,i+(c::a').length):=by
   unfold next
   rw [Ah hk,hw,Ai oM,Hg,hd,List.take_left]
  have hda:=Vf hd;exact FD44
 |@num a s i ts h0 ha hl hs h ih =>
  intro f out hd hi hf ho;obtain⟨c,a',rfl⟩:∃ c a',a=c::a':=by
   cases a with
   |nil=>exact absurd rfl h0
   |cons c a'=>exact⟨c,a',rfl⟩
  have hcc:=ha c sM;obtain⟨h1,h2,h3⟩:=Nr (hd.trans (D6 ..));have hk:bQ S i=4:=by rw [fF S i _ h1];exact hcc
  have hst:∀ d,s.head?=some d->[4].contains (cls d)=false:=fun d hd=>by have:=(hs d hd).2.1;simp [this]
  have hw:=Ab1 (set:=[4]) hd (fun x hx=>by rw [ha x hx];rfl) hst;have hda:=Vf hd;have hend:bQ S (i+(c::a').length)≠3/\bQ S (i+(c::a').length)≠5:=by
   cases s with
   |nil =>
    have:S.length<=i+(c::a').length:=by have:=congrArg List.length hda;rw [Cc] at this;simp at this ⊢;omega
    rw [rH S _ this];decide
   |cons d s' =>rw [fF S _ _ (Nr hda).1];exact⟨(hs d rfl).1,(hs d rfl).2.2⟩
  have hn:next S i=.ok (⟨2,i,dec (c::a'),c::a'⟩,i+(c::a').length):=by
   unfold next
   rw [Ai oM,Ah hk,hw,Ai (by rintro (h|h|h);omega;exact hend.1 h;exact hend.2 h),Hg,hd,List.take_left]
  exact FD44
 |@str a s i ts ha hl h ih =>
  intro f out hd hi hf ho;obtain⟨h1,h2,h3⟩:=Nr hd;have hk:bQ S i=6:=by rw [fF S i _ h1];decide
  have hf1:(a++34::s).findIdx? (fun c=>c==34||c==10)=some a.length:=X7 a s 34 (fun x hx=>by obtain⟨q1,q2⟩:=ha x hx;simp [q1,q2]) rfl;have hn:next S i=.ok (⟨3,i,0,a⟩,i+a.length+2):=by
   unfold next
   rw [Ai oM,Ai oM,Ah hk,h3,hf1];show (if (a++34::s)[a.length]?=some 10 then _ else _)=_;rw [Eb nR,Nat.sub_self,Ai sM,Ai oM,List.take_left]
  have hda:S.drop (i+a.length+2)=s:=by have:=Vf h3;have:=(Nr this).2.2;rw [show i+a.length+2=i+1+a.length+1 from by omega];exact this
  obtain⟨g,rfl⟩:∃ g,f=g+1:=⟨f - 1,oM⟩
  rw [Po h2 oM oM hn (by simp at ho;omega),ih g _ hda (by have:=congrArg List.length hd;rw [Cc] at this;simp at this;omega) (by simp at hf;omega) (by simp at ho ⊢;omega)];simp
 |@sym c s i ts hc h ih =>
  intro f out hd hi hf ho;obtain⟨h1,h2,h3⟩:=Nr hd;have hk:bQ S i=cls c:=fF S i _ h1;have ht:(S.drop i).take 1=[c]:=by rw [hd];rfl
  have hn:next S i=.ok (⟨4,i,0,[c]⟩,i+1):=by
   unfold next
   rcases hc with hc|⟨hc,hne⟩;·rw [Ai oM,Ai oM,Ai oM,Ai oM,Ah oM,ht]
   ·have:S[i+1]?≠some 61:=by
     have e:(S.drop (i+1))[0]?=S[i+1]?:=by rw [Ht,Hu]
     rw [<- e,h3];cases s with
     |nil=>simp
     |cons d s'=>simpa using hne
    rw [Ai oM,Ai oM,Ai oM,Ah oM,Ai this,Ai oM,ht]
  obtain⟨g,rfl⟩:∃ g,f=g+1:=⟨f - 1,oM⟩
  rw [Po h2 oM oM hn (by simp at ho;omega),ih g _ h3 oM (by simp at hf;omega) (by simp at ho ⊢;omega)];simp
 |@two c s i ts hc h ih =>
  intro f out hd hi hf ho;obtain⟨h1,h2,h3⟩:=Nr hd;obtain⟨h4,h5,h6⟩:=Nr h3;have hk:bQ S i=cls c:=fF S i _ h1;have hn:next S i=.ok (⟨4,i,0,[c,61]⟩,i+2):=by
   unfold next
   rw [Ai oM,Ai oM,Ai oM,Ah oM,Ah h4,hd];rfl
  obtain⟨g,rfl⟩:∃ g,f=g+1:=⟨f - 1,oM⟩
  rw [Po h2 oM oM hn (by simp at ho;omega),ih g _ h6 oM (by simp at hf;omega) (by simp at ho ⊢;omega)];simp
theorem Abu (h:Lx s 0 ts) (ht:ts.length<=5000):lex s=.ok ts:=by have:=Adc s h (s.length+1) [] rfl (Ak _) oM (by simpa using ht);simpa [lex] using this
def apart:List Tok->Prop:=List.Pairwise fun a b=>a.pos+a.text.length<=b.pos
theorem Acu {j:Nat} {t:Tok} (h:next s i=.ok (t,j)):t.pos=i/\t.pos+t.text.length<=j:=by
 unfold next at h
 split at h
 ·split at h;·cases h
  ·cases h;refine⟨rfl,?_⟩;have:=iE s [3,4,5] i;simp only [C9];omega
 split at h
 ·split at h;·cases h
  ·cases h;refine⟨rfl,?_⟩;have:=iE s [4] i;simp only [C9];omega
 split at h
 ·split at h;·cases h
  ·split at h;·cases h
   split at h;·cases h
   ·exact FD88
 split at h
 ·split at h;·exact FD88
  ·split at h;·cases h
   ·exact FD88
 split at h;·exact FD88
 ·cases h
theorem Aad (s:Str):∀ (f i:Nat) (out ts:List Tok),jm s f i out=.ok ts->apart out->(∀ t∈out,t.pos+t.text.length<=i/\t.pos+t.text.length<=s.length)->apart ts/\∀ t∈ts,t.pos+t.text.length<=s.length
 |0,i,out,ts,h,ho,hb=>by
  cases h
  exact⟨ho,fun t ht=>(hb t ht).2⟩
 |f+1,i,out,ts,h,ho,hb=>by
  unfold jm at h
  split at h
  ·rename_i hi
   split at h
   ·cases h
   ·rename_i u j hu
    split at h
    ·cases h
    ·obtain⟨p1,p2⟩:=Acu hu
     obtain⟨n1,n2⟩:=wZ s i hi u j hu
     have hg:=wH s j n2
     refine Aad s f _ _ ts h (Ho.2 ⟨ho,sM,fun a ha b hb'=>?_⟩) fun t ht=>?_
     ·rw [Ad] at hb'
      subst hb'
      have:=(hb a ha).1
      omega
     ·rcases Bz.1 ht with h1|h1
      ·have:=hb t h1
       omega
      ·rw [Ad] at h1
       subst h1
       omega
  ·cases h
   exact⟨ho,fun t ht=>(hb t ht).2⟩
theorem pK (h:lex s=.ok ts):apart ts/\∀ t∈ts,t.pos+t.text.length<=s.length := Aad s _ _ _ ts h List.Pairwise.nil (fun t ht=>by cases ht)
theorem Abh (s:Str):∀ (f i:Nat) (out ts:List Tok),jm s f i out=.ok ts->out.length<=5000->ts.length<=5000
 |0,i,out,ts,h,ho=>by cases h;exact ho
 |f+1,i,out,ts,h,ho=>by
  unfold jm at h
  split at h
  ·split at h
   ·cases h
   ·split at h
    ·cases h
    ·rename_i hne
     exact Abh s f _ _ ts h naf
  ·cases h
   exact ho
theorem xu (h:lex s=.ok ts):ts.length<=5000:=Abh s _ _ _ ts h sM
def Pc (s:Str):Prop:=∀ c∈s,c≠10/\c≠32/\c≠47
theorem Pc.sp {s:Str} (h:Pc s):(32:UInt8) ∉ s:=fun e=>(h 32 e).2.1 rfl
theorem Pc.vW (h:∀ c∈s,[3,4,5].contains (cls c)=true):Pc s:=fun c hc=>by have:=h c hc;refine⟨?_,?_,?_⟩;all_goals rintro rfl;exact absurd this dC
theorem Pc.name {s:Str} (h:isName s=true):Pc s:=.vW (O9 h).2.2.2
theorem sH {P:UInt8->Prop} {a b:Str} (ha:∀ c∈a,P c) (hb:∀ c∈b,P c):∀ c∈a++b,P c:=fun c hc=>(Bz.1 hc).elim (ha c) (hb c)
theorem Ab2 (h:Lx s i ts):∀ c∈s,c≠10:=by
 induction h with
 |nil i=>intro c hc;cases hc
 |sp h ih =>
  intro c hc;rcases Az.1 hc with rfl|hc;·decide
  ·exact ih c hc
 |name ha hs h ih=>exact sH (fun c hc=>(Pc.name ha c hc).1) ih
 |num h0 ha hl hs h ih=>exact sH (fun c hc=>(Pc.vW (fun d hd=>by rw [ha d hd];rfl) c hc).1) ih
 |str ha hl h ih =>
  intro c hc;rcases Az.1 hc with rfl|hc;·decide
  ·refine sH (fun c hc=>(ha c hc).2) (fun c hc=>?_) c hc;rcases Az.1 hc with rfl|hc;·decide
   ·exact ih c hc
 |sym hc h ih =>
  intro d hd;rcases Az.1 hd with rfl|hd
  ·rintro rfl;rcases hc with hc|hc;·exact absurd hc dC
   ·exact absurd hc.1 dC
  ·exact ih d hd
 |two hc h ih =>
  intro d hd;rcases Az.1 hd with rfl|hd
  ·rintro rfl;rcases hc with hc|hc;·exact absurd hc dC
   ·exact absurd hc dC
  ·rcases Az.1 hd with rfl|hd;·decide
   ·exact ih d hd
abbrev St:=Option (List Tok)
def St.size:St->Nat
 |none=>0
 |some L=>L.length
def tk0:Tok:=⟨0,0,0,[]⟩
def shift:St->Tok × St
 |some (t::L)=>(t,some L)
 |_=>(tk0,none)
def isWord (w:Str) (t:Tok):Bool:=t.kind==1&&t.text==w
def more (part:St->Formula × St) (w:Str):Nat->St->List Formula × St
 |0,s=>([],s)
 |_+1,none=>([],none)
 |_+1,some []=>([],some [])
 |f+1,some (t::L)=>if isWord w t then ((part (some L)).1::(more part w f (part (some L)).2).1,(more part w f (part (some L)).2).2) else ([],some (t::L))
def ji:Formula:=.mk 0 [] 0 0 []
def nY (op:Int) (x:Formula):List Formula->Formula
 |[]=>x
 |y::l=>.mk op [] 0 0 (x::y::l)
def fA (part:St->Formula × St) (op:Int) (w:Str) (f:Nat) (s:St):Formula × St := (nY op (part s).1 (more part w f (part s).2).1,(more part w f (part s).2).2)
def nG (s:Str):Int:=if s=[] then 0 else if s=([61]:Q00) then 1 else if s=([33,61]:Q00) then 2 else if s=([60]:Q00) then 3 else if s=([60,61]:Q00) then 4 else if s=([62]:Q00) then 5 else if s=([62,61]:Q00) then 6 else -1
def iR (b:Bool) (s:St):St:=if b then none else s
def qJ (w:Str) (s:St):Formula × St :=
 let a:=shift s
 let b:=shift (iR (a.1.kind != 4||decide (nG a.1.text<1)) a.2)
 (.mk 3 w (nG a.1.text) b.1.n [],iR (decide (b.1.n > 1000000)) (iR (b.1.kind != 2) b.2))
def fZ (t:Tok):Str:=if t.kind=1 then t.text else []
def one:Nat->St->Formula × St
 |0,_=>(ji,none)
 |k+1,s =>
  if fZ (shift s).1=([110,111,116]:Q00) then (.mk 4 [] 0 0 [(one k (shift s).2).1],(one k (shift s).2).2)
  else if fZ (shift s).1=([116,114,117,101]:Q00) then (.mk 1 [] 0 0 [],(shift s).2)
  else if fZ (shift s).1=([102,97,108,115,101]:Q00) then (.mk 2 [] 0 0 [],(shift s).2)
  else if (shift s).1.kind=4/\(shift s).1.text=[40] then
   ((fA (fA (one k) 5 ([97,110,100]:Q00) k) 6 ([111,114]:Q00) k (shift s).2).1,
    iR ((shift (fA (fA (one k) 5 ([97,110,100]:Q00) k) 6 ([111,114]:Q00) k (shift s).2).2).1.kind != 4||(shift (fA (fA (one k) 5 ([97,110,100]:Q00) k) 6 ([111,114]:Q00) k (shift s).2).2).1.text != [41])
     (shift (fA (fA (one k) 5 ([97,110,100]:Q00) k) 6 ([111,114]:Q00) k (shift s).2).2).2)
  else if fZ (shift s).1=[]||isKey (fZ (shift s).1) then (ji,none)
  else qJ (fZ (shift s).1) (shift s).2
def nH (k:Nat) (s:St):Formula × St:=fA (one k) 5 ([97,110,100]:Q00) k s
def dL (k:Nat) (s:St):Formula × St:=fA (nH k) 6 ([111,114]:Q00) k s
def qo (s:Str):Option Formula :=
 match lex s with
 |.error _=>none
 |.ok ts =>
  match (dL (ts.length+1) (some ts)).2 with
  |some []=>if decide ((dL (ts.length+1) (some ts)).1.count > 200)||decide ((dL (ts.length+1) (some ts)).1.depth > 20) then none else some (dL (ts.length+1) (some ts)).1
  |_=>none
theorem N7 (s:St):(shift s).2.size<=s.size:=by
 unfold shift;split;·simp [St.size]
 ·exact Ak _
theorem Oc (b:Bool) (s:St):(iR b s).size<=s.size:=by
 unfold iR;split;·exact Ak _
 ·exact Au _
theorem Aax {part:St->Formula × St} {w:Str} (hp:∀ s,(part s).2.size<=s.size):∀ (f:Nat) (s:St),(more part w f s).2.size<=s.size
 |0,s=>Au _
 |_+1,none=>Au _
 |_+1,some []=>Au _
 |f+1,some (t::L)=>by
  unfold more
  split
  ·refine Aj (Aax hp f _) (Aj (hp _) ?_)
   simp [St.size]
  ·exact Au _
theorem Ub {part:St->Formula × St} {op:Int} {w:Str} (hp:∀ s,(part s).2.size<=s.size) (f:Nat) (s:St):(fA part op w f s).2.size<=s.size := Aj (Aax hp f _) (hp s)
theorem Zg (w:Str) (s:St):(qJ w s).2.size<=s.size := Aj (Oc _ _) (Aj (Oc _ _) (Aj (N7 _) (Aj (Oc _ _) (N7 _))))
theorem nU:∀ (k:Nat) (s:St),(one k s).2.size<=s.size
 |0,s=>Ak _
 |k+1,s=>by
  have hs:=N7 s
  unfold one
  split
  ·exact Aj (nU k _) hs
  split
  ·exact hs
  split
  ·exact hs
  split
  ·refine Aj (Oc _ _) (Aj (N7 _) (Aj (Ub (Ub (nU k) k) k _) hs))
  split
  ·exact Ak _
  ·exact Aj (Zg _ _) hs
theorem yD (k:Nat) (s:St):(nH k s).2.size<=s.size:=Ub (nU k) k s
mutual
theorem gG:∀ f:Formula,f.depth<=f.count
 |.mk _ _ _ _ kids=>by
  have:=Ot kids
  simp only [Formula.depth,Formula.count]
  omega
theorem Ot:∀ l:List Formula,aX l<=aA l
 |[]=>Au _
 |f::l=>by
  have h1:=gG f
  have h2:=Ot l
  simp only [aX,aA]
  omega
end
def Cnt (part:St->Formula × St):Prop:=∀ s,(part s).1.count+2*(part s).2.size<=2*s.size+1
theorem Aab {part:St->Formula × St} {w:Str} (hp:Cnt part):∀ (f:Nat) (s:St),aA (more part w f s).1+2*(more part w f s).2.size+(more part w f s).1.length<=2*s.size
 |0,s=>by simp [more,aA]
 |_+1,none=>by simp [more,aA]
 |_+1,some []=>by simp [more,aA]
 |f+1,some (t::L)=>by
  have h1:=hp (some L)
  have h2:=Aab (w:=w) hp f (part (some L)).2
  have h0:St.size (some L)=L.length:=rfl
  have h3:St.size (some (t::L))=L.length+1:=rfl
  rw [h0] at h1
  rw [h3]
  unfold more
  split
  ·simp only [aA,Ap]
   omega
  ·simp only [aA,Bf]
   rw [h3]
   omega
theorem jM {part:St->Formula × St} {op:Int} {w:Str} (hp:Cnt part) (f:Nat):Cnt (fA part op w f):=fun s=>by
 have h1:=hp s;have h2:=Aab (w:=w) hp f (part s).2;unfold fA;dsimp only;generalize (more part w f (part s).2)=q at *;obtain⟨l,s2⟩:=q;cases l with
 |nil =>simp only [nY,aA,Bf] at h2 ⊢;omega
 |cons y l =>simp only [nY,Formula.count,aA,Ap] at h2 ⊢;omega
theorem pI:∀ k,Cnt (one k)
 |0=>fun s=>by simp [one,ji,Formula.count,aA,St.size]
 |k+1=>fun s=>by
  have hs:=N7 s
  unfold one
  split
  ·rename_i hw
   have h1:=pI k (shift s).2
   have:(shift s).2.size+1<=s.size:=by
    match s,hw with
    |none,hw=>exact absurd hw dC
    |some [],hw=>exact absurd hw dC
    |some (t::L),_=>exact Au _
   simp only [Formula.count,aA]
   omega
  split
  ·simp only [Formula.count,aA]
   omega
  split
  ·simp only [Formula.count,aA]
   omega
  split
  ·have h1:=jM (op:=6) (w:=([111,114]:Q00)) (jM (op:=5) (w:=([97,110,100]:Q00)) (pI k) k) k (shift s).2
   dsimp only
   generalize fA (fA (one k) 5 ([97,110,100]:Q00) k) 6 ([111,114]:Q00) k (shift s).2=q at *
   have h2:=N7 q.2
   have h3:=Oc ((shift q.2).1.kind != 4||(shift q.2).1.text != [41]) (shift q.2).2
   omega
  split
  ·simp only [ji,Formula.count,aA,St.size]
   omega
  ·have h1:=Zg (fZ (shift s).1) (shift s).2
   have:(qJ (fZ (shift s).1) (shift s).2).1.count=1:=by
    unfold qJ
    simp only [Formula.count,aA]
   omega
def Nb:List Tok->Bool
 |[]=>true
 |[t]=>!isWord ([102,114,111,109]:Q00) t
 |t::u::l=>(!isWord ([102,114,111,109]:Q00) t||u.kind != 2)&&Nb (u::l)
theorem N9:∀ (a b:List Tok),Nb a=true->Nb b=true->Nb (a++b)=true
 |[],b,_,h=>h
 |[t],[],h,_=>h
 |[t],u::l,h,hb=>by
  simp only [Nb] at h
  show ((!isWord ([102,114,111,109]:Q00) t||u.kind != 2)&&Nb (u::l))=true
  rw [h,hb]
  rfl
 |t::u::l,b,h,hb=>by
  simp only [Nb,Aq] at h
  show ((!isWord ([102,114,111,109]:Q00) t||u.kind != 2)&&Nb (u::l++b))=true
  rw [h.1,N9 (u::l) b h.2 hb]
  rfl
def qN (w:Str):List Tok->Bool
 |[]=>true
 |t::_=>!isWord w t
theorem Wp {part:St->Formula × St} {w:Str} {f:Nat} {L:List Tok} (h:qN w L=true):more part w (f+1) (some L)=([],some L):=by
 cases L with
 |nil=>rfl
 |cons t L =>
  have:isWord w t=false:=by simpa [qN] using h
  unfold more;rw [Ai (by rw [this];decide)]
structure Prs (g:Formula) (ts:List Tok):Prop where
 from_:Nb ts=true
 len:ts.length+3<=6*g.count
 II:∀ k rest,ts.length<k->g.op≠5->g.op≠6->one k (some (ts++rest))=(g,some rest)
 LZ:∀ k rest,ts.length<k->g.op≠6->qN ([97,110,100]:Q00) rest=true->nH k (some (ts++rest))=(g,some rest)
 uh:∀ k rest,ts.length<k->qN ([97,110,100]:Q00) rest=true->qN ([111,114]:Q00) rest=true->dL k (some (ts++rest))=(g,some rest)
def Q8 (g:Formula):Prop:=∀ (r:Str) (i:Nat) (tr:List Tok),jX r->Lx r (i+g.text.length) tr->∃ ts,Lx (g.text++r) i (ts++tr)/\Prs g ts
theorem Uf {k:Nat} {s:St} {g:Formula} {rest:List Tok} (hk:0<k) (h:one k s=(g,some rest)) (hn:qN ([97,110,100]:Q00) rest=true):nH k s=(g,some rest):=by
 obtain⟨f,rfl⟩:∃ f,k=f+1:=⟨k - 1,oM⟩
 unfold nH fA;rw [h,Wp hn];rfl
theorem Si {k:Nat} {s:St} {g:Formula} {rest:List Tok} (hk:0<k) (h:nH k s=(g,some rest)) (hn:qN ([111,114]:Q00) rest=true):dL k s=(g,some rest):=by
 obtain⟨f,rfl⟩:∃ f,k=f+1:=⟨k - 1,oM⟩
 unfold dL fA;rw [h,Wp hn];rfl
theorem Prs.vV {g:Formula} {ts:List Tok} (h1:Nb ts=true) (h2:ts.length+3<=6*g.count) (h:∀ k rest,ts.length<k->one k (some (ts++rest))=(g,some rest)):Prs g ts where
 from_:=h1
 len:=h2
 II:=fun k rest hk _ _=>h k rest hk
 LZ:=fun k rest hk _ hn=>Uf oM (h k rest hk) hn
 uh:=fun k rest hk hn hm=>Si oM (Uf oM (h k rest hk) hn) hm
theorem Hf (s:Str):jX (32::s):=fun c h=>by cases h;decide
theorem Acb (s:Str):jX (41::s):=fun c h=>by cases h;decide
theorem Q8.brackets {g:Formula} (h:Q8 g) (r:Str) (i:Nat) (tr:List Tok) (hl:Lx r (i+(g.text.length+2)) tr):∃ ts,Lx ([40]++g.text++[41]++r) i (ts++tr)/\Nb ts=true/\ts.length+1<=6*g.count/\∀ k rest,ts.length<k->one k (some (ts++rest))=(g,some rest):=by
 have h1:Lx (41::r) (i+1+g.text.length) (⟨4,i+1+g.text.length,0,[41]⟩::tr):=.sym (.inl dC) (by rw [show i+1+g.text.length+1=i+(g.text.length+2) from by omega];exact hl);obtain⟨ts,h2,h3⟩:=h (41::r) (i+1) _ (Acb r) h1;refine⟨⟨4,i,0,[40]⟩::(ts++[⟨4,i+1+g.text.length,0,[41]⟩]),?_,?_,?_,?_⟩;·have:=Lx.sym (c:=40) (i:=i) (.inl dC) h2;exact FD86
 ·exact N9 [_] _ rfl (N9 ts [_] h3.from_ rfl)
 ·have:=h3.len;simp;omega
 ·intro k rest hk;obtain⟨f,rfl⟩:∃ f,k=f+1:=⟨k - 1,oM⟩
  have he:=h3.uh f (⟨4,i+1+g.text.length,0,[41]⟩::rest) (by simp at hk;omega) rfl rfl;unfold dL nH at he;rw [show (⟨4,i,0,[40]⟩::(ts++[⟨4,i+1+g.text.length,0,[41]⟩]):List Tok)++rest=⟨4,i,0,[40]⟩::(ts++⟨4,i+1+g.text.length,0,[41]⟩::rest) from by simp];unfold one;simp only [shift];rw [he];simp [fZ,iR]
def ah (op:Int) (f:Formula):Str:=if f.op==6||f.op==5&&op != 6 then [40]++f.text++[41] else f.text
theorem iI (op:Int):∀ l:List Formula,jL op l=l.map (ah op)
 |[]=>rfl
 |f::l=>by rw [jL,iI op l];rfl
def Kid (op:Int) (part:Nat->St->Formula × St) (good:List Tok->Bool) (g:Formula):Prop:=∀ (r:Str) (i:Nat) (tr:List Tok),jX r->Lx r (i+(ah op g).length) tr -> ∃ ts,Lx (ah op g++r) i (ts++tr)/\Nb ts=true/\ts.length+1<=6*g.count/\∀ k rest,ts.length<k->good rest=true->part k (some (ts++rest))=(g,some rest)
theorem Q8.kid {g:Formula} (h:Q8 g) {op:Int} (hop:op≠6):Kid op one (fun _=>true) g:=fun r i tr hr hl=>by
 unfold ah at hl ⊢;split;·rename_i hc;rw [Ah hc] at hl;obtain⟨ts,h1,h2,h3,h4⟩:=h.brackets r i tr (by simpa using hl);exact⟨ts,h1,h2,h3,fun k rest hk _=>h4 k rest hk⟩
 ·rename_i hc;rw [Ai hc] at hl;have:g.op≠6/\g.op≠5:=by simp [hop] at hc;exact hc
  obtain⟨ts,h1,h2⟩:=h r i tr hr hl;exact⟨ts,h1,h2.from_,by have:=h2.len;omega,fun k rest hk _=>h2.II k rest hk this.2 this.1⟩
theorem Q8.IL {g:Formula} (h:Q8 g):Kid 6 nH (qN ([97,110,100]:Q00)) g:=fun r i tr hr hl=>by
 unfold ah at hl ⊢;split;·rename_i hc;rw [Ah hc] at hl;obtain⟨ts,h1,h2,h3,h4⟩:=h.brackets r i tr (by simpa using hl);exact⟨ts,h1,h2,h3,fun k rest hk hn=>Uf oM (h4 k rest hk) hn⟩
 ·rename_i hc;rw [Ai hc] at hl;have:g.op≠6:=by simp at hc;exact hc
  obtain⟨ts,h1,h2⟩:=h r i tr hr hl;exact⟨ts,h1,h2.from_,by have:=h2.len;omega,fun k rest hk hn=>h2.LZ k rest hk this hn⟩
theorem Xb {op:Int} {part:Nat->St->Formula × St} {good:List Tok->Bool} {w:Str} (hw:isName w=true) (hf:∀ i,isWord ([102,114,111,109]:Q00) ⟨1,i,0,w⟩=false) (hg:∀ i rest,good (⟨1,i,0,w⟩::rest)=true) :
  ∀ (l:List Formula) (x:Formula),(∀ y∈x::l,Kid op part good y)->∀ (r:Str) (i:Nat) (tr:List Tok),jX r->Lx r (i+(join (32::(w++[32])) ((x::l).map (ah op))).length) tr ->
   ∃ ts,Lx (join (32::(w++[32])) ((x::l).map (ah op))++r) i (ts++tr)/\Nb ts=true/\ts.length+1<=6*aA (x::l)/\l.length<=ts.length /\
    ∀ k f rest,ts.length<k->l.length<f->good rest=true->qN w rest=true->((part k (some (ts++rest))).1=x/\more (part k) w f (part k (some (ts++rest))).2=(l,some rest))
 |[],x,hK,r,i,tr,hr,hl=>by
  obtain⟨ts,h1,h2,h3,h4⟩:=hK x sM r i tr hr hl
  refine⟨ts,h1,h2,by simp only [aA];omega,Ak _,fun k f rest hk hff hgo hn=>?_⟩
  obtain⟨f,rfl⟩:∃ g,f=g+1:=⟨f - 1,oM⟩
  rw [h4 k rest hk hgo]
  exact⟨rfl,Wp hn⟩
 |y::l,x,hK,r,i,tr,hr,hl=>by
  have ej:join (32::(w++[32])) ((x::y::l).map (ah op))=ah op x++(32::(w++32::join (32::(w++[32])) ((y::l).map (ah op)))):=by
   show ah op x++(32::(w++[32]))++join _ _=_
   simp
  rw [ej] at hl ⊢
  generalize hJ:join (32::(w++[32])) ((y::l).map (ah op))=J at hl ⊢
  obtain⟨ts2,a1,a2,a3,a5,a4⟩:=Xb hw hf hg l y (fun z hz=>hK z (Bv _ hz)) r (i+(ah op x).length+1+w.length+1) tr hr (by
   rw [hJ]
   simp only [Am,Ap] at hl
   rw [show i+(ah op x).length+1+w.length+1+J.length=i+((ah op x).length+(w.length+(J.length+1)+1)) from by omega]
   exact hl)
  rw [hJ] at a1
  have b1:Lx (32::(w++32::(J++r))) (i+(ah op x).length) (⟨1,i+(ah op x).length+1,0,w⟩::(ts2++tr)):=.sp (.name hw (Hf _) (.sp a1))
  obtain⟨ts1,c1,c2,c3,c4⟩:=hK x sM _ i _ (Hf _) b1
  refine⟨ts1++⟨1,i+(ah op x).length+1,0,w⟩::ts2,?_,?_,?_,?_,?_⟩
  ·simpa using c1
  ·refine N9 _ _ c2 (N9 [_] _ ?_ a2)
   show (!isWord _ _)=true
   rw [hf]
   rfl
  ·simp only [aA,Am,Ap] at a3 ⊢
   omega
  ·simp only [Am,Ap]
   omega
  ·intro k f rest hk hff hgo hn
   simp only [Am,Ap] at hk hff
   obtain⟨f,rfl⟩:∃ g,f=g+1:=⟨f - 1,oM⟩
   obtain⟨d1,d2⟩:=a4 k f rest oM oM hgo hn
   rw [show (ts1++⟨1,i+(ah op x).length+1,0,w⟩::ts2)++rest=ts1++(⟨1,i+(ah op x).length+1,0,w⟩::(ts2++rest)) from by simp]
   rw [c4 k _ oM (hg _ _)]
   refine⟨rfl,?_⟩
   show (if isWord w _ then _ else _)=_
   rw [Ah (by simp [isWord]),d1,d2]
theorem Nc {n:Int} (h0:0<=n) (h1:n<=144001439000):Go.Lib.itoa n≠[]/\(∀ c∈Go.Lib.itoa n,cls c=4)/\(Go.Lib.itoa n).length<=13/\dec (Go.Lib.itoa n)=n.toNat:=by
 have key:∀ u:Nat,(∀ c∈Go.Lib.decDigits u,cls c=4)/\dec (Go.Lib.decDigits u)=u:=by
  intro u;induction u using Nat.strongRecOn with
  |_ u ih =>
   have hd:∀ d:Fin 10,cls (UInt8.ofNat (48+d.val))=4/\(UInt8.ofNat (48+d.val)).toNat - 48=d.val:=dC;by_cases h:u<10
   ·have:=hd ⟨u,h⟩;rw [Go.Lib.decDigits,dif_pos h];refine⟨fun c hc=>?_,?_⟩;·rw [Ad] at hc;subst hc;exact this.1
    ·show 0*10+_=_;rw [this.2,Nat.zero_mul,Ba]
   ·have:=hd ⟨u % 10,Ls _ dC⟩;obtain⟨i1,i2⟩:=ih (u / 10) oM;rw [Go.Lib.decDigits,dif_neg h];refine⟨fun c hc=>?_,?_⟩
    ·rcases Bz.1 hc with hc|hc;·exact i1 c hc
     ·rw [Ad] at hc;subst hc;exact this.1
    ·unfold dec at i2 ⊢;rw [List.foldl_append,i2];show u / 10*10+_=_;rw [this.2];show u / 10*10+u % 10=u;omega
 have e:Go.Lib.itoa n=Go.Lib.decDigits n.toNat:=by unfold Go.Lib.itoa;rw [Ai oM]
 obtain⟨k1,k2⟩:=key n.toNat;rw [e];have hlen:=Go.Lib.decDigits_length n.toNat;refine⟨fun h=>?_,k1,?_,k2⟩;·have:=Go.Lib.nDigits_pos n.toNat;rw [h] at hlen;simp at hlen;omega
 ·rw [hlen];by_cases h:Go.Lib.nDigits n.toNat<=13;·exact h
  ·exfalso;have key2:∀ (k u:Nat),u<10 ^ (k+1)->Go.Lib.nDigits u<=k+1:=by
    intro k;induction k with
    |zero =>intro u h;rw [Go.Lib.nDigits_small (by simpa using h)];exact Au _
    |succ k ih =>
     intro u h;by_cases hs:u<10;·rw [Go.Lib.nDigits_small hs];omega
     ·rw [Go.Lib.nDigits_big hs];have:=ih (u / 10) (by rw [Jh] at h;omega);omega
   have:=key2 12 n.toNat (by have:(10:Nat) ^ (12+1)=10000000000000:=dC;omega);omega
theorem Acw {s:Str} (h:isKey s=false):s≠([110,111,116]:Q00)/\s≠([116,114,117,101]:Q00)/\s≠([102,97,108,115,101]:Q00)/\s≠([97,110,100]:Q00)/\s≠([111,114]:Q00):=by refine⟨?_,?_,?_,?_,?_⟩;all_goals rintro rfl;exact absurd h dC
theorem Acj {name:Str} {cmp n:Int} (hc1:1<=cmp) (hc6:cmp<=6) (hi:ident name=true) (hk:isKey name=false) (h0:0<=n) (h1:n<=1000000):Q8 (.mk 3 name cmp n []):=fun r i tr hr hl=>by
 obtain⟨d1,d2,d3,d4⟩:=Nc h0 oM;have hN:=Ph hi;have et:(Formula.mk 3 name cmp n []).text=name++32::(bZ cmp++32::Go.Lib.itoa n):=by unfold Formula.text;simp
 rw [et] at hl ⊢;have ex:(name++32::(bZ cmp++32::Go.Lib.itoa n)).length=name.length+1+(bZ cmp).length+1+(Go.Lib.itoa n).length:=by simp;omega
 rw [ex] at hl;generalize Go.Lib.itoa n=A at *;have l1:Lx (32::(A++r)) (i+name.length+1+(bZ cmp).length) (⟨2,i+name.length+1+(bZ cmp).length+1,dec A,A⟩::tr) := .sp (.num d1 d2 d3 hr (by rw [show i+name.length+1+(bZ cmp).length+1+A.length=i+(name.length+1+(bZ cmp).length+1+A.length) from by omega];exact hl));have hcm:∀ c:Int,1<=c->c<=6->nG (bZ c)=c:=fun c a b=>by have:c=1\/c=2\/c=3\/c=4\/c=5\/c=6:=oM;rcases this with rfl|rfl|rfl|rfl|rfl|rfl <;> decide
 have l2:Lx (bZ cmp++32::(A++r)) (i+name.length+1) (⟨4,i+name.length+1,0,bZ cmp⟩::⟨2,i+name.length+1+(bZ cmp).length+1,dec A,A⟩::tr):=by
  have:cmp=1\/cmp=2\/cmp=3\/cmp=4\/cmp=5\/cmp=6:=oM;rcases this with rfl|rfl|rfl|rfl|rfl|rfl;·exact .sym (.inl dC) l1
  ·exact .two (.inl dC) l1
  ·exact .sym (.inr ⟨dC,sM⟩) l1
  ·exact .two (.inr dC) l1
  ·exact .sym (.inr ⟨dC,sM⟩) l1
  ·exact .two (.inr dC) l1
 have l3:=Lx.name (i:=i) hN (Hf (bZ cmp++32::(A++r))) (.sp l2);refine⟨[⟨1,i,0,name⟩,⟨4,i+name.length+1,0,bZ cmp⟩,⟨2,i+name.length+1+(bZ cmp).length+1,dec A,A⟩],?_,.vV ?_ ?_ ?_⟩;·simpa using l3
 ·simp [Nb,isWord]
 ·simp [Formula.count,aA]
 ·intro k rest hkk;obtain⟨f,rfl⟩:∃ g,k=g+1:=⟨k - 1,oM⟩
  obtain⟨q1,q2,q3,q4,q5⟩:=Acw hk;have q0:=(O9 hN).1;have hw:fZ (shift (some ([⟨1,i,0,name⟩,⟨4,i+name.length+1,0,bZ cmp⟩,⟨2,i+name.length+1+(bZ cmp).length+1,dec A,A⟩]++rest))).1=name:=rfl;unfold one;rw [hw,Ai q1,Ai q2,Ai q3,Ai (by simp [shift]),Ai (by simp [q0,hk])];unfold qJ;have hd:(n.toNat:Int)=n:=oM;simp [shift,iR,hcm cmp hc1 hc6,d4,hd,show ¬ cmp<1 from by omega,show ¬ 1000000<n.toNat from by omega]
theorem Aa0 {op:Int} {w:Str} (hw:isName w=true) (hf:∀ i,isWord ([102,114,111,109]:Q00) ⟨1,i,0,w⟩=false) (ht:(Formula.mk op [] 0 0 []).text=w) (h:∀ k i rest,one (k+1) (some (⟨1,i,0,w⟩::rest))=(.mk op [] 0 0 [],some rest)):Q8 (.mk op [] 0 0 []):=fun r i tr hr hl=>by
 rw [ht] at hl ⊢;refine⟨[⟨1,i,0,w⟩],.name hw hr hl,.vV ?_ ?_ ?_⟩;·show (!isWord _ _)=true;rw [hf];rfl
 ·simp [Formula.count,aA]
 ·intro k rest hk;obtain⟨f,rfl⟩:∃ g,k=g+1:=⟨k - 1,oM⟩
  exact h f i rest
theorem Ac3 {g:Formula} (h:Q8 g):Q8 (.mk 4 [] 0 0 [g]):=fun r i tr hr hl=>by
 have et:(Formula.mk 4 [] 0 0 [g]).text=([110,111,116]:Q00)++32::ah 4 g:=by unfold Formula.text;rw [iI];simp
 rw [et] at hl ⊢;obtain⟨ts,h1,h2,h3,h4⟩:=h.kid (op:=4) dC r (i+4) tr hr (by rw [Am] at hl;simp only [Ap,Bf] at hl;rw [show i+4+(ah 4 g).length=i+(0+1+1+1+((ah 4 g).length+1)) from by omega];exact hl);refine⟨⟨1,i,0,([110,111,116]:Q00)⟩::ts,?_,.vV ?_ ?_ ?_⟩;·rw [Dk];exact Lx.name rfl (Hf _) (.sp h1)
 ·exact N9 [_] _ rfl h2
 ·simp only [Formula.count,aA,Ap];omega
 ·intro k rest hk;obtain⟨f,rfl⟩:∃ g,k=g+1:=⟨k - 1,oM⟩
  have:=h4 f rest (by simp at hk;omega) rfl;unfold one;rw [Ah (show fZ (shift (some (⟨1,i,0,([110,111,116]:Q00)⟩::ts++rest))).1=([110,111,116]:Q00) from rfl)];show (Formula.mk 4 [] 0 0 [(one f (some (ts++rest))).1],(one f (some (ts++rest))).2)=_;rw [this]
theorem Ac4 {x y:Formula} {l:List Formula} (h:∀ z∈x::y::l,Q8 z):Q8 (.mk 5 [] 0 0 (x::y::l)):=fun r i tr hr hl=>by
 have et:(Formula.mk 5 [] 0 0 (x::y::l)).text=join (32::(([97,110,100]:Q00)++[32])) ((x::y::l).map (ah 5)):=by unfold Formula.text;rw [iI];rfl
 rw [et] at hl ⊢;obtain⟨ts,h1,h2,h3,h5,h4⟩:=Xb (op:=5) (part:=one) (good:=fun _=>true) (w:=([97,110,100]:Q00)) rfl (fun _=>rfl) (fun _ _=>rfl) (y::l) x (fun z hz=>(h z hz).kid dC) r i tr hr hl;have hall:∀ k rest,ts.length<k->qN ([97,110,100]:Q00) rest=true->nH k (some (ts++rest))=(.mk 5 [] 0 0 (x::y::l),some rest):=fun k rest hk hn=>by obtain⟨e1,e2⟩:=h4 k k rest hk oM rfl hn;unfold nH fA;rw [e1,e2];rfl
 refine⟨ts,h1,h2,?_,fun k rest hk h5=>absurd rfl h5,fun k rest hk _ hn=>hall k rest hk hn,fun k rest hk hn hm=>Si oM (hall k rest hk hn) hm⟩;simp only [Formula.count];omega
theorem Adh {x y:Formula} {l:List Formula} (h:∀ z∈x::y::l,Q8 z):Q8 (.mk 6 [] 0 0 (x::y::l)):=fun r i tr hr hl=>by
 have et:(Formula.mk 6 [] 0 0 (x::y::l)).text=join (32::(([111,114]:Q00)++[32])) ((x::y::l).map (ah 6)):=by unfold Formula.text;rw [iI];rfl
 rw [et] at hl ⊢;obtain⟨ts,h1,h2,h3,h5,h4⟩:=Xb (op:=6) (part:=nH) (good:=qN ([97,110,100]:Q00)) (w:=([111,114]:Q00)) rfl (fun _=>rfl) (fun _ _=>rfl) (y::l) x (fun z hz=>(h z hz).IL) r i tr hr hl;refine⟨ts,h1,h2,?_,fun k rest hk _ h6=>absurd rfl h6,fun k rest hk h6=>absurd rfl h6,fun k rest hk hn hm=>?_⟩;·simp only [Formula.count];omega
 ·obtain⟨e1,e2⟩:=h4 k k rest hk oM hn hm;unfold dL fA;rw [e1,e2];rfl
mutual
theorem Aa6:∀ (f:Formula),f.ok=true->Q8 f
 |.mk op name cmp n kids,h=>by
  unfold Formula.ok at h
  simp only [Aq] at h
  obtain⟨⟨h1,h2⟩,h3⟩:=h
  have hK:=Abm kids h3
  unfold jG at h1
  by_cases e3:op=3
  ·subst e3
   rw [Ah rfl] at h1
   simp only [Aq,Bj,G8,Eh] at h1
   obtain⟨k0,k1,k2,k3,k4⟩:=h1
   have:kids=[]:=List.eq_nil_of_length_eq_zero k0
   subst this
   simp [k4] at h2
   exact Acj k1 k2 k3 k4 h2.1 h2.2
  ·rw [Ai e3] at h1
   split at h1
   ·cases h1
   ·rename_i hz
    simp only [Ej,bne_iff_ne,ne_eq,Le,Decidable.not_not] at hz
    obtain⟨⟨rfl,rfl⟩,rfl⟩:=hz
    split at h1
    ·rename_i e12
     have:kids=[]:=List.eq_nil_of_length_eq_zero (by simpa using h1)
     subst this
     rcases e12 with rfl|rfl
     ·exact Aa0 (w:=([116,114,117,101]:Q00)) rfl (fun _=>rfl) rfl (fun _ _ _=>rfl)
     ·exact Aa0 (w:=([102,97,108,115,101]:Q00)) rfl (fun _=>rfl) rfl (fun _ _ _=>rfl)
    ·split at h1
     ·rename_i e4
      subst e4
      obtain⟨x,rfl⟩:=List.length_eq_one_iff.1 (by simpa using h1)
      exact Ac3 (hK x sM)
     ·simp only [Aq,Ej,Eh,Bj] at h1
      obtain⟨e56,hl⟩:=h1
      match kids,hl,hK with
      |x::y::l,_,hK =>
       rcases e56 with rfl|rfl
       ·exact Ac4 hK
       ·exact Adh hK
theorem Abm:∀ (l:List Formula),fH l=true->∀ x∈l,Q8 x
 |[],_,x,hx=>by cases hx
 |f::l,h,x,hx=>by
  unfold fH at h
  rw [Aq] at h
  rcases Az.1 hx with e|hx
  ·rw [e]
   exact Aa6 f h.1
  ·exact Abm l h.2 x hx
end
theorem Ol {f:Formula} {t:Str} (h:bJ f=some t):f.ok=true/\f.count<=200/\f.depth<=20/\t=f.text:=by
 unfold bJ at h;split at h;·cases h
 ·rename_i hs;simp only [Ej,Bj,Le] at hs;split at h;·rename_i hok;cases h;exact⟨hok,oM,oM,rfl⟩
  ·cases h
theorem Abs {f:Formula} {t:Str} (h:bJ f=some t):qo (32::(t++[32]))=some f:=by obtain⟨h1,h2,h3,rfl⟩:=Ol h;obtain⟨ts,l1,p⟩:=Aa6 f h1 [32] 1 [] (Hf []) (.sp (.nil _));rw [Fj] at l1;have hl:=p.len;have hlex:=Abu (.sp l1) oM;have he:=p.uh (ts.length+1) [] oM rfl rfl;rw [Fj] at he;unfold qo;rw [hlex];dsimp only;rw [he];dsimp only;rw [Ai naf]
def tkK (kind:Nat) (text:Str):List Tok->Option (Tok × List Tok)
 |[]=>none
 |t::L=>if t.kind=kind/\(text=[]\/t.text=text) then some (t,L) else none
def iY (no:Str) (L:List Tok):Option (Str × List Tok):=match tkK 1 [] L with
 |none=>none
 |some (t,L)=>if t.text=no then none else some (t.text,L)
def nV (least most:Int) (L:List Tok):Option (Int × List Tok):=match tkK 2 [] L with
 |none=>none
 |some (t,L)=>if (t.n:Int)<least\/(t.n:Int) > most then none else some ((t.n:Int),L)
def dP (w:Str):List Tok->Bool × List Tok
 |[]=>(false,[])
 |t::L=>if isWord w t then (true,L) else (false,t::L)
theorem Aat (w:Str) (i n:Nat) (L:List Tok):dP w (⟨1,i,n,w⟩::L)=(true,L):=by show (if isWord w ⟨1,i,n,w⟩=true then _ else _)=_;rw [Ah (by simp [isWord])]
def iq:List Tok->Bool
 |t::u::_=>isWord ([102,114,111,109]:Q00) t&&u.kind==2
 |_=>false
def ig:List Tok->Nat
 |[]=>0
 |t::L=>if iq (t::L) then 0 else ig L+1
def mW (s:Str):List Tok->Nat
 |[]=>s.length
 |t::_=>t.pos
def qy (s:Str) (begin:Nat) (L:List Tok):Option (Formula × List Tok) :=
 match qo ((s.take (mW s (L.drop (ig L)))).drop begin) with
 |none=>none
 |some f=>some (f,L.drop (ig L))
def oN (L:List Tok):Bool:=match tkK 4 ([59]:Q00) L with
 |some (_,[])=>true
 |_=>false
def lC (kind:Int) (L:List Tok):Option Int :=
 if kind=1/\(dP ([119,105,110,100]:Q00) L).1=true then
  match nV 0 400 (dP ([119,105,110,100]:Q00) L).2 with
  |none=>none
  |some (n,L)=>if oN L then some n else none
 else if oN L then some 0 else none
def ng (kind start:Int) (L:List Tok):Option (Int × Int) :=
 if (dP ([117,110,116,105,108]:Q00) L).1 then
  match nV (start+1) 100000 (dP ([117,110,116,105,108]:Q00) L).2 with
  |none=>none
  |some (n,L)=>(lC kind L).map fun x=>(n,x)
 else (lC kind L).map fun x=>(-1,x)
def oL (kind:Int) (L:List Tok):Option (Int × Int × Int):=match tkK 1 ([102,114,111,109]:Q00) L with
 |none=>none
 |some (_,L)=>match nV 0 100000 L with
  |none=>none
  |some (n,L)=>(ng kind n L).map fun x=>(n,x)
def qG:Formula:=.mk 1 [] 0 0 []
def posOf:List Tok->Nat
 |[]=>0
 |t::_=>t.pos
def lD (s:Str) (kind:Int) (L:List Tok):Option (Formula × Int × Int × Int) :=
 if (dP ([105,102]:Q00) L).1 then
  match qy s (posOf L+2) (dP ([105,102]:Q00) L).2 with
  |none=>none
  |some (f,L)=>(oL kind L).map fun x=>(f,x)
 else (oL kind L).map fun x=>(qG,x)
def jk (NI NJ:Str) (L:List Tok):Option (Str × Str × List Tok):=match iY NI L with
 |none=>none
 |some (i,L)=>match tkK 1 ([111,102]:Q00) L with
  |none=>none
  |some (_,L)=>match iY NJ L with
   |none=>none
   |some (a,L)=>some (i,a,L)
def je (w:Str):Int:=if w=([102,111,114,98,105,100]:Q00) then 1 else if w=([101,120,101,109,112,116]:Q00) then 2 else if w=([98,108,111,99,107]:Q00) then 3 else 0
def lU (k:Int) (L:List Tok):Option (Str × Str × Str × List Tok) :=
 if k=1 then (jk [] [] L).map fun x=>([],x)
 else match iY [] L with
  |none=>none
  |some (t,L)=>if k=2 then (jk t [] L).map fun x=>(t,x) else (jk [] t L).map fun x=>(t,x)
def qj (s:Str) (L:List Tok):Option aC:=match tkK 1 [] L with
 |none=>none
 |some (t,L)=>if je t.text=0 then none else match lU (je t.text) L with
  |none=>none
  |some (tg,i,a,L)=>match lD s (je t.text) L with
   |none=>none
   |some (f,st,un,wi)=>some ⟨i,a,je t.text,tg,f,st,un,wi⟩
def qm (s:Str):Option aC:=match lex s with
 |.error _=>none
 |.ok ts=>qj s ts
theorem V6 (s:Str):jX (59::s):=fun c h=>by cases h;decide
theorem Tc:∀ (ts:List Tok) (t u:Tok) (L:List Tok),Nb ts=true->isWord ([102,114,111,109]:Q00) t=true->u.kind=2->ig (ts++t::u::L)=ts.length
 |[],t,u,L,_,ht,hu=>by
  show (if iq (t::u::L)=true then 0 else _)=0
  rw [Ah (by simp [iq,ht,hu])]
 |[x],t,u,L,h,ht,hu=>by
  simp only [Nb] at h
  show (if iq (x::t::u::L)=true then 0 else ig (t::u::L)+1)=1
  rw [Ai (by simp at h;simp [iq,h])]
  have:=Tc [] t u L rfl ht hu
  rw [Eu] at this
  rw [this]
  rfl
 |x::y::l,t,u,L,h,ht,hu=>by
  simp only [Nb,Aq] at h
  show (if iq (x::y::(l++t::u::L))=true then 0 else ig (y::(l++t::u::L))+1)=_
  rw [Ai (by
   have h1:=h.1
   simp only [iq,Aq,Eh,not_and]
   intro e1 e2
   rw [e1,e2] at h1
   exact absurd h1 dC)]
  have:=Tc (y::l) t u L h.2 ht hu
  rw [D6] at this
  rw [this]
  simp
theorem Js {a:Str} (h:isName a=true):a≠[]:=(O9 h).1
def sF (aQ:Int):Str:=(if aQ > 0 then 32::(([119,105,110,100]:Q00)++32::Go.Lib.itoa aQ) else [])++[59]
def Zc (un aQ:Int):Str:=(if un >= 0 then 32::(([117,110,116,105,108]:Q00)++32::Go.Lib.itoa un) else [])++sF aQ
def lM (st un aQ:Int):Str:=32::(([102,114,111,109]:Q00)++32::(Go.Lib.itoa st++Zc un aQ))
theorem Aa8 {kind aQ:Int} (h0:0<=aQ) (h1:aQ<=if kind=1 then 400 else 0) (i:Nat):∃ L,Lx (sF aQ) i L/\L.length<=3/\jX (sF aQ)/\(dP ([117,110,116,105,108]:Q00) L).1=false/\lC kind L=some aQ:=by
 unfold sF;split
 ·rename_i hw;have hk:kind=1:=by
   by_cases e:kind=1;·exact e
   ·rw [Ai e] at h1;omega
  subst hk;rw [Ah rfl] at h1;obtain⟨d1,d2,d3,d4⟩:=Nc h0 oM;generalize Go.Lib.itoa aQ=A at *;refine⟨[⟨1,i+1,0,([119,105,110,100]:Q00)⟩,⟨2,i+6,dec A,A⟩,⟨4,i+6+A.length,0,[59]⟩],?_,sM,?_,rfl,?_⟩;·show Lx (32::(([119,105,110,100]:Q00)++32::(A++[59]))) i _;exact .sp (.name rfl (Hf _) (.sp (.num d1 d2 d3 (V6 _) (.sym (.inl dC) (.nil _)))))
  ·exact Hf _
  ·unfold lC;rw [Ah ⟨rfl,rfl⟩];show (match nV 0 400 (_::_) with|none=>none|some (n,L)=>if oN L then some n else none)=_;unfold nV tkK;simp only [Ah,true_or,and_self,d4];rw [Ai oM];simp [oN,tkK];omega
 ·rename_i hw;have:aQ=0:=oM;subst this;refine⟨[⟨4,i,0,[59]⟩],.sym (.inl dC) (.nil _),sM,V6 _,rfl,?_⟩;unfold lC;rw [Ai (by rintro⟨_,h⟩;exact absurd h (by simp [dP,isWord]))];rfl
theorem Ab6 {kind st un aQ:Int} (hs:0<=st) (hu:un = -1\/un > st/\un<=100000) (h0:0<=aQ) (h1:aQ<=if kind=1 then 400 else 0) (i:Nat):∃ L,Lx (Zc un aQ) i L/\L.length<=5/\jX (Zc un aQ)/\ng kind st L=some (un,aQ):=by
 unfold Zc;split
 ·rename_i hw;have hu:un > st/\un<=100000:=oM;obtain⟨d1,d2,d3,d4⟩:=Nc (n:=un) oM oM;generalize Go.Lib.itoa un=A at *;obtain⟨L,l1,l2,l3,l4,l5⟩:=Aa8 (kind:=kind) h0 h1 (i+7+A.length);refine⟨⟨1,i+1,0,([117,110,116,105,108]:Q00)⟩::⟨2,i+7,dec A,A⟩::L,?_,by simp;omega,Hf _,?_⟩;·show Lx (32::(([117,110,116,105,108]:Q00)++32::(A++sF aQ))) i _;exact .sp (.name rfl (Hf _) (.sp (.num d1 d2 d3 l3 l1)))
  ·unfold ng;rw [Aat,Ah rfl];unfold nV tkK;simp only [Ah,true_or,and_self,d4];rw [Ai oM];simp only [l5,Gz];congr 2;omega
 ·rename_i hw;have:un = -1:=oM;subst this;obtain⟨L,l1,l2,l3,l4,l5⟩:=Aa8 (kind:=kind) h0 h1 i;refine⟨L,l1,oM,l3,?_⟩;unfold ng;rw [l4];simp [l5]
theorem Abl {kind st un aQ:Int} (hs:0<=st) (hs1:st<=100000) (hu:un = -1\/un > st/\un<=100000) (h0:0<=aQ) (h1:aQ<=if kind=1 then 400 else 0) (i:Nat):∃ L n,Lx (lM st un aQ) i (⟨1,i+1,0,([102,114,111,109]:Q00)⟩::⟨2,i+6,n,Go.Lib.itoa st⟩::L)/\L.length<=5/\oL kind (⟨1,i+1,0,([102,114,111,109]:Q00)⟩::⟨2,i+6,n,Go.Lib.itoa st⟩::L)=some (st,un,aQ):=by obtain⟨d1,d2,d3,d4⟩:=Nc (n:=st) hs oM;unfold lM;generalize Go.Lib.itoa st=A at *;obtain⟨L,l1,l2,l3,l4⟩:=Ab6 (kind:=kind) hs hu h0 h1 (i+6+A.length);refine⟨L,dec A,.sp (.name rfl (Hf _) (.sp (.num d1 d2 d3 l3 l1))),l2,?_⟩;unfold oL nV tkK;simp only [Ah,true_or,or_true,and_self,d4,tkK];rw [Ai oM];have:(st.toNat:Int)=st:=oM;simp [this,l4]
def nJ (f:Formula):Str:=if f.op != 1 then 32::(([105,102]:Q00)++32::f.text) else []
theorem Acn {kind st un aQ:Int} {f:Formula} {t:Str} (hf:bJ f=some t) (hs:0<=st) (hs1:st<=100000) (hu:un = -1\/un > st/\un<=100000) (h0:0<=aQ) (h1:aQ<=if kind=1 then 400 else 0) (S:Str) (i:Nat) (hS:S.drop i=nJ f++lM st un aQ) (hi:i<=S.length) : ∃ L,Lx (nJ f++lM st un aQ) i L/\L.length<=4000/\lD S kind L=some (f,st,un,aQ):=by
 have hR:=Abs hf;obtain⟨hok,hc,hd,rfl⟩:=Ol hf;unfold nJ at hS ⊢;split
 ·rename_i ho;rw [Ah ho] at hS;obtain⟨L,n,l1,l2,l3⟩:=Abl (kind:=kind) hs hs1 hu h0 h1 (i+4+f.text.length);obtain⟨ts,p1,p2⟩:=Aa6 f hok (lM st un aQ) (i+4) _ (Hf _) l1;have p3:=p2.len;refine⟨⟨1,i+1,0,([105,102]:Q00)⟩::(ts++⟨1,i+4+f.text.length+1,0,([102,114,111,109]:Q00)⟩::⟨2,i+4+f.text.length+6,n,Go.Lib.itoa st⟩::L),?_,by simp;omega,?_⟩;·show Lx (32::(([105,102]:Q00)++32::(f.text++lM st un aQ))) i _;exact .sp (.name rfl (Hf _) (.sp p1))
  ·unfold lD;rw [Aat,Ah rfl];show (match qy S (i+1+2) (ts++_) with|none=>none|some (f,L)=>(oL kind L).map fun x=>(f,x))=_;unfold qy;rw [Tc ts _ _ L p2.from_ rfl rfl,List.drop_left];show (match (match qo ((S.take (i+4+f.text.length+1)).drop (i+1+2)) with|none=>none|some f=>some (f,_)) with|none=>none|some (f,L)=>(oL kind L).map fun x=>(f,x))=_;have hcut:(S.take (i+4+f.text.length+1)).drop (i+1+2)=32::(f.text++[32]):=by rw [show i+4+f.text.length+1=i+(4+f.text.length+1) from by omega,show i+1+2=i+3 from by omega,<- List.drop_drop,List.drop_take,hS];rw [show i+(4+f.text.length+1) - i=4+f.text.length+1 from by omega];show ((32::(([105,102]:Q00)++32::(f.text++32::_))).take _).drop 3=_;rw [List.drop_take];show (32::(f.text++32::_)).take (4+f.text.length+1 - 3)=_;rw [show 4+f.text.length+1 - 3=f.text.length+1+1 from by omega,Hw,List.take_append,Dz oM,show f.text.length+1 - f.text.length=0+1 from by omega,Hw,Ic]
   rw [hcut,hR];dsimp only;rw [l3];rfl
 ·rename_i ho;rw [Ai ho] at hS;obtain⟨L,n,l1,l2,l3⟩:=Abl (kind:=kind) hs hs1 hu h0 h1 i;refine⟨_,l1,by simp;omega,?_⟩;unfold lD;rw [Ai (by simp [dP,isWord]),l3];have hop:f.op=1:=by simpa using ho
  have:f=qG:=by
   cases f with
   |mk op name cmp n kids =>have:op=1:=hop;subst this;unfold Formula.ok jG at hok;simp at hok;obtain⟨⟨⟨⟨a,b⟩,c⟩,d⟩,_⟩:=hok;subst a b c d;rfl
  rw [this];rfl
theorem O5 (x:Str) (l:List Str):join [32] (x::l)=x++l.flatMap (fun y=>32::y):=by
 induction l generalizing x with
 |nil=>simp [join]
 |cons y l ih =>show x++[32]++join [32] (y::l)=_;rw [ih y];simp
theorem Wq {m:aC} {t:Str} (h:dJ m=some t):∃ u,bJ m.aB=some u/\dH m=true/\dM m=true /\ t=dw m.kind++((if m.target != [] then 32::m.target else [])++(32::(m.id++32::(([111,102]:Q00)++32::(m.authority++(nJ m.aB++lM m.start m.aF m.aQ)))))):=by
 unfold dJ at h;cases hf:bJ m.aB with
 |none=>rw [hf] at h;cases h
 |some u =>
  rw [hf] at h;dsimp only at h;split at h
  ·rename_i hc;rw [Aq] at hc;cases h;obtain⟨_,_,_,rfl⟩:=Ol hf;refine⟨_,rfl,hc.1,hc.2,?_⟩;unfold nJ lM Zc sF;rw [Dk,Dk,Dk,Dk,Dk,List.singleton_append,O5];simp only [I7];have e1:∀ (c:Bool) (x:Str),(if c=true then [x] else []).flatMap (fun y=>32::y)=if c=true then 32::x else []:=fun c x=>by cases c <;> simp
   rw [e1];split <;> split <;> split <;> split <;> simp
  ·cases h
theorem Abr {m:aC} {t:Str} (h:dJ m=some t):qm t=some m/\∀ c∈t,c≠10:=by
 obtain⟨u,hu,hn,hd,ht⟩:=Wq h;have hd':0<=m.start/\m.start<=100000/\(m.aF = -1\/m.aF > m.start/\m.aF<=100000)/\0<=m.aQ/\m.aQ<=if m.kind=1 then 400 else 0:=by unfold dM at hd;simpa [and_assoc] using hd
 obtain⟨d1,d2,d3,d4,d5⟩:=hd';clear hd;have hN:isName m.id=true/\isName m.authority=true/\((m.kind=1/\m.target=[])\/(m.kind=2/\isName m.target=true/\m.target≠m.id)\/(m.kind=3/\isName m.target=true/\m.target≠m.authority)):=by
  unfold dH at hn;simp only [Aag] at hn;split at hn;·rename_i e;simp at hn;exact⟨hn.1.1,hn.1.2,.inl ⟨e,hn.2⟩⟩
  split at hn;·rename_i e;simp at hn;exact⟨hn.1.1,hn.1.2,.inr (.inl ⟨e,hn.2⟩)⟩
  split at hn;·rename_i e;simp at hn;exact⟨hn.1.1,hn.1.2,.inr (.inr ⟨e,hn.2⟩)⟩
  ·cases hn
 obtain⟨n1,n2,n3⟩:=hN;clear hn;have i1:=Js n1;have i2:=Js n2;obtain⟨R,hR⟩:=naa (32::(m.id++32::(([111,102]:Q00)++32::(m.authority++(nJ m.aB++lM m.start m.aF m.aQ)))));rw [hR] at ht;have tail:∀ (k:Nat) (pre:Str),t=pre++R->pre.length=k->∃ L L',Lx R k L/\L.length<=4003/\(∀ noI noA,m.id≠noI->m.authority≠noA->jk noI noA L=some (m.id,m.authority,L'))/\lD t m.kind L'=some (m.aB,m.start,m.aF,m.aQ):=by
  intro k pre he hk;have hdrop:t.drop (k+1+m.id.length+4+m.authority.length)=nJ m.aB++lM m.start m.aF m.aQ:=by rw [he,<- hR,show k+1+m.id.length+4+m.authority.length=pre.length+(1+(m.id.length+(1+(2+(1+m.authority.length))))) from by omega,<- List.drop_drop,List.drop_left,<- List.drop_drop];show (m.id++_).drop _=_;rw [<- List.drop_drop,List.drop_left,<- List.drop_drop];show (([111,102]:Q00)++_).drop _=_;rw [<- List.drop_drop];show (32::_).drop _=_;rw [<- List.drop_drop];show (m.authority++_).drop _=_;rw [List.drop_left]
  have hlen:k+1+m.id.length+4+m.authority.length<=t.length:=by rw [he,<- hR];simp;omega
  obtain⟨L',l1,l2,l3⟩:=Acn (kind:=m.kind) hu d1 d2 d3 d4 d5 t _ hdrop hlen;have hst:jX (nJ m.aB++lM m.start m.aF m.aQ):=by
   unfold nJ;split;·exact Hf _
   ·exact Hf _
  refine⟨⟨1,k+1,0,m.id⟩::⟨1,k+1+m.id.length+1,0,([111,102]:Q00)⟩::⟨1,k+1+m.id.length+4,0,m.authority⟩::L',L',?_,by simp;omega,fun noI noA q1 q2=>?_,l3⟩;·rw [<- hR];exact .sp (.name n1 (Hf _) (.sp (.name rfl (Hf _) (.sp (.name n2 hst l1)))))
  ·simp [jk,iY,tkK,q1,q2]
 have fin:∀ (L L2:List Tok) (k:Int) (tg:Str),Lx t 0 (⟨1,0,0,dw k⟩::L)->L.length<=4999->(k=1\/k=2\/k=3)->k=m.kind->tg=m.target->lU k L=some (tg,m.id,m.authority,L2)->lD t k L2=some (m.aB,m.start,m.aF,m.aQ)->qm t=some m/\∀ c∈t,c≠10:=by
  intro L L2 k tg hl hlen hk hkm htg hb hw;refine⟨?_,Ab2 hl⟩;unfold qm;rw [Abu hl naf];show qj t _=_;have hkr:je (dw k)=k:=by rcases hk with rfl|rfl|rfl <;> rfl
  have hk0:k≠0:=oM;unfold qj tkK;simp only [true_or,and_self,Qy];rw [hkr,Ai hk0,hb];dsimp only;rw [hw];dsimp only;subst hkm htg;rfl
 rcases n3 with⟨hk,htg⟩|⟨hk,htg,hne⟩|⟨hk,htg,hne⟩
 ·rw [hk,htg] at ht;have ht:t=([102,111,114,98,105,100]:Q00)++R:=ht;obtain⟨L,L',a1,a2,a3,a4⟩:=tail 6 _ ht rfl;refine fin L L' 1 [] ?_ oM (.inl rfl) hk.symm htg.symm ?_ (hk ▸ a4);·rw [ht];exact .name rfl (hR ▸ Hf _) a1
  ·unfold lU;rw [Ah rfl,a3 [] [] i1 i2];rfl
 ·have i3:=Js htg;rw [hk,show (m.target != [])=true from by simpa using i3,Ah rfl] at ht;have ht:t=(([101,120,101,109,112,116]:Q00)++32::m.target)++R:=by rw [ht];simp [dw]
  obtain⟨L,L',a1,a2,a3,a4⟩:=tail (7+m.target.length) _ ht naf;refine fin (⟨1,7,0,m.target⟩::L) L' 2 m.target ?_ naf (.inr (.inl rfl)) hk.symm rfl ?_ (hk ▸ a4);·rw [ht,Dk];exact .name rfl (Hf _) (.sp (.name htg (hR ▸ Hf _) a1))
  ·unfold lU;simp [iY,tkK,i3,a3 m.target [] (Ne.symm hne) i2]
 ·have i3:=Js htg;rw [hk,show (m.target != [])=true from by simpa using i3,Ah rfl] at ht;have ht:t=(([98,108,111,99,107]:Q00)++32::m.target)++R:=by rw [ht];simp [dw]
  obtain⟨L,L',a1,a2,a3,a4⟩:=tail (6+m.target.length) _ ht naf;refine fin (⟨1,6,0,m.target⟩::L) L' 3 m.target ?_ naf (.inr (.inr rfl)) hk.symm rfl ?_ (hk ▸ a4);·rw [ht,Dk];exact .name rfl (Hf _) (.sp (.name htg (hR ▸ Hf _) a1))
  ·unfold lU;simp [iY,tkK,i3,a3 [] m.target i1 (Ne.symm hne)]
def iW (k:Int):Nat->List Str->Str->Option (List Str)
 |0,_,_=>none
 |f+1,ws,s =>
  if s=[] then (if ws=[] then none else some ws)
  else if ((letters k 13 s).1≠[]/\ws.length=6)\/12<(letters k 13 s).1.length then none
  else match (letters k 13 s).2 with
   |[]=>if (if (letters k 13 s).1=[] then ws else ws++[s])=[] then none else some (if (letters k 13 s).1=[] then ws else ws++[s])
   |c::s'=>if c=32 then iW k f (if (letters k 13 s).1=[] then ws else ws++[s.take (s.length - (s'.length+1))]) s' else none
def dX (w:Str):Int:=if w=([112,108,97,105,110]:Q00) then 1 else if w=([99,97,115,101,100]:Q00) then 2 else if w=([97,98,106,97,100]:Q00) then 3 else if w=([115,121,108,108,97,98]:Q00) then 4 else 0
def iG (c:UInt8):Str->Option (Str × Str)
 |[]=>none
 |x::s=>if x=c then some ([],s) else (iG c s).map fun p=>(x::p.1,p.2)
def kV (s:Str):Option Name :=
 if s.length > 20000 then none else match iG 58 s with
  |none=>none
  |some (w,r)=>if dX w=0 then none else (iW (dX w) (r.length+1) [] r).map fun ws=>⟨dX w,ws⟩
def lZ (w:Str):Int:=if w=([97,100,100]:Q00) then 1 else if w=([114,101,109,111,118,101]:Q00) then 2 else if w=([99,111,114,114,101,99,116]:Q00) then 3 else if w=([118,111,105,100]:Q00) then 4 else 0
def goC:List Tok->Change->Option Change
 |[],c=>some c
 |t::L,c=>if t.kind=2 then goC L { c with pos:=t.n } else if t.kind=3 then (match kV t.text with
   |none=>none
   |some n=>goC L { c with entry:=⟨c.id,c.entry.names++[n]⟩ }) else goC L c
def jE:Change:=⟨0,[],⟨[],[]⟩,0⟩
def nT (s:Str):Change:=match lex s with
 |.ok (a::b::L)=>(match goC L ⟨lZ a.text,b.text,⟨[],[]⟩,0⟩ with
  |some c=>if bH c=some s then c else jE
  |none=>jE)
 |_=>jE
abbrev N8 (c:UInt8):Prop:=c≠34/\c≠10/\c≠32
theorem Acx {s:Str} {i:Nat} {set:Str} (h:isIn s i set=true):∃ c,s[i]?=some c/\c∈set:=by
 unfold isIn at h;split at h;·cases h
 ·rename_i c hc;exact⟨c,hc,List.contains_iff_mem.1 h⟩
theorem Abc (k:Int) (s:Str):slen k s<=2:=by
 unfold slen;repeat' split
 all_goals omega
theorem Acr (k:Int) (s:Str):(∀ c,s[0]?=some c->0<slen k s->N8 c)/\(∀ c,s[1]?=some c->1<slen k s->N8 c):=by
 have hs:∀ {i:Nat} {set:Str},isIn s i set=true->(∀ c∈set,N8 c)->∀ c,s[i]?=some c->N8 c:=fun h hp c hc=>by obtain⟨d,h1,h2⟩:=Acx h;rw [h1] at hc;cases hc;exact hp _ h2
 have d1:∀ c∈smalls,N8 c:=dC;have d2:∀ c∈([39,96,94]:Str),N8 c:=dC;have d3:∀ c∈(([98,100,102,103,104,106,107,108,109,110,112,113,114,115,116,119,120,121,122,39]:Q00):Str),N8 c:=dC;have d4:∀ c∈(([107,115,116,110,104,109,121,114,119,103,122,100,98,112]:Q00):Str),N8 c:=dC;have d5:∀ c∈(([97,105,117,101,111]:Q00):Str),N8 c:=dC;have d6:∀ c∈([110]:Str),N8 c:=dC;have hl:dK s=true->∀ c,s[0]?=some c->N8 c:=fun h c hc=>by
  unfold dK at h;rw [hc] at h;dsimp only at h;rw [Ej] at h;rcases h with h|h;·exact d1 c (List.contains_iff_mem.1 h)
  ·simp only [Aq,Bj] at h;refine⟨?_,?_,?_⟩;all_goals rintro rfl;exact absurd h.1.2 dC
 unfold slen;repeat' split
 all_goals refine⟨fun c hc hp=>?_,fun c hc hp=>?_⟩;all_goals first |(exfalso;omega) |(rename_i h;exact hs h d1 c hc) |(rename_i h;exact hs h d3 c hc) |(rename_i h _;exact hl h c hc) |(rename_i _ h;exact hs h d2 c hc) |(rename_i h;rw [Aq] at h;exact hs h.1 d4 c hc) |(rename_i h;rw [Aq] at h;exact hs h.2 d5 c hc) |(rename_i h;rw [Ej] at h;exact h.elim (fun h=>hs h d5 c hc) (fun h=>hs h d6 c hc))
theorem Abp (k:Int) (s:Str):∀ c∈s.take (slen k s),N8 c:=fun c hc=>by
 have h2:=Abc k s;obtain⟨p0,p1⟩:=Acr k s;obtain⟨j,hj,e⟩:=Nz hc;rw [C9] at hj;rw [List.getElem_take] at e;have hg:s[j]?=some c:=by rw [<- e];exact Ae oM
 have:j=0\/j=1:=oM;rcases this with rfl|rfl;·exact p0 c hg oM
 ·exact p1 c hg oM
theorem Ov (k:Int):∀ (f:Nat) (s:Str),(letters k f s).2=[]->(∀ c∈s,N8 c)/\s.length<=2*(letters k f s).1.length
 |0,s,h=>by
  have:s=[]:=h
  subst this
  exact⟨fun c hc=>(by cases hc),Ak _⟩
 |f+1,s,h=>by
  by_cases h0:slen k s=0
  ·rw [aU k f s h0] at h ⊢
   have:s=[]:=h
   subst this
   exact⟨fun c hc=>(by cases hc),Ak _⟩
  ·rw [Jk k f s h0] at h ⊢
   obtain⟨h1,h2⟩:=Ov k f _ h
   refine⟨fun c hc=>?_,?_⟩
   ·rw [<- Fb (slen k s) s] at hc
    rcases Bz.1 hc with hc|hc
    ·exact Abp k s c hc
    ·exact h1 c hc
   ·have:=Abc k s
    simp only [Cc,Ap] at h2 ⊢
    omega
theorem O4 {k:Int} {s:Str} (h:eY k s=true):(letters k 13 s).2=[]/\(letters k 13 s).1≠[]/\(letters k 13 s).1.length<=12:=by unfold eY at h;simpa [and_assoc] using h
theorem Acs (k:Int) (x r:Str) (hx:x≠[]):slen k (x++32::r)=slen k x:=by
 have e0:∀ set,isIn (x++32::r) 0 set=isIn x 0 set:=fun set=>by
  cases x with
  |nil=>exact absurd rfl hx
  |cons a x=>rfl
 have e1:∀ set:Str,set.contains 32=false->isIn (x++32::r) 1 set=isIn x 1 set:=fun set hs=>by
  match x,hx with
  |[a],_=>simpa [isIn] using hs
  |a::b::x,_=>rfl
 have e2:dK (x++32::r)=dK x:=by
  cases x with
  |nil=>exact absurd rfl hx
  |cons a x=>rfl
 unfold slen;simp only [e0,e2,e1 [39,96,94] dC,e1 ([97,105,117,101,111]:Q00) dC]
theorem Abq (k:Int) (r:Str):slen k (32::r)=0:=by
 have e0:∀ set:Str,set.contains 32=false->isIn (32::r) 0 set=false:=fun set hs=>hs;have e2:dK (32::r)=false:=by show (smalls.contains 32||smalls.contains (32+32)&&decide (65<=(32:UInt8).toNat)&&decide ((32:UInt8).toNat<=90))=false;decide
 unfold slen;rw [e0 smalls dC,e2,e0 ([98,100,102,103,104,106,107,108,109,110,112,113,114,115,116,119,120,121,122,39]:Q00) dC,e0 ([107,115,116,110,104,109,121,114,119,103,122,100,98,112]:Q00) dC,e0 ([97,105,117,101,111]:Q00) dC,e0 [110] dC];simp
theorem Rt (k:Int) (r:Str):∀ (f:Nat) (x:Str),(letters k f x).2=[]->(letters k f x).1.length<f->letters k f (x++32::r)=((letters k f x).1,32::r)
 |0,x,_,h=>absurd h (Nat.not_lt_zero _)
 |f+1,x,h,hl=>by
  by_cases h0:slen k x=0
  ·rw [aU k f x h0] at h ⊢
   have:x=[]:=h
   subst this
   exact aU k f _ (Abq k r)
  ·have hx:x≠[]:=fun e=>h0 (by have:=nO k x;rw [e] at this ⊢;simpa using this)
   rw [Jk k f x h0] at h hl ⊢
   have hs:=Acs k x r hx
   have hle:=nO k x
   rw [Jk k f _ (by rw [hs];exact h0),hs,List.take_append_of_le_length hle,List.drop_append_of_le_length hle]
   simp only [Ap] at hl
   rw [Rt k r f _ h oM]
theorem Aav (k:Int):∀ (l:List Str) (x:Str) (ws:List Str) (f:Nat),(∀ y∈x::l,eY k y=true)->ws.length+(l.length+1)<=6->l.length<f->iW k f ws (join [32] (x::l))=some (ws++x::l)
 |[],x,ws,f,hw,hl,hf=>by
  obtain⟨f,rfl⟩:∃ g,f=g+1:=⟨f - 1,oM⟩
  obtain⟨h1,h2,h3⟩:=O4 (hw x sM)
  have hx:x≠[]:=fun e=>by rw [e] at h2;exact h2 (by rw [show (13:Nat)=12+1 from rfl,aU k 12 [] (by have:=nO k [];simpa using this)])
  show iW k (f+1) ws x=_
  unfold iW
  rw [Ai hx,Ai (by simp at hl;rintro (⟨_,h⟩|h) <;> omega)]
  generalize hq:letters k 13 x=q at *
  obtain⟨q1,q2⟩:=q
  dsimp only at h1 h2 h3 ⊢
  subst h1
  simp [h2]
 |y::l,x,ws,f,hw,hl,hf=>by
  obtain⟨f,rfl⟩:∃ g,f=g+1:=⟨f - 1,oM⟩
  obtain⟨h1,h2,h3⟩:=O4 (hw x sM)
  have ej:join [32] (x::y::l)=x++32::join [32] (y::l):=by
   show x++[32]++join [32] (y::l)=_
   simp
  rw [ej]
  have hL:=Rt k (join [32] (y::l)) 13 x h1 oM
  have ih:=Aav k l y (ws++[x]) f (fun z hz=>hw z (Bv _ hz)) (by simp at hl ⊢;omega) (by simp at hf;omega)
  unfold iW
  rw [Ai sM,hL,Ai (by simp at hl;dsimp only;rintro (⟨_,h⟩|h) <;> omega)]
  dsimp only
  rw [Ah rfl,Ai h2,show (x++32::join [32] (y::l)).length - ((join [32] (y::l)).length+1)=x.length from by simp,List.take_left,ih]
  simp
theorem Vj {c:UInt8} (r:Str):∀ (w:Str),c ∉ w->iG c (w++c::r)=some (w,r)
 |[],_=>by
  show (if c=c then _ else _)=_
  rw [Ah rfl]
 |x::w,h=>by
  show (if x=c then _ else (iG c (w++c::r)).map fun p=>(x::p.1,p.2))=_
  rw [Ai (fun e=>h (by simp [e])),Vj r w (fun e=>h (Bv _ e))]
  rfl
theorem Acd {k:Int} {x:Str} (h:eY k x=true):k=1\/k=2\/k=3\/k=4:=by
 obtain⟨_,h2,_⟩:=O4 h;by_cases h0:slen k x=0;·exact absurd (congrArg Prod.fst (aU k 12 x h0)) h2
 ·unfold slen at h0;by_cases e1:k=1;·exact .inl e1
  by_cases e2:k=2;·exact .inr (.inl e2)
  by_cases e3:k=3;·exact .inr (.inr (.inl e3))
  by_cases e4:k=4;·exact .inr (.inr (.inr e4))
  ·rw [Ai e1,Ai e2,Ai e3,Ai e4] at h0;exact absurd rfl h0
theorem Ab3 (n:Nat):∀ (l:List Str),(∀ x∈l,x.length<=n)->(join [32] l).length<=l.length*(n+1)
 |[],_=>Ak _
 |[x],h=>by
  have:=h x sM
  show x.length<=1*(n+1)
  omega
 |x::y::l,h=>by
  have h1:=h x sM
  have h2:=Ab3 n (y::l) (fun z hz=>h z (Bv _ hz))
  show (x++[32]++join [32] (y::l)).length<=(l.length+1+1)*(n+1)
  rw [Nat.succ_mul,Am,Am]
  simp only [Ap,Bf] at h2 ⊢
  omega
theorem Pq {P:UInt8->Prop} (h32:P 32):∀ (l:List Str),(∀ x∈l,∀ c∈x,P c)->∀ c∈join [32] l,P c
 |[],_,c,hc=>by cases hc
 |[x],h,c,hc=>h x sM c hc
 |x::y::l,h,c,hc=>by
  have hc:c∈x++[32]++join [32] (y::l):=hc
  rcases Bz.1 hc with hc|hc
  ·rcases Bz.1 hc with hc|hc
   ·exact h x sM c hc
   ·rw [Ad] at hc
    rw [hc]
    exact h32
  ·exact Pq h32 (y::l) (fun z hz=>h z (Bv _ hz)) c hc
theorem Abe {n:Name} (h:cZ n=true):(bD n).length<=200/\(∀ c∈bD n,c≠34/\c≠10)/\kV (bD n)=some n:=by
 obtain⟨k,ws⟩:=n;unfold cZ at h;simp only [Aq,Bj] at h;obtain⟨h1,h2,h3⟩:=h;rw [Dj] at h1;match ws,h1,h2,h3 with
 |x::l,h1,_,h3 =>
  have hk:=Acd (h1 x sM);have hlen:=Ab3 24 (x::l) (fun y hy=>by obtain⟨q1,q2,q3⟩:=O4 (h1 y hy);have:=(Ov k 13 y q1).2;omega);have ht:(title k).length<=6/\(58:UInt8) ∉ title k/\dX (title k)=k/\∀ c∈title k,c≠34/\c≠10:=by rcases hk with rfl|rfl|rfl|rfl <;> decide
  obtain⟨t1,t2,t3,t4⟩:=ht;have hl:(bD ⟨k,x::l⟩).length<=200:=by show (title k++[58]++join [32] (x::l)).length<=200;simp only [Am,Ap,Bf] at hlen h3 ⊢;have:=Ec 25 h3;omega
  refine⟨hl,fun c hc=>?_,?_⟩
  ·have hc:c∈title k++[58]++join [32] (x::l):=hc;rcases Bz.1 hc with hc|hc
   ·rcases Bz.1 hc with hc|hc;·exact t4 c hc
    ·rw [Ad] at hc;rw [hc];decide
   ·exact Pq (P:=fun c=>c≠34/\c≠10) dC (x::l) (fun y hy c hc=>by have:=(Ov k 13 y (O4 (h1 y hy)).1).1 c hc;exact⟨this.1,this.2.1⟩) c hc
  ·have hll:l.length<=(join [32] (x::l)).length:=by
    rw [O5];have:∀ m:List Str,m.length<=(m.flatMap (fun y=>32::y)).length:=fun m=>by
     induction m with
     |nil=>exact Au _
     |cons y m ih=>simp at ih ⊢;omega
    have:=this l;rw [Am];omega
   unfold kV;rw [Ai oM];show (match iG 58 (title k++[58]++join [32] (x::l)) with|none=>none|some (w,r)=>_)=_;rw [Dk,List.singleton_append,Vj _ _ t2];dsimp only;rw [t3,Ai oM,Aav k l x [] _ h1 (by simp at h3 ⊢;omega) oM];rfl
def Oj (ns:List Name):Str:=ns.flatMap (fun n=>32::([34]++bD n++[34]))++[59]
theorem Aaw:∀ (ns:List Name) (i:Nat) (c:Change),(∀ n∈ns,cZ n=true)->∃ L,Lx (Oj ns) i L/\L.length<=ns.length+1/\goC L c=some (if ns=[] then c else { c with entry:=⟨c.id,c.entry.names++ns⟩ })
 |[],i,c,_=>⟨[⟨4,i,0,[59]⟩],.sym (.inl dC) (.nil _),sM,rfl⟩
 |n::ns,i,c,h=>by
  obtain⟨h1,h2,h3⟩:=Abe (h n sM)
  obtain⟨L,l1,l2,l3⟩:=Aaw ns (i+1+(bD n).length+2) { c with entry:=⟨c.id,c.entry.names++[n]⟩ } (fun m hm=>h m (Bv _ hm))
  refine⟨⟨3,i+1,0,bD n⟩::L,?_,by simp;omega,?_⟩
  ·have:Oj (n::ns)=32::34::(bD n++34::Oj ns):=by
    unfold Oj
    simp
   rw [this]
   exact .sp (.str h2 oM l1)
  ·show (if (3:Nat)=2 then _ else if (3:Nat)=3 then (match kV (bD n) with|none=>none|some n=>goC L { c with entry:=⟨c.id,c.entry.names++[n]⟩ }) else _)=_
   rw [Ai dC,Ah rfl,h3]
   dsimp only
   rw [l3]
   by_cases e:ns=[]
   ·subst e
    simp
   ·simp [e]
theorem Abj {k:Int} (h1:1<=k) (h2:k<=4):isName (kindWord k)=true/\lZ (kindWord k)=k/\(kindWord k).length<=7:=by have:k=1\/k=2\/k=3\/k=4:=oM;rcases this with rfl|rfl|rfl|rfl <;> decide
theorem Aas {c:Change} (h:eu c=true):isName c.id=true/\1<=c.kind/\c.kind<=4/\(∀ n∈c.entry.names,cZ n=true)/\c.entry.names.length<=8/\c.entry=(if c.entry.names=[] then⟨[],[]⟩ else⟨c.id,c.entry.names⟩) /\ ((c.kind=1\/c.kind=2)/\0<=c.pos/\c.pos<=144001439\/¬ (c.kind=1\/c.kind=2)/\c.pos=0):=by
 obtain⟨kind,id,⟨eid,names⟩,pos⟩:=c;unfold eu at h;dsimp only at h ⊢;split at h;·cases h
 rename_i h1;split at h;·cases h
 rename_i h2;split at h;·cases h
 rename_i h3;simp only [Ej,G8,Bj,Le,Nq,Int.not_lt] at h1;obtain⟨⟨h1,k1⟩,k2⟩:=h1;have hn:(∀ n∈names,cZ n=true)/\names.length<=8/\(⟨eid,names⟩:Entry)=if names=[] then⟨[],[]⟩ else⟨id,names⟩:=by
  by_cases he:kind=1\/kind=3
  ·have hb:(kind==1||kind==3)=true:=by simpa using he
   rw [hb] at h2;simp [gJ] at h2;obtain⟨e1,e2,e3,e4,e5⟩:=h2;refine⟨e5,e4,?_⟩;rw [Ai (fun e=>by rw [e] at e3;exact absurd e3 sM),e1]
  ·have hb:(kind==1||kind==3)=false:=by simpa using he
   rw [hb] at h3;simp at h3;obtain⟨e1,e2⟩:=h3;subst e1 e2;exact⟨fun n hn=>(by cases hn),Ak _,rfl⟩
 refine⟨Ph h1,k1,k2,hn.1,hn.2.1,hn.2.2,?_⟩;by_cases hd:kind=1\/kind=2
 ·have hb:(kind==1||kind==2)=true:=by simpa using hd
  rw [hb] at h;simp [dD] at h;exact .inl ⟨hd,h.1,h.2⟩
 ·have hb:(kind==1||kind==2)=false:=by simpa using hd
  rw [hb] at h;simp at h;exact .inr ⟨hd,h⟩
theorem Abt {c:Change} {t:Str} (h:bH c=some t):nT t=c/\∀ x∈t,x≠10:=by
 have h':=h;unfold bH at h;split at h
 ·rename_i hok;cases h;obtain⟨f1,f2,f3,f4,f5,f6,f7⟩:=Aas hok;obtain⟨w1,w2,w3⟩:=Abj f2 f3;obtain⟨kind,id,⟨eid,names⟩,pos⟩:=c;dsimp only at *;have ht:join [32] ([kindWord kind,id]++(if (kind==1||kind==2)=true then [Go.Lib.itoa pos] else [])++names.map (fun n=>[34]++bD n++[34]))++[59] =
    kindWord kind++32::(id++((if (kind==1||kind==2)=true then 32::Go.Lib.itoa pos else [])++Oj names)):=by
   show join [32] (kindWord kind::_)++[59]=_
   unfold Oj
   rw [O5]
   split <;> simp [List.flatMap_map]
  rw [ht] at h' ⊢;have key:∀ (c0:Change),c0.id=id->c0.entry=⟨[],[]⟩->∀ i,∃ L,Lx (Oj names) i L/\L.length<=9/\goC L c0=some ⟨c0.kind,id,⟨eid,names⟩,c0.pos⟩:=fun c0 e1 e2 i=>by
   obtain⟨L,l1,l2,l3⟩:=Aaw names i c0 f4;refine⟨L,l1,oM,?_⟩;rw [l3];obtain⟨k0,i0,n0,p0⟩:=c0;dsimp only at e1 e2;subst e1 e2;by_cases e:names=[]
   ·subst e;rw [Ah rfl] at f6 ⊢;rw [f6]
   ·rw [Ai e] at f6 ⊢;rw [f6];rfl
  have hq:jX (Oj names):=by
   cases names with
   |nil=>exact V6 []
   |cons n ns=>exact Hf _
  have fin:∀ L,Lx (kindWord kind++32::(id++((if (kind==1||kind==2)=true then 32::Go.Lib.itoa pos else [])++Oj names))) 0 (⟨1,0,0,kindWord kind⟩::⟨1,(kindWord kind).length+1,0,id⟩::L)->L.length<=10 ->
    goC L ⟨kind,id,⟨[],[]⟩,0⟩=some ⟨kind,id,⟨eid,names⟩,pos⟩->nT (kindWord kind++32::(id++((if (kind==1||kind==2)=true then 32::Go.Lib.itoa pos else [])++Oj names)))=⟨kind,id,⟨eid,names⟩,pos⟩/\∀ x∈kindWord kind++32::(id++((if (kind==1||kind==2)=true then 32::Go.Lib.itoa pos else [])++Oj names)),x≠10:=fun L l1 l2 l3=>by
   refine⟨?_,Ab2 l1⟩
   unfold nT
   rw [Abu l1 naf]
   dsimp only
   rw [w2,l3]
   dsimp only
   rw [Ah h']
  rcases f7 with⟨hd,p0,p1⟩|⟨hd,p0⟩
  ·have hb:(kind==1||kind==2)=true:=by simpa using hd
   rw [hb] at fin ⊢;obtain⟨d1,d2,d3,d4⟩:=Nc p0 oM;have hp:((dec (Go.Lib.itoa pos):Nat):Int)=pos:=by rw [d4];omega
   generalize Go.Lib.itoa pos=A at *;obtain⟨L,l1,l2,l3⟩:=key ⟨kind,id,⟨[],[]⟩,pos⟩ rfl rfl (0+(kindWord kind).length+1+id.length+1+A.length);refine fin (⟨2,0+(kindWord kind).length+1+id.length+1,dec A,A⟩::L) ?_ naf ?_;·have:=Lx.name (i:=0) w1 (Hf _) (.sp (.name f1 (Hf _) (.sp (.num d1 d2 d3 hq l1))));exact FD86
   ·show goC L ⟨kind,id,⟨[],[]⟩,((dec A:Nat):Int)⟩=_;rw [hp];exact l3
  ·have hb:(kind==1||kind==2)=false:=by simpa using hd
   rw [hb] at fin ⊢;subst p0;obtain⟨L,l1,l2,l3⟩:=key ⟨kind,id,⟨[],[]⟩,0⟩ rfl rfl (0+(kindWord kind).length+1+id.length);refine fin L ?_ oM l3;have:=Lx.name (i:=0) w1 (Hf _) (.sp (.name f1 hq l1));exact FD86
 ·cases h
def bY (s:Str):Int:=if s=[45] then -1 else match Go.Lib.atoiAll s with
 |.ok v=>v
 |.range=>Go.Lib.atoiSat s
 |_=>0
def mF (s:Str):Str:=if s=[45] then [] else s
def fill (l:List Str):List Str:=l.filter fun s=>!(s==[])
def jS (c:UInt8):Nat->Str->List Str
 |0,s=>[s]
 |k+1,s=>match iG c s with
  |none=>[s]
  |some (a,b)=>a::jS c k b
def split (c:UInt8) (s:Str):List Str:=jS c (s.count c) s
def cut (c:UInt8) (s:Str):Str × Str:=(iG c s).getD (s,[])
def spl (s:Str):List Str:=split 32 s++List.replicate 10 []
def jD:aC:=⟨[],[],0,[],ji,0,0,0⟩
def BL:fV:=⟨[],[],[],0,0,0,0⟩
def BM:bC:=⟨[],[],[],[],[],[],0,0,0,0⟩
def eP:Act:=⟨0,jE,jD,BL,BM,[],0⟩
def nP (l:List Str):fV :=
 let all:=l.drop 6
 let n:=(max 0 (min (bY (l.getD 5 [])) all.length)).toNat
 ⟨l.getD 0 [],fill (all.take n),fill (all.drop n),bY (l.getD 1 []),bY (l.getD 2 []),bY (l.getD 3 []),bY (l.getD 4 [])⟩
def nS (l:List Str):bC := ⟨l.getD 0 [],l.getD 1 [],l.getD 2 [],mF (l.getD 3 []),mF (l.getD 4 []),fill (l.drop 9),bY (l.getD 5 []),bY (l.getD 6 []),bY (l.getD 7 []),bY (l.getD 8 [])⟩
def jl (w r:Str) (l:List Str):Option Act :=
 if w=([99,104,97,110,103,101]:Q00) then some { eP with kind:=1,change:=nT r }
 else if w=([109,101,97,115,117,114,101]:Q00) then some { eP with kind:=2,measure:=(qm r).getD jD }
 else if w=([114,101,112,101,97,108]:Q00) then some { eP with kind:=3,id:=l.getD 0 [],n:=bY (l.getD 1 []) }
 else if w=([114,101,118,111,107,101]:Q00) then some { eP with kind:=5,id:=l.getD 0 [],n:=bY (l.getD 1 []) }
 else if w=([101,110,100]:Q00) then some { eP with kind:=7,id:=l.getD 0 [],n:=bY (l.getD 1 []) }
 else if w=([108,105,99,101,110,99,101]:Q00) then some { eP with kind:=4,licence:=nP l }
 else if w=([104,111,108,100,105,110,103]:Q00) then some { eP with kind:=6,holding:=nS l }
 else none
def iw (s:Str):Option Act:=jl (cut 32 s).1 (cut 32 s).2 (spl (Go.Lib.trimSuffix (cut 32 s).2 [59]))
def dU:List Str->Option (List Act)
 |[]=>some []
 |s::l=>match iw s with
  |none=>none
  |some a=>(dU l).map (a::·)
def uK (ls:List Str):Option Version :=
 match dU ((ls.drop 1).take (ls.length - 3)) with
 |none=>none
 |some acts =>
  let l:=spl (ls.getD 0 [])
  let m:=spl (cut 47 (ls.getD (ls.length - 2) [])).1
  some ⟨bY (l.getD 1 []),bY (l.getD 2 []),bY (l.getD 3 []),mF (l.getD 4 []),acts,⟨bY (m.getD 1 []),fill (m.drop 2),Go.Lib.fieldsD (cut 47 (ls.getD (ls.length - 2) [])).2⟩⟩
def kJ (s:Str):Option Version :=
 if s.length > 20000\/(split 10 s).length<3\/(split 10 s).length > 43 then none
 else match uK (split 10 s) with
  |none=>none
  |some v=>match bM v with
   |.ok t=>if t=s then some v else none
   |.error _=>none
theorem uO {s:Str} {v:Version} (h:kJ s=some v):bM v=.ok s:=by
 unfold kJ at h;split at h;·cases h
 split at h;·cases h
 ·split at h
  ·rename_i t ht;split at h;·rename_i e;cases h;rw [ht,e]
   ·cases h
  ·cases h
theorem Abn {c:UInt8} {s:Str} (h:c ∉ s):split c s=[s]:=by unfold split;rw [List.count_eq_zero.2 h];rfl
theorem Oh {c:UInt8} {x r:Str} (h:c ∉ x):split c (x++c::r)=x::split c r:=by unfold split;rw [List.count_append,List.count_eq_zero.2 h,List.count_cons_self,Ba];show (match iG c (x++c::r) with|none=>_|some (a,b)=>a::jS c (r.count c) b)=_;rw [Vj r x h]
theorem Zl:∀ (l:List Str) (x:Str),(∀ y∈x::l,(32:UInt8) ∉ y)->split 32 (join [32] (x::l))=x::l
 |[],x,h=>Abn (h x sM)
 |y::l,x,h=>by
  show split 32 (x++[32]++join [32] (y::l))=_
  rw [Dk,List.singleton_append,Oh (h x sM),Zl l y (fun z hz=>h z (Bv _ hz))]
theorem Pc.itoa {n:Int} (h0:0<=n) (h1:n<=144001439000):Pc (Go.Lib.itoa n):=.vW fun c hc=>by rw [(Nc h0 h1).2.1 c hc];rfl
theorem Acg:∀ n:Fin 256,isHex (UInt8.ofNat n.val)=true->(UInt8.ofNat n.val≠10/\UInt8.ofNat n.val≠32/\UInt8.ofNat n.val≠47)/\n.val<128/\Go.Lib.isSp (UInt8.ofNat n.val)=false:=nah
theorem Aah {c:UInt8} (h:isHex c=true):(c≠10/\c≠32/\c≠47)/\c.toNat<128/\Go.Lib.isSp c=false:=by have:=Acg ⟨c.toNat,Fz c⟩;simp only [UInt8.ofNat_toNat] at this;exact this h
theorem Ny {s:Str} (h:aG s=true):s≠[]/\s≠[45]/\∀ c∈s,isHex c=true:=by unfold aG at h;rw [Aq,Eh] at h;refine⟨fun e=>?_,fun e=>?_,fun c hc=>Dj.1 h.2 c hc⟩;all_goals rw [e] at h;exact absurd h.1 dC
theorem Pc.digest {s:Str} (h:aG s=true):Pc s:=fun c hc=>(Aah ((Ny h).2.2 c hc)).1
theorem Ac9 {l:Str} (h0:l≠[]) (h:∀ c∈l,cls c=4) (hl:l.length<=13):Go.Lib.atoiAll l=.ok (dec l:Int):=by
 have key:∀ (l:Str) (acc:Nat),(∀ c∈l,cls c=4)->Go.Lib.decFrom acc l=some (l.foldl (fun n c=>n*10+(c.toNat - 48)) acc):=by
  intro l;induction l with
  |nil=>intro acc _;rfl
  |cons c l ih =>intro acc h;have hc:=oO c (h c sM);unfold Go.Lib.decFrom Go.Lib.digitVal;rw [Ah hc];exact ih _ fun x hx=>h x (Bv _ hx)
 rw [Go.Lib.atoiAll_short l oM];cases l with
 |nil=>exact absurd rfl h0
 |cons c l =>have hc:=oO c (h c sM);have e45:(c==45)=false:=Dl.2 (by rintro rfl;exact absurd hc.1 dC);have e43:(c==43)=false:=Dl.2 (by rintro rfl;exact absurd hc.1 dC);show Go.Lib.NumEnd.ofOption (if (c==45)=true then _ else if (c==43)=true then _ else ((if (c::l).isEmpty=true then none else Go.Lib.decFrom 0 (c::l)).map fun (m:Nat)=>(m:Int)))=_;rw [e45,e43,key (c::l) 0 h];rfl
theorem Ace {n:Int} (h0:0<=n) (h1:n<=144001439000):bY (Go.Lib.itoa n)=n:=by obtain⟨d1,d2,d3,d4⟩:=Nc h0 h1;unfold bY;rw [Ai (fun e=>by rw [e] at d2;exact absurd (d2 45 sM) dC),Ac9 d1 d2 d3,d4];show (n.toNat:Int)=n;omega
def dB (n:Int):Str:=if n = -1 then [45] else Go.Lib.itoa n
theorem O6 (n:Int):(Word.int n).texts=[dB n]:=by show (if n = -1 then [[45]] else [Go.Lib.itoa n])=_;unfold dB;split <;> rfl
def Nn (n:Int):Prop:=n = -1\/0<=n/\n<=144001439000
theorem Jr {n:Int} (h:Nn n):bY (dB n)=n:=by
 unfold dB;rcases h with rfl|⟨h0,h1⟩;·rfl
 ·rw [Ai oM,Ace h0 h1]
theorem Pc.dB {n:Int} (h:Nn n):Pc (dB n):=by
 unfold CH.dB;rcases h with rfl|⟨h0,h1⟩;·intro c hc;rw [Ah rfl,Ad] at hc;subst hc;decide
 ·rw [Ai oM];exact Pc.itoa h0 h1
theorem Adb {s:Str} (h:isName s=true):s≠[]/\s≠[45]:=by refine⟨Js h,fun e=>?_⟩;rw [e] at h;exact absurd h dC
theorem Nl {s:Str} (h:s≠[]):(Word.str s).texts=[s]:=by show [if s=[] then [45] else s]=_;rw [Ai h]
def dash (s:Str):Str:=if s=[] then [45] else s
theorem Aba (s:Str):(Word.str s).texts=[dash s]:=rfl
theorem Vy {s:Str} (h:s≠[45]):mF (dash s)=s:=by
 unfold mF dash;by_cases e:s=[]
 ·subst e;rfl
 ·rw [Ai e,Ai h]
theorem Pc.dash {s:Str} (h:s=[]\/Pc s):Pc (dash s):=by
 unfold CH.dash;split;·intro c hc;rw [Ad] at hc;subst hc;decide
 ·rename_i e;exact h.resolve_left e
theorem Vb {l:List Str} (h:∀ s∈l,s≠[]) (n:Nat):fill (l++List.replicate n [])=l:=by unfold fill;rw [Kr,List.filter_eq_self.2 (fun s hs=>by simpa using h s hs),Jp.2 (fun s hs=>by rw [List.eq_of_mem_replicate hs];decide),Fj]
theorem Ac5 {l:List Str} (h:∀ s∈l,s≠[]):fill l=l:=by have:=Vb h 0;exact FD86
theorem Ab7 (s:Str):Go.Lib.trimSuffix (s++[59]) [59]=s:=by unfold Go.Lib.trimSuffix Go.Lib.hasSuffix;rw [Ah (by simp [List.isSuffixOf])];simp
theorem Y1 {c:UInt8} {w r:Str} (h:c ∉ w):cut c (w++c::r)=(w,r):=by unfold cut;rw [Vj r w h];rfl
theorem Aa9 {a:Act} (h:unused a=true):(a.kind≠1->a.change=jE)/\(a.kind≠2->a.measure=jD)/\(a.kind≠4->a.licence=BL)/\(a.kind≠6->a.holding=BM)/\(a.kind≠3->a.kind≠5->a.kind≠7->a.id=[]/\a.n=0):=by
 unfold unused at h;simp only [Aq,G8,Lm] at h;obtain⟨⟨⟨⟨h1,h2⟩,h3⟩,h4⟩,h5⟩:=h;obtain⟨kind,change,measure,licence,holding,id,n⟩:=a;dsimp only at *;refine⟨fun hk=>?_,fun hk=>?_,fun hk=>?_,fun hk=>?_,fun k3 k5 k7=>?_⟩;·have:iJ change=false:=h1.resolve_right (by split <;> simp <;> omega);obtain⟨a1,a2,⟨a3,a4⟩,a5⟩:=change;simp [iJ] at this;obtain⟨⟨⟨⟨rfl,rfl⟩,rfl⟩,rfl⟩,rfl⟩:=this;rfl
 ·have:dI measure=true:=by
   rcases h2 with h2|h2;·simpa using h2
   ·exfalso;split at h2 <;> simp at h2 <;> omega
  obtain⟨b1,b2,b3,b4,⟨c1,c2,c3,c4,c5⟩,b6,b7,b8⟩:=measure;unfold dI at this;simp only [Aq,Eh] at this;obtain⟨e,⟨⟨⟨q1,q2⟩,q3⟩,q4⟩,q5⟩:=this;simp only [List.cons.injEq,and_true] at e;obtain⟨rfl,rfl,rfl,e4,e5,e6,e7⟩:=e;have:c1=0:=q1;subst this;have:c2=[]:=q2;subst this;have:c3=0:=q3;subst this;have:c4=0:=q4;subst this;have:c5=[]:=List.eq_nil_of_length_eq_zero q5;subst this;rw [Qq e4,Qq e5,Qq e6,Qq e7];rfl
 ·have:gK licence=false:=h3.resolve_right (by split <;> simp <;> omega);obtain⟨a1,a2,a3,a4,a5,a6,a7⟩:=licence;simp [gK] at this;obtain⟨⟨⟨⟨⟨⟨rfl,rfl⟩,rfl⟩,rfl⟩,rfl⟩,rfl⟩,rfl⟩:=this;rfl
 ·have:gQ holding=false:=h4.resolve_right (by split <;> simp <;> omega);obtain⟨a1,a2,a3,a4,a5,a6,a7,a8,a9,a10⟩:=holding;simp [gQ] at this;obtain⟨⟨⟨⟨⟨⟨⟨⟨⟨rfl,rfl⟩,rfl⟩,rfl⟩,rfl⟩,rfl⟩,rfl⟩,rfl⟩,rfl⟩,rfl⟩:=this;rfl
 ·have:(id != []||n != 0)=false:=h5.resolve_right (by rw [Ai oM];simp;omega);exact FD86
theorem Abb {l:List Str} {x:Str} (h:∀ y∈x::l,Pc y):spl (join [32] (x::l))=x::l++List.replicate 10 []:=by unfold spl;rw [Zl l x fun y hy=>(h y hy).sp]
theorem Uc {w:Str} {l:List Str} {x:Str} (hw:(32:UInt8) ∉ w) (h:∀ y∈x::l,Pc y):iw (join [32] (w::x::l)++[59])=jl w (join [32] (x::l)++[59]) (x::l++List.replicate 10 []):=by
 unfold iw;have e:join [32] (w::x::l)++[59]=w++32::(join [32] (x::l)++[59]):=by show w++[32]++join [32] (x::l)++[59]=_;simp
 rw [e,Y1 hw];dsimp only;rw [Ab7,Abb h]
theorem Wj {l:List Str} (h:∀ y∈l,Pc y):∀ c∈join [32] l++[59],c≠10 := sH (Pq (P:=fun c=>c≠10) dC l fun x hx c hc=>(h x hx c hc).1) dC
theorem jo (k:Int):∀ (f:Nat) (s:Str),(letters k f s).1.flatten++(letters k f s).2=s
 |0,s=>rfl
 |f+1,s=>by
  by_cases h0:slen k s=0
  ·rw [aU k f s h0]
   rfl
  ·rw [Jk k f s h0]
   show s.take _++_++_=s
   rw [Dk,jo k f,Fb]
theorem tK {k:Int} {s:Str} (h:slen k s≠0):(letters k 13 s).1≠[]:=by rw [Jk k 12 s h];exact List.cons_ne_nil _ _
theorem xY {k:Int} {f:Nat} {ws:List Str} {s:Str} (h0:s≠[]) (h:((letters k 13 s).1≠[]/\ws.length=6)\/12<(letters k 13 s).1.length):iW k (f+1) ws s=none:=by unfold iW;rw [Ai h0,Ah h]
theorem yK (k:Int) (f:Nat) (ws:List Str):iW k (f+1) ws []=if ws=[] then none else some ws:=by unfold iW;rw [Ah rfl]
theorem qF {c:UInt8}:∀ {s:Str} {w r:Str},iG c s=some (w,r)->s=w++c::r
 |[],_,_,h=>by cases h
 |x::s,w,r,h=>by
  unfold iG at h
  split at h
  ·rename_i e
   cases h
   rw [e]
   rfl
  ·cases hq:iG c s with
   |none=>rw [hq] at h;cases h
   |some p =>
    rw [hq] at h
    cases h
    exact congrArg (x::·) (qF (w:=p.1) (r:=p.2) hq)
def uJ (k:Int) (f:Nat) (ws:List Str):Str->Option (List Str)
 |[]=>if ws=[] then none else some ws
 |c::s'=>if c=32 then iW k f ws s' else none
def BH (ws xs:List Str):List Str:=if xs=[] then ws else ws++[xs.flatten]
theorem xX {k:Int} {f:Nat} {ws:List Str} {s:Str} {xs:List Str} {r:Str} (h0:s≠[]) (hx:letters k 13 s=(xs,r)) (h1:xs≠[]->ws.length≠6) (h2:xs.length<=12):iW k (f+1) ws s=uJ k f (BH ws xs) r:=by
 have hf:=jo k 13 s;unfold iW BH;rw [hx] at hf ⊢;dsimp only at hf ⊢;rw [Ai h0,Ai (by rintro (⟨a,b⟩|a);exact h1 a b;omega)];cases r with
 |nil =>rw [Fj] at hf;rw [hf];rfl
 |cons c s' =>
  have:s.take (s.length - (s'.length+1))=xs.flatten:=by rw [<- hf,List.take_left'];simp
  dsimp only;rw [this];rfl
theorem Aa2:∀ (l:Str) (n:Nat),l.foldl (fun n (c:UInt8)=>n*10+(c.toNat - 48)) n+23<=(n+23)*10 ^ l.length
 |[],n=>by simp
 |c::l,n=>by
  have h:=Aa2 l (n*10+(c.toNat - 48))
  have hc:c.toNat<256:=Fz c
  rw [Na,Ap,Jh]
  have h2:(n*10+(c.toNat - 48)+23)*10 ^ l.length<=((n+23)*10)*10 ^ l.length:=Ec _ oM
  rw [show (n+23)*(10 ^ l.length*10)=((n+23)*10)*10 ^ l.length from by rw [Nh (10 ^ l.length) 10,Nat.mul_assoc]]
  omega
theorem Ack {l:Str} (h:l.length<=13):dec l<=230000000000000:=by have h1:=Aa2 l 0;have h2:10 ^ l.length<=10 ^ 13:=J4 oM h;unfold dec;omega
theorem Acv {s:Str} {i:Nat} {t:Tok} {j:Nat} (h:next s i=.ok (t,j)):t.n<=230000000000000:=by
 unfold next at h
 repeat' split at h
 all_goals first
  |(cases h;done)
  |(cases h;exact Ak _)
  |(rename_i hn
    cases h
    exact Ack (by
     have h1:=List.length_take_le (bK s [4] i - i) (s.drop i)
     omega))
theorem Abf (s:Str):∀ (f i:Nat) (out ts:List Tok),jm s f i out=.ok ts->(∀ t∈out,t.n<=230000000000000)->∀ t∈ts,t.n<=230000000000000
 |0,i,out,ts,h,ho=>by cases h;exact ho
 |f+1,i,out,ts,h,ho=>by
  unfold jm at h
  split at h
  ·split at h
   ·cases h
   ·rename_i u j hu
    split at h
    ·cases h
    ·refine Abf s f _ _ ts h fun t ht=>?_
     rcases Bz.1 ht with h1|h1
     ·exact ho t h1
     ·rw [Ad] at h1
      subst h1
      exact Acv hu
  ·cases h
   exact ho
theorem xq {s:Str} {ts:List Tok} (h:lex s=.ok ts):∀ t∈ts,t.n<=230000000000000:=Abf s _ _ _ ts h fun t ht=>by cases ht
theorem Zp (k:Int) (m:Nat):∀ (f:Nat) (ws:List Str) (s:Str) (l:List Str),iW k f ws s=some l->ws.length<=6->(∀ w∈ws,w.length<=m)->s.length<=m->l.length<=6/\∀ w∈l,w.length<=m
 |0,ws,s,l,h,_,_,_=>by cases h
 |f+1,ws,s,l,h,h1,h2,h3=>by
  unfold iW at h
  split at h
  ·split at h
   ·cases h
   ·cases h
    exact⟨h1,h2⟩
  ·split at h
   ·cases h
   ·rename_i hno
    have hno:=Le.1 hno
    have grown:∀ y:Str,y.length<=m->(if (letters k 13 s).1=[] then ws else ws++[y]).length<=6/\∀ w∈(if (letters k 13 s).1=[] then ws else ws++[y]),w.length<=m:=fun y hy=>by
     by_cases he:(letters k 13 s).1=[]
     ·rw [Ah he]
      exact⟨h1,h2⟩
     ·rw [Ai he]
      have:ws.length≠6:=fun e=>hno.1 ⟨he,e⟩
      refine⟨by rw [Am,Dq];omega,fun w hw=>?_⟩
      rcases Bz.1 hw with hw|hw
      ·exact h2 w hw
      ·rw [Ad] at hw
       rw [hw]
       exact hy
    split at h
    ·by_cases he:(if (letters k 13 s).1=[] then ws else ws++[s])=[]
     ·rw [Ah he] at h
      cases h
     ·rw [Ai he] at h
      cases h
      exact grown s h3
    ·rename_i c s' hr
     split at h
     ·have hl:=kL k 13 s
      rw [hr,Ap] at hl
      obtain⟨g1,g2⟩:=grown (s.take (s.length - (s'.length+1))) (by rw [C9];omega)
      exact Zp k m f _ s' l h g1 g2 oM
     ·cases h
theorem uM {s:Str} {n:Name} (h:kV s=some n):n.words.length<=6/\∀ w∈n.words,w.length<=s.length:=by
 unfold kV at h;split at h;·cases h
 ·split at h;·cases h
  ·rename_i w r hc;split at h;·cases h
   ·cases hs:iW (dX w) (r.length+1) [] r with
    |none=>rw [hs] at h;cases h
    |some l =>rw [hs] at h;cases h;have hl:=congrArg List.length (qF hc);rw [Am,Ap] at hl;exact Zp _ s.length _ [] r l hs sM (fun w hw=>by cases hw) oM
structure bU (s:Str) (L:List Tok):Prop where
 ap:apart L
 pos:∀ t∈L,t.pos+t.text.length<=s.length
 num:∀ t∈L,t.n<=230000000000000
theorem bU.lex {s:Str} {ts:List Tok} (h:lex s=.ok ts):bU s ts:=⟨(pK h).1,(pK h).2,xq h⟩
theorem bU.tail {s:Str} {t:Tok} {L:List Tok} (h:bU s (t::L)):bU s L := ⟨(Ie.1 h.ap).2,fun x hx=>h.pos x (Bv _ hx),fun x hx=>h.num x (Bv _ hx)⟩
theorem bU.drop {s:Str} {L:List Tok} (h:bU s L) (n:Nat):bU s (L.drop n) := ⟨h.ap.sublist (List.drop_sublist n L),fun x hx=>h.pos x (Gf hx),fun x hx=>h.num x (Gf hx)⟩
theorem sW {k:Nat} {x:Str} {L L':List Tok} {t:Tok} (h:tkK k x L=some (t,L')):L=t::L':=by
 cases L with
 |nil=>cases h
 |cons u l =>
  unfold tkK at h;dsimp only at h;split at h;·cases h;rfl
  ·cases h
theorem Tv {s no x:Str} {L L':List Tok} (h:iY no L=some (x,L')) (hg:bU s L):bU s L'/\x.length<=s.length:=by
 unfold iY at h;split at h;·cases h
 ·rename_i t l ht;split at h;·cases h
  ·cases h;have e:=sW ht;subst e;exact⟨hg.tail,by have:=hg.pos t sM;omega⟩
theorem pJ {s:Str} {a b n:Int} {L L':List Tok} (h:nV a b L=some (n,L')) (hg:bU s L):bU s L'/\a<=n/\n<=b:=by
 unfold nV at h;split at h;·cases h
 ·rename_i t l ht;split at h;·cases h
  ·rename_i q;cases h;have e:=sW ht;subst e;exact⟨hg.tail,oM,oM⟩
theorem qI {s:Str} {k:Nat} {x:Str} {L L':List Tok} {t:Tok} (h:tkK k x L=some (t,L')) (hg:bU s L):bU s L':=by have e:=sW h;subst e;exact hg.tail
theorem mZ {s w:Str} {L:List Tok} (hg:bU s L):bU s (dP w L).2:=by
 cases L with
 |nil=>exact hg
 |cons t l =>
  unfold dP;dsimp only;split;·exact hg.tail
  ·exact hg
theorem Aal {s i a x y:Str} {L L':List Tok} (h:jk i a L=some (x,y,L')) (hg:bU s L):bU s L'/\x.length<=s.length/\y.length<=s.length:=by
 unfold jk at h;split at h;·cases h
 ·rename_i x1 L1 h1;obtain⟨g1,l1⟩:=Tv h1 hg;split at h;·cases h
  ·rename_i t2 L2 h2;have g2:=qI h2 g1;split at h;·cases h
   ·rename_i x3 L3 h3;obtain⟨g3,l3⟩:=Tv h3 g2;cases h;exact⟨g3,l1,l3⟩
theorem wM {s t i a:Str} {k:Int} {L L':List Tok} (h:lU k L=some (t,i,a,L')) (hg:bU s L):bU s L'/\t.length<=s.length/\i.length<=s.length/\a.length<=s.length:=by
 unfold lU at h;split at h;·obtain⟨⟨x,y,l⟩,hx,e⟩:=F7.1 h;cases e;obtain⟨g1,l1,l2⟩:=Aal hx hg;exact⟨g1,Ak _,l1,l2⟩
 ·split at h;·cases h
  ·rename_i t1 L1 h1;obtain⟨g1,l1⟩:=Tv h1 hg;split at h;all_goals obtain⟨⟨x,y,l⟩,hx,e⟩:=F7.1 h;cases e;obtain⟨g2,l2,l3⟩:=Aal hx g1;exact⟨g2,l1,l2,l3⟩
theorem yj {s:Str} {L:List Tok} (h:(dP ([105,102]:Q00) L).1=true) (hg:bU s L) (n:Nat):posOf L+2<=mW s ((dP ([105,102]:Q00) L).2.drop n)/\mW s ((dP ([105,102]:Q00) L).2.drop n)<=s.length:=by
 cases L with
 |nil=>cases h
 |cons t l =>
  unfold dP at h ⊢;dsimp only at h ⊢;split at h
  ·rename_i hw;rw [Ah hw];have ht:t.text.length=2:=by unfold isWord at hw;rw [Aq,Eh,Eh] at hw;rw [hw.2];rfl
   have h0:=hg.pos t sM;show t.pos+2<=mW s (l.drop n)/\_;cases hd:l.drop n with
   |nil=>exact⟨by show t.pos+2<=s.length;omega,Au _⟩
   |cons u r =>have hu:u∈l:=Gf (by rw [hd];simp);have h1:=(Ie.1 hg.ap).1 u hu;have h2:=hg.pos u (by simp [hu]);exact⟨by show t.pos+2<=u.pos;omega,by show u.pos<=s.length;omega⟩
  ·cases h
theorem Td (l:List Str):(Word.strs l).texts=l:=rfl
theorem within_iff {n m:Int}:within n m=true↔0<=n/\n<=m:=by unfold within;simp
theorem Aac {l:fV} (h:aW l=true):isName l.id=true/\(∀ s∈l.measures,isName s=true)/\(∀ s∈l.aO,isName s=true)/\l.measures.length<=12/\Nn l.quota/\Nn l.uses/\Nn l.start/\Nn l.aF:=by unfold aW bF at h;simp only [Aq,within_iff,Bj,Dj] at h;obtain⟨⟨⟨⟨⟨⟨h1,⟨h2,h3⟩,h4,h5⟩,h6⟩,h7⟩,h8⟩,h9⟩,h10⟩:=h;exact⟨h1,h2.1,h3.1,h4.2,.inr oM,.inr oM,.inr oM,.inr oM⟩
theorem Aaj {h:bC} (e:dF h=true):isName h.id=true/\isName h.company=true/\isName h.holder=true/\(h.aH=[]\/isName h.aH=true)/\(h.aJ=[]\/isName h.aJ=true)/\(∀ s∈h.joint,isName s=true)/\Nn h.capital/\Nn h.dV/\Nn h.start/\Nn h.stop:=by unfold dF at e;simp only [Aq,Ej,within_iff,Bj,Dj,G8,Ez,Kt,Eh] at e;obtain⟨⟨⟨⟨⟨⟨⟨⟨⟨h1,h2⟩,h3⟩,h4⟩,h5⟩,h6⟩,h7⟩,h8,h9⟩,⟨⟨h10,h11⟩,h12⟩,h13⟩,h14,h15⟩:=e;exact⟨h1,h2,h3,h4,h5,h8,.inr oM,.inr oM,.inr oM,h15.elim .inl fun h=>.inr oM⟩
theorem Pc.lit {s:Str} (h:isName s=true):Pc s:=.name h
theorem Aar {a:Act} {t:Str} (h:aY a=some t):iw t=some a/\∀ c∈t,c≠10:=by
 unfold aY at h;split at h;·cases h
 rename_i hu;obtain⟨u1,u2,u3,u4,u5⟩:=Aa9 (a:=a) (by simpa using hu);obtain⟨kind,change,measure,licence,holding,id,n⟩:=a;dsimp only at *;split at h;·rename_i hk;subst hk;obtain⟨v,hv,rfl⟩:=F7.1 h;obtain⟨r1,r2⟩:=Abt hv;refine⟨?_,sH (a:=([99,104,97,110,103,101,32]:Q00)) dC r2⟩;show iw (([99,104,97,110,103,101]:Q00)++32::v)=_;unfold iw;rw [Y1 dC];dsimp only;unfold jl;rw [Ah rfl,r1,u2 dC,u3 dC,u4 dC,(u5 dC dC dC).1,(u5 dC dC dC).2];rfl
 split at h;·rename_i hk;subst hk;obtain⟨v,hv,rfl⟩:=F7.1 h;obtain⟨r1,r2⟩:=Abr hv;refine⟨?_,sH (a:=([109,101,97,115,117,114,101,32]:Q00)) dC r2⟩;show iw (([109,101,97,115,117,114,101]:Q00)++32::v)=_;unfold iw;rw [Y1 dC];dsimp only;unfold jl;rw [Ai dC,Ah rfl,r1,u1 dC,u3 dC,u4 dC,(u5 dC dC dC).1,(u5 dC dC dC).2];rfl
 split at h
 ·rename_i hk;subst hk;split at h
  ·rename_i hok;cases h;obtain⟨f1,f2,f3,f4,f5,f6,f7,f8⟩:=Aac hok;obtain⟨i,ms,ps,q,us,st,un⟩:=licence;dsimp only at *;have hlen:Nn (ms.length:Int):=.inr oM;have hP:∀ y∈i::dB q::dB us::dB st::dB un::dB ms.length::(ms++ps),Pc y:=by simp only [List.forall_mem_cons,List.forall_mem_append];exact⟨.name f1,.dB f5,.dB f6,.dB f7,.dB f8,.dB hlen,fun s hs=>.name (f2 s hs),fun s hs=>.name (f3 s hs)⟩
   have hw:words [.str ([108,105,99,101,110,99,101]:Q00),.str i,.int q,.int us,.int st,.int un,.int ms.length,.strs ms,.strs ps]=join [32] (([108,105,99,101,110,99,101]:Q00)::i::dB q::dB us::dB st::dB un::dB ms.length::(ms++ps)):=by unfold words;simp only [Fe,Ii,O6,Nl (Js f1),Nl (s:=([108,105,99,101,110,99,101]:Q00)) dC,Td,Fj];rfl
   rw [hw];refine⟨?_,Wj ?_⟩
   ·rw [Uc dC hP];unfold jl;rw [Ai dC,Ai dC,Ai dC,Ai dC,Ai dC,Ah rfl,u1 dC,u2 dC,u4 dC,(u5 dC dC dC).1,(u5 dC dC dC).2];unfold nP;simp only [D6,Gx,Gv,List.getD_cons_zero,List.getD_cons_succ,Jr f5,Jr f6,Jr f7,Jr f8,Jr hlen];have e:(max 0 (min (ms.length:Int) ((ms++ps++List.replicate 10 ([]:Str)).length:Nat))).toNat=ms.length:=by simp only [Am];omega
    rw [e,Dk,List.take_left,List.drop_left,Ac5 fun s hs=>Js (f2 s hs),Vb fun s hs=>Js (f3 s hs)];rfl
   ·intro y hy;rcases Az.1 hy with rfl|hy;·exact .name rfl
    ·exact hP y hy
  ·cases h
 split at h
 ·rename_i hk;subst hk;split at h
  ·rename_i hok;cases h;obtain⟨f1,f2,f3,f4,f5,f6,f7,f8,f9,f10⟩:=Aaj hok;obtain⟨i,co,ho,nm,pl,jt,ca,vo,st,sp⟩:=holding;dsimp only at *;have hP:∀ y∈i::co::ho::dash nm::dash pl::dB ca::dB vo::dB st::dB sp::jt,Pc y:=by simp only [List.forall_mem_cons];exact⟨.name f1,.name f2,.name f3,.dash (f4.imp (fun e=>e) .name),.dash (f5.imp (fun e=>e) .name),.dB f7,.dB f8,.dB f9,.dB f10,fun s hs=>.name (f6 s hs)⟩
   have hw:words [.str ([104,111,108,100,105,110,103]:Q00),.str i,.str co,.str ho,.str nm,.str pl,.int ca,.int vo,.int st,.int sp,.strs jt]=join [32] (([104,111,108,100,105,110,103]:Q00)::i::co::ho::dash nm::dash pl::dB ca::dB vo::dB st::dB sp::jt):=by unfold words;simp only [Fe,Ii,O6,Nl (Js f1),Nl (Js f2),Nl (Js f3),Aba,Td,Fj];rfl
   rw [hw];have hne:∀ s:Str,s=[]\/isName s=true->s≠[45]:=fun s hs=>hs.elim (fun e=>by rw [e];decide) fun h=>(Adb h).2;refine⟨?_,Wj ?_⟩;·rw [Uc dC hP];unfold jl;rw [Ai dC,Ai dC,Ai dC,Ai dC,Ai dC,Ai dC,Ah rfl,u1 dC,u2 dC,u3 dC,(u5 dC dC dC).1,(u5 dC dC dC).2];unfold nS;simp only [D6,Gx,Gv,List.getD_cons_zero,List.getD_cons_succ,Jr f7,Jr f8,Jr f9,Jr f10,Vy (hne _ f4),Vy (hne _ f5)];rw [Vb fun s hs=>Js (f6 s hs)];rfl
   ·intro y hy;rcases Az.1 hy with rfl|hy;·exact .name rfl
    ·exact hP y hy
  ·cases h
 split at h
 ·rename_i hk;by_cases hok:(ident id&&within n (if kind=5 then 144001439 else 100000))=true
  ·rw [Ah hok] at h;cases h;rw [Aq,within_iff] at hok;obtain⟨f1,f2,f3⟩:=hok;have f1:=Ph f1;have hn:Nn n:=.inr ⟨f2,by split at f3 <;> omega⟩;have hwd:isName (mg kind)=true:=by rcases hk with rfl|rfl|rfl <;> decide
   have hP:∀ y∈id::[dB n],Pc y:=by simp only [List.forall_mem_cons];exact⟨.name f1,.dB hn,fun s hs=>by cases hs⟩
   have hw:words [.str (mg kind),.str id,.int n]=join [32] (mg kind::id::[dB n]):=by unfold words;simp only [Fe,Ii,O6,Nl (Js f1),Nl (Js hwd),Fj];rfl
   rw [hw];refine⟨?_,Wj ?_⟩
   ·rw [Uc (Pc.name hwd).sp hP];rw [u1 oM,u2 oM,u3 oM,u4 oM];have hnum:=Jr hn;rcases hk with rfl|rfl|rfl;·show some _=some _;simp [hnum,eP]
    ·show some _=some _;simp [hnum,eP]
    ·show some _=some _;simp [hnum,eP]
   ·intro y hy;rcases Az.1 hy with rfl|hy;·exact .name hwd
    ·exact hP y hy
  ·rw [Ai hok] at h;cases h
 ·cases h
theorem Sz:∀ {l:List Act} {t:Str},eF l=some t->∃ ts:List Str,ts.length=l.length/\dU ts=some l/\(∀ r,split 10 (t++r)=ts++split 10 r)
 |[],t,h=>by
  cases h
  exact⟨[],rfl,rfl,fun r=>rfl⟩
 |a::l,t,h=>by
  unfold eF at h
  split at h
  ·cases h
  ·rename_i u hu
   obtain⟨v,hv,rfl⟩:=F7.1 h
   obtain⟨ts,h1,h2,h3⟩:=Sz hv
   obtain⟨r1,r2⟩:=Aar hu
   refine⟨u::ts,by simp [h1],?_,fun r=>?_⟩
   ·unfold dU
    rw [r1]
    dsimp only
    rw [h2]
    rfl
   ·show split 10 (u++[10]++v++r)=_
    rw [Dk,Dk,List.singleton_append,Oh fun e=>r2 10 e rfl,h3]
    rfl
theorem X9:∀ (l:List Str),(∀ s∈l,aG s=true)->∀ (cur:Str),(cur=[]\/∃ d,aG d=true/\cur=d)->Go.Lib.fieldsGo cur (l.flatMap fun s=>32::s)=(if cur=[] then l else cur::l)
 |[],_,cur,_=>by
  cases cur <;> rfl
 |d::l,h,cur,hc=>by
  have hd:=h d sM
  obtain⟨d1,_,d3⟩:=Ny hd
  have go:∀ (x cur r:Str),(∀ c∈x,isHex c=true)->Go.Lib.fieldsGo cur (x++r)=Go.Lib.fieldsGo (cur++x) r:=by
   intro x
   induction x with
   |nil=>intro cur r _;simp
   |cons c x ih =>
    intro cur r hx
    rw [D6,Go.Lib.fieldsGo_more _ _ _ (Aah (hx c sM)).2.2,ih _ _ fun y hy=>hx y (Bv _ hy)]
    simp
  show Go.Lib.fieldsGo cur (32::(d++l.flatMap fun s=>32::s))=_
  have ih:=X9 l (fun s hs=>h s (Bv _ hs)) d (.inr ⟨d,hd,rfl⟩)
  rw [Ai d1] at ih
  by_cases e:cur=[]
  ·subst e
   rw [Go.Lib.fieldsGo_sp _ _ dC,go d [] _ d3,Ah rfl]
   exact ih
  ·rw [Go.Lib.fieldsGo_end _ _ _ dC e,go d [] _ d3,Ai e]
   exact congrArg _ ih
theorem Vh {l:List Str} {m:Nat} (h:dN l m=true):l.length<=m/\∀ s∈l,aG s=true:=by unfold dN at h;rw [Aq,Bj,G8,Jz] at h;exact⟨h.1,fun s hs=>by simpa using h.2 s hs⟩
theorem Zk:∀ (l:List Str) (x r:Str),(∀ y∈x::l,(32:UInt8) ∉ y)->split 32 (join [32] (x::l)++32::r)=x::l++split 32 r
 |[],x,r,h=>Oh (h x sM)
 |y::l,x,r,h=>by
  show split 32 (x++[32]++join [32] (y::l)++32::r)=_
  rw [Dk,Dk,List.singleton_append,Oh (h x sM)]
  exact congrArg _ (Zk l y r fun z hz=>h z (Bv _ hz))
theorem Aa7 {l:List Str} (h:∀ s∈l,aG s=true):Go.Lib.fieldsD (l.flatMap fun s=>32::s)=l:=by
 rw [Go.Lib.fieldsD_ascii _ fun b hb=>?_];·have:=X9 l h [] (.inl rfl);rw [Ah rfl] at this;exact this
 ·obtain⟨s,hs,hb⟩:=List.mem_flatMap.1 hb;rcases Az.1 hb with rfl|hb;·decide
  ·exact (Aah ((Ny (h s hs)).2.2 b hb)).2.1
theorem Ab0 {v:Version} {b:Str} (h:bare v=some b):Nn v.authority/\Nn v.number/\Nn v.pos/\v.acts.length<=40/\(v.prev=[]\/aG v.prev=true)/\∃ t,eF v.acts=some t/\b=words [.str ([118,101,114,115,105,111,110]:Q00),.int v.authority,.int v.number,.int v.pos,.str v.prev]++[10]++t:=by
 unfold bare at h;split at h;·cases h
 rename_i hB;obtain⟨t,ht,rfl⟩:=F7.1 h;rw [Ej,Ej,Le,Le] at hB;obtain⟨⟨h1,_⟩,h3⟩:=hB;simp only [Ug,Kt,Aq,within_iff,dD,Bj] at h1;obtain⟨⟨⟨a1,a2⟩,a3⟩,a4⟩:=h1;refine⟨.inr oM,.inr oM,.inr oM,a4,?_,t,ht,rfl⟩;by_cases e:v.prev=[]
 ·exact .inl e
 ·refine .inr ?_;simpa [e] using h3
theorem lY {v:Version} {s:Str} (h:bM v=.ok s):kJ s=some v:=by
 have h0:=h;unfold bM at h;split at h;·cases h
 rename_i b hb;split at h
 ·rename_i hc;dsimp only at h;split at h;·cases h
  ·rename_i hl;cases h;simp only [Aq,within_iff] at hc;obtain⟨⟨c1,c3⟩,c4⟩:=hc;obtain⟨s1,s2⟩:=Vh c3;obtain⟨p1,p2⟩:=Vh c4;obtain⟨b1,b2,b3,b4,b5,t,ht,rfl⟩:=Ab0 hb;obtain⟨ts,t1,t2,t3⟩:=Sz ht;obtain⟨au,nu,po,prev,acts,ix,sig,path⟩:=v;dsimp only at *;have hix:Nn ix:=.inr oM;have JE:prev=[]\/Pc prev:=b5.imp id .digest;have hH:∀ y∈([118,101,114,115,105,111,110]:Q00)::[dB au,dB nu,dB po,dash prev],Pc y:=by simp only [List.forall_mem_cons];exact⟨.name rfl,.dB b1,.dB b2,.dB b3,.dash JE,fun s hs=>by cases hs⟩
   have hZ:∀ y∈([115,101,97,108]:Q00)::(dB ix::sig),Pc y:=by simp only [List.forall_mem_cons];exact⟨.name rfl,.dB hix,fun s hs=>.digest (s2 s hs)⟩
   have e1:words [.str ([118,101,114,115,105,111,110]:Q00),.int au,.int nu,.int po,.str prev]=join [32] (([118,101,114,115,105,111,110]:Q00)::[dB au,dB nu,dB po,dash prev]):=by unfold words;simp only [Fe,Ii,O6,Aba,Fj];rfl
   have e2:words [.str ([115,101,97,108]:Q00),.int ix,.strs sig,.str [47],.strs path]=join [32] (([115,101,97,108]:Q00)::(dB ix::sig))++32::([]++47::path.flatMap fun s=>32::s):=by unfold words;simp only [Fe,Ii,O6,Nl (s:=([115,101,97,108]:Q00)) dC,Nl (s:=[47]) dC,Td,Fj];show join [32] (([115,101,97,108]:Q00)::(dB ix::(sig++[47]::path)))=_;rw [O5,O5];simp
   rw [e1,e2] at hl h0 ⊢;generalize hHd:join [32] (([118,101,114,115,105,111,110]:Q00)::[dB au,dB nu,dB po,dash prev])=H at *;generalize hZd:join [32] (([115,101,97,108]:Q00)::(dB ix::sig))=Z at *;have n10:∀ (l:List Str),(∀ y∈l,Pc y)->(10:UInt8) ∉ join [32] l/\(47:UInt8) ∉ join [32] l:=fun l hl=>⟨fun e=>Pq (P:=fun c=>c≠10) dC l (fun x hx c hc=>(hl x hx c hc).1) 10 e rfl,fun e=>Pq (P:=fun c=>c≠47) dC l (fun x hx c hc=>(hl x hx c hc).2.2) 47 e rfl⟩
   have QT:(10:UInt8) ∉ H:=hHd ▸ (n10 _ hH).1;have KD:=hZd ▸ n10 _ hZ;have wz:(10:UInt8) ∉ path.flatMap fun s=>32::s:=fun e=>by
    obtain⟨x,hx,hc⟩:=List.mem_flatMap.1 e;rcases Az.1 hc with hc|hc;·exact absurd hc dC
    ·exact (Pc.digest (p2 x hx) 10 hc).1 rfl
   generalize hTd:(path.flatMap fun s=>32::s)=T at *;have es:H++[10]++t++(Z++32::([]++47::T))++[10]=H++10::(t++((Z++32::47::T)++10::[])):=sM;rw [es] at hl h0 ⊢;have zC:(10:UInt8) ∉ Z++32::47::T:=fun e=>by
    rcases Bz.1 e with e|e;·exact KD.1 e
    ·rcases Az.1 e with e|e;·exact absurd e dC
     ·rcases Az.1 e with e|e;·exact absurd e dC
      ·exact wz e
   have hsp:split 10 (H++10::(t++((Z++32::47::T)++10::[])))=H::(ts++[Z++32::47::T,[]]):=by rw [Oh QT,t3,Oh zC];rfl
   unfold kJ;rw [hsp,Ai (by
    rintro (h|h|h);·exact hl h
    all_goals simp only [Ap,Am,Bf] at h;omega)]
   have hrv:uK (H::(ts++[Z++32::47::T,[]]))=some ⟨au,nu,po,prev,acts,⟨ix,sig,path⟩⟩:=by
    unfold uK;have q1:((H::(ts++[Z++32::47::T,[]])).drop 1).take ((H::(ts++[Z++32::47::T,[]])).length - 3)=ts:=by show (ts++_).take _=_;rw [show (H::(ts++[Z++32::47::T,[]])).length - 3=ts.length from by simp,List.take_left]
    have q2:(H::(ts++[Z++32::47::T,[]])).getD ((H::(ts++[Z++32::47::T,[]])).length - 2) []=Z++32::47::T:=by rw [show (H::(ts++[Z++32::47::T,[]])).length - 2=ts.length+1 from by simp,List.getD_cons_succ,List.getD_eq_getElem?_getD,Eb nR,Nat.sub_self];rfl
    rw [q1,t2,q2];dsimp only;have q3:cut 47 (Z++32::47::T)=(Z++[32],T):=by
     rw [show Z++32::47::T=(Z++[32])++47::T from by simp];refine Y1 fun e=>?_;rcases Bz.1 e with e|e;·exact KD.2 e
     ·rw [Ad] at e;exact absurd e dC
    rw [q3];dsimp only;rw [List.getD_cons_zero,<- hHd,Abb hH];have q4:spl (Z++[32])=(([115,101,97,108]:Q00)::dB ix::sig)++List.replicate 11 []:=by unfold spl;rw [<- hZd,Zk _ _ [] fun y hy=>(hZ y hy).sp];show (([115,101,97,108]:Q00)::dB ix::sig)++[[]]++List.replicate 10 []=_;rw [Dk];rfl
    rw [q4];simp only [D6,Gx,Gv,List.getD_cons_zero,List.getD_cons_succ,Jr b1,Jr b2,Jr b3,Jr hix];rw [Vb fun s hs=>(Ny (s2 s hs)).1,<- hTd,Aa7 p2,Vy (b5.elim (fun e=>by rw [e];decide) fun e=>(Ny e).2.1)]
   rw [hrv];dsimp only;rw [h0];dsimp only;rw [Ah rfl]
 ·cases h
end
end CH
