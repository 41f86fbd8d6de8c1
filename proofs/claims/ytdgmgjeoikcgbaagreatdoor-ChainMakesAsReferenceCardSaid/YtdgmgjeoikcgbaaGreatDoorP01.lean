/-
  ChainMakes: the proof, part 2 of 34.
-/
import Derived.Test.YtdgmgjeoikcgbaaGreatDoorP00
import Derived.Lib.ItoaNum
set_option linter.unusedSimpArgs false
set_option linter.unusedVariables false
set_option maxHeartbeats 40000000
set_option maxRecDepth 100000
namespace CH
section
def mix1 (s n:Nat):Nat:=((s ^^^ n)*2862933555777941757) % 18446744073709551616
def mix2 (x:Nat):Nat:=((x ^^^ x / 4294967296)*3935559000370003845) % 18446744073709551616
def mix3 (y:Nat):Nat:=y ^^^ y / 536870912
def mix (s n:Nat):Nat:=mix3 (mix2 (mix1 s n))
def be8 (l:List UInt8):Nat := ((((((((l.getD 0 0).toNat*256+(l.getD 1 0).toNat)*256+(l.getD 2 0).toNat)*256+(l.getD 3 0).toNat)*256+(l.getD 4 0).toNat)*256+(l.getD 5 0).toNat)*256+(l.getD 6 0).toNat)*256+(l.getD 7 0).toNat)
def fP:Nat->Nat->List UInt8->Nat
 |0,s,_=>s
 |k+1,s,l=>fP k (mix s (be8 l)) (l.drop 8)
def wU (l:List UInt8):Nat:=fP (l.length / 8+1) (2611923443488327891 ^^^ l.length) l
def hexDigit (n:Nat):UInt8:=if n<10 then UInt8.ofNat (48+n) else UInt8.ofNat (87+n)
def gy:Nat->Nat->List UInt8
 |0,_=>[]
 |k+1,n=>gy k (n / 16)++[hexDigit (n % 16)]
def sum (l:List UInt8):List UInt8:=gy 16 (wU l)
theorem lN {a b:Nat} (ha:a<18446744073709551616) (hb:b<18446744073709551616):a ^^^ b<18446744073709551616:=by have:=@Nat.xor_lt_two_pow a b 64 (by simpa using ha) (by simpa using hb);exact FD151
theorem vK (s n:Nat):mix1 s n<18446744073709551616:=Jo _ dC
theorem pK (x:Nat):mix2 x<18446744073709551616:=Jo _ dC
theorem Aa3 (s n:Nat):mix s n<18446744073709551616:=by unfold mix mix3;exact lN (pK _) (Ko (Nat.div_le_self _ _) (pK _))
theorem jW (k s:Nat) (l:List UInt8):fP (k+1) s l=mix (fP k s l) (be8 (l.drop (8*k))):=by
 induction k generalizing s l with
 |zero=>simp [fP]
 |succ k ih =>rw [fP,ih,fP,List.drop_drop];congr 3;omega
theorem kW (k s:Nat) (l:List UInt8) (hs:s<18446744073709551616):fP k s l<18446744073709551616:=by
 cases k with
 |zero=>exact hs
 |succ k=>rw [jW];exact Aa3 _ _
theorem u8_lt (c:UInt8):c.toNat<256:=c.toNat_lt
theorem uY (l:List UInt8):be8 l<18446744073709551616:=by unfold be8;have h0:=u8_lt (l.getD 0 0);have h1:=u8_lt (l.getD 1 0);have h2:=u8_lt (l.getD 2 0);have h3:=u8_lt (l.getD 3 0);have h4:=u8_lt (l.getD 4 0);have h5:=u8_lt (l.getD 5 0);have h6:=u8_lt (l.getD 6 0);have h7:=u8_lt (l.getD 7 0);omega
theorem jB (k n:Nat):(gy k n).length=k:=by
 induction k generalizing n with
 |zero=>rfl
 |succ k ih=>simp [gy,ih]
theorem mZ (k n:Nat):gy (k+1) n=hexDigit (n / 16 ^ k % 16)::gy k n:=by
 induction k generalizing n with
 |zero=>simp [gy]
 |succ k ih =>rw [gy,ih,gy,Nat.div_div_eq_div_mul,<- Nat.pow_succ'];rfl
theorem uy (j d n:Nat) (h:n<16 ^ d):gy (j+d) n=List.replicate j 48++gy d n:=by
 induction j with
 |zero=>simp
 |succ j ih =>rw [show j+1+d=(j+d)+1 from by omega,mZ,ih];have:n / 16 ^ (j+d)=0:=Nl (Ai h (Jf dC oM));rw [this];simp [hexDigit,J6]
theorem dK (l:List UInt8):(sum l).length=16:=jB _ _
def pack (f:Int->List UInt8):List (List UInt8)->List UInt8
 |[]=>[]
 |l::r=>f l.length++[58]++l++pack f r
theorem kS (f:Int->List UInt8) (ls:List (List UInt8)) (l:List UInt8):pack f (ls++[l])=pack f ls++(f l.length++[58]++l):=by
 induction ls with
 |nil=>simp [pack]
 |cons x r ih=>simp [pack,ih]
theorem lT (f:Int->List UInt8) (ls:List (List UInt8)) (k:Nat):(pack f (ls.take k)).length<=(pack f ls).length:=by
 induction ls generalizing k with
 |nil=>simp [pack]
 |cons x r ih =>
  cases k with
  |zero=>simp [pack]
  |succ k=>simp only [Jl,pack,Au];have:=ih k;omega
theorem aI {α:Type} (ls:List α) (k:Nat) (l:α) (h:ls[k]?=some l):ls.take (k+1)=ls.take k++[l]:=by rw [Ee,h];rfl
def chain:Nat->List UInt8->List UInt8
 |0,l=>l
 |n+1,l=>chain n (sum l)
theorem iM (n:Nat) (l:List UInt8):chain (n+1) l=sum (chain n l):=by
 induction n generalizing l with
 |zero=>rfl
 |succ n ih=>rw [chain,ih];rfl
def isHex (c:UInt8):Bool:=(48<=c&&c<=57)||(97<=c&&c<=102)
def ay (l:List UInt8):Bool:=l.length==16&&l.all isHex
def dl (ls:List (List UInt8)):List UInt8:=sum (pack Go.Lib.itoa ls)
def qX:List UInt8:=[101,109,112,116,121]
def iT:List UInt8:=[108,101,97,102]
def qE:List UInt8:=[110,111,100,101]
def jC:Nat->Nat->Nat->Nat
 |0,_,k=>k
 |f+1,n,k=>if 2*k<n then jC f n (2*k) else k
def half (n:Nat):Nat:=jC n n 1
theorem lM (f n k:Nat) (h:¬ 2*k<n):jC f n k=k:=by
 cases f with
 |zero=>rfl
 |succ f=>simp [jC,h]
theorem Aaw (f n k:Nat) (h:k<n):jC f n k<n:=by
 induction f generalizing k with
 |zero=>exact h
 |succ f ih =>
  unfold jC;split;·exact ih _ oM
  ·exact h
theorem Aax (f n k:Nat):k<=jC f n k:=by
 induction f generalizing k with
 |zero=>exact Bv _
 |succ f ih =>
  unfold jC;split;·have:=ih (2*k);omega
  ·exact Bv _
theorem iy (n:Nat):1<=half n:=Aax _ _ _
theorem iH (n:Nat) (h:2<=n):half n<n:=Aaw _ _ _ oM
def node (a b:List UInt8):List UInt8:=dl [qE,a,b]
def nS:Nat->List (List UInt8)->List UInt8
 |0,_=>[]
 |f+1,ls=>match ls with
  |[]=>dl [qX]
  |[x]=>dl [iT,x]
  |x::y::r=>node (nS f ((x::y::r).take (half (r.length+2)))) (nS f ((x::y::r).drop (half (r.length+2))))
def root (ls:List (List UInt8)):List UInt8:=nS (ls.length+1) ls
theorem V5 (f:Nat):∀ (g:Nat) (ls:List (List UInt8)),ls.length<f->ls.length<g->nS f ls=nS g ls:=by
 induction f with
 |zero=>intro g ls h;omega
 |succ f ih =>
  intro g ls hf hg;cases g with
  |zero=>omega
  |succ g =>
   match ls with
   |[]=>rfl
   |[x]=>rfl
   |x::y::r =>have h1:=iy (r.length+2);have h2:=iH (r.length+2) oM;simp only [Ba] at hf hg;simp only [nS];rw [ih g _ (by simp;omega) (by simp;omega),ih g _ (by simp;omega) (by simp;omega)]
theorem jL (ls:List (List UInt8)) (h:2<=ls.length):root ls=node (root (ls.take (half ls.length))) (root (ls.drop (half ls.length))):=by
 match ls,h with
 |x::y::r,_ =>
  have h1:=iy (r.length+2);have h2:=iH (r.length+2) oM;unfold root;simp only [Ba] at *;rw [nS];rw [V5 (r.length+1+1) (((x::y::r).take (half (r.length+2))).length+1) _ (by simp;omega) oM,
   V5 (r.length+1+1) (((x::y::r).drop (half (r.length+2))).length+1) _ (by simp;omega) oM]
theorem gY (ls:List (List UInt8)):(dl ls).length=16:=dK _
theorem jA (a b:List UInt8):(node a b).length=16:=dK _
theorem eF (ls:List (List UInt8)):(root ls).length=16:=by
 rcases ls with _|⟨x,_|⟨y,r⟩⟩;·exact gY _
 ·exact gY _
 ·rw [jL _ sM];exact jA _ _
def eP:Nat->List (List UInt8)->Nat->List (List UInt8)
 |0,_,_=>[]
 |f+1,ls,i =>
  if ls.length<=1 then []
  else if i<half ls.length then root (ls.drop (half ls.length))::eP f (ls.take (half ls.length)) i
  else root (ls.take (half ls.length))::eP f (ls.drop (half ls.length)) (i - half ls.length)
def path (ls:List (List UInt8)) (i:Nat):List (List UInt8):=(eP ls.length ls i).reverse
theorem jR (f:Nat) (ls:List (List UInt8)) (i:Nat) (h:2<=ls.length) (hi:i<half ls.length):eP (f+1) ls i=root (ls.drop (half ls.length))::eP f (ls.take (half ls.length)) i:=by rw [eP,Ah oM,Ar hi]
theorem jy (f:Nat) (ls:List (List UInt8)) (i:Nat) (h:2<=ls.length) (hi:¬ i<half ls.length):eP (f+1) ls i=root (ls.take (half ls.length))::eP f (ls.drop (half ls.length)) (i - half ls.length):=by rw [eP,Ah oM,Ah hi]
theorem kQ (f:Nat) (ls:List (List UInt8)) (i:Nat) (h:ls.length<=1):eP f ls i=[]:=by
 cases f with
 |zero=>rfl
 |succ f=>rw [eP,Ar h]
theorem lV (f:Nat):∀ (ls:List (List UInt8)) (i:Nat),(eP f ls i).length<=f/\∀ x∈eP f ls i,x.length=16:=by
 induction f with
 |zero=>intro ls i;simp [eP]
 |succ f ih =>
  intro ls i;unfold eP;split;·simp
  ·split;·have:=ih (ls.take (half ls.length)) i;exact FD138
   ·have:=ih (ls.drop (half ls.length)) (i - half ls.length);exact FD138
abbrev PSt:=List (List UInt8) × Bool
def gI (s:PSt):List UInt8 × PSt :=
 match s.1.getLast? with
 |none=>([],([],true))
 |some d=>(d,(s.1.dropLast,s.2||d.isEmpty))
def upF (leaf:List UInt8):Nat->Nat->Nat->PSt->List UInt8 × PSt
 |0,_,_,s=>([],s)
 |f+1,n,i,s =>
  if n=1 then (dl [iT,leaf],s)
  else if i<half n then
   (node (upF leaf f (half n) i (gI s).2).1 (gI s).1,(upF leaf f (half n) i (gI s).2).2)
  else
   (node (gI s).1 (upF leaf f (n - half n) (i - half n) (gI s).2).1,(upF leaf f (n - half n) (i - half n) (gI s).2).2)
def dD (root:List UInt8) (n i:Nat) (leaf:List UInt8) (path:List (List UInt8)):Bool := path.all ay&&((upF leaf n n i (path,false)).1==root&&(!(upF leaf n n i (path,false)).2.2&&(upF leaf n n i (path,false)).2.1.isEmpty))
def start (secret:List UInt8) (i k:Nat):List UInt8:=dl [secret,Go.Lib.itoa i,Go.Lib.itoa k]
def gK (secret:List UInt8) (i:Nat):List UInt8:=dl ((List.range 18).map fun k=>chain 15 (start secret i k))
def keys (secret:List UInt8) (h:Nat):List (List UInt8):=(List.range (2 ^ h)).map (gK secret)
def pub (secret:List UInt8) (h:Nat):List UInt8:=root (keys secret h)
def hexVal (c:UInt8):Nat:=if c.toNat<97 then c.toNat - 48 else c.toNat - 87
def digits (m:List UInt8):List Nat :=
 let d:=(sum m).map hexVal
 let rest:=(d.map fun x=>15 - x).sum
 d++[rest / 16,rest % 16]
def sig (secret:List UInt8) (i:Nat) (m:List UInt8):List (List UInt8) := ((digits m).zipIdx).map fun x=>chain x.1 (start secret i x.2)
def ends (s:List (List UInt8)) (m:List UInt8):List (List UInt8) := ((digits m).zip s).map fun x=>chain (15 - x.1) x.2
theorem dZ (secret:List UInt8) (i k:Nat):(start secret i k).length=16:=gY _
theorem jT (secret:List UInt8) (i:Nat):(gK secret i).length=16:=gY _
theorem length_keys (secret:List UInt8) (h:Nat):(keys secret h).length=2 ^ h:=by simp [keys]
theorem lW (n:Nat) (l:List UInt8) (h:l.length=16):(chain n l).length=16:=by
 cases n with
 |zero=>exact h
 |succ n=>rw [iM];exact dK _
theorem mG (n:Nat) (h:n<16):hexVal (hexDigit n)=n:=by
 have:∀ k:Fin 16,hexVal (hexDigit k.val)=k.val:=by decide +kernel
 exact this ⟨n,h⟩
def Q8:Nat->Nat->List Nat
 |0,_=>[]
 |k+1,n=>Q8 k (n / 16)++[n % 16]
theorem Aao (k n:Nat):(gy k n).map hexVal=Q8 k n:=by
 induction k generalizing n with
 |zero=>rfl
 |succ k ih=>simp only [gy,Q8,F8,ih,F9,Iw,mG _ (Jo n (dC:0<16))]
theorem Aag (k n:Nat):∀ x∈Q8 k n,x<=15:=by
 induction k generalizing n with
 |zero=>simp [Q8]
 |succ k ih =>
  intro x hx;rcases Ea.1 hx with h|h;·exact ih _ x h
  ·simp at h;omega
def iL (m:List UInt8):List Nat:=(sum m).map hexVal
theorem dO (m:List UInt8):(iL m).length=16:=by simp [iL,dK]
theorem qM (m:List UInt8):∀ x∈iL m,x<=15:=by unfold iL sum;rw [Aao];exact Aag _ _
def lack (m:List UInt8) (k:Nat):Nat:=(((iL m).take k).map fun x=>15 - x).sum
theorem Aam {l:List Nat} {c:Nat} (h:∀ x∈l,x<=c):l.sum<=l.length*c:=by
 induction l with
 |nil=>simp
 |cons x r ih =>have h1:=h x sM;have h2:=ih (fun y hy=>h y (by simp [hy]));simp only [Lp,Ba];rw [Nat.add_mul];omega
theorem pV (m:List UInt8) (k:Nat):lack m k<=240:=by
 have h:=Aam (l:=((iL m).take k).map fun x=>15 - x) (c:=15) (by intro x hx;obtain⟨y,_,rfl⟩:=Ej.1 hx;omega);have hl:(((iL m).take k).map fun x=>15 - x).length<=16:=by rw [Dt,Dz,dO];omega
 unfold lack;have:=Dh 15 hl;omega
theorem pq (m:List UInt8) (k d:Nat) (h:(iL m)[k]?=some d):lack m (k+1)=lack m k+(15 - d):=by unfold lack;rw [aI _ _ _ h,F8,List.sum_append];simp
theorem ji (m:List UInt8):digits m=iL m++[lack m 16 / 16,lack m 16 % 16]:=by
 have:lack m 16=((iL m).map fun x=>15 - x).sum:=by unfold lack;rw [Cb (by rw [dO];exact Bv _)]
 rw [this];rfl
theorem length_digits (m:List UInt8):(digits m).length=18:=by rw [ji];simp [dO]
theorem kU (m:List UInt8):∀ x∈digits m,x<=15:=by
 intro x hx;rw [ji] at hx;have:=pV m 16;rcases Ea.1 hx with h|h;·exact qM m x h
 ·simp at h;omega
def eY (m:List UInt8):List (Fin 18 × Fin 16):=(List.finRange 18).map fun i=>(i,Fin.ofNat 16 ((digits m).getD i.val 0))
theorem jP (m:List UInt8) (k d:Nat) (hk:k<18) (h:(digits m)[k]?=some d):∃ hd:d<16,(eY m)[k]?=some (⟨k,hk⟩,⟨d,hd⟩):=by
 have hd:d<16:=by have:=kU m d (Aq h);omega
 refine⟨hd,?_⟩;unfold eY;rw [Fv,Ad (by simpa using hk)];have e:(digits m).getD k 0=d:=by simp [h]
 simp only [List.getElem_finRange,Hy,Fq,G7,Fin.cast_mk,true_and];apply Fin.ext;show (digits m).getD k 0 % 16=d;rw [e];omega
theorem dQ (m:List UInt8):(eY m).length=18:=by simp [eY]
end
end CH
