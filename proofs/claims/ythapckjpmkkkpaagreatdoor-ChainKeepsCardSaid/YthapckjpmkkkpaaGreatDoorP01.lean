/-
  ChainKeeps: the proof, part 2 of 25.
-/
import Derived.Test.YthapckjpmkkkpaaGreatDoorP00
import Derived.Lib.ItoaNum
set_option linter.unusedSimpArgs false
set_option linter.unusedVariables false
set_option maxHeartbeats 40000000
set_option maxRecDepth 100000
namespace CH
section
def mix1 (s n:Nat):Nat:=((s ^^^ n)*2862933555777941757) % 18446744073709551616
def mix2 (x:Nat):Nat:=((x ^^^ x / 4294967296)*3935559000370003845) % 18446744073709551616
def Abd (y:Nat):Nat:=y ^^^ y / 536870912
def mix (s n:Nat):Nat:=Abd (mix2 (mix1 s n))
def be8 (l:List UInt8):Nat := ((((((((l.getD 0 0).toNat*256+(l.getD 1 0).toNat)*256+(l.getD 2 0).toNat)*256+(l.getD 3 0).toNat)*256+(l.getD 4 0).toNat)*256+(l.getD 5 0).toNat)*256+(l.getD 6 0).toNat)*256+(l.getD 7 0).toNat)
def iF:Nat->Nat->List UInt8->Nat
 |0,s,_=>s
 |k+1,s,l=>iF k (mix s (be8 l)) (l.drop 8)
def wQ (l:List UInt8):Nat:=iF (l.length / 8+1) (2611923443488327891 ^^^ l.length) l
def hexDigit (n:Nat):UInt8:=if n<10 then UInt8.ofNat (48+n) else UInt8.ofNat (87+n)
def gJ:Nat->Nat->List UInt8
 |0,_=>[]
 |k+1,n=>gJ k (n / 16)++[hexDigit (n % 16)]
def sum (l:List UInt8):List UInt8:=gJ 16 (wQ l)
theorem pU {a b:Nat} (ha:a<18446744073709551616) (hb:b<18446744073709551616):a ^^^ b<18446744073709551616:=by have:=@Nat.xor_lt_two_pow a b 64 (by simpa using ha) (by simpa using hb);simpa using this
theorem vG (s n:Nat):mix1 s n<18446744073709551616:=J7 _ dC
theorem oZ (x:Nat):mix2 x<18446744073709551616:=J7 _ dC
theorem Abc (s n:Nat):mix s n<18446744073709551616:=by unfold mix Abd;exact pU (oZ _) (J8 (Nat.div_le_self _ _) (oZ _))
theorem l9 (k s:Nat) (l:List UInt8):iF (k+1) s l=mix (iF k s l) (be8 (l.drop (8*k))):=by
 induction k generalizing s l with
 |zero=>simp [iF]
 |succ k ih =>rw [iF,ih,iF,List.drop_drop];congr 3;omega
theorem oP (k s:Nat) (l:List UInt8) (hs:s<18446744073709551616):iF k s l<18446744073709551616:=by
 cases k with
 |zero=>exact hs
 |succ k=>rw [l9];exact Abc _ _
theorem u8_lt (c:UInt8):c.toNat<256:=c.toNat_lt
theorem yA (l:List UInt8):be8 l<18446744073709551616:=by unfold be8;have h0:=u8_lt (l.getD 0 0);have h1:=u8_lt (l.getD 1 0);have h2:=u8_lt (l.getD 2 0);have h3:=u8_lt (l.getD 3 0);have h4:=u8_lt (l.getD 4 0);have h5:=u8_lt (l.getD 5 0);have h6:=u8_lt (l.getD 6 0);have h7:=u8_lt (l.getD 7 0);omega
theorem kC (k n:Nat):(gJ k n).length=k:=by
 induction k generalizing n with
 |zero=>rfl
 |succ k ih=>simp [gJ,ih]
theorem oO (k n:Nat):gJ (k+1) n=hexDigit (n / 16 ^ k % 16)::gJ k n:=by
 induction k generalizing n with
 |zero=>simp [gJ]
 |succ k ih =>rw [gJ,ih,gJ,Nat.div_div_eq_div_mul,<- Nat.pow_succ'];rfl
theorem uG (j d n:Nat) (h:n<16 ^ d):gJ (j+d) n=List.replicate j 48++gJ d n:=by
 induction j with
 |zero=>simp
 |succ j ih =>rw [show j+1+d=(j+d)+1 from by omega,oO,ih];have:n / 16 ^ (j+d)=0:=Le (Ah h (Lc dC oM));rw [this];simp [hexDigit,J3]
theorem dY (l:List UInt8):(sum l).length=16:=kC _ _
def pack (f:Int->List UInt8):List (List UInt8)->List UInt8
 |[]=>[]
 |l::r=>f l.length++[58]++l++pack f r
theorem oN (f:Int->List UInt8) (ls:List (List UInt8)) (l:List UInt8):pack f (ls++[l])=pack f ls++(f l.length++[58]++l):=by
 induction ls with
 |nil=>simp [pack]
 |cons x r ih=>simp [pack,ih]
theorem oQ (f:Int->List UInt8) (ls:List (List UInt8)) (k:Nat):(pack f (ls.take k)).length<=(pack f ls).length:=by
 induction ls generalizing k with
 |nil=>simp [pack]
 |cons x r ih =>
  cases k with
  |zero=>simp [pack]
  |succ k=>simp only [I5,pack,Aj];have:=ih k;omega
theorem aN {α:Type} (ls:List α) (k:Nat) (l:α) (h:ls[k]?=some l):ls.take (k+1)=ls.take k++[l]:=by rw [Eo,h];rfl
def chain:Nat->List UInt8->List UInt8
 |0,l=>l
 |n+1,l=>chain n (sum l)
theorem jw (n:Nat) (l:List UInt8):chain (n+1) l=sum (chain n l):=by
 induction n generalizing l with
 |zero=>rfl
 |succ n ih=>rw [chain,ih];rfl
def isHex (c:UInt8):Bool:=(48<=c&&c<=57)||(97<=c&&c<=102)
def aG (l:List UInt8):Bool:=l.length==16&&l.all isHex
def dl (ls:List (List UInt8)):List UInt8:=sum (pack Go.Lib.itoa ls)
def qP:List UInt8:=[101,109,112,116,121]
def lF:List UInt8:=[108,101,97,102]
def rQ:List UInt8:=[110,111,100,101]
def jS:Nat->Nat->Nat->Nat
 |0,_,k=>k
 |f+1,n,k=>if 2*k<n then jS f n (2*k) else k
def half (n:Nat):Nat:=jS n n 1
theorem nU (f n k:Nat) (h:¬ 2*k<n):jS f n k=k:=by
 cases f with
 |zero=>rfl
 |succ f=>simp [jS,h]
theorem Aa2 (f n k:Nat) (h:k<n):jS f n k<n:=by
 induction f generalizing k with
 |zero=>exact h
 |succ f ih =>
  unfold jS;split;·exact ih _ oM
  ·exact h
theorem Aa3 (f n k:Nat):k<=jS f n k:=by
 induction f generalizing k with
 |zero=>exact Bv _
 |succ f ih =>
  unfold jS;split;·have:=ih (2*k);omega
  ·exact Bv _
theorem jm (n:Nat):1<=half n:=Aa3 _ _ _
theorem jv (n:Nat) (h:2<=n):half n<n:=Aa2 _ _ _ oM
def node (a b:List UInt8):List UInt8:=dl [rQ,a,b]
def nO:Nat->List (List UInt8)->List UInt8
 |0,_=>[]
 |f+1,ls=>match ls with
  |[]=>dl [qP]
  |[x]=>dl [lF,x]
  |x::y::r=>node (nO f ((x::y::r).take (half (r.length+2)))) (nO f ((x::y::r).drop (half (r.length+2))))
def root (ls:List (List UInt8)):List UInt8:=nO (ls.length+1) ls
theorem Ut (f:Nat):∀ (g:Nat) (ls:List (List UInt8)),ls.length<f->ls.length<g->nO f ls=nO g ls:=by
 induction f with
 |zero=>intro g ls h;omega
 |succ f ih =>
  intro g ls hf hg;cases g with
  |zero=>omega
  |succ g =>
   match ls with
   |[]=>rfl
   |[x]=>rfl
   |x::y::r =>have h1:=jm (r.length+2);have h2:=jv (r.length+2) oM;simp only [Ar] at hf hg;simp only [nO];rw [ih g _ (by simp;omega) (by simp;omega),ih g _ (by simp;omega) (by simp;omega)]
theorem jW (ls:List (List UInt8)) (h:2<=ls.length):root ls=node (root (ls.take (half ls.length))) (root (ls.drop (half ls.length))):=by
 match ls,h with
 |x::y::r,_ =>
  have h1:=jm (r.length+2);have h2:=jv (r.length+2) oM;unfold root;simp only [Ar] at *;rw [nO];rw [Ut (r.length+1+1) (((x::y::r).take (half (r.length+2))).length+1) _ (by simp;omega) oM,
   Ut (r.length+1+1) (((x::y::r).drop (half (r.length+2))).length+1) _ (by simp;omega) oM]
theorem jf (ls:List (List UInt8)):(dl ls).length=16:=dY _
theorem jZ (a b:List UInt8):(node a b).length=16:=dY _
theorem jr (ls:List (List UInt8)):(root ls).length=16:=by
 rcases ls with _|⟨x,_|⟨y,r⟩⟩;·exact jf _
 ·exact jf _
 ·rw [jW _ sM];exact jZ _ _
def gY:Nat->List (List UInt8)->Nat->List (List UInt8)
 |0,_,_=>[]
 |f+1,ls,i =>
  if ls.length<=1 then []
  else if i<half ls.length then root (ls.drop (half ls.length))::gY f (ls.take (half ls.length)) i
  else root (ls.take (half ls.length))::gY f (ls.drop (half ls.length)) (i - half ls.length)
def path (ls:List (List UInt8)) (i:Nat):List (List UInt8):=(gY ls.length ls i).reverse
theorem kY (f:Nat) (ls:List (List UInt8)) (i:Nat) (h:2<=ls.length) (hi:i<half ls.length):gY (f+1) ls i=root (ls.drop (half ls.length))::gY f (ls.take (half ls.length)) i:=by rw [gY,Ak oM,Aw hi]
theorem jX (f:Nat) (ls:List (List UInt8)) (i:Nat) (h:2<=ls.length) (hi:¬ i<half ls.length):gY (f+1) ls i=root (ls.take (half ls.length))::gY f (ls.drop (half ls.length)) (i - half ls.length):=by rw [gY,Ak oM,Ak hi]
theorem mG (f:Nat) (ls:List (List UInt8)) (i:Nat) (h:ls.length<=1):gY f ls i=[]:=by
 cases f with
 |zero=>rfl
 |succ f=>rw [gY,Aw h]
abbrev PSt:=List (List UInt8) × Bool
def gB (s:PSt):List UInt8 × PSt :=
 match s.1.getLast? with
 |none=>([],([],true))
 |some d=>(d,(s.1.dropLast,s.2||d.isEmpty))
def upF (leaf:List UInt8):Nat->Nat->Nat->PSt->List UInt8 × PSt
 |0,_,_,s=>([],s)
 |f+1,n,i,s =>
  if n=1 then (dl [lF,leaf],s)
  else if i<half n then
   (node (upF leaf f (half n) i (gB s).2).1 (gB s).1,(upF leaf f (half n) i (gB s).2).2)
  else
   (node (gB s).1 (upF leaf f (n - half n) (i - half n) (gB s).2).1,(upF leaf f (n - half n) (i - half n) (gB s).2).2)
def dP (root:List UInt8) (n i:Nat) (leaf:List UInt8) (path:List (List UInt8)):Bool := path.all aG&&((upF leaf n n i (path,false)).1==root&&(!(upF leaf n n i (path,false)).2.2&&(upF leaf n n i (path,false)).2.1.isEmpty))
def start (secret:List UInt8) (i k:Nat):List UInt8:=dl [secret,Go.Lib.itoa i,Go.Lib.itoa k]
def jR (secret:List UInt8) (i:Nat):List UInt8:=dl ((List.range 18).map fun k=>chain 15 (start secret i k))
def keys (secret:List UInt8) (h:Nat):List (List UInt8):=(List.range (2 ^ h)).map (jR secret)
def pub (secret:List UInt8) (h:Nat):List UInt8:=root (keys secret h)
def Vp (c:UInt8):Nat:=if c.toNat<97 then c.toNat - 48 else c.toNat - 87
def digits (m:List UInt8):List Nat :=
 let d:=(sum m).map Vp
 let rest:=(d.map fun x=>15 - x).sum
 d++[rest / 16,rest % 16]
def sig (secret:List UInt8) (i:Nat) (m:List UInt8):List (List UInt8) := ((digits m).zipIdx).map fun x=>chain x.1 (start secret i x.2)
def ends (s:List (List UInt8)) (m:List UInt8):List (List UInt8) := ((digits m).zip s).map fun x=>chain (15 - x.1) x.2
theorem gZ (secret:List UInt8) (i k:Nat):(start secret i k).length=16:=jf _
theorem lI (secret:List UInt8) (i:Nat):(jR secret i).length=16:=jf _
theorem length_keys (secret:List UInt8) (h:Nat):(keys secret h).length=2 ^ h:=by simp [keys]
theorem pG (n:Nat) (l:List UInt8) (h:l.length=16):(chain n l).length=16:=by
 cases n with
 |zero=>exact h
 |succ n=>rw [jw];exact dY _
theorem lV (n:Nat) (h:n<16):Vp (hexDigit n)=n:=by
 have:∀ k:Fin 16,Vp (hexDigit k.val)=k.val:=by decide +kernel
 exact this ⟨n,h⟩
def Px:Nat->Nat->List Nat
 |0,_=>[]
 |k+1,n=>Px k (n / 16)++[n % 16]
theorem Aav (k n:Nat):(gJ k n).map Vp=Px k n:=by
 induction k generalizing n with
 |zero=>rfl
 |succ k ih=>simp only [gJ,Px,Fh,ih,Ew,Hz,lV _ (J7 n (dC:0<16))]
theorem Aak (k n:Nat):∀ x∈Px k n,x<=15:=by
 induction k generalizing n with
 |zero=>simp [Px]
 |succ k ih =>
  intro x hx;rcases Dp.1 hx with h|h;·exact ih _ x h
  ·simp at h;omega
def jJ (m:List UInt8):List Nat:=(sum m).map Vp
theorem dR (m:List UInt8):(jJ m).length=16:=by simp [jJ,dY]
theorem Aa5 (m:List UInt8):∀ x∈jJ m,x<=15:=by unfold jJ sum;rw [Aav];exact Aak _ _
def lack (m:List UInt8) (k:Nat):Nat:=(((jJ m).take k).map fun x=>15 - x).sum
theorem Aat {l:List Nat} {c:Nat} (h:∀ x∈l,x<=c):l.sum<=l.length*c:=by
 induction l with
 |nil=>simp
 |cons x r ih =>have h1:=h x sM;have h2:=ih (fun y hy=>h y (by simp [hy]));simp only [Lm,Ar];rw [Nat.add_mul];omega
theorem rX (m:List UInt8) (k:Nat):lack m k<=240:=by
 have h:=Aat (l:=((jJ m).take k).map fun x=>15 - x) (c:=15) (by intro x hx;obtain⟨y,_,rfl⟩:=Ee.1 hx;omega);have hl:(((jJ m).take k).map fun x=>15 - x).length<=16:=by rw [Dc,Dy,dR];omega
 unfold lack;have:=Dj 15 hl;omega
theorem tq (m:List UInt8) (k d:Nat) (h:(jJ m)[k]?=some d):lack m (k+1)=lack m k+(15 - d):=by unfold lack;rw [aN _ _ _ h,Fh,List.sum_append];simp
theorem jI (m:List UInt8):digits m=jJ m++[lack m 16 / 16,lack m 16 % 16]:=by
 have:lack m 16=((jJ m).map fun x=>15 - x).sum:=by unfold lack;rw [Di (by rw [dR];exact Bv _)]
 rw [this];rfl
theorem length_digits (m:List UInt8):(digits m).length=18:=by rw [jI];simp [dR]
theorem Yv (m:List UInt8):∀ x∈digits m,x<=15:=by
 intro x hx;rw [jI] at hx;have:=rX m 16;rcases Dp.1 hx with h|h;·exact Aa5 m x h
 ·simp at h;omega
def eF (m:List UInt8):List (Fin 18 × Fin 16):=(List.finRange 18).map fun i=>(i,Fin.ofNat 16 ((digits m).getD i.val 0))
theorem jH (m:List UInt8) (k d:Nat) (hk:k<18) (h:(digits m)[k]?=some d):∃ hd:d<16,(eF m)[k]?=some (⟨k,hk⟩,⟨d,hd⟩):=by
 have hd:d<16:=by have:=Yv m d (Ap h);omega
 refine⟨hd,?_⟩;unfold eF;rw [Gg,Ad (by simpa using hk)];have e:(digits m).getD k 0=d:=by simp [h]
 simp only [List.getElem_finRange,Hg,Eu,Gp,Fin.cast_mk,true_and];apply Fin.ext;show (digits m).getD k 0 % 16=d;rw [e];omega
theorem dI (m:List UInt8):(eF m).length=18:=by simp [eF]
end
end CH
