/-
  ChainOrder: the proof, part 2 of 28.
-/
import Derived.Test.YtpkjhpenpfcpfaaGreatDoorP00
import Derived.Lib.ItoaNum
set_option linter.unusedSimpArgs false
set_option linter.unusedVariables false
set_option maxHeartbeats 40000000
set_option maxRecDepth 100000
namespace CH
section
def mix1 (s n:Nat):Nat:=((s ^^^ n)*2862933555777941757) % 18446744073709551616
def mix2 (x:Nat):Nat:=((x ^^^ x / 4294967296)*3935559000370003845) % 18446744073709551616
def Abt (y:Nat):Nat:=y ^^^ y / 536870912
def mix (s n:Nat):Nat:=Abt (mix2 (mix1 s n))
def be8 (l:List UInt8):Nat := ((((((((l.getD 0 0).toNat*256+(l.getD 1 0).toNat)*256+(l.getD 2 0).toNat)*256+(l.getD 3 0).toNat)*256+(l.getD 4 0).toNat)*256+(l.getD 5 0).toNat)*256+(l.getD 6 0).toNat)*256+(l.getD 7 0).toNat)
def iq:Nat->Nat->List UInt8->Nat
 |0,s,_=>s
 |k+1,s,l=>iq k (mix s (be8 l)) (l.drop 8)
def wO (l:List UInt8):Nat:=iq (l.length / 8+1) (2611923443488327891 ^^^ l.length) l
def hexDigit (n:Nat):UInt8:=if n<10 then UInt8.ofNat (48+n) else UInt8.ofNat (87+n)
def gJ:Nat->Nat->List UInt8
 |0,_=>[]
 |k+1,n=>gJ k (n / 16)++[hexDigit (n % 16)]
def sum (l:List UInt8):List UInt8:=gJ 16 (wO l)
theorem qc {a b:Nat} (ha:a<18446744073709551616) (hb:b<18446744073709551616):a ^^^ b<18446744073709551616:=by have:=@Nat.xor_lt_two_pow a b 64 (by simpa using ha) (by simpa using hb);simpa using this
theorem vg (s n:Nat):mix1 s n<18446744073709551616:=J9 _ dC
theorem pI (x:Nat):mix2 x<18446744073709551616:=J9 _ dC
theorem Abs (s n:Nat):mix s n<18446744073709551616:=by unfold mix Abt;exact qc (pI _) (Ko (Nat.div_le_self _ _) (pI _))
theorem mD (k s:Nat) (l:List UInt8):iq (k+1) s l=mix (iq k s l) (be8 (l.drop (8*k))):=by
 induction k generalizing s l with
 |zero=>simp [iq]
 |succ k ih =>rw [iq,ih,iq,List.drop_drop];congr 3;omega
theorem oW (k s:Nat) (l:List UInt8) (hs:s<18446744073709551616):iq k s l<18446744073709551616:=by
 cases k with
 |zero=>exact hs
 |succ k=>rw [mD];exact Abs _ _
theorem u8_lt (c:UInt8):c.toNat<256:=c.toNat_lt
theorem yt (l:List UInt8):be8 l<18446744073709551616:=by unfold be8;have h0:=u8_lt (l.getD 0 0);have h1:=u8_lt (l.getD 1 0);have h2:=u8_lt (l.getD 2 0);have h3:=u8_lt (l.getD 3 0);have h4:=u8_lt (l.getD 4 0);have h5:=u8_lt (l.getD 5 0);have h6:=u8_lt (l.getD 6 0);have h7:=u8_lt (l.getD 7 0);omega
theorem jZ (k n:Nat):(gJ k n).length=k:=by
 induction k generalizing n with
 |zero=>rfl
 |succ k ih=>simp [gJ,ih]
theorem oV (k n:Nat):gJ (k+1) n=hexDigit (n / 16 ^ k % 16)::gJ k n:=by
 induction k generalizing n with
 |zero=>simp [gJ]
 |succ k ih =>rw [gJ,ih,gJ,Nat.div_div_eq_div_mul,<- Nat.pow_succ'];rfl
theorem uz (j d n:Nat) (h:n<16 ^ d):gJ (j+d) n=List.replicate j 48++gJ d n:=by
 induction j with
 |zero=>simp
 |succ j ih =>rw [show j+1+d=(j+d)+1 from by omega,oV,ih];have:n / 16 ^ (j+d)=0:=Ll (Ai h (Lh dC oM));rw [this];simp [hexDigit,J6]
theorem eu (l:List UInt8):(sum l).length=16:=jZ _ _
def pack (f:Int->List UInt8):List (List UInt8)->List UInt8
 |[]=>[]
 |l::r=>f l.length++[58]++l++pack f r
theorem oQ (f:Int->List UInt8) (ls:List (List UInt8)) (l:List UInt8):pack f (ls++[l])=pack f ls++(f l.length++[58]++l):=by
 induction ls with
 |nil=>simp [pack]
 |cons x r ih=>simp [pack,ih]
theorem pq (f:Int->List UInt8) (ls:List (List UInt8)) (k:Nat):(pack f (ls.take k)).length<=(pack f ls).length:=by
 induction ls generalizing k with
 |nil=>simp [pack]
 |cons x r ih =>
  cases k with
  |zero=>simp [pack]
  |succ k=>simp only [Je,pack,Aj];have:=ih k;omega
theorem aK {α:Type} (ls:List α) (k:Nat) (l:α) (h:ls[k]?=some l):ls.take (k+1)=ls.take k++[l]:=by rw [D6,h];rfl
def chain:Nat->List UInt8->List UInt8
 |0,l=>l
 |n+1,l=>chain n (sum l)
theorem jq (n:Nat) (l:List UInt8):chain (n+1) l=sum (chain n l):=by
 induction n generalizing l with
 |zero=>rfl
 |succ n ih=>rw [chain,ih];rfl
def isHex (c:UInt8):Bool:=(48<=c&&c<=57)||(97<=c&&c<=102)
def aC (l:List UInt8):Bool:=l.length==16&&l.all isHex
def dl (ls:List (List UInt8)):List UInt8:=sum (pack Go.Lib.itoa ls)
def qM:List UInt8:=[101,109,112,116,121]
def lG:List UInt8:=[108,101,97,102]
def rH:List UInt8:=[110,111,100,101]
def jP:Nat->Nat->Nat->Nat
 |0,_,k=>k
 |f+1,n,k=>if 2*k<n then jP f n (2*k) else k
def half (n:Nat):Nat:=jP n n 1
theorem nT (f n k:Nat) (h:¬ 2*k<n):jP f n k=k:=by
 cases f with
 |zero=>rfl
 |succ f=>simp [jP,h]
theorem Abh (f n k:Nat) (h:k<n):jP f n k<n:=by
 induction f generalizing k with
 |zero=>exact h
 |succ f ih =>
  unfold jP;split;·exact ih _ oM
  ·exact h
theorem Abi (f n k:Nat):k<=jP f n k:=by
 induction f generalizing k with
 |zero=>exact Bo _
 |succ f ih =>
  unfold jP;split;·have:=ih (2*k);omega
  ·exact Bo _
theorem jf (n:Nat):1<=half n:=Abi _ _ _
theorem jo (n:Nat) (h:2<=n):half n<n:=Abh _ _ _ oM
def node (a b:List UInt8):List UInt8:=dl [rH,a,b]
def nM:Nat->List (List UInt8)->List UInt8
 |0,_=>[]
 |f+1,ls=>match ls with
  |[]=>dl [qM]
  |[x]=>dl [lG,x]
  |x::y::r=>node (nM f ((x::y::r).take (half (r.length+2)))) (nM f ((x::y::r).drop (half (r.length+2))))
def root (ls:List (List UInt8)):List UInt8:=nM (ls.length+1) ls
theorem Wp (f:Nat):∀ (g:Nat) (ls:List (List UInt8)),ls.length<f->ls.length<g->nM f ls=nM g ls:=by
 induction f with
 |zero=>intro g ls h;omega
 |succ f ih =>
  intro g ls hf hg;cases g with
  |zero=>omega
  |succ g =>
   match ls with
   |[]=>rfl
   |[x]=>rfl
   |x::y::r =>have h1:=jf (r.length+2);have h2:=jo (r.length+2) oM;simp only [Az] at hf hg;simp only [nM];rw [ih g _ (by simp;omega) (by simp;omega),ih g _ (by simp;omega) (by simp;omega)]
theorem jU (ls:List (List UInt8)) (h:2<=ls.length):root ls=node (root (ls.take (half ls.length))) (root (ls.drop (half ls.length))):=by
 match ls,h with
 |x::y::r,_ =>
  have h1:=jf (r.length+2);have h2:=jo (r.length+2) oM;unfold root;simp only [Az] at *;rw [nM];rw [Wp (r.length+1+1) (((x::y::r).take (half (r.length+2))).length+1) _ (by simp;omega) oM,
   Wp (r.length+1+1) (((x::y::r).drop (half (r.length+2))).length+1) _ (by simp;omega) oM]
theorem iW (ls:List (List UInt8)):(dl ls).length=16:=eu _
theorem jY (a b:List UInt8):(node a b).length=16:=eu _
theorem jm (ls:List (List UInt8)):(root ls).length=16:=by
 rcases ls with _|⟨x,_|⟨y,r⟩⟩;·exact iW _
 ·exact iW _
 ·rw [jU _ sM];exact jY _ _
def gV:Nat->List (List UInt8)->Nat->List (List UInt8)
 |0,_,_=>[]
 |f+1,ls,i =>
  if ls.length<=1 then []
  else if i<half ls.length then root (ls.drop (half ls.length))::gV f (ls.take (half ls.length)) i
  else root (ls.take (half ls.length))::gV f (ls.drop (half ls.length)) (i - half ls.length)
def path (ls:List (List UInt8)) (i:Nat):List (List UInt8):=(gV ls.length ls i).reverse
theorem kZ (f:Nat) (ls:List (List UInt8)) (i:Nat) (h:2<=ls.length) (hi:i<half ls.length):gV (f+1) ls i=root (ls.drop (half ls.length))::gV f (ls.take (half ls.length)) i:=by rw [gV,Af oM,Ap hi]
theorem jV (f:Nat) (ls:List (List UInt8)) (i:Nat) (h:2<=ls.length) (hi:¬ i<half ls.length):gV (f+1) ls i=root (ls.take (half ls.length))::gV f (ls.drop (half ls.length)) (i - half ls.length):=by rw [gV,Af oM,Af hi]
theorem mM (f:Nat) (ls:List (List UInt8)) (i:Nat) (h:ls.length<=1):gV f ls i=[]:=by
 cases f with
 |zero=>rfl
 |succ f=>rw [gV,Ap h]
abbrev PSt:=List (List UInt8) × Bool
def gG (s:PSt):List UInt8 × PSt :=
 match s.1.getLast? with
 |none=>([],([],true))
 |some d=>(d,(s.1.dropLast,s.2||d.isEmpty))
def upF (leaf:List UInt8):Nat->Nat->Nat->PSt->List UInt8 × PSt
 |0,_,_,s=>([],s)
 |f+1,n,i,s =>
  if n=1 then (dl [lG,leaf],s)
  else if i<half n then
   (node (upF leaf f (half n) i (gG s).2).1 (gG s).1,(upF leaf f (half n) i (gG s).2).2)
  else
   (node (gG s).1 (upF leaf f (n - half n) (i - half n) (gG s).2).1,(upF leaf f (n - half n) (i - half n) (gG s).2).2)
def dU (root:List UInt8) (n i:Nat) (leaf:List UInt8) (path:List (List UInt8)):Bool := path.all aC&&((upF leaf n n i (path,false)).1==root&&(!(upF leaf n n i (path,false)).2.2&&(upF leaf n n i (path,false)).2.1.isEmpty))
def start (secret:List UInt8) (i k:Nat):List UInt8:=dl [secret,Go.Lib.itoa i,Go.Lib.itoa k]
def jO (secret:List UInt8) (i:Nat):List UInt8:=dl ((List.range 18).map fun k=>chain 15 (start secret i k))
def keys (secret:List UInt8) (h:Nat):List (List UInt8):=(List.range (2 ^ h)).map (jO secret)
def pub (secret:List UInt8) (h:Nat):List UInt8:=root (keys secret h)
def Xz (c:UInt8):Nat:=if c.toNat<97 then c.toNat - 48 else c.toNat - 87
def digits (m:List UInt8):List Nat :=
 let d:=(sum m).map Xz
 let rest:=(d.map fun x=>15 - x).sum
 d++[rest / 16,rest % 16]
def sig (secret:List UInt8) (i:Nat) (m:List UInt8):List (List UInt8) := ((digits m).zipIdx).map fun x=>chain x.1 (start secret i x.2)
def ends (s:List (List UInt8)) (m:List UInt8):List (List UInt8) := ((digits m).zip s).map fun x=>chain (15 - x.1) x.2
theorem gW (secret:List UInt8) (i k:Nat):(start secret i k).length=16:=iW _
theorem lI (secret:List UInt8) (i:Nat):(jO secret i).length=16:=iW _
theorem length_keys (secret:List UInt8) (h:Nat):(keys secret h).length=2 ^ h:=by simp [keys]
theorem pO (n:Nat) (l:List UInt8) (h:l.length=16):(chain n l).length=16:=by
 cases n with
 |zero=>exact h
 |succ n=>rw [jq];exact eu _
theorem lX (n:Nat) (h:n<16):Xz (hexDigit n)=n:=by
 have:∀ k:Fin 16,Xz (hexDigit k.val)=k.val:=by decide +kernel
 exact this ⟨n,h⟩
def Ri:Nat->Nat->List Nat
 |0,_=>[]
 |k+1,n=>Ri k (n / 16)++[n % 16]
theorem Aa5 (k n:Nat):(gJ k n).map Xz=Ri k n:=by
 induction k generalizing n with
 |zero=>rfl
 |succ k ih=>simp only [gJ,Ri,Eh,ih,Eu,H8,lX _ (J9 n (dC:0<16))]
theorem Aas (k n:Nat):∀ x∈Ri k n,x<=15:=by
 induction k generalizing n with
 |zero=>simp [Ri]
 |succ k ih =>
  intro x hx;rcases Di.1 hx with h|h;·exact ih _ x h
  ·simp at h;omega
def jG (m:List UInt8):List Nat:=(sum m).map Xz
theorem dX (m:List UInt8):(jG m).length=16:=by simp [jG,eu]
theorem Abk (m:List UInt8):∀ x∈jG m,x<=15:=by unfold jG sum;rw [Aa5];exact Aas _ _
def lack (m:List UInt8) (k:Nat):Nat:=(((jG m).take k).map fun x=>15 - x).sum
theorem Aa3 {l:List Nat} {c:Nat} (h:∀ x∈l,x<=c):l.sum<=l.length*c:=by
 induction l with
 |nil=>simp
 |cons x r ih =>have h1:=h x sM;have h2:=ih (fun y hy=>h y (by simp [hy]));simp only [Lp,Az];rw [Nat.add_mul];omega
theorem rP (m:List UInt8) (k:Nat):lack m k<=240:=by
 have h:=Aa3 (l:=((jG m).take k).map fun x=>15 - x) (c:=15) (by intro x hx;obtain⟨y,_,rfl⟩:=Eo.1 hx;omega);have hl:(((jG m).take k).map fun x=>15 - x).length<=16:=by rw [Cm,Ec,dX];omega
 unfold lack;have:=Dk 15 hl;omega
theorem sW (m:List UInt8) (k d:Nat) (h:(jG m)[k]?=some d):lack m (k+1)=lack m k+(15 - d):=by unfold lack;rw [aK _ _ _ h,Eh,List.sum_append];simp
theorem jF (m:List UInt8):digits m=jG m++[lack m 16 / 16,lack m 16 % 16]:=by
 have:lack m 16=((jG m).map fun x=>15 - x).sum:=by unfold lack;rw [Cc (by rw [dX];exact Bo _)]
 rw [this];rfl
theorem length_digits (m:List UInt8):(digits m).length=18:=by rw [jF];simp [dX]
theorem Aac (m:List UInt8):∀ x∈digits m,x<=15:=by
 intro x hx;rw [jF] at hx;have:=rP m 16;rcases Di.1 hx with h|h;·exact Abk m x h
 ·simp at h;omega
def eP (m:List UInt8):List (Fin 18 × Fin 16):=(List.finRange 18).map fun i=>(i,Fin.ofNat 16 ((digits m).getD i.val 0))
theorem jE (m:List UInt8) (k d:Nat) (hk:k<18) (h:(digits m)[k]?=some d):∃ hd:d<16,(eP m)[k]?=some (⟨k,hk⟩,⟨d,hd⟩):=by
 have hd:d<16:=by have:=Aac m d (Aw h);omega
 refine⟨hd,?_⟩;unfold eP;rw [Fe,Ad (by simpa using hk)];have e:(digits m).getD k 0=d:=by simp [h]
 simp only [List.getElem_finRange,Gv,Ep,Gg,Fin.cast_mk,true_and];apply Fin.ext;show (digits m).getD k 0 % 16=d;rw [e];omega
theorem dO (m:List UInt8):(eP m).length=18:=by simp [eP]
end
end CH
