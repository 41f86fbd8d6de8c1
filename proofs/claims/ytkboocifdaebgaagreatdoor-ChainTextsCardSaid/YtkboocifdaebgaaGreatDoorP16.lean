/- ChainTexts, part 17 of 31. -/
import Derived.Test.YtkboocifdaebgaaGreatDoorP14
import Derived.Test.YtkboocifdaebgaaGreatDoorP15
set_option linter.all false
set_option maxHeartbeats 40000000
set_option maxRecDepth 100000
open Go renaming undef -> ZA, World -> ZB, Value -> ZC, Calls -> ZE
open Decidable renaming decide -> ZH
namespace Go.Proofs.Y
section
open Go.Lib Go.Proofs.Tryz Go.RowKit Go.Shelf Go.Sort CH
variable {w:ZB} {L:List Q03} {k p:Nat} {s:Q00}
attribute [local go_sem ↓] Fw
theorem El.cut {B:Nat} {a:Option Addr} {n cap:Nat} (h:El B w (.slice a n cap) L) (k:Nat) (hk:k<=n):El B w (Sl4 a k n cap 4) (L.drop k):=by obtain⟨a',cap',h1,h2,h3,h4⟩:=h;cases h1;refine⟨if cap=k then a else a.map (·.add (k*4)),cap - k,by unfold Sl4 sliced;rw [List.length_drop],by rw [List.length_drop];omega,oM,fun hne=>?_⟩;have hlt:k<L.length:=Nat.lt_of_not_le fun h=>hne (List.drop_of_length_le h);obtain⟨b,off,rfl,hb,hc⟩:=h4 (by rintro rfl;simp at hlt);rw [Ai oM];refine⟨b,off+k*4,by simp [Addr.add],hb,fun j t hj i u hi=>?_⟩;rw [Ht] at hj;have:=hc (k+j) t hj i u hi;rw [show off+k*4+j*4+i=off+(k+j)*4+i from by rw [Nat.add_mul];omega];exact this
theorem El.real {B:Nat} {v:ZC} (h:El B (era k w) v L):El B w v L:=by obtain⟨a,cap,h1,h2,h3,h4⟩:=h;refine⟨a,cap,h1,h2,h3,fun hne=>?_⟩;obtain⟨b,off,e,hb,hc⟩:=h4 hne;exact⟨b,off,e,hb,fun j t hj i u hi=>Kj _ _ _ _ (hc j t hj i u hi)⟩
theorem El.stay {R:List Nat} {B:Nat} {w':ZB} {v:ZC} (h:El B (era k w) v L) (hh:Held R w w') (hR:∀ r∈R,B<=r\/r<k) (hB:B<=w.heap.size):El B (era k w') v L:=by obtain⟨a,cap,h1,h2,h3,h4⟩:=h;refine⟨a,cap,h1,h2,h3,fun hne=>?_⟩;obtain⟨b,off,e,hb,hc⟩:=h4 hne;refine⟨b,off,e,hb,fun j t hj i u hi=>?_⟩;obtain⟨q1,q2⟩:=Vw (hc j t hj i u hi);rw [Dw] at q1;exact Mz ((Dd (hh.block b oM fun hr=>(hR b hr).elim (fun h=>by omega) fun h=>q1 h)).trans q2) (Cj q1)
def Rdr (k p:Nat) (w:ZB) (s:Q00) (L:List Q03):Prop := ∃ v,w.heap[p]?=some (.cells #[↑s,v] 206 (0,0))/\El p (era k w) v L
theorem Rdr.lt (h:Rdr k p w s L):p<w.heap.size:=by obtain⟨v,h1,_⟩:=h;exact (aZ h1)
theorem Rdr.held {R:List Nat} {w':ZB} (h:Rdr k p w s L) (hh:Held R w w') (hR:∀ r∈R,p<r\/r<k/\r≠p):Rdr k p w' s L:=by
 obtain⟨v,h1,h2⟩:=h;have hlt:=(aZ h1)
 exact⟨v,(hh.block p hlt fun hr=>by have:=hR p hr;omega).trans h1,h2.stay hh (fun r hr=>(hR r hr).imp Dy And.left) (Dy hlt)⟩
theorem Rdr.below {w':ZB} (h:Rdr k p w s L) (hb:Below w w w'):Rdr k p w' s L:=h.held (Held.of_below (R:=[]) hb) (fun r hr=>by cases hr)
def I34 (e:Ending):Prop:=∃ n a:Int,e=.panicked [{ v:=.iface 202 (.agg #[↑n,↑a]),recovered:=false }]
def xJ {α:Type} (f:α->ZC) (k p:Nat) (s:Q00) (w:ZB) (o:Option (α × List Q03)) (e:Ending) (w':ZB):Prop := Held [p] w w'/\match o with |some x=>e=.returned (f x.1)/\Rdr k p w' s x.2 |none=>I34 e
theorem Rdr.store {v v':ZC} (hb:w.heap[p]?=some (.cells #[↑s,v] 206 (0,0))) (ht:El p (era k w) v' L):Rdr k p (w.setCell ⟨p,1,none⟩ v') s L/\Held [p] w (w.setCell ⟨p,1,none⟩ v'):=by
 have hlt:=(aZ hb)
 have hH:=(Held.refl [p] w).setCell 1 v' hlt;exact⟨⟨v',Al w p 1 v' _ _ _ hb,ht.stay hH (fun r hr=>by rw [Ad] at hr;omega) (Dy hlt)⟩,hH⟩
theorem Mw (k p:Nat) (s:Q00) (L:List Q03) (kind:Nat) (x:Q00) (w:ZB) (h:Rdr k p w s L) : ZE prog 134 #[.pointer (some ⟨p,0,none⟩),↑kind,↑x] w (xJ mG k p s w (tkK kind x L)):=by
 have hlt:=h.lt;obtain⟨v,hb,ht⟩:=h;have hb1:=fun o=>(((Ac _ w).alloc nR o).block p hlt).trans hb;have c0:=fun o=>Ab (hb1 o) 0;have c1:=fun o=>Ab (hb1 o) 1;simp at c0 c1;have hH:=Aa fun o=>(Held.refl [p] w).alloc o;cases L with
 |nil =>obtain⟨av,cv,rfl,hc1,hc2⟩:=ht.form;clear hb hb1 ht;go_in;go_wp2;exact⟨rfl,hH.out _,_,_,rfl⟩
 |cons t L =>
  obtain⟨av,cv,rfl,hc1,hc2⟩:=ht.form;have htail:=ht.cut 1 sM;rw [Gx,Gv] at htail;obtain⟨a2,c2,hSl,_,_⟩:=htail.form;rw [hSl] at htail;obtain⟨b,off,rfl,hbp,hn,h1,h2,hcell,_⟩:=ht.real.tail;rw [Ap] at *;have z:((L.length+1:Nat):Int)≠0:=oM;have d0:=fun o=>(((Ac _ w).alloc nR o).cell (p:=⟨b,off,none⟩) (Nat.lt_trans hbp hlt)).trans (by simpa using hcell 0 _ rfl);have d1:=fun o=>(((Ac _ w).alloc nR o).cell (p:=⟨b,off+1,none⟩) (Nat.lt_trans hbp hlt)).trans (hcell 1 _ rfl);have d2:=fun o=>(((Ac _ w).alloc nR o).cell (p:=⟨b,off+2,none⟩) (Nat.lt_trans hbp hlt)).trans (hcell 2 _ rfl);have d3:=fun o=>(((Ac _ w).alloc nR o).cell (p:=⟨b,off+3,none⟩) (Nat.lt_trans hbp hlt)).trans (hcell 3 _ rfl);have f1:=fun o=>Ao (hb1 o) 1;have hHH:=Aa fun o o2=>((Held.refl [p] w).alloc o).alloc o2;have hST:=Aa (Rdr.store hb htail);clear ht hcell htail hb1;obtain⟨O,hO⟩:=naa (tkK kind x (t::L));rw [hO];unfold tkK at hO;dsimp only at hO;have bad:Hid (O=none->∀ (w':ZB) (n a:Int),Held [p] w w'->xJ mG k p s w O (.panicked [{ v:=.iface 202 (.agg #[↑n,↑a]),recovered:=false }]) w'):=Aa fun e w' n a hw=>by subst e;exact⟨hw,n,a,rfl⟩
  rcases N4 t.kind kind with hk|⟨k1,k2⟩
  ·rcases Own x with rfl|⟨x1,x2,x3⟩;·rw [Ah ⟨hk,.inl rfl⟩] at hO;subst hO hk;exact FD34
   ·rcases Hb t.text x with hx|⟨y1,y2,y3,y4⟩;·rw [Ah ⟨hk,.inr hx⟩] at hO;subst hO hk hx;exact FD34
    ·rw [Ai (fun h=>h.2.elim x3 y3)] at hO;replace hO:=Aa hO;subst hk;go_in;go_wp2;exact⟨rfl,bad.out hO.out.symm _ _ _ (hHH.out _ _)⟩
  ·rw [Ai (fun h=>k2 h.1)] at hO;replace hO:=Aa hO;go_in;go_wp2;exact⟨rfl,bad.out hO.out.symm _ _ _ (hHH.out _ _)⟩
theorem Tk (k p:Nat) (s:Q00) (L:List Q03) (no:Q00) (w:ZB) (h:Rdr k p w s L) : ZE prog 133 #[.pointer (some ⟨p,0,none⟩),↑no] w (xJ ay k p s w (iY no L)):=by
 have T:=Aa (Mw k p s L 1 [] w h);obtain⟨O,hO⟩:=naa (tkK 1 [] L);unfold iY;rw [hO] at T ⊢;clear hO h;cases O with
 |none =>exact FD100
 |some x =>
  obtain⟨t,L'⟩:=x;dsimp only at *;rcases Hb t.text no with hx|⟨y1,y2,y3,y4⟩;·rw [Ah hx];subst hx;exact FD29
  ·rw [Ai y3];exact FD41
theorem Th (k p:Nat) (s:Q00) (L:List Q03) (least most:Int) (w:ZB) (h:Rdr k p w s L) : ZE prog 140 #[.pointer (some ⟨p,0,none⟩),↑least,↑most] w (xJ aI k p s w (nV least most L)):=by
 have T:=Aa (Mw k p s L 2 [] w h);obtain⟨O,hO⟩:=naa (tkK 2 [] L);unfold nV;rw [hO] at T ⊢;clear hO h;cases O with
 |none =>exact FD100
 |some x =>
  obtain⟨t,L'⟩:=x;dsimp only at *;by_cases hx:(t.n:Int)<least\/(t.n:Int) > most
  ·rw [Ah hx];by_cases h1:(t.n:Int)<least;·have d1:ZH ((t.n:Int)<least)=true:=Di h1;exact FD29
   ·have d1:ZH ((t.n:Int)<least)=false:=Cj h1;have d2:ZH (most<(t.n:Int))=true:=Di (hx.resolve_left h1);exact FD29
  ·rw [Ai hx];rw [Le] at hx;have d1:ZH ((t.n:Int)<least)=false:=Cj hx.1;have d2:ZH (most<(t.n:Int))=false:=Cj hx.2;exact FD41
theorem Ti (k p:Nat) (s:Q00) (L:List Q03) (x:Q00) (w:ZB) (h:Rdr k p w s L) : ZE prog 138 #[.pointer (some ⟨p,0,none⟩),↑x] w fun e w'=>e=.returned (.bool (dP x L).1)/\Rdr k p w' s (dP x L).2/\Held [p] w w':=by
 have hlt:=h.lt;have hself:=Aa (And.intro h (Held.refl [p] w));obtain⟨v,hb,ht⟩:=h;have c0:=Ab hb 0;have c1:=Ab hb 1;simp at c0 c1;cases L with
 |nil =>obtain⟨av,cv,rfl,hc1,hc2⟩:=ht.form;clear hb ht;go_in;go_wp2;go_ret;exact⟨rfl,hself.out⟩
 |cons t L =>
  obtain⟨av,cv,rfl,hc1,hc2⟩:=ht.form;have htail:=ht.cut 1 sM;rw [Gx,Gv] at htail;obtain⟨a2,c2,hSl,_,_⟩:=htail.form;rw [hSl] at htail;obtain⟨b,off,rfl,hbp,hn,h1,h2,hcell,_⟩:=ht.real.tail;rw [Ap] at *;have z:((L.length+1:Nat):Int)≠0:=oM;have d0:=hcell 0 _ rfl;have d3:=hcell 3 _ rfl;rw [Hu] at d0;have f1:=Ao hb 1;have hST:=Aa (Rdr.store hb htail);clear ht hcell htail hb;have zp:(0:Int)<(L.length:Int)+1:=oM;obtain⟨O,hO⟩:=naa (dP x (t::L));rw [hO];unfold dP CH.isWord at hO;dsimp only at hO;rcases N4 t.kind 1 with hk|⟨k1,k2⟩
  ·rcases Hb t.text x with hx|⟨y1,y2,y3,y4⟩
   ·rw [Ah (by rw [hk,hx];simp)] at hO;subst hO hx;have k1:((t.kind:Int)==1)=true:=by rw [hk];rfl
    go_in;go_wp2;go_ret;exact⟨rfl,hST.out⟩
   ·rw [Ai (by simp [y3])] at hO;subst hO;have k1:((t.kind:Int)==1)=true:=by rw [hk];rfl
    go_in;go_wp2;go_ret;exact⟨rfl,hself.out⟩
  ·rw [Ai (by simp [k2])] at hO;subst hO;have k1:((t.kind:Int)==1)=false:=k1;go_in;go_wp2;go_ret;exact⟨rfl,hself.out⟩
end
end Go.Proofs.Y
namespace CH
theorem qg {L:List Tok} {n:Nat} (h:n=L.length\/iq (L.drop n)=true):ig (L.drop n)=0:=by
 rcases h with h|h;·rw [List.drop_of_length_le oM];rfl
 ·cases hd:L.drop n with
  |nil=>rfl
  |cons t l =>rw [hd] at h;unfold ig;rw [Ah h]
theorem uH {L:List Tok} {n:Nat} (hn:n<L.length) (h:iq (L.drop n)=false):ig (L.drop n)=ig (L.drop (n+1))+1:=by
 rw [Ei hn] at h ⊢;conv=>lhs;unfold ig
 rw [Ai (by rw [h];decide)]
end CH
namespace Go.Proofs.Y
open Go.RowKit Go.Lib Go.Shelf Go.Sort CH
attribute [local go_sem ↓] Fw
attribute [local irreducible] wpQuiet
theorem El.tok {B:Nat} {w:ZB} {v:ZC} {L:List Q03} (h:El B w v L) {k:Nat} {t:Q03} (hk:L[k]?=some t):∃ b off cap,v=.slice (some ⟨b,off,none⟩) L.length cap/\L.length<=cap/\cap<=9223372036854775807/\b<B/\∀ i u,(A7 t)[i]?=some u->w.cell? ⟨b,off+k*4+i,none⟩=some u:=by obtain⟨a,cap,rfl,h2,h3,h4⟩:=h;obtain⟨b,off,rfl,hb,hc⟩:=h4 (by rintro rfl;simp at hk);exact⟨b,off,cap,rfl,h2,h3,hb,fun i u hi=>hc k t hk i u hi⟩
theorem Zx (k p g:Nat) (s:Q00) (L:List Q03) (n:Nat) (w:ZB) (h:Rdr k p w s L) (hg:w.cell? ⟨g,0,none⟩=some (.pointer (some ⟨p,0,none⟩))) (hn:n<L.length) : ZE Tryz.prog 210 #[↑n,.pointer (some ⟨g,0,none⟩)] w (Ret w (.bool (iq (L.drop n)))):=by
 have hlt:=h.lt;obtain⟨v,hb,ht⟩:=h;obtain⟨t,hgt⟩:∃ t,L[n]?=some t:=⟨_,Ae hn⟩
 obtain⟨b,off,cap,rfl,hcap,hmax,hbp,hc⟩:=ht.real.tok hgt;have c1:=Ab hb 1;simp at c1;have hB0:=Aa fun o=>(Ac _ w).alloc nR o;have gx:=fun o=>(Em w ⟨g,0,none⟩ o (by rw [hg];rfl)).trans hg;have c1x:=fun o=>(Em w ⟨p,1,none⟩ o (by rw [c1];rfl)).trans c1;have d0:=hc 0 _ rfl;have d1:=hc 1 _ rfl;have d2:=hc 2 _ rfl;have d3:=hc 3 _ rfl;rw [Hu] at d0;have hdr:L.drop n=t::L.drop (n+1):=by obtain⟨_,rfl⟩:=En.1 hgt;exact Ei hn
 rw [hdr];have z0:(0:Int)<=(n:Int):=oM;have zn:((n:Int)).toNat=n:=oM;have zl:(n:Int)<(L.length:Int):=oM;have zw:IntKind.i64.wrap ((n:Int)+1)=(n:Int)+1:=by rw [IntKind.wrap_i64];omega
 obtain⟨O,hO⟩:=naa (iq (t::L.drop (n+1)));rw [hO];obtain⟨A,hA⟩:=naa ((t.kind:Int)==1);obtain⟨C,hC⟩:=naa ((⟨t.text.toArray⟩:ByteArray)==⟨#[102,114,111,109]⟩);have hA':(t.kind==1)=A:=by rw [<- hA,Fv];simp;omega
 have hC':(t.text==([102,114,111,109]:Q00))=C:=by rw [<- hC,<- Fr]
 obtain⟨D,hD⟩:=naa (ZH ((n:Int)+1<(L.length:Int)));have hw:∀ l,iq (t::l)=(A&&C&&(match l with|[]=>false|u::_=>u.kind==2)):=fun l=>by
  cases l with
  |nil=>simp [iq]
  |cons u l=>show (CH.isWord _ t&&_)=_;unfold CH.isWord;rw [hA',hC']
 have hcase:(A=false/\O=false)\/(A=true/\C=false/\O=false/\(t.text==([102,114,111,109]:Q00))=false/\¬ t.text=([102,114,111,109]:Q00))\/(A=true/\t.text=([102,114,111,109]:Q00)/\D=false/\O=false)\/(A=true/\t.text=([102,114,111,109]:Q00)/\D=true/\∃ u:Q03,((u.kind:Int)==2)=O/\∀ o,(w.alloc o).cell? ⟨b,off+(n+1)*4,none⟩=some ↑u.kind):=by
  rw [hw] at hO;cases A with
  |false=>exact .inl ⟨rfl,hO.symm⟩
  |true =>
   cases C with
   |false=>exact .inr (.inl ⟨rfl,rfl,hO.symm,hC',Dl.1 hC'⟩)
   |true =>
    have hx:=eq_of_beq hC';cases D with
    |false =>have:L.drop (n+1)=[]:=List.drop_of_length_le (by have:=of_decide_eq_false hD;omega);rw [this] at hO;exact .inr (.inr (.inl ⟨rfl,hx,rfl,hO.symm⟩))
    |true =>
     have hl2:n+1<L.length:=by have:=Il hD;omega
     obtain⟨u,hgu⟩:∃ t,L[n+1]?=some t:=⟨_,Ae hl2⟩
     obtain⟨b',off',cap',e,_,_,_,hc'⟩:=ht.real.tok hgu;cases e;have hdu:L.drop (n+1)=u::L.drop (n+2):=by obtain⟨_,rfl⟩:=En.1 hgu;exact Ei hl2
     rw [hdu] at hO;refine .inr (.inr (.inr ⟨rfl,hx,rfl,u,?_,fun o=>(Em w ⟨b,off+(n+1)*4,none⟩ o (by rw [show off+(n+1)*4=off+(n+1)*4+0 from rfl,hc' 0 _ rfl];rfl)).trans (hc' 0 _ rfl)⟩));rw [<- hO,Fv];simp;omega
 clear ht hc hb hgt hdr hO hw hA' hC';generalize L.length=N at *;obtain⟨tk,tp,tn,tx⟩:=t;dsimp only [A7] at *;rcases hcase with⟨rfl,rfl⟩|⟨rfl,rfl,rfl,y1,y2⟩|⟨rfl,rfl,rfl,rfl⟩|⟨rfl,rfl,rfl,u,hu,u0⟩;rotate_left 3;·have zn1:((n:Int)+1).toNat=n+1:=oM;have z01:(0:Int)<=(n:Int)+1:=oM;have zl1:(n:Int)+1<(N:Int):=Il hD;go_in;go_wp2;go_ret;exact⟨rfl,hB0.out _⟩
 all_goals go_in;go_wp2;go_ret;exact⟨rfl,hB0.out _⟩
def MW (k p:Nat) (s:Q00) (w:ZB) (o:Option (CH.Formula × List Q03)) (e:Ending) (w':ZB):Prop := Held [p] w w'/\match o with |some x=>Rdr k p w' s x.2/\∃ vk,e=.returned (.agg (An x.1 vk))/\Ax w' (era w w') x.1 vk/\Ct x.1/\x.1.count<=200/\x.1.depth<=20 |none=>I34 e
theorem Rdr.form {k p:Nat} {w:ZB} {s:Q00} {L:List Q03} (h:Rdr k p w s L):∃ a cap,L.length<=cap/\cap<=9223372036854775807/\w.heap[p]?=some (.cells #[↑s,.slice a L.length cap] 206 (0,0))/\El p (era k w) (.slice a L.length cap) L:=by obtain⟨v,h1,h2⟩:=h;obtain⟨a,cap,rfl,h3,h4⟩:=h2.form;exact⟨a,cap,h3,h4,h1,h2⟩
theorem Buf (k p:Nat) (s:Q00) (L:List Q03) (begin:Nat) (w:ZB) (h:Rdr k p w s L) (hb:begin<=mW s (L.drop (ig L))) (he:mW s (L.drop (ig L))<=s.length) (hs:s.length<=20000) : ZE Tryz.prog 139 #[.pointer (some ⟨p,0,none⟩),↑begin] w (MW k p s w (qy s begin L)):=by
 have hmf:∀ (fn:Fn) (first cap:Array ZC) (w:ZB),(Instr.makeFunc fn first cap).run Tryz.prog w=.ok (.func fn first cap) w:=fun _ _ _ _=>rfl;have hlt:=h.lt;have hB0:=Aa fun o o2=>((Ac _ w).alloc nR o).alloc sM o2;have A2:=Aa fun o o2=>(Hj w o o2)
 obtain⟨a,cap,hcap,hmax,hbp,hT⟩:=h.form;obtain⟨O,hO⟩:=naa (qy s begin L);rw [hO];unfold qy at hO;obtain⟨q,hq⟩:=naa (ig L);rw [hq] at hO hb he;obtain⟨N,hN⟩:=naa L.length;replace hO:=Aa hO;replace hb:=Aa hb;replace he:=Aa he;have hq':=Aa hq;rw [hN] at hcap hbp hT;replace hN:=Aa hN;go_in;go_wp2_with fail;have B:=hB0.out (.cells #[.pointer (some ⟨p,0,none⟩)] 204) (.cells #[.int .i64 0,.string ⟨#[]⟩,.int .i64 0,.int .i64 0,.slice none 0 0] 58);obtain⟨gB,gF⟩:=A2.out (.cells #[.pointer (some ⟨p,0,none⟩)] 204) (.cells #[.int .i64 0,.string ⟨#[]⟩,.int .i64 0,.int .i64 0,.slice none 0 0] 58);generalize (w.alloc (.cells #[.pointer (some ⟨p,0,none⟩)] 204)).alloc _=W at *;have hRW:=h.below B;have hWs:w.heap.size+1<W.heap.size:=(aZ gF)
 have KF:=Aa fun (Y:ZB) (hb:Below W W Y)=>(⟨(hb.block w oM).trans gB,(hb.block p oM).trans ((B.block p hlt).trans hbp)⟩:Y.heap[w.heap.size]?=some (.cells #[.pointer (some ⟨p,0,none⟩)] 204 (0,0))/\Y.heap[p]?=some (.cells #[↑s,.slice a N cap] 206 (0,0)))
 go_loopw [6] (fun iv wr=>∃ n:Nat,n<=N/\iv=↑n/\Hid (q=n+ig (L.drop n))/\Hid (Below W W wr)) (fun iv _=>N - (RowKit.intOf iv).toNat);case atStart=>exact⟨0,Ak _,rfl,Aa (by rw [Gv,Ba];exact hq'.out.symm),Aa (Ac _ _)⟩
 case round =>
  obtain⟨n,hn,rfl,hI,hBr⟩:=hrel;have g0:=(hBr.out.block w oM).trans gB;have gp:=(hBr.out.block p oM).trans ((B.block p hlt).trans hbp);have xg:=Ab g0 0;have xp0:=Ab gp 0;have xp1:=Ab gp 1;simp at xg xp0 xp1;have hRr:=Aa (hRW.below hBr.out);have hcase:(n<N/\iq (L.drop n)=false)\/(n<N/\iq (L.drop n)=true)\/n=N:=by
   by_cases hlt:n<N
   ·cases hR:iq (L.drop n) with
    |false=>exact .inl ⟨hlt,rfl⟩
    |true=>exact .inr (.inl ⟨hlt,rfl⟩)
   ·exact .inr (.inr oM)
  rcases hcase with⟨hlt2,hR⟩|⟨hlt2,hR⟩|hlt2;focus
   have d1:=nai ((n:Int)<(N:Int));have FR:=Aa (Zx k p w s L n wr hRr.out xg (by rw [hN.out];exact hlt2));rw [hR] at FR;have hI2:Hid (q=n+1+ig (L.drop (n+1))):=Aa (by rw [hI.out,uH (by rw [hN.out];exact hlt2) hR];omega);go_wp2_with fail;refine CmZ FR.out fun w1 hb1=>?_;have hB1:Hid (Below W W w1):=Aa (hBr.out.trans (hb1.mono hBr.out.size));clear FR hR hI;go_wp2;go_roundw;case rel=>exact⟨n+1,oM,by go_num,hI2,hB1⟩
   case measure=>simp [RowKit.intOf];omega
  focus
   have d1:=nai ((n:Int)<(N:Int));have FR:=Aa (Zx k p w s L n wr hRr.out xg (by rw [hN.out];exact hlt2));rw [hR] at FR;obtain rfl:q=n:=by rw [hI.out,qg (.inr hR)];rfl
   obtain⟨t,hgt⟩:∃ t,L[q]?=some t:=⟨_,Ae (by rw [hN.out];exact hlt2)⟩
   obtain⟨b,off,cap',e,_,_,hbt,hc⟩:=hT.real.tok hgt;have e1:=(Value.slice.inj e).1;clear e;subst e1;have hE:t.pos=mW s (L.drop q):=by obtain⟨hl,rfl⟩:=En.1 hgt;rw [Ei hl];rfl
   have hc1:=hc 1 _ rfl;rw [hE] at hc1;generalize mW s (L.drop q)=E at *;go_wp2_with fail;refine CmZ FR.out fun X hb1=>?_;have hBX:Below W W X:=hBr.out.trans (hb1.mono hBr.out.size);clear FR hR hI hE hc hgt;have hcY:=Aa fun (Y:ZB) (hb:Below W W Y)=>(hb.cell (p:=⟨b,off+q*4+1,none⟩) (by show b<_;omega)).trans ((B.cell (p:=⟨b,off+q*4+1,none⟩) (by show b<_;omega)).trans hc1);obtain⟨gXg,gXp⟩:=KF.out X hBX;have yg:=Ab gXg 0;have yp0:=Ab gXp 0;have yp1:=Ab gXp 1;simp at yg yp0 yp1;have zg:=A8 yg;have zp0:=A8 yp0;have zp1:=A8 yp1;go_wp2_with fail;refine Bh kR kR ?_;repeat (quiet_step (fail))
   refine D8 ?_;intro wq hbq;replace hbq:=Ay hbq;have hBq:Below W W wq:=hBX.trans (hbq.mono hBX.size);have QI:=hcY.out wq hBq;clear hbq yg yp0 yp1 zg zp0 zp1 gXg gXp hBX hb1 g0 gp xg xp0 xp1 hc1 hcY hRr;obtain⟨gXg,gXp⟩:=KF.out wq hBq;have yg:=Ab gXg 0;have yp0:=Ab gXp 0;have yp1:=Ab gXp 1;simp at yg yp0 yp1;have z0:(0:Int)<=(q:Int):=oM;have zn:((q:Int)).toNat=q:=oM;have zl:(q:Int)<(N:Int):=oM;go_wp2_with fail;clear QI d1 hlt2 z0 zn zl
  rotate_left;focus
   obtain rfl:q=n:=by rw [hI.out,qg (.inl (by rw [hN.out];exact hlt2))];rfl
   have d1:=naj ((q:Int)<(N:Int));have d2:¬ ((q:Int)<(N:Int)):=oM;have d3:¬ q<N:=oM;replace hlt2:=Aa hlt2;obtain⟨E,hE⟩:=naa (mW s (L.drop q));rw [hE] at hO hb he;have hE2:mW s (L.drop q)=s.length:=by rw [List.drop_of_length_le (by rw [hN.out,hlt2.out];exact Au _)];rfl
   have hE3:E=s.length:=hE.symm.trans hE2;have hE4:((s.length:Nat):Int)=(E:Int):=by rw [hE3]
   clear hE hE2 hI;have zg:=A8 xg;have zp0:=A8 xp0;have zp1:=A8 xp1;go_wp2_with fail;refine Bh kR kR ?_;repeat (quiet_step (fail))
   refine D8 ?_;intro wq hbq;replace hbq:=Ay hbq;have hBq:Below W W wq:=hBr.out.trans (hbq.mono hBr.out.size);clear hbq zg zp0 zp1 g0 gp xg xp0 xp1 hRr;obtain⟨gXg,gXp⟩:=KF.out wq hBq;have yg:=Ab gXg 0;have yp0:=Ab gXp 0;have yp1:=Ab gXp 1;simp at yg yp0 yp1;go_wp2_with fail;clear d1 d2 d3 hlt2 hE3 hE4
  all_goals
   obtain⟨a2,c2,hSl,_,_⟩:=(hT.cut q hn).form;have hT2:=hT.cut q hn;rw [hSl] at hT2;obtain⟨m,hm⟩:=naa ((L.drop q).length);rw [hm] at hSl hT2;clear hm;have z0:(0:Int)<=(q:Int):=oM;have zn:((q:Int)).toNat=q:=oM;have zl:(q:Int)<=(N:Int):=oM;have zg:=A8 yg;have zp1:=A8 yp1;refine Ha 7 kR kR ?_;simp only [Hw,Ic,Gx,Gv];repeat (quiet_step (fail))
   refine D8 ?_;intro wq hbq;replace hbq:=Ay hbq;have hB2:Below W W wq:=hBq.trans (hbq.mono hBq.size);clear hbq yg yp0 yp1 zg zp1 gXg gXp hBq;have hBw:Below w w wq:=B.trans (hB2.mono B.size);obtain⟨gg,gp⟩:=KF.out wq hB2;obtain⟨hST,hHd⟩:=Rdr.store gp (hT2.stay (Held.of_below (R:=[]) hBw) (fun r hr=>by cases hr) (Dy hlt));have f1:=Ao gp 1;have c1:=Ab gp 1;have ggY:=(As wq ⟨p,1,none⟩ (.slice a2 m c2) w.heap.size (by show w.heap.size≠p;omega)).trans gg;have gpY:=Al wq p 1 (.slice a2 m c2) _ _ _ gp;have gFY:=(As wq ⟨p,1,none⟩ (.slice a2 m c2) (w.heap.size+1) (by show w.heap.size+1≠p;omega)).trans ((hB2.block _ hWs).trans gF);have eg:=Ab ggY 0;have ep:=Ab gpY 0;simp at c1 eg ep;have hHw:Held [p] w (wq.setCell ⟨p,1,none⟩ (.slice a2 m c2)):=(Held.of_below (R:=[p]) hBw).trans hHd;have OH:wq.heap.size=(wq.setCell ⟨p,1,none⟩ (.slice a2 m c2)).heap.size:=by simp [World.setCell]
   have zE:=he.out;have zB:=hb.out;have y0:(0:Int)<=(begin:Int):=oM;have y1:(begin:Int)<=(E:Int):=oM;have y2:(E:Int)<=(s.length:Int):=oM;have hx:(ByteArray.mk s.toArray).extract begin E=⟨((s.take E).drop begin).toArray⟩:=by rw [Fu,List.drop_take]
   have hls:((s.take E).drop begin).length<=20000:=by rw [Cc,C9];omega
   generalize (s.take E).drop begin=sub at *;go_wp2_with fail;have hzY:w.heap.size+1<(wq.setCell ⟨p,1,none⟩ (.slice a2 m c2)).heap.size:=(aZ gFY)
   clear gg gp hHd f1 ggY gpY eg ep c1 hB2 hBw OH KF gB gF hRW hT2 hSl hB0 A2 hmf zE zB y0 y1 y2 z0 zn zl hx;generalize wq.setCell ⟨p,1,none⟩ (.slice a2 m c2)=Y at *;have FP:=Can sub Y hls;obtain⟨RF,hRF⟩:=naa (qo sub);rw [hRF] at FP hO;refine FP.mono ?_;rintro e w3 ⟨hb3,f,vk,fe,fa,rfl,hK,hm⟩;obtain⟨ak,ck,rfl,_⟩:=hK.form;have hH3:Held [p] w w3:=hHw.trans (Held.of_below hb3);have hR3:=hST.below hb3;have g4:=(hb3.block (w+1) hzY).trans gFY;have f4:=Ao g4;have c40:=Ab g4 0;have c41:=Ab g4 1;have c42:=Ab g4 2;have c43:=Ab g4 3;have c44:=Ab g4 4;simp at c40 c41 c42 c43 c44;have hsz3:w.heap.size+1<w3.heap.size:=(aZ g4)
   clear FP hHw hST gFY hRF;cases RF with
   |none =>
    obtain rfl:O=none:=hO.out.symm;have q0:(fe != 0)=true:=by simpa using hm
    obtain⟨q6,hq6⟩:=naa (fe==6);obtain⟨qa,hqa⟩:=naa (ZH (fa<0));have hH4:=Aa fun o=>hH3.alloc o;obtain⟨f0,f1,f2,f3,f5⟩:=f;dsimp only [An,CH.Formula.op,CH.Formula.name,CH.Formula.cmp,CH.Formula.n,CH.Formula.kids] at *;generalize f5.length=fl at *;cases q6;all_goals cases qa;all_goals go_wp2_with fail;exact⟨rfl,hH4.out _,_,_,rfl⟩
   |some g =>obtain⟨rfl,rfl,hsh,hct,hdp⟩:=hm;obtain rfl:O=some (f,L.drop q):=hO.out.symm;obtain⟨f0,f1,f2,f3,f5⟩:=f;dsimp only [An,CH.Formula.op,CH.Formula.name,CH.Formula.cmp,CH.Formula.n,CH.Formula.kids] at *;generalize f5.length=fl at *;have HE:Held [w.heap.size+1] w3 ((((((w3.setCell ⟨w+1,0,none⟩ ↑f0).setCell ⟨w+1,1,none⟩ ↑f1).setCell ⟨w+1,2,none⟩ ↑f2).setCell ⟨w+1,3,none⟩ ↑f3).setCell ⟨w+1,4,none⟩ (.slice ak fl ck)).alloc (.cells #[↑f0,↑f1,↑f2,↑f3,.slice ak fl ck] 58)):=(Cd hsz3 _ _ _ _ _).alloc _;have HX:=Aa ((((((hH3.kH (w+1) 0 ↑f0 oM).kH (w.heap.size+1) 1 ↑f1 oM).kH (w.heap.size+1) 2 ↑f2 oM).kH (w.heap.size+1) 3 ↑f3 oM).kH (w.heap.size+1) 4 (.slice ak fl ck) oM).alloc (.cells #[↑f0,↑f1,↑f2,↑f3,.slice ak fl ck] 58));have RX:=Aa (hR3.held HE (fun r hr=>by rw [Ad] at hr;omega));have KX:=Aa (Ax.kept (Eg (oM:w.heap.size<=Y.heap.size)) _ _ (Ax.mono HE.size _ _ (Ax.kept (Bw HE (fun r hr=>by rw [Ad] at hr;omega)) _ _ hK)));clear HE;go_wp2_with fail;exact Ck 58 (w.heap.size+1) [↑f0,↑f1,↑f2,↑f3,.slice ak fl ck] rfl rfl (Co (Cf g4)) Tryz.underlying58 rfl kR ⟨HX.out,RX.out,_,rfl,KX.out,hsh,hct,hdp⟩
end Go.Proofs.Y
namespace Go.Proofs.Y
section
open Go.Lib Go.Proofs.Tryz Go.RowKit Go.Shelf Go.Sort CH
attribute [local go_sem ↓] Fw
def dR (b:Nat) (w:ZB) (m:aC) (vk:ZC):Prop:=w.heap[b]?=some (.cells (A6 m vk).toArray 60 (0,0))
section
open CH
variable {b:Nat} {w:ZB} {m:aC} {vk:ZC}
theorem dR.lt (h:dR b w m vk):b<w.heap.size:=(aZ h)
theorem dR.held {R:List Nat} {w':ZB} (h:dR b w m vk) (hh:Held R w w') (hR:b ∉ R):dR b w' m vk:=(hh.block b h.lt hR).trans h
theorem dR.cells (h:dR b w m vk):w.cell? ⟨b,0,none⟩=some ↑m.id/\w.cell? ⟨b,1,none⟩=some ↑m.authority/\w.cell? ⟨b,2,none⟩=some ↑m.kind/\w.cell? ⟨b,3,none⟩=some ↑m.target/\w.cell? ⟨b,9,none⟩=some ↑m.start/\w.cell? ⟨b,10,none⟩=some ↑m.aF/\w.cell? ⟨b,11,none⟩=some ↑m.aQ := ⟨Ab h 0,Ab h 1,Ab h 2,Ab h 3,Ab h 9,Ab h 10,Ab h 11⟩
theorem dR.free (h:dR b w m vk) (j:Nat):w.frozen? ⟨b,j,none⟩=false:=Ao h j
theorem dR.set0 (h:dR b w m vk) (x:Q00):dR b (w.setCell ⟨b,0,none⟩ ↑x) { m with id:=x } vk:=Al w b 0 _ _ _ _ h
theorem dR.set1 (h:dR b w m vk) (x:Q00):dR b (w.setCell ⟨b,1,none⟩ ↑x) { m with authority:=x } vk:=Al w b 1 _ _ _ _ h
theorem dR.set2 (h:dR b w m vk) (x:Int):dR b (w.setCell ⟨b,2,none⟩ ↑x) { m with kind:=x } vk:=Al w b 2 _ _ _ _ h
theorem dR.IC (h:dR b w m vk) (x:Q00):dR b (w.setCell ⟨b,3,none⟩ ↑x) { m with target:=x } vk:=Al w b 3 _ _ _ _ h
theorem dR.NG (h:dR b w m vk) (x:Int):dR b (w.setCell ⟨b,9,none⟩ ↑x) { m with start:=x } vk:=Al w b 9 _ _ _ _ h
theorem dR.IG (h:dR b w m vk) (x:Int):dR b (w.setCell ⟨b,10,none⟩ ↑x) { m with aF:=x } vk:=Al w b 10 _ _ _ _ h
theorem dR.IE (h:dR b w m vk) (x:Int):dR b (w.setCell ⟨b,11,none⟩ ↑x) { m with aQ:=x } vk:=Al w b 11 _ _ _ _ h
end
theorem Held.sub {R R':List Nat} {w w':ZB} (h:Held R w w') (hs:∀ r∈R,r∈R'):Held R' w w' := ⟨h.os,h.tape,h.output,h.size,fun k hk hR=>h.block k hk fun hr=>hR (hs k hr)⟩
def vM (k b p:Nat) (s:Q00) (vk:ZC) (w:ZB) (o:Option (aC × List Q03)) (e:Ending) (w':ZB):Prop := Held [b,p] w w'/\match o with |some x=>e=.returned (.tuple #[])/\Rdr k p w' s x.2/\dR b w' x.1 vk |none=>I34 e/\∃ m,dR b w' m vk
theorem Ua (k b p g:Nat) (s:Q00) (L:List Q03) (m:aC) (vk:ZC) (i a:Q00) (w:ZB) (hbk:b<k) (hkp:k<=p) (hpg:p<g) (hm:dR b w m vk) (hg:w.heap[g]?=some (.cells #[.pointer (some ⟨p,0,none⟩)] 204 (0,0))) (hR:Rdr k p w s L) : ZE prog 132 #[↑i,↑a,.pointer (some ⟨g,0,none⟩),.pointer (some ⟨b,0,none⟩)] w (vM k b p s vk w ((jk i a L).map fun x=>({ m with id:=x.1,authority:=x.2.1 },x.2.2))):=by
 have N1:=Aa (Tk k p s L i w hR);obtain⟨O,hO⟩:=naa ((jk i a L).map fun x=>(({ m with id:=x.1,authority:=x.2.1 }:aC),x.2.2));rw [hO];unfold jk at hO;obtain⟨O1,hO1⟩:=naa (iY i L);rw [hO1] at N1 hO;replace hO:=Aa hO;clear hO1;have xg:=Ab hg 0;have hgl:=(aZ hg)
 simp at xg;have hsub:∀ r∈[p],r∈[b,p]:=sM;cases O1 with
 |none =>obtain rfl:O=none:=hO.out.symm;go_in;go_wp2_with fail;refine N1.out.mono ?_;rintro e w1 ⟨hh,n,x,rfl⟩;exact⟨rfl,hh.sub hsub,⟨n,x,rfl⟩,m,hm.held hh naf⟩
 |some x =>
  obtain⟨id,L1⟩:=x;have hO:=hO.out;dsimp only at hO;obtain⟨O2,hO2⟩:=naa (tkK 1 ([111,102]:Q00) L1);rw [hO2] at hO;replace hO:=Aa hO;go_in;go_wp2_with fail;refine N1.out.mono ?_;rintro e w1 ⟨hh,rfl,hP⟩;have hm1:=hm.held hh naf;have hg1:=(hh.block g hgl naf).trans hg;have hH1:=(hh.sub hsub).bT b 0 ↑id sM;have hm2:=hm1.set0 id;have hs1:Held [b] w1 (w1.setCell ⟨b,0,none⟩ ↑id):=(Held.refl _ _).bT _ _ _ sM;have hP2:=hP.held hs1 (fun r hr=>by simp at hr;omega);have hg2:=(hs1.block g (by have:=hh.size;omega) naf).trans hg1;have xg2:=Ab hg2 0;simp at xg2;obtain⟨c0,-⟩:=hm1.cells;have f0:=hm1.free 0;go_wp2_with fail;clear c0 f0 hm1 hg1 hs1 hP hh N1;generalize w1.setCell ⟨b,0,none⟩ ↑id=W2 at *;have N2:=Mw k p s L1 1 ([111,102]:Q00) W2 hP2;rw [hO2] at N2;clear hO2;cases O2 with
  |none =>obtain rfl:O=none:=hO.out.symm;refine N2.mono ?_;rintro e w2 ⟨hh,n,x,rfl⟩;exact⟨rfl,hH1.trans (hh.sub hsub),⟨n,x,rfl⟩,_,hm2.held hh naf⟩
  |some x =>
   obtain⟨t,L2⟩:=x;have hO:=hO.out;dsimp only at hO;obtain⟨O3,hO3⟩:=naa (iY a L2);rw [hO3] at hO;replace hO:=Aa hO;refine N2.mono ?_;rintro e w2 ⟨hh,rfl,hP3⟩;have hm3:=hm2.held hh naf;have hg3:=(hh.block g (aZ hg2) naf).trans hg2;have hH2:=hH1.trans (hh.sub hsub);have xg3:=Ab hg3 0;simp at xg3;have N3:=Aa (Tk k p s L2 a w2 hP3);rw [hO3] at N3;clear hO3 N2 hh hm2 hg2 xg2;cases O3 with
   |none =>obtain rfl:O=none:=hO.out.symm;go_wp2_with fail;refine N3.out.mono ?_;rintro e w3 ⟨hh,n,x,rfl⟩;exact⟨rfl,hH2.trans (hh.sub hsub),⟨n,x,rfl⟩,_,hm3.held hh naf⟩
   |some x =>obtain⟨au,L3⟩:=x;obtain rfl:O=some _:=hO.out.symm;go_wp2_with fail;refine N3.out.mono ?_;rintro e w3 ⟨hh,rfl,hP4⟩;have hm4:=hm3.held hh naf;have hs4:Held [b] w3 (w3.setCell ⟨b,1,none⟩ ↑au):=(Held.refl _ _).bT _ _ _ sM;obtain⟨-,c1,-⟩:=hm4.cells;have f1:=hm4.free 1;have hE:=Aa (And.intro ((hH2.trans (hh.sub hsub)).bT b 1 ↑au sM) (And.intro (hP4.held hs4 (fun r hr=>by simp at hr;omega)) (hm4.set1 au)));go_wp2;go_end0;exact⟨hE.out.1,rfl,hE.out.2⟩
theorem End (k b p g h:Nat) (s:Q00) (L:List Q03) (m:aC) (vk:ZC) (w:ZB) (hbk:b<k) (hkp:k<=p) (hpg:p<g) (hgh:g<h) (hm:dR b w m vk) (hg:w.heap[g]?=some (.cells #[.pointer (some ⟨p,0,none⟩)] 204 (0,0))) (hh:w.heap[h]?=some (.cells #[.func (.func 132) #[] #[.pointer (some ⟨g,0,none⟩),.pointer (some ⟨b,0,none⟩)]] 208 (0,0))) (hR:Rdr k p w s L) : ZE prog 135 #[.pointer (some ⟨b,0,none⟩),.pointer (some ⟨h,0,none⟩)] w (vM k b p s vk w ((jk [] [] L).map fun x=>({ m with kind:=1,id:=x.1,authority:=x.2.1 },x.2.2))):=by
 have hhl:=(aZ hh)
 have hgl:=(aZ hg)
 obtain⟨-,-,c2,-⟩:=hm.cells;have f2:=hm.free 2;have hs:Held [b] w (w.setCell ⟨b,2,none⟩ (.int .i64 1)):=(Held.refl _ _).bT _ _ _ sM;have hg2:=(hs.block g hgl naf).trans hg;have hh2:=(hs.block h hhl naf).trans hh;have xh:=Ab hh2 0;simp at xh;obtain⟨O,hO⟩:=naa (jk [] [] L);have HD:=Aa (Ua k b p g s L _ vk [] [] _ hbk hkp hpg (hm.set2 1) hg2 (hR.held hs (fun r hr=>by simp at hr;omega)));have hs2:Held [b,p] w (w.setCell ⟨b,2,none⟩ (.int .i64 1)):=hs.sub sM;rw [hO] at HD ⊢;clear hO;go_in;go_wp2_with fail;refine HD.out.mono ?_;rintro e w1 ⟨hH,hm⟩;cases O with
 |none =>obtain⟨⟨n,x,rfl⟩,hm⟩:=hm;exact⟨rfl,hs2.trans hH,⟨n,x,rfl⟩,hm⟩
 |some x =>obtain⟨rfl,hm⟩:=hm;go_wp2;go_end0;exact⟨hs2.trans hH,rfl,hm⟩
theorem Env (k b p g h:Nat) (s:Q00) (L:List Q03) (m:aC) (vk:ZC) (w:ZB) (hbk:b<k) (hkp:k<=p) (hpg:p<g) (hgh:g<h) (hm:dR b w m vk) (hg:w.heap[g]?=some (.cells #[.pointer (some ⟨p,0,none⟩)] 204 (0,0))) (hh:w.heap[h]?=some (.cells #[.func (.func 132) #[] #[.pointer (some ⟨g,0,none⟩),.pointer (some ⟨b,0,none⟩)]] 208 (0,0))) (hR:Rdr k p w s L) : ZE prog 136 #[.pointer (some ⟨g,0,none⟩),.pointer (some ⟨b,0,none⟩),.pointer (some ⟨h,0,none⟩)] w (vM k b p s vk w (match iY [] L with |none=>none |some (t,L)=>(jk t [] L).map fun x=>({ m with kind:=2,target:=t,id:=x.1,authority:=x.2.1 },x.2.2))):=by
 have N1:=Aa (Tk k p s L [] w hR);obtain⟨O1,hO1⟩:=naa (iY [] L);rw [hO1] at N1 ⊢;clear hO1;have xg:=Ab hg 0;have hgl:=(aZ hg)
 have hhl:=(aZ hh)
 simp at xg;have hsub:∀ r∈[p],r∈[b,p]:=sM;cases O1 with
 |none =>exact FD80
 |some x =>
  obtain⟨t,L1⟩:=x;dsimp only at *;obtain⟨O,hO⟩:=naa (jk t [] L1);rw [hO];go_in;go_wp2_with fail;refine N1.out.mono ?_;rintro e w1 ⟨hH,rfl,hP⟩;have hm1:=hm.held hH naf;have hg1:=(hH.block g hgl naf).trans hg;have hh1:=(hH.block h hhl naf).trans hh;obtain⟨-,-,c2,c3,-⟩:=hm1.cells;have f2:=hm1.free 2;have f3:=hm1.free 3;have hs:Held [b] w1 ((w1.setCell ⟨b,2,none⟩ (.int .i64 2)).setCell ⟨b,3,none⟩ ↑t):=((Held.refl _ _).bT _ _ _ sM).bT _ _ _ sM;have hz:=hH.size;have hg2:=(hs.block g oM naf).trans hg1;have hh2:=(hs.block h oM naf).trans hh1;have hm2:=(hm1.set2 2).IC t;have xh:=Ab hh2 0;obtain⟨-,-,-,x3,-⟩:=hm2.cells;simp at xh x3;have HD:=Aa (Ua k b p g s L1 _ vk t [] _ hbk hkp hpg hm2 hg2 (hP.held hs (fun r hr=>by simp at hr;omega)));have hs2:=Aa ((hH.sub hsub).trans (hs.sub (R':=[b,p]) sM));rw [hO] at HD;clear hO hm2 hs hg2 hh2 hP hg1 hh1 hm1;go_wp2_with fail;refine HD.out.mono ?_;rintro e w1 ⟨hH,hm⟩;cases O with
  |none =>exact FD117
  |some x =>obtain⟨rfl,hm⟩:=hm;go_wp2;go_end0;exact⟨hs2.out.trans hH,rfl,hm⟩
theorem Ggr (k b p g h:Nat) (s:Q00) (L:List Q03) (m:aC) (vk:ZC) (w:ZB) (hbk:b<k) (hkp:k<=p) (hpg:p<g) (hgh:g<h) (hm:dR b w m vk) (hg:w.heap[g]?=some (.cells #[.pointer (some ⟨p,0,none⟩)] 204 (0,0))) (hh:w.heap[h]?=some (.cells #[.func (.func 132) #[] #[.pointer (some ⟨g,0,none⟩),.pointer (some ⟨b,0,none⟩)]] 208 (0,0))) (hR:Rdr k p w s L) : ZE prog 137 #[.pointer (some ⟨g,0,none⟩),.pointer (some ⟨b,0,none⟩),.pointer (some ⟨h,0,none⟩)] w (vM k b p s vk w (match iY [] L with |none=>none |some (t,L)=>(jk [] t L).map fun x=>({ m with kind:=3,target:=t,id:=x.1,authority:=x.2.1 },x.2.2))):=by
 have N1:=Aa (Tk k p s L [] w hR);obtain⟨O1,hO1⟩:=naa (iY [] L);rw [hO1] at N1 ⊢;clear hO1;have xg:=Ab hg 0;have hgl:=(aZ hg)
 have hhl:=(aZ hh)
 simp at xg;have hsub:∀ r∈[p],r∈[b,p]:=sM;cases O1 with
 |none =>exact FD80
 |some x =>
  obtain⟨t,L1⟩:=x;dsimp only at *;obtain⟨O,hO⟩:=naa (jk [] t L1);rw [hO];go_in;go_wp2_with fail;refine N1.out.mono ?_;rintro e w1 ⟨hH,rfl,hP⟩;have hm1:=hm.held hH naf;have hg1:=(hH.block g hgl naf).trans hg;have hh1:=(hH.block h hhl naf).trans hh;obtain⟨-,-,c2,c3,-⟩:=hm1.cells;have f2:=hm1.free 2;have f3:=hm1.free 3;have hs:Held [b] w1 ((w1.setCell ⟨b,2,none⟩ (.int .i64 3)).setCell ⟨b,3,none⟩ ↑t):=((Held.refl _ _).bT _ _ _ sM).bT _ _ _ sM;have hz:=hH.size;have hg2:=(hs.block g oM naf).trans hg1;have hh2:=(hs.block h oM naf).trans hh1;have hm2:=(hm1.set2 3).IC t;have xh:=Ab hh2 0;obtain⟨-,-,-,x3,-⟩:=hm2.cells;simp at xh x3;have HD:=Aa (Ua k b p g s L1 _ vk [] t _ hbk hkp hpg hm2 hg2 (hP.held hs (fun r hr=>by simp at hr;omega)));have hs2:=Aa ((hH.sub hsub).trans (hs.sub (R':=[b,p]) sM));rw [hO] at HD;clear hO hm2 hs hg2 hh2 hP hg1 hh1 hm1;go_wp2_with fail;refine HD.out.mono ?_;rintro e w1 ⟨hH,hm⟩;cases O with
  |none =>exact FD117
  |some x =>obtain⟨rfl,hm⟩:=hm;go_wp2;go_end0;exact⟨hs2.out.trans hH,rfl,hm⟩
end
section
open Go.Lib Go.Proofs.Tryz Go.RowKit Go.Shelf Go.Sort CH
structure wS (b:Nat) (w:ZB) (m:aC) (vk:ZC) (n a:Int):Prop where
 ms:dR b w m vk
 err:w.heap[b+1]?=some (.cells #[↑n] 31 (0,0))
 pos:w.heap[b+2]?=some (.cells #[↑a] 3 (0,0))
theorem Pwe (w:ZB):(Instr.typeAssert .nilIface 20 202 true).run prog w=.ok (.tuple #[.agg #[.int .i64 0,.int .i64 0],.bool false]) w:=kR
theorem Map (n a:Int) (w:ZB):(Instr.typeAssert (.iface 202 (.agg #[↑n,↑a])) 20 202 true).run prog w=.ok (.tuple #[.agg #[↑n,↑a],.bool true]) w:=kR
theorem Eof (b:Nat) (w:ZB) : CallsD prog 131 #[.pointer (some ⟨b,0,none⟩),.pointer (some ⟨b+1,0,none⟩),.pointer (some ⟨b+2,0,none⟩)] .returning w fun e u' w'=>e=.returned (.tuple #[])/\u'=.returning/\Below w w w':=by refine callsD_of_wpS func131 rfl fun c₀ cs hu=>?_;simp only [ntmps131,Gu,Ap,Bf,Nat.reduceAdd,Nat.reduceSub,Gt,Gs,Hl,Gy,Eu,D6];have hB:=(Ac _ w).alloc nR (.cells #[.int .i64 0,.int .i64 0] 202 (0,0));apply wpS_seq;apply wpS_region;simp [wpOpsS,go_sem,recoverD,hu,Pwe,Exit.thenS];refine wpS_of_wp ?_;go_wp2;obtain⟨_⟩:=c₀;dsimp only at hu;subst hu;exact⟨rfl,_,rfl,_,Ld rfl _ _ _,rfl,rfl,hB⟩
theorem Hv {op:Oper} {a:Act} {w:ZB} {K:Act->ZB->Prop} {Q:Exit->Act->ZB->Prop} (ty:TypeId) (x y:Operand) (ho:op.op=.store ty x y) (b:Nat) (cs:List ZC) (old:Array ZC) {T:TypeId} (hx:a.eval x=.pointer (some ⟨b,0,none⟩)) (hy:a.eval y=.agg cs.toArray) (hb:w.heap[b]?=some (.cells old T (0,0))) (hl:old.size=cs.length) (hi:(prog.info? ty).map (·.size)=some cs.length) (h1:∀ v∈cs,v.oneCell'=true) (h:∀ X,X.heap[b]?=some (.cells cs.toArray T (0,0))->Held [b] w X->X.heap.size=w.heap.size->K (a.put op.dst ZA) X):op.wp prog a w K Q:=by
 refine wp_store_mid ty x y ho b 0 cs.toArray hx hy (fun j hj=>?_) (by simpa using hi) (Fh h1) ?_;·rw [Ba];refine⟨?_,Ao hb j⟩;rw [Ab hb j,Eo (by rw [hl];simpa using hj)];rfl
 ·exact FD70
abbrev Lz:List ZC:=[.string ⟨#[]⟩,.string ⟨#[]⟩,.int .i64 0,.string ⟨#[]⟩,.int .i64 0,.string ⟨#[]⟩,.int .i64 0,.int .i64 0,.slice none 0 0,.int .i64 0,.int .i64 0,.int .i64 0]
theorem Bxa (b:Nat) (n a x y:Int) (older:List PanicEntry) (m:aC) (vk:ZC) (w:ZB) (h3:wS b w m vk x y) : CallsD prog 131 #[.pointer (some ⟨b,0,none⟩),.pointer (some ⟨b+1,0,none⟩),.pointer (some ⟨b+2,0,none⟩)] (.panicking ({ v:=.iface 202 (.agg #[↑n,↑a]),recovered:=false }::older)) w fun e u' w'=>e=.returned (.tuple #[])/\u'=.panicking ({ v:=.iface 202 (.agg #[↑n,↑a]),recovered:=true }::older)/\wS b w' jD (.slice none 0 0) n a/\Held [b,b+1,b+2] w w':=by
 refine callsD_of_wpS func131 rfl fun c₀ cs hu=>?_;simp only [ntmps131,Gu,Ap,Bf,Nat.reduceAdd,Nat.reduceSub,Gt,Gs,Hl,Gy,Eu,D6];obtain⟨hm,he,hp⟩:=h3;have ho:=(Ac _ w).alloc nR (.cells #[↑n,↑a] 202 (0,0));have hm1:=(ho.block b hm.lt).trans hm;have he1:=(ho.block (b+1) (aZ he)).trans he;have hp1:=(ho.block (b+2) (aZ hp)).trans hp;have gn:=Ag w (.cells #[↑n,↑a] 202 (0,0));have hlt:=(aZ hp)
 apply wpS_seq;apply wpS_region;simp [wpOpsS,go_sem,recoverD,hu,Map,Exit.thenS];refine wpS_of_wp ?_;have hH0:Held [b,b+1,b+2] w (w.alloc (.cells #[↑n,↑a] 202 (0,0))):=Held.of_below ho;generalize hbn:w.heap.size=bn at *;generalize w.alloc (.cells #[↑n,↑a] 202 (0,0))=W at *;go_wp2_with fail;have n0:=Ab gn 0;have n1:=Ab gn 1;simp at n0 n1;have hS:∀ W':ZB,Held [b,b+1,b+2] W W'->W'.cell? ⟨bn,0,none⟩=some ↑n/\W'.cell? ⟨bn,1,none⟩=some ↑a:=fun W' h=>by have hb:=(h.block bn (aZ gn) naf).trans gn;exact⟨Ab hb 0,Ab hb 1⟩
 have hd:Held [b,b+1,b+2] W W.drew:=Held.of_below (T8 _ _);refine Dt (S:=fun W'=>W'.cell? ⟨bn,0,none⟩=some ↑n/\W'.cell? ⟨bn,1,none⟩=some ↑a) kR (hS _ hd) fun kz=>?_;refine tj 0 ?_;push_cast;refine tj 1 ?_;push_cast;refine tj 2 ?_;push_cast;refine tj 3 ?_;push_cast;refine tj 4 ?_;push_cast;refine rk 5 rfl fun K hK=>?_;rw [Ah rF];have qU:(prog.info? 60).map (·.size)=some Lz.length:=kR;refine Hv 60 _ _ rfl b Lz _ rfl rfl (show W.drew.heap[b]?=_ from hm1) rfl qU (by simp [Value.oneCell']) ?_;intro X hX hHX hXs;have hX1:Held [b,b+1,b+2] W X:=hd.trans (hHX.sub sM);have he2:=(hHX.block (b+1) (aZ he1) sM).trans (show W.drew.heap[b+1]?=_ from he1);have hp2:=(hHX.block (b+2) (aZ hp1) sM).trans (show W.drew.heap[b+2]?=_ from hp1);have e0:=Ab he2 0;have ef:=Ao he2 0;simp at e0;refine hK.out _ _ (hS _ hX1) fun kz=>?_;clear hK K;push_cast;refine rk 6 rfl fun K hK=>?_;rw [Ah rF];go_simp;have hX2:Held [b,b+1,b+2] W (X.setCell ⟨b+1,0,none⟩ ↑n):=hX1.bT _ _ _ sM;have OX:=(As X ⟨b+1,0,none⟩ ↑n b (by show b≠b+1;omega)).trans hX;have he3:=Al X (b+1) 0 ↑n _ _ _ he2;have hp3:=(As X ⟨b+1,0,none⟩ ↑n (b+2) (by show b+2≠b+1;omega)).trans hp2;refine hK.out _ _ (hS _ hX2) fun kz=>?_;clear hK K;generalize X.setCell ⟨b+1,0,none⟩ ↑n=Y at *;push_cast;have p0:=Ab hp3 0;have pf:=Ao hp3 0;simp at p0;refine rk 7 rfl fun K hK=>?_;rw [Ah rF];go_simp;have hX3:Held [b,b+1,b+2] W (Y.setCell ⟨b+2,0,none⟩ ↑a):=hX2.bT _ _ _ sM;have OW:=(As Y ⟨b+2,0,none⟩ ↑a b (by show b≠b+2;omega)).trans OX;have he4:=(As Y ⟨b+2,0,none⟩ ↑a (b+1) (by show b+1≠b+2;omega)).trans he3;have hp4:=Al Y (b+2) 0 ↑a _ _ _ hp3;refine hK.out _ _ (hS _ hX3) fun kz=>?_;clear hK K;push_cast;refine Dc kR ?_ _;obtain⟨_⟩:=c₀;exact⟨rfl,_,rfl,_,Ld rfl _ _ _,rfl,rfl,⟨OW,by simpa using he4,by simpa using hp4⟩,hH0.trans hX3⟩
end
section
open Go.Lib Go.Proofs.Tryz Go.RowKit Go.Shelf Go.Sort CH
attribute [local go_sem ↓] Fw
attribute [local irreducible] wpQuiet
def jv (w:ZB) (r:Option aC) (e:Ending) (w':ZB):Prop := Below w w w'/\∃ (vk:ZC) (n a:Int),e=.returned (.tuple #[.agg (A6 (r.getD jD) vk).toArray,↑n,↑a])/\dh w' (era w w') (r.getD jD) vk
theorem Sf (B:Nat) (w:ZB):dh B w jD (.slice none 0 0) where
 kids:=by
  unfold jD ji Ax
  exact⟨none,0,rfl,Au _,oM,fun h=>absurd rfl h⟩
 nums:=⟨dC,dC,dC,dC⟩
 id:=dC
 authority:=dC
 target:=dC
 short:=by unfold jD ji Ct;exact⟨dC,by unfold Cp;trivial⟩
 count:=dC
 depth:=dC
abbrev Q1 (b:Nat):Deferred:={ target:=.fn (.func 131) #[.pointer (some ⟨b,0,none⟩),.pointer (some ⟨b+1,0,none⟩),.pointer (some ⟨b+2,0,none⟩)],args:=#[] }
theorem Acq {w X:ZB} {tmps:Array ZC} {b:Nat} {m:aC} {vk:ZC} {n c:Int} {r:Option aC} (h2:tmps.getD 2 ZA=.pointer (some ⟨b,0,none⟩)) (h3:tmps.getD 3 ZA=.pointer (some ⟨b+1,0,none⟩)) (h4:tmps.getD 4 ZA=.pointer (some ⟨b+2,0,none⟩)) (hb:w.heap.size=b) (hR:wS b X m vk n c) (hB:Below b w X) (hr:r.getD jD=m) (hm:dh X (era b X) m vk):∃ v,(results Tryz.f68 tmps).run prog X=.ok v X/\jv w r (.returned v) X:=by subst hr hb;refine⟨_,Rk rfl _ _ _ _ _ _ _ _ h2 h3 h4 (Fq X _ 0 60 (A6 (r.getD jD) vk) _ (fun j v hj=>by rw [Ba,Ab hR.ms j];simpa using hj) underlying60 rfl kR) (Rv hR.err underlying31 rfl) (Rv hR.pos underlying3 rfl),hB,vk,n,c,rfl,hm⟩
theorem R8 {w X:ZB} {a:Act} {b:Nat} {m:aC} {vk:ZC} {x y:Int} (h2:a.tmps.getD 2 ZA=.pointer (some ⟨b,0,none⟩)) (h3:a.tmps.getD 3 ZA=.pointer (some ⟨b+1,0,none⟩)) (h4:a.tmps.getD 4 ZA=.pointer (some ⟨b+2,0,none⟩)) (hd:a.defers=[Q1 b]) (hb:w.heap.size=b) (hR:wS b X m vk x y) (hB:Below b w X) (n c:Int):bodyPostD prog Tryz.f68 (jv w none) (.panic [{ v:=.iface 202 (.agg #[↑n,↑c]),recovered:=false }]) a X:=by show Leaves _ _ a.tmps _ a.defers _ X;rw [hd];refine leaves_cons (f:=131) (args:=#[.pointer (some ⟨b,0,none⟩),.pointer (some ⟨b+1,0,none⟩),.pointer (some ⟨b+2,0,none⟩)]) sM (by simp [go_sem]) ?_;refine (Bxa b n c x y [] m vk X hR).mono ?_;rintro e u' w' ⟨rfl,rfl,hR',hH⟩;exact Acq h2 h3 h4 hb hR' (hB.trans (hH.below (by rw [<- hb];exact hB.size) (fun r hr=>by simp at hr;omega))) rfl (Sf _ _)
theorem Pfn {w X:ZB} {a:Act} {b:Nat} {m:aC} {vk:ZC} {x y:Int} {r:Option aC} (h2:a.tmps.getD 2 ZA=.pointer (some ⟨b,0,none⟩)) (h3:a.tmps.getD 3 ZA=.pointer (some ⟨b+1,0,none⟩)) (h4:a.tmps.getD 4 ZA=.pointer (some ⟨b+2,0,none⟩)) (hd:a.defers=[Q1 b]) (hb:w.heap.size=b) (hR:wS b X m vk x y) (hB:Below b w X) (hr:r.getD jD=m) (hm:dh X (era b X) m vk):bodyPostD prog Tryz.f68 (jv w r) .ret a X:=by show Leaves _ _ a.tmps _ a.defers _ X;rw [hd];refine leaves_cons (f:=131) (args:=#[.pointer (some ⟨b,0,none⟩),.pointer (some ⟨b+1,0,none⟩),.pointer (some ⟨b+2,0,none⟩)]) sM (by simp [go_sem]) ?_;refine (Eof b X).mono ?_;rintro e u' w' ⟨rfl,rfl,hH⟩;have hHd:Held [] X w':=Held.of_below hH;have hz:=hR.ms.lt;refine Acq h2 h3 h4 hb ⟨hR.ms.held hHd sM,(hH.block _ (aZ hR.err)).trans hR.err,(hH.block _ (aZ hR.pos)).trans hR.pos⟩ (hB.trans (hH.mono oM)) hr ?_;exact { hm with kids:=Ax.mono hH.size _ _ (Ax.kept (Bw hHd (fun r hr=>by cases hr)) _ _ hm.kids) }
structure MpS (s:Q00) (b p g h:Nat) (w X:ZB) (m:aC) (vk:ZC) (L:List Q03):Prop where
 ms:dR b X m vk
 err:X.heap[b+1]?=some (.cells #[.int .i64 0] 31 (0,0))
 pos:X.heap[b+2]?=some (.cells #[.int .i64 0] 3 (0,0))
 rp:X.heap[g]?=some (.cells #[.pointer (some ⟨p,0,none⟩)] 204 (0,0))
 rdr:Rdr (b+3) p X s L
 below:Below b w X
 kids:Ax X (era (h+1) X) m.aB vk
 line:b<=w.heap.size/\b+3<=p/\p<g/\g<h
section
open CH
variable {s:Q00} {b p g h:Nat} {w X X':ZB} {m m':aC} {vk vk':ZC} {L L':List Q03}
theorem MpS.fill (H:MpS s b p g h w X m vk L) (hh:Held [b,p] X X') (hr:Rdr (b+3) p X' s L') (hm:dR b X' m' vk) (hw:m'.aB=m.aB):MpS s b p g h w X' m' vk L':=by obtain⟨l0,l1,l2,l3⟩:=H.line;have hz:=H.below.size;exact⟨hm,(hh.block _ (aZ H.err) naf).trans H.err,(hh.block _ (aZ H.pos) naf).trans H.pos,(hh.block _ (aZ H.rp) naf).trans H.rp,hr, H.below.trans (hh.below oM (fun r hr=>by simp at hr;omega)),by rw [hw];exact Ax.mono hh.size _ _ (Ax.kept (Bw hh (fun r hr=>by simp at hr;omega)) _ _ H.kids),H.line⟩
theorem MpS.rd (H:MpS s b p g h w X m vk L) (hh:Held [p] X X') (hr:Rdr (b+3) p X' s L'):MpS s b p g h w X' m vk L':=by obtain⟨l0,l1,l2,l3⟩:=H.line;exact H.fill (hh.sub sM) hr (H.ms.held hh naf) rfl
theorem MpS.put (H:MpS s b p g h w X m vk L) (hh:Held [b] X X') (hm:dR b X' m' vk) (hw:m'.aB=m.aB):MpS s b p g h w X' m' vk L:=by obtain⟨l0,l1,l2,l3⟩:=H.line;exact H.fill (hh.sub sM) (H.rdr.held hh (fun r hr=>by simp at hr;omega)) hm hw
theorem MpS.bad (H:MpS s b p g h w X m vk L) (hh:Held [b,p] X X') (hm:dR b X' m' vk'):wS b X' m' vk' 0 0/\Below b w X':=by obtain⟨l0,l1,l2,l3⟩:=H.line;have hz:=H.below.size;exact⟨⟨hm,(hh.block _ (aZ H.err) naf).trans H.err,(hh.block _ (aZ H.pos) naf).trans H.pos⟩,H.below.trans (hh.below oM (fun r hr=>by simp at hr;omega))⟩
theorem MpS.uj (H:MpS s b p g h w X m vk L) (hh:Held [p] X X'):wS b X' m vk 0 0/\Below b w X':=by obtain⟨l0,l1,l2,l3⟩:=H.line;exact H.bad (hh.sub sM) (H.ms.held hh naf)
theorem MpS.alloc (H:MpS s b p g h w X m vk L) (o:Obj):MpS s b p g h w (X.alloc o) m vk L := H.rd ((Held.refl _ _).alloc o) (H.rdr.below ((Ac _ _).alloc nR o))
end
theorem Gb.FY {base:Nat} {w:ZB} {v:ZC} {ts:List Q03} (h:Gb base w v ts):El w (era base w) v ts:=by
 rcases Cy h with⟨rfl,h0⟩|⟨g,cap,rfl,h1,h2,h3,h4,h5⟩;·have:ts=[]:=List.eq_nil_of_length_eq_zero h0;subst this;exact FD83
 ·refine⟨_,cap,rfl,h3,h4,fun _=>⟨g,0,rfl,h2,fun j t hj i u hi=>?_⟩⟩;rw [Ba];exact Mz (h5 _ _ (Wr (f:=A7) (s:=4) (fun _=>rfl) ts j t i u hj hi)) (Cj (by show ¬ g<base;omega))
theorem I18 (w:ZB) (a b c:Q00) (va vb vc:ZC) (hab:(b==a)=false) (hac:(c==a)=false) (hbc:(c==b)=false) : ∃ o1 o2 o3,(Instr.mapUpdate 209 (.map (some w.heap.size)) (ay a) va).run prog (w.alloc (.map #[] 0))=.ok () ((w.alloc (.map #[] 0)).putObj w.heap.size o1) /\ (Instr.mapUpdate 209 (.map (some w.heap.size)) (ay b) vb).run prog ((w.alloc (.map #[] 0)).putObj w.heap.size o1)=.ok () (((w.alloc (.map #[] 0)).putObj w.heap.size o1).putObj w.heap.size o2) /\ (Instr.mapUpdate 209 (.map (some w.heap.size)) (ay c) vc).run prog (((w.alloc (.map #[] 0)).putObj w.heap.size o1).putObj w.heap.size o2)=.ok () ((((w.alloc (.map #[] 0)).putObj w.heap.size o1).putObj w.heap.size o2).putObj w.heap.size o3) /\ Ly ay w ((((w.alloc (.map #[] 0)).putObj w.heap.size o1).putObj w.heap.size o2).putObj w.heap.size o3) [(a,va),(b,vb),(c,vc)]:=by obtain⟨o1,h1,m1⟩:=Cn Kc underlying209 (Lw ay w) a va rfl;obtain⟨o2,h2,m2⟩:=Cn Kc underlying209 m1 b vb (by simp [Bp,hab]);obtain⟨o3,h3,m3⟩:=Cn Kc underlying209 m2 c vc (by simp [Bp,hac,hbc]);exact⟨o1,o2,o3,h1,h2,h3,m3⟩
def Ga:Nat->Code->Code
 |0,c=>c
 |n+1,.seq _ c=>Ga n c
 |_,c=>c
noncomputable def Kd (n:Nat):Code:=Ga n (Tryz.f68.body.getD .skip)
structure MpA (b g:Nat) (a:Act):Prop where
 dfr:a.defers=[Q1 b]
 size:a.tmps.size=109
 a2:a.tmps.getD 2 ZA=.pointer (some ⟨b,0,none⟩)
 a3:a.tmps.getD 3 ZA=.pointer (some ⟨b+1,0,none⟩)
 a4:a.tmps.getD 4 ZA=.pointer (some ⟨b+2,0,none⟩)
 a6:a.tmps.getD 6 ZA=.pointer (some ⟨g,0,none⟩)
theorem MpA.lit {b g:Nat} {a:Act} (h:MpA b g a):∃ u:Nat->ZC,a={ tmps:=#[u 0,u 1,.pointer (some ⟨b,0,none⟩),.pointer (some ⟨b+1,0,none⟩),.pointer (some ⟨b+2,0,none⟩),u 5,.pointer (some ⟨g,0,none⟩),u 7,u 8,u 9,u 10,u 11,u 12,u 13,u 14,u 15,u 16,u 17,u 18,u 19,u 20,u 21,u 22,u 23,u 24,u 25,u 26,u 27,u 28,u 29,u 30,u 31,u 32,u 33,u 34,u 35,u 36,u 37,u 38,u 39,u 40,u 41,u 42,u 43,u 44,u 45,u 46,u 47,u 48,u 49,u 50,u 51,u 52,u 53,u 54,u 55,u 56,u 57,u 58,u 59,u 60,u 61,u 62,u 63,u 64,u 65,u 66,u 67,u 68,u 69,u 70,u 71,u 72,u 73,u 74,u 75,u 76,u 77,u 78,u 79,u 80,u 81,u 82,u 83,u 84,u 85,u 86,u 87,u 88,u 89,u 90,u 91,u 92,u 93,u 94,u 95,u 96,u 97,u 98,u 99,u 100,u 101,u 102,u 103,u 104,u 105,u 106,u 107,u 108],defers:=[Q1 b] }:=by refine⟨fun i=>a.tmps.getD i ZA,?_⟩;have e:=Mh 109 a.tmps h.size;rw [<- h.a2,<- h.a3,<- h.a4,<- h.a6];have hd:=h.dfr;obtain⟨t,d⟩:=a;dsimp only at hd;subst hd;exact congrArg (fun x=>({ tmps:=x,defers:=[Q1 b] }:Act)) e
structure BK (m:aC):Prop where
 nums:jg m
 id:m.id.length<=20000
 authority:m.authority.length<=20000
 target:m.target.length<=20000
 short:Ct m.aB
 count:m.aB.count<=100000000
 depth:m.aB.depth<=100000000
structure MpJ (s:Q00) (b p g h:Nat) (w:ZB) (m:aC) (vk:ZC) (L:List Q03) (a:Act) (X:ZB):Prop where
 act:MpA b g a
 st:MpS s b p g h w X m vk L
 ok:BK m
 good:bU s L
 base:w.heap.size=b
 len:s.length<=20000
end
end Go.Proofs.Y
