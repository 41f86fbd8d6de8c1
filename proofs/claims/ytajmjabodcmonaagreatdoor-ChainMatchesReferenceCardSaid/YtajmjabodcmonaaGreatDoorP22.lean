/- Part 23. -/
import Derived.Test.YtajmjabodcmonaaGreatDoorP21
set_option linter.all false
set_option maxHeartbeats 40000000
set_option maxRecDepth 100000
open Go renaming World -> ZB, Value -> ZC
open Go.RowKit renaming intOf -> ZG
open Decidable renaming decide -> ZH
namespace Go.Proofs.Y
section
open Go.Lib Go.Proofs.Tryz Go.RowKit Go.Shelf Go.Sort CH
variable {base B s g:Nat} {w w':ZB} {v:ZC} {fs ls:List (Q01 × Q01)} {forks:Q03} {known:Q04} {K:Act->ZB->Prop} {a:Option Addr} {ops:Array Oper} {rest:List Oper} {o:Oper} {Q:Exit->Act->ZB->Prop} {α:Type}
def dH (base B:Nat) (w:ZB) (v:ZC) (fs:List (Q01 × Q01)):Prop := ∃ xs:List ((Q01 × Q01) × (aS × aS)),xs.map (·.1)=fs/\w.ownsRow base 94 16 v fs.length (xs.flatMap Cg)/\(∀ x∈xs,aG B w x.1.1 x.2.1/\aG B w x.1.2 x.2.2)/\B<=base/\base<=w.heap.size
theorem dH.nil (hB:B<=base) (hb:base<=w.heap.size):dH base B w (.slice none 0 0) []:=⟨[],rfl,I5 w base _ _,(fun _ h=>by cases h),hB,hb⟩
theorem dH.below (h:dH base B w v fs) (hb:Below w w w'):dH base B w' v fs:=by obtain⟨xs,h1,h2,h3,h4,h5⟩:=h;exact⟨xs,h1,Cu h2 hb,fun x hx=>⟨(h3 x hx).1.below hb (Af h4 h5),(h3 x hx).2.below hb (Af h4 h5)⟩,h4,Af h5 hb.size⟩
theorem dH.form (h:dH base B w v fs):∃ a c,v=.slice a fs.length c/\fs.length<=c:=by exact FD110
theorem Day {rf:List (Q01 × Q01)} (h:N6 base B w v forks forks.length) (hnd:(forks.map (·.1)).Nodup) (hr:dM (fun f=>CH.place f.1) forks rf):dH base B w v rf:=by
 obtain⟨ls,h1,h2,xs,h3,h4,h5,h6,h7⟩:=h;have hlr:ls=rf.map fun f=>CH.place f.1:=by
  refine lY (r:=ltP) jT (fun x y z=>jL) _ _ h2 (by rw [List.pairwise_map];exact hr.sorted) fun p=>?_;have hsub:∀ q∈ls,q∈forks.map (·.1):=fun q hq=>by
   obtain⟨j,hj⟩:=Dj.1 hq;obtain⟨x,hx⟩:∃ x,xs[j]?=some x:=⟨_,Ad (by rw [h3,<- h1];exact (lS hj))⟩
   obtain⟨_,_,p',hp',hl⟩:=h5 j x hx;rw [hj] at hp';cases hp';exact Dz.2 ⟨_,gG hl,rfl⟩
  have hnl:ls.Nodup:=List.nodup_iff_pairwise_ne.2 (List.Pairwise.imp (fun {a b} (h:ltP a b) (e:a=b)=>jT b (by rw [e] at h;exact h)) h2);constructor;·intro hp;obtain⟨f,hf,_⟩:=Sg (hsub p hp);obtain⟨hm,e⟩:=(hr.look p f).1 hf;exact Dz.2 ⟨f,hm,e.symm⟩
  ·intro hp;obtain⟨f,hm,e⟩:=Dz.1 hp;have hl:=(hr.look p f).2 ⟨hm,e.symm⟩;have hk:p∈forks.map (·.1):=Dz.2 ⟨_,gG hl,rfl⟩;exact Decidable.byContradiction fun hn=>by
    have:=mV (p::ls) (forks.map (·.1)) (Oa.2 ⟨hn,hnl⟩) fun q hq=>by
     rcases Bl.1 hq with rfl|hq;·exact hk
     ·exact hsub q hq
    rw [A8,h1,Bh] at this;omega
 have hx1:xs.map (·.1)=rf:=by
  refine Jf fun j=>?_;have hlen:rf.length=xs.length:=by rw [h3,<- h1,hlr,Bh]
  cases hx:xs[j]? with
  |none =>rw [Dq,hx,F8 (by rw [hlen];exact List.getElem?_eq_none_iff.1 hx)];rfl
  |some x =>obtain⟨_,_,p,hp,hl⟩:=h5 j x hx;rw [hlr,Dq] at hp;obtain⟨f,hf,e⟩:=Jz.1 hp;have h8:=(hr.look p f).2 ⟨Ap hf,e.symm⟩;rw [h8] at hl;cases hl;rw [Dq,hx,hf];rfl
 have hl2:rf.length=forks.length:=by rw [<- hx1,Bh,h3]
 exact⟨xs,hx1,by rw [hl2];exact h4,fun x hx=>by obtain⟨j,hj⟩:=Dj.1 hx;exact⟨(h5 j x hj).1,(h5 j x hj).2.1⟩,h6,h7⟩
structure RIn (B:Nat) (w:ZB) (c:Nat) (keys:List Q00) (known:Q04) (forks:Q03):Prop where
 ex:∃ vk vn vf rk rf,w.heap[c]?=some (.cells #[vk,vn,vf] 86 (0,0))/\Strs c w vk keys/\Bi (c+1) B w vn rk/\dH (c+1) B w vf rf/\dM CH.place known rk/\dM (fun f=>CH.place f.1) forks rf
 le:B<=c
def Rows (w w':ZB):Prop:=∀ (k:Nat) (cs:Array ZC) (T:TypeId) (z:Nat × Nat),w.heap[k]?=some (.cells cs T z)->w'.heap[k]?=some (.cells cs T z)
theorem Rh {T:TypeId} {n:Nat} {xs:List ZC} (h:w.ownsRow base T s v n xs) (hr:Rows w w'):w'.ownsRow base T s v n xs:=by
 obtain⟨h1,h2|⟨g,cap,cur,e,hb,hg,h3⟩⟩:=h;·exact⟨h1,.inl h2⟩
 ·exact⟨h1,.inr ⟨g,cap,cur,e,hb,hr _ _ _ _ hg,h3⟩⟩
theorem Held.rows {R:List Nat} (h:Held R w w') (hR:∀ r∈R,But w r):Rows w w':=fun k cs T z hk=>by rw [h.block k (aZ hk) fun hm=>?_,hk];obtain⟨es,c,e⟩:=hR k hm;rw [hk] at e;cases e
theorem RIn.grow {c:Nat} {keys:List Q00} (h:RIn B w c keys known forks) (hb:Below w w w'):RIn B w' c keys known forks:=by
 obtain⟨vk,vn,vf,rk,rf,h1,h2,h3,h4,h5⟩:=h.ex;have hc:=(aZ h1)
 exact⟨⟨vk,vn,vf,rk,rf,(hb.block c hc).trans h1,h2.below hb (Gw hc),h3.below hb,h4.below hb,h5⟩,h.le⟩
theorem RIn.held {c:Nat} {keys:List Q00} {R:List Nat} (h:RIn B w c keys known forks) (hh:Held R w w') (hR:∀ r∈R,But w r):RIn B w' c keys known forks:=by obtain⟨vk,vn,vf,rk,rf,h1,h2,h3,h4,h5⟩:=h.ex;have hr:=hh.rows hR;have hc:=hh.cells hR;obtain⟨xs,a1,a2,a3,a4,a5⟩:=h3;obtain⟨ys,b1,b2,b3,b4,b5⟩:=h4;exact⟨⟨vk,vn,vf,rk,rf,hr _ _ _ _ h1,h2.kept hc,⟨xs,a1,Rh a2 hr,fun x hx=>(a3 x hx).kept hc,a4,Af a5 hh.size⟩,⟨ys,b1,Rh b2 hr,fun x hx=>⟨(b3 x hx).1.kept hc,(b3 x hx).2.kept hc⟩,b4,Af b5 hh.size⟩,h5⟩,h.le⟩
theorem ChainIn.apart {K:Nat} {c r1 r2 d:Nat} {keys:List Q00} (h:ChainIn B K w c r1 r2 keys known forks) (hh:Held [d] w w') (hB:B<=d) (n1:c≠d) (n2:r1≠d) (n3:r2≠d) (hd:∀ i l,w.cell? ⟨d,i,none⟩≠some (.string l)):ChainIn B K w' c r1 r2 keys known forks:=by
 have hb:Below B w w':=hh.below h.le (fun r hr=>by rw [Ce.1 hr];exact hB);have blk:∀ k,k<w.heap.size->k≠d->w'.heap[k]?=w.heap[k]?:=fun k hk hn=>hh.block k hk (by simpa using hn);obtain⟨vk,e1,a,cap,rfl,f1,f2,f3⟩:=h.ex;obtain⟨k1,e3,e4⟩:=h.known;obtain⟨k2,e5,e6⟩:=h.forks;have hcb:=blk c (aZ e1) n1;refine⟨⟨_,hcb.trans e1,a,cap,rfl,f1,f2,fun hk=>?_⟩,⟨k1,e3.same (blk r1 e3.lt n2),e4.imp fun _ _ x=>x.below hb nR⟩,⟨k2,e5.same (blk r2 e5.lt n3),e6.imp fun _ _ x=>x.below hb nR⟩,h.ne,Af h.le hh.size,fun ad n cap x y e=>h.far ad n cap x y (hcb.symm.trans e)⟩;obtain⟨b,off,rfl,hbl,hx⟩:=f3 hk;refine⟨b,off,rfl,Ae hbl hh.size,fun j l hj=>?_⟩;have hc:=hx j l hj;by_cases e:b=d;·subst e;exact absurd hc (hd _ _)
 ·rw [Pe (blk b hbl e)];exact hc
theorem Bi.row {n cap:Nat} {ls:List Q01} (h:Bi base B w (.slice a n cap) ls):ls.length=n/\n<=cap/\(a=none/\n=0/\cap=0\/∃ g,a=some ⟨g,0,none⟩/\base<=g/\g<w.heap.size) /\ ∃ xs:List (Q01 × aS),xs.map (·.1)=ls/\(∀ x∈xs,aG B w x.1 x.2)/\∀ g,a=some ⟨g,0,none⟩->∀ j u,(A9 xs)[j]?=some u->w.cell? ⟨g,j,none⟩=some u:=by
 obtain⟨xs,h1,h2,h3,h4,h5⟩:=h;have hl:xs.length=ls.length:=by rw [<- h1,Bh]
 have h2':=h2;obtain⟨hlen,⟨e,h0⟩|⟨g,cap',cur,e,hb,hg,hn,hc,hsz,htk⟩⟩:=h2;·exact FD117
 ·simp only [Value.slice.injEq] at e;obtain⟨rfl,rfl,rfl⟩:=e;refine⟨rfl,hn,.inr ⟨g,rfl,hb,(aZ hg)⟩,xs,h1,h3,fun g' e j u hj=>?_⟩;cases e;have hjl:=(lS hj)
  rw [Kg,hl] at hjl;rw [Fq h2' j hjl];exact hj
theorem Bi.mine {ls:List Q01} (h:Bi base B w v ls) (j:Nat) (hj:v.ownBlock=some j):base<=j/\j<w.heap.size:=by exact FD133
theorem Vv {a:Act} (hgd:o.guard=none) (s x:Operand) (ho:o.op=.call { callee:=.builtin .append,args:=#[s,x],argTypes:=#[23,23] }) (base B:Nat) (v:ZC) (out:List Q01) (hO:Bi base B w v out) (hs:a.eval s=v) (vx:ZC) (zs:List (Q01 × aS)) (m:Nat) (hx:a.eval x=vx) (hX:Fy w vx m (A9 zs)) (hm:zs.length=m) (hat:∀ z∈zs,aG B w z.1 z.2) (n:Nat) (hn:out.length=n) (hlen:n+m<=1000000) (h:∀ av cv w',Bi base B w' (.slice av (n+m) cv) (out++zs.map (·.1))->w.grownBy w' v.ownBlock->wpList prog ops Q rest (a.put o.dst (.slice av (n+m) cv)) w') : wpList prog ops Q (o::rest) a w:=by
 have hob:=fun j hj=>(hO.mine j hj).1;obtain⟨xs,hx1,hx2,hx3,hx4,hx5⟩:=hO;rw [hn] at hx2;refine Vn hgd s x ho base v n (A9 xs) hs hx2 vx m (A9 zs) hx hX (by rw [Kg,hm]) (fun u hu=>?_) hlen hx5 ?_;·exact FD163
 ·intro v' w' g1 g2 g3;exact FD31
theorem dH.mine (h:dH base B w v ls) (j:Nat) (hj:v.ownBlock=some j):base<=j/\j<w.heap.size:=by exact FD133
theorem dH.row {n cap:Nat} (h:dH base B w (.slice a n cap) ls):ls.length=n/\n<=cap/\(a=none/\n=0/\cap=0\/∃ g,a=some ⟨g,0,none⟩/\base<=g/\g<w.heap.size) /\ ∃ xs:List ((Q01 × Q01) × (aS × aS)),xs.map (·.1)=ls/\(∀ x∈xs,aG B w x.1.1 x.2.1/\aG B w x.1.2 x.2.2)/\∀ g,a=some ⟨g,0,none⟩->∀ j u,(xs.flatMap Cg)[j]?=some u->w.cell? ⟨g,j,none⟩=some u:=by
 obtain⟨xs,h1,h2,h3,h4,h5⟩:=h;have hl:xs.length=ls.length:=by rw [<- h1,Bh]
 have h2':=h2;obtain⟨hlen,⟨e,h0⟩|⟨g,cap',cur,e,hb,hg,hn,hc,hsz,htk⟩⟩:=h2;·exact FD117
 ·simp only [Value.slice.injEq] at e;obtain⟨rfl,rfl,rfl⟩:=e;refine⟨rfl,hn,.inr ⟨g,rfl,hb,(aZ hg)⟩,xs,h1,h3,fun g' e j u hj=>?_⟩;cases e;have hjl:=(lS hj)
  rw [Wr,hl] at hjl;rw [Fq h2' j hjl];exact hj
theorem Y7 {a:Act} (hgd:o.guard=none) (s x:Operand) (ho:o.op=.call { callee:=.builtin .append,args:=#[s,x],argTypes:=#[47,47] }) (base B:Nat) (v:ZC) (out:List (Q01 × Q01)) (hO:dH base B w v out) (hs:a.eval s=v) (vx:ZC) (zs:List ((Q01 × Q01) × (aS × aS))) (m:Nat) (hx:a.eval x=vx) (hX:Fy w vx m (zs.flatMap Cg)) (hm:zs.length=m) (hat:∀ z∈zs,aG B w z.1.1 z.2.1/\aG B w z.1.2 z.2.2) (n:Nat) (hn:out.length=n) (hlen:n+m<=1000000) (h:∀ av cv w',dH base B w' (.slice av (n+m) cv) (out++zs.map (·.1))->w.grownBy w' v.ownBlock->wpList prog ops Q rest (a.put o.dst (.slice av (n+m) cv)) w') : wpList prog ops Q (o::rest) a w:=by
 have hob:=fun j hj=>(hO.mine j hj).1;obtain⟨xs,hx1,hx2,hx3,hx4,hx5⟩:=hO;rw [hn] at hx2;obtain⟨i,hi,hz0,hz1,hz2⟩:=H8 Xy;refine K9 w hgd s x 47 ho base 94 i _ 16 240 underlying47 hi hz0 hz1 hz2 rfl dC v n _ hs hx2 vx m (zs.flatMap Cg) hx hX (by rw [Wr,hm]) (fun u hu=>?_) (by unfold maxLen;omega) oM hx5 ?_;·exact FD165
 ·intro v' w' g1 g2 g3;exact FD29
theorem Ki {T:TypeId} (s:Nat) (hb:base<=g) (h:w.heap[g]?=some (.cells #[] T (0,0))):w.ownsRow base T s (.slice (some ⟨g,0,none⟩) 0 0) 0 [] := ⟨sM,.inr ⟨g,0,#[],rfl,hb,h,Bg _,Az _,sM,sM⟩⟩
theorem Ys {P:Program} (w:ZB) {a:Act} (s x:Operand) (t:TypeId) (ho:o.op=.call { callee:=.builtin .append,args:=#[s,x],argTypes:=#[t,t] }) (base:Nat) (e:TypeId) (i:TypeInfo) (z:ZC) (size bytes:Nat) (ht:P.underlying t=some (.slice e)) (hi:P.info? e=some i) (hz:i.zero=some z) (hsize:i.size=size) (hby:i.bytes=bytes) (hzs:z.cells.size=size) (hsz:0<size) (v:ZC) (n:Nat) (xs:List ZC) (hs:a.eval s=v) (hown:w.ownsRow base e size v n xs) (vx:ZC) (m:Nat) (news:List ZC) (hx:a.eval x=vx) (hsrc:Fy w vx m news) (hl:news.length=m*size) (h1:∀ u∈news,u.oneCell'=true) (h63:n+m<=maxLen) (hbytes:(n+m)*bytes<=140737488355328) (hbase:base<=w.heap.size) (h:∀ v' w',w'.ownsRow base e size v' (n+m) (xs++news)->w.grownBy w' v.ownBlock->K (a.put o.dst v') w'):o.wp P a w K Q:=by
 rcases hsrc with⟨ad,c,rfl,hnews⟩|⟨c,rfl,rfl,rfl⟩;·exact wp_append_own w s x t ho base e i z size bytes ht hi hz hsize hby hzs hsz v n xs hs hown ad m c news hx hl hnews h1 h63 hbytes hbase (fun v' w' a1 a2 _=>h v' w' a1 a2)
 ·obtain⟨av,cv,rfl,hcv⟩:∃ av cv,v=.slice av n cv/\n<=cv:=by exact FD108
  have hr:=Ni (P:=P) w t o.type e i ht hi av n cv c hcv;unfold Oper.wp execOp;simp only [ho,resolve,invoke,builtin,Js,Kv,Io,List.map_toArray,Fa,Iq,hs,hx,hr];exact h _ _ (by simpa using hown) (World.grownBy.refl _ _)
theorem Kn {a:Act} (s x:Operand) (ho:o.op=.call { callee:=.builtin .append,args:=#[s,x],argTypes:=#[23,23] }) (base B:Nat) (v:ZC) (out:List Q01) (hO:Bi base B w v out) (hs:a.eval s=v) (vx:ZC) (zs:List (Q01 × aS)) (m:Nat) (hx:a.eval x=vx) (hX:Fy w vx m (A9 zs)) (hm:zs.length=m) (hat:∀ z∈zs,aG B w z.1 z.2) (n:Nat) (hn:out.length=n) (hlen:n+m<=1000000) (h:∀ av cv w',Bi base B w' (.slice av (n+m) cv) (out++zs.map (·.1))->w.grownBy w' v.ownBlock->K (a.put o.dst (.slice av (n+m) cv)) w'):o.wp prog a w K Q:=by
 have hob:=fun j hj=>(hO.mine j hj).1;obtain⟨xs,hx1,hx2,hx3,hx4,hx5⟩:=hO;rw [hn] at hx2;obtain⟨i,hi,hz0,hz1,hz2⟩:=H8 I44;refine Ys w s x 23 ho base 38 i _ 8 120 underlying23 hi hz0 hz1 hz2 rfl dC v n _ hs hx2 vx m (A9 zs) hx hX (by rw [Kg,hm]) (fun u hu=>?_) (by unfold maxLen;omega) oM hx5 ?_;·exact FD163
 ·intro v' w' g1 g2;exact FD31
theorem Pn {a:Act} (s x:Operand) (ho:o.op=.call { callee:=.builtin .append,args:=#[s,x],argTypes:=#[47,47] }) (base B:Nat) (v:ZC) (out:List (Q01 × Q01)) (hO:dH base B w v out) (hs:a.eval s=v) (vx:ZC) (zs:List ((Q01 × Q01) × (aS × aS))) (m:Nat) (hx:a.eval x=vx) (hX:Fy w vx m (zs.flatMap Cg)) (hm:zs.length=m) (hat:∀ z∈zs,aG B w z.1.1 z.2.1/\aG B w z.1.2 z.2.2) (n:Nat) (hn:out.length=n) (hlen:n+m<=1000000) (h:∀ av cv w',dH base B w' (.slice av (n+m) cv) (out++zs.map (·.1))->w.grownBy w' v.ownBlock->K (a.put o.dst (.slice av (n+m) cv)) w'):o.wp prog a w K Q:=by
 have hob:=fun j hj=>(hO.mine j hj).1;obtain⟨xs,hx1,hx2,hx3,hx4,hx5⟩:=hO;rw [hn] at hx2;obtain⟨i,hi,hz0,hz1,hz2⟩:=H8 Xy;refine Ys w s x 47 ho base 94 i _ 16 240 underlying47 hi hz0 hz1 hz2 rfl dC v n _ hs hx2 vx m (zs.flatMap Cg) hx hX (by rw [Wr,hm]) (fun u hu=>?_) (by unfold maxLen;omega) oM hx5 ?_;·exact FD165
 ·intro v' w' g1 g2;exact FD29
theorem Eto {L:List ZC} (h:∀ j u,L[j]?=some u->w.cell? ⟨g,j,none⟩=some u) (o m:Nat) (c:Nat) (M:List ZC) (hM:∀ j u,M[j]?=some u->L[o+j]?=some u):Fy w (.slice (some ⟨g,o,none⟩) m c) m M := .inl ⟨⟨g,o,none⟩,c,rfl,fun j u hj=>by rw [Go.WideShapes.add_plain];exact h _ u (hM j u hj)⟩
theorem Box {f:α->List ZC} (hf:∀ x,(f x).length=s):∀ (xs:List α) (k:Nat),(xs.take k).flatMap f=(xs.flatMap f).take (k*s)
 |[],k=>by simp
 |x::xs,0=>by simp
 |x::xs,k+1=>by
  rw [Jh,Dx,Dx,Box hf xs k,Nat.succ_mul,Nat.add_comm,<- hf x,List.take_length_add_append]
theorem Bsi {f:α->List ZC} (hf:∀ x,(f x).length=s):∀ (xs:List α) (k:Nat),(xs.drop k).flatMap f=(xs.flatMap f).drop (k*s)
 |[],k=>by simp
 |x::xs,0=>by simp
 |x::xs,k+1=>by
  rw [Jv,Dx,Bsi hf xs k,Nat.succ_mul,Nat.add_comm,<- hf x,List.drop_length_add_append]
theorem Wv {f:α->List ZC} (hf:∀ x,(f x).length=s) {xs:List α} (h:∀ j u,(xs.flatMap f)[j]?=some u->w.cell? ⟨g,j,none⟩=some u) (k c:Nat):Fy w (.slice (some ⟨g,0,none⟩) k c) k ((xs.take k).flatMap f) :=
 Eto h 0 k c _ fun j u hj=>by
  rw [Box hf] at hj
  rw [Bf]
  by_cases e:j<k*s
  ·rwa [Hw e] at hj
  ·rw [List.getElem?_take_eq_none oM] at hj
   cases hj
theorem Ggz {f:α->List ZC} (hf:∀ x,(f x).length=s) {xs:List α} (h:∀ j u,(xs.flatMap f)[j]?=some u->w.cell? ⟨g,j,none⟩=some u) (k m c:Nat):Fy w (.slice (some ⟨g,k*s,none⟩) m c) m ((xs.drop k).flatMap f) := Eto h (k*s) m c _ fun j u hj=>by rw [Bsi hf,Gu] at hj;exact hj
attribute [local irreducible] wpQuiet
theorem Oz (x y:Q01) (s s':aS) (w:ZB):Calls prog 39 #[.agg (Al x s).toArray,.agg (Al y s').toArray] w (Ret w (.bool (ZH (ltP (CH.place x) (CH.place y))))):=by
 have hB0:=Aa fun o o2=>((Ac _ w).alloc nR o).alloc sM o2;obtain⟨va,v1,v2⟩:=s;obtain⟨ua,u1,u2⟩:=s';obtain⟨R,hR⟩:∃ R,ZH (ltP (CH.place x) (CH.place y))=R:=⟨_,rfl⟩
 rw [hR];dsimp only [Al];rcases (oM:x.authority<y.authority\/(¬ x.authority<y.authority/\¬ x.authority=y.authority)\/x.authority=y.authority) with h|⟨h,h'⟩|h
 ·have q:ZH (x.authority<y.authority)=true:=Am h;obtain rfl:true=R:=by rw [<- hR];exact (Am (Or.inl h)).symm
  clear hR;exact FD125
 ·have q:ZH (x.authority<y.authority)=false:=Ak h;have q':(x.authority==y.authority)=false:=by simpa using h'
  obtain rfl:false=R:=by rw [<- hR];exact (Ak (by unfold ltP;dsimp only;omega)).symm
  clear hR;exact FD125
 ·have q:ZH (x.authority<y.authority)=false:=Ak oM;have hb:ZH (x.number<y.number)=R:=by rw [<- hR];exact Eh.2 (by unfold ltP;dsimp only;omega)
  rw [h] at q ⊢;clear hR h;exact FD125
theorem M9 (x:Q01) (s:aS):A9 [(x,s)]=Al x s:=by simp [A9]
def Qty (w:ZB) (B:Nat) (ls:List Q01) (e:Ending) (w':ZB):Prop:=∃ v,e=.returned v/\Bi w B w' v ls/\Below w w w'
theorem Pp (B c:Nat) (keys:List Q00) (known:Q04) (forks:Q03) (a:Int) (w:ZB) (hC:RIn B w c keys known forks) (good:CH.Good dI keys known) (hN:known.length<=1000) : Calls prog 42 #[.pointer (some ⟨c,0,none⟩),.int .i64 a] w (Qty w B (fol CH.msg known a).1):=by
 obtain⟨vk,vn,vf,rk,rf,h1,h2,h3,h4,h5,h6⟩:=hC.ex;have hB:=hC.le;have hc:=(aZ h1)
 have hl:rk.length<=known.length:=h5.len;rw [vT good h5 a];dsimp only;obtain⟨an,cn,rfl,hcn⟩:=h3.form;obtain⟨hln,_,hcase,xs,e1,e2,e3⟩:=h3.row;obtain⟨ak,ck,rfl,_,_⟩:=h2.form;obtain⟨af,cf,rfl,_⟩:=h4.form;obtain⟨N,hNN⟩:∃ N,Hid (rk.length=N):=⟨_,Aa rfl⟩
 rw [hNN.out] at h1 hcase hl;generalize keys.length=nk at *;generalize rf.length=nf at *;have hxl:xs.length=N:=by rw [<- hNN.out,<- e1,Bh]
 have hrow:Hid (∀ (g k:Nat) (x:Q01),an=some ⟨g,0,none⟩->rk[k]?=some x->∃ s,w.rangeAt g (k*8) (Al x s)/\aG B w x s):=Aa fun g k x hg hk=>by
  obtain⟨y,hy⟩:∃ y,xs[k]?=some y:=⟨_,Ad (by rw [hxl,<- hNN.out];exact (lS hk))⟩
  have hyx:y.1=x:=by rw [<- e1,Dq,hy] at hk;exact Hf hk
  refine⟨y.2,fun j u hj=>?_,hyx ▸ e2 y (Ap hy)⟩;have hj8:j<8:=(lS hj)
  rw [<- hyx] at hj;exact e3 g hg _ u ((Lf xs k j y hy hj8).trans hj)
 have h1:=Aa h1;have hcase:=Aa hcase;have hBw:B<=w.heap.size:=oM;have hi8:(prog.info? 38).map (·.size)=some 8:=kR;clear h2 h3 h4 h5 h6 hcn hln e1 e2 e3;go_enter func42,ntmps42;go_wp2_with fail;go_loopw [5,6,7,8] (fun ov pv lv iv wr=>∃ (k:Nat) (st:List Q01 × Q00 × Int),k<=N/\iv=.int .i64 k/\Hid (kL CH.msg a (rk.take k) ([],[],0)=st)/\Hid (Bi w.heap.size B wr ov st.1)/\pv=.string ⟨st.2.1.toArray⟩/\lv=.int .i64 st.2.2/\Hid (Below w.heap.size w wr)) (fun _ _ _ iv _=>N - (ZG iv).toNat);case atStart=>exact⟨0,([],[],0),Az _,rfl,Aa rfl,Aa (Bi.nil hBw nR),rfl,rfl,Aa (Ac _ _)⟩
 case round =>
  obtain⟨k,⟨out,hd,last⟩,hkN,rfl,hst,hO,rfl,rfl,hBr⟩:=hrel;dsimp only at hO ⊢;have hblk:=(hBr.out.block c hc).trans h1.out;have k1:=Ab hblk 1;obtain⟨av,cv,rfl,hcv⟩:=hO.out.form;have hwk:IntKind.i64.wrap ((k:Int)+1)=(k:Int)+1:=by rw [IntKind.wrap_i64];omega
  by_cases hlt:k<N
  ·obtain⟨x,hxk⟩:∃ x,rk[k]?=some x:=⟨_,Ad (by rw [hNN.out];exact hlt)⟩
   obtain⟨g,rfl,hg1,hg2⟩:∃ g,an=some ⟨g,0,none⟩/\c+1<=g/\g<w.heap.size:=by
    rcases hcase.out with⟨_,h,_⟩|h;·omega
    ·exact h
   obtain⟨s,hr0,hat⟩:=hrow.out g k x rfl hxk;have hrg:=Aa (A6 hr0 hBr.out hg2);have hstep:kL CH.msg a (rk.take (k+1)) ([],[],0)=gQ CH.msg a (out,hd,last) x:=by rw [aI rk k x hxk];show List.foldl _ _ _=_;rw [List.foldl_append];exact congrArg (fun z=>gQ CH.msg a z x) hst.out
   have M:=fun (W:ZB) (hb:Below w.heap.size w W)=>Nm x s W ((hat.below hb hBw).mono (Af hBw hb.size));have HV:=Aa fun (W:ZB) (hb:Below w.heap.size w W)=>hat.below hb hBw;simp only [Th] at M;generalize Uh (CH.message x)=me at M;have hone:=Aa (Ha hat);obtain⟨LL,hLL⟩:∃ LL,Al x s=LL:=⟨_,rfl⟩
   have c0:LL[0]?=some (.int .i64 x.authority):=by rw [<- hLL];rfl
   have c1:LL[1]?=some (.int .i64 x.number):=by rw [<- hLL];rfl
   have c2:LL[2]?=some (.int .i64 x.pos):=by rw [<- hLL];rfl
   have c3:LL[3]?=some (.string ⟨x.prev.toArray⟩):=by rw [<- hLL];rfl
   have rP:Hid (LL.length=8):=Aa (by rw [<- hLL];rfl);have lK:(prog.info? 38).map (·.size)=some LL.length:=by rw [rP.out];exact hi8
   rw [hLL] at hrg hone M;have hLL:=Aa hLL;have M:=Aa M;have hq1:=Bp wr LL 38;have e0:(wr.alloc (.cells LL.toArray 38)).cell? ⟨wr.heap.size,0,none⟩=some (.int .i64 x.authority):=hq1 0 _ c0;have e1:(wr.alloc (.cells LL.toArray 38)).cell? ⟨wr.heap.size,1,none⟩=some (.int .i64 x.number):=hq1 1 _ c1;have e2:(wr.alloc (.cells LL.toArray 38)).cell? ⟨wr.heap.size,2,none⟩=some (.int .i64 x.pos):=hq1 2 _ c2;have e3:(wr.alloc (.cells LL.toArray 38)).cell? ⟨wr.heap.size,3,none⟩=some (.string ⟨x.prev.toArray⟩):=hq1 3 _ c3;have hBX:=(Ac _ wr).alloc nR (.cells LL.toArray 38);have z0:(0:Int)<=(k:Int):=oM;have zk:((k:Int)).toNat=k:=oM;have hk':(k:Int)<(N:Int):=oM;obtain⟨n,hn⟩:∃ n,Hid (out.length=n):=⟨_,Aa rfl⟩
   have hnk:n<=1000:=by have:=rJ CH.msg a (rk.take k) ([],[],0);rw [hst.out,hn.out,C9] at this;dsimp only [List.length_nil] at this;omega
   rw [hn.out] at hcv ⊢;replace hO:=Aa (by have:=hO.out;rwa [hn.out] at this:Bi w.heap.size B wr (.slice av n cv) out);have hwn:IntKind.i64.wrap ((n:Int)+1)=(n:Int)+1:=by rw [IntKind.wrap_i64];omega
   have eb:((⟨x.prev.toArray⟩:ByteArray)==⟨hd.toArray⟩)=(x.prev==hd):=Cr _ _;have hstep:=Aa hstep;have sZ:((¬ x.authority=a)\/(x.authority=a/\¬ x.number=(n:Int)+1)\/(x.authority=a/\x.number=(n:Int)+1/\(x.prev==hd)=false)\/(x.authority=a/\x.number=(n:Int)+1/\(x.prev==hd)=true/\¬ last<=x.pos))\/(x.authority=a/\x.number=(n:Int)+1/\(x.prev==hd)=true/\last<=x.pos):=by
    by_cases p1:x.authority=a
    ·by_cases p2:x.number=(n:Int)+1
     ·cases p3:x.prev==hd with
      |false=>exact .inl (.inr (.inr (.inl ⟨p1,p2,rfl⟩)))
      |true =>
       by_cases p4:last<=x.pos;·exact .inr ⟨p1,p2,rfl,p4⟩
       ·exact .inl (.inr (.inr (.inr ⟨p1,p2,rfl,p4⟩)))
     ·exact .inl (.inr (.inl ⟨p1,p2⟩))
    ·exact .inl (.inl p1)
   have fin:=fun (h:¬ (x.authority=a/\x.number=(out.length:Int)+1/\x.prev=hd/\last<=x.pos))=>(Aa (hstep.out.trans (by unfold gQ;rw [if_neg h])):Hid (kL CH.msg a (rk.take (k+1)) ([],[],0)=(out,hd,last)))
   rw [hn.out] at fin;have hO':=Aa (hO.out.below hBX);have wV:=Aa (hBr.out.trans (hBX.mono hBr.out.size));rcases sZ with sZ|⟨p1,p2,p3,p4⟩;rotate_left
   ·have hs:Hid (kL CH.msg a (rk.take (k+1)) ([],[],0)=(out++[x],CH.msg x,x.pos)):=Aa (hstep.out.trans (by unfold gQ;rw [if_pos ⟨p1,by rw [hn.out];exact p2,eq_of_beq p3,p4⟩]));have q1:(x.authority==a)=true:=by simpa using p1
    have q2:(x.number==(n:Int)+1)=true:=by simpa using p2
    have q4:ZH (last<=x.pos)=true:=Am p4;rw [eq_of_beq p3] at e3;clear eb;have hown:=Aa hO.out.mine;have hsz:(wr.alloc (.cells LL.toArray 38)).heap.size=wr.heap.size+1:=sM;have hq2:=Aa (Bp (wr.alloc (.cells LL.toArray 38)) LL 38);rw [hsz] at hq2;have hB2:=Aa (((Ac _ wr).alloc nR (.cells LL.toArray 38)).alloc sM (.cells LL.toArray 38));have hblk2:=Aa ((((Ac _ (wr.alloc (.cells LL.toArray 38))).alloc nR (.cells LL.toArray 38)).block wr.heap.size sM).trans (Aw wr _));have hll:=rP.out;clear p1 p2 p3 p4 fin hstep hO';go_wp2_with (first|refine Bd rfl 38 _ rfl g (k*8) rfl LL _ hrg.out underlying38 rfl lK ?_|refine Bw rfl 38 _ _ rfl LL rfl rfl (by rw [rP.out];rfl) lK hone.out ?_|refine Bd rfl 38 _ rfl wr.heap.size 0 rfl LL _ hq1 underlying38 rfl lK ?_|at_builtin;rw [Kk LL _ (by rw [rP.out];rfl)];refine Vv rfl _ _ rfl w.heap.size B (.slice av n cv) out (hO.out.below hB2.out) rfl _ [(x,s)] 1 rfl (.inl ⟨⟨wr.heap.size+1,0,none⟩,_,rfl,fun j u hj=>?c1⟩) rfl ?c2 n hn.out oM ?_)
    case c1 =>rw [M9,hLL.out] at hj;rw [Go.WideShapes.add_plain];exact hq2.out j u hj
    case c2 =>intro z hz;cases Ce.1 hz;exact HV.out _ (hBr.out.trans (hB2.out.mono hBr.out.size))
    intro av' cv' w' g1 g2;have hBw':Below w.heap.size w w':=(hBr.out.trans (hB2.out.mono hBr.out.size)).trans (Bu g2 (by have:=hBr.out.size;simp;omega) fun j hj=>(hown.out j hj).1);have hblk3:=(g2.block wr.heap.size (by simp;omega) fun e=>by have:=(hown.out _ e.symm).2;omega).trans hblk2.out;have hrq:w'.rangeAt wr.heap.size 0 LL:=fun j u hj=>by rw [Bf,Ab hblk3 j];simpa using hj
    have hq3:=(aZ hblk3)
    have f2:w'.cell? ⟨wr.heap.size,2,none⟩=some (.int .i64 x.pos):=hrq 2 _ c2;have g1:=Aa g1;have hBw':=Aa hBw';clear g2 hblk3 hq1 e0 e1 e2 e3 hq2 hB2 hblk2 hO hown hBX;go_wp2_with (refine Bd rfl 38 _ rfl wr.heap.size 0 rfl LL _ hrq underlying38 rfl lK ?_)
    refine CmZ (M.out w' hBw'.out) fun w2 hb2=>?_;have f3:w2.cell? ⟨wr.heap.size,2,none⟩=some (.int .i64 x.pos):=(hb2.cell (p:=⟨wr.heap.size,2,none⟩) hq3).trans f2;have hO2:=Aa (g1.out.below hb2);have hB2:=Aa (hBw'.out.trans (hb2.mono hBw'.out.size));clear hb2 g1 hBw' M f2 hrq;go_wp2;go_roundw;case rel=>exact⟨k+1,(out++[x],CH.msg x,x.pos),oM,by go_num,hs,hO2,rfl,rfl,hB2⟩
    case measure=>simp [ZG];omega
   rcases sZ with p1|⟨p1,p2⟩|⟨p1,p2,p3⟩|⟨p1,p2,p3,p4⟩;focus
    have hs:=fin fun h=>p1 h.1;have q1:(x.authority==a)=false:=by simpa using p1
    clear p1
   rotate_left;focus
    have hs:=fin fun h=>p2 h.2.1;have q1:(x.authority==a)=true:=by simpa using p1
    have q2:(x.number==(n:Int)+1)=false:=by simpa using p2
    clear p1 p2
   rotate_left;focus
    have hs:=fin fun h=>by rw [h.2.2.1] at p3;simp at p3
    have q1:(x.authority==a)=true:=by simpa using p1
    have q2:(x.number==(n:Int)+1)=true:=by simpa using p2
    rw [p3] at eb;clear p1 p2
   rotate_left;focus
    have hs:=fin fun h=>p4 h.2.2.2;have q1:(x.authority==a)=true:=by simpa using p1
    have q2:(x.number==(n:Int)+1)=true:=by simpa using p2
    have q4:ZH (last<=x.pos)=false:=Ak p4;rw [eq_of_beq p3] at e3;clear p1 p2 p3 p4 eb
   rotate_left;all_goals
    try clear fin
    clear hstep hO;go_wp2_with (first|refine Bd rfl 38 _ rfl g (k*8) rfl LL _ hrg.out underlying38 rfl lK ?_|refine Bw rfl 38 _ _ rfl LL rfl rfl (by rw [rP.out];rfl) lK hone.out ?_)
    go_roundw;case rel=>exact⟨k+1,(out,hd,last),oM,by go_num,hs,hO',rfl,rfl,wV⟩
    case measure=>simp [ZG];omega
  ·obtain rfl:k=N:=oM;have hst:=hst.out;rw [Bz (by rw [hNN.out];exact Bg _)] at hst;have hO2:=Aa (show Bi w.heap.size B wr (.slice av out.length cv) (kL CH.msg a rk ([],[],0)).1 by rw [hst];exact hO.out);clear hst;generalize out.length=n at *;go_wp2;go_ret;exact⟨_,rfl,hO2.out,hBr.out⟩
theorem E6b (B c:Nat) (keys:List Q00) (known:Q04) (forks:Q03) (a:Int) (w:ZB) (hC:RIn B w c keys known forks) (good:CH.Good dI keys known) (hN:known.length<=1000) : Calls prog 14 #[.pointer (some ⟨c,0,none⟩),.int .i64 a] w (Ret w (.tuple #[.int .i64 ((fol CH.msg known a).1.length:Nat),.string ⟨(fol CH.msg known a).2.toArray⟩])):=by
 have F:=Aa (Pp B c keys known forks a w hC good hN);obtain⟨last,FF⟩:=nN CH.msg known a;have hH:=FF.head;have hlen:(fol CH.msg known a).1.length<=201:=by have:=mG CH.msg known a 201 [] [] 0;rwa [Bj,Bf] at this
 have hBw:B<=w.heap.size:=by
  obtain⟨_,_,_,_,_,h1,_⟩:=hC.ex;have:=(aZ h1)
  have:=hC.le;omega
 clear FF hC good;generalize fol CH.msg known a=R at *;obtain⟨ls,hd⟩:=R;dsimp only at *;have hH:=Aa hH;obtain⟨RV,hRV⟩:∃ R,Hid (Value.tuple #[.int .i64 ((ls.length:Nat):Int),.string ⟨hd.toArray⟩]=R):=⟨_,Aa rfl⟩
 rw [hRV.out];go_enter func14,ntmps14;go_wp2_with fail;refine F.out.mono ?_;rintro e w1 ⟨v,rfl,hO,hb1⟩;obtain⟨av,cv,rfl,hcv⟩:=hO.form;obtain⟨hln,_,hcase,xs,e1,e2,e3⟩:=hO.row;obtain⟨n,hn⟩:∃ n,Hid (ls.length=n):=⟨_,Aa rfl⟩
 rw [hn.out] at hlen hcase hcv ⊢;clear F hO hln;by_cases h0:n=0;·subst h0;have hl:ls=[]:=Bo.1 hn.out;have hd0:Hid (hd=[]):=Aa (by rw [hH.out,hl];rfl);clear hH hl e1 e2 e3 hcase;go_wp2;refine Aj (Aq rfl _ _ _) rfl ?_;exact⟨by rw [<- hRV.out,hn.out,hd0.out];rfl,hb1⟩
 ·obtain⟨m,rfl⟩:∃ m,n=m+1:=⟨n - 1,oM⟩
  obtain⟨x,hx⟩:∃ x,ls[m]?=some x:=⟨_,Ad (by rw [hn.out];omega)⟩
  have hdx:hd=CH.msg x:=by rw [hH.out];unfold qQ;rw [List.getLast?_eq_getElem?,hn.out,Nat.add_sub_cancel,hx]
  obtain⟨g,rfl,hg1,hg2⟩:∃ g,av=some ⟨g,0,none⟩/\w.heap.size<=g/\g<w1.heap.size:=by
   rcases hcase with⟨_,h,_⟩|h;·omega
   ·exact h
  obtain⟨y,hy⟩:∃ y,xs[m]?=some y:=⟨_,Ad (by have:=hn.out;rw [<- e1,Bh] at this;omega)⟩
  have hyx:y.1=x:=by rw [<- e1,Dq,hy] at hx;exact Hf hx
  have hat:=e2 y (Ap hy);rw [hyx] at hat;have hrg:w1.rangeAt g (m*8) (Al x y.2):=fun j u hj=>by
   have hj8:j<8:=(lS hj)
   rw [<- hyx] at hj;exact e3 g rfl _ u ((Lf xs m j y hy hj8).trans hj)
  have M:=Nm x y.2 w1 (hat.mono (Af hBw hb1.size));simp only [Th] at M;generalize Uh (CH.message x)=me at M;have hi8:(prog.info? 38).map (·.size)=some (Al x y.2).length:=kR;have hww:IntKind.i64.wrap ((m:Int)+1 - 1)=(m:Int):=by rw [IntKind.wrap_i64];omega
  have z0:(0:Int)<=(m:Int):=oM;have zk:((m:Int)).toNat=m:=oM;have q0:((m:Int)+1==0)=false:=by simp;omega
  have hm1:(m:Int)<(m:Int)+1:=oM;have hb1:=Aa hb1;have M:=Aa M;have hrg:=Aa hrg;have hdx:=Aa hdx;generalize CH.msg x=mg at *;clear hH hx hy hyx hat e1 e2 e3 hcase h0;generalize Al x y.2=LL at *;go_wp2_with (refine Bd rfl 38 _ rfl g (m*8) rfl LL _ hrg.out underlying38 rfl hi8 ?_)
  refine CmZ M.out fun w2 hb2=>?_;go_wp2;refine Aj (Aq rfl _ _ _) rfl ?_;exact⟨by rw [<- hRV.out,hn.out,hdx.out];rfl,hb1.out.trans (hb2.mono hb1.out.size)⟩
def Ma (base:Nat) (w:ZB) (v:ZC) (ls:List Int):Prop:=w.ownsRow base 3 1 v ls.length (ls.map aJ)
theorem Ma.form {ls:List Int} (h:Ma base w v ls):∃ a c,v=.slice a ls.length c/\ls.length<=c:=by
 obtain⟨hlen,⟨rfl,h0⟩|⟨g,cap,cur,rfl,_,_,hn,_⟩⟩:=h;·exact⟨none,0,by rw [h0],oM⟩
 ·exact⟨_,cap,rfl,hn⟩
theorem Ma.ints {ls:List Int} (h:Ma base w v ls):Tn w w v ls:=by
 have h':=h;obtain⟨hlen,⟨rfl,h0⟩|⟨g,cap,cur,rfl,_,hg,hn,hc,_⟩⟩:=h;·exact FD126
 ·refine⟨_,cap,rfl,hn,by unfold maxLen at hc;omega,fun _=>⟨g,0,rfl,(Array.getElem?_eq_some_iff.1 hg).1,fun j n hj=>?_⟩⟩;have hjl:=(lS hj)
  rw [Bf,Fq h' j oM,Dq,hj];rfl
theorem I32 {a:Act} (hgd:o.guard=none) (s x:Operand) (ho:o.op=.call { callee:=.builtin .append,args:=#[s,x],argTypes:=#[40,40] }) (base:Nat) (v:ZC) (ls:List Int) (hs:a.eval s=v) (hown:Ma base w v ls) (g c:Nat) (l:Int) (hx:a.eval x=.slice (some ⟨g,0,none⟩) 1 c) (hcell:w.cell? ⟨g,0,none⟩=some (aJ l)) (n:Nat) (hn:ls.length=n) (hlen:n<=1000000) (hbase:base<=w.heap.size) (h:∀ av cv w',Ma base w' (.slice av (n+1) cv) (ls++[l])->Below base w w'->wpList prog ops Q rest (a.put o.dst (.slice av (n+1) cv)) w') : wpList prog ops Q (o::rest) a w:=by
 have hob:∀ j,v.ownBlock=some j->base<=j:=by
  obtain⟨_,⟨e,_⟩|⟨g,cap,cur,e,hb,_⟩⟩:=hown;·rw [e];intro j hj;cases hj
  ·rw [e];intro j hj;simp [Value.ownBlock] at hj;omega
 obtain⟨i,hi,hz0,hz1,hz2⟩:=H8 C10;refine wpList_append_own_at w hgd s x 40 ho base 3 i _ 1 8 underlying40 hi hz0 hz1 hz2 rfl dC v ls.length _ hs hown ⟨g,0,none⟩ 1 c [aJ l] hx rfl ?_ ?_ ?_ ?_ hbase ?_;·exact FD46
 ·exact FD167
 ·exact FD145
 ·omega
 ·intro v' w' h1 h2 _ _;have hO:Ma base w' v' (ls++[l]):=by unfold Ma;simpa using h1
  obtain⟨av,cv,rfl,_⟩:=hO.form;have e:(ls++[l]).length=n+1:=by rw [Ah,hn];rfl
  rw [e] at hO ⊢;exact h av cv w' hO (Bu h2 hbase hob)
theorem Zw (B c:Nat) (keys:List Q00) (known:Q04) (forks:Q03) (w:ZB) (hC:RIn B w c keys known forks) (good:CH.Good dI keys known) (hN:known.length<=1000) (hkl:keys.length<=1000) : Calls prog 12 #[.pointer (some ⟨c,0,none⟩)] w (Wi w (CH.counts CH.msg known keys.length)):=by
 have F:=Aa fun (a:Int) (W:ZB) (hb:Below w.heap.size w W)=>Pp B c keys known forks a W (hC.grow hb) good hN;obtain⟨vk,vn,vf,rk,rf,h1,h2,h3,h4,_⟩:=hC.ex;have hc:=(aZ h1)
 obtain⟨ak,ck,rfl,_,_⟩:=h2.form;obtain⟨an,cn,rfl,_⟩:=h3.form;obtain⟨af,cf,rfl,_⟩:=h4.form;generalize rk.length=nn at *;generalize rf.length=nf at *;obtain⟨R,hR⟩:∃ R,Hid (CH.counts CH.msg known keys.length=R):=⟨_,Aa rfl⟩
 rw [hR.out];have hRl:R.length=keys.length:=by rw [<- hR.out,Yy]
 have hRk:∀ k,k<keys.length->R.take (k+1)=R.take k++[(((fol CH.msg known (k:Int)).1.length:Nat):Int)]:=fun k hk=>by rw [D7,<- hR.out];unfold CH.counts;rw [Dq,Kz hk];rfl
 obtain⟨N,hNN⟩:∃ N,keys.length=N:=⟨_,rfl⟩
 rw [hNN] at h1 hRl hkl;simp only [hNN] at hRk;have hRk:=Aa hRk;have h1:=Aa h1;have hRl:=Aa hRl;clear h2 h3 h4 hR hC good hNN;go_enter func12,ntmps12;go_wp2_with fail;go_loopw [3,4] (fun ov iv wr=>∃ (k:Nat),k<=N/\iv=.int .i64 k/\Hid (Ma w.heap.size wr ov (R.take k))/\Hid (Below w.heap.size w wr)) (fun _ iv _=>N - (ZG iv).toNat);case atStart=>exact⟨0,Az _,rfl,Aa (I5 w _ _ _),Aa (Ac _ _)⟩
 case round =>
  obtain⟨k,hkN,rfl,hO,hBr⟩:=hrel;have hblk:=(hBr.out.block c hc).trans h1.out;have k0:=Ab hblk 0;obtain⟨av,cv,rfl,hcv⟩:=hO.out.form;have hlk:(R.take k).length=k:=by rw [C9,hRl.out];omega
  rw [hlk] at hcv ⊢;have hOk:=Aa (by have:=hO.out;rwa [hlk] at this:Ma w.heap.size wr (.slice av k cv) (R.take k));have hwk:IntKind.i64.wrap ((k:Int)+1)=(k:Int)+1:=by rw [IntKind.wrap_i64];omega
  have hlk:=Aa hlk;by_cases hlt:k<N
  ·have hs:=hRk.out k hlt;go_wp2_with fail;refine (F.out k wr hBr.out).mono ?_;rintro e w1 ⟨v,rfl,hO1,hb1⟩;obtain⟨a1,c1,rfl,_⟩:=hO1.form;clear hO1;generalize (fol CH.msg known (k:Int)).1.length=m at *;have hO2:=Aa (show Ma w.heap.size w1 (.slice av k cv) (R.take k) from Cu hOk.out hb1);have hs:=Aa hs;have hB1:=Aa (hBr.out.trans (hb1.mono hBr.out.size));have hBn:=Aa ((Ac _ w1).alloc nR (.cells #[.int .i64 m] 3));have hcl:(w1.alloc (.cells #[.int .i64 m] 3)).cell? ⟨w1.heap.size,0,none⟩=some (.int .i64 m):=Ab (Aw w1 _) 0;have hcl:=Aa hcl;clear hb1 hblk k0;go_wp2_with (at_builtin;refine I32 rfl _ _ rfl w.heap.size (.slice av k cv) (R.take k) rfl (Cu hO2.out hBn.out) w1.heap.size _ (m:Int) rfl hcl.out k hlk.out oM (by have:=hB1.out.size;simp;omega) ?_)
   intro av' cv' w' g1 g2;rw [<- hs.out] at g1;have g1:=Aa g1;have g2:=Aa ((hB1.out.trans (hBn.out.mono hB1.out.size)).trans g2);clear hO2 hcl hBn hB1 hO;go_wp2;go_roundw;case rel=>exact⟨k+1,oM,by go_num,g1,g2⟩
   case measure=>simp [ZG];omega
  ·obtain rfl:k=N:=oM;have hO':=hO.out;rw [Bz (by rw [hRl.out];exact Bg _)] at hO';have hO':=Aa hO';go_wp2;go_ret;exact⟨_,rfl,by have:=hO'.out.ints;rw [hRl.out] at this;exact this,hBr.out⟩
def Pwo (B:Nat) (w:ZB) (keys:List Q00) (e:Ending) (w':ZB):Prop := Below w w w'/\if Tx keys=true then ∃ c,e=.returned (.tuple #[.pointer (some ⟨c,0,none⟩),.int .i64 0])/\RIn B w' c keys [] []/\w.heap.size<=c else e=.returned (.tuple #[.pointer none,.int .i64 1])
theorem Hvm (B:Nat) (v:ZC) (keys:List Q00) (w:ZB) (hB:B<=w.heap.size) (hv:Strs w.heap.size w v keys) (hl:∀ l∈keys,l.length<=9223372036854775807) (hlen:keys.length<=1000) : Calls prog 7 #[v] w (Pwo B w keys):=by
 have D:=Pr v keys 6 w hv hl;have HS:=Aa fun (W:ZB) (hb:Below w.heap.size w W)=>(hv.below hb nR)
 obtain⟨b,hb⟩:∃ b,bJ keys 6=b:=⟨_,rfl⟩
 rw [hb] at D;replace D:=Aa D;replace hb:=Aa hb;obtain⟨a,cap,rfl,_,_⟩:=hv.form;obtain⟨N,hN⟩:∃ N,keys.length=N:=⟨_,rfl⟩
 have hok:∀ x,Hid ((!(N==0)&&b)=x)->Tx keys=x:=fun x hx=>by rw [<- hx.out,<- hb.out,<- hN];rfl
 rw [hN] at D HS hlen ⊢;replace hN:=Aa hN;clear hv hl;by_cases h0:N=0;·subst h0;have hk:=hok false (Aa rfl);clear hok;go_enter func7,ntmps7;exact FD169
 ·have q:ZH ((N:Int)<1)=false:=by simp;omega
  have q':(N==0)=false:=by simpa using h0
  go_enter func7,ntmps7;go_wp2_with fail;refine CmZ D.out fun w1 hb1=>?_;clear D;cases b with
  |false =>exact FD129
  |true =>
   have hk:=hok true (Aa (by rw [q'];rfl));clear hok;have hB1:=(Ac _ w1).alloc nR (.cells #[] 9);have hO1:At w1.heap.size (w1.alloc (.cells #[] 9)) (.slice (some ⟨w1.heap.size,0,none⟩) 0 0) []:=Ki 1 nR (Aw w1 _);have hS1:=HS.out _ (hb1.trans (hB1.mono hb1.size));go_wp2_with (at_builtin;refine K7 rfl _ _ rfl w1.heap.size _ [] rfl hO1 w.heap.size _ keys rfl hS1 (by have:=hN.out;simp;omega) hB1.size ?_)
   intro v' w' g1 g2 g3;have hBw:Below w1.heap.size w1 w':=hB1.trans (Bu g2 hB1.size fun j hj=>by cases hj;exact Bg _);obtain⟨ak,ck,rfl,_,_,_⟩:=g1.form;go_wp2;refine Aj (Aq rfl _ _ _) rfl ?_;have hBa:=hBw.alloc hBw.size (.cells #[.slice ak keys.length ck,.slice none 0 0,.slice none 0 0] 86);refine⟨hb1.trans (hBa.mono hb1.size),?_⟩;rw [hk,Au rfl];have hs1:=hb1.size;have hs2:=hBw.size;refine⟨w'.heap.size,rfl,⟨⟨_,_,_,[],[],Aw w' _,?_,Bi.nil oM sM,dH.nil oM sM,dM.nil _,dM.nil _⟩,oM⟩,oM⟩;exact (g1.strs.below ((Ac _ w').alloc nR _) nR).mono nR
def GK (w:ZB) (B:Nat) (fs:List (Q01 × Q01)) (e:Ending) (w':ZB):Prop:=∃ v base,e=.returned v/\dH base B w' v fs/\Below w w w'
theorem Ch4 (B c:Nat) (keys:List Q00) (known:Q04) (forks:Q03) (rf:List (Q01 × Q01)) (w:ZB) (hC:RIn B w c keys known forks) (hrf:dM (fun f=>CH.place f.1) forks rf) (hN:forks.length<=1000) : Calls prog 20 #[.pointer (some ⟨c,0,none⟩)] w (GK w B rf):=by
 obtain⟨vk,vn,vf,rk,rf',h1,h2,h3,h4,h5,h6⟩:=hC.ex;obtain rfl:rf'=rf:=h6.unique hrf;have hl:rf'.length<=1000:=Af h6.len hN;have hc:=(aZ h1)
 have hBc:=hC.le;obtain⟨ak,ck,rfl,_,_⟩:=h2.form;obtain⟨an,cn,rfl,_⟩:=h3.form;obtain⟨af,cf,rfl,_⟩:=h4.form;obtain⟨_,_,hcase,xs,e1,e2,e3⟩:=h4.row;obtain⟨nf,hnf⟩:∃ n,Hid (rf'.length=n):=⟨_,Aa rfl⟩
 generalize keys.length=nk at *;generalize rk.length=nn at *;rw [hnf.out] at h1 hcase hl;have hxl:xs.length=nf:=by rw [<- hnf.out,<- e1,Bh]
 have hB1:=(Ac _ w).alloc nR (.cells #[] 94);have hsrc:Hid (Fy (w.alloc (.cells #[] 94)) (.slice af nf cf) nf (xs.flatMap Cg)):=Aa (by
  rcases hcase with⟨rfl,rfl,rfl⟩|⟨g,rfl,hg1,hg2⟩;·have:xs=[]:=Bo.1 hxl;rw [this];exact .inr ⟨0,rfl,rfl,rfl⟩
  ·have:=Wv (f:=Cg) (s:=16) (fun _=>rfl) (w:=w.alloc (.cells #[] 94)) (xs:=xs) (fun j u hj=>(hB1.cell (p:=⟨g,j,none⟩) hg2).trans (e3 g rfl j u hj)) nf cf;rwa [Bz oM] at this)
 have hat:Hid (∀ z∈xs,aG B (w.alloc (.cells #[] 94)) z.1.1 z.2.1/\aG B (w.alloc (.cells #[] 94)) z.1.2 z.2.2):=Aa fun z hz=>⟨(e2 z hz).1.below hB1 oM,(e2 z hz).2.below hB1 oM⟩
 have hO1:Hid (dH w.heap.size B (w.alloc (.cells #[] 94)) (.slice (some ⟨w.heap.size,0,none⟩) 0 0) []):=Aa ⟨[],rfl,Ki 16 nR (Aw w _),(fun _ h=>by cases h),oM,hB1.size⟩;have k2:=Ab h1 2;have k2':(w.alloc (.cells #[] 94)).cell? ⟨c,2,none⟩=some (.slice af nf cf):=(hB1.cell (p:=⟨c,2,none⟩) hc).trans k2;have e1:=Aa e1;clear h1 h2 h3 h4 h5 h6 hcase e2 e3 hrf hC hN;go_enter func20,ntmps20;go_wp2_with (at_builtin;refine Y7 rfl _ _ rfl w.heap.size B _ [] hO1.out rfl _ xs nf rfl hsrc.out hxl hat.out 0 rfl oM ?_)
 intro av cv w' g1 g2;have hB2:Below w.heap.size w w':=hB1.trans (Bu g2 hB1.size fun j hj=>by cases hj;exact Bg _);have g1:=Aa g1;go_wp2;go_ret;exact⟨_,w.heap.size,rfl,g1.out,hB2⟩
end
end Go.Proofs.Y
