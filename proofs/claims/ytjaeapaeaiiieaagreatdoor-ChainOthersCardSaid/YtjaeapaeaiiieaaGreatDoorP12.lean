/-
  ChainOthers: the proof, part 13 of 16.
-/
import Derived.Test.YtjaeapaeaiiieaaGreatDoorP11
set_option linter.unusedSimpArgs false
set_option linter.unusedVariables false
set_option maxHeartbeats 40000000
set_option maxRecDepth 100000
namespace Go.Proofs.YtjaeapaeaiiieaaGreatDoor
section
open Go.Lib Go.Proofs.Tryz Go.RowKit Go.Shelf Go.Sort
theorem J0:∀ (xs:List (CH.Version × bF)) (j i:Nat) (y:CH.Version × bF),xs[j]?=some y→i<8→(A9 xs)[j*8+i]?=(Ab y.1 y.2)[i]?
 | [],j,i,y,h,_=>by simp at h
 | x::xs,0,i,y,h,hi=>by
  simp only [List.getElem?_cons_zero,Option.some.injEq] at h
  subst h
  unfold A9
  rw [List.flatMap_cons,List.getElem?_append_left (by show 0*8+i<8;omega),Nat.zero_mul,Nat.zero_add]
 | x::xs,j+1,i,y,h,hi=>by
  simp only [List.getElem?_cons_succ] at h
  have:=J0 xs j i y h hi
  unfold A9 at this ⊢
  have e8:(Ab x.1 x.2).length=8:=rfl
  rw [List.flatMap_cons,List.getElem?_append_right (by rw [e8];omega),e8,← this]
  congr 1
  omega
theorem Bc.at {base B:Nat} {w:World} {v:Value} {ls:List CH.Version} (h:Bc base B w v ls):Dx w.heap.size w v ls:=by
 obtain⟨xs,h1,h2,h3,h4,h5⟩:=h
 have h2':=h2
 have hl:xs.length=ls.length:=by rw [← h1,List.length_map]
 obtain⟨hlen,⟨rfl,h0⟩|⟨g,cap,cur,rfl,hb,hg,hn,hc,hsz,htk⟩⟩:=h2
 ·have:ls=[]:=List.length_eq_zero_iff.1 h0
  subst this
  exact⟨none,0,rfl,Nat.le_refl _,by omega,fun h=>absurd rfl h⟩
 ·have hglt:=(aZ hg)
  refine⟨_,cap,rfl,hn,by unfold maxLen at hc;omega,fun _=>⟨g,0,rfl,hglt,fun j x hj=>?_⟩⟩
  rw [← h1,List.getElem?_map] at hj
  cases hy:xs[j]? with
  | none=>rw [hy] at hj;cases hj
  | some y =>
   rw [hy] at hj
   cases hj
   have hjl:=(lS hy)
   refine⟨y.2,fun i u hi=>?_,(h3 _ (List.mem_of_getElem? hy)).mono (nT h4 h5)⟩
   have hi8:i<8:=(lS hi)
   rw [Nat.zero_add,World.ownsRow.cellAt h2' (j*8+i) (by omega),J0 xs j i y hy hi8]
   exact hi
theorem append_ver {w:World} {ops:Array Oper} {rest:List Oper} {o:Oper} {a:Act} {Q:Exit→Act→World→Prop} (hgd:o.guard=none) (s x:Operand)
  (ho:o.op=.call { callee:=.builtin .append,args:=#[s,x],argTypes:=#[23,23] })
  (base B:Nat) (v:Value) (out:List CH.Version) (hO:Bc base B w v out) (hs:a.eval s=v) (y:CH.Version) (sy:bF) (g c:Nat) (hx:a.eval x=.slice (some ⟨g,0,none⟩) 1 c) (hr:w.rangeAt g 0 (Ab y sy)) (hat:aK B w y sy) (n:Nat) (hn:out.length=n) (hlen:n+1≤1000000)
  (h:∀ av cv w',Bc base B w' (.slice av (n+1) cv) (out++[y])→Below base w w'→wpList prog ops Q rest (a.put o.dst (.slice av (n+1) cv)) w') :
  wpList prog ops Q (o::rest) a w:=by
 obtain⟨xs,hx1,hx2,hx3,hx4,hx5⟩:=hO
 rw [hn] at hx2
 have hob:∀ j,v.ownBlock=some j→base≤j:=by
  obtain⟨_,⟨e,_⟩|⟨g,cap,cur,e,hb,_⟩⟩:=hx2
  ·rw [e];intro j hj;cases hj
  ·rw [e];intro j hj;simp [Value.ownBlock] at hj;omega
 refine Ii hgd s x ho base v n (A9 xs) hs hx2 _ 1 (Ab y sy) hx (.inl ⟨⟨g,0,none⟩,c,rfl,fun j u hj=>?_⟩) rfl (Cv hat) hlen hx5 ?_
 ·rw [Go.WideShapes.add_plain]
  exact hr j u hj
 ·intro v' w' g1 g2 g3
  have hgb:Below base w w':=Fy g2 hx5 hob
  have hO3:Bc base B w' v' (out++[y]):=by
   refine⟨xs++[(y,sy)],by rw [List.map_append,hx1];rfl,?_,fun z hz=>?_,hx4,nT hx5 hgb.size⟩
   ·rw [List.length_append,hn,List.length_singleton,Hp]
    exact g1
   ·rcases List.mem_append.1 hz with h1|h1
    ·exact (hx3 z h1).below hgb hx4
    ·cases List.mem_singleton.1 h1
     exact hat.below hgb hx4
  obtain⟨a',c',rfl,_⟩:=hO3.form
  have e:(out++[y]).length=n+1:=by rw [List.length_append,hn];rfl
  rw [e] at hO3 ⊢
  exact h a' c' w' hO3 hgb
theorem followNil_any (a:Int) (w:World):Calls prog 21 #[.pointer none,.int .i64 a] w (fun e w'=>e=.returned (.tuple #[.slice none 0 0,.string ⟨#[]⟩])∧w=w'):=by
 go_enter func21,ntmps21
 go_wp2_with fail
 go_loopw [6,7,8] (fun ov hv lv wr=>ov=.slice none 0 0∧hv=.string ⟨#[]⟩∧lv=.int .i64 0∧wr=w) (fun _ _ _ _=>0)
 case atStart=>exact⟨rfl,rfl,rfl,rfl⟩
 case round =>
  obtain⟨rfl,rfl,rfl,rfl⟩:=hrel
  go_wp2
  refine bodyPost_ret (results_tmp2 rfl _ _ _) rfl ?_
  exact⟨rfl,rfl⟩
theorem Ls (a:Int) (w:World):Calls prog 7 #[.pointer none,.int .i64 a] w (fun e w'=>e=.returned (.tuple #[.int .i64 0,.string ⟨#[]⟩])∧w=w'):=by
 go_enter func7,ntmps7
 go_wp2_with fail
 refine (followNil_any a w).mono ?_
 rintro e w1 ⟨rfl,rfl⟩
 go_wp2
 refine bodyPost_ret (results_tmp2 rfl _ _ _) rfl ?_
 exact⟨rfl,rfl⟩
theorem own_snoc (A:Int) (l:List CH.Version) (k:Nat) (x:CH.Version) (h:l[k]?=some x):CH.own A (l.take (k+1))=if x.authority=A then CH.own A (l.take k)++[x] else CH.own A (l.take k):=by
 unfold CH.own
 rw [CH.aH l k x h,List.filter_append]
 split
 ·rename_i e
  rw [List.filter_cons_of_pos (by simp [e])]
  rfl
 ·rename_i e
  rw [List.filter_cons_of_neg (by simp [e])]
  simp
theorem own_len (A:Int) (l:List CH.Version):(CH.own A l).length≤l.length:=List.length_filter_le _ _
theorem known200 (keys:List (List UInt8)) (l:List CH.Version):∀ p v,(p,v)∈(fK keys l).1→p.2≤200:=fun p v hpv=>by
 have good:=CH.gX (chk:=dO) (keys:=keys) l [] [] (CH.good_nil dO keys)
 have h1:=good.key _ _ hpv
 have h2:=good.number _ _ hpv
 rw [h1]
 exact h2.2
theorem known20 (keys:List (List UInt8)) (l:List CH.Version) (hl:l.length≤8):(CH.bf CH.msg (fK keys l).1 keys.length).length<20:=by
 have good:=CH.gX (chk:=dO) (keys:=keys) l [] [] (CH.good_nil dO keys)
 have hkn:=CH.addAll_length (chk:=dO) (keys:=keys) l [] []
 have:=CH.folAll_length (msg:=CH.msg) good keys.length
 have h0:([]:CH.Known).length=0:=rfl
 rw [h0] at hkn
 show (CH.bf CH.msg (CH.dL dO keys l [] []).1 keys.length).length<20
 omega
theorem others_main (vk vl:Value) (keys:List (List UInt8)) (l:List CH.Version) (n:Nat) (hn:n≤255) (w:World) (hG:Gc w) (hk:Strs w.heap.size w vk keys) (hraw:Eh w.heap.size w vl l) (hl:Dx w.heap.size w vl l) (hfew:CH.few l 8=true) (hlen:keys.length≤8) (hpos:1≤keys.length) (hkl:∀ x∈keys,x.length≤9223372036854775807) :
  Calls prog 3 #[vk,vl,.int .u8 n] w (Ret w (.bool true)):=by
 have hl8:l.length≤8:=by
  unfold CH.few at hfew
  rw [Bool.and_eq_true] at hfew
  exact of_decide_eq_true hfew.2
 obtain⟨A,hA⟩:∃ A,Hid (n % keys.length=A):=⟨_,hid rfl⟩
 have hAk:A<keys.length:=by rw [← hA.out];exact Nat.mod_lt _ hpos
 have hol:=own_len (A:Int) l
 have LAW:=CH.others_law CH.msg dO keys A hAk l
 have FOL:=CH.fol_own CH.msg dO keys (A:Int) l
 have c200:=known200 keys l
 have d200:=known200 keys (CH.own A l)
 have c20:=known20 keys l hl8
 have d20:=known20 keys (CH.own A l) (by omega)
 have FW:=hid fun (W:World) (hb:Below w.heap.size w W)=>few_any vl l W ((hraw.below hb nR).mono hb.size)
 rw [hfew] at FW
 have AD:=hid fun (W:World) (hb:Below w.heap.size w W)=>added_any vk vl keys l W (hG.below hb) ((hk.below hb nR).mono hb.size) ((hl.below hb nR).mono hb.size) hkl (by omega)
 have AO:=hid fun (W:World) (hb:Below w.heap.size w W) (v:Value) (hv:Dx W.heap.size W v (CH.own A l))=>added_any vk v keys (CH.own A l) W (hG.below hb) ((hk.below hb nR).mono hb.size) hv hkl (by omega)
 have HV:=hid fun (W:World) (c r1 r2:Nat) (h:List CH.Version) (h200:∀ p v,(p,v)∈(fK keys h).1→p.2≤200) (h20:(CH.bf CH.msg (fK keys h).1 keys.length).length<20) (hGW:Gc W) (hC:aU W c r1 r2 keys (fK keys h).1 (fK keys h).2)=>versions_any c r1 r2 keys _ _ W hGW hC h200 (by omega) h20
 have HH:=hid fun (W:World) (c r1 r2:Nat) (h:List CH.Version) (h200:∀ p v,(p,v)∈(fK keys h).1→p.2≤200) (hGW:Gc W) (hC:aU W c r1 r2 keys (fK keys h).1 (fK keys h).2)=>head_any c r1 r2 keys _ _ (A:Int) W hGW hC h200
 have GB:=hid fun (W:World) (hb:Below w.heap.size w W)=>hG.below hb
 obtain⟨ak,ck,rfl,hck1,hck2,_⟩:=hk
 obtain⟨al,cl,rfl,hlc,hcl,hlx⟩:=hl
 have hlx:=hid hlx
 obtain⟨NK,hNK⟩:∃ N,Hid (keys.length=N):=⟨_,hid rfl⟩
 obtain⟨NL,hNL⟩:∃ N,Hid (l.length=N):=⟨_,hid rfl⟩
 rw [hNK.out] at hlen hck1 hpos hAk hA ⊢
 rw [hNL.out] at hl8 hlc ⊢
 simp only [hNL.out,hNK.out] at FW AD AO
 have q8:decide ((8:Int)<(NK:Int))=false:=by simp;omega
 have q0:((NK:Int)==0)=false:=by simp;omega
 have qm:Int.tmod (n:Int) (NK:Int)=(A:Int):=by rw [← hA.out];exact (Int.ofNat_tmod n NK).symm
 have qw:IntKind.i64.wrap (n:Int)=(n:Int):=by
  rw [IntKind.wrap_i64]
  omega
 have LAW:=hid LAW
 have FOL:=hid FOL
 have c200:=hid c200
 have d200:=hid d200
 have c20:=hid c20
 have d20:=hid d20
 have hol:=hid hol
 clear hraw hfew hkl
 have hi8:(prog.info? 30).map (·.size)=some 8:=by kernel_rfl
 go_enter func3,ntmps3
 go_wp2_with fail
 refine (Ge w hG).mono ?_
 rintro e w1 ⟨rfl,hb1⟩
 go_wp2_with fail
 refine (FW.out w1 hb1).mono ?_
 rintro e w2 ⟨rfl,hb2⟩
 have hB2:=hid (hb1.trans (hb2.mono hb1.size))
 clear FW hb1 hb2 hG
 go_wp2_with fail
 go_loopw [9,10] (fun ov i wr=>∃ k:Nat,k≤NL∧i=.int .i64 k∧Hid (Bc w2.heap.size w2.heap.size wr ov (CH.own A (l.take k)))∧Hid (Below w2.heap.size w2 wr)) (fun _ i _=>NL - (RowKit.intOf i).toNat)
 case atStart=>exact⟨0,Nat.zero_le _,rfl,hid (Bc.nil nR nR),hid (Below.refl _ _)⟩
 case round =>
  obtain⟨k,hkN,rfl,hO,hBr⟩:=hrel
  by_cases hlt:k<NL
  ·obtain⟨b,off,rfl,hbl,hx⟩:=hlx.out (by intro h;have:=hNL.out;simp [h] at this;omega)
   obtain⟨x,hxk⟩:∃ x,l[k]?=some x:=⟨_,lZ (by rw [hNL.out];exact hlt)⟩
   obtain⟨s,hc,hat⟩:=hx k x hxk
   have hBw:=hB2.out.trans (hBr.out.mono hB2.out.size)
   have hrg:wr.rangeAt b (off+k*8) (Ab x s):=fun j u hj=>(hBw.cell (p:=⟨b,off+k*8+j,none⟩) hbl).trans (hc j u hj)
   have k0:wr.cell? ⟨b,off+k*8,none⟩=some (.int .i64 x.authority):=hrg 0 _ rfl
   have sn:=own_snoc (A:Int) l k x hxk
   by_cases hxa:x.authority=A
   ·rw [if_pos hxa] at sn
    rw [hxa] at k0
    have hrg:=hid hrg
    have h1c:=hid (Cv hat)
    have hatw:=hid fun (W:World) (hb:Below w.heap.size w W)=>hat.below hb nR
    have hi8':(prog.info? 30).map (·.size)=some (Ab x s).length:=hi8
    have hlen8:(Ab x s).length=8:=rfl
    have sn:=hid sn
    have hxa:=hid hxa
    have hl1:=own_len (A:Int) (l.take k)
    rw [List.length_take] at hl1
    obtain⟨av,cv,rfl,hcv⟩:=hO.out.form
    obtain⟨m,hm⟩:∃ m,Hid ((CH.own (A:Int) (l.take k)).length=m):=⟨_,hid rfl⟩
    rw [hm.out] at hl1 hcv hO ⊢
    have hn1:=hid (Br wr (Ab x s) 30)
    have hBn:=hid ((Below.refl _ wr).alloc nR (.cells (Ab x s).toArray 30))
    have hO':=hid (hO.out.below hBn.out)
    clear hx hc hat hxk hO
    generalize hLL:Ab x s=LL at *
    have hLL:=hid hLL
    go_wp2_with (first|at_builtin;rw [Kv LL _ (by rw [hlen8];rfl)];refine append_ver rfl _ _ rfl w2.heap.size w2.heap.size _ _ hO'.out rfl x s wr.heap.size _ rfl (by rw [hLL.out];exact hn1.out) ((hatw.out _ (hBw.trans (hBn.out.mono hBw.size))).mono hB2.out.size) m hm.out (by omega) ?_|refine wpList_load_mid rfl 30 _ rfl b (off+k*8) rfl LL _ hrg.out underlying30 rfl hi8' ?_|refine Ba rfl 30 _ _ rfl LL rfl rfl (by rw [hlen8];rfl) hi8' h1c.out ?_)
    intro av' cv' w' g1 g2
    have g1':Hid (Bc w2.heap.size w2.heap.size w' (.slice av' (m+1) cv') (CH.own (A:Int) (l.take (k+1)))):=hid (by rw [sn.out];exact g1)
    have g2':Hid (Below w2.heap.size w2 w'):=hid ((hBr.out.trans (hBn.out.mono hBr.out.size)).trans g2)
    clear g1 g2 sn hO' hn1 hBn hrg k0 hBw
    go_wp2
    go_roundw
    case rel=>exact⟨k+1,by omega,by go_num,g1',g2'⟩
    case measure=>simp [RowKit.intOf];omega
   ·rw [if_neg hxa] at sn
    have q1:(x.authority==(A:Int))=false:=by simpa using hxa
    have hO':Hid (Bc w2.heap.size w2.heap.size wr _ (CH.own (A:Int) (l.take (k+1)))):=hid (by rw [sn];exact hO.out)
    clear hx hc hat hxk hO hrg sn hxa
    go_wp2
    go_roundw
    case rel=>exact⟨k+1,by omega,by go_num,hO',hBr⟩
    case measure=>simp [RowKit.intOf];omega
  ·obtain rfl:k=NL:=by omega
   have hOl:=hO.out
   rw [List.take_of_length_le (by rw [hNL.out];exact Nat.le_refl _)] at hOl
   have hOl:=hid hOl
   have hBw:=hid (hB2.out.trans (hBr.out.mono hB2.out.size))
   obtain⟨ao,co,rfl,_⟩:=hOl.out.form
   generalize (CH.own (A:Int) l).length=no at *
   clear hO hBr hlx
   go_wp2_with fail
   refine (AD.out wr hBw.out).mono ?_
   rintro e w3 ⟨hG3,hb3,hif⟩
   have hB3:=hid (hBw.out.trans (hb3.mono hBw.out.size))
   have hO3:=hid (hOl.out.below hb3).at
   clear AD hb3
   by_cases hok:Js keys=true
   ·rw [if_pos hok] at hif
    obtain⟨c,r1,r2,rfl,hC,_,_,_⟩:=hif
    have hC:=hid hC
    go_wp2_with fail
    refine (AO.out w3 hB3.out _ hO3.out).mono ?_
    rintro e w4 ⟨hG4,hb4,hif⟩
    rw [if_pos hok] at hif
    obtain⟨d,r1',r2',rfl,hD,_,_,_⟩:=hif
    have hC4:=hid (hC.out.below hb4)
    have hD:=hid hD
    have hB4:=hid (hB3.out.trans (hb4.mono hB3.out.size))
    clear AO hb4 hC hG3 hok hO3
    have H1:=hid (HH.out w4 c r1 r2 l c200.out hG4 hC4.out)
    have H1':Hid (Calls prog 7 #[.pointer (some ⟨c,0,none⟩),.int .i64 A] w4 (Ret w4 (.tuple #[.int .i64 ((CH.fol CH.msg (fK keys (CH.own A l)).1 (A:Int)).1.length:Nat),.string ⟨(CH.fol CH.msg (fK keys (CH.own A l)).1 (A:Int)).2.toArray⟩]))):=hid (by rw [← FOL.out];exact H1.out)
    have H2:=hid fun (W:World) (hb:Below w4.heap.size w4 W)=>HH.out W d r1' r2' (CH.own A l) d200.out (hG4.below hb) (hD.out.below hb)
    have V1:=hid fun (W:World) (hb:Below w4.heap.size w4 W)=>HV.out W c r1 r2 l c200.out c20.out (hG4.below hb) (hC4.out.below hb)
    have V2:=hid fun (W:World) (hb:Below w4.heap.size w4 W)=>HV.out W d r1' r2' (CH.own A l) d200.out d20.out (hG4.below hb) (hD.out.below hb)
    clear H1 HH HV FOL
    generalize (CH.fol CH.msg (fK keys (CH.own A l)).1 (A:Int)).1.length=hm at *
    generalize (CH.fol CH.msg (fK keys (CH.own A l)).1 (A:Int)).2=hs at *
    have eb:((⟨hs.toArray⟩:ByteArray)==⟨hs.toArray⟩)=true:=by rw [Cw];simp
    go_wp2_with fail
    refine H1'.out.mono ?_
    rintro e w5 ⟨rfl,hb5⟩
    clear H1'
    go_wp2_with fail
    refine (H2.out w5 hb5).mono ?_
    rintro e w6 ⟨rfl,hb6⟩
    have hb6:=hb5.trans (hb6.mono hb5.size)
    clear H2 hb5
    go_wp2_with fail
    refine (V1.out w6 hb6).mono ?_
    rintro e w7 ⟨v7,rfl,hV7,hb7⟩
    have hb7:=hid (hb6.trans (hb7.mono hb6.size))
    clear V1 hb6
    obtain⟨aa,ca,rfl,hca1,hca2,hca3⟩:=hV7
    obtain⟨all,hall⟩:∃ all,Hid (CH.versions CH.msg (fK keys l).1 keys.length=all):=⟨_,hid rfl⟩
    have LAW1:Hid (CH.own (A:Int) all=CH.versions CH.msg (fK keys (CH.own A l)).1 keys.length):=hid (by rw [← hall.out];exact LAW.out)
    rw [hall.out] at hca1 hca3 ⊢
    have hal20:all.length≤8∨True:=.inr trivial
    have halen:all.length<1000:=by
     have h1:=CH.dY (lt:=CH.ltPos) (I:=fun L=>L.length=(CH.bf CH.msg (fK keys l).1 keys.length).length) (fun l m x y _ h=>by simpa using h) (CH.bf CH.msg (fK keys l).1 keys.length) rfl
     have h2:all.length=(CH.bf CH.msg (fK keys l).1 keys.length).length:=by rw [← hall.out];exact h1
     have:=c20.out
     omega
    obtain⟨M,hM⟩:∃ M,Hid (all.length=M):=⟨_,hid rfl⟩
    rw [hM.out] at hca1 halen ⊢
    have hca3:=hid hca3
    clear hall LAW hal20
    go_wp2_with fail
    go_loopw [18,19] (fun ov i wr=>∃ k:Nat,k≤M∧i=.int .i64 k∧Hid (Bc w7.heap.size w7.heap.size wr ov (CH.own A (all.take k)))∧Hid (Below w7.heap.size w7 wr)) (fun _ i _=>M - (RowKit.intOf i).toNat)
    case atStart=>exact⟨0,Nat.zero_le _,rfl,hid (Bc.nil nR nR),hid (Below.refl _ _)⟩
    case round =>
     obtain⟨k,hkN,rfl,hO,hBr⟩:=hrel
     by_cases hlt:k<M
     ·obtain⟨b,off,rfl,hbl,hx⟩:=hca3.out (by intro h;have:=hM.out;simp [h] at this;omega)
      obtain⟨x,hxk⟩:∃ x,all[k]?=some x:=⟨_,lZ (by rw [hM.out];exact hlt)⟩
      obtain⟨s,hc,hat⟩:=hx k x hxk
      have hrg:wr.rangeAt b (off+k*8) (Ab x s):=fun j u hj=>(hBr.out.cell (p:=⟨b,off+k*8+j,none⟩) hbl).trans (hc j u hj)
      have k0:wr.cell? ⟨b,off+k*8,none⟩=some (.int .i64 x.authority):=hrg 0 _ rfl
      have sn:=own_snoc (A:Int) all k x hxk
      by_cases hxa:x.authority=A
      ·rw [if_pos hxa] at sn
       rw [hxa] at k0
       have hrg:=hid hrg
       have h1c:=hid (Cv hat)
       have hatw:=hid fun (W:World) (hb:Below w7.heap.size w7 W)=>hat.below hb nR
       have hi8':(prog.info? 30).map (·.size)=some (Ab x s).length:=hi8
       have hlen8:(Ab x s).length=8:=rfl
       have sn:=hid sn
       have hxa:=hid hxa
       have hl1:=own_len (A:Int) (all.take k)
       rw [List.length_take] at hl1
       obtain⟨av,cv,rfl,hcv⟩:=hO.out.form
       obtain⟨m,hm'⟩:∃ m,Hid ((CH.own (A:Int) (all.take k)).length=m):=⟨_,hid rfl⟩
       rw [hm'.out] at hl1 hcv hO ⊢
       have hn1:=hid (Br wr (Ab x s) 30)
       have hBn:=hid ((Below.refl _ wr).alloc nR (.cells (Ab x s).toArray 30))
       have hO':=hid (hO.out.below hBn.out)
       clear hx hc hat hxk hO
       generalize hLL:Ab x s=LL at *
       have hLL:=hid hLL
       go_wp2_with (first|at_builtin;rw [Kv LL _ (by rw [hlen8];rfl)];refine append_ver rfl _ _ rfl w7.heap.size w7.heap.size _ _ hO'.out rfl x s wr.heap.size _ rfl (by rw [hLL.out];exact hn1.out) (hatw.out _ (hBr.out.trans (hBn.out.mono hBr.out.size))) m hm'.out (by omega) ?_|refine wpList_load_mid rfl 30 _ rfl b (off+k*8) rfl LL _ hrg.out underlying30 rfl hi8' ?_|refine Ba rfl 30 _ _ rfl LL rfl rfl (by rw [hlen8];rfl) hi8' h1c.out ?_)
       intro av' cv' w' g1 g2
       have g1':Hid (Bc w7.heap.size w7.heap.size w' (.slice av' (m+1) cv') (CH.own (A:Int) (all.take (k+1)))):=hid (by rw [sn.out];exact g1)
       have g2':Hid (Below w7.heap.size w7 w'):=hid ((hBr.out.trans (hBn.out.mono hBr.out.size)).trans g2)
       clear g1 g2 sn hO' hn1 hBn hrg k0
       go_wp2
       go_roundw
       case rel=>exact⟨k+1,by omega,by go_num,g1',g2'⟩
       case measure=>simp [RowKit.intOf];omega
      ·rw [if_neg hxa] at sn
       have q1:(x.authority==(A:Int))=false:=by simpa using hxa
       have hO':Hid (Bc w7.heap.size w7.heap.size wr _ (CH.own (A:Int) (all.take (k+1)))):=hid (by rw [sn];exact hO.out)
       clear hx hc hat hxk hO hrg sn hxa
       go_wp2
       go_roundw
       case rel=>exact⟨k+1,by omega,by go_num,hO',hBr⟩
       case measure=>simp [RowKit.intOf];omega
     ·obtain rfl:k=M:=by omega
      have hOm:=hO.out
      rw [List.take_of_length_le (by rw [hM.out];exact Nat.le_refl _),LAW1.out] at hOm
      have hOm:=hid hOm
      obtain⟨am,cm,rfl,_⟩:=hOm.out.form
      have hb8:=hb7.out.trans (hBr.out.mono hb7.out.size)
      have V2':=hid (V2.out wr hb8)
      clear hO V2
      generalize CH.versions CH.msg (fK keys (CH.own A l)).1 keys.length=fin at *
      obtain⟨nf,hnf⟩:∃ nf,Hid (fin.length=nf):=⟨_,hid rfl⟩
      rw [hnf.out] at hOm ⊢
      go_wp2_with fail
      refine V2'.out.mono ?_
      rintro e w8 ⟨v8,rfl,hV8,hb8'⟩
      have SV:=hid (Ka _ v8 fin w8 ((hOm.out.below hb8').at) hV8)
      have hBfin:=hid (hB4.out.trans ((hb8.trans (hb8'.mono hb8.size)).mono hB4.out.size))
      obtain⟨a8,c8,rfl,_⟩:=hV8
      rw [hnf.out] at SV ⊢
      clear V2' hb8 hb8' hOm
      go_wp2_with fail
      refine SV.out.mono ?_
      rintro e w9 ⟨rfl,hb9⟩
      go_wp2
      go_ret
      exact⟨rfl,hBfin.out.trans (hb9.mono hBfin.out.size)⟩
   ·rw [if_neg hok] at hif
    subst hif
    go_wp2_with fail
    refine (AO.out w3 hB3.out _ hO3.out).mono ?_
    rintro e w4 ⟨hG4,hb4,hif⟩
    rw [if_neg hok] at hif
    subst hif
    have hB4:=hid (hB3.out.trans (hb4.mono hB3.out.size))
    clear AO hb4 hG3 hG4 hok hO3 HH HV
    go_wp2_with fail
    refine (Ls A _).mono ?_
    rintro e w5 ⟨rfl,rfl⟩
    go_wp2_with fail
    refine (Ls A _).mono ?_
    rintro e w5 ⟨rfl,rfl⟩
    go_wp2_with fail
    refine (Hh _).mono ?_
    rintro e w5 ⟨rfl,rfl⟩
    go_wp2_with fail
    go_loopw [18,19] (fun ov i wr=>ov=.slice none 0 0∧i=.int .i64 0∧wr=w4) (fun _ _ _=>0)
    case atStart=>exact⟨rfl,rfl,rfl⟩
    case round =>
     obtain⟨rfl,rfl,rfl⟩:=hrel
     go_wp2_with fail
     refine (Hh _).mono ?_
     rintro e w5 ⟨rfl,rfl⟩
     go_wp2_with fail
     refine (Ka _ _ [] _ ⟨none,0,rfl,Nat.le_refl _,by omega,fun h=>absurd rfl h⟩ ⟨none,0,rfl,Nat.le_refl _,by omega,fun h=>absurd rfl h⟩).mono ?_
     rintro e w6 ⟨rfl,hb6⟩
     go_wp2
     go_ret
     exact⟨rfl,hB4.out.trans (hb6.mono hB4.out.size)⟩
end
end Go.Proofs.YtjaeapaeaiiieaaGreatDoor
