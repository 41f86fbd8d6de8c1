/-
  ChainFollows: the proof, part 12 of 15.
-/
import Derived.Test.YtidikfebaccceaaGreatDoorP10
set_option linter.unusedSimpArgs false
set_option linter.unusedVariables false
set_option maxHeartbeats 40000000
namespace Go.Proofs.YtidikfebaccceaaGreatDoor
open Go.RowKit Go.Lib Go.Shelf Go.Sort Tryz
attribute [local irreducible] wpQuiet
theorem D9.below {B B':Nat} {w w':World} {v:Value} {ls:List CH.Version} (h:D9 B w v ls) (hb:Below B' w w') (hB:B≤B'):D9 B w' v ls:=by
 obtain⟨a,cap,h1,h2,h3,h4⟩:=h
 refine⟨a,cap,h1,h2,h3,fun hne=>?_⟩
 obtain⟨b,off,e,hlt,hx⟩:=h4 hne
 refine⟨b,off,e,hlt,fun j x hj=>?_⟩
 obtain⟨s,c1,c2⟩:=hx j x hj
 exact⟨s,fun i u hi=>(hb.cell (p:=⟨b,off+j*8+i,none⟩) (Nat.lt_of_lt_of_le hlt hB)).trans (c1 i u hi),c2.below hb hB⟩
theorem D9.mono {B B':Nat} {w:World} {v:Value} {ls:List CH.Version} (h:D9 B w v ls) (hB:B≤B'):D9 B' w v ls:=by
 obtain⟨a,cap,h1,h2,h3,h4⟩:=h
 refine⟨a,cap,h1,h2,h3,fun hne=>?_⟩
 obtain⟨b,off,e,hlt,hx⟩:=h4 hne
 refine⟨b,off,e,Nat.lt_of_lt_of_le hlt hB,fun j x hj=>?_⟩
 obtain⟨s,c1,c2⟩:=hx j x hj
 exact⟨s,c1,c2.mono hB⟩
theorem made_rep (z:Value) (N:Nat):madeCells #[z] N=(List.replicate N z).toArray:=by
 apply Array.ext'
 apply List.ext_getElem?
 intro i
 by_cases hi:i<N
 ·simp [madeCells,hi,Nat.mod_one]
 ·simp [madeCells,hi]
theorem lawLoop_cons {msg:CH.Version→List UInt8} {chk:CH.Version→List UInt8→Bool} {keys:List (List UInt8)} {v:CH.Version} {r:List CH.Version} {pv:Option CH.Version} {ns:List Int} {ps:List (List UInt8)} {R:List Int × List (List UInt8)}
  (h:CH.lawLoop msg chk keys (v::r) pv ns ps=some R) :
  ∃ A:Nat,v.authority=(A:Int)∧A<keys.length∧v.number=ns.getD A 0+1∧v.prev=ps.getD A []∧chk v (keys.getD A [])=true∧CH.late pv v=false∧CH.lawLoop msg chk keys r (some v) (ns.set A (ns.getD A 0+1)) (ps.set A (msg v))=some R:=by
 rw [CH.lawLoop] at h
 split at h
 ·cases h
 ·rename_i c1
  split at h
  ·cases h
  ·rename_i c2
   simp only [Bool.or_eq_true,decide_eq_true_eq,not_or,bne_iff_ne,ne_eq,Bool.not_eq_true',Bool.not_eq_false,Decidable.not_not] at c1
   obtain⟨⟨⟨⟨h1,h2⟩,h3⟩,h4⟩,h5⟩:=c1
   refine⟨v.authority.toNat,by omega,by omega,h3,h4,h5,by simpa using c2,h⟩
theorem row_set {α:Type} (f:α→Value) (l:List α) (A:Nat) (x:α):(l.map f).toArray.setIfInBounds A (f x)=((l.set A x).map f).toArray:=by
 rw [List.setIfInBounds_toArray,List.map_set]
theorem take_last {α:Type} (l:List α) (k:Nat) (x:α) (h:l[k]?=some x):(l.take (k+1)).getLast?=some x:=by
 rw [List.take_add_one,h]
 simp
set_option maxRecDepth 100000 in
theorem follows_main (vk vl:Value) (keys:List (List UInt8)) (l:List CH.Version) (w:World) (hG:Gc w) (hk:Strs w.heap.size w vk keys) (hraw:D9 w.heap.size w vl l) (hl:VersAt w.heap.size w vl l) (hfew:CH.few l 8=true) (hlen:keys.length≤8) (hkl:∀ x∈keys,x.length≤9223372036854775807) :
  Calls Tryz.prog 3 #[vk,vl] w (Ret w (.bool true)):=by
 have hl8:l.length≤8:=by
  unfold CH.few at hfew
  rw [Bool.and_eq_true] at hfew
  exact of_decide_eq_true hfew.2
 have good:=CH.addAll_good (chk:=chkV) (keys:=keys) l [] [] (CH.good_nil chkV keys)
 have hkn:=CH.addAll_length (chk:=chkV) (keys:=keys) l [] []
 have FW:=hid fun (W:World) (hb:Below w.heap.size w W)=>few_any vl l W ((hraw.below hb (Nat.le_refl _)).mono hb.size)
 rw [hfew] at FW
 have AD:=hid fun (W:World) (hb:Below w.heap.size w W)=>added_any vk vl keys l W (hG.below hb) ((hk.below hb (Nat.le_refl _)).mono hb.size) ((hl.below hb (Nat.le_refl _)).mono hb.size) hkl (by omega)
 have hk':=hk
 obtain⟨ak,ck,rfl,hck1,hck2,hkne⟩:=hk'
 have hkne:=hid hkne
 obtain⟨al,cl,rfl,hlc,hcl,_⟩:=hl
 obtain⟨NK,hNK⟩:∃ N,Hid (keys.length=N):=⟨_,hid rfl⟩
 rw [hNK.out] at hlen hck1 AD ⊢
 have q8:decide ((8:Int)<(NK:Int))=false:=by simp;omega
 clear hraw hfew hk
 generalize l.length=NL at *
 go_enter func3,ntmps3
 go_wp2_with fail
 refine (lawHead_any w hG).mono ?_
 rintro e w1 ⟨rfl,hb1⟩
 go_wp2_with fail
 refine (FW.out w1 hb1).mono ?_
 rintro e w2 ⟨rfl,hb2⟩
 have hB2:=hid (hb1.trans (hb2.mono hb1.size))
 clear FW hb1 hb2
 go_wp2_with fail
 refine (AD.out w2 hB2.out).mono ?_
 rintro e w3 ⟨hG3,hb3,hif⟩
 have hB3:=hid (hB2.out.trans (hb3.mono hB2.out.size))
 clear AD hb3 hB2
 by_cases hok:keysOk keys=true
 ·rw [if_pos hok] at hif
  obtain⟨c,r1,r2,rfl,hC,_,_,_⟩:=hif
  have hn200:∀ p v,(p,v)∈(allC keys l).1→p.2≤200:=fun p v hpv=>by
   have h1:=good.key _ _ hpv
   have h2:=good.number _ _ hpv
   rw [h1]
   exact h2.2
  have hfl:(CH.folAll CH.msg (allC keys l).1 keys.length).length<20:=by
   have:=CH.folAll_length (msg:=CH.msg) good keys.length
   have h0:([]:CH.Known).length=0:=rfl
   rw [h0] at hkn
   show (CH.folAll CH.msg (CH.addAll chkV keys l [] []).1 keys.length).length<20
   omega
  obtain⟨nsF,psF,hlaw,hnF,hpF,hF⟩:=CH.law_holds CH.msg good
  have HV:=hid (versions_any c r1 r2 keys _ _ w3 hG3 hC hn200 (by rw [hNK.out];omega) hfl)
  have HW:=hid fun (W:World) (hb:Below w3.heap.size w3 W)=>vector_any c r1 r2 keys _ _ W (hG3.below hb) (hC.below hb) hn200 (by rw [hNK.out];omega)
  have HH:=hid fun (W:World) (hb:Below w3.heap.size w3 W) (a:Nat)=>head_any c r1 r2 keys _ _ (a:Int) W (hG3.below hb) (hC.below hb) hn200
  have hGW:=hid fun (W:World) (hb:Below w3.heap.size w3 W)=>hG3.below hb
  change CH.lawLoop CH.msg chkV keys (CH.versions CH.msg (allC keys l).1 keys.length) none _ _=_ at hlaw
  change ∀ a:Nat,a<keys.length→nsF.getD a 0=((CH.fol CH.msg (allC keys l).1 (a:Int)).1.length:Nat)∧psF.getD a []=(CH.fol CH.msg (allC keys l).1 (a:Int)).2 at hF
  clear hn200 hfl good hkn hC hG hG3 hok
  generalize (allC keys l).1=known at *
  generalize (allC keys l).2=forks at *
  go_wp2_with fail
  refine HV.out.mono ?_
  rintro e w4 ⟨v4,rfl,hV4,hb4⟩
  obtain⟨aa,ca,rfl,hca1,hca2,hca3⟩:=hV4
  obtain⟨all,hall⟩:∃ all,Hid (CH.versions CH.msg known keys.length=all):=⟨_,hid rfl⟩
  rw [hall.out] at hlaw hca1 hca3
  rw [hall.out]
  obtain⟨M,hM⟩:∃ M,Hid (all.length=M):=⟨_,hid rfl⟩
  rw [hM.out] at hca1
  rw [hM.out]
  go_wp2_with fail
  refine (HW.out w4 hb4).mono ?_
  rintro e w5 ⟨v5,rfl,hI5,hb5⟩
  have hI5':=hI5
  obtain⟨ac,cc,rfl,hcc1,hcc2,_⟩:=hI5
  rw [counts_len,hNK.out] at hcc1 ⊢
  have hI5':=hid hI5'
  have hB5:=hid (hb4.trans (hb5.mono hb4.size))
  have hB4:=hid hb4
  have hb5:=hid hb5
  have hca3:=hid hca3
  have hF:=hid hF
  have hlaw:=hid hlaw
  have hnF:=hid hnF
  have hpF:=hid hpF
  clear HV HW hb4
  have hmk1:=fun W=>run_make_row' (P:=Tryz.prog) 29 3 (.int .i64 0) 8 underlying29 intInfo rfl .i64 .i64 NK (by omega) (by omega) W
  have hmk2:=fun W=>run_make_row' (P:=Tryz.prog) 22 9 (.string ⟨#[]⟩) 16 underlying22 strInfo rfl .i64 .i64 NK (by omega) (by omega) W
  go_wp2_with fail
  have hrN:=alloc2_fstP w5 (.cells (madeCells #[.int .i64 0] NK) 3) (.cells (madeCells #[.string ⟨#[]⟩] NK) 9)
  have hrP:=alloc2_sndP w5 (.cells (madeCells #[.int .i64 0] NK) 3) (.cells (madeCells #[.string ⟨#[]⟩] NK) 9)
  have hBa:Below w5.heap.size w5 ((w5.alloc (.cells (madeCells #[.int .i64 0] NK) 3)).alloc (.cells (madeCells #[.string ⟨#[]⟩] NK) 9)):=((Below.refl _ w5).alloc (Nat.le_refl _) _).alloc (by simp) _
  clear hmk1 hmk2
  generalize (w5.alloc (.cells (madeCells #[.int .i64 0] NK) 3)).alloc (.cells (madeCells #[.string ⟨#[]⟩] NK) 9)=W0 at *
  have hrN:Hid (W0.heap[w5.heap.size]?=some (.cells ((List.replicate NK (0:Int)).map intV).toArray 3 (0,0))):=hid (by rw [hrN,made_rep,List.map_replicate])
  have hrP:Hid (W0.heap[w5.heap.size+1]?=some (.cells ((List.replicate NK ([]:List UInt8)).map strV).toArray 9 (0,0))):=hid (by rw [hrP,made_rep,List.map_replicate])
  have hBa:=hid hBa
  have hl0:=hlaw.out
  rw [hNK.out] at hl0
  have hl0:=hid hl0
  have hi8:(Tryz.prog.info? 35).map (·.size)=some 8:=by kernel_rfl
  go_loopw [11] (fun i wr=>∃ (k:Nat) (ns:List Int) (ps:List (List UInt8)),k≤M∧i=.int .i64 k∧Hid (wr.heap[w5.heap.size]?=some (.cells (ns.map intV).toArray 3 (0,0)))∧Hid (wr.heap[w5.heap.size+1]?=some (.cells (ps.map strV).toArray 9 (0,0)))∧Hid (ns.length=NK)∧Hid (ps.length=NK)∧Hid (CH.lawLoop CH.msg chkV keys (all.drop k) (all.take k).getLast? ns ps=some (nsF,psF))∧Hid (Below w5.heap.size w5 wr)) (fun i _=>M - (RowKit.intOf i).toNat)
  case atStart=>exact⟨0,_,_,Nat.zero_le _,rfl,hrN,hrP,hid (by simp),hid (by simp),hid (by rw [List.drop_zero,List.take_zero];exact hl0.out),hBa⟩
  case round =>
   clear hrN hrP hBa hl0
   obtain⟨k,ns,ps,hkM,rfl,hrN,hrP,hnl,hpl,hLp,hBr⟩:=hrel
   by_cases hlt:k<M
   ·obtain⟨b,off,rfl,hbl,hx⟩:=hca3.out (by intro h;have:=hM.out;simp [h] at this;omega)
    obtain⟨x,hxk⟩:∃ x,all[k]?=some x:=⟨_,List.getElem?_eq_getElem (by rw [hM.out];exact hlt)⟩
    obtain⟨s,hc0,hat⟩:=hx k x hxk
    have hB4r:Below w4.heap.size w4 wr:=hb5.out.trans (hBr.out.mono hb5.out.size)
    have hB3r:Below w3.heap.size w3 wr:=hB5.out.trans (hBr.out.mono hB5.out.size)
    have hrg:wr.rangeAt b (off+k*8) (Ad x s):=fun j u hj=>(hB4r.cell (p:=⟨b,off+k*8+j,none⟩) hbl).trans (hc0 j u hj)
    have hdr:all.drop k=x::all.drop (k+1):=by
     obtain⟨h1,h2⟩:=List.getElem?_eq_some_iff.1 hxk
     rw [List.drop_eq_getElem_cons h1,h2]
    have hLp':=hLp.out
    rw [hdr] at hLp'
    obtain⟨A,hA,hAN,hnum,hprev,hchk,hlate,hnext⟩:=lawLoop_cons hLp'
    rw [hNK.out] at hAN
    obtain⟨n,hnA⟩:∃ n,ns[A]?=some n:=⟨_,List.getElem?_eq_getElem (by rw [hnl.out];exact hAN)⟩
    obtain⟨p,hpA⟩:∃ p,ps[A]?=some p:=⟨_,List.getElem?_eq_getElem (by rw [hpl.out];exact hAN)⟩
    obtain⟨key,hkA⟩:∃ key,keys[A]?=some key:=⟨_,List.getElem?_eq_getElem (by rw [hNK.out];exact hAN)⟩
    have hnD:ns.getD A 0=n:=by simp [List.getD_eq_getElem?_getD,hnA]
    have hpD:ps.getD A []=p:=by simp [List.getD_eq_getElem?_getD,hpA]
    have hkD:keys.getD A []=key:=by simp [List.getD_eq_getElem?_getD,hkA]
    rw [hnD] at hnum hnext
    rw [hpD] at hprev
    rw [hkD] at hchk
    obtain⟨bk,ok,rfl,hbk,hkc⟩:=hkne.out (fun e=>by rw [e] at hkA;simp at hkA)
    have hkc:=hkc A key hkA
    have hBw:Below w.heap.size w wr:=hB3.out.trans (hB3r.mono hB3.out.size)
    have hone:=hid (Dr hat)
    have CK:=fun (W:World) (hb:Below wr.heap.size wr W)=>check_any x s key W (hGW.out W (hB3r.trans (hb.mono hB3r.size))) ((hat.below (hB4r.trans (hb.mono hB4r.size)) (Nat.le_refl _)).mono (hB4r.trans (hb.mono hB4r.size)).size)
    have MS:=fun (W:World) (hb:Below w5.heap.size w5 W)=>Ek x s W (hGW.out W (hB5.out.trans (hb.mono hB5.out.size))) ((hat.below (hb5.out.trans (hb.mono hb5.out.size)) (Nat.le_refl _)).mono (hb5.out.trans (hb.mono hb5.out.size)).size)
    rw [hchk] at CK
    simp only [resV_msg] at MS
    generalize errInt (CH.message x)=me at MS
    generalize CH.msg x=mg at MS hnext
    have hin:=hat.small.number
    rw [hnum] at hin
    have hw:IntKind.i64.wrap (n+1)=n+1:=by
     rw [IntKind.wrap_i64]
     unfold I64 at hin
     omega
    obtain⟨a1,n1,c1,a2,n2,c2,a3,n3,c3,rfl⟩:=hat.sl
    have hll:Hid ((Ad x ⟨.slice a1 n1 c1,.slice a2 n2 c2,.slice a3 n3 c3⟩).length=8):=hid rfl
    obtain⟨LL,hLL⟩:∃ LL,Hid (Ad x ⟨.slice a1 n1 c1,.slice a2 n2 c2,.slice a3 n3 c3⟩=LL):=⟨_,hid rfl⟩
    rw [hLL.out] at hrg hone hll
    have hlv:(Tryz.prog.info? 35).map (·.size)=some LL.length:=by rw [hll.out];exact hi8
    dsimp only [Ad] at CK MS hLL
    rw [hA,hnum,hprev] at CK MS hLL
    have hrg:=hid hrg
    have CK:=hid CK
    have MS:=hid MS
    have hat:=hid hat
    have hnext:=hid hnext
    have hlate:=hid hlate
    have hnum:=hid hnum
    have hprev:=hid hprev
    have hA:=hid hA
    have hxk:=hid hxk
    have hdr:=hid hdr
    have hkc:=hid hkc
    have hx:=hid hx
    have hBw:=hid hBw
    have hB4r:=hid hB4r
    clear hLp hLp' hc0 hkA hnD hpD hkD hin hchk hB3r
    go_wp2_with (first|refine wpList_load_mid rfl 35 _ rfl b (off+k*8) rfl LL _ hrg.out underlying35 rfl hlv ?_|refine A8 rfl 35 _ _ rfl LL rfl rfl (by rw [hll.out];rfl) hlv hone.out ?_)
    obtain⟨X,hX⟩:∃ X,wr.alloc (.cells LL.toArray 35)=X:=⟨_,rfl⟩
    have hblk:X.heap[wr.heap.size]?=some (.cells LL.toArray 35 (0,0)):=by rw [← hX];exact heap_alloc_last wr _
    have hbX:Below wr.heap.size wr X:=by rw [← hX];exact (Below.refl _ wr).alloc (Nat.le_refl _) _
    rw [hX]
    rw [← hLL.out] at hblk
    dsimp only [intV,strV] at hblk
    have hzN:=(Array.getElem?_eq_some_iff.1 hrN.out).1
    have hzP:=(Array.getElem?_eq_some_iff.1 hrP.out).1
    have hXN:=(hbX.block _ hzN).trans hrN.out
    have hXP:=(hbX.block _ hzP).trans hrP.out
    have kn:X.cell? ⟨w5.heap.size,A,none⟩=some (.int .i64 n):=(Aa hXN A).trans (by simp [hnA])
    have kp:X.cell? ⟨w5.heap.size+1,A,none⟩=some (.string ⟨p.toArray⟩):=(Aa hXP A).trans (by simp [hpA])
    have kk:X.cell? ⟨bk,ok+A,none⟩=some (.string ⟨key.toArray⟩):=((hBw.out.trans (hbX.mono hBw.out.size)).cell (p:=⟨bk,ok+A,none⟩) hbk).trans hkc.out
    have CK2:=hid fun (W:World) (hb:Below X.heap.size X W)=>CK.out W (hbX.trans (hb.mono hbX.size))
    clear CK hX hLL hrg hll hlv hone
    have g0:∀ (d:Nat) (os:Array Obj),(grow (redrawn X d) os).cell? ⟨wr.heap.size,0,none⟩=some (.int .i64 A):=cell_regrown (Aa hblk 0)
    have g1:∀ (d:Nat) (os:Array Obj),(grow (redrawn X d) os).cell? ⟨wr.heap.size,1,none⟩=some (.int .i64 (n+1)):=cell_regrown (Aa hblk 1)
    have g2:∀ (d:Nat) (os:Array Obj),(grow (redrawn X d) os).cell? ⟨wr.heap.size,2,none⟩=some (.int .i64 x.pos):=cell_regrown (Aa hblk 2)
    have g3:∀ (d:Nat) (os:Array Obj),(grow (redrawn X d) os).cell? ⟨wr.heap.size,3,none⟩=some (.string ⟨p.toArray⟩):=cell_regrown (Aa hblk 3)
    have g4:∀ (d:Nat) (os:Array Obj),(grow (redrawn X d) os).cell? ⟨wr.heap.size,4,none⟩=some (.slice a1 n1 c1):=cell_regrown (Aa hblk 4)
    have g5:∀ (d:Nat) (os:Array Obj),(grow (redrawn X d) os).cell? ⟨wr.heap.size,5,none⟩=some (.int .i64 x.sel.index):=cell_regrown (Aa hblk 5)
    have g6:∀ (d:Nat) (os:Array Obj),(grow (redrawn X d) os).cell? ⟨wr.heap.size,6,none⟩=some (.slice a2 n2 c2):=cell_regrown (Aa hblk 6)
    have g7:∀ (d:Nat) (os:Array Obj),(grow (redrawn X d) os).cell? ⟨wr.heap.size,7,none⟩=some (.slice a3 n3 c3):=cell_regrown (Aa hblk 7)
    have gn:∀ (d:Nat) (os:Array Obj),(grow (redrawn X d) os).cell? ⟨w5.heap.size,A,none⟩=some (.int .i64 n):=cell_regrown kn
    have gp:∀ (d:Nat) (os:Array Obj),(grow (redrawn X d) os).cell? ⟨w5.heap.size+1,A,none⟩=some (.string ⟨p.toArray⟩):=cell_regrown kp
    have gk:∀ (d:Nat) (os:Array Obj),(grow (redrawn X d) os).cell? ⟨bk,ok+A,none⟩=some (.string ⟨key.toArray⟩):=cell_regrown kk
    have qA:decide ((A:Int)<0)=false:=by simp
    have qN:decide ((NK:Int)≤(A:Int))=false:=by simp;omega
    have z0:(0:Int)≤(A:Int):=by omega
    have zA:((A:Int)).toNat=A:=by omega
    have ha':(A:Int)<(NK:Int):=by omega
    go_wp2_with fail
    refine wp_region_quiet_below (by kernel_rfl) (by kernel_rfl) ?_
    repeat (quiet_step ((with_reducible exact Calls.regrown_of (CK2.out _ (below_regrown _ _ _)))))
    refine wpQuiet_nil ?_
    intro wq hbq
    replace hbq:=Af hbq
    clear g0 g1 g2 g3 g4 g5 g6 g7 gn gp gk kn kp kk CK2
    have hXl:=(Array.getElem?_eq_some_iff.1 hblk).1
    have hblk:=(hbq.block _ hXl).trans hblk
    have hQN:=(hbq.block _ (Array.getElem?_eq_some_iff.1 hXN).1).trans hXN
    have hQP:=(hbq.block _ (Array.getElem?_eq_some_iff.1 hXP).1).trans hXP
    have hBq:Below w5.heap.size w5 wq:=hBr.out.trans ((hbX.trans (hbq.mono hbX.size)).mono hBr.out.size)
    have kn:wq.cell? ⟨w5.heap.size,A,none⟩=some (.int .i64 n):=(Aa hQN A).trans (by simp [hnA])
    have kf:wq.frozen? ⟨w5.heap.size,A,none⟩=false:=Am hQN A
    have ka:wq.cell? ⟨wr.heap.size,0,none⟩=some (.int .i64 A):=Aa hblk 0
    have hs1:=Ak wq w5.heap.size A (intV (n+1)) _ _ _ hQN
    rw [row_set intV] at hs1
    have hs0:=(Ao wq ⟨w5.heap.size,A,none⟩ (intV (n+1)) wr.heap.size (by show wr.heap.size≠w5.heap.size;omega)).trans hblk
    have hs2:=(Ao wq ⟨w5.heap.size,A,none⟩ (intV (n+1)) (w5.heap.size+1) (by show w5.heap.size+1≠w5.heap.size;omega)).trans hQP
    have hB6:Below w5.heap.size w5 (wq.setCell ⟨w5.heap.size,A,none⟩ (intV (n+1))):=hBq.setCell (p:=⟨w5.heap.size,A,none⟩) (Nat.le_refl _) _
    dsimp only [intV] at hs1 hs0 hs2 hB6
    have hs1:=hid hs1
    have hs0:=hid hs0
    have hs2:=hid hs2
    have hB6:=hid hB6
    clear hbq hbX hXN hXP hQN hQP hBq hblk
    go_wp2_with fail
    clear kn kf ka
    generalize wq.setCell ⟨w5.heap.size,A,none⟩ (.int .i64 (n+1))=Y at *
    have MS3:=hid fun (W:World) (hb:Below Y.heap.size Y W)=>MS.out W (hB6.out.trans (hb.mono hB6.out.size))
    have SC:=hid fun (W':World) (h:W'.heap[wr.heap.size]?=Y.heap[wr.heap.size]?)=>(⟨Aa (h.trans hs0.out) 0,Aa (h.trans hs0.out) 1,Aa (h.trans hs0.out) 2,Aa (h.trans hs0.out) 3,Aa (h.trans hs0.out) 4,Aa (h.trans hs0.out) 5,Aa (h.trans hs0.out) 6,Aa (h.trans hs0.out) 7⟩:W'.cell? ⟨wr.heap.size,0,none⟩=some (.int .i64 A)∧W'.cell? ⟨wr.heap.size,1,none⟩=some (.int .i64 (n+1))∧W'.cell? ⟨wr.heap.size,2,none⟩=some (.int .i64 x.pos)∧W'.cell? ⟨wr.heap.size,3,none⟩=some (.string ⟨p.toArray⟩)∧W'.cell? ⟨wr.heap.size,4,none⟩=some (.slice a1 n1 c1)∧W'.cell? ⟨wr.heap.size,5,none⟩=some (.int .i64 x.sel.index)∧W'.cell? ⟨wr.heap.size,6,none⟩=some (.slice a2 n2 c2)∧W'.cell? ⟨wr.heap.size,7,none⟩=some (.slice a3 n3 c3))
    have hYl:=(Array.getElem?_eq_some_iff.1 hs0.out).1
    have hBd:Below Y.heap.size Y Y.drew:=(Below.refl _ Y).drew
    have MD:=hid (MS3.out _ hBd)
    clear MS3
    refine wp_region_noPanic ?_
    refine wp_region_held_drew (S:=fun W'=>W'.cell? ⟨wr.heap.size,0,none⟩=some (.int .i64 A)∧W'.cell? ⟨wr.heap.size,1,none⟩=some (.int .i64 (n+1))∧W'.cell? ⟨wr.heap.size,2,none⟩=some (.int .i64 x.pos)∧W'.cell? ⟨wr.heap.size,3,none⟩=some (.string ⟨p.toArray⟩)∧W'.cell? ⟨wr.heap.size,4,none⟩=some (.slice a1 n1 c1)∧W'.cell? ⟨wr.heap.size,5,none⟩=some (.int .i64 x.sel.index)∧W'.cell? ⟨wr.heap.size,6,none⟩=some (.slice a2 n2 c2)∧W'.cell? ⟨wr.heap.size,7,none⟩=some (.slice a3 n3 c3)) (by kernel_rfl) (SC.out _ (hBd.block _ hYl)) (fun hHeld=>?_)
    refine tk 0 (v:=.slice (some ⟨w5.heap.size+1,0,none⟩) NK NK) rfl (by rfl) hHeld ?_ ?_
    ·intro W hSw
     (try dsimp only at hSw)
     go_simp
    (try simp only [Act.put,pA,pB,pC])
    refine tk 1 (v:=.pointer (some ⟨wr.heap.size,0,none⟩)) rfl (by rfl) hHeld ?_ ?_
    ·intro W hSw
     (try dsimp only at hSw)
     go_simp
    (try simp only [Act.put,pA,pB,pC])
    refine tk 2 (v:=.int .i64 A) rfl (by rfl) hHeld ?_ ?_
    ·intro W hSw
     (try dsimp only at hSw)
     go_simp
    (try simp only [Act.put,pA,pB,pC])
    refine tk 3 (v:=.agg #[.int .i64 A,.int .i64 (n+1),.int .i64 x.pos,.string ⟨p.toArray⟩,.slice a1 n1 c1,.int .i64 x.sel.index,.slice a2 n2 c2,.slice a3 n3 c3]) rfl (by rfl) hHeld ?_ ?_
    ·intro W hSw
     (try dsimp only at hSw)
     go_simp
    (try simp only [Act.put,pA,pB,pC])
    refine wpAnyH_ready (rs:=[4]) (by kernel_rfl) (by simp) ?_
    refine AllReadyH.cons (o:=_) rfl (fun K hK=>?_) AllReadyH.nil
    go_simp
    refine MD.out.mono ?_
    rintro e w6 ⟨rfl,hb6⟩
    have hb6:=hBd.trans (hb6.mono hBd.size)
    go_wp2_with fail
    refine hK.out _ _ (SC.out _ (hb6.block _ hYl)) (fun hHeld=>?_)
    clear hK K
    (try simp only [Act.put,pA,pB,pC])
    refine tk 5 (v:=.tuple #[.string ⟨mg.toArray⟩,.int .i64 me]) rfl (by rfl) hHeld ?_ ?_
    ·intro W hSw
     (try dsimp only at hSw)
     go_simp
    (try simp only [Act.put,pA,pB,pC])
    refine tk 6 (v:=.string ⟨mg.toArray⟩) rfl (by rfl) hHeld ?_ ?_
    ·intro W hSw
     (try dsimp only at hSw)
     go_simp
    (try simp only [Act.put,pA,pB,pC])
    refine tk 7 (v:=.int .i64 me) rfl (by rfl) hHeld ?_ ?_
    ·intro W hSw
     (try dsimp only at hSw)
     go_simp
    (try simp only [Act.put,pA,pB,pC])
    refine tk 8 (v:=.pointer (some ⟨w5.heap.size+1,A,none⟩)) rfl (by rfl) hHeld ?_ ?_
    ·intro W hSw
     (try dsimp only at hSw)
     go_simp
    (try simp only [Act.put,pA,pB,pC])
    have hP6:=(hb6.block _ (Array.getElem?_eq_some_iff.1 hs2.out).1).trans hs2.out
    have kp:w6.cell? ⟨w5.heap.size+1,A,none⟩=some (.string ⟨p.toArray⟩):=(Aa hP6 A).trans (by simp [hpA])
    have kf:w6.frozen? ⟨w5.heap.size+1,A,none⟩=false:=Am hP6 A
    refine wpAnyH_ready (rs:=[9]) (by kernel_rfl) (by simp) ?_
    refine AllReadyH.cons (o:=_) rfl (fun K hK=>?_) AllReadyH.nil
    go_simp
    refine hK.out _ _ (SC.out _ ((Ao w6 ⟨w5.heap.size+1,A,none⟩ (.string ⟨mg.toArray⟩) wr.heap.size (by show wr.heap.size≠w5.heap.size+1;omega)).trans (hb6.block _ hYl))) (fun hHeld=>?_)
    clear hK K
    (try simp only [Act.put,pA,pB,pC])
    refine wpAnyH_done (by kernel_rfl) (NoPanic.normal ?_) _
    have hs3:=Ak w6 (w5.heap.size+1) A (strV mg) _ _ _ hP6
    rw [row_set strV] at hs3
    have hs4:=(Ao w6 ⟨w5.heap.size+1,A,none⟩ (strV mg) w5.heap.size (by show w5.heap.size≠w5.heap.size+1;omega)).trans ((hb6.block _ (Array.getElem?_eq_some_iff.1 hs1.out).1).trans hs1.out)
    have hs5:=(Ao w6 ⟨w5.heap.size+1,A,none⟩ (strV mg) wr.heap.size (by show wr.heap.size≠w5.heap.size+1;omega)).trans ((hb6.block _ hYl).trans hs0.out)
    have hB7:Below w5.heap.size w5 (w6.setCell ⟨w5.heap.size+1,A,none⟩ (strV mg)):=(hB6.out.trans (hb6.mono hB6.out.size)).setCell (p:=⟨w5.heap.size+1,A,none⟩) (Nat.le_succ _) _
    have hZ1:=(Array.getElem?_eq_some_iff.1 hs4).1
    have hZ2:=(Array.getElem?_eq_some_iff.1 hs3).1
    have hZ5:=(Array.getElem?_eq_some_iff.1 hs5).1
    dsimp only [strV] at hs3 hs4 hs5 hB7 hZ1 hZ2 hZ5
    have hs3:=hid hs3
    have hs4:=hid hs4
    have hs5:=hid hs5
    have hB7:=hid hB7
    clear hHeld SC MD hb6 hP6 kp kf hs0 hs1 hs2 hB6 hBd hYl
    generalize w6.setCell ⟨w5.heap.size+1,A,none⟩ (.string ⟨mg.toArray⟩)=Z at *
    have hB4z:Below w4.heap.size w4 Z:=hb5.out.trans (hB7.out.mono hb5.out.size)
    have hB4z:=hid hB4z
    rcases k with _|k
    ·go_wp2_with fail
     refine wp_region_quiet_below (by kernel_rfl) (by kernel_rfl) ?_
     repeat (quiet_step (fail))
     refine wpQuiet_nil ?_
     intro wq hbq
     replace hbq:=Af hbq
     have hF1:=hid ((hbq.block _ hZ1).trans hs4.out)
     have hF2:=hid ((hbq.block _ hZ2).trans hs3.out)
     have hF3:=hid (hB7.out.trans (hbq.mono hB7.out.size))
     clear hbq
     go_wp2
     go_roundw
     case rel=>exact⟨0+1,_,_,by omega,by go_num,hF1,hF2,hid (by rw [List.length_set];exact hnl.out),hid (by rw [List.length_set];exact hpl.out),hid (by rw [take_last _ _ _ hxk.out];exact hnext.out),hF3⟩
     case measure=>simp [RowKit.intOf];omega
    ·have gx0:∀ (d:Nat) (os:Array Obj),(grow (redrawn Z d) os).cell? ⟨wr.heap.size,0,none⟩=some (.int .i64 A):=cell_regrown (Aa hs5.out 0)
     have gx2:∀ (d:Nat) (os:Array Obj),(grow (redrawn Z d) os).cell? ⟨wr.heap.size,2,none⟩=some (.int .i64 x.pos):=cell_regrown (Aa hs5.out 2)
     obtain⟨u,huk⟩:∃ u,all[k]?=some u:=⟨_,List.getElem?_eq_getElem (by rw [hM.out];omega)⟩
     obtain⟨su,hcu,_⟩:=hx.out k u huk
     have hl:=hlate.out
     rw [take_last _ _ _ huk] at hl
     unfold CH.late at hl
     dsimp only at hl
     rw [Bool.or_eq_false_iff,Bool.and_eq_false_iff,hA.out] at hl
     have q1:decide (x.pos<u.pos)=false:=hl.1
     have e2:Z.cell? ⟨b,off+k*8+2,none⟩=some (.int .i64 u.pos):=(hB4z.out.cell (p:=⟨b,off+k*8+2,none⟩) hbl).trans (hcu 2 _ rfl)
     have e0:Z.cell? ⟨b,off+k*8,none⟩=some (.int .i64 u.authority):=(hB4z.out.cell (p:=⟨b,off+k*8,none⟩) hbl).trans (hcu 0 _ rfl)
     have z0:(0:Int)≤(k:Int):=by omega
     have zk:((k:Int)).toNat=k:=by omega
     have hk':(k:Int)<(M:Int):=by omega
     have hkp:decide ((0:Int)<(k:Int)+1)=true:=decide_eq_true (by omega)
     have hw1:IntKind.i64.wrap ((k:Int)+1 - 1)=(k:Int):=by
      rw [IntKind.wrap_i64]
      omega
     have hw2:IntKind.i64.wrap (k:Int)=(k:Int):=by
      rw [IntKind.wrap_i64]
      omega
     have hl2:=hid hl.2
     clear hl hcu
     by_cases hup:u.pos=x.pos
     ·have q3:decide ((A:Int)<u.authority)=false:=by
       rcases hl2.out with h|h
       ·rw [hup] at h
        simp at h
       ·exact h
      rw [hup] at e2 q1
      have hup:=hid hup
      have gu2:∀ (d:Nat) (os:Array Obj),(grow (redrawn Z d) os).cell? ⟨b,off+k*8+2,none⟩=some (.int .i64 x.pos):=cell_regrown e2
      have gu0:∀ (d:Nat) (os:Array Obj),(grow (redrawn Z d) os).cell? ⟨b,off+k*8,none⟩=some (.int .i64 u.authority):=cell_regrown e0
      go_wp2_with fail
      refine wp_region_quiet_below (by kernel_rfl) (by kernel_rfl) ?_
      repeat (quiet_step (fail))
      refine wpQuiet_nil ?_
      intro wq hbq
      replace hbq:=Af hbq
      clear gu0 gu2 gx0 gx2
      have hF1:=hid ((hbq.block _ hZ1).trans hs4.out)
      have hF2:=hid ((hbq.block _ hZ2).trans hs3.out)
      have hF3:=hid (hB7.out.trans (hbq.mono hB7.out.size))
      clear hbq
      go_wp2
      go_roundw
      case rel=>exact⟨k+1+1,_,_,by omega,by go_num,hF1,hF2,hid (by rw [List.length_set];exact hnl.out),hid (by rw [List.length_set];exact hpl.out),hid (by rw [take_last _ _ _ hxk.out];exact hnext.out),hF3⟩
      case measure=>simp [RowKit.intOf];omega
     ·have q2:(u.pos==x.pos)=false:=by simpa using hup
      have hup:=hid hup
      have gu2:∀ (d:Nat) (os:Array Obj),(grow (redrawn Z d) os).cell? ⟨b,off+k*8+2,none⟩=some (.int .i64 u.pos):=cell_regrown e2
      go_wp2_with fail
      refine wp_region_quiet_below (by kernel_rfl) (by kernel_rfl) ?_
      repeat (quiet_step (fail))
      refine wpQuiet_nil ?_
      intro wq hbq
      replace hbq:=Af hbq
      clear gu2 gx0 gx2
      have hF1:=hid ((hbq.block _ hZ1).trans hs4.out)
      have hF2:=hid ((hbq.block _ hZ2).trans hs3.out)
      have hF3:=hid (hB7.out.trans (hbq.mono hB7.out.size))
      clear hbq
      go_wp2
      go_roundw
      case rel=>exact⟨k+1+1,_,_,by omega,by go_num,hF1,hF2,hid (by rw [List.length_set];exact hnl.out),hid (by rw [List.length_set];exact hpl.out),hid (by rw [take_last _ _ _ hxk.out];exact hnext.out),hF3⟩
      case measure=>simp [RowKit.intOf];omega
   ·obtain rfl:k=M:=by omega
    obtain⟨wo,hwo⟩:∃ wo,wo=wr:=⟨_,rfl⟩
    subst hwo
    have hfin:=hLp.out
    rw [List.drop_of_length_le (by rw [hM.out];exact Nat.le_refl _),CH.lawLoop,Option.some.injEq,Prod.mk.injEq] at hfin
    obtain⟨rfl,rfl⟩:=hfin
    have hcnt:CH.counts CH.msg known keys.length=ns:=by
     apply List.ext_getElem?
     intro j
     rw [hNK.out]
     by_cases hj:j<NK
     ·have h1:=(hF.out j (by rw [hNK.out];exact hj)).1
      have h2:ns[j]?=some (ns.getD j 0):=by
       rw [List.getD_eq_getElem?_getD,List.getElem?_eq_getElem (by rw [hnl.out];exact hj)]
       rfl
      rw [h2,h1]
      unfold CH.counts
      rw [List.getElem?_map,List.getElem?_range hj]
      rfl
     ·rw [List.getElem?_eq_none (by rw [counts_len];omega),List.getElem?_eq_none (by rw [hnl.out];omega)]
    have hIc:=hI5'.out
    rw [hcnt,hnl.out] at hIc
    have hIc:=hid hIc
    have hzN:=(Array.getElem?_eq_some_iff.1 hrN.out).1
    have hzP:=(Array.getElem?_eq_some_iff.1 hrP.out).1
    have hIn:Ints wo.heap.size wo (.slice (some ⟨w5.heap.size,0,none⟩) NK NK) ns:=⟨_,NK,by rw [hnl.out],by rw [hnl.out];exact Nat.le_refl _,by omega,fun _=>⟨w5.heap.size,0,rfl,hzN,fun j n hj=>by
     rw [Nat.zero_add,Aa hrN.out j]
     simp [hj]⟩⟩
    have hIn:=hid hIn
    have hfol:Hid (∀ j,j<NK→ns[j]?=some (((CH.fol CH.msg known (j:Int)).1.length:Nat):Int)∧ps[j]?=some (CH.fol CH.msg known (j:Int)).2):=hid fun j hj=>by
     have h1:=hF.out j (by rw [hNK.out];exact hj)
     have e1:=h1.1
     have e2:=h1.2
     have hn2:ns[j]?=some (ns.getD j 0):=by
      rw [List.getD_eq_getElem?_getD,List.getElem?_eq_getElem (by rw [hnl.out];exact hj)]
      rfl
     have hp2:ps[j]?=some (ps.getD j []):=by
      rw [List.getD_eq_getElem?_getD,List.getElem?_eq_getElem (by rw [hpl.out];exact hj)]
      rfl
     rw [e1] at hn2
     rw [e2] at hp2
     exact⟨hn2,hp2⟩
    clear hcnt hca3 hlaw hF hLp
    go_wp2_with fail
    go_loopw [13] (fun i wr=>∃ j:Nat,j≤NK∧i=.int .i64 j∧Hid (Below wo.heap.size wo wr)) (fun i _=>NK - (RowKit.intOf i).toNat)
    case atStart=>exact⟨0,Nat.zero_le _,rfl,hid (Below.refl _ _)⟩
    case round =>
     obtain⟨j,hjN,rfl,hBz⟩:=hrel
     by_cases hjlt:j<NK
     ·go_wp2_with fail
      refine (HH.out wr (hB5.out.trans ((hBr.out.mono hB5.out.size).trans (hBz.out.mono (Nat.le_trans hB5.out.size hBr.out.size)))) j).mono ?_
      rintro e w6 ⟨rfl,hb6⟩
      obtain⟨h1,h2⟩:=hfol.out j hjlt
      generalize (CH.fol CH.msg known (j:Int)).1.length=m at *
      generalize (CH.fol CH.msg known (j:Int)).2=hd at *
      have hB6:Below wo.heap.size wo w6:=hBz.out.trans (hb6.mono hBz.out.size)
      have hN6:=(hB6.block _ hzN).trans hrN.out
      have hP6:=(hB6.block _ hzP).trans hrP.out
      have kn:w6.cell? ⟨w5.heap.size,j,none⟩=some (.int .i64 m):=(Aa hN6 j).trans (by simp [h1])
      have kp:w6.cell? ⟨w5.heap.size+1,j,none⟩=some (.string ⟨hd.toArray⟩):=(Aa hP6 j).trans (by simp [h2])
      have eb:((⟨hd.toArray⟩:ByteArray)==⟨hd.toArray⟩)=true:=by rw [Co];simp
      have z0:(0:Int)≤(j:Int):=by omega
      have zj:((j:Int)).toNat=j:=by omega
      have hj':(j:Int)<(NK:Int):=by omega
      have hB6:=hid hB6
      clear hb6 hN6 hP6 h1 h2
      go_wp2
      go_roundw
      case rel=>exact⟨j+1,by omega,by go_num,hB6⟩
      case measure=>simp [RowKit.intOf];omega
     ·obtain rfl:j=NK:=by omega
      have hBw5:=hBr.out.trans (hBz.out.mono hBr.out.size)
      have IA:=ints_any _ _ ns ns wr ((hIc.out.below hBw5 (Nat.le_refl _)).mono hBw5.size) ((hIn.out.below hBz.out (Nat.le_refl _)).mono hBz.out.size)
      rw [show (ns==ns)=true from by simp] at IA
      have IA:=hid IA
      have hBfin:=hid (hB3.out.trans ((hB5.out.trans (hBw5.mono hB5.out.size)).mono hB3.out.size))
      clear hBw5
      go_wp2_with fail
      refine IA.out.mono ?_
      rintro e w7 ⟨rfl,hb7⟩
      go_wp2
      go_ret
      exact⟨rfl,hBfin.out.trans (hb7.mono hBfin.out.size)⟩
 ·rw [if_neg hok] at hif
  subst hif
  clear hG3 hok good hkn hG
  have hB3:=hB3.out
  go_wp2_with fail
  refine (versionsNil_any _).mono ?_
  rintro e w4 ⟨rfl,rfl⟩
  go_wp2_with fail
  refine (vectorNil_any _).mono ?_
  rintro e w5 ⟨rfl,rfl⟩
  go_wp2
  go_ret
  exact⟨rfl,hB3⟩
end Go.Proofs.YtidikfebaccceaaGreatDoor
