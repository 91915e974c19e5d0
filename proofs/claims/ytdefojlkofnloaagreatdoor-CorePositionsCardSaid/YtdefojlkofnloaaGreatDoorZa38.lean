/- A part of the proof of CorePositions: for every input, no condition. -/
import Derived.Test.YtdefojlkofnloaaGreatDoorZa36
set_option maxRecDepth 100000
set_option maxHeartbeats 8000000
set_option linter.unusedVariables false
set_option linter.unusedSimpArgs false
namespace Go.Proofs.YtdefojlkofnloaaGreatDoor
open Go.RowKit Go.Proofs.Tryz
theorem Zaa.setAv{w:World}{base:Nat}{m:Zab}(h:Zaa w base m){g k:Nat}(C:m.sAva.A=some (Aq g 0))(E:k<m.avail.length)(x:Int):Zaa (w.setCell (Aq g k) (I x)) base {m with avail:=m.avail.set k x}:=by
 obtain⟨cs,_,_,hb⟩:=ZaK h.avail C
 have e1:=ZbA (C▸h.avail) k (by omega) (I x)
 rw[show(Zag m.avail).set k (I x)=Zag (m.avail.set k x) by simp[Zag,List.map_set]] at e1
 have s:(m.avail.set k x).length=m.avail.length:=List.length_set ..
 have z:(w.setCell (Aq g k) (I x)).ownsRow base 3 1 (.slice m.sAva.A (m.avail.set k x).length m.sAva.c) (m.avail.set k x).length (Zag (m.avail.set k x)):=by
  rw[s,C];exact e1
 exact⟨Zad h.curs hb (by decide),Zad h.unders hb (by decide),Zad h.instrs hb (by decide),Zad h.accts hb (by decide),Zad h.poss hb (by decide),Zad h.orders hb (by decide),z,Zad h.locs hb (by decide),
  fun a ha=>⟨ZbV (h.cash a ha).1 fun p hp he=>h.away a ha p _ hp C he,(h.cash a ha).2⟩,h.apart,h.away,h.short.1,h.short.2.1,h.short.2.2.1,h.short.2.2.2.1,h.short.2.2.2.2.1,h.short.2.2.2.2.2.1,by show(m.avail.set k x).length≤_;rw[s];exact h.short.2.2.2.2.2.2.1,h.short.2.2.2.2.2.2.2⟩
structure ZcC(m m':Zab):Prop where
 orders:m'.orders=m.orders
 locs:m'.locs=m.locs
 last:m'.accts.map ZaA.last=m.accts.map ZaA.last
 seen:ZbT m'
 ilen:m'.instrs.length=m.instrs.length
 ulen:m'.unders.length=m.unders.length
 alen:m'.avail.length=m.avail.length
theorem ZcC.refl{m:Zab}(s:ZbT m):ZcC m m:=⟨rfl,rfl,rfl,s,rfl,rfl,rfl⟩
theorem ZcC.trans{a b c:Zab}(h:ZcC a b)(k:ZcC b c):ZcC a c:=⟨k.orders.trans h.orders,k.locs.trans h.locs,k.last.trans h.last,k.seen,k.ilen.trans h.ilen,k.ulen.trans h.ulen,k.alen.trans h.alen⟩
theorem ZcC.ins{m z:Zab}(h:ZcC m z){k:Nat}(C:k<z.instrs.length)(x:ZaD)(E:x.under=(z.instrs[k]).under):ZcC m {z with instrs:=z.instrs.set k x}:=by
 have hl:(z.instrs.set k x).length=z.instrs.length:=List.length_set ..
 have s:=h.seen
 refine⟨h.orders,h.locs,h.last,⟨?_,s.und,by dsimp only;rw[hl];exact s.pos,by dsimp only;rw[hl];exact s.ord,s.cash,by dsimp only;rw[hl];exact s.lens⟩,hl.trans h.ilen,h.ulen,h.alen⟩
 intro i hi
 rcases List.mem_or_eq_of_mem_set hi with h1|h1
 ·exact s.ins i h1
 ·subst h1;rw[E];exact s.ins _ (List.getElem_mem C)
theorem ZcC.av{m z:Zab}(h:ZcC m z)(k:Nat)(x:Int):ZcC m {z with avail:=z.avail.set k x}:=by
 have s:=h.seen
 exact⟨h.orders,h.locs,h.last,⟨s.ins,s.und,s.pos,s.ord,s.cash,s.lens⟩,h.ilen,h.ulen,(List.length_set ..).trans h.alen⟩
theorem ZcC.und{m z:Zab}(h:ZcC m z){k:Nat}(x:ZbD)(C:Ziy x z.curs.length=true):ZcC m {z with unders:=z.unders.set k x}:=by
 have hl:(z.unders.set k x).length=z.unders.length:=List.length_set ..
 have s:=h.seen
 refine⟨h.orders,h.locs,h.last,⟨by dsimp only;rw[hl];exact s.ins,?_,s.pos,s.ord,s.cash,by dsimp only;rw[hl];exact s.lens⟩,h.ilen,hl.trans h.ulen,h.alen⟩
 intro u hu
 rcases List.mem_or_eq_of_mem_set hu with h1|h1
 ·exact s.und u h1
 ·subst h1
  unfold Ziy at C
  simp only[Bool.and_eq_true,Zd1] at C
  dsimp only
  omega
theorem ZcC.pos{m z:Zab}(h:ZcC m z){k:Nat}(x:P.Lc)(C:0≤x.instr∧x.instr<z.instrs.length∧0≤x.acct∧x.acct<z.accts.length):ZcC m {z with poss:=z.poss.set k x}:=by
 have s:=h.seen
 refine⟨h.orders,h.locs,h.last,⟨s.ins,s.und,?_,s.ord,s.cash,by dsimp only;rw[List.length_set];exact s.lens⟩,h.ilen,h.ulen,h.alen⟩
 intro p hp
 rcases List.mem_or_eq_of_mem_set hp with h1|h1
 ·exact s.pos p h1
 ·subst h1;exact C
theorem ZcC.acc{m s:Zab}(h:ZcC m s):s.accts.length=m.accts.length:=by
 have h1:=congrArg List.length h.last
 rw[List.length_map,List.length_map] at h1
 exact h1
theorem ZcC.keep{m z m3:Zab}(h:ZcC m z)(k:ZkH z m3):ZcC m m3:=by
 have s:=k.seen h.seen
 obtain⟨l,sl,h1,h2,rfl⟩:=k
 exact⟨h.orders,h.locs,h.last,s,h.ilen,h.ulen,h.alen⟩
theorem ZcC.same{m s m3:Zab}(h:ZcC m s)(k:Zbi s m3):ZcC m m3:=⟨k.orders.trans h.orders,k.locs.trans h.locs,k.last.trans h.last,Zht k h.seen,(by rw[k.instrs];exact h.ilen),(by rw[k.unders];exact h.ulen),(by rw[k.avail];exact h.alen)⟩
theorem Zh7{w:World}{B:Nat}{m:Zab}(h:Zaa w B m){g q:Nat}(E:m.sUnd.A=some (Aq g 0))(C:q<m.unders.length)(z:Int):
 ∃m2:Zab,Zaa (w.setCell (Aq g (q*4+2)) (I z)) B m2∧m2.cs=m.cs∧m2.curs=m.curs∧m2.sIns=m.sIns∧m2.instrs=m.instrs∧m2.sUnd.A=some (Aq g 0)∧q<m2.unders.length∧(ZbT m→Ziy (m2.unders.getD q default) m.curs.length=true→ZcC m m2):=by
 have hl:(m.unders.set q {m.unders[q] with price:=z}).length=m.unders.length:=List.length_set ..
 refine⟨{m with unders:=m.unders.set q {m.unders[q] with price:=z}},h.setUnd E C (j:=2) (by decide) rfl,?_,rfl,rfl,rfl,E,?_,?_⟩
 ·unfold Zab.cs;dsimp only;rw[hl]
 ·dsimp only;rw[hl];exact C
 ·intro s hu
  have e:(m.unders.set q {m.unders[q] with price:=z}).getD q default={m.unders[q] with price:=z}:=by simp[C]
  dsimp only at hu
  rw[e] at hu
  exact(ZcC.refl s).und _ hu
theorem Zjg(m:Zab)(c8 Y X:Int)(B J bu bn bd:Nat)(w:World)(hB:B≤w.heap.size)(js:Bk w J 130 m.ar)(ho:Zaa w B m)(hg:Za2 m=true)(jr:Bk w bu 3 #[I c8])(jL:bu<B)(jq:Bk w bn 3 #[I Y])(jK:bn<B)(jp:Bk w bd 3 #[I X])(jJ:bd<B):
 Calls prog 84 #[Pt J,Pt bu,Pt bn,Pt bd] w (Zbx 181 130 B J (fun m' _=>Zci m m') True w):=by
 have aB:=Hi hB
 have ip:=Hi hg
 have iS:=Hi (Zbr hg)
 have j4:=Hi ho.short.1
 have ik:=Hi (Zdj hg).2.2.1
 have fd:=Hi js
 have iB:=Hi ho
 have fa:=Hi jr
 have hT:=Hi jL
 have i9:=Hi jq
 have hR:=Hi jK
 have iX:=Hi jp
 have hQ:=Hi jJ
 clear hB js ho hg jr jL jq jK jp jJ
 obtain⟨i0,bW,aY⟩:=Option.map_eq_some_iff.1 ZjS
 simp only[Prod.mk.injEq] at aY
 have HI:=Hi bW
 have kj:=Hi aY.1
 have kk:=Hi aY.2.1
 have kl:=Hi aY.2.2
 clear bW aY
 obtain⟨jI,bW,aY⟩:=Option.map_eq_some_iff.1 L.info72
 simp only[Prod.mk.injEq] at aY
 have HJ:=Hi bW
 have iu:=Hi aY.1
 have iv:=Hi aY.2.1
 have iw:=Hi aY.2.2
 clear bW aY
 obtain⟨kn,bW,aY⟩:=Option.map_eq_some_iff.1 O.info45
 simp only[Prod.mk.injEq] at aY
 have HL:=Hi bW
 have jW:=Hi aY.1
 have jX:=Hi aY.2.1
 have jY:=Hi aY.2.2
 clear bW aY
 have eA:Hid (ZaC B J w w):=ZaC.refl _ _ _
 go_enter func84,ntmps84
 go_upto_region 1 with(fail)
 by_cases d1:0≤c8
 rotate_left
 ·obtain⟨W1,aJ⟩:=ExY w.drew
  have a5:=bhD eA aJ
  have ay:=bkD fd aJ
  have bU:=bkD fa aJ
  refine rgK (by kernel_rfl) aJ (CsA bU 0 rfl (CsB ay 2 rfl)) fun z=>?_
  clear aJ
  refine tkH [0,1,2,3,4,5,6,7,8,9,10,11] z (by kernel_rfl) (fun _ _ _ _ h=>h) ?_
  iterate 12 ((first|refine ycH rfl (by rfl) (fun w h=>by simp only[Cs] at h;go_simp<;>rfl) ?_|refine ncH rfl (by rfl) ?_);try simp only[Act.put,sA,sB,sC])
  refine onH 12 (by kernel_rfl) rfl fun K hK=>?_
  go_simp
  refine Cq (Zau 31 _) ?_
  dsimp only
  go_wp2
  exact⟨rfl,a5,m,ay,.inr ⟨31,(by decide),rfl,trivial⟩⟩
 by_cases d2:c8<(m.unders.length:Int)
 rotate_left
 ·obtain⟨W1,aJ⟩:=ExY w.drew
  have a5:=bhD eA aJ
  have ay:=bkD fd aJ
  have bU:=bkD fa aJ
  refine rgK (by kernel_rfl) aJ (CsA bU 0 rfl (CsB ay 2 rfl)) fun z=>?_
  clear aJ
  refine tkH [0,1,2,3,4,5,6,7,8,9,10,11] z (by kernel_rfl) (fun _ _ _ _ h=>h) ?_
  iterate 12 (refine ycH rfl (by rfl) (fun w h=>by simp only[Cs] at h;go_simp<;>rfl) ?_;try simp only[Act.put,sA,sB,sC])
  refine onH 12 (by kernel_rfl) rfl fun K hK=>?_
  go_simp
  refine Cq (Zau 31 _) ?_
  dsimp only
  go_wp2
  exact⟨rfl,a5,m,ay,.inr ⟨31,(by decide),rfl,trivial⟩⟩
 obtain⟨W1,aJ⟩:=ExY w.drew
 have a5:=bhD eA aJ
 have ay:=bkD fd aJ
 have bU:=bkD fa aJ
 have hr:=bkD i9 aJ
 have hk:=bkD iX aJ
 have eN:=boD iB aJ
 refine rgK (by kernel_rfl) aJ (CsA bU 0 rfl (CsB ay 2 rfl)) fun z=>?_
 clear aJ
 refine tkH [0,1,2,3,4,5,6,7,8,9,10,11] z (by kernel_rfl) (fun _ _ _ _ h=>h) ?_
 iterate 12 (refine ycH rfl (by rfl) (fun w h=>by simp only[Cs] at h;go_simp<;>rfl) ?_;try simp only[Act.put,sA,sB,sC])
 refine onH 12 (by kernel_rfl) rfl fun K hK=>?_
 go_simp
 refine Cq (Za7 31 _) ?_
 dsimp only
 refine hK.out _ _ (⟨bU.cell 0,ay.cell 2⟩) (fun z=>?_)
 try simp only[Act.put,sA,sB,sC]
 refine wpAnyH_done (by kernel_rfl) ?_ _
 clear z
 have ao:=ay.nine
 have G:=bU.one
 have E:=hr.one
 have C:=hk.one
 by_cases e1:1≤Y
 rotate_left
 ·go_wp2_with fail
  refine Cq (Zau 1 _) ?_
  dsimp only
  go_wp2
  exact⟨rfl,a5,m,ay,.inr ⟨1,(by decide),rfl,trivial⟩⟩
 by_cases e2:Y≤1000
 rotate_left
 ·go_wp2_with fail
  refine Cq (Zau 1 _) ?_
  dsimp only
  go_wp2
  exact⟨rfl,a5,m,ay,.inr ⟨1,(by decide),rfl,trivial⟩⟩
 by_cases e3:1≤X
 rotate_left
 ·go_wp2_with fail
  refine Cq (Zau 1 _) ?_
  dsimp only
  go_wp2
  exact⟨rfl,a5,m,ay,.inr ⟨1,(by decide),rfl,trivial⟩⟩
 by_cases e4:X≤1000
 rotate_left
 ·go_wp2_with fail
  refine Cq (Zau 1 _) ?_
  dsimp only
  go_wp2
  exact⟨rfl,a5,m,ay,.inr ⟨1,(by decide),rfl,trivial⟩⟩
 go_wp2_with fail
 refine Cq (Za7 1 _) ?_
 dsimp only
 clear e1 e2 e3 e4
 go_upto_region 4 with(fail)
 obtain⟨q,rfl⟩:∃q:Nat,c8=(q:Int):=ZaW d1
 have hq:q<m.unders.length:=Int.ofNat_lt.mp d2
 have HQ:=Hi hq
 obtain⟨n0,h8⟩:=ExY m.instrs.length
 have bc:=Hi h8
 have eK:Hid (n0≤12):=by rw[h8];exact iS.lens.2.2.1
 clear hq
 have cp:Rd (W1.alloc (.cells #[] 66)) W1.heap.size 7 m.sIns.A m.instrs.length (m.instrs.flatMap ZaD.cs):=(eN.rd.instrs).below ((Below.refl _ _).alloc (Nat.le_refl _) _)
 have dq:=Hi cp
 have jw:(W1.alloc (.cells #[] 66)).ownsRow W1.heap.size 66 7 (.slice (some ⟨W1.heap.size,0,none⟩) 0 0) 0 []:=Zj7 (cap:=0) (n:=0) (Bk.new _ _ _) (Nat.le_refl _) rfl (Nat.le_refl _) (Nat.zero_le _)
 have io:=Hi jw
 have jO:Hid (Bw W1 (W1.alloc (.cells #[] 66))):=(Below.refl _ _).alloc (Nat.le_refl _) _
 clear cp jw
 go_wp2_with (at_builtin;go_must (refine Zan _ rfl (.tmp 47) (.tmp 52) _ rfl W1.heap.size 66 i0 _ 7 56 underlying31 HI.out kj.out kk.out kl.out rfl (by decide) _ 0 [] rfl io.out _ _ m.instrs.length m.sIns.c _ rfl dq.out (Zio _) (by unfold maxLen;have:=eK.out;have:=bc.out;omega) (by have:=eK.out;have:=bc.out;omega) (by simp) ?_);intro A7 c7 w3 h1 h2 ac cl cj)
 have hb:Bw W1 w3:=jO.grown cl (by simp) (fun b hb=>(io.lt b hb).1)
 have e0:0+m.instrs.length=n0:=by rw[Nat.zero_add];exact bc.symm
 rw[e0,List.nil_append] at ac
 rw[←bc.out]
 obtain⟨S7,hZ⟩:=ExY W1.heap.size
 have ig:Hid (∀p,A7=some p→S7≤p.block):=fun p hp=>by rw[hZ];exact(ZaP ac p hp).1
 have ir:Hid (∀p,m.sIns.A=some p→p.block<S7):=fun p hp=>by rw[hZ];exact(ZaP eN.instrs p hp).2
 have kb:=Hi (Zap ac (Nat.le_trans aB.out a5.size))
 clear h1 h2 ac cl cj e0 hZ h8
 rename World=>W2
 have il:=bhU a5 aB hb
 have je:=bkN ay hb
 have jd:Hid (Bk W2 bu 3 #[I q]):=bkN bU hb
 have ja:=bkN hr hb
 have iY:=bkN hk hb
 have eR:=boN eN hb
 clear ao G E C
 clear hb
 have iI:Hid (W2.ownsRow B 66 7 (.slice A7 n0 c7) n0 (m.instrs.flatMap ZaD.cs)):=kb.out
 obtain⟨g,hA,-,-,-⟩:=Zbb eR.unders (Nat.lt_of_le_of_lt (Nat.zero_le _) HQ.out)
 obtain⟨-,-,y2,-,y4,y5,-⟩:=ZdJ eR.out hA HQ.out
 obtain⟨pr,jM⟩:∃x:Int,W2.cell? ⟨g,q*4+2,none⟩=some (I x):=⟨_,y2⟩
 have fM:Hid (∀U,Bw W2 U→U.cell? (Aq g (q*4+2))=some (I pr)):=fun U hU=>(hU.cell (p:=Aq g (q*4+2)) y5).trans jM
 have HA:=Hi hA
 clear hA y2 jM y4 y5
 have iW:Hid (Bw W2 W2):=Below.refl _ _
 go_upto_region 5 with(fail)
 obtain⟨W3,cv⟩:=ExY W2.drew
 have hf:=blD iW cv
 have im:=bhD il cv
 have hz:=bkD je cv
 have hw:=bkD jd cv
 have hs:=bkD ja cv
 have hl:=bkD iY cv
 have iC:=boD eR cv
 have iJ:Hid (W3.ownsRow B 66 7 (.slice A7 n0 c7) n0 (m.instrs.flatMap ZaD.cs)):=by rw[cv];exact iI
 refine rgM (fun U=>U.cell? (Aq J 2)=some (.slice (some (Aq g 0)) m.unders.length m.sUnd.c)∧U.cell? (Aq bu 0)=some (I q)∧U.cell? (Aq g (q*4+2))=some (I pr)) 19 (by kernel_rfl) cv ?_
 clear cv
 refine tkM [0,1,2,3,4,5,6,7,8,9,10,11,12,13,14,15] (⟨HA.out▸hz.out.cell 2,hw.out.cell 0,fM.out _ hf.out⟩) (by kernel_rfl) (fun _ _ _ _ h=>h) ?_
 iterate 16 (refine ycM rfl (by rfl) (fun w h=>by go_simp<;>rfl) ?_;try simp only[Act.put,sA,sB,sC])
 refine onM 16 (by kernel_rfl) rfl fun K hK=>?_
 go_simp
 refine(Zgw pr X Y bd bn _ hl hs).mono ?_
 rintro e W4 ⟨he,hb⟩
 have eZ:=blT hf hb
 have g8:=bhU im aB hb
 have cz:=bkN hz hb
 have dg:=bkN hw hb
 have ht:=bkN hs hb
 have hm:=bkN hl hb
 have eS:=boN iC hb
 have iK:=boB iJ hb
 clear hb
 rcases he with⟨np,rfl⟩|⟨er,ck,he⟩
 rotate_left
 ·unfold Pan at he
  subst he
  dsimp only
  go_wp2
  exact⟨rfl,g8,m,cz,.inr ⟨er,ck,rfl,trivial⟩⟩
 dsimp only
 refine hK.out _ _ (fun _=>⟨HA.out▸cz.out.cell 2,dg.out.cell 0,fM.out _ eZ.out⟩) ?_
 try simp only[Act.put,sA,sB,sC]
 refine onM 17 (by kernel_rfl) rfl fun K hK=>?_
 go_simp
 refine hK.out _ _ (fun _=>⟨HA.out▸cz.out.cell 2,dg.out.cell 0,fM.out _ eZ.out⟩) ?_
 try simp only[Act.put,sA,sB,sC]
 refine tkM [18] (⟨HA.out▸cz.out.cell 2,dg.out.cell 0,fM.out _ eZ.out⟩) (by kernel_rfl) (fun _ _ _ _ h=>h) ?_
 (refine ycM rfl (by rfl) (fun w h=>by go_simp<;>rfl) ?_;try simp only[Act.put,sA,sB,sC])
 refine onM 19 (by kernel_rfl) rfl fun K hK=>?_
 obtain⟨-,-,y2,-,y4,y5,-⟩:=ZdJ eS.out HA.out HQ.out
 have z2:=y4 (q*4+2)
 clear y4
 go_simp
 clear y2 y5 z2
 obtain⟨m2,jC,jt,jv,hI,jz,jn,jD,hJ⟩:=Zh7 eS.out HA.out HQ.out np
 obtain⟨bE,_,aa,aA⟩:=ZaK eS.unders HA.out
 obtain⟨W5,cY⟩:=ExY ((W4.setCell ⟨g,q*4+2,none⟩ (I np)))
 rw[←cY]
 have s:Bk W4 g 63 bE:=aA
 have ha:Hid (ZaC B J w W5):=by rw[cY];exact(g8.set_up aa)
 have hC:Hid (Bk W5 J 130 m.ar):=by rw[cY];exact(cz.far (p:=Aq g (q*4+2)) (cz.ne s (by decide)) _)
 have hx:Hid (Bk W5 bu 3 #[I q]):=by rw[cY];exact(dg.far (p:=Aq g (q*4+2)) (dg.ne s (by decide)) _)
 have jb:Hid (Bk W5 bn 3 #[I Y]):=by rw[cY];exact(ht.far (p:=Aq g (q*4+2)) (ht.ne s (by decide)) _)
 have iZ:Hid (Bk W5 bd 3 #[I X]):=by rw[cY];exact(hm.far (p:=Aq g (q*4+2)) (hm.ne s (by decide)) _)
 have hc:Hid (Zaa W5 B m2):=by rw[cY];exact jC
 have iL:Hid (W5.ownsRow B 66 7 (.slice A7 n0 c7) n0 (m.instrs.flatMap ZaD.cs)):=by rw[cY];exact Zad iK s (by decide)
 clear aA s aa bE
 clear cY
 have jP:=Hi jt
 have iO:=Hi hI
 have jN:=Hi jn
 have kf:=Hi jD
 have iT:=Hi (hJ iS.out)
 clear jC jt jv hI jz jn jD hJ
 refine hK.out _ _ (fun h0=>Zac (by kernel_rfl) h0) ?_
 refine Zak (by kernel_rfl) ?_ _
 obtain⟨⟨nm,cu,ev,vo⟩,hu⟩:∃u,u=m2.unders.getD q default:=⟨_,rfl⟩
 have hy:=ZdJ hc.out jN.out kf.out
 rw[←hu] at hy
 obtain⟨y0,y1,y2,y3,-,y5,-⟩:=hy
 have HY:Hid (∀U,Bw W5 U→U.cell? (Aq g (q*4))=some (.string nm)∧U.cell? (Aq g (q*4+1))=some (I cu)∧U.cell? (Aq g (q*4+2))=some (I ev)∧U.cell? (Aq g (q*4+3))=some (I vo)):=fun U hU=>
  ⟨(hU.cell y5).trans y0,(hU.cell (p:=Aq g (q*4+1)) y5).trans y1,(hU.cell (p:=Aq g (q*4+2)) y5).trans y2,(hU.cell (p:=Aq g (q*4+3)) y5).trans y3⟩
 obtain⟨ub,ia⟩:=ExY (Ziy ⟨nm,cu,ev,vo⟩ m.curs.length)
 have jG:∀V,Calls prog 63 #[.agg #[.string nm,I cu,I ev,I vo],I m.curs.length] V fun e w'=>e=.returned (.bool ub)∧Bw V w':=by rw[ia];exact fun V=>ZgJ ⟨nm,cu,ev,vo⟩ m.curs.length (ZbR j4) V
 have iV:=Hi jG
 have kg:=Hi ia
 have HU:=Hi hu
 clear y0 y1 y2 y3 y5 ia jG hu
 go_upto_region 6 with(fail)
 have hd:Hid (Bw W5 W5):=Below.refl _ _
 cases ub with
 |false=>
  obtain⟨W6,aX⟩:=ExY W5.drew
  have aV:=blD hd aX
  have eE:=bhD ha aX
  have cg:=bkD hC aX
  have dh:=bkD hx aX
  refine rgH (S:=(fun U=>U.cell? (Aq J 2)=some (.slice (some (Aq g 0)) m.unders.length m.sUnd.c)∧U.cell? (Aq bu 0)=some (I q)∧U.cell? (Aq g (q*4))=some (.string nm)∧U.cell? (Aq g (q*4+1))=some (I cu)∧U.cell? (Aq g (q*4+2))=some (I ev)∧U.cell? (Aq g (q*4+3))=some (I vo)∧U.cell? (Aq J 1)=some (.slice m.sCur.A m.curs.length m.sCur.c))) (by kernel_rfl) aX ⟨HA.out▸cg.out.cell 2,dh.out.cell 0,(HY.out _ aV.out).1,(HY.out _ aV.out).2.1,(HY.out _ aV.out).2.2.1,(HY.out _ aV.out).2.2.2,cg.out.cell 1⟩ fun z=>?_
  clear aX
  refine tkH [0,1,2,3,4,5,6,7,8,9,10,11,12,13] z (by kernel_rfl) (fun _ _ _ _ h=>h) ?_
  iterate 14 (refine ycH rfl (by rfl) (fun w h=>by go_simp<;>rfl) ?_;try simp only[Act.put,sA,sB,sC])
  refine onH 14 (by kernel_rfl) rfl fun K hK=>?_
  go_simp
  refine(iV.out _).mono ?_
  rintro e W7 ⟨rfl,hb⟩
  have aI:=blT aV hb
  have eF:=bhU eE aB hb
  have a6:=bkN cg hb
  have cy:=bkN dh hb
  clear hb
  dsimp only
  refine hK.out _ _ (⟨HA.out▸a6.out.cell 2,cy.out.cell 0,(HY.out _ aI.out).1,(HY.out _ aI.out).2.1,(HY.out _ aI.out).2.2.1,(HY.out _ aI.out).2.2.2,a6.out.cell 1⟩) (fun z=>?_)
  try simp only[Act.put,sA,sB,sC]
  refine onH 15 (by kernel_rfl) rfl fun K hK=>?_
  go_simp
  refine Cq (Zau 37 _) ?_
  dsimp only
  go_wp2
  exact⟨rfl,eF,m,a6,.inr ⟨37,(by decide),rfl,trivial⟩⟩
 |true=>
 obtain⟨W6,aX⟩:=ExY W5.drew
 have aV:=blD hd aX
 have eE:=bhD ha aX
 have cg:=bkD hC aX
 have dh:=bkD hx aX
 have jc:=bkD jb aX
 have i8:=bkD iZ aX
 have iD:=boD hc aX
 have iM:Hid (W6.ownsRow B 66 7 (.slice A7 n0 c7) n0 (m.instrs.flatMap ZaD.cs)):=by rw[aX];exact iL
 refine rgH (S:=(fun U=>U.cell? (Aq J 2)=some (.slice (some (Aq g 0)) m.unders.length m.sUnd.c)∧U.cell? (Aq bu 0)=some (I q)∧U.cell? (Aq g (q*4))=some (.string nm)∧U.cell? (Aq g (q*4+1))=some (I cu)∧U.cell? (Aq g (q*4+2))=some (I ev)∧U.cell? (Aq g (q*4+3))=some (I vo)∧U.cell? (Aq J 1)=some (.slice m.sCur.A m.curs.length m.sCur.c))) (by kernel_rfl) aX ⟨HA.out▸cg.out.cell 2,dh.out.cell 0,(HY.out _ aV.out).1,(HY.out _ aV.out).2.1,(HY.out _ aV.out).2.2.1,(HY.out _ aV.out).2.2.2,cg.out.cell 1⟩ fun z=>?_
 clear aX
 refine tkH [0,1,2,3,4,5,6,7,8,9,10,11,12,13] z (by kernel_rfl) (fun _ _ _ _ h=>h) ?_
 iterate 14 (refine ycH rfl (by rfl) (fun w h=>by go_simp<;>rfl) ?_;try simp only[Act.put,sA,sB,sC])
 refine onH 14 (by kernel_rfl) rfl fun K hK=>?_
 go_simp
 refine(iV.out _).mono ?_
 rintro e W7 ⟨rfl,hb⟩
 have aI:=blT aV hb
 have eF:=bhU eE aB hb
 have a6:=bkN cg hb
 have cy:=bkN dh hb
 have hv:=bkN jc hb
 have hn:=bkN i8 hb
 have iE:=boN iD hb
 have iN:=boB iM hb
 clear hb
 dsimp only
 refine hK.out _ _ (⟨HA.out▸a6.out.cell 2,cy.out.cell 0,(HY.out _ aI.out).1,(HY.out _ aI.out).2.1,(HY.out _ aI.out).2.2.1,(HY.out _ aI.out).2.2.2,a6.out.cell 1⟩) (fun z=>?_)
 try simp only[Act.put,sA,sB,sC]
 refine onH 15 (by kernel_rfl) rfl fun K hK=>?_
 go_simp
 refine Cq (Za7 37 _) ?_
 dsimp only
 refine hK.out _ _ (⟨HA.out▸a6.out.cell 2,cy.out.cell 0,(HY.out _ aI.out).1,(HY.out _ aI.out).2.1,(HY.out _ aI.out).2.2.1,(HY.out _ aI.out).2.2.2,a6.out.cell 1⟩) (fun z=>?_)
 try simp only[Act.put,sA,sB,sC]
 refine wpAnyH_done (by kernel_rfl) ?_ _
 clear z
 have ab:Hid (ZcC m m2):=iT.out (by rw[←HU.out];exact kg.symm)
 have jZ:Hid (m.instrs.length=n0):=bc.symm
 have iG:Hid (Bk W7 J 130 (Zab.cs m2).toArray):=by show Bk _ _ _ _;rw[jP.out];exact a6
 obtain⟨bG,bH,bI,aZ,bJ,a9,ba,bK,bb,bL,bM,bN,bO,bP,bQ,bR,bS,bT,cZ⟩:=a6.nine
 have G:=cy.one
 have E:=hv.one
 have C:=hn.one
 rw[jZ.out] at aZ
 go_upto_region 8 with(fail)
 clear bG bH bI aZ bJ a9 ba bK bb bL bM bN bO bP bQ bR bS bT cZ G E C
 have eI:Hid (ZaC B J w W7∧Bk W7 J 130 m2.ar∧ZcC m m2∧m2.sIns=m.sIns∧Zaa W7 B m2∧Bk W7 bu 3 #[I q]∧Bk W7 bn 3 #[I Y]∧Bk W7 bd 3 #[I X]∧W7.ownsRow B 66 7 (.slice A7 n0 c7) n0 (m.instrs.flatMap ZaD.cs)):=⟨eF,iG,ab,iO,iE,cy,hv,hn,iN⟩
 go_loopw [95] (fun ie wr=>∃(j:Nat) (m2:Zab),j≤n0∧ie=I (j:Int)∧Hid True∧Hid (ZaC B J w wr∧Bk wr J 130 m2.ar∧ZcC m m2∧m2.sIns=m.sIns∧Zaa wr B m2∧Bk wr bu 3 #[I q]∧Bk wr bn 3 #[I Y]∧Bk wr bd 3 #[I X]∧wr.ownsRow B 66 7 (.slice A7 n0 c7) n0 (m.instrs.flatMap ZaD.cs))) (fun ie _=>n0-(intOf ie).toNat)
 case atStart=>exact⟨0,m2,Nat.zero_le _,rfl,trivial,eI⟩
 case round=>
  obtain⟨j,m2,hj,rfl,_,aw⟩:=hrel
  rename World=>V
  have cC:Hid (ZaC B J w V):=aw.1
  have a2:Hid (Bk V J 130 m2.ar):=aw.2.1
  have ab:Hid (ZcC m m2):=aw.2.2.1
  have hO:Hid (m2.sIns=m.sIns):=aw.2.2.2.1
  have ax:Hid (Zaa V B m2):=aw.2.2.2.2.1
  have br:Hid (Bk V bu 3 #[I q]):=aw.2.2.2.2.2.1
  have bl:Hid (Bk V bn 3 #[I Y]):=aw.2.2.2.2.2.2.1
  have bh:Hid (Bk V bd 3 #[I X]):=aw.2.2.2.2.2.2.2.1
  have cM:Hid (V.ownsRow B 66 7 (.slice A7 n0 c7) n0 (m.instrs.flatMap ZaD.cs)):=aw.2.2.2.2.2.2.2.2
  clear aw
  by_cases aK:j<n0
  rotate_left
  ·obtain⟨n1,eu⟩:=ExY m2.poss.length
   obtain⟨A1,hV⟩:=ExY m2.sPos.A
   obtain⟨c1,h7⟩:=ExY m2.sPos.c
   have hM:Hid (∃l:List P.Lc,l.length=n1∧(∀p∈l,0≤p.instr∧p.instr<n0∧0≤p.acct∧p.acct<m.accts.length)∧V.ownsRow B 50 3 (.slice A1 n1 c1) n1 (P.lcs l)):=by
    refine⟨m2.poss,eu.symm,fun p hp=>?_,by rw[eu,hV,h7];exact ax.poss⟩
    have h1:=ab.seen.pos p hp
    have h2:=ab.ilen
    have h3:=bc.out
    have h4:=ab.acc
    omega
   have j6:Hid (n1≤64):=by rw[eu];exact ab.seen.lens.2.2.2.2.1
   have eT:Hid (m2.poss.length=n1):=eu.symm
   obtain⟨bG,bH,bI,aZ,bJ,a9,ba,bK,bb,bL,bM,bN,bO,bP,bQ,bR,bS,bT,cZ⟩:=a2.nine
   have G:=br.one
   have E:=bl.one
   have C:=bh.one
   rw[←eu,←hV,←h7] at a9
   clear eu hV h7
   go_upto_region 17 with(fail)
   clear bG bH bI aZ bJ a9 ba bK bb bL bM bN bO bP bQ bR bS bT cZ G E C aK hj
   have jV:Hid (ZaC B J w V∧Bk V J 130 m2.ar∧ZcC m m2∧m2.poss.length=n1∧Zaa V B m2∧Bk V bu 3 #[I q]∧Bk V bn 3 #[I Y]∧Bk V bd 3 #[I X]∧V.ownsRow B 66 7 (.slice A7 n0 c7) n0 (m.instrs.flatMap ZaD.cs)∧∃l:List P.Lc,l.length=n1∧(∀p∈l,0≤p.instr∧p.instr<n0∧0≤p.acct∧p.acct<m.accts.length)∧V.ownsRow B 50 3 (.slice A1 n1 c1) n1 (P.lcs l)):=⟨cC,a2,ab,eT,ax,br,bl,bh,cM,hM⟩
   go_loopw [164] (fun fm wr=>∃(j:Nat) (m2:Zab),j≤n1∧fm=I (j:Int)∧Hid True∧Hid (ZaC B J w wr∧Bk wr J 130 m2.ar∧ZcC m m2∧m2.poss.length=n1∧Zaa wr B m2∧Bk wr bu 3 #[I q]∧Bk wr bn 3 #[I Y]∧Bk wr bd 3 #[I X]∧wr.ownsRow B 66 7 (.slice A7 n0 c7) n0 (m.instrs.flatMap ZaD.cs)∧∃l:List P.Lc,l.length=n1∧(∀p∈l,0≤p.instr∧p.instr<n0∧0≤p.acct∧p.acct<m.accts.length)∧wr.ownsRow B 50 3 (.slice A1 n1 c1) n1 (P.lcs l))) (fun fm _=>n1-(intOf fm).toNat)
   case atStart=>exact⟨0,m2,Nat.zero_le _,rfl,trivial,jV⟩
   case round=>
    obtain⟨j,m2,hj,rfl,_,aw⟩:=hrel
    rename World=>V
    have eT:Hid (m2.poss.length=n1):=aw.2.2.2.1
    have hM:=Hi aw.2.2.2.2.2.2.2.2.2
    have be:Hid (ZaC B J w V):=aw.1
    have a4:Hid (Bk V J 130 m2.ar):=aw.2.1
    have ab:Hid (ZcC m m2):=aw.2.2.1
    have dH:Hid (Zaa V B m2):=aw.2.2.2.2.1
    have bs:Hid (Bk V bu 3 #[I q]):=aw.2.2.2.2.2.1
    have bo:Hid (Bk V bn 3 #[I Y]):=aw.2.2.2.2.2.2.1
    have bi:Hid (Bk V bd 3 #[I X]):=aw.2.2.2.2.2.2.2.1
    have fX:Hid (V.ownsRow B 66 7 (.slice A7 n0 c7) n0 (m.instrs.flatMap ZaD.cs)):=aw.2.2.2.2.2.2.2.2.1
    clear aw
    by_cases aK:j<n1
    rotate_left
    ·have ao:=a4.nine
     have G:=bs.one
     have E:=bo.one
     have C:=bi.one
     go_wp2_with fail
     refine(Zip m2 J B 93 #[] V (Nat.le_trans aB be.size) a4 dH ab.seen (fun v W=>by kernel_rfl) (fun U hU p hp=>Zlb p U)).mono ?_
     rintro e ah ⟨hh,rfl,m3,et,ho,jA⟩
     have a0:Hid (ZaC B J w ah):=be.trans (hh.weak (Nat.le_trans aB be.size))
     have al:Hid (Bk ah bu 3 #[I q]):=bs.hole hh bs.lt (bs.ne a4 (by decide))
     have ak:Hid (Bk ah bn 3 #[I Y]):=bo.hole hh bo.lt (bo.ne a4 (by decide))
     have aj:Hid (Bk ah bd 3 #[I X]):=bi.hole hh bi.lt (bi.ne a4 (by decide))
     have ae:Hid (Bk ah J 130 m3.ar):=et
     have aL:Hid (Zaa ah B m3):=ho
     have aH:Hid (ZcC m m3):=ab.keep jA
     clear hh et ho jA ao G E C aK hj
     dsimp only
     rename World=>V5
     obtain⟨n2,g4⟩:=ExY m3.locs.length
     have j7:=Hi g4
     have dF:Hid (n2≤32):=by rw[g4,aH.locs];exact(Zdj ip).2.2.2
     obtain⟨bG,bH,bI,aZ,bJ,a9,ba,bK,bb,bL,bM,bN,bO,bP,bQ,bR,bS,bT,cZ⟩:=ae.nine
     have G:=al.one
     have E:=ak.one
     have C:=aj.one
     rw[←g4] at bb
     clear g4
     go_upto_region 26 with(fail)
     clear bG bH bI aZ bJ a9 ba bK bb bL bM bN bO bP bQ bR bS bT cZ G E C
     have eI:Hid (Bw V5 V5∧V5.ownsRow V5.heap.size 72 3 (.slice none ([]:List L.Lc).length 0) ([]:List L.Lc).length (L.lcs ([]:List L.Lc))∧([]:List L.Lc).length≤0):=⟨Below.refl _ _,World.ownsRow_nil _ _ _ _,Nat.le_refl _⟩
     go_loopw [12,201] (fun ko fo wr=>∃(j:Nat) (l:List L.Lc) (A:Option Addr) (c:Nat),j≤n2∧ko=.slice A l.length c∧fo=I (j:Int)∧Hid (Bw V5 wr∧wr.ownsRow V5.heap.size 72 3 (.slice A l.length c) l.length (L.lcs l)∧l.length≤j)) (fun _ fo _=>n2-(intOf fo).toNat)
     case atStart=>exact⟨0,[],none,0,Nat.zero_le _,rfl,rfl,eI⟩
     case round=>
      obtain⟨j,l,A,c,hj,rfl,rfl,cr⟩:=hrel
      rename World=>V
      have Z:Hid (Bw V5 V):=cr.1
      have ct:Hid (V.ownsRow V5.heap.size 72 3 (.slice A l.length c) l.length (L.lcs l)):=cr.2.1
      have dn:Hid (l.length≤j):=cr.2.2
      clear cr
      by_cases aK:j<n2
      rotate_left
      ·have dK:Hid (V.ownsRow B 72 3 (.slice A l.length c) l.length (L.lcs l)):=Zap ct (Nat.le_trans aB a0.size)
       have dD:Hid (ZaC B J w V):=a0.up aB Z
       have bA:Hid (Bk V J 130 m3.ar):=ae.below Z ae.lt
       have bt:Hid (Bk V bu 3 #[I q]):=al.below Z al.lt
       have bq:Hid (Bk V bn 3 #[I Y]):=ak.below Z ak.lt
       have bj:Hid (Bk V bd 3 #[I X]):=aj.below Z aj.lt
       have cL:Hid (Zaa V B m3):=aL.below Z
       have fz:Hid (l.length≤1000000):=by have h1:=dn.out;have h2:=dF.out;show l.length≤_;omega
       obtain⟨n3,g6⟩:=ExY m3.orders.length
       have j8:=Hi g6
       have dp:Hid (n3≤32):=by rw[g6];exact aH.seen.lens.2.2.2.2.2
       rename World=>V6
       obtain⟨bG,bH,bI,aZ,bJ,a9,ba,bK,bb,bL,bM,bN,bO,bP,bQ,bR,bS,bT,cZ⟩:=bA.nine
       have G:=bt.one
       have E:=bq.one
       have C:=bj.one
       rw[←g6] at ba
       clear g6
       go_upto_region 35 with(fail)
       clear aK hj bG bH bI aZ bJ a9 ba bK bb bL bM bN bO bP bQ bR bS bT cZ G E C
       have eI:Hid (Bw V6 V6∧V6.ownsRow V6.heap.size 45 5 (.slice none ([]:List O.Lc).length 0) ([]:List O.Lc).length (O.lcs ([]:List O.Lc))∧([]:List O.Lc).length≤0∧∀o∈([]:List O.Lc),o∈m3.orders):=⟨Below.refl _ _,World.ownsRow_nil _ _ _ _,Nat.le_refl _,fun o ho=>nomatch ho⟩
       go_loopw [15,230] (fun kp fp wr=>∃(j:Nat) (lo:List O.Lc) (A2:Option Addr) (c2:Nat),j≤n3∧kp=.slice A2 lo.length c2∧fp=I (j:Int)∧Hid (Bw V6 wr∧wr.ownsRow V6.heap.size 45 5 (.slice A2 lo.length c2) lo.length (O.lcs lo)∧lo.length≤j∧∀o∈lo,o∈m3.orders)) (fun _ fp _=>n3-(intOf fp).toNat)
       case atStart=>exact⟨0,[],none,0,Nat.zero_le _,rfl,rfl,eI⟩
       case round=>
        obtain⟨j,lo,A2,c2,hj,rfl,rfl,cr⟩:=hrel
        rename World=>V
        have Z:Hid (Bw V6 V):=cr.1
        have ct:Hid (V.ownsRow V6.heap.size 45 5 (.slice A2 lo.length c2) lo.length (O.lcs lo)):=cr.2.1
        have dE:Hid (lo.length≤j):=cr.2.2.1
        have eY:Hid (∀o∈lo,o∈m3.orders):=cr.2.2.2
        clear cr
        by_cases aK:j<n3
        rotate_left
        ·have eU:Hid (V.ownsRow B 72 3 (.slice A l.length c) l.length (L.lcs l)):=Zai dK Z
         have eV:Hid (V.ownsRow B 45 5 (.slice A2 lo.length c2) lo.length (O.lcs lo)):=Zap ct (Nat.le_trans aB dD.size)
         have eB:Hid (ZaC B J w V):=dD.up aB Z
         have an:Hid (Bk V J 130 m3.ar):=bA.below Z bA.lt
         have df:Hid (Bk V bu 3 #[I q]):=bt.below Z bt.lt
         have de:Hid (Bk V bn 3 #[I Y]):=bq.below Z bq.lt
         have dd:Hid (Bk V bd 3 #[I X]):=bj.below Z bj.lt
         have eO:Hid (Zaa V B m3):=cL.below Z
         have iz:Hid (lo.length≤1000000):=by have h1:=dE.out;have h2:=dp.out;show lo.length≤_;omega
         clear dK
         have ao:=an.nine
         have G:=df.one
         have E:=de.one
         have C:=dd.one
         go_upto_region 41 with(fail)
         clear aK hj
         obtain⟨dr,am⟩:=ExY (V.setCell ⟨J,8,none⟩ (.slice A l.length c))
         rw[←am]
         have eC:=bhI eB am
         have aW:Hid (Bk dr J 130 #[I m3.day,.slice m3.sCur.A m3.curs.length m3.sCur.c,.slice m3.sUnd.A m3.unders.length m3.sUnd.c,.slice m3.sIns.A m3.instrs.length m3.sIns.c,.slice m3.sAcc.A m3.accts.length m3.sAcc.c,.slice m3.sPos.A m3.poss.length m3.sPos.c,.slice m3.sOrd.A m3.orders.length m3.sOrd.c,.slice m3.sAva.A m3.avail.length m3.sAva.c,.slice A l.length c]):=bkS an 8 am
         have fb:=bkF df am an rfl
         have e7:=bkF de am an rfl
         have e5:=bkF dd am an rfl
         have eP:Hid (Zaa dr B {m3 with locs:=l,sLoc:=⟨A,c⟩}):=by rw[am];exact(Zaa.far (Zaa.setLoc eO eU fz) an (by decide) 8 _)
         have eW:=boO eV am an rfl
         clear ao G E C
         clear am
         obtain⟨fe,az⟩:=ExY (dr.setCell ⟨J,6,none⟩ (.slice A2 lo.length c2))
         rw[←az]
         have eD:=bhI eC az
         have di:Hid (Bk fe J 130 (m3.ar_OL (.slice A2 lo.length c2) (.slice A l.length c))):=bkS aW 6 az
         have fc:=bkF fb az aW rfl
         have e8:=bkF e7 az aW rfl
         have e6:=bkF e5 az aW rfl
         have eQ:Hid (Zaa fe B {m3 with locs:=l,sLoc:=⟨A,c⟩,orders:=lo,sOrd:=⟨A2,c2⟩}):=by rw[az];exact(Zaa.far (Zaa.setOrd eP eW iz) aW (by decide) 6 _)
         clear az
         have ao:=di.nine
         have G:=fc.one
         have E:=e8.one
         have C:=e6.one
         go_wp2
         go_ret
         exact⟨eD.out,{m3 with locs:=l,sLoc:=⟨A,c⟩,orders:=lo,sOrd:=⟨A2,c2⟩},di.out,.inl ⟨_,rfl,eQ.out,aH.out.last,fun o ho=>aH.out.orders▸eY.out o ho⟩⟩
        have bY:=Hi aK
        have WK:Hid (wrap64 ((j:Int)+1)=(j:Int)+1):=ZaQ (by have h1:=dp.out;omega)
        have RE:=Hi (fun(W:World) (l2:List O.Lc) (A3:Option Addr) (c3:Nat) (h2:Hid (Bw V6 W∧W.ownsRow V6.heap.size 45 5 (.slice A3 l2.length c3) l2.length (O.lcs l2)∧l2.length≤(j+1)∧∀o∈l2,o∈m3.orders))=>ZeJ (F:=fun(l:List O.Lc) (A:Option Addr) (c:Nat)=>.slice A l.length c) (R:=fun j l A c=>Hid (Bw V6 W∧W.ownsRow V6.heap.size 45 5 (.slice A l.length c) l.length (O.lcs l)∧l.length≤j∧∀o∈l,o∈m3.orders)) l2 A3 c3 bY.out WK.out rfl h2)
        have cm:j<m3.orders.length:=by have:=j8.out;omega
        have a8:=Zai cL.orders Z.out
        obtain⟨gq,dj,p0,p1,p2,p3,p4⟩:=Zit a8 rfl cm
        have eJ:=Hi (List.getElem_mem cm)
        have co:=aH.seen.ord _ eJ.out
        obtain⟨⟨oa,oi,on,oq,op⟩,hp⟩:∃p,p=m3.orders[j]:=⟨_,rfl⟩
        rw[←hp] at p0 p1 p2 p3 p4 co eJ
        dsimp only at p0 p1 p2 p3 p4 co
        obtain⟨k,rfl⟩:∃k:Nat,on=(k:Int):=ZaW co.1
        have cH:Hid (k<m3.instrs.length):=Int.ofNat_lt.mp co.2.1
        have dm:=Hi dj
        have j0:(0:Int)≤(j:Int):=Int.natCast_nonneg j
        have j1:(j:Int)<(n3:Int):=Int.ofNat_lt.mpr aK
        have gU:Hid (Bk V J 130 m3.ar):=bA.below Z bA.lt
        have gM:Hid (Bk V bu 3 #[I q]):=bt.below Z bt.lt
        have gw:Hid (Bk V bn 3 #[I Y]):=bq.below Z bq.lt
        have gj:Hid (Bk V bd 3 #[I X]):=bj.below Z bj.lt
        have fJ:Hid (Zaa V B m3):=cL.below Z
        clear cm a8 hp dj aK co
        rw[dm.out]
        have dR:=ct
        obtain⟨bV,aG⟩:=ExY (V.alloc (.cells #[I oa,I oi,I k,I oq,I op] 45))
        obtain⟨b8,h6⟩:=ExY V.heap.size
        have bf:=blA Z aG
        have en:=bkA gU aG
        have gN:=bkA gM aG
        have gx:=bkA gw aG
        have gl:=bkA gj aG
        have fK:=boA fJ aG
        have cN:=boC dR aG
        clear dR
        have dX:=bkW aG h6
        go_upto_region 37 with(fail)
        rw[←aG,←h6]
        clear aG h6
        clear p0 p1 p2 p3 p4
        have aS:∃ov:Bool,Calls prog 89 #[Pt J,I k,I q] bV fun e w'=>e=.returned (.bool ov)∧w'=bV:=⟨_,ZdD m3 J k (q:Int) bV en fK.rd cH⟩
        obtain⟨ov,aS⟩:=aS
        have eM:=Hi aS
        clear aS
        have ao:=en.nine
        have G:=gN.one
        have E:=gx.one
        have C:=gl.one
        have ji:=dX.five
        go_wp2_with fail
        refine eM.mono ?_
        rintro e w' ⟨rfl,cq⟩
        rw[cq]
        clear cq w'
        dsimp only
        cases ov with
        |true=>
         go_wp2
         exact RE.out bV lo A2 c2 ⟨bf,cN,Nat.le_trans dE (Nat.le_succ j),eY⟩
        |false=>
        clear ao G E C ji
        obtain⟨y0,z0,y1,z1,y2,z2,y3,z3,y4,z4,ly⟩:=Bk.five dX.out
        have bX:∀u∈[Value.int .i64 oa,Value.int .i64 oi,Value.int .i64 (k:Int),Value.int .i64 oq,Value.int .i64 op],u.oneCell'=true:=by simp[Value.oneCell']
        have cp:Rd (bV.alloc (.cells #[I oa,I oi,I k,I oq,I op] 45)) (bV.heap.size+1) 5 (some ⟨bV.heap.size,0,none⟩) 1 [I oa,I oi,I k,I oq,I op]:=
         ⟨rfl,fun _=>⟨_,rfl,by simp,World.news_of_block (Bk.new bV 45 #[I oa,I oi,I k,I oq,I op])⟩⟩
        have dq:=Hi cp
        have dc:=Hi bX
        have db:Hid (lo.length≤32):=by have h1:=dE.out;have h3:=dp.out;show lo.length≤32;have h4:=bY.out;omega
        clear cp bX
        go_wp2_with (at_builtin;go_must (refine Zan _ rfl (.tmp 240) (.tmp 242) _ rfl V6.heap.size 45 kn _ 5 40 underlying25 HL.out jW.out jX.out jY.out rfl (by decide) _ lo.length (O.lcs lo) rfl (Zai cN.out ((Below.refl _ _).alloc (Nat.le_refl _) _)) _ _ 1 1 _ rfl dq.out dc.out (by unfold maxLen;have:=db.out;omega) (by have:=db.out;omega) (by have:=bf.size;simp;omega) ?_);intro A3 c5 w3 h1 h2 ac cl cj)
        have ez:Hid (Bw V6 w3):=(bf.alloc bf.size _).grown cl (by have:=bf.size;simp;omega) (fun b hb=>(cN.lt b hb).1)
        have cn:(lo++[(⟨oa,oi,(k:Int),oq,op⟩:O.Lc)]).length=lo.length+1:=by simp
        have eL:Hid (w3.ownsRow V6.heap.size 45 5 (.slice A3 (lo++[(⟨oa,oi,(k:Int),oq,op⟩:O.Lc)]).length c5) (lo++[(⟨oa,oi,(k:Int),oq,op⟩:O.Lc)]).length (O.lcs (lo++[(⟨oa,oi,(k:Int),oq,op⟩:O.Lc)]))):=by
         show World.ownsRow _ _ _ _ _ _ _
         rw[cn,O.lcs_append]
         exact ac
        have da:=Hi cn
        clear ac cl cj h1 h2 cn
        have dl:=RE.out w3 (lo++[(⟨oa,oi,(k:Int),oq,op⟩:O.Lc)]) A3 c5 ⟨ez.out,eL.out,by rw[da.out];exact Nat.succ_le_succ dE.out,fun o ho=>by
         rcases List.mem_append.1 ho with h|h
         ·exact eY.out o h
         ·rw[List.mem_singleton.1 h];exact eJ.out⟩
        rw[da.out] at dl
        go_wp2
        exact dl
      have bY:=Hi aK
      have WK:Hid (wrap64 ((j:Int)+1)=(j:Int)+1):=ZaQ (by have h1:=dF.out;omega)
      have RE:=Hi (fun(W:World) (l2:List L.Lc) (A2:Option Addr) (c2:Nat) (h2:Hid (Bw V5 W∧W.ownsRow V5.heap.size 72 3 (.slice A2 l2.length c2) l2.length (L.lcs l2)∧l2.length≤(j+1)))=>ZeJ (F:=fun(l:List L.Lc) (A:Option Addr) (c:Nat)=>.slice A l.length c) (R:=fun j l A c=>Hid (Bw V5 W∧W.ownsRow V5.heap.size 72 3 (.slice A l.length c) l.length (L.lcs l)∧l.length≤j)) l2 A2 c2 bY.out WK.out rfl h2)
      have cm:j<m3.locs.length:=by have:=j7.out;omega
      have a8:=Zai aL.locs Z.out
      obtain⟨gp,dj,p0,p1,p2⟩:=ZmQ a8 rfl cm
      have co:0≤(m3.locs[j]).instr∧(m3.locs[j]).instr<m.instrs.length:=by
       have h1:=aH.locs
       have h2:j<m.locs.length:=by rw[←h1];exact cm
       have h3:=Zk5 ip.out j h2
       simpa only[h1] using h3
      obtain⟨⟨la,li,lq⟩,hp⟩:∃p,p=m3.locs[j]:=⟨_,rfl⟩
      rw[←hp] at p0 p1 p2 co
      dsimp only at p0 p1 p2 co
      obtain⟨k,rfl⟩:∃k:Nat,li=(k:Int):=ZaW co.1
      have cH:Hid (k<m3.instrs.length):=by have h1:=aH.ilen;have h2:=Int.ofNat_lt.mp co.2;show k<_;omega
      have dm:=Hi dj
      have j0:(0:Int)≤(j:Int):=Int.natCast_nonneg j
      have j1:(j:Int)<(n2:Int):=Int.ofNat_lt.mpr aK
      have gT:Hid (Bk V J 130 m3.ar):=ae.below Z ae.lt
      have fH:Hid (Zaa V B m3):=aL.below Z
      have gK:Hid (Bk V bu 3 #[I q]):=al.below Z al.lt
      have gu:Hid (Bk V bn 3 #[I Y]):=ak.below Z ak.lt
      have gh:Hid (Bk V bd 3 #[I X]):=aj.below Z aj.lt
      clear cm a8 hp dj aK co
      rw[dm.out]
      have dP:=ct
      obtain⟨bD,aF⟩:=ExY (V.alloc (.cells #[I la,I k,I lq] 72))
      obtain⟨b6,fg⟩:=ExY V.heap.size
      have ka:Hid (∀p,A=some p→p.block≠b6):=fun p hp=>by rw[fg];exact Nat.ne_of_lt (ZaP ct p hp).2
      have hP:Hid (V5.heap.size≤b6):=by rw[fg];exact Z.size
      have dB:Hid (Bw V5 bD):=blA Z aF
      have cX:=bkA gT aF
      have eh:=bkA gK aF
      have ed:=bkA gu aF
      have d6:=bkA gh aF
      have fI:=boA fH aF
      have dQ:=boC dP aF
      clear dP
      have cP:=bkW aF fg
      go_upto_region 28 with(fail)
      rw[←aF,←fg]
      clear aF fg
      clear p0 p1 p2
      have aS:∃ov:Bool,Calls prog 89 #[Pt J,I k,I q] bD fun e w'=>e=.returned (.bool ov)∧w'=bD:=⟨_,ZdD m3 J k (q:Int) bD cX fI.rd cH⟩
      obtain⟨ov,aS⟩:=aS
      have eM:=Hi aS
      clear aS
      have ao:=cX.nine
      have G:=eh.one
      have E:=ed.one
      have C:=d6.one
      have ep:=cP.three
      go_wp2_with fail
      refine eM.mono ?_
      rintro e w' ⟨rfl,cq⟩
      rw[cq]
      clear cq w'
      dsimp only
      cases ov with
      |false=>
       clear ao G E C ep
       have ce:=dB
       have cQ:=cP
       have aM:=dQ
       obtain⟨y0,z0,y1,z1,y2,z2,ly⟩:=Bk.three cQ.out
       by_cases d:0<lq
       rotate_left
       ·go_wp2
        exact RE.out @bD l A c ⟨ce,aM,Nat.le_trans dn (Nat.le_succ j)⟩
       have bX:∀u∈[Value.int .i64 la,Value.int .i64 (k:Int),Value.int .i64 lq],u.oneCell'=true:=by simp[Value.oneCell']
       have cp:Rd (bD.alloc (.cells #[I la,I k,I lq] 72)) (bD.heap.size+1) 3 (some ⟨bD.heap.size,0,none⟩) 1 [I la,I k,I lq]:=
        ⟨rfl,fun _=>⟨_,rfl,by simp,World.news_of_block (Bk.new bD 72 #[I la,I k,I lq])⟩⟩
       have dq:=Hi cp
       have dc:=Hi bX
       have db:Hid (l.length≤32):=by have h1:=dn.out;have h3:=dF.out;show l.length≤32;have h4:=bY.out;omega
       clear cp bX
       go_wp2_with (at_builtin;go_must (refine Zan _ rfl (.tmp 219) (.tmp 221) _ rfl V5.heap.size 72 jI _ 3 24 underlying35 HJ.out iu.out iv.out iw.out rfl (by decide) _ l.length (L.lcs l) rfl (Zai aM.out ((Below.refl _ _).alloc (Nat.le_refl _) _)) _ _ 1 1 _ rfl dq.out dc.out (by unfold maxLen;have:=db.out;omega) (by have:=db.out;omega) (by have:=ce.size;simp;omega) ?_);intro A2 c5 w3 h1 h2 ac cl cj)
       have ez:Hid (Bw V5 w3):=(ce.alloc ce.size _).grown cl (by have:=ce.size;simp;omega) (fun b hb=>(aM.lt b hb).1)
       have cn:(l++[(⟨la,(k:Int),lq⟩:L.Lc)]).length=l.length+1:=by simp
       have eL:Hid (w3.ownsRow V5.heap.size 72 3 (.slice A2 (l++[(⟨la,(k:Int),lq⟩:L.Lc)]).length c5) (l++[(⟨la,(k:Int),lq⟩:L.Lc)]).length (L.lcs (l++[(⟨la,(k:Int),lq⟩:L.Lc)]))):=by
        show World.ownsRow _ _ _ _ _ _ _
        rw[cn,L.lcs_append]
        exact ac
       have da:=Hi cn
       clear ac cl cj h1 h2 cn
       have dl:=RE.out w3 (l++[(⟨la,(k:Int),lq⟩:L.Lc)]) A2 c5 ⟨ez.out,eL.out,by rw[da.out];exact Nat.succ_le_succ dn.out⟩
       rw[da.out] at dl
       go_wp2
       exact dl
      |true=>
      go_wp2_with fail
      refine(Zf2 lq Y X _).mono ?_
      rintro e jh ⟨he,hb⟩
      have dC:=blT dB hb
      have em:=bkN cX hb
      have gL:=bkN eh hb
      have gv:=bkN ed hb
      have gi:=bkN d6 hb
      have dW:=bkN cP hb
      have f6:=boB dQ hb
      clear ao G E C ep
      clear hb
      have ao:=em.nine
      have G:=gL.one
      have E:=gv.one
      have C:=gi.one
      have ep:=dW.three
      rcases he with⟨nq,rfl⟩|⟨er,ck,he⟩
      rotate_left
      ·unfold Pan at he
       subst he
       dsimp only
       go_wp2
       exact⟨rfl,a0.up aB dC,m3,em,.inr ⟨er,ck,rfl,trivial⟩⟩
      dsimp only
      go_upto_region 30 with(fail)
      obtain⟨W,hW⟩:=ExY (jh.setCell ⟨b6,2,none⟩ (I nq))
      rw[←hW]
      have J6:Hid (Bk W b6 72 #[I la,I k,I nq]):=bkS dW 2 hW
      have JB:Hid (Bw V5 W):=by rw[hW];exact dC.setCell (p:=Aq b6 2) hP _
      have JR:Hid (W.ownsRow V5.heap.size 72 3 (.slice A l.length c) l.length (L.lcs l)):=by rw[hW];exact ZbV f6 ka
      clear hW ao G E C ep
      have ce:=JB
      have cQ:=J6
      have aM:=JR
      obtain⟨y0,z0,y1,z1,y2,z2,ly⟩:=Bk.three cQ.out
      by_cases d:0<nq
      rotate_left
      ·go_wp2
       exact RE.out @W l A c ⟨ce,aM,Nat.le_trans dn (Nat.le_succ j)⟩
      have bX:∀u∈[Value.int .i64 la,Value.int .i64 (k:Int),Value.int .i64 nq],u.oneCell'=true:=by simp[Value.oneCell']
      have cp:Rd (W.alloc (.cells #[I la,I k,I nq] 72)) (W.heap.size+1) 3 (some ⟨W.heap.size,0,none⟩) 1 [I la,I k,I nq]:=
       ⟨rfl,fun _=>⟨_,rfl,by simp,World.news_of_block (Bk.new W 72 #[I la,I k,I nq])⟩⟩
      have dq:=Hi cp
      have dc:=Hi bX
      have db:Hid (l.length≤32):=by have h1:=dn.out;have h3:=dF.out;show l.length≤32;have h4:=bY.out;omega
      clear cp bX
      go_wp2_with (at_builtin;go_must (refine Zan _ rfl (.tmp 219) (.tmp 221) _ rfl V5.heap.size 72 jI _ 3 24 underlying35 HJ.out iu.out iv.out iw.out rfl (by decide) _ l.length (L.lcs l) rfl (Zai aM.out ((Below.refl _ _).alloc (Nat.le_refl _) _)) _ _ 1 1 _ rfl dq.out dc.out (by unfold maxLen;have:=db.out;omega) (by have:=db.out;omega) (by have:=ce.size;simp;omega) ?_);intro A2 c5 w3 h1 h2 ac cl cj)
      have ez:Hid (Bw V5 w3):=(ce.alloc ce.size _).grown cl (by have:=ce.size;simp;omega) (fun b hb=>(aM.lt b hb).1)
      have cn:(l++[(⟨la,(k:Int),nq⟩:L.Lc)]).length=l.length+1:=by simp
      have eL:Hid (w3.ownsRow V5.heap.size 72 3 (.slice A2 (l++[(⟨la,(k:Int),nq⟩:L.Lc)]).length c5) (l++[(⟨la,(k:Int),nq⟩:L.Lc)]).length (L.lcs (l++[(⟨la,(k:Int),nq⟩:L.Lc)]))):=by
       show World.ownsRow _ _ _ _ _ _ _
       rw[cn,L.lcs_append]
       exact ac
      have da:=Hi cn
      clear ac cl cj h1 h2 cn
      have dl:=RE.out w3 (l++[(⟨la,(k:Int),nq⟩:L.Lc)]) A2 c5 ⟨ez.out,eL.out,by rw[da.out];exact Nat.succ_le_succ dn.out⟩
      rw[da.out] at dl
      go_wp2
      exact dl
    have bY:=Hi aK
    have WK:Hid (wrap64 ((j:Int)+1)=(j:Int)+1):=ZaQ (by have h1:=j6.out;omega)
    have RE:=Hi (fun(W:World) (m3:Zab) (h2:Hid (ZaC B J w W∧Bk W J 130 m3.ar∧ZcC m m3∧m3.poss.length=n1∧Zaa W B m3∧Bk W bu 3 #[I q]∧Bk W bn 3 #[I Y]∧Bk W bd 3 #[I X]∧W.ownsRow B 66 7 (.slice A7 n0 c7) n0 (m.instrs.flatMap ZaD.cs)∧∃l:List P.Lc,l.length=n1∧(∀p∈l,0≤p.instr∧p.instr<n0∧0≤p.acct∧p.acct<m.accts.length)∧W.ownsRow B 50 3 (.slice A1 n1 c1) n1 (P.lcs l)))=>Zcn (R:=fun _ _=>Hid True) (S:=fun _ m3=>Hid (ZaC B J w W∧Bk W J 130 m3.ar∧ZcC m m3∧m3.poss.length=n1∧Zaa W B m3∧Bk W bu 3 #[I q]∧Bk W bn 3 #[I Y]∧Bk W bd 3 #[I X]∧W.ownsRow B 66 7 (.slice A7 n0 c7) n0 (m.instrs.flatMap ZaD.cs)∧∃l:List P.Lc,l.length=n1∧(∀p∈l,0≤p.instr∧p.instr<n0∧0≤p.acct∧p.acct<m.accts.length)∧W.ownsRow B 50 3 (.slice A1 n1 c1) n1 (P.lcs l))) m3 bY.out WK.out trivial h2)
    obtain⟨l,g0,h9,a8⟩:=hM.out
    have cm:j<l.length:=by rw[g0];exact aK
    obtain⟨g1,dj,p0,p1,p2⟩:=Zhn a8 g0 cm
    obtain⟨⟨pa,pi,pq⟩,hp⟩:∃p,p=l[j]:=⟨_,rfl⟩
    have dt:=h9 _ (List.getElem_mem cm)
    rw[←hp] at p0 p1 p2 dt
    dsimp only at p0 p1 p2 dt
    obtain⟨k,rfl⟩:∃k:Nat,pi=(k:Int):=ZaW dt.1
    have eq:Hid (k<n0):=Int.ofNat_lt.mp dt.2.1
    have kd:Hid (0≤pa∧pa<m.accts.length):=⟨dt.2.2.1,dt.2.2.2⟩
    have cG:Hid (k<m2.instrs.length):=by have h1:=ab.ilen;have h2:=bc.out;have h3:=eq.out;show k<_;omega
    have dm:=Hi dj
    have fz:=Hi g0
    have iH:=Hi h9
    have f1:=Hi a8
    have j0:(0:Int)≤(j:Int):=Int.natCast_nonneg j
    have j1:(j:Int)<(n1:Int):=Int.ofNat_lt.mpr aK
    have jT:Hid (∀p,A1=some p→p.block<V.heap.size):=fun p hp=>(ZaP a8 p hp).2
    clear cm a8 hp dj aK dt g0 h9
    rw[dm.out]
    obtain⟨ah,ap⟩:=ExY (V.alloc (.cells #[I pa,I k,I pq] 50))
    obtain⟨bp,fh⟩:=ExY V.heap.size
    have hS:Hid (B≤bp):=by rw[fh];exact Nat.le_trans aB be.size
    have a0:=bhA be aB ap
    have ae:=bkA a4 ap
    have al:=bkA bs ap
    have ak:=bkA bo ap
    have aj:=bkA bi ap
    have aL:=boA dH ap
    have b7:=boC fX ap
    have dN:=boC f1 ap
    have ee:=bkW ap fh
    have ke:Hid (∀p,A1=some p→p.block≠bp):=fun p hp=>by rw[fh];exact Nat.ne_of_lt (jT.out p hp)
    go_upto_region 19 with(fail)
    rw[←ap,←fh]
    clear ap fh
    clear p0 p1 p2
    have aS:∃ov:Bool,Calls prog 89 #[Pt J,I k,I q] ah fun e w'=>e=.returned (.bool ov)∧w'=ah:=⟨_,ZdD m2 J k (q:Int) ah ae aL.rd cG⟩
    obtain⟨ov,aS⟩:=aS
    have ct:=Hi aS
    clear aS
    have ao:=ae.nine
    have G:=al.one
    have E:=ak.one
    have C:=aj.one
    have jj:=ee.three
    go_wp2_with fail
    refine ct.mono ?_
    rintro e w' ⟨rfl,cq⟩
    rw[cq]
    clear cq w'
    dsimp only
    cases ov with
    |false=>
     go_wp2
     rw[←dm.out]
     exact RE.out ah m2 ⟨a0,ae,ab,eT,aL,al,ak,aj,b7,l,fz,iH,dN⟩
    |true=>
    obtain⟨⟨o1,o2,o3,o4,o5,o6,o7⟩,hi⟩:∃x,x=m.instrs[k]'(bc.out▸eq.out):=⟨_,rfl⟩
    obtain⟨g7,hX,c0,es,c2,c3,c4,c5,c6⟩:=ZjU b7.out bc.out.symm (q:=k) (bc.out▸eq.out)
    rw[←hi] at c0 es c2 c3 c4 c5 c6
    have lg:g7<ah.heap.size:=(ZaP b7 (Aq g7 0) hX).2
    have ew:=Hi hX
    have jU:=Hi hi
    have cf:Hid (∀U,Bw ah U→U.cell? (Aq g7 (k*7))=some (I o1)∧U.cell? (Aq g7 (k*7+1))=some (I o2)∧U.cell? (Aq g7 (k*7+2))=some (I o3)∧U.cell? (Aq g7 (k*7+3))=some (I o4)∧U.cell? (Aq g7 (k*7+4))=some (I o5)∧U.cell? (Aq g7 (k*7+5))=some (.bool o6)∧U.cell? (Aq g7 (k*7+6))=some (I o7)):=fun U hU=>
     ⟨(hU.cell (p:=Aq g7 (k*7)) lg).trans c0,(hU.cell (p:=Aq g7 (k*7+1)) lg).trans es,(hU.cell (p:=Aq g7 (k*7+2)) lg).trans c2,(hU.cell (p:=Aq g7 (k*7+3)) lg).trans c3,(hU.cell (p:=Aq g7 (k*7+4)) lg).trans c4,(hU.cell (p:=Aq g7 (k*7+5)) lg).trans c5,(hU.cell (p:=Aq g7 (k*7+6)) lg).trans c6⟩
    have k0:(0:Int)≤(k:Int):=Int.natCast_nonneg k
    have k1:(k:Int)<(n0:Int):=Int.ofNat_lt.mpr eq
    clear hi c0 es c2 c3 c4 c5 c6 lg hX
    rw[ew.out]
    go_upto_region 20 with(fail)
    have f9:Hid (Bw ah ah):=Below.refl _ _
    clear ao G E C jj
    obtain⟨eo,ag⟩:=ExY ah.drew
    have ga:=blD f9 ag
    have cF:=bhD a0 ag
    have aO:=bkD ae ag
    have cV:=bkD al ag
    have cb:=bkD ak ag
    have b9:=bkD aj ag
    have aN:=bkD ee ag
    have fF:=boD aL ag
    have fY:Hid (eo.ownsRow B 66 7 (.slice A7 n0 c7) n0 (m.instrs.flatMap ZaD.cs)):=by rw[ag];exact b7
    have dO:Hid (eo.ownsRow B 50 3 (.slice A1 n1 c1) n1 (P.lcs l)):=by rw[ag];exact dN
    refine rgM (fun U=>U.cell? (Aq bp 0)=some (I pa)∧U.cell? (Aq bp 1)=some (I k)∧U.cell? (Aq bp 2)=some (I pq)∧U.cell? (Aq bn 0)=some (I Y)∧U.cell? (Aq bd 0)=some (I X)∧U.cell? (Aq g7 (k*7))=some (I o1)∧U.cell? (Aq g7 (k*7+1))=some (I o2)∧U.cell? (Aq g7 (k*7+2))=some (I o3)∧U.cell? (Aq g7 (k*7+3))=some (I o4)∧U.cell? (Aq g7 (k*7+4))=some (I o5)∧U.cell? (Aq g7 (k*7+5))=some (.bool o6)∧U.cell? (Aq g7 (k*7+6))=some (I o7)) 10 (by kernel_rfl) ag ?_
    clear ag
    refine tkM [0,1,2,3,4,5,6,7,8] (⟨aN.cell 0,aN.cell 1,aN.cell 2,cb.cell 0,b9.cell 0,cf.out _ ga⟩) (by kernel_rfl) (fun _ _ _ _ h=>h) ?_
    iterate 9 (refine ycM rfl (by rfl) (fun w h=>by go_simp<;>rfl) ?_;try simp only[Act.put,sA,sB,sC])
    refine onM 9 (by kernel_rfl) rfl fun K hK=>?_
    go_simp
    refine(Zkr m2 pa pq k o1 o2 o3 o4 o5 o6 o7 Y X J B _ aO fF ab.seen cG).mono ?_
    rintro e af ⟨hh,m3,et,he⟩
    have dA:Hid (ZaC B J w af):=cF.trans (hh.weak (Nat.le_trans aB cF.size))
    have gH:Hid (Bk af bu 3 #[I q]):=cV.hole hh cV.lt ((cV.ne aO (by decide)))
    have ec:Hid (Bk af bn 3 #[I Y]):=cb.hole hh cb.lt ((cb.ne aO (by decide)))
    have d5:Hid (Bk af bd 3 #[I X]):=b9.hole hh b9.lt ((b9.ne aO (by decide)))
    have ad:Hid (Bk af bp 50 #[I pa,I k,I pq]):=aN.hole hh aN.lt ((aN.ne aO (by decide)))
    have dL:Hid (af.ownsRow B 66 7 (.slice A7 n0 c7) n0 (m.instrs.flatMap ZaD.cs)):=Zer fY aO (by decide) hh
    have f2:Hid (af.ownsRow B 50 3 (.slice A1 n1 c1) n1 (P.lcs l)):=Zer dO aO (by decide) hh
    have iq:Hid (∀p,A1=some p→p.block<eo.heap.size):=fun p hp=>(ZaP dO p hp).2
    obtain⟨B4,gW⟩:=ExY eo.heap.size
    have km:Hid (B≤B4):=by rw[gW];exact Nat.le_trans aB cF.size
    have kc:Hid (bp<B4):=by rw[gW];exact aN.lt
    rw[←gW] at he iq
    rcases he with⟨nq,rfl,jE,ho⟩|⟨er,ck,he⟩
    rotate_left
    ·unfold Pan at he
     subst he
     dsimp only
     go_wp2
     exact⟨rfl,dA,m3,et,.inr ⟨er,ck,rfl,trivial⟩⟩
    have gQ:Hid (Bk af J 130 m3.ar):=et
    have hN:=Hi jE
    have fL:Hid (Zaa af B4 m3):=ho
    clear hh et jE ho gW
    dsimp only
    have hL:Hid (af.cell? (Aq g7 (k*7))=some (I o1)∧af.cell? (Aq g7 (k*7+1))=some (I o2)∧af.cell? (Aq g7 (k*7+2))=some (I o3)∧af.cell? (Aq g7 (k*7+3))=some (I o4)∧af.cell? (Aq g7 (k*7+4))=some (I o5)∧af.cell? (Aq g7 (k*7+5))=some (.bool o6)∧af.cell? (Aq g7 (k*7+6))=some (I o7)):=by
     obtain⟨ks,hG,c0,es,c2,c3,c4,c5,c6⟩:=ZjU dL.out bc.out.symm (q:=k) (bc.out▸eq.out)
     rw[ew.out] at hG
     cases hG
     rw[←jU.out] at c0 es c2 c3 c4 c5 c6
     exact⟨c0,es,c2,c3,c4,c5,c6⟩
    refine hK.out _ _ (fun _=>⟨ad.cell 0,ad.cell 1,ad.cell 2,ec.cell 0,d5.cell 0,hL⟩) ?_
    try simp only[Act.put,sA,sB,sC]
    refine onM 10 (by kernel_rfl) rfl fun K hK=>?_
    refine Zaq rfl 50 _ _ rfl bp #[I pa,I k,I nq] rfl rfl 50 #[I pa,I k,I pq] ad ZmM (by rfl) (by simp[Value.oneCell']) ?_
    obtain⟨ci,aq⟩:=ExY (af.setRow bp #[I pa,I k,I nq])
    rw[←aq]
    have fu:Hid (ZaC B J w ci):=by rw[aq];exact dA.row_up hS
    have gR:=bkR gQ aq ad rfl
    have gI:=bkR gH aq ad rfl
    have gs:=bkR ec aq ad rfl
    have gf:=bkR d5 aq ad rfl
    have gy:Hid (Bk ci bp 50 #[I pa,I k,I nq]):=by rw[aq];exact ad.row _
    have dJ:Hid (Zaa ci B4 m3):=by rw[aq];exact Zaa.lowRow fL kc _
    have fZ:Hid (ci.ownsRow B 66 7 (.slice A7 n0 c7) n0 (m.instrs.flatMap ZaD.cs)):=by rw[aq];exact Zbc dL ad (by decide) _
    have f3:Hid (ci.ownsRow B 50 3 (.slice A1 n1 c1) n1 (P.lcs l)):=by rw[aq];exact Zj8 f2 ke _
    clear aq
    refine hK.out _ _ (fun h0=>Zac (by kernel_rfl) h0) ?_
    refine Zak (by kernel_rfl) ?_ _
    have jS:Hid (∀p,m3.sPos.A=some p→B4≤p.block):=fun p hp=>(ZaP dJ.poss p hp).1
    have dI:Hid (Zaa ci B m3):=(dJ.out).mono km
    have aH:Hid (ZcC m m3):=ab.same hN
    have fy:Hid (j<m3.poss.length):=by have h1:=eT.out;have h2:=bY.out;show j<_;rw[hN.poss,h1];exact h2
    obtain⟨g5,jo,-,-,-⟩:=Zbb dI.poss (Nat.lt_of_le_of_lt (Nat.zero_le _) fy.out)
    have cx:=Hi jo
    have j3:(j:Int)<(m3.poss.length:Int):=Int.ofNat_lt.mpr fy
    clear jo
    go_upto_region 21 with(fail)
    obtain⟨cA,au⟩:=ExY ci.drew
    have fv:=bhD fu au
    have bz:=bkD gR au
    have cd:=bkD gI au
    have cc:=bkD gs au
    have ca:=bkD gf au
    have cU:=bkD gy au
    have b0:=boD dI au
    have dM:Hid (cA.ownsRow B 66 7 (.slice A7 n0 c7) n0 (m.instrs.flatMap ZaD.cs)):=by rw[au];exact fZ
    have f4:Hid (cA.ownsRow B 50 3 (.slice A1 n1 c1) n1 (P.lcs l)):=by rw[au];exact f3
    refine rgM (fun U=>U.cell? (Aq J 5)=some (.slice (some (Aq g5 0)) m3.poss.length m3.sPos.c)∧U.cell? (Aq bp 0)=some (I pa)∧U.cell? (Aq bp 1)=some (I k)∧U.cell? (Aq bp 2)=some (I nq)) 8 (by kernel_rfl) au ?_
    clear au
    refine tkM [0,1,2,3,4,5,6,7] (⟨cx.out▸bz.out.cell 5,cU.out.cell 0,cU.out.cell 1,cU.out.cell 2⟩) (by kernel_rfl) (fun _ _ _ _ h=>h) ?_
    iterate 8 (refine ycM rfl (by rfl) (fun w h=>by go_simp<;>rfl) ?_;try simp only[Act.put,sA,sB,sC])
    refine onM 8 (by kernel_rfl) rfl fun K hK=>?_
    have jF:=Zkd (cx.out▸b0.out.poss) fy.out (P.lcs_len _)
    refine ZfS rfl 50 _ _ rfl g5 (j*3) #[I pa,I k,I nq] rfl rfl jF ZmM (by simp[Value.oneCell']) ?_
    clear jF
    have jm:cA.setCells g5 (j*3) (#[I pa,I k,I nq]:Array Value).toList=(((cA.setCell (Aq g5 (j*3)) (I pa)).setCell (Aq g5 (j*3+1)) (I k)).setCell (Aq g5 (j*3+2)) (I nq)):=rfl
    rw[jm]
    clear jm
    obtain⟨m4,bF⟩:∃m4:Zab,m4={m3 with poss:=m3.poss.set j ⟨pa,(k:Int),nq⟩}:=⟨_,rfl⟩
    have eX:Hid (ZcC m m4):=by show ZcC _ _;rw[bF];exact aH.pos _ (by have h1:=aH.ilen;have h2:=aH.acc;have h3:=bc.out;have h4:=eq.out;have h5:=kd.out;dsimp only;omega)
    have eG:Hid (m4.cs=m3.cs):=by show _=_;rw[bF];unfold Zab.cs;dsimp only;rw[List.length_set]
    have iF:Hid (m4.poss.length=n1):=by show _=_;rw[bF];dsimp only;rw[List.length_set,hN.poss];exact eT
    have du:∀p,A1=some p→p.block≠g5:=fun p hp=>by have h1:=iq.out p hp;have h2:=jS.out _ cx.out;dsimp only at h2;omega
    obtain⟨gV,_,ic,fk⟩:=ZaK b0.poss cx.out
    have ds:∀p,A7=some p→p.block≠g5:=fun p hp=>by
     obtain⟨kr,_,_,hy⟩:=ZaK dM.out hp
     exact hy.ne (fk:Bk _ g5 50 gV) (by decide)
    clear fk ic
    obtain⟨bE,_,aa,aA⟩:=ZaK b0.poss cx.out
    obtain⟨a7,aE⟩:=ExY (((cA.setCell ⟨g5,j*3,none⟩ (I pa)).setCell ⟨g5,j*3+1,none⟩ (I k)).setCell ⟨g5,j*3+2,none⟩ (I nq))
    rw[←aE]
    have s:Bk cA g5 50 bE:=aA
    have fw:Hid (ZaC B J w a7):=by rw[aE];exact(((fv.set_up aa).set_up aa).set_up aa)
    have gS:Hid (Bk a7 J 130 m3.ar):=by rw[aE];exact(((bz.far (p:=Aq g5 (j*3)) (bz.ne s (by decide)) _).far (p:=Aq g5 (j*3+1)) (bz.ne s (by decide)) _).far (p:=Aq g5 (j*3+2)) (bz.ne s (by decide)) _)
    have gJ:Hid (Bk a7 bu 3 #[I q]):=by rw[aE];exact(((cd.far (p:=Aq g5 (j*3)) (cd.ne s (by decide)) _).far (p:=Aq g5 (j*3+1)) (cd.ne s (by decide)) _).far (p:=Aq g5 (j*3+2)) (cd.ne s (by decide)) _)
    have gt:Hid (Bk a7 bn 3 #[I Y]):=by rw[aE];exact(((cc.far (p:=Aq g5 (j*3)) (cc.ne s (by decide)) _).far (p:=Aq g5 (j*3+1)) (cc.ne s (by decide)) _).far (p:=Aq g5 (j*3+2)) (cc.ne s (by decide)) _)
    have gg:Hid (Bk a7 bd 3 #[I X]):=by rw[aE];exact(((ca.far (p:=Aq g5 (j*3)) (ca.ne s (by decide)) _).far (p:=Aq g5 (j*3+1)) (ca.ne s (by decide)) _).far (p:=Aq g5 (j*3+2)) (ca.ne s (by decide)) _)
    have fG:Hid (Zaa a7 B m4):=by rw[aE];exact(by rw[bF];exact Zaa.setPos3 b0 cx fy pa (k:Int) nq)
    have f0:Hid (a7.ownsRow B 66 7 (.slice A7 n0 c7) n0 (m.instrs.flatMap ZaD.cs)):=by rw[aE];exact ZbV (ZbV (ZbV dM ds) ds) ds
    have f5:Hid (a7.ownsRow B 50 3 (.slice A1 n1 c1) n1 (P.lcs l)):=by rw[aE];exact ZbV (ZbV (ZbV f4 du) du) du
    clear aA s aa bE
    clear aE
    clear bF
    refine hK.out _ _ (fun h0=>Zac (by kernel_rfl) h0) ?_
    refine Zak (by kernel_rfl) ?_ _
    go_wp2
    have kh:Hid (Bk a7 J 130 (Zab.cs m4).toArray):=by show Bk _ _ _ _;rw[eG.out];exact gS
    rw[←dm.out,←ew.out]
    obtain⟨⟨j9,m9,h1,h2,_,h4⟩,h5⟩:=RE.out a7 m4 ⟨fw.out,kh.out,eX.out,iF.out,fG.out,gJ.out,gt.out,gg.out,f0.out,l,fz.out,iH.out,f5.out⟩
    exact⟨⟨_,_,_,⟨j9,h1,h2,m9,h4⟩,rfl,rfl,rfl,rfl,rfl⟩,h5⟩
  have bY:=Hi aK
  have WK:Hid (wrap64 ((j:Int)+1)=(j:Int)+1):=ZaQ (by have h1:=eK.out;omega)
  have RE:=Hi (fun(W:World) (m3:Zab) (h2:Hid (ZaC B J w W∧Bk W J 130 m3.ar∧ZcC m m3∧m3.sIns=m.sIns∧Zaa W B m3∧Bk W bu 3 #[I q]∧Bk W bn 3 #[I Y]∧Bk W bd 3 #[I X]∧W.ownsRow B 66 7 (.slice A7 n0 c7) n0 (m.instrs.flatMap ZaD.cs)))=>Zcn (R:=fun _ _=>Hid True) (S:=fun _ m3=>Hid (ZaC B J w W∧Bk W J 130 m3.ar∧ZcC m m3∧m3.sIns=m.sIns∧Zaa W B m3∧Bk W bu 3 #[I q]∧Bk W bn 3 #[I Y]∧Bk W bd 3 #[I X]∧W.ownsRow B 66 7 (.slice A7 n0 c7) n0 (m.instrs.flatMap ZaD.cs))) m3 bY.out WK.out trivial h2)
  have fi:j<m2.instrs.length:=by rw[ab.ilen,←bc.out];exact aK
  have cG:=Hi fi
  have j5:=Hi (ZbR ax.short.2.1)
  obtain⟨g2,hY,-,-,-⟩:=Zbb ax.instrs (Nat.lt_of_le_of_lt (Nat.zero_le _) fi)
  have cw:=Hi hY
  have ih:Hid (m.sIns.A=some (Aq g2 0)):=by show _=_;rw[←hO.out];exact hY
  have j0:(0:Int)≤(j:Int):=Int.natCast_nonneg j
  have j1:(j:Int)<(m2.instrs.length:Int):=Int.ofNat_lt.mpr fi
  have aS:∃ov:Bool,Calls prog 89 #[Pt J,I j,I q] V fun e w'=>e=.returned (.bool ov)∧w'=V:=⟨_,ZdD m2 J j (q:Int) V a2 ax.rd fi⟩
  obtain⟨ov,aS⟩:=aS
  have ct:=Hi aS
  clear aS fi hY aK
  obtain⟨bG,bH,bI,aZ,bJ,a9,ba,bK,bb,bL,bM,bN,bO,bP,bQ,bR,bS,bT,cZ⟩:=a2.nine
  have G:=br.one
  have E:=bl.one
  have C:=bh.one
  go_wp2_with fail
  refine ct.mono ?_
  rintro e w' ⟨rfl,cq⟩
  rw[cq]
  clear cq w'
  dsimp only
  cases ov with
  |false=>
   go_wp2
   exact RE.out V m2 ⟨cC,a2,ab,hO,ax,br,bl,bh,cM⟩
  |true=>
  rw[cw.out] at aZ
  go_upto_region 12 with(fail)
  obtain⟨-,-,-,c3,-,-,c6,-,lg,-,-⟩:=ZdI ax.out cw.out cG.out
  obtain⟨sk,jk⟩:∃x:Int,V.cell? ⟨g2,j*7+3,none⟩=some (I x):=⟨_,c3⟩
  obtain⟨mk,jl⟩:∃x:Int,V.cell? ⟨g2,j*7+6,none⟩=some (I x):=⟨_,c6⟩
  have aT:Hid (∀U,Bw V U→U.cell? (Aq g2 (j*7+3))=some (I sk)∧U.cell? (Aq g2 (j*7+6))=some (I mk)):=fun U hU=>⟨(hU.cell (p:=Aq g2 (j*7+3)) lg).trans jk,(hU.cell (p:=Aq g2 (j*7+6)) lg).trans jl⟩
  clear c3 jk c6 jl lg
  have f8:Hid (Bw V V):=Below.refl _ _
  clear bG bH bI aZ bJ a9 ba bK bb bL bM bN bO bP bQ bR bS bT cZ G E C
  obtain⟨jf,aC⟩:=ExY V.drew
  have ai:=blD f8 aC
  have fq:=bhD cC aC
  have gO:=bkD a2 aC
  have gz:=bkD br aC
  have d7:=bkD bl aC
  have dY:=bkD bh aC
  have fA:=boD ax aC
  have fN:Hid (jf.ownsRow B 66 7 (.slice A7 n0 c7) n0 (m.instrs.flatMap ZaD.cs)):=by rw[aC];exact cM
  refine rgM (fun U=>U.cell? (Aq g2 (j*7+3))=some (I sk)∧U.cell? (Aq g2 (j*7+6))=some (I mk)) 16 (by kernel_rfl) aC ?_
  clear aC
  refine tkM [0] (aT.out _ ai) (by kernel_rfl) (fun _ _ _ _ h=>h) ?_
  (refine ycM rfl (by rfl) (fun w h=>by go_simp<;>rfl) ?_;try simp only[Act.put,sA,sB,sC])
  refine Zjw (i:=1) (v:=?_) rfl (by kernel_rfl) (by kernel_rfl) (by kernel_rfl) (by decide) (fun _ _ _ h=>h) (Or.inl ⟨by rfl,?_⟩) (fun _=>aT.out _ ai) ?_
  rotate_left
  ·intro w gX
   first|(go_simp<;>fail)|(go_simp;with_reducible rfl)
  try simp only[Act.put,sA,sB,sC]
  refine tkM [2,3,4,5,6] (aT.out _ ai) (by kernel_rfl) (fun _ _ _ _ h=>h) ?_
  iterate 5 (refine ycM rfl (by rfl) (fun w h=>by go_simp<;>rfl) ?_;try simp only[Act.put,sA,sB,sC])
  refine Zjw (i:=8) (v:=?_) rfl (by kernel_rfl) (by kernel_rfl) (by kernel_rfl) (by decide) (fun _ _ _ h=>h) (Or.inl ⟨by rfl,?_⟩) (fun _=>aT.out _ ai) ?_
  rotate_left
  ·intro w gX
   first|(go_simp<;>fail)|(go_simp;with_reducible rfl)
  try simp only[Act.put,sA,sB,sC]
  refine Zjw (i:=9) (v:=?_) rfl (by kernel_rfl) (by kernel_rfl) (by kernel_rfl) (by decide) (fun _ _ _ h=>h) (Or.inl ⟨by rfl,?_⟩) (fun _=>aT.out _ ai) ?_
  rotate_left
  ·intro w gX
   first|(go_simp<;>fail)|(go_simp;with_reducible rfl)
  try simp only[Act.put,sA,sB,sC]
  refine Zjw (i:=10) (v:=?_) rfl (by kernel_rfl) (by kernel_rfl) (by kernel_rfl) (by decide) (fun _ _ _ h=>h) (Or.inl ⟨by rfl,?_⟩) (fun _=>aT.out _ ai) ?_
  rotate_left
  ·intro w gX
   first|(go_simp<;>fail)|(go_simp;with_reducible rfl)
  try simp only[Act.put,sA,sB,sC]
  refine Zjw (i:=11) (v:=?_) rfl (by kernel_rfl) (by kernel_rfl) (by kernel_rfl) (by decide) (fun _ _ _ h=>h) (Or.inl ⟨by rfl,?_⟩) (fun _=>aT.out _ ai) ?_
  rotate_left
  ·intro w gX
   first|(go_simp<;>fail)|(go_simp;with_reducible rfl)
  try simp only[Act.put,sA,sB,sC]
  refine tkM [12] (aT.out _ ai) (by kernel_rfl) (fun _ _ _ _ h=>h) ?_
  (refine ycM rfl (by rfl) (fun w h=>by go_simp<;>rfl) ?_;try simp only[Act.put,sA,sB,sC])
  refine onM 7 (by kernel_rfl) rfl fun K hK=>?_
  go_simp
  refine(Zgw sk X Y bd bn _ dY d7).mono ?_
  rintro e kq ⟨he,hb⟩
  have dV:=blT ai hb
  have dw:=bhU fq aB hb
  have ei:=bkN gO hb
  have gA:=bkN gz hb
  have d8:=bkN d7 hb
  have dZ:=bkN dY hb
  have fB:=boN fA hb
  have fO:=boB fN hb
  clear hb
  rcases he with⟨ns,rfl⟩|⟨er,ck,he⟩
  rotate_left
  ·unfold Pan at he
   subst he
   dsimp only
   go_wp2
   exact⟨rfl,dw,m2,ei,.inr ⟨er,ck,rfl,trivial⟩⟩
  dsimp only
  refine hK.out _ _ (fun _=>aT.out _ dV) ?_
  try simp only[Act.put,sA,sB,sC]
  refine onM 13 (by kernel_rfl) rfl fun K hK=>?_
  go_simp
  refine(Zgw mk X Y bd bn _ dZ d8).mono ?_
  rintro e hD ⟨he,hb⟩
  have cO:=blT dV hb
  have dx:=bhU dw aB hb
  have cW:=bkN ei hb
  have ef:=bkN gA hb
  have d9:=bkN d8 hb
  have d0:=bkN dZ hb
  have cI:=boN fB hb
  have fP:=boB fO hb
  clear hb
  rcases he with⟨nk,rfl⟩|⟨er,ck,he⟩
  rotate_left
  ·unfold Pan at he
   subst he
   dsimp only
   go_wp2
   exact⟨rfl,dx,m2,cW,.inr ⟨er,ck,rfl,trivial⟩⟩
  dsimp only
  refine hK.out _ _ (fun _=>aT.out _ cO) ?_
  try simp only[Act.put,sA,sB,sC]
  refine onM 14 (by kernel_rfl) rfl fun K hK=>?_
  go_simp
  refine hK.out _ _ (fun _=>aT.out _ cO) ?_
  try simp only[Act.put,sA,sB,sC]
  refine tkM [15] (aT.out _ cO) (by kernel_rfl) (fun _ _ _ _ h=>h) ?_
  (refine ycM rfl (by rfl) (fun w h=>by go_simp<;>rfl) ?_;try simp only[Act.put,sA,sB,sC])
  refine onM 16 (by kernel_rfl) rfl fun K hK=>?_
  obtain⟨-,-,-,c3,-,-,c6,f7,-,-,-⟩:=ZdI cI.out cw.out cG.out
  have z3:=f7 (j*7+3)
  clear f7
  go_simp
  clear c3 c6 z3
  obtain⟨m3,dk⟩:∃m3:Zab,m3={m2 with instrs:=m2.instrs.set j {m2.instrs[j]'cG.out with strike:=ns}}:=⟨_,rfl⟩
  have aH:Hid (ZcC m m3):=by show ZcC _ _;rw[dk];exact ab.ins cG _ rfl
  have dv:Hid (m3.sIns.A=some (Aq g2 0)):=by show _=_;rw[dk];exact cw
  have jQ:Hid (m3.cs=m2.cs):=by show _=_;rw[dk];unfold Zab.cs;dsimp only;rw[List.length_set]
  have cH:Hid (j<m3.instrs.length):=by show j<_;rw[dk];dsimp only;rw[List.length_set];exact cG
  have iP:Hid (m3.sIns=m.sIns):=by show _=_;rw[dk];exact hO
  have ij:Hid (m3.sAva=m2.sAva∧m3.avail=m2.avail):=by rw[dk];exact⟨rfl,rfl⟩
  obtain⟨bE,_,aa,aA⟩:=ZaK cI.instrs cw.out
  obtain⟨bB,aP⟩:=ExY ((hD.setCell ⟨g2,j*7+3,none⟩ (I ns)))
  rw[←aP]
  have s:Bk hD g2 66 bE:=aA
  have fr:Hid (ZaC B J w bB):=by rw[aP];exact(dx.set_up aa)
  have ej:Hid (Bk bB J 130 m2.ar):=by rw[aP];exact(cW.far (p:=Aq g2 (j*7+3)) (cW.ne s (by decide)) _)
  have eg:Hid (Bk bB bu 3 #[I q]):=by rw[aP];exact(ef.far (p:=Aq g2 (j*7+3)) (ef.ne s (by decide)) _)
  have ea:Hid (Bk bB bn 3 #[I Y]):=by rw[aP];exact(d9.far (p:=Aq g2 (j*7+3)) (d9.ne s (by decide)) _)
  have d3:Hid (Bk bB bd 3 #[I X]):=by rw[aP];exact(d0.far (p:=Aq g2 (j*7+3)) (d0.ne s (by decide)) _)
  have cJ:Hid (Zaa bB B m3):=by rw[aP];exact(by rw[dk];exact Zaa.setIns cI cw cG (j:=3) (by decide) rfl)
  have fQ:Hid (bB.ownsRow B 66 7 (.slice A7 n0 c7) n0 (m.instrs.flatMap ZaD.cs)):=by rw[aP];exact ZbV fP (fun p hp he=>by have h1:=ig.out p hp;have h2:=ir.out _ ih.out;dsimp only at h2;omega)
  clear aA s aa bE
  clear aP
  clear dk
  refine hK.out _ _ (fun h0=>Zac (by kernel_rfl) h0) ?_
  try simp only[Act.put]
  refine onM 17 (by kernel_rfl) rfl fun K hK=>?_
  go_simp
  refine hK.out _ _ (fun h0=>Zac (by kernel_rfl) h0) ?_
  refine onM 18 (by kernel_rfl) rfl fun K hK=>?_
  go_simp
  refine hK.out _ _ (fun h0=>Zac (by kernel_rfl) h0) ?_
  refine onM 19 (by kernel_rfl) rfl fun K hK=>?_
  obtain⟨-,-,-,c3,-,-,c6,f7,-,-,-⟩:=ZdI cJ.out dv.out cH.out
  have z3:=f7 (j*7+6)
  clear f7
  go_simp
  clear c3 c6 z3
  obtain⟨m4,bF⟩:∃m4:Zab,m4={m3 with instrs:=m3.instrs.set j {m3.instrs[j]'cH.out with mark:=nk}}:=⟨_,rfl⟩
  have eX:Hid (ZcC m m4):=by show ZcC _ _;rw[bF];exact aH.ins cH _ rfl
  have ii:Hid (m4.sIns.A=some (Aq g2 0)):=by show _=_;rw[bF];exact dv
  have eG:Hid (m4.cs=m2.cs):=by show _=_;rw[bF,←jQ.out];unfold Zab.cs;dsimp only;rw[List.length_set]
  have iy:Hid (j<m4.instrs.length):=by show j<_;rw[bF];dsimp only;rw[List.length_set];exact cH
  have iQ:Hid (m4.sIns=m.sIns):=by show _=_;rw[bF];exact iP
  have ex:Hid (m4.sAva=m2.sAva∧m4.avail=m2.avail):=by rw[bF];exact ij
  obtain⟨bE,_,aa,aA⟩:=ZaK cJ.instrs dv.out
  obtain⟨aU,aQ⟩:=ExY ((bB.setCell ⟨g2,j*7+6,none⟩ (I nk)))
  rw[←aQ]
  have s:Bk bB g2 66 bE:=aA
  have dy:Hid (ZaC B J w aU):=by rw[aQ];exact(fr.set_up aa)
  have ek:Hid (Bk aU J 130 m2.ar):=by rw[aQ];exact(ej.far (p:=Aq g2 (j*7+6)) (ej.ne s (by decide)) _)
  have gB:Hid (Bk aU bu 3 #[I q]):=by rw[aQ];exact(eg.far (p:=Aq g2 (j*7+6)) (eg.ne s (by decide)) _)
  have gm:Hid (Bk aU bn 3 #[I Y]):=by rw[aQ];exact(ea.far (p:=Aq g2 (j*7+6)) (ea.ne s (by decide)) _)
  have gb:Hid (Bk aU bd 3 #[I X]):=by rw[aQ];exact(d3.far (p:=Aq g2 (j*7+6)) (d3.ne s (by decide)) _)
  have dG:Hid (Zaa aU B m4):=by rw[aQ];exact(by rw[bF];exact Zaa.setIns cJ dv cH (j:=6) (by decide) rfl)
  have fR:Hid (aU.ownsRow B 66 7 (.slice A7 n0 c7) n0 (m.instrs.flatMap ZaD.cs)):=by rw[aQ];exact ZbV fQ (fun p hp he=>by have h1:=ig.out p hp;have h2:=ir.out _ ih.out;dsimp only at h2;omega)
  clear aA s aa bE
  clear aQ
  clear bF
  refine hK.out _ _ (fun h0=>Zac (by kernel_rfl) h0) ?_
  refine Zak (by kernel_rfl) ?_ _
  obtain⟨⟨i1,i2,i3,i4,i5,i6,i7⟩,hi⟩:∃x,x=m4.instrs[j]'iy.out:=⟨_,rfl⟩
  obtain⟨c0,c1,c2,c3,c4,c5,c6,-,lg,-,-⟩:=ZdI dG.out ii.out iy.out
  rw[←hi] at c0 c1 c2 c3 c4 c5 c6
  have cf:Hid (∀U,Bw aU U→U.cell? (Aq g2 (j*7))=some (I i1)∧U.cell? (Aq g2 (j*7+1))=some (I i2)∧U.cell? (Aq g2 (j*7+2))=some (I i3)∧U.cell? (Aq g2 (j*7+3))=some (I i4)∧U.cell? (Aq g2 (j*7+4))=some (I i5)∧U.cell? (Aq g2 (j*7+5))=some (.bool i6)∧U.cell? (Aq g2 (j*7+6))=some (I i7)):=fun U hU=>
   ⟨(hU.cell (p:=Aq g2 (j*7)) lg).trans c0,(hU.cell (p:=Aq g2 (j*7+1)) lg).trans c1,(hU.cell (p:=Aq g2 (j*7+2)) lg).trans c2,(hU.cell (p:=Aq g2 (j*7+3)) lg).trans c3,(hU.cell (p:=Aq g2 (j*7+4)) lg).trans c4,(hU.cell (p:=Aq g2 (j*7+5)) lg).trans c5,(hU.cell (p:=Aq g2 (j*7+6)) lg).trans c6⟩
  obtain⟨ib,jx⟩:=ExY (Zgr ⟨i1,i2,i3,i4,i5,i6,i7⟩ m2.unders.length)
  have jy:∀V,Calls prog 76 #[.agg #[I i1,I i2,I i3,I i4,I i5,.bool i6,I i7],I m2.unders.length] V fun e w'=>e=.returned (.bool ib)∧Bw V w':=by rw[jx];exact fun V=>ZhU ⟨i1,i2,i3,i4,i5,i6,i7⟩ m2.unders.length j5 V
  have it:=Hi jy
  clear hi c0 c1 c2 c3 c4 c5 c6 lg jx jy
  go_upto_region 13 with(fail)
  have dS:Hid (Bw aU aU):=Below.refl _ _
  cases ib with
  |false=>
   obtain⟨hE,N⟩:=ExY aU.drew
   have bg:=blD dS N
   have cD:=bhD dy N
   have bv:=bkD ek N
   refine rgH (S:=(fun U=>U.cell? (Aq J 2)=some (.slice m2.sUnd.A m2.unders.length m2.sUnd.c)∧U.cell? (Aq g2 (j*7))=some (I i1)∧U.cell? (Aq g2 (j*7+1))=some (I i2)∧U.cell? (Aq g2 (j*7+2))=some (I i3)∧U.cell? (Aq g2 (j*7+3))=some (I i4)∧U.cell? (Aq g2 (j*7+4))=some (I i5)∧U.cell? (Aq g2 (j*7+5))=some (.bool i6)∧U.cell? (Aq g2 (j*7+6))=some (I i7))) (by kernel_rfl) N ⟨bv.cell 2,(cf.out _ bg)⟩ fun z=>?_
   clear N
   refine tkH [0,1,2,3,4,5,6,7,8] z (by kernel_rfl) (fun _ _ _ _ h=>h) ?_
   iterate 9 (refine ycH rfl (by rfl) (fun w h=>by go_simp<;>rfl) ?_;try simp only[Act.put,sA,sB,sC])
   refine onH 9 (by kernel_rfl) rfl fun K hK=>?_
   go_simp
   refine(it.out _).mono ?_
   rintro e ch ⟨rfl,hb⟩
   have a1:=blT bg hb
   have cE:=bhU cD aB hb
   have a3:=bkN bv hb
   clear hb
   dsimp only
   refine hK.out _ _ (⟨a3.cell 2,(cf.out _ a1)⟩) (fun z=>?_)
   try simp only[Act.put,sA,sB,sC]
   refine onH 10 (by kernel_rfl) rfl fun K hK=>?_
   go_simp
   refine Cq (Zau 37 _) ?_
   dsimp only
   go_wp2
   exact⟨rfl,cE.out,m4,eG.out.symm▸a3.out,.inr ⟨37,(by decide),rfl,trivial⟩⟩
  |true=>
  obtain⟨hE,N⟩:=ExY aU.drew
  have bg:=blD dS N
  have cD:=bhD dy N
  have bv:=bkD ek N
  have gC:=bkD gB N
  have gn:=bkD gm N
  have gc:=bkD gb N
  have fC:=boD dG N
  have fS:Hid (hE.ownsRow B 66 7 (.slice A7 n0 c7) n0 (m.instrs.flatMap ZaD.cs)):=by rw[N];exact fR
  refine rgH (S:=(fun U=>U.cell? (Aq J 2)=some (.slice m2.sUnd.A m2.unders.length m2.sUnd.c)∧U.cell? (Aq g2 (j*7))=some (I i1)∧U.cell? (Aq g2 (j*7+1))=some (I i2)∧U.cell? (Aq g2 (j*7+2))=some (I i3)∧U.cell? (Aq g2 (j*7+3))=some (I i4)∧U.cell? (Aq g2 (j*7+4))=some (I i5)∧U.cell? (Aq g2 (j*7+5))=some (.bool i6)∧U.cell? (Aq g2 (j*7+6))=some (I i7))) (by kernel_rfl) N ⟨bv.cell 2,(cf.out _ bg)⟩ fun z=>?_
  clear N
  refine tkH [0,1,2,3,4,5,6,7,8] z (by kernel_rfl) (fun _ _ _ _ h=>h) ?_
  iterate 9 (refine ycH rfl (by rfl) (fun w h=>by go_simp<;>rfl) ?_;try simp only[Act.put,sA,sB,sC])
  refine onH 9 (by kernel_rfl) rfl fun K hK=>?_
  go_simp
  refine(it.out _).mono ?_
  rintro e ch ⟨rfl,hb⟩
  have a1:=blT bg hb
  have cE:=bhU cD aB hb
  have a3:=bkN bv hb
  have gD:=bkN gC hb
  have go:=bkN gn hb
  have gd:=bkN gc hb
  have cK:=boN fC hb
  have fT:=boB fS hb
  clear hb
  dsimp only
  refine hK.out _ _ (⟨a3.cell 2,(cf.out _ a1)⟩) (fun z=>?_)
  try simp only[Act.put,sA,sB,sC]
  refine onH 10 (by kernel_rfl) rfl fun K hK=>?_
  go_simp
  refine Cq (Za7 37 _) ?_
  dsimp only
  refine hK.out _ _ (⟨a3.cell 2,(cf.out _ a1)⟩) (fun z=>?_)
  try simp only[Act.put,sA,sB,sC]
  refine wpAnyH_done (by kernel_rfl) ?_ _
  clear z
  have gZ:j<m4.avail.length:=by have h1:=ex.2;have h2:=ab.alen;have h3:=ik.out;have h4:=bc.out;rw[h1];have h5:=bY.out;omega
  obtain⟨g3,gY,ju⟩:=Zh2 cK.out (i:=j) gZ
  obtain⟨av,hH⟩:∃x:Int,ch.cell? ⟨g3,j,none⟩=some (I x):=⟨_,ju⟩
  have jB:g3<ch.heap.size:=(ZaP cK.avail (Aq g3 0) gY).2
  have ey:Hid (∀U,Bw ch U→U.cell? (Aq g3 j)=some (I av)):=fun U hU=>(hU.cell (p:=Aq g3 j) jB).trans hH
  have ix:=Hi gZ
  have fx:=Hi gY
  have eH:Hid (m2.sAva.A=some (Aq g3 0)):=by show _=_;rw[←ex.1];exact gY
  have j2:(j:Int)<(m2.avail.length:Int):=Int.ofNat_lt.mpr (ex.out.2▸gZ)
  clear gZ gY ju hH jB
  go_upto_region 14 with(fail)
  have a1:Hid (Bw ch ch):=Below.refl _ _
  obtain⟨jg,aD⟩:=ExY ch.drew
  have dT:=blD a1 aD
  have fs:=bhD cE aD
  have el:=bkD a3 aD
  have gE:=bkD gD aD
  have eb:=bkD go aD
  have d4:=bkD gd aD
  have fD:=boD cK aD
  have fU:Hid (jg.ownsRow B 66 7 (.slice A7 n0 c7) n0 (m.instrs.flatMap ZaD.cs)):=by rw[aD];exact fT
  refine rgM (fun U=>U.cell? (Aq J 7)=some (.slice (some (Aq g3 0)) m2.avail.length m2.sAva.c)∧U.cell? (Aq bn 0)=some (I Y)∧U.cell? (Aq bd 0)=some (I X)∧U.cell? (Aq g3 j)=some (I av)) 18 (by kernel_rfl) aD ?_
  clear aD
  refine tkM [0,1,2,3,4,5,6,7,8,9,10,11,12,13,14,15] (⟨eH.out▸el.out.cell 7,eb.out.cell 0,d4.out.cell 0,ey.out _ dT.out⟩) (by kernel_rfl) (fun _ _ _ _ h=>h) ?_
  iterate 16 (refine ycM rfl (by rfl) (fun w h=>by go_simp<;>rfl) ?_;try simp only[Act.put,sA,sB,sC])
  refine onM 16 (by kernel_rfl) rfl fun K hK=>?_
  go_simp
  refine(Zf2 av Y X _).mono ?_
  rintro e ff ⟨he,hb⟩
  have dU:=blT dT hb
  have dz:=bhU fs aB hb
  have bw:=bkN el hb
  have gF:=bkN gE hb
  have cT:=bkN eb hb
  have cS:=bkN d4 hb
  have bZ:=boN fD hb
  have fV:=boB fU hb
  clear hb
  rcases he with⟨nq,rfl⟩|⟨er,ck,he⟩
  rotate_left
  ·unfold Pan at he
   subst he
   dsimp only
   go_wp2
   exact⟨rfl,dz.out,m4,eG.out.symm▸bw.out,.inr ⟨er,ck,rfl,trivial⟩⟩
  dsimp only
  refine hK.out _ _ (fun _=>⟨eH.out▸bw.out.cell 7,cT.out.cell 0,cS.out.cell 0,ey.out _ dU.out⟩) ?_
  try simp only[Act.put,sA,sB,sC]
  refine tkM [17] (⟨eH.out▸bw.out.cell 7,cT.out.cell 0,cS.out.cell 0,ey.out _ dU.out⟩) (by kernel_rfl) (fun _ _ _ _ h=>h) ?_
  (refine ycM rfl (by rfl) (fun w h=>by go_simp<;>rfl) ?_;try simp only[Act.put,sA,sB,sC])
  refine onM 18 (by kernel_rfl) rfl fun K hK=>?_
  obtain⟨gV,_,ic,fk⟩:=ZaK bZ.avail fx.out
  have jH:Bk _ g3 3 gV:=fk
  have z3:=jH.frozen j
  obtain⟨v4,z4⟩:∃v,World.cell? ff ⟨g3,j,none⟩=some v:=by
   obtain⟨g9,e9,c9⟩:=Zh2 bZ.out (i:=j) ix.out
   rw[fx.out] at e9
   cases e9
   exact⟨_,c9⟩
  go_simp
  clear gV fk ic jH z3 z4 v4
  obtain⟨m5,fj⟩:∃m5:Zab,m5={m4 with avail:=m4.avail.set j nq}:=⟨_,rfl⟩
  have iU:Hid (ZcC m m5):=by show ZcC _ _;rw[fj];exact eX.av j nq
  have jR:Hid (m5.cs=m2.cs):=by show _=_;rw[fj,←eG.out];unfold Zab.cs;dsimp only;rw[List.length_set]
  have iR:Hid (m5.sIns=m.sIns):=by show _=_;rw[fj];exact iQ
  obtain⟨bE,_,aa,aA⟩:=ZaK bZ.avail fx.out
  obtain⟨bC,aR⟩:=ExY ((ff.setCell ⟨g3,j,none⟩ (I nq)))
  rw[←aR]
  have s:Bk ff g3 3 bE:=aA
  have ft:Hid (ZaC B J w bC):=by rw[aR];exact(dz.set_up aa)
  have gP:Hid (Bk bC J 130 m2.ar):=by rw[aR];exact(bw.far (p:=Aq g3 j) (bw.ne s (by decide)) _)
  have gG:Hid (Bk bC bu 3 #[I q]):=by rw[aR];exact(gF.far (p:=Aq g3 j) (Nat.ne_of_lt (Nat.lt_of_lt_of_le hT aa)) _)
  have gr:Hid (Bk bC bn 3 #[I Y]):=by rw[aR];exact(cT.far (p:=Aq g3 j) (Nat.ne_of_lt (Nat.lt_of_lt_of_le hR aa)) _)
  have ge:Hid (Bk bC bd 3 #[I X]):=by rw[aR];exact(cS.far (p:=Aq g3 j) (Nat.ne_of_lt (Nat.lt_of_lt_of_le hQ aa)) _)
  have fE:Hid (Zaa bC B m5):=by rw[aR];exact(by rw[fj];exact Zaa.setAv bZ fx ix nq)
  have fW:Hid (bC.ownsRow B 66 7 (.slice A7 n0 c7) n0 (m.instrs.flatMap ZaD.cs)):=by rw[aR];exact Zad fV s (by decide)
  clear aA s aa bE
  clear aR
  clear fj
  refine hK.out _ _ (fun h0=>Zac (by kernel_rfl) h0) ?_
  refine Zak (by kernel_rfl) ?_ _
  go_wp2
  have ki:Hid (Bk bC J 130 (Zab.cs m5).toArray):=by show Bk _ _ _ _;rw[jR.out];exact gP
  exact RE.out bC m5 ⟨ft,ki,iU,iR,fE,gG,gr,ge,fW⟩
end Go.Proofs.YtdefojlkofnloaaGreatDoor
