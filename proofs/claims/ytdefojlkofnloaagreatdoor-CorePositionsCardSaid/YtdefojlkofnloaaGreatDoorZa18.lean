/- A part of the proof of CorePositions: for every input, no condition. -/
import Derived.Test.YtdefojlkofnloaaGreatDoorZa17
set_option maxRecDepth 100000
set_option maxHeartbeats 8000000
set_option linter.unusedVariables false
set_option linter.unusedSimpArgs false
namespace Go.Proofs.YtdefojlkofnloaaGreatDoor
open Go.RowKit Go.Proofs.Tryz
theorem Zbc{w:World}{base e k n c g t:Nat}{A:Option Addr}{xs:List Value}{cs:Array Value}(h:w.ownsRow base e k (.slice A n c) n xs)(E:Bk w g t cs)(z:t≠e)(cs':Array Value):(w.setRow g cs').ownsRow base e k (.slice A n c) n xs:=
 ZaF h fun p hp=>by
  obtain⟨C,_,_,s⟩:=ZaK h hp
  exact setRow_other w g p.block cs' (s.ne E (Ne.symm z))
theorem Zaa.rowFar{w:World}{base:Nat}{m:Zab}(h:Zaa w base m){g t:Nat}{cs:Array Value}(s:Bk w g t cs)(z:t≠57∧t≠63∧t≠66∧t≠59∧t≠50∧t≠45∧t≠3∧t≠72)(cs':Array Value):Zaa (w.setRow g cs') base m:=
 ⟨Zbc h.curs s z.1 _,Zbc h.unders s z.2.1 _,Zbc h.instrs s z.2.2.1 _,Zbc h.accts s z.2.2.2.1 _,Zbc h.poss s z.2.2.2.2.1 _,Zbc h.orders s z.2.2.2.2.2.1 _,Zbc h.avail s z.2.2.2.2.2.2.1 _,Zbc h.locs s z.2.2.2.2.2.2.2 _,
  fun a ha=>⟨Zbc (h.cash a ha).1 s z.2.2.2.2.2.2.1 _,(h.cash a ha).2⟩,h.apart,h.away,h.short⟩
theorem boR{V W:World}{B g t:Nat}{m:Zab}{cs cs':Array Value}(h:Hid (Zaa W B m))(e:V=W.setRow g cs')(k:Hid (Bk W g t cs))(s:t≠57∧t≠63∧t≠66∧t≠59∧t≠50∧t≠45∧t≠3∧t≠72):Hid (Zaa V B m):=by rw[e];exact h.rowFar k s _
theorem ZjA(C:List ZaA→Zab)(w V W1 L:World)(S0:Nat)(m:Zab)(l:List ZaA)(x:ZaA)(v N g X E:Nat)(z:Option Addr){mk:Zab}(R:C=fun l=>{mk with accts:=l,sAcc:=⟨some (Aq g 0),X⟩})(Z:l.length=N∧Zbj m (C l)∧ZbU w V S0 (C l) v∧S0≤V.heap.size)(Y:l[v]?=some x)(aa:v<N)(ho:W1.ownsRow V.drew.heap.size 3 1 (.slice z x.cash.length E) x.cash.length (Zag x.cash))(G:Below V.drew.heap.size V.drew W1)(U:L=W1.setCell (Aq g (v*4+1)) (.slice z x.cash.length E)):
 (l.set v {x with A:=z,c:=E}).length=N∧Zbj m (C (l.set v {x with A:=z,c:=E}))∧ZbU w L S0 (C (l.set v {x with A:=z,c:=E})) (v+1)∧S0≤L.heap.size:=by
 obtain⟨h1,h2,h3,h4⟩:=Z
 subst R U
 have s:v<l.length:=by omega
 have e0:x=l[v]:=by rw[List.getElem?_eq_getElem s] at Y;exact(Option.some.inj Y).symm
 subst e0
 have J:Bw V W1:=⟨G.os,G.tape,G.output,G.size,G.block⟩
 have s1:=J.size
 refine⟨by simpa using h1,Zbj.set (m:={mk with accts:=l,sAcc:=⟨some (Aq g 0),X⟩}) h2 s rfl,ZbU.step (g:=g) h3 h4 rfl s ho J,?_⟩
 show S0≤(W1.setCell _ _).heap.size
 simp[World.setCell]
 omega
theorem Zbq(m:Zab)(w:World)(hm:Zay w w.heap.size m):Calls prog 9 #[m.val] w (ZcA m w):=by
 show Calls prog 9 #[.agg m.ar] w (ZcA m w)
 have dK:Hid (∀V,Bw w V→Calls prog 12 #[.slice m.sCur.A m.curs.length m.sCur.c] V fun r w'=>∃A' c',r=.returned (.slice A' m.curs.length c')∧m.curs.length≤c'∧c'≤maxLen∧w'.ownsRow V.heap.size 57 2 (.slice A' m.curs.length c') m.curs.length (m.curs.flatMap ZcB.cs)∧Bw V w'):=
  fun V hV=>ZiQ _ _ _ _ V (ZkP _) (by have:=hm.short.1;omega) ((hm.curs.below hV).mono hV.size)
 have dQ:Hid (∀V,Bw w V→Calls prog 13 #[.slice m.sUnd.A m.unders.length m.sUnd.c] V fun r w'=>∃A' c',r=.returned (.slice A' m.unders.length c')∧m.unders.length≤c'∧c'≤maxLen∧w'.ownsRow V.heap.size 63 4 (.slice A' m.unders.length c') m.unders.length (m.unders.flatMap ZbD.cs)∧Bw V w'):=
  fun V hV=>ZiS _ _ _ _ V (ZlA _) (by have:=hm.short.2.1;omega) ((hm.unders.below hV).mono hV.size)
 have dN:Hid (∀V,Bw w V→Calls prog 14 #[.slice m.sIns.A m.instrs.length m.sIns.c] V fun r w'=>∃A' c',r=.returned (.slice A' m.instrs.length c')∧m.instrs.length≤c'∧c'≤maxLen∧w'.ownsRow V.heap.size 66 7 (.slice A' m.instrs.length c') m.instrs.length (m.instrs.flatMap ZaD.cs)∧Bw V w'):=
  fun V hV=>ZiR _ _ _ _ V (Zio _) (by have:=hm.short.2.2.1;omega) ((hm.instrs.below hV).mono hV.size)
 have dJ:Hid (∀V,Bw w V→Calls prog 15 #[.slice m.sAcc.A m.accts.length m.sAcc.c] V fun r w'=>∃A' c',r=.returned (.slice A' m.accts.length c')∧m.accts.length≤c'∧c'≤maxLen∧w'.ownsRow V.heap.size 59 4 (.slice A' m.accts.length c') m.accts.length (m.accts.flatMap ZaA.cs)∧Bw V w'):=
  fun V hV=>ZiP _ _ _ _ V (ZkJ _) (by have:=hm.short.2.2.2.1;omega) ((hm.accts.below hV).mono hV.size)
 have dP:Hid (∀V,Bw w V→Calls prog 16 #[.slice m.sPos.A m.poss.length m.sPos.c] V fun r w'=>∃A' c',r=.returned (.slice A' m.poss.length c')∧m.poss.length≤c'∧c'≤maxLen∧w'.ownsRow V.heap.size 50 3 (.slice A' m.poss.length c') m.poss.length (P.lcs m.poss)∧Bw V w'):=
  fun V hV=>P.cloneL_any _ _ _ _ V (P.lcs_one _) (by have:=hm.short.2.2.2.2.1;omega) ((hm.poss.below hV).mono hV.size)
 have dO:Hid (∀V,Bw w V→Calls prog 17 #[.slice m.sOrd.A m.orders.length m.sOrd.c] V fun r w'=>∃A' c',r=.returned (.slice A' m.orders.length c')∧m.orders.length≤c'∧c'≤maxLen∧w'.ownsRow V.heap.size 45 5 (.slice A' m.orders.length c') m.orders.length (O.lcs m.orders)∧Bw V w'):=
  fun V hV=>O.cloneL_any _ _ _ _ V (O.lcs_one _) (by have:=hm.short.2.2.2.2.2.1;omega) ((hm.orders.below hV).mono hV.size)
 have dL:Hid (∀V,Bw w V→Calls prog 18 #[.slice m.sAva.A m.avail.length m.sAva.c] V fun r w'=>∃A' c',r=.returned (.slice A' m.avail.length c')∧m.avail.length≤c'∧c'≤maxLen∧w'.ownsRow V.heap.size 3 1 (.slice A' m.avail.length c') m.avail.length (Zag m.avail)∧Bw V w'):=
  fun V hV=>L.cloneI_any _ _ _ _ V (Ze4 _) (by have:=hm.short.2.2.2.2.2.2.1;omega) ((hm.avail.below hV).mono hV.size)
 have dM:Hid (∀V,Bw w V→Calls prog 19 #[.slice m.sLoc.A m.locs.length m.sLoc.c] V fun r w'=>∃A' c',r=.returned (.slice A' m.locs.length c')∧m.locs.length≤c'∧c'≤maxLen∧w'.ownsRow V.heap.size 72 3 (.slice A' m.locs.length c') m.locs.length (L.lcs m.locs)∧Bw V w'):=
  fun V hV=>L.cloneL_any _ _ _ _ V (L.lcs_one _) (by have:=hm.short.2.2.2.2.2.2.2;omega) ((hm.locs.below hV).mono hV.size)
 have c6:=Hi hm.short
 have c5:Hid (∀a∈m.accts,Rd w w.heap.size 1 a.A a.cash.length (Zag a.cash)∧a.cash.length≤1000000):=hm.cash
 clear hm
 obtain⟨W1,aO⟩:=ExY (w.alloc (.cells m.ar 37))
 obtain⟨bl,aQ⟩:=ExY w.heap.size
 have a1:=blB aO
 have Y:=bl0 aQ
 have dq:=bkW aO aQ
 obtain⟨W2,aj⟩:=ExY (W1.alloc (.cells zZ 37))
 obtain⟨bz,a0⟩:=ExY W1.heap.size
 have cZ:=blA a1 aj
 have cJ:=blZ a1 a0
 have dr:=bkA dq aj
 have ds:=bkW aj a0
 have a2:bz=bl+1:=by rw[a0,aO,World.size_alloc,←aQ]
 have dE:¬(bl=bz):=by omega
 have au:=Hi dE
 clear dE
 go_enter func9,ntmps9
 go_upto_region 1 with(fail)
 rw[←aO,←aQ,←aj,←a2]
 clear aO aQ a2 aj a0
 obtain⟨W3,aP⟩:=ExY W2.drew
 have aI:=blD cZ aP
 have ax:=bkD dr aP
 have dt:=bkD ds aP
 refine rgL 13 (by kernel_rfl) aP (CsA ax 1 rfl (CsA ax 2 rfl (CsA ax 3 rfl (CsB ax 4 rfl)))) fun hS=>?_
 clear aP
 refine tkM [0,1,3,4,6,7,9,10] hS (by kernel_rfl) (fun _ _ _ _ h=>h) ?_
 iterate 8 (refine ycM rfl (by rfl) (fun w h=>by simp only[Cs] at h;go_simp<;>rfl) ?_;try simp only[Act.put,sA,sB,sC])
 refine onM 2 (by kernel_rfl) rfl fun K hK=>?_
 go_simp
 refine(dK.out _ aI).mono ?_
 rintro e W4 ⟨AC,cC,rfl,h1,h2,ho,hb⟩
 dsimp only
 have aJ:=blT aI hb
 have ab:=bkN ax hb
 have du:=bkN dt hb
 have da:Hid (W4.ownsRow w.heap.size 57 2 (.slice AC m.curs.length cC) m.curs.length (m.curs.flatMap ZcB.cs)):=Zap ho aI.size
 clear hb ho h1 h2
 refine hK.out _ _ (fun _=>⟨ab.cell 1,ab.cell 2,ab.cell 3,ab.cell 4⟩) ?_
 try simp only[Act.put,sA,sB,sC]
 refine tkM [12] (⟨ab.cell 1,ab.cell 2,ab.cell 3,ab.cell 4⟩) (by kernel_rfl) (fun _ _ _ _ h=>h) ?_
 (refine ycM rfl (by rfl) (fun w h=>by simp only[Cs] at h;go_simp<;>rfl) ?_;try simp only[Act.put,sA,sB,sC])
 refine onM 5 (by kernel_rfl) rfl fun K hK=>?_
 go_simp
 refine(dQ.out _ aJ).mono ?_
 rintro e W5 ⟨AU,cU,rfl,h1,h2,ho,hb⟩
 dsimp only
 have aK:=blT aJ hb
 have ay:=bkN ab hb
 have dv:=bkN du hb
 have db:=boB da hb
 have dk:Hid (W5.ownsRow w.heap.size 63 4 (.slice AU m.unders.length cU) m.unders.length (m.unders.flatMap ZbD.cs)):=Zap ho aJ.size
 clear hb ho h1 h2
 refine hK.out _ _ (fun _=>⟨ay.cell 1,ay.cell 2,ay.cell 3,ay.cell 4⟩) ?_
 try simp only[Act.put,sA,sB,sC]
 refine onM 8 (by kernel_rfl) rfl fun K hK=>?_
 go_simp
 refine(dN.out _ aK).mono ?_
 rintro e W6 ⟨AN,cN,rfl,h1,h2,ho,hb⟩
 dsimp only
 have aL:=blT aK hb
 have az:=bkN ay hb
 have dw:=bkN dv hb
 have dc:=boB db hb
 have dl:=boB dk hb
 have dg:Hid (W6.ownsRow w.heap.size 66 7 (.slice AN m.instrs.length cN) m.instrs.length (m.instrs.flatMap ZaD.cs)):=Zap ho aK.size
 clear hb ho h1 h2
 refine hK.out _ _ (fun _=>⟨az.cell 1,az.cell 2,az.cell 3,az.cell 4⟩) ?_
 try simp only[Act.put,sA,sB,sC]
 refine onM 11 (by kernel_rfl) rfl fun K hK=>?_
 go_simp
 refine(dJ.out _ aL).mono ?_
 rintro e W7 ⟨AA,cA,rfl,h1,h2,ho,hb⟩
 dsimp only
 have c0:=blT aL hb
 have Z:=bkN az hb
 have dx:=bkN dw hb
 have dd:=boB dc hb
 have dm:=boB dl hb
 have dh:=boB dg hb
 have c7:Hid (W7.ownsRow w.heap.size 59 4 (.slice AA m.accts.length cA) m.accts.length (m.accts.flatMap ZaA.cs)):=Zap ho aL.size
 clear hb ho h1 h2
 refine hK.out _ _ (fun _=>⟨Z.cell 1,Z.cell 2,Z.cell 3,Z.cell 4⟩) ?_
 try simp only[Act.put,sA,sB,sC]
 refine onM 13 (by kernel_rfl) rfl fun K hK=>?_
 have aa:=Z.nine
 go_simp
 clear aa
 obtain⟨W8,ao⟩:=ExY (W7.setCell ⟨bl,1,none⟩ (.slice AC m.curs.length cC))
 rw[←ao]
 have c2:=blS c0 ao Y
 have ak:Hid (Bk W8 bl 37 (m.ar_C (.slice AC m.curs.length cC))):=bkS Z 1 ao
 have dy:Hid (Bk W8 bz 37 zZ):=by rw[ao];exact dx.far (p:=Aq bl 1) (Ne.symm au) _
 have de:=boO dd ao Z rfl
 have dn:=boO dm ao Z rfl
 have di:=boO dh ao Z rfl
 have c8:=boO c7 ao Z rfl
 clear ao
 refine hK.out _ _ (fun h0=>Zac (by kernel_rfl) h0) ?_
 try simp only[Act.put,sA,sB,sC]
 refine onM 14 (by kernel_rfl) rfl fun K hK=>?_
 go_simp
 refine hK.out _ _ (fun h0=>Zac (by kernel_rfl) h0) ?_
 try simp only[Act.put,sA,sB,sC]
 refine onM 15 (by kernel_rfl) rfl fun K hK=>?_
 have aa:=ak.nine
 go_simp
 clear aa
 obtain⟨W9,ap⟩:=ExY (W8.setCell ⟨bl,2,none⟩ (.slice AU m.unders.length cU))
 rw[←ap]
 have c3:=blS c2 ap Y
 have al:Hid (Bk W9 bl 37 (m.ar_CU (.slice AC m.curs.length cC) (.slice AU m.unders.length cU))):=bkS ak 2 ap
 have dz:Hid (Bk W9 bz 37 zZ):=by rw[ap];exact dy.far (p:=Aq bl 2) (Ne.symm au) _
 have df:=boO de ap ak rfl
 have dp:=boO dn ap ak rfl
 have dj:=boO di ap ak rfl
 have c9:=boO c8 ap ak rfl
 clear ap
 refine hK.out _ _ (fun h0=>Zac (by kernel_rfl) h0) ?_
 try simp only[Act.put,sA,sB,sC]
 refine onM 16 (by kernel_rfl) rfl fun K hK=>?_
 go_simp
 refine hK.out _ _ (fun h0=>Zac (by kernel_rfl) h0) ?_
 try simp only[Act.put,sA,sB,sC]
 refine onM 17 (by kernel_rfl) rfl fun K hK=>?_
 have aa:=al.nine
 go_simp
 clear aa
 obtain⟨cK,ac⟩:=ExY (W9.setCell ⟨bl,3,none⟩ (.slice AN m.instrs.length cN))
 rw[←ac]
 have a4:=blS c3 ac Y
 have af:Hid (Bk cK bl 37 #[I m.day,.slice AC m.curs.length cC,.slice AU m.unders.length cU,.slice AN m.instrs.length cN,.slice m.sAcc.A m.accts.length m.sAcc.c,.slice m.sPos.A m.poss.length m.sPos.c,.slice m.sOrd.A m.orders.length m.sOrd.c,.slice m.sAva.A m.avail.length m.sAva.c,.slice m.sLoc.A m.locs.length m.sLoc.c]):=bkS al 3 ac
 have cu:Hid (Bk cK bz 37 zZ):=by rw[ac];exact dz.far (p:=Aq bl 3) (Ne.symm au) _
 have bp:=boO df ac al rfl
 have ch:=boO dp ac al rfl
 have bM:=boO dj ac al rfl
 have bb:=boO c9 ac al rfl
 clear ac
 refine hK.out _ _ (fun h0=>Zac (by kernel_rfl) h0) ?_
 try simp only[Act.put,sA,sB,sC]
 refine onM 18 (by kernel_rfl) rfl fun K hK=>?_
 go_simp
 refine hK.out _ _ (fun h0=>Zac (by kernel_rfl) h0) ?_
 try simp only[Act.put,sA,sB,sC]
 refine onM 19 (by kernel_rfl) rfl fun K hK=>?_
 have aa:=af.nine
 go_simp
 clear aa
 obtain⟨cM,ad⟩:=ExY (cK.setCell ⟨bl,4,none⟩ (.slice AA m.accts.length cA))
 rw[←ad]
 have a5:=blS a4 ad Y
 have ct:Hid (Bk cM bl 37 #[I m.day,.slice AC m.curs.length cC,.slice AU m.unders.length cU,.slice AN m.instrs.length cN,.slice AA m.accts.length cA,.slice m.sPos.A m.poss.length m.sPos.c,.slice m.sOrd.A m.orders.length m.sOrd.c,.slice m.sAva.A m.avail.length m.sAva.c,.slice m.sLoc.A m.locs.length m.sLoc.c]):=bkS af 4 ad
 have cv:Hid (Bk cM bz 37 zZ):=by rw[ad];exact cu.far (p:=Aq bl 4) (Ne.symm au) _
 have bq:=boO bp ad af rfl
 have ci:=boO ch ad af rfl
 have bN:=boO bM ad af rfl
 have bc:=boO bb ad af rfl
 clear ad
 refine hK.out _ _ (fun h0=>Zac (by kernel_rfl) h0) ?_
 try simp only[Act.put,sA,sB,sC]
 refine Zak (by kernel_rfl) ?_ _
 go_upto_region 2 with(fail)
 obtain⟨aW,ae⟩:=ExY cM.drew
 have aB:=blD a5 ae
 have ag:=bkD ct ae
 have cw:=bkD cv ae
 have br:Hid (aW.ownsRow w.heap.size 57 2 (.slice AC m.curs.length cC) m.curs.length (m.curs.flatMap ZcB.cs)):=by rw[ae];exact ZaF bq (fun _ _=>rfl)
 have cj:Hid (aW.ownsRow w.heap.size 63 4 (.slice AU m.unders.length cU) m.unders.length (m.unders.flatMap ZbD.cs)):=by rw[ae];exact ZaF ci (fun _ _=>rfl)
 have bO:Hid (aW.ownsRow w.heap.size 66 7 (.slice AN m.instrs.length cN) m.instrs.length (m.instrs.flatMap ZaD.cs)):=by rw[ae];exact ZaF bN (fun _ _=>rfl)
 have bd:Hid (aW.ownsRow w.heap.size 59 4 (.slice AA m.accts.length cA) m.accts.length (m.accts.flatMap ZaA.cs)):=by rw[ae];exact ZaF bc (fun _ _=>rfl)
 refine rgL 13 (by kernel_rfl) ae (CsA ag 5 rfl (CsA ag 6 rfl (CsA ag 7 rfl (CsB ag 8 rfl)))) fun hS=>?_
 clear ae
 refine tkM [0,1,3,4,6,7,9,10] hS (by kernel_rfl) (fun _ _ _ _ h=>h) ?_
 iterate 8 (refine ycM rfl (by rfl) (fun w h=>by simp only[Cs] at h;go_simp<;>rfl) ?_;try simp only[Act.put,sA,sB,sC])
 refine onM 2 (by kernel_rfl) rfl fun K hK=>?_
 go_simp
 refine(dP.out _ aB).mono ?_
 rintro e dU ⟨AP,cP,rfl,h1,h2,ho,hb⟩
 dsimp only
 have aC:=blT aB hb
 have X:=bkN ag hb
 have cx:=bkN cw hb
 have bs:=boB br hb
 have ck:=boB cj hb
 have bP:=boB bO hb
 have be:=boB bd hb
 have b9:Hid (dU.ownsRow w.heap.size 50 3 (.slice AP m.poss.length cP) m.poss.length (P.lcs m.poss)):=Zap ho aB.size
 clear hb ho h1 h2
 refine hK.out _ _ (fun _=>⟨X.cell 5,X.cell 6,X.cell 7,X.cell 8⟩) ?_
 try simp only[Act.put,sA,sB,sC]
 refine tkM [12] (⟨X.cell 5,X.cell 6,X.cell 7,X.cell 8⟩) (by kernel_rfl) (fun _ _ _ _ h=>h) ?_
 (refine ycM rfl (by rfl) (fun w h=>by simp only[Cs] at h;go_simp<;>rfl) ?_;try simp only[Act.put,sA,sB,sC])
 refine onM 5 (by kernel_rfl) rfl fun K hK=>?_
 go_simp
 refine(dO.out _ aC).mono ?_
 rintro e dV ⟨AO,cO,rfl,h1,h2,ho,hb⟩
 dsimp only
 have aD:=blT aC hb
 have ah:=bkN X hb
 have cy:=bkN cx hb
 have bt:=boB bs hb
 have cl:=boB ck hb
 have bQ:=boB bP hb
 have bf:=boB be hb
 have ca:=boB b9 hb
 have bX:Hid (dV.ownsRow w.heap.size 45 5 (.slice AO m.orders.length cO) m.orders.length (O.lcs m.orders)):=Zap ho aC.size
 clear hb ho h1 h2
 refine hK.out _ _ (fun _=>⟨ah.cell 5,ah.cell 6,ah.cell 7,ah.cell 8⟩) ?_
 try simp only[Act.put,sA,sB,sC]
 refine onM 8 (by kernel_rfl) rfl fun K hK=>?_
 go_simp
 refine(dL.out _ aD).mono ?_
 rintro e dW ⟨AI,cI,rfl,h1,h2,ho,hb⟩
 dsimp only
 have aE:=blT aD hb
 have ai:=bkN ah hb
 have cz:=bkN cy hb
 have bu:=boB bt hb
 have cm:=boB cl hb
 have bR:=boB bQ hb
 have bg:=boB bf hb
 have cb:=boB ca hb
 have bY:=boB bX hb
 have bC:Hid (dW.ownsRow w.heap.size 3 1 (.slice AI m.avail.length cI) m.avail.length (Zag m.avail)):=Zap ho aD.size
 clear hb ho h1 h2
 refine hK.out _ _ (fun _=>⟨ai.cell 5,ai.cell 6,ai.cell 7,ai.cell 8⟩) ?_
 try simp only[Act.put,sA,sB,sC]
 refine onM 11 (by kernel_rfl) rfl fun K hK=>?_
 go_simp
 refine(dM.out _ aE).mono ?_
 rintro e dA ⟨AL,cL,rfl,h1,h2,ho,hb⟩
 dsimp only
 have a6:=blT aE hb
 have s:=bkN ai hb
 have cD:=bkN cz hb
 have bv:=boB bu hb
 have cn:=boB cm hb
 have bS:=boB bR hb
 have bh:=boB bg hb
 have cc:=boB cb hb
 have bZ:=boB bY hb
 have bD:=boB bC hb
 have bH:Hid (dA.ownsRow w.heap.size 72 3 (.slice AL m.locs.length cL) m.locs.length (L.lcs m.locs)):=Zap ho aE.size
 clear hb ho h1 h2
 refine hK.out _ _ (fun _=>⟨s.cell 5,s.cell 6,s.cell 7,s.cell 8⟩) ?_
 try simp only[Act.put,sA,sB,sC]
 refine onM 13 (by kernel_rfl) rfl fun K hK=>?_
 have aa:=s.nine
 go_simp
 clear aa
 obtain⟨cQ,G⟩:=ExY (dA.setCell ⟨bl,5,none⟩ (.slice AP m.poss.length cP))
 rw[←G]
 have a7:=blS a6 G Y
 have z:Hid (Bk cQ bl 37 #[I m.day,.slice AC m.curs.length cC,.slice AU m.unders.length cU,.slice AN m.instrs.length cN,.slice AA m.accts.length cA,.slice AP m.poss.length cP,.slice m.sOrd.A m.orders.length m.sOrd.c,.slice m.sAva.A m.avail.length m.sAva.c,.slice m.sLoc.A m.locs.length m.sLoc.c]):=bkS s 5 G
 have cE:Hid (Bk cQ bz 37 zZ):=by rw[G];exact cD.far (p:=Aq bl 5) (Ne.symm au) _
 have bw:=boO bv G s rfl
 have co:=boO cn G s rfl
 have bT:=boO bS G s rfl
 have bi:=boO bh G s rfl
 have cd:=boO cc G s rfl
 have b0:=boO bZ G s rfl
 have bE:=boO bD G s rfl
 have bI:=boO bH G s rfl
 clear G
 refine hK.out _ _ (fun h0=>Zac (by kernel_rfl) h0) ?_
 try simp only[Act.put,sA,sB,sC]
 refine onM 14 (by kernel_rfl) rfl fun K hK=>?_
 go_simp
 refine hK.out _ _ (fun h0=>Zac (by kernel_rfl) h0) ?_
 try simp only[Act.put,sA,sB,sC]
 refine onM 15 (by kernel_rfl) rfl fun K hK=>?_
 have aa:=z.nine
 go_simp
 clear aa
 obtain⟨cS,J⟩:=ExY (cQ.setCell ⟨bl,6,none⟩ (.slice AO m.orders.length cO))
 rw[←J]
 have a8:=blS a7 J Y
 have C:Hid (Bk cS bl 37 #[I m.day,.slice AC m.curs.length cC,.slice AU m.unders.length cU,.slice AN m.instrs.length cN,.slice AA m.accts.length cA,.slice AP m.poss.length cP,.slice AO m.orders.length cO,.slice m.sAva.A m.avail.length m.sAva.c,.slice m.sLoc.A m.locs.length m.sLoc.c]):=bkS z 6 J
 have cF:Hid (Bk cS bz 37 zZ):=by rw[J];exact cE.far (p:=Aq bl 6) (Ne.symm au) _
 have bx:=boO bw J z rfl
 have cp:=boO co J z rfl
 have bU:=boO bT J z rfl
 have bj:=boO bi J z rfl
 have ce:=boO cd J z rfl
 have b6:=boO b0 J z rfl
 have bF:=boO bE J z rfl
 have bJ:=boO bI J z rfl
 clear J
 refine hK.out _ _ (fun h0=>Zac (by kernel_rfl) h0) ?_
 try simp only[Act.put,sA,sB,sC]
 refine onM 16 (by kernel_rfl) rfl fun K hK=>?_
 go_simp
 refine hK.out _ _ (fun h0=>Zac (by kernel_rfl) h0) ?_
 try simp only[Act.put,sA,sB,sC]
 refine onM 17 (by kernel_rfl) rfl fun K hK=>?_
 have aa:=C.nine
 go_simp
 clear aa
 obtain⟨cT,N⟩:=ExY (cS.setCell ⟨bl,7,none⟩ (.slice AI m.avail.length cI))
 rw[←N]
 have a9:=blS a8 N Y
 have E:Hid (Bk cT bl 37 #[I m.day,.slice AC m.curs.length cC,.slice AU m.unders.length cU,.slice AN m.instrs.length cN,.slice AA m.accts.length cA,.slice AP m.poss.length cP,.slice AO m.orders.length cO,.slice AI m.avail.length cI,.slice m.sLoc.A m.locs.length m.sLoc.c]):=bkS C 7 N
 have cG:Hid (Bk cT bz 37 zZ):=by rw[N];exact cF.far (p:=Aq bl 7) (Ne.symm au) _
 have bA:=boO bx N C rfl
 have cq:=boO cp N C rfl
 have bV:=boO bU N C rfl
 have bn:=boO bj N C rfl
 have cf:=boO ce N C rfl
 have b7:=boO b6 N C rfl
 have bG:=boO bF N C rfl
 have bK:=boO bJ N C rfl
 clear N
 refine hK.out _ _ (fun h0=>Zac (by kernel_rfl) h0) ?_
 try simp only[Act.put,sA,sB,sC]
 refine onM 18 (by kernel_rfl) rfl fun K hK=>?_
 go_simp
 refine hK.out _ _ (fun h0=>Zac (by kernel_rfl) h0) ?_
 try simp only[Act.put,sA,sB,sC]
 refine onM 19 (by kernel_rfl) rfl fun K hK=>?_
 have aa:=E.nine
 go_simp
 clear aa
 obtain⟨am,R⟩:=ExY (cT.setCell ⟨bl,8,none⟩ (.slice AL m.locs.length cL))
 rw[←R]
 have aH:=blS a9 R Y
 have aF:Hid (Bk am bl 37 #[I m.day,.slice AC m.curs.length cC,.slice AU m.unders.length cU,.slice AN m.instrs.length cN,.slice AA m.accts.length cA,.slice AP m.poss.length cP,.slice AO m.orders.length cO,.slice AI m.avail.length cI,.slice AL m.locs.length cL]):=bkS E 8 R
 have cH:Hid (Bk am bz 37 zZ):=by rw[R];exact cG.far (p:=Aq bl 8) (Ne.symm au) _
 have bB:=boO bA R E rfl
 have cr:=boO cq R E rfl
 have bW:=boO bV R E rfl
 have bo:=boO bn R E rfl
 have cg:=boO cf R E rfl
 have b8:=boO b7 R E rfl
 have aM:=boO bG R E rfl
 have bL:=boO bK R E rfl
 clear R
 refine hK.out _ _ (fun h0=>Zac (by kernel_rfl) h0) ?_
 try simp only[Act.put,sA,sB,sC]
 refine Zak (by kernel_rfl) ?_ _
 obtain⟨S0,cV⟩:=ExY am.heap.size
 obtain⟨MF,aX⟩:∃MF:List ZaA→Zab,MF=fun l=>({m with accts:=l,sCur:=⟨AC,cC⟩,sUnd:=⟨AU,cU⟩,sIns:=⟨AN,cN⟩,sAcc:=⟨AA,cA⟩,sPos:=⟨AP,cP⟩,sOrd:=⟨AO,cO⟩,sAva:=⟨AI,cI⟩,sLoc:=⟨AL,cL⟩}:Zab):=⟨_,rfl⟩
 obtain⟨an,aZ⟩:=ExY m.accts.length
 have h0:ZbU w am S0 (MF m.accts) 0:=by
  rw[aX,cV]
  exact⟨bB,cr,bW,bo,cg,b8,aM,bL,aH.size,fun q hq=>(ZaP aM q hq).2,fun i x _ hi=>absurd hi (Nat.not_lt_zero i),fun i j x y p q _ _ _ hj=>absurd hj (Nat.not_lt_zero j),fun i x hx _=>(c5.out x (List.mem_of_getElem? hx)).1,fun x hx=>(c5.out x hx).2,c6⟩
 have dT:Hid (∃l:List ZaA,l.length=an∧Zbj m (MF l)∧ZbU w am S0 (MF l) 0∧S0≤am.heap.size):=⟨m.accts,aZ.symm,by rw[aX];exact⟨rfl,rfl,rfl,rfl,rfl,rfl,rfl,rfl,rfl⟩,h0,by rw[cV];exact Nat.le_refl _⟩
 have aq:=Hi aX
 have cY:Hid (an≤1000000):=by rw[aZ];exact c6.2.2.2.1
 rw[←aZ] at aF
 have dI:Hid (Bw w am∧Bk am bl 37 #[I m.day,.slice AC m.curs.length cC,.slice AU m.unders.length cU,.slice AN m.instrs.length cN,.slice AA an cA,.slice AP m.poss.length cP,.slice AO m.orders.length cO,.slice AI m.avail.length cI,.slice AL m.locs.length cL]∧Bk am bz 37 zZ):=⟨aH,aF,cH⟩
 clear h0 cV aX
 have aN:=aF.nine
 have i0:(0:Int)≤(an:Int):=by omega
 clear aZ
 go_upto_region 3 with(fail)
 go_upto_region 4 with(fail)
 clear aN
 go_loopw [39] (fun cX wr=>∃(v:Nat) (l:List ZaA),v≤an∧cX=I v∧Hid (l.length=an∧Zbj m (MF l)∧ZbU w wr S0 (MF l) v∧S0≤wr.heap.size)∧Hid (Bw w wr∧Bk wr bl 37 #[I m.day,.slice AC m.curs.length cC,.slice AU m.unders.length cU,.slice AN m.instrs.length cN,.slice AA an cA,.slice AP m.poss.length cP,.slice AO m.orders.length cO,.slice AI m.avail.length cI,.slice AL m.locs.length cL]∧Bk wr bz 37 zZ)) (fun cX _=>an-(intOf cX).toNat)
 case atStart=>
  obtain⟨l,h1,h2,h3,h4⟩:=dT.out
  exact⟨0,l,Nat.zero_le _,rfl,⟨h1,h2,h3,h4⟩,dI⟩
 case round=>
  obtain⟨v,l,hv,rfl,HL,HB⟩:=hrel
  rename World=>V
  have aT:Hid (Bw w V):=HB.1
  have aw:Hid (Bk V bl 37 #[I m.day,.slice AC m.curs.length cC,.slice AU m.unders.length cU,.slice AN m.instrs.length cN,.slice AA an cA,.slice AP m.poss.length cP,.slice AO m.orders.length cO,.slice AI m.avail.length cI,.slice AL m.locs.length cL]):=HB.2.1
  have aG:Hid (Bk V bz 37 zZ):=HB.2.2
  clear HB
  have wv:wrap64 ((v:Int)+1)=(v:Int)+1:=by have:=cY.out;unfold wrap64;omega
  have WV:=Hi wv
  clear wv
  by_cases cW:v<an
  ·have aS:v<l.length:=by rw[HL.1];exact cW
   have aR:(MF l).accts=l:=by rw[aq.out]
   have dH:v<(MF l).accts.length:=by rw[aR];exact aS
   have hA:(MF l).sAcc=⟨AA,cA⟩:=by rw[aq.out]
   have ho:=HL.2.2.1.accts
   rw[hA] at ho
   dsimp only at ho
   rw[aR] at ho
   obtain⟨g,hg,_,dC,_⟩:=Zbb ho (by omega)
   subst hg
   obtain⟨x,hx⟩:=ExY (l[v])
   have c1:=(Zbh ho (v*4+1) (by omega)).1
   have f1:=(Zbh ho (v*4+1) (by omega)).2
   rw[Zb3 Zc4 l v aS 1 (by decide),←hx] at c1
   have dB:V.cell? (Aq g (v*4+1))=some (.slice x.A x.cash.length x.c):=c1
   have a3:Rd w w.heap.size 1 x.A x.cash.length (Zag x.cash):=HL.2.2.1.old v x (by rw[aR,hx];exact List.getElem?_eq_getElem aS) (Nat.le_refl _)
   have dD:x.cash.length≤1000000:=HL.2.2.1.len x (by rw[aR,hx];exact List.getElem_mem _)
   have c4:Hid (∀U,Bw w U→Calls prog 18 #[.slice x.A x.cash.length x.c] U fun r w'=>∃A' c',r=.returned (.slice A' x.cash.length c')∧x.cash.length≤c'∧c'≤maxLen∧w'.ownsRow U.heap.size 3 1 (.slice A' x.cash.length c') x.cash.length (Zag x.cash)∧Bw U w'):=
    fun U hU=>L.cloneI_any _ _ _ _ U (Ze4 _) (by omega) ((a3.below hU).mono hU.size)
   have HX:Hid (l[v]?=some x):=by show _=_;rw[hx];exact List.getElem?_eq_getElem aS
   have C1:=Hi dB
   have F1:=Hi f1
   have i1:(v:Int)<(an:Int):=by omega
   have aV:=Hi cW
   have i2:(0:Int)≤(v:Int):=by omega
   have aN:=aw.nine
   clear ho c1 dB f1 a3 dD hx aR dH hA aS cW
   go_upto_region 6 with(fail)
   clear aN
   refine Zbf (fun U=>U.cell? (Aq bl 4)=some (.slice (some (Aq g 0)) an cA)∧U.cell? (Aq g (v*4+1))=some (.slice x.A x.cash.length x.c)) 12 (by kernel_rfl) ?_
   refine tkM [0,1,2,3,4,5,6,7,8] (⟨aw.cell 4,C1⟩) (by kernel_rfl) (fun _ _ _ _ h=>h) ?_
   iterate 9 (refine ycM rfl (by rfl) (fun w h=>by go_simp<;>rfl) ?_;try simp only[Act.put,sA,sB,sC])
   refine onM 9 (by kernel_rfl) rfl fun K hK=>?_
   go_simp
   refine(c4.out _ aT.drew).mono ?_
   rintro e W1 ⟨A1,c1,rfl,h1,h2,ho,hb⟩
   dsimp only
   have aA:Hid (Below V.drew.heap.size V.drew W1):=hb
   have dS:=Hi ho
   clear hb ho h1 h2
   have ba:Hid (W1.cell? (Aq bl 4)=some (.slice (some (Aq g 0)) an cA)):=(aw.drew.below aA aw.drew.lt).cell 4
   have aU:Hid (W1.cell? (Aq g (v*4+1))=some (.slice x.A x.cash.length x.c)):=(aA.cell (p:=Aq g (v*4+1)) dC).trans C1
   have dR:Hid (W1.frozen? (Aq g (v*4+1))=false):=(aA.frozen (p:=Aq g (v*4+1)) dC).trans F1
   refine hK.out _ _ (fun _=>⟨ba,aU⟩) ?_
   try simp only[Act.put,sA,sB,sC]
   refine onM 10 (by kernel_rfl) rfl fun K hK=>?_
   go_simp
   refine hK.out _ _ (fun _=>⟨ba,aU⟩) ?_
   try simp only[Act.put,sA,sB,sC]
   refine onM 11 (by kernel_rfl) rfl fun K hK=>?_
   go_simp
   refine hK.out _ _ (fun _=>⟨ba,aU⟩) ?_
   try simp only[Act.put,sA,sB,sC]
   have d2:=aU.out
   have d3:=dR.out
   refine onM 12 (by kernel_rfl) rfl fun K hK=>?_
   go_simp
   refine hK.out _ _ (fun h0=>Zac (by kernel_rfl) h0) ?_
   try simp only[Act.put,sA,sB,sC]
   refine Zak (by kernel_rfl) ?_ _
   obtain⟨W2,aj⟩:=ExY (W1.setCell ⟨g,v*4+1,none⟩ (.slice A1 x.cash.length c1))
   rw[←aj]
   have KK:Hid ((l.set v {x with A:=A1,c:=c1}).length=an∧Zbj m (MF (l.set v {x with A:=A1,c:=c1}))∧ZbU w W2 S0 (MF (l.set v {x with A:=A1,c:=c1})) (v+1)∧S0≤W2.heap.size):=
    ZjA (mk:={m with sCur:=⟨AC,cC⟩,sUnd:=⟨AU,cU⟩,sIns:=⟨AN,cN⟩,sAcc:=⟨none,0⟩,sPos:=⟨AP,cP⟩,sOrd:=⟨AO,cO⟩,sAva:=⟨AI,cI⟩,sLoc:=⟨AL,cL⟩}) MF w V W1 W2 S0 m l x v an g cA c1 A1 aq HL HX aV dS aA aj
   have KB:Hid (Bw w W2∧Bk W2 bl 37 #[I m.day,.slice AC m.curs.length cC,.slice AU m.unders.length cU,.slice AN m.instrs.length cN,.slice (some (Aq g 0)) an cA,.slice AP m.poss.length cP,.slice AO m.orders.length cO,.slice AI m.avail.length cI,.slice AL m.locs.length cL]∧Bk W2 bz 37 zZ):=by
    have dF:g≠bl:=by
     obtain⟨cs,_,_,hb⟩:=ZaK HL.2.2.1.accts (p:=⟨g,0,none⟩) (by rw[aq.out])
     exact hb.ne aw (by decide)
    have dG:g≠bz:=by
     obtain⟨cs,_,_,hb⟩:=ZaK HL.2.2.1.accts (p:=⟨g,0,none⟩) (by rw[aq.out])
     exact hb.ne aG (by decide)
    have dY:w.heap.size≤g:=by
     obtain⟨cs,_,h,_⟩:=ZaK HL.2.2.1.accts (p:=⟨g,0,none⟩) (by rw[aq.out])
     exact h
    have b1:Bw w W1:=aT.drew.trans (aA.mono aT.size)
    rw[aj]
    exact⟨b1.setCell dY _,(aw.drew.below aA aw.lt).far (p:=Aq g (v*4+1)) (Ne.symm dF) _,(aG.drew.below aA aG.lt).far (p:=Aq g (v*4+1)) (Ne.symm dG) _⟩
   clear aj
   go_wp2
   go_roundw
   case rel=>exact⟨v+1,l.set v {x with A:=A1,c:=c1},by have:=aV.out;omega,by rw[WV.out];go_num,KK,KB⟩
   case measure=>first|exact Zba aV|(rw[WV.out];exact Zba aV)
  ·have d0:an=v:=by omega
   subst d0
   go_wp2_with (first|refine wpList_load_row rfl 37 _ rfl bl rfl 37 #[I m.day,.slice AC m.curs.length cC,.slice AU m.unders.length cU,.slice AN m.instrs.length cN,.slice AA an cA,.slice AP m.poss.length cP,.slice AO m.orders.length cO,.slice AI m.avail.length cI,.slice AL m.locs.length cL] (0,0) _ aw underlying37 rfl ZaU ?_|refine wpList_store_row rfl 37 _ _ rfl bz #[I m.day,.slice AC m.curs.length cC,.slice AU m.unders.length cU,.slice AN m.instrs.length cN,.slice AA an cA,.slice AP m.poss.length cP,.slice AO m.orders.length cO,.slice AI m.avail.length cI,.slice AL m.locs.length cL] rfl rfl 37 zZ aG ZaU (by rfl) (by simp[Value.oneCell']) ?_)
   obtain⟨V9,aY⟩:=ExY (V.setRow bz #[I m.day,.slice AC m.curs.length cC,.slice AU m.unders.length cU,.slice AN m.instrs.length cN,.slice AA an cA,.slice AP m.poss.length cP,.slice AO m.orders.length cO,.slice AI m.avail.length cI,.slice AL m.locs.length cL])
   rw[←aY]
   have d1:=bkr aG aY
   have dX:=blr aT aY cJ
   have dZ:Zaa V9 w.heap.size (MF l):=by
    rw[aY]
    refine(ZbU.done (S0:=S0) ?_).rowFar aG (by decide) _
    have e:(MF l).accts.length=an:=by rw[aq.out];exact HL.1
    rw[e]
    exact HL.2.2.1
   have e9:(MF l).val=.agg #[I m.day,.slice AC m.curs.length cC,.slice AU m.unders.length cU,.slice AN m.instrs.length cN,.slice AA an cA,.slice AP m.poss.length cP,.slice AO m.orders.length cO,.slice AI m.avail.length cI,.slice AL m.locs.length cL]:=by rw[aq.out];unfold Zab.val Zab.cs;dsimp only;rw[HL.1]
   refine bodyPost_ret (results_cell_row (p:=2) results9 _ V9 bz 37 #[I m.day,.slice AC m.curs.length cC,.slice AU m.unders.length cU,.slice AN m.instrs.length cN,.slice AA an cA,.slice AP m.poss.length cP,.slice AO m.orders.length cO,.slice AI m.avail.length cI,.slice AL m.locs.length cL] (0,0) _ rfl d1 underlying37 rfl ZaU) rfl ⟨MF l,?_,HL.2.1,dZ,dX⟩
   rw[e9]
end Go.Proofs.YtdefojlkofnloaaGreatDoor
