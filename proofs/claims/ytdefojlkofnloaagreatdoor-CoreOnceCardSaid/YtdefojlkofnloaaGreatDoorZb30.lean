/- A part of the proof of CoreOnce: for every input, no condition. -/
import Derived.Test.YtdefojlkofnloaaGreatDoorZb29
set_option maxRecDepth 100000
set_option maxHeartbeats 8000000
set_option linter.unusedVariables false
set_option linter.unusedSimpArgs false
namespace Go.Proofs.YtdefojlkofnloaaGreatDoor
open Go.RowKit Go.Proofs.Tryz
theorem Zks{av:List Int}{i q:Int}(h:(L.supplyS av i q).2=0):0≤i∧i<av.length∧(L.supplyS av i q).1.length=av.length:=by
 unfold L.supplyS at h ⊢
 by_cases h1:i<0∨(av.length:Int)≤i
 ·rw[if_pos h1] at h;cases h
 rw[if_neg h1] at h ⊢
 split at h
 ·cases h
 ·rename_i h2
  rw[if_neg h2]
  exact⟨by omega,by omega,by simp⟩
theorem Zjb{av:List Int}{l:List L.Lc}{a i q:Int}(h:(L.reserveS av l a i q).2.2=0)(s:l.length≤1000):(L.reserveS av l a i q).1.length=av.length∧(L.reserveS av l a i q).2.1.length≤1000000:=by
 unfold L.reserveS at h ⊢
 by_cases h1:i<0∨(av.length:Int)≤i
 ·rw[if_pos h1] at h;cases h
 rw[if_neg h1] at h ⊢
 split at h
 ·cases h
 rename_i h2
 rw[if_neg h2]
 split at h
 ·cases h
 rename_i h3
 rw[if_neg h3]
 split at h
 ·cases h
 rename_i h4
 rw[if_neg h4]
 split at h
 ·cases h
 rename_i h5
 rw[if_neg h5]
 refine⟨by simp,?_⟩
 unfold L.putL
 simp only[List.length_append,List.length_take,List.length_drop]
 split<;>simp<;>omega
theorem Zdj{m:Zab}(h:Za2 m=true):m.avail.all L.fitsQ=true∧ZcV (L.tidyAt m.locs) m.locs.length=true∧m.avail.length=m.instrs.length∧m.locs.length≤32:=by
 have hl:=(ZbI h).2.2.2.2.2.1
 unfold L.goodB L.tidyB at hl
 simp only[Bool.and_eq_true,decide_eq_true_eq] at hl
 exact⟨hl.2.1.1,hl.2.1.2,by omega,hl.1.2⟩
theorem Zh2{w:World}{base:Nat}{m:Zab}(h:Zaa w base m){i:Nat}(hi:i<m.avail.length):∃g,m.sAva.A=some (Aq g 0)∧w.cell? (Aq g i)=some (I (m.avail.getD i 0)):=by
 obtain⟨g,hg,_,_,_⟩:=Zbb h.avail (by omega)
 have c:=(Zbh (hg▸h.avail) i (by omega)).1
 rw[Zcx _ i hi] at c
 exact⟨g,hg,c⟩
theorem Zh8(m:Zab)(s qty:Int)(B pl bi bq:Nat)(w:World)(hB:B≤w.heap.size)(aE:Bk w pl 37 m.ar)(ho:Zaa w B m)(hg:Za2 m=true)(aC:Bk w bi 3 #[I s])(aD:Bk w bq 3 #[I qty])(aL:bi<B)(aM:bq<B):
 Calls prog 78 #[Pt pl,Pt bi,Pt bq] w (Zbx 164 37 B pl (fun m' _=>Zax m m') True w):=by
 have an:=Hi hB
 have aH:=Hi hg
 have aF:=Hi ho.short.2.2.2.2.2.2.1
 have ah:=Hi aE
 have aw:=Hi ho
 have ad:=Hi aC
 have af:=Hi aD
 clear hB aE ho hg aC aL aD aM
 have ao:Hid (ZaC B pl w w):=ZaC.refl _ _ _
 go_enter func78,ntmps78
 have R:=ah.nine
 have J:=ad.one
 have N:=af.one
 go_upto_region 1 with(fail)
 obtain⟨⟨ls,er⟩,am⟩:∃p,p=L.supplyS m.avail s qty:=⟨_,rfl⟩
 have Z:∀V,Zay V V.heap.size m→Calls prog 79 #[.slice m.sAva.A m.avail.length m.sAva.c,I s,I qty] V (L.SupOut V (L.supplyS m.avail s qty)):=fun V h=>L.supply_any _ _ _ _ _ _ V (Zdj aH).1 (by have:=h.short.2.2.2.2.2.2.1;omega) h.avail
 rw[←am] at Z
 have az:=Hi Z
 have au:=Hi am
 clear Z am
 clear R J N
 obtain⟨W1,E⟩:=ExY w.drew
 have aa:=bhD ao E
 have ai:=bkD ah E
 have ae:=bkD ad E
 have ag:=bkD af E
 have U:=boD aw E
 refine rgK (by kernel_rfl) E (CsA ai 7 rfl (CsA ae 0 rfl (CsB ag 0 rfl))) fun C=>?_
 clear E
 refine tkH [0,1,2,3,4,5] C (by kernel_rfl) (fun _ _ _ _ h=>h) ?_
 iterate 6 (refine ycH rfl (by rfl) (fun w h=>by simp only[Cs] at h;go_simp<;>rfl) ?_;try simp only[Act.put,sA,sB,sC])
 refine onH 6 (by kernel_rfl) rfl fun K hK=>?_
 go_simp
 refine(az.out _ U.rd).mono ?_
 rintro e W2 ⟨A1,c1,rfl,h1,h2,ho,hb⟩
 dsimp only at ho h1
 have aG:Hid (∀x∈m.accts,∀(p q:Addr),x.A=some p→A1=some q→p.block≠q.block):=fun x hx p q hp hq=>by
  have h3:=(ZaP (U.cash x hx).1 p hp).2
  have h4:=(ZaP ho q hq).1
  omega
 have aI:=Hi (Zap ho (Nat.le_trans an aa.size))
 clear h1 h2 ho
 have ab:=bhU aa an hb
 have z:=bkN ai hb
 have X:=bkN ae hb
 have Y:=bkN ag hb
 have ax:=boN U hb
 clear hb
 have ay:Hid (W2.ownsRow B 3 1 (.slice A1 ls.length c1) ls.length (Zag ls)):=aI.out
 dsimp only
 refine hK.out _ _ (⟨z.cell 7,X.cell 0,Y.cell 0⟩) (fun C=>?_)
 try simp only[Act.put,sA,sB,sC]
 refine tkH [7,8,9,10,11] C (by kernel_rfl) (fun _ _ _ _ h=>h) ?_
 iterate 5 (refine ycH rfl (by rfl) (fun w h=>by simp only[Cs] at h;go_simp<;>rfl) ?_;try simp only[Act.put,sA,sB,sC])
 refine wpAnyH_done (by kernel_rfl) ?_ _
 clear C
 by_cases al:er=0
 rotate_left
 ·go_wp2_with fail
  refine Cq (ZcJ er al _) ?_
  dsimp only
  go_wp2
  exact⟨rfl,ab,m,z,.inr ⟨er,al,rfl,trivial⟩⟩
 subst al
 go_wp2_with fail
 refine Cq (Zda _) ?_
 dsimp only
 obtain⟨i0,i1,i2⟩:=Zks (av:=m.avail) (i:=s) (q:=qty) (by rw[←au.out])
 rw[←au.out] at i2
 obtain⟨k,rfl⟩:∃q:Nat,s=(q:Int):=ZaW i0
 have HI:=Hi i1
 have ak:Hid (ls.length=m.avail.length):=i2
 have aq:Hid (ls.length≤1000000):=by
  have:=aF.out
  show ls.length≤_
  rw[ak.out]
  exact this
 clear i0 i1 i2
 have R:=z.nine
 have J:=X.one
 have N:=Y.one
 go_upto_region 4 with(fail)
 obtain⟨W3,G⟩:=ExY (W2.setCell ⟨pl,7,none⟩ (.slice A1 ls.length c1))
 rw[←G]
 have ap:=bhI ab G
 have aj:Hid (Bk W3 pl 37 (m.ar_I (.slice A1 ls.length c1))):=bkS z 7 G
 have aA:Hid (Bk W3 bi 3 #[I k]):=bkF X G z rfl
 have aB:=bkF Y G z rfl
 have ac:Hid (Zaa W3 B {m with avail:=ls,sAva:=⟨A1,c1⟩}):=by rw[G];exact(Zaa.far (Zaa.setAva ax ay aq aG) z (by decide) 7 _)
 clear R J N
 clear G
 have R:=aj.nine
 have J:=aA.one
 have N:=aB.one
 obtain⟨g,hA,aK⟩:=Zh2 ac (i:=k) (by have h1:=HI.out;have h2:=ak.out;show k<ls.length;omega)
 have aJ:A1=some (Aq g 0):=hA
 subst aJ
 have k0:(0:Int)≤(k:Int):=Int.natCast_nonneg k
 have k1:(k:Int)<(ls.length:Int):=by rw[ak.out];exact HI
 clear hA
 go_wp2
 go_ret
 exact⟨ap,{m with avail:=ls,sAva:=⟨some (Aq g 0),c1⟩},aj,.inl ⟨_,rfl,ac,Zax.same rfl rfl rfl⟩⟩
theorem Zhs(m:Zab)(acct G qty:Int)(B pl ba bi bq:Nat)(w:World)(hB:B≤w.heap.size)(a8:Bk w pl 37 m.ar)(ho:Zaa w B m)(hg:Za2 m=true)(a5:Bk w ba 3 #[I acct])(a6:Bk w bi 3 #[I G])(a7:Bk w bq 3 #[I qty])(be:ba<B)(bf:bi<B)(bg:bq<B):
 Calls prog 80 #[Pt pl,Pt ba,Pt bi,Pt bq] w (Zbx 164 37 B pl (fun m' _=>Zax m m') True w):=by
 have ao:=Hi hB
 have aF:=Hi hg
 have a9:=Hi ho.short.2.2.2.2.2.2.1
 have ae:=Hi a8
 have aO:=Hi ho
 have ad:=Hi a5
 have ax:=Hi a6
 have aA:=Hi a7
 clear hB a8 ho hg a5 be a6 bf a7 bg
 have af:Hid (ZaC B pl w w):=ZaC.refl _ _ _
 go_enter func80,ntmps80
 have U:=ae.nine
 have J:=ad.one
 have N:=ax.one
 have R:=aA.one
 go_upto_region 1 with(fail)
 by_cases d1:1<acct
 rotate_left
 ·clear U J N R
  obtain⟨W1,z⟩:=ExY w.drew
  have Z:=bhD af z
  have E:=bkD ae z
  have X:=bkD ad z
  refine rgK (by kernel_rfl) z (CsA X 0 rfl (CsB E 4 rfl)) fun s=>?_
  clear z
  refine tkH [0,1,2,3,4,5,6,7,8,9,10] s (by kernel_rfl) (fun _ _ _ _ h=>h) ?_
  iterate 11 ((first|refine ycH rfl (by rfl) (fun w h=>by simp only[Cs] at h;go_simp<;>rfl) ?_|refine ncH rfl (by rfl) ?_);try simp only[Act.put,sA,sB,sC])
  refine onH 11 (by kernel_rfl) rfl fun K hK=>?_
  go_simp
  refine Cq (Zat 33 _) ?_
  dsimp only
  go_wp2
  exact⟨rfl,Z,m,E,.inr ⟨33,(by decide),rfl,trivial⟩⟩
 by_cases d2:acct<(m.accts.length:Int)
 rotate_left
 ·clear U J N R
  obtain⟨W1,z⟩:=ExY w.drew
  have Z:=bhD af z
  have E:=bkD ae z
  have X:=bkD ad z
  refine rgK (by kernel_rfl) z (CsA X 0 rfl (CsB E 4 rfl)) fun s=>?_
  clear z
  refine tkH [0,1,2,3,4,5,6,7,8,9,10] s (by kernel_rfl) (fun _ _ _ _ h=>h) ?_
  iterate 11 (refine ycH rfl (by rfl) (fun w h=>by simp only[Cs] at h;go_simp<;>rfl) ?_;try simp only[Act.put,sA,sB,sC])
  refine onH 11 (by kernel_rfl) rfl fun K hK=>?_
  go_simp
  refine Cq (Zat 33 _) ?_
  dsimp only
  go_wp2
  exact⟨rfl,Z,m,E,.inr ⟨33,(by decide),rfl,trivial⟩⟩
 clear U J N R
 obtain⟨W1,z⟩:=ExY w.drew
 have Z:=bhD af z
 have E:=bkD ae z
 have X:=bkD ad z
 have aZ:=bkD ax z
 have a2:=bkD aA z
 have aP:=boD aO z
 refine rgK (by kernel_rfl) z (CsA X 0 rfl (CsB E 4 rfl)) fun s=>?_
 clear z
 refine tkH [0,1,2,3,4,5,6,7,8,9,10] s (by kernel_rfl) (fun _ _ _ _ h=>h) ?_
 iterate 11 (refine ycH rfl (by rfl) (fun w h=>by simp only[Cs] at h;go_simp<;>rfl) ?_;try simp only[Act.put,sA,sB,sC])
 refine onH 11 (by kernel_rfl) rfl fun K hK=>?_
 go_simp
 refine Cq (ZaV 33 _) ?_
 dsimp only
 refine hK.out _ _ (⟨X.cell 0,E.cell 4⟩) (fun s=>?_)
 try simp only[Act.put,sA,sB,sC]
 refine wpAnyH_done (by kernel_rfl) ?_ _
 clear s
 obtain⟨⟨ls,lo,er⟩,aH⟩:∃p,p=L.reserveS m.avail m.locs acct G qty:=⟨_,rfl⟩
 have an:∀V,Zay V V.heap.size m→Calls prog 81 #[.slice m.sAva.A m.avail.length m.sAva.c,.slice m.sLoc.A m.locs.length m.sLoc.c,I acct,I G,I qty] V (L.ResOut V (L.reserveS m.avail m.locs acct G qty)):=fun V h=>
  L.reserve_any _ _ _ _ _ _ _ _ _ _ _ V (Zdj aF).1 (Zdj aF).2.1 (by have:=h.short.2.2.2.2.2.2.1;omega) h.short.2.2.2.2.2.2.2 h.avail h.locs
 rw[←aH] at an
 have aW:=Hi an
 have aN:=Hi aH
 clear an aH
 go_upto_region 2 with(fail)
 obtain⟨W2,ab⟩:=ExY W1.drew
 have ag:=bhD Z ab
 have am:=bkD E ab
 have au:=bkD X ab
 have ay:=bkD aZ ab
 have aB:=bkD a2 ab
 have ai:=boD aP ab
 refine rgK (by kernel_rfl) ab (CsA am 7 rfl (CsA am 8 rfl (CsA au 0 rfl (CsA ay 0 rfl (CsB aB 0 rfl))))) fun s=>?_
 clear ab
 refine tkH [0,1,2,3,4,5,6,7,8,9,10] s (by kernel_rfl) (fun _ _ _ _ h=>h) ?_
 iterate 11 (refine ycH rfl (by rfl) (fun w h=>by simp only[Cs] at h;go_simp<;>rfl) ?_;try simp only[Act.put,sA,sB,sC])
 refine onH 11 (by kernel_rfl) rfl fun K hK=>?_
 go_simp
 refine(aW.out _ ai.rd).mono ?_
 rintro e W3 ⟨A1,c1,A2,c2,rfl,h1,h2,h3,h4,ho,aI,hb⟩
 dsimp only at ho aI h1 h3
 have bb:Hid (∀x∈m.accts,∀(p q:Addr),x.A=some p→A1=some q→p.block≠q.block):=fun x hx p q hp hq=>by
  have h3:=(ZaP (ai.cash x hx).1 p hp).2
  have h4:=(ZaP ho q hq).1
  omega
 have bc:=Hi (Zap ho (Nat.le_trans ao ag.size))
 have bd:=Hi (Zap aI (Nat.le_trans ao ag.size))
 clear h1 h2 h3 h4 ho aI
 have ap:=bhU ag ao hb
 have C:=bkN am hb
 have aj:=bkN au hb
 have ak:=bkN ay hb
 have al:=bkN aB hb
 have aQ:=boN ai hb
 clear hb
 have aT:Hid (W3.ownsRow B 3 1 (.slice A1 ls.length c1) ls.length (Zag ls)):=bc.out
 have aU:Hid (W3.ownsRow B 72 3 (.slice A2 lo.length c2) lo.length (L.lcs lo)):=bd.out
 dsimp only
 refine hK.out _ _ (⟨C.cell 7,C.cell 8,aj.cell 0,ak.cell 0,al.cell 0⟩) (fun s=>?_)
 try simp only[Act.put,sA,sB,sC]
 refine tkH [12,13,14,15,16,17,18] s (by kernel_rfl) (fun _ _ _ _ h=>h) ?_
 iterate 7 (refine ycH rfl (by rfl) (fun w h=>by simp only[Cs] at h;go_simp<;>rfl) ?_;try simp only[Act.put,sA,sB,sC])
 refine wpAnyH_done (by kernel_rfl) ?_ _
 clear s
 by_cases aG:er=0
 rotate_left
 ·go_wp2_with fail
  refine Cq (ZcJ er aG _) ?_
  dsimp only
  go_wp2
  exact⟨rfl,ap,m,C,.inr ⟨er,aG,rfl,trivial⟩⟩
 subst aG
 go_wp2_with fail
 refine Cq (Zda _) ?_
 dsimp only
 obtain⟨i1,i2⟩:=Zjb (av:=m.avail) (l:=m.locs) (a:=acct) (i:=G) (q:=qty) (by rw[←aN.out]) (Nat.le_trans (Zdj aF).2.2.2 (by decide))
 rw[←aN.out] at i1 i2
 have ah:Hid (lo.length≤1000000):=i2
 have aM:Hid (ls.length≤1000000):=by
  have:=a9.out
  have i3:ls.length=m.avail.length:=i1
  show ls.length≤_
  rw[i3]
  exact this
 clear i1 i2
 have U:=C.nine
 have J:=aj.one
 have N:=ak.one
 have R:=al.one
 go_upto_region 5 with(fail)
 obtain⟨W4,Y⟩:=ExY (W3.setCell ⟨pl,7,none⟩ (.slice A1 ls.length c1))
 rw[←Y]
 have aJ:=bhI ap Y
 have aa:Hid (Bk W4 pl 37 (m.ar_I (.slice A1 ls.length c1))):=bkS C 7 Y
 have aX:=bkF aj Y C rfl
 have a0:=bkF ak Y C rfl
 have a3:=bkF al Y C rfl
 have aR:Hid (Zaa W4 B {m with avail:=ls,sAva:=⟨A1,c1⟩}):=by rw[Y];exact(Zaa.far (Zaa.setAva aQ aT aM bb) C (by decide) 7 _)
 have aV:=boO aU Y C rfl
 clear U J N R
 clear Y
 obtain⟨W5,ac⟩:=ExY (W4.setCell ⟨pl,8,none⟩ (.slice A2 lo.length c2))
 rw[←ac]
 have aK:=bhI aJ ac
 have aD:Hid (Bk W5 pl 37 #[I m.day,.slice m.sCur.A m.curs.length m.sCur.c,.slice m.sUnd.A m.unders.length m.sUnd.c,.slice m.sIns.A m.instrs.length m.sIns.c,.slice m.sAcc.A m.accts.length m.sAcc.c,.slice m.sPos.A m.poss.length m.sPos.c,.slice m.sOrd.A m.orders.length m.sOrd.c,.slice A1 ls.length c1,.slice A2 lo.length c2]):=bkS aa 8 ac
 have aw:=bkF aX ac aa rfl
 have az:=bkF a0 ac aa rfl
 have aC:=bkF a3 ac aa rfl
 have aq:Hid (Zaa W5 B {m with avail:=ls,sAva:=⟨A1,c1⟩,locs:=lo,sLoc:=⟨A2,c2⟩}):=by rw[ac];exact(Zaa.far (Zaa.setLoc aR aV ah) aa (by decide) 8 _)
 clear ac
 have U:=aD.nine
 have J:=aw.one
 have N:=az.one
 have R:=aC.one
 go_wp2_with fail
 refine(L.held_any A2 lo.length c2 lo acct G _ (ZbR ah) aq.rd.locs).mono ?_
 rintro e W6 ⟨rfl,hb⟩
 have aL:=bhU aK ao hb
 have aE:=bkN aD hb
 have aY:=bkN aw hb
 have a1:=bkN az hb
 have a4:=bkN aC hb
 have aS:=boN aq hb
 clear U J N R
 clear hb
 have U:=aE.nine
 have J:=aY.one
 have N:=a1.one
 have R:=a4.one
 dsimp only
 go_wp2
 go_ret
 exact⟨aL,{m with avail:=ls,sAva:=⟨A1,c1⟩,locs:=lo,sLoc:=⟨A2,c2⟩},aE,.inl ⟨_,rfl,aS,Zax.same rfl rfl rfl⟩⟩
theorem supply_any(m:Zab)(s qty:Int)(w:World)(hm:Zay w w.heap.size m)(ak:Gl w):
 Calls prog 37 #[m.val,I s,I qty] w (Zar (Zaj m (fun m1 m2 _=>Zax m1 m2)) (Zas m (fun m1 m2 _=>Zax m1 m2) (fun _=>True)) w):=by
 show Calls prog 37 #[.agg m.ar,I s,I qty] w (Zar (Zaj m (fun m1 m2 _=>Zax m1 m2)) (Zas m (fun m1 m2 _=>Zax m1 m2) (fun _=>True)) w)
 obtain⟨W1,N⟩:=ExY (w.alloc (.cells m.ar 37))
 obtain⟨bl,Z⟩:=ExY w.heap.size
 have al:=blB N
 have ao:=bkW N Z
 obtain⟨W2,L⟩:=ExY (W1.alloc (.cells #[I s] 3))
 obtain⟨bi,Y⟩:=ExY W1.heap.size
 have am:=blA al L
 have ap:=bkA ao L
 have ab:=bkW L Y
 have ae:bi=bl+1:=by rw[Y,N,World.size_alloc,←Z]
 obtain⟨W3,C⟩:=ExY (W2.alloc (.cells #[I qty] 3))
 obtain⟨bq,R⟩:=ExY W2.heap.size
 have aw:Hid (bq≠bi):=by
  have h:=ab.lt
  show bq≠bi
  rw[R]
  exact Ne.symm (Nat.ne_of_lt h)
 have aa:=blA am C
 have ac:=bkA ap C
 have an:=bkA ab C
 have au:=bkW C R
 have af:bq=bi+1:=by rw[R,L,World.size_alloc,←Y]
 obtain⟨W4,E⟩:=ExY (W3.alloc (.cells zZ 37))
 obtain⟨bz,U⟩:=ExY W3.heap.size
 have ax:Hid (bz≠bl):=by
  have h:=ac.lt
  show bz≠bl
  rw[U]
  exact Ne.symm (Nat.ne_of_lt h)
 have ai:=blZ aa U
 have z:=blA aa E
 have aq:=bkA ac E
 have G:=bkA an E
 have J:=bkA au E
 have ad:=bkW E U
 have ag:bz=bq+1:=by rw[U,C,World.size_alloc,←R]
 have HT:Hid (Calls prog 60 #[.agg m.ar,.func (.func 78) #[] #[Pt bi,Pt bq]] W4 (Zar (Zaj m (fun m1 m2 _=>Zax m1 m2)) (Zas m (fun m1 m2 _=>Zax m1 m2) (fun _=>True)) W4)):=Hi (ZbQ 78 #[Pt bi,Pt bq] m (fun m1 m2 _=>Zax m1 m2) (fun _=>True) W4 ((hm.below z).mono z.size) (ak.below z ak.lt) (fun pl W=>by kernel_rfl) (by
  intro m1 B pl W hp
  exact Zh8 m1 s qty B pl bi bq W hp.size hp.bk hp.own hp.good (G.below hp.below G.lt) (J.below hp.below J.lt) (Nat.lt_of_lt_of_le G.lt hp.base) (Nat.lt_of_lt_of_le J.lt hp.base)))
 clear hm ak
 go_enter func37,ntmps37
 go_upto_region 1 with(fail)
 rw[←N,←Z,←L,←ae,←C,←af,←E,←ag]
 clear N Z ae L Y af C R ag E U
 have az:=aq.nine
 have ay:=G.one
 have aA:=J.one
 have aB:=ad.nine
 go_wp2_with fail
 refine HT.mono ?_
 rintro e W9 ⟨hb,m2,n,er,rfl,hc⟩
 have HC:=Hi hc
 have aC:=blT z hb
 have aD:=Hi z.size
 have aj:=bkN ad hb
 clear hb hc az ay aA aB
 have ah:m2.val=.agg m2.ar:=rfl
 rw[ah]
 clear ah
 dsimp only
 go_wp2_with (refine wpList_store_row rfl 37 _ _ rfl bz m2.ar rfl rfl 37 zZ aj ZaU (by rfl) (by simp[Value.oneCell']) ?_)
 obtain⟨V9,X⟩:=ExY (W9.setRow bz m2.ar)
 rw[←X]
 have aG:=bkr aj X
 have aE:=blr aC X ai
 have aF:(er=0∧Zaa V9 w.heap.size m2∧(Zaj m (fun m1 m2 _=>Zax m1 m2)) m2 n)∨(er≠0∧m2=Za4∧n=0∧(Zas m (fun m1 m2 _=>Zax m1 m2) (fun _=>True))):=by
  rcases HC.out with⟨h1,h2,h3⟩|h
  ·exact .inl ⟨h1,by rw[X];exact(h2.mono aD).rowFar aj (by decide) _,h3⟩
  ·exact .inr h
 exact bodyPost_ret (Zam (p:=6) (q:=7) (r:=8) results37 _ V9 bz 37 m2.ar (0,0) _ rfl aG underlying37 rfl ZaU) rfl ⟨aE,m2,n,er,rfl,aF⟩
theorem reserve_any(m:Zab)(acct s qty:Int)(w:World)(hm:Zay w w.heap.size m)(aq:Gl w):
 Calls prog 38 #[m.val,I acct,I s,I qty] w (Zar (Zaj m (fun m1 m2 _=>Zax m1 m2)) (Zas m (fun m1 m2 _=>Zax m1 m2) (fun _=>True)) w):=by
 show Calls prog 38 #[.agg m.ar,I acct,I s,I qty] w (Zar (Zaj m (fun m1 m2 _=>Zax m1 m2)) (Zas m (fun m1 m2 _=>Zax m1 m2) (fun _=>True)) w)
 obtain⟨W1,X⟩:=ExY (w.alloc (.cells m.ar 37))
 obtain⟨bl,ac⟩:=ExY w.heap.size
 have au:=blB X
 have aA:=bkW X ac
 obtain⟨W2,R⟩:=ExY (W1.alloc (.cells #[I acct] 3))
 obtain⟨ba,ab⟩:=ExY W1.heap.size
 have aw:=blA au R
 have aB:=bkA aA R
 have ae:=bkW R ab
 have aj:ba=bl+1:=by rw[ab,X,World.size_alloc,←ac]
 obtain⟨W3,G⟩:=ExY (W2.alloc (.cells #[I s] 3))
 obtain⟨bi,Y⟩:=ExY W2.heap.size
 have aF:Hid (bi≠ba):=by
  have h:=ae.lt
  show bi≠ba
  rw[Y]
  exact Ne.symm (Nat.ne_of_lt h)
 have ax:=blA aw G
 have aC:=bkA aB G
 have af:=bkA ae G
 have ag:=bkW G Y
 have ak:bi=ba+1:=by rw[Y,R,World.size_alloc,←ab]
 obtain⟨W4,C⟩:=ExY (W3.alloc (.cells #[I qty] 3))
 obtain⟨bq,U⟩:=ExY W3.heap.size
 have aG:Hid (bq≠ba):=by
  have h:=af.lt
  show bq≠ba
  rw[U]
  exact Ne.symm (Nat.ne_of_lt h)
 have aH:Hid (bq≠bi):=by
  have h:=ag.lt
  show bq≠bi
  rw[U]
  exact Ne.symm (Nat.ne_of_lt h)
 have ad:=blA ax C
 have ah:=bkA aC C
 have ay:=bkA af C
 have az:=bkA ag C
 have aE:=bkW C U
 have al:bq=bi+1:=by rw[U,G,World.size_alloc,←Y]
 obtain⟨W5,E⟩:=ExY (W4.alloc (.cells zZ 37))
 obtain⟨bz,Z⟩:=ExY W4.heap.size
 have aI:Hid (bz≠bl):=by
  have h:=ah.lt
  show bz≠bl
  rw[Z]
  exact Ne.symm (Nat.ne_of_lt h)
 have ao:=blZ ad Z
 have z:=blA ad E
 have aD:=bkA ah E
 have J:=bkA ay E
 have L:=bkA az E
 have N:=bkA aE E
 have ai:=bkW E Z
 have am:bz=bq+1:=by rw[Z,C,World.size_alloc,←U]
 have HT:Hid (Calls prog 60 #[.agg m.ar,.func (.func 80) #[] #[Pt ba,Pt bi,Pt bq]] W5 (Zar (Zaj m (fun m1 m2 _=>Zax m1 m2)) (Zas m (fun m1 m2 _=>Zax m1 m2) (fun _=>True)) W5)):=Hi (ZbQ 80 #[Pt ba,Pt bi,Pt bq] m (fun m1 m2 _=>Zax m1 m2) (fun _=>True) W5 ((hm.below z).mono z.size) (aq.below z aq.lt) (fun pl W=>by kernel_rfl) (by
  intro m1 B pl W hp
  exact Zhs m1 acct s qty B pl ba bi bq W hp.size hp.bk hp.own hp.good (J.below hp.below J.lt) (L.below hp.below L.lt) (N.below hp.below N.lt) (Nat.lt_of_lt_of_le J.lt hp.base) (Nat.lt_of_lt_of_le L.lt hp.base) (Nat.lt_of_lt_of_le N.lt hp.base)))
 clear hm aq
 go_enter func38,ntmps38
 go_upto_region 1 with(fail)
 rw[←X,←ac,←R,←aj,←G,←ak,←C,←al,←E,←am]
 clear X ac aj R ab ak G Y al C U am E Z
 have aL:=aD.nine
 have aJ:=J.one
 have aK:=L.one
 have aM:=N.one
 have aN:=ai.nine
 go_wp2_with fail
 refine HT.mono ?_
 rintro e W9 ⟨hb,m2,n,er,rfl,hc⟩
 have HC:=Hi hc
 have aO:=blT z hb
 have aP:=Hi z.size
 have ap:=bkN ai hb
 clear hb hc aL aJ aK aM aN
 have an:m2.val=.agg m2.ar:=rfl
 rw[an]
 clear an
 dsimp only
 go_wp2_with (refine wpList_store_row rfl 37 _ _ rfl bz m2.ar rfl rfl 37 zZ ap ZaU (by rfl) (by simp[Value.oneCell']) ?_)
 obtain⟨V9,aa⟩:=ExY (W9.setRow bz m2.ar)
 rw[←aa]
 have aS:=bkr ap aa
 have aQ:=blr aO aa ao
 have aR:(er=0∧Zaa V9 w.heap.size m2∧(Zaj m (fun m1 m2 _=>Zax m1 m2)) m2 n)∨(er≠0∧m2=Za4∧n=0∧(Zas m (fun m1 m2 _=>Zax m1 m2) (fun _=>True))):=by
  rcases HC.out with⟨h1,h2,h3⟩|h
  ·exact .inl ⟨h1,by rw[aa];exact(h2.mono aP).rowFar ap (by decide) _,h3⟩
  ·exact .inr h
 exact bodyPost_ret (Zam (p:=8) (q:=9) (r:=10) results38 _ V9 bz 37 m2.ar (0,0) _ rfl aS underlying37 rfl ZaU) rfl ⟨aQ,m2,n,er,rfl,aR⟩
theorem Zd6{w:World}{base e k n c z:Nat}{A:Option Addr}{xs:List Value}(h:w.ownsRow base e k (.slice A n c) n xs)(C:z<base):some z≠(Value.slice A n c).ownBlock:=by
 intro s
 cases A with
 |none=>cases s
 |some p=>
  have h1:=(ZaP h p rfl).1
  have h2:z=p.block:=by simpa[Value.ownBlock] using s
  omega
theorem ZaL{w:World}{base e k n c E t:Nat}{A:Option Addr}{xs:List Value}{cs:Array Value}(h:w.ownsRow base e k (.slice A n c) n xs)(J:Bk w E t cs)(C:t≠e):some E≠(Value.slice A n c).ownBlock:=by
 intro s
 cases A with
 |none=>cases s
 |some p=>
  obtain⟨G,_,_,z⟩:=ZaK h rfl
  have h2:E=p.block:=by simpa[Value.ownBlock] using s
  exact J.ne z C h2
theorem ZcS{w:World}{base e k n c:Nat}{A:Option Addr}{xs:List Value}(h:w.ownsRow base e k (.slice A n c) n xs):∀g,(Value.slice A n c).ownBlock=some g→base≤g:=by
 intro g s
 cases A with
 |none=>cases s
 |some p=>
  have h1:=(ZaP h p rfl).1
  have h2:p.block=g:=by simpa[Value.ownBlock] using s
  omega
theorem ZaC.grown{B h:Nat}{w w' w2:World}{r:Option Nat}(a:ZaC B h w w')(C:B≤w.heap.size)(s:w'.grownBy w2 r)(z:∀g,r=some g→B≤g):ZaC B h w w2:=
 a.trans ⟨s.os,s.tape,s.output,s.size,fun k hk _=>s.block k (by have:=a.size;omega) (fun e=>by have:=z k e.symm;omega)⟩
theorem Below.grownB{B:Nat}{w w2:World}{r:Option Nat}(s:w.grownBy w2 r)(C:B≤w.heap.size)(z:∀g,r=some g→B≤g):Below B w w2:=
 ⟨s.os,s.tape,s.output,s.size,fun k hk=>s.block k (by omega) (fun e=>by have:=z k e.symm;omega)⟩
structure Zb9(m:Zab)(u:ZbD):Prop where
 len:m.unders.length<6
 name:Zhe u.name=true
 new:ZcR m.unders u.name<0
 can:Ziy u m.curs.length=true
def Zbm(u:ZbD)(m m2:Zab):Prop:=∃s,m2={m with unders:=m.unders++[u],sUnd:=s}
theorem Zjm(m:Zab)(U:ByteArray)(cu pr vo:Int)(B pl bu:Nat)(w:World)(hB:B≤w.heap.size)(a9:Bk w pl 37 m.ar)(ho:Zaa w B m)(a6:Bk w bu 63 #[.string U,I cu,I pr,I vo])(lu:bu<B):
 Calls prog 72 #[Pt pl,Pt bu] w (Zbx 164 37 B pl (fun m' _=>Zbm ⟨U,cu,pr,vo⟩ m m') (¬Zb9 m ⟨U,cu,pr,vo⟩) w):=by
 have aa:=Hi hB
 have bc:=Hi ho.short.1
 have ad:=Hi a9
 have aF:=Hi ho
 have ai:=Hi a6
 have aN:=Hi lu
 clear hB a9 ho a6 lu
 have ap:Hid (ZaC B pl w w):=ZaC.refl _ _ _
 obtain⟨i0,aI,aC⟩:=Option.map_eq_some_iff.1 ZlJ
 simp only[Prod.mk.injEq] at aC
 have HI:=Hi aI
 have bg:=Hi aC.1
 have bh:=Hi aC.2.1
 have bi:=Hi aC.2.2
 clear aI aC
 go_enter func72,ntmps72
 by_cases d0:m.unders.length<6
 rotate_left
 ·have an:Hid (¬Zb9 m ⟨U,cu,pr,vo⟩):=fun h=>d0 h.len
  have d1:¬((m.unders.length:Int)<6):=by omega
  have am:=ad.nine
  have al:=ai.four
  go_wp2_with fail
  refine Cq (Zat 40 _) ?_
  dsimp only
  go_wp2
  exact⟨rfl,ap,m,ad,.inr ⟨40,(by decide),rfl,an⟩⟩
 have d1:(m.unders.length:Int)<6:=by omega
 have am:=ad.nine
 have al:=ai.four
 go_wp2_with fail
 refine Cq (ZaV 40 _) ?_
 dsimp only
 go_upto_region 2 with(fail)
 obtain⟨nb,aQ⟩:=ExY (Zhe U)
 have aP:=fun W=>Zgz U W
 rw[←aQ] at aP
 have aM:=Hi aP
 have bd:=Hi aQ
 obtain⟨ix,aO⟩:=ExY (ZcR m.unders U)
 have a8:∀V,Zay V V.heap.size m→Calls prog 74 #[.slice m.sUnd.A m.unders.length m.sUnd.c,.string U] V fun e w'=>e=.returned (I ix)∧Bw V w':=by rw[aO];exact fun V h=>ZfA _ _ _ _ _ V (ZbR h.short.2.1) h.unders
 have aV:=Hi a8
 have bb:=Hi aO
 obtain⟨ub,aR⟩:=ExY (Ziy ⟨U,cu,pr,vo⟩ m.curs.length)
 have ba:∀V,Calls prog 63 #[.agg #[.string U,I cu,I pr,I vo],I m.curs.length] V fun e w'=>e=.returned (.bool ub)∧Bw V w':=by rw[aR];exact fun V=>ZgJ ⟨U,cu,pr,vo⟩ m.curs.length (ZbR bc) V
 have a2:=Hi ba
 have bf:=Hi aR
 clear aQ aP aO a8 aR ba
 cases nb with
 |false=>
  have an:Hid (¬Zb9 m ⟨U,cu,pr,vo⟩):=fun h=>by
   have h2:=h.name
   have h3:=bd.out
   exact Bool.noConfusion (h3.trans h2)
  clear am al
  obtain⟨W1,E⟩:=ExY w.drew
  have af:=bhD ap E
  have L:=bkD ad E
  have J:=bkD ai E
  refine rgK (by kernel_rfl) E (CsA J 0 rfl (CsB L 2 rfl)) fun s=>?_
  clear E
  refine tkH [0,1] s (by kernel_rfl) (fun _ _ _ _ h=>h) ?_
  iterate 2 (refine ycH rfl (by rfl) (fun w h=>by simp only[Cs] at h;go_simp<;>rfl) ?_;try simp only[Act.put,sA,sB,sC])
  refine onH 2 (by kernel_rfl) rfl fun K hK=>?_
  go_simp
  refine(aM.out _).mono ?_
  rintro e W2 ⟨rfl,hb⟩
  have ag:=bhU af aa hb
  have N:=bkN L hb
  have X:=bkN J hb
  clear hb
  dsimp only
  refine hK.out _ _ (⟨X.cell 0,N.cell 2⟩) (fun s=>?_)
  try simp only[Act.put,sA,sB,sC]
  refine tkH [3,4,5,6,7,8,9,10,11,12] s (by kernel_rfl) (fun _ _ _ _ h=>h) ?_
  iterate 10 ((first|refine ycH rfl (by rfl) (fun w h=>by simp only[Cs] at h;go_simp<;>rfl) ?_|refine ncH rfl (by rfl) ?_);try simp only[Act.put,sA,sB,sC])
  refine onH 13 (by kernel_rfl) rfl fun K hK=>?_
  go_simp
  refine Cq (Zat 42 _) ?_
  dsimp only
  go_wp2
  exact⟨rfl,ag,m,N,.inr ⟨42,(by decide),rfl,an⟩⟩
 |true=>
 by_cases d2:ix<0
 rotate_left
 ·have an:Hid (¬Zb9 m ⟨U,cu,pr,vo⟩):=fun h=>by
   have h2:=h.new
   rw[←bb.out] at h2
   exact d2 h2
  clear am al
  obtain⟨W1,E⟩:=ExY w.drew
  have af:=bhD ap E
  have L:=bkD ad E
  have J:=bkD ai E
  have aA:=boD aF E
  refine rgK (by kernel_rfl) E (CsA J 0 rfl (CsB L 2 rfl)) fun s=>?_
  clear E
  refine tkH [0,1] s (by kernel_rfl) (fun _ _ _ _ h=>h) ?_
  iterate 2 (refine ycH rfl (by rfl) (fun w h=>by simp only[Cs] at h;go_simp<;>rfl) ?_;try simp only[Act.put,sA,sB,sC])
  refine onH 2 (by kernel_rfl) rfl fun K hK=>?_
  go_simp
  refine(aM.out _).mono ?_
  rintro e W2 ⟨rfl,hb⟩
  have ag:=bhU af aa hb
  have N:=bkN L hb
  have X:=bkN J hb
  have au:=boN aA hb
  clear hb
  dsimp only
  refine hK.out _ _ (⟨X.cell 0,N.cell 2⟩) (fun s=>?_)
  try simp only[Act.put,sA,sB,sC]
  refine tkH [3,4,5,6,7,8,9] s (by kernel_rfl) (fun _ _ _ _ h=>h) ?_
  iterate 7 (refine ycH rfl (by rfl) (fun w h=>by simp only[Cs] at h;go_simp<;>rfl) ?_;try simp only[Act.put,sA,sB,sC])
  refine onH 10 (by kernel_rfl) rfl fun K hK=>?_
  go_simp
  refine(aV.out _ au.rd).mono ?_
  rintro e W3 ⟨rfl,hb⟩
  have aq:=bhU ag aa hb
  have Y:=bkN N hb
  have ab:=bkN X hb
  clear hb
  dsimp only
  refine hK.out _ _ (⟨ab.cell 0,Y.cell 2⟩) (fun s=>?_)
  try simp only[Act.put,sA,sB,sC]
  refine tkH [11,12] s (by kernel_rfl) (fun _ _ _ _ h=>h) ?_
  iterate 2 (refine ycH rfl (by rfl) (fun w h=>by simp only[Cs] at h;go_simp<;>rfl) ?_;try simp only[Act.put,sA,sB,sC])
  refine onH 13 (by kernel_rfl) rfl fun K hK=>?_
  go_simp
  refine Cq (Zat 42 _) ?_
  dsimp only
  go_wp2
  exact⟨rfl,aq,m,Y,.inr ⟨42,(by decide),rfl,an⟩⟩
 clear am al
 obtain⟨W1,E⟩:=ExY w.drew
 have af:=bhD ap E
 have L:=bkD ad E
 have J:=bkD ai E
 have aA:=boD aF E
 refine rgK (by kernel_rfl) E (CsA J 0 rfl (CsB L 2 rfl)) fun s=>?_
 clear E
 refine tkH [0,1] s (by kernel_rfl) (fun _ _ _ _ h=>h) ?_
 iterate 2 (refine ycH rfl (by rfl) (fun w h=>by simp only[Cs] at h;go_simp<;>rfl) ?_;try simp only[Act.put,sA,sB,sC])
 refine onH 2 (by kernel_rfl) rfl fun K hK=>?_
 go_simp
 refine(aM.out _).mono ?_
 rintro e W2 ⟨rfl,hb⟩
 have ag:=bhU af aa hb
 have N:=bkN L hb
 have X:=bkN J hb
 have au:=boN aA hb
 clear hb
 dsimp only
 refine hK.out _ _ (⟨X.cell 0,N.cell 2⟩) (fun s=>?_)
 try simp only[Act.put,sA,sB,sC]
 refine tkH [3,4,5,6,7,8,9] s (by kernel_rfl) (fun _ _ _ _ h=>h) ?_
 iterate 7 (refine ycH rfl (by rfl) (fun w h=>by simp only[Cs] at h;go_simp<;>rfl) ?_;try simp only[Act.put,sA,sB,sC])
 refine onH 10 (by kernel_rfl) rfl fun K hK=>?_
 go_simp
 refine(aV.out _ au.rd).mono ?_
 rintro e W3 ⟨rfl,hb⟩
 have aq:=bhU ag aa hb
 have Y:=bkN N hb
 have ab:=bkN X hb
 have aW:=boN au hb
 clear hb
 dsimp only
 refine hK.out _ _ (⟨ab.cell 0,Y.cell 2⟩) (fun s=>?_)
 try simp only[Act.put,sA,sB,sC]
 refine tkH [11,12] s (by kernel_rfl) (fun _ _ _ _ h=>h) ?_
 iterate 2 (refine ycH rfl (by rfl) (fun w h=>by simp only[Cs] at h;go_simp<;>rfl) ?_;try simp only[Act.put,sA,sB,sC])
 refine onH 13 (by kernel_rfl) rfl fun K hK=>?_
 go_simp
 refine Cq (ZaV 42 _) ?_
 dsimp only
 refine hK.out _ _ (⟨ab.cell 0,Y.cell 2⟩) (fun s=>?_)
 try simp only[Act.put,sA,sB,sC]
 refine wpAnyH_done (by kernel_rfl) ?_ _
 clear s
 go_upto_region 3 with(fail)
 cases ub with
 |false=>
  have an:Hid (¬Zb9 m ⟨U,cu,pr,vo⟩):=fun h=>by
   have h2:=h.can
   have h3:=bf.out
   exact Bool.noConfusion (h3.trans h2)
  obtain⟨W4,R⟩:=ExY W3.drew
  have ay:=bhD aq R
  have ak:=bkD Y R
  have G:=bkD ab R
  refine rgK (by kernel_rfl) R (CsA G 0 rfl (CsA G 1 rfl (CsA G 2 rfl (CsA G 3 rfl (CsB ak 1 rfl))))) fun s=>?_
  clear R
  refine tkH [0,1,2,3,4,5] s (by kernel_rfl) (fun _ _ _ _ h=>h) ?_
  iterate 6 (refine ycH rfl (by rfl) (fun w h=>by simp only[Cs] at h;go_simp<;>rfl) ?_;try simp only[Act.put,sA,sB,sC])
  refine onH 6 (by kernel_rfl) rfl fun K hK=>?_
  go_simp
  refine(a2.out _).mono ?_
  rintro e W5 ⟨rfl,hb⟩
  have az:=bhU ay aa hb
  have ae:=bkN ak hb
  have z:=bkN G hb
  clear hb
  dsimp only
  refine hK.out _ _ (⟨z.cell 0,z.cell 1,z.cell 2,z.cell 3,ae.cell 1⟩) (fun s=>?_)
  try simp only[Act.put,sA,sB,sC]
  refine onH 7 (by kernel_rfl) rfl fun K hK=>?_
  go_simp
  refine Cq (Zat 31 _) ?_
  dsimp only
  go_wp2
  exact⟨rfl,az,m,ae,.inr ⟨31,(by decide),rfl,an⟩⟩
 |true=>
 obtain⟨W4,R⟩:=ExY W3.drew
 have ay:=bhD aq R
 have ak:=bkD Y R
 have G:=bkD ab R
 have aX:=boD aW R
 refine rgK (by kernel_rfl) R (CsA G 0 rfl (CsA G 1 rfl (CsA G 2 rfl (CsA G 3 rfl (CsB ak 1 rfl))))) fun s=>?_
 clear R
 refine tkH [0,1,2,3,4,5] s (by kernel_rfl) (fun _ _ _ _ h=>h) ?_
 iterate 6 (refine ycH rfl (by rfl) (fun w h=>by simp only[Cs] at h;go_simp<;>rfl) ?_;try simp only[Act.put,sA,sB,sC])
 refine onH 6 (by kernel_rfl) rfl fun K hK=>?_
 go_simp
 refine(a2.out _).mono ?_
 rintro e W5 ⟨rfl,hb⟩
 have az:=bhU ay aa hb
 have ae:=bkN ak hb
 have z:=bkN G hb
 have aY:=boN aX hb
 clear hb
 dsimp only
 refine hK.out _ _ (⟨z.cell 0,z.cell 1,z.cell 2,z.cell 3,ae.cell 1⟩) (fun s=>?_)
 try simp only[Act.put,sA,sB,sC]
 refine onH 7 (by kernel_rfl) rfl fun K hK=>?_
 go_simp
 refine Cq (ZaV 31 _) ?_
 dsimp only
 refine hK.out _ _ (⟨z.cell 0,z.cell 1,z.cell 2,z.cell 3,ae.cell 1⟩) (fun s=>?_)
 try simp only[Act.put,sA,sB,sC]
 refine wpAnyH_done (by kernel_rfl) ?_ _
 clear s
 have aL:Hid ((m.unders++[(⟨U,cu,pr,vo⟩:ZbD)]).length=m.unders.length+1):=by show _=_;simp
 go_upto_region 4 with(fail)
 obtain⟨W6,aw⟩:=ExY W5.drew
 have aS:=bhD az aw
 have aG:=bkD ae aw
 have ac:=bkD z aw
 have aZ:=boD aY aw
 refine rgL 10 (by kernel_rfl) aw (CsA ac 0 rfl (CsA ac 1 rfl (CsA ac 2 rfl (CsA ac 3 rfl (CsB aG 2 rfl))))) fun hS=>?_
 clear aw
 refine tkM [0,1,2,3,4,5] hS (by kernel_rfl) (fun _ _ _ _ h=>h) ?_
 iterate 6 (refine ycM rfl (by rfl) (fun w h=>by simp only[Cs] at h;go_simp<;>rfl) ?_;try simp only[Act.put,sA,sB,sC])
 refine onM 6 (by kernel_rfl) rfl fun K hK=>?_
 go_simp
 obtain⟨W7,ao⟩:=ExY (W6.alloc (.cells #[.string U,I cu,I pr,I vo] 63))
 obtain⟨bn,aD⟩:=ExY W6.heap.size
 have a5:Hid (bn≠bu):=by
  have h:=ac.lt
  show bn≠bu
  rw[aD]
  exact Ne.symm (Nat.ne_of_lt h)
 have aE:=bhA aS aa ao
 have aB:=bkA aG ao
 have aj:=bkA ac ao
 have ah:=boA aZ ao
 have a3:=bkW ao aD
 have be:Hid (Rd W7 (bn+1) 4 (some (Aq bn 0)) 1 [.string U,I cu,I pr,I vo]):=⟨rfl,fun _=>⟨_,rfl,Nat.lt_succ_self _,World.news_of_block a3⟩⟩
 rw[←ao,←aD]
 clear ao aD
 refine hK.out _ _ (fun _=>⟨aj.cell 0,aj.cell 1,aj.cell 2,aj.cell 3,aB.cell 2⟩) ?_
 try simp only[Act.put,sA,sB,sC]
 refine onM 7 (by kernel_rfl) rfl fun K hK=>?_
 refine ZaY _ rfl (.tmp 37) (.tmp 39) _ rfl B 63 i0 _ 4 40 underlying30 HI bg bh bi rfl (by decide) _ m.unders.length (m.unders.flatMap ZbD.cs) rfl ah.unders (bn+1) _ 1 1 [.string U,I cu,I pr,I vo] rfl be (by simp[Value.oneCell']) (by unfold maxLen;omega) (by omega) (Nat.le_trans aa aE.size) ?_
 intro A2 c2 W8 h1 h2 aK hg bl
 have aJ:W8.ownsRow B 63 4 (.slice A2 (m.unders++[(⟨U,cu,pr,vo⟩:ZbD)]).length c2) (m.unders++[(⟨U,cu,pr,vo⟩:ZbD)]).length ((m.unders++[(⟨U,cu,pr,vo⟩:ZbD)]).flatMap ZbD.cs):=by
  rw[aL.out,List.flatMap_append]
  exact aK
 have a7:(m.unders++[(⟨U,cu,pr,vo⟩:ZbD)]).length≤1000000:=by rw[aL.out];omega
 have aT:Hid (ZaC B pl w W8):=by exact aE.grown aa hg (ZcS ah.unders)
 have Z:Hid (Bk W8 pl 37 m.ar):=by exact aB.grown hg (ZaL ah.unders aB (by decide))
 have C:Hid (Bk W8 bu 63 #[.string U,I cu,I pr,I vo]):=by exact aj.grown hg (Zd6 ah.unders aN)
 have a0:Hid (Zaa W8 B {m with unders:=m.unders++[⟨U,cu,pr,vo⟩],sUnd:=⟨A2,c2⟩}):=by exact Zaa.appUnd ah hg aJ a7
 clear h1 h2 aK hg bl aJ a7
 dsimp only
 refine hK.out _ _ (fun _=>⟨C.cell 0,C.cell 1,C.cell 2,C.cell 3,Z.cell 2⟩) ?_
 try simp only[Act.put,sA,sB,sC]
 refine onM 8 (by kernel_rfl) rfl fun K hK=>?_
 go_simp
 refine hK.out _ _ (fun _=>⟨C.cell 0,C.cell 1,C.cell 2,C.cell 3,Z.cell 2⟩) ?_
 try simp only[Act.put,sA,sB,sC]
 refine tkM [9] (⟨C.cell 0,C.cell 1,C.cell 2,C.cell 3,Z.cell 2⟩) (by kernel_rfl) (fun _ _ _ _ h=>h) ?_
 (refine ycM rfl (by rfl) (fun w h=>by simp only[Cs] at h;go_simp<;>rfl) ?_;try simp only[Act.put,sA,sB,sC])
 refine onM 10 (by kernel_rfl) rfl fun K hK=>?_
 have bj:=Z.nine
 go_simp
 clear bj
 obtain⟨W9,ax⟩:=ExY (W8.setCell ⟨pl,2,none⟩ (.slice A2 (m.unders.length+1) c2))
 rw[←ax]
 have aU:=bhI aT ax
 have aH:Hid (Bk W9 pl 37 #[I m.day,.slice m.sCur.A m.curs.length m.sCur.c,.slice A2 (m.unders.length+1) c2,.slice m.sIns.A m.instrs.length m.sIns.c,.slice m.sAcc.A m.accts.length m.sAcc.c,.slice m.sPos.A m.poss.length m.sPos.c,.slice m.sOrd.A m.orders.length m.sOrd.c,.slice m.sAva.A m.avail.length m.sAva.c,.slice m.sLoc.A m.locs.length m.sLoc.c]):=bkS Z 2 ax
 have a4:=bkF C ax Z rfl
 have a1:=boF a0 ax Z (by decide)
 clear ax
 refine hK.out _ _ (fun h0=>Zac (by kernel_rfl) h0) ?_
 refine Zak (by kernel_rfl) ?_ _
 have am:=aH.nine
 have al:=a4.four
 go_wp2
 go_ret
 refine⟨aU,{m with unders:=m.unders++[⟨U,cu,pr,vo⟩],sUnd:=⟨A2,c2⟩},?_,.inl ⟨_,rfl,a1,_,rfl⟩⟩
 unfold Zab.cs
 dsimp only
 rw[aL.out]
 exact aH
theorem Zku(m:Zab)(z:ByteArray)(s C E:Int)(w:World)(hm:Zay w w.heap.size m)(ai:Gl w):
 Calls prog 33 #[m.val,(⟨z,s,C,E⟩:ZbD).val] w (Zar (Zaj m (fun m1 m2 _=>Zbm ⟨z,s,C,E⟩ m1 m2)) (Zas m (fun m1 m2 _=>Zbm ⟨z,s,C,E⟩ m1 m2) (fun m1=>¬Zb9 m1 ⟨z,s,C,E⟩)) w):=by
 show Calls prog 33 #[.agg m.ar,.agg #[.string z,I s,I C,I E]] w (Zar (Zaj m (fun m1 m2 _=>Zbm ⟨z,s,C,E⟩ m1 m2)) (Zas m (fun m1 m2 _=>Zbm ⟨z,s,C,E⟩ m1 m2) (fun m1=>¬Zb9 m1 ⟨z,s,C,E⟩)) w)
 obtain⟨W1,R⟩:=ExY (w.alloc (.cells m.ar 37))
 obtain⟨bl,Y⟩:=ExY w.heap.size
 have aj:=blB R
 have ak:=bkW R Y
 obtain⟨W2,L⟩:=ExY (W1.alloc (.cells #[.string z,I s,I C,I E] 63))
 obtain⟨bu,Z⟩:=ExY W1.heap.size
 have aa:=blA aj L
 have ab:=bkA ak L
 have am:=bkW L Z
 have ad:bu=bl+1:=by rw[Z,R,World.size_alloc,←Y]
 obtain⟨W3,N⟩:=ExY (W2.alloc (.cells zZ 37))
 obtain⟨bz,U⟩:=ExY W2.heap.size
 have an:Hid (bz≠bl):=by
  have h:=ab.lt
  show bz≠bl
  rw[U]
  exact Ne.symm (Nat.ne_of_lt h)
 have ag:=blZ aa U
 have G:=blA aa N
 have al:=bkA ab N
 have J:=bkA am N
 have ac:=bkW N U
 have ae:bz=bu+1:=by rw[U,L,World.size_alloc,←Z]
 have HT:Hid (Calls prog 60 #[.agg m.ar,.func (.func 72) #[] #[Pt bu]] W3 (Zar (Zaj m (fun m1 m2 _=>Zbm ⟨z,s,C,E⟩ m1 m2)) (Zas m (fun m1 m2 _=>Zbm ⟨z,s,C,E⟩ m1 m2) (fun m1=>¬Zb9 m1 ⟨z,s,C,E⟩)) W3)):=Hi (ZbQ 72 #[Pt bu] m (fun m1 m2 _=>Zbm ⟨z,s,C,E⟩ m1 m2) (fun m1=>¬Zb9 m1 ⟨z,s,C,E⟩) W3 ((hm.below G).mono G.size) (ai.below G ai.lt) (fun pl W=>by kernel_rfl) (by
  intro m1 B pl W hp
  exact Zjm m1 z s C E B pl bu W hp.size hp.bk hp.own (J.below hp.below J.lt) (Nat.lt_of_lt_of_le J.lt hp.base)))
 clear hm ai
 go_enter func33,ntmps33
 go_upto_region 1 with(fail)
 rw[←R,←Y,←L,←ad,←N,←ae]
 clear R Y ad L Z ae N U
 have ao:=al.nine
 have ap:=J.four
 have aq:=ac.nine
 go_wp2_with fail
 refine HT.mono ?_
 rintro e W9 ⟨hb,m2,n,er,rfl,hc⟩
 have HC:=Hi hc
 have au:=blT G hb
 have aw:=Hi G.size
 have ah:=bkN ac hb
 clear hb hc ao ap aq
 have af:m2.val=.agg m2.ar:=rfl
 rw[af]
 clear af
 dsimp only
 go_wp2_with (refine wpList_store_row rfl 37 _ _ rfl bz m2.ar rfl rfl 37 zZ ah ZaU (by rfl) (by simp[Value.oneCell']) ?_)
 obtain⟨V9,X⟩:=ExY (W9.setRow bz m2.ar)
 rw[←X]
 have az:=bkr ah X
 have ax:=blr au X ag
 have ay:(er=0∧Zaa V9 w.heap.size m2∧(Zaj m (fun m1 m2 _=>Zbm ⟨z,s,C,E⟩ m1 m2)) m2 n)∨(er≠0∧m2=Za4∧n=0∧(Zas m (fun m1 m2 _=>Zbm ⟨z,s,C,E⟩ m1 m2) (fun m1=>¬Zb9 m1 ⟨z,s,C,E⟩))):=by
  rcases HC.out with⟨h1,h2,h3⟩|h
  ·exact .inl ⟨h1,by rw[X];exact(h2.mono aw).rowFar ah (by decide) _,h3⟩
  ·exact .inr h
 exact bodyPost_ret (Zam (p:=4) (q:=5) (r:=6) results33 _ V9 bz 37 m2.ar (0,0) _ rfl az underlying37 rfl ZaU) rfl ⟨ax,m2,n,er,rfl,ay⟩
end Go.Proofs.YtdefojlkofnloaaGreatDoor
