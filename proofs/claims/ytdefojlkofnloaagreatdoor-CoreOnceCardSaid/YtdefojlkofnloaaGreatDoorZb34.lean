/- A part of the proof of CoreOnce: for every input, no condition. -/
import Derived.Test.YtdefojlkofnloaaGreatDoorZb27
import Derived.Test.YtdefojlkofnloaaGreatDoorZb33
set_option maxRecDepth 100000
set_option maxHeartbeats 8000000
set_option linter.unusedVariables false
set_option linter.unusedSimpArgs false
namespace Go.Proofs.YtdefojlkofnloaaGreatDoor
open Go.RowKit Go.Proofs.Tryz
theorem ZdD(m:Zab)(C k:Nat)(under:Int)(w:World)(E:Bk w C 130 m.ar)(G:Zay w w.heap.size m)(z:k<m.instrs.length):
 Calls prog 89 #[Pt C,I k,I under] w fun e w'=>e=.returned (.bool ((m.instrs[k]).under==under))∧w'=w:=by
 obtain⟨a,hA,_,c0,c1,c2,c3,c4,c5,c6⟩:=Zds G.instrs z
 obtain⟨un,s⟩:=ExY ((m.instrs[k]).under)
 rw[←s] at c1 ⊢
 clear c0 c2 c3 c4 c5 c6 s
 have k0:(0:Int)≤(k:Int):=Int.natCast_nonneg k
 have k1:(k:Int)<(m.instrs.length:Int):=Int.ofNat_lt.mpr z
 obtain⟨y0,y1,y2,y3,y4,y5,y6,y7,y8,z0,z1,z2,z3,z4,z5,z6,z7,z8,lz⟩:=E.nine
 rw[hA] at y3
 clear z hA G E
 go_enter func89,ntmps89
 go_wp2
 go_ret
 exact⟨rfl,rfl⟩
theorem Zh3(m:Zab)(N:Int)(nm:ByteArray)(B bx bu bn:Nat)(w:World)(hB:B≤w.heap.size)(aR:Bk w bx 130 m.ar)(ho:Zaa w B m)(hg:Za2 m=true)(aQ:Bk w bu 3 #[I N])(aX:bu<B)(aP:Bk w bn 9 #[.string nm])(aW:bn<B):
 Calls prog 98 #[Pt bx,Pt bu,Pt bn] w (Zbx 181 130 B bx (fun m' _=>Zax m m') True w):=by
 have aB:=Hi hB
 have am:=Hi aR
 have aG:=Hi ho
 have al:=Hi aQ
 have aK:=Hi aP
 clear hB aR ho hg aQ aX aP aW
 have ag:Hid (ZaC B bx w w):=ZaC.refl _ _ _
 go_enter func98,ntmps98
 go_upto_region 1 with(fail)
 by_cases d1:0≤N
 rotate_left
 ·obtain⟨W1,z⟩:=ExY w.drew
  have J:=bhD ag z
  have C:=bkD am z
  have G:=bkD al z
  refine rgK (by kernel_rfl) z (CsA G 0 rfl (CsB C 2 rfl)) fun s=>?_
  clear z
  refine tkH [0,1,2,3,4,5,6,7,8,9,10,11] s (by kernel_rfl) (fun _ _ _ _ h=>h) ?_
  iterate 12 ((first|refine ycH rfl (by rfl) (fun w h=>by simp only[Cs] at h;go_simp<;>rfl) ?_|refine ncH rfl (by rfl) ?_);try simp only[Act.put,sA,sB,sC])
  refine onH 12 (by kernel_rfl) rfl fun K hK=>?_
  go_simp
  refine Cq (Zau 31 _) ?_
  dsimp only
  go_wp2
  exact⟨rfl,J,m,C,.inr ⟨31,(by decide),rfl,trivial⟩⟩
 by_cases d2:N<(m.unders.length:Int)
 rotate_left
 ·obtain⟨W1,z⟩:=ExY w.drew
  have J:=bhD ag z
  have C:=bkD am z
  have G:=bkD al z
  refine rgK (by kernel_rfl) z (CsA G 0 rfl (CsB C 2 rfl)) fun s=>?_
  clear z
  refine tkH [0,1,2,3,4,5,6,7,8,9,10,11] s (by kernel_rfl) (fun _ _ _ _ h=>h) ?_
  iterate 12 (refine ycH rfl (by rfl) (fun w h=>by simp only[Cs] at h;go_simp<;>rfl) ?_;try simp only[Act.put,sA,sB,sC])
  refine onH 12 (by kernel_rfl) rfl fun K hK=>?_
  go_simp
  refine Cq (Zau 31 _) ?_
  dsimp only
  go_wp2
  exact⟨rfl,J,m,C,.inr ⟨31,(by decide),rfl,trivial⟩⟩
 obtain⟨W1,z⟩:=ExY w.drew
 have J:=bhD ag z
 have C:=bkD am z
 have G:=bkD al z
 have aw:=bkD aK z
 have aH:=boD aG z
 refine rgK (by kernel_rfl) z (CsA G 0 rfl (CsB C 2 rfl)) fun s=>?_
 clear z
 refine tkH [0,1,2,3,4,5,6,7,8,9,10,11] s (by kernel_rfl) (fun _ _ _ _ h=>h) ?_
 iterate 12 (refine ycH rfl (by rfl) (fun w h=>by simp only[Cs] at h;go_simp<;>rfl) ?_;try simp only[Act.put,sA,sB,sC])
 refine onH 12 (by kernel_rfl) rfl fun K hK=>?_
 go_simp
 refine Cq (Za7 31 _) ?_
 dsimp only
 refine hK.out _ _ (⟨G.cell 0,C.cell 2⟩) (fun s=>?_)
 try simp only[Act.put,sA,sB,sC]
 refine wpAnyH_done (by kernel_rfl) ?_ _
 clear s
 obtain⟨nb,aT⟩:=ExY (Zhe nm)
 have aC:=fun W=>Zgz nm W
 rw[←aT] at aC
 have aF:=Hi aC
 obtain⟨ix,aS⟩:=ExY (ZcR m.unders nm)
 have aU:∀V,Zay V V.heap.size m→Calls prog 74 #[.slice m.sUnd.A m.unders.length m.sUnd.c,.string nm] V fun e w'=>e=.returned (I ix)∧Bw V w':=by rw[aS];exact fun V h=>ZfA _ _ _ _ _ V (ZbR h.short.2.1) h.unders
 have aV:=Hi aU
 clear aT aC aS aU
 go_upto_region 2 with(fail)
 cases nb with
 |false=>
  obtain⟨W2,E⟩:=ExY W1.drew
  have ah:=bhD J E
  have X:=bkD C E
  have R:=bkD aw E
  refine rgK (by kernel_rfl) E (CsA R 0 rfl (CsB X 2 rfl)) fun s=>?_
  clear E
  refine tkH [0] s (by kernel_rfl) (fun _ _ _ _ h=>h) ?_
  (refine ycH rfl (by rfl) (fun w h=>by simp only[Cs] at h;go_simp<;>rfl) ?_;try simp only[Act.put,sA,sB,sC])
  refine onH 1 (by kernel_rfl) rfl fun K hK=>?_
  go_simp
  refine(aF.out _).mono ?_
  rintro e W3 ⟨rfl,hb⟩
  have ai:=bhU ah aB hb
  have Y:=bkN X hb
  have ab:=bkN R hb
  clear hb
  dsimp only
  refine hK.out _ _ (⟨ab.cell 0,Y.cell 2⟩) (fun s=>?_)
  try simp only[Act.put,sA,sB,sC]
  refine tkH [2,3,4,5,6,7,8,9,10,11] s (by kernel_rfl) (fun _ _ _ _ h=>h) ?_
  iterate 10 ((first|refine ycH rfl (by rfl) (fun w h=>by simp only[Cs] at h;go_simp<;>rfl) ?_|refine ncH rfl (by rfl) ?_);try simp only[Act.put,sA,sB,sC])
  refine onH 12 (by kernel_rfl) rfl fun K hK=>?_
  go_simp
  refine Cq (Zau 42 _) ?_
  dsimp only
  go_wp2
  exact⟨rfl,ai,m,Y,.inr ⟨42,(by decide),rfl,trivial⟩⟩
 |true=>
 obtain⟨W2,E⟩:=ExY W1.drew
 have ah:=bhD J E
 have X:=bkD C E
 have aL:=bkD G E
 have R:=bkD aw E
 have aI:=boD aH E
 refine rgK (by kernel_rfl) E (CsA R 0 rfl (CsB X 2 rfl)) fun s=>?_
 clear E
 refine tkH [0] s (by kernel_rfl) (fun _ _ _ _ h=>h) ?_
 (refine ycH rfl (by rfl) (fun w h=>by simp only[Cs] at h;go_simp<;>rfl) ?_;try simp only[Act.put,sA,sB,sC])
 refine onH 1 (by kernel_rfl) rfl fun K hK=>?_
 go_simp
 refine(aF.out _).mono ?_
 rintro e W3 ⟨rfl,hb⟩
 have ai:=bhU ah aB hb
 have Y:=bkN X hb
 have aM:=bkN aL hb
 have ab:=bkN R hb
 have aq:=boN aI hb
 clear hb
 dsimp only
 refine hK.out _ _ (⟨ab.cell 0,Y.cell 2⟩) (fun s=>?_)
 try simp only[Act.put,sA,sB,sC]
 refine tkH [2,3,4,5,6,7,8] s (by kernel_rfl) (fun _ _ _ _ h=>h) ?_
 iterate 7 (refine ycH rfl (by rfl) (fun w h=>by simp only[Cs] at h;go_simp<;>rfl) ?_;try simp only[Act.put,sA,sB,sC])
 refine onH 9 (by kernel_rfl) rfl fun K hK=>?_
 go_simp
 refine(aV.out _ aq.rd).mono ?_
 rintro e W4 ⟨rfl,hb⟩
 have ap:=bhU ai aB hb
 have ae:=bkN Y hb
 have aN:=bkN aM hb
 have ak:=bkN ab hb
 have au:=boN aq hb
 clear hb
 dsimp only
 refine hK.out _ _ (⟨ak.cell 0,ae.cell 2⟩) (fun s=>?_)
 try simp only[Act.put,sA,sB,sC]
 refine tkH [10,11] s (by kernel_rfl) (fun _ _ _ _ h=>h) ?_
 iterate 2 (refine ycH rfl (by rfl) (fun w h=>by simp only[Cs] at h;go_simp<;>rfl) ?_;try simp only[Act.put,sA,sB,sC])
 refine onH 12 (by kernel_rfl) rfl fun K hK=>?_
 go_simp
 refine(ZeR _ 42 _).mono ?_
 rintro e w' ⟨ao,he|he⟩
 rotate_left
 ·unfold Pan at he
  subst he
  rw[ao]
  clear ao w'
  dsimp only
  go_wp2
  exact⟨rfl,ap,m,ae,.inr ⟨42,(by decide),rfl,trivial⟩⟩
 subst he
 rw[ao]
 clear ao w'
 dsimp only
 refine hK.out _ _ (⟨ak.cell 0,ae.cell 2⟩) (fun s=>?_)
 try simp only[Act.put,sA,sB,sC]
 refine wpAnyH_done (by kernel_rfl) ?_ _
 clear s
 obtain⟨q,rfl⟩:∃q:Nat,N=(q:Int):=ZaW d1
 have hq:q<m.unders.length:=Int.ofNat_lt.mp d2
 have HQ:=Hi hq
 obtain⟨g,hA,-,-,-⟩:=Zbb au.unders (Nat.lt_of_le_of_lt (Nat.zero_le _) hq)
 have HA:=Hi hA
 clear hq hA
 go_upto_region 3 with(fail)
 obtain⟨W5,Z⟩:=ExY W4.drew
 have aD:=bhD ap Z
 have af:=bkD ae Z
 have ad:Hid (Bk W5 bu 3 #[I q]):=bkD aN Z
 have ac:=bkD ak Z
 have aj:=boD au Z
 refine rgH (S:=(fun U=>U.cell? (Aq bn 0)=some (.string nm)∧U.cell? (Aq bx 2)=some (.slice (some (Aq g 0)) m.unders.length m.sUnd.c)∧U.cell? (Aq bu 0)=some (I q))) (by kernel_rfl) Z ⟨ac.out.cell 0,HA.out▸af.out.cell 2,ad.out.cell 0⟩ fun s=>?_
 clear Z
 refine tkH [0,1,2,3,4,5,6] s (by kernel_rfl) (fun _ _ _ _ h=>h) ?_
 iterate 7 (refine ycH rfl (by rfl) (fun w h=>by go_simp<;>rfl) ?_;try simp only[Act.put,sA,sB,sC])
 refine onH 7 (by kernel_rfl) rfl fun K hK=>?_
 go_simp
 refine hK.out _ _ (⟨ac.out.cell 0,HA.out▸af.out.cell 2,ad.out.cell 0⟩) (fun s=>?_)
 try simp only[Act.put,sA,sB,sC]
 refine tkH [8] s (by kernel_rfl) (fun _ _ _ _ h=>h) ?_
 (refine ycH rfl (by rfl) (fun w h=>by go_simp<;>rfl) ?_;try simp only[Act.put,sA,sB,sC])
 refine onH 9 (by kernel_rfl) rfl fun K hK=>?_
 obtain⟨y0,y1,y2,y3,y4,y5,y6⟩:=ZdJ aj HA HQ
 have z0:=y4 (q*4)
 clear y4
 go_simp
 clear y0 y1 y2 y3 y5 y6 z0
 obtain⟨aO,_,az,aA⟩:=ZaK aj.unders HA
 obtain⟨W6,aa⟩:=ExY ((W5.setCell ⟨g,q*4,none⟩ (.string nm)))
 rw[←aa]
 have L:Bk W5 g 63 aO:=aA
 have aE:Hid (ZaC B bx w W6):=by rw[aa];exact(aD.set_up az)
 have an:Hid (Bk W6 bx 130 m.ar):=by rw[aa];exact(af.far (p:=Aq g (q*4)) (af.ne L (by decide)) _)
 have ay:Hid (Bk W6 bu 3 #[I q]):=by rw[aa];exact(ad.far (p:=Aq g (q*4)) (ad.ne L (by decide)) _)
 have ax:Hid (Bk W6 bn 9 #[.string nm]):=by rw[aa];exact(ac.far (p:=Aq g (q*4)) (ac.ne L (by decide)) _)
 have aJ:Hid (Zaa W6 B {m with unders:=m.unders.set q {m.unders[q]'HQ.out with name:=nm}}):=by rw[aa];exact Zaa.setUnd aj HA HQ (j:=0) (by decide) rfl
 clear aA L az aO
 clear aa
 refine hK.out _ _ (⟨ax.out.cell 0,HA.out▸an.out.cell 2,ay.out.cell 0⟩) (fun s=>?_)
 try simp only[Act.put,sA,sB,sC]
 refine wpAnyH_done (by kernel_rfl) ?_ _
 clear s
 have a0:=an.nine
 have aZ:=ay.one
 have aY:=ax.one
 go_wp2
 go_ret
 refine⟨aE,{m with unders:=m.unders.set q {m.unders[q]'HQ.out with name:=nm}},?_,.inl ⟨_,rfl,aJ,Zax.same rfl rfl rfl⟩⟩
 have e:Zab.cs {m with unders:=m.unders.set q {m.unders[q]'HQ.out with name:=nm}}=m.cs:=by unfold Zab.cs;dsimp only;rw[List.length_set]
 rw[e]
 exact an
theorem Zgj(m:Zab)(C G:Int)(B bx bu bm:Nat)(w:World)(hB:B≤w.heap.size)(bI:Bk w bx 130 m.ar)(ho:Zaa w B m)(hg:Za2 m=true)(bH:Bk w bu 3 #[I C])(ck:bu<B)(bG:Bk w bm 3 #[I G])(cj:bm<B):
 Calls prog 94 #[Pt bx,Pt bu,Pt bm] w (Zbx 181 130 B bx (fun m' _=>Zax m m') True w):=by
 have aN:=Hi hB
 have ca:=Hi hg
 have aR:=Hi bI
 have bt:=Hi ho
 have aQ:=Hi bH
 have bz:=Hi bG
 clear hB bI ho hg bH ck bG cj
 have aP:Hid (ZaC B bx w w):=ZaC.refl _ _ _
 go_enter func94,ntmps94
 go_upto_region 1 with(fail)
 have bL:=Zbr ca
 have bh:=Hi bL
 clear bL
 by_cases d1:0≤C
 rotate_left
 ·obtain⟨W1,Y⟩:=ExY w.drew
  have al:=bhD aP Y
  have N:=bkD aR Y
  have ae:=bkD aQ Y
  refine rgK (by kernel_rfl) Y (CsA ae 0 rfl (CsB N 2 rfl)) fun s=>?_
  clear Y
  refine tkH [0,1,2,3,4,5,6,7,8,9,10,11] s (by kernel_rfl) (fun _ _ _ _ h=>h) ?_
  iterate 12 ((first|refine ycH rfl (by rfl) (fun w h=>by simp only[Cs] at h;go_simp<;>rfl) ?_|refine ncH rfl (by rfl) ?_);try simp only[Act.put,sA,sB,sC])
  refine onH 12 (by kernel_rfl) rfl fun K hK=>?_
  go_simp
  refine Cq (Zau 31 _) ?_
  dsimp only
  go_wp2
  exact⟨rfl,al,m,N,.inr ⟨31,(by decide),rfl,trivial⟩⟩
 by_cases d2:C<(m.unders.length:Int)
 rotate_left
 ·obtain⟨W1,Y⟩:=ExY w.drew
  have al:=bhD aP Y
  have N:=bkD aR Y
  have ae:=bkD aQ Y
  refine rgK (by kernel_rfl) Y (CsA ae 0 rfl (CsB N 2 rfl)) fun s=>?_
  clear Y
  refine tkH [0,1,2,3,4,5,6,7,8,9,10,11] s (by kernel_rfl) (fun _ _ _ _ h=>h) ?_
  iterate 12 (refine ycH rfl (by rfl) (fun w h=>by simp only[Cs] at h;go_simp<;>rfl) ?_;try simp only[Act.put,sA,sB,sC])
  refine onH 12 (by kernel_rfl) rfl fun K hK=>?_
  go_simp
  refine Cq (Zau 31 _) ?_
  dsimp only
  go_wp2
  exact⟨rfl,al,m,N,.inr ⟨31,(by decide),rfl,trivial⟩⟩
 obtain⟨W1,Y⟩:=ExY w.drew
 have al:=bhD aP Y
 have N:=bkD aR Y
 have ae:=bkD aQ Y
 have bc:=bkD bz Y
 have bb:=boD bt Y
 refine rgK (by kernel_rfl) Y (CsA ae 0 rfl (CsB N 2 rfl)) fun s=>?_
 clear Y
 refine tkH [0,1,2,3,4,5,6,7,8,9,10,11] s (by kernel_rfl) (fun _ _ _ _ h=>h) ?_
 iterate 12 (refine ycH rfl (by rfl) (fun w h=>by simp only[Cs] at h;go_simp<;>rfl) ?_;try simp only[Act.put,sA,sB,sC])
 refine onH 12 (by kernel_rfl) rfl fun K hK=>?_
 go_simp
 refine Cq (Za7 31 _) ?_
 dsimp only
 refine hK.out _ _ (⟨ae.cell 0,N.cell 2⟩) (fun s=>?_)
 try simp only[Act.put,sA,sB,sC]
 refine wpAnyH_done (by kernel_rfl) ?_ _
 clear s
 obtain⟨bM,bN,bO,bP,bQ,be,bR,bS,bT,bU,bV,bW,bX,bY,bZ,b0,b7,b8,cl⟩:=N.nine
 have bC:=ae.one
 have bB:=bc.one
 by_cases e1:0≤G
 rotate_left
 ·go_wp2_with fail
  refine Cq (Zau 1 _) ?_
  dsimp only
  go_wp2
  exact⟨rfl,al,m,N,.inr ⟨1,(by decide),rfl,trivial⟩⟩
 by_cases e2:G≤1000000000000
 rotate_left
 ·go_wp2_with fail
  refine Cq (Zau 1 _) ?_
  dsimp only
  go_wp2
  exact⟨rfl,al,m,N,.inr ⟨1,(by decide),rfl,trivial⟩⟩
 go_wp2_with fail
 refine Cq (Za7 1 _) ?_
 dsimp only
 obtain⟨pn,bp⟩:=ExY m.poss.length
 rw[←bp] at be
 have bv:=Hi bp
 clear bp
 go_upto_region 4 with(fail)
 have cc:Hid (ZaC B bx w W1∧ZaC W1.heap.size bx W1 W1∧Bk W1 bx 130 m.ar∧Zbi m m∧Zaa W1 B m∧Bk W1 bu 3 #[I C]∧Bk W1 bm 3 #[I G]):=⟨al,ZaC.refl _ _ _,N,Zbi.refl m,bb,ae,bc⟩
 have cg:Hid (W1.ownsRow B 50 3 (.slice m.sPos.A m.poss.length m.sPos.c) m.poss.length (P.lcs m.poss)):=bb.poss
 have br:=N
 clear bM bN bO bP bQ be bR bS bT bU bV bW bX bY bZ b0 b7 b8 cl bC bB
 go_loopw [33] (fun bq wr=>∃(j:Nat) (m2:Zab),j≤pn∧bq=I (j:Int)∧Hid True∧Hid (ZaC B bx w wr∧ZaC W1.heap.size bx W1 wr∧Bk wr bx 130 m2.ar∧Zbi m m2∧Zaa wr B m2∧Bk wr bu 3 #[I C]∧Bk wr bm 3 #[I G])) (fun bq _=>pn-(intOf bq).toNat)
 case atStart=>exact⟨0,m,Nat.zero_le _,rfl,trivial,cc⟩
 case round=>
  obtain⟨j,m2,hj,rfl,_,HJ⟩:=hrel
  rename World=>V
  have az:Hid (ZaC B bx w V):=HJ.1
  have aO:Hid (ZaC W1.heap.size bx W1 V):=HJ.2.1
  have ak:Hid (Bk V bx 130 m2.ar):=HJ.2.2.1
  have ay:Hid (Zbi m m2):=HJ.2.2.2.1
  have ac:Hid (Zaa V B m2):=HJ.2.2.2.2.1
  have aK:Hid (Bk V bu 3 #[I C]):=HJ.2.2.2.2.2.1
  have a4:Hid (Bk V bm 3 #[I G]):=HJ.2.2.2.2.2.2
  clear HJ
  by_cases bo:j<pn
  rotate_left
  ·have cp:=aK.one
   go_wp2
   go_ret
   exact⟨az,m2,ak,.inl ⟨_,rfl,ac,Zax.same ay.poss ay.orders ay.last⟩⟩
  have cd:=Hi bo
  have WK:Hid (wrap64 ((j:Int)+1)=(j:Int)+1):=ZaQ (by have h1:=bh.lens.2.2.2.2.1;have h2:=bv.out;omega)
  have RE:=Hi (fun(W:World) (m3:Zab) (h2:Hid (ZaC B bx w W∧ZaC W1.heap.size bx W1 W∧Bk W bx 130 m3.ar∧Zbi m m3∧Zaa W B m3∧Bk W bu 3 #[I C]∧Bk W bm 3 #[I G]))=>Zcn (R:=fun _ _=>Hid True) (S:=fun _ m3=>Hid (ZaC B bx w W∧ZaC W1.heap.size bx W1 W∧Bk W bx 130 m3.ar∧Zbi m m3∧Zaa W B m3∧Bk W bu 3 #[I C]∧Bk W bm 3 #[I G])) m3 cd WK trivial h2)
  have bn:j<m.poss.length:=by have:=bv.out;omega
  have bd:=Zer cg br (by decide) aO
  obtain⟨gp,bE,p0,p1,p2⟩:=Zhn bd rfl bn
  have aT:=bh.pos _ (List.getElem_mem bn)
  obtain⟨⟨pa,pi,pq⟩,hp⟩:∃p,p=m.poss[j]:=⟨_,rfl⟩
  rw[←hp] at p0 p1 p2 aT
  dsimp only at p0 p1 p2 aT
  obtain⟨k,rfl⟩:∃k:Nat,pi=(k:Int):=ZaW aT.1
  have aS:k<m2.instrs.length:=by rw[ay.instrs];exact Int.ofNat_lt.mp aT.2.1
  have bg:=Hi aS
  have ch:=Hi (Zht ay bh)
  have b9:=Hi bE
  have j0:(0:Int)≤(j:Int):=Int.natCast_nonneg j
  have j1:(j:Int)<(pn:Int):=Int.ofNat_lt.mpr bo
  obtain⟨g2,bi,-,-,-⟩:=Zbb ac.instrs (Nat.lt_of_le_of_lt (Nat.zero_le _) aS)
  have aU:=Hi bi
  obtain⟨c0,-,-,-,-,-,-,-,lg,-,-⟩:=ZdI ac bi aS
  obtain⟨kd,bD⟩:∃x:Int,V.cell? ⟨g2,k*7,none⟩=some (I x):=⟨_,c0⟩
  have aY:Hid (∀U,Bw V U→U.cell? (Aq g2 (k*7))=some (I kd)):=fun U hU=>(hU.cell (p:=Aq g2 (k*7)) lg).trans bD
  have cf:Hid (∃b:Bool,∀V2,Bw V V2→Calls prog 89 #[Pt bx,I k,I C] V2 fun e w'=>e=.returned (.bool b)∧w'=V2):=
   ⟨_,fun V2 bF=>ZdD m2 bx k C V2 (ak.below bF ak.lt) (ac.below bF).rd bg⟩
  have k0:(0:Int)≤(k:Int):=Int.natCast_nonneg k
  have k1:(k:Int)<(m2.instrs.length:Int):=Int.ofNat_lt.mpr aS
  clear bn bd hp bE bo aT c0 bD lg bi aS
  rw[b9.out]
  have a1:Hid (Bw V V):=Below.refl _ _
  obtain⟨ax,Z⟩:=ExY (V.alloc (.cells #[I pa,I k,I pq] 50))
  obtain⟨b6,bj⟩:=ExY V.heap.size
  have an:=blA a1 Z
  have aV:=bhA az aN Z
  have aw:=bkA ak Z
  have aq:=bkA aK Z
  have a5:=bkA a4 Z
  have aZ:=boA ac Z
  have ao:=bkW Z bj
  go_upto_region 6 with(fail)
  rw[←Z,←bj]
  clear Z bj
  clear p0 p1 p2
  go_cut [54] (fun cm wx=>∃b:Bool,cm=.bool b∧Hid (Bw ax wx))
  case first=>
   obtain⟨ob,bJ⟩:=cf.out
   have bs:=Hi bJ
   clear bJ
   cases ob with
   |false=>
    obtain⟨am,z⟩:=ExY ax.drew
    have E:=blD an z
    have L:=bkD aw z
    have J:=bkD aq z
    have X:=bkD ao z
    have bf:Hid (Bw ax am):=by rw[z];exact(Below.refl _ _).drew
    refine rgH (S:=(fun U=>U.cell? (Aq b6 1)=some (I k)∧U.cell? (Aq bu 0)=some (I C)∧U.cell? (Aq bx 3)=some (.slice (some (Aq g2 0)) m2.instrs.length m2.sIns.c)∧U.cell? (Aq g2 (k*7))=some (I kd))) (by kernel_rfl) z ⟨X.out.cell 1,J.out.cell 0,aU.out▸L.out.cell 3,aY.out _ E.out⟩ fun s=>?_
    clear z
    refine tkH [0,1,2,3] s (by kernel_rfl) (fun _ _ _ _ h=>h) ?_
    iterate 4 (refine ycH rfl (by rfl) (fun w h=>by go_simp<;>rfl) ?_;try simp only[Act.put,sA,sB,sC])
    refine onH 4 (by kernel_rfl) rfl fun K hK=>?_
    go_simp
    refine Cq (bs.out _ E) ?_
    dsimp only
    refine hK.out _ _ (⟨X.out.cell 1,J.out.cell 0,aU.out▸L.out.cell 3,aY.out _ E.out⟩) (fun s=>?_)
    try simp only[Act.put,sA,sB,sC]
    refine tkH [5,6,7,8,9,10,11,12,13,14,15,16,17] s (by kernel_rfl) (fun _ _ _ _ h=>h) ?_
    iterate 13 ((first|refine ycH rfl (by rfl) (fun w h=>by go_simp<;>rfl) ?_|refine ncH rfl (by rfl) ?_);try simp only[Act.put,sA,sB,sC])
    refine wpAnyH_done (by kernel_rfl) ?_ _
    clear s
    go_wp2
    go_meet
    exact⟨_,rfl,bf⟩
   |true=>
    obtain⟨am,z⟩:=ExY ax.drew
    have E:=blD an z
    have L:=bkD aw z
    have J:=bkD aq z
    have X:=bkD ao z
    have bf:Hid (Bw ax am):=by rw[z];exact(Below.refl _ _).drew
    refine rgH (S:=(fun U=>U.cell? (Aq b6 1)=some (I k)∧U.cell? (Aq bu 0)=some (I C)∧U.cell? (Aq bx 3)=some (.slice (some (Aq g2 0)) m2.instrs.length m2.sIns.c)∧U.cell? (Aq g2 (k*7))=some (I kd))) (by kernel_rfl) z ⟨X.out.cell 1,J.out.cell 0,aU.out▸L.out.cell 3,aY.out _ E.out⟩ fun s=>?_
    clear z
    refine tkH [0,1,2,3] s (by kernel_rfl) (fun _ _ _ _ h=>h) ?_
    iterate 4 (refine ycH rfl (by rfl) (fun w h=>by go_simp<;>rfl) ?_;try simp only[Act.put,sA,sB,sC])
    refine onH 4 (by kernel_rfl) rfl fun K hK=>?_
    go_simp
    refine Cq (bs.out _ E) ?_
    dsimp only
    refine hK.out _ _ (⟨X.out.cell 1,J.out.cell 0,aU.out▸L.out.cell 3,aY.out _ E.out⟩) (fun s=>?_)
    try simp only[Act.put,sA,sB,sC]
    refine tkH [5,6,7,8,9,10,11,12,13,14,15,16,17] s (by kernel_rfl) (fun _ _ _ _ h=>h) ?_
    iterate 13 (refine ycH rfl (by rfl) (fun w h=>by go_simp<;>rfl) ?_;try simp only[Act.put,sA,sB,sC])
    refine wpAnyH_done (by kernel_rfl) ?_ _
    clear s
    go_wp2
    go_meet
    exact⟨_,rfl,bf⟩
  case rest=>
  obtain⟨b,rfl,HW⟩:=hcut
  have hb:=HW.out
  have E:=blT an hb
  have aA:=bhU aV aN hb
  have L:=bkN aw hb
  have J:=bkN aq hb
  have aG:=bkN a5 hb
  have X:=bkN ao hb
  have aC:=boN aZ hb
  clear hb
  clear HW
  rename World=>am
  cases b with
  |false=>
   go_wp2
   exact RE.out am m2 ⟨aA,aO.trans ((ZaC.of E (Nat.le_refl _)).weak aO.size),L,ay,aC,J,aG⟩
  |true=>
  go_upto_region 7 with(fail)
  obtain⟨cn,aa⟩:=ExY am.drew
  have a2:=blD E aa
  have aW:=bhD aA aa
  have aL:=bkD L aa
  have a6:=bkD J aa
  have aH:=bkD aG aa
  have ah:=bkD X aa
  have aD:=boD aC aa
  refine rgK (by kernel_rfl) aa (CsA ah 1 rfl (CsA ah 2 rfl (CsA aH 0 rfl (CsB ah 0 rfl)))) fun s=>?_
  clear aa
  refine tkH [0,1,2,3,5,6,7,8,9,10,12,13] s (by kernel_rfl) (fun _ _ _ _ h=>h) ?_
  iterate 12 (refine ycH rfl (by rfl) (fun w h=>by simp only[Cs] at h;go_simp<;>rfl) ?_;try simp only[Act.put,sA,sB,sC])
  refine onH 4 (by kernel_rfl) rfl fun K hK=>?_
  go_simp
  refine(Zgv m2 bx k _ aL aD.rd ch bg).mono ?_
  rintro e co ⟨⟨x,rfl⟩,hb⟩
  have a3:=blT a2 hb
  have aX:=bhU aW aN hb
  have aM:=bkN aL hb
  have a7:=bkN a6 hb
  have aI:=bkN aH hb
  have ai:=bkN ah hb
  have aE:=boN aD hb
  clear hb
  dsimp only
  refine hK.out _ _ (⟨ai.cell 1,ai.cell 2,aI.cell 0,ai.cell 0⟩) (fun s=>?_)
  try simp only[Act.put,sA,sB,sC]
  refine onH 11 (by kernel_rfl) rfl fun K hK=>?_
  go_simp
  refine(Zd2 m2 bx k _ _ _ aM aE.rd bg).mono ?_
  rintro e bA ⟨he,hb⟩
  have aF:=blT a3 hb
  have ag:=bhU aX aN hb
  have ad:=bkN aM hb
  have au:=bkN a7 hb
  have aj:=bkN aI hb
  have ab:=bkN ai hb
  have a0:=boN aE hb
  clear hb
  rcases he with⟨y,rfl⟩|⟨er,bl,he⟩
  rotate_left
  ·unfold Pan at he
   subst he
   dsimp only
   go_wp2
   exact⟨rfl,ag,m2,ad,.inr ⟨er,bl,rfl,trivial⟩⟩
  dsimp only
  refine hK.out _ _ (⟨ab.cell 1,ab.cell 2,aj.cell 0,ab.cell 0⟩) (fun s=>?_)
  try simp only[Act.put,sA,sB,sC]
  refine onH 14 (by kernel_rfl) rfl fun K hK=>?_
  go_simp
  refine(ZgC m2 bx x y 0 pa _ ad a0.rd).mono ?_
  rintro e af ⟨hh,he⟩
  have aB:Hid (ZaC B bx w af):=ag.trans (hh.weak (Nat.le_trans aN ag.size))
  have cb:Hid (ZaC W1.heap.size bx W1 af):=aO.trans (((ZaC.of aF (Nat.le_refl _)).weak aO.size).trans (hh.weak (Nat.le_trans aO.size aF.size)))
  have ap:Hid (Bk af b6 50 #[I pa,I k,I pq]):=ab.hole hh ab.lt ((ab.ne ad (by decide)))
  have a8:Hid (Bk af bu 3 #[I C]):=au.hole hh au.lt ((au.ne ad (by decide)))
  have aJ:Hid (Bk af bm 3 #[I G]):=aj.hole hh aj.lt ((aj.ne ad (by decide)))
  have ci:Hid (B≤bA.heap.size):=Nat.le_trans aN ag.size
  rcases he with⟨he,m4,ba,bK,ho⟩|⟨er,bl,he,ba⟩
  rotate_left
  ·unfold Pan at he
   subst he
   dsimp only
   go_wp2
   exact⟨rfl,aB,m2,ba,.inr ⟨er,bl,rfl,trivial⟩⟩
  subst he
  have a9:Hid (Bk af bx 130 m4.ar):=ba
  have bw:Hid (Zbi m m4):=ay.trans bK
  have ce:Hid (Zaa af B m4):=ho.mono ci
  clear hh ba bK ho
  dsimp only
  refine hK.out _ _ (⟨ap.cell 1,ap.cell 2,aJ.cell 0,ap.cell 0⟩) (fun s=>?_)
  try simp only[Act.put,sA,sB,sC]
  refine wpAnyH_done (by kernel_rfl) ?_ _
  clear s
  go_wp2
  exact RE.out af m4 ⟨aB,cb,a9,bw,ce,a8,aJ⟩
theorem Zja(m:Zab)(s:Int)(nm:ByteArray)(w:World)(hm:Zay w w.heap.size m)(aj:Gl w):
 Calls prog 41 #[m.val,I s,.string nm] w (Zar (Zaj m (fun m1 m2 _=>Zax m1 m2)) (Zas m (fun m1 m2 _=>Zax m1 m2) (fun _=>True)) w):=by
 show Calls prog 41 #[.agg m.ar,I s,.string nm] w (Zar (Zaj m (fun m1 m2 _=>Zax m1 m2)) (Zas m (fun m1 m2 _=>Zax m1 m2) (fun _=>True)) w)
 obtain⟨W1,N⟩:=ExY (w.alloc (.cells m.ar 37))
 obtain⟨bl,X⟩:=ExY w.heap.size
 have ak:=blB N
 have am:=bkW N X
 obtain⟨W2,L⟩:=ExY (W1.alloc (.cells #[I s] 3))
 obtain⟨bu,Z⟩:=ExY W1.heap.size
 have al:=blA ak L
 have an:=bkA am L
 have aq:=bkW L Z
 have ae:bu=bl+1:=by rw[Z,N,World.size_alloc,←X]
 obtain⟨W3,C⟩:=ExY (W2.alloc (.cells #[.string nm] 9))
 obtain⟨bn,Y⟩:=ExY W2.heap.size
 have aa:=blA al C
 have ab:=bkA an C
 have au:=bkA aq C
 have ap:=bkW C Y
 have ad:bn=bu+1:=by rw[Y,L,World.size_alloc,←Z]
 obtain⟨W4,E⟩:=ExY (W3.alloc (.cells zZ 37))
 obtain⟨bz,R⟩:=ExY W3.heap.size
 have aw:Hid (bz≠bl):=by
  have h:=ab.lt
  show bz≠bl
  rw[R]
  exact Ne.symm (Nat.ne_of_lt h)
 have ah:=blZ aa R
 have z:=blA aa E
 have ao:=bkA ab E
 have J:=bkA au E
 have G:=bkA ap E
 have ac:=bkW E R
 have af:bz=bn+1:=by rw[R,C,World.size_alloc,←Y]
 have HT:Hid (Calls prog 83 #[.agg m.ar,.func (.func 98) #[] #[Pt bu,Pt bn]] W4 (Zar (Zaj m (fun m1 m2 _=>Zax m1 m2)) (Zas m (fun m1 m2 _=>Zax m1 m2) (fun _=>True)) W4)):=Hi (Zc2 98 #[Pt bu,Pt bn] m (fun m1 m2 _=>Zax m1 m2) (fun _=>True) W4 ((hm.below z).mono z.size) (aj.below z aj.lt) (fun pl W=>by kernel_rfl) (by
  intro m1 B bx W hp
  exact Zh3 m1 s nm B bx bu bn W hp.size hp.bk hp.own hp.good (J.below hp.below J.lt) (Nat.lt_of_lt_of_le J.lt hp.base) (G.below hp.below G.lt) (Nat.lt_of_lt_of_le G.lt hp.base)))
 clear hm aj
 go_enter func41,ntmps41
 go_upto_region 1 with(fail)
 rw[←N,←X,←L,←ae,←C,←ad,←E,←af]
 clear N X ae L Z ad C Y af E R
 have ax:=ao.nine
 have az:=J.one
 have ay:=G.one
 have aA:=ac.nine
 go_wp2_with fail
 refine HT.mono ?_
 rintro e W9 ⟨hb,m2,n,er,rfl,hc⟩
 have HC:=Hi hc
 have aB:=blT z hb
 have aC:=Hi z.size
 have ai:=bkN ac hb
 clear hb hc ax az ay aA
 have ag:m2.val=.agg m2.ar:=rfl
 rw[ag]
 clear ag
 dsimp only
 go_wp2_with (refine wpList_store_row rfl 37 _ _ rfl bz m2.ar rfl rfl 37 zZ ai ZaU (by rfl) (by simp[Value.oneCell']) ?_)
 obtain⟨V9,U⟩:=ExY (W9.setRow bz m2.ar)
 rw[←U]
 have aF:=bkr ai U
 have aD:=blr aB U ah
 have aE:(er=0∧Zaa V9 w.heap.size m2∧(Zaj m (fun m1 m2 _=>Zax m1 m2)) m2 n)∨(er≠0∧m2=Za4∧n=0∧(Zas m (fun m1 m2 _=>Zax m1 m2) (fun _=>True))):=by
  rcases HC.out with⟨h1,h2,h3⟩|h
  ·exact .inl ⟨h1,by rw[U];exact(h2.mono aC).rowFar ai (by decide) _,h3⟩
  ·exact .inr h
 exact bodyPost_ret (Zam (p:=6) (q:=7) (r:=8) results41 _ V9 bz 37 m2.ar (0,0) _ rfl aF underlying37 rfl ZaU) rfl ⟨aD,m2,n,er,rfl,aE⟩
theorem Zg2(m:Zab)(z s:Int)(w:World)(hm:Zay w w.heap.size m)(al:Gl w):
 Calls prog 40 #[m.val,I z,I s] w (Zar (Zaj m (fun m1 m2 _=>Zax m1 m2)) (Zas m (fun m1 m2 _=>Zax m1 m2) (fun _=>True)) w):=by
 show Calls prog 40 #[.agg m.ar,I z,I s] w (Zar (Zaj m (fun m1 m2 _=>Zax m1 m2)) (Zas m (fun m1 m2 _=>Zax m1 m2) (fun _=>True)) w)
 obtain⟨W1,R⟩:=ExY (w.alloc (.cells m.ar 37))
 obtain⟨bl,Z⟩:=ExY w.heap.size
 have am:=blB R
 have ao:=bkW R Z
 obtain⟨W2,N⟩:=ExY (W1.alloc (.cells #[I z] 3))
 obtain⟨bu,aa⟩:=ExY W1.heap.size
 have an:=blA am N
 have ap:=bkA ao N
 have ad:=bkW N aa
 have ag:bu=bl+1:=by rw[aa,R,World.size_alloc,←Z]
 obtain⟨W3,E⟩:=ExY (W2.alloc (.cells #[I s] 3))
 obtain⟨bm,U⟩:=ExY W2.heap.size
 have ax:Hid (bm≠bu):=by
  have h:=ad.lt
  show bm≠bu
  rw[U]
  exact Ne.symm (Nat.ne_of_lt h)
 have ab:=blA an E
 have ac:=bkA ap E
 have aw:=bkA ad E
 have au:=bkW E U
 have af:bm=bu+1:=by rw[U,N,World.size_alloc,←aa]
 obtain⟨W4,G⟩:=ExY (W3.alloc (.cells zZ 37))
 obtain⟨bz,X⟩:=ExY W3.heap.size
 have ay:Hid (bz≠bl):=by
  have h:=ac.lt
  show bz≠bl
  rw[X]
  exact Ne.symm (Nat.ne_of_lt h)
 have aj:=blZ ab X
 have C:=blA ab G
 have aq:=bkA ac G
 have L:=bkA aw G
 have J:=bkA au G
 have ae:=bkW G X
 have ah:bz=bm+1:=by rw[X,E,World.size_alloc,←U]
 have HT:Hid (Calls prog 83 #[.agg m.ar,.func (.func 94) #[] #[Pt bu,Pt bm]] W4 (Zar (Zaj m (fun m1 m2 _=>Zax m1 m2)) (Zas m (fun m1 m2 _=>Zax m1 m2) (fun _=>True)) W4)):=Hi (Zc2 94 #[Pt bu,Pt bm] m (fun m1 m2 _=>Zax m1 m2) (fun _=>True) W4 ((hm.below C).mono C.size) (al.below C al.lt) (fun pl W=>by kernel_rfl) (by
  intro m1 B bx W hp
  exact Zgj m1 z s B bx bu bm W hp.size hp.bk hp.own hp.good (L.below hp.below L.lt) (Nat.lt_of_lt_of_le L.lt hp.base) (J.below hp.below J.lt) (Nat.lt_of_lt_of_le J.lt hp.base)))
 clear hm al
 go_enter func40,ntmps40
 go_upto_region 1 with(fail)
 rw[←R,←Z,←N,←ag,←E,←af,←G,←ah]
 clear R Z ag N aa af E U ah G X
 have az:=aq.nine
 have aB:=L.one
 have aA:=J.one
 have aC:=ae.nine
 go_wp2_with fail
 refine HT.mono ?_
 rintro e W9 ⟨hb,m2,n,er,rfl,hc⟩
 have HC:=Hi hc
 have aD:=blT C hb
 have aE:=Hi C.size
 have ak:=bkN ae hb
 clear hb hc az aB aA aC
 have ai:m2.val=.agg m2.ar:=rfl
 rw[ai]
 clear ai
 dsimp only
 go_wp2_with (refine wpList_store_row rfl 37 _ _ rfl bz m2.ar rfl rfl 37 zZ ak ZaU (by rfl) (by simp[Value.oneCell']) ?_)
 obtain⟨V9,Y⟩:=ExY (W9.setRow bz m2.ar)
 rw[←Y]
 have aH:=bkr ak Y
 have aF:=blr aD Y aj
 have aG:(er=0∧Zaa V9 w.heap.size m2∧(Zaj m (fun m1 m2 _=>Zax m1 m2)) m2 n)∨(er≠0∧m2=Za4∧n=0∧(Zas m (fun m1 m2 _=>Zax m1 m2) (fun _=>True))):=by
  rcases HC.out with⟨h1,h2,h3⟩|h
  ·exact .inl ⟨h1,by rw[Y];exact(h2.mono aE).rowFar ak (by decide) _,h3⟩
  ·exact .inr h
 exact bodyPost_ret (Zam (p:=6) (q:=7) (r:=8) results40 _ V9 bz 37 m2.ar (0,0) _ rfl aH underlying37 rfl ZaU) rfl ⟨aF,m2,n,er,rfl,aG⟩
def ZlD(e:Ending):Prop:=∃b:Bool,e=.returned (.bool b)
theorem ZlD.yes{b:Bool}:ZlD (.returned (.bool b)):=⟨b,rfl⟩
theorem Zlb(p:P.Lc)(w:World):Calls prog 93 #[p.val] w fun e w'=>ZlD e∧Bw w w':=by
 obtain⟨pa,pi,pq⟩:=p
 show Calls prog 93 #[.agg #[I pa,I pi,I pq]] w _
 have HB:Hid (Bw w (w.alloc (.cells #[I pa,I pi,I pq] 50))):=(Below.refl _ w).alloc (Nat.le_refl _) _
 go_enter func93,ntmps93
 go_wp2
 go_ret
 exact⟨ZlD.yes,HB⟩
theorem ZjV(m:Zab)(p:P.Lc)(E L:Nat)(w:World)(hb:Bk w E 130 m.ar)(hv:Bk w L 128 #[Pt E])(hm:Zay w w.heap.size m)(hp:0≤p.instr∧p.instr<m.instrs.length):
 Calls prog 101 #[p.val,Pt L] w fun e w'=>ZlD e∧Bw w w':=by
 obtain⟨pa,pi,pq⟩:=p
 dsimp only at hp
 obtain⟨k,rfl⟩:∃k:Nat,pi=(k:Int):=ZaW hp.1
 have hk:k<m.instrs.length:=Int.ofNat_lt.mp hp.2
 show Calls prog 101 #[.agg #[I pa,I k,I pq],Pt L] w _
 obtain⟨a,hA,_,c0,c1,c2,c3,c4,c5,c6⟩:=Zds hm.instrs hk
 obtain⟨ex,Z⟩:∃x:Int,w.cell? ⟨(a.add (k*7)).block,(a.add (k*7)).off+4,none⟩=some (I x):=⟨_,c4⟩
 have HE:=Hi Z
 have HA:=Hi hA
 have k0:(0:Int)≤(k:Int):=Int.natCast_nonneg k
 have k1:(k:Int)<(m.instrs.length:Int):=Int.ofNat_lt.mpr hk
 have Y:=Hi hb
 have R:=Hi hv
 clear hp hk hA c0 c1 c2 c3 c4 Z c5 c6 hb hv hm
 obtain⟨W1,z⟩:=ExY (w.alloc (.cells #[I pa,I k,I pq] 50))
 obtain⟨b2,J⟩:=ExY w.heap.size
 have C:=blB z
 have G:=bkA Y z
 have X:=bkA R z
 have N:=bkW z J
 go_enter func101,ntmps101
 go_upto_region 1 with(fail)
 rw[←z,←J]
 clear z J
 have HS:Hid ((fun U=>U.cell? (Aq L 0)=some (Pt E)∧U.cell? (Aq E 3)=some (.slice (some a) m.instrs.length m.sIns.c)∧U.cell? (Aq b2 1)=some (I k)∧U.cell? ⟨(a.add (k*7)).block,(a.add (k*7)).off+4,none⟩=some (I ex)∧U.cell? (Aq E 0)=some (I m.day)) W1):=⟨X.out.cell 0,HA.out▸G.out.cell 3,N.out.cell 1,(C.out.cell (World.block_lt_of_cell? _ _ HE.out)).trans HE.out,G.out.cell 0⟩
 by_cases d:ex=m.day
 ·have aa:(ex != m.day)=false:=by simpa using d
  have ab:(ex==m.day)=true:=by simpa using d
  refine wp_region_held_drew (S:=(fun U=>U.cell? (Aq L 0)=some (Pt E)∧U.cell? (Aq E 3)=some (.slice (some a) m.instrs.length m.sIns.c)∧U.cell? (Aq b2 1)=some (I k)∧U.cell? ⟨(a.add (k*7)).block,(a.add (k*7)).off+4,none⟩=some (I ex)∧U.cell? (Aq E 0)=some (I m.day))) (by kernel_rfl) (HS.out) (fun s=>?_)
  refine tkH [0,1,2,3,4,5,6,7,8,9,10,11,12,13,14,15,16,17,18,19,20,21,22,23,24] s (by kernel_rfl) (fun _ _ _ _ h=>h) ?_
  iterate 25 (refine ycH rfl (by rfl) (fun w h=>by go_simp<;>rfl) ?_;try simp only[Act.put,sA,sB,sC])
  refine wpAnyH_done (by kernel_rfl) ?_ _
  clear s
  go_wp2
  go_ret
  exact⟨ZlD.yes,C.drew⟩
 have aa:(ex != m.day)=true:=by simpa using d
 have ab:(ex==m.day)=false:=by simpa using d
 refine wp_region_held_drew (S:=(fun U=>U.cell? (Aq L 0)=some (Pt E)∧U.cell? (Aq E 3)=some (.slice (some a) m.instrs.length m.sIns.c)∧U.cell? (Aq b2 1)=some (I k)∧U.cell? ⟨(a.add (k*7)).block,(a.add (k*7)).off+4,none⟩=some (I ex)∧U.cell? (Aq E 0)=some (I m.day))) (by kernel_rfl) (HS.out) (fun s=>?_)
 refine tkH [0,1,2,3,4,5,6,7,8,9,10,11,12,13,14,15,16,17,18,19,20,21,22,23,24] s (by kernel_rfl) (fun _ _ _ _ h=>h) ?_
 iterate 25 ((first|refine ycH rfl (by rfl) (fun w h=>by go_simp<;>rfl) ?_|refine ncH rfl (by rfl) ?_);try simp only[Act.put,sA,sB,sC])
 refine wpAnyH_done (by kernel_rfl) ?_ _
 clear s
 go_wp2
 go_ret
 exact⟨ZlD.yes,C.drew⟩
def ZkH(m m2:Zab):Prop:=∃(l:List P.Lc) (s:Sl),(∀p∈l,p∈m.poss)∧l.length≤m.poss.length∧m2={m with poss:=l,sPos:=s}
theorem ZkH.seen{m m2:Zab}(h:ZkH m m2)(s:ZbT m):ZbT m2:=by
 obtain⟨l,sl,h1,h2,rfl⟩:=h
 exact⟨s.ins,s.und,fun p hp=>s.pos p (h1 p hp),s.ord,s.cash,⟨s.lens.1,s.lens.2.1,s.lens.2.2.1,s.lens.2.2.2.1,Nat.le_trans h2 s.lens.2.2.2.2.1,s.lens.2.2.2.2.2⟩⟩
theorem ZeJ{α β γ:Type}{n j:Nat}{F:α→β→γ→Value}{R:Nat→α→β→γ→Prop}{v:Value}(l:α)(x:β)(y:γ)(s:j<n)(C:wrap64 ((j:Int)+1)=(j:Int)+1)(z:v=F l x y)(h:R (j+1) l x y):
 (∃(j_1:Nat) (l_1:α) (x_1:β) (y_1:γ),j_1≤n∧v=F l_1 x_1 y_1∧Value.int .i64 (wrap64 ((j:Int)+1))=Value.int .i64 (j_1:Int)∧R j_1 l_1 x_1 y_1) ∧
  n-(intOf (Value.int .i64 (wrap64 ((j:Int)+1)))).toNat<n-(intOf (Value.int .i64 (j:Int))).toNat:=by
 rw[C]
 exact⟨⟨j+1,l,x,y,s,z,by rw[Int.natCast_succ],h⟩,Zba s⟩
theorem Zip(m:Zab)(bx BB kf:Nat)(caps:Array Value)(w:World)(aF:BB≤w.heap.size)(hb:Bk w bx 130 m.ar)(ho:Zaa w BB m)(aL:ZbT m)(bg:∀v W,(callFunc kf (#[v]++caps)).run prog W=.ok (.enter kf (#[v]++caps)) W)(aH:∀V,Bw w V→∀p∈m.poss,Calls prog kf (#[P.Lc.val p]++caps) V fun e w'=>ZlD e∧Bw V w'):
 Calls prog 92 #[Pt bx,.func (.func kf) #[] caps] w fun e w'=>ZaC w.heap.size bx w w'∧e=.returned (.tuple #[])∧∃m2:Zab,Bk w' bx 130 m2.cs.toArray∧Zaa w' BB m2∧ZkH m m2:=by
 obtain⟨B,hB⟩:=ExY w.heap.size
 have a5:=Hi aF
 have Z:=Hi hb
 have ah:=Hi ho
 have an:=Hi aL
 have a6:=Hi aH
 clear hB aF hb ho aL aH
 obtain⟨i0,ai,ad⟩:=Option.map_eq_some_iff.1 P.info50
 simp only[Prod.mk.injEq] at ad
 have HI:=Hi ai
 have ba:=Hi ad.1
 have bb:=Hi ad.2.1
 have bc:=Hi ad.2.2
 clear ai ad
 go_enter func92,ntmps92
 obtain⟨aM,aN,aO,aP,aQ,al,aR,aS,aT,aU,aV,aW,aX,aY,aZ,a0,a1,a2,bd⟩:=Z.nine
 obtain⟨pn,aw⟩:=ExY m.poss.length
 rw[←aw] at al
 have Y:=Hi aw
 clear aw
 go_upto_region 2 with(fail)
 clear aM aN aO aP aQ al aR aS aT aU aV aW aX aY aZ a0 a1 a2 bd
 have a7:Hid (Bw w w∧w.ownsRow w.heap.size 50 3 (.slice none ([]:List P.Lc).length 0) ([]:List P.Lc).length (P.lcs ([]:List P.Lc))∧([]:List P.Lc).length≤0∧∀p∈([]:List P.Lc),p∈m.poss):=⟨Below.refl _ _,World.ownsRow_nil _ _ _ _,Nat.le_refl _,fun _ h=>by cases h⟩
 go_loopw [4,13] (fun v4 ax wr=>∃(j:Nat) (l:List P.Lc) (A:Option Addr) (c:Nat),j≤pn∧v4=.slice A l.length c∧ax=I (j:Int)∧Hid (Bw w wr∧wr.ownsRow w.heap.size 50 3 (.slice A l.length c) l.length (P.lcs l)∧l.length≤j∧∀p∈l,p∈m.poss)) (fun _ ax _=>pn-(intOf ax).toNat)
 case atStart=>exact⟨0,[],none,0,Nat.zero_le _,rfl,rfl,a7⟩
 case round=>
  obtain⟨j,l,A,c,hj,rfl,rfl,HJ⟩:=hrel
  rename World=>V
  have U:Hid (Bw w V):=HJ.1
  have aD:Hid (V.ownsRow w.heap.size 50 3 (.slice A l.length c) l.length (P.lcs l)):=HJ.2.1
  have X:Hid (l.length≤j):=HJ.2.2.1
  have am:Hid (∀p∈l,p∈m.poss):=HJ.2.2.2
  clear HJ
  by_cases au:j<pn
  rotate_left
  ·have E:Hid (Bk V bx 130 m.ar):=Z.below U Z.lt
   have aA:Hid (l.length≤1000000):=by have h1:=X.out;have h2:=Y.out;have h3:=an.lens.2.2.2.2.1;show l.length≤_;omega
   have bf:=E.nine
   go_wp2
   obtain⟨W,hW⟩:=ExY (V.setCell ⟨bx,5,none⟩ (.slice A l.length c))
   rw[←hW]
   have JX:Hid (Bk W bx 130 #[I m.day,.slice m.sCur.A m.curs.length m.sCur.c,.slice m.sUnd.A m.unders.length m.sUnd.c,.slice m.sIns.A m.instrs.length m.sIns.c,.slice m.sAcc.A m.accts.length m.sAcc.c,.slice A l.length c,.slice m.sOrd.A m.orders.length m.sOrd.c,.slice m.sAva.A m.avail.length m.sAva.c,.slice m.sLoc.A m.locs.length m.sLoc.c]):=bkS E 5 hW
   have JH:Hid (ZaC w.heap.size bx w W):=by rw[hW];exact(ZaC.of U (Nat.le_refl _)).set_in
   have JO:Hid (Zaa W BB {m with poss:=l,sPos:=⟨A,c⟩}):=by rw[hW];exact Zaa.far (Zaa.setPos (ah.below U) (Zap aD a5) aA) E (by decide) 5 _
   clear hW
   go_end0
   exact⟨JH,rfl,{m with poss:=l,sPos:=⟨A,c⟩},JX,JO,l,⟨A,c⟩,am,by have h1:=X.out;have h2:=Y.out;omega,rfl⟩
  have aB:=Hi au
  have WK:Hid (wrap64 ((j:Int)+1)=(j:Int)+1):=ZaQ (by have h1:=an.lens.2.2.2.2.1;have h2:=Y.out;omega)
  have RE:=Hi (fun(W:World) (l2:List P.Lc) (A2:Option Addr) (c2:Nat) (h2:Hid (Bw w W∧W.ownsRow w.heap.size 50 3 (.slice A2 l2.length c2) l2.length (P.lcs l2)∧l2.length≤(j+1)∧∀p∈l2,p∈m.poss))=>ZeJ (F:=fun(l:List P.Lc) (A:Option Addr) (c:Nat)=>.slice A l.length c) (R:=fun j l A c=>Hid (Bw w W∧W.ownsRow w.heap.size 50 3 (.slice A l.length c) l.length (P.lcs l)∧l.length≤j∧∀p∈l,p∈m.poss)) l2 A2 c2 aB WK rfl h2)
  have ap:j<m.poss.length:=by have:=Y.out;omega
  have ak:=Zai ah.poss U
  obtain⟨gp,aE,p0,p1,p2⟩:=Zhn ak rfl ap
  have ab:=List.getElem_mem ap
  obtain⟨⟨pa,pi,pq⟩,hp⟩:∃p,p=m.poss[j]:=⟨_,rfl⟩
  rw[←hp] at p0 p1 p2 ab
  dsimp only at p0 p1 p2
  have ag:=Hi ab
  have a3:=Hi aE
  have j0:(0:Int)≤(j:Int):=Int.natCast_nonneg j
  have j1:(j:Int)<(pn:Int):=Int.ofNat_lt.mpr au
  clear ap ak hp aE au ab
  rw[a3.out]
  have L:=aD
  obtain⟨be,z⟩:=ExY (V.alloc (.cells #[I pa,I pi,I pq] 50))
  obtain⟨b6,ao⟩:=ExY V.heap.size
  have J:=blA U z
  have ae:=boC L z
  clear L
  have N:=bkW z ao
  go_upto_region 4 with(fail)
  rw[←z,←ao]
  clear z ao
  clear p0 p1 p2
  have aa:=N.three
  go_wp2_with fail
  refine(a6.out _ J ⟨pa,pi,pq⟩ ag).mono ?_
  rintro e G ⟨⟨b,rfl⟩,hb⟩
  have s:=blT J hb
  have af:=bkN N hb
  have C:=boB ae hb
  clear aa
  clear hb
  have aa:=af.three
  dsimp only
  cases b with
  |false=>
   go_wp2
   exact RE.out G l A c ⟨s,C,Nat.le_trans X (Nat.le_succ j),am⟩
  |true=>
  have aj:∀u∈[Value.int .i64 pa,Value.int .i64 pi,Value.int .i64 pq],u.oneCell'=true:=by simp[Value.oneCell']
  have aJ:Rd (G.alloc (.cells #[I pa,I pi,I pq] 50)) (G.heap.size+1) 3 (some ⟨G.heap.size,0,none⟩) 1 [I pa,I pi,I pq]:=
   ⟨rfl,fun _=>⟨_,rfl,by simp,World.news_of_block (Bk.new G 50 #[I pa,I pi,I pq])⟩⟩
  have a9:=Hi aJ
  have aC:=Hi aj
  have az:Hid (l.length≤64):=by have h1:=X.out;have h2:=Y.out;have h3:=an.lens.2.2.2.2.1;show l.length≤64;have h4:=aB.out;omega
  clear aJ aj
  go_wp2_with (at_builtin;go_must (refine Zan _ rfl (.tmp 20) (.tmp 22) _ rfl w.heap.size 50 i0 _ 3 24 underlying33 HI ba bb bc rfl (by decide) _ l.length (P.lcs l) rfl (Zai C ((Below.refl _ _).alloc (Nat.le_refl _) _)) _ _ 1 1 _ rfl a9 aC (by unfold maxLen;have:=az.out;omega) (by have:=az.out;omega) (by have:=s.size;simp;omega) ?_);intro A2 c5 w3 h1 h2 ac aI aG)
  have a4:Hid (Bw w w3):=(s.alloc s.size _).grown aI (by have:=s.size;simp;omega) (fun b hb=>(C.lt b hb).1)
  have aq:(l++[(⟨pa,pi,pq⟩:P.Lc)]).length=l.length+1:=by simp
  have a8:Hid (w3.ownsRow w.heap.size 50 3 (.slice A2 (l++[(⟨pa,pi,pq⟩:P.Lc)]).length c5) (l++[(⟨pa,pi,pq⟩:P.Lc)]).length (P.lcs (l++[(⟨pa,pi,pq⟩:P.Lc)]))):=by
   show World.ownsRow _ _ _ _ _ _ _
   rw[aq,P.lcs_append]
   exact ac
  have ay:=Hi aq
  clear ac aI aG h1 h2 aq aa
  have aK:=RE.out w3 (l++[(⟨pa,pi,pq⟩:P.Lc)]) A2 c5 ⟨a4,a8,by rw[ay.out];exact Nat.succ_le_succ X,fun p hp=>by
   rcases List.mem_append.1 hp with h|h
   ·exact am.out p h
   ·simp only[List.mem_cons,List.not_mem_nil,or_false] at h
    subst h
    exact ag.out⟩
  rw[ay.out] at aK
  go_wp2
  exact aK
end Go.Proofs.YtdefojlkofnloaaGreatDoor
