/- A part of the proof of CoreOnce: for every input, no condition. -/
import Derived.Test.YtdefojlkofnloaaGreatDoorZb32
import Derived.Test.YtdefojlkofnloaaGreatDoorZb34
set_option maxRecDepth 100000
set_option maxHeartbeats 8000000
set_option linter.unusedVariables false
set_option linter.unusedSimpArgs false
namespace Go.Proofs.YtdefojlkofnloaaGreatDoor
open Go.RowKit Go.Proofs.Tryz
def Zci(m m':Zab):Prop:=m'.accts.map ZaA.last=m.accts.map ZaA.last∧∀o∈m'.orders,o∈m.orders
theorem ZjU{w:World}{base n c:Nat}{A:Option Addr}{l:List ZaD}(h:w.ownsRow base 66 7 (.slice A n c) n (l.flatMap ZaD.cs))(z:l.length=n){q:Nat}(s:q<l.length):∃g,A=some (Aq g 0)∧w.cell? (Aq g (q*7))=some (I (l[q]).kind)∧w.cell? (Aq g (q*7+1))=some (I (l[q]).under)∧w.cell? (Aq g (q*7+2))=some (I (l[q]).mult)∧w.cell? (Aq g (q*7+3))=some (I (l[q]).strike) ∧
 w.cell? (Aq g (q*7+4))=some (I (l[q]).expiry)∧w.cell? (Aq g (q*7+5))=some (.bool (l[q]).call)∧w.cell? (Aq g (q*7+6))=some (I (l[q]).mark):=by
 obtain⟨g,hA,_,_,_⟩:=Zbb h (by omega)
 have c:=fun j (hj:j<7)=>(Zbh (hA▸h) (q*7+j) (by omega)).1.trans (Zb3 Zft l q s j hj)
 exact⟨g,hA,c 0 (by decide),c 1 (by decide),c 2 (by decide),c 3 (by decide),c 4 (by decide),c 5 (by decide),c 6 (by decide)⟩
theorem Zaa.setDay{w:World}{base:Nat}{m:Zab}(h:Zaa w base m)(d:Int):Zaa w base {m with day:=d}:=⟨h.curs,h.unders,h.instrs,h.accts,h.poss,h.orders,h.avail,h.locs,h.cash,h.apart,h.away,h.short⟩
theorem ZkR(m:Zab)(B bx:Nat)(w:World)(hB:B≤w.heap.size)(bR:Bk w bx 130 m.ar)(ho:Zaa w B m)(hg:Za2 m=true):
 Calls prog 99 #[Pt bx] w (Zbx 181 130 B bx (fun m' _=>Zci m m') True w):=by
 have aJ:=Hi hB
 have bN:=Hi (Zbr hg)
 have bO:=Hi bR
 have bL:=Hi ho
 clear hB bR ho hg
 obtain⟨i3,bp,a8⟩:=Option.map_eq_some_iff.1 Zgq
 simp only[Prod.mk.injEq] at a8
 have HJ:=Hi bp
 have bz:=Hi a8.1
 have bA:=Hi a8.2.1
 have bB:=Hi a8.2.2
 clear bp a8
 have bI:Hid (ZaC B bx w w):=ZaC.refl _ _ _
 go_enter func99,ntmps99
 obtain⟨W1,aY⟩:=ExY (w.alloc (.cells #[Pt bx] 128))
 obtain⟨bv,bF⟩:=ExY w.heap.size
 have bj:=bhA bI aJ aY
 have a4:=bkA bO aY
 have bl:=boA bL aY
 have bo:=bkW aY bF
 go_upto_region 1 with(fail)
 rw[←aY,←bF]
 clear aY bF
 obtain⟨bX,bY,bZ,a9,b0,b6,b7,b8,b9,ca,cb,cc,cd,ce,cf,cg,ch,ci,cq⟩:=a4.nine
 have aI:=bo.one
 go_wp2_with fail
 refine(ZeR _ 41 _).mono ?_
 rintro e w' ⟨bh,he|he⟩
 rotate_left
 ·unfold Pan at he
  subst he
  rw[bh]
  clear bh w'
  dsimp only
  go_wp2
  exact⟨rfl,bj,m,a4,.inr ⟨41,(by decide),rfl,trivial⟩⟩
 subst he
 rw[bh]
 clear bh w'
 dsimp only
 obtain⟨n0,a7⟩:=ExY m.instrs.length
 rw[←a7] at a9
 obtain⟨A0,bD⟩:=ExY m.sIns.A
 rw[←bD] at a9
 have bK:=Hi a7
 have ba:Hid (∃l:List ZaD,l.length=n0∧W1.ownsRow B 66 7 (.slice A0 n0 m.sIns.c) n0 (l.flatMap ZaD.cs)):=⟨m.instrs,a7.symm,by rw[a7,bD];exact bl.instrs⟩
 clear a7 bD
 go_upto_region 3 with(fail)
 clear bX bY bZ a9 b0 b6 b7 b8 b9 ca cb cc cd ce cf cg ch ci cq aI
 have cj:Hid (ZaC B bx w W1∧Bk W1 bx 130 m.ar∧Zd4 m m∧Zaa W1 B m∧Bk W1 bv 128 #[Pt bx]∧∃l:List ZaD,l.length=n0∧W1.ownsRow B 66 7 (.slice A0 n0 m.sIns.c) n0 (l.flatMap ZaD.cs)):=⟨bj,a4,Zd4.refl bN,bl,bo,ba⟩
 go_loopw [18] (fun bH wr=>∃(j:Nat) (m2:Zab),j≤n0∧bH=I (j:Int)∧Hid True∧Hid (ZaC B bx w wr∧Bk wr bx 130 m2.ar∧Zd4 m m2∧Zaa wr B m2∧Bk wr bv 128 #[Pt bx]∧∃l:List ZaD,l.length=n0∧wr.ownsRow B 66 7 (.slice A0 n0 m.sIns.c) n0 (l.flatMap ZaD.cs))) (fun bH _=>n0-(intOf bH).toNat)
 case atStart=>exact⟨0,m,Nat.zero_le _,rfl,trivial,cj⟩
 case round=>
  obtain⟨j,m2,hj,rfl,_,aX⟩:=hrel
  rename World=>V
  have aK:Hid (ZaC B bx w V):=aX.1
  have ao:Hid (Bk V bx 130 m2.ar):=aX.2.1
  have aQ:Hid (Zd4 m m2):=aX.2.2.1
  have aR:Hid (Zaa V B m2):=aX.2.2.2.1
  have ai:Hid (Bk V bv 128 #[Pt bx]):=aX.2.2.2.2.1
  have ba:=Hi aX.2.2.2.2.2
  clear aX
  by_cases bg:j<n0
  rotate_left
  ·have aN:=ao.nine
   have aI:=ai.one
   go_wp2_with fail
   refine(Zip m2 bx B 101 #[Pt bv] V (Nat.le_trans aJ aK.size) ao aR aQ.seen (fun v W=>by kernel_rfl) (fun U hU p hp=>ZjV m2 p bx bv U (ao.below hU ao.lt) (ai.below hU ai.lt) (aR.below hU).rd ⟨(aQ.seen.pos p hp).1,(aQ.seen.pos p hp).2.1⟩)).mono ?_
   rintro e aj ⟨hh,rfl,m3,a6,ho,bT⟩
   have aP:Hid (ZaC B bx w aj):=aK.trans (hh.weak (Nat.le_trans aJ aK.size))
   have aB:Hid (Bk aj bv 128 #[Pt bx]):=ai.hole hh ai.lt (ai.ne ao (by decide))
   have aD:Hid (Bk aj bx 130 m3.ar):=a6
   have aS:Hid (Zaa aj B m3):=ho
   have cl:=Hi bT
   clear hh a6 ho bT aN aI
   dsimp only
   have aM:Hid (m3.accts.map ZaA.last=m.accts.map ZaA.last∧m3.instrs.length≤12):=by
    obtain⟨l,sl,h1,h2,rfl⟩:=cl.out
    exact⟨aQ.last,aQ.seen.lens.2.2.1⟩
   go_upto_region 9 with(fail)
   go_cut [] (fun wx=>∃g1:Nat,Hid (ZaC B bx w wx∧Bk wx bx 130 (m3.ar_OIL (.slice none 0 0) (.slice (some (Aq g1 0)) m3.instrs.length m3.instrs.length) (.slice none 0 0))∧Zaa wx B {m3 with orders:=[],sOrd:=⟨none,0⟩,locs:=[],sLoc:=⟨none,0⟩,avail:=List.replicate m3.instrs.length 0,sAva:=⟨some (Aq g1 0),m3.instrs.length⟩}∧Bk wx bv 128 #[Pt bx]))
   case first=>
    obtain⟨ag,G⟩:=ExY aj.drew
    have ah:=bhD aP G
    have L:=bkD aD G
    have Y:=bkD aB G
    have am:=boD aS G
    refine rgL 21 (by kernel_rfl) G (CsA Y 0 rfl (CsB L 3 rfl)) fun hS=>?_
    clear G
    refine tkM [0,1,2,3,4,5,6,7,8,10,11,12] hS (by kernel_rfl) (fun _ _ _ _ h=>h) ?_
    iterate 12 (refine ycM rfl (by rfl) (fun w h=>by simp only[Cs] at h;go_simp<;>rfl) ?_;try simp only[Act.put,sA,sB,sC])
    refine ZcD (rs:=[9,13]) (by kernel_rfl) (by simp) ?_
    refine ZgP rfl (fun K hK=>?_) (ZgP rfl (fun K hK=>?_) (ZgQ.nil))
    ·refine Zcr ag rfl _ _ 34 rfl ag.heap.size 3 i3 _ 1 underlying34 HJ bz bA .i64 .i64 _ _ m3.instrs.length rfl rfl rfl rfl (by rw[bB.out];have:=aM.2;omega) (by unfold maxLen;have:=aM.2;omega) (Nat.le_refl _) ?_
     intro aa ho hg
     rw[Zeq] at ho
     obtain⟨g1,aF⟩:=ExY ag.heap.size
     have hb:Bw ag aa:=Below.grownB hg (Nat.le_refl _) (fun _ h=>by cases h)
     have aZ:Hid (∀x∈m3.accts,∀(p q:Addr),x.A=some p→some ((Aq g1 0):Addr)=some q→p.block≠q.block):=fun x hx p q hp hq=>by
      have h3:=(ZaP (am.cash x hx).1 p hp).2
      cases hq
      show p.block≠g1
      omega
     rw[←aF] at ho
     rw[←aF]
     have a1:Hid (aa.ownsRow B 3 1 (.slice (some (Aq g1 0)) m3.instrs.length m3.instrs.length) m3.instrs.length (Zag (List.replicate m3.instrs.length 0))):=Zap ho (by rw[aF];exact Nat.le_trans aJ ah.size)
     clear ho hg aF
     have af:=bhU ah aJ hb
     have C:=bkN L hb
     have ab:=bkN Y hb
     have aw:=boN am hb
     clear hb
     have bb:Hid (aa.ownsRow B 3 1 (.slice (some (Aq g1 0)) m3.instrs.length m3.instrs.length) m3.instrs.length (Zag (List.replicate m3.instrs.length 0))):=a1.out
     refine hK.out _ _ (fun _=>⟨ab.cell 0,C.cell 3⟩) ?_
     try simp only[Act.put,sA,sB,sC]
     refine onM 13 (by kernel_rfl) rfl fun K hK=>?_
     have ap:=C.nine
     go_simp
     clear ap
     obtain⟨ad,Z⟩:=ExY (aa.setCell ⟨bx,6,none⟩ (.slice none 0 0))
     rw[←Z]
     have al:=bhI af Z
     have E:Hid (Bk ad bx 130 (m3.ar_O (.slice none 0 0))):=bkS C 6 Z
     have ac:=bkF ab Z C rfl
     have an:Hid (Zaa ad B {m3 with orders:=[],sOrd:=⟨none,0⟩}):=by rw[Z];exact(Zaa.far (Zaa.setOrd (l:=[]) aw (World.ownsRow_nil _ _ _ _) (by decide)) C (by decide) 6 _)
     have aT:=boO bb Z C rfl
     clear Z
     refine hK.out _ _ (fun _=>⟨ac.cell 0,E.cell 3⟩) ?_
     try simp only[Act.put]
     refine tkM [14,15,16] (⟨ac.cell 0,E.cell 3⟩) (by kernel_rfl) (fun _ _ _ _ h=>h) ?_
     iterate 3 (refine ycM rfl (by rfl) (fun w h=>by simp only[Cs] at h;go_simp<;>rfl) ?_;try simp only[Act.put,sA,sB,sC])
     refine onM 17 (by kernel_rfl) rfl fun K hK=>?_
     have ap:=E.nine
     go_simp
     clear ap
     obtain⟨ae,N⟩:=ExY (ad.setCell ⟨bx,8,none⟩ (.slice none 0 0))
     rw[←N]
     have aq:=bhI al N
     have s:Hid (Bk ae bx 130 (m3.ar_OL (.slice none 0 0) (.slice none 0 0))):=bkS E 8 N
     have z:=bkF ac N E rfl
     have ax:Hid (Zaa ae B {m3 with orders:=[],sOrd:=⟨none,0⟩,locs:=[],sLoc:=⟨none,0⟩}):=by rw[N];exact(Zaa.far (Zaa.setLoc (l:=[]) an (World.ownsRow_nil _ _ _ _) (by decide)) E (by decide) 8 _)
     have az:=boO aT N E rfl
     clear N
     refine hK.out _ _ (fun _=>⟨z.cell 0,s.cell 3⟩) ?_
     try simp only[Act.put]
     refine onM 18 (by kernel_rfl) rfl fun K hK=>?_
     go_simp
     refine hK.out _ _ (fun _=>⟨z.cell 0,s.cell 3⟩) ?_
     try simp only[Act.put,sA,sB,sC]
     refine onM 19 (by kernel_rfl) rfl fun K hK=>?_
     go_simp
     refine hK.out _ _ (fun _=>⟨z.cell 0,s.cell 3⟩) ?_
     try simp only[Act.put,sA,sB,sC]
     refine tkM [20] (⟨z.cell 0,s.cell 3⟩) (by kernel_rfl) (fun _ _ _ _ h=>h) ?_
     (refine ycM rfl (by rfl) (fun w h=>by simp only[Cs] at h;go_simp<;>rfl) ?_;try simp only[Act.put,sA,sB,sC])
     refine onM 21 (by kernel_rfl) rfl fun K hK=>?_
     have aW:ae.ownsRow B 3 1 (.slice (some (Aq g1 0)) (List.replicate m3.instrs.length (0:Int)).length m3.instrs.length) (List.replicate m3.instrs.length (0:Int)).length (Zag (List.replicate m3.instrs.length 0)):=by rw[List.length_replicate];exact az
     have a0:=Hi aW
     have a2:Hid ((List.replicate m3.instrs.length (0:Int)).length≤1000000):=by show _≤_;rw[List.length_replicate];have:=aM.2;omega
     clear aW
     have ap:=s.nine
     go_simp
     clear ap
     obtain⟨aH,J⟩:=ExY (ae.setCell ⟨bx,7,none⟩ (.slice (some ⟨g1,0,none⟩) m3.instrs.length m3.instrs.length))
     rw[←J]
     have au:=bhI aq J
     have aE:Hid (Bk aH bx 130 (m3.ar_OIL (.slice none 0 0) (.slice (some (Aq g1 0)) m3.instrs.length m3.instrs.length) (.slice none 0 0))):=bkS s 7 J
     have aC:=bkF z J s rfl
     have ay:Hid (Zaa aH B {m3 with orders:=[],sOrd:=⟨none,0⟩,locs:=[],sLoc:=⟨none,0⟩,avail:=List.replicate m3.instrs.length 0,sAva:=⟨some (Aq g1 0),m3.instrs.length⟩}):=by rw[J];exact(Zaa.far (Zaa.setAva ax a0 a2 aZ) s (by decide) 7 _)
     clear J
     refine hK.out _ _ (fun h0=>Zac (by kernel_rfl) h0) ?_
     refine Zak (by kernel_rfl) ?_ _
     go_wp2
     go_meet
     exact⟨g1,au,aE,ay,aC⟩
    ·have ap:=L.nine
     go_simp
     clear ap
     obtain⟨aa,aG⟩:=ExY (ag.setCell ⟨bx,6,none⟩ (.slice none 0 0))
     rw[←aG]
     have af:=bhI ah aG
     have C:Hid (Bk aa bx 130 (m3.ar_O (.slice none 0 0))):=bkS L 6 aG
     have ab:=bkF Y aG L rfl
     have aw:Hid (Zaa aa B {m3 with orders:=[],sOrd:=⟨none,0⟩}):=by rw[aG];exact(Zaa.far (Zaa.setOrd (l:=[]) am (World.ownsRow_nil _ _ _ _) (by decide)) L (by decide) 6 _)
     clear aG
     refine hK.out _ _ (fun _=>⟨ab.cell 0,C.cell 3⟩) ?_
     try simp only[Act.put,sA,sB,sC]
     refine tkM [14,15,16] (⟨ab.cell 0,C.cell 3⟩) (by kernel_rfl) (fun _ _ _ _ h=>h) ?_
     iterate 3 (refine ycM rfl (by rfl) (fun w h=>by simp only[Cs] at h;go_simp<;>rfl) ?_;try simp only[Act.put,sA,sB,sC])
     refine ZcD (rs:=[9,17]) (by kernel_rfl) (by simp) ?_
     refine ZgP rfl (fun K hK=>?_) (ZgP rfl (fun K hK=>?_) (ZgQ.nil))
     ·refine Zcr aa rfl _ _ 34 rfl aa.heap.size 3 i3 _ 1 underlying34 HJ bz bA .i64 .i64 _ _ m3.instrs.length rfl rfl rfl rfl (by rw[bB.out];have:=aM.2;omega) (by unfold maxLen;have:=aM.2;omega) (Nat.le_refl _) ?_
      intro ad ho hg
      rw[Zeq] at ho
      obtain⟨g1,aF⟩:=ExY aa.heap.size
      have hb:Bw aa ad:=Below.grownB hg (Nat.le_refl _) (fun _ h=>by cases h)
      have aZ:Hid (∀x∈m3.accts,∀(p q:Addr),x.A=some p→some ((Aq g1 0):Addr)=some q→p.block≠q.block):=fun x hx p q hp hq=>by
       have h3:=(ZaP (aw.cash x hx).1 p hp).2
       cases hq
       show p.block≠g1
       omega
      rw[←aF] at ho
      rw[←aF]
      have a1:Hid (ad.ownsRow B 3 1 (.slice (some (Aq g1 0)) m3.instrs.length m3.instrs.length) m3.instrs.length (Zag (List.replicate m3.instrs.length 0))):=Zap ho (by rw[aF];exact Nat.le_trans aJ af.size)
      clear ho hg aF
      have al:=bhU af aJ hb
      have E:=bkN C hb
      have ac:=bkN ab hb
      have an:=boN aw hb
      clear hb
      have aT:Hid (ad.ownsRow B 3 1 (.slice (some (Aq g1 0)) m3.instrs.length m3.instrs.length) m3.instrs.length (Zag (List.replicate m3.instrs.length 0))):=a1.out
      refine hK.out _ _ (fun _=>⟨ac.cell 0,E.cell 3⟩) ?_
      try simp only[Act.put,sA,sB,sC]
      refine onM 17 (by kernel_rfl) rfl fun K hK=>?_
      have ap:=E.nine
      go_simp
      clear ap
      obtain⟨ae,N⟩:=ExY (ad.setCell ⟨bx,8,none⟩ (.slice none 0 0))
      rw[←N]
      have aq:=bhI al N
      have s:Hid (Bk ae bx 130 (m3.ar_OL (.slice none 0 0) (.slice none 0 0))):=bkS E 8 N
      have z:=bkF ac N E rfl
      have ax:Hid (Zaa ae B {m3 with orders:=[],sOrd:=⟨none,0⟩,locs:=[],sLoc:=⟨none,0⟩}):=by rw[N];exact(Zaa.far (Zaa.setLoc (l:=[]) an (World.ownsRow_nil _ _ _ _) (by decide)) E (by decide) 8 _)
      have az:=boO aT N E rfl
      clear N
      refine hK.out _ _ (fun _=>⟨z.cell 0,s.cell 3⟩) ?_
      try simp only[Act.put]
      refine onM 18 (by kernel_rfl) rfl fun K hK=>?_
      go_simp
      refine hK.out _ _ (fun _=>⟨z.cell 0,s.cell 3⟩) ?_
      try simp only[Act.put,sA,sB,sC]
      refine onM 19 (by kernel_rfl) rfl fun K hK=>?_
      go_simp
      refine hK.out _ _ (fun _=>⟨z.cell 0,s.cell 3⟩) ?_
      try simp only[Act.put,sA,sB,sC]
      refine tkM [20] (⟨z.cell 0,s.cell 3⟩) (by kernel_rfl) (fun _ _ _ _ h=>h) ?_
      (refine ycM rfl (by rfl) (fun w h=>by simp only[Cs] at h;go_simp<;>rfl) ?_;try simp only[Act.put,sA,sB,sC])
      refine onM 21 (by kernel_rfl) rfl fun K hK=>?_
      have aW:ae.ownsRow B 3 1 (.slice (some (Aq g1 0)) (List.replicate m3.instrs.length (0:Int)).length m3.instrs.length) (List.replicate m3.instrs.length (0:Int)).length (Zag (List.replicate m3.instrs.length 0)):=by rw[List.length_replicate];exact az
      have a0:=Hi aW
      have a2:Hid ((List.replicate m3.instrs.length (0:Int)).length≤1000000):=by show _≤_;rw[List.length_replicate];have:=aM.2;omega
      clear aW
      have ap:=s.nine
      go_simp
      clear ap
      obtain⟨aH,J⟩:=ExY (ae.setCell ⟨bx,7,none⟩ (.slice (some ⟨g1,0,none⟩) m3.instrs.length m3.instrs.length))
      rw[←J]
      have au:=bhI aq J
      have aE:Hid (Bk aH bx 130 (m3.ar_OIL (.slice none 0 0) (.slice (some (Aq g1 0)) m3.instrs.length m3.instrs.length) (.slice none 0 0))):=bkS s 7 J
      have aC:=bkF z J s rfl
      have ay:Hid (Zaa aH B {m3 with orders:=[],sOrd:=⟨none,0⟩,locs:=[],sLoc:=⟨none,0⟩,avail:=List.replicate m3.instrs.length 0,sAva:=⟨some (Aq g1 0),m3.instrs.length⟩}):=by rw[J];exact(Zaa.far (Zaa.setAva ax a0 a2 aZ) s (by decide) 7 _)
      clear J
      refine hK.out _ _ (fun h0=>Zac (by kernel_rfl) h0) ?_
      refine Zak (by kernel_rfl) ?_ _
      go_wp2
      go_meet
      exact⟨g1,au,aE,ay,aC⟩
     ·have ap:=C.nine
      go_simp
      clear ap
      obtain⟨ad,Z⟩:=ExY (aa.setCell ⟨bx,8,none⟩ (.slice none 0 0))
      rw[←Z]
      have al:=bhI af Z
      have E:Hid (Bk ad bx 130 (m3.ar_OL (.slice none 0 0) (.slice none 0 0))):=bkS C 8 Z
      have ac:=bkF ab Z C rfl
      have an:Hid (Zaa ad B {m3 with orders:=[],sOrd:=⟨none,0⟩,locs:=[],sLoc:=⟨none,0⟩}):=by rw[Z];exact(Zaa.far (Zaa.setLoc (l:=[]) aw (World.ownsRow_nil _ _ _ _) (by decide)) C (by decide) 8 _)
      clear Z
      refine hK.out _ _ (fun _=>⟨ac.cell 0,E.cell 3⟩) ?_
      try simp only[Act.put,sA,sB,sC]
      refine onM 9 (by kernel_rfl) rfl fun K hK=>?_
      refine Zcr ad rfl _ _ 34 rfl ad.heap.size 3 i3 _ 1 underlying34 HJ bz bA .i64 .i64 _ _ m3.instrs.length rfl rfl rfl rfl (by rw[bB.out];have:=aM.2;omega) (by unfold maxLen;have:=aM.2;omega) (Nat.le_refl _) ?_
      intro ae ho hg
      rw[Zeq] at ho
      obtain⟨g1,aF⟩:=ExY ad.heap.size
      have hb:Bw ad ae:=Below.grownB hg (Nat.le_refl _) (fun _ h=>by cases h)
      have aZ:Hid (∀x∈m3.accts,∀(p q:Addr),x.A=some p→some ((Aq g1 0):Addr)=some q→p.block≠q.block):=fun x hx p q hp hq=>by
       have h3:=(ZaP (an.cash x hx).1 p hp).2
       cases hq
       show p.block≠g1
       omega
      rw[←aF] at ho
      rw[←aF]
      have a1:Hid (ae.ownsRow B 3 1 (.slice (some (Aq g1 0)) m3.instrs.length m3.instrs.length) m3.instrs.length (Zag (List.replicate m3.instrs.length 0))):=Zap ho (by rw[aF];exact Nat.le_trans aJ al.size)
      clear ho hg aF
      have aq:=bhU al aJ hb
      have s:=bkN E hb
      have z:=bkN ac hb
      have ax:=boN an hb
      clear hb
      have az:Hid (ae.ownsRow B 3 1 (.slice (some (Aq g1 0)) m3.instrs.length m3.instrs.length) m3.instrs.length (Zag (List.replicate m3.instrs.length 0))):=a1.out
      refine hK.out _ _ (fun _=>⟨z.cell 0,s.cell 3⟩) ?_
      try simp only[Act.put,sA,sB,sC]
      refine onM 18 (by kernel_rfl) rfl fun K hK=>?_
      go_simp
      refine hK.out _ _ (fun _=>⟨z.cell 0,s.cell 3⟩) ?_
      try simp only[Act.put,sA,sB,sC]
      refine onM 19 (by kernel_rfl) rfl fun K hK=>?_
      go_simp
      refine hK.out _ _ (fun _=>⟨z.cell 0,s.cell 3⟩) ?_
      try simp only[Act.put,sA,sB,sC]
      refine tkM [20] (⟨z.cell 0,s.cell 3⟩) (by kernel_rfl) (fun _ _ _ _ h=>h) ?_
      (refine ycM rfl (by rfl) (fun w h=>by simp only[Cs] at h;go_simp<;>rfl) ?_;try simp only[Act.put,sA,sB,sC])
      refine onM 21 (by kernel_rfl) rfl fun K hK=>?_
      have aW:ae.ownsRow B 3 1 (.slice (some (Aq g1 0)) (List.replicate m3.instrs.length (0:Int)).length m3.instrs.length) (List.replicate m3.instrs.length (0:Int)).length (Zag (List.replicate m3.instrs.length 0)):=by rw[List.length_replicate];exact az
      have a0:=Hi aW
      have a2:Hid ((List.replicate m3.instrs.length (0:Int)).length≤1000000):=by show _≤_;rw[List.length_replicate];have:=aM.2;omega
      clear aW
      have ap:=s.nine
      go_simp
      clear ap
      obtain⟨aH,J⟩:=ExY (ae.setCell ⟨bx,7,none⟩ (.slice (some ⟨g1,0,none⟩) m3.instrs.length m3.instrs.length))
      rw[←J]
      have au:=bhI aq J
      have aE:Hid (Bk aH bx 130 (m3.ar_OIL (.slice none 0 0) (.slice (some (Aq g1 0)) m3.instrs.length m3.instrs.length) (.slice none 0 0))):=bkS s 7 J
      have aC:=bkF z J s rfl
      have ay:Hid (Zaa aH B {m3 with orders:=[],sOrd:=⟨none,0⟩,locs:=[],sLoc:=⟨none,0⟩,avail:=List.replicate m3.instrs.length 0,sAva:=⟨some (Aq g1 0),m3.instrs.length⟩}):=by rw[J];exact(Zaa.far (Zaa.setAva ax a0 a2 aZ) s (by decide) 7 _)
      clear J
      refine hK.out _ _ (fun h0=>Zac (by kernel_rfl) h0) ?_
      refine Zak (by kernel_rfl) ?_ _
      go_wp2
      go_meet
      exact⟨g1,au,aE,ay,aC⟩
   case rest=>
   obtain⟨g1,HW⟩:=hcut
   rename World=>X
   have br:Hid (ZaC B bx w X):=HW.1
   have aV:Hid (Bk X bx 130 (m3.ar_OIL (.slice none 0 0) (.slice (some (Aq g1 0)) m3.instrs.length m3.instrs.length) (.slice none 0 0))):=HW.2.1
   have bu:Hid (Zaa X B {m3 with orders:=[],sOrd:=⟨none,0⟩,locs:=[],sLoc:=⟨none,0⟩,avail:=List.replicate m3.instrs.length 0,sAva:=⟨some (Aq g1 0),m3.instrs.length⟩}):=HW.2.2.1
   have a3:Hid (Bk X bv 128 #[Pt bx]):=HW.2.2.2
   clear HW
   have aN:=aV.nine
   have aI:=a3.one
   go_upto_region 11 with(fail)
   obtain⟨bP,aO⟩:=ExY (X.setCell ⟨bx,0,none⟩ (I (wrap64 (m3.day+1))))
   rw[←aO]
   have bs:=bhI br aO
   have a5:Hid (Bk bP bx 130 #[I (wrap64 (m3.day+1)),.slice m3.sCur.A m3.curs.length m3.sCur.c,.slice m3.sUnd.A m3.unders.length m3.sUnd.c,.slice m3.sIns.A m3.instrs.length m3.sIns.c,.slice m3.sAcc.A m3.accts.length m3.sAcc.c,.slice m3.sPos.A m3.poss.length m3.sPos.c,.slice none 0 0,.slice (some (Aq g1 0)) m3.instrs.length m3.instrs.length,.slice none 0 0]):=bkS aV 0 aO
   have bC:=bkF a3 aO aV rfl
   have bw:Hid (Zaa bP B {m3 with day:=wrap64 (m3.day+1),orders:=[],sOrd:=⟨none,0⟩,locs:=[],sLoc:=⟨none,0⟩,avail:=List.replicate m3.instrs.length 0,sAva:=⟨some (Aq g1 0),m3.instrs.length⟩}):=by rw[aO];exact(Zaa.far (Zaa.setDay bu _) aV (by decide) 0 _)
   clear aN aI
   clear aO
   have aN:=a5.nine
   have aI:=bC.one
   go_wp2
   go_ret
   refine⟨bs,{m3 with day:=wrap64 (m3.day+1),orders:=[],sOrd:=⟨none,0⟩,locs:=[],sLoc:=⟨none,0⟩,avail:=List.replicate m3.instrs.length 0,sAva:=⟨some (Aq g1 0),m3.instrs.length⟩},?_,.inl ⟨_,rfl,bw,aM.1,fun o h=>by cases h⟩⟩
   unfold Zab.cs
   dsimp only
   rw[List.length_replicate]
   exact a5
  have cm:=Hi bg
  have WK:Hid (wrap64 ((j:Int)+1)=(j:Int)+1):=ZaQ (by have h1:=bN.lens.2.2.1;have h2:=bK.out;omega)
  have RE:=Hi (fun(W:World) (m3:Zab) (h2:Hid (ZaC B bx w W∧Bk W bx 130 m3.ar∧Zd4 m m3∧Zaa W B m3∧Bk W bv 128 #[Pt bx]∧∃l:List ZaD,l.length=n0∧W.ownsRow B 66 7 (.slice A0 n0 m.sIns.c) n0 (l.flatMap ZaD.cs)))=>Zcn (R:=fun _ _=>Hid True) (S:=fun _ m3=>Hid (ZaC B bx w W∧Bk W bx 130 m3.ar∧Zd4 m m3∧Zaa W B m3∧Bk W bv 128 #[Pt bx]∧∃l:List ZaD,l.length=n0∧W.ownsRow B 66 7 (.slice A0 n0 m.sIns.c) n0 (l.flatMap ZaD.cs))) m3 cm WK trivial h2)
  have bS:j<m2.instrs.length:=by rw[aQ.ilen,←bK.out];exact bg
  have ck:=Hi bS
  obtain⟨l,hl,bq⟩:=ba.out
  obtain⟨g,rfl,c0,c1,c2,c3,c4,c5,c6⟩:=ZjU bq hl (q:=j) (by omega)
  obtain⟨⟨bV,un,bW,bi,ex,co,mark⟩,hi⟩:∃i,i=l[j]'(by omega):=⟨_,rfl⟩
  rw[←hi] at c0 c1 c2 c3 c4 c5 c6
  dsimp only at c0 c1 c2 c3 c4 c5 c6
  have j0:(0:Int)≤(j:Int):=Int.natCast_nonneg j
  have j1:(j:Int)<(n0:Int):=Int.ofNat_lt.mpr bg
  clear bS hl bq hi bg
  have bc:Hid (Bw V V):=Below.refl _ _
  obtain⟨aj,ak⟩:=ExY (V.alloc (.cells #[I bV,I un,I bW,I bi,I ex,.bool co,I mark] 66))
  obtain⟨b4,bE⟩:=ExY V.heap.size
  have bd:=blA bc ak
  have aP:=bhA aK aJ ak
  have aD:=bkA ao ak
  have aB:=bkA ai ak
  have aS:=boA aR ak
  have aU:=bkW ak bE
  go_upto_region 5 with(fail)
  rw[←ak,←bE]
  clear ak bE
  clear c0 c1 c2 c3 c4 c5 c6
  go_cut [35] (fun cr wx=>∃b:Bool,cr=.bool b∧Hid (Bw aj wx))
  case first=>
   by_cases e0:ex=0
   ·have be:(ex==0)=true:=by simpa using e0
    obtain⟨ag,G⟩:=ExY aj.drew
    have L:=bkD aD G
    have Y:=bkD aB G
    have aA:=bkD aU G
    have bt:Hid (Bw aj ag):=by rw[G];exact(Below.refl _ _).drew
    refine rgK (by kernel_rfl) G (CsA aA 4 rfl (CsA Y 0 rfl (CsB L 0 rfl))) fun aL=>?_
    clear G
    refine tkH [0,1,2,3,4,5,6,7,8,9,10,11,12] aL (by kernel_rfl) (fun _ _ _ _ h=>h) ?_
    iterate 13 ((first|refine ycH rfl (by rfl) (fun w h=>by simp only[Cs] at h;go_simp<;>rfl) ?_|refine ncH rfl (by rfl) ?_);try simp only[Act.put,sA,sB,sC])
    refine wpAnyH_done (by kernel_rfl) ?_ _
    clear aL
    go_wp2
    go_meet
    exact⟨_,rfl,bt⟩
   have be:(ex==0)=false:=by simpa using e0
   obtain⟨ag,G⟩:=ExY aj.drew
   have L:=bkD aD G
   have Y:=bkD aB G
   have aA:=bkD aU G
   have bt:Hid (Bw aj ag):=by rw[G];exact(Below.refl _ _).drew
   refine rgK (by kernel_rfl) G (CsA aA 4 rfl (CsA Y 0 rfl (CsB L 0 rfl))) fun aL=>?_
   clear G
   refine tkH [0,1,2,3,4,5,6,7,8,9,10,11,12] aL (by kernel_rfl) (fun _ _ _ _ h=>h) ?_
   iterate 13 (refine ycH rfl (by rfl) (fun w h=>by simp only[Cs] at h;go_simp<;>rfl) ?_;try simp only[Act.put,sA,sB,sC])
   refine wpAnyH_done (by kernel_rfl) ?_ _
   clear aL
   go_wp2
   go_meet
   exact⟨_,rfl,bt⟩
  case rest=>
  obtain⟨b,rfl,HW⟩:=hcut
  have hb:=HW.out
  have bf:=blT bd hb
  have ah:=bhU aP aJ hb
  have L:=bkN aD hb
  have Y:=bkN aB hb
  have aA:=bkN aU hb
  have am:=boN aS hb
  clear hb
  clear HW
  rename World=>ag
  have bn:Hid (∃l:List ZaD,l.length=n0∧ag.ownsRow B 66 7 (.slice (some (Aq g 0)) n0 m.sIns.c) n0 (l.flatMap ZaD.cs)):=by
   obtain⟨l,h1,h2⟩:=ba.out
   exact⟨l,h1,Zai h2 bf⟩
  cases b with
  |false=>
   go_wp2
   exact RE.out ag m2 ⟨ah,L,aQ,am,Y,bn⟩
  |true=>
  have aN:=L.nine
  have aI:=Y.one
  have bQ:=aA.seven
  go_wp2_with fail
  refine(Zje m2 bx j B ag (Nat.le_trans aJ ah.size) L am aQ.seen ck).mono ?_
  rintro e aa ⟨hh,bG,m3,a6,he⟩
  have af:Hid (ZaC B bx w aa):=ah.trans hh
  have C:Hid (Bk aa bx 130 m3.ar):=a6
  have ab:Hid (Bk aa bv 128 #[Pt bx]):=bG.others _ _ _ (by decide) (by decide) Y
  have bM:Hid (∃l:List ZaD,l.length=n0∧aa.ownsRow B 66 7 (.slice (some (Aq g 0)) n0 m.sIns.c) n0 (l.flatMap ZaD.cs)):=by
   obtain⟨l,h1,h2⟩:=bn.out
   exact bG.rows _ _ _ l h1 h2
  clear hh bG a6 aN aI bQ
  rcases he with⟨he,ho,bU⟩|⟨er,cp,he⟩
  rotate_left
  ·unfold Pan at he
   subst he
   dsimp only
   go_wp2
   exact⟨rfl,af,m3,C,.inr ⟨er,cp,rfl,trivial⟩⟩
  subst he
  have cn:=Hi ho
  have bJ:Hid (Zd4 m m3):=aQ.trans bU
  clear ho bU
  dsimp only
  go_wp2
  exact RE.out aa m3 ⟨af,C,bJ,cn,ab,bM⟩
theorem ZlU(m:Zab)(w:World)(hm:Zay w w.heap.size m)(aa:Gl w):
 Calls prog 42 #[m.val] w (Zar (Zaj m (fun m1 m2 _=>Zci m1 m2)) (Zas m (fun m1 m2 _=>Zci m1 m2) (fun _=>True)) w):=by
 show Calls prog 42 #[.agg m.ar] w (Zar (Zaj m (fun m1 m2 _=>Zci m1 m2)) (Zas m (fun m1 m2 _=>Zci m1 m2) (fun _=>True)) w)
 obtain⟨W1,z⟩:=ExY (w.alloc (.cells m.ar 37))
 obtain⟨bl,J⟩:=ExY w.heap.size
 have L:=blB z
 have N:=bkW z J
 obtain⟨W2,C⟩:=ExY (W1.alloc (.cells zZ 37))
 obtain⟨bz,E⟩:=ExY W1.heap.size
 have ac:Hid (bz≠bl):=by
  have h:=N.lt
  show bz≠bl
  rw[E]
  exact Ne.symm (Nat.ne_of_lt h)
 have Y:=blZ L E
 have s:=blA L C
 have ab:=bkA N C
 have R:=bkW C E
 have U:bz=bl+1:=by rw[E,z,World.size_alloc,←J]
 have HT:Hid (Calls prog 83 #[.agg m.ar,.func (.func 99) #[] #[]] W2 (Zar (Zaj m (fun m1 m2 _=>Zci m1 m2)) (Zas m (fun m1 m2 _=>Zci m1 m2) (fun _=>True)) W2)):=Hi (Zc2 99 #[] m (fun m1 m2 _=>Zci m1 m2) (fun _=>True) W2 ((hm.below s).mono s.size) (aa.below s aa.lt) (fun pl W=>by kernel_rfl) (by
  intro m1 B bx W hp
  exact ZkR m1 B bx W hp.size hp.bk hp.own hp.good))
 clear hm aa
 go_enter func42,ntmps42
 go_upto_region 1 with(fail)
 rw[←z,←J,←C,←U]
 clear z J U C E
 have ad:=ab.nine
 have ae:=R.nine
 go_wp2_with fail
 refine HT.mono ?_
 rintro e W9 ⟨hb,m2,n,er,rfl,hc⟩
 have HC:=Hi hc
 have af:=blT s hb
 have ag:=Hi s.size
 have Z:=bkN R hb
 clear hb hc ad ae
 have X:m2.val=.agg m2.ar:=rfl
 rw[X]
 clear X
 dsimp only
 go_wp2_with (refine wpList_store_row rfl 37 _ _ rfl bz m2.ar rfl rfl 37 zZ Z ZaU (by rfl) (by simp[Value.oneCell']) ?_)
 obtain⟨V9,G⟩:=ExY (W9.setRow bz m2.ar)
 rw[←G]
 have aj:=bkr Z G
 have ah:=blr af G Y
 have ai:(er=0∧Zaa V9 w.heap.size m2∧(Zaj m (fun m1 m2 _=>Zci m1 m2)) m2 n)∨(er≠0∧m2=Za4∧n=0∧(Zas m (fun m1 m2 _=>Zci m1 m2) (fun _=>True))):=by
  rcases HC.out with⟨h1,h2,h3⟩|h
  ·exact .inl ⟨h1,by rw[G];exact(h2.mono ag).rowFar Z (by decide) _,h3⟩
  ·exact .inr h
 exact bodyPost_ret (Zam (p:=2) (q:=3) (r:=4) results42 _ V9 bz 37 m2.ar (0,0) _ rfl aj underlying37 rfl ZaU) rfl ⟨ah,m2,n,er,rfl,ai⟩
def Za5(ev:EvP)(m m':Zab)(n:Int):Prop:=
 if ev.kind=1 then Zeh m ⟨ev.acct,ev.id,ev.instr,ev.qty,ev.price⟩ m' n
 else if ev.kind=2 then Zcs m ev.acct ev.id m' n
 else if ev.kind=3 then Zb5 m ev.id ⟨ev.acct,ev.new,ev.instr,ev.qty,ev.price⟩ m' n
 else Zc3 m ev.acct ev.id ev.qty m' n
def ZaI(ev:EvP)(m m':Zab)(n:Int):Prop:=
 if ev.kind=5 then Zaj m (fun m1 m2 _=>Zax m1 m2) m' n
 else if ev.kind=6 then Zaj m (fun m1 m2 _=>Zax m1 m2) m' n
 else if ev.kind=7 then Zaj m (fun m1 m2 _=>ZbP ev.acct ev.cur ev.amount m1 m2) m' n
 else if ev.kind=8 then Zaj m (fun m1 m2 _=>ZaX ev.acct m1 m2) m' n
 else if ev.kind=9 then Zaj m (fun m1 m2 _=>Zbm ⟨ev.name,ev.cur,ev.price,ev.amount⟩ m1 m2) m' n
 else if ev.kind=10 then Zaj m (fun m1 m2 _=>Zbl ⟨ev.new,ev.under,ev.qty,ev.price,ev.amount,ev.call,0⟩ m1 m2) m' n
 else Zaj m (fun m1 m2 _=>Zax m1 m2) m' n
def Zbn(ev:EvP)(m m':Zab)(n:Int):Prop:=
 if ev.kind=13 then Zaj m (fun m1 m2 _=>Zci m1 m2) m' n
 else if ev.kind=14 then Zaj m (fun m1 m2 _=>Zax m1 m2) m' n
 else if ev.kind=15 then Zaj m (fun m1 m2 _=>Zax m1 m2) m' n
 else Zaj m (fun m1 m2 _=>Zci m1 m2) m' n
def Zbw(ev:EvP)(m:Zab):Prop:=if ev.kind=1 then ¬ZeA m ⟨ev.acct,ev.id,ev.instr,ev.qty,ev.price⟩ else True
def ZaO(ev:EvP)(m:Zab):Prop:=
 if ev.kind=7 then Zas m (fun m1 m2 _=>ZbP ev.acct ev.cur ev.amount m1 m2) (fun m1=>¬Zdv m1 ev.acct ev.cur ev.amount)
 else if ev.kind=8 then Zas m (fun m1 m2 _=>ZaX ev.acct m1 m2) (fun m1=>¬ZbC m1 ev.acct)
 else if ev.kind=9 then Zas m (fun m1 m2 _=>Zbm ⟨ev.name,ev.cur,ev.price,ev.amount⟩ m1 m2) (fun m1=>¬Zb9 m1 ⟨ev.name,ev.cur,ev.price,ev.amount⟩)
 else if ev.kind=10 then Zas m (fun m1 m2 _=>Zbl ⟨ev.new,ev.under,ev.qty,ev.price,ev.amount,ev.call,0⟩ m1 m2) (fun m1=>¬Zb1 m1 ⟨ev.new,ev.under,ev.qty,ev.price,ev.amount,ev.call,0⟩)
 else True
def Zga(ev:EvP)(m m':Zab)(n:Int):Prop:=1≤ev.kind∧ev.kind≤16∧if ev.kind≤4 then Za5 ev m m' n else if ev.kind≤12 then ZaI ev m m' n else Zbn ev m m' n
def Zic(ev:EvP)(m:Zab):Prop:=ev.kind<1∨16<ev.kind∨if ev.kind≤4 then Zbw ev m else if ev.kind≤12 then ZaO ev m else True
def ZgT(ev:EvP)(m m2:Zab)(n er:Int):Prop:=(er=0∧Zga ev m m2 n)∨(er≠0∧Zbj m m2∧n=0∧Zic ev m)
def Zdu(m:Zab)(ev:EvP)(w:World)(e:Ending)(w':World):Prop:=
 Bw w w'∧∃(m':Zab) (n er:Int),e=.returned (.tuple #[m'.val,.agg #[I er,I n]])∧Zaa w' w.heap.size m'∧ZgT ev m m' n er
inductive ZhB (m0:Zab) (evs:List EvP):Nat→Zab→Prop
 |zero:ZhB m0 evs 0 m0
 |succ {k:Nat} {m m2:Zab} {n er:Int} (h:ZhB m0 evs k m) (hk:k<evs.length) (s:ZgT evs[k] m m2 n er):ZhB m0 evs (k+1) m2
def Zab.la(m:Zab):List Int:=m.accts.map ZaA.last
theorem ZmC{m s:Zab}(h:s.accts.map ZaA.p=m.accts.map ZaA.p):s.la=m.la:=by
 have:=congrArg (List.map ZfL.last) h
 rw[List.map_map,List.map_map] at this
 exact this
theorem ZhR(m:Zab)(k v:Nat)(a:ZfL):(ZeQ m k v a).last=a.last:=by
 unfold ZeQ
 split<;>rfl
theorem Zbo.la{m s:Zab}(h:Zbo m s):s.la=m.la:=by
 have:=congrArg (List.map ZfL.last) h.accts
 rw[List.map_map] at this
 refine Eq.trans (b:=List.map (ZfL.last∘ZaA.p) s.accts) rfl (this.trans ?_)
 unfold ZbN
 apply List.ext_getElem
 ·simp[Zab.la]
 ·intro i h1 h2
  simp only[List.getElem_map,List.getElem_mapIdx,ZhR,Zab.la]
  rfl
theorem ZdR{m:Zab}(h:Za2 m=true):O.goodB 16 12 m.orders=true∧m.accts.length≤16∧m.instrs.length≤12∧2≤m.accts.length:=by
 obtain⟨_,ht,ha,_,ho,_⟩:=ZbI h
 have h1:m.instrs.length≤12:=(Zbr h).lens.2.2.1
 have h2:2≤m.accts.length∧m.accts.length≤16:=by
  unfold Zbe at ha
  rw[Bool.and_eq_true,decide_eq_true_eq] at ha
  have:=Zem ha.1
  simpa[Zah] using this
 refine⟨?_,h2.2,h1,h2.1⟩
 obtain⟨g1,g2,g3⟩:=(O.good_iff _ _ _).1 ho
 refine(O.good_iff _ _ _).2 ⟨g1,fun y hy=>?_,g3⟩
 have:=of_decide_eq_true (g2 y hy)
 exact decide_eq_true (by omega)
theorem Bk.twelve{w:World}{g:Nat}{t:TypeId}{a b c d e f h i j l m n:Value}(k:Bk w g t #[a,b,c,d,e,f,h,i,j,l,m,n]):w.cell? (Aq g 0)=some a∧w.cell? (Aq g 1)=some b∧w.cell? (Aq g 2)=some c∧w.cell? (Aq g 3)=some d∧w.cell? (Aq g 4)=some e∧w.cell? (Aq g 5)=some f∧w.cell? (Aq g 6)=some h∧w.cell? (Aq g 7)=some i∧w.cell? (Aq g 8)=some j ∧
 w.cell? (Aq g 9)=some l∧w.cell? (Aq g 10)=some m∧w.cell? (Aq g 11)=some n∧w.frozen? (Aq g 0)=false∧w.frozen? (Aq g 1)=false∧w.frozen? (Aq g 2)=false∧w.frozen? (Aq g 3)=false∧w.frozen? (Aq g 4)=false∧w.frozen? (Aq g 5)=false∧w.frozen? (Aq g 6)=false∧w.frozen? (Aq g 7)=false∧w.frozen? (Aq g 8)=false∧w.frozen? (Aq g 9)=false∧w.frozen? (Aq g 10)=false∧w.frozen? (Aq g 11)=false∧g<w.heap.size:=
 ⟨k.cell 0,k.cell 1,k.cell 2,k.cell 3,k.cell 4,k.cell 5,k.cell 6,k.cell 7,k.cell 8,k.cell 9,k.cell 10,k.cell 11,k.frozen 0,k.frozen 1,k.frozen 2,k.frozen 3,k.frozen 4,k.frozen 5,k.frozen 6,k.frozen 7,k.frozen 8,k.frozen 9,k.frozen 10,k.frozen 11,k.lt⟩
theorem ZmB:(prog.info? 43).map (fun i=>(i.zero,i.size,i.bytes))=some (some (.agg #[I 0,I 0,I 0,I 0,I 0,I 0,I 0,I 0,I 0,I 0,.bool false,.string ⟨#[]⟩]),12,104):=by kernel_rfl
theorem ZhQ(l:List EvP):(l.flatMap EvP.cs).length=l.length*12:=Ze7 Zfm l
theorem ZlV(l:List EvP):∀u∈l.flatMap EvP.cs,u.oneCell'=true:=by
 intro u hu
 obtain⟨x,_,hx⟩:=List.mem_flatMap.1 hu
 simp[EvP.cs] at hx
 rcases hx with rfl|rfl|rfl|rfl|rfl|rfl|rfl|rfl|rfl|rfl|rfl|rfl<;>rfl
structure Zb4(w:World)(lo bl be:Nat)(m:Zab)(evs:List EvP)(A:Option Addr)(c:Nat):Prop where
 bk:Bk w bl 37 m.cs.toArray
 bk2:Bk w be 22 #[.slice A evs.length c]
 ev:w.ownsRow lo 43 12 (.slice A evs.length c) evs.length (evs.flatMap EvP.cs)
 ge:lo≤bl∧lo≤be
theorem Zb4.below{w w':World}{lo E C:Nat}{m:Zab}{s:List EvP}{A:Option Addr}{c:Nat}(h:Zb4 w lo E C m s A c)(z:Bw w w'):Zb4 w' lo E C m s A c:=
 ⟨h.bk.below z h.bk.lt,h.bk2.below z h.bk2.lt,Zai h.ev z,h.ge⟩
theorem Zaa.kept{w w':World}{B:Nat}{m:Zab}(h:Zaa w B m)(s:∀g t cs,B≤g→Bk w g t cs→Bk w' g t cs):Zaa w' B m:=by
 have hf:∀ {e k n c:Nat} {A:Option Addr} {xs:List Value},w.ownsRow B e k (.slice A n c) n xs→w'.ownsRow B e k (.slice A n c) n xs:=fun h=>ZaF h fun p hp=>by
  obtain⟨cs,_,hg,hb⟩:=ZaK h hp
  exact(s _ _ _ hg hb:_=_).trans (hb:_=_).symm
 exact⟨hf h.curs,hf h.unders,hf h.instrs,hf h.accts,hf h.poss,hf h.orders,hf h.avail,hf h.locs,fun a ha=>⟨hf (h.cash a ha).1,(h.cash a ha).2⟩,h.apart,h.away,h.short⟩
def ZeZ(m:Zab)(evs:List EvP)(w:World)(e:Ending)(w':World):Prop:=
 Bw w w'∧∃(bl be:Nat) (m':Zab) (A:Option Addr) (c:Nat),e=.returned (.func (.func 10) #[] #[Pt bl,Pt be])∧Zbj m m'∧Zaa w' w.heap.size m'∧Zb4 w' w.heap.size bl be m' evs A c
theorem Zgk(m:Zab)(A:Option Addr)(c:Nat)(s:List EvP)(w:World)(hm:Zay w w.heap.size m)(aL:s.length≤60)(aP:Rd w w.heap.size 12 A s.length (s.flatMap EvP.cs)):
 Calls prog 6 #[m.val,.slice A s.length c] w (ZeZ m s w):=by
 obtain⟨i0,ae⟩:∃i,Hid (prog.info? 43=some i∧i.zero=some (.agg #[I 0,I 0,I 0,I 0,I 0,I 0,I 0,I 0,I 0,I 0,.bool false,.string ⟨#[]⟩])∧i.size=12∧i.bytes=104):=by
  obtain⟨i,hi,hz⟩:=Option.map_eq_some_iff.1 ZmB
  simp only[Prod.mk.injEq] at hz
  exact⟨i,hi,hz.1,hz.2.1,hz.2.2⟩
 obtain⟨n,hn⟩:=ExY s.length
 have aA:=Hi hn
 have HN:Hid (n≤60):=by rw[hn];exact aL
 have aU:Hid (Rd w w.heap.size 12 A n (s.flatMap EvP.cs)):=by rw[hn];exact aP
 have aQ:=Hi hm
 show Calls prog 6 #[.agg m.ar,.slice A s.length c] w (ZeZ m s w)
 rw[←hn]
 clear hn aL aP hm
 obtain⟨W1,aa⟩:=ExY (w.alloc (.cells m.ar 37))
 obtain⟨b2,ac⟩:=ExY w.heap.size
 have Y:=bl0 ac
 have ag:=blB aa
 have aI:=bkW aa ac
 obtain⟨W2,ab⟩:=ExY (W1.alloc (.cells #[.slice A n c] 22))
 obtain⟨b3,af⟩:=ExY W1.heap.size
 have Z:=blZ ag af
 have E:=blA ag ab
 have ah:=bkA aI ab
 have ak:=bkW ab af
 have am:b3=b2+1:=by rw[af,aa,World.size_alloc,←ac]
 go_enter func6,ntmps6
 go_upto_region 1 with(fail)
 rw[←aa,←ac,←ab,←am]
 clear aa ac am ab af
 have R:=ah.nine
 have U:=ak.one
 go_wp2_with fail
 have aS:=Hi E.size
 refine(Zbq m _ ((aQ.below E).mono E.size)).mono ?_
 rintro e W3 ⟨m3,rfl,ad,an,hb⟩
 have aq:=Hi ad
 have aB:Hid (Zaa W3 w.heap.size m3):=an.mono aS
 clear ad an
 have ax:=blT E hb
 have J:=bkN ah hb
 have aK:=bkN ak hb
 clear R U
 clear hb
 have aC:Hid (Zaa W3 w.heap.size m3):=aB.out
 have ao:m3.val=.agg m3.ar:=rfl
 rw[ao]
 clear ao
 dsimp only
 go_upto_region 2 with(refine wpList_store_row rfl 37 _ _ rfl b2 m3.ar rfl rfl 37 m.ar J ZaU (by rfl) (by simp[Value.oneCell']) ?_)
 obtain⟨W4,X⟩:=ExY (W3.setRow b2 m3.ar)
 rw[←X]
 have G:=blR ax X Y
 have ai:Hid (Bk W4 b2 37 m3.ar):=by rw[X];exact J.row _
 have L:=bkR aK X J rfl
 have aD:=boR aC X J (by decide)
 clear X
 have R:=ai.nine
 have U:=L.one
 have aO:Rd (W4.alloc (.cells #[] 43)) W4.heap.size 12 A n (s.flatMap EvP.cs):=((aU.below G).mono G.size).below ((Below.refl _ _).alloc (Nat.le_refl _) _)
 have aT:=Hi aO
 have aN:(W4.alloc (.cells #[] 43)).ownsRow W4.heap.size 43 12 (.slice (some ⟨W4.heap.size,0,none⟩) 0 0) 0 []:=Zj7 (cap:=0) (n:=0) (Bk.new _ _ _) (Nat.le_refl _) rfl (Nat.le_refl _) (Nat.zero_le _)
 have ap:=Hi aN
 have aw:Hid (Bw W4 (W4.alloc (.cells #[] 43))):=(Below.refl _ _).alloc (Nat.le_refl _) _
 clear aO aN
 go_upto_region 3 with(at_builtin;go_must (refine Zan _ rfl (.tmp 7) (.tmp 8) _ rfl W4.heap.size 43 i0 _ 12 104 underlying22 ae.1 ae.2.1 ae.2.2.1 ae.2.2.2 rfl (by decide) _ 0 [] rfl ap _ _ n c _ rfl aT (ZlV _) (by unfold maxLen;have:=HN.out;omega) (by have:=HN.out;omega) (by simp) ?_);intro A7 c7 w3 h1 h2 C au aM;obtain⟨q0,q1,q2⟩:=(L.below (aw.grown au (by simp) (fun b hb=>(ap.lt b hb).1)) L.lt).one)
 have hb:Bw W4 w3:=aw.grown au (by simp) (fun b hb=>(ap.lt b hb).1)
 rw[Nat.zero_add,List.nil_append] at C
 try rw[Nat.zero_add]
 have aR:Hid (w3.ownsRow w.heap.size 43 12 (.slice A7 n c7) n (s.flatMap EvP.cs)):=Zap C G.size
 clear h1 h2 C au aM q0 q1 q2
 rename World=>W5
 have ay:=blT G hb
 have aJ:=bkN ai hb
 have N:=bkN L hb
 have aE:=boN aD hb
 clear R U
 clear hb
 have aG:Hid (W5.ownsRow w.heap.size 43 12 (.slice A7 n c7) n (s.flatMap EvP.cs)):=aR.out
 obtain⟨W6,z⟩:=ExY (W5.setCell ⟨b3,0,none⟩ (.slice A7 n c7))
 rw[←z]
 have az:Hid (Bw w W6):=by rw[z];exact(ay.setCell (p:=Aq b3 0) Z _)
 have aj:=bkF aJ z N rfl
 have al:Hid (Bk W6 b3 22 #[.slice A7 n c7]):=bkS N 0 z
 have aF:=boF aE z N (by decide)
 have aH:=boO aG z N rfl
 clear z
 have R:=aj.nine
 have U:=al.one
 go_wp2
 go_ret
 exact⟨az.out,b2,b3,m3,A7,c7,rfl,aq.out,aF.out,aj.out,aA.out▸al.out,aA.out▸aH.out,Y.out,Z.out⟩
end Go.Proofs.YtdefojlkofnloaaGreatDoor
