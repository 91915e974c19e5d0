/- A part of the proof of CoreOnce: for every input, no condition. -/
import Derived.Test.YtdefojlkofnloaaGreatDoorZb30
set_option maxRecDepth 100000
set_option maxHeartbeats 8000000
set_option linter.unusedVariables false
set_option linter.unusedSimpArgs false
namespace Go.Proofs.YtdefojlkofnloaaGreatDoor
open Go.RowKit Go.Proofs.Tryz
section
section
variable {P:Program} {ops:Array Oper} {Q:Exit→Act→World→Prop} {md:Region.Mode} {S:World→Prop} {st:Nat}
theorem ZhG{i:Nat}{N:Oper}{v:Value}(hi:ops[i]?=some N)(J:∀(j:Nat) (o:Oper) cs b,ops[j]?=some o→o.op ≠ .select cs b)(hQ:∀c a w,Q (.panic c) (a.put N.dst v) w→Q (.panic c) a w)(C:i≠st)(n:Nat):
 ∀(l:Array Bool) (a:Act) (w:World),(l.getD st true=false→S w) →
  (∀j oj,ops[j]?=some oj→j≠i→l.getD j true=false→(∀e∈oj.after,Region.binds md e=true→e.on≠i)→N.apart ops oj=true) →
  i∈Region.ready md ops l→YieldsIf P ops (fun _=>True) N v a→Zd9 P md ops Q S st n (l.setIfInBounds i true) (a.put N.dst v) w→Zd9 P md ops Q S st (n+1) l a w:=by
 induction n with
 |zero=>
  intro l a w hS _ hr hy H
  refine⟨fun h=>(by rw[h] at hr;cases hr),fun j hj=>?_⟩
  by_cases s:j=i
  ·rw[s];exact hy.wpOp hi trivial ⟨fun h=>hS (by rw[getD_set_ne true C] at h;exact h),H⟩
  ·have:=ready_mono hj s
   rw[H.1] at this
   cases this
 |succ n ih=>
  intro l a w hS z hr hy H
  refine⟨fun h=>(by rw[h] at hr;cases hr),fun j hj=>?_⟩
  by_cases s:j=i
  ·rw[s];exact hy.wpOp hi trivial ⟨fun h=>hS (by rw[getD_set_ne true C] at h;exact h),H⟩
  obtain⟨G,oj,L,R⟩:=mem_ready.1 hj
  have E:=(mem_ready.1 hr).1
  have ac:∀e∈oj.after,Region.binds md e=true→e.on≠i:=fun e he hb Z=>by
   have h1:=R e he hb
   rw[Z] at h1
   by_cases h:i<l.size
   ·simp[h] at E h1
    rw[E] at h1
    cases h1
   ·simp[Array.getElem?_eq_none (Nat.le_of_not_lt h)] at h1
  have X:((l.setIfInBounds i true).setIfInBounds j true).getD st true=(l.setIfInBounds j true).getD st true:=by rw[Array.setIfInBounds_comm _ _ (Ne.symm s),getD_set_ne true C]
  refine wpOp_mono (fun b u k=>⟨fun h=>k.2.1 (by rw[X];exact h),ih _ b u (fun h=>k.2.1 (by rw[X];exact h)) (fun m om hm aa Y ab=>?_) (ready_mono hr (Ne.symm s)) k.1 ?_⟩)
   (wpOp_putIf L (z j oj L s G ac) (fun cs b=>J i N cs b hi) (fun cs b=>J j oj cs b L) hQ hy (H.2 j (ready_mono hj s)))
  ·refine z m om hm aa ?_ ab
   by_cases U:j=m
   ·rw[←U];exact G
   ·rw[getD_set_ne true U] at Y;exact Y
  ·rw[Array.setIfInBounds_comm _ _ s]
   exact k.2.2
theorem ZiJ{i:Nat}{z:Oper}{v:Value}{n:Nat}{l:Array Bool}{a:Act}{w:World}(hi:ops[i]?=some z)(L:Region.noSelect ops=true)(G:Region.free md ops l i=true)(J:(Region.ready md ops l).contains i=true)(s:i≠st)(C:∀c a w,Q (.panic c) (a.put z.dst v) w→Q (.panic c) a w)(N:YieldsIf P ops (fun _=>True) z v a)(E:l.getD st true=false→S w)(h:Zd9 P md ops Q S st n (l.setIfInBounds i true) (a.put z.dst v) w):Zd9 P md ops Q S st (n+1) l a w:=
 ZhG hi (Region.noSelect_spec L) C s n l a w E (Region.free_spec hi G) (by simpa using J) N h
end
theorem ZaM.grown{B h lo hi:Nat}{w w' w2:World}{r:Option Nat}(a:ZaM B h lo hi w w')(s:B≤w.heap.size)(z:w'.grownBy w2 r)(C:∀g,r=some g→B≤g):ZaM B h lo hi w w2:=
 a.trans (((ZaC.refl B h w').grown (Nat.le_trans s a.size) z C).r lo hi)
theorem Zjw{P:Program}{ops:Array Oper}{Q:Exit→Act→World→Prop}{md:Region.Mode}{S:World→Prop}{st:Nat}{i:Nat}{z:Oper}{v:Value}{n:Nat}{l:Array Bool}{a:Act}{w:World}(hi:nth ops.toList i=some z)(L:Region.noSelect ops=true)(G:Region.free md ops l i=true)(J:(Region.ready md ops l).contains i=true)(s:i≠st)(C:∀c a w,Q (.panic c) (a.put z.dst v) w→Q (.panic c) a w)(N:YieldsIf P ops (fun _=>True) z v a)(E:l.getD st true=false→S w)(h:Zd9 P md ops Q S st n (l.setIfInBounds i true) (a.put z.dst v) w):Zd9 P md ops Q S st (n+1) l a w:=ZiJ (ZdE hi) L G J s C N E h
def ZaD.at(i:ZaD)(k:Int):ZaD:={i with mark:=k}
structure Zb1(m:Zab)(i:ZaD):Prop where
 len:m.instrs.length<12
 can:Zgr (i.at 0) m.unders.length=true
 day:i.expiry=0∨m.day≤i.expiry
 now:(Zj3 (i.at 0) (m.unders.getD i.under.toNat default) m.day).2=0
 mark:(Zj3 (i.at 0) (m.unders.getD i.under.toNat default) m.day).1≤100000000000000
def Zbl(i:ZaD)(m m2:Zab):Prop:=∃s1 s2,m2={m with instrs:=m.instrs++[i.at (Zj3 (i.at 0) (m.unders.getD i.under.toNat default) m.day).1],sIns:=s1,avail:=m.avail++[0],sAva:=s2}
theorem ZjT{i:ZaD}{n:Nat}(h:Zgr i n=true):0≤i.under∧i.under<n:=by
 unfold Zgr at h
 simp only[Bool.and_eq_true] at h
 have:=Zd1.1 h.1
 omega
theorem ZiX(m:Zab)(E und G z s:Int)(N:Bool)(mk:Int)(B pl bi lo hi:Nat)(w:World)(hB:B≤w.heap.size)(cp:Bk w pl 37 m.ar)(ho:Zaa w B m)(hg:Za2 m=true)(ck:Bk w bi 66 #[I E,I und,I G,I z,I s,.bool N,I mk])(lb:bi<B)(co:lo≤bi)(cm:bi<hi):
 Calls prog 75 #[Pt pl,Pt bi] w (Zei 164 37 B pl lo hi (fun m' _=>Zbl ⟨E,und,G,z,s,N,mk⟩ m m') (¬Zb1 m ⟨E,und,G,z,s,N,mk⟩) w):=by
 have an:=Hi hB
 have bY:=Hi hg
 have cq:=Hi ho.short.2.1
 have bg:=Hi cp
 have b9:=Hi ho
 have bf:=Hi ck
 have aw:=Hi lb
 have b7:=Hi co
 have bZ:=Hi cm
 clear hB cp ho hg ck lb co cm
 have bD:Hid (ZaM B pl lo hi w w):=ZaM.refl _ _ _ _ _
 obtain⟨i0,a6,aX⟩:=Option.map_eq_some_iff.1 ZjS
 simp only[Prod.mk.injEq] at aX
 have HI:=Hi a6
 have bQ:=Hi aX.1
 have bR:=Hi aX.2.1
 have bS:=Hi aX.2.2
 clear a6 aX
 obtain⟨i3,a6,aX⟩:=Option.map_eq_some_iff.1 Zgq
 simp only[Prod.mk.injEq] at aX
 have HJ:=Hi a6
 have bN:=Hi aX.1
 have bO:=Hi aX.2.1
 have bP:=Hi aX.2.2
 clear a6 aX
 go_enter func75,ntmps75
 by_cases d0:m.instrs.length<12
 rotate_left
 ·have a0:Hid (¬Zb1 m ⟨E,und,G,z,s,N,mk⟩):=fun h=>d0 h.len
  have d1:¬((m.instrs.length:Int)<12):=by omega
  have bj:=bg.nine
  have bh:=bf.seven
  go_wp2_with fail
  refine Cq (Zat 40 _) ?_
  dsimp only
  go_wp2
  exact⟨rfl,bD,m,bg,.inr ⟨40,(by decide),rfl,a0⟩⟩
 have d1:(m.instrs.length:Int)<12:=by omega
 have bj:=bg.nine
 have bh:=bf.seven
 go_wp2_with fail
 refine Cq (ZaV 40 _) ?_
 dsimp only
 go_upto_region 3 with(fail)
 obtain⟨W1,bl⟩:=ExY (w.setCell ⟨bi,6,none⟩ (I 0))
 rw[←bl]
 have bE:Hid (ZaM B pl lo hi w W1):=by rw[bl];exact(bD.set_own b7 bZ)
 have bK:=bkF bg bl bf rfl
 have bI:Hid (Bk W1 bi 66 #[I E,I und,I G,I z,I s,.bool N,I 0]):=bkS bf 6 bl
 have ca:Hid (Zaa W1 B m):=by rw[bl];exact(b9.low aw 6 _)
 clear bj bh
 clear bl
 obtain⟨ib,bU⟩:=ExY (Zgr (ZaD.at ⟨E,und,G,z,s,N,mk⟩ 0) m.unders.length)
 have cn:∀V,Calls prog 76 #[.agg #[I E,I und,I G,I z,I s,.bool N,I 0],I m.unders.length] V fun e w'=>e=.returned (.bool ib)∧Bw V w':=by rw[bU];exact fun V=>ZhU (ZaD.at ⟨E,und,G,z,s,N,mk⟩ 0) m.unders.length (ZbR cq) V
 have b6:=Hi cn
 have b0:=Hi bU
 clear bU cn
 cases ib with
 |false=>
  have a0:Hid (¬Zb1 m ⟨E,und,G,z,s,N,mk⟩):=fun h=>by
   have h2:=h.can
   have h3:=b0.out
   exact Bool.noConfusion (h3.trans h2)
  obtain⟨W2,aL⟩:=ExY W1.drew
  have bq:=bgD bE aL
  have a4:=bkD bK aL
  have ag:=bkD bI aL
  refine rgK (by kernel_rfl) aL (CsA ag 0 rfl (CsA ag 1 rfl (CsA ag 2 rfl (CsA ag 3 rfl (CsA ag 4 rfl (CsA ag 5 rfl (CsA ag 6 rfl (CsB a4 2 rfl)))))))) fun Z=>?_
  clear aL
  refine tkH [0,1,2,3,4,5] Z (by kernel_rfl) (fun _ _ _ _ h=>h) ?_
  iterate 6 (refine ycH rfl (by rfl) (fun w h=>by simp only[Cs] at h;go_simp<;>rfl) ?_;try simp only[Act.put,sA,sB,sC])
  refine onH 6 (by kernel_rfl) rfl fun K hK=>?_
  go_simp
  refine(b6.out _).mono ?_
  rintro e W3 ⟨rfl,hb⟩
  have bc:Hid (ZaM B pl lo hi w W3):=by exact bq.up an hb
  have aE:=bkN a4 hb
  have aa:=bkN ag hb
  clear hb
  dsimp only
  refine hK.out _ _ (⟨aa.cell 0,aa.cell 1,aa.cell 2,aa.cell 3,aa.cell 4,aa.cell 5,aa.cell 6,aE.cell 2⟩) (fun Z=>?_)
  try simp only[Act.put,sA,sB,sC]
  refine onH 7 (by kernel_rfl) rfl fun K hK=>?_
  go_simp
  refine Cq (Zat 32 _) ?_
  dsimp only
  go_wp2
  exact⟨rfl,bc,m,aE,.inr ⟨32,(by decide),rfl,a0⟩⟩
 |true=>
 obtain⟨W2,aL⟩:=ExY W1.drew
 have bq:=bgD bE aL
 have a4:=bkD bK aL
 have ag:=bkD bI aL
 have cb:=boD ca aL
 refine rgK (by kernel_rfl) aL (CsA ag 0 rfl (CsA ag 1 rfl (CsA ag 2 rfl (CsA ag 3 rfl (CsA ag 4 rfl (CsA ag 5 rfl (CsA ag 6 rfl (CsB a4 2 rfl)))))))) fun Z=>?_
 clear aL
 refine tkH [0,1,2,3,4,5] Z (by kernel_rfl) (fun _ _ _ _ h=>h) ?_
 iterate 6 (refine ycH rfl (by rfl) (fun w h=>by simp only[Cs] at h;go_simp<;>rfl) ?_;try simp only[Act.put,sA,sB,sC])
 refine onH 6 (by kernel_rfl) rfl fun K hK=>?_
 go_simp
 refine(b6.out _).mono ?_
 rintro e W3 ⟨rfl,hb⟩
 have bc:Hid (ZaM B pl lo hi w W3):=by exact bq.up an hb
 have aE:=bkN a4 hb
 have aa:=bkN ag hb
 have cc:=boN cb hb
 clear hb
 dsimp only
 refine hK.out _ _ (⟨aa.cell 0,aa.cell 1,aa.cell 2,aa.cell 3,aa.cell 4,aa.cell 5,aa.cell 6,aE.cell 2⟩) (fun Z=>?_)
 try simp only[Act.put,sA,sB,sC]
 refine onH 7 (by kernel_rfl) rfl fun K hK=>?_
 go_simp
 refine Cq (ZaV 32 _) ?_
 dsimp only
 refine hK.out _ _ (⟨aa.cell 0,aa.cell 1,aa.cell 2,aa.cell 3,aa.cell 4,aa.cell 5,aa.cell 6,aE.cell 2⟩) (fun Z=>?_)
 try simp only[Act.put,sA,sB,sC]
 refine wpAnyH_done (by kernel_rfl) ?_ _
 clear Z
 go_upto_region 4 with(fail)
 go_cut [] (fun wx=>Hid (s=0∨m.day≤s)∧Hid (Bw W3 wx))
 case first=>
  by_cases e0:s=0
  ·have HE:Hid (s=0∨m.day≤s):=.inl e0
   have be:(s==0)=true:=by simpa using e0
   obtain⟨W4,ax⟩:=ExY W3.drew
   have aA:=bkD aE ax
   have aD:=bkD aa ax
   have bL:Hid (Bw W3 W4):=by rw[ax];exact(Below.refl _ _).drew
   refine rgK (by kernel_rfl) ax (CsA aD 4 rfl (CsB aA 0 rfl)) fun Z=>?_
   clear ax
   refine tkH [0,1,2,3,4,5,6,7,8,9,10,11] Z (by kernel_rfl) (fun _ _ _ _ h=>h) ?_
   iterate 12 ((first|refine ycH rfl (by rfl) (fun w h=>by simp only[Cs] at h;go_simp<;>rfl) ?_|refine ncH rfl (by rfl) ?_);try simp only[Act.put,sA,sB,sC])
   refine onH 12 (by kernel_rfl) rfl fun K hK=>?_
   go_simp
   refine Cq (ZaV 41 _) ?_
   dsimp only
   refine hK.out _ _ (⟨aD.cell 4,aA.cell 0⟩) (fun Z=>?_)
   try simp only[Act.put,sA,sB,sC]
   refine wpAnyH_done (by kernel_rfl) ?_ _
   clear Z
   go_wp2
   go_meet
   exact⟨HE,bL⟩
  have be:(s==0)=false:=by simpa using e0
  by_cases e1:m.day≤s
  ·have HE:Hid (s=0∨m.day≤s):=.inr e1
   obtain⟨W4,ax⟩:=ExY W3.drew
   have aA:=bkD aE ax
   have aD:=bkD aa ax
   have bL:Hid (Bw W3 W4):=by rw[ax];exact(Below.refl _ _).drew
   refine rgK (by kernel_rfl) ax (CsA aD 4 rfl (CsB aA 0 rfl)) fun Z=>?_
   clear ax
   refine tkH [0,1,2,3,4,5,6,7,8,9,10,11] Z (by kernel_rfl) (fun _ _ _ _ h=>h) ?_
   iterate 12 (refine ycH rfl (by rfl) (fun w h=>by simp only[Cs] at h;go_simp<;>rfl) ?_;try simp only[Act.put,sA,sB,sC])
   refine onH 12 (by kernel_rfl) rfl fun K hK=>?_
   go_simp
   refine Cq (ZaV 41 _) ?_
   dsimp only
   refine hK.out _ _ (⟨aD.cell 4,aA.cell 0⟩) (fun Z=>?_)
   try simp only[Act.put,sA,sB,sC]
   refine wpAnyH_done (by kernel_rfl) ?_ _
   clear Z
   go_wp2
   go_meet
   exact⟨HE,bL⟩
  have a0:Hid (¬Zb1 m ⟨E,und,G,z,s,N,mk⟩):=fun h=>by
   rcases h.day with h|h
   ·exact e0 h
   ·exact e1 h
  obtain⟨W4,ax⟩:=ExY W3.drew
  have br:=bgD bc ax
  have aA:=bkD aE ax
  have aD:=bkD aa ax
  refine rgK (by kernel_rfl) ax (CsA aD 4 rfl (CsB aA 0 rfl)) fun Z=>?_
  clear ax
  refine tkH [0,1,2,3,4,5,6,7,8,9,10,11] Z (by kernel_rfl) (fun _ _ _ _ h=>h) ?_
  iterate 12 (refine ycH rfl (by rfl) (fun w h=>by simp only[Cs] at h;go_simp<;>rfl) ?_;try simp only[Act.put,sA,sB,sC])
  refine onH 12 (by kernel_rfl) rfl fun K hK=>?_
  go_simp
  refine Cq (Zat 41 _) ?_
  dsimp only
  go_wp2
  exact⟨rfl,br,m,aA,.inr ⟨41,(by decide),rfl,a0⟩⟩
 case rest=>
 obtain⟨cw,HW⟩:=hcut
 have hb:=HW.out
 rename World=>W4
 have br:Hid (ZaM B pl lo hi w W4):=by exact bc.up an hb
 have aA:=bkN aE hb
 have aD:=bkN aa hb
 have bt:=boN cc hb
 clear hb
 clear HW
 obtain⟨u0,u1⟩:=ZjT b0.symm
 have ct:0≤und:=u0
 have cv:und<(m.unders.length:Int):=u1
 clear u0 u1
 obtain⟨q,rfl⟩:∃q:Nat,und=(q:Int):=ZaW ct
 have hq:q<m.unders.length:=Int.ofNat_lt.mp cv
 have bb:=(Zbr bY).und _ (List.getElem_mem hq)
 have cl:m.unders.getD q default=m.unders[q]:=by simp[hq]
 obtain⟨g,hA,_,_,_⟩:=Zbb bt.unders (Nat.lt_of_le_of_lt (Nat.zero_le _) hq)
 have hy:=ZdJ bt hA hq
 rw[←cl] at bb
 obtain⟨⟨nm,cu,pr,vo⟩,hu⟩:∃u,u=m.unders.getD q default:=⟨_,rfl⟩
 rw[←hu] at hy bb
 obtain⟨y0,y1,y2,y3,_,y5,_⟩:=hy
 have HY:Hid (∀U,Bw W4 U→U.cell? (Aq g (q*4))=some (.string nm)∧U.cell? (Aq g (q*4+1))=some (I cu)∧U.cell? (Aq g (q*4+2))=some (I pr)∧U.cell? (Aq g (q*4+3))=some (I vo)):=fun U hU=>
  ⟨(hU.cell y5).trans y0,(hU.cell (p:=Aq g (q*4+1)) y5).trans y1,(hU.cell (p:=Aq g (q*4+2)) y5).trans y2,(hU.cell (p:=Aq g (q*4+3)) y5).trans y3⟩
 have HA:=Hi hA
 obtain⟨⟨mark,er⟩,bC⟩:∃p,p=Zj3 (ZaD.at ⟨E,(q:Int),G,z,s,N,mk⟩ 0) ⟨nm,cu,pr,vo⟩ m.day:=⟨_,rfl⟩
 have bA:=fun W=>Zj4 (ZaD.at ⟨E,(q:Int),G,z,s,N,mk⟩ 0) ⟨nm,cu,pr,vo⟩ m.day W ⟨bb.2.2.1,bb.2.2.2.1⟩ ⟨bb.2.2.2.2.1,bb.2.2.2.2.2⟩
 rw[←bC] at bA
 have b8:=Hi bA
 have bM:Hid ((mark,er)=Zj3 (ZaD.at ⟨E,(q:Int),G,z,s,N,mk⟩ 0) (m.unders.getD q default) m.day):=by show _=_;rw[hu] at bC;exact bC
 clear hq bb cl hA hu y0 y1 y2 y3 y5 bC bA
 have cg:Hid (Bw W4 W4):=Below.refl _ _
 go_upto_region 5 with(fail)
 obtain⟨W5,ba⟩:=ExY W4.drew
 have a3:=blD cg ba
 have bV:=bgD br ba
 have bx:=bkD aA ba
 have aJ:Hid (Bk W5 bi 66 #[I E,I q,I G,I z,I s,.bool N,I 0]):=bkD aD ba
 have cd:=boD bt ba
 refine rgH (S:=(fun U=>U.cell? (Aq bi 0)=some (I E)∧U.cell? (Aq bi 1)=some (I q)∧U.cell? (Aq bi 2)=some (I G)∧U.cell? (Aq bi 3)=some (I z)∧U.cell? (Aq bi 4)=some (I s)∧U.cell? (Aq bi 5)=some (.bool N)∧U.cell? (Aq bi 6)=some (I 0)∧U.cell? (Aq pl 2)=some (.slice (some (Aq g 0)) m.unders.length m.sUnd.c)∧U.cell? (Aq g (q*4))=some (.string nm)∧U.cell? (Aq g (q*4+1))=some (I cu)∧U.cell? (Aq g (q*4+2))=some (I pr)∧U.cell? (Aq g (q*4+3))=some (I vo)∧U.cell? (Aq pl 0)=some (I m.day))) (by kernel_rfl) ba ⟨aJ.out.cell 0,aJ.out.cell 1,aJ.out.cell 2,aJ.out.cell 3,aJ.out.cell 4,aJ.out.cell 5,aJ.out.cell 6,HA.out▸bx.out.cell 2,(HY.out _ a3.out).1,(HY.out _ a3.out).2.1,(HY.out _ a3.out).2.2.1,(HY.out _ a3.out).2.2.2,bx.out.cell 0⟩ fun Z=>?_
 clear ba
 refine tkH [0,1,2,3,4,5,6,7,8,9,10,11,12] Z (by kernel_rfl) (fun _ _ _ _ h=>h) ?_
 iterate 13 (refine ycH rfl (by rfl) (fun w h=>by go_simp<;>rfl) ?_;try simp only[Act.put,sA,sB,sC])
 refine onH 13 (by kernel_rfl) rfl fun K hK=>?_
 go_simp
 refine(b8.out _).mono ?_
 rintro e W6 ⟨rfl,hb⟩
 have bd:=blT a3 hb
 have bs:Hid (ZaM B pl lo hi w W6):=by exact bV.up an hb
 have aY:=bkN bx hb
 have az:=bkN aJ hb
 have ce:=boN cd hb
 clear hb
 dsimp only
 refine hK.out _ _ (⟨az.out.cell 0,az.out.cell 1,az.out.cell 2,az.out.cell 3,az.out.cell 4,az.out.cell 5,az.out.cell 6,HA.out▸aY.out.cell 2,(HY.out _ bd.out).1,(HY.out _ bd.out).2.1,(HY.out _ bd.out).2.2.1,(HY.out _ bd.out).2.2.2,aY.out.cell 0⟩) (fun Z=>?_)
 try simp only[Act.put,sA,sB,sC]
 refine tkH [14,15,16,17,18] Z (by kernel_rfl) (fun _ _ _ _ h=>h) ?_
 iterate 5 (refine ycH rfl (by rfl) (fun w h=>by go_simp<;>rfl) ?_;try simp only[Act.put,sA,sB,sC])
 refine wpAnyH_done (by kernel_rfl) ?_ _
 clear Z
 by_cases bB:er=0
 rotate_left
 ·have a0:Hid (¬Zb1 m ⟨E,(q:Int),G,z,s,N,mk⟩):=fun h=>by
   have h2:=h.now
   have h3:((q:Int)).toNat=q:=Int.toNat_natCast q
   dsimp only at h2
   rw[h3,←bM.out] at h2
   exact bB h2
  go_wp2_with fail
  refine Cq (ZcJ er bB _) ?_
  dsimp only
  go_wp2
  exact⟨rfl,bs,m,aY,.inr ⟨er,bB,rfl,a0⟩⟩
 subst bB
 go_wp2_with fail
 refine Cq (Zda _) ?_
 dsimp only
 by_cases d6:mark≤100000000000000
 rotate_left
 ·have a0:Hid (¬Zb1 m ⟨E,(q:Int),G,z,s,N,mk⟩):=fun h=>by
   have h2:=h.mark
   have h3:((q:Int)).toNat=q:=Int.toNat_natCast q
   dsimp only at h2
   rw[h3,←bM.out] at h2
   exact d6 h2
  go_wp2_with fail
  refine Cq (Zat 4 _) ?_
  dsimp only
  go_wp2
  exact⟨rfl,bs,m,aY,.inr ⟨4,(by decide),rfl,a0⟩⟩
 go_wp2_with fail
 refine Cq (ZaV 4 _) ?_
 dsimp only
 have bj:=aY.nine
 have bh:=az.seven
 go_upto_region 9 with(fail)
 obtain⟨W7,bo⟩:=ExY (W6.setCell ⟨bi,6,none⟩ (I mark))
 rw[←bo]
 have bW:Hid (ZaM B pl lo hi w W7):=by rw[bo];exact(bs.set_own b7 bZ)
 have cj:=bkF aY bo az rfl
 have ch:Hid (Bk W7 bi 66 #[I E,I q,I G,I z,I s,.bool N,I mark]):=bkS az 6 bo
 have cf:Hid (Zaa W7 B m):=by rw[bo];exact(ce.low aw 6 _)
 clear bj bh
 clear bo
 have a7:Hid ((m.instrs++[(ZaD.at ⟨E,(q:Int),G,z,s,N,mk⟩ mark:ZaD)]).length=m.instrs.length+1):=by show _=_;simp
 have a8:Hid ((m.avail++[(0:Int)]).length=m.avail.length+1):=by show _=_;simp
 have aZ:Hid (m.avail.length≤1000):=by have h1:=(Zdj bY).2.2.1;show m.avail.length≤1000;omega
 go_cut [] (fun wx=>∃(A2:Option Addr) (c2:Nat) (A3:Option Addr) (c3:Nat),Hid (ZaM B pl lo hi w wx∧Bk wx pl 37 (m.ar_NI (.slice A2 (m.instrs.length+1) c2) (.slice A3 (m.avail.length+1) c3))∧Zaa wx B {m with instrs:=m.instrs++[(ZaD.at ⟨E,(q:Int),G,z,s,N,mk⟩ mark:ZaD)],sIns:=⟨A2,c2⟩,avail:=m.avail++[0],sAva:=⟨A3,c3⟩}))
 case first=>
  obtain⟨W8,bp⟩:=ExY W7.drew
  have bF:=bgD bW bp
  have ap:=bkD cj bp
  have L:=bkD ch bp
  have bG:=boD cf bp
  refine rgL 17 (by kernel_rfl) bp (CsA L 0 rfl (CsA L 1 rfl (CsA L 2 rfl (CsA L 3 rfl (CsA L 4 rfl (CsA L 5 rfl (CsA L 6 rfl (CsA ap 3 rfl (CsB ap 7 rfl))))))))) fun hS=>?_
  clear bp
  refine tkM [0] hS (by kernel_rfl) (fun _ _ _ _ h=>h) ?_
  (refine ycM rfl (by rfl) (fun w h=>by simp only[Cs] at h;go_simp<;>rfl) ?_;try simp only[Act.put,sA,sB,sC])
  refine Zjw (i:=1) (v:=?_) rfl (by kernel_rfl) (by kernel_rfl) (by kernel_rfl) (by decide) (fun _ _ _ h=>h) (Or.inl ⟨by rfl,?_⟩) (fun _=>⟨L.cell 0,L.cell 1,L.cell 2,L.cell 3,L.cell 4,L.cell 5,L.cell 6,ap.cell 3,ap.cell 7⟩) ?_
  rotate_left
  ·intro w bT
   first|(go_simp<;>fail)|(go_simp;with_reducible rfl)
  try simp only[Act.put,sA,sB,sC]
  refine tkM [2,3,4,5,6] hS (by kernel_rfl) (fun _ _ _ _ h=>h) ?_
  iterate 5 (refine ycM rfl (by rfl) (fun w h=>by simp only[Cs] at h;go_simp<;>rfl) ?_;try simp only[Act.put,sA,sB,sC])
  refine Zjw (i:=9) (v:=?_) rfl (by kernel_rfl) (by kernel_rfl) (by kernel_rfl) (by decide) (fun _ _ _ h=>h) (Or.inl ⟨by rfl,?_⟩) (fun _=>⟨L.cell 0,L.cell 1,L.cell 2,L.cell 3,L.cell 4,L.cell 5,L.cell 6,ap.cell 3,ap.cell 7⟩) ?_
  rotate_left
  ·intro w bT
   first|(go_simp<;>fail)|(go_simp;with_reducible rfl)
  try simp only[Act.put,sA,sB,sC]
  refine Zjw (i:=10) (v:=?_) rfl (by kernel_rfl) (by kernel_rfl) (by kernel_rfl) (by decide) (fun _ _ _ h=>h) (Or.inl ⟨by rfl,?_⟩) (fun _=>⟨L.cell 0,L.cell 1,L.cell 2,L.cell 3,L.cell 4,L.cell 5,L.cell 6,ap.cell 3,ap.cell 7⟩) ?_
  rotate_left
  ·intro w bT
   first|(go_simp<;>fail)|(go_simp;with_reducible rfl)
  try simp only[Act.put,sA,sB,sC]
  refine Zjw (i:=11) (v:=?_) rfl (by kernel_rfl) (by kernel_rfl) (by kernel_rfl) (by decide) (fun _ _ _ h=>h) (Or.inl ⟨by rfl,?_⟩) (fun _=>⟨L.cell 0,L.cell 1,L.cell 2,L.cell 3,L.cell 4,L.cell 5,L.cell 6,ap.cell 3,ap.cell 7⟩) ?_
  rotate_left
  ·intro w bT
   first|(go_simp<;>fail)|(go_simp;with_reducible rfl)
  try simp only[Act.put,sA,sB,sC]
  refine tkM [12] hS (by kernel_rfl) (fun _ _ _ _ h=>h) ?_
  (refine ycM rfl (by rfl) (fun w h=>by simp only[Cs] at h;go_simp<;>rfl) ?_;try simp only[Act.put,sA,sB,sC])
  refine ZcD (rs:=[7,13]) (by kernel_rfl) (by simp) ?_
  refine ZgP rfl (fun K hK=>?_) (ZgP rfl (fun K hK=>?_) (ZgQ.nil))
  ·go_simp
   obtain⟨W9,aC⟩:=ExY (W8.alloc (.cells #[I E,I q,I G,I z,I s,.bool N,I mark] 66))
   obtain⟨bn,a1⟩:=ExY W8.heap.size
   have bw:Hid (bn≠bi):=by
    have h:=L.lt
    show bn≠bi
    rw[a1]
    exact Ne.symm (Nat.ne_of_lt h)
   have a2:Hid (ZaM B pl lo hi w W9):=by rw[aC];exact bF.up an ((Below.refl _ _).alloc (Nat.le_refl _) _)
   have aF:=bkA ap aC
   have ad:=bkA L aC
   have aI:=boA bG aC
   have bJ:=bkW aC a1
   rw[←aC,←a1]
   clear aC a1
   refine hK.out _ _ (fun _=>⟨ad.cell 0,ad.cell 1,ad.cell 2,ad.cell 3,ad.cell 4,ad.cell 5,ad.cell 6,aF.cell 3,aF.cell 7⟩) ?_
   try simp only[Act.put,sA,sB,sC]
   refine ZcD (rs:=[8,13]) (by kernel_rfl) (by simp) ?_
   refine ZgP rfl (fun K hK=>?_) (ZgP rfl (fun K hK=>?_) (ZgQ.nil))
   ·have bv:Hid (Rd W9 (bn+1) 7 (some (Aq bn 0)) 1 [I E,I q,I G,I z,I s,.bool N,I mark]):=⟨rfl,fun _=>⟨_,rfl,Nat.lt_succ_self _,World.news_of_block bJ⟩⟩
    refine ZaY _ rfl (.tmp 64) (.tmp 66) _ rfl B 66 i0 _ 7 56 underlying31 HI bQ bR bS rfl (by decide) _ m.instrs.length (m.instrs.flatMap ZaD.cs) rfl aI.instrs (bn+1) _ 1 1 [I E,I q,I G,I z,I s,.bool N,I mark] rfl bv (by simp[Value.oneCell']) (by unfold maxLen;omega) (by omega) (Nat.le_trans an a2.size) ?_
    intro A2 c2 aH h1 h2 al hg aG
    have ak:aH.ownsRow B 66 7 (.slice A2 (m.instrs++[(ZaD.at ⟨E,(q:Int),G,z,s,N,mk⟩ mark:ZaD)]).length c2) (m.instrs++[(ZaD.at ⟨E,(q:Int),G,z,s,N,mk⟩ mark:ZaD)]).length ((m.instrs++[(ZaD.at ⟨E,(q:Int),G,z,s,N,mk⟩ mark:ZaD)]).flatMap ZaD.cs):=by
     rw[a7.out,List.flatMap_append]
     exact al
    have ay:(m.instrs++[(ZaD.at ⟨E,(q:Int),G,z,s,N,mk⟩ mark:ZaD)]).length≤1000000:=by rw[a7.out];omega
    have aB:Hid (ZaM B pl lo hi w aH):=by exact a2.grown an hg (ZcS aI.instrs)
    have af:Hid (Bk aH pl 37 m.ar):=by exact aF.grown hg (ZaL aI.instrs aF (by decide))
    have R:Hid (Bk aH bi 66 #[I E,I q,I G,I z,I s,.bool N,I mark]):=by exact ad.grown hg (Zd6 aI.instrs aw)
    have ac:Hid (Zaa aH B {m with instrs:=m.instrs++[(ZaD.at ⟨E,(q:Int),G,z,s,N,mk⟩ mark:ZaD)],sIns:=⟨A2,c2⟩}):=by exact Zaa.appIns aI hg ak ay
    clear h1 h2 al hg aG ak ay
    dsimp only
    refine hK.out _ _ (fun _=>⟨R.cell 0,R.cell 1,R.cell 2,R.cell 3,R.cell 4,R.cell 5,R.cell 6,af.cell 3,af.cell 7⟩) ?_
    try simp only[Act.put,sA,sB,sC]
    refine onM 13 (by kernel_rfl) rfl fun K hK=>?_
    go_simp
    obtain⟨aq,aV⟩:=ExY (aH.alloc (.cells #[I 0] 3))
    obtain⟨bm,aW⟩:=ExY aH.heap.size
    have au:Hid (ZaM B pl lo hi w aq):=by rw[aV];exact aB.up an ((Below.refl _ _).alloc (Nat.le_refl _) _)
    have ae:=bkA af aV
    have Y:=bkA R aV
    have ab:=boA ac aV
    have aT:=bkW aV aW
    rw[←aV,←aW]
    clear aV aW
    refine hK.out _ _ (fun _=>⟨Y.cell 0,Y.cell 1,Y.cell 2,Y.cell 3,Y.cell 4,Y.cell 5,Y.cell 6,ae.cell 3,ae.cell 7⟩) ?_
    try simp only[Act.put,sA,sB,sC]
    refine onM 14 (by kernel_rfl) rfl fun K hK=>?_
    have bu:Hid (Rd aq (bm+1) 1 (some (Aq bm 0)) 1 [I 0]):=⟨rfl,fun _=>⟨_,rfl,Nat.lt_succ_self _,World.news_of_block aT⟩⟩
    refine ZaY _ rfl (.tmp 71) (.tmp 72) _ rfl B 3 i3 _ 1 8 underlying34 HJ bN bO bP rfl (by decide) _ m.avail.length (Zag m.avail) rfl ab.avail (bm+1) _ 1 1 [I 0] rfl bu (by simp[Value.oneCell']) (by unfold maxLen;have:=aZ.out;omega) (by have:=aZ.out;omega) (Nat.le_trans an au.size) ?_
    intro A3 c3 ao h1 h2 al hg aG
    have ak:ao.ownsRow B 3 1 (.slice A3 (m.avail++[(0:Int)]).length c3) (m.avail++[(0:Int)]).length (Zag (m.avail++[(0:Int)])):=by
     rw[a8.out]
     have e:Zag (m.avail++[(0:Int)])=Zag m.avail++[I 0]:=by simp[Zag]
     rw[e]
     exact al
    have ay:(m.avail++[(0:Int)]).length≤1000000:=by rw[a8.out];have:=aZ.out;omega
    have aM:Hid (ZaM B pl lo hi w ao):=by exact au.grown an hg (ZcS ab.avail)
    have J:Hid (Bk ao pl 37 m.ar):=by exact ae.grown hg (ZaL ab.avail ae (by decide))
    have C:Hid (Bk ao bi 66 #[I E,I q,I G,I z,I s,.bool N,I mark]):=by exact Y.grown hg (Zd6 ab.avail aw)
    have aP:Hid (Zaa ao B {m with instrs:=m.instrs++[(ZaD.at ⟨E,(q:Int),G,z,s,N,mk⟩ mark:ZaD)],sIns:=⟨A2,c2⟩,avail:=m.avail++[0],sAva:=⟨A3,c3⟩}):=by exact Zaa.appAva ab hg ak ay aG
    clear h1 h2 al hg aG ak ay
    dsimp only
    refine hK.out _ _ (fun _=>⟨C.cell 0,C.cell 1,C.cell 2,C.cell 3,C.cell 4,C.cell 5,C.cell 6,J.cell 3,J.cell 7⟩) ?_
    try simp only[Act.put,sA,sB,sC]
    refine onM 15 (by kernel_rfl) rfl fun K hK=>?_
    go_simp
    refine hK.out _ _ (fun _=>⟨C.cell 0,C.cell 1,C.cell 2,C.cell 3,C.cell 4,C.cell 5,C.cell 6,J.cell 3,J.cell 7⟩) ?_
    try simp only[Act.put,sA,sB,sC]
    refine onM 16 (by kernel_rfl) rfl fun K hK=>?_
    go_simp
    refine hK.out _ _ (fun _=>⟨C.cell 0,C.cell 1,C.cell 2,C.cell 3,C.cell 4,C.cell 5,C.cell 6,J.cell 3,J.cell 7⟩) ?_
    try simp only[Act.put,sA,sB,sC]
    refine onM 17 (by kernel_rfl) rfl fun K hK=>?_
    have aK:=J.nine
    go_simp
    clear aK
    obtain⟨a5,ai⟩:=ExY (ao.setCell ⟨pl,3,none⟩ (.slice A2 (m.instrs.length+1) c2))
    rw[←ai]
    have aN:=bgI aM ai
    have am:Hid (Bk a5 pl 37 (m.ar_N (.slice A2 (m.instrs.length+1) c2))):=bkS J 3 ai
    have aQ:=boF aP ai J (by decide)
    clear ai
    refine hK.out _ _ (fun h0=>Zac (by kernel_rfl) h0) ?_
    try simp only[Act.put]
    refine onM 18 (by kernel_rfl) rfl fun K hK=>?_
    go_simp
    refine hK.out _ _ (fun h0=>Zac (by kernel_rfl) h0) ?_
    try simp only[Act.put,sA,sB,sC]
    refine onM 19 (by kernel_rfl) rfl fun K hK=>?_
    go_simp
    refine hK.out _ _ (fun h0=>Zac (by kernel_rfl) h0) ?_
    try simp only[Act.put,sA,sB,sC]
    refine onM 20 (by kernel_rfl) rfl fun K hK=>?_
    have aK:=am.nine
    go_simp
    clear aK
    obtain⟨bz,aj⟩:=ExY (a5.setCell ⟨pl,7,none⟩ (.slice A3 (m.avail.length+1) c3))
    rw[←aj]
    have aO:=bgI aN aj
    have aU:Hid (Bk bz pl 37 (m.ar_NI (.slice A2 (m.instrs.length+1) c2) (.slice A3 (m.avail.length+1) c3))):=bkS am 7 aj
    have aR:=boF aQ aj am (by decide)
    clear aj
    refine hK.out _ _ (fun h0=>Zac (by kernel_rfl) h0) ?_
    refine Zak (by kernel_rfl) ?_ _
    go_wp2
    go_meet
    exact⟨A2,c2,A3,c3,aO,aU,aR⟩
   ·go_simp
    obtain⟨aH,ah⟩:=ExY (W9.alloc (.cells #[I 0] 3))
    obtain⟨bm,aW⟩:=ExY W9.heap.size
    have aB:Hid (ZaM B pl lo hi w aH):=by rw[ah];exact a2.up an ((Below.refl _ _).alloc (Nat.le_refl _) _)
    have af:=bkA aF ah
    have R:=bkA ad ah
    have a9:=bkA bJ ah
    have ac:=boA aI ah
    have aS:=bkW ah aW
    rw[←ah,←aW]
    clear ah aW
    refine hK.out _ _ (fun _=>⟨R.cell 0,R.cell 1,R.cell 2,R.cell 3,R.cell 4,R.cell 5,R.cell 6,af.cell 3,af.cell 7⟩) ?_
    try simp only[Act.put,sA,sB,sC]
    refine onM 8 (by kernel_rfl) rfl fun K hK=>?_
    have bv:Hid (Rd aH (bn+1) 7 (some (Aq bn 0)) 1 [I E,I q,I G,I z,I s,.bool N,I mark]):=⟨rfl,fun _=>⟨_,rfl,Nat.lt_succ_self _,World.news_of_block a9⟩⟩
    refine ZaY _ rfl (.tmp 64) (.tmp 66) _ rfl B 66 i0 _ 7 56 underlying31 HI bQ bR bS rfl (by decide) _ m.instrs.length (m.instrs.flatMap ZaD.cs) rfl ac.instrs (bn+1) _ 1 1 [I E,I q,I G,I z,I s,.bool N,I mark] rfl bv (by simp[Value.oneCell']) (by unfold maxLen;omega) (by omega) (Nat.le_trans an aB.size) ?_
    intro A2 c2 aq h1 h2 al hg aG
    have ak:aq.ownsRow B 66 7 (.slice A2 (m.instrs++[(ZaD.at ⟨E,(q:Int),G,z,s,N,mk⟩ mark:ZaD)]).length c2) (m.instrs++[(ZaD.at ⟨E,(q:Int),G,z,s,N,mk⟩ mark:ZaD)]).length ((m.instrs++[(ZaD.at ⟨E,(q:Int),G,z,s,N,mk⟩ mark:ZaD)]).flatMap ZaD.cs):=by
     rw[a7.out,List.flatMap_append]
     exact al
    have ay:(m.instrs++[(ZaD.at ⟨E,(q:Int),G,z,s,N,mk⟩ mark:ZaD)]).length≤1000000:=by rw[a7.out];omega
    have au:Hid (ZaM B pl lo hi w aq):=by exact aB.grown an hg (ZcS ac.instrs)
    have ae:Hid (Bk aq pl 37 m.ar):=by exact af.grown hg (ZaL ac.instrs af (by decide))
    have Y:Hid (Bk aq bi 66 #[I E,I q,I G,I z,I s,.bool N,I mark]):=by exact R.grown hg (Zd6 ac.instrs aw)
    have aT:Hid (Bk aq bm 3 #[I 0]):=by exact aS.grown hg (ZaL ac.instrs aS (by decide))
    have ab:Hid (Zaa aq B {m with instrs:=m.instrs++[(ZaD.at ⟨E,(q:Int),G,z,s,N,mk⟩ mark:ZaD)],sIns:=⟨A2,c2⟩}):=by exact Zaa.appIns ac hg ak ay
    clear h1 h2 al hg aG ak ay
    dsimp only
    refine hK.out _ _ (fun _=>⟨Y.cell 0,Y.cell 1,Y.cell 2,Y.cell 3,Y.cell 4,Y.cell 5,Y.cell 6,ae.cell 3,ae.cell 7⟩) ?_
    try simp only[Act.put,sA,sB,sC]
    refine onM 14 (by kernel_rfl) rfl fun K hK=>?_
    have bu:Hid (Rd aq (bm+1) 1 (some (Aq bm 0)) 1 [I 0]):=⟨rfl,fun _=>⟨_,rfl,Nat.lt_succ_self _,World.news_of_block aT⟩⟩
    refine ZaY _ rfl (.tmp 71) (.tmp 72) _ rfl B 3 i3 _ 1 8 underlying34 HJ bN bO bP rfl (by decide) _ m.avail.length (Zag m.avail) rfl ab.avail (bm+1) _ 1 1 [I 0] rfl bu (by simp[Value.oneCell']) (by unfold maxLen;have:=aZ.out;omega) (by have:=aZ.out;omega) (Nat.le_trans an au.size) ?_
    intro A3 c3 ao h1 h2 al hg aG
    have ak:ao.ownsRow B 3 1 (.slice A3 (m.avail++[(0:Int)]).length c3) (m.avail++[(0:Int)]).length (Zag (m.avail++[(0:Int)])):=by
     rw[a8.out]
     have e:Zag (m.avail++[(0:Int)])=Zag m.avail++[I 0]:=by simp[Zag]
     rw[e]
     exact al
    have ay:(m.avail++[(0:Int)]).length≤1000000:=by rw[a8.out];have:=aZ.out;omega
    have aM:Hid (ZaM B pl lo hi w ao):=by exact au.grown an hg (ZcS ab.avail)
    have J:Hid (Bk ao pl 37 m.ar):=by exact ae.grown hg (ZaL ab.avail ae (by decide))
    have C:Hid (Bk ao bi 66 #[I E,I q,I G,I z,I s,.bool N,I mark]):=by exact Y.grown hg (Zd6 ab.avail aw)
    have aP:Hid (Zaa ao B {m with instrs:=m.instrs++[(ZaD.at ⟨E,(q:Int),G,z,s,N,mk⟩ mark:ZaD)],sIns:=⟨A2,c2⟩,avail:=m.avail++[0],sAva:=⟨A3,c3⟩}):=by exact Zaa.appAva ab hg ak ay aG
    clear h1 h2 al hg aG ak ay
    dsimp only
    refine hK.out _ _ (fun _=>⟨C.cell 0,C.cell 1,C.cell 2,C.cell 3,C.cell 4,C.cell 5,C.cell 6,J.cell 3,J.cell 7⟩) ?_
    try simp only[Act.put,sA,sB,sC]
    refine onM 15 (by kernel_rfl) rfl fun K hK=>?_
    go_simp
    refine hK.out _ _ (fun _=>⟨C.cell 0,C.cell 1,C.cell 2,C.cell 3,C.cell 4,C.cell 5,C.cell 6,J.cell 3,J.cell 7⟩) ?_
    try simp only[Act.put,sA,sB,sC]
    refine onM 16 (by kernel_rfl) rfl fun K hK=>?_
    go_simp
    refine hK.out _ _ (fun _=>⟨C.cell 0,C.cell 1,C.cell 2,C.cell 3,C.cell 4,C.cell 5,C.cell 6,J.cell 3,J.cell 7⟩) ?_
    try simp only[Act.put,sA,sB,sC]
    refine onM 17 (by kernel_rfl) rfl fun K hK=>?_
    have aK:=J.nine
    go_simp
    clear aK
    obtain⟨a5,ai⟩:=ExY (ao.setCell ⟨pl,3,none⟩ (.slice A2 (m.instrs.length+1) c2))
    rw[←ai]
    have aN:=bgI aM ai
    have am:Hid (Bk a5 pl 37 (m.ar_N (.slice A2 (m.instrs.length+1) c2))):=bkS J 3 ai
    have aQ:=boF aP ai J (by decide)
    clear ai
    refine hK.out _ _ (fun h0=>Zac (by kernel_rfl) h0) ?_
    try simp only[Act.put]
    refine onM 18 (by kernel_rfl) rfl fun K hK=>?_
    go_simp
    refine hK.out _ _ (fun h0=>Zac (by kernel_rfl) h0) ?_
    try simp only[Act.put,sA,sB,sC]
    refine onM 19 (by kernel_rfl) rfl fun K hK=>?_
    go_simp
    refine hK.out _ _ (fun h0=>Zac (by kernel_rfl) h0) ?_
    try simp only[Act.put,sA,sB,sC]
    refine onM 20 (by kernel_rfl) rfl fun K hK=>?_
    have aK:=am.nine
    go_simp
    clear aK
    obtain⟨bz,aj⟩:=ExY (a5.setCell ⟨pl,7,none⟩ (.slice A3 (m.avail.length+1) c3))
    rw[←aj]
    have aO:=bgI aN aj
    have aU:Hid (Bk bz pl 37 (m.ar_NI (.slice A2 (m.instrs.length+1) c2) (.slice A3 (m.avail.length+1) c3))):=bkS am 7 aj
    have aR:=boF aQ aj am (by decide)
    clear aj
    refine hK.out _ _ (fun h0=>Zac (by kernel_rfl) h0) ?_
    refine Zak (by kernel_rfl) ?_ _
    go_wp2
    go_meet
    exact⟨A2,c2,A3,c3,aO,aU,aR⟩
  ·go_simp
   obtain⟨W9,aC⟩:=ExY (W8.alloc (.cells #[I 0] 3))
   obtain⟨bm,aW⟩:=ExY W8.heap.size
   have a2:Hid (ZaM B pl lo hi w W9):=by rw[aC];exact bF.up an ((Below.refl _ _).alloc (Nat.le_refl _) _)
   have aF:=bkA ap aC
   have ad:=bkA L aC
   have aI:=boA bG aC
   have ci:=bkW aC aW
   rw[←aC,←aW]
   clear aC aW
   refine hK.out _ _ (fun _=>⟨ad.cell 0,ad.cell 1,ad.cell 2,ad.cell 3,ad.cell 4,ad.cell 5,ad.cell 6,aF.cell 3,aF.cell 7⟩) ?_
   try simp only[Act.put,sA,sB,sC]
   refine onM 7 (by kernel_rfl) rfl fun K hK=>?_
   go_simp
   obtain⟨aH,ah⟩:=ExY (W9.alloc (.cells #[I E,I q,I G,I z,I s,.bool N,I mark] 66))
   obtain⟨bn,a1⟩:=ExY W9.heap.size
   have bw:Hid (bn≠bi):=by
    have h:=ad.lt
    show bn≠bi
    rw[a1]
    exact Ne.symm (Nat.ne_of_lt h)
   have aB:Hid (ZaM B pl lo hi w aH):=by rw[ah];exact a2.up an ((Below.refl _ _).alloc (Nat.le_refl _) _)
   have af:=bkA aF ah
   have R:=bkA ad ah
   have aS:=bkA ci ah
   have ac:=boA aI ah
   have a9:=bkW ah a1
   rw[←ah,←a1]
   clear ah a1
   refine hK.out _ _ (fun _=>⟨R.cell 0,R.cell 1,R.cell 2,R.cell 3,R.cell 4,R.cell 5,R.cell 6,af.cell 3,af.cell 7⟩) ?_
   try simp only[Act.put,sA,sB,sC]
   refine onM 8 (by kernel_rfl) rfl fun K hK=>?_
   have bv:Hid (Rd aH (bn+1) 7 (some (Aq bn 0)) 1 [I E,I q,I G,I z,I s,.bool N,I mark]):=⟨rfl,fun _=>⟨_,rfl,Nat.lt_succ_self _,World.news_of_block a9⟩⟩
   refine ZaY _ rfl (.tmp 64) (.tmp 66) _ rfl B 66 i0 _ 7 56 underlying31 HI bQ bR bS rfl (by decide) _ m.instrs.length (m.instrs.flatMap ZaD.cs) rfl ac.instrs (bn+1) _ 1 1 [I E,I q,I G,I z,I s,.bool N,I mark] rfl bv (by simp[Value.oneCell']) (by unfold maxLen;omega) (by omega) (Nat.le_trans an aB.size) ?_
   intro A2 c2 aq h1 h2 al hg aG
   have ak:aq.ownsRow B 66 7 (.slice A2 (m.instrs++[(ZaD.at ⟨E,(q:Int),G,z,s,N,mk⟩ mark:ZaD)]).length c2) (m.instrs++[(ZaD.at ⟨E,(q:Int),G,z,s,N,mk⟩ mark:ZaD)]).length ((m.instrs++[(ZaD.at ⟨E,(q:Int),G,z,s,N,mk⟩ mark:ZaD)]).flatMap ZaD.cs):=by
    rw[a7.out,List.flatMap_append]
    exact al
   have ay:(m.instrs++[(ZaD.at ⟨E,(q:Int),G,z,s,N,mk⟩ mark:ZaD)]).length≤1000000:=by rw[a7.out];omega
   have au:Hid (ZaM B pl lo hi w aq):=by exact aB.grown an hg (ZcS ac.instrs)
   have ae:Hid (Bk aq pl 37 m.ar):=by exact af.grown hg (ZaL ac.instrs af (by decide))
   have Y:Hid (Bk aq bi 66 #[I E,I q,I G,I z,I s,.bool N,I mark]):=by exact R.grown hg (Zd6 ac.instrs aw)
   have aT:Hid (Bk aq bm 3 #[I 0]):=by exact aS.grown hg (ZaL ac.instrs aS (by decide))
   have ab:Hid (Zaa aq B {m with instrs:=m.instrs++[(ZaD.at ⟨E,(q:Int),G,z,s,N,mk⟩ mark:ZaD)],sIns:=⟨A2,c2⟩}):=by exact Zaa.appIns ac hg ak ay
   clear h1 h2 al hg aG ak ay
   dsimp only
   refine hK.out _ _ (fun _=>⟨Y.cell 0,Y.cell 1,Y.cell 2,Y.cell 3,Y.cell 4,Y.cell 5,Y.cell 6,ae.cell 3,ae.cell 7⟩) ?_
   try simp only[Act.put,sA,sB,sC]
   refine onM 14 (by kernel_rfl) rfl fun K hK=>?_
   have bu:Hid (Rd aq (bm+1) 1 (some (Aq bm 0)) 1 [I 0]):=⟨rfl,fun _=>⟨_,rfl,Nat.lt_succ_self _,World.news_of_block aT⟩⟩
   refine ZaY _ rfl (.tmp 71) (.tmp 72) _ rfl B 3 i3 _ 1 8 underlying34 HJ bN bO bP rfl (by decide) _ m.avail.length (Zag m.avail) rfl ab.avail (bm+1) _ 1 1 [I 0] rfl bu (by simp[Value.oneCell']) (by unfold maxLen;have:=aZ.out;omega) (by have:=aZ.out;omega) (Nat.le_trans an au.size) ?_
   intro A3 c3 ao h1 h2 al hg aG
   have ak:ao.ownsRow B 3 1 (.slice A3 (m.avail++[(0:Int)]).length c3) (m.avail++[(0:Int)]).length (Zag (m.avail++[(0:Int)])):=by
    rw[a8.out]
    have e:Zag (m.avail++[(0:Int)])=Zag m.avail++[I 0]:=by simp[Zag]
    rw[e]
    exact al
   have ay:(m.avail++[(0:Int)]).length≤1000000:=by rw[a8.out];have:=aZ.out;omega
   have aM:Hid (ZaM B pl lo hi w ao):=by exact au.grown an hg (ZcS ab.avail)
   have J:Hid (Bk ao pl 37 m.ar):=by exact ae.grown hg (ZaL ab.avail ae (by decide))
   have C:Hid (Bk ao bi 66 #[I E,I q,I G,I z,I s,.bool N,I mark]):=by exact Y.grown hg (Zd6 ab.avail aw)
   have aP:Hid (Zaa ao B {m with instrs:=m.instrs++[(ZaD.at ⟨E,(q:Int),G,z,s,N,mk⟩ mark:ZaD)],sIns:=⟨A2,c2⟩,avail:=m.avail++[0],sAva:=⟨A3,c3⟩}):=by exact Zaa.appAva ab hg ak ay aG
   clear h1 h2 al hg aG ak ay
   dsimp only
   refine hK.out _ _ (fun _=>⟨C.cell 0,C.cell 1,C.cell 2,C.cell 3,C.cell 4,C.cell 5,C.cell 6,J.cell 3,J.cell 7⟩) ?_
   try simp only[Act.put,sA,sB,sC]
   refine onM 15 (by kernel_rfl) rfl fun K hK=>?_
   go_simp
   refine hK.out _ _ (fun _=>⟨C.cell 0,C.cell 1,C.cell 2,C.cell 3,C.cell 4,C.cell 5,C.cell 6,J.cell 3,J.cell 7⟩) ?_
   try simp only[Act.put,sA,sB,sC]
   refine onM 16 (by kernel_rfl) rfl fun K hK=>?_
   go_simp
   refine hK.out _ _ (fun _=>⟨C.cell 0,C.cell 1,C.cell 2,C.cell 3,C.cell 4,C.cell 5,C.cell 6,J.cell 3,J.cell 7⟩) ?_
   try simp only[Act.put,sA,sB,sC]
   refine onM 17 (by kernel_rfl) rfl fun K hK=>?_
   have aK:=J.nine
   go_simp
   clear aK
   obtain⟨a5,ai⟩:=ExY (ao.setCell ⟨pl,3,none⟩ (.slice A2 (m.instrs.length+1) c2))
   rw[←ai]
   have aN:=bgI aM ai
   have am:Hid (Bk a5 pl 37 (m.ar_N (.slice A2 (m.instrs.length+1) c2))):=bkS J 3 ai
   have aQ:=boF aP ai J (by decide)
   clear ai
   refine hK.out _ _ (fun h0=>Zac (by kernel_rfl) h0) ?_
   try simp only[Act.put]
   refine onM 18 (by kernel_rfl) rfl fun K hK=>?_
   go_simp
   refine hK.out _ _ (fun h0=>Zac (by kernel_rfl) h0) ?_
   try simp only[Act.put,sA,sB,sC]
   refine onM 19 (by kernel_rfl) rfl fun K hK=>?_
   go_simp
   refine hK.out _ _ (fun h0=>Zac (by kernel_rfl) h0) ?_
   try simp only[Act.put,sA,sB,sC]
   refine onM 20 (by kernel_rfl) rfl fun K hK=>?_
   have aK:=am.nine
   go_simp
   clear aK
   obtain⟨bz,aj⟩:=ExY (a5.setCell ⟨pl,7,none⟩ (.slice A3 (m.avail.length+1) c3))
   rw[←aj]
   have aO:=bgI aN aj
   have aU:Hid (Bk bz pl 37 (m.ar_NI (.slice A2 (m.instrs.length+1) c2) (.slice A3 (m.avail.length+1) c3))):=bkS am 7 aj
   have aR:=boF aQ aj am (by decide)
   clear aj
   refine hK.out _ _ (fun h0=>Zac (by kernel_rfl) h0) ?_
   refine Zak (by kernel_rfl) ?_ _
   go_wp2
   go_meet
   exact⟨A2,c2,A3,c3,aO,aU,aR⟩
 case rest=>
 obtain⟨A2,c2,A3,c3,HW⟩:=hcut
 rename World=>X
 have bX:Hid (ZaM B pl lo hi w X):=HW.1
 have bH:Hid (Bk X pl 37 (m.ar_NI (.slice A2 (m.instrs.length+1) c2) (.slice A3 (m.avail.length+1) c3))):=HW.2.1
 have cr:Hid (Zaa X B {m with instrs:=m.instrs++[(ZaD.at ⟨E,(q:Int),G,z,s,N,mk⟩ mark:ZaD)],sIns:=⟨A2,c2⟩,avail:=m.avail++[0],sAva:=⟨A3,c3⟩}):=HW.2.2
 clear HW
 have aK:=bH.nine
 go_wp2
 go_ret
 refine⟨bX,{m with instrs:=m.instrs++[(ZaD.at ⟨E,(q:Int),G,z,s,N,mk⟩ mark:ZaD)],sIns:=⟨A2,c2⟩,avail:=m.avail++[0],sAva:=⟨A3,c3⟩},?_,.inl ⟨_,rfl,cr,⟨A2,c2⟩,⟨A3,c3⟩,?_⟩⟩
 ·unfold Zab.cs
  dsimp only
  rw[a7.out,a8.out]
  exact bH
 ·have h3:((q:Int)).toNat=q:=Int.toNat_natCast q
  dsimp only
  rw[h3,←bM.out]
theorem ZfQ(m:Zab)(C und E z s:Int)(G:Bool)(mk:Int)(w:World)(hm:Zay w w.heap.size m)(ad:Gl w):
 Calls prog 35 #[m.val,(⟨C,und,E,z,s,G,mk⟩:ZaD).val] w (Zar (Zaj m (fun m1 m2 _=>Zbl ⟨C,und,E,z,s,G,mk⟩ m1 m2)) (Zas m (fun m1 m2 _=>Zbl ⟨C,und,E,z,s,G,mk⟩ m1 m2) (fun m1=>¬Zb1 m1 ⟨C,und,E,z,s,G,mk⟩)) w):=by
 show Calls prog 35 #[.agg m.ar,.agg #[I C,I und,I E,I z,I s,.bool G,I mk]] w (Zar (Zaj m (fun m1 m2 _=>Zbl ⟨C,und,E,z,s,G,mk⟩ m1 m2)) (Zas m (fun m1 m2 _=>Zbl ⟨C,und,E,z,s,G,mk⟩ m1 m2) (fun m1=>¬Zb1 m1 ⟨C,und,E,z,s,G,mk⟩)) w)
 obtain⟨W1,Y⟩:=ExY (w.alloc (.cells m.ar 37))
 obtain⟨bl,ac⟩:=ExY w.heap.size
 have ae:=blB Y
 have an:=bkW Y ac
 obtain⟨W2,R⟩:=ExY (W1.alloc (.cells #[I C,I und,I E,I z,I s,.bool G,I mk] 66))
 obtain⟨bi,Z⟩:=ExY W1.heap.size
 have X:=blZ ae Z
 have af:=blA ae R
 have ag:=bkA an R
 have am:=bkW R Z
 have ah:bi=bl+1:=by rw[Z,Y,World.size_alloc,←ac]
 obtain⟨W3,U⟩:=ExY (W2.alloc (.cells zZ 37))
 obtain⟨bz,aa⟩:=ExY W2.heap.size
 have ap:Hid (bz≠bl):=by
  have h:=ag.lt
  show bz≠bl
  rw[aa]
  exact Ne.symm (Nat.ne_of_lt h)
 have ak:=blZ af aa
 have L:=blA af U
 have ao:=bkA ag U
 have J:=bkA am U
 have N:=bkW U aa
 have ai:bz=bi+1:=by rw[aa,R,World.size_alloc,←Z]
 have HT:Hid (Calls prog 60 #[.agg m.ar,.func (.func 75) #[] #[Pt bi]] W3 (Zfc (bi) (bi+1) (Zaj m (fun m1 m2 _=>Zbl ⟨C,und,E,z,s,G,mk⟩ m1 m2)) (Zas m (fun m1 m2 _=>Zbl ⟨C,und,E,z,s,G,mk⟩ m1 m2) (fun m1=>¬Zb1 m1 ⟨C,und,E,z,s,G,mk⟩)) W3)):=Hi (Zek 75 #[Pt bi] m (fun m1 m2 _=>Zbl ⟨C,und,E,z,s,G,mk⟩ m1 m2) (fun m1=>¬Zb1 m1 ⟨C,und,E,z,s,G,mk⟩) (bi) (bi+1) W3 (Nat.le_of_lt J.lt) J.lt (Nat.lt_of_lt_of_le ad.lt X) ((hm.below L).mono L.size) (ad.below L ad.lt) (fun pl W=>by kernel_rfl) (by
  intro m1 B pl W hp
  exact ZiX m1 C und E z s G mk B pl bi bi (bi+1) W hp.size hp.bk hp.own hp.good (J.below hp.below J.lt) (Nat.lt_of_lt_of_le J.lt hp.base) (Nat.le_refl _) (Nat.lt_succ_self _)))
 have ay:Hid (bi+1≤bz):=by show _≤bz;omega
 clear hm ad
 go_enter func35,ntmps35
 go_upto_region 1 with(fail)
 rw[←Y,←ac,←R,←ah,←U,←ai]
 clear Y ac ah R Z ai U aa
 have au:=ao.nine
 have aq:=J.seven
 have aw:=N.nine
 go_wp2_with fail
 refine HT.mono ?_
 rintro e W9 ⟨hb,m2,n,er,rfl,hc⟩
 have HC:=Hi hc
 have ax:Hid (Bw w W9):=L.trans ((hb.low (Nat.le_of_lt J.lt) (Nat.le_of_lt J.lt)).mono X)
 have az:=Hi L.size
 have al:Hid (Bk W9 bz 37 zZ):=N.holeR hb N.lt (Nat.ne_of_lt N.lt) ay
 clear hb hc au aq aw
 have aj:m2.val=.agg m2.ar:=rfl
 rw[aj]
 clear aj
 dsimp only
 go_wp2_with (refine wpList_store_row rfl 37 _ _ rfl bz m2.ar rfl rfl 37 zZ al ZaU (by rfl) (by simp[Value.oneCell']) ?_)
 obtain⟨V9,ab⟩:=ExY (W9.setRow bz m2.ar)
 rw[←ab]
 have aC:=bkr al ab
 have aA:=blr ax ab ak
 have aB:(er=0∧Zaa V9 w.heap.size m2∧(Zaj m (fun m1 m2 _=>Zbl ⟨C,und,E,z,s,G,mk⟩ m1 m2)) m2 n)∨(er≠0∧m2=Za4∧n=0∧(Zas m (fun m1 m2 _=>Zbl ⟨C,und,E,z,s,G,mk⟩ m1 m2) (fun m1=>¬Zb1 m1 ⟨C,und,E,z,s,G,mk⟩))):=by
  rcases HC.out with⟨h1,h2,h3⟩|h
  ·exact .inl ⟨h1,by rw[ab];exact(h2.mono az).rowFar al (by decide) _,h3⟩
  ·exact .inr h
 exact bodyPost_ret (Zam (p:=4) (q:=5) (r:=6) results35 _ V9 bz 37 m2.ar (0,0) _ rfl aC underlying37 rfl ZaU) rfl ⟨aA,m2,n,er,rfl,aB⟩
end
end Go.Proofs.YtdefojlkofnloaaGreatDoor
