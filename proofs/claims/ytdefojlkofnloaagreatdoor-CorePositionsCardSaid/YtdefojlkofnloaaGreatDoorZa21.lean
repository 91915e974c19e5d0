/- A part of the proof of CorePositions: for every input, no condition. -/
import Derived.Test.YtdefojlkofnloaaGreatDoorZa18
import Derived.Test.YtdefojlkofnloaaGreatDoorZa20
set_option maxRecDepth 100000
set_option maxHeartbeats 8000000
set_option linter.unusedVariables false
set_option linter.unusedSimpArgs false
namespace Go.Proofs.YtdefojlkofnloaaGreatDoor
open Go.RowKit Go.Proofs.Tryz
theorem ZdN{P:Program}{ops:Array Oper}{o:Oper}{a:Act}{w:World}{K:Act→World→Prop}{Q:Exit→Act→World→Prop}{E:Prop}(s:o.guard=none)(t:TypeId)(z:o.op=.makeMap t none)(h:K (a.put o.dst (.map (some w.heap.size))) (w.alloc (.map #[] 0))):if Region.wanted o (yielded ops a.tmps)=true then Oper.wp P o a w K Q else E:=by
 have hw:Region.wanted o (yielded ops a.tmps)=true:=by simp[Region.wanted,s]
 rw[if_pos hw]
 unfold Oper.wp
 have hr:(Instr.makeMap t none).run P w=.ok (.map (some w.heap.size)) (w.alloc (.map #[] 0)):=rfl
 simp[execOp,z,hr,Result.andThen]
 exact h
def Zif(m:Zab)(v:Int)(w:World)(e:Ending)(w':World):Prop:=
 Bw w w'∧((∃bs bm bA bc,e=.returned (Pt bs)∧w.heap.size≤bm∧Za2 m=true∧(0≤v∧v<m.accts.length)∧Zdx w' bs bm m bA bc (ZbE (Zah m.accts) v)) ∨
  (∃er:Int,er≠0∧e=.panicked [{v:=.iface 229 (.agg #[I er]),recovered:=false}]∧¬(Za2 m=true∧0≤v∧v<m.accts.length)))
theorem ZeG{w W:World}{m:Zab}{v:Int}{bm bA':Nat}{A:Option Addr}{c:Nat}(L:Zay w w.heap.size m)(J:Gl w)(G:Bw w W)(C:Rd W W.heap.size 1 A (ZbE (Zah m.accts) v).length (Zag (ZbE (Zah m.accts) v)))(E:ZaE W bm m)(N:bA'=0):
 Zdx (W.alloc (.cells (Zhv m (.slice A (ZbE (Zah m.accts) v).length c) (.map (some bm))) 226)) W.heap.size bm m A c (ZbE (Zah m.accts) v):=by
 have s:Bw W (W.alloc (.cells (Zhv m (.slice A (ZbE (Zah m.accts) v).length c) (.map (some bm))) 226)):=(Below.refl _ _).alloc (Nat.le_refl _) _
 have z:=G.trans (s.mono G.size)
 exact⟨Bk.new _ _ _,E.keep (s.block _ E.lt),(L.below z).mono z.size,(C.below s).mono s.size,J.below z J.lt⟩
theorem Zlf(m:Zab)(v:Int)(w:World)(hm:Zay w w.heap.size m)(aC:Gl w):Calls prog 188 #[m.val,I v] w (Zif m v w):=by
 show Calls prog 188 #[.agg m.ar,I v] w (Zif m v w)
 have au:=Hi hm
 have aq:=Hi aC
 have az:Hid (∀V,Bw w V→Calls prog 103 #[.agg m.ar] V fun e w'=>e=.returned (.bool (Za2 m))∧Bw V w'):=fun V hV=>good_any m V ((hm.below hV).mono hV.size)
 have aA:Hid (∀V,Bw w V→Calls prog 71 #[.slice m.sAcc.A m.accts.length m.sAcc.c] V (Zd8 V (Zah m.accts))):=fun V hV=>Zdl _ _ _ _ V hm.short.2.2.2.1 ((hm.accts.below hV).mono hV.size)
 have ao:Hid (∀V A c,Rd V V.heap.size 1 A (Zah m.accts).length (Zag (Zah m.accts))→Calls prog 207 #[.slice A (Zah m.accts).length c,I v] V (Zd8 V (ZbE (Zah m.accts) v))):=fun V A c h=>Zjx _ _ _ _ _ V (by unfold Zah;rw[List.length_map];exact ZbR hm.short.2.2.2.1) h
 obtain⟨gd,ay⟩:=ExY (Za2 m)
 rw[←ay] at az
 have al:=Hi ay
 obtain⟨W1,af⟩:=ExY (w.alloc (.cells m.ar 37))
 obtain⟨bl,ax⟩:=ExY w.heap.size
 have ak:=blB af
 have an:=bkW af ax
 clear hm aC ay
 go_enter func188,ntmps188
 go_upto_region 1 with(fail)
 rw[←af,←ax]
 clear af ax
 have ae:=an.nine
 go_wp2_with fail
 refine(az.out _ ak).mono ?_
 rintro e W2 ⟨rfl,hb⟩
 have X:=blT ak hb
 have ad:=bkN an hb
 clear hb ae
 have ae:=ad.nine
 dsimp only
 cases gd with
 |false=>
  have ac:Hid (¬(Za2 m=true∧0≤v∧v<m.accts.length)):=fun h=>by have:=al.out;rw[h.1] at this;cases this
  go_wp2
  exact⟨rfl,X,.inr ⟨43,by decide,rfl,ac⟩⟩
 |true=>
 have ap:Hid (Za2 m=true):=al.symm
 by_cases d1:v<0
 ·have ac:Hid (¬(Za2 m=true∧0≤v∧v<m.accts.length)):=fun h=>by have:=h.2.1;omega
  go_wp2
  exact⟨rfl,X,.inr ⟨33,by decide,rfl,ac⟩⟩
 by_cases d2:(m.accts.length:Int)≤v
 ·have ac:Hid (¬(Za2 m=true∧0≤v∧v<m.accts.length)):=fun h=>by have:=h.2.2;omega
  go_wp2
  exact⟨rfl,X,.inr ⟨33,by decide,rfl,ac⟩⟩
 have HV:Hid (0≤v∧v<m.accts.length):=⟨by omega,by omega⟩
 go_upto_region 5 with(fail)
 clear ae
 obtain⟨W3,ag⟩:=ExY W2.drew
 have Y:=blD X ag
 have aa:Hid (Bw W2 W3):=by rw[ag];exact(Below.refl _ _).drew
 have HD:Hid (∀U,Bw W2 U→(fun U=>U.cell? (Aq bl 0)=some (I m.day)∧U.cell? (Aq bl 1)=some (.slice m.sCur.A m.curs.length m.sCur.c)∧U.cell? (Aq bl 2)=some (.slice m.sUnd.A m.unders.length m.sUnd.c)∧U.cell? (Aq bl 3)=some (.slice m.sIns.A m.instrs.length m.sIns.c)∧U.cell? (Aq bl 4)=some (.slice m.sAcc.A m.accts.length m.sAcc.c)∧U.cell? (Aq bl 5)=some (.slice m.sPos.A m.poss.length m.sPos.c)∧U.cell? (Aq bl 6)=some (.slice m.sOrd.A m.orders.length m.sOrd.c)∧U.cell? (Aq bl 7)=some (.slice m.sAva.A m.avail.length m.sAva.c)∧U.cell? (Aq bl 8)=some (.slice m.sLoc.A m.locs.length m.sLoc.c)) U):=fun U hU=>by
  have h:=ad.below hU ad.lt
  exact⟨h.cell 0,h.cell 1,h.cell 2,h.cell 3,h.cell 4,h.cell 5,h.cell 6,h.cell 7,h.cell 8⟩
 refine rgM (fun U=>U.cell? (Aq bl 0)=some (I m.day)∧U.cell? (Aq bl 1)=some (.slice m.sCur.A m.curs.length m.sCur.c)∧U.cell? (Aq bl 2)=some (.slice m.sUnd.A m.unders.length m.sUnd.c)∧U.cell? (Aq bl 3)=some (.slice m.sIns.A m.instrs.length m.sIns.c)∧U.cell? (Aq bl 4)=some (.slice m.sAcc.A m.accts.length m.sAcc.c)∧U.cell? (Aq bl 5)=some (.slice m.sPos.A m.poss.length m.sPos.c)∧U.cell? (Aq bl 6)=some (.slice m.sOrd.A m.orders.length m.sOrd.c)∧U.cell? (Aq bl 7)=some (.slice m.sAva.A m.avail.length m.sAva.c)∧U.cell? (Aq bl 8)=some (.slice m.sLoc.A m.locs.length m.sLoc.c)) 9 (by kernel_rfl) ag ?_
 clear ag
 refine tkM [0,1,2,4] (HD.out _ aa) (by kernel_rfl) (fun _ _ _ _ h=>h) ?_
 iterate 4 (refine ycM rfl (by rfl) (fun w h=>by go_simp<;>rfl) ?_;try simp only[Act.put,sA,sB,sC])
 refine ZcD (rs:=[3,6]) (by kernel_rfl) (by simp) ?_
 refine ZgP rfl (fun K hK=>?_) (ZgP rfl (fun K hK=>?_) (ZgQ.nil))
 ·go_simp
  refine(aA.out _ (Y.out)).mono ?_
  rintro e W4 ⟨A1,c1,rfl,_,_,ho,hb⟩
  dsimp only
  have G:=blT Y hb
  have aB:Hid (Rd W4 W4.heap.size 1 A1 (Zah m.accts).length (Zag (Zah m.accts))):=Rd.of_own ho
  have L:=blT aa hb
  clear hb ho
  refine hK.out _ _ (fun _=>HD.out _ L) ?_
  try simp only[Act.put,sA,sB,sC]
  refine ZcD (rs:=[5,6]) (by kernel_rfl) (by simp) ?_
  refine ZgP rfl (fun K hK=>?_) (ZgP rfl (fun K hK=>?_) (ZgQ.nil))
  ·go_simp
   refine(ao.out _ A1 c1 aB).mono ?_
   rintro e W5 ⟨A2,c2,rfl,_,_,ho,hb⟩
   dsimp only
   have J:=blT G hb
   have aD:Hid (Rd W5 W5.heap.size 1 A2 (ZbE (Zah m.accts) v).length (Zag (ZbE (Zah m.accts) v))):=Rd.of_own ho
   have E:=blT L hb
   clear hb ho
   refine hK.out _ _ (fun _=>HD.out _ E) ?_
   try simp only[Act.put,sA,sB,sC]
   refine onM 6 (by kernel_rfl) rfl fun K hK=>?_
   refine ZdN rfl 224 rfl ?_
   obtain⟨W6,aj⟩:=ExY (W5.alloc (.map #[] 0))
   rw[←aj]
   obtain⟨bm,C⟩:=ExY W5.heap.size
   rw[←C]
   have hb:Bw W5 W6:=by rw[aj];exact(Below.refl _ _).alloc (Nat.le_refl _) _
   have z:=blT J hb
   have R:Hid (ZaE W6 bm m):=by rw[aj,C];exact ZaE.made _ _
   have Z:=blZ J C
   have s:=blT E hb
   have ab:Hid (Rd W6 W6.heap.size 1 A2 (ZbE (Zah m.accts) v).length (Zag (ZbE (Zah m.accts) v))):=(aD.below hb).mono hb.size
   clear hb aj C
   refine hK.out _ _ (fun _=>HD.out _ s) ?_
   try simp only[Act.put,sA,sB,sC]
   refine tkM [7] (HD.out _ s) (by kernel_rfl) (fun _ _ _ _ h=>h) ?_
   (refine ycM rfl (by rfl) (fun w h=>by go_simp<;>rfl) ?_;try simp only[Act.put,sA,sB,sC])
   refine onM 8 (by kernel_rfl) rfl fun K hK=>?_
   go_simp
   refine hK.out _ _ (fun _=>HD.out _ (s.alloc s.size _)) ?_
   try simp only[Act.put,sA,sB,sC]
   refine onM 9 (by kernel_rfl) rfl fun K hK=>?_
   go_simp
   refine hK.out _ _ (fun h0=>Zac (by kernel_rfl) h0) ?_
   refine Zak (by kernel_rfl) ?_ _
   go_wp2
   go_ret
   exact⟨z.alloc z.size _,.inl ⟨_,bm,A2,c2,rfl,Z,ap,HV,ZeG (bA':=0) au aq z ab R rfl⟩⟩
  ·refine ZdN rfl 224 rfl ?_
   obtain⟨W5,ai⟩:=ExY (W4.alloc (.map #[] 0))
   rw[←ai]
   obtain⟨bm,C⟩:=ExY W4.heap.size
   rw[←C]
   have hb:Bw W4 W5:=by rw[ai];exact(Below.refl _ _).alloc (Nat.le_refl _) _
   have J:=blT G hb
   have N:Hid (ZaE W5 bm m):=by rw[ai,C];exact ZaE.made _ _
   have Z:=blZ G C
   have E:=blT L hb
   have aw:Hid (Rd W5 W5.heap.size 1 A1 (Zah m.accts).length (Zag (Zah m.accts))):=(aB.below hb).mono hb.size
   clear hb ai C
   refine hK.out _ _ (fun _=>HD.out _ E) ?_
   try simp only[Act.put,sA,sB,sC]
   refine onM 5 (by kernel_rfl) rfl fun K hK=>?_
   go_simp
   refine(ao.out _ A1 c1 aw).mono ?_
   rintro e W6 ⟨A2,c2,rfl,_,_,ho,hb⟩
   dsimp only
   have z:=blT J hb
   have ab:Hid (Rd W6 W6.heap.size 1 A2 (ZbE (Zah m.accts) v).length (Zag (ZbE (Zah m.accts) v))):=Rd.of_own ho
   have s:=blT E hb
   have R:Hid (ZaE W6 bm m):=N.keep (hb.block _ N.lt)
   clear hb ho
   refine hK.out _ _ (fun _=>HD.out _ s) ?_
   try simp only[Act.put,sA,sB,sC]
   refine tkM [7] (HD.out _ s) (by kernel_rfl) (fun _ _ _ _ h=>h) ?_
   (refine ycM rfl (by rfl) (fun w h=>by go_simp<;>rfl) ?_;try simp only[Act.put,sA,sB,sC])
   refine onM 8 (by kernel_rfl) rfl fun K hK=>?_
   go_simp
   refine hK.out _ _ (fun _=>HD.out _ (s.alloc s.size _)) ?_
   try simp only[Act.put,sA,sB,sC]
   refine onM 9 (by kernel_rfl) rfl fun K hK=>?_
   go_simp
   refine hK.out _ _ (fun h0=>Zac (by kernel_rfl) h0) ?_
   refine Zak (by kernel_rfl) ?_ _
   go_wp2
   go_ret
   exact⟨z.alloc z.size _,.inl ⟨_,bm,A2,c2,rfl,Z,ap,HV,ZeG (bA':=0) au aq z ab R rfl⟩⟩
 ·refine ZdN rfl 224 rfl ?_
  obtain⟨W4,ah⟩:=ExY (W3.alloc (.map #[] 0))
  rw[←ah]
  obtain⟨bm,C⟩:=ExY W3.heap.size
  rw[←C]
  have hb:Bw W3 W4:=by rw[ah];exact(Below.refl _ _).alloc (Nat.le_refl _) _
  have G:=blT Y hb
  have am:Hid (ZaE W4 bm m):=by rw[ah,C];exact ZaE.made _ _
  have Z:=blZ Y C
  have L:=blT aa hb
  clear hb ah C
  refine hK.out _ _ (fun _=>HD.out _ L) ?_
  try simp only[Act.put,sA,sB,sC]
  refine onM 3 (by kernel_rfl) rfl fun K hK=>?_
  go_simp
  refine(aA.out _ (G.out)).mono ?_
  rintro e W5 ⟨A1,c1,rfl,_,_,ho,hb⟩
  dsimp only
  have J:=blT G hb
  have aw:Hid (Rd W5 W5.heap.size 1 A1 (Zah m.accts).length (Zag (Zah m.accts))):=Rd.of_own ho
  have E:=blT L hb
  have N:Hid (ZaE W5 bm m):=am.keep (hb.block _ am.lt)
  clear hb ho
  refine hK.out _ _ (fun _=>HD.out _ E) ?_
  try simp only[Act.put,sA,sB,sC]
  refine onM 5 (by kernel_rfl) rfl fun K hK=>?_
  go_simp
  refine(ao.out _ A1 c1 aw).mono ?_
  rintro e W6 ⟨A2,c2,rfl,_,_,ho,hb⟩
  dsimp only
  have z:=blT J hb
  have ab:Hid (Rd W6 W6.heap.size 1 A2 (ZbE (Zah m.accts) v).length (Zag (ZbE (Zah m.accts) v))):=Rd.of_own ho
  have s:=blT E hb
  have R:Hid (ZaE W6 bm m):=N.keep (hb.block _ N.lt)
  clear hb ho
  refine hK.out _ _ (fun _=>HD.out _ s) ?_
  try simp only[Act.put,sA,sB,sC]
  refine tkM [7] (HD.out _ s) (by kernel_rfl) (fun _ _ _ _ h=>h) ?_
  (refine ycM rfl (by rfl) (fun w h=>by go_simp<;>rfl) ?_;try simp only[Act.put,sA,sB,sC])
  refine onM 8 (by kernel_rfl) rfl fun K hK=>?_
  go_simp
  refine hK.out _ _ (fun _=>HD.out _ (s.alloc s.size _)) ?_
  try simp only[Act.put,sA,sB,sC]
  refine onM 9 (by kernel_rfl) rfl fun K hK=>?_
  go_simp
  refine hK.out _ _ (fun h0=>Zac (by kernel_rfl) h0) ?_
  refine Zak (by kernel_rfl) ?_ _
  go_wp2
  go_ret
  exact⟨z.alloc z.size _,.inl ⟨_,bm,A2,c2,rfl,Z,ap,HV,ZeG (bA':=0) au aq z ab R rfl⟩⟩
noncomputable def ZeB(m:Zab)(below:List Int):Option Int:=(ZjO m below).bind fun h=>(ZhZ m below).bind fun n=>okO (ZhA h n)
theorem ZjH(m:Zab)(bs bm:Nat)(bA:Option Addr)(bc:Nat)(below:List Int)(w:World)(Y:Zdx w bs bm m bA bc below)(ho:ZbT m)(C:below.length≤1000000)(ac:∀v∈below,0≤v∧v<m.accts.length):
 Calls prog 152 #[Pt bs] w fun e w'=>Zc9 (ZeB m below) e∧w.grownBy w' (some bm)∧ZaE w' bm m:=by
 obtain⟨r,hr⟩:=ExY (ZeB m below)
 rw[←hr]
 unfold ZeB at hr
 have HH:=Hi (Zk8 m bs bA bc below (.map (some bm)) w Y.bk Y.led Y.bel ac ho.cash ho.lens.1 C)
 have HN:Hid (∀W,w.grownBy W (some bm)→ZaE W bm m→Calls prog 155 #[Pt bs] W fun e w'=>Zc9 (ZhZ m below) e∧W.grownBy w' (some bm)∧ZaE w' bm m):=
  fun W hW hM=>Zlk m bs bm bA bc below W (Y.turn hW hM) ho C
 have HR:=Hi hr
 have Z:=Hi Y.mp
 clear hr Y ho C ac
 go_enter func152,ntmps152
 go_wp2_with fail
 refine(HH.out).mono ?_
 rintro e W1 ⟨he,hb⟩
 have L:Hid (w.grownBy W1 (some bm)):=Zae (ZaG _ _) hb (Nat.le_refl _)
 have aa:Hid (ZaE W1 bm m):=Z.keep (hb.block _ Z.lt)
 clear hb
 obtain⟨ro,s⟩:=ExY (ZjO m below)
 rw[←s] at he
 have z:=Hi s
 clear s
 cases ro with
 |none=>
  obtain⟨er,X,rfl⟩:=he
  dsimp only
  go_wp2
  exact⟨rfl,by rw[HR.out,←z.out];exact Zc9.none X,L,aa⟩
 |some h=>
 have U:e=.returned (I h):=he
 subst U
 clear he
 dsimp only
 go_wp2_with fail
 refine(HN.out W1 L aa).mono ?_
 rintro e W2 ⟨he,hg,hm⟩
 have N:Hid (w.grownBy W2 (some bm)):=Za6 L hg
 have R:=Hi hm
 clear hg hm
 obtain⟨ro,s⟩:=ExY (ZhZ m below)
 rw[←s] at he
 have G:=Hi s
 clear s
 cases ro with
 |none=>
  obtain⟨er,X,rfl⟩:=he
  dsimp only
  go_wp2
  exact⟨rfl,by rw[HR.out,←z.out];show Zc9 ((ZhZ m below).bind _) _;rw[←G.out];exact Zc9.none X,N,R⟩
 |some n=>
 have U:e=.returned (I n):=he
 subst U
 clear he
 dsimp only
 obtain⟨⟨d,ed⟩,hd⟩:∃p,p=ZhA h n:=⟨_,rfl⟩
 have J:=Hi (fun W=>ZdY h n W)
 rw[←hd] at J
 have ab:Hid (r=okO (d,ed)):=by show _=_;rw[HR.out,←z.out,hd];show(ZhZ m below).bind _=_;rw[←G.out];rfl
 clear hd
 go_wp2_with fail
 refine Cq (J.out _) ?_
 dsimp only
 by_cases E:ed=0
 rotate_left
 ·go_wp2_with fail
  refine Cq (ZbS _ ed E _) ?_
  dsimp only
  go_wp2
  exact⟨rfl,by rw[ab.out];unfold okO;rw[if_neg E];exact Zc9.none E,N,R⟩
 subst E
 go_wp2_with fail
 refine Cq (Zcd _ _) ?_
 dsimp only
 go_wp2
 go_ret
 exact⟨by rw[ab.out];exact Zc9.some,N,R⟩
noncomputable def ZaH(m:Zab)(v:Int):Option Int:=if Za2 m=true∧0≤v∧v<m.accts.length then ZeB m (ZbE (Zah m.accts) v) else none
def ZhD(r:Option Int)(w:World)(e:Ending)(w':World):Prop:=
 Bw w w'∧∃x er:Int,e=.returned (.tuple #[I x,I er])∧((er=0∧r=some x)∨(er≠0∧r=none))
theorem ZhD.ok{r:Option Int}{w w':World}{x:Int}(s:Bw w w')(h:r=some x):ZhD r w (.returned (.tuple #[I x,I 0])) w':=⟨s,x,0,rfl,.inl ⟨rfl,h⟩⟩
theorem ZhD.bad{r:Option Int}{w w':World}{er:Int}(s:Bw w w')(z:er≠0)(h:r=none):ZhD r w (.returned (.tuple #[I 0,I er])) w':=⟨s,0,er,rfl,.inr ⟨z,h⟩⟩
theorem Zi9(m:Zab)(v:Int)(w:World)(hm:Zay w w.heap.size m)(aP:Gl w):Calls prog 151 #[m.val,I v,.func (.func 152) #[] #[]] w (ZhD (ZaH m v) w):=by
 have bf:∀(fn:Fn) (first cap:Array Value) (w:World),(Instr.makeFunc fn first cap).run prog w=.ok (.func fn first cap) w:=fun _ _ _ _=>rfl
 show Calls prog 151 #[.agg m.ar,I v,.func (.func 152) #[] #[]] w (ZhD (ZaH m v) w)
 obtain⟨W1,az⟩:=ExY (w.alloc (.cells m.ar 37))
 obtain⟨bl,aG⟩:=ExY w.heap.size
 have aH:=blB az
 have aV:=bkW az aG
 obtain⟨W2,ap⟩:=ExY (W1.alloc (.cells #[I 0] 3))
 obtain⟨bv,aB⟩:=ExY W1.heap.size
 have aI:=blA aH ap
 have aj:=blZ aH aB
 have aW:=bkA aV ap
 have a0:=bkW ap aB
 have aM:bv=bl+1:=by rw[aB,az,World.size_alloc,←aG]
 obtain⟨W3,aq⟩:=ExY (W2.alloc (.cells #[I 0] 39))
 obtain⟨be,aF⟩:=ExY W2.heap.size
 have ab:=blA aI aq
 have ai:=blZ aI aF
 have ax:=bkA aW aq
 have ay:=bkA a0 aq
 have aw:=bkW aq aF
 have aL:be=bv+1:=by rw[aF,ap,World.size_alloc,←aB]
 have a8:=Hi (Zlf m v W3 ((hm.below ab).mono ab.size) (aP.below ab aP.lt))
 have a7:Hid (∀bs bm bA bc W,Zdx W bs bm m bA bc (ZbE (Zah m.accts) v)→Za2 m=true→Calls prog 152 #[Pt bs] W fun e w'=>Zc9 (ZeB m (ZbE (Zah m.accts) v)) e∧W.grownBy w' (some bm)∧ZaE w' bm m):=by
  intro bs bm bA bc W hW hg
  have aO:=ZkM (Zah m.accts) v
  have bb:(Zah m.accts).length=m.accts.length:=by simp[Zah]
  rw[bb] at aO
  exact ZjH m bs bm bA bc _ W hW (Zbr hg) (Nat.le_trans aO.2 hm.short.2.2.2.1) aO.1
 clear hm aP
 have bg:¬(bv=be):=by omega
 have bd:¬(be=bv):=by omega
 go_enter_defers func151,ntmps151
 go_upto_region 2 with(fail)
 rw[←az,←aG,←ap,←aM,←aq,←aL]
 clear az aG aM ap aB aL aq aF
 have z:=ax.nine
 have C:=ay.one
 have s:=aw.one
 go_wp2_with fail
 refine a8.mono ?_
 rintro e W4 ⟨aE,⟨bs,bm,bA,bc,rfl,a2,a4,hv,a6⟩|⟨er,aC,rfl,a5⟩⟩
 ·have a9:=Hi a6
  have aN:=Hi a4
  have HV:=Hi hv
  have aK:=Hi aE
  have a3:=Hi a2
  clear a6 a4 hv aE a2
  dsimp only
  go_wp2_with fail
  refine(a7.out bs bm bA bc W4 a9 aN).mono ?_
  rintro e W5 ⟨he,hg,hm⟩
  have hb:Bw W3 W5:=aK.trans (Zcb hg a3 aK.size)
  clear hg hm
  have am:=blT ab hb
  have af:=bkN ax hb
  have R:=bkN ay hb
  have L:=bkN aw hb
  clear z C s
  clear hb
  have z:=af.nine
  have C:=R.one
  have s:=L.one
  obtain⟨ro,aQ⟩:=ExY (ZeB m (ZbE (Zah m.accts) v))
  rw[←aQ] at he
  have aT:=Hi (aQ.symm)
  clear aQ
  cases ro with
  |none=>
   obtain⟨er,aC,rfl⟩:=he
   have au:Hid (ZaH m v=none):=by show _=_;unfold ZaH;rw[if_pos ⟨aN.out,HV.out⟩];exact aT
   dsimp only
   go_wp2
   refine leaves_cons (f:=186) (args:=#[Pt be,Pt bv]) (by simp) (by simp[go_sem]) ?_
   refine(Zfy (Aq be 0) (Aq bv 0) er _ _ W5 (aC) (L.cell 0) (L.frozen 0) ⟨_,R.cell 0⟩ (R.frozen 0) (fun h=>R.ne L (by decide) (congrArg Addr.block h))).mono ?_
   rintro e u' aD ⟨rfl,rfl,X⟩
   rw[X]
   clear X aD
   clear z C s
   obtain⟨W6,E⟩:=ExY (W5.alloc (.cells #[I er] 229))
   obtain⟨bs,aA⟩:=ExY W5.heap.size
   have ac:=blA am E
   have Z:=bkA af E
   have U:=bkA R E
   have J:=bkA L E
   have an:=bkW E aA
   rw[←E]
   clear aA E
   obtain⟨W7,G⟩:=ExY (W6.setCell ⟨be,0,none⟩ (I er))
   rw[←G]
   have ad:=blS ac G ai
   have aa:=bkF Z G J rfl
   have N:=bkF U G J rfl
   have Y:Hid (Bk W7 be 39 #[I er]):=bkS J 0 G
   have ao:=bkF an G J rfl
   clear G
   have z:=aa.nine
   have C:=N.one
   have s:=Y.one
   have ah:=ao.one
   clear z C s ah
   obtain⟨W8,al⟩:=ExY (W7.setCell ⟨bv,0,none⟩ (I 0))
   rw[←al]
   have aS:=blS ad al aj
   have aX:=bkF aa al N rfl
   have a1:Hid (Bk W8 bv 3 #[I 0]):=bkS N 0 al
   have aU:=bkF Y al N rfl
   have aZ:=bkF ao al N rfl
   clear al
   have z:=aX.nine
   have C:=a1.one
   have s:=aU.one
   have ah:=aZ.one
   simp[Leaves,settle,results,results151,go_sem, *]
   exact ZhD.bad aS aC au
  |some x=>
  have ba:e=.returned (I x):=he
  subst ba
  clear he
  have au:Hid (ZaH m v=some x):=by show _=_;unfold ZaH;rw[if_pos ⟨aN.out,HV.out⟩];exact aT
  dsimp only
  go_wp2
  refine leaves_cons (f:=186) (args:=#[Pt be,Pt bv]) (by simp) (by simp[go_sem]) ?_
  clear z C s
  obtain⟨W6,E⟩:=ExY (W5.setCell ⟨bv,0,none⟩ (I x))
  rw[←E]
  have ac:=blS am E aj
  have Z:=bkF af E R rfl
  have U:Hid (Bk W6 bv 3 #[I x]):=bkS R 0 E
  have J:=bkF L E R rfl
  clear E
  have z:=Z.nine
  have C:=U.one
  have s:=J.one
  obtain⟨W7,G⟩:=ExY (W6.setCell ⟨be,0,none⟩ (I 0))
  rw[←G]
  have ad:=blS ac G ai
  have aa:=bkF Z G J rfl
  have N:=bkF U G J rfl
  have Y:Hid (Bk W7 be 39 #[I 0]):=bkS J 0 G
  clear z C s
  clear G
  have z:=aa.nine
  have C:=N.one
  have s:=Y.one
  refine(ZhW (Aq be 0) (Aq bv 0) 0 W7 (Y.cell 0) ⟨_,N.cell 0⟩ (N.frozen 0)).mono ?_
  rintro e u' aD ⟨rfl,rfl,X⟩
  rw[if_pos rfl] at X
  rw[X]
  clear X aD
  simp[Leaves,settle,results,results151,go_sem, *]
  exact ZhD.ok ad au
 ·have au:Hid (ZaH m v=none):=by show _=_;unfold ZaH;rw[if_neg a5]
  have hb:=aE
  clear aE a5
  have aR:=blT ab hb
  have aJ:=bkN ax hb
  have ag:=bkN ay hb
  have ae:=bkN aw hb
  clear z C s
  clear hb
  have z:=aJ.nine
  have C:=ag.one
  have s:=ae.one
  dsimp only
  go_wp2
  refine leaves_cons (f:=186) (args:=#[Pt be,Pt bv]) (by simp) (by simp[go_sem]) ?_
  refine(Zfy (Aq be 0) (Aq bv 0) er _ _ W4 (aC) (ae.cell 0) (ae.frozen 0) ⟨_,ag.cell 0⟩ (ag.frozen 0) (fun h=>ag.ne ae (by decide) (congrArg Addr.block h))).mono ?_
  rintro e u' aD ⟨rfl,rfl,X⟩
  rw[X]
  clear X aD
  clear z C s
  obtain⟨W5,ak⟩:=ExY (W4.alloc (.cells #[I er] 229))
  obtain⟨bs,aA⟩:=ExY W4.heap.size
  have am:=blA aR ak
  have af:=bkA aJ ak
  have R:=bkA ag ak
  have L:=bkA ae ak
  have aY:=bkW ak aA
  rw[←ak]
  clear aA ak
  obtain⟨W6,E⟩:=ExY (W5.setCell ⟨be,0,none⟩ (I er))
  rw[←E]
  have ac:=blS am E ai
  have Z:=bkF af E L rfl
  have U:=bkF R E L rfl
  have J:Hid (Bk W6 be 39 #[I er]):=bkS L 0 E
  have an:=bkF aY E L rfl
  clear E
  have z:=Z.nine
  have C:=U.one
  have s:=J.one
  have ah:=an.one
  clear z C s ah
  obtain⟨W7,G⟩:=ExY (W6.setCell ⟨bv,0,none⟩ (I 0))
  rw[←G]
  have ad:=blS ac G aj
  have aa:=bkF Z G U rfl
  have N:Hid (Bk W7 bv 3 #[I 0]):=bkS U 0 G
  have Y:=bkF J G U rfl
  have ao:=bkF an G U rfl
  clear G
  have z:=aa.nine
  have C:=N.one
  have s:=Y.one
  have ah:=ao.one
  simp[Leaves,settle,results,results151,go_sem, *]
  exact ZhD.bad ad aC au
theorem ZeC(m:Zab)(v:Int)(w:World)(R:Zay w w.heap.size m)(E:Gl w):Calls prog 109 #[m.val,I v] w (ZhD (ZaH m v) w):=by
 show Calls prog 109 #[.agg m.ar,I v] w (ZhD (ZaH m v) w)
 obtain⟨r,hr⟩:=ExY (ZaH m v)
 rw[←hr]
 obtain⟨W1,z⟩:=ExY (w.alloc (.cells m.ar 37))
 obtain⟨bl,C⟩:=ExY w.heap.size
 have s:=blB z
 have J:=bkW z C
 have N:Hid (Calls prog 151 #[.agg m.ar,I v,.func (.func 152) #[] #[]] W1 (ZhD r W1)):=by rw[hr];exact Zi9 m v W1 ((R.below s).mono s.size) (E.below s E.lt)
 clear R E hr
 go_enter func109,ntmps109
 go_upto_region 1 with(fail)
 rw[←z,←C]
 clear z C
 have L:=J.nine
 go_wp2_with fail
 refine N.mono ?_
 rintro e W2 ⟨hb,x,er,rfl,hc⟩
 have HC:=Hi hc
 have G:=blT s hb
 clear hc hb L
 dsimp only
 go_wp2
 go_ret2
 exact⟨G,x,er,rfl,HC⟩
theorem Zaa.mono{w:World}{base s:Nat}{m:Zab}(h:Zaa w base m)(z:s≤base):Zaa w s m:=
 ⟨Zap h.curs z,Zap h.unders z,Zap h.instrs z,Zap h.accts z,Zap h.poss z,Zap h.orders z,Zap h.avail z,Zap h.locs z,fun a ha=>⟨Zap (h.cash a ha).1 z,(h.cash a ha).2⟩,h.apart,h.away,h.short⟩
def Za4:Zab:=⟨0,[],[],[],[],[],[],[],[],⟨none,0⟩,⟨none,0⟩,⟨none,0⟩,⟨none,0⟩,⟨none,0⟩,⟨none,0⟩,⟨none,0⟩,⟨none,0⟩⟩
noncomputable def Zk2(m:Zab)(v:Nat):Bool:=decide ((ZaH m v).getD 0<0)
noncomputable def ZeQ(m:Zab)(k v:Nat)(a:ZfL):ZfL:=if 1<v∧v<k then {a with flag:=Zk2 m v} else a
noncomputable def ZbN(m:Zab)(k:Nat):List ZfL:=(m.accts.map ZaA.p).mapIdx (ZeQ m k)
structure Zbo(m m':Zab):Prop where
 good:Za2 m=true
 some:∀v:Nat,1<v→v<m.accts.length→(ZaH m v).isSome=true
 day:m'.day=m.day
 curs:m'.curs=m.curs
 unders:m'.unders=m.unders
 instrs:m'.instrs=m.instrs
 accts:m'.accts.map ZaA.p=ZbN m m.accts.length
 poss:m'.poss=m.poss
 orders:m'.orders=m.orders
 avail:m'.avail=m.avail
 locs:m'.locs=m.locs
def Zb8(m:Zab):Prop:=Za2 m=false∨∃v:Nat,1<v∧v<m.accts.length∧ZaH m v=none
def Zdw(m:Zab)(w:World)(e:Ending)(w':World):Prop:=
 Bw w w'∧∃(m':Zab) (er:Int),e=.returned (.tuple #[m'.val,I er])∧((er=0∧Zbo m m'∧Zaa w' w.heap.size m')∨(er≠0∧Zb8 m))
theorem Zg5(m:Zab):ZbN m 0=m.accts.map ZaA.p:=by
 unfold ZbN
 apply List.ext_getElem?
 intro i
 rw[List.getElem?_mapIdx]
 cases(m.accts.map ZaA.p)[i]? with
 |none=>rfl
 |some a=>simp[ZeQ]
theorem ZhS(m:Zab){k:Nat}(s:k≤1):ZbN m (k+1)=ZbN m k:=by
 unfold ZbN
 apply List.ext_getElem?
 intro i
 rw[List.getElem?_mapIdx,List.getElem?_mapIdx]
 cases(m.accts.map ZaA.p)[i]? with
 |none=>rfl
 |some a=>
  have e1:¬(1<i∧i<k+1):=by omega
  have e2:¬(1<i∧i<k):=by omega
  simp only[Option.map_some,ZeQ,if_neg e1,if_neg e2]
theorem ZhT(m:Zab){k:Nat}(E:1<k){l:List ZaA}(C:l.map ZaA.p=ZbN m k)(s:k<l.length):(l.set k {l[k] with flag:=Zk2 m k}).map ZaA.p=ZbN m (k+1):=by
 rw[List.map_set]
 apply List.ext_getElem?
 intro i
 unfold ZbN at C ⊢
 rw[List.getElem?_mapIdx]
 have hi:=congrArg (fun z=>z[i]?) C
 simp only[List.getElem?_mapIdx] at hi
 by_cases h:k=i
 ·subst h
  rw[List.getElem?_set_self (by simpa using s)]
  rw[List.getElem?_map,List.getElem?_eq_getElem s] at hi
  cases hz:(m.accts.map ZaA.p)[k]? with
  |none=>rw[hz] at hi;simp at hi
  |some a=>
   rw[hz] at hi
   simp only[Option.map_some,Option.some.injEq] at hi ⊢
   have e1:¬(1<k∧k<k):=by omega
   have e2:(1<k∧k<k+1):=by omega
   rw[ZeQ,if_neg e1] at hi
   rw[ZeQ,if_pos e2,←hi]
   rfl
 ·rw[List.getElem?_set_ne h,hi]
  cases hz:(m.accts.map ZaA.p)[i]? with
  |none=>rfl
  |some a=>
   simp only[Option.map_some,Option.some.injEq]
   unfold ZeQ
   by_cases c:1<i∧i<k
   ·rw[if_pos c,if_pos (by omega)]
   ·rw[if_neg c,if_neg (by omega)]
def ZaA.fl(a:ZaA)(b:Bool):ZaA:={a with flag:=b}
theorem ZlR{k n:Nat}(h:k<n):k*4+2<n*4:=by omega
theorem Zcn{α:Type}{n j:Nat}{R S:Nat→α→Prop}(l:α)(s:j<n)(C:wrap64 ((j:Int)+1)=(j:Int)+1)(h:R (j+1) l)(z:S (j+1) l):
 (∃(j_1:Nat) (l_1:α),j_1≤n∧Value.int .i64 (wrap64 ((j:Int)+1))=Value.int .i64 (j_1:Int)∧R j_1 l_1∧S j_1 l_1) ∧
  n-(intOf (Value.int .i64 (wrap64 ((j:Int)+1)))).toNat<n-(intOf (Value.int .i64 (j:Int))).toNat:=by
 rw[C]
 exact⟨⟨j+1,l,s,by rw[Int.natCast_succ],h,z⟩,Zba s⟩
theorem ZjK{w V W:World}{base N R b4 g k:Nat}{G J L:Array Value}{C:Zab}{l:List ZaA}{b:Bool}(hB:Bw w V)(U:Bk V N 37 G)(X:Bk V R 37 J)(Y:Bk V b4 37 L)(ho:Zaa V base {C with accts:=l})(z:w.heap.size≤base)(Z:C.sAcc.A=some (Aq g 0))(hk:k<l.length)(hW:W=V.setCell (Aq g (k*4+2)) (.bool b)):
 Bw w W∧Bk W N 37 G∧Bk W R 37 J∧Bk W b4 37 L∧Zaa W base {C with accts:=l.set k ((l[k]).fl b)}:=by
 subst hW
 obtain⟨cs,_,hg,hb⟩:=ZaK ho.accts Z
 have E:base≤g:=hg
 have s:Bk V g 59 cs:=hb
 exact⟨hB.setCell (p:=Aq g (k*4+2)) (Nat.le_trans z E) _,U.far (p:=Aq g (k*4+2)) (U.ne s (by decide)) _,X.far (p:=Aq g (k*4+2)) (X.ne s (by decide)) _,Y.far (p:=Aq g (k*4+2)) (Y.ne s (by decide)) _,
  Zaa.setAcc (m:={C with accts:=l}) ho Z hk (by decide) rfl ⟨rfl,rfl,rfl⟩⟩
theorem Zfo(m:Zab)(w:World)(hm:Zay w w.heap.size m)(aU:Gl w):Calls prog 110 #[m.val] w (Zdw m w):=by
 show Calls prog 110 #[.agg m.ar] w (Zdw m w)
 have a1:Hid (∀V,Bw w V→Calls prog 103 #[.agg m.ar] V fun e w'=>e=.returned (.bool (Za2 m))∧Bw V w'):=fun V hV=>good_any m V ((hm.below hV).mono hV.size)
 have bc:Hid (∀V,Bw w V→Calls prog 9 #[.agg m.ar] V (ZcA m V)):=fun V hV=>Zbq m V ((hm.below hV).mono hV.size)
 have be:Hid (∀V,Bw w V→∀v:Int,Calls prog 109 #[.agg m.ar,I v] V (ZhD (ZaH m v) V)):=fun V hV v=>ZeC m v V ((hm.below hV).mono hV.size) (aU.below hV aU.lt)
 obtain⟨gd,aT⟩:=ExY (Za2 m)
 rw[←aT] at a1
 have aD:=Hi aT
 have bh:=Hi hm.short.2.2.2.1
 clear hm aU aT
 obtain⟨W1,ag⟩:=ExY (w.alloc (.cells m.ar 37))
 obtain⟨bl,aw⟩:=ExY w.heap.size
 have az:=blB ag
 have a5:=bkW ag aw
 obtain⟨W2,ah⟩:=ExY (W1.alloc (.cells zZ 37))
 obtain⟨bz,ax⟩:=ExY W1.heap.size
 have aB:=blA az ah
 have N:=blZ az ax
 have aE:=bkA a5 ah
 have aG:=bkW ah ax
 have aI:bz=bl+1:=by rw[ax,ag,World.size_alloc,←aw]
 go_enter func110,ntmps110
 go_upto_region 1 with(fail)
 rw[←ag,←aw,←ah,←aI]
 clear ag aw aI ah ax
 have C:=aE.nine
 have J:=aG.nine
 go_wp2_with fail
 refine((fun _=>a1.out _ aB) W2).mono ?_
 rintro e W3 ⟨rfl,hb⟩
 have Y:=blT aB hb
 have aF:=bkN aE hb
 have Z:=bkN aG hb
 clear C J
 clear hb
 have C:=aF.nine
 have J:=Z.nine
 dsimp only
 cases gd with
 |false=>
  clear C J
  go_wp2_with (refine wpList_store_row rfl 37 _ _ rfl bz zZ rfl rfl 37 zZ Z ZaU (by rfl) (by simp[Value.oneCell']) ?_)
  obtain⟨V9,z⟩:=ExY (W3.setRow bz zZ)
  rw[←z]
  have ao:=bkr Z z
  have ai:=blr Y z N
  exact bodyPost_ret (Zaw (p:=2) (q:=3) results110 _ V9 bz 37 zZ (0,0) _ rfl ao underlying37 rfl ZaU) rfl ⟨ai,Za4,43,rfl,.inr ⟨by decide,.inl aD.symm⟩⟩
 |true=>
 have bf:Hid (Za2 m=true):=aD.symm
 go_wp2_with fail
 refine(bc.out _ Y).mono ?_
 rintro e W4 ⟨m2,rfl,am,al,hb⟩
 have s:=Hi am
 obtain⟨E,U⟩:=ExY W3.heap.size
 rw[←U] at al
 have ab:=blZ Y U
 have a4:=Hi al
 clear am al U
 have aC:=blT Y hb
 have ac:=bkN aF hb
 have ad:=bkN Z hb
 clear hb
 have C:=ac.nine
 have J:=ad.nine
 dsimp only
 obtain⟨an,au⟩:=ExY m2.accts.length
 obtain⟨aA,aR⟩:=ExY m2.sAcc.A
 have aJ:m2.val=.agg (m2.ar_A (.slice aA an m2.sAcc.c)):=by rw[au,aR];rfl
 rw[aJ]
 clear aJ
 have bb:=Hi au
 have aY:=Hi aR
 have X:Hid (an=m.accts.length):=by
  have:=congrArg List.length s.accts
  simp only[List.length_map] at this
  show an=_
  rw[au];exact this
 clear au aR
 obtain⟨W5,aq⟩:=ExY (W4.alloc (.cells (m2.ar_A (.slice aA an m2.sAcc.c)) 37))
 obtain⟨b4,aS⟩:=ExY W4.heap.size
 have L:Bw W4 W5:=by rw[aq];exact(Below.refl _ _).alloc (Nat.le_refl _) _
 have KB:Hid (Bw w W5∧Bk W5 bl 37 m.ar∧Bk W5 bz 37 zZ∧Bk W5 b4 37 (m2.ar_A (.slice aA an m2.sAcc.c))∧Zaa W5 E {m2 with accts:=m2.accts}):=
  ⟨aC.trans (L.mono aC.size),ac.below L ac.lt,ad.below L ad.lt,by rw[aq,aS];exact Bk.new _ _ _,a4.below L⟩
 have ba:Hid (Bk W5 b4 37 (m2.ar_A (.slice aA an m2.sAcc.c))):=KB.2.2.2.1
 have i0:(0:Int)≤(an:Int):=Int.natCast_nonneg an
 clear L
 clear C J
 go_upto_region 4 with(fail)
 rw[←aq,←aS]
 clear aq aS
 have af:=ba.nine
 go_upto_region 5 with(fail)
 clear af
 have bg:Hid (m2.accts.length=an∧m2.accts.map ZaA.p=ZbN m 0∧∀v:Nat,1<v→v<0→(ZaH m v).isSome=true):=⟨bb.symm,by rw[Zg5];exact s.accts,fun v _ h=>absurd h (Nat.not_lt_zero v)⟩
 go_loopw [17] (fun aW wr=>∃(k:Nat) (l:List ZaA),k≤an∧aW=I k∧Hid (l.length=an∧l.map ZaA.p=ZbN m k∧∀v:Nat,1<v→v<k→(ZaH m v).isSome=true)∧Hid (Bw w wr∧Bk wr bl 37 m.ar∧Bk wr bz 37 zZ∧Bk wr b4 37 (m2.ar_A (.slice aA an m2.sAcc.c))∧Zaa wr E {m2 with accts:=l})) (fun aW _=>an-(intOf aW).toNat)
 case atStart=>exact⟨0,m2.accts,Nat.zero_le _,rfl,bg,KB⟩
 case round=>
  obtain⟨k,l,hk,rfl,HL,HK⟩:=hrel
  rename World=>V
  clear KB
  have ap:Hid (Bw w V):=HK.1
  have aO:Hid (Bk V bl 37 m.ar):=HK.2.1
  have ae:Hid (Bk V bz 37 zZ):=HK.2.2.1
  have aK:Hid (Bk V b4 37 (m2.ar_A (.slice aA an m2.sAcc.c))):=HK.2.2.2.1
  have aN:Hid (Zaa V E {m2 with accts:=l}):=HK.2.2.2.2
  clear HK
  by_cases ay:k<an
  ·have aM:=Hi ay
   have WK:Hid (wrap64 ((k:Int)+1)=(k:Int)+1):=ZaQ (Nat.lt_of_lt_of_le ay (X.out▸bh.out))
   have RE:=Hi (fun(W:World) (l2:List ZaA) (h1:Hid (l2.length=an∧l2.map ZaA.p=ZbN m (k+1)∧∀v:Nat,1<v→v<k+1→(ZaH m v).isSome=true)) (h2:Hid (Bw w W∧Bk W bl 37 m.ar∧Bk W bz 37 zZ∧Bk W b4 37 (m2.ar_A (.slice aA an m2.sAcc.c))∧Zaa W E {m2 with accts:=l2}))=>
    Zcn (R:=fun k l=>Hid (l.length=an∧l.map ZaA.p=ZbN m k∧∀v:Nat,1<v→v<k→(ZaH m v).isSome=true)) (S:=fun _ l=>Hid (Bw w W∧Bk W bl 37 m.ar∧Bk W bz 37 zZ∧Bk W b4 37 (m2.ar_A (.slice aA an m2.sAcc.c))∧Zaa W E {m2 with accts:=l})) l2 aM WK h1 h2)
   by_cases aa:k≤1
   ·have d1:(k:Int)≤1:=Int.ofNat_le.mpr aa
    have aL:Hid (l.length=an∧l.map ZaA.p=ZbN m (k+1)∧∀v:Nat,1<v→v<k+1→(ZaH m v).isSome=true):=⟨HL.1,by rw[ZhS m aa];exact HL.2.1,fun v h1 h2=>absurd (Nat.lt_of_lt_of_le h1 (Nat.le_trans (Nat.le_of_lt_succ h2) aa)) (Nat.lt_irrefl 1)⟩
    go_wp2
    have a8:=RE.out V l aL ⟨ap,aO,ae,aK,aN⟩
    rw[WK.out] at a8
    exact a8
   ·have a7:1<k:=Nat.lt_of_not_le aa
    have d1:¬(k:Int)≤1:=fun h=>aa (Int.ofNat_le.mp h)
    have a2:=Hi a7
    clear aa a7
    have C:=aO.nine
    go_wp2_with fail
    refine(be.out V ap k).mono ?_
    rintro e V2 ⟨hb,x,er,rfl,hc⟩
    have HC:=Hi hc
    have aZ:=blT ap hb
    have bn:=bkN aO hb
    have aP:=bkN ae hb
    have aX:=bkN aK hb
    have a3:=boN aN hb
    clear hb hc C
    dsimp only
    by_cases aj:er=0
    rotate_left
    ·have aH:Zb8 m:=.inr ⟨k,a2.out,X.out▸aM.out,by
      rcases HC.out with h|h
      ·exact absurd h.1 aj
      ·exact h.2⟩
     have a0:=Hi aH
     have bp:(er != 0)=true:=by simpa using aj
     have bd:=Hi aj
     clear aH aj
     go_wp2_with (refine wpList_store_row rfl 37 _ _ rfl bz zZ rfl rfl 37 zZ aP ZaU (by rfl) (by simp[Value.oneCell']) ?_)
     obtain⟨V9,z⟩:=ExY (V2.setRow bz zZ)
     rw[←z]
     have ao:=bkr aP z
     have ai:=blr aZ z N
     exact bodyPost_ret (Zaw (p:=2) (q:=3) results110 _ V9 bz 37 zZ (0,0) _ rfl ao underlying37 rfl ZaU) rfl ⟨ai,Za4,er,rfl,.inr ⟨bd,a0⟩⟩
    subst aj
    have aV:ZaH m k=some x:=by
     rcases HC.out with h|h
     ·exact h.2
     ·exact absurd rfl h.1
    have a6:Zk2 m k=decide (x<0):=by unfold Zk2;rw[aV];rfl
    have ak:k<l.length:=by rw[HL.1];exact aM
    have ho:=a3.accts
    obtain⟨g,hg,_,_,_⟩:=Zbb ho (Nat.lt_of_le_of_lt (Nat.zero_le k) ak)
    have bo:aA=some (Aq g 0):=by rw[aY.out];exact hg
    subst bo
    have G:=Zbh (hg▸ho) (k*4+2) (ZlR ak)
    rw[Zb3 Zc4 l k ak 2 (by decide)] at G
    have c1:V2.cell? (Aq g (k*4+2))=some (.bool (l[k]).flag):=G.1
    have f1:=G.2
    have aL:Hid ((l.set k ((l[k]).fl (decide (x<0)))).length=an∧(l.set k ((l[k]).fl (decide (x<0)))).map ZaA.p=ZbN m (k+1)∧∀v:Nat,1<v→v<k+1→(ZaH m v).isSome=true):=by
     refine⟨by rw[List.length_set];exact HL.1,by rw[←a6];exact ZhT m a2 HL.2.1 ak,fun v h1 h2=>?_⟩
     rcases Nat.lt_or_eq_of_le (Nat.le_of_lt_succ h2) with h|h
     ·exact HL.2.2 v h1 h
     ·rw[h,aV];rfl
    have j0:(0:Int)≤(k:Int):=Int.natCast_nonneg k
    have j1:(k:Int)<(an:Int):=Int.ofNat_lt.mpr ay
    obtain⟨W3,aQ⟩:=ExY (V2.setCell ⟨g,k*4+2,none⟩ (.bool (decide (x<0))))
    have a9:=ZjK aZ bn aP aX a3 ab hg ak aQ
    have bi:=Hi a9
    have af:=aX.nine
    have bj:=Hi aQ
    clear ho hg G aV a6 a9 aQ
    go_upto_region 12 with(fail)
    rw[←bj.out]
    clear af c1 f1
    go_wp2
    exact RE.out W3 _ aL bi
  ·have bq:an=k:=Nat.le_antisymm (Nat.le_of_not_lt ay) hk
   subst bq
   have zi:(prog.info? 37).map (·.size)=some ((m2.ar_A (.slice aA an m2.sAcc.c)):Array Value).size:=by kernel_rfl
   have ZI:=Hi zi
   clear zi
   go_wp2_with (first|refine wpList_load_row rfl 37 _ rfl b4 rfl 37 (m2.ar_A (.slice aA an m2.sAcc.c)) (0,0) _ aK underlying37 rfl ZI ?_|refine wpList_store_row rfl 37 _ _ rfl bz (m2.ar_A (.slice aA an m2.sAcc.c)) rfl rfl 37 zZ ae ZI (by rfl) (by simp[Value.oneCell']) ?_)
   obtain⟨V9,z⟩:=ExY (V.setRow bz (m2.ar_A (.slice aA an m2.sAcc.c)))
   rw[←z]
   have ao:=bkr ae z
   have ai:=blr ap z N
   have br:Zaa V9 E {m2 with accts:=l}:=by rw[z];exact aN.rowFar ae (by decide) _
   have e9:({m2 with accts:=l}:Zab).val=.agg (m2.ar_A (.slice aA an m2.sAcc.c)):=by unfold Zab.val Zab.cs;dsimp only;rw[HL.1,aY.out]
   have hrel:Zbo m {m2 with accts:=l}:=⟨bf,fun v h1 h2=>HL.2.2 v h1 (by rw[X.out];exact h2),s.day,s.curs,s.unders,s.instrs,by rw[←X.out];exact HL.2.1,s.poss,s.orders,s.avail,s.locs⟩
   exact bodyPost_ret (Zaw (p:=2) (q:=3) results110 _ V9 bz 37 (m2.ar_A (.slice aA an m2.sAcc.c)) (0,0) _ rfl ao underlying37 rfl ZI) rfl ⟨ai,_,0,by rw[e9];rfl,.inl ⟨rfl,hrel,br.mono ab⟩⟩
end Go.Proofs.YtdefojlkofnloaaGreatDoor
