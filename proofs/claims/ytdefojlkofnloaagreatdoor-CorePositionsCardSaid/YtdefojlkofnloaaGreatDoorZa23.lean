/- A part of the proof of CorePositions: for every input, no condition. -/
import Derived.Test.YtdefojlkofnloaaGreatDoorZa22
set_option maxRecDepth 100000
set_option maxHeartbeats 8000000
set_option linter.unusedVariables false
set_option linter.unusedSimpArgs false
namespace Go.Proofs.YtdefojlkofnloaaGreatDoor
open Go.RowKit Go.Proofs.Tryz
def Zhu(m:Zab)(acct instr qty:Int):Int:=if 0≤qty then 0 else if O.sellS m.orders acct instr m.orders.length-qty-P.qtyL m.poss acct instr<0 then 0 else O.sellS m.orders acct instr m.orders.length-qty-P.qtyL m.poss acct instr
def ZkX(m:Zab)(instr:Int):Prop:=(m.instrs.getD instr.toNat default).expiry=0∨m.day≤(m.instrs.getD instr.toNat default).expiry
def Zha(m:Zab)(o:O.Lc):Prop:=(m.instrs.getD o.instr.toNat default).kind=1→Zhu m o.acct o.instr o.qty≤L.heldL m.locs o.acct o.instr
structure ZcX(m:Zab)(o:O.Lc):Prop where
 ins:0≤o.instr∧o.instr<m.instrs.length
 exp:ZkX m o.instr
 id:1≤o.id∧o.id≤1099511627776
 last:(m.accts.getD o.acct.toNat default).last<o.id
 qty:o.qty≠0 ∧ -1000000000≤o.qty∧o.qty≤1000000000
 price:1≤o.price∧o.price≤100000000000000
 loc:Zha m o
 put:(O.putL m.orders o).2=0
def ZfL.lastTo(a:ZfL)(id:Int):ZfL:={a with last:=id}
structure Zc0(m:Zab)(o:O.Lc)(m':Zab):Prop where
 ok:ZcX m o
 day:m'.day=m.day
 curs:m'.curs=m.curs
 unders:m'.unders=m.unders
 instrs:m'.instrs=m.instrs
 accts:m'.accts.map ZaA.p=(m.accts.map ZaA.p).modify o.acct.toNat (ZfL.lastTo · o.id)
 poss:m'.poss=m.poss
 orders:m'.orders=(O.putL m.orders o).1
 avail:m'.avail=m.avail
 locs:m'.locs=m.locs
theorem Zlr{l:List O.Lc}{x:O.Lc}(h:(O.putL l x).2=0):(O.putL l x).1.length≤1000000:=by
 unfold O.putL at h ⊢
 by_cases h1:O.thereB l x=true
 ·rw[if_pos h1] at h;cases h
 rw[if_neg h1] at h ⊢
 by_cases h2:32≤l.length
 ·rw[if_pos h2] at h;cases h
 rw[if_neg h2]
 simp
 omega
theorem Zki{s z:Int}{l:List P.Lc}(h:P.goodB s z l=true)(a i:Int): -1000000000≤P.qtyL l a i∧P.qtyL l a i≤1000000000:=by
 unfold P.goodB at h
 simp only[Bool.and_eq_true,decide_eq_true_eq,List.all_eq_true] at h
 unfold P.qtyL
 cases hf:l.find? (fun x=>x.is a i) with
 |none=>exact⟨by decide,by decide⟩
 |some x=>
  have h1:=h.2.2 x (List.mem_of_find?_eq_some hf)
  unfold P.okB at h1
  have h2:=of_decide_eq_true h1
  exact⟨h2.2.2.2.2.2.1,h2.2.2.2.2.2.2⟩
theorem ZkO{k n:Nat}(h:k<n):k*4+3<n*4:=by omega
theorem Zaa.drewO{w:World}{base:Nat}{m:Zab}(h:Zaa w base m):Zaa w.drew base m:=
 ⟨ZaF h.curs fun _ _=>rfl,ZaF h.unders fun _ _=>rfl,ZaF h.instrs fun _ _=>rfl,ZaF h.accts fun _ _=>rfl,ZaF h.poss fun _ _=>rfl,ZaF h.orders fun _ _=>rfl,ZaF h.avail fun _ _=>rfl,ZaF h.locs fun _ _=>rfl,fun a ha=>⟨ZaF (h.cash a ha).1 fun _ _=>rfl,(h.cash a ha).2⟩,h.apart,h.away,h.short⟩
theorem boD{V W:World}{B:Nat}{m:Zab}(h:Hid (Zaa W B m))(e:V=W.drew):Hid (Zaa V B m):=by rw[e];exact h.drewO
theorem Zaa.setOrd{w:World}{base:Nat}{m:Zab}(h:Zaa w base m){A:Option Addr}{c:Nat}{l:List O.Lc}(z:w.ownsRow base 45 5 (.slice A l.length c) l.length (O.lcs l))(s:l.length≤1000000):Zaa w base {m with orders:=l,sOrd:=⟨A,c⟩}:=
 ⟨h.curs,h.unders,h.instrs,h.accts,h.poss,z,h.avail,h.locs,h.cash,h.apart,h.away,h.short.1,h.short.2.1,h.short.2.2.1,h.short.2.2.2.1,h.short.2.2.2.2.1,s,h.short.2.2.2.2.2.2⟩
def ZaA.lt(a:ZaA)(id:Int):ZaA:={a with last:=id}
theorem Zme{m z:Zab}{o:O.Lc}{q:Nat}(s:Zbj m z)(G:o.acct=q)(E:q<z.accts.length)(C:ZcX m o){A:Option Addr}{c:Nat}:
 Zc0 m o {z with orders:=(O.putL m.orders o).1,sOrd:=⟨A,c⟩,accts:=z.accts.set q ((z.accts[q]).lt o.id)}:=
 ⟨C,s.day,s.curs,s.unders,s.instrs,by
  show(z.accts.set q _).map ZaA.p=_
  rw[G,Int.toNat_natCast,←s.accts,List.map_set]
  apply List.ext_getElem?
  intro i
  rw[List.getElem?_modify]
  by_cases hi:q=i
  ·subst hi
   rw[List.getElem?_set_self (by simpa using E)]
   simp[E]
   rfl
  ·rw[List.getElem?_set_ne hi]
   simp[hi],s.poss,rfl,s.avail,s.locs⟩
theorem put_any(m:Zab)(o:O.Lc)(w:World)(hm:Zay w w.heap.size m)(dc:ZaZ m o.acct):Calls prog 46 #[m.val,o.val] w fun e w'=>Bw w w'∧Zd5 144 (Zc0 m o) (¬ZcX m o) w.heap.size e w':=by
 obtain⟨acct,id,R,qty,price⟩:=o
 show Calls prog 46 #[.agg m.ar,.agg #[I acct,I id,I R,I qty,I price]] w fun e w'=>Bw w w'∧Zd5 144 (Zc0 m ⟨acct,id,R,qty,price⟩) (¬ZcX m ⟨acct,id,R,qty,price⟩) w.heap.size e w'
 have ab:=Hi hm
 have cn:=Hi dc
 have i0:(0:Int)≤(m.instrs.length:Int):=Int.natCast_nonneg _
 clear hm dc
 obtain⟨W1,aR⟩:=ExY (w.alloc (.cells m.ar 37))
 obtain⟨bl,bt⟩:=ExY w.heap.size
 have cF:=blB aR
 have cT:=bkW aR bt
 obtain⟨W2,aF⟩:=ExY (W1.alloc (.cells #[I acct,I id,I R,I qty,I price] 45))
 obtain⟨bo,bu⟩:=ExY W1.heap.size
 have bA:=blA cF aF
 have cU:=bkA cT aF
 have cW:=bkW aF bu
 have b9:bo=bl+1:=by rw[bu,aR,World.size_alloc,←bt]
 obtain⟨W3,aG⟩:=ExY (W2.alloc (.cells zZ 37))
 obtain⟨bz,bv⟩:=ExY W2.heap.size
 have ay:=blA bA aG
 have cr:=blZ bA bv
 have bL:=bkA cU aG
 have bQ:=bkA cW aG
 have bW:=bkW aG bv
 have ca:bz=bo+1:=by rw[bv,aF,World.size_alloc,←bu]
 have c4:¬(bl=bz):=by omega
 clear c4
 go_enter func46,ntmps46
 go_upto_region 1 with(fail)
 rw[←aR,←bt,←aF,←b9,←aG,←ca]
 clear aR bt b9 aF bu ca aG bv
 obtain⟨a4,a5,a6,aA,ao,a7,a8,a9,ba,bb,bc,bd,be,bf,bg,bh,bj,bn,cC⟩:=bL.nine
 have J:=bQ.five
 have C:=bW.nine
 by_cases d1:0≤R
 rotate_left
 ·have s:Hid (¬ZcX m ⟨acct,id,R,qty,price⟩):=fun h=>d1 (by first|exact h.ins.1|exact h.ins.2)
  go_wp2_with fail
  refine Cq (Zav 32 _) ?_
  dsimp only
  go_wp2
  exact⟨rfl,ay,Zd5.no (by decide) s⟩
 by_cases d2:R<m.instrs.length
 rotate_left
 ·have s:Hid (¬ZcX m ⟨acct,id,R,qty,price⟩):=fun h=>d2 (by first|exact h.ins.1|exact h.ins.2)
  go_wp2_with fail
  refine Cq (Zav 32 _) ?_
  dsimp only
  go_wp2
  exact⟨rfl,ay,Zd5.no (by decide) s⟩
 go_wp2_with fail
 refine Cq (Za0 32 _) ?_
 dsimp only
 obtain⟨q,hq⟩:=ZaW d1
 subst hq
 have cz:q<m.instrs.length:=Int.ofNat_lt.mp d2
 obtain⟨ai,c3,_,e0,e1,e2,e3,e4,e5,e6⟩:=Zds ((ab.below ay).instrs) cz
 rw[c3] at aA
 have aY:m.instrs.getD q default=m.instrs[q]:=by simp[cz]
 obtain⟨⟨am,un,de,bx,Z,dz,mark⟩,hx⟩:∃x,x=m.instrs[q]:=⟨_,rfl⟩
 rw[←hx] at e0 e1 e2 e3 e4 e5 e6 aY
 dsimp only at e0 e1 e2 e3 e4 e5 e6
 have az:=Hi aY
 clear aY hx c3 cz
 obtain⟨W4,aq⟩:=ExY (W3.alloc (.cells #[I am,I un,I de,I bx,I Z,.bool dz,I mark] 66))
 obtain⟨bi,cu⟩:=ExY W3.heap.size
 have ad:=blA ay aq
 have bM:=bkA bL aq
 have bR:Hid (Bk W4 bo 45 #[I acct,I id,I q,I qty,I price]):=bkA bQ aq
 have bX:=bkA bW aq
 have bG:=bkW aq cu
 go_upto_region 3 with(fail)
 rw[←aq,←cu]
 clear aq cu
 clear e0 e1 e2 e3 e4 e5 e6
 clear a4 a5 a6 aA ao a7 a8 a9 ba bb bc bd be bf bg bh bj bn cC J C
 obtain⟨a4,a5,a6,aA,ao,a7,a8,a9,ba,bb,bc,bd,be,bf,bg,bh,bj,bn,cC⟩:=bM.nine
 obtain⟨aB,aC,df,dg,dh,di,dj,dk,dl,dm,dH⟩:=bR.five
 have C:=bX.nine
 have G:=bG.seven
 go_cut [] (fun wx=>Hid (ZkX m (q:Int))∧wx=W4)
 case first=>
  by_cases d3:Z=0
  ·have HE:Hid (ZkX m (q:Int)):=.inl (by rw[Int.toNat_natCast,az.out];exact d3)
   go_wp2_with fail
   refine Cq (Za0 41 _) ?_
   dsimp only
   go_wp2
   go_meet
   exact⟨HE,rfl⟩
  by_cases d4:m.day≤Z
  ·have HE:Hid (ZkX m (q:Int)):=.inr (by rw[Int.toNat_natCast,az.out];exact d4)
   go_wp2_with fail
   refine Cq (Za0 41 _) ?_
   dsimp only
   go_wp2
   go_meet
   exact⟨HE,rfl⟩
  have bp:(Z==0)=false:=by simpa using d3
  have s:Hid (¬ZcX m ⟨acct,id,(q:Int),qty,price⟩):=fun h=>(by rcases h.exp with h|h<;>(rw[Int.toNat_natCast,az.out] at h;first|exact d3 h|exact d4 h))
  go_wp2_with fail
  refine Cq (Zav 41 _) ?_
  dsimp only
  go_wp2
  exact⟨rfl,ad,Zd5.no (by decide) s⟩
 case rest=>
  obtain⟨cH,dd⟩:=hcut
  rw[dd]
  clear dd wc
  by_cases d5:1≤id
  rotate_left
  ·have s:Hid (¬ZcX m ⟨acct,id,(q:Int),qty,price⟩):=fun h=>d5 (by first|exact h.id.1|exact h.id.2)
   go_wp2_with fail
   refine Cq (Zav 1 _) ?_
   dsimp only
   go_wp2
   exact⟨rfl,ad,Zd5.no (by decide) s⟩
  by_cases d6:id≤1099511627776
  rotate_left
  ·have s:Hid (¬ZcX m ⟨acct,id,(q:Int),qty,price⟩):=fun h=>d6 (by first|exact h.id.1|exact h.id.2)
   go_wp2_with fail
   refine Cq (Zav 1 _) ?_
   dsimp only
   go_wp2
   exact⟨rfl,ad,Zd5.no (by decide) s⟩
  go_wp2_with fail
  refine Cq (Za0 1 _) ?_
  dsimp only
  obtain⟨a,ha⟩:=ZaW (Int.le_trans (by decide) (Int.le_of_lt cn.2.1))
  subst ha
  have aS:a<m.accts.length:=Int.ofNat_lt.mp cn.2.2
  obtain⟨aa,c2,_,g0,g1,g2,g3⟩:=ZeT ((ab.below ad).accts) aS
  rw[c2] at ao
  obtain⟨last,ax⟩:=ExY ((m.accts[a]).last)
  rw[←ax] at g3
  have aL:Hid ((m.accts.getD a default).last=last):=by show _=_;rw[ax];simp[aS]
  have dn:=Hi aS
  have co:=Hi ao
  have cj:=Hi g3
  have a0:(0:Int)≤(a:Int):=Int.natCast_nonneg a
  have a1:(a:Int)<(m.accts.length:Int):=Int.ofNat_lt.mpr aS
  clear aS ax g0 g1 g2 c2
  go_upto_region 5 with(fail)
  by_cases d7:last<id
  rotate_left
  ·have s:Hid (¬ZcX m ⟨(a:Int),id,(q:Int),qty,price⟩):=fun h=>by
    have h2:=h.last
    dsimp only at h2
    rw[Int.toNat_natCast,aL.out] at h2
    exact d7 h2
   refine wp_region_held_drew (S:=(fun U=>U.cell? (Aq bo 1)=some (I id)∧U.cell? (Aq bl 4)=some (.slice (some aa) m.accts.length m.sAcc.c)∧U.cell? (Aq bo 0)=some (I a)∧U.cell? ⟨(aa.add (a*4)).block,(aa.add (a*4)).off+3,none⟩=some (I last))) (by kernel_rfl) (⟨aC,co,aB,cj⟩) (fun ah=>?_)
   refine tkH [0,1,2,3,4,5,6,7,8,9] ah (by kernel_rfl) (fun _ _ _ _ h=>h) ?_
   iterate 10 (refine ycH rfl (by rfl) (fun w h=>by go_simp<;>rfl) ?_;try simp only[Act.put,sA,sB,sC])
   refine onH 10 (by kernel_rfl) rfl fun K hK=>?_
   go_simp
   refine Cq (Zav 35 _) ?_
   dsimp only
   go_wp2
   exact⟨rfl,ad.drew,Zd5.no (by decide) s⟩
  refine wp_region_held_drew (S:=(fun U=>U.cell? (Aq bo 1)=some (I id)∧U.cell? (Aq bl 4)=some (.slice (some aa) m.accts.length m.sAcc.c)∧U.cell? (Aq bo 0)=some (I a)∧U.cell? ⟨(aa.add (a*4)).block,(aa.add (a*4)).off+3,none⟩=some (I last))) (by kernel_rfl) (⟨aC,co,aB,cj⟩) (fun ah=>?_)
  refine tkH [0,1,2,3,4,5,6,7,8,9] ah (by kernel_rfl) (fun _ _ _ _ h=>h) ?_
  iterate 10 (refine ycH rfl (by rfl) (fun w h=>by go_simp<;>rfl) ?_;try simp only[Act.put,sA,sB,sC])
  refine onH 10 (by kernel_rfl) rfl fun K hK=>?_
  go_simp
  refine Cq (Za0 35 _) ?_
  dsimp only
  refine hK.out _ _ (⟨aC,co,aB,cj⟩) (fun ah=>?_)
  try simp only[Act.put,sA,sB,sC]
  refine wpAnyH_done (by kernel_rfl) ?_ _
  clear a4 a5 a6 aA ao a7 a8 a9 ba bb bc bd be bf bg bh bj bn cC aB aC df dg dh di dj dk dl dm dH C G
  obtain⟨W5,au⟩:=ExY W4.drew
  rw[←au]
  have z:=blD ad au
  have ae:=bkD bM au
  have af:Hid (Bk W5 bo 45 #[I a,I id,I q,I qty,I price]):=bkD bR au
  have bY:=bkD bX au
  have bH:=bkD bG au
  clear au g3
  have Y:=ae.nine
  have J:=af.five
  have C:=bY.nine
  have G:=bH.seven
  by_cases d8:qty=0
  ·have bp:(qty != 0)=false:=by simpa using d8
   have s:Hid (¬ZcX m ⟨(a:Int),id,(q:Int),qty,price⟩):=fun h=>h.qty.1 d8
   go_wp2_with fail
   refine Cq (Zav 36 _) ?_
   dsimp only
   go_wp2
   exact⟨rfl,z,Zd5.no (by decide) s⟩
  have dJ:(qty != 0)=true:=by simpa using d8
  by_cases d9 : -1000000000≤qty
  rotate_left
  ·have s:Hid (¬ZcX m ⟨(a:Int),id,(q:Int),qty,price⟩):=fun h=>d9 (by first|exact h.qty.2.1|exact h.qty.2.2)
   go_wp2_with fail
   refine Cq (Zav 36 _) ?_
   dsimp only
   go_wp2
   exact⟨rfl,z,Zd5.no (by decide) s⟩
  by_cases cX:qty≤1000000000
  rotate_left
  ·have s:Hid (¬ZcX m ⟨(a:Int),id,(q:Int),qty,price⟩):=fun h=>cX (by first|exact h.qty.2.1|exact h.qty.2.2)
   go_wp2_with fail
   refine Cq (Zav 36 _) ?_
   dsimp only
   go_wp2
   exact⟨rfl,z,Zd5.no (by decide) s⟩
  go_wp2_with fail
  refine Cq (Za0 36 _) ?_
  dsimp only
  by_cases cY:1≤price
  rotate_left
  ·have s:Hid (¬ZcX m ⟨(a:Int),id,(q:Int),qty,price⟩):=fun h=>cY (by first|exact h.price.1|exact h.price.2)
   go_wp2_with fail
   refine Cq (Zav 37 _) ?_
   dsimp only
   go_wp2
   exact⟨rfl,z,Zd5.no (by decide) s⟩
  by_cases cZ:price≤100000000000000
  rotate_left
  ·have s:Hid (¬ZcX m ⟨(a:Int),id,(q:Int),qty,price⟩):=fun h=>cZ (by first|exact h.price.1|exact h.price.2)
   go_wp2_with fail
   refine Cq (Zav 37 _) ?_
   dsimp only
   go_wp2
   exact⟨rfl,z,Zd5.no (by decide) s⟩
  go_wp2_with fail
  refine Cq (Za0 37 _) ?_
  dsimp only
  have hg:=cn.1
  obtain⟨_,_,_,c6,ac,dC,_⟩:=ZbI hg
  have aX:∀j,j<m.orders.length→fitsQ (m.orders.getD j default).qty=true:=by
   intro j hj
   unfold O.goodB at ac
   simp only[Bool.and_eq_true,decide_eq_true_eq,List.all_eq_true] at ac
   have h1:=ac.2.2 (m.orders.getD j default) (by rw[show m.orders.getD j default=m.orders[j] by simp[hj]];exact List.getElem_mem hj)
   unfold O.okB at h1
   have h2:=of_decide_eq_true h1
   unfold fitsQ
   simp only[decide_eq_true_eq]
   omega
  have dE:m.orders.length≤32:=by
   unfold O.goodB at ac
   simp only[Bool.and_eq_true,decide_eq_true_eq] at ac
   exact ac.1
  have a3:O.Sorted m.orders:=by
   unfold O.goodB at ac
   simp only[Bool.and_eq_true] at ac
   exact O.sorted_of _ ac.2.1
  have da : -1000000000≤P.qtyL m.poss (a:Int) (q:Int)∧P.qtyL m.poss (a:Int) (q:Int)≤1000000000:=Zki c6 _ _
  have db:0≤O.sellS m.orders (a:Int) (q:Int) m.orders.length∧O.sellS m.orders (a:Int) (q:Int) m.orders.length≤1099511627776:=by
   have:=O.sellS_bounds (a:Int) (q:Int) aX m.orders.length (Nat.le_refl _)
   omega
  have cP:Hid (∀V,Bw w V→Calls prog 105 #[.slice m.sPos.A m.poss.length m.sPos.c,I a,I q] V fun e w'=>e=.returned (I (P.qtyL m.poss (a:Int) (q:Int)))∧Bw V w'):=
   fun V hV=>P.qty_any _ _ _ _ _ _ V (ZbR ab.short.2.2.2.2.1) ((ab.poss.below hV).mono hV.size)
  have cQ:Hid (∀V,Bw w V→Calls prog 106 #[.slice m.sOrd.A m.orders.length m.sOrd.c,I a,I q] V fun e w'=>e=.returned (I (O.sellS m.orders (a:Int) (q:Int) m.orders.length))∧Bw V w'):=
   fun V hV=>O.selling_any _ _ _ _ _ _ V aX ab.short.2.2.2.2.2.1 ((ab.orders.below hV).mono hV.size)
  have cJ:Hid (∀V,Bw w V→Calls prog 82 #[.slice m.sLoc.A m.locs.length m.sLoc.c,I a,I q] V fun e w'=>e=.returned (I (L.heldL m.locs (a:Int) (q:Int)))∧Bw V w'):=
   fun V hV=>L.held_any _ _ _ _ _ _ V (ZbR ab.short.2.2.2.2.2.2.2) ((ab.locs.below hV).mono hV.size)
  have br:Hid (∀V,Calls prog 104 #[I (P.qtyL m.poss (a:Int) (q:Int)),I (O.sellS m.orders (a:Int) (q:Int) m.orders.length),I qty] V fun e w'=>e=.returned (I (Zhu m (a:Int) (q:Int) qty))∧w'=V):=
   fun V=>L.short_any _ _ _ V da db d9
  have cO:Hid (∀V,Bw w V→Calls prog 107 #[.slice m.sOrd.A m.orders.length m.sOrd.c,.agg #[I a,I id,I q,I qty,I price]] V (O.LOut V (O.putL m.orders ⟨(a:Int),id,(q:Int),qty,price⟩))):=
   fun V hV=>O.put_any _ _ _ _ ⟨(a:Int),id,(q:Int),qty,price⟩ V a3 ab.short.2.2.2.2.2.1 ((ab.orders.below hV).mono hV.size)
  have du:Hid (∀V,Bw w V→Calls prog 9 #[.agg m.ar] V (ZcA m V)):=fun V hV=>Zbq m V ((ab.below hV).mono hV.size)
  have cN:Hid (Zha m ⟨(a:Int),id,(q:Int),qty,price⟩→(O.putL m.orders ⟨(a:Int),id,(q:Int),qty,price⟩).2=0→ZcX m ⟨(a:Int),id,(q:Int),qty,price⟩):=fun h1 h2=>
   ⟨⟨d1,d2⟩,cH,⟨d5,d6⟩,by show(m.accts.getD ((a:Int)).toNat default).last<id;rw[Int.toNat_natCast,aL.out];exact d7,⟨d8,d9,cX⟩,⟨cY,cZ⟩,h1,h2⟩
  clear hg c6 ac dC aX dE a3 da db
  obtain⟨pq,c9⟩:=ExY (P.qtyL m.poss (a:Int) (q:Int))
  obtain⟨os,c8⟩:=ExY (O.sellS m.orders (a:Int) (q:Int) m.orders.length)
  obtain⟨sh,cA⟩:=ExY (Zhu m (a:Int) (q:Int) qty)
  obtain⟨he,cx⟩:=ExY (L.heldL m.locs (a:Int) (q:Int))
  rw[←c9] at cP br
  rw[←c8] at cQ br
  rw[←cA] at br
  rw[←cx] at cJ
  have aN:Hid (Zha m ⟨(a:Int),id,(q:Int),qty,price⟩↔(am=1→sh≤he)):=by
   show Zha m ⟨(a:Int),id,(q:Int),qty,price⟩↔(am=1→sh≤he)
   unfold Zha
   dsimp only
   rw[Int.toNat_natCast,az.out,cA,cx]
  clear c9 c8 cA cx
  go_upto_if 84 with(fail)
  go_cut [] (fun wx=>Hid (Zha m ⟨(a:Int),id,(q:Int),qty,price⟩)∧Hid (Bw W5 wx))
  case first=>
   by_cases ct:am=1
   ·have bq:Hid (∀U,Bw W5 U→(fun U=>U.cell? (Aq bl 5)=some (.slice m.sPos.A m.poss.length m.sPos.c)∧U.cell? (Aq bl 6)=some (.slice m.sOrd.A m.orders.length m.sOrd.c)∧U.cell? (Aq bo 0)=some (I a)∧U.cell? (Aq bo 2)=some (I q)∧U.cell? (Aq bo 3)=some (I qty)) U):=fun U hU=>by
     have h1:=ae.below hU ae.lt
     have h2:=af.below hU af.lt
     exact⟨h1.cell 5,h1.cell 6,h2.cell 0,h2.cell 2,h2.cell 3⟩
    go_upto_region 9 with(fail)
    refine Zbf (fun U=>U.cell? (Aq bl 5)=some (.slice m.sPos.A m.poss.length m.sPos.c)∧U.cell? (Aq bl 6)=some (.slice m.sOrd.A m.orders.length m.sOrd.c)∧U.cell? (Aq bo 0)=some (I a)∧U.cell? (Aq bo 2)=some (I q)∧U.cell? (Aq bo 3)=some (I qty)) 17 (by kernel_rfl) ?_
    refine tkM [0,1,2,3,4,5,7,8,9,10,11,12,14,15] (bq.out _ (Below.refl _ _).drew) (by kernel_rfl) (fun _ _ _ _ h=>h) ?_
    iterate 14 (refine ycM rfl (by rfl) (fun w h=>by go_simp<;>rfl) ?_;try simp only[Act.put,sA,sB,sC])
    refine onM 6 (by kernel_rfl) rfl fun K hK=>?_
    go_simp
    refine(cP.out _ (z.drew)).mono ?_
    rintro e V1 ⟨rfl,hb⟩
    have cf:Hid (Bw W5 V1):=⟨hb.os,hb.tape,hb.output,hb.size,hb.block⟩
    clear hb
    dsimp only
    refine hK.out _ _ (fun _=>bq.out _ cf) ?_
    try simp only[Act.put,sA,sB,sC]
    refine onM 13 (by kernel_rfl) rfl fun K hK=>?_
    go_simp
    refine(cQ.out _ (z.trans (cf.mono z.size))).mono ?_
    rintro e V2 ⟨rfl,hb⟩
    have aD:=blT cf hb
    clear hb
    dsimp only
    refine hK.out _ _ (fun _=>bq.out _ aD) ?_
    try simp only[Act.put,sA,sB,sC]
    refine onM 16 (by kernel_rfl) rfl fun K hK=>?_
    go_simp
    refine Cq (br.out _) ?_
    dsimp only
    refine hK.out _ _ (fun _=>bq.out _ aD) ?_
    try simp only[Act.put,sA,sB,sC]
    refine onM 17 (by kernel_rfl) rfl fun K hK=>?_
    go_simp
    refine hK.out _ _ (fun h0=>Zac (by kernel_rfl) h0) ?_
    refine Zak (by kernel_rfl) ?_ _
    have h1:=ae.below aD ae.lt
    have h2:=af.below aD af.lt
    have y8:V2.cell? (Aq bl 8)=some (.slice m.sLoc.A m.locs.length m.sLoc.c):=h1.cell 8
    have y0:V2.cell? (Aq bo 0)=some (I a):=h2.cell 0
    have y2:V2.cell? (Aq bo 2)=some (I q):=h2.cell 2
    clear h1 h2
    go_wp2_with fail
    refine(cJ.out _ (z.trans (aD.mono z.size))).mono ?_
    rintro e V3 ⟨rfl,hb⟩
    have cD:=blT aD hb
    clear hb y8 y0 y2
    dsimp only
    by_cases c0:sh≤he
    ·have aM:Hid (Zha m ⟨(a:Int),id,(q:Int),qty,price⟩):=aN.2 (fun _=>c0)
     go_wp2_with fail
     refine Cq (Za0 39 _) ?_
     dsimp only
     go_wp2
     go_meet
     exact⟨aM,cD⟩
    ·have s:Hid (¬ZcX m ⟨(a:Int),id,(q:Int),qty,price⟩):=fun h=>c0 (aN.1 h.loc ct)
     have dq:Hid (Bw w V3):=z.trans (cD.mono z.size)
     go_wp2_with fail
     refine Cq (Zav 39 _) ?_
     dsimp only
     go_wp2
     exact⟨rfl,dq,Zd5.no (by decide) s⟩
   ·have aM:Hid (Zha m ⟨(a:Int),id,(q:Int),qty,price⟩):=aN.2 (fun h=>absurd h ct)
    have kb:(am==1)=false:=by simpa using ct
    go_wp2
    go_meet
    exact⟨aM,Below.refl _ _⟩
  case rest=>
   obtain⟨aM,dr⟩:=hcut
   have hb:=dr.out
   have aJ:=blT z hb
   have bN:=bkN ae hb
   have bS:=bkN af hb
   have bZ:=bkN bY hb
   have bI:=bkN bH hb
   clear Y J C G
   clear hb
   have Y:=bN.nine
   have J:=bS.five
   have C:=bZ.nine
   have G:=bI.seven
   go_wp2_with fail
   refine(du.out _ aJ).mono ?_
   rintro e W7 ⟨m2,rfl,aZ,cc,hb⟩
   have aO:=Hi aZ
   have bD:Hid (Zaa W7 w.heap.size m2):=cc.mono aJ.size
   clear aZ cc
   have bB:=blT aJ hb
   have bO:=bkN bN hb
   have bT:=bkN bS hb
   have aP:=bkN bZ hb
   have bJ:=bkN bI hb
   clear Y J C G
   clear hb
   have Y:=bO.nine
   have J:=bT.five
   have C:=aP.nine
   have G:=bJ.seven
   dsimp only
   obtain⟨an,aU⟩:=ExY m2.accts.length
   have aV:an=m.accts.length:=by
    have:=congrArg List.length aO.accts
    simp only[List.length_map] at this
    rw[aU];exact this
   have aT:a<m2.accts.length:=by rw[←aU,aV];exact dn
   obtain⟨g,hA,_,_,_⟩:=Zbb bD.accts (Nat.lt_of_le_of_lt (Nat.zero_le a) aT)
   have cd:m2.val=.agg (m2.ar_A (.slice (some (Aq g 0)) an m2.sAcc.c)):=by rw[aU];unfold Zab.val Zab.cs;rw[hA]
   rw[cd]
   clear cd
   have dp:=Hi aU
   have X:=Hi aT
   have aH:=Hi hA
   have a2:(a:Int)<(an:Int):=by rw[aV];exact a1
   clear aU aV aT hA
   obtain⟨W8,ak⟩:=ExY (W7.alloc (.cells (m2.ar_A (.slice (some ⟨g,0,none⟩) an m2.sAcc.c)) 37))
   obtain⟨b7,aW⟩:=ExY W7.heap.size
   have aK:=blA bB ak
   have cp:=blZ bB aW
   have bP:=bkA bO ak
   have bU:=bkA bT ak
   have b0:=bkA aP ak
   have bK:=bkA bJ ak
   have bE:=bkW ak aW
   have ch:Hid (b7≠bz):=by
    have h:=aP.lt
    show b7≠bz
    rw[aW]
    exact Ne.symm (Nat.ne_of_lt h)
   go_upto_region 12 with(fail)
   rw[←ak,←aW]
   have dy:=Hi ak
   clear ak aW
   clear Y J C G
   have Y:=bP.nine
   have J:=bU.five
   have C:=b0.nine
   have G:=bK.seven
   have aQ:=bE.nine
   have cg:Hid (b7≠bz):=ch.out
   have dw:Hid (Zaa W8 w.heap.size m2):=by
    refine bD.below ?_
    rw[dy.out]
    exact(Below.refl _ _).alloc (Nat.le_refl _) _
   obtain⟨⟨ls,ce⟩,cy⟩:∃p,p=O.putL m.orders ⟨(a:Int),id,(q:Int),qty,price⟩:=⟨_,rfl⟩
   rw[←cy] at cO cN
   have ck:=Hi cy
   clear cy
   go_wp2_with fail
   refine(cO.out _ aK).mono ?_
   rintro e W9 ⟨A1,c1,rfl,h1,h2,ho,hb⟩
   dsimp only at ho h1
   have dx:Hid (W9.ownsRow w.heap.size 45 5 (.slice A1 ls.length c1) ls.length (O.lcs ls)):=Zap ho aK.size
   have cl:=boN dw hb
   clear h1 h2 ho
   have bC:=blT aK hb
   have cV:=bkN bP hb
   have bV:=bkN bU hb
   have b6:=bkN b0 hb
   have cS:=bkN bK hb
   have bF:=bkN bE hb
   clear Y J C G aQ
   clear hb
   have Y:=cV.nine
   have J:=bV.five
   have C:=b6.nine
   have G:=cS.seven
   have aQ:=bF.nine
   dsimp only
   by_cases bw:ce=0
   rotate_left
   ·have s:Hid (¬ZcX m ⟨(a:Int),id,(q:Int),qty,price⟩):=fun h=>by
     have h2:=h.put
     rw[←ck.out] at h2
     exact bw h2
    go_wp2_with fail
    refine Cq (ZbJ ce bw _) ?_
    dsimp only
    go_wp2
    exact⟨rfl,bC,Zd5.no bw s⟩
   subst bw
   have cM:Hid (ZcX m ⟨(a:Int),id,(q:Int),qty,price⟩):=cN.out aM rfl
   go_wp2_with fail
   refine Cq (ZbZ _) ?_
   dsimp only
   have al:=Zbh (aH.out▸cl.out.accts) (a*4+3) (ZkO X.out)
   rw[Zb3 Zc4 m2.accts a X.out 3 (by decide)] at al
   obtain⟨la,c7⟩:=ExY ((m2.accts[a]'X.out).last)
   have c5:W9.cell? (Aq g (a*4+3))=some (I la):=by rw[c7];exact al.1
   have dt:=Hi c5
   have dv:=Hi al.2
   have ds:Hid (∃cs,Bk W9 g 59 cs∧w.heap.size≤g):=by
    obtain⟨cs,_,h1,h2⟩:=ZaK cl.accts aH
    exact⟨cs,h2,h1⟩
   clear al c5 c7
   go_upto_region 14 with(fail)
   clear Y J C G aQ
   obtain⟨ap,N⟩:=ExY W9.drew
   have ci:=blD bC N
   have ag:=bkD bV N
   have cq:=bkD b6 N
   have E:=bkD bF N
   have cL:=boD cl N
   have cm:Hid (ap.ownsRow w.heap.size 45 5 (.slice A1 ls.length c1) ls.length (O.lcs ls)):=by rw[N];exact ZaF dx (fun _ _=>rfl)
   have cG:Hid (ap.cell? (Aq g (a*4+3))=some (I la)):=by rw[N];exact dt
   have cI:Hid (ap.frozen? (Aq g (a*4+3))=false):=by rw[N];exact dv
   have aI:Hid (∃cs,Bk ap g 59 cs∧w.heap.size≤g):=by
    obtain⟨cs,h1,h2⟩:=ds.out
    rw[N]
    exact⟨cs,h1.drew,h2⟩
   have cK:Hid (ls.length≤1000000):=by
    have h:=Zlr cM.put
    rw[←ck.out] at h
    exact h
   have cE:Hid (b7≠bz):=cg.out
   refine rgL 11 (by kernel_rfl) N (CsA E 4 rfl (CsA ag 0 rfl (CsB ag 1 rfl))) fun hS=>?_
   clear N
   refine tkM [0,1,2,3,4,5,6,7] hS (by kernel_rfl) (fun _ _ _ _ h=>h) ?_
   iterate 8 (refine ycM rfl (by rfl) (fun w h=>by simp only[Cs] at h;go_simp<;>rfl) ?_;try simp only[Act.put,sA,sB,sC])
   refine onM 8 (by kernel_rfl) rfl fun K hK=>?_
   have y6:=Ct E 6 rfl
   have z6:=E.frozen 6
   have w6:=E.lt
   go_simp
   clear y6 z6 w6
   obtain⟨V1,aj⟩:=ExY (ap.setCell ⟨b7,6,none⟩ (.slice A1 ls.length c1))
   rw[←aj]
   have K7:Hid (Bk V1 b7 37 (m2.ar_AO (.slice (some (Aq g 0)) an m2.sAcc.c) (.slice A1 ls.length c1))):=by rw[aj];exact Bk.set (E.out) 6 _
   have Ko:Hid (Bk V1 bo 45 #[I a,I id,I q,I qty,I price]):=by rw[aj];exact Bk.far (ag.out) (p:=Aq b7 6) (ag.ne E (by decide)) _
   have Kz:Hid (Bk V1 bz 37 zZ):=by rw[aj];exact Bk.far (cq.out) (p:=Aq b7 6) (Ne.symm cE) _
   have KO:Hid (Zaa V1 w.heap.size {m2 with orders:=ls,sOrd:=⟨A1,c1⟩}):=by rw[aj];exact Zaa.far (Zaa.setOrd cL cm cK) (E.out) (by decide) 6 _
   have KB:Hid (Bw w V1):=by rw[aj];exact Below.setCell ci (p:=Aq b7 6) cp _
   have cw:g≠b7:=by
    obtain⟨cs,h2,_⟩:=aI.out
    exact h2.ne E (by decide)
   have K1:Hid (V1.cell? (Aq g (a*4+3))=some (I la)):=by rw[aj];exact(World.cell?_setCell_far ap (Aq b7 6) (Aq g (a*4+3)) _ (Ne.symm cw)).trans cG
   have K2:Hid (V1.frozen? (Aq g (a*4+3))=false):=by rw[aj];exact(World.frozen?_of_block (Below.heap_setCell ap (Aq b7 6) _ g cw)).trans cI
   clear aj cw
   refine hK.out _ _ (fun _=>⟨K7.cell 4,Ko.cell 0,Ko.cell 1⟩) ?_
   try simp only[Act.put]
   refine onM 9 (by kernel_rfl) rfl fun K hK=>?_
   go_simp
   refine hK.out _ _ (fun _=>⟨K7.cell 4,Ko.cell 0,Ko.cell 1⟩) ?_
   try simp only[Act.put,sA,sB,sC]
   refine tkM [10] (⟨K7.cell 4,Ko.cell 0,Ko.cell 1⟩) (by kernel_rfl) (fun _ _ _ _ h=>h) ?_
   (refine ycM rfl (by rfl) (fun w h=>by simp only[Cs] at h;go_simp<;>rfl) ?_;try simp only[Act.put,sA,sB,sC])
   refine onM 11 (by kernel_rfl) rfl fun K hK=>?_
   have k1:=K1.out
   have k2:=K2.out
   go_simp
   clear k1 k2
   refine hK.out _ _ (fun h0=>Zac (by kernel_rfl) h0) ?_
   refine Zak (by kernel_rfl) ?_ _
   obtain⟨V2,aE⟩:=ExY (V1.setCell ⟨g,a*4+3,none⟩ (I id))
   rw[←aE]
   obtain⟨dI,cv,cb⟩:=aI.out
   obtain⟨dA,_,_,b8⟩:=ZaK KO.accts aH
   have aw:Bk V1 g 59 dA:=b8
   have J7:Hid (Bk V2 b7 37 (m2.ar_AO (.slice (some (Aq g 0)) an m2.sAcc.c) (.slice A1 ls.length c1))):=by rw[aE];exact K7.far (p:=Aq g (a*4+3)) (K7.ne aw (by decide)) _
   have Jz:Hid (Bk V2 bz 37 zZ):=by rw[aE];exact Kz.far (p:=Aq g (a*4+3)) (Kz.ne aw (by decide)) _
   have JB:Hid (Bw w V2):=by rw[aE];exact KB.setCell (p:=Aq g (a*4+3)) cb _
   have JO:Hid (Zaa V2 w.heap.size {m2 with orders:=ls,sOrd:=⟨A1,c1⟩,accts:=m2.accts.set a ((m2.accts[a]'X.out).lt id)}):=by rw[aE];exact Zaa.setAcc (m:={m2 with orders:=ls,sOrd:=⟨A1,c1⟩}) KO aH X (by decide) rfl ⟨rfl,rfl,rfl⟩
   clear aE cv cb b8 aw
   have zi:(prog.info? 37).map (·.size)=some ((m2.ar_AO (.slice (some (Aq g 0)) an m2.sAcc.c) (.slice A1 ls.length c1)):Array Value).size:=by kernel_rfl
   have ZI:=Hi zi
   clear zi
   go_wp2_with (first|refine wpList_load_row rfl 37 _ rfl b7 rfl 37 (m2.ar_AO (.slice (some (Aq g 0)) an m2.sAcc.c) (.slice A1 ls.length c1)) (0,0) _ J7 underlying37 rfl ZI ?_|refine wpList_store_row rfl 37 _ _ rfl bz (m2.ar_AO (.slice (some (Aq g 0)) an m2.sAcc.c) (.slice A1 ls.length c1)) rfl rfl 37 zZ Jz ZI (by rfl) (by simp[Value.oneCell']) ?_)
   obtain⟨V9,bs⟩:=ExY (V2.setRow bz (m2.ar_AO (.slice (some ⟨g,0,none⟩) an m2.sAcc.c) (.slice A1 ls.length c1)))
   rw[←bs]
   have dG:=bkr Jz bs
   have dB:=blr JB bs cr
   have dD:Zaa V9 w.heap.size {m2 with orders:=ls,sOrd:=⟨A1,c1⟩,accts:=m2.accts.set a ((m2.accts[a]'X.out).lt id)}:=by rw[bs];exact JO.rowFar Jz (by decide) _
   have hrel:Zc0 m ⟨(a:Int),id,(q:Int),qty,price⟩ {m2 with orders:=ls,sOrd:=⟨A1,c1⟩,accts:=m2.accts.set a ((m2.accts[a]'X.out).lt id)}:=by
    have h:=Zme (o:=⟨(a:Int),id,(q:Int),qty,price⟩) aO rfl X cM (A:=A1) (c:=c1)
    rw[←ck.out] at h
    exact h
   have dF:({m2 with orders:=ls,sOrd:=⟨A1,c1⟩,accts:=m2.accts.set a ((m2.accts[a]'X.out).lt id)}:Zab).val=.agg (m2.ar_AO (.slice (some (Aq g 0)) an m2.sAcc.c) (.slice A1 ls.length c1)):=by
    unfold Zab.val Zab.cs
    dsimp only
    rw[List.length_set,←dp.out,aH.out]
   exact bodyPost_ret (results_cell_row (p:=4) results46 _ V9 bz 37 (m2.ar_AO (.slice (some (Aq g 0)) an m2.sAcc.c) (.slice A1 ls.length c1)) (0,0) _ rfl dG underlying37 rfl ZI) rfl ⟨dB,Zd5.yes _ dF dD hrel⟩
end Go.Proofs.YtdefojlkofnloaaGreatDoor
