/- A part of the proof of CoreOnce: for every input, no condition. -/
import Derived.Test.YtdefojlkofnloaaGreatDoorZb21
set_option maxRecDepth 100000
set_option maxHeartbeats 8000000
set_option linter.unusedVariables false
set_option linter.unusedSimpArgs false
namespace Go.Proofs.YtdefojlkofnloaaGreatDoor
open Go.RowKit Go.Proofs.Tryz
def ZaA.q(a:ZaA):Int×Nat×Bool×Int:=(a.parent,a.cash.length,a.flag,a.last)
structure Zbi(m m':Zab):Prop where
 day:m'.day=m.day
 curs:m'.curs=m.curs
 unders:m'.unders=m.unders
 instrs:m'.instrs=m.instrs
 accts:m'.accts.map ZaA.q=m.accts.map ZaA.q
 poss:m'.poss=m.poss
 orders:m'.orders=m.orders
 avail:m'.avail=m.avail
 locs:m'.locs=m.locs
theorem Zbi.refl(m:Zab):Zbi m m:=⟨rfl,rfl,rfl,rfl,rfl,rfl,rfl,rfl,rfl⟩
theorem Zbi.trans{a b c:Zab}(h:Zbi a b)(k:Zbi b c):Zbi a c:=
 ⟨k.day.trans h.day,k.curs.trans h.curs,k.unders.trans h.unders,k.instrs.trans h.instrs,k.accts.trans h.accts,k.poss.trans h.poss,k.orders.trans h.orders,k.avail.trans h.avail,k.locs.trans h.locs⟩
theorem Zbj.c{m m':Zab}(h:Zbj m m'):Zbi m m':=
 ⟨h.day,h.curs,h.unders,h.instrs,by
  have e:=congrArg (List.map fun a:ZfL=>(a.parent,a.cash.length,a.flag,a.last)) h.accts
  rw[List.map_map,List.map_map] at e
  exact e,h.poss,h.orders,h.avail,h.locs⟩
theorem Zbi.setCash{a m:Zab}(h:Zbi a m){v c:Nat}{y:Int}(s:v<m.accts.length):Zbi a {m with accts:=m.accts.set v {m.accts[v] with cash:=(m.accts[v]).cash.set c y}}:=
 ⟨h.day,h.curs,h.unders,h.instrs,by
  show(m.accts.set v _).map ZaA.q=_
  rw[←h.accts,List.map_set]
  apply List.ext_getElem?
  intro i
  by_cases hi:v=i
  ·subst hi
   rw[List.getElem?_set_self (by simpa using s)];simp[s,ZaA.q]
  ·rw[List.getElem?_set_ne hi],h.poss,h.orders,h.avail,h.locs⟩
theorem ZgB{W:World}{base:Nat}{m:Zab}(h:Zaa W base m){q c:Nat}(E:q<m.accts.length)(G:c<(m.accts[q]).cash.length):
 ∃g g1,m.sAcc.A=some (Aq g 0)∧(m.accts[q]).A=some (Aq g1 0)∧W.cell? (Aq g (q*4+1))=some (.slice (some (Aq g1 0)) (m.accts[q]).cash.length (m.accts[q]).c) ∧
  W.cell? (Aq g1 c)=some (I ((m.accts[q]).cash.getD c 0))∧W.frozen? (Aq g1 c)=false∧base≤g1∧∃cs,Bk W g1 3 cs:=by
 have ho:=h.accts
 obtain⟨g,hg,_,_,_⟩:=Zbb ho (by omega)
 have hx:=(h.cash _ (List.getElem_mem E)).1
 obtain⟨g1,s,hb,_,cs,C⟩:=Zbb hx (by omega)
 have c1:=(Zbh (hg▸ho) (q*4+1) (by omega)).1
 rw[Zb3 Zc4 m.accts q E 1 (by decide)] at c1
 have z:W.cell? (Aq g (q*4+1))=some (.slice (m.accts[q]).A (m.accts[q]).cash.length (m.accts[q]).c):=c1
 rw[s] at z
 have c2:=Zbh (s▸hx) c (by omega)
 rw[Zcx _ c G] at c2
 exact⟨g,g1,hg,s,z,c2.1,c2.2,hb,cs,C⟩
theorem Zly{k:Nat}(h:k≤2):k=0∨k=1∨k=2:=by omega
def Zgc(m:Zab)(w:World)(e:Ending)(w':World):Prop:=
 Bw w w'∧∃(m':Zab) (er:Int),e=.returned (.tuple #[m'.val,I er])∧((er=0∧Zbi m m'∧Zaa w' w.heap.size m')∨er≠0)
theorem Zka(m:Zab)(aw amount ap au:Int)(w:World)(hm:Zay w w.heap.size m):Calls prog 59 #[m.val,I aw,I amount,I ap,I au] w (Zgc m w):=by
 show Calls prog 59 #[.agg m.ar,I aw,I amount,I ap,I au] w (Zgc m w)
 have bt:=Hi hm
 have bQ:Hid (∀V,Bw w V→Calls prog 9 #[.agg m.ar] V (ZcA m V)):=fun V hV=>Zbq m V ((hm.below hV).mono hV.size)
 clear hm
 obtain⟨W1,aM⟩:=ExY (w.alloc (.cells m.ar 37))
 obtain⟨bl,aW⟩:=ExY w.heap.size
 have a3:=blB aM
 have bD:=bkW aM aW
 obtain⟨W2,aN⟩:=ExY (W1.alloc (.cells zZ 37))
 obtain⟨bz,aX⟩:=ExY W1.heap.size
 have C:=blA a3 aN
 have G:=blZ a3 aX
 have aF:=bkA bD aN
 have E:=bkW aN aX
 have a5:bz=bl+1:=by rw[aX,aM,World.size_alloc,←aW]
 go_enter func59,ntmps59
 go_upto_region 1 with(fail)
 rw[←aM,←aW,←aN,←a5]
 clear aM aW a5 aN aX
 go_upto_region 2 with(fail)
 go_loopw [20] (fun bn wr=>∃(k:Nat),k≤2∧bn=I k∧Hid ((0<k→(0≤ap∧ap<m.accts.length∧0≤aw∧∀x,m.accts[ap.toNat]?=some x→aw<x.cash.length))∧(1<k→(0≤au∧au<m.accts.length∧0≤aw∧∀x,m.accts[au.toNat]?=some x→aw<x.cash.length)))∧wr=W2) (fun bn _=>2-(intOf bn).toNat)
 case atStart=>exact⟨0,by decide,rfl,⟨fun h=>absurd h (Nat.lt_irrefl 0),fun h=>absurd h (by decide)⟩,rfl⟩
 case round=>
  obtain⟨k,hk,rfl,HK,cj⟩:=hrel
  subst cj
  rename World=>W2
  have ch:k=0∨k=1∨k=2:=Zly hk
  rcases ch with rfl|rfl|rfl
  ·obtain⟨X,Y,Z,aa,U,ab,ac,ad,ae,af,ag,ah,ai,aj,ak,al,am,ao,ay⟩:=aF.nine
   have R:=E.nine
   have cf:∀W:World,(Instr.index 162 (.agg #[I ap,I au]) (I 0)).run prog W=.ok (I ap) W:=fun _=>by kernel_rfl
   by_cases d1:ap<0
   ·go_upto_region 5 with(fail)
    clear X Y Z aa U ab ac ad ae af ag ah ai aj ak al am ao ay R
    go_wp2_with (refine wpList_store_row rfl 37 _ _ rfl bz zZ rfl rfl 37 zZ E ZaU (by rfl) (by simp[Value.oneCell']) ?_)
    obtain⟨V9,s⟩:=ExY (W2.setRow bz zZ)
    rw[←s]
    have N:=bkr E s
    have L:=blr C s G
    exact bodyPost_ret (Zaw (p:=10) (q:=11) results59 _ V9 bz 37 zZ (0,0) _ rfl N underlying37 rfl ZaU) rfl ⟨L,Za4,33,rfl,.inr (by decide)⟩
   by_cases d2:(m.accts.length:Int)≤ap
   ·go_upto_region 5 with(fail)
    clear X Y Z aa U ab ac ad ae af ag ah ai aj ak al am ao ay R
    go_wp2_with (refine wpList_store_row rfl 37 _ _ rfl bz zZ rfl rfl 37 zZ E ZaU (by rfl) (by simp[Value.oneCell']) ?_)
    obtain⟨V9,s⟩:=ExY (W2.setRow bz zZ)
    rw[←s]
    have N:=bkr E s
    have L:=blr C s G
    exact bodyPost_ret (Zaw (p:=10) (q:=11) results59 _ V9 bz 37 zZ (0,0) _ rfl N underlying37 rfl ZaU) rfl ⟨L,Za4,33,rfl,.inr (by decide)⟩
   obtain⟨q,hq⟩:∃q:Nat,ap=q:=ZaW (Int.not_lt.mp d1)
   subst hq
   have ax:q<m.accts.length:=Int.ofNat_lt.mp (Int.not_le.mp d2)
   obtain⟨a,hA,_,c0,c1,c2,c3⟩:=ZeT ((bt.below C).accts) ax
   rw[hA] at U
   have bg:(0:Int)≤(q:Int):=Int.natCast_nonneg q
   have bh:(q:Int)<(m.accts.length:Int):=Int.ofNat_lt.mpr ax
   obtain⟨cl,aq⟩:=ExY ((m.accts[q]).cash.length)
   rw[←aq] at c1
   have aK:Hid (∀x,m.accts[((q:Nat):Int).toNat]?=some x→x.cash.length=cl):=fun x hx=>by
    rw[Int.toNat_natCast,List.getElem?_eq_getElem ax] at hx
    cases hx
    exact aq.symm
   have cg:(0:Int)≤(cl:Int):=Int.natCast_nonneg cl
   clear aq hA
   by_cases d3:aw<0
   ·go_upto_region 7 with(fail)
    clear c0 c1 c2 c3 X Y Z aa U ab ac ad ae af ag ah ai aj ak al am ao ay R
    go_wp2_with (refine wpList_store_row rfl 37 _ _ rfl bz zZ rfl rfl 37 zZ E ZaU (by rfl) (by simp[Value.oneCell']) ?_)
    obtain⟨V9,s⟩:=ExY (W2.setRow bz zZ)
    rw[←s]
    have N:=bkr E s
    have L:=blr C s G
    exact bodyPost_ret (Zaw (p:=10) (q:=11) results59 _ V9 bz 37 zZ (0,0) _ rfl N underlying37 rfl ZaU) rfl ⟨L,Za4,30,rfl,.inr (by decide)⟩
   by_cases d4:(cl:Int)≤aw
   ·go_upto_region 7 with(fail)
    clear c0 c1 c2 c3 X Y Z aa U ab ac ad ae af ag ah ai aj ak al am ao ay R
    go_wp2_with (refine wpList_store_row rfl 37 _ _ rfl bz zZ rfl rfl 37 zZ E ZaU (by rfl) (by simp[Value.oneCell']) ?_)
    obtain⟨V9,s⟩:=ExY (W2.setRow bz zZ)
    rw[←s]
    have N:=bkr E s
    have L:=blr C s G
    exact bodyPost_ret (Zaw (p:=10) (q:=11) results59 _ V9 bz 37 zZ (0,0) _ rfl N underlying37 rfl ZaU) rfl ⟨L,Za4,30,rfl,.inr (by decide)⟩
   go_wp2
   exact⟨⟨1,by decide,rfl,⟨fun _=>⟨bg,bh,Int.not_lt.mp d3,fun x hx=>by rw[aK.out x hx];exact Int.not_le.mp d4⟩,fun h=>absurd h (by decide)⟩,trivial⟩,by decide⟩
  ·obtain⟨X,Y,Z,aa,U,ab,ac,ad,ae,af,ag,ah,ai,aj,ak,al,am,ao,ay⟩:=aF.nine
   have R:=E.nine
   have cf:∀W:World,(Instr.index 162 (.agg #[I ap,I au]) (I 1)).run prog W=.ok (I au) W:=fun _=>by kernel_rfl
   by_cases d1:au<0
   ·go_upto_region 5 with(fail)
    clear X Y Z aa U ab ac ad ae af ag ah ai aj ak al am ao ay R
    go_wp2_with (refine wpList_store_row rfl 37 _ _ rfl bz zZ rfl rfl 37 zZ E ZaU (by rfl) (by simp[Value.oneCell']) ?_)
    obtain⟨V9,s⟩:=ExY (W2.setRow bz zZ)
    rw[←s]
    have N:=bkr E s
    have L:=blr C s G
    exact bodyPost_ret (Zaw (p:=10) (q:=11) results59 _ V9 bz 37 zZ (0,0) _ rfl N underlying37 rfl ZaU) rfl ⟨L,Za4,33,rfl,.inr (by decide)⟩
   by_cases d2:(m.accts.length:Int)≤au
   ·go_upto_region 5 with(fail)
    clear X Y Z aa U ab ac ad ae af ag ah ai aj ak al am ao ay R
    go_wp2_with (refine wpList_store_row rfl 37 _ _ rfl bz zZ rfl rfl 37 zZ E ZaU (by rfl) (by simp[Value.oneCell']) ?_)
    obtain⟨V9,s⟩:=ExY (W2.setRow bz zZ)
    rw[←s]
    have N:=bkr E s
    have L:=blr C s G
    exact bodyPost_ret (Zaw (p:=10) (q:=11) results59 _ V9 bz 37 zZ (0,0) _ rfl N underlying37 rfl ZaU) rfl ⟨L,Za4,33,rfl,.inr (by decide)⟩
   obtain⟨q,hq⟩:∃q:Nat,au=q:=ZaW (Int.not_lt.mp d1)
   subst hq
   have ax:q<m.accts.length:=Int.ofNat_lt.mp (Int.not_le.mp d2)
   obtain⟨a,hA,_,c0,c1,c2,c3⟩:=ZeT ((bt.below C).accts) ax
   rw[hA] at U
   have bg:(0:Int)≤(q:Int):=Int.natCast_nonneg q
   have bh:(q:Int)<(m.accts.length:Int):=Int.ofNat_lt.mpr ax
   obtain⟨cl,aq⟩:=ExY ((m.accts[q]).cash.length)
   rw[←aq] at c1
   have aK:Hid (∀x,m.accts[((q:Nat):Int).toNat]?=some x→x.cash.length=cl):=fun x hx=>by
    rw[Int.toNat_natCast,List.getElem?_eq_getElem ax] at hx
    cases hx
    exact aq.symm
   have cg:(0:Int)≤(cl:Int):=Int.natCast_nonneg cl
   clear aq hA
   by_cases d3:aw<0
   ·go_upto_region 7 with(fail)
    clear c0 c1 c2 c3 X Y Z aa U ab ac ad ae af ag ah ai aj ak al am ao ay R
    go_wp2_with (refine wpList_store_row rfl 37 _ _ rfl bz zZ rfl rfl 37 zZ E ZaU (by rfl) (by simp[Value.oneCell']) ?_)
    obtain⟨V9,s⟩:=ExY (W2.setRow bz zZ)
    rw[←s]
    have N:=bkr E s
    have L:=blr C s G
    exact bodyPost_ret (Zaw (p:=10) (q:=11) results59 _ V9 bz 37 zZ (0,0) _ rfl N underlying37 rfl ZaU) rfl ⟨L,Za4,30,rfl,.inr (by decide)⟩
   by_cases d4:(cl:Int)≤aw
   ·go_upto_region 7 with(fail)
    clear c0 c1 c2 c3 X Y Z aa U ab ac ad ae af ag ah ai aj ak al am ao ay R
    go_wp2_with (refine wpList_store_row rfl 37 _ _ rfl bz zZ rfl rfl 37 zZ E ZaU (by rfl) (by simp[Value.oneCell']) ?_)
    obtain⟨V9,s⟩:=ExY (W2.setRow bz zZ)
    rw[←s]
    have N:=bkr E s
    have L:=blr C s G
    exact bodyPost_ret (Zaw (p:=10) (q:=11) results59 _ V9 bz 37 zZ (0,0) _ rfl N underlying37 rfl ZaU) rfl ⟨L,Za4,30,rfl,.inr (by decide)⟩
   go_wp2
   exact⟨⟨2,by decide,rfl,⟨fun _=>HK.1 (by decide),fun _=>⟨bg,bh,Int.not_lt.mp d3,fun x hx=>by rw[aK.out x hx];exact Int.not_le.mp d4⟩⟩,trivial⟩,by decide⟩
  ·have aL:=aF.nine
   have R:=E.nine
   obtain⟨f0,f1,ca,f2⟩:=HK.1 (by decide)
   obtain⟨t0,t1,_,t2⟩:=HK.2 (by decide)
   obtain⟨q,hq⟩:=ZaW f0
   subst hq
   obtain⟨z,hz⟩:=ZaW t0
   subst hz
   obtain⟨c,hc⟩:=ZaW ca
   subst hc
   rw[Int.toNat_natCast] at f2 t2
   have bW:=Hi f2
   have bZ:=Hi t2
   have ax:q<m.accts.length:=Int.ofNat_lt.mp f1
   have bM:z<m.accts.length:=Int.ofNat_lt.mp t1
   have bx:=Hi ax
   have bC:=Hi bM
   clear f2 t2 f1 t1 ax bM HK
   go_wp2_with fail
   refine(bQ.out _ C).mono ?_
   rintro e W3 ⟨m2,rfl,aR,J,hb⟩
   have aD:=Hi aR
   have bi:=J
   have bw:Hid (Zaa W3 w.heap.size m2):=⟨Zap J.curs C.size,Zap J.unders C.size,Zap J.instrs C.size,Zap J.accts C.size,Zap J.poss C.size,Zap J.orders C.size,Zap J.avail C.size,Zap J.locs C.size,fun a ha=>⟨Zap (J.cash a ha).1 C.size,(J.cash a ha).2⟩,J.apart,J.away,J.short⟩
   clear aR J bi
   have bs:=blT C hb
   have bE:=bkN aF hb
   have a4:=bkN E hb
   clear aL R
   clear hb
   have aL:=bE.nine
   have R:=a4.nine
   dsimp only
   clear aL R
   obtain⟨an,aV⟩:=ExY m2.accts.length
   obtain⟨aA,be⟩:=ExY m2.sAcc.A
   have a8:m2.val=.agg (m2.ar_A (.slice aA an m2.sAcc.c)):=by rw[aV,be];rfl
   rw[a8]
   clear a8
   have bc:=Hi aV
   have bO:=Hi be
   have aE:Hid (an=m.accts.length):=by
    have:=congrArg List.length aD.accts
    simp only[List.length_map] at this
    show an=_
    rw[aV];exact this
   have aK:Hid (∀(j:Nat) (x:ZaA),m2.accts[j]?=some x→∃y,m.accts[j]?=some y∧x.cash.length=y.cash.length):=by
    intro j x hx
    have e:=congrArg (fun l=>l[j]?) aD.accts
    simp only[List.getElem?_map,hx,Option.map_some] at e
    obtain⟨y,hy,bj⟩:=Option.map_eq_some_iff.1 e.symm
    exact⟨y,hy,by have:=congrArg ZfL.cash bj;simp only[ZaA.p] at this;rw[this]⟩
   clear aV be
   obtain⟨W5,aU⟩:=ExY (W3.alloc (.cells (m2.ar_A (.slice aA an m2.sAcc.c)) 37))
   obtain⟨b4,bf⟩:=ExY W3.heap.size
   have aG:Bw W3 W5:=by rw[aU];exact(Below.refl _ _).alloc (Nat.le_refl _) _
   have bq:=blT bs aG
   have aS:=bkN a4 aG
   have ba:=bkW aU bf
   have bu:=boN bw aG
   clear aG
   go_upto_region 10 with(fail)
   rw[←aU,←bf]
   clear aU bf
   have aB:q<m2.accts.length:=by rw[←bc.out,aE.out];exact bx
   have a9:z<m2.accts.length:=by rw[←bc.out,aE.out];exact bC
   have aY:c<(m2.accts[q]).cash.length:=by
    obtain⟨y,hy,e⟩:=aK.out q _ (List.getElem?_eq_getElem aB)
    rw[e];exact Int.ofNat_lt.mp (bW.out y hy)
   obtain⟨g,g1,hA,bH,c1,c2,f2,cc,cn,aO⟩:=ZgB bu aB aY
   have cb:aA=some (Aq g 0):=by rw[bO.out];exact hA
   subst cb
   obtain⟨cl,aq⟩:=ExY ((m2.accts[q]).cash.length)
   obtain⟨y1,bK⟩:=ExY ((m2.accts[q]).cash.getD c 0)
   obtain⟨ck,a6⟩:=ExY ((m2.accts[q]).c)
   rw[←aq,←a6] at c1
   rw[←bK] at c2
   have j0:(0:Int)≤(q:Int):=Int.natCast_nonneg q
   have j1:(q:Int)<(an:Int):=by rw[aE.out];exact Int.ofNat_lt.mpr bx
   have j2:(0:Int)≤(c:Int):=Int.natCast_nonneg c
   have j3:(c:Int)<(cl:Int):=by rw[aq];exact Int.ofNat_lt.mpr aY
   have bB:=Hi (fun W=>ZdY y1 amount W)
   obtain⟨⟨x,ex⟩,hx⟩:∃p,p=ZhA y1 amount:=⟨_,rfl⟩
   rw[←hx] at bB
   obtain⟨W6,aH⟩:=ExY (W5.setCell ⟨g1,c,none⟩ (I x))
   obtain⟨m3,aJ⟩:∃m3:Zab,m3={m2 with accts:=m2.accts.set q {m2.accts[q] with cash:=(m2.accts[q]).cash.set c x}}:=⟨_,rfl⟩
   have bv:Hid (Zaa W6 w.heap.size m3):=by rw[aH,aJ];exact Zaa.setCash bu aB bH aY
   have br:Hid (Bw w W6):=by rw[aH];exact bq.setCell (p:=Aq g1 c) cc _
   have aT:Hid (Bk W6 bz 37 zZ):=by rw[aH];exact aS.far (p:=Aq g1 c) (aS.ne aO (by decide)) _
   have bb:Hid (Bk W6 b4 37 (m2.ar_A (.slice (some (Aq g 0)) an m2.sAcc.c))):=by rw[aH];exact ba.far (p:=Aq g1 c) (ba.ne aO (by decide)) _
   have bA:Hid (Zbi m m3):=by rw[aJ];exact Zbi.setCash aD.c aB
   have bF:m3.accts.length=m2.accts.length:=by rw[aJ];exact List.length_set ..
   have bG:m3.sAcc=m2.sAcc:=by rw[aJ]
   have b0:Hid (m3.val=.agg (m2.ar_A (.slice (some (Aq g 0)) an m2.sAcc.c))):=by
    show m3.val=_
    have:m3.val=m2.val:=by rw[aJ];unfold Zab.val Zab.cs;dsimp only;rw[List.length_set]
    rw[this,bc.out]
    unfold Zab.val Zab.cs
    rw[hA]
   have aC:z<m3.accts.length:=by rw[bF];exact a9
   have aZ:c<(m3.accts[z]).cash.length:=by
    have e:=congrArg (fun l=>l[z]?) bA.accts
    simp only[List.getElem?_map,List.getElem?_eq_getElem aC,Option.map_some] at e
    obtain⟨y,hy,bj⟩:=Option.map_eq_some_iff.1 e.symm
    have h1:=bZ.out y hy
    have h2:=congrArg (fun p:Int×Nat×Bool×Int=>p.2.1) bj
    simp only[ZaA.q] at h2
    rw[←h2]
    exact Int.ofNat_lt.mp h1
   obtain⟨g',g2,bI,bJ,d1,d2,e2,cd,co,aP⟩:=ZgB bv aC aZ
   have ce:g=g':=congrArg Addr.block (Option.some.inj (hA.symm.trans (by rw[←bG];exact bI)))
   subst ce
   obtain⟨b9,aQ⟩:=ExY ((m3.accts[z]).cash.length)
   obtain⟨y2,bL⟩:=ExY ((m3.accts[z]).cash.getD c 0)
   obtain⟨cm,a7⟩:=ExY ((m3.accts[z]).c)
   rw[←aQ,←a7] at d1
   rw[←bL] at d2
   have k0:(0:Int)≤(z:Int):=Int.natCast_nonneg z
   have k1:(z:Int)<(an:Int):=by rw[aE.out];exact Int.ofNat_lt.mpr bC
   have k3:(c:Int)<(b9:Int):=by rw[aQ];exact Int.ofNat_lt.mpr aZ
   have bo:=Hi (fun W=>Zc1 y2 amount W)
   obtain⟨⟨u,eu⟩,hu⟩:∃p,p=ZfM y2 amount:=⟨_,rfl⟩
   rw[←hu] at bo
   obtain⟨W7,aI⟩:=ExY (W6.setCell ⟨g2,c,none⟩ (I u))
   obtain⟨m4,a2⟩:∃m4:Zab,m4={m3 with accts:=m3.accts.set z {m3.accts[z] with cash:=(m3.accts[z]).cash.set c u}}:=⟨_,rfl⟩
   have bX:Hid (Zaa W7 w.heap.size m4):=by rw[aI,a2];exact Zaa.setCash bv aC bJ aZ
   have bP:Hid (Bw w W7):=by rw[aI];exact br.setCell (p:=Aq g2 c) cd _
   have bd:Hid (Bk W7 bz 37 zZ):=by rw[aI];exact aT.far (p:=Aq g2 c) (aT.ne aP (by decide)) _
   have bN:Hid (Bk W7 b4 37 (m2.ar_A (.slice (some (Aq g 0)) an m2.sAcc.c))):=by rw[aI];exact bb.far (p:=Aq g2 c) (bb.ne aP (by decide)) _
   have bY:Hid (Zbi m m4):=by rw[a2];exact Zbi.setCash bA aC
   have b6:Hid (m4.val=.agg (m2.ar_A (.slice (some (Aq g 0)) an m2.sAcc.c))):=by
    show m4.val=_
    have:m4.val=m3.val:=by rw[a2];unfold Zab.val Zab.cs;dsimp only;rw[List.length_set]
    rw[this];exact b0
   have b7:=Hi aH
   have b8:=Hi aI
   have bR:=Hi d1
   have bS:=Hi d2
   have bT:=Hi e2
   clear a6 a7 hx hu aH aI aJ a2 bF bG aC aZ hA bH bI bJ aO aP aq aQ bK bL aB a9 aY d1 d2 e2
   have az:=ba.nine
   go_wp2_with fail
   refine Cq (bB.out _) ?_
   dsimp only
   by_cases a1:ex=0
   rotate_left
   ·have bp:(ex != 0)=true:=by simpa using a1
    have bV:=Hi a1
    clear a1
    go_upto_region 12 with(fail)
    clear az c1 c2 f2
    go_wp2_with (refine wpList_store_row rfl 37 _ _ rfl bz zZ rfl rfl 37 zZ aS ZaU (by rfl) (by simp[Value.oneCell']) ?_)
    obtain⟨V9,s⟩:=ExY (W5.setRow bz zZ)
    rw[←s]
    have N:=bkr aS s
    have L:=blr bq s G
    exact bodyPost_ret (Zaw (p:=10) (q:=11) results59 _ V9 bz 37 zZ (0,0) _ rfl N underlying37 rfl ZaU) rfl ⟨L,Za4,ex,rfl,.inr bV⟩
   subst a1
   go_upto_region 14 with(fail)
   rw[←b7.out]
   clear az c1 c2 f2
   have az:=bb.nine
   have d1:=bR.out
   have d2:=bS.out
   have e2:=bT.out
   go_wp2_with fail
   refine Cq (bo.out _) ?_
   dsimp only
   by_cases a0:eu=0
   rotate_left
   ·have bp:(eu != 0)=true:=by simpa using a0
    have bU:=Hi a0
    clear a0
    go_upto_region 16 with(fail)
    clear az d1 d2 e2
    go_wp2_with (refine wpList_store_row rfl 37 _ _ rfl bz zZ rfl rfl 37 zZ aT ZaU (by rfl) (by simp[Value.oneCell']) ?_)
    obtain⟨V9,s⟩:=ExY (W6.setRow bz zZ)
    rw[←s]
    have N:=bkr aT s
    have L:=blr br s G
    exact bodyPost_ret (Zaw (p:=10) (q:=11) results59 _ V9 bz 37 zZ (0,0) _ rfl N underlying37 rfl ZaU) rfl ⟨L,Za4,eu,rfl,.inr bU⟩
   subst a0
   go_upto_region 18 with(fail)
   rw[←b8.out]
   clear az d1 d2 e2
   have zi:(prog.info? 37).map (·.size)=some ((m2.ar_A (.slice (some (Aq g 0)) an m2.sAcc.c)):Array Value).size:=by kernel_rfl
   have ZI:=Hi zi
   clear zi
   go_wp2_with (first|refine wpList_load_row rfl 37 _ rfl b4 rfl 37 (m2.ar_A (.slice (some (Aq g 0)) an m2.sAcc.c)) (0,0) _ bN underlying37 rfl ZI ?_|refine wpList_store_row rfl 37 _ _ rfl bz (m2.ar_A (.slice (some (Aq g 0)) an m2.sAcc.c)) rfl rfl 37 zZ bd ZI (by rfl) (by simp[Value.oneCell']) ?_)
   obtain⟨V9,s⟩:=ExY (W7.setRow bz (m2.ar_A (.slice (some ⟨g,0,none⟩) an m2.sAcc.c)))
   rw[←s]
   have N:=bkr bd s
   have L:=blr bP s G
   have ci:Zaa V9 w.heap.size m4:=by rw[s];exact bX.rowFar bd (by decide) _
   exact bodyPost_ret (Zaw (p:=10) (q:=11) results59 _ V9 bz 37 (m2.ar_A (.slice (some (Aq g 0)) an m2.sAcc.c)) (0,0) _ rfl N underlying37 rfl ZI) rfl ⟨L,m4,0,by rw[b6.out];rfl,.inl ⟨rfl,bY,ci⟩⟩
def Pan(T:Nat)(er:Int):Ending:=.panicked [{v:=.iface T (.agg #[I er]),recovered:=false}]
def Zie(T:Nat)(ok:Prop)(e:Ending):Prop:=(e=.returned (.tuple #[])∧ok)∨(∃er:Int,er≠0∧e=Pan T er∧¬ok)
theorem Zie.yes{T:Nat}{ok:Prop}(h:ok):Zie T ok (.returned (.tuple #[])):=.inl ⟨rfl,h⟩
theorem Zie.no{T:Nat}{ok:Prop}{er:Int}(s:er≠0)(h:¬ok):Zie T ok (.panicked [{v:=.iface T (.agg #[I er]),recovered:=false}]):=.inr ⟨er,s,rfl,h⟩
def ZaZ(m:Zab)(acct:Int):Prop:=Za2 m=true∧1<acct∧acct<m.accts.length
theorem ZdZ(m:Zab)(acct:Int)(w:World)(Z:Zay w w.heap.size m):Calls prog 45 #[m.val,I acct] w fun e w'=>Bw w w'∧Zie 144 (ZaZ m acct) e:=by
 show Calls prog 45 #[.agg m.ar,I acct] w fun e w'=>Bw w w'∧Zie 144 (ZaZ m acct) e
 have U:Hid (∀V,Bw w V→Calls prog 103 #[.agg m.ar] V fun e w'=>e=.returned (.bool (Za2 m))∧Bw V w'):=fun V hV=>good_any m V ((Z.below hV).mono hV.size)
 obtain⟨gd,R⟩:=ExY (Za2 m)
 rw[←R] at U
 have G:=Hi R
 have i0:(0:Int)≤(m.accts.length:Int):=Int.natCast_nonneg _
 clear Z R
 obtain⟨W1,C⟩:=ExY (w.alloc (.cells m.ar 37))
 obtain⟨bl,N⟩:=ExY w.heap.size
 have E:=blB C
 have J:=bkW C N
 go_enter func45,ntmps45
 go_upto_region 1 with(fail)
 rw[←C,←N]
 clear C N
 have L:=J.nine
 go_wp2_with fail
 refine((fun _=>U.out _ E) W1).mono ?_
 rintro e W2 ⟨rfl,hb⟩
 have s:=blT E hb
 have X:=bkN J hb
 clear L
 clear hb
 have L:=X.nine
 dsimp only
 cases gd with
 |false=>
  have z:Hid (¬ZaZ m acct):=fun h=>by have:=G.out;rw[h.1] at this;cases this
  go_wp2_with fail
  refine Cq (Zav 43 _) ?_
  dsimp only
  go_wp2
  exact⟨rfl,s,Zie.no (by decide) z⟩
 |true=>
 go_wp2_with fail
 refine Cq (Za0 43 _) ?_
 dsimp only
 by_cases d1:1<acct
 rotate_left
 ·have z:Hid (¬ZaZ m acct):=fun h=>d1 h.2.1
  go_wp2_with fail
  refine Cq (Zav 33 _) ?_
  dsimp only
  go_wp2
  exact⟨rfl,s,Zie.no (by decide) z⟩
 by_cases d2:acct<m.accts.length
 rotate_left
 ·have z:Hid (¬ZaZ m acct):=fun h=>d2 h.2.2
  go_wp2_with fail
  refine Cq (Zav 33 _) ?_
  dsimp only
  go_wp2
  exact⟨rfl,s,Zie.no (by decide) z⟩
 have Y:Hid (ZaZ m acct):=⟨G.symm,d1,d2⟩
 go_wp2_with fail
 refine Cq (Za0 33 _) ?_
 dsimp only
 go_wp2
 go_end0
 exact⟨s,Zie.yes Y⟩
def Zd5(T:Nat)(R:Zab→Prop)(bad:Prop)(B:Nat)(e:Ending)(w':World):Prop:=(∃m',e=.returned m'.val∧Zaa w' B m'∧R m')∨(∃er:Int,er≠0∧e=Pan T er∧bad)
theorem Zd5.yes{T:Nat}{R:Zab→Prop}{bad:Prop}{B:Nat}{w':World}{v:Value}(s:Zab)(E:s.val=v)(z:Zaa w' B s)(C:R s):Zd5 T R bad B (.returned v) w':=.inl ⟨s,by rw[E],z,C⟩
theorem Zd5.no{T:Nat}{R:Zab→Prop}{bad:Prop}{B:Nat}{w':World}{er:Int}(s:er≠0)(h:bad):Zd5 T R bad B (.panicked [{v:=.iface T (.agg #[I er]),recovered:=false}]) w':=.inr ⟨er,s,rfl,h⟩
theorem Zdi(m:Zab)(w:World)(hm:Zay w w.heap.size m)(aj:Gl w):Calls prog 48 #[m.val] w fun e w'=>Bw w w'∧Zd5 144 (Zbo m) (Zb8 m) w.heap.size e w':=by
 show Calls prog 48 #[.agg m.ar] w fun e w'=>Bw w w'∧Zd5 144 (Zbo m) (Zb8 m) w.heap.size e w'
 have au:Hid (∀V,Bw w V→Calls prog 110 #[.agg m.ar] V (Zdw m V)):=fun V hV=>Zfo m V ((hm.below hV).mono hV.size) (aj.below hV aj.lt)
 clear hm aj
 obtain⟨W1,G⟩:=ExY (w.alloc (.cells m.ar 37))
 obtain⟨bl,R⟩:=ExY w.heap.size
 have Y:=blB G
 have an:=bkW G R
 obtain⟨W2,J⟩:=ExY (W1.alloc (.cells zZ 37))
 obtain⟨bz,U⟩:=ExY W1.heap.size
 have z:=blA Y J
 have ag:=blZ Y U
 have aa:=bkA an J
 have ab:=bkW J U
 have ae:bz=bl+1:=by rw[U,G,World.size_alloc,←R]
 go_enter func48,ntmps48
 go_upto_region 1 with(fail)
 rw[←G,←R,←J,←ae]
 clear G R ae J U
 have C:=aa.nine
 have E:=ab.nine
 go_wp2_with fail
 refine(au.out _ z).mono ?_
 have aw:=Hi z.size
 rintro e W3 ⟨hb,m2,er,rfl,hc⟩
 have HC:=Hi hc
 clear hc
 have am:=blT z hb
 have ao:=bkN aa hb
 have ac:=bkN ab hb
 clear C E
 clear hb
 have C:=ao.nine
 have E:=ac.nine
 clear C E
 dsimp only
 have af:m2.val=.agg m2.ar:=rfl
 rw[af]
 clear af
 obtain⟨W5,N⟩:=ExY (W3.alloc (.cells m2.ar 37))
 obtain⟨b4,ai⟩:=ExY W3.heap.size
 have s:Bw W3 W5:=by rw[N];exact(Below.refl _ _).alloc (Nat.le_refl _) _
 have ak:=blT am s
 have ah:=bkN ac s
 have ap:=bkW N ai
 have aq:=Hi s
 clear s
 go_upto_region 2 with(fail)
 rw[←N,←ai]
 clear N ai
 by_cases X:er=0
 rotate_left
 ·have ad:Zb8 m:=by
   rcases HC.out with h|h
   ·exact absurd h.1 X
   ·exact h.2
  have al:=Hi ad
  clear ad
  go_wp2_with fail
  refine Cq (ZbJ er X _) ?_
  dsimp only
  go_wp2
  exact⟨rfl,ak,Zd5.no X al⟩
 subst X
 have hrel:Zbo m m2∧Zaa W5 w.heap.size m2:=by
  rcases HC.out with h|h
  ·exact⟨h.2.1,(h.2.2.below aq).mono aw⟩
  ·exact absurd rfl h.1
 have Z:=Hi hrel
 clear hrel
 go_wp2_with fail
 refine Cq (ZbZ _) ?_
 dsimp only
 go_wp2_with (first|refine wpList_load_row rfl 37 _ rfl b4 rfl 37 m2.ar (0,0) _ ap underlying37 rfl ZaU ?_|refine wpList_store_row rfl 37 _ _ rfl bz m2.ar rfl rfl 37 zZ ah ZaU (by rfl) (by simp[Value.oneCell']) ?_)
 obtain⟨V9,L⟩:=ExY (W5.setRow bz m2.ar)
 rw[←L]
 have az:=bkr ah L
 have ax:=blr ak L ag
 have ay:Zaa V9 w.heap.size m2:=by rw[L];exact Z.2.rowFar ah (by decide) _
 exact bodyPost_ret (results_cell_row (p:=2) results48 _ V9 bz 37 m2.ar (0,0) _ rfl az underlying37 rfl ZaU) rfl ⟨ax,Zd5.yes m2 rfl ay Z.1⟩
end Go.Proofs.YtdefojlkofnloaaGreatDoor
