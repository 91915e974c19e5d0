/- A part of the proof of CoreOnce: for every input, no condition. -/
import Derived.Test.YtdefojlkofnloaaGreatDoorZb19
set_option maxRecDepth 100000
set_option maxHeartbeats 8000000
set_option linter.unusedVariables false
set_option linter.unusedSimpArgs false
namespace Go.Proofs.YtdefojlkofnloaaGreatDoor
open Go.RowKit Go.Proofs.Tryz
noncomputable def Zi6(m:Zab)(below:List Int)(under:Int)(s:Nat):List P.Lc→Int→Option Int
 |[],all=>some all
 |p::l,all=>
  if(m.instrs.getD p.instr.toNat default).under==under&&Zk7 below p.acct then
   (ZfP m p.instr.toNat p.qty s (m.instrs.getD p.instr.toNat default).mark).bind fun g=>(okO (ZhA all g)).bind (Zi6 m below under s l)
  else Zi6 m below under s l all
noncomputable def ZfN(m:Zab)(below:List Int)(under:Int)(s:Nat):List O.Lc→Int→Option Int
 |[],all=>some all
 |p::l,all=>
  if(m.instrs.getD p.instr.toNat default).under==under&&Zk7 below p.acct then
   (ZfP m p.instr.toNat p.qty s p.price).bind fun g=>(okO (ZhA all (min g 0))).bind (ZfN m below under s l)
  else ZfN m below under s l all
theorem Zcj{w W:World}{row:Option Nat}(h:w.grownBy W row)(n:Nat):w.grownBy (W.drewN n) row:=⟨h.os,h.tape,h.output,h.size,h.block⟩
theorem ZaE.drewN{w:World}{bm:Nat}{m:Zab}(h:ZaE w bm m)(n:Nat):ZaE (w.drewN n) bm m:=h
theorem ZdS{w W:World}{row:Option Nat}(h:w.grownBy W row):w.grownBy W.drew row:=⟨h.os,h.tape,h.output,h.size,h.block⟩
theorem ZaE.drew{w:World}{bm:Nat}{m:Zab}(h:ZaE w bm m):ZaE w.drew bm m:=h
theorem ZaW{x:Int}(h:0≤x):∃q:Nat,x=q:=⟨x.toNat,by omega⟩
theorem ZaQ{k:Nat}(h:k<1000000):wrap64 ((k:Int)+1)=(k:Int)+1:=by unfold wrap64;omega
noncomputable def ZeH(m:Zab)(below:List Int)(under:Int)(s:Nat):Option Int:=(Zi6 m below under s m.poss 0).bind (ZfN m below under s m.orders)
theorem Zlg(m:Zab)(bs bm:Nat)(bA:Option Addr)(bc:Nat)(below:List Int)(under:Int)(s:Nat)(w:World)(hs:Zdx w bs bm m bA bc below)(ho:ZbT m)(aZ:s<21)(aX:below.length≤1000000):
 Calls prog 208 #[Pt bs,I under,I s] w fun e w'=>Zc9 (ZeH m below under s) e∧w.grownBy w' (some bm)∧ZaE w' bm m:=by
 obtain⟨r,hr⟩:=ExY (ZeH m below under s)
 rw[←hr]
 unfold ZeH at hr
 have bd:Hid (∀W,w.grownBy W (some bm)→ZaE W bm m→∀(k:Nat),k<m.instrs.length→∀E fr,Calls prog 218 #[Pt bs,I k,I E,I s,I fr] W fun e w'=>Zc9 (ZfP m k E s fr) e∧W.grownBy w' (some bm)∧ZaE w' bm m):=
  fun W hW hM k hk E fr=>Zk3 m bs bm bA bc below k s E fr W (hs.turn hW hM) ho hk aZ
 have an:=Hi hs
 have be:=Hi ho
 have a9:=Hi aX
 have bf:Hid (m.poss.length≤64∧m.orders.length≤32):=⟨ho.lens.2.2.2.2.1,ho.lens.2.2.2.2.2⟩
 obtain⟨pn,aW⟩:=ExY m.poss.length
 obtain⟨pA,a6⟩:=ExY m.sPos.A
 have x5:w.cell? (Aq bs 5)=some (.slice pA pn m.sPos.c):=by rw[a6,aW];exact hs.bk.cell 5
 have bo:Hid (Rd w w.heap.size 3 pA pn (P.lcs m.poss)):=by rw[a6,aW];exact hs.led.poss
 have aQ:=Hi aW
 have HX:Hid (∀V,w.grownBy V (some bm)→ZaE V bm m→V.cell? (Aq bs 3)=some (.slice m.sIns.A m.instrs.length m.sIns.c)∧V.cell? (Aq bs 6)=some (.slice m.sOrd.A m.orders.length m.sOrd.c)∧V.cell? (Aq bs 9)=some (.slice bA below.length bc)∧bs<V.heap.size):=fun V hV hM=>
  ⟨(hs.turn hV hM).bk.cell 3,(hs.turn hV hM).bk.cell 6,(hs.turn hV hM).bk.cell 9,(hs.turn hV hM).bk.lt⟩
 have aT:r=(Zi6 m below under s (m.poss.drop 0) 0).bind (ZfN m below under s m.orders):=hr
 have a2:=Hi aT
 have bl:=Hi hs.mp
 have br:=hs.bk.lt
 have i0:(0:Int)≤(pn:Int):=by omega
 clear hr aT hs ho aZ aX a6 aW
 go_enter func208,ntmps208
 go_upto_region 3 with(fail)
 clear x5
 go_loopw [7,18] (fun v7 a7 wr=>∃(k:Nat) (C:Int),k≤pn∧v7=I C∧a7=I k∧Hid (r=(Zi6 m below under s (m.poss.drop k) C).bind (ZfN m below under s m.orders))∧Hid (w.grownBy wr (some bm)∧ZaE wr bm m)) (fun _ a7 _=>pn-(intOf a7).toNat)
 case atStart=>exact⟨0,0,Nat.zero_le _,rfl,rfl,a2,ZaG _ _,bl⟩
 case round=>
  obtain⟨k,C,hk,rfl,rfl,HP,HW⟩:=hrel
  rename World=>V
  by_cases aa:k<pn
  ·have aF:k<m.poss.length:=by have:=aQ.out;omega
   have ab:Hid (w.grownBy V (some bm)):=HW.1
   have ag:Hid (ZaE V bm m):=HW.2
   obtain⟨a,hA,_,c0,c1,c2⟩:=P.rd_loc (bo.turn an.mp ab) aF
   obtain⟨x,hx⟩:=ExY (m.poss[k])
   have aU:x∈m.poss:=by rw[hx];exact List.getElem_mem _
   have ad:m.poss.drop k=x::m.poss.drop (k+1):=by rw[hx];exact List.drop_eq_getElem_cons aF
   rw[←hx] at c0 c1 c2
   have aE:=be.pos x aU
   obtain⟨z,aI,E⟩:=x
   dsimp only at c0 c1 c2 aE
   obtain⟨q,rfl⟩:∃q:Nat,aI=q:=⟨aI.toNat,by omega⟩
   have ak:q<m.instrs.length:=by omega
   obtain⟨ai,bg,_,d0,d1,d2,d3,d4,d5,d6⟩:=Zds ((an.turn ab ag).led.instrs) ak
   have aY:m.instrs.getD q default=m.instrs[q]:=by simp[ak]
   obtain⟨mark,aG⟩:=ExY ((m.instrs[q]).mark)
   rw[←aG] at d6
   obtain⟨b1,aB⟩:=ExY (((m.instrs.getD q default).under==under))
   obtain⟨b2,aC⟩:=ExY (Zk7 below z)
   have hp:=HP.out
   rw[ad,Zi6] at hp
   dsimp only at hp
   rw[Int.toNat_natCast,←aB,←aC,aY,←aG] at hp
   have az:=Hi hp
   have aR:=Hi ak
   have wk:wrap64 ((k:Int)+1)=(k:Int)+1:=ZaQ (Nat.lt_of_lt_of_le aa (aQ.out▸Nat.le_trans bf.out.1 (by decide)))
   have WK:=Hi wk
   have a1:=Hi aa
   have j0:(0:Int)≤(k:Int):=Int.natCast_nonneg k
   have j1:(k:Int)<(pn:Int):=Int.ofNat_lt.mpr aa
   have j2:(0:Int)≤(q:Int):=Int.natCast_nonneg q
   have j3:(q:Int)<(m.instrs.length:Int):=Int.ofNat_lt.mpr ak
   subst hA
   obtain⟨W1,ah⟩:=ExY (V.alloc (.cells #[I z,I q,I E] 50))
   obtain⟨b9,aD⟩:=ExY V.heap.size
   have h9:Bk W1 b9 50 #[I z,I q,I E]:=by rw[ah,aD];exact Bk.new _ _ _
   have Y:Bw V W1:=by rw[ah];exact(Below.refl _ V).alloc (Nat.le_refl _) _
   have L:Hid (w.grownBy W1 (some bm)):=Zae ab Y ab.size
   have N:Hid (ZaE W1 bm m):=ag.keep (Y.block _ ag.lt)
   have H9:=Hi h9
   have ay:Hid (∀n,Calls prog 217 #[Pt bs,I q,I under] (W1.drewN n) fun e w'=>e=.returned (.bool b1)∧w'=W1.drewN n):=fun n=>by
    have al:=an.turn L N
    rw[aB]
    exact Ziu m bs _ _ q under (W1.drewN n) aR (al.bk.drewN n) (al.led.instrs.drewN n)
   have aM:Hid (∀n,Calls prog 216 #[.slice bA below.length bc,I z] (W1.drewN n) fun e w'=>e=.returned (.bool b2)∧w'=W1.drewN n):=fun n=>by
    have al:=an.turn L N
    rw[aC]
    exact Zgn bA below.length bc below z (W1.drewN n) (ZbR a9) (al.bel.drewN n)
   have a0:Hid (V.cell? ⟨(ai.add (q*7)).block,(ai.add (q*7)).off+6,none⟩=some (I mark)∧m.sIns.A=some ai):=⟨d6,bg⟩
   have ba:=Hi Y
   clear hx aU ad aE ak aY aG aB aC hp wk aa d0 d1 d2 d3 d4 d5 d6 bg h9 Y HP HW aF
   go_upto_region 5 with(fail)
   rw[←ah,←aD]
   clear ah aD c0 c1 c2
   obtain⟨x3,x6,x9,aV⟩:=HX.out W1 L N
   obtain⟨z0,z1,z2,f0,f1,f2,l9⟩:=H9.three
   have ap:∀(W2:World) (ac:Int),r=(Zi6 m below under s (m.poss.drop (k+1)) ac).bind (ZfN m below under s m.orders)→w.grownBy W2 (some bm)→ZaE W2 bm m →
    (∃(ae:Nat) (G:Int),ae≤pn∧Value.int .i64 ac=Value.int .i64 G∧Value.int .i64 (wrap64 ((k:Int)+1))=Value.int .i64 (ae:Int)∧Hid (r=(Zi6 m below under s (m.poss.drop ae) G).bind (ZfN m below under s m.orders))∧Hid (w.grownBy W2 (some bm)∧ZaE W2 bm m)) ∧
     pn-(intOf (Value.int .i64 (wrap64 ((k:Int)+1)))).toNat<pn-(intOf (Value.int .i64 (k:Int))).toNat:=
    fun W2 ac h1 h2 h3=>ZdL (R:=fun ae G=>Hid (r=(Zi6 m below under s (m.poss.drop ae) G).bind (ZfN m below under s m.orders))) a1 WK h1 ⟨h2,h3⟩
   have aq:=Hi ap
   clear ap
   cases b1 with
   |false=>
    have J:r=(Zi6 m below under s (m.poss.drop (k+1)) C).bind (ZfN m below under s m.orders):=by rw[az.out];rfl
    have aA:=Hi J
    clear J
    go_quiet ((go_at_call 217;exact Calls.quiet_of_same (ay.out _)))
    clear x3 x6 x9 z0 z1 z2 f0 f1 f2
    go_wp2
    exact aq.out _ _ aA (Zcj L _) (N.drewN _)
   |true=>
    cases b2 with
    |false=>
     have J:r=(Zi6 m below under s (m.poss.drop (k+1)) C).bind (ZfN m below under s m.orders):=by rw[az.out];rfl
     have aA:=Hi J
     clear J
     go_quiet ((first|(go_at_call 217;exact Calls.quiet_of_same (ay.out _))|(go_at_call 216;exact Calls.quiet_of_same (aM.out _))))
     clear x3 x6 x9 z0 z1 z2 f0 f1 f2
     go_wp2
     exact aq.out _ _ aA (Zcj L _) (N.drewN _)
    |true=>
     have J:r=((ZfP m q E s mark).bind fun g=>(okO (ZhA C g)).bind (Zi6 m below under s (m.poss.drop (k+1)))).bind (ZfN m below under s m.orders):=by rw[az.out];rfl
     have aO:=Hi J
     clear J
     go_quiet ((first|(go_at_call 217;exact Calls.quiet_of_same (ay.out _))|(go_at_call 216;exact Calls.quiet_of_same (aM.out _))))
     clear x3 x6 x9 z0 z1 z2 f0 f1 f2
     obtain⟨W3,Z⟩:=ExY ((W1.drewN nq).drew)
     have aL:Hid (w.grownBy W3 (some bm)):=by rw[Z];exact ZdS (Zcj L _)
     have aw:Hid (ZaE W3 bm m):=by rw[Z];exact(N.drewN _).drew
     have bb:Hid (W3.grownBy W3 (some bm)):=ZaG _ _
     have HT:Hid (∀U,W3.grownBy U (some bm)→(fun U=>U.cell? (Aq b9 1)=some (I q)∧U.cell? (Aq b9 2)=some (I E)∧U.cell? (Aq bs 3)=some (.slice (some ai) m.instrs.length m.sIns.c)∧U.cell? ⟨(ai.add (q*7)).block,(ai.add (q*7)).off+6,none⟩=some (I mark)) U):=by
      intro U hU
      have bp:Bk W3 b9 50 #[I z,I q,I E]:=by rw[Z];exact H9
      have bh:=bp.turn aw hU
      have bi:=(HX.out W3 aL aw).1
      rw[a0.2] at bi
      have bq:W3.cell? ⟨(ai.add (q*7)).block,(ai.add (q*7)).off+6,none⟩=some (I mark):=by
       rw[Z]
       exact(ba.cell (World.block_lt_of_cell? _ _ a0.1)).trans a0.1
      exact⟨bh.cell 1,bh.cell 2,ZbF bi aw hU,ZbF bq aw hU⟩
     go_upto_region 6 with(fail)
     refine rgM (fun U=>U.cell? (Aq b9 1)=some (I q)∧U.cell? (Aq b9 2)=some (I E)∧U.cell? (Aq bs 3)=some (.slice (some ai) m.instrs.length m.sIns.c)∧U.cell? ⟨(ai.add (q*7)).block,(ai.add (q*7)).off+6,none⟩=some (I mark)) 22 (by kernel_rfl) Z ?_
     clear Z
     refine tkM [0,1,2,3,4,5,6,7,8,9,10,11,12,13,14,15,16] (HT.out _ bb) (by kernel_rfl) (fun _ _ _ _ h=>h) ?_
     iterate 17 (refine ycM rfl (by rfl) (fun w h=>by go_simp<;>rfl) ?_;try simp only[Act.put,sA,sB,sC])
     refine onM 17 (by kernel_rfl) rfl fun K hK=>?_
     go_simp
     refine(bd.out _ aL aw q aR E mark).mono ?_
     rintro e W4 ⟨he,hg,hm⟩
     have au:Hid (w.grownBy W4 (some bm)):=Za6 aL hg
     have aJ:Hid (W3.grownBy W4 (some bm)):=hg
     have ax:=Hi hm
     clear hg hm
     obtain⟨ro,aH⟩:=ExY (ZfP m q E s mark)
     rw[←aH] at he
     have am:=Hi aH
     clear aH
     cases ro with
     |none=>
      obtain⟨er,a4,rfl⟩:=he
      dsimp only
      go_wp2
      exact⟨rfl,by rw[aO.out,←am.out];exact Zc9.none a4,au,ax⟩
     |some g=>
     have a3:e=.returned (I g):=he
     subst a3
     clear he
     dsimp only
     obtain⟨⟨d,ed⟩,hd⟩:∃p,p=ZhA C g:=⟨_,rfl⟩
     have ao:=Hi (fun W=>ZdY C g W)
     rw[←hd] at ao
     have aP:Hid (r=((okO (d,ed)).bind (Zi6 m below under s (m.poss.drop (k+1)))).bind (ZfN m below under s m.orders)):=by show _=_;rw[aO.out,←am.out,hd];rfl
     clear hd
     refine hK.out _ _ (fun _=>HT.out _ aJ) ?_
     try simp only[Act.put,sA,sB,sC]
     refine onM 18 (by kernel_rfl) rfl fun K hK=>?_
     go_simp
     refine Cq (ao.out _) ?_
     dsimp only
     refine hK.out _ _ (fun _=>HT.out _ aJ) ?_
     try simp only[Act.put,sA,sB,sC]
     refine tkM [19,20] (HT.out _ aJ) (by kernel_rfl) (fun _ _ _ _ h=>h) ?_
     iterate 2 (refine ycM rfl (by rfl) (fun w h=>by go_simp<;>rfl) ?_;try simp only[Act.put,sA,sB,sC])
     refine onM 21 (by kernel_rfl) rfl fun K hK=>?_
     go_simp
     by_cases aj:ed=0
     rotate_left
     ·refine Cq (ZbS _ ed aj _) ?_
      dsimp only
      go_wp2
      exact⟨rfl,by rw[aP.out];unfold okO;rw[if_neg aj];exact Zc9.none aj,au,ax⟩
     subst aj
     refine Cq (Zcd _ _) ?_
     dsimp only
     refine hK.out _ _ (fun _=>HT.out _ aJ) ?_
     try simp only[Act.put,sA,sB,sC]
     refine onM 22 (by kernel_rfl) rfl fun K hK=>?_
     go_simp
     refine hK.out _ _ (fun h0=>Zac (by kernel_rfl) h0) ?_
     refine Zak (by kernel_rfl) ?_ _
     go_wp2
     exact aq.out _ _ (by rw[aP.out];rfl) au ax
  ·have aS:k=pn:=Nat.le_antisymm hk (Nat.le_of_not_lt aa)
   have ab:Hid (w.grownBy V (some bm)):=HW.1
   have ag:Hid (ZaE V bm m):=HW.2
   obtain⟨af,aK⟩:=ExY m.orders.length
   obtain⟨oA,a5⟩:=ExY m.sOrd.A
   obtain⟨x3,x6,x9,aV⟩:=HX.out V ab ag
   rw[←aK,←a5] at x6
   have bn:Hid (Rd w w.heap.size 5 oA af (O.lcs m.orders)):=by rw[a5,aK];exact an.led.orders
   have aN:=Hi aK
   have aT:r=ZfN m below under s (m.orders.drop 0) C:=by
    have h:=HP.out
    rw[aS,aQ.out,List.drop_length] at h
    exact h
   have a2:=Hi aT
   have i7:(0:Int)≤(af:Int):=Int.natCast_nonneg af
   clear aT aK a5 HP HW aS hk
   go_upto_region 9 with(fail)
   clear x3 x6 x9 aV
   go_loopw [7,65] (fun v7 a8 wr=>∃(k:Nat) (C:Int),k≤af∧v7=I C∧a8=I k∧Hid (r=ZfN m below under s (m.orders.drop k) C)∧Hid (w.grownBy wr (some bm)∧ZaE wr bm m)) (fun _ a8 _=>af-(intOf a8).toNat)
   case atStart=>exact⟨0,C,Nat.zero_le _,rfl,rfl,a2,ab,ag⟩
   case round=>
    obtain⟨k,C,hk,rfl,rfl,HP,HW⟩:=hrel
    rename World=>V
    by_cases aa:k<af
    ·have aF:k<m.orders.length:=by rw[←aN.out];exact aa
     have ab:Hid (w.grownBy V (some bm)):=HW.1
     have ag:Hid (ZaE V bm m):=HW.2
     obtain⟨a,hA,_,c0,c1,c2,c3,c4⟩:=O.rd_loc (bn.turn an.mp ab) aF
     obtain⟨x,hx⟩:=ExY (m.orders[k])
     have aU:x∈m.orders:=by rw[hx];exact List.getElem_mem _
     have ad:m.orders.drop k=x::m.orders.drop (k+1):=by rw[hx];exact List.drop_eq_getElem_cons aF
     rw[←hx] at c0 c1 c2 c3 c4
     have aE:=be.ord x aU
     obtain⟨z,id,aI,E,X⟩:=x
     dsimp only at c0 c1 c2 c3 c4 aE
     obtain⟨q,hq⟩:=ZaW aE.1
     subst hq
     have ak:q<m.instrs.length:=Int.ofNat_lt.mp aE.2.1
     obtain⟨b1,aB⟩:=ExY (((m.instrs.getD q default).under==under))
     obtain⟨b2,aC⟩:=ExY (Zk7 below z)
     have hp:=HP.out
     rw[ad,ZfN] at hp
     dsimp only at hp
     rw[Int.toNat_natCast,←aB,←aC] at hp
     have az:=Hi hp
     have aR:=Hi ak
     have wk:wrap64 ((k:Int)+1)=(k:Int)+1:=ZaQ (Nat.lt_of_lt_of_le aa (aN.out▸Nat.le_trans bf.out.2 (by decide)))
     have WK:=Hi wk
     have a1:=Hi aa
     have j0:(0:Int)≤(k:Int):=Int.natCast_nonneg k
     have j1:(k:Int)<(af:Int):=Int.ofNat_lt.mpr aa
     have j2:(0:Int)≤(q:Int):=Int.natCast_nonneg q
     have j3:(q:Int)<(m.instrs.length:Int):=Int.ofNat_lt.mpr ak
     subst hA
     obtain⟨W1,ah⟩:=ExY (V.alloc (.cells #[I z,I id,I q,I E,I X] 45))
     obtain⟨b9,aD⟩:=ExY V.heap.size
     have h9:Bk W1 b9 45 #[I z,I id,I q,I E,I X]:=by rw[ah,aD];exact Bk.new _ _ _
     have Y:Bw V W1:=by rw[ah];exact(Below.refl _ V).alloc (Nat.le_refl _) _
     have L:Hid (w.grownBy W1 (some bm)):=Zae ab Y ab.size
     have N:Hid (ZaE W1 bm m):=ag.keep (Y.block _ ag.lt)
     have H9:=Hi h9
     have ay:Hid (∀n,Calls prog 217 #[Pt bs,I q,I under] (W1.drewN n) fun e w'=>e=.returned (.bool b1)∧w'=W1.drewN n):=fun n=>by
      have al:=an.turn L N
      rw[aB]
      exact Ziu m bs _ _ q under (W1.drewN n) aR (al.bk.drewN n) (al.led.instrs.drewN n)
     have aM:Hid (∀n,Calls prog 216 #[.slice bA below.length bc,I z] (W1.drewN n) fun e w'=>e=.returned (.bool b2)∧w'=W1.drewN n):=fun n=>by
      have al:=an.turn L N
      rw[aC]
      exact Zgn bA below.length bc below z (W1.drewN n) (ZbR a9) (al.bel.drewN n)
     clear hx aU ad aE ak aB aC hp wk aa h9 Y HP HW aF
     go_upto_region 11 with(fail)
     rw[←ah,←aD]
     clear ah aD c0 c1 c2 c3 c4
     obtain⟨x3,x6,x9,aV⟩:=HX.out W1 L N
     obtain⟨z0,z1,z2,z3,z4,f0,f1,f2,f3,f4,l9⟩:=H9.five
     have ap:∀(W2:World) (ac:Int),r=ZfN m below under s (m.orders.drop (k+1)) ac→w.grownBy W2 (some bm)→ZaE W2 bm m →
      (∃(ae:Nat) (G:Int),ae≤af∧Value.int .i64 ac=Value.int .i64 G∧Value.int .i64 (wrap64 ((k:Int)+1))=Value.int .i64 (ae:Int)∧Hid (r=ZfN m below under s (m.orders.drop ae) G)∧Hid (w.grownBy W2 (some bm)∧ZaE W2 bm m)) ∧
       af-(intOf (Value.int .i64 (wrap64 ((k:Int)+1)))).toNat<af-(intOf (Value.int .i64 (k:Int))).toNat:=
      fun W2 ac h1 h2 h3=>ZdL (R:=fun ae G=>Hid (r=ZfN m below under s (m.orders.drop ae) G)) a1 WK h1 ⟨h2,h3⟩
     have aq:=Hi ap
     clear ap
     cases b1 with
     |false=>
      have J:r=ZfN m below under s (m.orders.drop (k+1)) C:=by rw[az.out];rfl
      have aA:=Hi J
      clear J
      go_quiet ((go_at_call 217;exact Calls.quiet_of_same (ay.out _)))
      clear x3 x6 x9 z0 z1 z2 z3 z4 f0 f1 f2 f3 f4
      go_wp2
      exact aq.out _ _ aA (Zcj L _) (N.drewN _)
     |true=>
      cases b2 with
      |false=>
       have J:r=ZfN m below under s (m.orders.drop (k+1)) C:=by rw[az.out];rfl
       have aA:=Hi J
       clear J
       go_quiet ((first|(go_at_call 217;exact Calls.quiet_of_same (ay.out _))|(go_at_call 216;exact Calls.quiet_of_same (aM.out _))))
       clear x3 x6 x9 z0 z1 z2 z3 z4 f0 f1 f2 f3 f4
       go_wp2
       exact aq.out _ _ aA (Zcj L _) (N.drewN _)
      |true=>
       have J:r=(ZfP m q E s X).bind fun g=>(okO (ZhA C (min g 0))).bind (ZfN m below under s (m.orders.drop (k+1))):=by rw[az.out];rfl
       have aO:=Hi J
       clear J
       go_quiet ((first|(go_at_call 217;exact Calls.quiet_of_same (ay.out _))|(go_at_call 216;exact Calls.quiet_of_same (aM.out _))))
       clear x3 x6 x9 z0 z1 z2 z3 z4 f0 f1 f2 f3 f4
       obtain⟨W3,Z⟩:=ExY (W1.drewN nq)
       rw[←Z]
       have aL:Hid (w.grownBy W3 (some bm)):=by rw[Z];exact Zcj L _
       have aw:Hid (ZaE W3 bm m):=by rw[Z];exact N.drewN _
       have h9:Bk W3 b9 45 #[I z,I id,I q,I E,I X]:=by rw[Z];exact H9
       clear Z
       obtain⟨z0,z1,z2,z3,z4,f0,f1,f2,f3,f4,l9⟩:=h9.five
       clear h9
       go_wp2_with fail
       refine(bd.out W3 aL aw q aR E X).mono ?_
       rintro e W4 ⟨he,hg,hm⟩
       have au:Hid (w.grownBy W4 (some bm)):=Za6 aL hg
       have ax:=Hi hm
       clear hg hm z0 z1 z2 z3 z4 f0 f1 f2 f3 f4 l9
       obtain⟨ro,aH⟩:=ExY (ZfP m q E s X)
       rw[←aH] at he
       have am:=Hi aH
       clear aH
       cases ro with
       |none=>
        obtain⟨er,a4,rfl⟩:=he
        dsimp only
        go_wp2
        exact⟨rfl,by rw[aO.out,←am.out];exact Zc9.none a4,au,ax⟩
       |some g=>
       have a3:e=.returned (I g):=he
       subst a3
       clear he
       dsimp only
       obtain⟨⟨d,ed⟩,hd⟩:∃p,p=ZhA C (min g 0):=⟨_,rfl⟩
       have ao:=Hi (fun W=>ZdY C (min g 0) W)
       rw[←hd] at ao
       have aP:Hid (r=(okO (d,ed)).bind (ZfN m below under s (m.orders.drop (k+1)))):=by show _=_;rw[aO.out,←am.out,hd];rfl
       clear hd
       go_wp2_with fail
       refine Cq (ao.out _) ?_
       dsimp only
       by_cases aj:ed=0
       rotate_left
       ·go_wp2_with fail
        refine Cq (ZbS _ ed aj _) ?_
        dsimp only
        go_wp2
        exact⟨rfl,by rw[aP.out];unfold okO;rw[if_neg aj];exact Zc9.none aj,au,ax⟩
       subst aj
       go_wp2_with fail
       refine Cq (Zcd _ _) ?_
       dsimp only
       go_wp2
       exact aq.out _ _ (by rw[aP.out];rfl) au ax
    ·have aS:k=af:=Nat.le_antisymm hk (Nat.le_of_not_lt aa)
     have e0:r=some C:=by
      have h:=HP.out
      rw[aS,aN.out,List.drop_length] at h
      exact h
     have bj:=Hi e0
     clear e0 aS
     go_wp2
     go_ret
     exact⟨by rw[bj.out];exact Zc9.some,HW.1,HW.2⟩
theorem Zjd{n j:Nat}{R:Nat→Prop}(s:j<n)(h:R (j+1)):
 (∃(j_1:Nat),j_1≤n∧Value.int .i64 ((j:Int)+1)=Value.int .i64 (j_1:Int)∧R j_1) ∧
  n-(intOf (Value.int .i64 ((j:Int)+1))).toNat<n-(intOf (Value.int .i64 (j:Int))).toNat:=
 ⟨⟨j+1,s,by rw[Int.natCast_succ],h⟩,Zba s⟩
noncomputable def Zl6(m:Zab)(below:List Int)(under:Int)(s:Nat):Int:=(ZeH m below under s).getD 0
noncomputable def Zf7(m:Zab)(below:List Int)(under:Int):Option Int:=
 if(List.range 21).all (fun s=>(ZeH m below under s).isSome)=true then some (max (Zl6 m below under (ZfK (Zl6 m below under))) 0) else none
theorem Zji(m:Zab)(bs bm:Nat)(bA:Option Addr)(bc:Nat)(below:List Int)(z:Int)(w:World)(hs:Zdx w bs bm m bA bc below)(ho:ZbT m)(aa:below.length≤1000000):
 Calls prog 191 #[Pt bs,I z] w fun e w'=>Zc9 (Zf7 m below z) e∧w.grownBy w' (some bm)∧ZaE w' bm m:=by
 obtain⟨r,hr⟩:=ExY (Zf7 m below z)
 rw[←hr]
 unfold Zf7 at hr
 obtain⟨f,hf⟩:=ExY (Zl6 m below z)
 rw[←hf] at hr
 have HR:=Hi hr
 have HF:Hid (∀s,f s=(ZeH m below z s).getD 0):=fun s=>by rw[hf];rfl
 have aq:Hid (∀W,w.grownBy W (some bm)→ZaE W bm m→∀(s:Nat),s<21→Calls prog 208 #[Pt bs,I z,I s] W fun e w'=>Zc9 (ZeH m below z s) e∧W.grownBy w' (some bm)∧ZaE w' bm m):=
  fun W hW hM s ay=>Zlg m bs bm bA bc below z s W (hs.turn hW hM) ho ay aa
 have e0:(zW:Array Value)=Zbd f 0:=by simp[Zbd];rfl
 obtain⟨W1,X⟩:=ExY (w.alloc (.cells zW 239))
 obtain⟨b5,Y⟩:=ExY w.heap.size
 have L:Hid (Bk W1 b5 239 (Zbd f 0)):=by rw[←e0,X,Y];exact Bk.new _ _ _
 have J:Bw w W1:=by rw[X];exact(Below.refl _ w).alloc (Nat.le_refl _) _
 have C:Hid (w.grownBy W1 (some bm)):=Zae (ZaG _ _) J (Nat.le_refl _)
 have E:Hid (ZaE W1 bm m):=hs.mp.keep (J.block _ hs.mp.lt)
 have af:=bl0 Y
 have ai:Hid (w.grownBy W1 (some bm)∧ZaE W1 bm m∧Bk W1 b5 239 (Zbd f 0)∧∀j,j<0→(ZeH m below z j).isSome=true):=⟨C,E,L,fun j hj=>absurd hj (Nat.not_lt_zero j)⟩
 clear hr hf hs ho aa e0 J
 go_enter func191,ntmps191
 go_upto_region 2 with(fail)
 rw[←X,←Y]
 clear X Y
 go_upto_region 3 with(fail)
 go_loopw [9] (fun v9 wr=>∃(k:Nat),k≤21∧v9=I k∧Hid (w.grownBy wr (some bm)∧ZaE wr bm m∧Bk wr b5 239 (Zbd f k)∧∀j,j<k→(ZeH m below z j).isSome=true)) (fun v9 _=>21-(intOf v9).toNat)
 case atStart=>exact⟨0,Nat.zero_le _,rfl,ai⟩
 case round=>
  obtain⟨k,hk,rfl,HK⟩:=hrel
  rename World=>V
  have C:Hid (w.grownBy V (some bm)):=HK.1
  have E:Hid (ZaE V bm m):=HK.2.1
  have L:Hid (Bk V b5 239 (Zbd f k)):=HK.2.2.1
  have HJ:Hid (∀j,j<k→(ZeH m below z j).isSome=true):=HK.2.2.2
  clear HK
  by_cases Z:k<21
  ·have j1:(k:Int)<21:=Int.ofNat_lt.mpr Z
   have j0:(0:Int)≤(k:Int):=Int.natCast_nonneg k
   have U:=Hi Z
   clear Z
   go_wp2_with fail
   refine(aq.out V C E k U).mono ?_
   rintro e W2 ⟨he,hg,hm⟩
   have ah:Hid (w.grownBy W2 (some bm)):=Za6 C hg
   have ac:=Hi hm
   have N:Hid (Bk W2 b5 239 (Zbd f k)):=L.turn E hg
   clear hg hm
   obtain⟨ro,ae⟩:=ExY (ZeH m below z k)
   rw[←ae] at he
   have ad:=Hi ae
   clear ae
   cases ro with
   |none=>
    obtain⟨er,aA,rfl⟩:=he
    have e1:r=none:=by rw[HR.out,if_neg (fun h=>by have:=List.all_eq_true.1 h k (List.mem_range.2 U.out);rw[←ad.out] at this;cases this)]
    dsimp only
    go_wp2
    exact⟨rfl,by rw[e1];exact Zc9.none aA,ah,ac⟩
   |some x=>
   have az:e=.returned (I x):=he
   subst az
   clear he
   dsimp only
   have cO:W2.cell? (Aq b5 k)=some (I 0):=by rw[N.cell,ZcE f k k U.out,if_neg (Nat.lt_irrefl k)]
   have fO:W2.frozen? (Aq b5 k)=false:=N.frozen k
   obtain⟨W3,G⟩:=ExY (W2.setCell ⟨b5,k,none⟩ (I x))
   have ab:Below w.heap.size W2 W3:=by rw[G];exact(Below.refl _ W2).setCell af _
   have an:Hid (w.grownBy W3 (some bm)):=Zae ah ab (Nat.le_refl _)
   have au:Hid (ZaE W3 bm m):=ac.keep (by rw[G];exact Below.heap_setCell W2 (Aq b5 k) _ bm (Ne.symm (ac.ne N)))
   have ak:f k=x:=by rw[HF.out k,←ad.out];rfl
   have am:Hid (Bk W3 b5 239 (Zbd f (k+1))):=by rw[G,←Zii,ak];exact N.set k _
   have ap:Hid (∀j,j<k+1→(ZeH m below z j).isSome=true):=fun j hj=>by
    rcases Nat.lt_or_eq_of_le (Nat.le_of_lt_succ hj) with h|h
    ·exact HJ.out j h
    ·rw[h,←ad.out];rfl
   have ax:=Hi G
   clear G ak ab
   go_upto_region 6 with(fail)
   rw[←ax.out]
   clear cO fO
   go_wp2
   exact Zjd (R:=fun j=>Hid (w.grownBy W3 (some bm)∧ZaE W3 bm m∧Bk W3 b5 239 (Zbd f j)∧∀i,i<j→(ZeH m below z i).isSome=true)) U ⟨an,au,am,ap⟩
  ·have al:k=21:=Nat.le_antisymm hk (Nat.le_of_not_lt Z)
   subst al
   have e1:r=some (max (f (ZfK f)) 0):=by rw[HR.out,if_pos (List.all_eq_true.2 (fun s hs=>HJ.out s (List.mem_range.1 hs)))]
   have zi:(prog.info? 239).map (·.size)=some (Zbd f 21).size:=by rw[Za8];kernel_rfl
   have ZI:=Hi zi
   have ag:=Hi e1
   have aj:=Hi (fun W=>Zkz f W)
   obtain⟨x,hx⟩:=ExY (f (ZfK f))
   rw[←hx] at aj ag
   clear zi e1 hx
   go_wp2_with (refine wpList_load_row rfl 239 _ rfl b5 rfl 239 (Zbd f 21) (0,0) _ L underlying239 rfl ZI ?_)
   refine(aj.out V).mono ?_
   rintro e W4 ⟨rfl,hb⟩
   have ao:Hid (w.grownBy W4 (some bm)):=Zae C hb C.size
   have aw:Hid (ZaE W4 bm m):=E.keep (hb.block _ E.lt)
   clear hb
   dsimp only
   go_wp2
   go_ret
   exact⟨by rw[ag.out];exact Zc9.some,ao,aw⟩
noncomputable def Zhf(m:Zab)(below:List Int):List ZbD→Nat→Int→Option Int
 |[],_,all=>some all
 |u::l,n,all=>(Zf7 m below n).bind fun x=>(okO (Zfh (m.curs.getD u.cur.toNat default) x 1)).bind fun y=>(okO (ZfM all y)).bind (Zhf m below l (n+1))
noncomputable def ZhZ(m:Zab)(below:List Int):Option Int:=Zhf m below m.unders 0 0
theorem Zlk(m:Zab)(bs bm:Nat)(bA:Option Addr)(bc:Nat)(below:List Int)(w:World)(hs:Zdx w bs bm m bA bc below)(ho:ZbT m)(al:below.length≤1000000):
 Calls prog 155 #[Pt bs] w fun e w'=>Zc9 (ZhZ m below) e∧w.grownBy w' (some bm)∧ZaE w' bm m:=by
 obtain⟨r,hr⟩:=ExY (ZhZ m below)
 rw[←hr]
 have aY:Hid (∀W,w.grownBy W (some bm)→ZaE W bm m→∀C:Int,Calls prog 191 #[Pt bs,I C] W fun e w'=>Zc9 (Zf7 m below C) e∧W.grownBy w' (some bm)∧ZaE w' bm m):=
  fun W hW hM C=>Zji m bs bm bA bc below C W (hs.turn hW hM) ho al
 have aJ:=Hi hs
 have aU:=Hi ho
 obtain⟨un,ab⟩:=ExY m.unders.length
 obtain⟨uA,aB⟩:=ExY m.sUnd.A
 have x2:w.cell? (Aq bs 2)=some (.slice uA un m.sUnd.c):=by rw[aB,ab];exact hs.bk.cell 2
 have aW:Hid (Rd w w.heap.size 4 uA un (m.unders.flatMap ZbD.cs)):=by rw[aB,ab];exact hs.led.unders
 have aK:=Hi ab
 have aX:Hid (un≤6):=by rw[ab];exact ho.lens.2.1
 have HX:Hid (∀V,w.grownBy V (some bm)→ZaE V bm m→V.cell? (Aq bs 1)=some (.slice m.sCur.A m.curs.length m.sCur.c)∧bs<V.heap.size):=fun V hV hM=>⟨(hs.turn hV hM).bk.cell 1,(hs.turn hV hM).bk.lt⟩
 have aN:r=Zhf m below (m.unders.drop 0) 0 0:=hr
 have aV:=Hi aN
 have aT:=Hi hs.mp
 have a2:=hs.bk.lt
 have i0:(0:Int)≤(un:Int):=Int.natCast_nonneg un
 clear hr aN hs ho al ab aB
 go_enter func155,ntmps155
 go_upto_region 3 with(fail)
 clear x2
 go_loopw [3,12] (fun v3 aD wr=>∃(k:Nat) (L:Int),k≤un∧v3=I L∧aD=I k∧Hid (r=Zhf m below (m.unders.drop k) k L)∧Hid (w.grownBy wr (some bm)∧ZaE wr bm m)) (fun _ aD _=>un-(intOf aD).toNat)
 case atStart=>exact⟨0,0,Nat.zero_le _,rfl,rfl,aV,ZaG _ _,aT⟩
 case round=>
  obtain⟨k,L,hk,rfl,rfl,HP,HW⟩:=hrel
  rename World=>V
  by_cases X:k<un
  ·have az:k<m.unders.length:=by rw[←aK.out];exact X
   have ae:Hid (w.grownBy V (some bm)):=HW.1
   have aq:Hid (ZaE V bm m):=HW.2
   obtain⟨a,hA,_,c0,c1,c2,c3⟩:=ZfE (aW.turn aJ.mp ae) az
   obtain⟨x,hx⟩:=ExY (m.unders[k])
   have aO:x∈m.unders:=by rw[hx];exact List.getElem_mem _
   have Z:m.unders.drop k=x::m.unders.drop (k+1):=by rw[hx];exact List.drop_eq_getElem_cons az
   rw[←hx] at c0 c1 c2 c3
   have ai:=aU.und x aO
   obtain⟨am,a1,ad,aQ⟩:=x
   dsimp only at c0 c1 c2 c3 ai
   obtain⟨q,hq⟩:=ZaW ai.1
   subst hq
   have aj:q<m.curs.length:=Int.ofNat_lt.mp ai.2.1
   obtain⟨ac,aL,_,d0,d1⟩:=Zkk ((aJ.turn ae aq).led.curs) aj
   have aa:m.curs.getD q default=m.curs[q]:=by simp[aj]
   obtain⟨⟨J,E⟩,hy⟩:∃y,y=m.curs[q]:=⟨_,rfl⟩
   rw[←hy] at d0 d1 aa
   dsimp only at d0 d1
   have hp:=HP.out
   rw[Z,Zhf] at hp
   dsimp only at hp
   rw[Int.toNat_natCast,aa] at hp
   have aG:=Hi hp
   have aS:=Hi X
   have WK:Hid (wrap64 ((k:Int)+1)=(k:Int)+1):=ZaQ (Nat.lt_of_lt_of_le X (Nat.le_trans aX (by decide)))
   have j0:(0:Int)≤(k:Int):=Int.natCast_nonneg k
   have j1:(k:Int)<(un:Int):=Int.ofNat_lt.mpr X
   have j2:(0:Int)≤(q:Int):=Int.natCast_nonneg q
   have j3:(q:Int)<(m.curs.length:Int):=Int.ofNat_lt.mpr aj
   subst hA
   obtain⟨W2,af⟩:=ExY (V.alloc (.cells #[.string am,I q,I ad,I aQ] 63))
   obtain⟨b5,ay⟩:=ExY V.heap.size
   have h5:Bk W2 b5 63 #[.string am,I q,I ad,I aQ]:=by rw[af,ay];exact Bk.new _ _ _
   have G:Bw V W2:=by rw[af];exact(Below.refl _ V).alloc (Nat.le_refl _) _
   have an:Hid (w.grownBy W2 (some bm)):=Zae ae G ae.size
   have N:Hid (ZaE W2 bm m):=aq.keep (G.block _ aq.lt)
   have aC:=(HX.out W2 an N).1
   rw[aL] at aC
   have e0:W2.cell? (ac.add (q*2))=some (I J):=(G.cell (World.block_lt_of_cell? _ _ d0)).trans d0
   have e1:W2.cell? ⟨(ac.add (q*2)).block,(ac.add (q*2)).off+1,none⟩=some (I E):=(G.cell (World.block_lt_of_cell? _ _ d1)).trans d1
   have HT:Hid (∀U,W2.grownBy U (some bm)→(fun U=>U.cell? (Aq bs 1)=some (.slice (some ac) m.curs.length m.sCur.c)∧U.cell? (Aq b5 1)=some (I q)∧U.cell? (ac.add (q*2))=some (I J)∧U.cell? ⟨(ac.add (q*2)).block,(ac.add (q*2)).off+1,none⟩=some (I E)) U):=fun U hU=>⟨ZbF aC N hU,ZbF (h5.cell 1) N hU,ZbF e0 N hU,ZbF e1 N hU⟩
   clear hx aO Z ai aj aa hy hp X d0 d1 aL h5 G HP HW az aC e0 e1
   go_upto_region 5 with(fail)
   rw[←af,←ay]
   clear af ay c0 c1 c2 c3
   refine Zbf (fun U=>U.cell? (Aq bs 1)=some (.slice (some ac) m.curs.length m.sCur.c)∧U.cell? (Aq b5 1)=some (I q)∧U.cell? (ac.add (q*2))=some (I J)∧U.cell? ⟨(ac.add (q*2)).block,(ac.add (q*2)).off+1,none⟩=some (I E)) 21 (by kernel_rfl) ?_
   refine tkM [0,1,2,3,4,5,6,7,8,9,10,11] (HT.out _ (ZdS (ZaG W2 _))) (by kernel_rfl) (fun _ _ _ _ h=>h) ?_
   iterate 12 (refine ycM rfl (by rfl) (fun w h=>by go_simp<;>rfl) ?_;try simp only[Act.put,sA,sB,sC])
   refine onM 12 (by kernel_rfl) rfl fun K hK=>?_
   go_simp
   refine(aY.out _ (ZdS an) N.drew k).mono ?_
   rintro e W3 ⟨he,hg,hm⟩
   have ao:Hid (w.grownBy W3 (some bm)):=Za6 (ZdS an) hg
   have Y:Hid (W2.grownBy W3 (some bm)):=⟨hg.os,hg.tape,hg.output,hg.size,hg.block⟩
   have au:=Hi hm
   clear hg hm
   obtain⟨ro,aA⟩:=ExY (Zf7 m below k)
   rw[←aA] at he
   have ak:=Hi aA
   clear aA
   cases ro with
   |none=>
    obtain⟨er,a0,rfl⟩:=he
    dsimp only
    go_wp2
    exact⟨rfl,by rw[aG.out,←ak.out];exact Zc9.none a0,ao,au⟩
   |some x=>
   have aZ:e=.returned (I x):=he
   subst aZ
   clear he
   dsimp only
   obtain⟨⟨y,ey⟩,hy⟩:∃p,p=Zfh ⟨J,E⟩ x 1:=⟨_,rfl⟩
   have aF:=Hi (fun W=>Zij ⟨J,E⟩ x 1 W)
   rw[←hy] at aF
   have aH:Hid (r=(okO (y,ey)).bind fun y=>(okO (ZfM L y)).bind (Zhf m below (m.unders.drop (k+1)) (k+1))):=by show _=_;rw[aG.out,←ak.out,hy];rfl
   clear hy
   refine hK.out _ _ (fun _=>HT.out _ Y) ?_
   try simp only[Act.put,sA,sB,sC]
   refine onM 13 (by kernel_rfl) rfl fun K hK=>?_
   go_simp
   refine(aF.out _).mono ?_
   rintro e W4 ⟨rfl,hb⟩
   have ap:Hid (w.grownBy W4 (some bm)):=Zae ao hb ao.size
   have s:Hid (W2.grownBy W4 (some bm)):=Zae Y hb Y.size
   have aw:Hid (ZaE W4 bm m):=au.keep (hb.block _ au.lt)
   clear hb
   dsimp only
   refine hK.out _ _ (fun _=>HT.out _ s) ?_
   try simp only[Act.put,sA,sB,sC]
   refine tkM [14,15] (HT.out _ s) (by kernel_rfl) (fun _ _ _ _ h=>h) ?_
   iterate 2 (refine ycM rfl (by rfl) (fun w h=>by go_simp<;>rfl) ?_;try simp only[Act.put,sA,sB,sC])
   refine onM 16 (by kernel_rfl) rfl fun K hK=>?_
   go_simp
   by_cases ag:ey=0
   rotate_left
   ·refine Cq (ZbS _ ey ag _) ?_
    dsimp only
    go_wp2
    exact⟨rfl,by rw[aH.out];unfold okO;rw[if_neg ag];exact Zc9.none ag,ap,aw⟩
   subst ag
   refine Cq (Zcd _ _) ?_
   dsimp only
   obtain⟨⟨z,ez⟩,hz⟩:∃p,p=ZfM L y:=⟨_,rfl⟩
   have aE:=Hi (fun W=>Zc1 L y W)
   rw[←hz] at aE
   have aI:Hid (r=(okO (z,ez)).bind (Zhf m below (m.unders.drop (k+1)) (k+1))):=by show _=_;rw[aH.out,hz];rfl
   clear hz
   refine hK.out _ _ (fun _=>HT.out _ s) ?_
   try simp only[Act.put,sA,sB,sC]
   refine onM 17 (by kernel_rfl) rfl fun K hK=>?_
   go_simp
   refine Cq (aE.out _) ?_
   dsimp only
   refine hK.out _ _ (fun _=>HT.out _ s) ?_
   try simp only[Act.put,sA,sB,sC]
   refine tkM [18,19] (HT.out _ s) (by kernel_rfl) (fun _ _ _ _ h=>h) ?_
   iterate 2 (refine ycM rfl (by rfl) (fun w h=>by go_simp<;>rfl) ?_;try simp only[Act.put,sA,sB,sC])
   refine onM 20 (by kernel_rfl) rfl fun K hK=>?_
   go_simp
   by_cases ah:ez=0
   rotate_left
   ·refine Cq (ZbS _ ez ah _) ?_
    dsimp only
    go_wp2
    exact⟨rfl,by rw[aI.out];unfold okO;rw[if_neg ah];exact Zc9.none ah,ap,aw⟩
   subst ah
   refine Cq (Zcd _ _) ?_
   dsimp only
   refine hK.out _ _ (fun _=>HT.out _ s) ?_
   try simp only[Act.put,sA,sB,sC]
   refine onM 21 (by kernel_rfl) rfl fun K hK=>?_
   go_simp
   refine hK.out _ _ (fun h0=>Zac (by kernel_rfl) h0) ?_
   refine Zak (by kernel_rfl) ?_ _
   go_wp2
   exact ZdL (R:=fun aP ax=>Hid (r=Zhf m below (m.unders.drop aP) aP ax)) aS WK (by show _=_;rw[aI.out];rfl) ⟨ap,aw⟩
  ·have aM:k=un:=Nat.le_antisymm hk (Nat.le_of_not_lt X)
   have e0:r=some L:=by
    have h:=HP.out
    rw[aM,aK.out,List.drop_length] at h
    exact h
   have aR:=Hi e0
   clear e0 aM
   go_wp2
   go_ret
   exact⟨by rw[aR.out];exact Zc9.some,HW.1,HW.2⟩
theorem ZkM(ps:List Int)(v:Int):(∀x∈ZbE ps v,0≤x∧x<ps.length)∧(ZbE ps v).length≤ps.length:=by
 unfold ZbE
 by_cases hg:ZeV ps v=true
 ·rw[if_pos hg]
  have hv:0≤v∧v<ps.length:=by
   unfold ZeV at hg
   simp only[Bool.and_eq_true,decide_eq_true_eq] at hg
   exact hg.2
  have key:∀(k u:Nat) (s:List Int),u+k≤ps.length→s.length≤u→(∀x∈s,0≤x∧x<ps.length) →
   (∀x∈ZeO ps k u s,0≤x∧x<ps.length)∧(ZeO ps k u s).length≤u+k:=by
   intro k
   induction k with
   |zero=>intro u s _ h1 h2;exact⟨h2,by simpa[ZeO] using h1⟩
   |succ k ih=>
    intro u s h0 h1 h2
    rw[ZeO]
    have h3:u+(k+1)=(u+1)+k:=by omega
    rw[h3]
    by_cases hc:Zk7 s (ps.getD u 0)=true
    ·rw[if_pos hc]
     refine ih (u+1) _ (by omega) (by simp;omega) ?_
     intro x hx
     rcases List.mem_append.1 hx with h|h
     ·exact h2 x h
     ·simp only[List.mem_cons,List.not_mem_nil,or_false] at h
      subst h
      omega
    ·rw[if_neg hc]
     exact ih (u+1) _ (by omega) (by omega) h2
  have:=key (ps.length-v.toNat-1) (v.toNat+1) [v] (by omega) (by simp) (by simp;omega)
  exact⟨this.1,by have:=this.2;omega⟩
 ·rw[if_neg hg]
  exact⟨by simp,by simp⟩
theorem Zem{ps:List Int}(h:(Zct ps).2=0):2≤ps.length∧ps.length≤16:=by
 unfold Zct at h
 by_cases h1:ps.length<2
 ·rw[if_pos h1] at h;cases h
 rw[if_neg h1] at h
 by_cases h2:16<ps.length
 ·rw[if_pos h2] at h;cases h
 omega
theorem ZbI{m:Zab}(h:Za2 m=true):(0≤m.day∧m.day≤100000)∧Zcp m=true∧Zbe m=true∧P.goodB m.accts.length m.instrs.length m.poss=true∧O.goodB m.accts.length m.instrs.length m.orders=true∧L.goodB m.avail m.locs m.accts.length m.instrs.length=true∧Zfr (Zfv m) m.orders=false:=by
 unfold Za2 at h
 by_cases hd:m.day<0∨100000<m.day
 ·rw[if_pos hd] at h;cases h
 ·rw[if_neg hd] at h
  simp only[Bool.and_eq_true,Bool.not_eq_true'] at h
  exact⟨by omega,h⟩
theorem Zd1{x lo hi:Int}:Zaz x lo hi=true↔lo≤x∧x≤hi:=by unfold Zaz;simp
theorem Zbr{m:Zab}(h:Za2 m=true):ZbT m:=by
 obtain⟨_,ht,ha,hp,ho,_,_⟩:=ZbI h
 unfold Zcp at ht
 by_cases hl:m.curs.length<1∨4<m.curs.length∨6<m.unders.length∨12<m.instrs.length
 ·rw[if_pos hl] at ht;cases ht
 rw[if_neg hl] at ht
 simp only[Bool.and_eq_true,Bool.not_eq_true'] at ht
 obtain⟨_,hu,hi⟩:=ht
 unfold Zbe at ha
 simp only[Bool.and_eq_true,decide_eq_true_eq] at ha
 obtain⟨hc,C⟩:=ha
 have s:∀i∈m.instrs,Zgr i m.unders.length=true:=fun i s=>by
  cases hb:Zgr i m.unders.length with
  |true=>rfl
  |false=>
   have:Zfr (fun i => !Zgr i m.unders.length) m.instrs=true:=(Zin _ _).2 ⟨i,s,by simp[hb]⟩
   rw[this] at hi;cases hi
 have z:m.accts.length≤16:=by
  have:=(Zem hc).2
  simpa[Zah] using this
 unfold P.goodB at hp
 simp only[Bool.and_eq_true,decide_eq_true_eq,List.all_eq_true] at hp
 unfold O.goodB at ho
 simp only[Bool.and_eq_true,decide_eq_true_eq,List.all_eq_true] at ho
 refine⟨?_,?_,?_,?_,?_,by omega,by omega,by omega,z,hp.1,ho.1⟩
 ·intro i hm
  have:=s i hm
  unfold Zgr at this
  simp only[Bool.and_eq_true,Zd1] at this
  omega
 ·intro u hm
  obtain⟨k,hk⟩:=List.getElem?_of_mem hm
  have E:k<m.unders.length:=(List.getElem?_eq_some_iff.1 hk).1
  have h1:=(Zih _ _ _).1 hu k (Nat.zero_le _) (by omega)
  unfold ZfT at h1
  have hg:m.unders.getD k default=u:=by simp[hk]
  rw[hg] at h1
  simp only[Bool.and_eq_true] at h1
  have h2:=h1.1
  unfold Ziy at h2
  simp only[Bool.and_eq_true,Zd1] at h2
  omega
 ·intro p hm
  have:=hp.2.2 p hm
  unfold P.okB at this
  have:=of_decide_eq_true this
  omega
 ·intro p hm
  have:=ho.2.2 p hm
  unfold O.okB at this
  have:=of_decide_eq_true this
  omega
 ·intro a hm
  obtain⟨k,hk⟩:=List.getElem?_of_mem hm
  have E:k<m.accts.length:=(List.getElem?_eq_some_iff.1 hk).1
  have h1:=(Zih _ _ _).1 C k (Nat.zero_le _) (by omega)
  unfold ZeU at h1
  have hg:m.accts.getD k default=a:=by simp[hk]
  rw[hg] at h1
  simp only[Bool.and_eq_true,Bool.not_eq_true',decide_eq_false_iff_not] at h1
  have h2:=h1.1
  unfold Zdp at h2
  omega
end Go.Proofs.YtdefojlkofnloaaGreatDoor
