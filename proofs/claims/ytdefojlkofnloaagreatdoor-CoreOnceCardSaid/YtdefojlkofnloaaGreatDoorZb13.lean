/- A part of the proof of CoreOnce: for every input, no condition. -/
import Derived.Test.YtdefojlkofnloaaGreatDoorZb12
import Derived.Defers
import Derived.Recover
set_option maxRecDepth 100000
set_option maxHeartbeats 8000000
set_option linter.unusedVariables false
set_option linter.unusedSimpArgs false
namespace Go.Proofs.YtdefojlkofnloaaGreatDoor
open Go.RowKit Go.Proofs.Tryz
theorem ZcQ{w:World}{a:Addr}{v:Value}(h:w.cell? a=some v):a.block<w.heap.size:=by
 apply Classical.byContradiction
 intro hn
 have:w.heap[a.block]?=none:=Array.getElem?_eq_none (by omega)
 simp[World.cell?,this] at h
theorem ZdW(x:Int)(w:World):Calls prog 200 #[I x,I 0] w fun e w'=>e=.returned (I x)∧w'=w:=by
 go_enter func200,ntmps200
 go_wp2
 go_ret
 exact⟨rfl,rfl⟩
theorem Zdf(x er:Int)(h:er≠0)(w:World):Calls prog 200 #[I x,I er] w fun e w'=>e=.panicked [{v:=.iface 245 (.agg #[I er]),recovered:=false}]∧w'=w:=by
 have b:(er != 0)=true:=by simpa using h
 go_enter func200,ntmps200
 go_wp2
 exact⟨rfl,rfl,rfl⟩
theorem Zh0(p:Addr)(w:World):Calls prog 199 #[.pointer (some p),.nilIface] w fun e w'=>e=.returned (.tuple #[])∧w'=w:=by
 have hq:∀w:World,(binOp BinOp.eql 20 .nilIface .nilIface).run prog w=.ok (.bool true) w:=fun _=>by kernel_rfl
 go_enter func199,ntmps199
 go_wp2
 exact⟨rfl,_,results_none rfl _ _ _,rfl,rfl⟩
theorem Zhi(p:Addr)(er u:Int)(w:World)(s:w.cell? p=some (I u))(E:w.frozen? p=false):
 Calls prog 199 #[.pointer (some p),.iface 245 (.agg #[I er])] w fun e w'=>e=.returned (.tuple #[])∧w'=(w.alloc (.cells #[I er] 245)).setCell p (I er):=by
 have hq:∀w:World,(binOp BinOp.eql 20 (.iface 245 (.agg #[I er])) .nilIface).run prog w=.ok (.bool false) w:=fun _=>by kernel_rfl
 have C:∀(w:World) (v:Value),(Instr.typeAssert (.iface 245 v) 20 245 true).run prog w=.ok (.tuple #[v,.bool true]) w:=fun _ _=>by kernel_rfl
 have z:(w.alloc (.cells #[I er] 245)).cell? p=some (I u):=by rw[((Below.refl _ w).alloc (Nat.le_refl _) _).cell (ZcQ s)];exact s
 have G:(w.alloc (.cells #[I er] 245)).frozen? p=false:=by rw[((Below.refl _ w).alloc (Nat.le_refl _) _).frozen (ZcQ s)];exact E
 go_enter func199,ntmps199
 go_wp2
 exact⟨rfl,_,results_none rfl _ _ _,rfl,rfl⟩
theorem Zbz(p q:Addr)(er:Int)(w:World)(z:w.cell? p=some (I er))(s:∃u,w.cell? q=some u)(C:w.frozen? q=false):
 CallsD prog 198 #[.pointer (some p),.pointer (some q)] .returning w fun e u' w'=>e=.returned (.tuple #[])∧u'=.returning∧w'=if er=0 then w else w.setCell q (I 0):=by
 refine callsD_of_wpS func198 rfl fun c₀ cs hu=>?_
 apply wpS_seq
 apply wpS_region
 simp[wpOpsS,go_sem,recoverD,hu,ntmps198,Exit.thenS]
 refine Cq (Zh0 p w) ?_
 dsimp only
 apply wpS_seq
 apply wpS_region
 by_cases h0:er=0
 ·subst h0
  rw[if_pos rfl]
  simp[wpOpsS,go_sem,z,Exit.thenS,Array.replicate]
  refine wpS_cond (t:=false) (by simp[Act.eval]) ?_
  simp only[Bool.false_eq_true,if_false]
  refine wpS_of_wp (wp_skip ?_)
  cases c₀
  simp_all [bodyPostS,results,results198]
 ·rw[if_neg h0]
  have b:(er != 0)=true:=by simpa using h0
  obtain⟨u,s⟩:=s
  simp[wpOpsS,go_sem,z,Exit.thenS,Array.replicate]
  refine wpS_cond (t:=true) (by simp[Act.eval,b]) ?_
  simp only[if_true]
  apply wpS_region
  simp[wpOpsS,go_sem,s,C]
  cases c₀
  simp_all [bodyPostS,results,results198]
theorem Zcl(p q:Addr)(er u:Int)(z:List PanicEntry)(w:World)(G:er≠0)(E:w.cell? p=some (I u))(N:w.frozen? p=false)(C:∃u,w.cell? q=some u)(L:w.frozen? q=false)(J:q≠p):
 CallsD prog 198 #[.pointer (some p),.pointer (some q)] (.panicking ({v:=.iface 245 (.agg #[I er]),recovered:=false}::z)) w fun e u' w'=>
  e=.returned (.tuple #[])∧u'=.panicking ({v:=.iface 245 (.agg #[I er]),recovered:=true}::z) ∧
  w'=((w.alloc (.cells #[I er] 245)).setCell p (I er)).setCell q (I 0):=by
 refine callsD_of_wpS func198 rfl fun c₀ cs hu=>?_
 apply wpS_seq
 apply wpS_region
 simp[wpOpsS,go_sem,recoverD,hu,ntmps198,Exit.thenS]
 refine(Zhi p er u w E N).mono ?_
 rintro e w' ⟨rfl,s⟩
 have hB:Bw w (w.alloc (.cells #[I er] 245)):=(Below.refl _ w).alloc (Nat.le_refl _) _
 have g1:w'.cell? p=some (I er):=by rw[s];exact World.cell?_setCell_same' _ _ _ (by rw[hB.cell (ZcQ E),E];rfl)
 have g2:∃u,w'.cell? q=some u:=by
  obtain⟨u,C⟩:=C
  exact⟨u,by rw[s,World.cell?_setCell_other _ _ _ _ (Ne.symm J),hB.cell (ZcQ C)];exact C⟩
 have g3:w'.frozen? q=false:=by
  obtain⟨u,C⟩:=C
  rw[s,World.frozen?_setCell,hB.frozen (ZcQ C)];exact L
 rw[←s]
 clear s
 obtain⟨x,g2⟩:=g2
 dsimp only
 apply wpS_seq
 apply wpS_region
 have b:(er != 0)=true:=by simpa using G
 simp[wpOpsS,go_sem,g1,Exit.thenS,Array.replicate]
 refine wpS_cond (t:=true) (by simp[Act.eval,b]) ?_
 simp only[if_true]
 apply wpS_region
 simp[wpOpsS,go_sem,g2,g3]
 cases c₀
 simp_all [bodyPostS,results,results198]
theorem Zcd(x:Int)(w:World):Calls prog 154 #[I x,I 0] w fun e w'=>e=.returned (I x)∧w'=w:=by
 go_enter func154,ntmps154
 go_wp2
 go_ret
 exact⟨rfl,rfl⟩
theorem ZbS(x er:Int)(h:er≠0)(w:World):Calls prog 154 #[I x,I er] w fun e w'=>e=.panicked [{v:=.iface 229 (.agg #[I er]),recovered:=false}]∧w'=w:=by
 have b:(er != 0)=true:=by simpa using h
 go_enter func154,ntmps154
 go_wp2
 exact⟨rfl,rfl,rfl⟩
theorem ZhX(p:Addr)(w:World):Calls prog 187 #[.pointer (some p),.nilIface] w fun e w'=>e=.returned (.tuple #[])∧w'=w:=by
 have hq:∀w:World,(binOp BinOp.eql 20 .nilIface .nilIface).run prog w=.ok (.bool true) w:=fun _=>by kernel_rfl
 go_enter func187,ntmps187
 go_wp2
 exact⟨rfl,_,results_none rfl _ _ _,rfl,rfl⟩
theorem Zhb(p:Addr)(er u:Int)(w:World)(s:w.cell? p=some (I u))(E:w.frozen? p=false):
 Calls prog 187 #[.pointer (some p),.iface 229 (.agg #[I er])] w fun e w'=>e=.returned (.tuple #[])∧w'=(w.alloc (.cells #[I er] 229)).setCell p (I er):=by
 have hq:∀w:World,(binOp BinOp.eql 20 (.iface 229 (.agg #[I er])) .nilIface).run prog w=.ok (.bool false) w:=fun _=>by kernel_rfl
 have C:∀(w:World) (v:Value),(Instr.typeAssert (.iface 229 v) 20 229 true).run prog w=.ok (.tuple #[v,.bool true]) w:=fun _ _=>by kernel_rfl
 have z:(w.alloc (.cells #[I er] 229)).cell? p=some (I u):=by rw[((Below.refl _ w).alloc (Nat.le_refl _) _).cell (ZcQ s)];exact s
 have G:(w.alloc (.cells #[I er] 229)).frozen? p=false:=by rw[((Below.refl _ w).alloc (Nat.le_refl _) _).frozen (ZcQ s)];exact E
 go_enter func187,ntmps187
 go_wp2
 exact⟨rfl,_,results_none rfl _ _ _,rfl,rfl⟩
theorem ZhW(p q:Addr)(er:Int)(w:World)(z:w.cell? p=some (I er))(s:∃u,w.cell? q=some u)(C:w.frozen? q=false):
 CallsD prog 186 #[.pointer (some p),.pointer (some q)] .returning w fun e u' w'=>e=.returned (.tuple #[])∧u'=.returning∧w'=if er=0 then w else w.setCell q (I 0):=by
 refine callsD_of_wpS func186 rfl fun c₀ cs hu=>?_
 apply wpS_seq
 apply wpS_region
 simp[wpOpsS,go_sem,recoverD,hu,ntmps186,Exit.thenS]
 refine Cq (ZhX p w) ?_
 dsimp only
 apply wpS_seq
 apply wpS_region
 by_cases h0:er=0
 ·subst h0
  rw[if_pos rfl]
  simp[wpOpsS,go_sem,z,Exit.thenS,Array.replicate]
  refine wpS_cond (t:=false) (by simp[Act.eval]) ?_
  simp only[Bool.false_eq_true,if_false]
  refine wpS_of_wp (wp_skip ?_)
  cases c₀
  simp_all [bodyPostS,results,results186]
 ·rw[if_neg h0]
  have b:(er != 0)=true:=by simpa using h0
  obtain⟨u,s⟩:=s
  simp[wpOpsS,go_sem,z,Exit.thenS,Array.replicate]
  refine wpS_cond (t:=true) (by simp[Act.eval,b]) ?_
  simp only[if_true]
  apply wpS_region
  simp[wpOpsS,go_sem,s,C]
  cases c₀
  simp_all [bodyPostS,results,results186]
theorem Zfy(p q:Addr)(er u:Int)(z:List PanicEntry)(w:World)(G:er≠0)(E:w.cell? p=some (I u))(N:w.frozen? p=false)(C:∃u,w.cell? q=some u)(L:w.frozen? q=false)(J:q≠p):
 CallsD prog 186 #[.pointer (some p),.pointer (some q)] (.panicking ({v:=.iface 229 (.agg #[I er]),recovered:=false}::z)) w fun e u' w'=>
  e=.returned (.tuple #[])∧u'=.panicking ({v:=.iface 229 (.agg #[I er]),recovered:=true}::z) ∧
  w'=((w.alloc (.cells #[I er] 229)).setCell p (I er)).setCell q (I 0):=by
 refine callsD_of_wpS func186 rfl fun c₀ cs hu=>?_
 apply wpS_seq
 apply wpS_region
 simp[wpOpsS,go_sem,recoverD,hu,ntmps186,Exit.thenS]
 refine(Zhb p er u w E N).mono ?_
 rintro e w' ⟨rfl,s⟩
 have hB:Bw w (w.alloc (.cells #[I er] 229)):=(Below.refl _ w).alloc (Nat.le_refl _) _
 have g1:w'.cell? p=some (I er):=by rw[s];exact World.cell?_setCell_same' _ _ _ (by rw[hB.cell (ZcQ E),E];rfl)
 have g2:∃u,w'.cell? q=some u:=by
  obtain⟨u,C⟩:=C
  exact⟨u,by rw[s,World.cell?_setCell_other _ _ _ _ (Ne.symm J),hB.cell (ZcQ C)];exact C⟩
 have g3:w'.frozen? q=false:=by
  obtain⟨u,C⟩:=C
  rw[s,World.frozen?_setCell,hB.frozen (ZcQ C)];exact L
 rw[←s]
 clear s
 obtain⟨x,g2⟩:=g2
 dsimp only
 apply wpS_seq
 apply wpS_region
 have b:(er != 0)=true:=by simpa using G
 simp[wpOpsS,go_sem,g1,Exit.thenS,Array.replicate]
 refine wpS_cond (t:=true) (by simp[Act.eval,b]) ?_
 simp only[if_true]
 apply wpS_region
 simp[wpOpsS,go_sem,g2,g3]
 cases c₀
 simp_all [bodyPostS,results,results186]
def ZjM(call:Bool)(strike price:Int):Int:=if call=true then wrap64 (price-strike) else wrap64 (-(wrap64 (price-strike)))
noncomputable def Zf6(call:Bool)(strike price vol days:Int):Int×Int:=
 if Zaz strike 0 100000000000000=false∨Zaz price 0 100000000000000=false∨Zaz vol 0 100000000000000=false then(0,1)
 else if days≤0 then(max (ZjM call strike price) 0,0)
 else if 100000<days then(0,1)
 else if(Zhd vol days).2≠0 then(0,(Zhd vol days).2)
 else if(Za3 strike (Zhd vol days).1 3650000 0).2≠0 then(0,(Za3 strike (Zhd vol days).1 3650000 0).2)
 else if(ZfM (max (ZjM call strike price) 0) (max (wrap64 ((Za3 strike (Zhd vol days).1 3650000 0).1-wrap64 ((max (ZjM call strike price) (wrap64 (-(ZjM call strike price)))).tdiv 2))) 0)).2≠0 then
  (0,(ZfM (max (ZjM call strike price) 0) (max (wrap64 ((Za3 strike (Zhd vol days).1 3650000 0).1-wrap64 ((max (ZjM call strike price) (wrap64 (-(ZjM call strike price)))).tdiv 2))) 0)).2)
 else((ZfM (max (ZjM call strike price) 0) (max (wrap64 ((Za3 strike (Zhd vol days).1 3650000 0).1-wrap64 ((max (ZjM call strike price) (wrap64 (-(ZjM call strike price)))).tdiv 2))) 0)).1,0)
theorem Zkx(aC:Bool)(ae am aB days:Int)(w:World):Calls prog 168 #[.bool aC,I ae,I am,I aB,I days] w fun e w'=>e=.returned (.tuple #[I (Zf6 aC ae am aB days).1,I (Zf6 aC ae am aB days).2])∧Bw w w':=by
 have a4:∀(fn:Fn) (first cap:Array Value) (w:World),(Instr.makeFunc fn first cap).run prog w=.ok (.func fn first cap) w:=fun _ _ _ _=>rfl
 obtain⟨r,hr⟩:=ExY (Zf6 aC ae am aB days)
 rw[←hr]
 unfold Zf6 at hr
 have aZ:=Hi (fun w=>Zb2 ae 0 100000000000000 w)
 have a0:=Hi (fun w=>Zb2 am 0 100000000000000 w)
 have a1:=Hi (fun w=>Zb2 aB 0 100000000000000 w)
 obtain⟨b1,aU⟩:=ExY (Zaz ae 0 100000000000000)
 obtain⟨b2,aV⟩:=ExY (Zaz am 0 100000000000000)
 obtain⟨b3,aW⟩:=ExY (Zaz aB 0 100000000000000)
 rw[←aU,←aV,←aW] at hr
 rw[←aU] at aZ
 rw[←aV] at a0
 rw[←aW] at a1
 clear aU aV aW
 obtain⟨aq,aQ⟩:=ExY (ZjM aC ae am)
 rw[←aQ] at hr
 have HG:=Hi aQ
 have HR:=Hi hr
 clear hr aQ
 obtain⟨W1,aM⟩:=ExY (w.alloc (.cells #[I 0] 3))
 obtain⟨bv,aO⟩:=ExY w.heap.size
 have aS:=blB aM
 have aa:=bl0 aO
 have a2:=bkW aM aO
 obtain⟨W2,aN⟩:=ExY (W1.alloc (.cells #[I 0] 39))
 obtain⟨be,aR⟩:=ExY W1.heap.size
 have an:=blA aS aN
 have af:=blZ aS aR
 have ad:=bkA a2 aN
 have ah:=bkW aN aR
 have aT:be=bv+1:=by rw[aR,aM,World.size_alloc,←aO]
 have a5:¬(bv=be):=by omega
 have a3:¬(be=bv):=by omega
 go_enter_defers func168,ntmps168
 go_upto_region 2 with(fail)
 rw[←aM,←aO,←aN,←aT]
 clear aM aO aT aN aR
 have z:=ad.one
 have s:=ah.one
 go_wp2_with fail
 refine Cq (aZ.out _) ?_
 cases b1 with
 |false=>
  have e0:r=(0,1):=by rw[HR.out];rfl
  subst e0
  go_wp2
  refine leaves_cons (f:=198) (args:=#[Pt be,Pt bv]) (by simp) (by simp[go_sem]) ?_
  clear z s
  obtain⟨W3,X⟩:=ExY (W2.setCell ⟨bv,0,none⟩ (I 0))
  rw[←X]
  have ab:=blS an X aa
  have R:Hid (Bk W3 bv 3 #[I 0]):=bkS ad 0 X
  have G:=bkF ah X ad rfl
  clear X
  have z:=R.one
  have s:=G.one
  obtain⟨W4,C⟩:=ExY (W3.setCell ⟨be,0,none⟩ (I 1))
  rw[←C]
  have Z:=blS ab C af
  have E:=bkF R C G rfl
  have J:Hid (Bk W4 be 39 #[I 1]):=bkS G 0 C
  clear z s
  clear C
  have z:=E.one
  have s:=J.one
  refine(Zbz (Aq be 0) (Aq bv 0) 1 W4 (J.cell 0) ⟨_,E.cell 0⟩ (E.frozen 0)).mono ?_
  rintro e u' ag ⟨rfl,rfl,N⟩
  rw[if_neg (by decide)] at N
  rw[N]
  clear N ag
  clear z s
  obtain⟨W5,L⟩:=ExY (W4.setCell ⟨bv,0,none⟩ (I 0))
  rw[←L]
  have ac:=blS Z L aa
  have U:Hid (Bk W5 bv 3 #[I 0]):=bkS E 0 L
  have Y:=bkF J L E rfl
  clear L
  have z:=U.one
  have s:=Y.one
  simp[Leaves,settle,results,results168,go_sem, *]
  exact ac
 |true=>
 go_wp2_with fail
 refine Cq (a0.out _) ?_
 cases b2 with
 |false=>
  have e0:r=(0,1):=by rw[HR.out];rfl
  subst e0
  go_wp2
  refine leaves_cons (f:=198) (args:=#[Pt be,Pt bv]) (by simp) (by simp[go_sem]) ?_
  clear z s
  obtain⟨W3,X⟩:=ExY (W2.setCell ⟨bv,0,none⟩ (I 0))
  rw[←X]
  have ab:=blS an X aa
  have R:Hid (Bk W3 bv 3 #[I 0]):=bkS ad 0 X
  have G:=bkF ah X ad rfl
  clear X
  have z:=R.one
  have s:=G.one
  obtain⟨W4,C⟩:=ExY (W3.setCell ⟨be,0,none⟩ (I 1))
  rw[←C]
  have Z:=blS ab C af
  have E:=bkF R C G rfl
  have J:Hid (Bk W4 be 39 #[I 1]):=bkS G 0 C
  clear z s
  clear C
  have z:=E.one
  have s:=J.one
  refine(Zbz (Aq be 0) (Aq bv 0) 1 W4 (J.cell 0) ⟨_,E.cell 0⟩ (E.frozen 0)).mono ?_
  rintro e u' ag ⟨rfl,rfl,N⟩
  rw[if_neg (by decide)] at N
  rw[N]
  clear N ag
  clear z s
  obtain⟨W5,L⟩:=ExY (W4.setCell ⟨bv,0,none⟩ (I 0))
  rw[←L]
  have ac:=blS Z L aa
  have U:Hid (Bk W5 bv 3 #[I 0]):=bkS E 0 L
  have Y:=bkF J L E rfl
  clear L
  have z:=U.one
  have s:=Y.one
  simp[Leaves,settle,results,results168,go_sem, *]
  exact ac
 |true=>
 go_wp2_with fail
 refine Cq (a1.out _) ?_
 cases b3 with
 |false=>
  have e0:r=(0,1):=by rw[HR.out];rfl
  subst e0
  go_wp2
  refine leaves_cons (f:=198) (args:=#[Pt be,Pt bv]) (by simp) (by simp[go_sem]) ?_
  clear z s
  obtain⟨W3,X⟩:=ExY (W2.setCell ⟨bv,0,none⟩ (I 0))
  rw[←X]
  have ab:=blS an X aa
  have R:Hid (Bk W3 bv 3 #[I 0]):=bkS ad 0 X
  have G:=bkF ah X ad rfl
  clear X
  have z:=R.one
  have s:=G.one
  obtain⟨W4,C⟩:=ExY (W3.setCell ⟨be,0,none⟩ (I 1))
  rw[←C]
  have Z:=blS ab C af
  have E:=bkF R C G rfl
  have J:Hid (Bk W4 be 39 #[I 1]):=bkS G 0 C
  clear z s
  clear C
  have z:=E.one
  have s:=J.one
  refine(Zbz (Aq be 0) (Aq bv 0) 1 W4 (J.cell 0) ⟨_,E.cell 0⟩ (E.frozen 0)).mono ?_
  rintro e u' ag ⟨rfl,rfl,N⟩
  rw[if_neg (by decide)] at N
  rw[N]
  clear N ag
  clear z s
  obtain⟨W5,L⟩:=ExY (W4.setCell ⟨bv,0,none⟩ (I 0))
  rw[←L]
  have ac:=blS Z L aa
  have U:Hid (Bk W5 bv 3 #[I 0]):=bkS E 0 L
  have Y:=bkF J L E rfl
  clear L
  have z:=U.one
  have s:=Y.one
  simp[Leaves,settle,results,results168,go_sem, *]
  exact ac
 |true=>
 cases aC with
 |true=>
  have aD:aq=wrap64 (am-ae):=by rw[HG.out];rfl
  replace aD:=Hi aD
  by_cases hd:days≤0
  ·have e0:r=(max aq 0,0):=by rw[HR.out,if_neg (by simp),if_pos hd]
   subst e0
   go_upto_region 8 with(fail)
   rw[←aD.out]
   go_wp2
   refine leaves_cons (f:=198) (args:=#[Pt be,Pt bv]) (by simp) (by simp[go_sem]) ?_
   clear z s
   obtain⟨W3,X⟩:=ExY (W2.setCell ⟨bv,0,none⟩ (I (max aq 0)))
   rw[←X]
   have ab:=blS an X aa
   have R:Hid (Bk W3 bv 3 #[I (max aq 0)]):=bkS ad 0 X
   have G:=bkF ah X ad rfl
   clear X
   have z:=R.one
   have s:=G.one
   obtain⟨W4,C⟩:=ExY (W3.setCell ⟨be,0,none⟩ (I 0))
   rw[←C]
   have Z:=blS ab C af
   have E:=bkF R C G rfl
   have J:Hid (Bk W4 be 39 #[I 0]):=bkS G 0 C
   clear z s
   clear C
   have z:=E.one
   have s:=J.one
   refine(Zbz (Aq be 0) (Aq bv 0) 0 W4 (J.cell 0) ⟨_,E.cell 0⟩ (E.frozen 0)).mono ?_
   rintro e u' ag ⟨rfl,rfl,N⟩
   rw[if_pos rfl] at N
   rw[N]
   clear N ag
   simp[Leaves,settle,results,results168,go_sem, *]
   exact Z
  by_cases aP:100000<days
  ·have e0:r=(0,1):=by rw[HR.out,if_neg (by simp),if_neg hd,if_pos aP]
   subst e0
   go_wp2
   refine leaves_cons (f:=198) (args:=#[Pt be,Pt bv]) (by simp) (by simp[go_sem]) ?_
   clear z s
   obtain⟨W3,X⟩:=ExY (W2.setCell ⟨bv,0,none⟩ (I 0))
   rw[←X]
   have ab:=blS an X aa
   have R:Hid (Bk W3 bv 3 #[I 0]):=bkS ad 0 X
   have G:=bkF ah X ad rfl
   clear X
   have z:=R.one
   have s:=G.one
   obtain⟨W4,C⟩:=ExY (W3.setCell ⟨be,0,none⟩ (I 1))
   rw[←C]
   have Z:=blS ab C af
   have E:=bkF R C G rfl
   have J:Hid (Bk W4 be 39 #[I 1]):=bkS G 0 C
   clear z s
   clear C
   have z:=E.one
   have s:=J.one
   refine(Zbz (Aq be 0) (Aq bv 0) 1 W4 (J.cell 0) ⟨_,E.cell 0⟩ (E.frozen 0)).mono ?_
   rintro e u' ag ⟨rfl,rfl,N⟩
   rw[if_neg (by decide)] at N
   rw[N]
   clear N ag
   clear z s
   obtain⟨W5,L⟩:=ExY (W4.setCell ⟨bv,0,none⟩ (I 0))
   rw[←L]
   have ac:=blS Z L aa
   have U:Hid (Bk W5 bv 3 #[I 0]):=bkS E 0 L
   have Y:=bkF J L E rfl
   clear L
   have z:=U.one
   have s:=Y.one
   simp[Leaves,settle,results,results168,go_sem, *]
   exact ac
  have az:=HR.out
  rw[if_neg (by simp),if_neg hd,if_neg aP] at az
  obtain⟨⟨m,em⟩,hm⟩:∃m,m=Zhd aB days:=⟨_,rfl⟩
  have HM:=Hi (Zgy aB days)
  rw[←hm] at az HM
  dsimp only at az HM
  have aI:=Hi az
  clear az hm
  go_upto_region 8 with(fail)
  rw[←aD.out]
  go_wp2_with fail
  refine Cq (HM.out _) ?_
  by_cases aF:em=0
  rotate_left
  ·have e0:r=(0,em):=by rw[aI.out,if_pos aF]
   subst e0
   go_wp2_with fail
   refine Cq (Zdf _ em aF _) ?_
   go_wp2
   refine leaves_cons (f:=198) (args:=#[Pt be,Pt bv]) (by simp) (by simp[go_sem]) ?_
   refine(Zcl (Aq be 0) (Aq bv 0) em _ _ W2 (aF) (ah.cell 0) (ah.frozen 0) ⟨_,ad.cell 0⟩ (ad.frozen 0) (fun h=>ad.ne ah (by decide) (congrArg Addr.block h))).mono ?_
   rintro e u' ag ⟨rfl,rfl,N⟩
   rw[N]
   clear N ag
   clear z s
   obtain⟨W3,X⟩:=ExY (W2.alloc (.cells #[I em] 245))
   obtain⟨bs,ao⟩:=ExY W2.heap.size
   have ab:=blA an X
   have R:=bkA ad X
   have G:=bkA ah X
   have aL:=bkW X ao
   rw[←X]
   clear ao X
   obtain⟨W4,C⟩:=ExY (W3.setCell ⟨be,0,none⟩ (I em))
   rw[←C]
   have Z:=blS ab C af
   have E:=bkF R C G rfl
   have J:Hid (Bk W4 be 39 #[I em]):=bkS G 0 C
   have al:=bkF aL C G rfl
   clear C
   have z:=E.one
   have s:=J.one
   have aj:=al.one
   clear z s aj
   obtain⟨W5,L⟩:=ExY (W4.setCell ⟨bv,0,none⟩ (I 0))
   rw[←L]
   have ac:=blS Z L aa
   have U:Hid (Bk W5 bv 3 #[I 0]):=bkS E 0 L
   have Y:=bkF J L E rfl
   have ak:=bkF al L E rfl
   clear L
   have z:=U.one
   have s:=Y.one
   have aj:=ak.one
   simp[Leaves,settle,results,results168,go_sem, *]
   exact ac
  subst aF
  go_wp2_with fail
  refine Cq (ZdW _ _) ?_
  obtain⟨⟨q,eq⟩,hq⟩:∃p,p=Za3 ae m 3650000 0:=⟨_,rfl⟩
  have HQ:=Hi (Zck ae m 3650000 0)
  have aA:=aI.out
  rw[if_neg (by simp)] at aA
  rw[←hq] at aA HQ
  dsimp only at aA HQ
  have aJ:=Hi aA
  clear aA hq
  go_wp2_with fail
  refine(HQ.out W2).mono ?_
  rintro e W3 ⟨rfl,hb⟩
  have ab:=blT an hb
  have R:=bkN ad hb
  have G:=bkN ah hb
  clear z s
  clear hb
  have z:=R.one
  have s:=G.one
  by_cases aG:eq=0
  rotate_left
  ·have e0:r=(0,eq):=by rw[aJ.out,if_pos aG]
   subst e0
   go_wp2_with fail
   refine Cq (Zdf _ eq aG _) ?_
   go_wp2
   refine leaves_cons (f:=198) (args:=#[Pt be,Pt bv]) (by simp) (by simp[go_sem]) ?_
   refine(Zcl (Aq be 0) (Aq bv 0) eq _ _ W3 (aG) (G.cell 0) (G.frozen 0) ⟨_,R.cell 0⟩ (R.frozen 0) (fun h=>R.ne G (by decide) (congrArg Addr.block h))).mono ?_
   rintro e u' ag ⟨rfl,rfl,N⟩
   rw[N]
   clear N ag
   clear z s
   obtain⟨W4,C⟩:=ExY (W3.alloc (.cells #[I eq] 245))
   obtain⟨bs,ao⟩:=ExY W3.heap.size
   have Z:=blA ab C
   have E:=bkA R C
   have J:=bkA G C
   have al:=bkW C ao
   rw[←C]
   clear ao C
   obtain⟨W5,L⟩:=ExY (W4.setCell ⟨be,0,none⟩ (I eq))
   rw[←L]
   have ac:=blS Z L af
   have U:=bkF E L J rfl
   have Y:Hid (Bk W5 be 39 #[I eq]):=bkS J 0 L
   have ak:=bkF al L J rfl
   clear L
   have z:=U.one
   have s:=Y.one
   have aj:=ak.one
   clear z s aj
   obtain⟨W6,ai⟩:=ExY (W5.setCell ⟨bv,0,none⟩ (I 0))
   rw[←ai]
   have au:=blS ac ai aa
   have ay:Hid (Bk W6 bv 3 #[I 0]):=bkS U 0 ai
   have aw:=bkF Y ai U rfl
   have ax:=bkF ak ai U rfl
   clear ai
   have z:=ay.one
   have s:=aw.one
   have aj:=ax.one
   simp[Leaves,settle,results,results168,go_sem, *]
   exact au
  subst aG
  go_wp2_with fail
  refine Cq (ZdW _ _) ?_
  have ap:=aJ.out
  rw[if_neg (by simp)] at ap
  obtain⟨ng,aY⟩:∃u,wrap64 (-aq)=u:=⟨_,rfl⟩
  rw[aY] at ap
  obtain⟨mx,aX⟩:∃u,max aq ng=u:=⟨_,rfl⟩
  rw[aX] at ap
  obtain⟨up,aH⟩:=ExY (max (wrap64 (q-wrap64 (mx.tdiv 2))) 0)
  rw[←aH] at ap
  obtain⟨⟨a,ea⟩,ha⟩:∃p,p=ZfM (max aq 0) up:=⟨_,rfl⟩
  have HA:=Hi (Zc1 (max aq 0) up)
  rw[←ha] at ap HA
  dsimp only at ap HA
  rw[aH] at HA
  have aK:=Hi ap
  clear ap ha aH
  go_wp2_with fail
  refine Cq (HA.out _) ?_
  by_cases aE:ea=0
  rotate_left
  ·have e0:r=(0,ea):=by rw[aK.out,if_pos aE]
   subst e0
   go_wp2_with fail
   refine Cq (Zdf _ ea aE _) ?_
   go_wp2
   refine leaves_cons (f:=198) (args:=#[Pt be,Pt bv]) (by simp) (by simp[go_sem]) ?_
   refine(Zcl (Aq be 0) (Aq bv 0) ea _ _ W3 (aE) (G.cell 0) (G.frozen 0) ⟨_,R.cell 0⟩ (R.frozen 0) (fun h=>R.ne G (by decide) (congrArg Addr.block h))).mono ?_
   rintro e u' ag ⟨rfl,rfl,N⟩
   rw[N]
   clear N ag
   clear z s
   obtain⟨W4,C⟩:=ExY (W3.alloc (.cells #[I ea] 245))
   obtain⟨bs,ao⟩:=ExY W3.heap.size
   have Z:=blA ab C
   have E:=bkA R C
   have J:=bkA G C
   have al:=bkW C ao
   rw[←C]
   clear ao C
   obtain⟨W5,L⟩:=ExY (W4.setCell ⟨be,0,none⟩ (I ea))
   rw[←L]
   have ac:=blS Z L af
   have U:=bkF E L J rfl
   have Y:Hid (Bk W5 be 39 #[I ea]):=bkS J 0 L
   have ak:=bkF al L J rfl
   clear L
   have z:=U.one
   have s:=Y.one
   have aj:=ak.one
   clear z s aj
   obtain⟨W6,ai⟩:=ExY (W5.setCell ⟨bv,0,none⟩ (I 0))
   rw[←ai]
   have au:=blS ac ai aa
   have ay:Hid (Bk W6 bv 3 #[I 0]):=bkS U 0 ai
   have aw:=bkF Y ai U rfl
   have ax:=bkF ak ai U rfl
   clear ai
   have z:=ay.one
   have s:=aw.one
   have aj:=ax.one
   simp[Leaves,settle,results,results168,go_sem, *]
   exact au
  subst aE
  have e0:r=(a,0):=by rw[aK.out,if_neg (by simp)]
  subst e0
  go_wp2_with fail
  refine Cq (ZdW _ _) ?_
  go_wp2
  refine leaves_cons (f:=198) (args:=#[Pt be,Pt bv]) (by simp) (by simp[go_sem]) ?_
  clear z s
  obtain⟨W4,C⟩:=ExY (W3.setCell ⟨bv,0,none⟩ (I a))
  rw[←C]
  have Z:=blS ab C aa
  have E:Hid (Bk W4 bv 3 #[I a]):=bkS R 0 C
  have J:=bkF G C R rfl
  clear C
  have z:=E.one
  have s:=J.one
  obtain⟨W5,L⟩:=ExY (W4.setCell ⟨be,0,none⟩ (I 0))
  rw[←L]
  have ac:=blS Z L af
  have U:=bkF E L J rfl
  have Y:Hid (Bk W5 be 39 #[I 0]):=bkS J 0 L
  clear z s
  clear L
  have z:=U.one
  have s:=Y.one
  refine(Zbz (Aq be 0) (Aq bv 0) 0 W5 (Y.cell 0) ⟨_,U.cell 0⟩ (U.frozen 0)).mono ?_
  rintro e u' ag ⟨rfl,rfl,N⟩
  rw[if_pos rfl] at N
  rw[N]
  clear N ag
  simp[Leaves,settle,results,results168,go_sem, *]
  exact ac
 |false=>
  have aD:aq=wrap64 (-(wrap64 (am-ae))):=by rw[HG.out];rfl
  replace aD:=Hi aD
  by_cases hd:days≤0
  ·have e0:r=(max aq 0,0):=by rw[HR.out,if_neg (by simp),if_pos hd]
   subst e0
   go_upto_region 8 with(fail)
   rw[←aD.out]
   go_wp2
   refine leaves_cons (f:=198) (args:=#[Pt be,Pt bv]) (by simp) (by simp[go_sem]) ?_
   clear z s
   obtain⟨W3,X⟩:=ExY (W2.setCell ⟨bv,0,none⟩ (I (max aq 0)))
   rw[←X]
   have ab:=blS an X aa
   have R:Hid (Bk W3 bv 3 #[I (max aq 0)]):=bkS ad 0 X
   have G:=bkF ah X ad rfl
   clear X
   have z:=R.one
   have s:=G.one
   obtain⟨W4,C⟩:=ExY (W3.setCell ⟨be,0,none⟩ (I 0))
   rw[←C]
   have Z:=blS ab C af
   have E:=bkF R C G rfl
   have J:Hid (Bk W4 be 39 #[I 0]):=bkS G 0 C
   clear z s
   clear C
   have z:=E.one
   have s:=J.one
   refine(Zbz (Aq be 0) (Aq bv 0) 0 W4 (J.cell 0) ⟨_,E.cell 0⟩ (E.frozen 0)).mono ?_
   rintro e u' ag ⟨rfl,rfl,N⟩
   rw[if_pos rfl] at N
   rw[N]
   clear N ag
   simp[Leaves,settle,results,results168,go_sem, *]
   exact Z
  by_cases aP:100000<days
  ·have e0:r=(0,1):=by rw[HR.out,if_neg (by simp),if_neg hd,if_pos aP]
   subst e0
   go_wp2
   refine leaves_cons (f:=198) (args:=#[Pt be,Pt bv]) (by simp) (by simp[go_sem]) ?_
   clear z s
   obtain⟨W3,X⟩:=ExY (W2.setCell ⟨bv,0,none⟩ (I 0))
   rw[←X]
   have ab:=blS an X aa
   have R:Hid (Bk W3 bv 3 #[I 0]):=bkS ad 0 X
   have G:=bkF ah X ad rfl
   clear X
   have z:=R.one
   have s:=G.one
   obtain⟨W4,C⟩:=ExY (W3.setCell ⟨be,0,none⟩ (I 1))
   rw[←C]
   have Z:=blS ab C af
   have E:=bkF R C G rfl
   have J:Hid (Bk W4 be 39 #[I 1]):=bkS G 0 C
   clear z s
   clear C
   have z:=E.one
   have s:=J.one
   refine(Zbz (Aq be 0) (Aq bv 0) 1 W4 (J.cell 0) ⟨_,E.cell 0⟩ (E.frozen 0)).mono ?_
   rintro e u' ag ⟨rfl,rfl,N⟩
   rw[if_neg (by decide)] at N
   rw[N]
   clear N ag
   clear z s
   obtain⟨W5,L⟩:=ExY (W4.setCell ⟨bv,0,none⟩ (I 0))
   rw[←L]
   have ac:=blS Z L aa
   have U:Hid (Bk W5 bv 3 #[I 0]):=bkS E 0 L
   have Y:=bkF J L E rfl
   clear L
   have z:=U.one
   have s:=Y.one
   simp[Leaves,settle,results,results168,go_sem, *]
   exact ac
  have az:=HR.out
  rw[if_neg (by simp),if_neg hd,if_neg aP] at az
  obtain⟨⟨m,em⟩,hm⟩:∃m,m=Zhd aB days:=⟨_,rfl⟩
  have HM:=Hi (Zgy aB days)
  rw[←hm] at az HM
  dsimp only at az HM
  have aI:=Hi az
  clear az hm
  go_upto_region 8 with(fail)
  rw[←aD.out]
  go_wp2_with fail
  refine Cq (HM.out _) ?_
  by_cases aF:em=0
  rotate_left
  ·have e0:r=(0,em):=by rw[aI.out,if_pos aF]
   subst e0
   go_wp2_with fail
   refine Cq (Zdf _ em aF _) ?_
   go_wp2
   refine leaves_cons (f:=198) (args:=#[Pt be,Pt bv]) (by simp) (by simp[go_sem]) ?_
   refine(Zcl (Aq be 0) (Aq bv 0) em _ _ W2 (aF) (ah.cell 0) (ah.frozen 0) ⟨_,ad.cell 0⟩ (ad.frozen 0) (fun h=>ad.ne ah (by decide) (congrArg Addr.block h))).mono ?_
   rintro e u' ag ⟨rfl,rfl,N⟩
   rw[N]
   clear N ag
   clear z s
   obtain⟨W3,X⟩:=ExY (W2.alloc (.cells #[I em] 245))
   obtain⟨bs,ao⟩:=ExY W2.heap.size
   have ab:=blA an X
   have R:=bkA ad X
   have G:=bkA ah X
   have aL:=bkW X ao
   rw[←X]
   clear ao X
   obtain⟨W4,C⟩:=ExY (W3.setCell ⟨be,0,none⟩ (I em))
   rw[←C]
   have Z:=blS ab C af
   have E:=bkF R C G rfl
   have J:Hid (Bk W4 be 39 #[I em]):=bkS G 0 C
   have al:=bkF aL C G rfl
   clear C
   have z:=E.one
   have s:=J.one
   have aj:=al.one
   clear z s aj
   obtain⟨W5,L⟩:=ExY (W4.setCell ⟨bv,0,none⟩ (I 0))
   rw[←L]
   have ac:=blS Z L aa
   have U:Hid (Bk W5 bv 3 #[I 0]):=bkS E 0 L
   have Y:=bkF J L E rfl
   have ak:=bkF al L E rfl
   clear L
   have z:=U.one
   have s:=Y.one
   have aj:=ak.one
   simp[Leaves,settle,results,results168,go_sem, *]
   exact ac
  subst aF
  go_wp2_with fail
  refine Cq (ZdW _ _) ?_
  obtain⟨⟨q,eq⟩,hq⟩:∃p,p=Za3 ae m 3650000 0:=⟨_,rfl⟩
  have HQ:=Hi (Zck ae m 3650000 0)
  have aA:=aI.out
  rw[if_neg (by simp)] at aA
  rw[←hq] at aA HQ
  dsimp only at aA HQ
  have aJ:=Hi aA
  clear aA hq
  go_wp2_with fail
  refine(HQ.out W2).mono ?_
  rintro e W3 ⟨rfl,hb⟩
  have ab:=blT an hb
  have R:=bkN ad hb
  have G:=bkN ah hb
  clear z s
  clear hb
  have z:=R.one
  have s:=G.one
  by_cases aG:eq=0
  rotate_left
  ·have e0:r=(0,eq):=by rw[aJ.out,if_pos aG]
   subst e0
   go_wp2_with fail
   refine Cq (Zdf _ eq aG _) ?_
   go_wp2
   refine leaves_cons (f:=198) (args:=#[Pt be,Pt bv]) (by simp) (by simp[go_sem]) ?_
   refine(Zcl (Aq be 0) (Aq bv 0) eq _ _ W3 (aG) (G.cell 0) (G.frozen 0) ⟨_,R.cell 0⟩ (R.frozen 0) (fun h=>R.ne G (by decide) (congrArg Addr.block h))).mono ?_
   rintro e u' ag ⟨rfl,rfl,N⟩
   rw[N]
   clear N ag
   clear z s
   obtain⟨W4,C⟩:=ExY (W3.alloc (.cells #[I eq] 245))
   obtain⟨bs,ao⟩:=ExY W3.heap.size
   have Z:=blA ab C
   have E:=bkA R C
   have J:=bkA G C
   have al:=bkW C ao
   rw[←C]
   clear ao C
   obtain⟨W5,L⟩:=ExY (W4.setCell ⟨be,0,none⟩ (I eq))
   rw[←L]
   have ac:=blS Z L af
   have U:=bkF E L J rfl
   have Y:Hid (Bk W5 be 39 #[I eq]):=bkS J 0 L
   have ak:=bkF al L J rfl
   clear L
   have z:=U.one
   have s:=Y.one
   have aj:=ak.one
   clear z s aj
   obtain⟨W6,ai⟩:=ExY (W5.setCell ⟨bv,0,none⟩ (I 0))
   rw[←ai]
   have au:=blS ac ai aa
   have ay:Hid (Bk W6 bv 3 #[I 0]):=bkS U 0 ai
   have aw:=bkF Y ai U rfl
   have ax:=bkF ak ai U rfl
   clear ai
   have z:=ay.one
   have s:=aw.one
   have aj:=ax.one
   simp[Leaves,settle,results,results168,go_sem, *]
   exact au
  subst aG
  go_wp2_with fail
  refine Cq (ZdW _ _) ?_
  have ap:=aJ.out
  rw[if_neg (by simp)] at ap
  obtain⟨ng,aY⟩:∃u,wrap64 (-aq)=u:=⟨_,rfl⟩
  rw[aY] at ap
  obtain⟨mx,aX⟩:∃u,max aq ng=u:=⟨_,rfl⟩
  rw[aX] at ap
  obtain⟨up,aH⟩:=ExY (max (wrap64 (q-wrap64 (mx.tdiv 2))) 0)
  rw[←aH] at ap
  obtain⟨⟨a,ea⟩,ha⟩:∃p,p=ZfM (max aq 0) up:=⟨_,rfl⟩
  have HA:=Hi (Zc1 (max aq 0) up)
  rw[←ha] at ap HA
  dsimp only at ap HA
  rw[aH] at HA
  have aK:=Hi ap
  clear ap ha aH
  go_wp2_with fail
  refine Cq (HA.out _) ?_
  by_cases aE:ea=0
  rotate_left
  ·have e0:r=(0,ea):=by rw[aK.out,if_pos aE]
   subst e0
   go_wp2_with fail
   refine Cq (Zdf _ ea aE _) ?_
   go_wp2
   refine leaves_cons (f:=198) (args:=#[Pt be,Pt bv]) (by simp) (by simp[go_sem]) ?_
   refine(Zcl (Aq be 0) (Aq bv 0) ea _ _ W3 (aE) (G.cell 0) (G.frozen 0) ⟨_,R.cell 0⟩ (R.frozen 0) (fun h=>R.ne G (by decide) (congrArg Addr.block h))).mono ?_
   rintro e u' ag ⟨rfl,rfl,N⟩
   rw[N]
   clear N ag
   clear z s
   obtain⟨W4,C⟩:=ExY (W3.alloc (.cells #[I ea] 245))
   obtain⟨bs,ao⟩:=ExY W3.heap.size
   have Z:=blA ab C
   have E:=bkA R C
   have J:=bkA G C
   have al:=bkW C ao
   rw[←C]
   clear ao C
   obtain⟨W5,L⟩:=ExY (W4.setCell ⟨be,0,none⟩ (I ea))
   rw[←L]
   have ac:=blS Z L af
   have U:=bkF E L J rfl
   have Y:Hid (Bk W5 be 39 #[I ea]):=bkS J 0 L
   have ak:=bkF al L J rfl
   clear L
   have z:=U.one
   have s:=Y.one
   have aj:=ak.one
   clear z s aj
   obtain⟨W6,ai⟩:=ExY (W5.setCell ⟨bv,0,none⟩ (I 0))
   rw[←ai]
   have au:=blS ac ai aa
   have ay:Hid (Bk W6 bv 3 #[I 0]):=bkS U 0 ai
   have aw:=bkF Y ai U rfl
   have ax:=bkF ak ai U rfl
   clear ai
   have z:=ay.one
   have s:=aw.one
   have aj:=ax.one
   simp[Leaves,settle,results,results168,go_sem, *]
   exact au
  subst aE
  have e0:r=(a,0):=by rw[aK.out,if_neg (by simp)]
  subst e0
  go_wp2_with fail
  refine Cq (ZdW _ _) ?_
  go_wp2
  refine leaves_cons (f:=198) (args:=#[Pt be,Pt bv]) (by simp) (by simp[go_sem]) ?_
  clear z s
  obtain⟨W4,C⟩:=ExY (W3.setCell ⟨bv,0,none⟩ (I a))
  rw[←C]
  have Z:=blS ab C aa
  have E:Hid (Bk W4 bv 3 #[I a]):=bkS R 0 C
  have J:=bkF G C R rfl
  clear C
  have z:=E.one
  have s:=J.one
  obtain⟨W5,L⟩:=ExY (W4.setCell ⟨be,0,none⟩ (I 0))
  rw[←L]
  have ac:=blS Z L af
  have U:=bkF E L J rfl
  have Y:Hid (Bk W5 be 39 #[I 0]):=bkS J 0 L
  clear z s
  clear L
  have z:=U.one
  have s:=Y.one
  refine(Zbz (Aq be 0) (Aq bv 0) 0 W5 (Y.cell 0) ⟨_,U.cell 0⟩ (U.frozen 0)).mono ?_
  rintro e u' ag ⟨rfl,rfl,N⟩
  rw[if_pos rfl] at N
  rw[N]
  clear N ag
  simp[Leaves,settle,results,results168,go_sem, *]
  exact ac
noncomputable def ZgL(i:ZaD)(price vol day:Int):Int×Int:=
 if i.kind<1∨3<i.kind then(0,32)
 else if Zaz price 0 100000000000000=false∨Zaz vol 0 100000000000000=false∨Zaz day 0 100000=false then(0,1)
 else if i.kind≠3 then(price,0)
 else if Zaz i.expiry 0 100000=false then(0,32)
 else Zf6 i.call i.strike price vol (wrap64 (i.expiry-day))
theorem Ziz(i:ZaD)(s G C:Int)(w:World):Calls prog 130 #[i.val,I s,I G,I C] w fun e w'=>e=.returned (.tuple #[I (ZgL i s G C).1,I (ZgL i s G C).2])∧Bw w w':=by
 obtain⟨r,hr⟩:=ExY (ZgL i s G C)
 rw[←hr]
 unfold ZgL at hr
 have aj:=Hi (fun w=>Zb2 s 0 100000000000000 w)
 have ak:=Hi (fun w=>Zb2 G 0 100000000000000 w)
 have al:=Hi (fun w=>Zb2 C 0 100000 w)
 have Z:=Hi (fun w=>Zb2 i.expiry 0 100000 w)
 have HV:=Hi (fun w=>Zkx i.call i.strike s G (wrap64 (i.expiry-C)) w)
 obtain⟨b1,aa⟩:=ExY (Zaz s 0 100000000000000)
 obtain⟨b2,ab⟩:=ExY (Zaz G 0 100000000000000)
 obtain⟨b3,ac⟩:=ExY (Zaz C 0 100000)
 obtain⟨b4,ad⟩:=ExY (Zaz i.expiry 0 100000)
 obtain⟨va,ah⟩:=ExY (Zf6 i.call i.strike s G (wrap64 (i.expiry-C)))
 rw[←aa,←ab,←ac,←ad,←ah] at hr
 rw[←aa] at aj
 rw[←ab] at ak
 rw[←ac] at al
 rw[←ad] at Z
 rw[←ah] at HV
 clear aa ab ac ad ah
 have HR:=Hi hr
 clear hr
 obtain⟨E,J,X,strike,expiry,an,mark⟩:=i
 unfold ZaD.val
 dsimp only at HR Z HV ⊢
 obtain⟨W1,N⟩:=ExY (w.alloc (.cells #[I E,I J,I X,I strike,I expiry,.bool an,I mark] 66))
 obtain⟨bi,ae⟩:=ExY w.heap.size
 have z:=blB N
 have R:=bkW N ae
 go_enter func130,ntmps130
 go_upto_region 1 with(fail)
 rw[←N,←ae]
 clear N ae
 have U:=R.seven
 by_cases k1:E<1
 ·have e0:r=(0,32):=by rw[HR.out,if_pos (.inl k1)]
  subst e0
  go_wp2
  go_ret2
  exact⟨rfl,z⟩
 by_cases k3:3<E
 ·have e0:r=(0,32):=by rw[HR.out,if_pos (.inr k3)]
  subst e0
  go_wp2
  go_ret2
  exact⟨rfl,z⟩
 have af:=HR.out
 rw[if_neg (by omega)] at af
 have L:=Hi af
 clear af
 go_wp2_with fail
 refine Cq (aj.out _) ?_
 cases b1 with
 |false=>
  have e0:r=(0,1):=by rw[L.out];rfl
  subst e0
  go_wp2
  go_ret2
  exact⟨rfl,z⟩
 |true=>
 go_wp2_with fail
 refine Cq (ak.out _) ?_
 cases b2 with
 |false=>
  have e0:r=(0,1):=by rw[L.out];rfl
  subst e0
  go_wp2
  go_ret2
  exact⟨rfl,z⟩
 |true=>
 go_wp2_with fail
 refine Cq (al.out _) ?_
 cases b3 with
 |false=>
  have e0:r=(0,1):=by rw[L.out];rfl
  subst e0
  go_wp2
  go_ret2
  exact⟨rfl,z⟩
 |true=>
 have ag:=L.out
 rw[if_neg (by simp)] at ag
 have Y:=Hi ag
 clear ag
 by_cases kk:E=3
 rotate_left
 ·have bk:(E != 3)=true:=by simpa using kk
  have e0:r=(s,0):=by rw[Y.out,if_pos kk]
  subst e0
  go_wp2
  go_ret2
  exact⟨rfl,z⟩
 subst kk
 go_wp2_with fail
 refine Cq (Z.out _) ?_
 cases b4 with
 |false=>
  have e0:r=(0,32):=by rw[Y.out];rfl
  subst e0
  go_wp2
  go_ret2
  exact⟨rfl,z⟩
 |true=>
 have e0:r=va:=by rw[Y.out];rfl
 subst e0
 go_wp2_with fail
 refine(HV.out W1).mono ?_
 rintro e W2 ⟨rfl,hb⟩
 have ai:=blT z hb
 have am:Hid (Bk W2 bi 66 #[I 3,I J,I X,I strike,I expiry,.bool an,I mark]):=bkN R hb
 clear U
 clear hb
 have U:=am.seven
 go_wp2
 go_ret2
 exact⟨rfl,ai⟩
noncomputable def Zj3(i:ZaD)(u:ZbD)(day:Int):Int×Int:=ZgL i u.price u.vol day
theorem Zj4(i:ZaD)(u:ZbD)(s:Int)(w:World)(hp:0≤u.price∧u.price≤1000000000000)(hv:0≤u.vol∧u.vol≤50000):Calls prog 77 #[i.val,u.val,I s] w fun e w'=>e=.returned (.tuple #[I (Zj3 i u s).1,I (Zj3 i u s).2])∧Bw w w':=by
 unfold Zj3
 have HV:=Hi (fun w=>Ziz i u.price u.vol s w)
 obtain⟨va,ag⟩:=ExY (ZgL i u.price u.vol s)
 rw[←ag] at HV ⊢
 clear ag
 obtain⟨ah,Z,ai,J,E,ak,mark⟩:=i
 obtain⟨aj,al,price,vol⟩:=u
 unfold ZaD.val at HV ⊢
 unfold ZbD.val
 dsimp only at HV hp hv ⊢
 obtain⟨am,an⟩:=hp
 obtain⟨ao,ap⟩:=hv
 obtain⟨W1,z⟩:=ExY (w.alloc (.cells #[I ah,I Z,I ai,I J,I E,.bool ak,I mark] 66))
 obtain⟨bi,G⟩:=ExY w.heap.size
 have aa:=blB z
 have ad:=bkW z G
 obtain⟨W2,C⟩:=ExY (W1.alloc (.cells #[.string aj,I al,I price,I vol] 63))
 obtain⟨bu,Y⟩:=ExY W1.heap.size
 have ab:=blA aa C
 have L:=bkA ad C
 have N:=bkW C Y
 have X:bu=bi+1:=by rw[Y,z,World.size_alloc,←G]
 go_enter func77,ntmps77
 go_upto_region 1 with(fail)
 rw[←z,←G,←C,←X]
 clear z G X C Y
 have R:=L.seven
 have U:=N.four
 go_wp2_with fail
 refine(HV.out W2).mono ?_
 rintro e W3 ⟨rfl,hb⟩
 have ac:=blT ab hb
 have ae:=bkN L hb
 have af:=bkN N hb
 clear R U
 clear hb
 have R:=ae.seven
 have U:=af.four
 go_wp2
 go_ret2
 exact⟨rfl,ac⟩
def ZdM:List Int:=[-2000,-1000,-500,0,500,1000,2000]
def ZfU:List Int:=[-2500,0,2500]
def Gl(w:World):Prop:=(∀j,j<7→w.cell? (Aq 5 j)=some (I (ZdM.getD j 0)))∧(∀j,j<3→w.cell? (Aq 6 j)=some (I (ZfU.getD j 0)))
theorem Gl.lt{w:World}(h:Gl w):6<w.heap.size:=ZcQ (h.2 0 (by decide))
theorem Gl.below{w w':World}{B:Nat}(h:Gl w)(s:Below B w w')(z:6<B):Gl w':=
 ⟨fun j hj=>(s.cell (p:=Aq 5 j) (by simp only;omega)).trans (h.1 j hj),fun j hj=>(s.cell (p:=Aq 6 j) (by simp only;omega)).trans (h.2 j hj)⟩
theorem Zkq:∀j,j<7 → -2000≤ZdM.getD j 0∧ZdM.getD j 0≤2000:=by decide
theorem Zmo:∀j,j<3 → -2500≤ZfU.getD j 0∧ZfU.getD j 0≤2500:=by decide
noncomputable def Zch(price vol:Int)(s:Nat):Int×Int×Int:=
 if(Za3 price (10000+ZdM.getD (s/3) 0) 10000 0).2≠0 then(0,0,(Za3 price (10000+ZdM.getD (s/3) 0) 10000 0).2)
 else if(Za3 vol (10000+ZfU.getD (s%3) 0) 10000 0).2≠0 then(0,0,(Za3 vol (10000+ZfU.getD (s%3) 0) 10000 0).2)
 else((Za3 price (10000+ZdM.getD (s/3) 0) 10000 0).1,(Za3 vol (10000+ZfU.getD (s%3) 0) 10000 0).1,0)
theorem Zkc(z C:Int)(s:Nat)(w:World)(hs:s<21)(hp:0≤z∧z≤1000000000000)(hv:0≤C∧C≤50000)(hg:Gl w):
 Calls prog 228 #[I z,I C,I s] w fun e w'=>e=.returned (.tuple #[I (Zch z C s).1,I (Zch z C s).2.1,I (Zch z C s).2.2])∧Bw w w':=by
 obtain⟨r,hr⟩:=ExY (Zch z C s)
 rw[←hr]
 unfold Zch at hr
 have d1:s/3<7:=by omega
 have d2:s%3<3:=by omega
 have c1:=hg.1 _ d1
 have c2:=hg.2 _ d2
 have r1:=Zkq _ d1
 have r2:=Zmo _ d2
 obtain⟨sh,Y⟩:=ExY (ZdM.getD (s/3) 0)
 obtain⟨vo,R⟩:=ExY (ZfU.getD (s%3) 0)
 rw[←Y] at c1 r1 hr
 rw[←R] at c2 r2 hr
 have aa:=Hi R
 clear Y R
 have HP:=Hi (fun w=>Zck z (10000+sh) 10000 0 w)
 have HV:=Hi (fun w=>Zck C (10000+vo) 10000 0 w)
 obtain⟨⟨p,ep⟩,X⟩:∃b,b=Za3 z (10000+sh) 10000 0:=⟨_,rfl⟩
 obtain⟨⟨v,ev⟩,Z⟩:∃b,b=Za3 C (10000+vo) 10000 0:=⟨_,rfl⟩
 rw[←X] at HP hr
 rw[←Z] at HV hr
 dsimp only at HP HV hr
 have HR:=Hi hr
 have HG:=Hi hg
 clear hr X Z hg
 obtain⟨ab,ac⟩:=hp
 obtain⟨ad,ae⟩:=hv
 have i1:¬((21:Int)≤(s:Int)):=by omega
 have w1:wrap64 (10000+sh)=10000+sh:=by unfold wrap64;omega
 have w2:wrap64 (10000+vo)=10000+vo:=by unfold wrap64;omega
 go_enter func228,ntmps228
 go_wp2_with fail
 refine(HP.out w).mono ?_
 rintro e W1 ⟨rfl,hb⟩
 have E:Hid (Bw w W1):=hb.mono (Nat.le_refl _)
 clear hb
 by_cases J:ep=0
 rotate_left
 ·have bp:(ep != 0)=true:=by simpa using J
  have e0:r=(0,0,ep):=by rw[HR.out,if_pos J]
  subst e0
  go_wp2
  go_ret3
  exact⟨rfl,E⟩
 subst J
 have N:=HR.out
 rw[if_neg (by simp)] at N
 have U:=Hi N
 clear N
 have c3:=(HG.below E HG.lt).2 _ d2
 rw[show ZfU.getD (s%3) 0=vo from aa.symm] at c3
 clear c1 c2
 go_wp2_with fail
 refine(HV.out W1).mono ?_
 rintro e W2 ⟨rfl,hb⟩
 have G:=blT E hb
 clear hb
 by_cases L:ev=0
 rotate_left
 ·have bp:(ev != 0)=true:=by simpa using L
  have e0:r=(0,0,ev):=by rw[U.out,if_pos L]
  subst e0
  go_wp2
  go_ret3
  exact⟨rfl,G⟩
 subst L
 have e0:r=(p,v,0):=by rw[U.out,if_neg (by simp)]
 subst e0
 go_wp2
 go_ret3
 exact⟨rfl,G⟩
end Go.Proofs.YtdefojlkofnloaaGreatDoor
