/- A part of the proof of CoreOnce: for every input, no condition. -/
import Derived.Test.YtdefojlkofnloaaGreatDoorZb10
import Derived.Test.YtdefojlkofnloaaGreatDoorZb25
set_option maxRecDepth 100000
set_option maxHeartbeats 8000000
set_option linter.unusedVariables false
set_option linter.unusedSimpArgs false
namespace Go.Proofs.YtdefojlkofnloaaGreatDoor
open Go.RowKit Go.Proofs.Tryz
theorem good_sorted{m:Zab}{a:Int}(h:ZaZ m a):O.Sorted m.orders:=by
 have s:=(ZbI h.1).2.2.2.2.1
 unfold O.goodB at s
 simp only[Bool.and_eq_true] at s
 exact O.sorted_of _ s.2.1
theorem Zg3{l:List O.Lc}{a i:Int}(h:l.length≤1000000):(O.dropL l a i).1.length≤1000000:=by
 unfold O.dropL
 split
 ·simp only[List.length_append,List.length_take,List.length_drop];omega
 ·simp
def Zcs(m:Zab)(acct id:Int)(m':Zab)(n:Int):Prop:=n=id∧ZaZ m acct∧(O.dropL m.orders acct id).2=0∧∃m2,Zbj {m with orders:=(O.dropL m.orders acct id).1} m2∧Zbo m2 m'
theorem ZhJ(m:Zab)(acct id:Int)(bl ba bi:Nat)(w:World)(hl:Bk w bl 37 m.ar)(a7:Bk w ba 3 #[I acct])(a8:Bk w bi 3 #[I id])(hm:Zay w w.heap.size m)(aU:Gl w):
 Calls prog 49 #[Pt bl,Pt ba,Pt bi] w fun e w'=>Bw w w'∧Zdt 144 (Zcs m acct id) True w.heap.size e w':=by
 have bu:Hid (∀V,Bw w V→Calls prog 45 #[.agg m.ar,I acct] V fun e w'=>Bw V w'∧Zie 144 (ZaZ m acct) e):=fun V hV=>ZdZ m acct V ((hm.below hV).mono hV.size)
 have bb:Hid (∀V,Bw w V→Calls prog 9 #[.agg m.ar] V (ZcA m V)):=fun V hV=>Zbq m V ((hm.below hV).mono hV.size)
 have bc:Hid (ZaZ m acct→∀V,Bw w V→Calls prog 50 #[.slice m.sOrd.A m.orders.length m.sOrd.c,I acct,I id] V (O.LOut V (O.dropL m.orders acct id))):=fun ht V hV=>O.drop_any _ _ _ _ _ _ V (good_sorted ht) hm.short.2.2.2.2.2.1 ((hm.orders.below hV).mono hV.size)
 have bp:=Hi hm.short.2.2.2.2.2.1
 have be:Hid (∀V (m2:Zab),Bw w V→Zay V V.heap.size m2→Calls prog 48 #[.agg m2.ar] V fun e w'=>Bw V w'∧Zd5 144 (Zbo m2) (Zb8 m2) V.heap.size e w'):=fun V m2 hV h=>Zdi m2 V h (aU.below hV aU.lt)
 have a3:=Hi hl
 have a0:=Hi a7
 have a2:=Hi a8
 clear hl a7 a8 hm aU
 obtain⟨W1,R⟩:=ExY (w.alloc (.cells zZ 37))
 obtain⟨bz,am⟩:=ExY w.heap.size
 have an:=blB R
 have aS:=bl0 am
 have aE:=bkA a3 R
 have aw:=bkA a0 R
 have aA:=bkA a2 R
 have aI:=bkW R am
 go_enter func49,ntmps49
 go_upto_region 1 with(fail)
 rw[←R,←am]
 clear R am
 have C:=aE.nine
 have s:=aw.one
 have z:=aA.one
 have E:=aI.nine
 go_wp2_with fail
 refine(bu.out _ an).mono ?_
 rintro e W2 ⟨hb,he⟩
 have bd:=Hi he
 clear he
 have Y:=blT an hb
 have aF:=bkN aE hb
 have ax:=bkN aw hb
 have aB:=bkN aA hb
 have aJ:=bkN aI hb
 clear C s z E
 clear hb
 have C:=aF.nine
 have s:=ax.one
 have z:=aB.one
 have E:=aJ.nine
 rcases bd.out with⟨he,a9⟩|⟨er,aT,he,aX⟩
 rotate_left
 ·unfold Pan at he
  subst he
  dsimp only
  clear aX
  go_wp2
  exact⟨rfl,Y,Zdt.no aT trivial⟩
 subst he
 have aZ:=Hi a9
 clear a9
 dsimp only
 go_wp2_with fail
 have bq:=Hi Y.size
 refine(bb.out _ Y).mono ?_
 rintro e W3 ⟨m2,he,al,ho,hb⟩
 have ao:=blT Y hb
 have aG:=bkN aF hb
 have ay:=bkN ax hb
 have aC:=bkN aB hb
 have ai:=bkN aJ hb
 clear C s z E
 clear hb
 have C:=aG.nine
 have s:=ay.one
 have z:=aC.one
 have E:=ai.nine
 have L:m2.val=.agg m2.ar:=rfl
 rw[L] at he
 clear L
 subst he
 have J:=Hi al
 have bf:Hid (Zaa W3 w.heap.size m2):=ho.mono bq
 clear al ho
 dsimp only
 obtain⟨W4,G⟩:=ExY (W3.alloc (.cells m2.ar 37))
 obtain⟨b5,ak⟩:=ExY W3.heap.size
 have ad:=blA ao G
 have aR:=blZ ao ak
 have aH:=bkA aG G
 have az:=bkA ay G
 have aD:=bkA aC G
 have aK:=bkA ai G
 have aq:=bkW G ak
 have aM:Hid (b5≠bz):=by
  have h:=ai.lt
  show b5≠bz
  rw[ak]
  exact Ne.symm (Nat.ne_of_lt h)
 have bg:=boA bf G
 go_upto_region 3 with(fail)
 rw[←G,←ak]
 clear G ak
 clear C s z E
 have C:=aH.nine
 have s:=az.one
 have z:=aD.one
 have E:=aK.nine
 have aj:=aq.nine
 obtain⟨⟨ls,aN⟩,aW⟩:∃p,p=O.dropL m.orders acct id:=⟨_,rfl⟩
 have aa:=bc.out aZ
 rw[←aW] at aa
 replace aa:=Hi aa
 have aQ:=Hi aW
 clear aW
 go_wp2_with fail
 have br:=Hi ad.size
 refine(aa.out _ ad).mono ?_
 rintro e W5 ⟨A1,c1,rfl,h1,h2,ho,hb⟩
 dsimp only at ho h1
 have bo:Hid (W5.ownsRow w.heap.size 45 5 (.slice A1 ls.length c1) ls.length (O.lcs ls)):=Zap ho br
 have bh:=boN bg hb
 clear h1 h2 ho
 have ap:=blT ad hb
 have a4:=bkN aH hb
 have a1:=bkN az hb
 have af:=bkN aD hb
 have aL:=bkN aK hb
 have ab:=bkN aq hb
 clear C s z E aj
 clear hb
 have C:=a4.nine
 have s:=a1.one
 have z:=af.one
 have E:=aL.nine
 have aj:=ab.nine
 dsimp only
 by_cases aV:aN=0
 rotate_left
 ·go_wp2_with fail
  refine Cq (ZbJ aN aV _) ?_
  dsimp only
  go_wp2
  exact⟨rfl,ap,Zdt.no aV trivial⟩
 subst aV
 go_wp2_with fail
 refine Cq (ZbZ _) ?_
 dsimp only
 have aY:Hid (ls.length≤1000000):=by
  have h:=Zg3 (a:=acct) (i:=id) bp
  rw[←aQ.out] at h
  exact h
 go_upto_region 6 with(fail)
 clear C s z E aj
 obtain⟨W6,X⟩:=ExY ((W5.setCell ⟨b5,6,none⟩ (.slice A1 ls.length c1)).drew)
 have Z:Hid (Bw w W6):=by rw[X];exact(ap.setCell (p:=Aq b5 6) aR _).drew
 have ag:Hid (Bk W6 bi 3 #[I id]):=by rw[X];exact(Bk.far af (p:=Aq b5 6) (af.ne ab (by decide)) _).drew
 have a5:Hid (Bk W6 bz 37 zZ):=by rw[X];exact(Bk.far aL (p:=Aq b5 6) (Ne.symm aM) _).drew
 have ae:Hid (Bk W6 b5 37 (m2.ar_O (.slice A1 ls.length c1))):=by rw[X];exact(Bk.set ab 6 _).drew
 have bj:Hid (Zaa W6 w.heap.size {m2 with orders:=ls,sOrd:=⟨A1,c1⟩}):=by rw[X];exact(Zaa.far (Zaa.setOrd bh bo aY) ab (by decide) 6 _).drewO
 have zi:(prog.info? 37).map (·.size)=some ((m2.ar_O (.slice A1 ls.length c1)):Array Value).size:=by kernel_rfl
 have ZI:=Hi zi
 clear zi
 refine rgM (fun U=>Bk U b5 37 (m2.ar_O (.slice A1 ls.length c1))∧U.cell? (Aq bi 0)=some (I id)) 4 (by kernel_rfl) X ?_
 clear X
 refine Zjq (i:=0) (v:=(.agg (m2.ar_O (.slice A1 ls.length c1)))) rfl (by kernel_rfl) (by kernel_rfl) (by kernel_rfl) (by kernel_rfl) (by kernel_rfl) (fun _ _ _ h=>h) (Or.inl ⟨by rfl,?_⟩) (⟨ae,ag.cell 0⟩) ?_
 ·intro w a6
  try dsimp only at a6
  obtain⟨q0,q1⟩:=a6
  exact Za9 37 _ rfl b5 rfl 37 _ (0,0) _ q0 underlying37 rfl ZI
 try simp only[Act.put,sA,sB,sC]
 refine tkM [2] (⟨ae,ag.cell 0⟩) (by kernel_rfl) (fun _ _ _ _ h=>h) ?_
 (refine ycM rfl (by rfl) (fun w h=>by go_simp<;>rfl) ?_;try simp only[Act.put,sA,sB,sC])
 refine onM 1 (by kernel_rfl) rfl fun K hK=>?_
 go_simp
 try dsimp only
 have bs:=Hi Z.size
 have aP:Calls prog 48 #[.agg (m2.ar_O (.slice A1 ls.length c1))] W6 fun e w'=>Bw W6 w'∧Zd5 144 (Zbo {m2 with orders:=ls,sOrd:=⟨A1,c1⟩}) (Zb8 {m2 with orders:=ls,sOrd:=⟨A1,c1⟩}) W6.heap.size e w':=be.out _ {m2 with orders:=ls,sOrd:=⟨A1,c1⟩} Z.out bj.rd
 refine aP.mono ?_
 rintro e W7 ⟨hb,he⟩
 rcases he with⟨m3,he,ho,hr⟩|⟨er,aT,he,aX⟩
 rotate_left
 ·unfold Pan at he
  subst he
  dsimp only
  have aO:=blT Z hb
  clear aX hb aP
  go_wp2
  exact⟨rfl,aO,Zdt.no aT trivial⟩
 have L:m3.val=.agg m3.ar:=rfl
 rw[L] at he
 clear L
 subst he
 dsimp only
 have bt:=Hi hr
 have bn:Hid (Zaa W7 w.heap.size m3):=ho.mono bs
 have aO:=blT Z hb
 have au:=bkN ae hb
 have ah:=bkN ag hb
 have ac:=bkN a5 hb
 clear hr ho hb aP
 refine hK.out _ _ (fun _=>⟨au,ah.cell 0⟩) ?_
 try simp only[Act.put,sA,sB,sC]
 refine onM 3 (by kernel_rfl) rfl fun K hK=>?_
 refine Zaq rfl 37 _ _ rfl bz m3.ar rfl rfl 37 zZ ac ZaU (by rfl) (by simp[Value.oneCell']) ?_
 obtain⟨V9,N⟩:=ExY (W7.setRow bz m3.ar)
 rw[←N]
 have Jz:Hid (Bk V9 bz 37 m3.ar):=by rw[N];exact ac.row _
 have JB:=blR aO N aS
 have JO:=boR bn N ac (by decide)
 have J5:Hid (Bk V9 b5 37 (m2.ar_O (.slice A1 ls.length c1))):=by rw[N];exact(setRow_other W7 bz b5 _ aM).trans au
 have Ji:Hid (Bk V9 bi 3 #[I id]):=by rw[N];exact(setRow_other W7 bz bi _ (ah.ne ac (by decide))).trans ah
 clear N
 refine hK.out _ _ (fun _=>⟨J5,Ji.cell 0⟩) ?_
 try simp only[Act.put]
 refine onM 4 (by kernel_rfl) rfl fun K hK=>?_
 go_simp
 refine hK.out _ _ (fun h0=>Zac (by kernel_rfl) h0) ?_
 refine Zak (by kernel_rfl) ?_ _
 go_wp2
 exact bodyPost_ret (Zaw (p:=3) (q:=4) results49 _ V9 bz 37 m3.ar (0,0) _ rfl Jz underlying37 rfl ZaU) rfl ⟨JB,Zdt.yes m3 rfl JO ⟨rfl,aZ,by rw[←aQ.out],{m2 with orders:=ls,sOrd:=⟨A1,c1⟩},by rw[←aQ.out];exact⟨J.day,J.curs,J.unders,J.instrs,J.accts,J.poss,rfl,J.avail,J.locs⟩,bt⟩⟩
theorem ZiM(m:Zab)(acct id:Int)(w:World)(hm:Zay w w.heap.size m)(ak:Gl w):
 Calls prog 26 #[m.val,I acct,I id] w (Zar (Zcs m acct id) (True) w):=by
 show Calls prog 26 #[.agg m.ar,I acct,I id] w (Zar (Zcs m acct id) (True) w)
 obtain⟨W1,J⟩:=ExY (w.alloc (.cells m.ar 37))
 obtain⟨bl,U⟩:=ExY w.heap.size
 have Y:=blB J
 have aq:=bkW J U
 obtain⟨W2,G⟩:=ExY (W1.alloc (.cells #[I acct] 3))
 obtain⟨ba,L⟩:=ExY W1.heap.size
 have al:=blA Y G
 have ah:=blZ Y L
 have au:=bkA aq G
 have an:=bkW G L
 have ad:ba=bl+1:=by rw[L,J,World.size_alloc,←U]
 obtain⟨W3,z⟩:=ExY (W2.alloc (.cells #[I id] 3))
 obtain⟨bi,R⟩:=ExY W2.heap.size
 have Z:=blA al z
 have aw:=bkA au z
 have ao:=bkA an z
 have ap:=bkW z R
 have ae:bi=ba+1:=by rw[R,G,World.size_alloc,←L]
 obtain⟨W4,C⟩:=ExY (W3.alloc (.cells zZ 37))
 obtain⟨bz,X⟩:=ExY W3.heap.size
 have s:=blA Z C
 have ai:=blZ Z X
 have ab:=bkA aw C
 have E:=bkA ao C
 have aa:=bkA ap C
 have ac:=bkW C X
 have af:bz=bi+1:=by rw[X,z,World.size_alloc,←R]
 have am:Hid (bz≠ba):=by
  show bz≠ba
  have h1:=ac.out
  have h2:=E.out
  exact h1.ne h2 (by decide)
 have HT:=Hi (Zey 49 #[Pt bl,Pt ba,Pt bi] (Zcs m acct id) (True) ba W4 E.lt (fun W=>by kernel_rfl) (by
  intro W hW
  refine(ZhJ m acct id bl ba bi W (ab.below hW ab.lt) (E.below hW E.lt) (aa.below hW aa.lt) ((hm.below (s.trans (hW.mono s.size))).mono (Nat.le_trans s.size hW.size)) (ak.below (s.trans (hW.mono s.size)) ak.lt)).mono ?_
  rintro e W' ⟨h1,h2⟩
  exact⟨Zae (ZaG W _) h1 (Nat.le_refl _),h2⟩))
 clear hm ak
 go_enter func26,ntmps26
 go_upto_region 1 with(fail)
 rw[←J,←U,←G,←ad,←z,←ae,←C,←af]
 clear J U ad G L ae z R af C X
 go_wp2_with fail
 refine HT.mono ?_
 rintro e W9 ⟨hg,m2,n,er,rfl,hc⟩
 have HC:=Hi hc
 have ax:Hid (Bw w W9):=s.trans (Zcb hg ah s.size)
 have ay:=Hi s.size
 have aj:Hid (Bk W9 bz 37 zZ):=ac.gone hg am
 clear hg hc
 have ag:m2.val=.agg m2.ar:=rfl
 rw[ag]
 clear ag
 dsimp only
 go_wp2_with (refine wpList_store_row rfl 37 _ _ rfl bz m2.ar rfl rfl 37 zZ aj ZaU (by rfl) (by simp[Value.oneCell']) ?_)
 obtain⟨V9,N⟩:=ExY (W9.setRow bz m2.ar)
 rw[←N]
 have aB:=bkr aj N
 have az:=blr ax N ai
 have aA:(er=0∧Zaa V9 w.heap.size m2∧Zcs m acct id m2 n)∨(er≠0∧m2=Za4∧n=0∧True):=by
  rcases HC.out with⟨h1,h2,h3⟩|h
  ·exact .inl ⟨h1,by rw[N];exact(h2.mono ay).rowFar aj (by decide) _,h3⟩
  ·exact .inr h
 exact bodyPost_ret (Zam (p:=6) (q:=7) (r:=8) results26 _ V9 bz 37 m2.ar (0,0) _ rfl aB underlying37 rfl ZaU) rfl ⟨az,m2,n,er,rfl,aA⟩
theorem Zjv{m s:Zab}(h:s.accts.map ZaA.p=m.accts.map ZaA.p)(v:Nat):(s.accts.getD v default).p=(m.accts.getD v default).p:=by
 have h1:=congrArg (fun l=>l[v]?) h
 simp only[List.getElem?_map] at h1
 simp only[List.getD_eq_getElem?_getD]
 cases h2:s.accts[v]? with
 |none=>
  rw[h2] at h1
  cases h3:m.accts[v]? with
  |none=>rfl
  |some x=>rw[h3] at h1;cases h1
 |some y=>
  rw[h2] at h1
  cases h3:m.accts[v]? with
  |none=>rw[h3] at h1;cases h1
  |some x=>rw[h3] at h1;exact Option.some.inj h1
theorem Zge{m s:Zab}(h:s.accts.map ZaA.p=m.accts.map ZaA.p):s.accts.length=m.accts.length:=by
 have:=congrArg List.length h
 simpa using this
theorem Zhm{m s:Zab}(h:s.accts.map ZaA.p=m.accts.map ZaA.p):Zah s.accts=Zah m.accts:=by
 have h1:=congrArg (List.map ZfL.parent) h
 simpa[Zah,List.map_map,ZaA.p,Function.comp_def] using h1
theorem ZfG{m s:Zab}(z:s.curs=m.curs)(C:s.unders=m.unders)(E:s.instrs=m.instrs):Zcp s=Zcp m:=by
 have e1:Zg1 s=Zg1 m:=by funext n;unfold Zg1;rw[z]
 have e2:ZfT s=ZfT m:=by funext n;unfold ZfT;rw[z,C]
 unfold Zcp
 rw[e1,e2,z,C,E]
theorem Zej{m s:Zab}(h:s.accts.map ZaA.p=m.accts.map ZaA.p)(z:s.curs=m.curs):Zbe s=Zbe m:=by
 have e1:ZeU s=ZeU m:=by
  funext v
  have hp:=Zjv h v
  have a2:=congrArg ZfL.cash hp
  have a3:=congrArg ZfL.flag hp
  have a4:=congrArg ZfL.last hp
  simp only[ZaA.p] at a2 a3 a4
  unfold ZeU Zdp
  simp only[a2,a3,a4,z]
 unfold Zbe
 rw[e1,Zhm h,Zge h]
theorem Zg8{m s:Zab}(h:s.accts.map ZaA.p=m.accts.map ZaA.p):Zfv s=Zfv m:=by
 funext o
 have a4:=congrArg ZfL.last (Zjv h o.acct.toNat)
 simp only[ZaA.p] at a4
 unfold Zfv
 rw[a4]
theorem Zfq{m s:Zab}(h:Zbj m s):Za2 s=Za2 m:=by
 unfold Za2
 rw[ZfG h.curs h.unders h.instrs,Zej h.accts h.curs,Zg8 h.accts,Zge h.accts,h.instrs,h.poss,h.orders,h.avail,h.locs,h.day]
theorem Zix{l:List O.Lc}{k:Nat}(s:k<l.length)(i:Nat):(l.take k++l.drop (k+1)).getD i default=l.getD (if i<k then i else i+1) default:=by
 simp only[List.getD_eq_getElem?_getD]
 by_cases h:i<k
 ·rw[if_pos h,List.getElem?_append_left (by simp;omega),List.getElem?_take_of_lt h]
 ·rw[if_neg h,List.getElem?_append_right (by simp;omega)]
  simp only[List.length_take,List.getElem?_drop]
  congr 2
  omega
theorem Zi3{G J a i:Int}{l:List O.Lc}(h:O.goodB G J l=true)(C:(O.dropL l a i).2=0):O.goodB G J (O.dropL l a i).1=true:=by
 unfold O.dropL at C ⊢
 by_cases ht:O.thereB l ⟨a,i,0,0,0⟩=true
 rotate_left
 ·rw[if_neg ht] at C;cases C
 rw[if_pos ht]
 obtain⟨k,hk⟩:=ExY (O.place l ⟨a,i,0,0,0⟩)
 rw[←hk]
 dsimp only
 unfold O.goodB at h ⊢
 simp only[Bool.and_eq_true,decide_eq_true_eq,List.all_eq_true] at h ⊢
 obtain⟨h1,h2,h3⟩:=h
 refine⟨by simp only[List.length_append,List.length_take,List.length_drop];omega,?_,?_⟩
 ·have hs:=O.sorted_of _ h2
  apply O.rise_of
  intro x y E hy
  by_cases s:k<l.length
  ·rw[Zix s,Zix s]
   have z:(l.take k++l.drop (k+1)).length=l.length-1:=by simp only[List.length_append,List.length_take,List.length_drop];omega
   rw[z] at hy
   apply hs
   ·split<;>split<;>omega
   ·split<;>omega
  ·have e:l.take k++l.drop (k+1)=l:=by
    rw[List.take_of_length_le (by omega),List.drop_of_length_le (by omega),List.append_nil]
   rw[e] at hy ⊢
   exact hs x y E hy
 ·intro x hx
  rcases List.mem_append.1 hx with hx|hx
  ·exact h3 x (List.mem_of_mem_take hx)
  ·exact h3 x (List.mem_of_mem_drop hx)
theorem Zli{l:List O.Lc}{a i:Int}{x:O.Lc}(h:x∈(O.dropL l a i).1):x∈l:=by
 unfold O.dropL at h
 by_cases ht:O.thereB l ⟨a,i,0,0,0⟩=true
 ·rw[if_pos ht] at h
  rcases List.mem_append.1 h with hx|hx
  ·exact List.mem_of_mem_take hx
  ·exact List.mem_of_mem_drop hx
 ·rw[if_neg ht] at h;cases h
theorem ZjN{m:Zab}{a i:Int}(h:Za2 m=true)(s:(O.dropL m.orders a i).2=0):Za2 {m with orders:=(O.dropL m.orders a i).1}=true:=by
 obtain⟨h1,h2,h3,h4,h5,h6,h7⟩:=ZbI h
 have e1:Zcp {m with orders:=(O.dropL m.orders a i).1}=Zcp m:=ZfG rfl rfl rfl
 have e2:Zbe {m with orders:=(O.dropL m.orders a i).1}=Zbe m:=Zej rfl rfl
 have e3:Zfv {m with orders:=(O.dropL m.orders a i).1}=Zfv m:=Zg8 rfl
 have h8:Zfr (Zfv m) (O.dropL m.orders a i).1=false:=by
  rw[Zk6] at h7 ⊢
  exact fun x hx=>h7 x (Zli hx)
 unfold Za2
 rw[e1,e2,e3]
 dsimp only
 rw[if_neg (by omega),h2,h3,h4,Zi3 h5 s,h6,h8]
 rfl
theorem Zjk{m z:Zab}{a i acct:Int}(h:ZaZ m acct)(C:(O.dropL m.orders a i).2=0)(s:Zbj {m with orders:=(O.dropL m.orders a i).1} z):ZaZ z acct:=
 ⟨(Zfq s).trans (ZjN h.1 C),h.2.1,by rw[Zge s.accts];exact h.2.2⟩
theorem Zkl{w:World}{B n:Nat}{A:Option Addr}{l:List O.Lc}(h:Rd w B 5 A n (O.lcs l)){k:Nat}(s:k<l.length):
 ∃a,A=some a∧a.block<B∧w.cell? (a.add (k*5))=some (I (l.getD k default).acct)∧w.cell? ⟨(a.add (k*5)).block,(a.add (k*5)).off+1,none⟩=some (I (l.getD k default).id)∧w.cell? ⟨(a.add (k*5)).block,(a.add (k*5)).off+2,none⟩=some (I (l.getD k default).instr) ∧
  w.cell? ⟨(a.add (k*5)).block,(a.add (k*5)).off+3,none⟩=some (I (l.getD k default).qty)∧w.cell? ⟨(a.add (k*5)).block,(a.add (k*5)).off+4,none⟩=some (I (l.getD k default).price):=by
 have e:l.getD k default=l[k]:=by simp[s]
 rw[e]
 obtain⟨a,hA,hb,h0,h⟩:=Zf1 (f:=O.Lc.cells) (fun _=>rfl) h s (by decide)
 exact⟨a,hA,hb,h0,h 0 (by decide),h 1 (by decide),h 2 (by decide),h 3 (by decide)⟩
theorem Zmx{a:Addr}{k B:Nat}(h:a.block<B):(a.add k).block<B:=by
 have e:(a.add k).block=a.block:=by simp only[Addr.add];split<;>rfl
 rw[e];exact h
theorem ZdG(b:Bool)(er:Int)(w:World):Calls prog 54 #[.bool b,I er] w fun e w'=>w'=w∧(e=.returned (.tuple #[])∨e=Pan 144 er):=by
 cases b with
 |true=>exact(Za0 er w).mono fun e w' h=>⟨h.2,.inl h.1⟩
 |false=>exact(Zav er w).mono fun e w' h=>⟨h.2,.inr h.1⟩
theorem ZjJ{l:List O.Lc}{a i:Int}(h:0≤O.findL l a i):∃k:Nat,O.findL l a i=(k:Int)∧k<l.length:=by
 unfold O.findL at h ⊢
 by_cases c:(l.findIdx fun x=>x.is a i)<l.length
 ·rw[if_pos c];exact⟨_,rfl,c⟩
 ·rw[if_neg c] at h;omega
def Zb5(m:Zab)(id:Int)(o:O.Lc)(m':Zab)(n:Int):Prop:=
 n=o.id∧ZaZ m o.acct∧(O.dropL m.orders o.acct id).2=0∧∃(ins:Int) (m2 m3:Zab),Zbj {m with orders:=(O.dropL m.orders o.acct id).1} m2∧Zc0 m2 {o with instr:=ins} m3∧Zbo m3 m'
theorem Zhr(m:Zab)(old acct id instr qty R:Int)(bl bi bo:Nat)(w:World)(hl:Bk w bl 37 m.ar)(cU:Bk w bi 3 #[I old])(bF:Bk w bo 45 #[I acct,I id,I instr,I qty,I R])(hm:Zay w bo m)(cV:∀V,Below bo w V→Gl V):
 Calls prog 52 #[Pt bl,Pt bo,Pt bi] w fun e w'=>w.grownBy w' (some bo)∧Zdt 144 (Zb5 m old ⟨acct,id,instr,qty,R⟩) True w.heap.size e w':=by
 have cF:=Hi hm
 have dp:=Hi cV
 have cD:Hid (∀V,Bw w V→Zay V V.heap.size m):=fun V hV=>(hm.below (hV.mono (Nat.le_of_lt bF.lt))).mono (Nat.le_trans (Nat.le_of_lt bF.lt) hV.size)
 have dv:Hid (∀V,Bw w V→Calls prog 45 #[.agg m.ar,I acct] V fun e w'=>Bw V w'∧Zie 144 (ZaZ m acct) e):=fun V hV=>ZdZ m acct V (cD.out V hV)
 have cC:Hid (∀V,Bw w V→Calls prog 53 #[.slice m.sOrd.A m.orders.length m.sOrd.c,I acct,I old] V fun e w'=>e=.returned (I (O.findL m.orders acct old))∧Bw V w'):=fun V hV=>O.find_any _ _ _ _ _ _ V (ZbR hm.short.2.2.2.2.2.1) (cD.out V hV).orders
 have dj:Hid (∀V,Zay V V.heap.size m→Calls prog 9 #[.agg m.ar] V (ZcA m V)):=fun V h=>Zbq m V h
 have dl:Hid (ZaZ m acct→∀V,Zay V V.heap.size m→Calls prog 50 #[.slice m.sOrd.A m.orders.length m.sOrd.c,I acct,I old] V (O.LOut V (O.dropL m.orders acct old))):=fun ht V h=>O.drop_any _ _ _ _ _ _ V (good_sorted ht) hm.short.2.2.2.2.2.1 h.orders
 have dr:=Hi hm.short.2.2.2.2.2.1
 have dk:Hid (∀V (m2:Zab),Zay V V.heap.size m→Zay V V.heap.size m2→Gl V→ZaZ m acct→Calls prog 47 #[.agg m.ar,.agg m2.ar,I acct] V (Zc8 m m2 V)):=fun V m2 h1 h2 h3 h4=>Zfl m m2 acct V h1 h2 h3 h4
 have dn:Hid (∀V (m2:Zab),Zay V V.heap.size m2→Gl V→Calls prog 48 #[.agg m2.ar] V fun e w'=>Bw V w'∧Zd5 144 (Zbo m2) (Zb8 m2) V.heap.size e w'):=fun V m2 h1 h2=>Zdi m2 V h1 h2
 have bL:=Hi hl
 have cL:=Hi cU
 have bO:=Hi bF
 clear hl cU bF hm cV
 obtain⟨W1,aB⟩:=ExY (w.alloc (.cells zZ 37))
 obtain⟨bz,bA⟩:=ExY w.heap.size
 have bH:=blB aB
 have co:=bl0 bA
 have bM:=bkA bL aB
 have bJ:=bkA cL aB
 have bP:=bkA bO aB
 have bR:=bkW aB bA
 have cO:Hid (bz≠bl):=by
  have h:=bL.lt
  show bz≠bl
  rw[bA]
  exact Ne.symm (Nat.ne_of_lt h)
 go_enter func52,ntmps52
 go_upto_region 1 with(fail)
 rw[←aB,←bA]
 clear aB bA
 have E:=bM.nine
 have s:=bJ.one
 have z:=bP.five
 have C:=bR.nine
 go_wp2_with fail
 refine(dv.out _ bH).mono ?_
 rintro e W2 ⟨hb,he⟩
 have dm:=Hi he
 clear he
 have aH:=blT bH hb
 have bN:=bkN bM hb
 have bK:=bkN bJ hb
 have bQ:=bkN bP hb
 have bS:=bkN bR hb
 clear E s z C
 clear hb
 have E:=bN.nine
 have s:=bK.one
 have z:=bQ.five
 have C:=bS.nine
 rcases dm.out with⟨he,cZ⟩|⟨er,aC,he,aD⟩
 rotate_left
 ·unfold Pan at he
  subst he
  dsimp only
  clear aD
  go_wp2
  exact⟨rfl,Zae (ZaG w _) aH (Nat.le_refl _),Zdt.no aC trivial⟩
 subst he
 have bD:=Hi cZ
 clear cZ
 dsimp only
 obtain⟨dx,ct⟩:=ExY (O.findL m.orders acct old)
 rw[←ct] at cC
 have cx:=Hi ct
 clear ct
 go_wp2_with fail
 refine((fun _=>cC.out _ aH) W2).mono ?_
 rintro e W3 ⟨rfl,hb⟩
 have aj:=blT aH hb
 have a8:=bkN bN hb
 have a3:=bkN bK hb
 have ak:=bkN bQ hb
 have bs:=bkN bS hb
 clear E s z C
 clear hb
 obtain⟨c0,c2,c3,c4,c5,c6,bV,c7,c8,c9,da,db,dc,dd,de,df,dg,dh,dz⟩:=a8.nine
 have s:=a3.one
 have z:=ak.five
 have C:=bs.nine
 dsimp only
 by_cases cX:0≤dx
 rotate_left
 ·go_wp2_with fail
  refine Cq (Zav 34 _) ?_
  dsimp only
  go_wp2
  exact⟨rfl,Zae (ZaG w _) aj (Nat.le_refl _),Zdt.no (by decide) trivial⟩
 have hk:=ZjJ (l:=m.orders) (a:=acct) (i:=old) (by rw[←cx.out];exact cX)
 rw[←cx.out] at hk
 obtain⟨k,rfl,cu⟩:=hk
 go_wp2_with fail
 refine Cq (Za0 34 _) ?_
 dsimp only
 obtain⟨aa,cS,cT,y0,y1,y2,y3,y4⟩:=Zkl (cF.orders) cu
 have bW:=Hi cS
 have di:=Hi cT
 have cf:=Hi y2
 have cK:=Hi y3
 clear y0 y1 y2 y3 y4 cS cT
 obtain⟨ins,bT⟩:=ExY ((m.orders.getD k default).instr)
 obtain⟨oq,cY⟩:=ExY ((m.orders.getD k default).qty)
 rw[←bT] at cf
 rw[←cY] at cK
 clear bT cY
 have k1:(k:Int)<(m.orders.length:Int):=Int.ofNat_lt.mpr cu
 have k0:(0:Int)≤(k:Int):=Int.natCast_nonneg k
 have y2:=(aj.cell (World.block_lt_of_cell? _ _ cf)).trans cf
 rw[bW.out] at bV
 clear cu
 go_upto_region 5 with(fail)
 clear c0 c2 c3 c4 c5 c6 bV c7 c8 c9 da db dc dd de df dg dh dz s z C
 clear y2
 obtain⟨X,hX⟩:=ExY ((W3.setCell ⟨bo,2,none⟩ (I ins)).drew)
 have ag:Hid (Bk X bl 37 m.ar):=by rw[hX];exact(Bk.far a8 (p:=Aq bo 2) (a8.ne ak (by decide)) _).drew
 have aW:Hid (Bk X bi 3 #[I old]):=by rw[hX];exact(Bk.far a3 (p:=Aq bo 2) (a3.ne ak (by decide)) _).drew
 have bh:Hid (Bk X bz 37 zZ):=by rw[hX];exact(Bk.far bs (p:=Aq bo 2) (bs.ne ak (by decide)) _).drew
 have N:Hid (Bk X bo 45 #[I acct,I id,I ins,I qty,I R]):=by rw[hX];exact(Bk.set ak 2 _).drew
 have bC:Hid (Below bo w X):=by rw[hX];exact((aj.mono (Nat.le_of_lt bO.lt)).setCell (p:=Aq bo 2) (Nat.le_refl _) _).drew
 have ao:Hid (w.grownBy X (some bo)):=by
  have h:=bC.out
  refine⟨h.os,h.tape,h.output,?_,fun g hg dy=>?_⟩
  ·rw[hX];simpa using aj.size
  ·have cW:g≠bo:=fun e=>dy (by rw[e])
   rw[hX]
   show((W3.setCell (Aq bo 2) (I ins)).heap[g]?)=_
   rw[Below.heap_setCell W3 (Aq bo 2) _ g cW]
   exact aj.block g hg
 have ap:Hid (w.heap.size≤X.heap.size):=ao.size
 have bX:Hid (∀V,Bw X V→Zay V V.heap.size m):=fun V hV=>(cF.below (bC.trans (hV.mono (Nat.le_of_lt N.lt)))).mono (Nat.le_trans (Nat.le_of_lt N.lt) hV.size)
 have bI:Hid (∀V,Bw X V→Gl V):=fun V hV=>dp.out V (bC.trans (hV.mono (Nat.le_of_lt N.lt)))
 have af:Hid (Bw X X):=Below.refl _ _
 have y3:X.cell? ⟨(aa.add (k*5)).block,(aa.add (k*5)).off+3,none⟩=some (I oq):=(bC.cell (p:=⟨(aa.add (k*5)).block,(aa.add (k*5)).off+3,none⟩) (Zmx di)).trans cK
 have Y3:=Hi y3
 clear y3
 refine rgH (S:=(fun U=>U.cell? (Aq bo 3)=some (I qty)∧U.cell? (Aq bl 6)=some (.slice (some aa) m.orders.length m.sOrd.c)∧U.cell? ⟨(aa.add (k*5)).block,(aa.add (k*5)).off+3,none⟩=some (I oq))) (by kernel_rfl) hX ⟨N.out.cell 3,bW.out▸ag.out.cell 6,Y3.out⟩ fun ai=>?_
 clear hX
 refine tkH [0,1,2,3,4,5,6,7,8,9,10] ai (by kernel_rfl) (fun _ _ _ _ h=>h) ?_
 iterate 11 (refine ycH rfl (by rfl) (fun w h=>by go_simp<;>rfl) ?_;try simp only[Act.put,sA,sB,sC])
 refine onH 11 (by kernel_rfl) rfl fun K hK=>?_
 go_simp
 refine(ZdG _ 36 _).mono ?_
 rintro e w' ⟨bG,he|he⟩
 rotate_left
 ·unfold Pan at he
  subst he
  rw[bG]
  clear bG w'
  dsimp only
  go_wp2
  exact⟨rfl,Zae ao af ap,Zdt.no (by decide) trivial⟩
 subst he
 rw[bG]
 clear bG w'
 dsimp only
 refine hK.out _ _ (⟨N.out.cell 3,bW.out▸ag.out.cell 6,Y3.out⟩) (fun ai=>?_)
 try simp only[Act.put,sA,sB,sC]
 refine wpAnyH_done (by kernel_rfl) ?_ _
 clear ai
 clear ai
 have E:=ag.nine
 have s:=aW.one
 have z:=N.five
 have C:=bh.nine
 go_wp2_with fail
 have cG:=Hi af.size
 refine(dj.out _ (bX.out _ af)).mono ?_
 rintro e cp ⟨m2,he,bB,ho,hb⟩
 have aI:=blT af hb
 have aw:=bkN ag hb
 have aX:=bkN aW hb
 have a9:=bkN N hb
 have az:=bkN bh hb
 clear E s z C
 clear hb
 have E:=aw.nine
 have s:=aX.one
 have z:=a9.five
 have C:=az.nine
 have ab:m2.val=.agg m2.ar:=rfl
 rw[ab] at he
 clear ab
 subst he
 have J:=Hi bB
 have bZ:Hid (Zaa cp X.heap.size m2):=ho.mono cG
 clear bB ho
 dsimp only
 obtain⟨dA,Y⟩:=ExY (cp.alloc (.cells m2.ar 37))
 obtain⟨b6,aF⟩:=ExY cp.heap.size
 have bt:Hid (b6≠bl):=by
  have h:=aw.lt
  show b6≠bl
  rw[aF]
  exact Ne.symm (Nat.ne_of_lt h)
 have bu:Hid (b6≠bz):=by
  have h:=az.lt
  show b6≠bz
  rw[aF]
  exact Ne.symm (Nat.ne_of_lt h)
 have ch:Hid (X.heap.size≤b6):=by rw[aF];exact aI.size
 have al:=blA aI Y
 have a4:=bkA aw Y
 have aY:=bkA aX Y
 have ba:=bkA a9 Y
 have bj:=bkA az Y
 have b0:=boA bZ Y
 have aQ:=bkW Y aF
 go_upto_region 7 with(fail)
 rw[←Y,←aF]
 clear Y aF
 clear E s z C
 have E:=a4.nine
 have s:=aY.one
 have z:=ba.five
 have C:=bj.nine
 have G:=aQ.nine
 obtain⟨⟨ls,bU⟩,cw⟩:∃p,p=O.dropL m.orders acct old:=⟨_,rfl⟩
 have aE:=dl.out bD
 rw[←cw] at aE
 replace aE:=Hi aE
 have aO:=Hi cw
 clear cw
 go_wp2_with fail
 have cH:=Hi al.size
 refine(aE.out _ (bX.out _ al)).mono ?_
 rintro e cP ⟨A1,c1,rfl,h1,h2,ho,hb⟩
 dsimp only at ho h1
 have aJ:=blT al hb
 have a5:=bkN a4 hb
 have aZ:=bkN aY hb
 have bb:=bkN ba hb
 have bn:=bkN bj hb
 have ac:=bkN aQ hb
 have b7:=boN b0 hb
 clear E s z C G
 clear hb
 have E:=a5.nine
 have s:=aZ.one
 have z:=bb.five
 have C:=bn.nine
 have G:=ac.nine
 have bY:Hid (cP.ownsRow X.heap.size 45 5 (.slice A1 ls.length c1) ls.length (O.lcs ls)):=Zap ho cH
 clear h1 h2 ho
 dsimp only
 by_cases cv:bU=0
 rotate_left
 ·go_wp2_with fail
  refine Cq (ZbJ bU cv _) ?_
  dsimp only
  go_wp2
  exact⟨rfl,Zae ao aJ ap,Zdt.no cv trivial⟩
 subst cv
 go_wp2_with fail
 refine Cq (ZbZ _) ?_
 dsimp only
 have cE:Hid (ls.length≤1000000):=by
  have h:=Zg3 (a:=acct) (i:=old) dr
  rw[←aO.out] at h
  exact h
 go_upto_region 10 with(fail)
 obtain⟨bw,Z⟩:=ExY (cP.setCell ⟨b6,6,none⟩ (.slice A1 ls.length c1))
 rw[←Z]
 have aK:Hid (Bw X bw):=by rw[Z];exact(aJ.setCell (p:=Aq b6 6) ch _)
 have a6:Hid (Bk bw bl 37 m.ar):=by rw[Z];exact(a5.far (p:=Aq b6 6) ((Ne.symm bt)) _)
 have a0:=bkF aZ Z ac rfl
 have bc:=bkF bb Z ac rfl
 have bp:Hid (Bk bw bz 37 zZ):=by rw[Z];exact(bn.far (p:=Aq b6 6) ((Ne.symm bu)) _)
 have aR:Hid (Bk bw b6 37 (m2.ar_O (.slice A1 ls.length c1))):=bkS ac 6 Z
 have b8:Hid (Zaa bw X.heap.size {m2 with orders:=ls,sOrd:=⟨A1,c1⟩}):=by rw[Z];exact(Zaa.far (Zaa.setOrd b7 bY cE) ac (by decide) 6 _)
 clear E s z C G
 clear Z
 have E:=a6.nine
 have s:=a0.one
 have z:=bc.five
 have C:=bp.nine
 have G:=aR.nine
 have du:Hid (ZaZ {m2 with orders:=ls,sOrd:=⟨A1,c1⟩} acct):=Zjk (a:=acct) (i:=old) bD (by rw[←aO.out]) ⟨J.day,J.curs,J.unders,J.instrs,J.accts,J.poss,by rw[←aO.out],J.avail,J.locs⟩
 have ds:Hid (∀V,Zay V V.heap.size {m2 with orders:=ls,sOrd:=⟨A1,c1⟩}→Calls prog 46 #[.agg (m2.ar_O (.slice A1 ls.length c1)),.agg #[I acct,I id,I ins,I qty,I R]] V fun e w'=>Bw V w'∧Zd5 144 (Zc0 {m2 with orders:=ls,sOrd:=⟨A1,c1⟩} ⟨acct,id,ins,qty,R⟩) (¬ZcX {m2 with orders:=ls,sOrd:=⟨A1,c1⟩} ⟨acct,id,ins,qty,R⟩) V.heap.size e w'):=fun V h=>put_any {m2 with orders:=ls,sOrd:=⟨A1,c1⟩} ⟨acct,id,ins,qty,R⟩ V h du
 go_wp2_with fail
 have cI:=Hi aK.size
 refine(ds.out _ b8.rd).mono ?_
 rintro e cq ⟨hb,he⟩
 have cy:=Hi he
 clear he
 have aL:=blT aK hb
 have ax:=bkN a6 hb
 have a1:=bkN a0 hb
 have bd:=bkN bc hb
 have aA:=bkN bp hb
 have aq:=bkN aR hb
 clear E s z C G
 clear hb
 have E:=ax.nine
 have s:=a1.one
 have z:=bd.five
 have C:=aA.nine
 have G:=aq.nine
 rcases cy.out with⟨m3,he,ho,hr⟩|⟨er,aC,he,aD⟩
 rotate_left
 ·unfold Pan at he
  subst he
  dsimp only
  clear aD
  go_wp2
  exact⟨rfl,Zae ao aL ap,Zdt.no aC trivial⟩
 have ab:m3.val=.agg m3.ar:=rfl
 rw[ab] at he
 clear ab
 subst he
 have HR:=Hi hr
 have ca:Hid (Zaa cq X.heap.size m3):=ho.mono cI
 clear hr ho
 dsimp only
 obtain⟨dB,L⟩:=ExY (cq.alloc (.cells m3.ar 37))
 obtain⟨b9,aG⟩:=ExY cq.heap.size
 have cN:Hid (b9≠bl):=by
  have h:=ax.lt
  show b9≠bl
  rw[aG]
  exact Ne.symm (Nat.ne_of_lt h)
 have bv:Hid (b9≠bz):=by
  have h:=aA.lt
  show b9≠bz
  rw[aG]
  exact Ne.symm (Nat.ne_of_lt h)
 have cM:Hid (b9≠b6):=by
  have h:=aq.lt
  show b9≠b6
  rw[aG]
  exact Ne.symm (Nat.ne_of_lt h)
 have am:=blA aL L
 have a7:=bkA ax L
 have a2:=bkA a1 L
 have be:=bkA bd L
 have bq:=bkA aA L
 have aS:=bkA aq L
 have aP:=boA ca L
 have aT:=bkW L aG
 go_upto_region 11 with(fail)
 rw[←L,←aG]
 clear L aG
 clear E s z C G
 have E:=a7.nine
 have s:=a2.one
 have z:=be.five
 have C:=bq.nine
 have G:=aS.nine
 have bx:=aT.nine
 go_wp2_with fail
 refine(dk.out _ m3 (bX.out _ am) aP.rd (bI.out _ am) bD).mono ?_
 rintro e dw ⟨hb,he⟩
 have cz:=Hi he
 clear he
 have aM:=blT am hb
 have ck:=bkN a7 hb
 have cj:=bkN a2 hb
 have bf:=bkN be hb
 have br:=bkN bq hb
 have cg:=bkN aS hb
 have aU:=bkN aT hb
 have cb:=boN aP hb
 clear E s z C G bx
 clear hb
 have E:=ck.nine
 have s:=cj.one
 have z:=bf.five
 have C:=br.nine
 have G:=cg.nine
 have bx:=aU.nine
 rcases cz.out with he|⟨er,aC,he,aD⟩
 rotate_left
 ·unfold Pan at he
  subst he
  dsimp only
  clear aD
  go_wp2
  exact⟨rfl,Zae ao aM ap,Zdt.no aC trivial⟩
 subst he
 dsimp only
 go_upto_region 12 with(fail)
 clear E s z C G bx
 obtain⟨dC,ad⟩:=ExY dw.drew
 have an:=blD aM ad
 have ay:=bkD bf ad
 have cm:=bkD br ad
 have au:=bkD aU ad
 have cc:=boD cb ad
 refine rgM (fun U=>Bk U b9 37 m3.ar∧U.cell? (Aq bo 1)=some (I id)) 5 (by kernel_rfl) ad ?_
 clear ad
 refine Zjq (i:=0) (v:=(.agg m3.ar)) rfl (by kernel_rfl) (by kernel_rfl) (by kernel_rfl) (by kernel_rfl) (by kernel_rfl) (fun _ _ _ h=>h) (Or.inl ⟨by rfl,?_⟩) (⟨au,ay.cell 1⟩) ?_
 ·intro w cQ
  try dsimp only at cQ
  obtain⟨q0,q1⟩:=cQ
  exact Za9 37 _ rfl b9 rfl 37 _ (0,0) _ q0 underlying37 rfl ZaU
 try simp only[Act.put,sA,sB,sC]
 refine tkM [2,3] (⟨au,ay.cell 1⟩) (by kernel_rfl) (fun _ _ _ _ h=>h) ?_
 iterate 2 (refine ycM rfl (by rfl) (fun w h=>by go_simp<;>rfl) ?_;try simp only[Act.put,sA,sB,sC])
 refine onM 1 (by kernel_rfl) rfl fun K hK=>?_
 go_simp
 try dsimp only
 have cJ:=Hi an.size
 refine(dn.out _ m3 cc.rd (bI.out _ an)).mono ?_
 rintro e cr ⟨hb,he⟩
 have cA:=Hi he
 clear he
 have aN:=blT an hb
 have bg:=bkN ay hb
 have ah:=bkN cm hb
 have aV:=bkN au hb
 clear hb
 rcases cA.out with⟨m4,he,ho,hr⟩|⟨er,aC,he,aD⟩
 rotate_left
 ·unfold Pan at he
  subst he
  dsimp only
  clear aD
  go_wp2
  exact⟨rfl,Zae ao aN ap,Zdt.no aC trivial⟩
 have ab:m4.val=.agg m4.ar:=rfl
 rw[ab] at he
 clear ab
 subst he
 have dt:=Hi hr
 have cd:Hid (Zaa cr X.heap.size m4):=ho.mono cJ
 clear hr ho
 dsimp only
 refine hK.out _ _ (fun _=>⟨aV,bg.cell 1⟩) ?_
 try simp only[Act.put,sA,sB,sC]
 refine onM 4 (by kernel_rfl) rfl fun K hK=>?_
 refine Zaq rfl 37 _ _ rfl bz m4.ar rfl rfl 37 zZ ah ZaU (by rfl) (by simp[Value.oneCell']) ?_
 obtain⟨bE,ae⟩:=ExY (cr.setRow bz m4.ar)
 rw[←ae]
 have dq:Hid (w.grownBy bE (some bo)):=by rw[ae];exact Zae (Zae ao aN ap) (ZaB (Below.refl _ cr) co _) (Nat.le_refl _)
 have cl:=bkR bg ae ah rfl
 have cn:Hid (Bk bE bz 37 m4.ar):=by rw[ae];exact ah.row _
 have ci:Hid (Bk bE b9 37 m3.ar):=by rw[ae];exact aV.rowFar (bv.out) _
 have ce:=boR cd ae ah (by decide)
 clear ae
 refine hK.out _ _ (fun _=>⟨ci,cl.cell 1⟩) ?_
 try simp only[Act.put]
 refine onM 5 (by kernel_rfl) rfl fun K hK=>?_
 go_simp
 refine hK.out _ _ (fun h0=>Zac (by kernel_rfl) h0) ?_
 refine Zak (by kernel_rfl) ?_ _
 go_wp2
 exact bodyPost_ret (Zaw (p:=3) (q:=4) results52 _ bE bz 37 m4.ar (0,0) _ rfl cn underlying37 rfl ZaU) rfl ⟨dq,Zdt.yes m4 rfl (ce.mono ap) ⟨rfl,bD,by rw[←aO.out],ins,{m2 with orders:=ls,sOrd:=⟨A1,c1⟩},m3,⟨J.day,J.curs,J.unders,J.instrs,J.accts,J.poss,by rw[←aO.out],J.avail,J.locs⟩,HR,dt⟩⟩
end Go.Proofs.YtdefojlkofnloaaGreatDoor
