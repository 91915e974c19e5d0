/- A part of the proof of CorePositions: for every input, no condition. -/
import Derived.Test.YtdefojlkofnloaaGreatDoorZa37
import Derived.Test.YtdefojlkofnloaaGreatDoorZa38
set_option maxRecDepth 100000
set_option maxHeartbeats 8000000
set_option linter.unusedVariables false
set_option linter.unusedSimpArgs false
namespace Go.Proofs.YtdefojlkofnloaaGreatDoor
open Go.RowKit Go.Proofs.Tryz
theorem Zi1(m:Zab)(s ae aa:Int)(w:World)(hm:Zay w w.heap.size m)(aw:Gl w):
 Calls prog 39 #[m.val,I s,I ae,I aa] w (Zar (Zaj m (fun m1 m2 _=>Zci m1 m2)) (Zas m (fun m1 m2 _=>Zci m1 m2) (fun _=>True)) w):=by
 show Calls prog 39 #[.agg m.ar,I s,I ae,I aa] w (Zar (Zaj m (fun m1 m2 _=>Zci m1 m2)) (Zas m (fun m1 m2 _=>Zci m1 m2) (fun _=>True)) w)
 obtain⟨W1,X⟩:=ExY (w.alloc (.cells m.ar 37))
 obtain⟨bl,ac⟩:=ExY w.heap.size
 have ax:=blB X
 have aB:=bkW X ac
 obtain⟨W2,R⟩:=ExY (W1.alloc (.cells #[I s] 3))
 obtain⟨bu,ad⟩:=ExY W1.heap.size
 have ay:=blA ax R
 have aC:=bkA aB R
 have ai:=bkW R ad
 have an:bu=bl+1:=by rw[ad,X,World.size_alloc,←ac]
 obtain⟨W3,G⟩:=ExY (W2.alloc (.cells #[I ae] 3))
 obtain⟨bn,Y⟩:=ExY W2.heap.size
 have aJ:Hid (bn≠bu):=by
  have h:=ai.lt
  show bn≠bu
  rw[Y]
  exact Ne.symm (Nat.ne_of_lt h)
 have az:=blA ay G
 have aD:=bkA aC G
 have aj:=bkA ai G
 have ah:=bkW G Y
 have am:bn=bu+1:=by rw[Y,R,World.size_alloc,←ad]
 obtain⟨W4,C⟩:=ExY (W3.alloc (.cells #[I aa] 3))
 obtain⟨bd,U⟩:=ExY W3.heap.size
 have aI:Hid (bd≠bu):=by
  have h:=aj.lt
  show bd≠bu
  rw[U]
  exact Ne.symm (Nat.ne_of_lt h)
 have aH:Hid (bd≠bn):=by
  have h:=ah.lt
  show bd≠bn
  rw[U]
  exact Ne.symm (Nat.ne_of_lt h)
 have af:=blA az C
 have ag:=bkA aD C
 have aG:=bkA aj C
 have aF:=bkA ah C
 have aA:=bkW C U
 have al:bd=bn+1:=by rw[U,G,World.size_alloc,←Y]
 obtain⟨W5,E⟩:=ExY (W4.alloc (.cells zZ 37))
 obtain⟨bz,Z⟩:=ExY W4.heap.size
 have aK:Hid (bz≠bl):=by
  have h:=ag.lt
  show bz≠bl
  rw[Z]
  exact Ne.symm (Nat.ne_of_lt h)
 have aq:=blZ af Z
 have z:=blA af E
 have aE:=bkA ag E
 have N:=bkA aG E
 have L:=bkA aF E
 have J:=bkA aA E
 have ak:=bkW E Z
 have ao:bz=bd+1:=by rw[Z,C,World.size_alloc,←U]
 have HT:Hid (Calls prog 83 #[.agg m.ar,.func (.func 84) #[] #[Pt bu,Pt bn,Pt bd]] W5 (Zar (Zaj m (fun m1 m2 _=>Zci m1 m2)) (Zas m (fun m1 m2 _=>Zci m1 m2) (fun _=>True)) W5)):=Hi (Zc2 84 #[Pt bu,Pt bn,Pt bd] m (fun m1 m2 _=>Zci m1 m2) (fun _=>True) W5 ((hm.below z).mono z.size) (aw.below z aw.lt) (fun pl W=>by kernel_rfl) (by
  intro m1 B bx W hp
  exact Zjg m1 s ae aa B bx bu bn bd W hp.size hp.bk hp.own hp.good (N.below hp.below N.lt) (Nat.lt_of_lt_of_le N.lt hp.base) (L.below hp.below L.lt) (Nat.lt_of_lt_of_le L.lt hp.base) (J.below hp.below J.lt) (Nat.lt_of_lt_of_le J.lt hp.base)))
 clear hm aw
 go_enter func39,ntmps39
 go_upto_region 1 with(fail)
 rw[←X,←ac,←R,←an,←G,←am,←C,←al,←E,←ao]
 clear X ac an R ad am G Y al C U ao E Z
 have aM:=aE.nine
 have aO:=N.one
 have aN:=L.one
 have aL:=J.one
 have aP:=ak.nine
 go_wp2_with fail
 refine HT.mono ?_
 rintro e W9 ⟨hb,m2,n,er,rfl,hc⟩
 have HC:=Hi hc
 have aQ:=blT z hb
 have aR:=Hi z.size
 have au:=bkN ak hb
 clear hb hc aM aO aN aL aP
 have ap:m2.val=.agg m2.ar:=rfl
 rw[ap]
 clear ap
 dsimp only
 go_wp2_with (refine wpList_store_row rfl 37 _ _ rfl bz m2.ar rfl rfl 37 zZ au ZaU (by rfl) (by simp[Value.oneCell']) ?_)
 obtain⟨V9,ab⟩:=ExY (W9.setRow bz m2.ar)
 rw[←ab]
 have aU:=bkr au ab
 have aS:=blr aQ ab aq
 have aT:(er=0∧Zaa V9 w.heap.size m2∧(Zaj m (fun m1 m2 _=>Zci m1 m2)) m2 n)∨(er≠0∧m2=Za4∧n=0∧(Zas m (fun m1 m2 _=>Zci m1 m2) (fun _=>True))):=by
  rcases HC.out with⟨h1,h2,h3⟩|h
  ·exact .inl ⟨h1,by rw[ab];exact(h2.mono aR).rowFar au (by decide) _,h3⟩
  ·exact .inr h
 exact bodyPost_ret (Zam (p:=8) (q:=9) (r:=10) results39 _ V9 bz 37 m2.ar (0,0) _ rfl aU underlying37 rfl ZaU) rfl ⟨aS,m2,n,er,rfl,aT⟩
theorem ZiK(ev:EvP)(m:Zab)(w:World)(hm:Zay w w.heap.size m)(aG:Gl w):
 Calls prog 23 #[ev.val,m.val] w (Zar (fun m2 n=>Zbn ev m m2 n) (True) w):=by
 obtain⟨xk,xa,xi,xw,xn,xu,xc,xq,xp,xm,xl,xs⟩:=ev
 obtain⟨W1,an⟩:=ExY (w.alloc (.cells #[I xk,I xa,I xi,I xw,I xn,I xu,I xc,I xq,I xp,I xm,.bool xl,.string xs] 77))
 obtain⟨b2,au⟩:=ExY w.heap.size
 have aC:=blB an
 have aD:=bkW an au
 obtain⟨W2,ah⟩:=ExY (W1.alloc (.cells m.ar 37))
 obtain⟨b3,aw⟩:=ExY W1.heap.size
 have ax:=blA aC ah
 have aE:=bkA aD ah
 have ay:=bkW ah aw
 have az:b3=b2+1:=by rw[aw,an,World.size_alloc,←au]
 obtain⟨W3,ai⟩:=ExY (W2.alloc (.cells zZ 37))
 obtain⟨b4,ao⟩:=ExY W2.heap.size
 have aF:Hid (b4≠b3):=by
  have h:=ay.lt
  show b4≠b3
  rw[ao]
  exact Ne.symm (Nat.ne_of_lt h)
 have Y:=blZ ax ao
 have z:=blA ax ai
 have aa:=bkA aE ai
 have ab:=bkA ay ai
 have G:=bkW ai ao
 have aA:b4=b3+1:=by rw[ao,ah,World.size_alloc,←aw]
 have ap:=Hi hm
 have Z:=Hi aG
 clear hm aG
 show Calls prog 23 #[.agg #[I xk,I xa,I xi,I xw,I xn,I xu,I xc,I xq,I xp,I xm,.bool xl,.string xs],.agg m.ar] w (Zar ((fun(m2:Zab) (n:Int)=>Zbn ⟨xk,xa,xi,xw,xn,xu,xc,xq,xp,xm,xl,xs⟩ m m2 n)) (True) w)
 go_enter func23,ntmps23
 go_upto_region 1 with(fail)
 rw[←an,←au,←ah,←az,←ai,←aA]
 clear an au az ah aw aA ai ao
 have J:=aa.twelve
 have L:=ab.nine
 have N:=G.nine
 go_upto_region 2 with(fail)
 clear J L N
 by_cases aj:xk=13
 ·have aH:(xk==13)=true:=by simpa using aj
  have am:=Hi aj
  clear aj
  have X:Hid (∀(m2:Zab) (n:Int),Zaj m (fun m1 m2 _=>Zci m1 m2) m2 n→(fun(m2:Zab) (n:Int)=>Zbn ⟨xk,xa,xi,xw,xn,xu,xc,xq,xp,xm,xl,xs⟩ m m2 n) m2 n):=by
   intro m2 n h
   show Zbn _ m _ n
   unfold Zbn
   rw[if_pos am.out]
   exact h
  have R:Hid (True→True):=by
   intro _
   trivial
  have U:Hid (∀V,Bw w V→Calls prog 39 #[.agg m.ar,I xu,I xw,I xi] V (Zar (fun m2 n=>Zaj m (fun m1 m2 _=>Zci m1 m2) m2 n) (True) V)):=fun V hV=>(Zi1 m xu xw xi V ((ap.below hV).mono hV.size) (Z.below hV Z.lt)).mono fun _ _ h=>ZdF h
  have J:=aa.twelve
  have L:=ab.nine
  have N:=G.nine
  go_upto_region 3 with(fail)
  go_wp2_with fail
  refine(U.out _ z).mono ?_
  rintro e W9 ⟨hb,m2,n,er,rfl,hc⟩
  have HC:=Hi hc
  have ac:=blT z hb
  have ad:=Hi z.size
  have E:=bkN G hb
  clear hb hc
  have C:m2.val=.agg m2.ar:=rfl
  rw[C]
  clear C
  dsimp only
  clear J L N
  go_wp2_with (refine wpList_store_row rfl 37 _ _ rfl b4 m2.ar rfl rfl 37 zZ E ZaU (by rfl) (by simp[Value.oneCell']) ?_)
  obtain⟨V9,s⟩:=ExY (W9.setRow b4 m2.ar)
  rw[←s]
  have ag:=bkr E s
  have ae:=blr ac s Y
  have af:(er=0∧Zaa V9 w.heap.size m2∧(fun(m2:Zab) (n:Int)=>Zbn ⟨xk,xa,xi,xw,xn,xu,xc,xq,xp,xm,xl,xs⟩ m m2 n) m2 n)∨(er≠0∧m2=Za4∧n=0∧True):=by
   rcases HC.out with⟨h1,h2,h3⟩|⟨h1,h2,h3,h4⟩
   ·exact .inl ⟨h1,by rw[s];exact(h2.mono ad).rowFar E (by decide) _,X.out m2 n h3⟩
   ·exact .inr ⟨h1,h2,h3,R.out h4⟩
  exact bodyPost_ret (Zam (p:=4) (q:=5) (r:=6) results23 _ V9 b4 37 m2.ar (0,0) _ rfl ag underlying37 rfl ZaU) rfl ⟨ae,m2,n,er,rfl,af⟩
 have aH:(xk==13)=false:=by simpa using aj
 have am:=Hi aj
 clear aj
 by_cases ak:xk=14
 ·have aI:(xk==14)=true:=by simpa using ak
  have aq:=Hi ak
  clear ak
  have X:Hid (∀(m2:Zab) (n:Int),Zaj m (fun m1 m2 _=>Zax m1 m2) m2 n→(fun(m2:Zab) (n:Int)=>Zbn ⟨xk,xa,xi,xw,xn,xu,xc,xq,xp,xm,xl,xs⟩ m m2 n) m2 n):=by
   intro m2 n h
   show Zbn _ m _ n
   unfold Zbn
   rw[if_neg am.out,if_pos aq.out]
   exact h
  have R:Hid (True→True):=by
   intro _
   trivial
  have U:Hid (∀V,Bw w V→Calls prog 40 #[.agg m.ar,I xu,I xm] V (Zar (fun m2 n=>Zaj m (fun m1 m2 _=>Zax m1 m2) m2 n) (True) V)):=fun V hV=>(Zg2 m xu xm V ((ap.below hV).mono hV.size) (Z.below hV Z.lt)).mono fun _ _ h=>ZdF h
  have J:=aa.twelve
  have L:=ab.nine
  have N:=G.nine
  go_upto_region 5 with(fail)
  go_wp2_with fail
  refine(U.out _ z).mono ?_
  rintro e W9 ⟨hb,m2,n,er,rfl,hc⟩
  have HC:=Hi hc
  have ac:=blT z hb
  have ad:=Hi z.size
  have E:=bkN G hb
  clear hb hc
  have C:m2.val=.agg m2.ar:=rfl
  rw[C]
  clear C
  dsimp only
  clear J L N
  go_wp2_with (refine wpList_store_row rfl 37 _ _ rfl b4 m2.ar rfl rfl 37 zZ E ZaU (by rfl) (by simp[Value.oneCell']) ?_)
  obtain⟨V9,s⟩:=ExY (W9.setRow b4 m2.ar)
  rw[←s]
  have ag:=bkr E s
  have ae:=blr ac s Y
  have af:(er=0∧Zaa V9 w.heap.size m2∧(fun(m2:Zab) (n:Int)=>Zbn ⟨xk,xa,xi,xw,xn,xu,xc,xq,xp,xm,xl,xs⟩ m m2 n) m2 n)∨(er≠0∧m2=Za4∧n=0∧True):=by
   rcases HC.out with⟨h1,h2,h3⟩|⟨h1,h2,h3,h4⟩
   ·exact .inl ⟨h1,by rw[s];exact(h2.mono ad).rowFar E (by decide) _,X.out m2 n h3⟩
   ·exact .inr ⟨h1,h2,h3,R.out h4⟩
  exact bodyPost_ret (Zam (p:=4) (q:=5) (r:=6) results23 _ V9 b4 37 m2.ar (0,0) _ rfl ag underlying37 rfl ZaU) rfl ⟨ae,m2,n,er,rfl,af⟩
 have aI:(xk==14)=false:=by simpa using ak
 have aq:=Hi ak
 clear ak
 by_cases al:xk=15
 ·have aJ:(xk==15)=true:=by simpa using al
  have aB:=Hi al
  clear al
  have X:Hid (∀(m2:Zab) (n:Int),Zaj m (fun m1 m2 _=>Zax m1 m2) m2 n→(fun(m2:Zab) (n:Int)=>Zbn ⟨xk,xa,xi,xw,xn,xu,xc,xq,xp,xm,xl,xs⟩ m m2 n) m2 n):=by
   intro m2 n h
   show Zbn _ m _ n
   unfold Zbn
   rw[if_neg am.out,if_neg aq.out,if_pos aB.out]
   exact h
  have R:Hid (True→True):=by
   intro _
   trivial
  have U:Hid (∀V,Bw w V→Calls prog 41 #[.agg m.ar,I xu,.string xs] V (Zar (fun m2 n=>Zaj m (fun m1 m2 _=>Zax m1 m2) m2 n) (True) V)):=fun V hV=>(Zja m xu xs V ((ap.below hV).mono hV.size) (Z.below hV Z.lt)).mono fun _ _ h=>ZdF h
  have J:=aa.twelve
  have L:=ab.nine
  have N:=G.nine
  go_upto_region 7 with(fail)
  go_wp2_with fail
  refine(U.out _ z).mono ?_
  rintro e W9 ⟨hb,m2,n,er,rfl,hc⟩
  have HC:=Hi hc
  have ac:=blT z hb
  have ad:=Hi z.size
  have E:=bkN G hb
  clear hb hc
  have C:m2.val=.agg m2.ar:=rfl
  rw[C]
  clear C
  dsimp only
  clear J L N
  go_wp2_with (refine wpList_store_row rfl 37 _ _ rfl b4 m2.ar rfl rfl 37 zZ E ZaU (by rfl) (by simp[Value.oneCell']) ?_)
  obtain⟨V9,s⟩:=ExY (W9.setRow b4 m2.ar)
  rw[←s]
  have ag:=bkr E s
  have ae:=blr ac s Y
  have af:(er=0∧Zaa V9 w.heap.size m2∧(fun(m2:Zab) (n:Int)=>Zbn ⟨xk,xa,xi,xw,xn,xu,xc,xq,xp,xm,xl,xs⟩ m m2 n) m2 n)∨(er≠0∧m2=Za4∧n=0∧True):=by
   rcases HC.out with⟨h1,h2,h3⟩|⟨h1,h2,h3,h4⟩
   ·exact .inl ⟨h1,by rw[s];exact(h2.mono ad).rowFar E (by decide) _,X.out m2 n h3⟩
   ·exact .inr ⟨h1,h2,h3,R.out h4⟩
  exact bodyPost_ret (Zam (p:=4) (q:=5) (r:=6) results23 _ V9 b4 37 m2.ar (0,0) _ rfl ag underlying37 rfl ZaU) rfl ⟨ae,m2,n,er,rfl,af⟩
 have aJ:(xk==15)=false:=by simpa using al
 have aB:=Hi al
 clear al
 have X:Hid (∀(m2:Zab) (n:Int),Zaj m (fun m1 m2 _=>Zci m1 m2) m2 n→(fun(m2:Zab) (n:Int)=>Zbn ⟨xk,xa,xi,xw,xn,xu,xc,xq,xp,xm,xl,xs⟩ m m2 n) m2 n):=by
  intro m2 n h
  show Zbn _ m _ n
  unfold Zbn
  rw[if_neg am.out,if_neg aq.out,if_neg aB.out]
  exact h
 have R:Hid (True→True):=by
  intro _
  trivial
 have U:Hid (∀V,Bw w V→Calls prog 42 #[.agg m.ar] V (Zar (fun m2 n=>Zaj m (fun m1 m2 _=>Zci m1 m2) m2 n) (True) V)):=fun V hV=>(ZlU m V ((ap.below hV).mono hV.size) (Z.below hV Z.lt)).mono fun _ _ h=>ZdF h
 have J:=aa.twelve
 have L:=ab.nine
 have N:=G.nine
 go_upto_region 8 with(fail)
 go_wp2_with fail
 refine(U.out _ z).mono ?_
 rintro e W9 ⟨hb,m2,n,er,rfl,hc⟩
 have HC:=Hi hc
 have ac:=blT z hb
 have ad:=Hi z.size
 have E:=bkN G hb
 clear hb hc
 have C:m2.val=.agg m2.ar:=rfl
 rw[C]
 clear C
 dsimp only
 clear J L N
 go_wp2_with (refine wpList_store_row rfl 37 _ _ rfl b4 m2.ar rfl rfl 37 zZ E ZaU (by rfl) (by simp[Value.oneCell']) ?_)
 obtain⟨V9,s⟩:=ExY (W9.setRow b4 m2.ar)
 rw[←s]
 have ag:=bkr E s
 have ae:=blr ac s Y
 have af:(er=0∧Zaa V9 w.heap.size m2∧(fun(m2:Zab) (n:Int)=>Zbn ⟨xk,xa,xi,xw,xn,xu,xc,xq,xp,xm,xl,xs⟩ m m2 n) m2 n)∨(er≠0∧m2=Za4∧n=0∧True):=by
  rcases HC.out with⟨h1,h2,h3⟩|⟨h1,h2,h3,h4⟩
  ·exact .inl ⟨h1,by rw[s];exact(h2.mono ad).rowFar E (by decide) _,X.out m2 n h3⟩
  ·exact .inr ⟨h1,h2,h3,R.out h4⟩
 exact bodyPost_ret (Zam (p:=4) (q:=5) (r:=6) results23 _ V9 b4 37 m2.ar (0,0) _ rfl ag underlying37 rfl ZaU) rfl ⟨ae,m2,n,er,rfl,af⟩
section
theorem ZkT(w:World):(binOp .eql 73 .nilFunc .nilFunc).run prog w=.ok (.bool true) w:=by kernel_rfl
theorem ZkU(w:World):(binOp .eql 73 (.func (.func 21) #[] #[]) .nilFunc).run prog w=.ok (.bool false) w:=by kernel_rfl
theorem ZkV(w:World):(binOp .eql 73 (.func (.func 22) #[] #[]) .nilFunc).run prog w=.ok (.bool false) w:=by kernel_rfl
theorem ZkW(w:World):(binOp .eql 73 (.func (.func 23) #[] #[]) .nilFunc).run prog w=.ok (.bool false) w:=by kernel_rfl
attribute [local go_sem] ZkT ZkU ZkV ZkW
theorem Zcm{P:Program}{fn:Func}{p q:Tmp}{z C:TypeId}(h:fn.results=#[.cell p z,.cell q C])(tmps:Array Value)(w:World)(g1 g2:Nat)(T1 T2:TypeId)(s cs2:Array Value)(E G:TypeDesc)(hp:tmps.getD p undef=Pt g1)(hq:tmps.getD q undef=Pt g2)(N:Bk w g1 T1 s)(R:Bk w g2 T2 cs2)(aa:P.underlying z=some E)(J:(match E with | .struct _ | .array _ _=>true|_=>false)=true)(U:(P.info? z).map (·.size)=some s.size)(ab:P.underlying C=some G)(L:(match G with | .struct _ | .array _ _=>true|_=>false)=true)(X:(P.info? C).map (·.size)=some cs2.size):
 (results fn tmps).run P w=.ok (.tuple #[.agg s,.agg cs2]) w:=by
 have Y:tmps[p]?.getD undef=Pt g1:=by simpa using hp
 have Z:tmps[q]?.getD undef=Pt g2:=by simpa using hq
 have e1:=run_loadVar_row w g1 T1 z s (0,0) E N aa J U
 have e2:=run_loadVar_row w g2 T2 C cs2 (0,0) G R ab L X
 simp[results,h,Y,Z,asAddr,e1,e2]
theorem Zff(ev:EvP)(m:Zab)(w:World)(hm:Zay w w.heap.size m)(bh:Gl w):Calls prog 11 #[m.val,ev.val] w (Zdu m ev w):=by
 obtain⟨xk,xa,xi,xw,xn,xu,xc,xq,xp,xm,xl,xs⟩:=ev
 obtain⟨W1,a0⟩:=ExY (w.alloc (.cells m.ar 37))
 obtain⟨b2,a1⟩:=ExY w.heap.size
 have ba:=blB a0
 have bb:=bkW a0 a1
 obtain⟨W2,aW⟩:=ExY (W1.alloc (.cells #[I xk,I xa,I xi,I xw,I xn,I xu,I xc,I xq,I xp,I xm,.bool xl,.string xs] 43))
 obtain⟨b3,a2⟩:=ExY W1.heap.size
 have a4:=blA ba aW
 have a6:=bkA bb aW
 have bd:=bkW aW a2
 have a7:b3=b2+1:=by rw[a2,a0,World.size_alloc,←a1]
 obtain⟨W3,aT⟩:=ExY (W2.alloc (.cells zZ 37))
 obtain⟨b4,aX⟩:=ExY W2.heap.size
 have bg:Hid (b4≠b2):=by
  have h:=a6.lt
  show b4≠b2
  rw[aX]
  exact Ne.symm (Nat.ne_of_lt h)
 have aA:=blZ a4 aX
 have a5:=blA a4 aT
 have bc:=bkA a6 aT
 have be:=bkA bd aT
 have bf:=bkW aT aX
 have a8:b4=b3+1:=by rw[aX,aW,World.size_alloc,←a2]
 obtain⟨W4,aU⟩:=ExY (W3.alloc (.cells #[I 0,I 0] 41))
 obtain⟨b5,a3⟩:=ExY W3.heap.size
 have aB:=blZ a5 a3
 have ab:=blA a5 aU
 have aF:=bkA bc aU
 have aG:=bkA be aU
 have aC:=bkA bf aU
 have aD:=bkW aU a3
 have a9:b5=b4+1:=by rw[a3,aT,World.size_alloc,←aX]
 have aR:=Hi hm
 have aV:=Hi bh
 have bn:=Hi (fun V=>ZmD xk V)
 clear hm bh
 show Calls prog 11 #[.agg m.ar,.agg #[I xk,I xa,I xi,I xw,I xn,I xu,I xc,I xq,I xp,I xm,.bool xl,.string xs]] w (Zdu m ⟨xk,xa,xi,xw,xn,xu,xc,xq,xp,xm,xl,xs⟩ w)
 go_enter func11,ntmps11
 go_upto_region 1 with(fail)
 rw[←a0,←a1,←aW,←a7,←aT,←a8,←aU,←a9]
 clear a0 a1 a7 aW a2 a8 aT aX a9 aU a3
 have L:=aF.nine
 have N:=aG.twelve
 have R:=aC.nine
 have U:=aD.two
 go_wp2_with fail
 refine(bn.out _).mono ?_
 rintro e w' ⟨rfl,bi⟩
 rw[bi]
 clear bi w'
 unfold ofV
 by_cases kb:xk<1∨16<xk
 ·rw[if_pos kb]
  have bl:=Hi kb
  clear kb
  go_upto_region 3 with(fail)
  clear L N R U
  have L:=aF.nine
  have N:=aG.twelve
  have R:=aC.nine
  have U:=aD.two
  go_wp2_with fail
  have aS:=Hi ab.size
  refine(Zbq m _ ((aR.below ab).mono ab.size)).mono ?_
  rintro e W5 ⟨m3,rfl,ae,ax,hb⟩
  have az:=Hi ae
  have aI:Hid (Zaa W5 w.heap.size m3):=ax.mono aS
  clear ae ax
  have ay:=blT ab hb
  have Z:=bkN aC hb
  have aj:=bkN aD hb
  clear L N R U
  clear hb
  have aJ:Hid (Zaa W5 w.heap.size m3):=aI.out
  have aa:m3.val=.agg m3.ar:=rfl
  rw[aa]
  clear aa
  dsimp only
  have aE:Hid (Bk (W5.setRow b4 m3.ar) b5 41 #[I 0,I 0]):=aj.rowFar (aj.ne Z (by decide)) _
  go_wp2_with (first|refine wpList_store_row rfl 37 _ _ rfl b4 m3.ar rfl rfl 37 zZ Z.out ZaU (by rfl) (by simp[Value.oneCell']) ?_|refine wpList_store_row rfl 41 _ _ rfl b5 #[I 44,I 0] rfl rfl 41 #[I 0,I 0] aE.out ZiE (by rfl) (by simp[Value.oneCell']) ?_)
  obtain⟨W6,s⟩:=ExY (W5.setRow b4 m3.ar)
  rw[←s]
  have Y:=blR ay s aA
  have z:Hid (Bk W6 b4 37 m3.ar):=by rw[s];exact Z.row _
  have C:=bkR aj s Z rfl
  have aK:=boR aJ s Z (by decide)
  clear s
  obtain⟨W7,ac⟩:=ExY (W6.setRow b5 #[I 44,I 0])
  rw[←ac]
  have ag:=blR Y ac aB
  have G:=bkR z ac C rfl
  have J:Hid (Bk W7 b5 41 #[I 44,I 0]):=by rw[ac];exact C.row _
  have ah:=boR aK ac C (by decide)
  clear ac
  exact bodyPost_ret (Zcm (p:=4) (q:=5) results11 _ W7 b4 b5 37 41 m3.ar #[I 44,I 0] _ _ rfl rfl G J underlying37 rfl ZaU underlying41 rfl ZiE) rfl ⟨ag,m3,_,_,rfl,ah,.inr ⟨by decide,az,rfl,(bl.elim .inl fun h=>.inr (.inl h))⟩⟩
 rw[if_neg kb]
 by_cases k4:xk≤4
 ·rw[if_pos k4]
  clear L N R U
  go_upto_region 4 with(fail)
  have L:=aF.nine
  have N:=aG.twelve
  have R:=aC.nine
  have U:=aD.two
  go_wp2_with fail
  have aS:=Hi ab.size
  refine(Zlv ⟨xk,xa,xi,xw,xn,xu,xc,xq,xp,xm,xl,xs⟩ m _ ((aR.below ab).mono ab.size) (aV.below ab aV.lt)).mono ?_
  rintro e W5 ⟨hb,m2,n,er,rfl,hc⟩
  have HC:=Hi hc
  clear hc
  have ay:=blT ab hb
  have af:=bkN aF hb
  have aH:=bkN aG hb
  have Z:=bkN aC hb
  have aj:=bkN aD hb
  clear L N R U
  clear hb
  have aa:m2.val=.agg m2.ar:=rfl
  rw[aa]
  clear aa
  dsimp only
  rcases HC.out with⟨h1,h2,h3⟩|⟨h1,h2,h3,h4⟩
  ·have aO:Hid (Zga ⟨xk,xa,xi,xw,xn,xu,xc,xq,xp,xm,xl,xs⟩ m m2 n):=⟨by show _≤xk;omega,by show xk≤_;omega,by rw[if_pos (show xk≤4 by omega)];exact h3⟩
   have aJ:Hid (Zaa W5 w.heap.size m2):=h2.mono aS
   subst h1
   clear h2 h3
   obtain⟨W6,s⟩:=ExY (W5.alloc (.cells m2.ar 37))
   obtain⟨b7,X⟩:=ExY W5.heap.size
   have aq:Hid (b7≠b2):=by
    have h:=af.lt
    show b7≠b2
    rw[X]
    exact Ne.symm (Nat.ne_of_lt h)
   have au:Hid (b7≠b4):=by
    have h:=Z.lt
    show b7≠b4
    rw[X]
    exact Ne.symm (Nat.ne_of_lt h)
   have Y:=blA ay s
   have am:=bkA af s
   have an:=bkA aH s
   have z:=bkA Z s
   have C:=bkA aj s
   have aK:=boA aJ s
   have ap:=bkW s X
   go_upto_region 5 with(fail)
   rw[←s,←X]
   clear s X
   go_upto_region 7 with(fail)
   have L:=am.nine
   have N:=an.twelve
   have R:=z.nine
   have U:=C.two
   have aw:=ap.nine
   have aE:Hid (Bk (W6.setRow b4 m2.ar) b5 41 #[I 0,I 0]):=C.rowFar (C.ne z (by decide)) _
   go_wp2_with (first|refine wpList_store_row rfl 37 _ _ rfl b4 m2.ar rfl rfl 37 zZ z.out ZaU (by rfl) (by simp[Value.oneCell']) ?_|refine wpList_store_row rfl 41 _ _ rfl b5 #[I 0,I n] rfl rfl 41 #[I 0,I 0] aE.out ZiE (by rfl) (by simp[Value.oneCell']) ?_)
   obtain⟨W7,ac⟩:=ExY (W6.setRow b4 m2.ar)
   rw[←ac]
   have ag:=blR Y ac aA
   have G:Hid (Bk W7 b4 37 m2.ar):=by rw[ac];exact z.row _
   have J:=bkR C ac z rfl
   have ah:=boR aK ac z (by decide)
   clear L N R U aw
   clear ac
   obtain⟨W8,E⟩:=ExY (W7.setRow b5 #[I 0,I n])
   rw[←E]
   have ak:=blR ag E aB
   have ao:=bkR G E J rfl
   have ad:Hid (Bk W8 b5 41 #[I 0,I n]):=by rw[E];exact J.row _
   have al:=boR ah E J (by decide)
   clear E
   exact bodyPost_ret (Zcm (p:=4) (q:=5) results11 _ W8 b4 b5 37 41 m2.ar #[I 0,I n] _ _ rfl rfl ao ad underlying37 rfl ZaU underlying41 rfl ZiE) rfl ⟨ak,m2,_,_,rfl,al,.inl ⟨rfl,aO⟩⟩
  ·have aL:Hid (Zic ⟨xk,xa,xi,xw,xn,xu,xc,xq,xp,xm,xl,xs⟩ m):=.inr (.inr (by rw[if_pos (show xk≤4 by omega)];exact h4))
   have aY:=Hi h1
   have te:(er != 0)=true:=by simpa using h1
   clear h1 h2 h3 h4
   obtain⟨W6,s⟩:=ExY (W5.alloc (.cells m2.ar 37))
   obtain⟨b7,X⟩:=ExY W5.heap.size
   have aq:Hid (b7≠b2):=by
    have h:=af.lt
    show b7≠b2
    rw[X]
    exact Ne.symm (Nat.ne_of_lt h)
   have au:Hid (b7≠b4):=by
    have h:=Z.lt
    show b7≠b4
    rw[X]
    exact Ne.symm (Nat.ne_of_lt h)
   have Y:=blA ay s
   have am:=bkA af s
   have an:=bkA aH s
   have z:=bkA Z s
   have C:=bkA aj s
   have ap:=bkW s X
   go_upto_region 5 with(fail)
   rw[←s,←X]
   clear s X
   go_upto_region 6 with(fail)
   have L:=am.nine
   have N:=an.twelve
   have R:=z.nine
   have U:=C.two
   have aw:=ap.nine
   go_wp2_with fail
   have aZ:=Hi Y.size
   refine(Zbq m _ ((aR.below Y).mono Y.size)).mono ?_
   rintro e W7 ⟨m3,rfl,ae,ax,hb⟩
   have az:=Hi ae
   have aI:Hid (Zaa W7 w.heap.size m3):=ax.mono aZ
   clear ae ax
   have ag:=blT Y hb
   have G:=bkN z hb
   have J:=bkN C hb
   clear L N R U aw
   clear hb
   have ah:Hid (Zaa W7 w.heap.size m3):=aI.out
   have aa:m3.val=.agg m3.ar:=rfl
   rw[aa]
   clear aa
   dsimp only
   have aE:Hid (Bk (W7.setRow b4 m3.ar) b5 41 #[I 0,I 0]):=J.rowFar (J.ne G (by decide)) _
   go_wp2_with (first|refine wpList_store_row rfl 37 _ _ rfl b4 m3.ar rfl rfl 37 zZ G.out ZaU (by rfl) (by simp[Value.oneCell']) ?_|refine wpList_store_row rfl 41 _ _ rfl b5 #[I er,I 0] rfl rfl 41 #[I 0,I 0] aE.out ZiE (by rfl) (by simp[Value.oneCell']) ?_)
   obtain⟨W8,E⟩:=ExY (W7.setRow b4 m3.ar)
   rw[←E]
   have ak:=blR ag E aA
   have ao:Hid (Bk W8 b4 37 m3.ar):=by rw[E];exact G.row _
   have ad:=bkR J E G rfl
   have al:=boR ah E G (by decide)
   clear E
   obtain⟨W9,ai⟩:=ExY (W8.setRow b5 #[I er,I 0])
   rw[←ai]
   have aM:=blR ak ai aB
   have aP:=bkR ao ai ad rfl
   have aQ:Hid (Bk W9 b5 41 #[I er,I 0]):=by rw[ai];exact ad.row _
   have aN:=boR al ai ad (by decide)
   clear ai
   exact bodyPost_ret (Zcm (p:=4) (q:=5) results11 _ W9 b4 b5 37 41 m3.ar #[I er,I 0] _ _ rfl rfl aP aQ underlying37 rfl ZaU underlying41 rfl ZiE) rfl ⟨aM,m3,_,_,rfl,aN,.inr ⟨aY,az,rfl,aL⟩⟩
 rw[if_neg k4]
 by_cases bj:xk≤12
 ·rw[if_pos bj]
  clear L N R U
  go_upto_region 4 with(fail)
  have L:=aF.nine
  have N:=aG.twelve
  have R:=aC.nine
  have U:=aD.two
  go_wp2_with fail
  have aS:=Hi ab.size
  refine(Zlx ⟨xk,xa,xi,xw,xn,xu,xc,xq,xp,xm,xl,xs⟩ m _ ((aR.below ab).mono ab.size) (aV.below ab aV.lt)).mono ?_
  rintro e W5 ⟨hb,m2,n,er,rfl,hc⟩
  have HC:=Hi hc
  clear hc
  have ay:=blT ab hb
  have af:=bkN aF hb
  have aH:=bkN aG hb
  have Z:=bkN aC hb
  have aj:=bkN aD hb
  clear L N R U
  clear hb
  have aa:m2.val=.agg m2.ar:=rfl
  rw[aa]
  clear aa
  dsimp only
  rcases HC.out with⟨h1,h2,h3⟩|⟨h1,h2,h3,h4⟩
  ·have aO:Hid (Zga ⟨xk,xa,xi,xw,xn,xu,xc,xq,xp,xm,xl,xs⟩ m m2 n):=⟨by show _≤xk;omega,by show xk≤_;omega,by rw[if_neg (show ¬xk≤4 by omega),if_pos (show xk≤12 by omega)];exact h3⟩
   have aJ:Hid (Zaa W5 w.heap.size m2):=h2.mono aS
   subst h1
   clear h2 h3
   obtain⟨W6,s⟩:=ExY (W5.alloc (.cells m2.ar 37))
   obtain⟨b7,X⟩:=ExY W5.heap.size
   have aq:Hid (b7≠b2):=by
    have h:=af.lt
    show b7≠b2
    rw[X]
    exact Ne.symm (Nat.ne_of_lt h)
   have au:Hid (b7≠b4):=by
    have h:=Z.lt
    show b7≠b4
    rw[X]
    exact Ne.symm (Nat.ne_of_lt h)
   have Y:=blA ay s
   have am:=bkA af s
   have an:=bkA aH s
   have z:=bkA Z s
   have C:=bkA aj s
   have aK:=boA aJ s
   have ap:=bkW s X
   go_upto_region 5 with(fail)
   rw[←s,←X]
   clear s X
   go_upto_region 7 with(fail)
   have L:=am.nine
   have N:=an.twelve
   have R:=z.nine
   have U:=C.two
   have aw:=ap.nine
   have aE:Hid (Bk (W6.setRow b4 m2.ar) b5 41 #[I 0,I 0]):=C.rowFar (C.ne z (by decide)) _
   go_wp2_with (first|refine wpList_store_row rfl 37 _ _ rfl b4 m2.ar rfl rfl 37 zZ z.out ZaU (by rfl) (by simp[Value.oneCell']) ?_|refine wpList_store_row rfl 41 _ _ rfl b5 #[I 0,I n] rfl rfl 41 #[I 0,I 0] aE.out ZiE (by rfl) (by simp[Value.oneCell']) ?_)
   obtain⟨W7,ac⟩:=ExY (W6.setRow b4 m2.ar)
   rw[←ac]
   have ag:=blR Y ac aA
   have G:Hid (Bk W7 b4 37 m2.ar):=by rw[ac];exact z.row _
   have J:=bkR C ac z rfl
   have ah:=boR aK ac z (by decide)
   clear L N R U aw
   clear ac
   obtain⟨W8,E⟩:=ExY (W7.setRow b5 #[I 0,I n])
   rw[←E]
   have ak:=blR ag E aB
   have ao:=bkR G E J rfl
   have ad:Hid (Bk W8 b5 41 #[I 0,I n]):=by rw[E];exact J.row _
   have al:=boR ah E J (by decide)
   clear E
   exact bodyPost_ret (Zcm (p:=4) (q:=5) results11 _ W8 b4 b5 37 41 m2.ar #[I 0,I n] _ _ rfl rfl ao ad underlying37 rfl ZaU underlying41 rfl ZiE) rfl ⟨ak,m2,_,_,rfl,al,.inl ⟨rfl,aO⟩⟩
  ·have aL:Hid (Zic ⟨xk,xa,xi,xw,xn,xu,xc,xq,xp,xm,xl,xs⟩ m):=.inr (.inr (by rw[if_neg (show ¬xk≤4 by omega),if_pos (show xk≤12 by omega)];exact h4))
   have aY:=Hi h1
   have te:(er != 0)=true:=by simpa using h1
   clear h1 h2 h3 h4
   obtain⟨W6,s⟩:=ExY (W5.alloc (.cells m2.ar 37))
   obtain⟨b7,X⟩:=ExY W5.heap.size
   have aq:Hid (b7≠b2):=by
    have h:=af.lt
    show b7≠b2
    rw[X]
    exact Ne.symm (Nat.ne_of_lt h)
   have au:Hid (b7≠b4):=by
    have h:=Z.lt
    show b7≠b4
    rw[X]
    exact Ne.symm (Nat.ne_of_lt h)
   have Y:=blA ay s
   have am:=bkA af s
   have an:=bkA aH s
   have z:=bkA Z s
   have C:=bkA aj s
   have ap:=bkW s X
   go_upto_region 5 with(fail)
   rw[←s,←X]
   clear s X
   go_upto_region 6 with(fail)
   have L:=am.nine
   have N:=an.twelve
   have R:=z.nine
   have U:=C.two
   have aw:=ap.nine
   go_wp2_with fail
   have aZ:=Hi Y.size
   refine(Zbq m _ ((aR.below Y).mono Y.size)).mono ?_
   rintro e W7 ⟨m3,rfl,ae,ax,hb⟩
   have az:=Hi ae
   have aI:Hid (Zaa W7 w.heap.size m3):=ax.mono aZ
   clear ae ax
   have ag:=blT Y hb
   have G:=bkN z hb
   have J:=bkN C hb
   clear L N R U aw
   clear hb
   have ah:Hid (Zaa W7 w.heap.size m3):=aI.out
   have aa:m3.val=.agg m3.ar:=rfl
   rw[aa]
   clear aa
   dsimp only
   have aE:Hid (Bk (W7.setRow b4 m3.ar) b5 41 #[I 0,I 0]):=J.rowFar (J.ne G (by decide)) _
   go_wp2_with (first|refine wpList_store_row rfl 37 _ _ rfl b4 m3.ar rfl rfl 37 zZ G.out ZaU (by rfl) (by simp[Value.oneCell']) ?_|refine wpList_store_row rfl 41 _ _ rfl b5 #[I er,I 0] rfl rfl 41 #[I 0,I 0] aE.out ZiE (by rfl) (by simp[Value.oneCell']) ?_)
   obtain⟨W8,E⟩:=ExY (W7.setRow b4 m3.ar)
   rw[←E]
   have ak:=blR ag E aA
   have ao:Hid (Bk W8 b4 37 m3.ar):=by rw[E];exact G.row _
   have ad:=bkR J E G rfl
   have al:=boR ah E G (by decide)
   clear E
   obtain⟨W9,ai⟩:=ExY (W8.setRow b5 #[I er,I 0])
   rw[←ai]
   have aM:=blR ak ai aB
   have aP:=bkR ao ai ad rfl
   have aQ:Hid (Bk W9 b5 41 #[I er,I 0]):=by rw[ai];exact ad.row _
   have aN:=boR al ai ad (by decide)
   clear ai
   exact bodyPost_ret (Zcm (p:=4) (q:=5) results11 _ W9 b4 b5 37 41 m3.ar #[I er,I 0] _ _ rfl rfl aP aQ underlying37 rfl ZaU underlying41 rfl ZiE) rfl ⟨aM,m3,_,_,rfl,aN,.inr ⟨aY,az,rfl,aL⟩⟩
 rw[if_neg bj]
 clear L N R U
 go_upto_region 4 with(fail)
 have L:=aF.nine
 have N:=aG.twelve
 have R:=aC.nine
 have U:=aD.two
 go_wp2_with fail
 have aS:=Hi ab.size
 refine(ZiK ⟨xk,xa,xi,xw,xn,xu,xc,xq,xp,xm,xl,xs⟩ m _ ((aR.below ab).mono ab.size) (aV.below ab aV.lt)).mono ?_
 rintro e W5 ⟨hb,m2,n,er,rfl,hc⟩
 have HC:=Hi hc
 clear hc
 have ay:=blT ab hb
 have af:=bkN aF hb
 have aH:=bkN aG hb
 have Z:=bkN aC hb
 have aj:=bkN aD hb
 clear L N R U
 clear hb
 have aa:m2.val=.agg m2.ar:=rfl
 rw[aa]
 clear aa
 dsimp only
 rcases HC.out with⟨h1,h2,h3⟩|⟨h1,h2,h3,h4⟩
 ·have aO:Hid (Zga ⟨xk,xa,xi,xw,xn,xu,xc,xq,xp,xm,xl,xs⟩ m m2 n):=⟨by show _≤xk;omega,by show xk≤_;omega,by rw[if_neg (show ¬xk≤4 by omega),if_neg (show ¬xk≤12 by omega)];exact h3⟩
  have aJ:Hid (Zaa W5 w.heap.size m2):=h2.mono aS
  subst h1
  clear h2 h3
  obtain⟨W6,s⟩:=ExY (W5.alloc (.cells m2.ar 37))
  obtain⟨b7,X⟩:=ExY W5.heap.size
  have aq:Hid (b7≠b2):=by
   have h:=af.lt
   show b7≠b2
   rw[X]
   exact Ne.symm (Nat.ne_of_lt h)
  have au:Hid (b7≠b4):=by
   have h:=Z.lt
   show b7≠b4
   rw[X]
   exact Ne.symm (Nat.ne_of_lt h)
  have Y:=blA ay s
  have am:=bkA af s
  have an:=bkA aH s
  have z:=bkA Z s
  have C:=bkA aj s
  have aK:=boA aJ s
  have ap:=bkW s X
  go_upto_region 5 with(fail)
  rw[←s,←X]
  clear s X
  go_upto_region 7 with(fail)
  have L:=am.nine
  have N:=an.twelve
  have R:=z.nine
  have U:=C.two
  have aw:=ap.nine
  have aE:Hid (Bk (W6.setRow b4 m2.ar) b5 41 #[I 0,I 0]):=C.rowFar (C.ne z (by decide)) _
  go_wp2_with (first|refine wpList_store_row rfl 37 _ _ rfl b4 m2.ar rfl rfl 37 zZ z.out ZaU (by rfl) (by simp[Value.oneCell']) ?_|refine wpList_store_row rfl 41 _ _ rfl b5 #[I 0,I n] rfl rfl 41 #[I 0,I 0] aE.out ZiE (by rfl) (by simp[Value.oneCell']) ?_)
  obtain⟨W7,ac⟩:=ExY (W6.setRow b4 m2.ar)
  rw[←ac]
  have ag:=blR Y ac aA
  have G:Hid (Bk W7 b4 37 m2.ar):=by rw[ac];exact z.row _
  have J:=bkR C ac z rfl
  have ah:=boR aK ac z (by decide)
  clear L N R U aw
  clear ac
  obtain⟨W8,E⟩:=ExY (W7.setRow b5 #[I 0,I n])
  rw[←E]
  have ak:=blR ag E aB
  have ao:=bkR G E J rfl
  have ad:Hid (Bk W8 b5 41 #[I 0,I n]):=by rw[E];exact J.row _
  have al:=boR ah E J (by decide)
  clear E
  exact bodyPost_ret (Zcm (p:=4) (q:=5) results11 _ W8 b4 b5 37 41 m2.ar #[I 0,I n] _ _ rfl rfl ao ad underlying37 rfl ZaU underlying41 rfl ZiE) rfl ⟨ak,m2,_,_,rfl,al,.inl ⟨rfl,aO⟩⟩
 ·have aL:Hid (Zic ⟨xk,xa,xi,xw,xn,xu,xc,xq,xp,xm,xl,xs⟩ m):=.inr (.inr (by rw[if_neg (show ¬xk≤4 by omega),if_neg (show ¬xk≤12 by omega)];trivial))
  have aY:=Hi h1
  have te:(er != 0)=true:=by simpa using h1
  clear h1 h2 h3 h4
  obtain⟨W6,s⟩:=ExY (W5.alloc (.cells m2.ar 37))
  obtain⟨b7,X⟩:=ExY W5.heap.size
  have aq:Hid (b7≠b2):=by
   have h:=af.lt
   show b7≠b2
   rw[X]
   exact Ne.symm (Nat.ne_of_lt h)
  have au:Hid (b7≠b4):=by
   have h:=Z.lt
   show b7≠b4
   rw[X]
   exact Ne.symm (Nat.ne_of_lt h)
  have Y:=blA ay s
  have am:=bkA af s
  have an:=bkA aH s
  have z:=bkA Z s
  have C:=bkA aj s
  have ap:=bkW s X
  go_upto_region 5 with(fail)
  rw[←s,←X]
  clear s X
  go_upto_region 6 with(fail)
  have L:=am.nine
  have N:=an.twelve
  have R:=z.nine
  have U:=C.two
  have aw:=ap.nine
  go_wp2_with fail
  have aZ:=Hi Y.size
  refine(Zbq m _ ((aR.below Y).mono Y.size)).mono ?_
  rintro e W7 ⟨m3,rfl,ae,ax,hb⟩
  have az:=Hi ae
  have aI:Hid (Zaa W7 w.heap.size m3):=ax.mono aZ
  clear ae ax
  have ag:=blT Y hb
  have G:=bkN z hb
  have J:=bkN C hb
  clear L N R U aw
  clear hb
  have ah:Hid (Zaa W7 w.heap.size m3):=aI.out
  have aa:m3.val=.agg m3.ar:=rfl
  rw[aa]
  clear aa
  dsimp only
  have aE:Hid (Bk (W7.setRow b4 m3.ar) b5 41 #[I 0,I 0]):=J.rowFar (J.ne G (by decide)) _
  go_wp2_with (first|refine wpList_store_row rfl 37 _ _ rfl b4 m3.ar rfl rfl 37 zZ G.out ZaU (by rfl) (by simp[Value.oneCell']) ?_|refine wpList_store_row rfl 41 _ _ rfl b5 #[I er,I 0] rfl rfl 41 #[I 0,I 0] aE.out ZiE (by rfl) (by simp[Value.oneCell']) ?_)
  obtain⟨W8,E⟩:=ExY (W7.setRow b4 m3.ar)
  rw[←E]
  have ak:=blR ag E aA
  have ao:Hid (Bk W8 b4 37 m3.ar):=by rw[E];exact G.row _
  have ad:=bkR J E G rfl
  have al:=boR ah E G (by decide)
  clear E
  obtain⟨W9,ai⟩:=ExY (W8.setRow b5 #[I er,I 0])
  rw[←ai]
  have aM:=blR ak ai aB
  have aP:=bkR ao ai ad rfl
  have aQ:Hid (Bk W9 b5 41 #[I er,I 0]):=by rw[ai];exact ad.row _
  have aN:=boR al ai ad (by decide)
  clear ai
  exact bodyPost_ret (Zcm (p:=4) (q:=5) results11 _ W9 b4 b5 37 41 m3.ar #[I er,I 0] _ _ rfl rfl aP aQ underlying37 rfl ZaU underlying41 rfl ZiE) rfl ⟨aM,m3,_,_,rfl,aN,.inr ⟨aY,az,rfl,aL⟩⟩
end
section
structure Ad where
 A0:Option Addr
 A1:Option Addr
 A2:Option Addr
 k0:Nat
 k1:Nat
 k2:Nat
 s1:Sl
 s2:Sl
 s3:Sl
 s4:Sl
 s5:Sl
 s6:Sl
 s7:Sl
 s8:Sl
def wk0(d:Ad):Zab:={day:=0,curs:=[⟨1000000,0⟩],unders:=[],instrs:=[],accts:=[⟨-1,d.A0,d.k0,[0],false,0⟩,⟨-1,d.A1,d.k1,[0],false,0⟩],poss:=[],orders:=[],avail:=[],locs:=[],sCur:=d.s1,sUnd:=d.s2,sIns:=d.s3,sAcc:=d.s4,sPos:=d.s5,sOrd:=d.s6,sAva:=d.s7,sLoc:=d.s8}
def wk(d:Ad)(us:List ZbD)(is:List ZaD)(cash last:Int)(os:List O.Lc)(av:List Int):Zab:=
 {day:=0,curs:=[⟨1000000,0⟩],unders:=us,instrs:=is,accts:=[⟨-1,d.A0,d.k0,[0],false,0⟩,⟨-1,d.A1,d.k1,[0],false,0⟩,⟨-1,d.A2,d.k2,[cash],false,last⟩],poss:=[],orders:=os,avail:=av,locs:=[],sCur:=d.s1,sUnd:=d.s2,sIns:=d.s3,sAcc:=d.s4,sPos:=d.s5,sOrd:=d.s6,sAva:=d.s7,sLoc:=d.s8}
theorem ZgU{a:ZaA}{p:ZfL}(h:a.p=p):a=⟨p.parent,a.A,a.c,p.cash,p.flag,p.last⟩:=by
 subst h
 rfl
theorem ZlB{m:Zab}(z:m.day=0)(C:m.curs=[⟨1000000,0⟩])(E:m.unders=[])(G:m.instrs=[])(s:m.accts.map ZaA.p=[⟨-1,[0],false,0⟩,⟨-1,[0],false,0⟩])(J:m.poss=[])(L:m.orders=[])(N:m.avail=[])(R:m.locs=[]):∃d,m=wk0 d:=by
 obtain⟨day,curs,unders,instrs,accts,poss,orders,avail,locs,s1,s2,s3,s4,s5,s6,s7,s8⟩:=m
 dsimp only at *
 subst z C E G J L N R
 rcases accts with _|⟨a,_|⟨b,_|⟨c,t⟩⟩⟩
 ·cases s
 ·simp at s
 ·simp only[List.map_cons,List.map_nil,List.cons.injEq,and_true] at s
  obtain⟨e1,e2⟩:=s
  rw[ZgU e1,ZgU e2]
  exact⟨⟨a.A,b.A,none,a.c,b.c,0,s1,s2,s3,s4,s5,s6,s7,s8⟩,rfl⟩
 ·simp at s
theorem Zh9{m:Zab}{us:List ZbD}{is:List ZaD}{cash last:Int}{os:List O.Lc}{av:List Int}(z:m.day=0)(C:m.curs=[⟨1000000,0⟩])(E:m.unders=us)(G:m.instrs=is)(s:m.accts.map ZaA.p=[⟨-1,[0],false,0⟩,⟨-1,[0],false,0⟩,⟨-1,[cash],false,last⟩])(J:m.poss=[])(L:m.orders=os)(N:m.avail=av)(R:m.locs=[]):∃d,m=wk d us is cash last os av:=by
 obtain⟨day,curs,unders,instrs,accts,poss,orders,avail,locs,s1,s2,s3,s4,s5,s6,s7,s8⟩:=m
 dsimp only at *
 subst z C E G J L N R
 rcases accts with _|⟨a,_|⟨b,_|⟨c,_|⟨e,t⟩⟩⟩⟩
 ·cases s
 ·simp at s
 ·simp at s
 ·simp only[List.map_cons,List.map_nil,List.cons.injEq,and_true] at s
  obtain⟨e1,e2,e3⟩:=s
  rw[ZgU e1,ZgU e2,ZgU e3]
  exact⟨⟨a.A,b.A,c.A,a.c,b.c,c.c,s1,s2,s3,s4,s5,s6,s7,s8⟩,rfl⟩
 ·simp at s
theorem ZiB{m:Zab}{d:Ad}(h:Zbj (wk0 d) m):∃d,m=wk0 d:=ZlB h.day h.curs h.unders h.instrs h.accts h.poss h.orders h.avail h.locs
section
variable {d:Ad} {us:List ZbD} {is:List ZaD} {cash last:Int} {os:List O.Lc} {av:List Int} {m:Zab}
theorem Zia(h:Zbj (wk d us is cash last os av) m):∃d,m=wk d us is cash last os av:=Zh9 h.day h.curs h.unders h.instrs h.accts h.poss h.orders h.avail h.locs
theorem Zmp(s:ZbN (wk d us is cash last os av) 3=[⟨-1,[0],false,0⟩,⟨-1,[0],false,0⟩,⟨-1,[cash],false,last⟩])(h:Zbo (wk d us is cash last os av) m):∃d,m=wk d us is cash last os av:=
 Zh9 h.day h.curs h.unders h.instrs (h.accts.trans s) h.poss h.orders h.avail h.locs
theorem Zky(s:Za2 (wk d us is cash last os av)=true){x:Int}(z:ZaH (wk d us is cash last os av) 2=some x):¬Zb8 (wk d us is cash last os av):=by
 rintro(h|⟨v,h1,h2,h3⟩)
 ·rw[s] at h;cases h
 ·have h4:v<3:=h2
  have h5:v=2:=by omega
  subst h5
  have h6:=z.symm.trans h3
  cases h6
end
def uA:ZbD:=⟨⟨#[65]⟩,0,100,0⟩
def iA:ZaD:=⟨1,0,1,0,0,false,100⟩
def oA:O.Lc:=⟨2,1,0,50,100⟩
def ev1:EvP:=⟨8,-1,0,0,0,0,0,0,0,0,false,⟨#[]⟩⟩
def ev2:EvP:=⟨7,2,0,0,0,0,0,0,0,1000,false,⟨#[]⟩⟩
def ev3:EvP:=⟨9,0,0,0,0,0,0,0,100,0,false,⟨#[65]⟩⟩
def ev4:EvP:=⟨10,0,0,1,0,0,0,1,0,0,false,⟨#[]⟩⟩
def ev5:EvP:=⟨1,2,1,0,0,0,0,50,100,0,false,⟨#[]⟩⟩
section
variable {m:Zab} {n er:Int}
theorem ZiC{R:Zab→Zab→Int→Prop}{bad:Zab→Prop}{K:Zab→Prop}{m0:Zab}{us:List ZbD}{is:List ZaD}{cash last:Int}{os:List O.Lc}{av:List Int}(z:∀m1,Zbj m0 m1→K m1)(C:∀m1 m2 n,K m1→R m1 m2 n→∃d,m2=wk d us is cash last os av)(E:∀m1,K m1→¬bad m1)(s:Za2 m0=true)(J:∀d,Za2 (wk d us is cash last os av)=true){x:Int}(L:∀d,ZaH (wk d us is cash last os av) 2=some x)(G:∀d,ZbN (wk d us is cash last os av) 3=[⟨-1,[0],false,0⟩,⟨-1,[0],false,0⟩,⟨-1,[cash],false,last⟩])(h:(er=0∧Zaj m0 R m n)∨(er≠0∧Zas m0 R bad)):∃d,m=wk d us is cash last os av:=by
 rcases h with⟨_,_,m1,m2,h1,h2,h3⟩|⟨_,h⟩
 ·obtain⟨d,rfl⟩:=C m1 m2 n (z m1 h1) h2
  exact Zmp (G d) h3
 ·rcases h with h|⟨m1,h1,h2⟩|⟨m1,m2,n',h1,h2,h3⟩
  ·rw[s] at h;cases h
  ·exact absurd h2 (E m1 (z m1 h1))
  ·obtain⟨d,rfl⟩:=C m1 m2 n' (z m1 h1) h2
   exact absurd h3 (Zky (J d) (L d))
theorem ZfB{s:EvP}{p:Prop}(z:1≤s.kind)(C:s.kind≤16)(h:s.kind<1∨16<s.kind∨p):p:=by
 rcases h with h|h|h
 ·omega
 ·omega
 ·exact h
theorem ZmS{d:Ad}(h:ZgT ev1 (wk0 d) m n er):∃d,m=wk d [] [] 0 0 [] []:=by
 refine ZiC (R:=fun m1 m2 _=>ZaX (-1) m1 m2) (bad:=fun m1=>¬ZbC m1 (-1)) (K:=fun m1=>∃d,m1=wk0 d) (m0:=wk0 d) (n:=n) (er:=er) (x:=0) (fun m1 h1=>ZiB h1) ?_ ?_ (by kernel_rfl) (fun d=>by kernel_rfl) (fun d=>by kernel_rfl) (fun d=>by kernel_rfl) ?_
 ·rintro m1 m2 n ⟨d,rfl⟩ ⟨A,c,s,rfl⟩
  exact⟨{d with A2:=A,k2:=c,s4:=s},rfl⟩
 ·rintro m1 ⟨d,rfl⟩ hc
  exact hc (show(Zct _).2=0 by kernel_rfl)
 ·rcases h with⟨h1,_,_,h⟩|⟨h1,_,_,h⟩
  ·exact .inl ⟨h1,h⟩
  ·exact .inr ⟨h1,ZfB (by decide) (by decide) h⟩
theorem ZmT{d:Ad}(h:ZgT ev2 (wk d [] [] 0 0 [] []) m n er):∃d,m=wk d [] [] 1000 0 [] []:=by
 refine ZiC (R:=fun m1 m2 _=>ZbP 2 0 1000 m1 m2) (bad:=fun m1=>¬Zdv m1 2 0 1000) (K:=fun m1=>∃d,m1=wk d [] [] 0 0 [] []) (m0:=wk d [] [] 0 0 [] []) (n:=n) (er:=er) (x:=1000) (fun m1 h1=>Zia h1) ?_ ?_ (by kernel_rfl) (fun d=>by kernel_rfl) (fun d=>by kernel_rfl) (fun d=>by kernel_rfl) ?_
 ·rintro m1 m2 n ⟨d,rfl⟩ ⟨_,rfl⟩
  exact⟨d,by kernel_rfl⟩
 ·rintro m1 ⟨d,rfl⟩ hc
  exact hc ⟨by decide,show(2:Int)<((3:Nat):Int) by decide,by decide,show(0:Int)<((1:Nat):Int) by decide,by kernel_rfl⟩
 ·rcases h with⟨h1,_,_,h⟩|⟨h1,_,_,h⟩
  ·exact .inl ⟨h1,h⟩
  ·exact .inr ⟨h1,ZfB (by decide) (by decide) h⟩
theorem ZmU{d:Ad}(h:ZgT ev3 (wk d [] [] 1000 0 [] []) m n er):∃d,m=wk d [uA] [] 1000 0 [] []:=by
 refine ZiC (R:=fun m1 m2 _=>Zbm uA m1 m2) (bad:=fun m1=>¬Zb9 m1 uA) (K:=fun m1=>∃d,m1=wk d [] [] 1000 0 [] []) (m0:=wk d [] [] 1000 0 [] []) (n:=n) (er:=er) (x:=1000) (fun m1 h1=>Zia h1) ?_ ?_ (by kernel_rfl) (fun d=>by kernel_rfl) (fun d=>by kernel_rfl) (fun d=>by kernel_rfl) ?_
 ·rintro m1 m2 n ⟨d,rfl⟩ ⟨s,rfl⟩
  exact⟨{d with s2:=s},rfl⟩
 ·rintro m1 ⟨d,rfl⟩ hc
  exact hc ⟨show(0:Nat)<6 by decide,by kernel_rfl,show ZcR [] uA.name<0 from(by rw[show ZcR [] uA.name = -1 by kernel_rfl];decide),show Ziy uA 1=true by kernel_rfl⟩
 ·rcases h with⟨h1,_,_,h⟩|⟨h1,_,_,h⟩
  ·exact .inl ⟨h1,h⟩
  ·exact .inr ⟨h1,ZfB (by decide) (by decide) h⟩
theorem ZmV{d:Ad}(h:ZgT ev4 (wk d [uA] [] 1000 0 [] []) m n er):∃d,m=wk d [uA] [iA] 1000 0 [] [0]:=by
 refine ZiC (R:=fun m1 m2 _=>Zbl ⟨1,0,1,0,0,false,0⟩ m1 m2) (bad:=fun m1=>¬Zb1 m1 ⟨1,0,1,0,0,false,0⟩) (K:=fun m1=>∃d,m1=wk d [uA] [] 1000 0 [] []) (m0:=wk d [uA] [] 1000 0 [] []) (n:=n) (er:=er) (x:=1000) (fun m1 h1=>Zia h1) ?_ ?_ (by kernel_rfl) (fun d=>by kernel_rfl) (fun d=>by kernel_rfl) (fun d=>by kernel_rfl) ?_
 ·rintro m1 m2 n ⟨d,rfl⟩ ⟨s1,s2,rfl⟩
  exact⟨{d with s3:=s1,s7:=s2},by kernel_rfl⟩
 ·rintro m1 ⟨d,rfl⟩ hc
  exact hc ⟨show(0:Nat)<12 by decide,by kernel_rfl,.inl rfl,by kernel_rfl,show(Zj3 (ZaD.at ⟨1,0,1,0,0,false,0⟩ 0) uA 0).1≤100000000000000 from(by rw[show(Zj3 (ZaD.at ⟨1,0,1,0,0,false,0⟩ 0) uA 0).1=100 by kernel_rfl];decide)⟩
 ·rcases h with⟨h1,_,_,h⟩|⟨h1,_,_,h⟩
  ·exact .inl ⟨h1,h⟩
  ·exact .inr ⟨h1,ZfB (by decide) (by decide) h⟩
theorem ZmR{d:Ad}{s:Zab}(h:Zc0 (wk d [uA] [iA] 1000 0 [] [0]) oA s):∃d,s=wk d [uA] [iA] 1000 1 [oA] [0]:=
 Zh9 h.day h.curs h.unders h.instrs (h.accts.trans (by kernel_rfl)) h.poss (h.orders.trans (by kernel_rfl)) h.avail h.locs
theorem ZmW{d:Ad}(h:ZgT ev5 (wk d [uA] [iA] 1000 0 [] [0]) m n er):m.orders=[oA]:=by
 rcases h with⟨h1,_,_,h⟩|⟨h1,_,_,h⟩
 ·obtain⟨_,_,m2,hp,hf⟩:Zeh (wk d [uA] [iA] 1000 0 [] [0]) oA m n:=h
  obtain⟨d2,rfl⟩:=ZmR hp
  exact hf.orders
 ·have h2:¬ZeA (wk d [uA] [iA] 1000 0 [] [0]) oA:=ZfB (by decide) (by decide) h
  have hx:∀d,∃x,ZaH (wk d [uA] [iA] 1000 1 [oA] [0]) 2=some x∧0≤x:=fun d=>by
   have h1:(ZaH (wk d [uA] [iA] 1000 1 [oA] [0]) 2).isSome=true:=by kernel_rfl
   have h2:decide (0≤(ZaH (wk d [uA] [iA] 1000 1 [oA] [0]) 2).getD 0)=true:=by kernel_rfl
   obtain⟨x,hx⟩:=Option.isSome_iff_exists.1 h1
   rw[hx] at h2
   exact⟨x,hx,of_decide_eq_true h2⟩
  refine absurd ⟨⟨by kernel_rfl,by decide,show(2:Int)<((3:Nat):Int) by decide⟩,⟨⟨by decide,show(0:Int)<((1:Nat):Int) by decide⟩,?_,by decide,show(0:Int)<1 by decide,by decide,by decide,?_,by kernel_rfl⟩,fun m2 hp=>?_,fun m2 hp=>?_⟩ h2
  ·exact .inl rfl
  ·intro _
   show Zhu (wk d [uA] [iA] 1000 0 [] [0]) 2 0 50≤L.heldL [] 2 0
   rw[show Zhu (wk d [uA] [iA] 1000 0 [] [0]) 2 0 50=0 by kernel_rfl]
   decide
  ·obtain⟨d2,rfl⟩:=ZmR hp
   intro v h3 h4
   have h5:v<3:=h4
   have h6:v=2:=by omega
   subst h6
   obtain⟨x,s,z⟩:=hx d2
   exact⟨x,s,.inl ⟨rfl,z⟩⟩
  ·obtain⟨d2,rfl⟩:=ZmR hp
   obtain⟨x,s,z⟩:=hx d2
   exact Zky (by kernel_rfl) s
end
end
end Go.Proofs.YtdefojlkofnloaaGreatDoor
