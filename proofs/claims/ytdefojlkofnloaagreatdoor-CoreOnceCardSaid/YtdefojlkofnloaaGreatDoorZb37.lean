/- A part of the proof of CoreOnce: for every input, no condition. -/
import Derived.Test.YtdefojlkofnloaaGreatDoorZb35
set_option maxRecDepth 100000
set_option maxHeartbeats 8000000
set_option linter.unusedVariables false
set_option linter.unusedSimpArgs false
namespace Go.Proofs.YtdefojlkofnloaaGreatDoor
open Go.RowKit Go.Proofs.Tryz
theorem ZdF{R:Zab→Int→Prop}{bad:Prop}{w:World}{e:Ending}{w':World}(h:Zar R bad w e w'):Zar R True w e w':=by
 obtain⟨hb,m',n,er,he,hc⟩:=h
 refine⟨hb,m',n,er,he,?_⟩
 rcases hc with h|⟨h1,h2,h3,_⟩
 ·exact .inl h
 ·exact .inr ⟨h1,h2,h3,trivial⟩
theorem Zlx(ev:EvP)(m:Zab)(w:World)(hm:Zay w w.heap.size m)(aQ:Gl w):
 Calls prog 22 #[ev.val,m.val] w (Zar (fun m2 n=>ZaI ev m m2 n) (ZaO ev m) w):=by
 obtain⟨xk,xa,xi,xw,xn,xu,xc,xq,xp,xm,xl,xs⟩:=ev
 obtain⟨W1,aB⟩:=ExY (w.alloc (.cells #[I xk,I xa,I xi,I xw,I xn,I xu,I xc,I xq,I xp,I xm,.bool xl,.string xs] 77))
 obtain⟨b2,aD⟩:=ExY w.heap.size
 have aM:=blB aB
 have aN:=bkW aB aD
 obtain⟨W2,au⟩:=ExY (W1.alloc (.cells m.ar 37))
 obtain⟨b3,aE⟩:=ExY W1.heap.size
 have aG:=blA aM au
 have aO:=bkA aN au
 have aH:=bkW au aE
 have aI:b3=b2+1:=by rw[aE,aB,World.size_alloc,←aD]
 obtain⟨W3,aw⟩:=ExY (W2.alloc (.cells zZ 37))
 obtain⟨b4,aC⟩:=ExY W2.heap.size
 have aP:Hid (b4≠b3):=by
  have h:=aH.lt
  show b4≠b3
  rw[aC]
  exact Ne.symm (Nat.ne_of_lt h)
 have ag:=blZ aG aC
 have U:=blA aG aw
 have ae:=bkA aO aw
 have af:=bkA aH aw
 have X:=bkW aw aC
 have aJ:b4=b3+1:=by rw[aC,au,World.size_alloc,←aE]
 have ap:=Hi hm
 have ah:=Hi aQ
 clear hm aQ
 show Calls prog 22 #[.agg #[I xk,I xa,I xi,I xw,I xn,I xu,I xc,I xq,I xp,I xm,.bool xl,.string xs],.agg m.ar] w (Zar ((fun(m2:Zab) (n:Int)=>ZaI ⟨xk,xa,xi,xw,xn,xu,xc,xq,xp,xm,xl,xs⟩ m m2 n)) (ZaO ⟨xk,xa,xi,xw,xn,xu,xc,xq,xp,xm,xl,xs⟩ m) w)
 go_enter func22,ntmps22
 go_upto_region 1 with(fail)
 rw[←aB,←aD,←au,←aI,←aw,←aJ]
 clear aB aD aI au aE aJ aw aC
 have Y:=ae.twelve
 have Z:=af.nine
 have aa:=X.nine
 go_upto_region 2 with(fail)
 clear Y Z aa
 by_cases k5:xk=5
 ·have t5:(xk==5)=true:=by simpa using k5
  have K5:=Hi k5
  clear k5
  have ad:Hid (∀(m2:Zab) (n:Int),Zaj m (fun m1 m2 _=>Zax m1 m2) m2 n→(fun(m2:Zab) (n:Int)=>ZaI ⟨xk,xa,xi,xw,xn,xu,xc,xq,xp,xm,xl,xs⟩ m m2 n) m2 n):=by
   intro m2 n h
   show ZaI _ m _ n
   unfold ZaI
   rw[if_pos K5.out]
   exact h
  have ab:Hid (True→ZaO ⟨xk,xa,xi,xw,xn,xu,xc,xq,xp,xm,xl,xs⟩ m):=by
   intro _
   show ZaO _ m
   unfold ZaO
   rw[if_neg (show ¬xk=7 by have:=K5.out;omega)]
   rw[if_neg (show ¬xk=8 by have:=K5.out;omega)]
   rw[if_neg (show ¬xk=9 by have:=K5.out;omega)]
   rw[if_neg (show ¬xk=10 by have:=K5.out;omega)]
   trivial
  have ac:Hid (∀V,Bw w V→Calls prog 29 #[.agg m.ar,I xu,I xp,I xm] V (Zar (fun m2 n=>Zaj m (fun m1 m2 _=>Zax m1 m2) m2 n) (True) V)):=fun V hV=>(Zke m xu xp xm V ((ap.below hV).mono hV.size) (ah.below hV ah.lt)).mono fun _ _ h=>ZdF h
  have Y:=ae.twelve
  have Z:=af.nine
  have aa:=X.nine
  go_upto_region 3 with(fail)
  go_wp2_with fail
  refine(ac.out _ U).mono ?_
  rintro e W9 ⟨hb,m2,n,er,rfl,hc⟩
  have HC:=Hi hc
  have ai:=blT U hb
  have aj:=Hi U.size
  have R:=bkN X hb
  clear hb hc
  have J:m2.val=.agg m2.ar:=rfl
  rw[J]
  clear J
  dsimp only
  clear Y Z aa
  go_wp2_with (refine wpList_store_row rfl 37 _ _ rfl b4 m2.ar rfl rfl 37 zZ R ZaU (by rfl) (by simp[Value.oneCell']) ?_)
  obtain⟨V9,z⟩:=ExY (W9.setRow b4 m2.ar)
  rw[←z]
  have am:=bkr R z
  have ak:=blr ai z ag
  have al:(er=0∧Zaa V9 w.heap.size m2∧(fun(m2:Zab) (n:Int)=>ZaI ⟨xk,xa,xi,xw,xn,xu,xc,xq,xp,xm,xl,xs⟩ m m2 n) m2 n)∨(er≠0∧m2=Za4∧n=0∧ZaO ⟨xk,xa,xi,xw,xn,xu,xc,xq,xp,xm,xl,xs⟩ m):=by
   rcases HC.out with⟨h1,h2,h3⟩|⟨h1,h2,h3,h4⟩
   ·exact .inl ⟨h1,by rw[z];exact(h2.mono aj).rowFar R (by decide) _,ad.out m2 n h3⟩
   ·exact .inr ⟨h1,h2,h3,ab.out h4⟩
  exact bodyPost_ret (Zam (p:=4) (q:=5) (r:=6) results22 _ V9 b4 37 m2.ar (0,0) _ rfl am underlying37 rfl ZaU) rfl ⟨ak,m2,n,er,rfl,al⟩
 have t5:(xk==5)=false:=by simpa using k5
 have K5:=Hi k5
 clear k5
 by_cases k6:xk=6
 ·have t6:(xk==6)=true:=by simpa using k6
  have K6:=Hi k6
  clear k6
  have ad:Hid (∀(m2:Zab) (n:Int),Zaj m (fun m1 m2 _=>Zax m1 m2) m2 n→(fun(m2:Zab) (n:Int)=>ZaI ⟨xk,xa,xi,xw,xn,xu,xc,xq,xp,xm,xl,xs⟩ m m2 n) m2 n):=by
   intro m2 n h
   show ZaI _ m _ n
   unfold ZaI
   rw[if_neg K5.out,if_pos K6.out]
   exact h
  have ab:Hid (True→ZaO ⟨xk,xa,xi,xw,xn,xu,xc,xq,xp,xm,xl,xs⟩ m):=by
   intro _
   show ZaO _ m
   unfold ZaO
   rw[if_neg (show ¬xk=7 by have:=K6.out;omega)]
   rw[if_neg (show ¬xk=8 by have:=K6.out;omega)]
   rw[if_neg (show ¬xk=9 by have:=K6.out;omega)]
   rw[if_neg (show ¬xk=10 by have:=K6.out;omega)]
   trivial
  have ac:Hid (∀V,Bw w V→Calls prog 30 #[.agg m.ar,I xc,I xp,I xm] V (Zar (fun m2 n=>Zaj m (fun m1 m2 _=>Zax m1 m2) m2 n) (True) V)):=fun V hV=>(Zlt m xc xp xm V ((ap.below hV).mono hV.size) (ah.below hV ah.lt)).mono fun _ _ h=>ZdF h
  have Y:=ae.twelve
  have Z:=af.nine
  have aa:=X.nine
  go_upto_region 5 with(fail)
  go_wp2_with fail
  refine(ac.out _ U).mono ?_
  rintro e W9 ⟨hb,m2,n,er,rfl,hc⟩
  have HC:=Hi hc
  have ai:=blT U hb
  have aj:=Hi U.size
  have R:=bkN X hb
  clear hb hc
  have J:m2.val=.agg m2.ar:=rfl
  rw[J]
  clear J
  dsimp only
  clear Y Z aa
  go_wp2_with (refine wpList_store_row rfl 37 _ _ rfl b4 m2.ar rfl rfl 37 zZ R ZaU (by rfl) (by simp[Value.oneCell']) ?_)
  obtain⟨V9,z⟩:=ExY (W9.setRow b4 m2.ar)
  rw[←z]
  have am:=bkr R z
  have ak:=blr ai z ag
  have al:(er=0∧Zaa V9 w.heap.size m2∧(fun(m2:Zab) (n:Int)=>ZaI ⟨xk,xa,xi,xw,xn,xu,xc,xq,xp,xm,xl,xs⟩ m m2 n) m2 n)∨(er≠0∧m2=Za4∧n=0∧ZaO ⟨xk,xa,xi,xw,xn,xu,xc,xq,xp,xm,xl,xs⟩ m):=by
   rcases HC.out with⟨h1,h2,h3⟩|⟨h1,h2,h3,h4⟩
   ·exact .inl ⟨h1,by rw[z];exact(h2.mono aj).rowFar R (by decide) _,ad.out m2 n h3⟩
   ·exact .inr ⟨h1,h2,h3,ab.out h4⟩
  exact bodyPost_ret (Zam (p:=4) (q:=5) (r:=6) results22 _ V9 b4 37 m2.ar (0,0) _ rfl am underlying37 rfl ZaU) rfl ⟨ak,m2,n,er,rfl,al⟩
 have t6:(xk==6)=false:=by simpa using k6
 have K6:=Hi k6
 clear k6
 by_cases k7:xk=7
 ·have t7:(xk==7)=true:=by simpa using k7
  have K7:=Hi k7
  clear k7
  have ad:Hid (∀(m2:Zab) (n:Int),Zaj m (fun m1 m2 _=>ZbP xa xc xm m1 m2) m2 n→(fun(m2:Zab) (n:Int)=>ZaI ⟨xk,xa,xi,xw,xn,xu,xc,xq,xp,xm,xl,xs⟩ m m2 n) m2 n):=by
   intro m2 n h
   show ZaI _ m _ n
   unfold ZaI
   rw[if_neg K5.out,if_neg K6.out,if_pos K7.out]
   exact h
  have ab:Hid (Zas m (fun m1 m2 _=>ZbP xa xc xm m1 m2) (fun m1=>¬Zdv m1 xa xc xm)→ZaO ⟨xk,xa,xi,xw,xn,xu,xc,xq,xp,xm,xl,xs⟩ m):=by
   intro h
   show ZaO _ m
   unfold ZaO
   rw[if_pos K7.out]
   exact h
  have ac:Hid (∀V,Bw w V→Calls prog 31 #[.agg m.ar,I xa,I xc,I xm] V (Zar (fun m2 n=>Zaj m (fun m1 m2 _=>ZbP xa xc xm m1 m2) m2 n) (Zas m (fun m1 m2 _=>ZbP xa xc xm m1 m2) (fun m1=>¬Zdv m1 xa xc xm)) V)):=fun V hV=>ZkN m xa xc xm V ((ap.below hV).mono hV.size) (ah.below hV ah.lt)
  have Y:=ae.twelve
  have Z:=af.nine
  have aa:=X.nine
  go_upto_region 7 with(fail)
  go_wp2_with fail
  refine(ac.out _ U).mono ?_
  rintro e W9 ⟨hb,m2,n,er,rfl,hc⟩
  have HC:=Hi hc
  have ai:=blT U hb
  have aj:=Hi U.size
  have R:=bkN X hb
  clear hb hc
  have J:m2.val=.agg m2.ar:=rfl
  rw[J]
  clear J
  dsimp only
  clear Y Z aa
  go_wp2_with (refine wpList_store_row rfl 37 _ _ rfl b4 m2.ar rfl rfl 37 zZ R ZaU (by rfl) (by simp[Value.oneCell']) ?_)
  obtain⟨V9,z⟩:=ExY (W9.setRow b4 m2.ar)
  rw[←z]
  have am:=bkr R z
  have ak:=blr ai z ag
  have al:(er=0∧Zaa V9 w.heap.size m2∧(fun(m2:Zab) (n:Int)=>ZaI ⟨xk,xa,xi,xw,xn,xu,xc,xq,xp,xm,xl,xs⟩ m m2 n) m2 n)∨(er≠0∧m2=Za4∧n=0∧ZaO ⟨xk,xa,xi,xw,xn,xu,xc,xq,xp,xm,xl,xs⟩ m):=by
   rcases HC.out with⟨h1,h2,h3⟩|⟨h1,h2,h3,h4⟩
   ·exact .inl ⟨h1,by rw[z];exact(h2.mono aj).rowFar R (by decide) _,ad.out m2 n h3⟩
   ·exact .inr ⟨h1,h2,h3,ab.out h4⟩
  exact bodyPost_ret (Zam (p:=4) (q:=5) (r:=6) results22 _ V9 b4 37 m2.ar (0,0) _ rfl am underlying37 rfl ZaU) rfl ⟨ak,m2,n,er,rfl,al⟩
 have t7:(xk==7)=false:=by simpa using k7
 have K7:=Hi k7
 clear k7
 by_cases k8:xk=8
 ·have t8:(xk==8)=true:=by simpa using k8
  have K8:=Hi k8
  clear k8
  have ad:Hid (∀(m2:Zab) (n:Int),Zaj m (fun m1 m2 _=>ZaX xa m1 m2) m2 n→(fun(m2:Zab) (n:Int)=>ZaI ⟨xk,xa,xi,xw,xn,xu,xc,xq,xp,xm,xl,xs⟩ m m2 n) m2 n):=by
   intro m2 n h
   show ZaI _ m _ n
   unfold ZaI
   rw[if_neg K5.out,if_neg K6.out,if_neg K7.out,if_pos K8.out]
   exact h
  have ab:Hid (Zas m (fun m1 m2 _=>ZaX xa m1 m2) (fun m1=>¬ZbC m1 xa)→ZaO ⟨xk,xa,xi,xw,xn,xu,xc,xq,xp,xm,xl,xs⟩ m):=by
   intro h
   show ZaO _ m
   unfold ZaO
   rw[if_neg K7.out]
   rw[if_pos K8.out]
   exact h
  have ac:Hid (∀V,Bw w V→Calls prog 32 #[.agg m.ar,I xa] V (Zar (fun m2 n=>Zaj m (fun m1 m2 _=>ZaX xa m1 m2) m2 n) (Zas m (fun m1 m2 _=>ZaX xa m1 m2) (fun m1=>¬ZbC m1 xa)) V)):=fun V hV=>ZhE m xa V ((ap.below hV).mono hV.size) (ah.below hV ah.lt)
  have Y:=ae.twelve
  have Z:=af.nine
  have aa:=X.nine
  go_upto_region 9 with(fail)
  go_wp2_with fail
  refine(ac.out _ U).mono ?_
  rintro e W9 ⟨hb,m2,n,er,rfl,hc⟩
  have HC:=Hi hc
  have ai:=blT U hb
  have aj:=Hi U.size
  have R:=bkN X hb
  clear hb hc
  have J:m2.val=.agg m2.ar:=rfl
  rw[J]
  clear J
  dsimp only
  clear Y Z aa
  go_wp2_with (refine wpList_store_row rfl 37 _ _ rfl b4 m2.ar rfl rfl 37 zZ R ZaU (by rfl) (by simp[Value.oneCell']) ?_)
  obtain⟨V9,z⟩:=ExY (W9.setRow b4 m2.ar)
  rw[←z]
  have am:=bkr R z
  have ak:=blr ai z ag
  have al:(er=0∧Zaa V9 w.heap.size m2∧(fun(m2:Zab) (n:Int)=>ZaI ⟨xk,xa,xi,xw,xn,xu,xc,xq,xp,xm,xl,xs⟩ m m2 n) m2 n)∨(er≠0∧m2=Za4∧n=0∧ZaO ⟨xk,xa,xi,xw,xn,xu,xc,xq,xp,xm,xl,xs⟩ m):=by
   rcases HC.out with⟨h1,h2,h3⟩|⟨h1,h2,h3,h4⟩
   ·exact .inl ⟨h1,by rw[z];exact(h2.mono aj).rowFar R (by decide) _,ad.out m2 n h3⟩
   ·exact .inr ⟨h1,h2,h3,ab.out h4⟩
  exact bodyPost_ret (Zam (p:=4) (q:=5) (r:=6) results22 _ V9 b4 37 m2.ar (0,0) _ rfl am underlying37 rfl ZaU) rfl ⟨ak,m2,n,er,rfl,al⟩
 have t8:(xk==8)=false:=by simpa using k8
 have K8:=Hi k8
 clear k8
 by_cases k9:xk=9
 ·have t9:(xk==9)=true:=by simpa using k9
  have K9:=Hi k9
  clear k9
  have ad:Hid (∀(m2:Zab) (n:Int),Zaj m (fun m1 m2 _=>Zbm ⟨xs,xc,xp,xm⟩ m1 m2) m2 n→(fun(m2:Zab) (n:Int)=>ZaI ⟨xk,xa,xi,xw,xn,xu,xc,xq,xp,xm,xl,xs⟩ m m2 n) m2 n):=by
   intro m2 n h
   show ZaI _ m _ n
   unfold ZaI
   rw[if_neg K5.out,if_neg K6.out,if_neg K7.out,if_neg K8.out,if_pos K9.out]
   exact h
  have ab:Hid (Zas m (fun m1 m2 _=>Zbm ⟨xs,xc,xp,xm⟩ m1 m2) (fun m1=>¬Zb9 m1 ⟨xs,xc,xp,xm⟩)→ZaO ⟨xk,xa,xi,xw,xn,xu,xc,xq,xp,xm,xl,xs⟩ m):=by
   intro h
   show ZaO _ m
   unfold ZaO
   rw[if_neg K7.out]
   rw[if_neg K8.out]
   rw[if_pos K9.out]
   exact h
  have ac:Hid (∀V,Bw w V→Calls prog 33 #[.agg m.ar,.agg #[.string xs,I xc,I xp,I xm]] V (Zar (fun m2 n=>Zaj m (fun m1 m2 _=>Zbm ⟨xs,xc,xp,xm⟩ m1 m2) m2 n) (Zas m (fun m1 m2 _=>Zbm ⟨xs,xc,xp,xm⟩ m1 m2) (fun m1=>¬Zb9 m1 ⟨xs,xc,xp,xm⟩)) V)):=fun V hV=>Zku m xs xc xp xm V ((ap.below hV).mono hV.size) (ah.below hV ah.lt)
  have aK:Hid (∀V,Calls prog 34 #[.agg #[I xk,I xa,I xi,I xw,I xn,I xu,I xc,I xq,I xp,I xm,.bool xl,.string xs]] V fun e w'=>e=.returned (.agg #[.string xs,I xc,I xp,I xm])∧Bw V w'):=fun V=>Zi2 ⟨xk,xa,xi,xw,xn,xu,xc,xq,xp,xm,xl,xs⟩ V
  have Y:=ae.twelve
  have Z:=af.nine
  have aa:=X.nine
  go_upto_region 11 with(fail)
  clear Y Z aa
  obtain⟨W4,an⟩:=ExY W3.drew
  have ay:=blD U an
  have C:=bkD ae an
  have L:=bkD af an
  have az:=bkD X an
  refine rgL 7 (by kernel_rfl) an (CsA L 0 rfl (CsA L 1 rfl (CsA L 2 rfl (CsA L 3 rfl (CsA L 4 rfl (CsA L 5 rfl (CsA L 6 rfl (CsA L 7 rfl (CsA L 8 rfl (CsA C 0 rfl (CsA C 1 rfl (CsA C 2 rfl (CsA C 3 rfl (CsA C 4 rfl (CsA C 5 rfl (CsA C 6 rfl (CsA C 7 rfl (CsA C 8 rfl (CsA C 9 rfl (CsA C 10 rfl (CsB C 11 rfl))))))))))))))))))))) fun hS=>?_
  clear an
  refine tkM [0,1] hS (by kernel_rfl) (fun _ _ _ _ h=>h) ?_
  iterate 2 (refine ycM rfl (by rfl) (fun w h=>by simp only[Cs] at h;go_simp<;>rfl) ?_;try simp only[Act.put,sA,sB,sC])
  refine onM 2 (by kernel_rfl) rfl fun K hK=>?_
  go_simp
  refine(aK.out _).mono ?_
  rintro e W5 ⟨rfl,hb⟩
  have ao:=blT ay hb
  have E:=bkN C hb
  have N:=bkN L hb
  have aA:=bkN az hb
  clear hb
  dsimp only
  refine hK.out _ _ (fun _=>⟨N.cell 0,N.cell 1,N.cell 2,N.cell 3,N.cell 4,N.cell 5,N.cell 6,N.cell 7,N.cell 8,E.cell 0,E.cell 1,E.cell 2,E.cell 3,E.cell 4,E.cell 5,E.cell 6,E.cell 7,E.cell 8,E.cell 9,E.cell 10,E.cell 11⟩) ?_
  try simp only[Act.put,sA,sB,sC]
  refine onM 3 (by kernel_rfl) rfl fun K hK=>?_
  go_simp
  refine(ac.out _ ao).mono ?_
  rintro e W9 ⟨hb,m2,n,er,rfl,hc⟩
  have HC:=Hi hc
  have ai:=blT ao hb
  have aj:=Hi ao.size
  have R:=bkN aA hb
  have G:=bkN N hb
  have s:=bkN E hb
  clear hb hc
  have J:m2.val=.agg m2.ar:=rfl
  rw[J]
  clear J
  dsimp only
  refine hK.out _ _ (fun _=>⟨G.cell 0,G.cell 1,G.cell 2,G.cell 3,G.cell 4,G.cell 5,G.cell 6,G.cell 7,G.cell 8,s.cell 0,s.cell 1,s.cell 2,s.cell 3,s.cell 4,s.cell 5,s.cell 6,s.cell 7,s.cell 8,s.cell 9,s.cell 10,s.cell 11⟩) ?_
  try simp only[Act.put,sA,sB,sC]
  refine tkM [4,5,6] (⟨G.cell 0,G.cell 1,G.cell 2,G.cell 3,G.cell 4,G.cell 5,G.cell 6,G.cell 7,G.cell 8,s.cell 0,s.cell 1,s.cell 2,s.cell 3,s.cell 4,s.cell 5,s.cell 6,s.cell 7,s.cell 8,s.cell 9,s.cell 10,s.cell 11⟩) (by kernel_rfl) (fun _ _ _ _ h=>h) ?_
  iterate 3 (refine ycM rfl (by rfl) (fun w h=>by simp only[Cs] at h;go_simp<;>rfl) ?_;try simp only[Act.put,sA,sB,sC])
  refine onM 7 (by kernel_rfl) rfl fun K hK=>?_
  refine Zaq rfl 37 _ _ rfl b4 m2.ar rfl rfl 37 zZ R ZaU (by rfl) (by simp[Value.oneCell']) ?_
  obtain⟨V9,z⟩:=ExY (W9.setRow b4 m2.ar)
  rw[←z]
  have aL:=Hi z
  clear z
  refine hK.out _ _ (fun h0=>Zac (by kernel_rfl) h0) ?_
  try simp only[Act.put]
  refine onM 8 (by kernel_rfl) rfl fun K hK=>?_
  go_simp
  refine hK.out _ _ (fun h0=>Zac (by kernel_rfl) h0) ?_
  refine onM 9 (by kernel_rfl) rfl fun K hK=>?_
  go_simp
  refine hK.out _ _ (fun h0=>Zac (by kernel_rfl) h0) ?_
  refine Zak (by kernel_rfl) ?_ _
  go_wp2
  have z:=aL.out
  have am:=bkr R z
  have ak:=blr ai z ag
  have al:(er=0∧Zaa V9 w.heap.size m2∧(fun(m2:Zab) (n:Int)=>ZaI ⟨xk,xa,xi,xw,xn,xu,xc,xq,xp,xm,xl,xs⟩ m m2 n) m2 n)∨(er≠0∧m2=Za4∧n=0∧ZaO ⟨xk,xa,xi,xw,xn,xu,xc,xq,xp,xm,xl,xs⟩ m):=by
   rcases HC.out with⟨h1,h2,h3⟩|⟨h1,h2,h3,h4⟩
   ·exact .inl ⟨h1,by rw[z];exact(h2.mono aj).rowFar R (by decide) _,ad.out m2 n h3⟩
   ·exact .inr ⟨h1,h2,h3,ab.out h4⟩
  exact bodyPost_ret (Zam (p:=4) (q:=5) (r:=6) results22 _ V9 b4 37 m2.ar (0,0) _ rfl am underlying37 rfl ZaU) rfl ⟨ak,m2,n,er,rfl,al⟩
 have t9:(xk==9)=false:=by simpa using k9
 have K9:=Hi k9
 clear k9
 by_cases ax:xk=10
 ·have aR:(xk==10)=true:=by simpa using ax
  have aq:=Hi ax
  clear ax
  have ad:Hid (∀(m2:Zab) (n:Int),Zaj m (fun m1 m2 _=>Zbl ⟨xw,xu,xq,xp,xm,xl,0⟩ m1 m2) m2 n→(fun(m2:Zab) (n:Int)=>ZaI ⟨xk,xa,xi,xw,xn,xu,xc,xq,xp,xm,xl,xs⟩ m m2 n) m2 n):=by
   intro m2 n h
   show ZaI _ m _ n
   unfold ZaI
   rw[if_neg K5.out,if_neg K6.out,if_neg K7.out,if_neg K8.out,if_neg K9.out,if_pos aq.out]
   exact h
  have ab:Hid (Zas m (fun m1 m2 _=>Zbl ⟨xw,xu,xq,xp,xm,xl,0⟩ m1 m2) (fun m1=>¬Zb1 m1 ⟨xw,xu,xq,xp,xm,xl,0⟩)→ZaO ⟨xk,xa,xi,xw,xn,xu,xc,xq,xp,xm,xl,xs⟩ m):=by
   intro h
   show ZaO _ m
   unfold ZaO
   rw[if_neg K7.out]
   rw[if_neg K8.out]
   rw[if_neg K9.out]
   rw[if_pos aq.out]
   exact h
  have ac:Hid (∀V,Bw w V→Calls prog 35 #[.agg m.ar,.agg #[I xw,I xu,I xq,I xp,I xm,.bool xl,I 0]] V (Zar (fun m2 n=>Zaj m (fun m1 m2 _=>Zbl ⟨xw,xu,xq,xp,xm,xl,0⟩ m1 m2) m2 n) (Zas m (fun m1 m2 _=>Zbl ⟨xw,xu,xq,xp,xm,xl,0⟩ m1 m2) (fun m1=>¬Zb1 m1 ⟨xw,xu,xq,xp,xm,xl,0⟩)) V)):=fun V hV=>ZfQ m xw xu xq xp xm xl 0 V ((ap.below hV).mono hV.size) (ah.below hV ah.lt)
  have aK:Hid (∀V,Calls prog 36 #[.agg #[I xk,I xa,I xi,I xw,I xn,I xu,I xc,I xq,I xp,I xm,.bool xl,.string xs]] V fun e w'=>e=.returned (.agg #[I xw,I xu,I xq,I xp,I xm,.bool xl,I 0])∧Bw V w'):=fun V=>Zjl ⟨xk,xa,xi,xw,xn,xu,xc,xq,xp,xm,xl,xs⟩ V
  have Y:=ae.twelve
  have Z:=af.nine
  have aa:=X.nine
  go_upto_region 13 with(fail)
  clear Y Z aa
  obtain⟨W4,an⟩:=ExY W3.drew
  have ay:=blD U an
  have C:=bkD ae an
  have L:=bkD af an
  have az:=bkD X an
  refine rgL 7 (by kernel_rfl) an (CsA L 0 rfl (CsA L 1 rfl (CsA L 2 rfl (CsA L 3 rfl (CsA L 4 rfl (CsA L 5 rfl (CsA L 6 rfl (CsA L 7 rfl (CsA L 8 rfl (CsA C 0 rfl (CsA C 1 rfl (CsA C 2 rfl (CsA C 3 rfl (CsA C 4 rfl (CsA C 5 rfl (CsA C 6 rfl (CsA C 7 rfl (CsA C 8 rfl (CsA C 9 rfl (CsA C 10 rfl (CsB C 11 rfl))))))))))))))))))))) fun hS=>?_
  clear an
  refine tkM [0,1] hS (by kernel_rfl) (fun _ _ _ _ h=>h) ?_
  iterate 2 (refine ycM rfl (by rfl) (fun w h=>by simp only[Cs] at h;go_simp<;>rfl) ?_;try simp only[Act.put,sA,sB,sC])
  refine onM 2 (by kernel_rfl) rfl fun K hK=>?_
  go_simp
  refine(aK.out _).mono ?_
  rintro e W5 ⟨rfl,hb⟩
  have ao:=blT ay hb
  have E:=bkN C hb
  have N:=bkN L hb
  have aA:=bkN az hb
  clear hb
  dsimp only
  refine hK.out _ _ (fun _=>⟨N.cell 0,N.cell 1,N.cell 2,N.cell 3,N.cell 4,N.cell 5,N.cell 6,N.cell 7,N.cell 8,E.cell 0,E.cell 1,E.cell 2,E.cell 3,E.cell 4,E.cell 5,E.cell 6,E.cell 7,E.cell 8,E.cell 9,E.cell 10,E.cell 11⟩) ?_
  try simp only[Act.put,sA,sB,sC]
  refine onM 3 (by kernel_rfl) rfl fun K hK=>?_
  go_simp
  refine(ac.out _ ao).mono ?_
  rintro e W9 ⟨hb,m2,n,er,rfl,hc⟩
  have HC:=Hi hc
  have ai:=blT ao hb
  have aj:=Hi ao.size
  have R:=bkN aA hb
  have G:=bkN N hb
  have s:=bkN E hb
  clear hb hc
  have J:m2.val=.agg m2.ar:=rfl
  rw[J]
  clear J
  dsimp only
  refine hK.out _ _ (fun _=>⟨G.cell 0,G.cell 1,G.cell 2,G.cell 3,G.cell 4,G.cell 5,G.cell 6,G.cell 7,G.cell 8,s.cell 0,s.cell 1,s.cell 2,s.cell 3,s.cell 4,s.cell 5,s.cell 6,s.cell 7,s.cell 8,s.cell 9,s.cell 10,s.cell 11⟩) ?_
  try simp only[Act.put,sA,sB,sC]
  refine tkM [4,5,6] (⟨G.cell 0,G.cell 1,G.cell 2,G.cell 3,G.cell 4,G.cell 5,G.cell 6,G.cell 7,G.cell 8,s.cell 0,s.cell 1,s.cell 2,s.cell 3,s.cell 4,s.cell 5,s.cell 6,s.cell 7,s.cell 8,s.cell 9,s.cell 10,s.cell 11⟩) (by kernel_rfl) (fun _ _ _ _ h=>h) ?_
  iterate 3 (refine ycM rfl (by rfl) (fun w h=>by simp only[Cs] at h;go_simp<;>rfl) ?_;try simp only[Act.put,sA,sB,sC])
  refine onM 7 (by kernel_rfl) rfl fun K hK=>?_
  refine Zaq rfl 37 _ _ rfl b4 m2.ar rfl rfl 37 zZ R ZaU (by rfl) (by simp[Value.oneCell']) ?_
  obtain⟨V9,z⟩:=ExY (W9.setRow b4 m2.ar)
  rw[←z]
  have aL:=Hi z
  clear z
  refine hK.out _ _ (fun h0=>Zac (by kernel_rfl) h0) ?_
  try simp only[Act.put]
  refine onM 8 (by kernel_rfl) rfl fun K hK=>?_
  go_simp
  refine hK.out _ _ (fun h0=>Zac (by kernel_rfl) h0) ?_
  refine onM 9 (by kernel_rfl) rfl fun K hK=>?_
  go_simp
  refine hK.out _ _ (fun h0=>Zac (by kernel_rfl) h0) ?_
  refine Zak (by kernel_rfl) ?_ _
  go_wp2
  have z:=aL.out
  have am:=bkr R z
  have ak:=blr ai z ag
  have al:(er=0∧Zaa V9 w.heap.size m2∧(fun(m2:Zab) (n:Int)=>ZaI ⟨xk,xa,xi,xw,xn,xu,xc,xq,xp,xm,xl,xs⟩ m m2 n) m2 n)∨(er≠0∧m2=Za4∧n=0∧ZaO ⟨xk,xa,xi,xw,xn,xu,xc,xq,xp,xm,xl,xs⟩ m):=by
   rcases HC.out with⟨h1,h2,h3⟩|⟨h1,h2,h3,h4⟩
   ·exact .inl ⟨h1,by rw[z];exact(h2.mono aj).rowFar R (by decide) _,ad.out m2 n h3⟩
   ·exact .inr ⟨h1,h2,h3,ab.out h4⟩
  exact bodyPost_ret (Zam (p:=4) (q:=5) (r:=6) results22 _ V9 b4 37 m2.ar (0,0) _ rfl am underlying37 rfl ZaU) rfl ⟨ak,m2,n,er,rfl,al⟩
 have aR:(xk==10)=false:=by simpa using ax
 have aq:=Hi ax
 clear ax
 by_cases aF:xk=11
 ·have aS:(xk==11)=true:=by simpa using aF
  clear aF
  have ad:Hid (∀(m2:Zab) (n:Int),Zaj m (fun m1 m2 _=>Zax m1 m2) m2 n→(fun(m2:Zab) (n:Int)=>ZaI ⟨xk,xa,xi,xw,xn,xu,xc,xq,xp,xm,xl,xs⟩ m m2 n) m2 n):=by
   intro m2 n h
   show ZaI _ m _ n
   unfold ZaI
   rw[if_neg K5.out,if_neg K6.out,if_neg K7.out,if_neg K8.out,if_neg K9.out,if_neg aq.out]
   exact h
  have ab:Hid (True→ZaO ⟨xk,xa,xi,xw,xn,xu,xc,xq,xp,xm,xl,xs⟩ m):=by
   intro _
   show ZaO _ m
   unfold ZaO
   rw[if_neg K7.out]
   rw[if_neg K8.out]
   rw[if_neg K9.out]
   rw[if_neg aq.out]
   trivial
  have ac:Hid (∀V,Bw w V→Calls prog 37 #[.agg m.ar,I xn,I xq] V (Zar (fun m2 n=>Zaj m (fun m1 m2 _=>Zax m1 m2) m2 n) (True) V)):=fun V hV=>(supply_any m xn xq V ((ap.below hV).mono hV.size) (ah.below hV ah.lt)).mono fun _ _ h=>ZdF h
  have Y:=ae.twelve
  have Z:=af.nine
  have aa:=X.nine
  go_upto_region 15 with(fail)
  go_wp2_with fail
  refine(ac.out _ U).mono ?_
  rintro e W9 ⟨hb,m2,n,er,rfl,hc⟩
  have HC:=Hi hc
  have ai:=blT U hb
  have aj:=Hi U.size
  have R:=bkN X hb
  clear hb hc
  have J:m2.val=.agg m2.ar:=rfl
  rw[J]
  clear J
  dsimp only
  clear Y Z aa
  go_wp2_with (refine wpList_store_row rfl 37 _ _ rfl b4 m2.ar rfl rfl 37 zZ R ZaU (by rfl) (by simp[Value.oneCell']) ?_)
  obtain⟨V9,z⟩:=ExY (W9.setRow b4 m2.ar)
  rw[←z]
  have am:=bkr R z
  have ak:=blr ai z ag
  have al:(er=0∧Zaa V9 w.heap.size m2∧(fun(m2:Zab) (n:Int)=>ZaI ⟨xk,xa,xi,xw,xn,xu,xc,xq,xp,xm,xl,xs⟩ m m2 n) m2 n)∨(er≠0∧m2=Za4∧n=0∧ZaO ⟨xk,xa,xi,xw,xn,xu,xc,xq,xp,xm,xl,xs⟩ m):=by
   rcases HC.out with⟨h1,h2,h3⟩|⟨h1,h2,h3,h4⟩
   ·exact .inl ⟨h1,by rw[z];exact(h2.mono aj).rowFar R (by decide) _,ad.out m2 n h3⟩
   ·exact .inr ⟨h1,h2,h3,ab.out h4⟩
  exact bodyPost_ret (Zam (p:=4) (q:=5) (r:=6) results22 _ V9 b4 37 m2.ar (0,0) _ rfl am underlying37 rfl ZaU) rfl ⟨ak,m2,n,er,rfl,al⟩
 have aS:(xk==11)=false:=by simpa using aF
 clear aF
 have ad:Hid (∀(m2:Zab) (n:Int),Zaj m (fun m1 m2 _=>Zax m1 m2) m2 n→(fun(m2:Zab) (n:Int)=>ZaI ⟨xk,xa,xi,xw,xn,xu,xc,xq,xp,xm,xl,xs⟩ m m2 n) m2 n):=by
  intro m2 n h
  show ZaI _ m _ n
  unfold ZaI
  rw[if_neg K5.out,if_neg K6.out,if_neg K7.out,if_neg K8.out,if_neg K9.out,if_neg aq.out]
  exact h
 have ab:Hid (True→ZaO ⟨xk,xa,xi,xw,xn,xu,xc,xq,xp,xm,xl,xs⟩ m):=by
  intro _
  show ZaO _ m
  unfold ZaO
  rw[if_neg K7.out]
  rw[if_neg K8.out]
  rw[if_neg K9.out]
  rw[if_neg aq.out]
  trivial
 have ac:Hid (∀V,Bw w V→Calls prog 38 #[.agg m.ar,I xa,I xn,I xq] V (Zar (fun m2 n=>Zaj m (fun m1 m2 _=>Zax m1 m2) m2 n) (True) V)):=fun V hV=>(reserve_any m xa xn xq V ((ap.below hV).mono hV.size) (ah.below hV ah.lt)).mono fun _ _ h=>ZdF h
 have Y:=ae.twelve
 have Z:=af.nine
 have aa:=X.nine
 go_upto_region 16 with(fail)
 go_wp2_with fail
 refine(ac.out _ U).mono ?_
 rintro e W9 ⟨hb,m2,n,er,rfl,hc⟩
 have HC:=Hi hc
 have ai:=blT U hb
 have aj:=Hi U.size
 have R:=bkN X hb
 clear hb hc
 have J:m2.val=.agg m2.ar:=rfl
 rw[J]
 clear J
 dsimp only
 clear Y Z aa
 go_wp2_with (refine wpList_store_row rfl 37 _ _ rfl b4 m2.ar rfl rfl 37 zZ R ZaU (by rfl) (by simp[Value.oneCell']) ?_)
 obtain⟨V9,z⟩:=ExY (W9.setRow b4 m2.ar)
 rw[←z]
 have am:=bkr R z
 have ak:=blr ai z ag
 have al:(er=0∧Zaa V9 w.heap.size m2∧(fun(m2:Zab) (n:Int)=>ZaI ⟨xk,xa,xi,xw,xn,xu,xc,xq,xp,xm,xl,xs⟩ m m2 n) m2 n)∨(er≠0∧m2=Za4∧n=0∧ZaO ⟨xk,xa,xi,xw,xn,xu,xc,xq,xp,xm,xl,xs⟩ m):=by
  rcases HC.out with⟨h1,h2,h3⟩|⟨h1,h2,h3,h4⟩
  ·exact .inl ⟨h1,by rw[z];exact(h2.mono aj).rowFar R (by decide) _,ad.out m2 n h3⟩
  ·exact .inr ⟨h1,h2,h3,ab.out h4⟩
 exact bodyPost_ret (Zam (p:=4) (q:=5) (r:=6) results22 _ V9 b4 37 m2.ar (0,0) _ rfl am underlying37 rfl ZaU) rfl ⟨ak,m2,n,er,rfl,al⟩
end Go.Proofs.YtdefojlkofnloaaGreatDoor
