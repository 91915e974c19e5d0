/- A part of the proof of CoreOnce: for every input, no condition. -/
import Derived.Test.YtdefojlkofnloaaGreatDoorZb31
set_option maxRecDepth 100000
set_option maxHeartbeats 8000000
set_option linter.unusedVariables false
set_option linter.unusedSimpArgs false
namespace Go.Proofs.YtdefojlkofnloaaGreatDoor
open Go.RowKit Go.Proofs.Tryz
theorem Zcr{P:Program}(w:World){ops:Array Oper}{o:Oper}{a:Act}{K:Act→World→Prop}{Q:Exit→Act→World→Prop}{E:Prop}(hg:o.guard=none)(l c:Operand)(t:TypeId)(G:o.op=Op.makeSlice t l c)(base:Nat)(e:TypeId)(i:TypeInfo)(z:Value)(size:Nat)(R:P.underlying t=some (.slice e))(U:P.info? e=some i)(X:i.zero=some z)(Y:i.size=size)(N J:IntKind)(L C:Int)(n:Nat)(hl:a.eval l=.int N L)(hc:a.eval c=.int J C)(hL:L=(n:Int))(Z:C=(n:Int))(b2:i.bytes*n≤281474976710656)(b3:n≤maxLen)(b4:base≤w.heap.size)(hK:∀w',w'.ownsRow base e size (.slice (some ⟨w.heap.size,0,none⟩) n n) n (madeCells z.cells (n*size)).toList→w.grownBy w' none→K (a.put o.dst (.slice (some ⟨w.heap.size,0,none⟩) n n)) w'):
 if Region.wanted o (yielded ops a.tmps)=true then Oper.wp P o a w K Q else E:=by
 have hw:Region.wanted o (yielded ops a.tmps)=true:=by simp[Region.wanted,hg]
 rw[if_pos hw]
 obtain⟨w',s,r1,r2⟩:=run_make_full (P:=P) w base t e i z size R U X Y N J n b2 b3 b4
 subst hL
 subst Z
 unfold Oper.wp
 simp[execOp,G,hl,hc,s,Result.andThen]
 exact hK w' r1 r2
theorem Zeq(n:Nat):(madeCells (Value.int .i64 0).cells (n*1)).toList=Zag (List.replicate n 0):=by
 apply List.ext_getElem?
 intro j
 simp[madeCells,Zag,Value.cells]
 by_cases hj:j<n
 ·simp[hj,Nat.mod_one]
 ·simp[hj]
def ZaX(parent:Int)(m m2:Zab):Prop:=∃A c s,m2={m with accts:=m.accts++[⟨parent,A,c,List.replicate m.curs.length 0,false,0⟩],sAcc:=s}
def ZbC(m:Zab)(parent:Int):Prop:=(Zct (Zah m.accts++[parent])).2=0
theorem ZgV(m:Zab)(s:Int)(B pl bp:Nat)(w:World)(hB:B≤w.heap.size)(a5:Bk w pl 37 m.ar)(ho:Zaa w B m)(hg:Za2 m=true)(aY:Bk w bp 3 #[I s])(lp:bp<B):
 Calls prog 69 #[Pt pl,Pt bp] w (Zbx 164 37 B pl (fun m' _=>ZaX s m m') (¬ZbC m s) w):=by
 have N:=Hi hB
 have aM:=Hi hg
 have aX:=Hi a5
 have aN:=Hi ho
 have aV:=Hi aY
 have aC:=Hi lp
 clear hB a5 ho hg aY lp
 have aG:Hid (ZaC B pl w w):=ZaC.refl _ _ _
 obtain⟨i0,L,C⟩:=Option.map_eq_some_iff.1 ZlI
 simp only[Prod.mk.injEq] at C
 have HI:=Hi L
 have bh:=Hi C.1
 have bi:=Hi C.2.1
 have bj:=Hi C.2.2
 clear L C
 obtain⟨i3,L,C⟩:=Option.map_eq_some_iff.1 Zgq
 simp only[Prod.mk.injEq] at C
 have HJ:=Hi L
 have be:=Hi C.1
 have bf:=Hi C.2.1
 have bg:=Hi C.2.2
 clear L C
 go_enter func69,ntmps69
 go_upto_region 1 with(fail)
 have R:Hid (m.curs.length≤4∧m.accts.length≤16):=⟨(Zbr aM).lens.1,(Zbr aM).lens.2.2.2.1⟩
 obtain⟨W1,aa⟩:=ExY w.drew
 have aj:=bhD aG aa
 have ae:=bkD aX aa
 have ap:=bkD aV aa
 have ac:=boD aN aa
 refine rgL 17 (by kernel_rfl) aa (CsA ae 4 rfl (CsA ap 0 rfl (CsB ae 1 rfl))) fun hS=>?_
 clear aa
 refine tkM [0,1,2,3,4,5,6,7,8,9,10] hS (by kernel_rfl) (fun _ _ _ _ h=>h) ?_
 iterate 11 (refine ycM rfl (by rfl) (fun w h=>by simp only[Cs] at h;go_simp<;>rfl) ?_;try simp only[Act.put,sA,sB,sC])
 refine onM 11 (by kernel_rfl) rfl fun K hK=>?_
 refine Zcr W1 rfl _ _ 34 rfl W1.heap.size 3 i3 _ 1 underlying34 HJ be bf .i64 .i64 _ _ m.curs.length rfl rfl rfl rfl (by rw[bg.out];have:=R.1;omega) (by unfold maxLen;have:=R.1;omega) (Nat.le_refl _) ?_
 intro W2 ho hg
 rw[Zeq] at ho
 obtain⟨g1,aE⟩:=ExY W1.heap.size
 have hb:Bw W1 W2:=Below.grownB hg (Nat.le_refl _) (fun _ h=>by cases h)
 obtain⟨S0,ag⟩:=ExY W1.heap.size
 have bd:Hid (B≤S0):=by rw[ag];exact Nat.le_trans N aj.size
 have am:Hid ((∀a∈m.accts,∀p,a.A=some p→p.block<S0)∧(∀q,m.sAva.A=some q→q.block<S0)):=by
  rw[ag]
  exact⟨fun a ha p hp=>(ZaP (ac.cash a ha).1 p hp).2,fun q hq=>(ZaP ac.avail q hq).2⟩
 have a7:Hid (W2.ownsRow S0 3 1 (.slice (some (Aq g1 0)) m.curs.length m.curs.length) m.curs.length (Zag (List.replicate m.curs.length 0))):=by rw[ag,aE];exact ho
 rw[←aE]
 clear ho hg aE
 have aH:=bhU aj N hb
 have G:=bkN ae hb
 have ad:=bkN ap hb
 have aO:=boN ac hb
 clear hb
 clear ag
 have aT:Hid (W2.ownsRow S0 3 1 (.slice (some (Aq g1 0)) m.curs.length m.curs.length) m.curs.length (Zag (List.replicate m.curs.length 0))):=a7.out
 refine hK.out _ _ (fun _=>⟨G.cell 4,ad.cell 0,G.cell 1⟩) ?_
 try simp only[Act.put,sA,sB,sC]
 refine tkM [12] (⟨G.cell 4,ad.cell 0,G.cell 1⟩) (by kernel_rfl) (fun _ _ _ _ h=>h) ?_
 (refine ycM rfl (by rfl) (fun w h=>by simp only[Cs] at h;go_simp<;>rfl) ?_;try simp only[Act.put,sA,sB,sC])
 refine onM 13 (by kernel_rfl) rfl fun K hK=>?_
 go_simp
 obtain⟨W3,J⟩:=ExY (W2.alloc (.cells #[I s,.slice (some ⟨g1,0,none⟩) m.curs.length m.curs.length,.bool false,I 0] 59))
 obtain⟨bn,aD⟩:=ExY W2.heap.size
 have ak:=bhA aH N J
 have X:=bkA G J
 have aq:=bkA ad J
 have E:=boA aO J
 have ao:=boC aT J
 have aU:=bkW J aD
 rw[←J,←aD]
 clear J aD
 refine hK.out _ _ (fun _=>⟨X.cell 4,aq.cell 0,X.cell 1⟩) ?_
 try simp only[Act.put,sA,sB,sC]
 refine onM 14 (by kernel_rfl) rfl fun K hK=>?_
 have bb:Hid (Rd W3 (bn+1) 4 (some (Aq bn 0)) 1 [I s,.slice (some (Aq g1 0)) m.curs.length m.curs.length,.bool false,I 0]):=⟨rfl,fun _=>⟨_,rfl,Nat.lt_succ_self _,World.news_of_block aU⟩⟩
 refine ZaY _ rfl (.tmp 10) (.tmp 19) _ rfl B 59 i0 _ 4 48 underlying32 HI bh bi bj rfl (by decide) _ m.accts.length (m.accts.flatMap ZaA.cs) rfl E.accts (bn+1) _ 1 1 [I s,.slice (some (Aq g1 0)) m.curs.length m.curs.length,.bool false,I 0] rfl bb (by simp[Value.oneCell']) (by unfold maxLen;have:=R.2;omega) (by have:=R.2;omega) (Nat.le_trans N ak.size) ?_
 intro A2 c2 W4 h1 h2 aA hg bo
 have ai:(m.accts++[(⟨s,some (Aq g1 0),m.curs.length,List.replicate m.curs.length 0,false,0⟩:ZaA)]).length=m.accts.length+1:=by simp
 have a1:ZaA.cs (⟨s,some (Aq g1 0),m.curs.length,List.replicate m.curs.length 0,false,0⟩:ZaA)=[I s,.slice (some (Aq g1 0)) m.curs.length m.curs.length,.bool false,I 0]:=by unfold ZaA.cs;simp
 have az:W4.ownsRow B 59 4 (.slice A2 (m.accts++[(⟨s,some (Aq g1 0),m.curs.length,List.replicate m.curs.length 0,false,0⟩:ZaA)]).length c2) (m.accts++[(⟨s,some (Aq g1 0),m.curs.length,List.replicate m.curs.length 0,false,0⟩:ZaA)]).length ((m.accts++[(⟨s,some (Aq g1 0),m.curs.length,List.replicate m.curs.length 0,false,0⟩:ZaA)]).flatMap ZaA.cs):=by
  rw[ai,List.flatMap_append,List.flatMap_cons,a1]
  exact aA
 have a2:(m.accts++[(⟨s,some (Aq g1 0),m.curs.length,List.replicate m.curs.length 0,false,0⟩:ZaA)]).length≤1000000:=by rw[ai];have:=R.2;omega
 have a3:W4.ownsRow S0 3 1 (.slice (some (Aq g1 0)) (List.replicate m.curs.length (0:Int)).length m.curs.length) (List.replicate m.curs.length (0:Int)).length (Zag (List.replicate m.curs.length 0)):=by
  rw[List.length_replicate]
  exact Zal ao hg (Zao ao E.accts (by decide))
 have a0:(List.replicate m.curs.length (0:Int)).length≤1000000:=by rw[List.length_replicate];have:=R.1;omega
 have aI:Hid (ZaC B pl w W4):=by exact ak.grown N hg (ZcS E.accts)
 have z:Hid (Bk W4 pl 37 m.ar):=by exact X.grown hg (ZaL E.accts X (by decide))
 have U:Hid (Bk W4 bp 3 #[I s]):=by exact aq.grown hg (Zd6 E.accts aC)
 have aP:Hid (Zaa W4 B {m with accts:=m.accts++[(⟨s,some (Aq g1 0),m.curs.length,List.replicate m.curs.length 0,false,0⟩:ZaA)],sAcc:=⟨A2,c2⟩}):=by exact Zaa.appAcc (x:=(⟨s,some (Aq g1 0),m.curs.length,List.replicate m.curs.length 0,false,0⟩:ZaA)) E hg az a2 a3 a0 bd am.1 am.2
 have aB:=Hi ai
 clear h1 h2 aA hg bo az a2 a3 a0 ai a1
 dsimp only
 refine hK.out _ _ (fun _=>⟨z.cell 4,U.cell 0,z.cell 1⟩) ?_
 try simp only[Act.put,sA,sB,sC]
 refine onM 15 (by kernel_rfl) rfl fun K hK=>?_
 go_simp
 refine hK.out _ _ (fun _=>⟨z.cell 4,U.cell 0,z.cell 1⟩) ?_
 try simp only[Act.put,sA,sB,sC]
 refine tkM [16] (⟨z.cell 4,U.cell 0,z.cell 1⟩) (by kernel_rfl) (fun _ _ _ _ h=>h) ?_
 (refine ycM rfl (by rfl) (fun w h=>by simp only[Cs] at h;go_simp<;>rfl) ?_;try simp only[Act.put,sA,sB,sC])
 refine onM 17 (by kernel_rfl) rfl fun K hK=>?_
 have bl:=z.nine
 go_simp
 clear bl
 obtain⟨W5,ab⟩:=ExY (W4.setCell ⟨pl,4,none⟩ (.slice A2 (m.accts.length+1) c2))
 rw[←ab]
 have aJ:=bhI aI ab
 have ax:Hid (Bk W5 pl 37 (m.ar_A (.slice A2 (m.accts.length+1) c2))):=bkS z 4 ab
 have au:=bkF U ab z rfl
 have an:=boF aP ab z (by decide)
 clear ab
 refine hK.out _ _ (fun h0=>Zac (by kernel_rfl) h0) ?_
 refine Zak (by kernel_rfl) ?_ _
 have Z:=ax.nine
 have Y:=au.one
 have ba:Hid (Zah (m.accts++[(⟨s,some (Aq g1 0),m.curs.length,List.replicate m.curs.length 0,false,0⟩:ZaA)])=Zah m.accts++[s]):=by show _=_;unfold Zah;simp
 obtain⟨ps,aF⟩:=ExY (Zah m.accts++[s])
 obtain⟨⟨cv,er⟩,aZ⟩:∃p,p=Zct ps:=⟨_,rfl⟩
 have aS:=Hi aF
 have aL:=Hi aZ
 have a4:∀V,Zay V V.heap.size {m with accts:=m.accts++[(⟨s,some (Aq g1 0),m.curs.length,List.replicate m.curs.length 0,false,0⟩:ZaA)],sAcc:=⟨A2,c2⟩}→Calls prog 71 #[.slice A2 (m.accts.length+1) c2] V (Zd8 V ps):=by
  intro V h
  have h1:=Zdl A2 (m.accts++[(⟨s,some (Aq g1 0),m.curs.length,List.replicate m.curs.length 0,false,0⟩:ZaA)]).length c2 (m.accts++[(⟨s,some (Aq g1 0),m.curs.length,List.replicate m.curs.length 0,false,0⟩:ZaA)]) V h.short.2.2.2.1 h.accts
  rw[ba.out,←aF,aB.out] at h1
  exact h1
 have a8:=Hi a4
 clear aF aZ a4
 go_wp2_with fail
 refine(a8.out _ an.rd).mono ?_
 rintro e W6 ⟨A3,c3,rfl,h1,h2,ho,hb⟩
 have bc:Hid (Rd W6 W6.heap.size 1 A3 ps.length (Zag ps)):=Rd.of_own ho
 clear h1 h2 ho
 have aK:=bhU aJ N hb
 have ay:=bkN ax hb
 have aw:=bkN au hb
 have aQ:=boN an hb
 clear Z Y
 clear hb
 have Z:=ay.nine
 have Y:=aw.one
 dsimp only
 have a9:Hid (ps.length≤maxLen):=by
  show ps.length≤_
  rw[aS.out]
  unfold maxLen Zah
  simp
  have:=R.2
  omega
 go_wp2_with fail
 refine(Zfk A3 ps.length c3 ps _ a9 bc).mono ?_
 rintro e W7 ⟨rfl,hb⟩
 have al:=bhU aK N hb
 have af:=bkN ay hb
 have aW:=bkN aw hb
 have aR:=boN aQ hb
 clear Z Y
 clear hb
 have Z:=af.nine
 have Y:=aW.one
 rw[←aL.out]
 dsimp only
 by_cases ah:er=0
 rotate_left
 ·have a6:Hid (¬ZbC m s):=fun h=>by
   unfold ZbC at h
   rw[←aS.out,←aL.out] at h
   exact ah h
  go_wp2_with fail
  refine Cq (ZcJ er ah _) ?_
  dsimp only
  go_wp2
  exact⟨rfl,al,{m with accts:=m.accts++[(⟨s,some (Aq g1 0),m.curs.length,List.replicate m.curs.length 0,false,0⟩:ZaA)],sAcc:=⟨A2,c2⟩},by unfold Zab.cs;dsimp only;rw[aB.out];exact af.out,.inr ⟨er,ah,rfl,a6⟩⟩
 subst ah
 go_wp2_with fail
 refine Cq (Zda _) ?_
 dsimp only
 go_wp2
 go_ret
 refine⟨al,{m with accts:=m.accts++[(⟨s,some (Aq g1 0),m.curs.length,List.replicate m.curs.length 0,false,0⟩:ZaA)],sAcc:=⟨A2,c2⟩},?_,.inl ⟨_,rfl,aR,some (Aq g1 0),m.curs.length,⟨A2,c2⟩,rfl⟩⟩
 unfold Zab.cs
 dsimp only
 rw[aB.out]
 exact af
theorem ZhE(m:Zab)(s:Int)(w:World)(hm:Zay w w.heap.size m)(af:Gl w):
 Calls prog 32 #[m.val,I s] w (Zar (Zaj m (fun m1 m2 _=>ZaX s m1 m2)) (Zas m (fun m1 m2 _=>ZaX s m1 m2) (fun m1=>¬ZbC m1 s)) w):=by
 show Calls prog 32 #[.agg m.ar,I s] w (Zar (Zaj m (fun m1 m2 _=>ZaX s m1 m2)) (Zas m (fun m1 m2 _=>ZaX s m1 m2) (fun m1=>¬ZbC m1 s)) w)
 obtain⟨W1,J⟩:=ExY (w.alloc (.cells m.ar 37))
 obtain⟨bl,R⟩:=ExY w.heap.size
 have ag:=blB J
 have ah:=bkW J R
 obtain⟨W2,E⟩:=ExY (W1.alloc (.cells #[I s] 3))
 obtain⟨bp,U⟩:=ExY W1.heap.size
 have X:=blA ag E
 have Y:=bkA ah E
 have aj:=bkW E U
 have aa:bp=bl+1:=by rw[U,J,World.size_alloc,←R]
 obtain⟨W3,G⟩:=ExY (W2.alloc (.cells zZ 37))
 obtain⟨bz,L⟩:=ExY W2.heap.size
 have ak:Hid (bz≠bl):=by
  have h:=Y.lt
  show bz≠bl
  rw[L]
  exact Ne.symm (Nat.ne_of_lt h)
 have ad:=blZ X L
 have z:=blA X G
 have ai:=bkA Y G
 have C:=bkA aj G
 have Z:=bkW G L
 have ab:bz=bp+1:=by rw[L,E,World.size_alloc,←U]
 have HT:Hid (Calls prog 60 #[.agg m.ar,.func (.func 69) #[] #[Pt bp]] W3 (Zar (Zaj m (fun m1 m2 _=>ZaX s m1 m2)) (Zas m (fun m1 m2 _=>ZaX s m1 m2) (fun m1=>¬ZbC m1 s)) W3)):=Hi (ZbQ 69 #[Pt bp] m (fun m1 m2 _=>ZaX s m1 m2) (fun m1=>¬ZbC m1 s) W3 ((hm.below z).mono z.size) (af.below z af.lt) (fun pl W=>by kernel_rfl) (by
  intro m1 B pl W hp
  exact ZgV m1 s B pl bp W hp.size hp.bk hp.own hp.good (C.below hp.below C.lt) (Nat.lt_of_lt_of_le C.lt hp.base)))
 clear hm af
 go_enter func32,ntmps32
 go_upto_region 1 with(fail)
 rw[←J,←R,←E,←aa,←G,←ab]
 clear J R aa E U ab G L
 have al:=ai.nine
 have am:=C.one
 have an:=Z.nine
 go_wp2_with fail
 refine HT.mono ?_
 rintro e W9 ⟨hb,m2,n,er,rfl,hc⟩
 have HC:=Hi hc
 have ao:=blT z hb
 have ap:=Hi z.size
 have ae:=bkN Z hb
 clear hb hc al am an
 have ac:m2.val=.agg m2.ar:=rfl
 rw[ac]
 clear ac
 dsimp only
 go_wp2_with (refine wpList_store_row rfl 37 _ _ rfl bz m2.ar rfl rfl 37 zZ ae ZaU (by rfl) (by simp[Value.oneCell']) ?_)
 obtain⟨V9,N⟩:=ExY (W9.setRow bz m2.ar)
 rw[←N]
 have aw:=bkr ae N
 have aq:=blr ao N ad
 have au:(er=0∧Zaa V9 w.heap.size m2∧(Zaj m (fun m1 m2 _=>ZaX s m1 m2)) m2 n)∨(er≠0∧m2=Za4∧n=0∧(Zas m (fun m1 m2 _=>ZaX s m1 m2) (fun m1=>¬ZbC m1 s))):=by
  rcases HC.out with⟨h1,h2,h3⟩|h
  ·exact .inl ⟨h1,by rw[N];exact(h2.mono ap).rowFar ae (by decide) _,h3⟩
  ·exact .inr h
 exact bodyPost_ret (Zam (p:=4) (q:=5) (r:=6) results32 _ V9 bz 37 m2.ar (0,0) _ rfl aw underlying37 rfl ZaU) rfl ⟨aq,m2,n,er,rfl,au⟩
theorem Zl9{w:World}{base:Nat}{m:Zab}(h:Zaa w base m){g q:Nat}(C:m.sCur.A=some (Aq g 0))(E:q<m.curs.length):w.cell? (Aq g (q*2))=some (I (m.curs[q]).rate)∧w.cell? (Aq g (q*2+1))=some (I (m.curs[q]).hair)∧(∀j,w.frozen? (Aq g j)=false)∧g<w.heap.size:=by
 have c:=fun j (hj:j<2)=>(Zbh (C▸h.curs) (q*2+j) (by omega)).1.trans (Zb3 ZhN m.curs q E j hj)
 obtain⟨cs,_,hB,z⟩:=ZaK h.curs C
 have s:Bk w g 57 cs:=z
 exact⟨c 0 (by decide),c 1 (by decide),fun j=>s.frozen j,s.lt⟩
theorem ZlT{w:World}{B:Nat}{m:Zab}(h:Zaa w B m){g q:Nat}(L:m.sCur.A=some (Aq g 0))(R:q<m.curs.length)(rate hair:Int):
 ∃m2:Zab,Zaa ((w.setCell (Aq g (q*2)) (I rate)).setCell (Aq g (q*2+1)) (I hair)) B m2∧m2.cs=m.cs∧Zax m m2:=by
 obtain⟨m1,s⟩:∃m1:Zab,m1={m with curs:=m.curs.set q {m.curs[q] with rate:=rate}}:=⟨_,rfl⟩
 have h1:Zaa (w.setCell (Aq g (q*2)) (I rate)) B m1:=by rw[s];exact h.setCur L R (j:=0) (by decide) rfl
 have E:m1.sCur.A=some (Aq g 0):=by rw[s];exact L
 have N:m1.curs.length=m.curs.length:=by rw[s];exact List.length_set ..
 have J:q<m1.curs.length:=by omega
 have z:m1.cs=m.cs:=by rw[s];unfold Zab.cs;dsimp only;rw[List.length_set]
 have C:Zax m m1:=by rw[s];exact Zax.same rfl rfl rfl
 have G:m1.accts.map ZaA.last=m.accts.map ZaA.last:=by rw[s]
 have h2:=h1.setCur (u:=I hair) (x:={m1.curs[q] with hair:=hair}) E J (j:=1) (by decide) rfl
 refine⟨_,h2,?_,?_⟩
 ·unfold Zab.cs at z ⊢;dsimp only;rw[List.length_set];exact z
 ·exact Zax.same C.poss C.orders G
theorem Zl8{w:World}{base:Nat}{m:Zab}(h:Zaa w base m){g q:Nat}(C:m.sAcc.A=some (Aq g 0))(E:q<m.accts.length):w.cell? (Aq g (q*4+1))=some (.slice (m.accts[q]).A (m.accts[q]).cash.length (m.accts[q]).c)∧(∀j,w.frozen? (Aq g j)=false)∧∃cs,Bk w g 59 cs:=by
 have c:=(Zbh (C▸h.accts) (q*4+1) (by omega)).1.trans (Zb3 Zc4 m.accts q E 1 (by decide))
 obtain⟨cs,_,hB,z⟩:=ZaK h.accts C
 have s:Bk w g 59 cs:=z
 exact⟨c,fun j=>s.frozen j,cs,s⟩
theorem Zlp{z n c:Nat}{A:Option Addr}(h:∀p:Addr,A=some p→p.block<z):some z≠(Value.slice A n c).ownBlock:=by
 intro s
 cases A with
 |none=>cases s
 |some p=>
  have h1:=h p rfl
  have h2:z=p.block:=by simpa[Value.ownBlock] using s
  omega
def ZgS(m:Zab)(an k:Nat)(l:List ZaA):Prop:=l.length=an∧l.map ZaA.last=m.accts.map ZaA.last∧∀(i:Nat) (x:ZaA),l[i]?=some x→x.cash.length≤5∧(k≤i→x.cash.length≤4)
theorem ZgS.step{m:Zab}{z k:Nat}{l:List ZaA}(h:ZgS m z k l)(s:k<l.length){y:ZaA}(C:y.last=(l[k]).last)(E:y.cash.length=(l[k]).cash.length+1):ZgS m z (k+1) (l.set k y):=by
 refine⟨by rw[List.length_set];exact h.1,(Ziq s C).trans h.2.1,fun i x hx=>?_⟩
 by_cases hi:k=i
 ·subst hi
  rw[List.getElem?_set_self s] at hx
  cases hx
  have:=(h.2.2 k l[k] (List.getElem?_eq_getElem s)).2 (Nat.le_refl _)
  exact⟨by omega,fun h=>by omega⟩
 ·rw[List.getElem?_set_ne hi] at hx
  have:=h.2.2 i x hx
  exact⟨this.1,fun h=>this.2 (by omega)⟩
theorem Zkj(m:Zab)(z s aR:Int)(B pl br bh bu:Nat)(w:World)(hB:B≤w.heap.size)(cN:Bk w pl 37 m.ar)(ho:Zaa w B m)(hg:Za2 m=true)(cF:Bk w br 3 #[I z])(cE:Bk w bh 3 #[I s])(cG:Bk w bu 3 #[I aR])(lr:br<B)(lh:bh<B)(lu:bu<B):
 Calls prog 64 #[Pt pl,Pt br,Pt bh,Pt bu] w (Zbx 164 37 B pl (fun m' _=>Zax m m') True w):=by
 have aF:=Hi hB
 have b6:=Hi hg
 have bZ:=Hi cN
 have bS:=Hi ho
 have bW:=Hi cF
 have bU:=Hi cE
 have bY:=Hi cG
 have bq:=Hi lu
 clear hB cN ho hg cF cE cG lr lh lu
 have cf:Hid (ZaC B pl w w):=ZaC.refl _ _ _
 obtain⟨i0,aO,ax⟩:=Option.map_eq_some_iff.1 ZlH
 simp only[Prod.mk.injEq] at ax
 have HI:=Hi aO
 have db:=Hi ax.1
 have dc:=Hi ax.2.1
 have dd:=Hi ax.2.2
 clear aO ax
 obtain⟨i3,aO,ax⟩:=Option.map_eq_some_iff.1 Zgq
 simp only[Prod.mk.injEq] at ax
 have HJ:=Hi aO
 have c8:=Hi ax.1
 have c9:=Hi ax.2.1
 have da:=Hi ax.2.2
 clear aO ax
 go_enter func64,ntmps64
 have aN:=bZ.nine
 have aL:=bW.one
 have aK:=bU.one
 have aM:=bY.one
 have cj:Hid (∀p:Addr,m.sCur.A=some p→p.block<w.heap.size):=fun p hp=>(ZaP bS.curs p hp).2
 obtain⟨W1,aE⟩:=ExY (w.alloc (.cells #[I z,I s] 57))
 obtain⟨bc,bM⟩:=ExY w.heap.size
 have ba:=bhA cf aF aE
 have bs:=bkA bZ aE
 have cv:=bkA bW aE
 have cq:=bkA bU aE
 have bp:=bkA bY aE
 have cl:=boA bS aE
 have bj:=bkW aE bM
 have bf:Hid (∀p:Addr,m.sCur.A=some p→p.block<bc):=by rw[bM];exact cj
 go_upto_region 2 with(fail)
 rw[←aE,←bM]
 clear aE bM
 clear aN aL aK aM
 have be:Hid (m.curs.length≤4∧m.accts.length≤16):=⟨(Zbr b6).lens.1,(Zbr b6).lens.2.2.2.1⟩
 obtain⟨cb,cI⟩:=ExY (ZlF ⟨z,s⟩ aR)
 have cJ:∀V,Calls prog 65 #[.agg #[I z,I s],I aR] V fun e w'=>e=.returned (.bool cb)∧Bw V w':=by rw[cI];exact fun V=>ZhM ⟨z,s⟩ aR V
 have cQ:=Hi cJ
 clear cI cJ
 by_cases d1:0≤aR
 rotate_left
 ·obtain⟨W2,E⟩:=ExY W1.drew
  have aG:=bhD ba E
  have ai:=bkD bs E
  have aB:=bkD bp E
  have ac:=bkD bj E
  refine rgK (by kernel_rfl) E (CsA aB 0 rfl (CsA ai 1 rfl (CsA ac 0 rfl (CsB ac 1 rfl)))) fun C=>?_
  clear E
  refine tkH [0,1,2,3,4,5,6,7,8,9,10,11,12,13,14,15] C (by kernel_rfl) (fun _ _ _ _ h=>h) ?_
  iterate 16 ((first|refine ycH rfl (by rfl) (fun w h=>by simp only[Cs] at h;go_simp<;>rfl) ?_|refine ncH rfl (by rfl) ?_);try simp only[Act.put,sA,sB,sC])
  refine onH 16 (by kernel_rfl) rfl fun K hK=>?_
  go_simp
  refine Cq (Zat 30 _) ?_
  dsimp only
  go_wp2
  exact⟨rfl,aG,m,ai,.inr ⟨30,(by decide),rfl,trivial⟩⟩
 by_cases d2:aR≤(m.curs.length:Int)
 rotate_left
 ·obtain⟨W2,E⟩:=ExY W1.drew
  have aG:=bhD ba E
  have ai:=bkD bs E
  have aB:=bkD bp E
  have ac:=bkD bj E
  refine rgK (by kernel_rfl) E (CsA aB 0 rfl (CsA ai 1 rfl (CsA ac 0 rfl (CsB ac 1 rfl)))) fun C=>?_
  clear E
  refine tkH [0,1,2,3,4,5,6,7,8,9,10,11,12,13,14,15] C (by kernel_rfl) (fun _ _ _ _ h=>h) ?_
  iterate 16 ((first|refine ycH rfl (by rfl) (fun w h=>by simp only[Cs] at h;go_simp<;>rfl) ?_|refine ncH rfl (by rfl) ?_);try simp only[Act.put,sA,sB,sC])
  refine onH 16 (by kernel_rfl) rfl fun K hK=>?_
  go_simp
  refine Cq (Zat 30 _) ?_
  dsimp only
  go_wp2
  exact⟨rfl,aG,m,ai,.inr ⟨30,(by decide),rfl,trivial⟩⟩
 obtain⟨W2,E⟩:=ExY W1.drew
 have aG:=bhD ba E
 have ai:=bkD bs E
 have cw:=bkD cv E
 have cr:=bkD cq E
 have aB:=bkD bp E
 have ac:=bkD bj E
 have cm:=boD cl E
 refine rgK (by kernel_rfl) E (CsA aB 0 rfl (CsA ai 1 rfl (CsA ac 0 rfl (CsB ac 1 rfl)))) fun C=>?_
 clear E
 refine tkH [0,1,2,3,4,5,6,7,8,9,10,11,12,13] C (by kernel_rfl) (fun _ _ _ _ h=>h) ?_
 iterate 14 (refine ycH rfl (by rfl) (fun w h=>by simp only[Cs] at h;go_simp<;>rfl) ?_;try simp only[Act.put,sA,sB,sC])
 refine onH 14 (by kernel_rfl) rfl fun K hK=>?_
 go_simp
 refine(cQ.out _).mono ?_
 rintro e W3 ⟨rfl,hb⟩
 have bb:=bhU aG aF hb
 have aJ:=bkN ai hb
 have bX:=bkN cw hb
 have bV:=bkN cr hb
 have a2:=bkN aB hb
 have az:=bkN ac hb
 have bg:=boN cm hb
 clear hb
 dsimp only
 refine hK.out _ _ (⟨a2.cell 0,aJ.cell 1,az.cell 0,az.cell 1⟩) (fun C=>?_)
 try simp only[Act.put,sA,sB,sC]
 refine tkH [15] C (by kernel_rfl) (fun _ _ _ _ h=>h) ?_
 (refine ycH rfl (by rfl) (fun w h=>by simp only[Cs] at h;go_simp<;>rfl) ?_;try simp only[Act.put,sA,sB,sC])
 refine onH 16 (by kernel_rfl) rfl fun K hK=>?_
 go_simp
 refine(ZeN _ 30 _).mono ?_
 rintro e w' ⟨bP,he|he⟩
 rotate_left
 ·unfold Pan at he
  subst he
  rw[bP]
  clear bP w'
  dsimp only
  go_wp2
  exact⟨rfl,bb,m,aJ,.inr ⟨30,(by decide),rfl,trivial⟩⟩
 subst he
 rw[bP]
 clear bP w'
 dsimp only
 refine hK.out _ _ (⟨a2.cell 0,aJ.cell 1,az.cell 0,az.cell 1⟩) (fun C=>?_)
 try simp only[Act.put,sA,sB,sC]
 refine wpAnyH_done (by kernel_rfl) ?_ _
 clear C
 obtain⟨q,rfl⟩:∃q:Nat,aR=(q:Int):=ZaW d1
 by_cases hq:q<m.curs.length
 ·have d3:(q:Int)<(m.curs.length:Int):=Int.ofNat_lt.mpr hq
  have HQ:=Hi hq
  obtain⟨g,hA,_,_,_⟩:=Zbb bg.curs (Nat.lt_of_le_of_lt (Nat.zero_le _) hq)
  have HA:=Hi hA
  clear hA
  go_upto_region 3 with(fail)
  obtain⟨W4,G⟩:=ExY W3.drew
  have aU:=bhD bb G
  have aj:=bkD aJ G
  have aY:=bkD bX G
  have aX:=bkD bV G
  have aq:Hid (Bk W4 bu 3 #[I q]):=bkD a2 G
  have ad:=bkD az G
  have bi:=boD bg G
  refine rgK (by kernel_rfl) G (CsA aq 0 rfl (CsA aj 1 rfl (CsA ad 0 rfl (CsB ad 1 rfl)))) fun C=>?_
  clear G
  refine tkH [0,1,2,3,4,5,6] C (by kernel_rfl) (fun _ _ _ _ h=>h) ?_
  iterate 7 (refine ycH rfl (by rfl) (fun w h=>by simp only[Cs] at h;go_simp<;>rfl) ?_;try simp only[Act.put,sA,sB,sC])
  refine wpAnyH_done (by kernel_rfl) ?_ _
  clear C
  go_upto_region 4 with(fail)
  obtain⟨W5,X⟩:=ExY W4.drew
  have bd:=bhD aU X
  have ak:=bkD aj X
  have bo:=bkD aY X
  have bl:=bkD aX X
  have ah:=bkD aq X
  have Z:=bkD ad X
  have aH:=boD bi X
  refine rgH (S:=(fun U=>U.cell? (Aq bu 0)=some (I q)∧U.cell? (Aq pl 1)=some (.slice (some (Aq g 0)) m.curs.length m.sCur.c)∧U.cell? (Aq bc 0)=some (I z)∧U.cell? (Aq bc 1)=some (I s))) (by kernel_rfl) X ⟨ah.out.cell 0,HA.out▸ak.out.cell 1,Z.out.cell 0,Z.out.cell 1⟩ fun C=>?_
  clear X
  refine tkH [0,1,2,3,4,5] C (by kernel_rfl) (fun _ _ _ _ h=>h) ?_
  iterate 6 (refine ycH rfl (by rfl) (fun w h=>by go_simp<;>rfl) ?_;try simp only[Act.put,sA,sB,sC])
  refine onH 6 (by kernel_rfl) rfl fun K hK=>?_
  go_simp
  refine hK.out _ _ (⟨ah.out.cell 0,HA.out▸ak.out.cell 1,Z.out.cell 0,Z.out.cell 1⟩) (fun C=>?_)
  try simp only[Act.put,sA,sB,sC]
  refine onH 7 (by kernel_rfl) rfl fun K hK=>?_
  obtain⟨y0,y1,y2,y3⟩:=Zl9 aH.out HA.out HQ.out
  have z0:=y2 (q*2)
  have z1:=y2 (q*2+1)
  clear y2
  go_simp
  clear y0 y1 y3 z0 z1
  obtain⟨m2,cM,cH,cK⟩:=ZlT aH.out HA.out HQ.out z s
  obtain⟨a8,_,bv,Y⟩:=ZaK aH.curs HA.out
  obtain⟨W6,L⟩:=ExY (((W5.setCell ⟨g,q*2,none⟩ (I z)).setCell ⟨g,q*2+1,none⟩ (I s)))
  rw[←L]
  have J:Bk W5 g 57 a8:=Y
  have aV:Hid (ZaC B pl w W6):=by rw[L];exact((bd.set_up bv).set_up bv)
  have au:Hid (Bk W6 pl 37 m.ar):=by rw[L];exact((ak.far (p:=Aq g (q*2)) (ak.ne J (by decide)) _).far (p:=Aq g (q*2+1)) (ak.ne J (by decide)) _)
  have cx:Hid (Bk W6 br 3 #[I z]):=by rw[L];exact((bo.far (p:=Aq g (q*2)) (bo.ne J (by decide)) _).far (p:=Aq g (q*2+1)) (bo.ne J (by decide)) _)
  have ct:Hid (Bk W6 bh 3 #[I s]):=by rw[L];exact((bl.far (p:=Aq g (q*2)) (bl.ne J (by decide)) _).far (p:=Aq g (q*2+1)) (bl.ne J (by decide)) _)
  have aI:Hid (Bk W6 bu 3 #[I q]):=by rw[L];exact((ah.far (p:=Aq g (q*2)) (ah.ne J (by decide)) _).far (p:=Aq g (q*2+1)) (ah.ne J (by decide)) _)
  have ap:Hid (Bk W6 bc 57 #[I z,I s]):=by rw[L];exact((Z.far (p:=Aq g (q*2)) (Nat.ne_of_gt (show g<bc from bf.out (Aq g 0) HA)) _).far (p:=Aq g (q*2+1)) (Nat.ne_of_gt (show g<bc from bf.out (Aq g 0) HA)) _)
  have ao:Hid (Zaa W6 B m2):=by rw[L];exact cM
  clear Y J bv a8
  clear L
  have cP:=Hi cH
  have cV:=Hi cK
  clear cM cH cK
  refine hK.out _ _ (⟨aI.out.cell 0,HA.out▸au.out.cell 1,ap.out.cell 0,ap.out.cell 1⟩) (fun C=>?_)
  try simp only[Act.put,sA,sB,sC]
  refine wpAnyH_done (by kernel_rfl) ?_ _
  clear C
  have aN:=au.nine
  have aL:=cx.one
  have aK:=ct.one
  have aM:=aI.one
  have bt:=ap.two
  go_wp2
  go_ret
  exact⟨aV,m2,by rw[cP.out];exact au.out,.inl ⟨_,rfl,ao,cV⟩⟩
 have d3:¬((q:Int)<(m.curs.length:Int)):=fun h=>hq (Int.ofNat_lt.mp h)
 go_upto_region 3 with(fail)
 obtain⟨W4,G⟩:=ExY W3.drew
 have aU:=bhD bb G
 have aj:=bkD aJ G
 have aY:=bkD bX G
 have aX:=bkD bV G
 have aq:Hid (Bk W4 bu 3 #[I q]):=bkD a2 G
 have ad:=bkD az G
 have bi:=boD bg G
 refine rgK (by kernel_rfl) G (CsA aq 0 rfl (CsA aj 1 rfl (CsA ad 0 rfl (CsB ad 1 rfl)))) fun C=>?_
 clear G
 refine tkH [0,1,2,3,4,5,6] C (by kernel_rfl) (fun _ _ _ _ h=>h) ?_
 iterate 7 (refine ycH rfl (by rfl) (fun w h=>by simp only[Cs] at h;go_simp<;>rfl) ?_;try simp only[Act.put,sA,sB,sC])
 refine wpAnyH_done (by kernel_rfl) ?_ _
 clear C
 go_upto_region 6 with(fail)
 by_cases d4:(q:Int)<4
 rotate_left
 ·have aN:=aj.nine
  have aL:=aY.one
  have aK:=aX.one
  have aM:=aq.one
  have bt:=ad.two
  go_wp2_with fail
  refine Cq (Zat 40 _) ?_
  dsimp only
  go_wp2
  exact⟨rfl,aU,m,aj,.inr ⟨40,(by decide),rfl,trivial⟩⟩
 have aN:=aj.nine
 have aL:=aY.one
 have aK:=aX.one
 have aM:=aq.one
 have bt:=ad.two
 go_wp2_with fail
 refine Cq (ZaV 40 _) ?_
 dsimp only
 go_upto_region 7 with(fail)
 have b7:Hid ((m.curs++[(⟨z,s⟩:ZcB)]).length=m.curs.length+1):=by show _=_;simp
 clear aN aL aK aM bt
 obtain⟨W5,X⟩:=ExY W4.drew
 have bd:=bhD aU X
 have ak:=bkD aj X
 have ah:=bkD aq X
 have Z:=bkD ad X
 have aH:=boD bi X
 refine rgL 10 (by kernel_rfl) X (CsA ah 0 rfl (CsA ak 1 rfl (CsA Z 0 rfl (CsB Z 1 rfl)))) fun hS=>?_
 clear X
 refine tkM [0,1,2,3,4,5] hS (by kernel_rfl) (fun _ _ _ _ h=>h) ?_
 iterate 6 (refine ycM rfl (by rfl) (fun w h=>by simp only[Cs] at h;go_simp<;>rfl) ?_;try simp only[Act.put,sA,sB,sC])
 refine onM 6 (by kernel_rfl) rfl fun K hK=>?_
 go_simp
 obtain⟨W6,L⟩:=ExY (W5.alloc (.cells #[I z,I s] 57))
 obtain⟨bn,bO⟩:=ExY W5.heap.size
 have cA:Hid (bn≠bc):=by
  have h:=Z.lt
  show bn≠bc
  rw[bO]
  exact Ne.symm (Nat.ne_of_lt h)
 have aV:=bhA bd aF L
 have au:=bkA ak L
 have aI:=bkA ah L
 have ap:=bkA Z L
 have ao:=boA aH L
 have cu:=bkW L bO
 have c6:Hid (Rd W6 (bn+1) 2 (some (Aq bn 0)) 1 [I z,I s]):=⟨rfl,fun _=>⟨_,rfl,Nat.lt_succ_self _,World.news_of_block cu⟩⟩
 rw[←L,←bO]
 clear L bO
 refine hK.out _ _ (fun _=>⟨aI.cell 0,au.cell 1,ap.cell 0,ap.cell 1⟩) ?_
 try simp only[Act.put,sA,sB,sC]
 refine onM 7 (by kernel_rfl) rfl fun K hK=>?_
 refine ZaY _ rfl (.tmp 50) (.tmp 52) _ rfl B 57 i0 _ 2 16 underlying29 HI db dc dd rfl (by decide) _ m.curs.length (m.curs.flatMap ZcB.cs) rfl ao.curs (bn+1) _ 1 1 [I z,I s] rfl c6 (by simp[Value.oneCell']) (by unfold maxLen;have:=be.out;omega) (by have:=be.out;omega) (Nat.le_trans aF aV.size) ?_
 intro A2 c2 W7 h1 h2 aP hg bL
 have b0:W7.ownsRow B 57 2 (.slice A2 (m.curs++[(⟨z,s⟩:ZcB)]).length c2) (m.curs++[(⟨z,s⟩:ZcB)]).length ((m.curs++[(⟨z,s⟩:ZcB)]).flatMap ZcB.cs):=by
  rw[b7.out,List.flatMap_append]
  exact aP
 have cL:(m.curs++[(⟨z,s⟩:ZcB)]).length≤1000000:=by rw[b7.out];have:=be.out;omega
 have cg:Hid (ZaC B pl w W7):=by exact aV.grown aF hg (ZcS ao.curs)
 have aw:Hid (Bk W7 pl 37 m.ar):=by exact au.grown hg (ZaL ao.curs au (by decide))
 have a3:Hid (Bk W7 bu 3 #[I q]):=by exact aI.grown hg (Zd6 ao.curs bq)
 have aA:Hid (Bk W7 bc 57 #[I z,I s]):=by exact ap.grown hg (Zlp bf)
 have cn:Hid (Zaa W7 B {m with curs:=m.curs++[(⟨z,s⟩:ZcB)],sCur:=⟨A2,c2⟩}):=by exact Zaa.appCur ao hg b0 cL
 clear h1 h2 aP hg bL b0 cL
 dsimp only
 refine hK.out _ _ (fun _=>⟨a3.cell 0,aw.cell 1,aA.cell 0,aA.cell 1⟩) ?_
 try simp only[Act.put,sA,sB,sC]
 refine onM 8 (by kernel_rfl) rfl fun K hK=>?_
 go_simp
 refine hK.out _ _ (fun _=>⟨a3.cell 0,aw.cell 1,aA.cell 0,aA.cell 1⟩) ?_
 try simp only[Act.put,sA,sB,sC]
 refine tkM [9] (⟨a3.cell 0,aw.cell 1,aA.cell 0,aA.cell 1⟩) (by kernel_rfl) (fun _ _ _ _ h=>h) ?_
 (refine ycM rfl (by rfl) (fun w h=>by simp only[Cs] at h;go_simp<;>rfl) ?_;try simp only[Act.put,sA,sB,sC])
 refine onM 10 (by kernel_rfl) rfl fun K hK=>?_
 have de:=aw.nine
 go_simp
 clear de
 obtain⟨W8,a9⟩:=ExY (W7.setCell ⟨pl,1,none⟩ (.slice A2 (m.curs.length+1) c2))
 rw[←a9]
 have ch:=bhI cg a9
 have cC:Hid (Bk W8 pl 37 (m.ar_C (.slice A2 (m.curs.length+1) c2))):=bkS aw 1 a9
 have cy:=bkF a3 a9 aw rfl
 have co:=boF cn a9 aw (by decide)
 clear a9
 refine hK.out _ _ (fun h0=>Zac (by kernel_rfl) h0) ?_
 refine Zak (by kernel_rfl) ?_ _
 obtain⟨an,bK⟩:=ExY m.accts.length
 have bT:Hid (Bk W8 pl 37 (m.ar_CA (.slice A2 (m.curs.length+1) c2) (.slice m.sAcc.A an m.sAcc.c))):=by rw[bK];exact cC
 have cO:=Hi bK
 obtain⟨y0,y1,y2,y3,y4,y5,y6,y7,y8,z0,z1,z2,z3,z4,z5,z6,z7,z8,lz⟩:=bT.nine
 have cZ:Hid (ZgS m an 0 m.accts):=⟨bK.symm,rfl,fun i x hx=>by have h1:=(Zbr b6).cash x (List.mem_of_getElem? hx);have h2:=be.1;exact⟨by omega,fun _=>by omega⟩⟩
 have cU:Hid (ZaC B pl w W8∧Bk W8 pl 37 (m.ar_CA (.slice A2 (m.curs.length+1) c2) (.slice m.sAcc.A an m.sAcc.c))∧Zaa W8 B {m with curs:=m.curs++[(⟨z,s⟩:ZcB)],sCur:=⟨A2,c2⟩,accts:=m.accts}∧Bk W8 bu 3 #[I q]):=⟨ch,bT,co,cy⟩
 clear bK
 go_upto_region 9 with(fail)
 clear y0 y1 y2 y3 y4 y5 y6 y7 y8 z0 z1 z2 z3 z4 z5 z6 z7 z8 lz
 go_loopw [61] (fun cc wr=>∃(k:Nat) (l:List ZaA),k≤an∧cc=I (k:Int)∧Hid (ZgS m an k l)∧Hid (ZaC B pl w wr∧Bk wr pl 37 (m.ar_CA (.slice A2 (m.curs.length+1) c2) (.slice m.sAcc.A an m.sAcc.c))∧Zaa wr B {m with curs:=m.curs++[(⟨z,s⟩:ZcB)],sCur:=⟨A2,c2⟩,accts:=l}∧Bk wr bu 3 #[I q])) (fun cc _=>an-(intOf cc).toNat)
 case atStart=>exact⟨0,m.accts,Nat.zero_le _,rfl,cZ,cU⟩
 case round=>
  obtain⟨k,l,hk,rfl,HL,HK⟩:=hrel
  rename World=>V
  have aS:Hid (ZaC B pl w V):=HK.1
  have a4:Hid (Bk V pl 37 (m.ar_CA (.slice A2 (m.curs.length+1) c2) (.slice m.sAcc.A an m.sAcc.c))):=HK.2.1
  have am:Hid (Zaa V B {m with curs:=m.curs++[(⟨z,s⟩:ZcB)],sCur:=⟨A2,c2⟩,accts:=l}):=HK.2.2.1
  have aZ:Hid (Bk V bu 3 #[I q]):=HK.2.2.2
  clear HK
  by_cases bx:k<an
  rotate_left
  ·have dg:an=k:=Nat.le_antisymm (Nat.le_of_not_lt bx) hk
   subst dg
   have dh:=aZ.one
   go_wp2
   go_ret
   refine⟨aS,{m with curs:=m.curs++[(⟨z,s⟩:ZcB)],sCur:=⟨A2,c2⟩,accts:=l},?_,.inl ⟨_,rfl,am,Zax.same rfl rfl HL.2.1⟩⟩
   have e:Zab.cs {m with curs:=m.curs++[(⟨z,s⟩:ZcB)],sCur:=⟨A2,c2⟩,accts:=l}=[I m.day,.slice A2 (m.curs.length+1) c2,.slice m.sUnd.A m.unders.length m.sUnd.c,.slice m.sIns.A m.instrs.length m.sIns.c,.slice m.sAcc.A an m.sAcc.c,.slice m.sPos.A m.poss.length m.sPos.c,.slice m.sOrd.A m.orders.length m.sOrd.c,.slice m.sAva.A m.avail.length m.sAva.c,.slice m.sLoc.A m.locs.length m.sLoc.c]:=by unfold Zab.cs;dsimp only;rw[b7.out,HL.1]
   rw[e]
   exact a4
  have cW:=Hi bx
  have bw:k<l.length:=by rw[HL.1];exact bx
  have aQ:=Hi bw
  have WK:Hid (wrap64 ((k:Int)+1)=(k:Int)+1):=ZaQ (by have h1:=be.2;have h2:=cO.out;omega)
  have RE:=Hi (fun(W:World) (l2:List ZaA) (h1:Hid (ZgS m an (k+1) l2)) (h2:Hid (ZaC B pl w W∧Bk W pl 37 (m.ar_CA (.slice A2 (m.curs.length+1) c2) (.slice m.sAcc.A an m.sAcc.c))∧Zaa W B {m with curs:=m.curs++[(⟨z,s⟩:ZcB)],sCur:=⟨A2,c2⟩,accts:=l2}∧Bk W bu 3 #[I q]))=>
   Zcn (R:=fun k l=>Hid (ZgS m an k l)) (S:=fun _ l=>Hid (ZaC B pl w W∧Bk W pl 37 (m.ar_CA (.slice A2 (m.curs.length+1) c2) (.slice m.sAcc.A an m.sAcc.c))∧Zaa W B {m with curs:=m.curs++[(⟨z,s⟩:ZcB)],sCur:=⟨A2,c2⟩,accts:=l}∧Bk W bu 3 #[I q])) l2 cW.out WK.out h1 h2)
  obtain⟨g,hA,_,_,_⟩:=Zbb am.accts (Nat.lt_of_le_of_lt (Nat.zero_le k) bw)
  have HA:Hid (m.sAcc.A=some (Aq g 0)):=hA
  obtain⟨⟨xp,xA,xc,xl,xf,xn⟩,hx⟩:∃x,x=l[k]:=⟨_,rfl⟩
  have bR:V.ownsRow B 3 1 (.slice (l[k]).A (l[k]).cash.length (l[k]).c) (l[k]).cash.length (Zag (l[k]).cash):=(am.cash _ (List.getElem_mem bw)).1
  have bQ:=((HL.2.2 k l[k] (List.getElem?_eq_getElem bw)).2 (Nat.le_refl _))
  rw[←hx] at bR bQ
  dsimp only at bR bQ
  have b8:=Hi bQ
  have HX:Hid ((⟨xp,xA,xc,xl,xf,xn⟩:ZaA)=l[k]'aQ.out):=hx
  have k0:(0:Int)≤(k:Int):=Int.natCast_nonneg k
  have k1:(k:Int)<(an:Int):=Int.ofNat_lt.mpr bx
  have c7:=Hi bR
  clear bw hA hx bR bQ bx
  go_upto_region 11 with(fail)
  have bE:Hid (Bw V V):=Below.refl _ _
  obtain⟨aC,aa⟩:=ExY V.drew
  have bF:=blD bE aa
  have bA:=bhD aS aa
  have a5:=bkD a4 aa
  have a0:=bkD aZ aa
  have aW:=boD am aa
  refine rgM (fun U=>U.cell? (Aq pl 4)=some (.slice (some (Aq g 0)) an m.sAcc.c)∧U.cell? (Aq g (k*4+1))=some (.slice xA xl.length xc)) 17 (by kernel_rfl) aa ?_
  clear aa
  have cp:Hid (aC.ownsRow B 3 1 (.slice xA xl.length xc) xl.length (Zag xl)):=Zai c7 bF
  have b9:=Zl8 aW.out HA.out aQ.out
  rw[←HX.out] at b9
  have cd:=Hi b9
  clear b9
  refine tkM [0,1,2,3,4,5,6,7,8,9,10,11,12] (⟨HA.out▸a5.out.cell 4,cd.out.1⟩) (by kernel_rfl) (fun _ _ _ _ h=>h) ?_
  iterate 13 (refine ycM rfl (by rfl) (fun w h=>by go_simp<;>rfl) ?_;try simp only[Act.put,sA,sB,sC])
  refine onM 13 (by kernel_rfl) rfl fun K hK=>?_
  go_simp
  have ag:Hid (∀U,Bw aC U→U.cell? (Aq g (k*4+1))=some (.slice xA xl.length xc)∧U.frozen? (Aq g (k*4+1))=false∧g<U.heap.size∧(∃cs,Bk U g 59 cs)∧U.ownsRow B 3 1 (.slice xA xl.length xc) xl.length (Zag xl)):=fun U hU=>by
   obtain⟨c1,c2,cs,c3⟩:=cd.out
   have c4:=c3.below hU c3.lt
   exact⟨(hU.cell (p:=Aq g (k*4+1)) c3.lt).trans c1,c4.frozen _,c4.lt,⟨cs,c4⟩,Zai cp hU⟩
  have ab:Hid (Bw aC (aC.alloc (.cells #[I 0] 3))):=(Below.refl _ _).alloc (Nat.le_refl _) _
  obtain⟨cD,N⟩:=ExY (aC.alloc (.cells #[I 0] 3))
  obtain⟨bm,bN⟩:=ExY aC.heap.size
  have cz:Hid (bm≠bu):=by
   have h:=a0.lt
   show bm≠bu
   rw[bN]
   exact Ne.symm (Nat.ne_of_lt h)
  have aT:=bhA bA aF N
  have aD:=bkA a5 N
  have bH:=bkA a0 N
  have bD:=boA aW N
  have bG:=bkW N bN
  rw[←N] at ab
  rw[←N,←bN]
  clear N bN
  refine hK.out _ _ (fun _=>⟨HA.out▸aD.out.cell 4,(ag.out _ ab.out).1⟩) ?_
  try simp only[Act.put,sA,sB,sC]
  refine onM 14 (by kernel_rfl) rfl fun K hK=>?_
  have c0:Hid (Rd cD (bm+1) 1 (some (Aq bm 0)) 1 [I 0]):=⟨rfl,fun _=>⟨_,rfl,Nat.lt_succ_self _,World.news_of_block bG⟩⟩
  refine ZaY _ rfl (.tmp 76) (.tmp 77) _ rfl B 3 i3 _ 1 8 underlying34 HJ c8 c9 da rfl (by decide) _ xl.length (Zag xl) rfl (ag.out _ ab).2.2.2.2 (bm+1) _ 1 1 [I 0] rfl c0 (by simp[Value.oneCell']) (by unfold maxLen;have:=b8.out;omega) (by have:=b8.out;omega) (Nat.le_trans aF aT.size) ?_
  intro A5 c5 al h1 h2 aP hg bL
  obtain⟨a8,Y⟩:=(ag.out _ ab.out).2.2.2.1
  have bz:=ZaL (ag.out _ ab.out).2.2.2.2 Y (by decide)
  have a7:=Y.grown hg bz
  have ay:Hid (al.cell? (Aq g (k*4+1))=some (.slice xA xl.length xc)∧al.frozen? (Aq g (k*4+1))=false∧∃cs,Bk al g 59 cs):=⟨(a7.cell _).trans ((Y.cell _).symm.trans (ag.out _ ab).1),a7.frozen _,_,a7⟩
  have cS:=Hi hg
  have ce:=Hi bL
  have ca:(xl++[(0:Int)]).length=xl.length+1:=by simp
  have ci:=Hi ca
  have cX:Hid (al.ownsRow B 3 1 (.slice A5 (xl++[(0:Int)]).length c5) (xl++[(0:Int)]).length (Zag (xl++[(0:Int)]))):=by
   show World.ownsRow _ _ _ _ _ _ _
   rw[ca]
   have e:Zag (xl++[(0:Int)])=Zag xl++[I 0]:=by simp[Zag]
   rw[e]
   exact aP
  have ck:=bD
  have bB:Hid (ZaC B pl w al):=by exact aT.grown aF hg (ZcS (ag.out _ ab).2.2.2.2)
  have ae:Hid (Bk al pl 37 (m.ar_CA (.slice A2 (m.curs.length+1) c2) (.slice m.sAcc.A an m.sAcc.c))):=by exact aD.grown hg (ZaL (ag.out _ ab).2.2.2.2 aD (by decide))
  have a1:Hid (Bk al bu 3 #[I q]):=by exact bH.grown hg (Zd6 (ag.out _ ab).2.2.2.2 bq)
  clear h1 h2 aP hg bL Y a8 bz a7 ca
  dsimp only
  refine hK.out _ _ (fun _=>⟨HA.out▸ae.out.cell 4,ay.out.1⟩) ?_
  try simp only[Act.put,sA,sB,sC]
  refine onM 15 (by kernel_rfl) rfl fun K hK=>?_
  go_simp
  refine hK.out _ _ (fun _=>⟨HA.out▸ae.out.cell 4,ay.out.1⟩) ?_
  try simp only[Act.put,sA,sB,sC]
  refine tkM [16] (⟨HA.out▸ae.out.cell 4,ay.out.1⟩) (by kernel_rfl) (fun _ _ _ _ h=>h) ?_
  (refine ycM rfl (by rfl) (fun w h=>by go_simp<;>rfl) ?_;try simp only[Act.put,sA,sB,sC])
  refine onM 17 (by kernel_rfl) rfl fun K hK=>?_
  have y0:=ay.1
  have z0:=ay.2.1
  go_simp
  clear y0 z0
  obtain⟨a8,Y⟩:=ay.2.2
  obtain⟨a6,af⟩:=ExY (al.setCell ⟨g,k*4+1,none⟩ (.slice A5 (xl.length+1) c5))
  rw[←af]
  have cT:Hid (B≤g):=by obtain⟨_,_,df,_⟩:=ZaK ck.accts HA.out;exact df
  have bC:=bhS bB af cT
  have bJ:Hid (Bk a6 pl 37 (m.ar_CA (.slice A2 (m.curs.length+1) c2) (.slice m.sAcc.A an m.sAcc.c))):=by rw[af];exact ae.far (p:=Aq g (k*4+1)) (ae.ne Y (by decide)) _
  have bI:Hid (Bk a6 bu 3 #[I q]):=by rw[af];exact a1.far (p:=Aq g (k*4+1)) (a1.ne Y (by decide)) _
  have cY:Hid (Zaa a6 B {m with curs:=m.curs++[(⟨z,s⟩:ZcB)],sCur:=⟨A2,c2⟩,accts:=l.set k {l[k]'aQ.out with A:=A5,c:=c5,cash:=xl++[0]}}):=by
   rw[af]
   have hh:=Zaa.appCash (v:=k) (l:=xl++[0]) (A:=A5) (c:=c5) ck.out HA.out aQ.out (by have e:=HX.out;dsimp only;rw[←e];exact cS.out) cX.out (by rw[ci.out];have:=b8.out;omega) (by have e:=HX.out;dsimp only;rw[←e];exact ce.out)
   rw[ci.out] at hh
   exact hh
  clear Y a8 af
  refine hK.out _ _ (fun h0=>Zac (by kernel_rfl) h0) ?_
  refine Zak (by kernel_rfl) ?_ _
  go_wp2
  exact RE.out a6 (l.set k {l[k]'aQ.out with A:=A5,c:=c5,cash:=xl++[0]}) (ZgS.step (y:={l[k]'aQ.out with A:=A5,c:=c5,cash:=xl++[0]}) HL.out aQ.out rfl (by rw[←HX.out];simp)) ⟨bC.out,bJ.out,cY.out,bI.out⟩
theorem Zlt(m:Zab)(ab R N:Int)(w:World)(hm:Zay w w.heap.size m)(aw:Gl w):
 Calls prog 30 #[m.val,I ab,I R,I N] w (Zar (Zaj m (fun m1 m2 _=>Zax m1 m2)) (Zas m (fun m1 m2 _=>Zax m1 m2) (fun _=>True)) w):=by
 show Calls prog 30 #[.agg m.ar,I ab,I R,I N] w (Zar (Zaj m (fun m1 m2 _=>Zax m1 m2)) (Zas m (fun m1 m2 _=>Zax m1 m2) (fun _=>True)) w)
 obtain⟨W1,Y⟩:=ExY (w.alloc (.cells m.ar 37))
 obtain⟨bl,ad⟩:=ExY w.heap.size
 have ax:=blB Y
 have aB:=bkW Y ad
 obtain⟨W2,U⟩:=ExY (W1.alloc (.cells #[I ab] 3))
 obtain⟨bu,ae⟩:=ExY W1.heap.size
 have ay:=blA ax U
 have aC:=bkA aB U
 have ai:=bkW U ae
 have an:bu=bl+1:=by rw[ae,Y,World.size_alloc,←ad]
 obtain⟨W3,E⟩:=ExY (W2.alloc (.cells #[I R] 3))
 obtain⟨br,Z⟩:=ExY W2.heap.size
 have aJ:Hid (br≠bu):=by
  have h:=ai.lt
  show br≠bu
  rw[Z]
  exact Ne.symm (Nat.ne_of_lt h)
 have az:=blA ay E
 have aD:=bkA aC E
 have aj:=bkA ai E
 have ah:=bkW E Z
 have am:br=bu+1:=by rw[Z,U,World.size_alloc,←ae]
 obtain⟨W4,z⟩:=ExY (W3.alloc (.cells #[I N] 3))
 obtain⟨bh,X⟩:=ExY W3.heap.size
 have aI:Hid (bh≠bu):=by
  have h:=aj.lt
  show bh≠bu
  rw[X]
  exact Ne.symm (Nat.ne_of_lt h)
 have aH:Hid (bh≠br):=by
  have h:=ah.lt
  show bh≠br
  rw[X]
  exact Ne.symm (Nat.ne_of_lt h)
 have af:=blA az z
 have ag:=bkA aD z
 have aG:=bkA aj z
 have aF:=bkA ah z
 have aA:=bkW z X
 have al:bh=br+1:=by rw[X,E,World.size_alloc,←Z]
 obtain⟨W5,C⟩:=ExY (W4.alloc (.cells zZ 37))
 obtain⟨bz,aa⟩:=ExY W4.heap.size
 have aK:Hid (bz≠bl):=by
  have h:=ag.lt
  show bz≠bl
  rw[aa]
  exact Ne.symm (Nat.ne_of_lt h)
 have aq:=blZ af aa
 have s:=blA af C
 have aE:=bkA ag C
 have L:=bkA aG C
 have J:=bkA aF C
 have G:=bkA aA C
 have ak:=bkW C aa
 have ao:bz=bh+1:=by rw[aa,z,World.size_alloc,←X]
 have HT:Hid (Calls prog 60 #[.agg m.ar,.func (.func 64) #[] #[Pt br,Pt bh,Pt bu]] W5 (Zar (Zaj m (fun m1 m2 _=>Zax m1 m2)) (Zas m (fun m1 m2 _=>Zax m1 m2) (fun _=>True)) W5)):=Hi (ZbQ 64 #[Pt br,Pt bh,Pt bu] m (fun m1 m2 _=>Zax m1 m2) (fun _=>True) W5 ((hm.below s).mono s.size) (aw.below s aw.lt) (fun pl W=>by kernel_rfl) (by
  intro m1 B pl W hp
  exact Zkj m1 R N ab B pl br bh bu W hp.size hp.bk hp.own hp.good (J.below hp.below J.lt) (G.below hp.below G.lt) (L.below hp.below L.lt) (Nat.lt_of_lt_of_le J.lt hp.base) (Nat.lt_of_lt_of_le G.lt hp.base) (Nat.lt_of_lt_of_le L.lt hp.base)))
 clear hm aw
 go_enter func30,ntmps30
 go_upto_region 1 with(fail)
 rw[←Y,←ad,←U,←an,←E,←am,←z,←al,←C,←ao]
 clear Y ad an U ae am E Z al z X ao C aa
 have aM:=aE.nine
 have aO:=L.one
 have aN:=J.one
 have aL:=G.one
 have aP:=ak.nine
 go_wp2_with fail
 refine HT.mono ?_
 rintro e W9 ⟨hb,m2,n,er,rfl,hc⟩
 have HC:=Hi hc
 have aQ:=blT s hb
 have aR:=Hi s.size
 have au:=bkN ak hb
 clear hb hc aM aO aN aL aP
 have ap:m2.val=.agg m2.ar:=rfl
 rw[ap]
 clear ap
 dsimp only
 go_wp2_with (refine wpList_store_row rfl 37 _ _ rfl bz m2.ar rfl rfl 37 zZ au ZaU (by rfl) (by simp[Value.oneCell']) ?_)
 obtain⟨V9,ac⟩:=ExY (W9.setRow bz m2.ar)
 rw[←ac]
 have aU:=bkr au ac
 have aS:=blr aQ ac aq
 have aT:(er=0∧Zaa V9 w.heap.size m2∧(Zaj m (fun m1 m2 _=>Zax m1 m2)) m2 n)∨(er≠0∧m2=Za4∧n=0∧(Zas m (fun m1 m2 _=>Zax m1 m2) (fun _=>True))):=by
  rcases HC.out with⟨h1,h2,h3⟩|h
  ·exact .inl ⟨h1,by rw[ac];exact(h2.mono aR).rowFar au (by decide) _,h3⟩
  ·exact .inr h
 exact bodyPost_ret (Zam (p:=8) (q:=9) (r:=10) results30 _ V9 bz 37 m2.ar (0,0) _ rfl aU underlying37 rfl ZaU) rfl ⟨aS,m2,n,er,rfl,aT⟩
end Go.Proofs.YtdefojlkofnloaaGreatDoor
