/- A part of the proof of CoreOnce: for every input, no condition. -/
import Derived.Test.YtdefojlkofnloaaGreatDoorZb35
set_option maxRecDepth 100000
set_option maxHeartbeats 8000000
set_option linter.unusedVariables false
set_option linter.unusedSimpArgs false
namespace Go.Proofs.YtdefojlkofnloaaGreatDoor
open Go.RowKit Go.Proofs.Tryz
theorem Zaa.lowRow{w:World}{base:Nat}{m:Zab}(h:Zaa w base m){g:Nat}(s:g<base)(cs:Array Value):Zaa (w.setRow g cs) base m:=by
 have hf:∀ {e k n c:Nat} {A:Option Addr} {xs:List Value},w.ownsRow base e k (.slice A n c) n xs→(w.setRow g cs).ownsRow base e k (.slice A n c) n xs:=fun h=>ZaF h fun p hp=>by
  obtain⟨_,_,hb,_⟩:=ZaK h hp
  exact setRow_other w g p.block cs (by omega)
 exact⟨hf h.curs,hf h.unders,hf h.instrs,hf h.accts,hf h.poss,hf h.orders,hf h.avail,hf h.locs,fun a ha=>⟨hf (h.cash a ha).1,(h.cash a ha).2⟩,h.apart,h.away,h.short⟩
theorem Zkr(m:Zab)(pa pq:Int)(k:Nat)(o1 o2 o3 o4 o5:Int)(o6:Bool)(o7 bc bb:Int)(bx BB:Nat)(w:World)(z:Bk w bx 130 m.ar)(ho:Zaa w BB m)(bH:ZbT m)(hk:k<m.instrs.length):
 Calls prog 91 #[Pt bx,.agg #[I pa,I k,I pq],.agg #[I o1,I o2,I o3,I o4,I o5,.bool o6,I o7],I bc,I bb] w fun e w'=>ZaC w.heap.size bx w w'∧∃m2:Zab,Bk w' bx 130 m2.cs.toArray ∧
  ((∃q:Int,e=.returned (.agg #[I pa,I k,I q])∧Zbi m m2∧Zaa w' w.heap.size m2)∨(∃er:Int,er≠0∧e=Pan 181 er)):=by
 obtain⟨B,hB⟩:=ExY w.heap.size
 have Y:Hid (B≤w.heap.size):=by rw[hB];exact Nat.le_refl _
 have aa:=Hi hB
 have bw:=Hi z
 have bi:=Hi ho
 have bL:=Hi bH
 have HK:=Hi hk
 clear hB z ho bH hk
 have aJ:Hid (ZaC B bx w w):=ZaC.refl _ _ _
 obtain⟨W1,ah⟩:=ExY (w.alloc (.cells #[I pa,I k,I pq] 50))
 obtain⟨b6,aE⟩:=ExY w.heap.size
 have a9:Hid (B≤b6):=by rw[aE];exact Nat.le_trans Y aJ.size
 have bd:=bhA aJ Y ah
 have bA:=bkA bw ah
 have bj:=boA bi ah
 have bt:=bkW ah aE
 obtain⟨W2,ad⟩:=ExY (W1.alloc (.cells #[I o1,I o2,I o3,I o4,I o5,.bool o6,I o7] 66))
 obtain⟨b7,aH⟩:=ExY W1.heap.size
 have aK:=bhA bd Y ad
 have bB:=bkA bA ad
 have aR:=bkA bt ad
 have bl:=boA bj ad
 have bu:=bkW ad aH
 have a3:b7=b6+1:=by rw[aH,ah,World.size_alloc,←aE]
 obtain⟨W3,ae⟩:=ExY (W2.alloc (.cells #[I 0,I 0,I 0] 50))
 obtain⟨bz,aF⟩:=ExY W2.heap.size
 have aB:Hid (bz≠b6):=by
  have h:=aR.lt
  show bz≠b6
  rw[aF]
  exact Ne.symm (Nat.ne_of_lt h)
 have ba:Hid (B≤bz):=by rw[aF];exact Nat.le_trans Y aK.size
 have be:=bhA aK Y ae
 have aw:=bkA bB ae
 have aS:=bkA aR ae
 have aX:=bkA bu ae
 have aN:=boA bl ae
 have a0:=bkW ae aF
 have a4:bz=b7+1:=by rw[aF,ad,World.size_alloc,←aH]
 go_enter func91,ntmps91
 go_upto_region 1 with(fail)
 rw[←ah,←aE,←ad,←a3,←ae,←a4]
 clear ah aE a3 ad aH a4 ae aF
 have G:=aw.nine
 have E:=aS.three
 have ac:=aX.seven
 have J:=a0.three
 go_wp2_with fail
 refine(Zd2 m bx k pq o7 _ aw aN.rd HK).mono ?_
 rintro e W4 ⟨he,z⟩
 have aL:=bhU be Y z
 have ax:=bkN aw z
 have aT:=bkN aS z
 have aY:=bkN aX z
 have a1:=bkN a0 z
 have bn:=boN aN z
 clear G E ac J
 clear z
 have G:=ax.nine
 have E:=aT.three
 have ac:=aY.seven
 have J:=a1.three
 rcases he with⟨bI,rfl⟩|⟨er,L,he⟩
 rotate_left
 ·unfold Pan at he
  subst he
  dsimp only
  go_wp2
  exact⟨rfl,aa.out▸aL.out,m,ax.out,.inr ⟨er,L,rfl⟩⟩
 dsimp only
 go_wp2_with fail
 refine(Zdk pq bc bb 2 _).mono ?_
 rintro e w' ⟨rfl,mm,N⟩
 have z:Bw W4 w':=by rw[N];exact Below.drewN' (Below.refl _ _) _
 clear N mm
 rename World=>W5
 have aj:=bhU aL Y z
 have ab:=bkN ax z
 have aU:=bkN aT z
 have bv:=bkN aY z
 have a2:=bkN a1 z
 have ap:=boN bn z
 clear G E ac J
 clear z
 have G:=ab.nine
 have E:=aU.three
 have ac:=bv.seven
 have J:=a2.three
 dsimp only
 obtain⟨⟨q,er⟩,hx⟩:∃p,p=Za3 pq bc bb 2:=⟨_,rfl⟩
 rw[←hx]
 dsimp only
 clear hx
 go_wp2_with fail
 refine(ZcM q er _).mono ?_
 rintro e w' ⟨N,⟨L,he⟩|⟨L,he⟩⟩
 rotate_left
 ·unfold Pan at he
  subst he
  rw[N]
  clear N w'
  dsimp only
  go_wp2
  exact⟨rfl,aa.out▸aj.out,m,ab.out,.inr ⟨er,L,rfl⟩⟩
 subst he
 rw[N]
 clear N w' L
 dsimp only
 by_cases d1 : -1000000000≤q
 rotate_left
 ·go_wp2_with fail
  refine Cq (Zau 36 _) ?_
  dsimp only
  go_wp2
  exact⟨rfl,aa.out▸aj.out,m,ab.out,.inr ⟨36,(by decide),rfl⟩⟩
 by_cases d2:q≤1000000000
 rotate_left
 ·go_wp2_with fail
  refine Cq (Zau 36 _) ?_
  dsimp only
  go_wp2
  exact⟨rfl,aa.out▸aj.out,m,ab.out,.inr ⟨36,(by decide),rfl⟩⟩
 go_wp2_with fail
 refine Cq (Za7 36 _) ?_
 dsimp only
 clear d1 d2
 obtain⟨g,hA,-,-,-⟩:=Zbb ap.instrs (Nat.lt_of_le_of_lt (Nat.zero_le _) HK)
 obtain⟨-,-,-,-,-,-,c6,-,lg,-,-⟩:=ZdI ap hA HK
 obtain⟨mk,bF⟩:∃x:Int,W5.cell? ⟨g,k*7+6,none⟩=some (I x):=⟨_,c6⟩
 have bh:Hid (∀U,Bw W5 U→U.cell? (Aq g (k*7+6))=some (I mk)):=fun U hU=>(hU.cell (p:=Aq g (k*7+6)) lg).trans bF
 have HA:=Hi hA
 have k0:(0:Int)≤(k:Int):=Int.natCast_nonneg k
 have k1:(k:Int)<(m.instrs.length:Int):=Int.ofNat_lt.mpr HK
 clear hA c6 bF lg
 go_upto_region 4 with(fail)
 have br:Hid (Bw W5 W5):=Below.refl _ _
 clear G E ac J
 obtain⟨W6,af⟩:=ExY W5.drew
 have aQ:=blD br af
 have bf:=bhD aj af
 have ay:=bkD ab af
 have aV:=bkD aU af
 have bC:=bkD a2 af
 have aO:=boD ap af
 refine rgH (S:=(fun U=>U.cell? (Aq b6 1)=some (I k)∧U.cell? (Aq bx 3)=some (.slice (some (Aq g 0)) m.instrs.length m.sIns.c)∧U.cell? (Aq g (k*7+6))=some (I mk))) (by kernel_rfl) af ⟨aV.out.cell 1,HA.out▸ay.out.cell 3,bh.out _ aQ.out⟩ fun s=>?_
 clear af
 refine tkH [0,1,2,3,4,5,6,7,8,9,10,11,12,13] s (by kernel_rfl) (fun _ _ _ _ h=>h) ?_
 iterate 14 (refine ycH rfl (by rfl) (fun w h=>by go_simp<;>rfl) ?_;try simp only[Act.put,sA,sB,sC])
 refine onH 14 (by kernel_rfl) rfl fun K hK=>?_
 go_simp
 refine(Zd2 m bx k _ _ _ ay aO.rd HK).mono ?_
 rintro e W7 ⟨he,z⟩
 have bs:=blT aQ z
 have aM:=bhU bf Y z
 have az:=bkN ay z
 have aW:=bkN aV z
 have bD:=bkN bC z
 have bo:=boN aO z
 clear z
 rcases he with⟨is,rfl⟩|⟨er,L,he⟩
 rotate_left
 ·unfold Pan at he
  subst he
  dsimp only
  go_wp2
  exact⟨rfl,aa.out▸aM.out,m,az.out,.inr ⟨er,L,rfl⟩⟩
 dsimp only
 refine hK.out _ _ (⟨aW.out.cell 1,HA.out▸az.out.cell 3,bh.out _ bs.out⟩) (fun s=>?_)
 try simp only[Act.put,sA,sB,sC]
 refine tkH [15] s (by kernel_rfl) (fun _ _ _ _ h=>h) ?_
 (refine ycH rfl (by rfl) (fun w h=>by go_simp<;>rfl) ?_;try simp only[Act.put,sA,sB,sC])
 refine wpAnyH_done (by kernel_rfl) ?_ _
 clear s
 go_upto_region 5 with(fail)
 obtain⟨⟨df,ed⟩,hd⟩:∃p,p=ZhA bI is:=⟨_,rfl⟩
 have bq:=Hi (fun W=>ZdY bI is W)
 rw[←hd] at bq
 clear hd
 obtain⟨W8,ai⟩:=ExY W7.drew
 have bg:=bhD aM ai
 have aZ:=bkD az ai
 have aq:=bkD aW ai
 have bE:=bkD bD ai
 have aP:=boD bo ai
 refine rgK (by kernel_rfl) ai (CsA aq 1 rfl (CsB aq 0 rfl)) fun s=>?_
 clear ai
 refine tkH [0,1,2,3,5,6,11,12] s (by kernel_rfl) (fun _ _ _ _ h=>h) ?_
 iterate 8 (refine ycH rfl (by rfl) (fun w h=>by simp only[Cs] at h;go_simp<;>rfl) ?_;try simp only[Act.put,sA,sB,sC])
 refine onH 4 (by kernel_rfl) rfl fun K hK=>?_
 go_simp
 refine(Zgv m bx k _ aZ aP.rd bL HK).mono ?_
 rintro e W9 ⟨⟨x,rfl⟩,z⟩
 have ak:=bhU bg Y z
 have al:=bkN aZ z
 have C:=bkN aq z
 have am:=bkN bE z
 have bp:=boN aP z
 clear z
 dsimp only
 refine hK.out _ _ (⟨C.cell 1,C.cell 0⟩) (fun s=>?_)
 try simp only[Act.put,sA,sB,sC]
 refine onH 7 (by kernel_rfl) rfl fun K hK=>?_
 go_simp
 refine Cq (bq.out _) ?_
 dsimp only
 refine hK.out _ _ (⟨C.cell 1,C.cell 0⟩) (fun s=>?_)
 try simp only[Act.put,sA,sB,sC]
 refine tkH [8,9] s (by kernel_rfl) (fun _ _ _ _ h=>h) ?_
 iterate 2 (refine ycH rfl (by rfl) (fun w h=>by simp only[Cs] at h;go_simp<;>rfl) ?_;try simp only[Act.put,sA,sB,sC])
 refine onH 10 (by kernel_rfl) rfl fun K hK=>?_
 go_simp
 refine(ZcM df ed _).mono ?_
 rintro e w' ⟨N,⟨L,he⟩|⟨L,he⟩⟩
 rotate_left
 ·unfold Pan at he
  subst he
  rw[N]
  clear N w'
  dsimp only
  go_wp2
  exact⟨rfl,aa.out▸ak.out,m,al.out,.inr ⟨ed,L,rfl⟩⟩
 subst he
 rw[N]
 clear N w' L
 dsimp only
 refine hK.out _ _ (⟨C.cell 1,C.cell 0⟩) (fun s=>?_)
 try simp only[Act.put,sA,sB,sC]
 refine onH 13 (by kernel_rfl) rfl fun K hK=>?_
 go_simp
 refine(ZgC m bx x df 1 pa _ al bp.rd).mono ?_
 rintro e an ⟨hh,he⟩
 have ao:Hid (ZaC B bx w an):=ak.trans (hh.weak (Nat.le_trans Y ak.size))
 have R:Hid (Bk an b6 50 #[I pa,I k,I pq]):=C.hole hh C.lt ((C.ne al (by decide)))
 have aA:Hid (Bk an bz 50 #[I 0,I 0,I 0]):=am.hole hh am.lt ((am.ne al (by decide)))
 obtain⟨B4,aC⟩:=ExY W9.heap.size
 have bM:Hid (w.heap.size≤B4):=by rw[aC];exact ak.size
 have bJ:Hid (b6<B4):=by rw[aC];exact C.lt
 have bN:Hid (bz<B4):=by rw[aC];exact am.lt
 rw[←aC] at he
 rcases he with⟨he,m2,aI,bG,ho⟩|⟨er,L,he,aI⟩
 rotate_left
 ·unfold Pan at he
  subst he
  dsimp only
  go_wp2
  exact⟨rfl,aa.out▸ao.out,m,aI,.inr ⟨er,L,rfl⟩⟩
 subst he
 have au:Hid (Bk an bx 130 m2.ar):=aI
 have bK:=Hi bG
 have a6:Hid (Zaa an B4 m2):=ho
 clear hh aI bG ho aC
 dsimp only
 refine hK.out _ _ (⟨R.cell 1,R.cell 0⟩) (fun s=>?_)
 try simp only[Act.put,sA,sB,sC]
 refine wpAnyH_done (by kernel_rfl) ?_ _
 clear s
 have G:=au.nine
 have E:=R.three
 have J:=aA.three
 go_upto_region 7 with(fail)
 obtain⟨aG,X⟩:=ExY (an.setCell ⟨b6,2,none⟩ (I q))
 rw[←X]
 have a5:=bhS ao X a9
 have ag:=bkF au X R rfl
 have a8:Hid (Bk aG b6 50 #[I pa,I k,I q]):=bkS R 2 X
 have Z:Hid (Bk aG bz 50 #[I 0,I 0,I 0]):=by rw[X];exact(aA.far (p:=Aq b6 2) (aB.out) _)
 have a7:Hid (Zaa aG B4 m2):=by rw[X];exact(a6.low bJ 2 _)
 clear G E J
 clear X
 have G:=ag.nine
 have E:=a8.three
 have J:=Z.three
 go_wp2_with (refine wpList_store_row rfl 50 _ _ rfl bz #[I pa,I k,I q] rfl rfl 50 #[I 0,I 0,I 0] Z ZmM (by rfl) (by simp[Value.oneCell']) ?_)
 clear G E J
 obtain⟨V9,aD⟩:=ExY (aG.setRow bz #[I pa,I k,I q])
 rw[←aD]
 have bR:=bkr Z aD
 have bO:ZaC B bx w V9:=by rw[aD];exact a5.row_up ba
 have bQ:Bk V9 bx 130 m2.ar:=by rw[aD];exact ag.rowFar (ag.ne Z (by decide)) _
 have bP:Zaa V9 w.heap.size m2:=by rw[aD];exact(Zaa.lowRow a7 bN _).mono bM
 exact bodyPost_ret (results_cell_row (p:=10) results91 _ V9 bz 50 #[I pa,I k,I q] (0,0) _ rfl bR underlying50 rfl ZmM) rfl ⟨aa.out▸bO,m2,bQ,.inl ⟨⟨q,rfl⟩,bK.out,bP⟩⟩
theorem Zaa.setPosC{w:World}{base:Nat}{m:Zab}(h:Zaa w base m){g v j:Nat}{x:P.Lc}{u:Value}(C:m.sPos.A=some (Aq g 0))(L:v<m.poss.length)(J:j<3)(N:x.cells=(m.poss[v]).cells.set j u):Zaa (w.setCell (Aq g (v*3+j)) u) base {m with poss:=m.poss.set v x}:=by
 have G:∀x:P.Lc,x.cells.length=3:=fun _=>rfl
 obtain⟨cs,_,_,hb⟩:=ZaK h.poss C
 have E:v*3+j<m.poss.length*3:=by omega
 have e1:=ZbA (C▸h.poss) (v*3+j) E u
 have e2:(P.lcs m.poss).set (v*3+j) u=P.lcs (m.poss.set v x):=ZcI (f:=P.Lc.cells) G m.poss v L j J u x N
 rw[e2] at e1
 have s:(m.poss.set v x).length=m.poss.length:=List.length_set ..
 have z:(w.setCell (Aq g (v*3+j)) u).ownsRow base 50 3 (.slice m.sPos.A (m.poss.set v x).length m.sPos.c) (m.poss.set v x).length (P.lcs (m.poss.set v x)):=by
  rw[s,C];exact e1
 have hl:(m.poss.set v x).length≤1000000:=by rw[s];exact h.short.2.2.2.2.1
 exact⟨Zad h.curs hb (by decide),Zad h.unders hb (by decide),Zad h.instrs hb (by decide),Zad h.accts hb (by decide),z,Zad h.orders hb (by decide),Zad h.avail hb (by decide),Zad h.locs hb (by decide),fun a ha=>⟨Zad (h.cash a ha).1 hb (by decide),(h.cash a ha).2⟩,h.apart,h.away,h.short.1,h.short.2.1,h.short.2.2.1,h.short.2.2.2.1,hl,h.short.2.2.2.2.2⟩
theorem Zaa.setPos3{w:World}{base:Nat}{m:Zab}(h:Zaa w base m){g v:Nat}(E:m.sPos.A=some (Aq g 0))(G:v<m.poss.length)(s z C:Int):
 Zaa (((w.setCell (Aq g (v*3)) (I s)).setCell (Aq g (v*3+1)) (I z)).setCell (Aq g (v*3+2)) (I C)) base {m with poss:=m.poss.set v ⟨s,z,C⟩}:=by
 have h1:=h.setPosC (j:=0) (x:=⟨s,(m.poss[v]).instr,(m.poss[v]).qty⟩) (u:=I s) E G (by decide) rfl
 have v2:v<(m.poss.set v ⟨s,(m.poss[v]).instr,(m.poss[v]).qty⟩).length:=by rw[List.length_set];exact G
 have h2:=h1.setPosC (j:=1) (x:=⟨s,z,(m.poss[v]).qty⟩) (u:=I z) E v2 (by decide) (by simp[P.Lc.cells])
 have v3:v<((m.poss.set v ⟨s,(m.poss[v]).instr,(m.poss[v]).qty⟩).set v ⟨s,z,(m.poss[v]).qty⟩).length:=by rw[List.length_set];exact v2
 have h3:=h2.setPosC (j:=2) (x:=⟨s,z,C⟩) (u:=I C) E v3 (by decide) (by simp[P.Lc.cells])
 have e:((m.poss.set v ⟨s,(m.poss[v]).instr,(m.poss[v]).qty⟩).set v ⟨s,z,(m.poss[v]).qty⟩).set v ⟨s,z,C⟩=m.poss.set v ⟨s,z,C⟩:=by rw[List.set_set,List.set_set]
 dsimp only at h3
 rw[e] at h3
 exact h3
theorem Zkd{w:World}{base n c g v:Nat}{xs:List Value}(h:w.ownsRow base 50 3 (.slice (some (Aq g 0)) n c) n xs)(s:v<n)(z:xs.length=n*3):w.there g (v*3) 3:=fun j hj=>by
 obtain⟨h1,h2⟩:=Zbh h (v*3+j) (by omega)
 refine⟨?_,h2⟩
 rw[h1,List.getElem?_eq_getElem (by omega)]
 rfl
theorem Zj8{w:World}{base e k n c g:Nat}{A:Option Addr}{xs:List Value}(h:w.ownsRow base e k (.slice A n c) n xs)(s:∀p,A=some p→p.block≠g)(cs:Array Value):(w.setRow g cs).ownsRow base e k (.slice A n c) n xs:=
 ZaF h fun p hp=>setRow_other w g p.block cs (s p hp)
theorem ZfS{ops:Array Oper}{o:Oper}{a:Act}{w:World}{K:Act→World→Prop}{Q:Exit→Act→World→Prop}{E:Prop}(s:o.guard=none)(z:TypeId)(x y:Operand)(G:o.op=.store z x y)(b i:Nat)(cells:Array Value)(L:a.eval x=.pointer (some (Aq b i)))(N:a.eval y=.agg cells)(J:w.there b i cells.size)(hi:(prog.info? z).map (·.size)=some cells.size)(C:cells.all (·.oneCell')=true)(h:K (a.put o.dst undef) (w.setCells b i cells.toList)):if Region.wanted o (yielded ops a.tmps)=true then Oper.wp prog o a w K Q else E:=by
 have hw:Region.wanted o (yielded ops a.tmps)=true:=by simp[Region.wanted,s]
 rw[if_pos hw]
 exact wp_store_mid z x y G b i cells L N J hi C h
theorem ZmQ{w:World}{base n c:Nat}{A:Option Addr}{l:List L.Lc}(h:w.ownsRow base 72 3 (.slice A n c) n (L.lcs l))(C:l.length=n){k:Nat}(z:k<l.length):∃g,A=some (Aq g 0)∧w.cell? (Aq g (k*3))=some (I (l[k]).acct)∧w.cell? (Aq g (k*3+1))=some (I (l[k]).instr)∧w.cell? (Aq g (k*3+2))=some (I (l[k]).qty):=by
 obtain⟨g,hg,_,_,_⟩:=Zbb h (by omega)
 have s:∀x:L.Lc,x.cells.length=3:=fun _=>rfl
 have c:=fun j (hj:j<3)=>(Zbh (hg▸h) (k*3+j) (by omega)).1.trans (Zb3 (f:=L.Lc.cells) s l k z j hj)
 exact⟨g,hg,c 0 (by decide),c 1 (by decide),c 2 (by decide)⟩
theorem Zit{w:World}{base n c:Nat}{A:Option Addr}{l:List O.Lc}(h:w.ownsRow base 45 5 (.slice A n c) n (O.lcs l))(C:l.length=n){k:Nat}(z:k<l.length):∃g,A=some (Aq g 0)∧w.cell? (Aq g (k*5))=some (I (l[k]).acct)∧w.cell? (Aq g (k*5+1))=some (I (l[k]).id)∧w.cell? (Aq g (k*5+2))=some (I (l[k]).instr)∧w.cell? (Aq g (k*5+3))=some (I (l[k]).qty)∧w.cell? (Aq g (k*5+4))=some (I (l[k]).price):=by
 obtain⟨g,hg,_,_,_⟩:=Zbb h (by omega)
 have s:∀x:O.Lc,x.cells.length=5:=fun _=>rfl
 have c:=fun j (hj:j<5)=>(Zbh (hg▸h) (k*5+j) (by omega)).1.trans (Zb3 (f:=O.Lc.cells) s l k z j hj)
 exact⟨g,hg,c 0 (by decide),c 1 (by decide),c 2 (by decide),c 3 (by decide),c 4 (by decide)⟩
theorem Zk5{m:Zab}(h:Za2 m=true):∀j (hj:j<m.locs.length),0≤(m.locs[j]).instr∧(m.locs[j]).instr<m.instrs.length:=fun j hj=>by
 have hl:=(ZbI h).2.2.2.2.2.1
 unfold L.goodB at hl
 simp only[Bool.and_eq_true] at hl
 have h1:=(L.upto_iff _ _).1 hl.2.2 j hj
 simp only[L.inAt,decide_eq_true_eq] at h1
 have e:m.locs.getD j default=m.locs[j]:=by simp[hj]
 rw[e] at h1
 exact⟨h1.2.2.1,h1.2.2.2.1⟩
theorem ZlK(m:Zab):m.la.length=m.accts.length:=List.length_map ..
theorem ZmP{m:Zab}{v:Nat}(h:v<m.accts.length):m.la.getD v 0=(m.accts.getD v default).last:=by
 simp[Zab.la,List.getD,h]
theorem ZjW{l z:List Int}(s:∀x∈z,x=0)(v:Nat):(l++z).getD v 0=l.getD v 0:=by
 by_cases h:v<l.length
 ·simp only[List.getD]
  rw[List.getElem?_append_left h]
 ·simp only[List.getD]
  rw[List.getElem?_append_right (by omega),List.getElem?_eq_none (l:=l) (by omega)]
  cases h2:z[v-l.length]? with
  |none=>rfl
  |some x=>exact s x (List.mem_of_getElem? h2)
theorem Zmf{l:List O.Lc}{o:O.Lc}(h:(O.putL l o).2=0):∀x∈(O.putL l o).1,x=o∨x∈l:=by
 intro x hx
 unfold O.putL at h hx
 by_cases h1:O.thereB l o=true
 ·rw[if_pos h1] at h;cases h
 rw[if_neg h1] at h hx
 by_cases h2:32≤l.length
 ·rw[if_pos h2] at h;cases h
 rw[if_neg h2] at hx
 rcases List.mem_append.1 hx with h3|h3
 ·exact .inr (List.mem_of_mem_take h3)
 ·rcases List.mem_cons.1 h3 with h4|h4
  ·exact .inl h4
  ·exact .inr (List.mem_of_mem_drop h4)
theorem Zil{l:List O.Lc}{a i:Int}:∀x∈(O.dropL l a i).1,x∈l:=by
 intro x hx
 unfold O.dropL at hx
 by_cases h1:O.thereB l ⟨a,i,0,0,0⟩=true
 ·rw[if_pos h1] at hx
  rcases List.mem_append.1 hx with h3|h3
  ·exact List.mem_of_mem_take h3
  ·exact List.mem_of_mem_drop h3
 ·rw[if_neg h1] at hx;cases hx
theorem Zc0.la{m s:Zab}{o:O.Lc}(h:Zc0 m o s):s.la=m.la.set o.acct.toNat o.id:=by
 have:=congrArg (List.map ZfL.last) h.accts
 rw[List.map_map] at this
 refine Eq.trans (b:=List.map (ZfL.last∘ZaA.p) s.accts) rfl (this.trans ?_)
 apply List.ext_getElem
 ·simp[Zab.la]
 ·intro i h1 h2
  simp only[List.getElem_map,List.getElem_modify,List.getElem_set,Zab.la]
  by_cases hk:o.acct.toNat=i
  ·rw[if_pos hk,if_pos hk];rfl
  ·rw[if_neg hk,if_neg hk];rfl
theorem Zkg{m z L C:Zab}{o:O.Lc}(J:ZaZ m o.acct)(G:z.accts.map ZaA.p=m.accts.map ZaA.p)(N:∀x∈z.orders,x∈m.orders)(h:Zc0 z o L)(E:Zbo L C):
 Zfd m.la C.la m.orders C.orders o.acct o.id o.qty:=by
 have hg:=ZdR J.1
 have hn:z.accts.length=m.accts.length:=by
  have:=congrArg List.length G
  rw[List.length_map,List.length_map] at this
  exact this
 have s:=ZmC G
 have h1:=h.ok.last
 have ha:=J.2
 rw[←ZmP (by omega),s] at h1
 refine⟨⟨ha.1,by rw[ZlK];exact ha.2,by rw[ZlK];exact hg.2.1⟩,h1,?_,h.ok.qty.2,fun x hx=>?_⟩
 ·rw[E.la,h.la,s]
 ·rw[E.orders,h.orders] at hx
  rcases Zmf h.ok.put x hx with rfl|h3
  ·exact .inl ⟨rfl,rfl,rfl⟩
  ·exact .inr (N x h3)
theorem ZjY{m z s:Zab}(E:∀v:Nat,v<16→z.la.getD v 0=m.la.getD v 0)(G:∀x∈z.orders,x∈m.orders)(C:Zbo z s):Zfa m.la s.la m.orders s.orders:=
 ⟨fun v hv=>by rw[C.la];exact E v hv,fun x hx=>G x (by rw[C.orders] at hx;exact hx)⟩
theorem Zcc{m s:Zab}{n:Int}{R:Zab→Zab→Int→Prop}(z:∀a b,R a b n→(∀v:Nat,v<16→b.la.getD v 0=a.la.getD v 0)∧∀x∈b.orders,x∈a.orders)(h:Zaj m R s n):Zfa m.la s.la m.orders s.orders:=by
 obtain⟨_,m1,m2,hs,hr,hf⟩:=h
 obtain⟨r1,r2⟩:=z m1 m2 hr
 refine ZjY (fun v hv=>?_) (fun x hx=>?_) hf
 ·rw[r1 v hv,ZmC hs.accts]
 ·have:=r2 x hx
  rwa [hs.orders] at this
theorem ZdU{a b:Zab}(h:Zax a b):(∀v:Nat,v<16→b.la.getD v 0=a.la.getD v 0)∧∀x∈b.orders,x∈a.orders:=by
 obtain⟨z,hz,he⟩:=h.last
 refine⟨fun v _=>?_,fun x hx=>by rw[h.orders] at hx;exact hx⟩
 have:b.la=a.la++z:=he
 rw[this]
 exact ZjW hz v
theorem Zk0{m J:Zab}{acct id q n:Int}(h:Zc3 m acct id q J n):ZfV m.la J.la m.orders J.orders acct id q n:=by
 obtain⟨ht,hc,hn,hq,k,m2,s1,s2,hk,N,_,hs,hf⟩:=h
 have hg:=ZdR ht.1
 have G:=O.good_sorted hg.1
 have L:J.la=m.la:=hf.la.trans (hs.last)
 refine⟨fun v _=>by rw[L],?_⟩
 obtain⟨T,M,D,ha⟩:=O.about_of G acct id
 rcases ha.mid with rfl|⟨x,rfl,e1,e2⟩
 ·have h0:=ha.find0 G
  omega
 have hx:x∈m.orders:=by rw[ha.eq];simp
 have R:=of_decide_eq_true (((O.good_iff 16 12 m.orders).1 hg.1).2.1 x hx)
 have s:J.orders=(O.cutL m.orders acct id q).1:=hf.orders
 rw[ha.cut1] at hc hn s
 have C:(x.qty<0→Zef x.qty = -x.qty)∧(¬x.qty<0→Zef x.qty=x.qty):=by unfold Zef;exact⟨fun h=>if_pos h,fun h=>if_neg h⟩
 have E:=ha.no
 have z:∀o,o∈T∨o∈D→o∈m.orders∧¬(o.acct=acct∧o.id=id):=fun o ho=>by
  constructor
  ·rw[ha.eq]
   rcases ho with h|h
   ·exact List.mem_append_left _ h
   ·exact List.mem_append_right _ (List.mem_append_right _ h)
  ·rcases ho with h|h
   ·exact(O.is_false o acct id).1 (E.1 o h)
   ·exact(O.is_false o acct id).1 (E.2 o h)
 by_cases c1:q<1∨Zef x.qty<q
 ·rw[if_pos c1] at hc;cases hc
 rw[if_neg c1] at hc hn s
 have hb:Zef x.qty≤1000000000:=by
  by_cases h0:x.qty<0
  ·have:=C.1 h0;omega
  ·have:=C.2 h0;omega
 by_cases c2:Zef x.qty=q
 ·rw[if_pos c2] at hc hn s
  dsimp only at hn s
  refine⟨x,hx,e1,e2,by omega,by omega,hb,by omega,fun o ho=>?_⟩
  rw[s] at ho
  refine .inr (z o ?_)
  rcases List.mem_append.1 ho with h|h
  ·exact .inl h
  ·exact .inr (by simpa using h)
 ·rw[if_neg c2] at hc hn s
  dsimp only at hn s
  refine⟨x,hx,e1,e2,by omega,by omega,hb,by omega,fun o ho=>?_⟩
  rw[s] at ho
  rcases List.mem_append.1 ho with h|h
  ·exact .inr (z o (.inl h))
  ·rcases List.mem_append.1 h with h3|h3
   ·refine .inl ?_
    rw[List.mem_singleton.1 h3]
    refine⟨e1,e2,?_⟩
    dsimp only
    unfold Zef at *
    by_cases h0:x.qty<0
    ·rw[if_pos h0] at c1 c2 ⊢
     rw[if_pos h0,if_pos (by omega)]
     omega
    ·rw[if_neg h0] at c1 c2 ⊢
     rw[if_neg h0,if_neg (by omega)]
   ·exact .inr (z o (.inr h3))
theorem ZgA{z:EvP}{m C:Zab}{n:Int}(h:Zga z m C n):
 (z.kind=1→Zfd m.la C.la m.orders C.orders z.acct z.id z.qty)∧(z.kind=3→Zfd m.la C.la m.orders C.orders z.acct z.new z.qty) ∧
 (z.kind=4→ZfV m.la C.la m.orders C.orders z.acct z.id z.qty n)∧(z.kind≠1→z.kind≠3→z.kind≠4→Zfa m.la C.la m.orders C.orders):=by
 obtain⟨k1,k2,h⟩:=h
 refine⟨fun hk=>?_,fun hk=>?_,fun hk=>?_,fun n1 n3 n4=>?_⟩
 ·rw[if_pos (by omega)] at h
  unfold Za5 at h
  rw[if_pos hk] at h
  obtain⟨_,ht,m2,hp,hf⟩:=h
  exact Zkg (o:=⟨z.acct,z.id,z.instr,z.qty,z.price⟩) ht rfl (fun x hx=>hx) hp hf
 ·rw[if_pos (by omega)] at h
  unfold Za5 at h
  rw[if_neg (by omega),if_neg (by omega),if_pos hk] at h
  obtain⟨_,ht,_,ins,m2,m3,hs,hp,hf⟩:=h
  exact Zkg (o:=⟨z.acct,z.new,ins,z.qty,z.price⟩) (m:=m) ht hs.accts (fun x hx=>by rw[hs.orders] at hx;exact Zil x hx) hp hf
 ·rw[if_pos (by omega)] at h
  unfold Za5 at h
  rw[if_neg (by omega),if_neg (by omega),if_neg (by omega)] at h
  exact Zk0 h
 ·by_cases c4:z.kind≤4
  ·rw[if_pos c4] at h
   unfold Za5 at h
   rw[if_neg (by omega),if_pos (by omega)] at h
   obtain⟨_,_,_,m2,hs,hf⟩:=h
   exact ZjY (fun v _=>by rw[ZmC hs.accts];rfl) (fun x hx=>by rw[hs.orders] at hx;exact Zil x hx) hf
  rw[if_neg c4] at h
  by_cases J:z.kind≤12
  ·rw[if_pos J] at h
   unfold ZaI at h
   by_cases c5:z.kind=5
   ·rw[if_pos c5] at h
    exact Zcc (fun a b hr=>ZdU hr) h
   rw[if_neg c5] at h
   by_cases c6:z.kind=6
   ·rw[if_pos c6] at h
    exact Zcc (fun a b hr=>ZdU hr) h
   rw[if_neg c6] at h
   by_cases c7:z.kind=7
   ·rw[if_pos c7] at h
    exact Zcc (fun a b hr=>ZdU hr.1) h
   rw[if_neg c7] at h
   by_cases c8:z.kind=8
   ·rw[if_pos c8] at h
    refine Zcc (fun a b hr=>?_) h
    obtain⟨A,c,s,rfl⟩:=hr
    refine⟨fun v _=>?_,fun x hx=>hx⟩
    unfold Zab.la
    rw[List.map_append]
    exact ZjW (by simp) v
   rw[if_neg c8] at h
   by_cases c9:z.kind=9
   ·rw[if_pos c9] at h
    refine Zcc (fun a b hr=>?_) h
    obtain⟨s,rfl⟩:=hr
    exact⟨fun v _=>rfl,fun x hx=>hx⟩
   rw[if_neg c9] at h
   by_cases G:z.kind=10
   ·rw[if_pos G] at h
    refine Zcc (fun a b hr=>?_) h
    obtain⟨s1,s2,rfl⟩:=hr
    exact⟨fun v _=>rfl,fun x hx=>hx⟩
   rw[if_neg G] at h
   exact Zcc (fun a b hr=>ZdU hr) h
  ·rw[if_neg J] at h
   unfold Zbn at h
   have E:∀a b:Zab,Zci a b→(∀v:Nat,v<16→b.la.getD v 0=a.la.getD v 0)∧∀x∈b.orders,x∈a.orders:=fun a b hr=>⟨fun v _=>by unfold Zab.la;rw[hr.1],hr.2⟩
   by_cases L:z.kind=13
   ·rw[if_pos L] at h
    exact Zcc (fun a b hr=>E a b hr) h
   rw[if_neg L] at h
   by_cases N:z.kind=14
   ·rw[if_pos N] at h
    exact Zcc (fun a b hr=>ZdU hr) h
   rw[if_neg N] at h
   by_cases R:z.kind=15
   ·rw[if_pos R] at h
    exact Zcc (fun a b hr=>ZdU hr) h
   rw[if_neg R] at h
   exact Zcc (fun a b hr=>E a b hr) h
theorem Zlv(ev:EvP)(m:Zab)(w:World)(hm:Zay w w.heap.size m)(aN:Gl w):
 Calls prog 21 #[ev.val,m.val] w (Zar (fun m2 n=>Za5 ev m m2 n) (Zbw ev m) w):=by
 obtain⟨xk,xa,xi,xw,xn,xu,xc,xq,xp,xm,xl,xs⟩:=ev
 obtain⟨W1,ay⟩:=ExY (w.alloc (.cells #[I xk,I xa,I xi,I xw,I xn,I xu,I xc,I xq,I xp,I xm,.bool xl,.string xs] 77))
 obtain⟨b2,aB⟩:=ExY w.heap.size
 have aJ:=blB ay
 have aK:=bkW ay aB
 obtain⟨W2,ap⟩:=ExY (W1.alloc (.cells m.ar 37))
 obtain⟨b3,aC⟩:=ExY W1.heap.size
 have aD:=blA aJ ap
 have aL:=bkA aK ap
 have aE:=bkW ap aC
 have aF:b3=b2+1:=by rw[aC,ay,World.size_alloc,←aB]
 obtain⟨W3,aq⟩:=ExY (W2.alloc (.cells zZ 37))
 obtain⟨b4,az⟩:=ExY W2.heap.size
 have aM:Hid (b4≠b3):=by
  have h:=aE.lt
  show b4≠b3
  rw[az]
  exact Ne.symm (Nat.ne_of_lt h)
 have ai:=blZ aD az
 have ab:=blA aD aq
 have ag:=bkA aL aq
 have ah:=bkA aE aq
 have U:=bkW aq az
 have aG:b4=b3+1:=by rw[az,ap,World.size_alloc,←aC]
 have aA:=Hi hm
 have aj:=Hi aN
 clear hm aN
 show Calls prog 21 #[.agg #[I xk,I xa,I xi,I xw,I xn,I xu,I xc,I xq,I xp,I xm,.bool xl,.string xs],.agg m.ar] w (Zar ((fun(m2:Zab) (n:Int)=>Za5 ⟨xk,xa,xi,xw,xn,xu,xc,xq,xp,xm,xl,xs⟩ m m2 n)) (Zbw ⟨xk,xa,xi,xw,xn,xu,xc,xq,xp,xm,xl,xs⟩ m) w)
 go_enter func21,ntmps21
 go_upto_region 1 with(fail)
 rw[←ay,←aB,←ap,←aF,←aq,←aG]
 clear ay aB aF ap aC aG aq az
 have X:=ag.twelve
 have Y:=ah.nine
 have Z:=U.nine
 go_upto_region 2 with(fail)
 clear X Y Z
 by_cases k1:xk=1
 ·have t1:(xk==1)=true:=by simpa using k1
  have K1:=Hi k1
  clear k1
  have af:Hid (∀(m2:Zab) (n:Int),Zeh m ⟨xa,xi,xn,xq,xp⟩ m2 n→(fun(m2:Zab) (n:Int)=>Za5 ⟨xk,xa,xi,xw,xn,xu,xc,xq,xp,xm,xl,xs⟩ m m2 n) m2 n):=by
   intro m2 n h
   show Za5 _ m _ n
   unfold Za5
   rw[if_pos K1.out]
   exact h
  have ac:Hid (¬ZeA m ⟨xa,xi,xn,xq,xp⟩→Zbw ⟨xk,xa,xi,xw,xn,xu,xc,xq,xp,xm,xl,xs⟩ m):=by
   intro h
   show Zbw _ m
   unfold Zbw
   rw[if_pos K1.out]
   exact h
  have ae:Hid (∀V,Bw w V→Calls prog 24 #[.agg m.ar,.agg #[I xa,I xi,I xn,I xq,I xp]] V (Zar (fun m2 n=>Zeh m ⟨xa,xi,xn,xq,xp⟩ m2 n) (¬ZeA m ⟨xa,xi,xn,xq,xp⟩) V)):=fun V hV=>Zl7 m xa xi xn xq xp V ((aA.below hV).mono hV.size) (aj.below hV aj.lt)
  have aH:Hid (∀V,Calls prog 25 #[.agg #[I xk,I xa,I xi,I xw,I xn,I xu,I xc,I xq,I xp,I xm,.bool xl,.string xs],I xi] V fun e w'=>e=.returned (.agg #[I xa,I xi,I xn,I xq,I xp])∧Bw V w'):=fun V=>Zg0 ⟨xk,xa,xi,xw,xn,xu,xc,xq,xp,xm,xl,xs⟩ xi V
  have X:=ag.twelve
  have Y:=ah.nine
  have Z:=U.nine
  go_upto_region 3 with(fail)
  clear X Y Z
  obtain⟨W4,aa⟩:=ExY W3.drew
  have au:=blD ab aa
  have z:=bkD ag aa
  have G:=bkD ah aa
  have aw:=bkD U aa
  refine rgL 10 (by kernel_rfl) aa (CsA G 0 rfl (CsA G 1 rfl (CsA G 2 rfl (CsA G 3 rfl (CsA G 4 rfl (CsA G 5 rfl (CsA G 6 rfl (CsA G 7 rfl (CsA G 8 rfl (CsA z 0 rfl (CsA z 1 rfl (CsA z 2 rfl (CsA z 3 rfl (CsA z 4 rfl (CsA z 5 rfl (CsA z 6 rfl (CsA z 7 rfl (CsA z 8 rfl (CsA z 9 rfl (CsA z 10 rfl (CsB z 11 rfl))))))))))))))))))))) fun hS=>?_
  clear aa
  refine tkM [0,1,2,3,4] hS (by kernel_rfl) (fun _ _ _ _ h=>h) ?_
  iterate 5 (refine ycM rfl (by rfl) (fun w h=>by simp only[Cs] at h;go_simp<;>rfl) ?_;try simp only[Act.put,sA,sB,sC])
  refine onM 5 (by kernel_rfl) rfl fun K hK=>?_
  go_simp
  refine(aH.out _).mono ?_
  rintro e W5 ⟨rfl,hb⟩
  have ad:=blT au hb
  have C:=bkN z hb
  have J:=bkN G hb
  have ax:=bkN aw hb
  clear hb
  dsimp only
  refine hK.out _ _ (fun _=>⟨J.cell 0,J.cell 1,J.cell 2,J.cell 3,J.cell 4,J.cell 5,J.cell 6,J.cell 7,J.cell 8,C.cell 0,C.cell 1,C.cell 2,C.cell 3,C.cell 4,C.cell 5,C.cell 6,C.cell 7,C.cell 8,C.cell 9,C.cell 10,C.cell 11⟩) ?_
  try simp only[Act.put,sA,sB,sC]
  refine onM 6 (by kernel_rfl) rfl fun K hK=>?_
  go_simp
  refine(ae.out _ ad).mono ?_
  rintro e W9 ⟨hb,m2,n,er,rfl,hc⟩
  have HC:=Hi hc
  have ak:=blT ad hb
  have al:=Hi ad.size
  have R:=bkN ax hb
  have E:=bkN J hb
  have s:=bkN C hb
  clear hb hc
  have N:m2.val=.agg m2.ar:=rfl
  rw[N]
  clear N
  dsimp only
  refine hK.out _ _ (fun _=>⟨E.cell 0,E.cell 1,E.cell 2,E.cell 3,E.cell 4,E.cell 5,E.cell 6,E.cell 7,E.cell 8,s.cell 0,s.cell 1,s.cell 2,s.cell 3,s.cell 4,s.cell 5,s.cell 6,s.cell 7,s.cell 8,s.cell 9,s.cell 10,s.cell 11⟩) ?_
  try simp only[Act.put,sA,sB,sC]
  refine tkM [7,8,9] (⟨E.cell 0,E.cell 1,E.cell 2,E.cell 3,E.cell 4,E.cell 5,E.cell 6,E.cell 7,E.cell 8,s.cell 0,s.cell 1,s.cell 2,s.cell 3,s.cell 4,s.cell 5,s.cell 6,s.cell 7,s.cell 8,s.cell 9,s.cell 10,s.cell 11⟩) (by kernel_rfl) (fun _ _ _ _ h=>h) ?_
  iterate 3 (refine ycM rfl (by rfl) (fun w h=>by simp only[Cs] at h;go_simp<;>rfl) ?_;try simp only[Act.put,sA,sB,sC])
  refine onM 10 (by kernel_rfl) rfl fun K hK=>?_
  refine Zaq rfl 37 _ _ rfl b4 m2.ar rfl rfl 37 zZ R ZaU (by rfl) (by simp[Value.oneCell']) ?_
  obtain⟨V9,L⟩:=ExY (W9.setRow b4 m2.ar)
  rw[←L]
  have aI:=Hi L
  clear L
  refine hK.out _ _ (fun h0=>Zac (by kernel_rfl) h0) ?_
  try simp only[Act.put]
  refine onM 11 (by kernel_rfl) rfl fun K hK=>?_
  go_simp
  refine hK.out _ _ (fun h0=>Zac (by kernel_rfl) h0) ?_
  refine onM 12 (by kernel_rfl) rfl fun K hK=>?_
  go_simp
  refine hK.out _ _ (fun h0=>Zac (by kernel_rfl) h0) ?_
  refine Zak (by kernel_rfl) ?_ _
  go_wp2
  have L:=aI.out
  have ao:=bkr R L
  have am:=blr ak L ai
  have an:(er=0∧Zaa V9 w.heap.size m2∧(fun(m2:Zab) (n:Int)=>Za5 ⟨xk,xa,xi,xw,xn,xu,xc,xq,xp,xm,xl,xs⟩ m m2 n) m2 n)∨(er≠0∧m2=Za4∧n=0∧Zbw ⟨xk,xa,xi,xw,xn,xu,xc,xq,xp,xm,xl,xs⟩ m):=by
   rcases HC.out with⟨h1,h2,h3⟩|⟨h1,h2,h3,h4⟩
   ·exact .inl ⟨h1,by rw[L];exact(h2.mono al).rowFar R (by decide) _,af.out m2 n h3⟩
   ·exact .inr ⟨h1,h2,h3,ac.out h4⟩
  exact bodyPost_ret (Zam (p:=4) (q:=5) (r:=6) results21 _ V9 b4 37 m2.ar (0,0) _ rfl ao underlying37 rfl ZaU) rfl ⟨am,m2,n,er,rfl,an⟩
 have t1:(xk==1)=false:=by simpa using k1
 have K1:=Hi k1
 clear k1
 by_cases k2:xk=2
 ·have t2:(xk==2)=true:=by simpa using k2
  have K2:=Hi k2
  clear k2
  have af:Hid (∀(m2:Zab) (n:Int),Zcs m xa xi m2 n→(fun(m2:Zab) (n:Int)=>Za5 ⟨xk,xa,xi,xw,xn,xu,xc,xq,xp,xm,xl,xs⟩ m m2 n) m2 n):=by
   intro m2 n h
   show Za5 _ m _ n
   unfold Za5
   rw[if_neg K1.out,if_pos K2.out]
   exact h
  have ac:Hid (True→Zbw ⟨xk,xa,xi,xw,xn,xu,xc,xq,xp,xm,xl,xs⟩ m):=by
   intro _
   show Zbw _ m
   unfold Zbw
   rw[if_neg K1.out]
   trivial
  have ae:Hid (∀V,Bw w V→Calls prog 26 #[.agg m.ar,I xa,I xi] V (Zar (fun m2 n=>Zcs m xa xi m2 n) (True) V)):=fun V hV=>ZiM m xa xi V ((aA.below hV).mono hV.size) (aj.below hV aj.lt)
  have X:=ag.twelve
  have Y:=ah.nine
  have Z:=U.nine
  go_upto_region 5 with(fail)
  go_wp2_with fail
  refine(ae.out _ ab).mono ?_
  rintro e W9 ⟨hb,m2,n,er,rfl,hc⟩
  have HC:=Hi hc
  have ak:=blT ab hb
  have al:=Hi ab.size
  have R:=bkN U hb
  clear hb hc
  have N:m2.val=.agg m2.ar:=rfl
  rw[N]
  clear N
  dsimp only
  clear X Y Z
  go_wp2_with (refine wpList_store_row rfl 37 _ _ rfl b4 m2.ar rfl rfl 37 zZ R ZaU (by rfl) (by simp[Value.oneCell']) ?_)
  obtain⟨V9,L⟩:=ExY (W9.setRow b4 m2.ar)
  rw[←L]
  have ao:=bkr R L
  have am:=blr ak L ai
  have an:(er=0∧Zaa V9 w.heap.size m2∧(fun(m2:Zab) (n:Int)=>Za5 ⟨xk,xa,xi,xw,xn,xu,xc,xq,xp,xm,xl,xs⟩ m m2 n) m2 n)∨(er≠0∧m2=Za4∧n=0∧Zbw ⟨xk,xa,xi,xw,xn,xu,xc,xq,xp,xm,xl,xs⟩ m):=by
   rcases HC.out with⟨h1,h2,h3⟩|⟨h1,h2,h3,h4⟩
   ·exact .inl ⟨h1,by rw[L];exact(h2.mono al).rowFar R (by decide) _,af.out m2 n h3⟩
   ·exact .inr ⟨h1,h2,h3,ac.out h4⟩
  exact bodyPost_ret (Zam (p:=4) (q:=5) (r:=6) results21 _ V9 b4 37 m2.ar (0,0) _ rfl ao underlying37 rfl ZaU) rfl ⟨am,m2,n,er,rfl,an⟩
 have t2:(xk==2)=false:=by simpa using k2
 have K2:=Hi k2
 clear k2
 by_cases k3:xk=3
 ·have t3:(xk==3)=true:=by simpa using k3
  have K3:=Hi k3
  clear k3
  have af:Hid (∀(m2:Zab) (n:Int),Zb5 m xi ⟨xa,xw,xn,xq,xp⟩ m2 n→(fun(m2:Zab) (n:Int)=>Za5 ⟨xk,xa,xi,xw,xn,xu,xc,xq,xp,xm,xl,xs⟩ m m2 n) m2 n):=by
   intro m2 n h
   show Za5 _ m _ n
   unfold Za5
   rw[if_neg K1.out,if_neg K2.out,if_pos K3.out]
   exact h
  have ac:Hid (True→Zbw ⟨xk,xa,xi,xw,xn,xu,xc,xq,xp,xm,xl,xs⟩ m):=by
   intro _
   show Zbw _ m
   unfold Zbw
   rw[if_neg K1.out]
   trivial
  have ae:Hid (∀V,Bw w V→Calls prog 27 #[.agg m.ar,I xi,.agg #[I xa,I xw,I xn,I xq,I xp]] V (Zar (fun m2 n=>Zb5 m xi ⟨xa,xw,xn,xq,xp⟩ m2 n) (True) V)):=fun V hV=>Zh4 m xi xa xw xn xq xp V ((aA.below hV).mono hV.size) (aj.below hV aj.lt)
  have aH:Hid (∀V,Calls prog 25 #[.agg #[I xk,I xa,I xi,I xw,I xn,I xu,I xc,I xq,I xp,I xm,.bool xl,.string xs],I xw] V fun e w'=>e=.returned (.agg #[I xa,I xw,I xn,I xq,I xp])∧Bw V w'):=fun V=>Zg0 ⟨xk,xa,xi,xw,xn,xu,xc,xq,xp,xm,xl,xs⟩ xw V
  have X:=ag.twelve
  have Y:=ah.nine
  have Z:=U.nine
  go_upto_region 7 with(fail)
  clear X Y Z
  obtain⟨W4,aa⟩:=ExY W3.drew
  have au:=blD ab aa
  have z:=bkD ag aa
  have G:=bkD ah aa
  have aw:=bkD U aa
  refine rgL 13 (by kernel_rfl) aa (CsA G 0 rfl (CsA G 1 rfl (CsA G 2 rfl (CsA G 3 rfl (CsA G 4 rfl (CsA G 5 rfl (CsA G 6 rfl (CsA G 7 rfl (CsA G 8 rfl (CsA z 0 rfl (CsA z 1 rfl (CsA z 2 rfl (CsA z 3 rfl (CsA z 4 rfl (CsA z 5 rfl (CsA z 6 rfl (CsA z 7 rfl (CsA z 8 rfl (CsA z 9 rfl (CsA z 10 rfl (CsB z 11 rfl))))))))))))))))))))) fun hS=>?_
  clear aa
  refine tkM [0,1,2,3,4,5,6,7] hS (by kernel_rfl) (fun _ _ _ _ h=>h) ?_
  iterate 8 (refine ycM rfl (by rfl) (fun w h=>by simp only[Cs] at h;go_simp<;>rfl) ?_;try simp only[Act.put,sA,sB,sC])
  refine onM 8 (by kernel_rfl) rfl fun K hK=>?_
  go_simp
  refine(aH.out _).mono ?_
  rintro e W5 ⟨rfl,hb⟩
  have ad:=blT au hb
  have C:=bkN z hb
  have J:=bkN G hb
  have ax:=bkN aw hb
  clear hb
  dsimp only
  refine hK.out _ _ (fun _=>⟨J.cell 0,J.cell 1,J.cell 2,J.cell 3,J.cell 4,J.cell 5,J.cell 6,J.cell 7,J.cell 8,C.cell 0,C.cell 1,C.cell 2,C.cell 3,C.cell 4,C.cell 5,C.cell 6,C.cell 7,C.cell 8,C.cell 9,C.cell 10,C.cell 11⟩) ?_
  try simp only[Act.put,sA,sB,sC]
  refine onM 9 (by kernel_rfl) rfl fun K hK=>?_
  go_simp
  refine(ae.out _ ad).mono ?_
  rintro e W9 ⟨hb,m2,n,er,rfl,hc⟩
  have HC:=Hi hc
  have ak:=blT ad hb
  have al:=Hi ad.size
  have R:=bkN ax hb
  have E:=bkN J hb
  have s:=bkN C hb
  clear hb hc
  have N:m2.val=.agg m2.ar:=rfl
  rw[N]
  clear N
  dsimp only
  refine hK.out _ _ (fun _=>⟨E.cell 0,E.cell 1,E.cell 2,E.cell 3,E.cell 4,E.cell 5,E.cell 6,E.cell 7,E.cell 8,s.cell 0,s.cell 1,s.cell 2,s.cell 3,s.cell 4,s.cell 5,s.cell 6,s.cell 7,s.cell 8,s.cell 9,s.cell 10,s.cell 11⟩) ?_
  try simp only[Act.put,sA,sB,sC]
  refine tkM [10,11,12] (⟨E.cell 0,E.cell 1,E.cell 2,E.cell 3,E.cell 4,E.cell 5,E.cell 6,E.cell 7,E.cell 8,s.cell 0,s.cell 1,s.cell 2,s.cell 3,s.cell 4,s.cell 5,s.cell 6,s.cell 7,s.cell 8,s.cell 9,s.cell 10,s.cell 11⟩) (by kernel_rfl) (fun _ _ _ _ h=>h) ?_
  iterate 3 (refine ycM rfl (by rfl) (fun w h=>by simp only[Cs] at h;go_simp<;>rfl) ?_;try simp only[Act.put,sA,sB,sC])
  refine onM 13 (by kernel_rfl) rfl fun K hK=>?_
  refine Zaq rfl 37 _ _ rfl b4 m2.ar rfl rfl 37 zZ R ZaU (by rfl) (by simp[Value.oneCell']) ?_
  obtain⟨V9,L⟩:=ExY (W9.setRow b4 m2.ar)
  rw[←L]
  have aI:=Hi L
  clear L
  refine hK.out _ _ (fun h0=>Zac (by kernel_rfl) h0) ?_
  try simp only[Act.put]
  refine onM 14 (by kernel_rfl) rfl fun K hK=>?_
  go_simp
  refine hK.out _ _ (fun h0=>Zac (by kernel_rfl) h0) ?_
  refine onM 15 (by kernel_rfl) rfl fun K hK=>?_
  go_simp
  refine hK.out _ _ (fun h0=>Zac (by kernel_rfl) h0) ?_
  refine Zak (by kernel_rfl) ?_ _
  go_wp2
  have L:=aI.out
  have ao:=bkr R L
  have am:=blr ak L ai
  have an:(er=0∧Zaa V9 w.heap.size m2∧(fun(m2:Zab) (n:Int)=>Za5 ⟨xk,xa,xi,xw,xn,xu,xc,xq,xp,xm,xl,xs⟩ m m2 n) m2 n)∨(er≠0∧m2=Za4∧n=0∧Zbw ⟨xk,xa,xi,xw,xn,xu,xc,xq,xp,xm,xl,xs⟩ m):=by
   rcases HC.out with⟨h1,h2,h3⟩|⟨h1,h2,h3,h4⟩
   ·exact .inl ⟨h1,by rw[L];exact(h2.mono al).rowFar R (by decide) _,af.out m2 n h3⟩
   ·exact .inr ⟨h1,h2,h3,ac.out h4⟩
  exact bodyPost_ret (Zam (p:=4) (q:=5) (r:=6) results21 _ V9 b4 37 m2.ar (0,0) _ rfl ao underlying37 rfl ZaU) rfl ⟨am,m2,n,er,rfl,an⟩
 have t3:(xk==3)=false:=by simpa using k3
 have K3:=Hi k3
 clear k3
 have af:Hid (∀(m2:Zab) (n:Int),Zc3 m xa xi xq m2 n→(fun(m2:Zab) (n:Int)=>Za5 ⟨xk,xa,xi,xw,xn,xu,xc,xq,xp,xm,xl,xs⟩ m m2 n) m2 n):=by
  intro m2 n h
  show Za5 _ m _ n
  unfold Za5
  rw[if_neg K1.out,if_neg K2.out,if_neg K3.out]
  exact h
 have ac:Hid (True→Zbw ⟨xk,xa,xi,xw,xn,xu,xc,xq,xp,xm,xl,xs⟩ m):=by
  intro _
  show Zbw _ m
  unfold Zbw
  rw[if_neg K1.out]
  trivial
 have ae:Hid (∀V,Bw w V→Calls prog 28 #[.agg m.ar,I xa,I xi,I xq,I xp] V (Zar (fun m2 n=>Zc3 m xa xi xq m2 n) (True) V)):=fun V hV=>ZkY m xa xi xq xp V ((aA.below hV).mono hV.size) (aj.below hV aj.lt)
 have X:=ag.twelve
 have Y:=ah.nine
 have Z:=U.nine
 go_upto_region 8 with(fail)
 go_wp2_with fail
 refine(ae.out _ ab).mono ?_
 rintro e W9 ⟨hb,m2,n,er,rfl,hc⟩
 have HC:=Hi hc
 have ak:=blT ab hb
 have al:=Hi ab.size
 have R:=bkN U hb
 clear hb hc
 have N:m2.val=.agg m2.ar:=rfl
 rw[N]
 clear N
 dsimp only
 clear X Y Z
 go_wp2_with (refine wpList_store_row rfl 37 _ _ rfl b4 m2.ar rfl rfl 37 zZ R ZaU (by rfl) (by simp[Value.oneCell']) ?_)
 obtain⟨V9,L⟩:=ExY (W9.setRow b4 m2.ar)
 rw[←L]
 have ao:=bkr R L
 have am:=blr ak L ai
 have an:(er=0∧Zaa V9 w.heap.size m2∧(fun(m2:Zab) (n:Int)=>Za5 ⟨xk,xa,xi,xw,xn,xu,xc,xq,xp,xm,xl,xs⟩ m m2 n) m2 n)∨(er≠0∧m2=Za4∧n=0∧Zbw ⟨xk,xa,xi,xw,xn,xu,xc,xq,xp,xm,xl,xs⟩ m):=by
  rcases HC.out with⟨h1,h2,h3⟩|⟨h1,h2,h3,h4⟩
  ·exact .inl ⟨h1,by rw[L];exact(h2.mono al).rowFar R (by decide) _,af.out m2 n h3⟩
  ·exact .inr ⟨h1,h2,h3,ac.out h4⟩
 exact bodyPost_ret (Zam (p:=4) (q:=5) (r:=6) results21 _ V9 b4 37 m2.ar (0,0) _ rfl ao underlying37 rfl ZaU) rfl ⟨am,m2,n,er,rfl,an⟩
end Go.Proofs.YtdefojlkofnloaaGreatDoor
