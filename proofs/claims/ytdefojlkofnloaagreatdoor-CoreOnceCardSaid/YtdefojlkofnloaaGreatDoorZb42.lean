/- A part of the proof of CoreOnce: for every input, no condition. -/
import Derived.Test.YtdefojlkofnloaaGreatDoorZb41
set_option maxRecDepth 100000
set_option maxHeartbeats 8000000
set_option linter.unusedVariables false
set_option linter.unusedSimpArgs false
namespace Go.Proofs.YtdefojlkofnloaaGreatDoor
open Go.RowKit Go.Proofs.Tryz
section
attribute [local go_sem] Oper.semAt_some
theorem Zj1{q:Int}(s : -1000000000≤q)(z:q≤1000000000):max q (wrap64 (-q))=Zef q:=by
 have e:wrap64 (-q) = -q:=(by unfold wrap64;omega)
 rw[e]
 unfold Zef
 split<;>omega
theorem Zb4.keepW{w w':World}{lo C z:Nat}{m:Zab}{s:List EvP}{A:Option Addr}{c:Nat}(h:Zb4 w lo C z m s A c)(k:∀g t cs,lo≤g→t≠45→Bk w g t cs→Bk w' g t cs):Zb4 w' lo C z m s A c:=
 ⟨k _ _ _ h.ge.1 (by decide) h.bk,k _ _ _ h.ge.2 (by decide) h.bk2,ZaF h.ev fun p hp=>by
  obtain⟨cs,_,hg,hc⟩:=ZaK h.ev hp
  exact(k _ _ _ hg (by decide) hc:_=_).trans (hc:_=_).symm,h.ge⟩
def Zig(w:World)(e:Ending)(w':World):Prop:=e=.returned (.bool true)∧Bw w w'
theorem Zmr{P:Program}{c:Code}{K:Act→World→Prop}{s:Exit→Act→World→Prop}{a:Act}{w:World}(h:c.wp P (Exit.then K (fun _ _ _=>False)) a w):c.wp P (Exit.then K s) a w:=
 wp_mono h fun e a w he=>by cases e<;>first|exact he|exact he.elim
theorem ZdK{fn:Func}{p:Tmp}(h:fn.results=#[.cell p 4])(tmps:Array Value)(w:World)(g:Nat)(v:Bool)(C:tmps.getD p undef=Pt g)(z:Bk w g 4 #[.bool v]):(results fn tmps).run prog w=.ok (.bool v) w:=by
 have s:tmps[p]?.getD undef=Pt g:=by simpa using C
 have c2:=Ct z 0 rfl
 try simp only[List.getElem?_toArray,List.getElem?_cons_zero] at c2
 have l2:(loadVar 4 (Aq g 0)).run prog w=.ok (.bool v) w:=by simp[go_sem,c2]
 simp[results,h,s,asAddr,l2]
theorem Zi4:Zgb [0,0] [] (List.replicate 16 0) []:=by
 refine⟨rfl,fun v hv=>?_,fun e he=>(by cases he),fun o ho=>(by cases ho),fun o ho=>(by cases ho)⟩
 rcases v with _|_|v
 ·rfl
 ·rfl
 ·have e1:([0,0]:List Int).getD (v+1+1) 0=0:=by simp[List.getD]
  rw[e1]
  simp only[List.getD,List.getElem?_replicate]
  split<;>rfl
theorem Zln(A:Option Addr)(c:Nat)(aX:List EvP)(w:World)(eW:Gl w)(fa:Rd w w.heap.size 12 A aX.length (aX.flatMap EvP.cs)):
 Calls prog 3 #[.slice A aX.length c] w (Zig w):=by
 obtain⟨fc,dU,cY⟩:=Option.map_eq_some_iff.1 O.info45
 simp only[Prod.mk.injEq] at cY
 have HL:=Hi dU
 have em:=Hi cY.1
 have eo:=Hi cY.2.1
 have es:=Hi cY.2.2
 clear dU cY
 obtain⟨n,hn⟩:=ExY aX.length
 have bM:=Hi hn
 have ex:Hid (Rd w w.heap.size 12 A n (aX.flatMap EvP.cs)):=by rw[hn];exact fa
 have cp:=Hi eW
 have fr:=Hi (fun V (h:Gl V)=>Zhz V h)
 rw[←hn]
 clear hn fa eW
 obtain⟨W1,cQ⟩:=ExY (w.alloc (.cells #[.slice A n c] 22))
 obtain⟨b1,aG⟩:=ExY w.heap.size
 have dA:=blB cQ
 have eC:=bkW cQ aG
 obtain⟨W2,cS⟩:=ExY (W1.alloc (.cells #[.bool false] 4))
 obtain⟨b2,du⟩:=ExY W1.heap.size
 have cJ:=blZ dA du
 have dB:=blA dA cS
 have dF:=bkA eC cS
 have dI:=bkW cS du
 have dT:b2=b1+1:=by rw[du,cQ,World.size_alloc,←aG]
 refine ZcF (fd:=f3) func3 rfl ?_
 simp only[ntmps3,List.size_toArray,List.length_cons,List.length_nil,Nat.reduceAdd,Nat.reduceSub,Array.replicate_succ,Array.replicate_zero,List.push_toArray,List.append_toArray,List.nil_append,List.cons_append]
 refine Za1 (Zbk ?_)
 go_wp2
 rw[←cQ,←aG,←cS,←dT]
 clear cQ aG dT cS du
 refine Za1 (Zbk ?_)
 have ab:=dF.one
 have X:=dI.one
 go_wp2_with fail
 refine(fr.out _ (cp.below dB cp.lt)).mono ?_
 rintro e W3 ⟨rfl,hb⟩
 have cv:=blT dB hb
 have dG:=bkN dF hb
 have cG:=bkN dI hb
 clear ab X
 clear hb
 obtain⟨cn,c2,ed⟩:=dG.one
 have X:=cG.one
 dsimp only
 go_wp2
 refine Za1 (Zbk ?_)
 by_cases d3:60<n
 ·have fe:(60:Int)<(n:Int):=Int.ofNat_lt.mpr d3
  go_wp2
  have hz:Bk (W3.setCell ⟨b2,0,none⟩ (.bool true)) b2 4 #[.bool true]:=cG.set 0 _
  have fw:Bw w (W3.setCell ⟨b2,0,none⟩ (.bool true)):=cv.setCell (p:=⟨b2,0,none⟩) cJ _
  show LeavesInM Fence.wide 0 prog f3 _ _ [] .returning _
  exact⟨.bool true,ZdK (p:=2) results3 _ _ b2 true rfl hz,rfl,fw⟩
 have co:Hid (aX.length≤60):=by have:=bM.out;show _≤60;omega
 have fe:¬(60:Int)<(n:Int):=fun h=>d3 (Int.ofNat_lt.mp h)
 go_wp2
 clear d3 fe
 clear cn c2 ed X
 refine Za1 (Zbk ?_)
 obtain⟨W4,cq⟩:=ExY (W3.alloc (.cells #[I 0,I 0,I 0,I 0,I 0,I 0,I 0,I 0,I 0,I 0,I 0,I 0,I 0,I 0,I 0,I 0] 24))
 obtain⟨b3,dv⟩:=ExY W3.heap.size
 have cL:=blZ cv dv
 have dC:=blA cv cq
 have eD:=bkA dG cq
 have eG:=bkA cG cq
 have cK:=bkW cq dv
 go_wp2
 rw[←cq,←dv]
 clear cq dv
 have h:=cK.out
 have cK:Hid (Bk W4 b3 24 (Zag (List.replicate 16 0)).toArray):=h
 clear h
 refine Za1 (Zbk ?_)
 obtain⟨W5,bX⟩:=ExY (W4.alloc (.cells #[.slice none 0 0] 25))
 obtain⟨b4,dw⟩:=ExY W4.heap.size
 have cM:=blZ dC dw
 have dD:=blA dC bX
 have eE:=bkA eD bX
 have eH:=bkA eG bX
 have eJ:=bkA cK bX
 have eM:=bkW bX dw
 go_wp2
 rw[←bX,←dw]
 clear bX dw
 refine Za1 (Zbk ?_)
 obtain⟨W6,bP⟩:=ExY (W5.alloc (.cells #[I 0] 3))
 obtain⟨b5,dx⟩:=ExY W5.heap.size
 have d1:=blZ dD dx
 have eh:=blA dD bP
 have eF:=bkA eE bP
 have eI:=bkA eH bP
 have eK:=bkA eJ bP
 have eN:=bkA eM bP
 have eP:=bkW bP dx
 go_wp2
 rw[←bP,←dx]
 clear bP dx
 refine Za1 ?_
 refine Za1 (Zbk ?_)
 refine Zmr ?_
 obtain⟨W7,bQ⟩:=ExY W6.drew
 have ek:=blD eh bQ
 have dH:=bkD eF bQ
 have dJ:=bkD eI bQ
 have eL:=bkD eK bQ
 have eO:=bkD eN bQ
 have eQ:=bkD eP bQ
 refine rgK (by kernel_rfl) bQ (CsA dH 0 rfl (CsB dJ 0 rfl)) fun bH=>?_
 clear bQ
 refine tkH [1] bH (by kernel_rfl) (fun _ _ _ _ h=>h) ?_
 (refine ycH rfl (by rfl) (fun w h=>by simp only[Cs] at h;go_simp<;>rfl) ?_;try simp only[Act.put,sA,sB,sC])
 refine onH 0 (by kernel_rfl) rfl fun K hK=>?_
 go_simp
 refine(Zfn _).mono ?_
 rintro e W8 ⟨rfl,hr,hb⟩
 obtain⟨m,hm⟩:=ExY (Zen W7.heap.size)
 rw[←hm] at hr ⊢
 have bd:Hid (m.la=[0,0]∧m.orders=[]):=by rw[hm];exact⟨rfl,rfl⟩
 have cA:=Hi hr
 clear hm hr
 have bS:m.val=.agg m.ar:=rfl
 rw[bS]
 clear bS
 have bK:=blT ek hb
 have cE:=bkN dH hb
 have cH:=bkN dJ hb
 have dK:=bkN eL hb
 have dM:=bkN eO hb
 have dO:=bkN eQ hb
 clear hb
 dsimp only
 refine hK.out _ _ (⟨cE.cell 0,cH.cell 0⟩) (fun bH=>?_)
 try simp only[Act.put,sA,sB,sC]
 refine onH 2 (by kernel_rfl) rfl fun K hK=>?_
 go_simp
 have fi:Hid (Calls prog 6 #[.agg m.ar,.slice A n c] W8 (ZeZ m aX W8)):=by rw[bM.out];exact Zgk m A c aX W8 cA co (by rw[←bM.out];exact(ex.below bK).mono bK.size)
 refine fi.mono ?_
 rintro e W9 ⟨hb,bl,be,m1,A7,c7,rfl,fb,eY,eV⟩
 have ez:=Hi fb
 have c4:=Hi eV
 have ew:=Hi eY
 clear fb eY eV
 obtain⟨lo,eb⟩:=ExY W8.heap.size
 rw[←eb] at ew c4
 have dE:Hid (b1<lo∧b2<lo∧b3<lo∧b4<lo∧b5<lo∧6<lo∧w.heap.size≤lo):=by
  rw[eb]
  exact⟨cE.lt,cH.lt,dK.lt,dM.lt,dO.lt,Nat.lt_of_lt_of_le cp.lt bK.size,bK.size⟩
 clear eb
 have b0:=blT bK hb
 have cF:=bkN cE hb
 have cI:=bkN cH hb
 have dL:=bkN dK hb
 have dN:=bkN dM hb
 have dP:=bkN dO hb
 clear hb
 dsimp only
 refine hK.out _ _ (⟨cF.cell 0,cI.cell 0⟩) (fun bH=>?_)
 try simp only[Act.put,sA,sB,sC]
 refine wpAnyH_done (by kernel_rfl) ?_ _
 clear bH
 have el:Hid (Gl W9):=cp.below b0 cp.lt
 have et:Hid (lo≤W9.heap.size):=by have h1:=c4.ge.1;have h2:=c4.bk.lt;show lo≤_;omega
 refine Zd3 (ZeL (caps:=#[Pt bl,Pt be]) rfl ZhO ?_)
 intro Z cX W1 aG d9 d7
 refine(Zfp (W9.heap.size+1) lo bl be W1.heap.size A7 c7 m1 aX (fun(k:Nat) (mk:Zab) (T:Nat) (W:World)=>Bw w W∧Zb4 W lo bl be m1 aX A7 c7∧Zaa W 0 mk∧Gl W∧(lo≤T∧T≤W.heap.size)∧W.heap[W9.heap.size+1]?=some (.loop (Z .ready none))∧W.heap[W9.heap.size]?=some (.deferred (some []))∧∃(last:List Int) (s:List O.Lc) (LA:Option Addr) (lc:Nat),ZeM b1 b2 b3 b4 b5 w.heap.size A n c W k mk.la mk.orders T last s LA lc) (fun _=>False) co Zff ?_ ?_ ?_ ?_ W1 ?_).mono ?_
 ·rintro k mk T W ⟨h1,h2,h3,h4,h5,_⟩
  exact⟨h2,h3,h4,h5.2⟩
 ·rintro k mk T W W' ⟨h1,h2,h3,h4,h5,h6,h7,last,s,LA,lc,h8⟩ hb
  exact⟨h1.trans (hb.mono h1.size),h2.below hb,h3.below hb,h4.below hb h4.lt,⟨h5.1,Nat.le_trans h5.2 hb.size⟩,(hb.block _ (Array.getElem?_eq_some_iff.1 h6).1).trans h6,(hb.block _ (Array.getElem?_eq_some_iff.1 h7).1).trans h7,last,s,LA,lc,h8.below hb⟩
 ·rintro k mk T W g t cs fs ⟨h1,h2,h3,h4,h5,h6,h7,last,s,LA,lc,h8⟩ hg J ht hb
  have hx:=dE.out
  refine⟨ZaB h1 (Nat.le_trans hx.2.2.2.2.2.2 hg) _,h2.row J ht hb,h3.rowT hb ht,h4.below (ZaB (Below.refl g _) (Nat.le_refl _) _) (by omega),⟨h5.1,?_⟩,ZcU hb h6 (fun _ _ _ h=>by cases h),ZcU hb h7 (fun _ _ _ h=>by cases h),last,s,LA,lc,h8.rowT hb ht⟩
  rw[show(W.setRow g fs).heap.size=W.heap.size by simp];exact h5.2
 ·rintro k hk mk m2 m3 nn er T B W ⟨h1,h2,h3,h4,h5,h6,h7,last,s,LA,lc,h8⟩ eS fv ec eZ fz fx
  refine Zee cX func3 h6 rfl ?_
  have bS:m3.val=.agg m3.ar:=rfl
  rw[bS]
  clear bS
  have l5:=et.out
  have l6:=dE.out
  have lw:w.heap.size≤W.heap.size:=h1.size
  have lD:w.heap.size≤W9.heap.size:=by omega
  obtain⟨Z6,cT⟩:=ExY (W.alloc (.cells #[I er,I nn] 41))
  obtain⟨b7,d4⟩:=ExY W.heap.size
  have B6:Bw W Z6:=by rw[cT];exact(Below.refl _ _).alloc (Nat.le_refl _) _
  have dQ:Bk Z6 b7 41 #[I er,I nn]:=by rw[cT,d4];exact Bk.new _ _ _
  have cr:Z6.heap[W9.heap.size+1]?=some (.loop (Z .ready none)):=(B6.block _ (Array.getElem?_eq_some_iff.1 h6).1).trans h6
  have eT:Z6.heap[W9.heap.size]?=some (.deferred (some [])):=(B6.block _ (Array.getElem?_eq_some_iff.1 h7).1).trans h7
  obtain⟨Z7,bI⟩:=ExY (Z6.putObj (W9.heap.size+1) (.loop (Z .busy none)))
  have bZ:∀ {g t cs},Bk W g t cs→Bk Z7 g t cs:=fun {g t cs} hb=>by rw[bI];exact(hb.below B6 hb.lt).put cr _
  have b6:Hid (ZbW b3 b4 b5 (W9.heap.size+1) W9.heap.size B w.heap.size (.loop (Z .busy none)) (.deferred (some [])) W Z7):=by
   refine⟨lw,?_,?_,?_,?_,(fun _ _ _ h=>by cases h),(fun _ _ _ h=>by cases h),fun g t cs _ _ _ _ hb=>bZ hb⟩
   ·rw[bI];exact ZaT (B6.mono lw) (by omega) _
   ·rw[bI,World.putObj_size,cT,World.size_alloc];omega
   ·rw[bI];exact World.putObj_heap_same (Array.getElem?_eq_some_iff.1 cr).1
   ·rw[bI];exact(World.putObj_heap_other (Nat.ne_of_lt (Nat.lt_succ_self _))).trans eT
  have dV:Hid (Bw w W):=h1
  have c3:Hid (Bw w Z7):=dV.trans b6.below
  have b9:Hid (Bk Z7 b1 22 #[.slice A n c]):=bZ h8.h1
  have cb:Hid (Bk Z7 b2 4 #[.bool false]):=bZ h8.h2
  have di:Hid (Bk Z7 b3 24 (Zag last).toArray):=bZ h8.h3
  have ce:Hid (Bk Z7 b4 25 #[.slice LA s.length lc]):=bZ h8.h4
  have ci:Hid (Bk Z7 b5 3 #[I k]):=bZ h8.h5
  have ck:Hid (Bk Z7 b7 41 #[I er,I nn]):=by rw[bI];exact dQ.put cr _
  have db:Hid (Z7.ownsRow w.heap.size 45 5 (.slice LA s.length lc) s.length (O.lcs s)):=by rw[bI];exact Ziv (Zai h8.row B6) cr _
  have cy:Hid (∀p,LA=some p→p.block<B):=fun p hp=>Nat.lt_of_lt_of_le (h8.bound p hp) eS
  have aW:Hid (s.length≤k):=h8.few
  have ah:Hid (Zgb mk.la mk.orders last s):=h8.once
  have bL:Hid (∀(Wk:World) (bJ:List Int) (an:List O.Lc) (cN:Option Addr) (c0:Nat),ZbW b3 b4 b5 (W9.heap.size+1) W9.heap.size B w.heap.size (.loop (Z .busy none)) (.deferred (some [])) W Wk→Bk Wk b3 24 (Zag bJ).toArray→Bk Wk b4 25 #[.slice cN an.length c0]→Bk Wk b5 3 #[I ((k:Int)+1)] →
   Wk.ownsRow w.heap.size 45 5 (.slice cN an.length c0) an.length (O.lcs an)→an.length≤k+1→Zgb m2.la m2.orders bJ an→Wk.heap[W9.heap.size+1]?=some (.loop (Z .busy none))∧(∃T',Bw w (Wk.putObj (W9.heap.size+1) (.loop (Z .ready none)))∧Zb4 (Wk.putObj (W9.heap.size+1) (.loop (Z .ready none))) lo bl be m1 aX A7 c7∧Zaa (Wk.putObj (W9.heap.size+1) (.loop (Z .ready none))) 0 m2∧Gl (Wk.putObj (W9.heap.size+1) (.loop (Z .ready none)))∧(lo≤T'∧T'≤(Wk.putObj (W9.heap.size+1) (.loop (Z .ready none))).heap.size)∧(Wk.putObj (W9.heap.size+1) (.loop (Z .ready none))).heap[W9.heap.size+1]?=some (.loop (Z .ready none))∧(Wk.putObj (W9.heap.size+1) (.loop (Z .ready none))).heap[W9.heap.size]?=some (.deferred (some []))∧∃(last:List Int) (s:List O.Lc) (LA:Option Addr) (lc:Nat),ZeM b1 b2 b3 b4 b5 w.heap.size A n c (Wk.putObj (W9.heap.size+1) (.loop (Z .ready none))) (k+1) m2.la m2.orders T' last s LA lc)∧Zmt lo W (Wk.putObj (W9.heap.size+1) (.loop (Z .ready none)))):=by
   intro Wk bJ an cN c0 hr q3 q4 q5 fg ff ef
   have aL:=hr.busy
   obtain⟨Z9,bf⟩:=ExY (Wk.putObj (W9.heap.size+1) (.loop (Z .ready none)))
   rw[←bf]
   have kp:∀g t cs,g≠b3→g≠b4→g≠b5→(t≠45∨B≤g)→Bk W g t cs→Bk Z9 g t cs:=fun g t cs g3 g4 g5 g6 hb=>by rw[bf];exact(hr.keep g t cs g3 g4 g5 g6 hb).put aL _
   have bz:Below w.heap.size W Z9:=by rw[bf];exact ZaT hr.below (by omega) _
   have ow:Zaa Z9 0 m2:=(eZ.kept fun g t cs hg hb=>kp g t cs (by omega) (by omega) (by omega) (.inr hg) hb).mono (Nat.zero_le _)
   have sz:W.heap.size≤Z9.heap.size:=by rw[bf,World.putObj_size];exact hr.size
   have fh:Z9.ownsRow w.heap.size 45 5 (.slice cN an.length c0) an.length (O.lcs an):=by rw[bf];exact Ziv fg aL _
   refine⟨aL,⟨Z9.heap.size,h1.trans bz,h2.keepW fun g t cs hg ht hb=>kp g t cs (by omega) (by omega) (by omega) (.inl ht) hb,ow,h4.below bz cp.lt,⟨by omega,Nat.le_refl _⟩,?_,?_,bJ,an,cN,c0,⟨?_,?_,?_,?_,?_,fh,fun p hp=>(ZaP fh p hp).2,ff,ef⟩⟩,fun g cs hg hb=>kp g 37 cs (by omega) (by omega) (by omega) (.inl (by decide)) hb⟩
   ·rw[bf];exact World.putObj_heap_same (Array.getElem?_eq_some_iff.1 aL).1
   ·rw[bf];exact(World.putObj_heap_other (Nat.ne_of_lt (Nat.lt_succ_self _))).trans hr.dfd
   ·exact kp _ _ _ (h8.h1.ne h8.h3 (by decide)) (h8.h1.ne h8.h4 (by decide)) (h8.h1.ne h8.h5 (by decide)) (.inl (by decide)) h8.h1
   ·exact kp _ _ _ (h8.h2.ne h8.h3 (by decide)) (h8.h2.ne h8.h4 (by decide)) (h8.h2.ne h8.h5 (by decide)) (.inl (by decide)) h8.h2
   ·rw[bf];exact q3.put aL _
   ·rw[bf];exact q4.put aL _
   ·rw[bf,Int.natCast_succ];exact q5.put aL _
  obtain⟨a,hA,ha,e0,e1⟩:=ZmG ex.out hk
  obtain⟨ev,eU⟩:=ExY (aX[k]'hk)
  rw[←eU] at e0 e1 ec
  obtain⟨xk,xa,xi,xw,xn,xu,xc,xq,xp,xm,xl,xs⟩:=ev
  have aV:∀j:Nat,(a.add j).block<w.heap.size:=fun j=>by unfold Addr.add;split<;>exact ha
  have HE:Hid (∀U,Bw w U→U.cell? (a.add (k*12))=some (I xk)∧U.cell? ⟨(a.add (k*12)).block,(a.add (k*12)).off+1,none⟩=some (I xa)∧U.cell? ⟨(a.add (k*12)).block,(a.add (k*12)).off+2,none⟩=some (I xi)∧U.cell? ⟨(a.add (k*12)).block,(a.add (k*12)).off+3,none⟩=some (I xw)∧U.cell? ⟨(a.add (k*12)).block,(a.add (k*12)).off+4,none⟩=some (I xn)∧U.cell? ⟨(a.add (k*12)).block,(a.add (k*12)).off+5,none⟩=some (I xu)∧U.cell? ⟨(a.add (k*12)).block,(a.add (k*12)).off+6,none⟩=some (I xc)∧U.cell? ⟨(a.add (k*12)).block,(a.add (k*12)).off+7,none⟩=some (I xq)∧U.cell? ⟨(a.add (k*12)).block,(a.add (k*12)).off+8,none⟩=some (I xp)∧U.cell? ⟨(a.add (k*12)).block,(a.add (k*12)).off+9,none⟩=some (I xm)∧U.cell? ⟨(a.add (k*12)).block,(a.add (k*12)).off+10,none⟩=some (.bool xl)∧U.cell? ⟨(a.add (k*12)).block,(a.add (k*12)).off+11,none⟩=some (.string xs)):=fun U hU=>⟨(hU.cell (aV _)).trans e0,(hU.cell (p:=⟨(a.add (k*12)).block,(a.add (k*12)).off+1,none⟩) (aV _)).trans (e1 0 (by decide)),(hU.cell (p:=⟨(a.add (k*12)).block,(a.add (k*12)).off+2,none⟩) (aV _)).trans (e1 1 (by decide)),(hU.cell (p:=⟨(a.add (k*12)).block,(a.add (k*12)).off+3,none⟩) (aV _)).trans (e1 2 (by decide)),(hU.cell (p:=⟨(a.add (k*12)).block,(a.add (k*12)).off+4,none⟩) (aV _)).trans (e1 3 (by decide)),(hU.cell (p:=⟨(a.add (k*12)).block,(a.add (k*12)).off+5,none⟩) (aV _)).trans (e1 4 (by decide)),(hU.cell (p:=⟨(a.add (k*12)).block,(a.add (k*12)).off+6,none⟩) (aV _)).trans (e1 5 (by decide)),(hU.cell (p:=⟨(a.add (k*12)).block,(a.add (k*12)).off+7,none⟩) (aV _)).trans (e1 6 (by decide)),(hU.cell (p:=⟨(a.add (k*12)).block,(a.add (k*12)).off+8,none⟩) (aV _)).trans (e1 7 (by decide)),(hU.cell (p:=⟨(a.add (k*12)).block,(a.add (k*12)).off+9,none⟩) (aV _)).trans (e1 8 (by decide)),(hU.cell (p:=⟨(a.add (k*12)).block,(a.add (k*12)).off+10,none⟩) (aV _)).trans (e1 9 (by decide)),(hU.cell (p:=⟨(a.add (k*12)).block,(a.add (k*12)).off+11,none⟩) (aV _)).trans (e1 10 (by decide))⟩
  have eB:=Hi ec
  have HA:=Hi hA
  have cw:Hid (k<n):=by rw[bM.out];exact hk
  have WK:Hid (wrap64 ((k:Int)+1)=(k:Int)+1):=ZaQ (by have h1:=co.out;have h2:=bM.out;have h3:=cw.out;omega)
  have fk:=Hi cr
  clear l5 l6 lw lD B6 dQ cr eT bZ ec h1 h2 h3 h4 h5 h6 h7 h8 eS fv eZ fz fx hk aG d9 d7 cX ha aV e0 e1 eU hA
  gi_wp2
  rw[←cT,←d4]
  refine⟨fk,?_⟩
  rw[←bI]
  clear cT d4 bI
  have j0:(0:Int)≤(k:Int):=Int.natCast_nonneg k
  have j1:(k:Int)<(n:Int):=Int.ofNat_lt.mpr cw
  have j2:¬(n:Int)≤(k:Int):=Int.not_le.mpr j1
  obtain⟨e0,e1,e2,e3,e4,e5,e6,e7,e8,e9,ft,fu⟩:=HE.out Z7 c3.out
  obtain⟨cn,c2,ed⟩:=b9.one
  have X:=cb.one
  have aF:=ce.one
  have ac:=ci.one
  have ad:=ck.two
  rw[HA.out] at cn
  obtain⟨dR,ak⟩:=ExY (Z7.alloc (.cells #[I xk,I xa,I xi,I xw,I xn,I xu,I xc,I xq,I xp,I xm,.bool xl,.string xs] 43))
  obtain⟨b8,d5⟩:=ExY Z7.heap.size
  have c8:Hid (ZbW b3 b4 b5 (W9.heap.size+1) W9.heap.size B w.heap.size (.loop (Z .busy none)) (.deferred (some [])) W dR):=by rw[ak];exact b6.alloc _
  have ca:=bkA b9 ak
  have cc:=bkA cb ak
  have dj:=bkA di ak
  have cf:=bkA ce ak
  have aa:=bkA ci ak
  have cl:=bkA ck ak
  have dc:=boC db ak
  have cm:=bkW ak d5
  gi_upto_region 13 with(fail)
  rw[←ak,←d5]
  clear ak d5
  clear cn c2 ed X aF ac ad e0 e1 e2 e3 e4 e5 e6 e7 e8 e9 ft fu j0 j1 j2
  have ab:=ca.one
  have X:=cc.one
  have aF:=cf.one
  have ac:=aa.one
  have ad:=cl.two
  have aj:=cm.twelve
  gi_upto_region 14 with(fail)
  rw[WK.out]
  obtain⟨ai,al⟩:=ExY (dR.setCell ⟨b5,0,none⟩ (I ((k:Int)+1)))
  rw[←al]
  have aM:Hid (ZbW b3 b4 b5 (W9.heap.size+1) W9.heap.size B w.heap.size (.loop (Z .busy none)) (.deferred (some [])) W ai):=by rw[al];exact c8.cell5 aa d1 0 _
  have aY:=bkF ca al aa rfl
  have a0:=bkF cc al aa rfl
  have z:=bkF dj al aa rfl
  have aJ:=bkF cf al aa rfl
  have aK:Hid (Bk ai b5 3 #[I ((k:Int)+1)]):=bkS aa 0 al
  have a4:=bkF cl al aa rfl
  have a6:=bkF cm al aa rfl
  have aO:=boO dc al aa rfl
  clear ab X aF ac ad aj
  clear al
  have ab:=aY.one
  have X:=a0.one
  obtain⟨bg,bT,cZ⟩:=aJ.one
  have ac:=aK.one
  have ad:=a4.two
  have aj:=a6.twelve
  by_cases dy:er=0
  rotate_left
  ·have te:(er != 0)=true:=by simpa using dy
   have hs:Zbj mk m2:=eB.elim (fun h=>absurd h.1 dy) (fun h=>h.2.1)
   have eA:=Hi hs
   clear dy hs
   gi_wp2
   have hf:=bL.out ai last s LA lc aM.out z.out (aJ.out) aK.out (aO.out) (Nat.le_succ_of_le aW.out) (ah.less ⟨fun v _=>by rw[ZmC eA.accts],fun o ho=>by rw[eA.orders] at ho;exact ho⟩)
   exact⟨hf.1,.inl ⟨rfl,hf.2.1,hf.2.2⟩⟩
  subst dy
  have c6:Hid (Zga ⟨xk,xa,xi,xw,xn,xu,xc,xq,xp,xm,xl,xs⟩ mk m2 nn):=eB.elim (fun h=>h.2) (fun h=>absurd rfl h.1)
  by_cases k0:xk=1
  ·have t1:(xk==1)=true:=by rw[k0];decide
   have t3:(xk==3)=false:=by rw[k0];decide
   have t4:(xk==4)=false:=by rw[k0];decide
   have aU:Hid (Zfd mk.la m2.la mk.orders m2.orders xa xi xq):=(ZgA c6).1 k0
   clear k0
   obtain⟨q,rfl⟩:∃q:Nat,xa=(q:Int):=ZaW (by have:=aU.hacct;omega)
   have bN:Hid (q<16):=by have:=aU.hacct;show q<16;omega
   obtain⟨v,hv⟩:=ExY (last.getD q 0)
   have c1:¬xi≤v:=by rw[hv];exact ah.new aU
   have ee:v<xi:=Int.not_le.mp c1
   have q0:(0:Int)≤(q:Int):=Int.natCast_nonneg q
   have q1:(q:Int)<16:=by have:=bN.out;omega
   have d0:Hid (∀U,Bk U b3 24 (Zag last).toArray→U.cell? ⟨b3,q,none⟩=some (I v)):=fun U hU=>by rw[hv];exact ZdB hU (by rw[ah.len];exact bN.out)
   clear hv
   have y:=d0.out _ z.out
   have yf:=z.frozen q
   gi_upto_region 22 with(fail)
   clear y yf c1 ee q0 q1
   obtain⟨L,E⟩:=ExY (ai.setCell ⟨b3,q,none⟩ (I xi))
   rw[←E]
   have aN:Hid (ZbW b3 b4 b5 (W9.heap.size+1) W9.heap.size B w.heap.size (.loop (Z .busy none)) (.deferred (some [])) W L):=by rw[E];exact aM.cell3 z cL q _
   have bh:Hid (Bw w L):=dV.trans aN.below
   have ap:=bkF aY E z rfl
   have au:=bkF a0 E z rfl
   have aP:Hid (Bk L b3 24 (Zag (last.set q xi)).toArray):=by rw[E];exact ZdT z q _
   have ag:=bkF aJ E z rfl
   have ay:=bkF aK E z rfl
   have aA:Hid (Bk L b7 41 #[I 0,I nn]):=bkF a4 E z rfl
   have aC:Hid (Bk L b8 43 #[I xk,I q,I xi,I xw,I xn,I xu,I xc,I xq,I xp,I xm,.bool xl,.string xs]):=bkF a6 E z rfl
   have bp:=boO aO E z rfl
   clear ab X bg bT cZ ac ad aj
   clear E
   have ab:=ap.one
   have X:=au.one
   have aF:=ag.one
   have ac:=ay.one
   have ad:=aA.two
   have aj:=aC.twelve
   have dX:Hid (max xq (wrap64 (-xq))=Zef xq):=Zj1 aU.hqty.1 aU.hqty.2
   have N:Hid ((L.alloc (.cells #[I q,I xi,I 0,I (max xq (wrap64 (-xq))),I 0] 45)).ownsRow w.heap.size 45 5 (.slice LA s.length lc) s.length (O.lcs s)):=Zai bp ((Below.refl _ _).alloc (Nat.le_refl _) _)
   have cz:Hid (∀u∈((⟨(q:Int),xi,0,max xq (wrap64 (-xq)),0⟩:O.Lc)).cells,u.oneCell'=true):=O.cells_one _
   have cA:Hid (Rd (L.alloc (.cells #[I q,I xi,I 0,I (max xq (wrap64 (-xq))),I 0] 45)) (L.heap.size+1) 5 (some ⟨L.heap.size,0,none⟩) 1 ((⟨(q:Int),xi,0,max xq (wrap64 (-xq)),0⟩:O.Lc)).cells):=
    ⟨rfl,fun _=>⟨_,rfl,by simp,World.news_of_block (Bk.new L 45 #[I q,I xi,I 0,I (max xq (wrap64 (-xq))),I 0])⟩⟩
   have bV:Hid (s.length≤60):=by have h1:=aW.out;have h2:=cw.out;have h3:=co.out;have h4:=bM.out;show s.length≤60;omega
   have bO:Hid (Bk (L.alloc (.cells #[I q,I xi,I 0,I (max xq (wrap64 (-xq))),I 0] 45)) b4 25 #[.slice LA s.length lc]):=ag.alloc _
   have dZ:Hid (w.heap.size≤L.heap.size):=bh.size
   gi_upto_region 23 with(gi_at_builtin;go_must (refine Zdr (Zb7 _) _ rfl (.tmp 61) (.tmp 72) _ rfl w.heap.size 45 fc _ 5 40 underlying25 HL.out em.out eo.out es.out rfl (by decide) _ s.length (O.lcs s) rfl N.out _ _ 1 1 _ rfl cA.out cz.out (by unfold maxLen;have:=bV.out;omega) (by have:=bV.out;omega) (by have:=dZ.out;simp;omega) ?_);intro A5 c5 w3 h1 h2 bb bY cU;obtain⟨y0,y1,y2⟩:=(bO.grown bY (ZaL N.out bO.out (by decide))).one)
   have aE:=Hi bY
   clear y0 y1 y2 h1 h2 bY cU ab X aF ac ad aj
   have bi:Hid (ZbW b3 b4 b5 (W9.heap.size+1) W9.heap.size B w.heap.size (.loop (Z .busy none)) (.deferred (some [])) W w3):=by exact(aN.alloc _).grown N (Nat.le_refl _) cy aE
   have bt:Hid (Bk w3 b1 22 #[.slice A n c]):=by exact(ap.alloc _).grown aE (ZaL N (ap.alloc _) (by decide))
   have bv:Hid (Bk w3 b2 4 #[.bool false]):=by exact(au.alloc _).grown aE (ZaL N (au.alloc _) (by decide))
   have bx:Hid (Bk w3 b3 24 (Zag (last.set q xi)).toArray):=by exact(aP.alloc _).grown aE (ZaL N (aP.alloc _) (by decide))
   have C:Hid (Bk w3 b4 25 #[.slice LA s.length lc]):=by exact(ag.alloc _).grown aE (ZaL N (ag.alloc _) (by decide))
   have bC:Hid (Bk w3 b5 3 #[I ((k:Int)+1)]):=by exact(ay.alloc _).grown aE (ZaL N (ay.alloc _) (by decide))
   have bD:Hid (Bk w3 b7 41 #[I 0,I nn]):=by exact(aA.alloc _).grown aE (ZaL N (aA.alloc _) (by decide))
   have bF:Hid (Bk w3 b8 43 #[I xk,I q,I xi,I xw,I xn,I xu,I xc,I xq,I xp,I xm,.bool xl,.string xs]):=by exact(aC.alloc _).grown aE (ZaL N (aC.alloc _) (by decide))
   have bq:Hid (w3.ownsRow w.heap.size 45 5 (.slice A5 (s.length+1) c5) (s.length+1) (O.lcs s++((⟨(q:Int),xi,0,max xq (wrap64 (-xq)),0⟩:O.Lc)).cells)):=bb
   clear bb
   obtain⟨a9,G⟩:=ExY (w3.setCell ⟨b4,0,none⟩ (.slice A5 (s.length+1) c5))
   rw[←G]
   have bj:Hid (ZbW b3 b4 b5 (W9.heap.size+1) W9.heap.size B w.heap.size (.loop (Z .busy none)) (.deferred (some [])) W a9):=by rw[G];exact bi.cell4 C cM 0 _
   have bu:=bkF bt G C rfl
   have bw:=bkF bv G C rfl
   have bA:=bkF bx G C rfl
   have aQ:Hid (Bk a9 b4 25 #[.slice A5 (s.length+1) c5]):=bkS C 0 G
   have aR:=bkF bC G C rfl
   have bE:=bkF bD G C rfl
   have bG:=bkF bF G C rfl
   have br:=boO bq G C rfl
   clear G
   have ab:=bu.one
   have X:=bw.one
   have aF:=aQ.one
   have ac:=aR.one
   have ad:=bE.two
   have aj:=bG.twelve
   gi_wp2
   have ba:(s++[(⟨(q:Int),xi,0,max xq (wrap64 (-xq)),0⟩:O.Lc)]).length=s.length+1:=by simp
   have d6:O.lcs (s++[(⟨(q:Int),xi,0,max xq (wrap64 (-xq)),0⟩:O.Lc)])=O.lcs s++((⟨(q:Int),xi,0,max xq (wrap64 (-xq)),0⟩:O.Lc)).cells:=by rw[O.lcs_append];simp[O.lcs]
   have cW:=ah.put aU.out 0 0
   rw[←dX.out] at cW
   have hf:=bL.out a9 _ (s++[(⟨(q:Int),xi,0,max xq (wrap64 (-xq)),0⟩:O.Lc)]) A5 c5 bj.out bA.out (by rw[ba];exact aQ.out) aR.out (by rw[ba,d6];exact br.out) (by rw[ba];exact Nat.succ_le_succ aW.out) (cW)
   exact⟨hf.1,.inl ⟨rfl,hf.2.1,hf.2.2⟩⟩
  have K1:=Hi k0
  clear k0
  by_cases k0:xk=3
  ·have t1:(xk==1)=false:=by rw[k0];decide
   have t3:(xk==3)=true:=by rw[k0];decide
   have t4:(xk==4)=false:=by rw[k0];decide
   have aU:Hid (Zfd mk.la m2.la mk.orders m2.orders xa xw xq):=(ZgA c6).2.1 k0
   clear k0
   obtain⟨q,rfl⟩:∃q:Nat,xa=(q:Int):=ZaW (by have:=aU.hacct;omega)
   have bN:Hid (q<16):=by have:=aU.hacct;show q<16;omega
   obtain⟨v,hv⟩:=ExY (last.getD q 0)
   have c1:¬xw≤v:=by rw[hv];exact ah.new aU
   have ee:v<xw:=Int.not_le.mp c1
   have q0:(0:Int)≤(q:Int):=Int.natCast_nonneg q
   have q1:(q:Int)<16:=by have:=bN.out;omega
   have d0:Hid (∀U,Bk U b3 24 (Zag last).toArray→U.cell? ⟨b3,q,none⟩=some (I v)):=fun U hU=>by rw[hv];exact ZdB hU (by rw[ah.len];exact bN.out)
   clear hv
   have y:=d0.out _ z.out
   have yf:=z.frozen q
   gi_upto_region 22 with(fail)
   clear y yf c1 ee q0 q1
   obtain⟨L,E⟩:=ExY (ai.setCell ⟨b3,q,none⟩ (I xw))
   rw[←E]
   have aN:Hid (ZbW b3 b4 b5 (W9.heap.size+1) W9.heap.size B w.heap.size (.loop (Z .busy none)) (.deferred (some [])) W L):=by rw[E];exact aM.cell3 z cL q _
   have bh:Hid (Bw w L):=dV.trans aN.below
   have ap:=bkF aY E z rfl
   have au:=bkF a0 E z rfl
   have aP:Hid (Bk L b3 24 (Zag (last.set q xw)).toArray):=by rw[E];exact ZdT z q _
   have ag:=bkF aJ E z rfl
   have ay:=bkF aK E z rfl
   have aA:Hid (Bk L b7 41 #[I 0,I nn]):=bkF a4 E z rfl
   have aC:Hid (Bk L b8 43 #[I xk,I q,I xi,I xw,I xn,I xu,I xc,I xq,I xp,I xm,.bool xl,.string xs]):=bkF a6 E z rfl
   have bp:=boO aO E z rfl
   clear ab X bg bT cZ ac ad aj
   clear E
   have ab:=ap.one
   have X:=au.one
   have aF:=ag.one
   have ac:=ay.one
   have ad:=aA.two
   have aj:=aC.twelve
   have dX:Hid (max xq (wrap64 (-xq))=Zef xq):=Zj1 aU.hqty.1 aU.hqty.2
   have N:Hid ((L.alloc (.cells #[I q,I xw,I 0,I (max xq (wrap64 (-xq))),I 0] 45)).ownsRow w.heap.size 45 5 (.slice LA s.length lc) s.length (O.lcs s)):=Zai bp ((Below.refl _ _).alloc (Nat.le_refl _) _)
   have cz:Hid (∀u∈((⟨(q:Int),xw,0,max xq (wrap64 (-xq)),0⟩:O.Lc)).cells,u.oneCell'=true):=O.cells_one _
   have cA:Hid (Rd (L.alloc (.cells #[I q,I xw,I 0,I (max xq (wrap64 (-xq))),I 0] 45)) (L.heap.size+1) 5 (some ⟨L.heap.size,0,none⟩) 1 ((⟨(q:Int),xw,0,max xq (wrap64 (-xq)),0⟩:O.Lc)).cells):=
    ⟨rfl,fun _=>⟨_,rfl,by simp,World.news_of_block (Bk.new L 45 #[I q,I xw,I 0,I (max xq (wrap64 (-xq))),I 0])⟩⟩
   have bV:Hid (s.length≤60):=by have h1:=aW.out;have h2:=cw.out;have h3:=co.out;have h4:=bM.out;show s.length≤60;omega
   have bO:Hid (Bk (L.alloc (.cells #[I q,I xw,I 0,I (max xq (wrap64 (-xq))),I 0] 45)) b4 25 #[.slice LA s.length lc]):=ag.alloc _
   have dZ:Hid (w.heap.size≤L.heap.size):=bh.size
   gi_upto_region 23 with(gi_at_builtin;go_must (refine Zdr (Zb7 _) _ rfl (.tmp 61) (.tmp 72) _ rfl w.heap.size 45 fc _ 5 40 underlying25 HL.out em.out eo.out es.out rfl (by decide) _ s.length (O.lcs s) rfl N.out _ _ 1 1 _ rfl cA.out cz.out (by unfold maxLen;have:=bV.out;omega) (by have:=bV.out;omega) (by have:=dZ.out;simp;omega) ?_);intro A5 c5 w3 h1 h2 bb bY cU;obtain⟨y0,y1,y2⟩:=(bO.grown bY (ZaL N.out bO.out (by decide))).one)
   have aE:=Hi bY
   clear y0 y1 y2 h1 h2 bY cU ab X aF ac ad aj
   have bi:Hid (ZbW b3 b4 b5 (W9.heap.size+1) W9.heap.size B w.heap.size (.loop (Z .busy none)) (.deferred (some [])) W w3):=by exact(aN.alloc _).grown N (Nat.le_refl _) cy aE
   have bt:Hid (Bk w3 b1 22 #[.slice A n c]):=by exact(ap.alloc _).grown aE (ZaL N (ap.alloc _) (by decide))
   have bv:Hid (Bk w3 b2 4 #[.bool false]):=by exact(au.alloc _).grown aE (ZaL N (au.alloc _) (by decide))
   have bx:Hid (Bk w3 b3 24 (Zag (last.set q xw)).toArray):=by exact(aP.alloc _).grown aE (ZaL N (aP.alloc _) (by decide))
   have C:Hid (Bk w3 b4 25 #[.slice LA s.length lc]):=by exact(ag.alloc _).grown aE (ZaL N (ag.alloc _) (by decide))
   have bC:Hid (Bk w3 b5 3 #[I ((k:Int)+1)]):=by exact(ay.alloc _).grown aE (ZaL N (ay.alloc _) (by decide))
   have bD:Hid (Bk w3 b7 41 #[I 0,I nn]):=by exact(aA.alloc _).grown aE (ZaL N (aA.alloc _) (by decide))
   have bF:Hid (Bk w3 b8 43 #[I xk,I q,I xi,I xw,I xn,I xu,I xc,I xq,I xp,I xm,.bool xl,.string xs]):=by exact(aC.alloc _).grown aE (ZaL N (aC.alloc _) (by decide))
   have bq:Hid (w3.ownsRow w.heap.size 45 5 (.slice A5 (s.length+1) c5) (s.length+1) (O.lcs s++((⟨(q:Int),xw,0,max xq (wrap64 (-xq)),0⟩:O.Lc)).cells)):=bb
   clear bb
   obtain⟨a9,G⟩:=ExY (w3.setCell ⟨b4,0,none⟩ (.slice A5 (s.length+1) c5))
   rw[←G]
   have bj:Hid (ZbW b3 b4 b5 (W9.heap.size+1) W9.heap.size B w.heap.size (.loop (Z .busy none)) (.deferred (some [])) W a9):=by rw[G];exact bi.cell4 C cM 0 _
   have bu:=bkF bt G C rfl
   have bw:=bkF bv G C rfl
   have bA:=bkF bx G C rfl
   have aQ:Hid (Bk a9 b4 25 #[.slice A5 (s.length+1) c5]):=bkS C 0 G
   have aR:=bkF bC G C rfl
   have bE:=bkF bD G C rfl
   have bG:=bkF bF G C rfl
   have br:=boO bq G C rfl
   clear G
   have ab:=bu.one
   have X:=bw.one
   have aF:=aQ.one
   have ac:=aR.one
   have ad:=bE.two
   have aj:=bG.twelve
   gi_wp2
   have ba:(s++[(⟨(q:Int),xw,0,max xq (wrap64 (-xq)),0⟩:O.Lc)]).length=s.length+1:=by simp
   have d6:O.lcs (s++[(⟨(q:Int),xw,0,max xq (wrap64 (-xq)),0⟩:O.Lc)])=O.lcs s++((⟨(q:Int),xw,0,max xq (wrap64 (-xq)),0⟩:O.Lc)).cells:=by rw[O.lcs_append];simp[O.lcs]
   have cW:=ah.put aU.out 0 0
   rw[←dX.out] at cW
   have hf:=bL.out a9 _ (s++[(⟨(q:Int),xw,0,max xq (wrap64 (-xq)),0⟩:O.Lc)]) A5 c5 bj.out bA.out (by rw[ba];exact aQ.out) aR.out (by rw[ba,d6];exact br.out) (by rw[ba];exact Nat.succ_le_succ aW.out) (cW)
   exact⟨hf.1,.inl ⟨rfl,hf.2.1,hf.2.2⟩⟩
  have K3:=Hi k0
  clear k0
  by_cases k0:xk=4
  ·have t1:(xk==1)=false:=by rw[k0];decide
   have t3:(xk==3)=false:=by rw[k0];decide
   have t4:(xk==4)=true:=by rw[k0];decide
   have dW:Hid (ZfV mk.la m2.la mk.orders m2.orders xa xi xq nn):=(ZgA c6).2.2.1 k0
   clear k0
   have bV:Hid (s.length≤60):=by have h1:=aW.out;have h2:=cw.out;have h3:=co.out;have h4:=bM.out;show s.length≤60;omega
   gi_upto_region 26 with(fail)
   clear t1 t3 t4 ab X bg bT cZ ac ad aj
   have fj:Hid (ZbW b3 b4 b5 (W9.heap.size+1) W9.heap.size B w.heap.size (.loop (Z .busy none)) (.deferred (some [])) W ai∧Bk ai b1 22 #[.slice A n c]∧Bk ai b2 4 #[.bool false]∧Bk ai b3 24 (Zag last).toArray∧Bk ai b4 25 #[.slice LA s.length lc]∧Bk ai b5 3 #[I ((k:Int)+1)]∧Bk ai b7 41 #[I 0,I nn]∧Bk ai b8 43 #[I xk,I xa,I xi,I xw,I xn,I xu,I xc,I xq,I xp,I xm,.bool xl,.string xs]∧ai.ownsRow w.heap.size 45 5 (.slice LA s.length lc) s.length (O.lcs (Ze5 (Zeg xa xi xq) s 0))∧false=(s.take 0).any (fun e:O.Lc=>decide (e.acct=xa∧e.id=xi))):=⟨aM,aY,a0,z,aJ,aK,a4,a6,(by rw[Zj2];exact aO.out),rfl⟩
   gi_loopw [10,79] (fun fA eg wr=>∃(j:Nat) (kn:Bool),j≤s.length∧fA=.bool kn∧eg=I (j:Int)∧Hid (ZbW b3 b4 b5 (W9.heap.size+1) W9.heap.size B w.heap.size (.loop (Z .busy none)) (.deferred (some [])) W wr∧Bk wr b1 22 #[.slice A n c]∧Bk wr b2 4 #[.bool false]∧Bk wr b3 24 (Zag last).toArray∧Bk wr b4 25 #[.slice LA s.length lc]∧Bk wr b5 3 #[I ((k:Int)+1)]∧Bk wr b7 41 #[I 0,I nn]∧Bk wr b8 43 #[I xk,I xa,I xi,I xw,I xn,I xu,I xc,I xq,I xp,I xm,.bool xl,.string xs]∧wr.ownsRow w.heap.size 45 5 (.slice LA s.length lc) s.length (O.lcs (Ze5 (Zeg xa xi xq) s j))∧kn=(s.take j).any (fun e:O.Lc=>decide (e.acct=xa∧e.id=xi)))) (fun _ eg _=>s.length-(intOf eg).toNat)
   case atStart=>exact⟨0,false,Nat.zero_le _,rfl,rfl,fj⟩
   case round=>
    obtain⟨j,kn,hj,rfl,rfl,a8⟩:=hrel
    rename World=>Y
    have bn:Hid (ZbW b3 b4 b5 (W9.heap.size+1) W9.heap.size B w.heap.size (.loop (Z .busy none)) (.deferred (some [])) W Y):=a8.1
    have de:Hid (Bk Y b1 22 #[.slice A n c]):=a8.2.1
    have dg:Hid (Bk Y b2 4 #[.bool false]):=a8.2.2.1
    have cd:Hid (Bk Y b3 24 (Zag last).toArray):=a8.2.2.2.1
    have ch:Hid (Bk Y b4 25 #[.slice LA s.length lc]):=a8.2.2.2.2.1
    have cj:Hid (Bk Y b5 3 #[I ((k:Int)+1)]):=a8.2.2.2.2.2.1
    have dn:Hid (Bk Y b7 41 #[I 0,I nn]):=a8.2.2.2.2.2.2.1
    have dq:Hid (Bk Y b8 43 #[I xk,I xa,I xi,I xw,I xn,I xu,I xc,I xq,I xp,I xm,.bool xl,.string xs]):=a8.2.2.2.2.2.2.2.1
    have aH:Hid (Y.ownsRow w.heap.size 45 5 (.slice LA s.length lc) s.length (O.lcs (Ze5 (Zeg xa xi xq) s j))):=a8.2.2.2.2.2.2.2.2.1
    have cx:Hid (kn=(s.take j).any (fun e:O.Lc=>decide (e.acct=xa∧e.id=xi))):=a8.2.2.2.2.2.2.2.2.2
    clear a8
    by_cases ct:j<s.length
    rotate_left
    ·have ej:j=s.length:=by omega
     have hk:kn=true:=by
      rw[cx.out,ej,List.take_length]
      obtain⟨e,he,e1,e2⟩:=ah.known dW.out
      exact List.any_eq_true.2 ⟨e,he,decide_eq_true ⟨e1,e2⟩⟩
     subst hk
     have EJ:=Hi ej
     clear ej
     gi_wp2
     clear ct hj
     have hm:Ze5 (Zeg xa xi xq) s j=s.map (Zeg xa xi xq):=by rw[EJ.out];exact Zlj
     have ba:(s.map (Zeg xa xi xq)).length=s.length:=List.length_map ..
     have hf:=bL.out Y _ (s.map (Zeg xa xi xq)) LA lc bn.out cd.out (by rw[ba];exact ch.out) cj.out (by rw[ba,←hm];exact aH.out) (by rw[ba];exact Nat.le_succ_of_le aW.out) (ah.cut dW.out)
     exact⟨hf.1,.inl ⟨rfl,hf.2.1,hf.2.2⟩⟩
    have ao:=Hi ct
    have d2:Hid (wrap64 ((j:Int)+1)=(j:Int)+1):=ZaQ (by have h1:=bV.out;omega)
    have d8:j<(Ze5 (Zeg xa xi xq) s j).length:=by rw[ZdV];exact ct
    obtain⟨g,cO,p0,p1,p2,p3,p4⟩:=Zit aH.out ZdV d8
    obtain⟨⟨ea,ei,en,eq,ep⟩,hp⟩:∃p,p=(Ze5 (Zeg xa xi xq) s j)[j]'d8:=⟨_,rfl⟩
    have bU:Hid ((⟨ea,ei,en,eq,ep⟩:O.Lc)=s[j]'ao.out):=hp.trans (ZhY ct)
    rw[←hp] at p0 p1 p2 p3 p4
    dsimp only at p0 p1 p2 p3 p4
    have bd:=Hi cO
    have bc:Hid (w.heap.size≤g∧g<B∧g<Y.heap.size):=⟨(ZaP aH _ cO).1,cy.out _ cO,(ZaP aH _ cO).2⟩
    have fo:Hid (∀U,Y.heap.size≤U→∀p,LA=some p→p.block≠U):=fun U hU p fy=>Nat.ne_of_lt (Nat.lt_of_lt_of_le (ZaP aH p fy).2 hU)
    have j0:(0:Int)≤(j:Int):=Int.natCast_nonneg j
    have j1:(j:Int)<(s.length:Int):=Int.ofNat_lt.mpr ct
    clear d8 hp cO
    rw[bd.out]
    obtain⟨dS,ae⟩:=ExY (Y.alloc (.cells #[I ea,I ei,I en,I eq,I ep] 45))
    obtain⟨ds,bR⟩:=ExY Y.heap.size
    have cD:Hid (W.heap.size≤ds):=by rw[bR];exact bn.size
    have bo:Hid (ZbW b3 b4 b5 (W9.heap.size+1) W9.heap.size B w.heap.size (.loop (Z .busy none)) (.deferred (some [])) W dS):=by rw[ae];exact bn.alloc _
    have aZ:=bkA de ae
    have a1:=bkA dg ae
    have bB:=bkA cd ae
    have a2:=bkA ch ae
    have a3:=bkA cj ae
    have a5:=bkA dn ae
    have a7:=bkA dq ae
    have bs:=boC aH ae
    have R:=bkW ae bR
    have eu:Hid (∀p,LA=some p→p.block≠ds):=fo.out _ (by rw[bR];exact Nat.le_refl _)
    gi_upto_region 28 with(fail)
    rw[←ae,←bR]
    clear ae bR
    clear p0 p1 p2 p3 p4 ct hj
    have ab:=aZ.one
    have X:=a1.one
    have aF:=a2.one
    have ac:=a3.one
    have ad:=a5.two
    have aj:=a7.twelve
    have bW:=R.five
    by_cases ma:ea=xa
    rotate_left
    ·have ta:(ea != xa)=true:=by simpa using ma
     have MA:=Hi ma
     clear ma
     have hf:(Zeg xa xi xq) (s[j]'ao.out)=s[j]'ao.out:=by
      rw[←bU.out]
      unfold Zeg
      exact if_neg fun h=>MA.out h.1
     have hm:Ze5 (Zeg xa xi xq) s (j+1)=Ze5 (Zeg xa xi xq) s j:=by
      rw[Zfz ao.out,hf,←ZhY (f:=(Zeg xa xi xq)) ao.out]
      exact List.set_getElem_self ..
     have ha:kn=(s.take (j+1)).any (fun e:O.Lc=>decide (e.acct=xa∧e.id=xi)):=by
      rw[Zgg ao.out,←cx.out,←bU.out,decide_eq_false (fun h=>MA.out h.1),Bool.or_false]
     have HM:=Hi hm
     have cu:=Hi ha
     clear hf hm ha
     gi_wp2
     rw[←bd.out,d2.out]
     exact⟨⟨j+1,kn,ao,rfl,by rw[Int.natCast_succ],⟨bo,aZ,a1,bB,a2,a3,a5,a7,(by rw[HM.out];exact bs.out),cu⟩⟩,Zba ao⟩
    have ta:(ea != xa)=false:=by simpa using ma
    have MA:=Hi ma
    clear ma
    by_cases mi:ei=xi
    rotate_left
    ·have ti:(ei != xi)=true:=by simpa using mi
     have MI:=Hi mi
     clear mi
     have hf:(Zeg xa xi xq) (s[j]'ao.out)=s[j]'ao.out:=by
      rw[←bU.out]
      unfold Zeg
      exact if_neg fun h=>MI.out h.2
     have hm:Ze5 (Zeg xa xi xq) s (j+1)=Ze5 (Zeg xa xi xq) s j:=by
      rw[Zfz ao.out,hf,←ZhY (f:=(Zeg xa xi xq)) ao.out]
      exact List.set_getElem_self ..
     have ha:kn=(s.take (j+1)).any (fun e:O.Lc=>decide (e.acct=xa∧e.id=xi)):=by
      rw[Zgg ao.out,←cx.out,←bU.out,decide_eq_false (fun h=>MI.out h.2),Bool.or_false]
     have HM:=Hi hm
     have cu:=Hi ha
     clear hf hm ha
     gi_wp2
     rw[←bd.out,d2.out]
     exact⟨⟨j+1,kn,ao,rfl,by rw[Int.natCast_succ],⟨bo,aZ,a1,bB,a2,a3,a5,a7,(by rw[HM.out];exact bs.out),cu⟩⟩,Zba ao⟩
    have ti:(ei != xi)=false:=by simpa using mi
    have MI:=Hi mi
    clear mi
    have cV:=ah.fits dW.out ⟨ea,ei,en,eq,ep⟩ (by rw[bU.out];exact List.getElem_mem _) MA.out MI.out
    dsimp only at cV
    have WQ:Hid (wrap64 (eq-xq)=nn):=by show wrap64 _=_;unfold wrap64;omega
    have fp:Hid (eq-xq=nn):=cV.2.1
    have n0:¬nn<0:=by omega
    have n1:(nn != nn)=false:=by simp
    clear cV
    gi_upto_region 31 with(fail)
    rw[WQ.out]
    obtain⟨aS,af⟩:=ExY (dS.setCell ⟨ds,3,none⟩ (I nn))
    rw[←af]
    have c9:Hid (ZbW b3 b4 b5 (W9.heap.size+1) W9.heap.size B w.heap.size (.loop (Z .busy none)) (.deferred (some [])) W aS):=by rw[af];exact bo.fresh R cD 3 _
    have aq:=bkF aZ af R rfl
    have aw:=bkF a1 af R rfl
    have aI:=bkF bB af R rfl
    have ax:=bkF a2 af R rfl
    have az:=bkF a3 af R rfl
    have aB:=bkF a5 af R rfl
    have aD:=bkF a7 af R rfl
    have cC:Hid (Bk aS ds 45 #[I ea,I ei,I en,I nn,I ep]):=bkS R 3 af
    have dd:Hid (aS.ownsRow w.heap.size 45 5 (.slice LA s.length lc) s.length (O.lcs (Ze5 (Zeg xa xi xq) s j))):=by rw[af];exact ZbV bs eu
    clear ab X aF ac ad aj bW
    clear af
    have ab:=aq.one
    have X:=aw.one
    obtain⟨bg,bT,cZ⟩:=ax.one
    have ac:=az.one
    have ad:=aB.two
    have aj:=aD.twelve
    have bW:=cC.five
    rw[bd.out] at bg
    gi_upto_region 33 with(fail)
    have dY:Hid (aS.ownsRow w.heap.size 45 5 (.slice (some ⟨g,0,none⟩) s.length lc) s.length (O.lcs (Ze5 (Zeg xa xi xq) s j))):=bd.out▸dd.out
    have fq:Hid (aS.there g (j*5) (#[I ea,I ei,I en,I nn,I ep]:Array Value).size):=Zj6 dY ao (by rw[O.lcs_len,ZdV])
    gi_upto_region 34 with(refine ZeW (Zb7 _) rfl 45 _ _ rfl g (j*5) #[I ea,I ei,I en,I nn,I ep] rfl rfl fq.out ZmX (by simp[Value.oneCell']) ?_)
    clear ab X bg bT cZ ac ad aj bW n0 n1 ta ti j0 j1
    have eR:aS.setCells g (j*5) (#[I ea,I ei,I en,I nn,I ep]:Array Value).toList=(((((aS.setCell ⟨g,j*5,none⟩ (I ea)).setCell ⟨g,j*5+1,none⟩ (I ei)).setCell ⟨g,j*5+2,none⟩ (I en)).setCell ⟨g,j*5+3,none⟩ (I nn)).setCell ⟨g,j*5+4,none⟩ (I ep)):=rfl
    rw[eR]
    clear eR
    obtain⟨cg,_,_,J⟩:=ZaK dY.out (p:=⟨g,0,none⟩) rfl
    have J:Bk aS g 45 cg:=J
    obtain⟨aT,am⟩:=ExY ((((((aS.setCell ⟨g,j*5,none⟩ (I ea)).setCell ⟨g,j*5+1,none⟩ (I ei)).setCell ⟨g,j*5+2,none⟩ (I en)).setCell ⟨g,j*5+3,none⟩ (I nn)).setCell ⟨g,j*5+4,none⟩ (I ep)))
    rw[←am]
    have da:Hid (ZbW b3 b4 b5 (W9.heap.size+1) W9.heap.size B w.heap.size (.loop (Z .busy none)) (.deferred (some [])) W aT):=by rw[am];exact(((((c9.rowc J bc.1 bc.2.1 (j*5) (I ea)).rowc (J.set (j*5) (I ea)) bc.1 bc.2.1 (j*5+1) (I ei)).rowc ((J.set (j*5) (I ea)).set (j*5+1) (I ei)) bc.1 bc.2.1 (j*5+2) (I en)).rowc (((J.set (j*5) (I ea)).set (j*5+1) (I ei)).set (j*5+2) (I en)) bc.1 bc.2.1 (j*5+3) (I nn)).rowc ((((J.set (j*5) (I ea)).set (j*5+1) (I ei)).set (j*5+2) (I en)).set (j*5+3) (I nn)) bc.1 bc.2.1 (j*5+4) (I ep))
    have df:Hid (Bk aT b1 22 #[.slice A n c]):=by rw[am];exact(((((aq.far (p:=⟨g,j*5,none⟩) (aq.ne J (by decide)) _).far (p:=⟨g,j*5+1,none⟩) (aq.ne J (by decide)) _).far (p:=⟨g,j*5+2,none⟩) (aq.ne J (by decide)) _).far (p:=⟨g,j*5+3,none⟩) (aq.ne J (by decide)) _).far (p:=⟨g,j*5+4,none⟩) (aq.ne J (by decide)) _)
    have dh:Hid (Bk aT b2 4 #[.bool false]):=by rw[am];exact(((((aw.far (p:=⟨g,j*5,none⟩) (aw.ne J (by decide)) _).far (p:=⟨g,j*5+1,none⟩) (aw.ne J (by decide)) _).far (p:=⟨g,j*5+2,none⟩) (aw.ne J (by decide)) _).far (p:=⟨g,j*5+3,none⟩) (aw.ne J (by decide)) _).far (p:=⟨g,j*5+4,none⟩) (aw.ne J (by decide)) _)
    have dk:Hid (Bk aT b3 24 (Zag last).toArray):=by rw[am];exact(((((aI.far (p:=⟨g,j*5,none⟩) (aI.ne J (by decide)) _).far (p:=⟨g,j*5+1,none⟩) (aI.ne J (by decide)) _).far (p:=⟨g,j*5+2,none⟩) (aI.ne J (by decide)) _).far (p:=⟨g,j*5+3,none⟩) (aI.ne J (by decide)) _).far (p:=⟨g,j*5+4,none⟩) (aI.ne J (by decide)) _)
    have dl:Hid (Bk aT b4 25 #[.slice LA s.length lc]):=by rw[am];exact(((((ax.far (p:=⟨g,j*5,none⟩) (ax.ne J (by decide)) _).far (p:=⟨g,j*5+1,none⟩) (ax.ne J (by decide)) _).far (p:=⟨g,j*5+2,none⟩) (ax.ne J (by decide)) _).far (p:=⟨g,j*5+3,none⟩) (ax.ne J (by decide)) _).far (p:=⟨g,j*5+4,none⟩) (ax.ne J (by decide)) _)
    have dm:Hid (Bk aT b5 3 #[I ((k:Int)+1)]):=by rw[am];exact(((((az.far (p:=⟨g,j*5,none⟩) (az.ne J (by decide)) _).far (p:=⟨g,j*5+1,none⟩) (az.ne J (by decide)) _).far (p:=⟨g,j*5+2,none⟩) (az.ne J (by decide)) _).far (p:=⟨g,j*5+3,none⟩) (az.ne J (by decide)) _).far (p:=⟨g,j*5+4,none⟩) (az.ne J (by decide)) _)
    have dp:Hid (Bk aT b7 41 #[I 0,I nn]):=by rw[am];exact(((((aB.far (p:=⟨g,j*5,none⟩) (aB.ne J (by decide)) _).far (p:=⟨g,j*5+1,none⟩) (aB.ne J (by decide)) _).far (p:=⟨g,j*5+2,none⟩) (aB.ne J (by decide)) _).far (p:=⟨g,j*5+3,none⟩) (aB.ne J (by decide)) _).far (p:=⟨g,j*5+4,none⟩) (aB.ne J (by decide)) _)
    have dr:Hid (Bk aT b8 43 #[I xk,I xa,I xi,I xw,I xn,I xu,I xc,I xq,I xp,I xm,.bool xl,.string xs]):=by rw[am];exact(((((aD.far (p:=⟨g,j*5,none⟩) (aD.ne J (by decide)) _).far (p:=⟨g,j*5+1,none⟩) (aD.ne J (by decide)) _).far (p:=⟨g,j*5+2,none⟩) (aD.ne J (by decide)) _).far (p:=⟨g,j*5+3,none⟩) (aD.ne J (by decide)) _).far (p:=⟨g,j*5+4,none⟩) (aD.ne J (by decide)) _)
    have dz:=Zlq dY.out ZdV (by rw[ZdV];exact ao.out) ⟨ea,ei,en,nn,ep⟩
    dsimp only at dz
    rw[←am] at dz
    have hf:(Zeg xa xi xq) (s[j]'ao.out)=⟨ea,ei,en,nn,ep⟩:=by
     rw[←bU.out,←fp.out]
     unfold Zeg
     exact if_pos ⟨MA,MI⟩
    have ey:Hid (aT.ownsRow w.heap.size 45 5 (.slice LA s.length lc) s.length (O.lcs (Ze5 (Zeg xa xi xq) s (j+1)))):=by
     show World.ownsRow _ _ _ _ _ _ _
     rw[Zfz ao.out,hf,bd.out]
     exact dz
    have cu:Hid (true=(s.take (j+1)).any (fun e:O.Lc=>decide (e.acct=xa∧e.id=xi))):=by
     show true=_
     rw[Zgg ao.out,←bU.out,decide_eq_true (show ea=xa∧ei=xi from⟨MA.out,MI.out⟩),Bool.or_true]
    clear dz hf J am
    gi_wp2
    rw[←bd.out,d2.out]
    exact⟨⟨_,_,_,_,⟨j+1,ao.out,.inr ⟨rfl,rfl,⟨da.out,df.out,dh.out,dk.out,dl.out,dm.out,dp.out,dr.out,ey.out,by simpa using cu.out⟩⟩⟩,rfl,rfl,rfl,by rw[Int.natCast_succ]⟩,Zba ao.out⟩
  have t1:(xk==1)=false:=by simpa using K1.out
  have t3:(xk==3)=false:=by simpa using K3.out
  have t4:(xk==4)=false:=by simpa using k0
  have fm:Hid (Zfa mk.la m2.la mk.orders m2.orders):=(ZgA c6).2.2.2 K1 K3 k0
  clear k0
  gi_wp2
  have hf:=bL.out ai last s LA lc aM.out z.out (aJ.out) aK.out (aO.out) (Nat.le_succ_of_le aW.out) (ah.less fm.out)
  exact⟨hf.1,.inl ⟨rfl,hf.2.1,hf.2.2⟩⟩
 ·refine⟨b0.trans (aG.mono b0.size),c4.below aG,(ew.below aG).mono (Nat.zero_le _),el.below aG el.lt,⟨Nat.le_trans et aG.size,Nat.le_refl _⟩,d9,d7,List.replicate 16 0,[],none,0,?_⟩
  have eX:m1.la=[0,0]∧m1.orders=[]:=⟨(ZmC ez.accts).trans bd.1,ez.orders.trans bd.2⟩
  rw[eX.1,eX.2]
  exact⟨cF.below aG cF.lt,cI.below aG cI.lt,dL.below aG dL.lt,dN.below aG dN.lt,dP.below aG dP.lt,World.ownsRow_nil _ _ _ _,(fun p hp=>by cases hp),Nat.le_refl _,Zi4⟩
 ·rintro e WE ⟨rfl,⟨mN,T,h1,h2,h3,h4,h5,h6,h7,last,s,LA,lc,h8⟩|h⟩
  rotate_left
  ·exact h.elim
  refine .inl ⟨_,rfl,h6,?_⟩
  have lw:w.heap.size≤W9.heap.size:=b0.size
  obtain⟨V1,cP⟩:=ExY (WE.putObj (W9.heap.size+1) (.loop (Z .exhausted none)))
  have k2:Bk V1 b2 4 #[.bool false]:=by rw[cP];exact Bk.put h8.h2 h6 _
  have kd:V1.heap[W9.heap.size]?=some (.deferred (some [])):=by rw[cP];exact(World.putObj_heap_other (Nat.ne_of_lt (Nat.lt_succ_self _))).trans h7
  have kb:Bw w V1:=by rw[cP];exact ZaT h1 (by omega) _
  obtain⟨V2,dt⟩:=ExY (V1.setCell ⟨b2,0,none⟩ (.bool true))
  have q2:Bk V2 b2 4 #[.bool true]:=by rw[dt];exact k2.set 0 _
  have qd:V2.heap[W9.heap.size]?=some (.deferred (some [])):=by rw[dt];exact ZdQ k2 kd (fun _ _ _ h=>by cases h)
  have qb:Bw w V2:=by rw[dt];exact kb.setCell (p:=⟨b2,0,none⟩) cJ _
  have Q2:=Hi q2
  have QD:=Hi qd
  have QB:=Hi qb
  have K2:=Hi k2
  have LW:=Hi lw
  clear h1 h2 h3 h4 h5 h6 h7 h8 k2 kd kb q2 qd qb lw aG d9 d7 cX
  rw[←cP]
  clear cP
  show ZiD prog 3 _ _ _ _
  refine Zbk ?_
  dsimp only
  have fB:=K2.one
  go_wp2
  rw[←dt]
  show LeavesInM Fence.wide 0 prog f3 _ _ [{target:=.collected W9.heap.size,args:=#[]}] .returning _
  refine⟨by simp,.inl ⟨W9.heap.size,_,rfl,run_takeDeferred QD,?_⟩⟩
  refine⟨.bool true,ZdK (p:=2) results3 _ _ b2 true rfl (Q2.putd QD _),?_⟩
  exact⟨rfl,ZaT QB LW _⟩
end
end Go.Proofs.YtdefojlkofnloaaGreatDoor
