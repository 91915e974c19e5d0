/- A part of the proof of CorePositions: for every input, no condition. -/
import Derived.Test.YtdefojlkofnloaaGreatDoorZa42
set_option maxRecDepth 100000
set_option maxHeartbeats 8000000
set_option linter.unusedVariables false
set_option linter.unusedSimpArgs false
namespace Go.Proofs.YtdefojlkofnloaaGreatDoor
open Go.RowKit Go.Proofs.Tryz
section
attribute [local go_sem] Oper.semAt_some
theorem ZbW.more{b3 b4 b5 l D B lw:Nat}{ol od:Obj}{W0 W V:World}(h:ZbW b3 b4 b5 l D B lw ol od W0 W)(s:Bw W V):ZbW b3 b4 b5 l D B lw ol od W0 V:=
 ⟨h.low,h.below.trans (s.mono (Nat.le_trans h.low h.size)),Nat.le_trans h.size s.size,(s.block _ (Array.getElem?_eq_some_iff.1 h.busy).1).trans h.busy,(s.block _ (Array.getElem?_eq_some_iff.1 h.dfd).1).trans h.dfd,h.nol,h.nod,fun g t cs h3 h4 h5 h6 z=>(h.keep g t cs h3 h4 h5 h6 z).below s (h.keep g t cs h3 h4 h5 h6 z).lt⟩
theorem ZbW.drew{b3 b4 b5 l D B lw:Nat}{ol od:Obj}{W0 W:World}(h:ZbW b3 b4 b5 l D B lw ol od W0 W):ZbW b3 b4 b5 l D B lw ol od W0 W.drew:=
 ⟨h.low,h.below.drew,h.size,h.busy,h.dfd,h.nol,h.nod,fun g t cs h3 h4 h5 h6 hb=>(h.keep g t cs h3 h4 h5 h6 hb).drew⟩
theorem Zf9{F:Fence}{n id:Nat}{P:Program}{c:Code}{K:Act→World→Prop}{s:Exit→Act→World→Prop}{a:Act}{w:World}(h:c.wpIn F n P (Exit.inBlock id (Exit.then K (fun _ _ _=>False))) a w):c.wpIn F n P (Exit.inBlock id (Exit.then K s)) a w:=
 wpIn_mono h fun e a w he=>by
  cases e with
  |exit i=>
   by_cases hi:i=id
   ·have h1:(if i=id then K a w else False):=he
    rw[if_pos hi] at h1
    show(if i=id then K a w else s (.exit i) a w)
    rw[if_pos hi];exact h1
   ·have h1:(if i=id then K a w else False):=he
    rw[if_neg hi] at h1
    exact h1.elim
  |normal=>exact he
  |_=>exact he.elim
theorem ZbW.rows{b3 b4 b5 l D lw:Nat}{ol od:Obj}{W0 W:World}(h:ZbW b3 b4 b5 l D 0 lw ol od W0 W){E G J:Array Value}(L:Bk W0 b3 48 E)(N:Bk W0 b4 37 G)(R:Bk W0 b5 3 J){base e C n c:Nat}{A:Option Addr}{xs:List Value}(s:e≠48∧e≠37∧e≠3)(z:W0.ownsRow base e C (.slice A n c) n xs):W.ownsRow base e C (.slice A n c) n xs:=
 ZaF z fun p hp=>by
  obtain⟨cs,_,_,hc⟩:=ZaK z hp
  have hc:Bk W0 p.block e cs:=hc
  exact(h.keep _ _ _ (hc.ne L s.1) (hc.ne N s.2.1) (hc.ne R s.2.2) (.inr (Nat.zero_le _)) hc:_=_).trans (hc:_=_).symm
theorem Zjh:ZhC (List.replicate 192 0) []:=by
 refine⟨List.length_replicate ..,rfl,fun a i ha hi=>?_⟩
 simp only[List.getD,List.getElem?_replicate]
 split<;>rfl
theorem ZmE{s:EvP}{m z:Zab}{n:Int}(h:Zga s m z n)(C:s.kind=4):m.orders.length≤32:=by
 obtain⟨_,_,h⟩:=h
 rw[if_pos (by omega)] at h
 unfold Za5 at h
 rw[if_neg (by omega),if_neg (by omega),if_neg (by omega)] at h
 exact((O.good_iff 16 12 m.orders).1 (ZdR h.1.1).1).1
theorem Zms:Tryz.zeroCells48=(Zag (List.replicate 192 0)).toArray:=by kernel_rfl
theorem Zmc(A:Option Addr)(c:Nat)(ay:List EvP)(w:World)(d8:Gl w)(ef:Rd w w.heap.size 12 A ay.length (ay.flatMap EvP.cs)):
 Calls prog 4 #[.slice A ay.length c] w (Zig w):=by
 obtain⟨n,hn⟩:=ExY ay.length
 have bW:=Hi hn
 have dP:Hid (Rd w w.heap.size 12 A n (ay.flatMap EvP.cs)):=by rw[hn];exact ef
 have bO:=Hi d8
 have ey:=Hi (fun V (h:Gl V)=>Zhz V h)
 rw[←hn]
 clear hn ef d8
 obtain⟨W1,cg⟩:=ExY (w.alloc (.cells #[.slice A n c] 22))
 obtain⟨b1,ae⟩:=ExY w.heap.size
 have cQ:=blB cg
 have dU:=bkW cg ae
 obtain⟨W2,ch⟩:=ExY (W1.alloc (.cells #[.bool false] 4))
 obtain⟨b2,cG⟩:=ExY W1.heap.size
 have bo:=blZ cQ cG
 have cS:=blA cQ ch
 have cZ:=bkA dU ch
 have c2:=bkW ch cG
 have dc:b2=b1+1:=by rw[cG,cg,World.size_alloc,←ae]
 refine ZcF (fd:=f4) func4 rfl ?_
 simp only[ntmps4,List.size_toArray,List.length_cons,List.length_nil,Nat.reduceAdd,Nat.reduceSub,Array.replicate_succ,Array.replicate_zero,List.push_toArray,List.append_toArray,List.nil_append,List.cons_append]
 refine Za1 (Zbk ?_)
 go_wp2
 rw[←cg,←ae,←ch,←dc]
 clear cg ae dc ch cG
 refine Za1 (Zbk ?_)
 have an:=cZ.one
 have aa:=c2.one
 go_wp2_with fail
 refine(ey.out _ (bO.below cS bO.lt)).mono ?_
 rintro e W3 ⟨rfl,hb⟩
 have bT:=blT cS hb
 have c0:=bkN cZ hb
 have b0:=bkN c2 hb
 clear an aa
 clear hb
 have an:=c0.one
 have aa:=b0.one
 dsimp only
 go_wp2
 refine Za1 (Zbk ?_)
 by_cases dm:60<n
 ·have ej:(60:Int)<(n:Int):=Int.ofNat_lt.mpr dm
  go_wp2
  have hz:Bk (W3.setCell ⟨b2,0,none⟩ (.bool true)) b2 4 #[.bool true]:=b0.set 0 _
  have eI:Bw w (W3.setCell ⟨b2,0,none⟩ (.bool true)):=bT.setCell (p:=⟨b2,0,none⟩) bo _
  show LeavesInM Fence.wide 0 prog f4 _ _ [] .returning _
  exact⟨.bool true,ZdK (p:=2) results4 _ _ b2 true rfl hz,rfl,eI⟩
 have de:Hid (ay.length≤60):=by have:=bW.out;show _≤60;omega
 have ej:¬(60:Int)<(n:Int):=fun h=>dm (Int.ofNat_lt.mp h)
 go_wp2
 clear dm ej
 clear an aa
 refine Za1 (Zbk ?_)
 obtain⟨W4,bQ⟩:=ExY (W3.alloc (.cells Tryz.zeroCells48 48))
 obtain⟨b3,cH⟩:=ExY W3.heap.size
 have cb:=blZ bT cH
 have dE:=blA bT bQ
 have dV:=bkA c0 bQ
 have dY:=bkA b0 bQ
 have ca:=bkW bQ cH
 go_wp2
 rw[←bQ,←cH]
 clear bQ cH
 have h:=ca.out
 have ca:Hid (Bk W4 b3 48 (Zag (List.replicate 192 0)).toArray):=by rw[Zms] at h;exact h
 clear h
 refine Za1 (Zbk ?_)
 go_wp2_with fail
 refine(Zfn _).mono ?_
 rintro e W5 ⟨rfl,hr,hb⟩
 obtain⟨m,hm⟩:=ExY (Zen W4.heap.size)
 rw[←hm] at hr ⊢
 have aM:Hid (m.orders=[]∧m.poss=[]∧m.sOrd.A=none∧m.sOrd.c=0):=by rw[hm];exact⟨rfl,rfl,rfl,rfl⟩
 have ex:=Hi hr
 clear hm hr
 have bh:m.val=.agg m.ar:=rfl
 rw[bh]
 clear bh
 have cT:=blT dE hb
 have dW:=bkN dV hb
 have dZ:=bkN dY hb
 have d1:=bkN ca hb
 clear hb
 dsimp only
 obtain⟨W6,bg⟩:=ExY (W5.alloc (.cells m.ar 37))
 obtain⟨b4,cI⟩:=ExY W5.heap.size
 have dk:=blZ cT cI
 have cU:=blA cT bg
 have dX:=bkA dW bg
 have d0:=bkA dZ bg
 have d2:=bkA d1 bg
 have d3:=bkW bg cI
 go_wp2
 have dD:Hid (Bw W5 W6):=by rw[bg];exact(Below.refl _ _).alloc (Nat.le_refl _) _
 rw[←bg,←cI]
 clear bg cI
 refine Za1 (Zbk ?_)
 obtain⟨W7,a8⟩:=ExY (W6.alloc (.cells #[I 0] 3))
 obtain⟨b5,cJ⟩:=ExY W6.heap.size
 have dl:=blZ cU cJ
 have bc:=blA cU a8
 have bZ:=bkA dX a8
 have b9:=bkA d0 a8
 have c4:=bkA d2 a8
 have cc:=bkA d3 a8
 have cd:=bkW a8 cJ
 go_wp2
 have cP:=blA dD a8
 rw[←a8,←cJ]
 clear a8 cJ
 refine Za1 ?_
 refine Za1 (Zbk ?_)
 obtain⟨bN,cr,dA⟩:=bZ.one
 have aa:=b9.one
 have ao:=cc.nine
 have ap:=cd.one
 go_wp2_with fail
 have eo:Hid (Calls prog 6 #[.agg m.ar,.slice A n c] W7 (ZeZ m ay W7)):=by rw[bW.out];exact Zgk m A c ay W7 ((ex.below cP).mono cP.size) de (by rw[←bW.out];exact(dP.below bc).mono bc.size)
 refine eo.mono ?_
 rintro e W8 ⟨hb,bl,be,m1,A7,c7,rfl,eg,ed,d7⟩
 have dQ:=Hi eg
 have cu:=Hi d7
 have dJ:=Hi ed
 clear eg ed d7
 obtain⟨lo,ds⟩:=ExY W7.heap.size
 rw[←ds] at dJ cu
 have cV:Hid (b1<lo∧b2<lo∧b3<lo∧b4<lo∧b5<lo∧6<lo∧w.heap.size≤lo):=by
  rw[ds]
  exact⟨bZ.lt,b9.lt,c4.lt,cc.lt,cd.lt,Nat.lt_of_lt_of_le bO.lt bc.size,bc.size⟩
 clear ds
 have bd:=blT bc hb
 have c1:=bkN bZ hb
 have c3:=bkN b9 hb
 have c5:=bkN c4 hb
 have c6:=bkN cc hb
 have c8:=bkN cd hb
 clear bN cr dA aa ao ap
 clear hb
 dsimp only
 go_wp2
 have dF:Hid (Gl W8):=bO.below bd bO.lt
 have dI:Hid (lo≤W8.heap.size):=by have h1:=cu.ge.1;have h2:=cu.bk.lt;show lo≤_;omega
 refine Zd3 (ZlC (caps:=#[Pt bl,Pt be]) rfl ZhO ?_)
 intro G cm W1 ae dr dq
 refine(Zfp (W8.heap.size+1) lo bl be W1.heap.size A7 c7 m1 ay (fun(k:Nat) (mk:Zab) (T:Nat) (W:World)=>Bw w W∧Zb4 W lo bl be m1 ay A7 c7∧Zaa W 0 mk∧Gl W∧(lo≤T∧T≤W.heap.size)∧W.heap[W8.heap.size+1]?=some (.loop (G .ready none))∧W.heap[W8.heap.size]?=some (.deferred (some []))∧∃(J:List Int) (mb:Zab),ZgR b1 b2 b3 b4 b5 A n c W k mk J mb) (fun(W:World)=>Bw w W∧W.heap[W8.heap.size+1]?=some (.loop (G .done (some .ret)))∧W.heap[W8.heap.size]?=some (.deferred (some []))∧Bk W b2 4 #[.bool true]) de Zff ?_ ?_ ?_ ?_ W1 ?_).mono ?_
 ·rintro k mk T W ⟨h1,h2,h3,h4,h5,_⟩
  exact⟨h2,h3,h4,h5.2⟩
 ·rintro k mk T W W' ⟨h1,h2,h3,h4,h5,h6,h7,J,mb,h8⟩ hb
  exact⟨h1.trans (hb.mono h1.size),h2.below hb,h3.below hb,h4.below hb h4.lt,⟨h5.1,Nat.le_trans h5.2 hb.size⟩,(hb.block _ (Array.getElem?_eq_some_iff.1 h6).1).trans h6,(hb.block _ (Array.getElem?_eq_some_iff.1 h7).1).trans h7,J,mb,h8.below hb⟩
 ·rintro k mk T W g t cs eB ⟨h1,h2,h3,h4,h5,h6,h7,J,mb,h8⟩ hg eM ht hb
  have hx:=cV.out
  refine⟨ZaB h1 (Nat.le_trans hx.2.2.2.2.2.2 hg) _,h2.row eM ht hb,h3.rowT hb ht,h4.below (ZaB (Below.refl g _) (Nat.le_refl _) _) (by omega),⟨h5.1,?_⟩,ZcU hb h6 (fun _ _ _ h=>by cases h),ZcU hb h7 (fun _ _ _ h=>by cases h),J,mb,h8.rowT hb (by omega) ht⟩
  rw[show(W.setRow g eB).heap.size=W.heap.size by simp];exact h5.2
 ·rintro k hk mk m2 m3 nn er T B W ⟨h1,h2,h3,h4,h5,h6,h7,J,mb,h8⟩ eG eE dz ee cO du
  refine ZkD cm h6 rfl ?_
  have bh:m3.val=.agg m3.ar:=rfl
  rw[bh]
  clear bh
  have l5:=dI.out
  have l6:=cV.out
  have lw:w.heap.size≤W.heap.size:=h1.size
  have lD:w.heap.size≤W8.heap.size:=by omega
  obtain⟨Z5,ci⟩:=ExY (W.alloc (.cells m3.ar 37))
  obtain⟨b6,cK⟩:=ExY W.heap.size
  obtain⟨Z6,cj⟩:=ExY (Z5.alloc (.cells #[I er,I nn] 41))
  obtain⟨b7,dn⟩:=ExY Z5.heap.size
  have B5:Bw W Z5:=by rw[ci];exact(Below.refl _ _).alloc (Nat.le_refl _) _
  have B6:Bw W Z6:=by rw[cj];exact B5.alloc B5.size _
  have c9:Bk Z6 b6 37 m3.ar:=by rw[cj,ci,cK];exact(Bk.new _ _ _).alloc _
  have da:Bk Z6 b7 41 #[I er,I nn]:=by rw[cj,dn];exact Bk.new _ _ _
  have dd:b7=b6+1:=by rw[dn,ci,World.size_alloc,←cK]
  have bR:Z6.heap[W8.heap.size+1]?=some (.loop (G .ready none)):=(B6.block _ (Array.getElem?_eq_some_iff.1 h6).1).trans h6
  have d5:Z6.heap[W8.heap.size]?=some (.deferred (some [])):=(B6.block _ (Array.getElem?_eq_some_iff.1 h7).1).trans h7
  obtain⟨Z7,ba⟩:=ExY (Z6.putObj (W8.heap.size+1) (.loop (G .busy none)))
  have bp:∀ {g t cs},Bk W g t cs→Bk Z7 g t cs:=fun {g t cs} hb=>by rw[ba];exact(hb.below B6 hb.lt).put bR _
  have bt:Hid (ZbW b3 b4 b5 (W8.heap.size+1) W8.heap.size 0 w.heap.size (.loop (G .busy none)) (.deferred (some [])) W Z7):=by
   refine⟨lw,?_,?_,?_,?_,(fun _ _ _ h=>by cases h),(fun _ _ _ h=>by cases h),fun g t cs _ _ _ _ hb=>bp hb⟩
   ·rw[ba];exact ZaT (B6.mono lw) (by omega) _
   ·rw[ba,World.putObj_size];exact B6.size
   ·rw[ba];exact World.putObj_heap_same (Array.getElem?_eq_some_iff.1 bR).1
   ·rw[ba];exact(World.putObj_heap_other (Nat.ne_of_lt (Nat.lt_succ_self _))).trans d5
  have ek:Hid (Bw w W):=h1
  have ct:Hid (Bw w Z7):=ek.trans bt.below
  have bv:Hid (Bk Z7 b1 22 #[.slice A n c]):=bp h8.h1
  have bx:Hid (Bk Z7 b2 4 #[.bool false]):=bp h8.h2
  have cy:Hid (Bk Z7 b3 48 (Zag J).toArray):=bp h8.h3
  have bB:Hid (Bk Z7 b4 37 mb.ar):=bp h8.h4
  have bD:Hid (Bk Z7 b5 3 #[I k]):=bp h8.h5
  have bF:Hid (Bk Z7 b6 37 m3.ar):=by rw[ba];exact c9.put bR _
  have bI:Hid (Bk Z7 b7 41 #[I er,I nn]):=by rw[ba];exact da.put bR _
  have bn:Hid (∀U,ZbW b3 b4 b5 (W8.heap.size+1) W8.heap.size 0 w.heap.size (.loop (G .busy none)) (.deferred (some [])) W U→U.ownsRow B 50 3 (.slice m3.sPos.A m3.poss.length m3.sPos.c) m3.poss.length (P.lcs m3.poss)):=fun U hU=>hU.rows h8.h3 h8.h4 h8.h5 (by decide) du.poss
  have dh:Hid (∀U,ZbW b3 b4 b5 (W8.heap.size+1) W8.heap.size 0 w.heap.size (.loop (G .busy none)) (.deferred (some [])) W U→U.ownsRow 0 45 5 (.slice mb.sOrd.A mb.orders.length mb.sOrd.c) mb.orders.length (O.lcs mb.orders)):=fun U hU=>hU.rows h8.h3 h8.h4 h8.h5 (by decide) h8.row
  have cW:Hid (mb.orders=mk.orders):=h8.ord
  have bu:Hid (ZhC J mk.poss):=h8.sums
  have di:Hid (Zbj m2 m3):=cO
  have cX:Hid (∀(Wk:World),ZbW b3 b4 b5 (W8.heap.size+1) W8.heap.size 0 w.heap.size (.loop (G .busy none)) (.deferred (some [])) W Wk→Bk Wk b2 4 #[.bool false]→(Wk.setCell ⟨b2,0,none⟩ (.bool true)).heap[W8.heap.size+1]?=some (.loop (G .busy none))∧(Bw w ((Wk.setCell ⟨b2,0,none⟩ (.bool true)).putObj (W8.heap.size+1) (.loop (G .done (some .ret))))∧((Wk.setCell ⟨b2,0,none⟩ (.bool true)).putObj (W8.heap.size+1) (.loop (G .done (some .ret)))).heap[W8.heap.size+1]?=some (.loop (G .done (some .ret)))∧((Wk.setCell ⟨b2,0,none⟩ (.bool true)).putObj (W8.heap.size+1) (.loop (G .done (some .ret)))).heap[W8.heap.size]?=some (.deferred (some []))∧Bk ((Wk.setCell ⟨b2,0,none⟩ (.bool true)).putObj (W8.heap.size+1) (.loop (G .done (some .ret)))) b2 4 #[.bool true])):=by
   intro Wk hr q2
   obtain⟨Vk,cf⟩:=ExY (Wk.setCell ⟨b2,0,none⟩ (.bool true))
   rw[←cf]
   have k2:Bk Vk b2 4 #[.bool true]:=by rw[cf];exact q2.set 0 _
   have kb:Vk.heap[W8.heap.size+1]?=some (.loop (G .busy none)):=by rw[cf];exact ZdQ q2 hr.busy hr.nol
   have kd:Vk.heap[W8.heap.size]?=some (.deferred (some [])):=by rw[cf];exact ZdQ q2 hr.dfd hr.nod
   have kw:Bw w Vk:=by rw[cf];exact(h1.trans hr.below).setCell (p:=⟨b2,0,none⟩) bo _
   exact⟨kb,ZaT kw (by omega) _,World.putObj_heap_same (Array.getElem?_eq_some_iff.1 kb).1,(World.putObj_heap_other (Nat.ne_of_lt (Nat.lt_succ_self _))).trans kd,k2.put kb _⟩
  have bV:Hid (∀(Wk Vk:World) (bi:List Int),ZbW b3 b4 b5 (W8.heap.size+1) W8.heap.size 0 w.heap.size (.loop (G .busy none)) (.deferred (some [])) W Wk→Bk Wk b3 48 (Zag bi).toArray→Bk Wk b4 37 mb.ar→Bk Wk b5 3 #[I ((k:Int)+1)]→Bw Wk Vk→ZhC bi m3.poss →
   (Vk.setRow b4 m3.ar).heap[W8.heap.size+1]?=some (.loop (G .busy none))∧(∃T',Bw w ((Vk.setRow b4 m3.ar).putObj (W8.heap.size+1) (.loop (G .ready none)))∧Zb4 ((Vk.setRow b4 m3.ar).putObj (W8.heap.size+1) (.loop (G .ready none))) lo bl be m1 ay A7 c7∧Zaa ((Vk.setRow b4 m3.ar).putObj (W8.heap.size+1) (.loop (G .ready none))) 0 m2∧Gl ((Vk.setRow b4 m3.ar).putObj (W8.heap.size+1) (.loop (G .ready none)))∧(lo≤T'∧T'≤((Vk.setRow b4 m3.ar).putObj (W8.heap.size+1) (.loop (G .ready none))).heap.size)∧((Vk.setRow b4 m3.ar).putObj (W8.heap.size+1) (.loop (G .ready none))).heap[W8.heap.size+1]?=some (.loop (G .ready none))∧((Vk.setRow b4 m3.ar).putObj (W8.heap.size+1) (.loop (G .ready none))).heap[W8.heap.size]?=some (.deferred (some []))∧∃(J:List Int) (mb:Zab),ZgR b1 b2 b3 b4 b5 A n c ((Vk.setRow b4 m3.ar).putObj (W8.heap.size+1) (.loop (G .ready none))) (k+1) m2 J mb)∧Zmt lo W ((Vk.setRow b4 m3.ar).putObj (W8.heap.size+1) (.loop (G .ready none)))):=by
   intro Wk Vk bi hw q3 q4 q5 hV qs
   have hv:=hw.more hV
   have r4:=q4.below hV q4.lt
   have hr:=hv.setRow r4 (by have:=dk.out;omega) m3.ar
   have eN:b3≠b4:=h8.h3.ne h8.h4 (by decide)
   have eO:b5≠b4:=h8.h5.ne h8.h4 (by decide)
   obtain⟨Vr,cF⟩:=ExY (Vk.setRow b4 m3.ar)
   have r3:Bk Vr b3 48 (Zag bi).toArray:=by rw[cF];exact(q3.below hV q3.lt).rowFar eN _
   have r5:Bk Vr b5 3 #[I ((k:Int)+1)]:=by rw[cF];exact(q5.below hV q5.lt).rowFar eO _
   have r6:Bk Vr b4 37 m3.ar:=by rw[cF];exact r4.row _
   rw[←cF] at hr ⊢
   have au:=hr.busy
   obtain⟨Z9,bb⟩:=ExY (Vr.putObj (W8.heap.size+1) (.loop (G .ready none)))
   rw[←bb]
   have kp:∀g t cs,g≠b3→g≠b4→g≠b5→Bk W g t cs→Bk Z9 g t cs:=fun g t cs g3 g4 g5 hb=>by rw[bb];exact(hr.keep g t cs g3 g4 g5 (.inr (Nat.zero_le _)) hb).put au _
   have bz:Below w.heap.size W Z9:=by rw[bb];exact ZaT hr.below (by omega) _
   have ow:Zaa Z9 0 m2:=(ee.kept fun g t cs hg hb=>kp g t cs (by omega) (by omega) (by omega) hb).mono (Nat.zero_le _)
   have sz:W.heap.size≤Z9.heap.size:=by rw[bb,World.putObj_size];exact hr.size
   have eP:Zaa Z9 0 m3:=(du.kept fun g t cs hg hb=>kp g t cs (by omega) (by omega) (by omega) hb).mono (Nat.zero_le _)
   refine⟨au,⟨Z9.heap.size,h1.trans bz,h2.keepW fun g t cs hg ht hb=>kp g t cs (by omega) (by omega) (by omega) hb,ow,h4.below bz bO.lt,⟨by omega,Nat.le_refl _⟩,?_,?_,bi,m3,⟨?_,?_,?_,?_,?_,eP.orders,cO.orders,?_⟩⟩,fun g cs hg hb=>kp g 37 cs (by omega) (by omega) (by omega) hb⟩
   ·rw[bb];exact World.putObj_heap_same (Array.getElem?_eq_some_iff.1 au).1
   ·rw[bb];exact(World.putObj_heap_other (Nat.ne_of_lt (Nat.lt_succ_self _))).trans hr.dfd
   ·exact kp _ _ _ (h8.h1.ne h8.h3 (by decide)) (h8.h1.ne h8.h4 (by decide)) (h8.h1.ne h8.h5 (by decide)) h8.h1
   ·exact kp _ _ _ (h8.h2.ne h8.h3 (by decide)) (h8.h2.ne h8.h4 (by decide)) (h8.h2.ne h8.h5 (by decide)) h8.h2
   ·rw[bb];exact r3.put au _
   ·rw[bb];exact r6.put au _
   ·rw[bb,Int.natCast_succ];exact r5.put au _
   ·rw[←cO.poss];exact qs
  obtain⟨a,hA,ha,e0,e1⟩:=ZmG dP.out hk
  obtain⟨ev,d6⟩:=ExY (ay[k]'hk)
  rw[←d6] at e0 e1 dz
  obtain⟨xk,xa,xi,xw,xn,xu,xc,xq,xp,xm,xl,xs⟩:=ev
  have aq:∀j:Nat,(a.add j).block<w.heap.size:=fun j=>by unfold Addr.add;split<;>exact ha
  have HE:Hid (∀U,Bw w U→U.cell? (a.add (k*12))=some (I xk)∧U.cell? ⟨(a.add (k*12)).block,(a.add (k*12)).off+1,none⟩=some (I xa)∧U.cell? ⟨(a.add (k*12)).block,(a.add (k*12)).off+2,none⟩=some (I xi)∧U.cell? ⟨(a.add (k*12)).block,(a.add (k*12)).off+3,none⟩=some (I xw)∧U.cell? ⟨(a.add (k*12)).block,(a.add (k*12)).off+4,none⟩=some (I xn)∧U.cell? ⟨(a.add (k*12)).block,(a.add (k*12)).off+5,none⟩=some (I xu)∧U.cell? ⟨(a.add (k*12)).block,(a.add (k*12)).off+6,none⟩=some (I xc)∧U.cell? ⟨(a.add (k*12)).block,(a.add (k*12)).off+7,none⟩=some (I xq)∧U.cell? ⟨(a.add (k*12)).block,(a.add (k*12)).off+8,none⟩=some (I xp)∧U.cell? ⟨(a.add (k*12)).block,(a.add (k*12)).off+9,none⟩=some (I xm)∧U.cell? ⟨(a.add (k*12)).block,(a.add (k*12)).off+10,none⟩=some (.bool xl)∧U.cell? ⟨(a.add (k*12)).block,(a.add (k*12)).off+11,none⟩=some (.string xs)):=fun U hU=>⟨(hU.cell (aq _)).trans e0,(hU.cell (p:=⟨(a.add (k*12)).block,(a.add (k*12)).off+1,none⟩) (aq _)).trans (e1 0 (by decide)),(hU.cell (p:=⟨(a.add (k*12)).block,(a.add (k*12)).off+2,none⟩) (aq _)).trans (e1 1 (by decide)),(hU.cell (p:=⟨(a.add (k*12)).block,(a.add (k*12)).off+3,none⟩) (aq _)).trans (e1 2 (by decide)),(hU.cell (p:=⟨(a.add (k*12)).block,(a.add (k*12)).off+4,none⟩) (aq _)).trans (e1 3 (by decide)),(hU.cell (p:=⟨(a.add (k*12)).block,(a.add (k*12)).off+5,none⟩) (aq _)).trans (e1 4 (by decide)),(hU.cell (p:=⟨(a.add (k*12)).block,(a.add (k*12)).off+6,none⟩) (aq _)).trans (e1 5 (by decide)),(hU.cell (p:=⟨(a.add (k*12)).block,(a.add (k*12)).off+7,none⟩) (aq _)).trans (e1 6 (by decide)),(hU.cell (p:=⟨(a.add (k*12)).block,(a.add (k*12)).off+8,none⟩) (aq _)).trans (e1 7 (by decide)),(hU.cell (p:=⟨(a.add (k*12)).block,(a.add (k*12)).off+9,none⟩) (aq _)).trans (e1 8 (by decide)),(hU.cell (p:=⟨(a.add (k*12)).block,(a.add (k*12)).off+10,none⟩) (aq _)).trans (e1 9 (by decide)),(hU.cell (p:=⟨(a.add (k*12)).block,(a.add (k*12)).off+11,none⟩) (aq _)).trans (e1 10 (by decide))⟩
  have dT:=Hi dz
  have HA:=Hi hA
  have dH:Hid (k<n):=by rw[bW.out];exact hk
  have WK:Hid (wrap64 ((k:Int)+1)=(k:Int)+1):=ZaQ (by have h1:=de.out;have h2:=bW.out;have h3:=dH.out;omega)
  have et:=Hi bR
  clear l5 l6 lw lD B5 B6 c9 da bR d5 bp dz h1 h2 h3 h4 h5 h6 h7 h8 eG eE ee cO du hk ae dr dq cm ha aq e0 e1 d6 hA
  gi_wp2
  rw[←ci,←cK,←cj,←dd]
  refine⟨et,?_⟩
  rw[←ba]
  clear ci cK cj dn ba dd
  have j0:(0:Int)≤(k:Int):=Int.natCast_nonneg k
  have j1:(k:Int)<(n:Int):=Int.ofNat_lt.mpr dH
  have j2:¬(n:Int)≤(k:Int):=Int.not_le.mpr j1
  refine wpIn_block ?_
  refine ZbL fun R1 dM=>?_
  obtain⟨bN,cr,dA⟩:=bv.one
  have aa:=bx.one
  have ao:=bB.nine
  have ap:=bD.one
  have aJ:=bF.nine
  have aK:=bI.two
  gi_wp2
  refine dM.out _ _ ?_
  clear dM R1
  refine ZbL fun R2 dN=>?_
  obtain⟨e0,e1,e2,e3,e4,e5,e6,e7,e8,e9,eC,eD⟩:=HE.out Z7 ct.out
  rw[HA.out] at bN
  obtain⟨db,X⟩:=ExY (Z7.alloc (.cells #[I xk,I xa,I xi,I xw,I xn,I xu,I xc,I xq,I xp,I xm,.bool xl,.string xs] 43))
  obtain⟨b8,dp⟩:=ExY Z7.heap.size
  have cv:Hid (ZbW b3 b4 b5 (W8.heap.size+1) W8.heap.size 0 w.heap.size (.loop (G .busy none)) (.deferred (some [])) W db):=by rw[X];exact bt.alloc _
  have bw:=bkA bv X
  have bA:=bkA bx X
  have cz:=bkA cy X
  have bC:=bkA bB X
  have L:=bkA bD X
  have bG:=bkA bF X
  have bJ:=bkA bI X
  have bK:=bkW X dp
  gi_wp2
  rw[←X,←dp]
  clear X dp
  refine dN.out _ _ ?_
  clear dN R2
  clear bN cr dA aa ao ap aJ aK e0 e1 e2 e3 e4 e5 e6 e7 e8 e9 eC eD j0 j1 j2
  refine ZbL fun R3 dO=>?_
  have an:=bw.one
  have aa:=bA.one
  have ao:=bC.nine
  have ap:=L.one
  have aJ:=bG.nine
  have aK:=bJ.two
  have aw:=bK.twelve
  gi_wp2
  rw[WK.out]
  obtain⟨ad,Z⟩:=ExY (db.setCell ⟨b5,0,none⟩ (I ((k:Int)+1)))
  rw[←Z]
  have ab:Hid (ZbW b3 b4 b5 (W8.heap.size+1) W8.heap.size 0 w.heap.size (.loop (G .busy none)) (.deferred (some [])) W ad):=by rw[Z];exact cv.cell5 L dl 0 _
  have aQ:=bkF bw Z L rfl
  have ah:=bkF bA Z L rfl
  have ai:=bkF cz Z L rfl
  have ac:=bkF bC Z L rfl
  have aj:Hid (Bk ad b5 3 #[I ((k:Int)+1)]):=bkS L 0 Z
  have ak:=bkF bG Z L rfl
  have a3:=bkF bJ Z L rfl
  have a6:=bkF bK Z L rfl
  clear an aa ao ap aJ aK aw
  clear Z
  have an:=aQ.one
  have aa:=ah.one
  have ao:=ac.nine
  have ap:=aj.one
  have aJ:=ak.nine
  have aK:=a3.two
  have aw:=a6.twelve
  refine dO.out _ _ ?_
  clear dO R3
  by_cases cL:er=0
  rotate_left
  ·have te:(er==0)=false:=by simpa using cL
   have hs:Zbj mk m2:=dT.elim (fun h=>absurd h.1 cL) (fun h=>h.2.1)
   have bY:Hid (ZhC J m3.poss):=by rw[di.poss,hs.poss];exact bu
   clear cL hs
   refine ZbL fun R4 bj=>?_
   gi_wp2
   refine bj.out _ _ ?_
   clear bj R4
   refine ZbL fun R5 bX=>?_
   gi_wp2
   refine bX.out _ _ ?_
   refine ZgH _ b3 b4 b6 _ (J) m3 mb B _ bY ai ak ac (bn.out _ ab) (fun a9 V hV=>?_)
   have hf:=bV.out _ V (J) ab.out ai.out ac.out aj.out hV bY.out
   exact⟨hf.1,.inl ⟨rfl,hf.2.1,hf.2.2⟩⟩
  subst cL
  have dg:Hid (Zga ⟨xk,xa,xi,xw,xn,xu,xc,xq,xp,xm,xl,xs⟩ mk m2 nn):=dT.elim (fun h=>h.2) (fun h=>absurd rfl h.1)
  by_cases cp:xk=13
  ·have eQ:(xk==13)=true:=by simpa using cp
   clear cp
   refine ZbL fun R4 bj=>?_
   gi_wp2
   have hr:=cX.out _ ab.out ah.out
   exact⟨hr.1,.inr ⟨rfl,hr.2⟩⟩
  have ez:=Hi cp
  have eQ:(xk==13)=false:=by simpa using cp
  clear cp
  by_cases cq:xk=16
  ·have eR:(xk==16)=true:=by simpa using cq
   clear cq
   refine ZbL fun R4 bj=>?_
   gi_wp2
   have hr:=cX.out _ ab.out ah.out
   exact⟨hr.1,.inr ⟨rfl,hr.2⟩⟩
  have eA:=Hi cq
  have eR:(xk==16)=false:=by simpa using cq
  clear cq
  refine ZbL fun R4 bj=>?_
  gi_wp2
  refine bj.out _ _ ?_
  clear bj R4
  by_cases k4:xk=4
  rotate_left
  ·have t4:(xk==4)=false:=by simpa using k4
   have bY:Hid (ZhC J m3.poss):=by rw[di.poss,(ZlM dg.out).2 k4 ez.out eA.out];exact bu
   clear k4
   refine ZbL fun R5 bX=>?_
   gi_wp2
   refine bX.out _ _ ?_
   refine ZgH _ b3 b4 b6 _ (J) m3 mb B _ bY ai ak ac (bn.out _ ab) (fun a9 V hV=>?_)
   have hf:=bV.out _ V (J) ab.out ai.out ac.out aj.out hV bY.out
   exact⟨hf.1,.inl ⟨rfl,hf.2.1,hf.2.2⟩⟩
  refine ZbL fun R5 bX=>?_
  have el:Hid (mb.orders.length≤32):=by rw[cW.out];exact ZmE dg k4
  have dx:Zjr mb.orders mk.poss m2.poss xa xi xq:=by rw[cW.out];exact(ZlM dg).1 k4
  have t4:(xk==4)=true:=by simpa using k4
  have eH:=dx.hacct
  obtain⟨q,rfl⟩:∃q:Nat,xa=(q:Int):=ZaW (by omega)
  have hq:2≤q∧q<16:=by omega
  obtain⟨ks,ec,eh,d9,eb,dy,bM⟩:=dx.hos
  obtain⟨i,hi⟩:∃i:Nat,(mb.orders[ks]).instr=(i:Int):=ZaW d9
  obtain⟨oq,dv⟩:=ExY ((mb.orders[ks]).qty)
  rw[hi] at bM eb
  rw[←dv] at bM dy
  have cl:i<12:=by omega
  have cn:=bu.add hq cl bM
  obtain⟨ov,dw⟩:=ExY (J.getD (q*12+i) 0)
  rw[←dw] at cn
  obtain⟨af,bq⟩:=ExY (J.set (q*12+i) (ov+ZcY oq xq))
  rw[←bq] at cn
  have dR:Hid (ZhC af m3.poss):=by rw[di.poss];exact cn.1
  have dC:Hid (-1000000000≤ov∧ov≤1000000000 ∧ -1000000000≤ZcY oq xq∧ZcY oq xq≤1000000000):=cn.2
  have dK:=Hi dw
  have cY:=Hi bq
  have bs:=Hi hq
  have br:=Hi cl
  have df:Hid (ks<mb.orders.length):=ec
  have dj:Hid (∀(j:Nat) (hj:j<mb.orders.length),((mb.orders[j]).acct=(q:Int)∧(mb.orders[j]).id=xi)↔j=ks):=eh
  have eu:Hid ((mb.orders[ks]'df.out).instr=(i:Int)):=hi
  have ew:Hid (oq=(mb.orders[ks]'df.out).qty):=dv
  have dL:=Hi dy
  have dS:Hid (J.length=192):=bu.len
  clear dx eH hq eh d9 eb dy bM hi dv cl cn dw bq k4
  clear ec
  clear an aa ao ap aJ aK aw
  have an:=aQ.one
  have aa:=ah.one
  have ao:=ac.nine
  have ap:=aj.one
  have aJ:=ak.nine
  have aK:=a3.two
  have aw:=a6.twelve
  gi_upto_region 19 with(fail)
  have es:Hid (ZbW b3 b4 b5 (W8.heap.size+1) W8.heap.size 0 w.heap.size (.loop (G .busy none)) (.deferred (some [])) W ad∧Bk ad b1 22 #[.slice A n c]∧Bk ad b2 4 #[.bool false]∧Bk ad b4 37 mb.ar∧Bk ad b5 3 #[I ((k:Int)+1)]∧Bk ad b6 37 m3.ar∧Bk ad b7 41 #[I 0,I nn]∧Bk ad b8 43 #[I xk,I q,I xi,I xw,I xn,I xu,I xc,I xq,I xp,I xm,.bool xl,.string xs]∧Bk ad b3 48 (Zag (if ks<0 then af else J)).toArray):=⟨ab,aQ,ah,ac,aj,ak,a3,a6,(by rw[if_neg (Nat.not_lt_zero _)];exact ai.out)⟩
  clear t4 an aa ao ap aJ aK aw
  gi_loopw [61] (fun dB wr=>∃j:Nat,j≤mb.orders.length∧dB=I (j:Int)∧Hid (ZbW b3 b4 b5 (W8.heap.size+1) W8.heap.size 0 w.heap.size (.loop (G .busy none)) (.deferred (some [])) W wr∧Bk wr b1 22 #[.slice A n c]∧Bk wr b2 4 #[.bool false]∧Bk wr b4 37 mb.ar∧Bk wr b5 3 #[I ((k:Int)+1)]∧Bk wr b6 37 m3.ar∧Bk wr b7 41 #[I 0,I nn]∧Bk wr b8 43 #[I xk,I q,I xi,I xw,I xn,I xu,I xc,I xq,I xp,I xm,.bool xl,.string xs]∧Bk wr b3 48 (Zag (if ks<j then af else J)).toArray)) (fun dB _=>mb.orders.length-(intOf dB).toNat)
  case atStart=>exact⟨0,Nat.zero_le _,rfl,es⟩
  case round=>
   obtain⟨j,hj,rfl,aL⟩:=hrel
   rename World=>Y
   have az:Hid (ZbW b3 b4 b5 (W8.heap.size+1) W8.heap.size 0 w.heap.size (.loop (G .busy none)) (.deferred (some [])) W Y):=aL.1
   have cw:Hid (Bk Y b1 22 #[.slice A n c]):=aL.2.1
   have cx:Hid (Bk Y b2 4 #[.bool false]):=aL.2.2.1
   have aW:Hid (Bk Y b4 37 mb.ar):=aL.2.2.2.1
   have bE:Hid (Bk Y b5 3 #[I ((k:Int)+1)]):=aL.2.2.2.2.1
   have bH:Hid (Bk Y b6 37 m3.ar):=aL.2.2.2.2.2.1
   have cA:Hid (Bk Y b7 41 #[I 0,I nn]):=aL.2.2.2.2.2.2.1
   have cC:Hid (Bk Y b8 43 #[I xk,I q,I xi,I xw,I xn,I xu,I xc,I xq,I xp,I xm,.bool xl,.string xs]):=aL.2.2.2.2.2.2.2.1
   have h3:=aL.2.2.2.2.2.2.2.2
   clear aL
   by_cases bS:j<mb.orders.length
   rotate_left
   ·have aD:Hid (Bk Y b3 48 (Zag af).toArray):=by
     have h:=h3
     rw[if_pos (by have h1:=df.out;omega)] at h
     exact h
    clear h3
    gi_wp2
    clear bS hj
    refine bX.out _ _ ?_
    refine ZgH _ b3 b4 b6 _ (af) m3 mb B _ dR aD bH aW (bn.out _ az) (fun a9 V hV=>?_)
    have hf:=bV.out _ V (af) az.out aD.out aW.out bE.out hV dR.out
    exact⟨hf.1,.inl ⟨rfl,hf.2.1,hf.2.2⟩⟩
   have ax:=Hi bS
   have em:=Hi h3
   have cD:Hid (wrap64 ((j:Int)+1)=(j:Int)+1):=ZaQ (by have h1:=el.out;omega)
   obtain⟨g,d4,p0,p1,p2,p3,p4⟩:=Zit (dh.out Y az.out) rfl bS
   obtain⟨⟨ea,ei,en,eq,ep⟩,hp⟩:∃p,p=mb.orders[j]'bS:=⟨_,rfl⟩
   have bU:Hid ((⟨ea,ei,en,eq,ep⟩:O.Lc)=mb.orders[j]'ax.out):=hp
   rw[←hp] at p0 p1 p2 p3 p4
   dsimp only at p0 p1 p2 p3 p4
   have aM:=Hi d4
   have j0:(0:Int)≤(j:Int):=Int.natCast_nonneg j
   have j1:(j:Int)<(mb.orders.length:Int):=Int.ofNat_lt.mpr bS
   clear hp d4 h3 hj
   rw[aM.out]
   have aD:Hid (Bk Y b3 48 (Zag (if ks<j then af else J)).toArray):=em.out
   obtain⟨bL,N⟩:=ExY (Y.alloc (.cells #[I ea,I ei,I en,I eq,I ep] 45))
   obtain⟨bP,ck⟩:=ExY Y.heap.size
   have aA:Hid (ZbW b3 b4 b5 (W8.heap.size+1) W8.heap.size 0 w.heap.size (.loop (G .busy none)) (.deferred (some [])) W bL):=by rw[N];exact az.alloc _
   have aB:=bkA cw N
   have aC:=bkA cx N
   have aE:=bkA aW N
   have aF:=bkA bE N
   have aG:=bkA bH N
   have aH:=bkA cA N
   have al:=bkA cC N
   have ag:=bkA aD N
   have aI:=bkW N ck
   gi_upto_region 21 with(fail)
   rw[←N,←ck]
   clear N ck
   clear p0 p1 p2 p3 p4 bS
   have aw:=al.twelve
   have ce:=aI.five
   by_cases ma:ea=(q:Int)
   rotate_left
   ·have ta:(ea==(q:Int))=false:=by simpa using ma
    have MA:=Hi ma
    clear ma
    have dt:¬j=ks:=fun h=>by
     have h2:=(dj.out j ax.out).2 h
     rw[←bU.out] at h2
     exact MA.out h2.1
    have hm:(if ks<j+1 then af else J)=(if ks<j then af else J):=by
     by_cases h:ks<j
     ·rw[if_pos h,if_pos (by omega)]
     ·rw[if_neg h,if_neg (by omega)]
    have HM:=Hi hm
    clear dt hm
    gi_wp2
    (try rw[←aM.out]);rw[cD.out]
    exact⟨⟨j+1,ax,by rw[Int.natCast_succ],⟨aA,aB,aC,aE,aF,aG,aH,al,(by rw[HM.out];exact ag.out)⟩⟩,Zba ax⟩
   have ta:(ea==(q:Int))=true:=by simpa using ma
   have MA:=Hi ma
   clear ma
   by_cases mi:ei=xi
   rotate_left
   ·have ti:(ei==xi)=false:=by simpa using mi
    have MI:=Hi mi
    clear mi
    have dt:¬j=ks:=fun h=>by
     have h2:=(dj.out j ax.out).2 h
     rw[←bU.out] at h2
     exact MI.out h2.2
    have hm:(if ks<j+1 then af else J)=(if ks<j then af else J):=by
     by_cases h:ks<j
     ·rw[if_pos h,if_pos (by omega)]
     ·rw[if_neg h,if_neg (by omega)]
    have HM:=Hi hm
    clear dt hm
    gi_wp2
    (try rw[←aM.out]);rw[cD.out]
    exact⟨⟨j+1,ax,by rw[Int.natCast_succ],⟨aA,aB,aC,aE,aF,aG,aH,al,(by rw[HM.out];exact ag.out)⟩⟩,Zba ax⟩
   have ti:(ei==xi)=true:=by simpa using mi
   have MI:=Hi mi
   clear mi
   have cM:j=ks:=(dj.out j ax.out).1 (by rw[←bU.out];exact⟨MA.out,MI.out⟩)
   have eK:en=(i:Int):=by
    have h:=eu.out
    have h2:=bU.out
    subst cM
    rw[←h2] at h
    exact h
   have eL:oq=eq:=by
    have h:=ew.out
    have h2:=bU.out
    subst cM
    rw[←h2] at h
    exact h
   have eJ:=MA.out
   subst eJ
   subst eK
   subst eL
   have h:=ag.out
   rw[if_neg (by omega)] at h
   have ag:Hid (Bk bL b3 48 (Zag J).toArray):=h
   clear h
   have dG:=Hi cM
   clear cM
   gi_upto_region 22 with(fail)
   by_cases cN:oq>0
   ·have tq:oq>0:=cN
    have co:ZcY oq xq=xq:=by
     have h0:=dL.out
     unfold ZcY
     exact if_neg (by omega)
    have WV:Hid (IntKind.i64.wrap (ov+xq)=ov+ZcY oq xq):=by
     have h1:=dC.out
     have h2:=co
     show _=_
     rw[IntKind.wrap_i64]
     omega
    clear co cN
    gi_upto_region 23 with(fail)
    clear aw ce
    clear tq ta ti
    obtain⟨am,z⟩:=ExY bL.drew
    have aO:Hid (ZbW b3 b4 b5 (W8.heap.size+1) W8.heap.size 0 w.heap.size (.loop (G .busy none)) (.deferred (some [])) W am):=by rw[z];exact aA.drew
    have aR:=bkD aB z
    have aT:=bkD aC z
    have aX:=bkD aE z
    have aZ:=bkD aF z
    have a1:=bkD aG z
    have a4:=bkD aH z
    have R:=bkD al z
    have s:=bkD ag z
    have E:Hid (Bk am bP 45 #[I q,I ei,I i,I oq,I ep]):=bkD aI z
    have HY:Hid (am.cell? ⟨b3,q*12+i,none⟩=some (I ov)):=by rw[dK.out];exact ZdB s (by have h1:=dS.out;have h2:=bs.out;have h3:=br.out;omega)
    have q0:(0:Int)≤(q:Int):=Int.natCast_nonneg q
    have q1:(q:Int)<16:=by have:=bs.out;omega
    have i0:(0:Int)≤(i:Int):=Int.natCast_nonneg i
    have i1:(i:Int)<12:=by have:=br.out;omega
    refine Zf9 ?_
    refine Zeu (Zb7 _) (fun U=>U.cell? ⟨bP,0,none⟩=some (I q)∧U.cell? ⟨bP,2,none⟩=some (I i)∧U.cell? ⟨b8,7,none⟩=some (I xq)∧U.cell? ⟨b3,q*12+i,none⟩=some (I ov)) 12 (by kernel_rfl) (by kernel_rfl) (fun⟨_,_,h⟩=>h) ?_
    rw[←z]
    clear z
    refine tkM [0,1,2,3,4,5,6,7,8,9] (⟨E.cell 0,E.cell 2,R.cell 7,HY⟩) (by kernel_rfl) (fun _ _ _ _ h=>h) ?_
    iterate 10 (refine ycM rfl (by rfl) (fun w h=>by go_simp<;>rfl) ?_;try simp only[Act.put,sA,sB,sC])
    refine Zjw (i:=10) (v:=?_) rfl (by kernel_rfl) (by kernel_rfl) (by kernel_rfl) (by decide) (fun _ _ _ h=>h) (Or.inl ⟨by rfl,?_⟩) (fun _=>⟨E.cell 0,E.cell 2,R.cell 7,HY⟩) ?_
    rotate_left
    ·intro w eF
     first|(go_simp<;>fail)|(go_simp;with_reducible rfl)
    try simp only[Act.put,sA,sB,sC]
    refine tkM [11] (⟨E.cell 0,E.cell 2,R.cell 7,HY⟩) (by kernel_rfl) (fun _ _ _ _ h=>h) ?_
    (refine ycM rfl (by rfl) (fun w h=>by go_simp<;>rfl) ?_;try simp only[Act.put,sA,sB,sC])
    refine onM 12 (by kernel_rfl) rfl fun K hK=>?_
    have y:=HY.out
    have yf:=s.frozen (q*12+i)
    go_simp
    clear y yf
    refine hK.out _ _ (fun h0=>Zac (by kernel_rfl) h0) ?_
    refine Zak (by kernel_rfl) ?_ _
    clear q0 q1 i0 i1
    rw[WV.out]
    obtain⟨bf,C⟩:=ExY (am.setCell ⟨b3,q*12+i,none⟩ (I (ov+ZcY oq xq)))
    rw[←C]
    have aP:Hid (ZbW b3 b4 b5 (W8.heap.size+1) W8.heap.size 0 w.heap.size (.loop (G .busy none)) (.deferred (some [])) W bf):=by rw[C];exact aO.cell3 s cb (q*12+i) _
    have aS:=bkF aR C s rfl
    have aU:=bkF aT C s rfl
    have aY:=bkF aX C s rfl
    have a0:=bkF aZ C s rfl
    have a2:=bkF a1 C s rfl
    have a5:=bkF a4 C s rfl
    have a7:=bkF R C s rfl
    have aV:Hid (Bk bf b3 48 (Zag (J.set (q*12+i) (ov+ZcY oq xq))).toArray):=by rw[C];exact ZdT s (q*12+i) _
    clear C
    gi_wp2
    (try rw[←aM.out]);rw[cD.out]
    exact⟨⟨j+1,ax,by rw[Int.natCast_succ],⟨aP,aS,aU,aY,a0,a2,a5,a7,(by rw[dG.out,if_pos (Nat.lt_succ_self _),cY.out];exact aV.out)⟩⟩,Zba ax⟩
   ·have tq:¬oq>0:=cN
    have co:ZcY oq xq = -xq:=by
     have h0:=dL.out
     unfold ZcY
     exact if_pos (by omega)
    have WV:Hid (IntKind.i64.wrap (ov-xq)=ov+ZcY oq xq):=by
     have h1:=dC.out
     have h2:=co
     show _=_
     rw[IntKind.wrap_i64]
     omega
    clear co cN
    gi_upto_region 24 with(fail)
    clear aw ce
    clear tq ta ti
    obtain⟨am,z⟩:=ExY bL.drew
    have aO:Hid (ZbW b3 b4 b5 (W8.heap.size+1) W8.heap.size 0 w.heap.size (.loop (G .busy none)) (.deferred (some [])) W am):=by rw[z];exact aA.drew
    have aR:=bkD aB z
    have aT:=bkD aC z
    have aX:=bkD aE z
    have aZ:=bkD aF z
    have a1:=bkD aG z
    have a4:=bkD aH z
    have R:=bkD al z
    have s:=bkD ag z
    have E:Hid (Bk am bP 45 #[I q,I ei,I i,I oq,I ep]):=bkD aI z
    have HY:Hid (am.cell? ⟨b3,q*12+i,none⟩=some (I ov)):=by rw[dK.out];exact ZdB s (by have h1:=dS.out;have h2:=bs.out;have h3:=br.out;omega)
    have q0:(0:Int)≤(q:Int):=Int.natCast_nonneg q
    have q1:(q:Int)<16:=by have:=bs.out;omega
    have i0:(0:Int)≤(i:Int):=Int.natCast_nonneg i
    have i1:(i:Int)<12:=by have:=br.out;omega
    refine Zf9 ?_
    refine Zeu (Zb7 _) (fun U=>U.cell? ⟨bP,0,none⟩=some (I q)∧U.cell? ⟨bP,2,none⟩=some (I i)∧U.cell? ⟨b8,7,none⟩=some (I xq)∧U.cell? ⟨b3,q*12+i,none⟩=some (I ov)) 12 (by kernel_rfl) (by kernel_rfl) (fun⟨_,_,h⟩=>h) ?_
    rw[←z]
    clear z
    refine tkM [0,1,2,3,4,5,6,7,8,9] (⟨E.cell 0,E.cell 2,R.cell 7,HY⟩) (by kernel_rfl) (fun _ _ _ _ h=>h) ?_
    iterate 10 (refine ycM rfl (by rfl) (fun w h=>by go_simp<;>rfl) ?_;try simp only[Act.put,sA,sB,sC])
    refine Zjw (i:=10) (v:=?_) rfl (by kernel_rfl) (by kernel_rfl) (by kernel_rfl) (by decide) (fun _ _ _ h=>h) (Or.inl ⟨by rfl,?_⟩) (fun _=>⟨E.cell 0,E.cell 2,R.cell 7,HY⟩) ?_
    rotate_left
    ·intro w eF
     first|(go_simp<;>fail)|(go_simp;with_reducible rfl)
    try simp only[Act.put,sA,sB,sC]
    refine tkM [11] (⟨E.cell 0,E.cell 2,R.cell 7,HY⟩) (by kernel_rfl) (fun _ _ _ _ h=>h) ?_
    (refine ycM rfl (by rfl) (fun w h=>by go_simp<;>rfl) ?_;try simp only[Act.put,sA,sB,sC])
    refine onM 12 (by kernel_rfl) rfl fun K hK=>?_
    have y:=HY.out
    have yf:=s.frozen (q*12+i)
    go_simp
    clear y yf
    refine hK.out _ _ (fun h0=>Zac (by kernel_rfl) h0) ?_
    refine Zak (by kernel_rfl) ?_ _
    clear q0 q1 i0 i1
    rw[WV.out]
    obtain⟨bf,C⟩:=ExY (am.setCell ⟨b3,q*12+i,none⟩ (I (ov+ZcY oq xq)))
    rw[←C]
    have aP:Hid (ZbW b3 b4 b5 (W8.heap.size+1) W8.heap.size 0 w.heap.size (.loop (G .busy none)) (.deferred (some [])) W bf):=by rw[C];exact aO.cell3 s cb (q*12+i) _
    have aS:=bkF aR C s rfl
    have aU:=bkF aT C s rfl
    have aY:=bkF aX C s rfl
    have a0:=bkF aZ C s rfl
    have a2:=bkF a1 C s rfl
    have a5:=bkF a4 C s rfl
    have a7:=bkF R C s rfl
    have aV:Hid (Bk bf b3 48 (Zag (J.set (q*12+i) (ov+ZcY oq xq))).toArray):=by rw[C];exact ZdT s (q*12+i) _
    clear C
    gi_wp2
    (try rw[←aM.out]);rw[cD.out]
    exact⟨⟨j+1,ax,by rw[Int.natCast_succ],⟨aP,aS,aU,aY,a0,a2,a5,a7,(by rw[dG.out,if_pos (Nat.lt_succ_self _),cY.out];exact aV.out)⟩⟩,Zba ax⟩
 ·refine⟨bd.trans (ae.mono bd.size),cu.below ae,(dJ.below ae).mono (Nat.zero_le _),dF.below ae dF.lt,⟨Nat.le_trans dI ae.size,Nat.le_refl _⟩,dr,dq,List.replicate 192 0,m,?_⟩
  refine⟨c1.below ae c1.lt,c3.below ae c3.lt,c5.below ae c5.lt,c6.below ae c6.lt,c8.below ae c8.lt,?_,?_,?_⟩
  ·rw[aM.1,aM.2.2.1,aM.2.2.2];exact World.ownsRow_nil _ _ _ _
  ·rw[dQ.orders]
  ·rw[dQ.poss,aM.2.1];exact Zjh
 ·rintro e WE ⟨rfl,⟨mN,T,h1,h2,h3,h4,h5,h6,h7,J,mb,h8⟩|⟨h1,h6,h7,h2⟩⟩
  rotate_left
  ·refine⟨_,rfl,.inr ⟨h6,?_⟩⟩
   have lw:w.heap.size≤W8.heap.size:=bd.size
   obtain⟨V1,aN⟩:=ExY (WE.putObj (W8.heap.size+1) (.loop (G .exhausted (some .ret))))
   have k2:Bk V1 b2 4 #[.bool true]:=by rw[aN];exact Bk.put h2 h6 _
   have kd:V1.heap[W8.heap.size]?=some (.deferred (some [])):=by rw[aN];exact(World.putObj_heap_other (Nat.ne_of_lt (Nat.lt_succ_self _))).trans h7
   have kb:Bw w V1:=by rw[aN];exact ZaT h1 (by omega) _
   rw[←aN]
   show LeavesInM Fence.wide 0 prog f4 _ _ [{target:=.collected W8.heap.size,args:=#[]}] .returning _
   refine⟨by simp,.inl ⟨W8.heap.size,_,rfl,run_takeDeferred kd,?_⟩⟩
   refine⟨.bool true,ZdK (p:=2) results4 _ _ b2 true rfl (k2.putd kd _),?_⟩
   exact⟨rfl,ZaT kb lw _⟩
  refine⟨_,rfl,.inl ⟨h6,?_⟩⟩
  have lw:w.heap.size≤W8.heap.size:=bd.size
  obtain⟨V1,aN⟩:=ExY (WE.putObj (W8.heap.size+1) (.loop (G .exhausted none)))
  have k2:Bk V1 b2 4 #[.bool false]:=by rw[aN];exact Bk.put h8.h2 h6 _
  have kd:V1.heap[W8.heap.size]?=some (.deferred (some [])):=by rw[aN];exact(World.putObj_heap_other (Nat.ne_of_lt (Nat.lt_succ_self _))).trans h7
  have kb:Bw w V1:=by rw[aN];exact ZaT h1 (by omega) _
  obtain⟨V2,cE⟩:=ExY (V1.setCell ⟨b2,0,none⟩ (.bool true))
  have q2:Bk V2 b2 4 #[.bool true]:=by rw[cE];exact k2.set 0 _
  have qd:V2.heap[W8.heap.size]?=some (.deferred (some [])):=by rw[cE];exact ZdQ k2 kd (fun _ _ _ h=>by cases h)
  have qb:Bw w V2:=by rw[cE];exact kb.setCell (p:=⟨b2,0,none⟩) bo _
  have Q2:=Hi q2
  have QD:=Hi qd
  have QB:=Hi qb
  have K2:=Hi k2
  have LW:=Hi lw
  clear h1 h2 h3 h4 h5 h6 h7 h8 k2 kd kb q2 qd qb lw ae dr dq cm
  rw[←aN]
  clear aN
  show ZiD prog 4 _ _ _ _
  refine Zbk ?_
  dsimp only
  have eS:=K2.one
  go_wp2
  rw[←cE]
  show LeavesInM Fence.wide 0 prog f4 _ _ [{target:=.collected W8.heap.size,args:=#[]}] .returning _
  refine⟨by simp,.inl ⟨W8.heap.size,_,rfl,run_takeDeferred QD,?_⟩⟩
  refine⟨.bool true,ZdK (p:=2) results4 _ _ b2 true rfl (Q2.putd QD _),?_⟩
  exact⟨rfl,ZaT QB LW _⟩
end
end Go.Proofs.YtdefojlkofnloaaGreatDoor
