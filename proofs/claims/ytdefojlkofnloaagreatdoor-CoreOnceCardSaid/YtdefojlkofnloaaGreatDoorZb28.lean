/- A part of the proof of CoreOnce: for every input, no condition. -/
import Derived.Test.YtdefojlkofnloaaGreatDoorZb26
set_option maxRecDepth 100000
set_option maxHeartbeats 8000000
set_option linter.unusedVariables false
set_option linter.unusedSimpArgs false
namespace Go.Proofs.YtdefojlkofnloaaGreatDoor
open Go.RowKit Go.Proofs.Tryz
structure ZaC(B h:Nat)(w w':World):Prop where
 os:w'.os=w.os
 tape:w'.tape=w.tape
 output:w'.output=w.output
 size:w.heap.size≤w'.heap.size
 block:∀k,k<B→k≠h→w'.heap[k]?=w.heap[k]?
theorem ZaC.refl(B h:Nat)(w:World):ZaC B h w w:=⟨rfl,rfl,rfl,Nat.le_refl _,fun _ _ _=>rfl⟩
theorem ZaC.trans{B h:Nat}{w w' w2:World}(a:ZaC B h w w')(b:ZaC B h w' w2):ZaC B h w w2:=
 ⟨b.os.trans a.os,b.tape.trans a.tape,b.output.trans a.output,Nat.le_trans a.size b.size,fun k hk s=>(b.block k hk s).trans (a.block k hk s)⟩
theorem ZaC.of{B B' h:Nat}{w w':World}(a:Below B' w w')(s:B≤B'):ZaC B h w w':=⟨a.os,a.tape,a.output,a.size,fun k hk _=>a.block k (by omega)⟩
theorem ZaC.up{B h:Nat}{w w' w2:World}(a:ZaC B h w w')(s:B≤w.heap.size)(b:Below w'.heap.size w' w2):ZaC B h w w2:=
 a.trans (ZaC.of b (Nat.le_trans s a.size))
theorem ZaC.set_in{B h i:Nat}{w w':World}{u:Value}(a:ZaC B h w w'):ZaC B h w (w'.setCell (Aq h i) u):=
 a.trans ⟨rfl,rfl,rfl,by simp,fun k _ s=>Below.heap_setCell w' (Aq h i) u k s⟩
theorem ZaC.set_up{B h g i:Nat}{w w':World}{u:Value}(a:ZaC B h w w')(s:B≤g):ZaC B h w (w'.setCell (Aq g i) u):=
 a.trans ⟨rfl,rfl,rfl,by simp,fun k hk _=>Below.heap_setCell w' (Aq g i) u k (by show k≠g;omega)⟩
theorem ZaC.row_in{B h:Nat}{w w':World}{cs:Array Value}(a:ZaC B h w w'):ZaC B h w (w'.setRow h cs):=
 a.trans ⟨rfl,rfl,rfl,by simp,fun k _ s=>setRow_other w' h k cs s⟩
theorem ZaC.row_up{B h g:Nat}{w w':World}{cs:Array Value}(a:ZaC B h w w')(s:B≤g):ZaC B h w (w'.setRow g cs):=
 a.trans ⟨rfl,rfl,rfl,by simp,fun k hk _=>setRow_other w' g k cs (by omega)⟩
theorem ZaC.drew{B h:Nat}{w w':World}(a:ZaC B h w w'):ZaC B h w w'.drew:=⟨a.os,a.tape,a.output,a.size,a.block⟩
theorem ZaC.below{B h B':Nat}{w w':World}(a:ZaC B h w w')(z:B'≤h)(s:B'≤B):Below B' w w':=
 ⟨a.os,a.tape,a.output,a.size,fun k hk=>a.block k (by omega) (by omega)⟩
theorem Bk.hole{w w':World}{g t B h:Nat}{cs:Array Value}(k:Bk w g t cs)(a:ZaC B h w w')(z:g<B)(s:g≠h):Bk w' g t cs:=(a.block g z s).trans k
theorem Gl.hole{w w':World}{B h:Nat}(g:Gl w)(a:ZaC B h w w')(s:6<B)(z:6<h):Gl w':=g.below (a.below (B':=7) z s) (by omega)
def Zbx(T ty B pl:Nat)(R:Zab→Int→Prop)(bad:Prop)(w:World)(e:Ending)(w':World):Prop:=
 ZaC B pl w w'∧∃m':Zab,Bk w' pl ty m'.cs.toArray∧((∃n:Int,e=.returned (I n)∧Zaa w' B m'∧R m' n)∨(∃er:Int,er≠0∧e=Pan T er∧bad))
structure ZaM(B h lo hi:Nat)(w w':World):Prop where
 os:w'.os=w.os
 tape:w'.tape=w.tape
 output:w'.output=w.output
 size:w.heap.size≤w'.heap.size
 block:∀k,k<B→k≠h→(k<lo∨hi≤k)→w'.heap[k]?=w.heap[k]?
theorem ZaC.r{B h:Nat}{w w':World}(a:ZaC B h w w')(lo hi:Nat):ZaM B h lo hi w w':=⟨a.os,a.tape,a.output,a.size,fun k hk s _=>a.block k hk s⟩
theorem ZaM.low{B h lo hi:Nat}{w w':World}(a:ZaM B h lo hi w w')(s:lo≤B)(z:lo≤h):Below lo w w':=⟨a.os,a.tape,a.output,a.size,fun k hk=>a.block k (by omega) (by omega) (.inl hk)⟩
theorem Bk.holeR{w w':World}{g t B h lo hi:Nat}{cs:Array Value}(k:Bk w g t cs)(a:ZaM B h lo hi w w')(C:g<B)(z:g≠h)(s:hi≤g):Bk w' g t cs:=(a.block g C z (.inr s)).trans k
theorem ZaM.refl(B h lo hi:Nat)(w:World):ZaM B h lo hi w w:=⟨rfl,rfl,rfl,Nat.le_refl _,fun _ _ _ _=>rfl⟩
theorem ZaM.trans{B h lo hi:Nat}{w w' w2:World}(a:ZaM B h lo hi w w')(b:ZaM B h lo hi w' w2):ZaM B h lo hi w w2:=
 ⟨b.os.trans a.os,b.tape.trans a.tape,b.output.trans a.output,Nat.le_trans a.size b.size,fun k hk s hr=>(b.block k hk s hr).trans (a.block k hk s hr)⟩
theorem ZaM.up{B h lo hi:Nat}{w w' w2:World}(a:ZaM B h lo hi w w')(s:B≤w.heap.size)(b:Below w'.heap.size w' w2):ZaM B h lo hi w w2:=
 a.trans ((ZaC.of b (Nat.le_trans s a.size)).r lo hi)
theorem ZaM.set_in{B h lo hi i:Nat}{w w':World}{u:Value}(a:ZaM B h lo hi w w'):ZaM B h lo hi w (w'.setCell (Aq h i) u):=a.trans ((ZaC.refl B h w').set_in.r lo hi)
theorem ZaM.set_up{B h lo hi g i:Nat}{w w':World}{u:Value}(a:ZaM B h lo hi w w')(s:B≤g):ZaM B h lo hi w (w'.setCell (Aq g i) u):=a.trans (((ZaC.refl B h w').set_up s).r lo hi)
theorem ZaM.set_own{B h lo hi g i:Nat}{w w':World}{u:Value}(a:ZaM B h lo hi w w')(s:lo≤g)(z:g<hi):ZaM B h lo hi w (w'.setCell (Aq g i) u):=
 a.trans ⟨rfl,rfl,rfl,by simp,fun k _ _ hr=>Below.heap_setCell w' (Aq g i) u k (by show k≠g;omega)⟩
theorem ZaM.drew{B h lo hi:Nat}{w w':World}(a:ZaM B h lo hi w w'):ZaM B h lo hi w w'.drew:=⟨a.os,a.tape,a.output,a.size,a.block⟩
theorem ZaM.row_up{B h lo hi g:Nat}{w w':World}{cs:Array Value}(a:ZaM B h lo hi w w')(s:B≤g):ZaM B h lo hi w (w'.setRow g cs):=a.trans (((ZaC.refl B h w').row_up s).r lo hi)
theorem bhD{B h:Nat}{w W V:World}(k:Hid (ZaC B h w W))(e:V=W.drew):Hid (ZaC B h w V):=by rw[e];exact k.drew
theorem bhU{B h:Nat}{w W V:World}(k:Hid (ZaC B h w W))(s:Hid (B≤w.heap.size))(b:Bw W V):Hid (ZaC B h w V):=k.up s b
theorem bhA{B h:Nat}{w W V:World}{o:Obj}(k:Hid (ZaC B h w W))(s:Hid (B≤w.heap.size))(e:V=W.alloc o):Hid (ZaC B h w V):=by rw[e];exact k.up s ((Below.refl _ _).alloc (Nat.le_refl _) _)
theorem bhI{B h i:Nat}{w W V:World}{u:Value}(k:Hid (ZaC B h w W))(e:V=W.setCell (Aq h i) u):Hid (ZaC B h w V):=by rw[e];exact k.set_in
theorem bhS{B h g i:Nat}{w W V:World}{u:Value}(k:Hid (ZaC B h w W))(e:V=W.setCell (Aq g i) u)(s:Hid (B≤g)):Hid (ZaC B h w V):=by rw[e];exact k.set_up s
theorem bgD{B h lo hi:Nat}{w W V:World}(k:Hid (ZaM B h lo hi w W))(e:V=W.drew):Hid (ZaM B h lo hi w V):=by rw[e];exact k.drew
theorem bgI{B h lo hi i:Nat}{w W V:World}{u:Value}(k:Hid (ZaM B h lo hi w W))(e:V=W.setCell (Aq h i) u):Hid (ZaM B h lo hi w V):=by rw[e];exact k.set_in
theorem bgS{B h lo hi g i:Nat}{w W V:World}{u:Value}(k:Hid (ZaM B h lo hi w W))(e:V=W.setCell (Aq g i) u)(s:Hid (B≤g)):Hid (ZaM B h lo hi w V):=by rw[e];exact k.set_up s
def Zei(T ty B pl lo hi:Nat)(R:Zab→Int→Prop)(bad:Prop)(w:World)(e:Ending)(w':World):Prop:=
 ZaM B pl lo hi w w'∧∃m':Zab,Bk w' pl ty m'.cs.toArray∧((∃n:Int,e=.returned (I n)∧Zaa w' B m'∧R m' n)∨(∃er:Int,er≠0∧e=Pan T er∧bad))
theorem Zbx.r{T z B s:Nat}{R:Zab→Int→Prop}{bad:Prop}{w:World}{e:Ending}{w':World}(h:Zbx T z B s R bad w e w')(lo hi:Nat):Zei T z B s lo hi R bad w e w':=⟨h.1.r lo hi,h.2⟩
def Zfc(lo hi:Nat)(R:Zab→Int→Prop)(bad:Prop)(w:World)(e:Ending)(w':World):Prop:=
 ZaM w.heap.size w.heap.size lo hi w w'∧∃(m':Zab) (n er:Int),e=.returned (.tuple #[m'.val,I n,I er])∧((er=0∧Zaa w' w.heap.size m'∧R m' n)∨(er≠0∧m'=Za4∧n=0∧bad))
structure Zgd(ty B pl:Nat)(w0:World)(m m1:Zab)(w:World):Prop where
 same:Zbj m m1
 below:Bw w0 w
 le:w0.heap.size≤pl
 base:w0.heap.size≤B
 size:B≤w.heap.size
 bk:Bk w pl ty m1.cs.toArray
 own:Zaa w B m1
 gl:Gl w
 good:Za2 m1=true
def Zaj(m:Zab)(R:Zab→Zab→Int→Prop)(m':Zab)(n:Int):Prop:=Za2 m=true∧∃m1 m2,Zbj m m1∧R m1 m2 n∧Zbo m2 m'
def Zas(m:Zab)(R:Zab→Zab→Int→Prop)(bad:Zab→Prop):Prop:=Za2 m=false∨(∃m1,Zbj m m1∧bad m1)∨(∃m1 m2 n,Zbj m m1∧R m1 m2 n∧Zb8 m2)
theorem Zek(k:Nat)(caps:Array Value)(m:Zab)(R:Zab→Zab→Int→Prop)(bad:Zab→Prop)(lo hi:Nat)(w:World)(cq:lo≤w.heap.size)(cp:hi≤w.heap.size)(bp:6<lo)(hm:Zay w w.heap.size m)(co:Gl w)(cD:∀pl W,(callFunc k (#[Pt pl]++caps)).run prog W=.ok (.enter k (#[Pt pl]++caps)) W)(cm:∀(m1:Zab) (B pl:Nat) (W:World),Zgd 37 B pl w m m1 W→Calls prog k (#[Pt pl]++caps) W (Zei 164 37 B pl lo hi (R m1) (bad m1) W)):
 Calls prog 60 #[m.val,.func (.func k) #[] caps] w (Zfc lo hi (Zaj m R) (Zas m R bad) w):=by
 show Calls prog 60 #[.agg m.ar,.func (.func k) #[] caps] w (Zfc lo hi (Zaj m R) (Zas m R bad) w)
 have bX:Hid (∀V,Bw w V→Calls prog 103 #[.agg m.ar] V fun e w'=>e=.returned (.bool (Za2 m))∧Bw V w'):=fun V hV=>good_any m V ((hm.below hV).mono hV.size)
 have cv:Hid (∀V,Bw w V→Calls prog 9 #[.agg m.ar] V (ZcA m V)):=fun V hV=>Zbq m V ((hm.below hV).mono hV.size)
 have cw:Hid (∀V (m2:Zab),Zay V V.heap.size m2→Gl V→Calls prog 110 #[.agg m2.ar] V (Zdw m2 V)):=fun V m2 h1 h2=>Zfo m2 V h1 h2
 have bW:Hid (∀V,Below lo w V→Gl V):=fun V hV=>co.below hV bp
 have bz:=Hi cq
 have bY:=Hi cp
 obtain⟨gd,bQ⟩:=ExY (Za2 m)
 rw[←bQ] at bX
 have aN:=Hi bQ
 have bU:=Hi cm
 clear hm co bQ cm cq bp cp
 obtain⟨W1,a0⟩:=ExY (w.alloc (.cells m.ar 37))
 obtain⟨b2,a6⟩:=ExY w.heap.size
 have a8:=blB a0
 have bd:=bkW a0 a6
 obtain⟨W2,aG⟩:=ExY (W1.alloc (.cells zZ 37))
 obtain⟨pl,aI⟩:=ExY W1.heap.size
 have cf:Hid (pl≠b2):=by
  have h:=bd.lt
  show pl≠b2
  rw[aI]
  exact Ne.symm (Nat.ne_of_lt h)
 have N:=blZ a8 aI
 have a9:=blA a8 aG
 have cc:=bkA bd aG
 have ch:=bkW aG aI
 have br:pl=b2+1:=by rw[aI,a0,World.size_alloc,←a6]
 obtain⟨W3,aA⟩:=ExY (W2.alloc (.cells #[I 0] 3))
 obtain⟨pn,a1⟩:=ExY W2.heap.size
 have Z:=blZ a9 a1
 have ba:=blA a9 aA
 have cd:=bkA cc aA
 have ci:=bkA ch aA
 have cj:=bkW aA a1
 have bs:pn=pl+1:=by rw[a1,aG,World.size_alloc,←aI]
 obtain⟨W4,aB⟩:=ExY (W3.alloc (.cells #[I 0] 39))
 obtain⟨pe,a7⟩:=ExY W3.heap.size
 have X:=blZ ba a7
 have bb:=blA ba aB
 have be:=bkA cd aB
 have bi:=bkA ci aB
 have bl:=bkA cj aB
 have bf:=bkW aB a7
 have bq:pe=pn+1:=by rw[a7,aA,World.size_alloc,←a1]
 go_enter_defers func60,ntmps60
 go_upto_region 2 with(fail)
 rw[←a0,←a6,←aG,←br,←aA,←bs,←aB,←bq]
 clear a0 a6 br aG aI bs aA a1 bq aB a7
 have aY:=be.nine
 have J:=bi.nine
 have L:=bl.one
 have G:=bf.one
 go_wp2_with fail
 refine((fun _=>bX.out _ bb) W4).mono ?_
 rintro e W5 ⟨rfl,hb⟩
 have ak:=blT bb hb
 have ce:=bkN be hb
 have aS:=bkN bi hb
 have aF:=bkN bl hb
 have aE:=bkN bf hb
 clear aY J L G
 clear hb
 have aY:=ce.nine
 have J:=aS.nine
 have L:=aF.one
 have G:=aE.one
 dsimp only
 cases gd with
 |false=>
  go_wp2_with fail
  refine Cq (Zat 43 _) ?_
  dsimp only
  go_wp2
  refine leaves_cons (f:=121) (args:=#[Pt pl,Pt pn,Pt pe]) (by simp) (by simp[go_sem]) ?_
  refine(Zdy w.heap.size pl pn pe 43 0 0 zZ rfl _ W5 ak.size aS aF aE N Z X).mono ?_
  rintro e u' aD ⟨rfl,rfl,hb,h1,h2,h3⟩
  have a3:(prog.info? 37).map (·.size)=some (zZ:Array Value).size:=by kernel_rfl
  refine⟨_,Zbp (p:=4) (q:=5) (r:=6) results60 _ aD pl pn pe _ _ _ rfl rfl rfl h1 h2 h3 a3,?_⟩
  exact⟨(ZaC.of (ak.trans hb) (Nat.le_refl _)).r lo hi,Za4,0,43,rfl,.inr ⟨(by decide),rfl,rfl,.inl aN.symm⟩⟩
 |true=>
 go_wp2_with fail
 refine Cq (ZaV 43 _) ?_
 dsimp only
 go_wp2_with fail
 have cz:=Hi ak.size
 refine(cv.out _ ak).mono ?_
 rintro e W6 ⟨m2,he,a2,ho,hb⟩
 obtain⟨B,hB⟩:=ExY W5.heap.size
 have bc:Hid (pn<B):=by rw[hB];exact aF.lt
 have b9:Hid (pe<B):=by rw[hB];exact aE.lt
 have cb:Hid (w.heap.size≤B):=by rw[hB];exact cz
 have ct:Hid (B≤W6.heap.size):=by rw[hB];exact hb.size
 have bS:=blT ak hb
 have al:=bkN aS hb
 have ck:=bkN aF hb
 have cg:=bkN aE hb
 clear aY J L G
 clear hb
 have ao:m2.val=.agg m2.ar:=rfl
 rw[ao] at he
 clear ao
 subst he
 have aO:=Hi a2
 have bZ:Hid (Zaa W6 B m2):=by rw[hB];exact ho
 clear a2 ho hB
 dsimp only
 go_upto_region 4 with(refine wpList_store_row rfl 37 _ _ rfl pl m2.ar rfl rfl 37 zZ al ZaU (by rfl) (by simp[Value.oneCell']) ?_)
 obtain⟨W7,an⟩:=ExY (W6.setRow pl m2.ar)
 have aK:=blR bS an N
 have aT:Hid (Bk W7 pl 37 m2.ar):=by rw[an];exact al.row _
 have bn:=bkR ck an al rfl
 have bg:=bkR cg an al rfl
 have b0:=boR bZ an al (by decide)
 rw[←an]
 have bT:Hid (B≤W7.heap.size):=by
  show B≤W7.heap.size
  rw[an]
  simpa using ct.out
 clear an
 have cu:=Hi (bU.out m2 B pl W7 ⟨aO,aK,N,cb,bT,aT,b0,bW.out _ (aK.mono bz),(Zfq aO).trans aN.symm⟩)
 go_wp2_with fail
 refine cu.mono ?_
 rintro e W8 ⟨hh,m3,cl,he⟩
 have aL:Hid (ZaM w.heap.size w.heap.size lo hi w W8):=ZaM.trans ((ZaC.of aK (Nat.le_refl _)).r lo hi) ⟨hh.os,hh.tape,hh.output,hh.size,fun k hk _ hr=>hh.block k (Nat.lt_of_lt_of_le hk cb) (Nat.ne_of_lt (Nat.lt_of_lt_of_le hk N)) hr⟩
 have am:Hid (Bk W8 pn 3 #[I 0]):=bn.holeR hh bc (bn.ne aT (by decide)) (Nat.le_trans bY Z)
 have aP:Hid (Bk W8 pe 39 #[I 0]):=bg.holeR hh b9 (bg.ne aT (by decide)) (Nat.le_trans bY X)
 have aU:Hid (Bk W8 pl 37 m3.ar):=cl
 clear hh cl
 rcases he with⟨n,he,ho,hr⟩|⟨er,aH,he,cr⟩
 rotate_left
 ·unfold Pan at he
  subst he
  dsimp only
  have cy:=Hi cr
  clear cr
  go_wp2
  refine leaves_cons (f:=121) (args:=#[Pt pl,Pt pn,Pt pe]) (by simp) (by simp[go_sem]) ?_
  refine(Zdy w.heap.size pl pn pe er 0 0 m3.ar rfl _ W8 aL.size aU am aP N Z X).mono ?_
  rintro e u' aD ⟨rfl,rfl,hb,h1,h2,h3⟩
  have a3:(prog.info? 37).map (·.size)=some (zZ:Array Value).size:=by kernel_rfl
  refine⟨_,Zbp (p:=4) (q:=5) (r:=6) results60 _ aD pl pn pe _ _ _ rfl rfl rfl h1 h2 h3 a3,?_⟩
  exact⟨aL.trans ((ZaC.of hb (Nat.le_refl _)).r lo hi),Za4,0,er,rfl,.inr ⟨aH,rfl,rfl,.inr (.inl ⟨m2,aO,cy⟩)⟩⟩
 subst he
 have HR:=Hi hr
 have b6:Hid (Zaa W8 B m3):=ho
 clear hr ho
 dsimp only
 have J:=aU.nine
 have L:=am.one
 have G:=aP.one
 go_upto_region 5 with(fail)
 obtain⟨W9,aC⟩:=ExY (W8.setCell ⟨pn,0,none⟩ (I n))
 rw[←aC]
 have aM:=bgS aL aC Z
 have bj:=bkF aU aC am rfl
 have aW:Hid (Bk W9 pn 3 #[I n]):=bkS am 0 aC
 have bh:=bkF aP aC am rfl
 have b7:Hid (Zaa W9 B m3):=by rw[aC];exact(b6.low bc 0 _)
 clear J L G
 clear aC
 have J:=bj.nine
 have L:=aW.one
 have G:=bh.one
 go_wp2_with fail
 have b8:=Hi aM.size
 refine(cw.out _ m3 b7.rd (bW.out _ (aM.low bz bz))).mono ?_
 rintro e a4 ⟨hb,m4,er,he,hc⟩
 obtain⟨B4,a5⟩:=ExY W9.heap.size
 have ca:Hid (pn<B4):=by rw[a5];exact aW.lt
 have cA:Hid (w.heap.size≤B4):=by rw[a5];exact b8
 rw[←a5] at hc
 clear a5
 have aJ:Hid (ZaM w.heap.size w.heap.size lo hi w a4):=by exact aM.up (Nat.le_refl _) hb
 have E:=bkN bj hb
 have aw:=bkN aW hb
 have aq:=bkN bh hb
 clear J L G
 clear hb
 have J:=E.nine
 have L:=aw.one
 have G:=aq.one
 have ao:m4.val=.agg m4.ar:=rfl
 rw[ao] at he
 clear ao
 subst he
 dsimp only
 rcases hc with⟨aH,cn,ho⟩|⟨aH,bo⟩
 rotate_left
 ·have bR:=Hi bo
  have bV:=Hi aH
  clear bo aH
  clear J L G
  obtain⟨az,s⟩:=ExY (a4.setRow pl m4.ar)
  have ap:Hid (ZaM w.heap.size w.heap.size lo hi w az):=by rw[s];exact aJ.row_up N
  have au:Hid (Bk az pl 37 m4.ar):=by rw[s];exact E.row _
  have ax:=bkR aw s E rfl
  have C:=bkR aq s E rfl
  obtain⟨xn,zn,ln⟩:=C.one
  rw[s] at xn zn ln
  go_upto_region 6 with(refine wpList_store_row rfl 37 _ _ rfl pl m4.ar rfl rfl 37 m3.ar E ZaU (by rfl) (by simp[Value.oneCell']) ?_)
  rw[←s]
  clear s xn zn ln
  obtain⟨aX,z⟩:=ExY (az.setCell ⟨pe,0,none⟩ (I er))
  rw[←z]
  have aj:=bgS ap z X
  have ac:=bkF au z C rfl
  have ad:=bkF ax z C rfl
  have aa:Hid (Bk aX pe 39 #[I er]):=bkS C 0 z
  clear z
  have J:=ac.nine
  have L:=ad.one
  have G:=aa.one
  go_wp2_with fail
  refine Cq (ZcJ er bV _) ?_
  dsimp only
  go_wp2
  refine leaves_cons (f:=121) (args:=#[Pt pl,Pt pn,Pt pe]) (by simp) (by simp[go_sem]) ?_
  refine(Zdy w.heap.size pl pn pe er n er m4.ar rfl _ aX aj.size ac ad aa N Z X).mono ?_
  rintro e u' aD ⟨rfl,rfl,hb,h1,h2,h3⟩
  have a3:(prog.info? 37).map (·.size)=some (zZ:Array Value).size:=by kernel_rfl
  refine⟨_,Zbp (p:=4) (q:=5) (r:=6) results60 _ aD pl pn pe _ _ _ rfl rfl rfl h1 h2 h3 a3,?_⟩
  exact⟨aj.trans ((ZaC.of hb (Nat.le_refl _)).r lo hi),Za4,0,er,rfl,.inr ⟨bV,rfl,rfl,.inr (.inr ⟨m2,m3,n,aO,HR,bR⟩)⟩⟩
 subst aH
 have cx:=Hi cn
 have bA:Hid (Zaa a4 B4 m4):=ho
 clear cn ho
 clear J L G
 obtain⟨az,s⟩:=ExY (a4.setRow pl m4.ar)
 have ap:Hid (ZaM w.heap.size w.heap.size lo hi w az):=by rw[s];exact aJ.row_up N
 have au:Hid (Bk az pl 37 m4.ar):=by rw[s];exact E.row _
 have ax:=bkR aw s E rfl
 have C:=bkR aq s E rfl
 have bB:=boR bA s E (by decide)
 obtain⟨xn,zn,ln⟩:=C.one
 rw[s] at xn zn ln
 go_upto_region 6 with(refine wpList_store_row rfl 37 _ _ rfl pl m4.ar rfl rfl 37 m3.ar E ZaU (by rfl) (by simp[Value.oneCell']) ?_)
 rw[←s]
 clear s xn zn ln
 obtain⟨aX,z⟩:=ExY (az.setCell ⟨pe,0,none⟩ (I 0))
 rw[←z]
 have aj:=bgS ap z X
 have ac:=bkF au z C rfl
 have ad:=bkF ax z C rfl
 have aa:Hid (Bk aX pe 39 #[I 0]):=bkS C 0 z
 have bC:=boF bB z C (by decide)
 clear z
 have J:=ac.nine
 have L:=ad.one
 have G:=aa.one
 go_wp2_with fail
 refine Cq (Zda _) ?_
 dsimp only
 go_upto_region 7 with(fail)
 clear J L G
 obtain⟨cC,af⟩:=ExY aX.drew
 have bu:=bgD aj af
 have Y:=bkD ac af
 have ay:=bkD ad af
 have bH:=bkD aa af
 have bD:=boD bC af
 refine Zec (fun U=>Bk U pl 37 m4.ar∧Bk U pn 3 #[I n]) 4 (by kernel_rfl) ?_
 rw[←af]
 clear af
 refine Zjq (i:=0) (v:=(.agg m4.ar)) rfl (by kernel_rfl) (by kernel_rfl) (by kernel_rfl) (by kernel_rfl) (by kernel_rfl) (fun _ _ _ h=>by cases h.1) (Or.inl ⟨by rfl,?_⟩) (⟨Y,ay⟩) ?_
 ·intro w aZ
  try dsimp only at aZ
  obtain⟨q0,q1⟩:=aZ
  exact Za9 37 _ rfl pl rfl 37 _ (0,0) _ q0 underlying37 rfl ZaU
 try simp only[Act.put,sA,sB,sC]
 refine Zjq (i:=1) (v:=(I n)) rfl (by kernel_rfl) (by kernel_rfl) (by kernel_rfl) (by kernel_rfl) (by kernel_rfl) (fun _ _ _ h=>by cases h.1) (Or.inl ⟨by rfl,?_⟩) (⟨Y,ay⟩) ?_
 ·intro w aZ
  try dsimp only at aZ
  obtain⟨q0,q1⟩:=aZ
  obtain⟨xn,zn,ln⟩:=q1.one
  first|(go_simp<;>fail)|(go_simp;with_reducible rfl)
 try simp only[Act.put,sA,sB,sC]
 refine onM 2 (by kernel_rfl) rfl fun K hK=>?_
 refine Zaq rfl 37 _ _ rfl pl m4.ar rfl rfl 37 m4.ar Y ZaU (by rfl) (by simp[Value.oneCell']) ?_
 obtain⟨bM,ag⟩:=ExY (cC.setRow pl m4.ar)
 rw[←ag]
 have bv:Hid (ZaM w.heap.size w.heap.size lo hi w bM):=by rw[ag];exact bu.row_up N
 have aQ:Hid (Bk bM pl 37 m4.ar):=by rw[ag];exact Y.row _
 have ae:=bkR ay ag Y rfl
 have bI:=bkR bH ag Y rfl
 have bE:=boR bD ag Y (by decide)
 clear ag
 refine hK.out _ _ (fun _=>⟨aQ,ae⟩) ?_
 try simp only[Act.put]
 refine onM 3 (by kernel_rfl) rfl fun K hK=>?_
 have bP:=ae.one
 go_simp
 clear bP
 obtain⟨bN,ah⟩:=ExY (bM.setCell ⟨pn,0,none⟩ (I n))
 rw[←ah]
 have bw:=bgS bv ah Z
 have aR:=bkF aQ ah ae rfl
 have aV:Hid (Bk bN pn 3 #[I n]):=bkS ae 0 ah
 have ab:=bkF bI ah ae rfl
 have bF:Hid (Zaa bN B4 m4):=by rw[ah];exact(bE.low ca 0 _)
 clear ah
 refine hK.out _ _ (fun _=>⟨aR,aV⟩) ?_
 try simp only[Act.put]
 refine onM 4 (by kernel_rfl) rfl fun K hK=>?_
 have bP:=ab.one
 go_simp
 clear bP
 obtain⟨bO,ai⟩:=ExY (bN.setCell ⟨pe,0,none⟩ (I 0))
 rw[←ai]
 have bx:=bgS bw ai X
 have bK:=bkF aR ai ab rfl
 have bL:=bkF aV ai ab rfl
 have bJ:Hid (Bk bO pe 39 #[I 0]):=bkS ab 0 ai
 have bG:=boF bF ai ab (by decide)
 clear ai
 refine hK.out _ _ (fun h0=>Zac (by kernel_rfl) h0) ?_
 refine Zak (by kernel_rfl) ?_ _
 refine⟨rfl,?_⟩
 go_wp2
 refine leaves_cons (f:=121) (args:=#[Pt pl,Pt pn,Pt pe]) (by simp) (by simp[go_sem]) ?_
 refine(ZgX (Aq pl 0) (Aq pn 0) (Aq pe 0) bO).mono ?_
 rintro e u' aD ⟨rfl,rfl,bt⟩
 rw[bt]
 clear bt aD
 refine⟨_,Zbp (p:=4) (q:=5) (r:=6) results60 _ bO pl pn pe _ _ _ rfl rfl rfl bK bL bJ ZaU,?_⟩
 exact⟨bx,m4,n,0,rfl,.inl ⟨rfl,bG.mono cA,aN.symm,m2,m3,aO,HR,cx⟩⟩
theorem ZbQ(k:Nat)(caps:Array Value)(m:Zab)(R:Zab→Zab→Int→Prop)(bad:Zab→Prop)(w:World)(E:Zay w w.heap.size m)(s:Gl w)(C:∀pl W,(callFunc k (#[Pt pl]++caps)).run prog W=.ok (.enter k (#[Pt pl]++caps)) W)(z:∀(m1:Zab) (B pl:Nat) (W:World),Zgd 37 B pl w m m1 W→Calls prog k (#[Pt pl]++caps) W (Zbx 164 37 B pl (R m1) (bad m1) W)):
 Calls prog 60 #[m.val,.func (.func k) #[] caps] w (Zar (Zaj m R) (Zas m R bad) w):=
 (Zek k caps m R bad w.heap.size w.heap.size w (Nat.le_refl _) (Nat.le_refl _) s.lt E s C fun m1 B pl W hp=>(z m1 B pl W hp).mono fun _ _ h=>h.r _ _).mono fun _ _ h=>⟨h.1.low (Nat.le_refl _) (Nat.le_refl _),h.2⟩
theorem Zgx(k:Nat)(caps:Array Value)(m:Zab)(R:Zab→Zab→Int→Prop)(bad:Zab→Prop)(lo hi:Nat)(w:World)(cD:lo≤w.heap.size)(cC:hi≤w.heap.size)(bA:6<lo)(hm:Zay w w.heap.size m)(cA:Gl w)(cO:∀pl W,(callFunc k (#[Pt pl]++caps)).run prog W=.ok (.enter k (#[Pt pl]++caps)) W)(cy:∀(m1:Zab) (B pl:Nat) (W:World),Zgd 130 B pl w m m1 W→Calls prog k (#[Pt pl]++caps) W (Zei 181 130 B pl lo hi (R m1) (bad m1) W)):
 Calls prog 83 #[m.val,.func (.func k) #[] caps] w (Zfc lo hi (Zaj m R) (Zas m R bad) w):=by
 show Calls prog 83 #[.agg m.ar,.func (.func k) #[] caps] w (Zfc lo hi (Zaj m R) (Zas m R bad) w)
 have cc:Hid (∀V,Bw w V→Calls prog 103 #[.agg m.ar] V fun e w'=>e=.returned (.bool (Za2 m))∧Bw V w'):=fun V hV=>good_any m V ((hm.below hV).mono hV.size)
 have cH:Hid (∀V,Bw w V→Calls prog 9 #[.agg m.ar] V (ZcA m V)):=fun V hV=>Zbq m V ((hm.below hV).mono hV.size)
 have cI:Hid (∀V (m2:Zab),Zay V V.heap.size m2→Gl V→Calls prog 110 #[.agg m2.ar] V (Zdw m2 V)):=fun V m2 h1 h2=>Zfo m2 V h1 h2
 have cb:Hid (∀V,Below lo w V→Gl V):=fun V hV=>cA.below hV bA
 have bK:=Hi cD
 have bJ:=Hi cC
 obtain⟨gd,b6⟩:=ExY (Za2 m)
 rw[←b6] at cc
 have aS:=Hi b6
 have b9:=Hi cy
 clear hm cA b6 cy cD bA cC
 obtain⟨W1,a4⟩:=ExY (w.alloc (.cells m.ar 37))
 obtain⟨b2,ba⟩:=ExY w.heap.size
 have bd:=blB a4
 have bj:=bkW a4 ba
 obtain⟨W2,aL⟩:=ExY (W1.alloc (.cells zZ 37))
 obtain⟨pl,aN⟩:=ExY W1.heap.size
 have cp:Hid (pl≠b2):=by
  have h:=bj.lt
  show pl≠b2
  rw[aN]
  exact Ne.symm (Nat.ne_of_lt h)
 have Y:=blZ bd aN
 have be:=blA bd aL
 have cm:=bkA bj aL
 have cr:=bkW aL aN
 have bC:pl=b2+1:=by rw[aN,a4,World.size_alloc,←ba]
 obtain⟨W3,aE⟩:=ExY (W2.alloc (.cells #[I 0] 3))
 obtain⟨pn,a5⟩:=ExY W2.heap.size
 have aa:=blZ be a5
 have bf:=blA be aE
 have cn:=bkA cm aE
 have ct:=bkA cr aE
 have cv:=bkW aE a5
 have bD:pn=pl+1:=by rw[a5,aL,World.size_alloc,←aN]
 obtain⟨W4,aF⟩:=ExY (W3.alloc (.cells #[I 0] 39))
 obtain⟨pe,bc⟩:=ExY W3.heap.size
 have N:=blZ bf bc
 have bg:=blA bf aF
 have bl:=bkA cn aF
 have bs:=bkA ct aF
 have bv:=bkA cv aF
 have bp:=bkW aF bc
 have bB:pe=pn+1:=by rw[bc,aE,World.size_alloc,←a5]
 go_enter_defers func83,ntmps83
 go_upto_region 2 with(fail)
 rw[←a4,←ba,←aL,←bC,←aE,←bD,←aF,←bB]
 clear a4 ba bC aL aN bD aE a5 bB aF bc
 have a2:=bl.nine
 have J:=bs.nine
 have L:=bv.one
 have G:=bp.one
 go_wp2_with fail
 refine((fun _=>cc.out _ bg) W4).mono ?_
 rintro e W5 ⟨rfl,hb⟩
 have an:=blT bg hb
 have co:=bkN bl hb
 have aJ:=bkN bs hb
 have aK:=bkN bv hb
 have aI:=bkN bp hb
 clear a2 J L G
 clear hb
 have a2:=co.nine
 have J:=aJ.nine
 have L:=aK.one
 have G:=aI.one
 dsimp only
 cases gd with
 |false=>
  go_wp2_with fail
  refine Cq (Zau 43 _) ?_
  dsimp only
  go_wp2
  refine leaves_cons (f:=135) (args:=#[Pt pl,Pt pn,Pt pe]) (by simp) (by simp[go_sem]) ?_
  refine(ZdC w.heap.size pl pn pe 43 0 0 zZ rfl _ W5 an.size aJ aK aI Y aa N).mono ?_
  rintro e u' aG ⟨rfl,rfl,hb,h1,h2,h3⟩
  have a7:(prog.info? 37).map (·.size)=some (zZ:Array Value).size:=by kernel_rfl
  refine⟨_,Zbp (p:=4) (q:=5) (r:=6) results83 _ aG pl pn pe _ _ _ rfl rfl rfl h1 h2 h3 a7,?_⟩
  exact⟨(ZaC.of (an.trans hb) (Nat.le_refl _)).r lo hi,Za4,0,43,rfl,.inr ⟨(by decide),rfl,rfl,.inl aS.symm⟩⟩
 |true=>
 go_wp2_with fail
 refine Cq (Za7 43 _) ?_
 dsimp only
 go_wp2_with fail
 have cL:=Hi an.size
 refine(cH.out _ an).mono ?_
 rintro e W6 ⟨m2,he,a6,ho,hb⟩
 obtain⟨B,hB⟩:=ExY W5.heap.size
 have cj:Hid (pl<B):=by rw[hB];exact aJ.lt
 have bi:Hid (pn<B):=by rw[hB];exact aK.lt
 have ci:Hid (pe<B):=by rw[hB];exact aI.lt
 have cl:Hid (w.heap.size≤B):=by rw[hB];exact cL
 have cF:Hid (B≤W6.heap.size):=by rw[hB];exact hb.size
 have bh:=blT an hb
 have cu:=bkN aJ hb
 have cw:=bkN aK hb
 have cq:=bkN aI hb
 clear a2 J L G
 clear hb
 have ap:m2.val=.agg m2.ar:=rfl
 rw[ap] at he
 clear ap
 subst he
 have aT:=Hi a6
 have cd:Hid (Zaa W6 B m2):=by rw[hB];exact ho
 clear a6 ho hB
 dsimp only
 go_upto_region 4 with(fail)
 obtain⟨W7,am⟩:=ExY (W6.alloc (.cells m2.ar 130))
 obtain⟨bx,bb⟩:=ExY W6.heap.size
 have aU:=blZ bh bb
 have aP:=blA bh am
 have bt:=bkA cu am
 have bw:=bkA cw am
 have bq:=bkA cq am
 have ce:=boA cd am
 have aH:=bkW am bb
 have b8:Hid (B≤W7.heap.size):=by
  show B≤W7.heap.size
  rw[am,World.size_alloc]
  exact Nat.le_succ_of_le cF
 rw[←am,←bb]
 clear am bb
 have cG:=Hi (b9.out m2 B bx W7 ⟨aT,aP,aU,cl,b8,aH,ce,cb.out _ (aP.mono bK),(Zfq aT).trans aS.symm⟩)
 go_wp2_with fail
 refine cG.mono ?_
 rintro e W8 ⟨hh,m3,cx,he⟩
 have aQ:Hid (ZaM w.heap.size w.heap.size lo hi w W8):=ZaM.trans ((ZaC.of aP (Nat.le_refl _)).r lo hi) ⟨hh.os,hh.tape,hh.output,hh.size,fun k hk _ hr=>hh.block k (Nat.lt_of_lt_of_le hk cl) (Nat.ne_of_lt (Nat.lt_of_lt_of_le hk aU)) hr⟩
 have ak:Hid (Bk W8 pn 3 #[I 0]):=bw.holeR hh bi (bw.ne aH (by decide)) (Nat.le_trans bJ aa)
 have aV:Hid (Bk W8 pe 39 #[I 0]):=bq.holeR hh ci (bq.ne aH (by decide)) (Nat.le_trans bJ N)
 have aY:Hid (Bk W8 pl 37 zZ):=bt.holeR hh cj (bt.ne aH (by decide)) (Nat.le_trans bJ Y)
 have bn:Hid (Bk W8 bx 130 m3.ar):=cx
 clear hh cx
 rcases he with⟨n,he,ho,hr⟩|⟨er,aM,he,cE⟩
 rotate_left
 ·unfold Pan at he
  subst he
  dsimp only
  have cK:=Hi cE
  clear cE
  go_wp2
  refine leaves_cons (f:=135) (args:=#[Pt pl,Pt pn,Pt pe]) (by simp) (by simp[go_sem]) ?_
  refine(ZdC w.heap.size pl pn pe er 0 0 zZ rfl _ W8 aQ.size aY ak aV Y aa N).mono ?_
  rintro e u' aG ⟨rfl,rfl,hb,h1,h2,h3⟩
  have a7:(prog.info? 37).map (·.size)=some (zZ:Array Value).size:=by kernel_rfl
  refine⟨_,Zbp (p:=4) (q:=5) (r:=6) results83 _ aG pl pn pe _ _ _ rfl rfl rfl h1 h2 h3 a7,?_⟩
  exact⟨aQ.trans ((ZaC.of hb (Nat.le_refl _)).r lo hi),Za4,0,er,rfl,.inr ⟨aM,rfl,rfl,.inr (.inl ⟨m2,aT,cK⟩)⟩⟩
 subst he
 have HR:=Hi hr
 have cf:Hid (Zaa W8 B m3):=ho
 clear hr ho
 dsimp only
 have J:=aY.nine
 have L:=ak.one
 have G:=aV.one
 have Z:=bn.nine
 go_upto_region 5 with(fail)
 obtain⟨W9,ao⟩:=ExY (W8.setCell ⟨pn,0,none⟩ (I n))
 rw[←ao]
 have aR:=bgS aQ ao aa
 have bu:=bkF aY ao ak rfl
 have a0:Hid (Bk W9 pn 3 #[I n]):=bkS ak 0 ao
 have br:=bkF aV ao ak rfl
 have bo:=bkF bn ao ak rfl
 have cg:Hid (Zaa W9 B m3):=by rw[ao];exact(cf.low bi 0 _)
 clear J L G Z
 clear ao
 have J:=bu.nine
 have L:=a0.one
 have G:=br.one
 have Z:=bo.nine
 go_wp2_with fail
 have ch:=Hi aR.size
 refine(cI.out _ m3 cg.rd (cb.out _ (aR.low bK bK))).mono ?_
 rintro e a8 ⟨hb,m4,er,he,hc⟩
 obtain⟨B4,a9⟩:=ExY W9.heap.size
 have ck:Hid (pn<B4):=by rw[a9];exact a0.lt
 have cM:Hid (w.heap.size≤B4):=by rw[a9];exact ch
 rw[←a9] at hc
 clear a9
 have aO:Hid (ZaM w.heap.size w.heap.size lo hi w a8):=by exact aR.up (Nat.le_refl _) hb
 have C:=bkN bu hb
 have aA:=bkN a0 hb
 have ay:=bkN br hb
 have au:=bkN bo hb
 clear J L G Z
 clear hb
 have J:=C.nine
 have L:=aA.one
 have G:=ay.one
 have Z:=au.nine
 have ap:m4.val=.agg m4.ar:=rfl
 rw[ap] at he
 clear ap
 subst he
 dsimp only
 rcases hc with⟨aM,cz,ho⟩|⟨aM,bz⟩
 rotate_left
 ·have b7:=Hi bz
  have ca:=Hi aM
  clear bz aM
  clear J L G Z
  obtain⟨aD,s⟩:=ExY (a8.setRow pl m4.ar)
  have aq:Hid (ZaM w.heap.size w.heap.size lo hi w aD):=by rw[s];exact aO.row_up Y
  have az:Hid (Bk aD pl 37 m4.ar):=by rw[s];exact C.row _
  have aB:=bkR aA s C rfl
  have z:=bkR ay s C rfl
  have aw:=bkR au s C rfl
  obtain⟨xn,zn,ln⟩:=z.one
  rw[s] at xn zn ln
  go_upto_region 6 with(refine wpList_store_row rfl 37 _ _ rfl pl m4.ar rfl rfl 37 zZ C ZaU (by rfl) (by simp[Value.oneCell']) ?_)
  rw[←s]
  clear s xn zn ln
  obtain⟨a1,E⟩:=ExY (aD.setCell ⟨pe,0,none⟩ (I er))
  rw[←E]
  have al:=bgS aq E N
  have ad:=bkF az E z rfl
  have ae:=bkF aB E z rfl
  have ab:Hid (Bk a1 pe 39 #[I er]):=bkS z 0 E
  have ax:=bkF aw E z rfl
  clear E
  have J:=ad.nine
  have L:=ae.one
  have G:=ab.one
  have Z:=ax.nine
  go_wp2_with fail
  refine Cq (ZeF er ca _) ?_
  dsimp only
  go_wp2
  refine leaves_cons (f:=135) (args:=#[Pt pl,Pt pn,Pt pe]) (by simp) (by simp[go_sem]) ?_
  refine(ZdC w.heap.size pl pn pe er n er m4.ar rfl _ a1 al.size ad ae ab Y aa N).mono ?_
  rintro e u' aG ⟨rfl,rfl,hb,h1,h2,h3⟩
  have a7:(prog.info? 37).map (·.size)=some (zZ:Array Value).size:=by kernel_rfl
  refine⟨_,Zbp (p:=4) (q:=5) (r:=6) results83 _ aG pl pn pe _ _ _ rfl rfl rfl h1 h2 h3 a7,?_⟩
  exact⟨al.trans ((ZaC.of hb (Nat.le_refl _)).r lo hi),Za4,0,er,rfl,.inr ⟨ca,rfl,rfl,.inr (.inr ⟨m2,m3,n,aT,HR,b7⟩)⟩⟩
 subst aM
 have cJ:=Hi cz
 have bL:Hid (Zaa a8 B4 m4):=ho
 clear cz ho
 clear J L G Z
 obtain⟨aD,s⟩:=ExY (a8.setRow pl m4.ar)
 have aq:Hid (ZaM w.heap.size w.heap.size lo hi w aD):=by rw[s];exact aO.row_up Y
 have az:Hid (Bk aD pl 37 m4.ar):=by rw[s];exact C.row _
 have aB:=bkR aA s C rfl
 have z:=bkR ay s C rfl
 have aw:=bkR au s C rfl
 have bM:=boR bL s C (by decide)
 obtain⟨xn,zn,ln⟩:=z.one
 rw[s] at xn zn ln
 go_upto_region 6 with(refine wpList_store_row rfl 37 _ _ rfl pl m4.ar rfl rfl 37 zZ C ZaU (by rfl) (by simp[Value.oneCell']) ?_)
 rw[←s]
 clear s xn zn ln
 obtain⟨a1,E⟩:=ExY (aD.setCell ⟨pe,0,none⟩ (I 0))
 rw[←E]
 have al:=bgS aq E N
 have ad:=bkF az E z rfl
 have ae:=bkF aB E z rfl
 have ab:Hid (Bk a1 pe 39 #[I 0]):=bkS z 0 E
 have ax:=bkF aw E z rfl
 have bN:=boF bM E z (by decide)
 clear E
 have J:=ad.nine
 have L:=ae.one
 have G:=ab.one
 have Z:=ax.nine
 go_wp2_with fail
 refine Cq (Zfw _) ?_
 dsimp only
 go_upto_region 7 with(fail)
 clear J L G Z
 obtain⟨cN,ag⟩:=ExY a1.drew
 have bF:=bgD al ag
 have X:=bkD ad ag
 have aC:=bkD ae ag
 have bS:=bkD ab ag
 have bO:=boD bN ag
 refine Zec (fun U=>Bk U pl 37 m4.ar∧Bk U pn 3 #[I n]) 4 (by kernel_rfl) ?_
 rw[←ag]
 clear ag
 refine Zjq (i:=0) (v:=(.agg m4.ar)) rfl (by kernel_rfl) (by kernel_rfl) (by kernel_rfl) (by kernel_rfl) (by kernel_rfl) (fun _ _ _ h=>by cases h.1) (Or.inl ⟨by rfl,?_⟩) (⟨X,aC⟩) ?_
 ·intro w a3
  try dsimp only at a3
  obtain⟨q0,q1⟩:=a3
  exact Za9 37 _ rfl pl rfl 37 _ (0,0) _ q0 underlying37 rfl ZaU
 try simp only[Act.put,sA,sB,sC]
 refine Zjq (i:=1) (v:=(I n)) rfl (by kernel_rfl) (by kernel_rfl) (by kernel_rfl) (by kernel_rfl) (by kernel_rfl) (fun _ _ _ h=>by cases h.1) (Or.inl ⟨by rfl,?_⟩) (⟨X,aC⟩) ?_
 ·intro w a3
  try dsimp only at a3
  obtain⟨q0,q1⟩:=a3
  obtain⟨xn,zn,ln⟩:=q1.one
  first|(go_simp<;>fail)|(go_simp;with_reducible rfl)
 try simp only[Act.put,sA,sB,sC]
 refine onM 2 (by kernel_rfl) rfl fun K hK=>?_
 refine Zaq rfl 37 _ _ rfl pl m4.ar rfl rfl 37 m4.ar X ZaU (by rfl) (by simp[Value.oneCell']) ?_
 obtain⟨bX,ah⟩:=ExY (cN.setRow pl m4.ar)
 rw[←ah]
 have bG:Hid (ZaM w.heap.size w.heap.size lo hi w bX):=by rw[ah];exact bF.row_up Y
 have aW:Hid (Bk bX pl 37 m4.ar):=by rw[ah];exact X.row _
 have af:=bkR aC ah X rfl
 have bT:=bkR bS ah X rfl
 have bP:=boR bO ah X (by decide)
 clear ah
 refine hK.out _ _ (fun _=>⟨aW,af⟩) ?_
 try simp only[Act.put]
 refine onM 3 (by kernel_rfl) rfl fun K hK=>?_
 have b0:=af.one
 go_simp
 clear b0
 obtain⟨bY,ai⟩:=ExY (bX.setCell ⟨pn,0,none⟩ (I n))
 rw[←ai]
 have bH:=bgS bG ai aa
 have aX:=bkF aW ai af rfl
 have aZ:Hid (Bk bY pn 3 #[I n]):=bkS af 0 ai
 have ac:=bkF bT ai af rfl
 have bQ:Hid (Zaa bY B4 m4):=by rw[ai];exact(bP.low ck 0 _)
 clear ai
 refine hK.out _ _ (fun _=>⟨aX,aZ⟩) ?_
 try simp only[Act.put]
 refine onM 4 (by kernel_rfl) rfl fun K hK=>?_
 have b0:=ac.one
 go_simp
 clear b0
 obtain⟨bZ,aj⟩:=ExY (bY.setCell ⟨pe,0,none⟩ (I 0))
 rw[←aj]
 have bI:=bgS bH aj N
 have bV:=bkF aX aj ac rfl
 have bW:=bkF aZ aj ac rfl
 have bU:Hid (Bk bZ pe 39 #[I 0]):=bkS ac 0 aj
 have bR:=boF bQ aj ac (by decide)
 clear aj
 refine hK.out _ _ (fun h0=>Zac (by kernel_rfl) h0) ?_
 refine Zak (by kernel_rfl) ?_ _
 refine⟨rfl,?_⟩
 go_wp2
 refine leaves_cons (f:=135) (args:=#[Pt pl,Pt pn,Pt pe]) (by simp) (by simp[go_sem]) ?_
 refine(Zg9 (Aq pl 0) (Aq pn 0) (Aq pe 0) bZ).mono ?_
 rintro e u' aG ⟨rfl,rfl,bE⟩
 rw[bE]
 clear bE aG
 refine⟨_,Zbp (p:=4) (q:=5) (r:=6) results83 _ bZ pl pn pe _ _ _ rfl rfl rfl bV bW bU ZaU,?_⟩
 exact⟨bI,m4,n,0,rfl,.inl ⟨rfl,bR.mono cM,aS.symm,m2,m3,aT,HR,cJ⟩⟩
theorem Zc2(k:Nat)(caps:Array Value)(m:Zab)(R:Zab→Zab→Int→Prop)(bad:Zab→Prop)(w:World)(E:Zay w w.heap.size m)(s:Gl w)(C:∀pl W,(callFunc k (#[Pt pl]++caps)).run prog W=.ok (.enter k (#[Pt pl]++caps)) W)(z:∀(m1:Zab) (B pl:Nat) (W:World),Zgd 130 B pl w m m1 W→Calls prog k (#[Pt pl]++caps) W (Zbx 181 130 B pl (R m1) (bad m1) W)):
 Calls prog 83 #[m.val,.func (.func k) #[] caps] w (Zar (Zaj m R) (Zas m R bad) w):=
 (Zgx k caps m R bad w.heap.size w.heap.size w (Nat.le_refl _) (Nat.le_refl _) s.lt E s C fun m1 B pl W hp=>(z m1 B pl W hp).mono fun _ _ h=>h.r _ _).mono fun _ _ h=>⟨h.1.low (Nat.le_refl _) (Nat.le_refl _),h.2⟩
end Go.Proofs.YtdefojlkofnloaaGreatDoor
