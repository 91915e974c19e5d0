/- A part of the proof of CorePositions: for every input, no condition. -/
import Derived.Test.YtdefojlkofnloaaGreatDoorZa39
import Derived.Test.YtdefojlkofnloaaGreatDoorZa40
import Derived.Sort.CutIn
set_option maxRecDepth 100000
set_option maxHeartbeats 8000000
set_option linter.unusedVariables false
set_option linter.unusedSimpArgs false
namespace Go.Proofs.YtdefojlkofnloaaGreatDoor
open Go.RowKit Go.Proofs.Tryz
section
attribute [local go_sem] Oper.semAt_some
theorem ZmO{w:World}{base n c:Nat}{A:Option Addr}{l:List EvP}(h:w.ownsRow base 43 12 (.slice A n c) n (l.flatMap EvP.cs))(z:l.length=n){k:Nat}(s:k<l.length):∃g,A=some (Aq g 0)∧∀j,j<12→w.cell? (Aq g (k*12+j))=(l[k]).cs[j]?:=by
 obtain⟨g,hg,_,_,_⟩:=Zbb h (by omega)
 exact⟨g,hg,fun j hj=>(Zbh (hg▸h) (k*12+j) (by omega)).1.trans (Zb3 Zfm l k s j hj)⟩
def Zmt(lo:Nat)(w w':World):Prop:=∀g cs,lo≤g→Bk w g 37 cs→Bk w' g 37 cs
theorem Zcy{P:Program}{ops:Array Oper}{Q:Exit→Act→World→Prop}{F:Fence}{rest:List Oper}{o:Oper}{a:Act}{w:World}(hF:Zjp F)(C:o.guard=none)(J:Zc6 o=true)(E:TypeId)(x y:Operand)(N:o.op=.store E x y)(g:Nat)(cells:Array Value)(R:a.eval x=Pt g)(U:a.eval y=.agg cells)(t:TypeId)(s:Array Value)(L:Bk w g t s)(hi:(P.info? E).map (·.size)=some cells.size)(z:s.size=cells.size)(G:cells.all (·.oneCell')=true)(h:wpListIn F 0 P ops Q rest (a.put o.dst undef) (w.setRow g cells)):wpListIn F 0 P ops Q (o::rest) a w:=
 Zfx hF C J fun _ hK=>wp_store_row E x y N g cells R U t s L hi z G (hK _ _ h)
theorem Zfp(l lo bl be T0:Nat)(A:Option Addr)(c:Nat)(m0:Zab)(am:List EvP)(J:Nat→Zab→Nat→World→Prop)(Jx:World→Prop)(bp:am.length≤60)(bq:∀(ev:EvP) (m:Zab) (w:World),Zay w w.heap.size m→Gl w→Calls prog 11 #[m.val,ev.val] w (Zdu m ev w))(hJ:∀k m T W,J k m T W→Zb4 W lo bl be m0 am A c∧Zaa W 0 m∧Gl W∧T≤W.heap.size)(hB:∀k m T W W',J k m T W→Bw W W'→J k m T W')(hS:∀k m T W g t cs cs',J k m T W→lo≤g→g≠bl→(t=37∨t=41)→Bk W g t cs→J k m T (W.setRow g cs'))(hY:∀(k:Nat) (hk:k<am.length) (m m2 m3:Zab) (n er:Int) (T B:Nat) (W:World),J k m T W→T≤B→B≤W.heap.size→ZgT am[k] m m2 n er→Zaa W B m2→Zbj m2 m3→Zaa W B m3 →
  YieldAt Fence.wide 0 prog l #[m3.val,.agg #[I er,I n]] W fun e W'=>(e=.returned (.bool true)∧(∃T',J (k+1) m2 T' W')∧Zmt lo W W')∨(e=.returned (.bool false)∧Jx W'))(W:World)(h0:J 0 m0 T0 W):
 Calls prog 10 #[.func (.yield l) #[] #[],Pt bl,Pt be] W fun e W'=>e=.returned (.tuple #[])∧((∃m T,J am.length m T W')∨Jx W'):=by
 refine(callsIn_wide (n:=0)).1 (callsIn_of_wp func10 rfl trivial ?_ rfl)
 simp only[ntmps10,List.size_toArray,List.length_cons,List.length_nil,Nat.reduceAdd,Nat.reduceSub,Array.replicate_succ,Array.replicate_zero,List.push_toArray,List.append_toArray,List.nil_append,List.cons_append]
 obtain⟨n,hn⟩:=ExY am.length
 have a7:=Hi hn
 have a6:Hid (n≤60):=by rw[hn];exact bp
 have HJ:=Hi hJ
 have HB:=Hi hB
 have HS:=Hi hS
 have HY:=Hi hY
 have a0:=Hi bq
 obtain⟨fa,_,_,_⟩:=hJ 0 m0 T0 W h0
 obtain⟨W1,Y⟩:=ExY (W.alloc (.cells m0.ar 37))
 obtain⟨b4,aH⟩:=ExY W.heap.size
 have ay:Hid (J 0 m0 T0 W1):=by rw[Y];exact hB _ _ _ _ _ h0 ((Below.refl _ _).alloc (Nat.le_refl _) _)
 have aC:=bkW Y aH
 have aB:Hid (lo≤b4∧bl<b4):=by rw[aH];exact⟨Nat.le_trans fa.ge.1 (Nat.le_of_lt fa.bk.lt),fa.bk.lt⟩
 have br:Bk W bl 37 m0.ar:=fa.bk
 obtain⟨x0,x1,x2,x3,x4,x5,x6,x7,x8,z0,z1,z2,z3,z4,z5,z6,z7,z8,lx⟩:=br.nine
 have y0:=fa.bk2.cell 0
 have ly:=fa.bk2.lt
 have bD:W.cell? (Aq be 0)=some (.slice A n c):=by rw[hn];exact y0
 clear hn bp hJ hB hS hY bq h0 fa br y0
 gi_wp2
 rw[←Y,←aH]
 clear Y aH bD ly x0 x1 x2 x3 x4 x5 x6 x7 x8 z0 z1 z2 z3 z4 z5 z6 z7 z8 lx
 gi_loopw [12] (fun aZ wr=>∃(k:Nat) (m:Zab) (T:Nat),k≤n∧aZ=I (k:Int)∧Hid (J k m T wr)∧Hid (Bk wr b4 37 m.cs.toArray)) (fun aZ _=>n-(intOf aZ).toNat)
 case atStart=>exact⟨0,m0,T0,Nat.zero_le _,rfl,ay,aC⟩
 case round=>
  obtain⟨k,m,T,hk,rfl,aF,bA⟩:=hrel
  rename World=>V
  by_cases aI:k<n
  rotate_left
  ·have e:k=n:=by omega
   gi_wp2
   go_end0
   exact⟨rfl,.inl ⟨m,T,by rw[←a7.out,←e];exact aF.out⟩⟩
  have ax:=Hi aI
  have WK:Hid (wrap64 ((k:Int)+1)=(k:Int)+1):=ZaQ (by have h1:=a6.out;omega)
  obtain⟨fa,_,_,_⟩:=HJ.out k m T V aF
  have aY:k<am.length:=by rw[←a7.out];exact aI
  obtain⟨g,hA,hc⟩:=ZmO fa.ev rfl aY
  have aG:=Hi aY
  obtain⟨ev,aX⟩:=ExY (am[k]'aG.out)
  have aS:=Hi aX
  replace hc:∀j,j<12→V.cell? (Aq g (k*12+j))=ev.cs[j]?:=by rw[aX];exact hc
  obtain⟨xk,xa,xi,xw,xn,xu,xc,xq,xp,xm,xl,xs⟩:=ev
  have e0:V.cell? (Aq g (k*12))=some (I xk):=hc 0 (by decide)
  have e1:V.cell? (Aq g (k*12+1))=some (I xa):=hc 1 (by decide)
  have e2:V.cell? (Aq g (k*12+2))=some (I xi):=hc 2 (by decide)
  have e3:V.cell? (Aq g (k*12+3))=some (I xw):=hc 3 (by decide)
  have e4:V.cell? (Aq g (k*12+4))=some (I xn):=hc 4 (by decide)
  have e5:V.cell? (Aq g (k*12+5))=some (I xu):=hc 5 (by decide)
  have e6:V.cell? (Aq g (k*12+6))=some (I xc):=hc 6 (by decide)
  have e7:V.cell? (Aq g (k*12+7))=some (I xq):=hc 7 (by decide)
  have e8:V.cell? (Aq g (k*12+8))=some (I xp):=hc 8 (by decide)
  have e9:V.cell? (Aq g (k*12+9))=some (I xm):=hc 9 (by decide)
  have bB:V.cell? (Aq g (k*12+10))=some (.bool xl):=hc 10 (by decide)
  have bC:V.cell? (Aq g (k*12+11))=some (.string xs):=hc 11 (by decide)
  have HA:=Hi hA
  have j0:(0:Int)≤(k:Int):=Int.natCast_nonneg k
  have j1:(k:Int)<(n:Int):=Int.ofNat_lt.mpr aI
  clear hA aY aX fa hc aI
  obtain⟨B,hB⟩:=ExY V.heap.size
  have L:Hid (B≤V.heap.size):=by rw[hB];exact Nat.le_refl _
  have a1:Hid (ZaC B b4 V V):=ZaC.refl _ _ _
  have aK:Hid (Bk V b4 37 m.ar):=bA.out
  have bt:=aF
  have aU:Hid (T≤B):=by rw[hB];exact(HJ.out k m T V aF).2.2.2
  clear hB
  rw[HA.out]
  have s:=aK.nine
  obtain⟨W1,Y⟩:=ExY (V.alloc (.cells #[I xk,I xa,I xi,I xw,I xn,I xu,I xc,I xq,I xp,I xm,.bool xl,.string xs] 43))
  obtain⟨b6,aV⟩:=ExY V.heap.size
  have aJ:=bhA a1 L Y
  have aC:=bkA aK Y
  have bf:=bkW Y aV
  have ay:Hid (J k m T W1):=by rw[Y];exact HB.out _ _ _ _ _ bt ((Below.refl _ _).alloc (Nat.le_refl _) _)
  have bs:Hid (Calls prog 11 #[.agg m.ar,.agg #[I xk,I xa,I xi,I xw,I xn,I xu,I xc,I xq,I xp,I xm,.bool xl,.string xs]] W1 (Zdu m ⟨xk,xa,xi,xw,xn,xu,xc,xq,xp,xm,xl,xs⟩ W1)):=a0.out ⟨xk,xa,xi,xw,xn,xu,xc,xq,xp,xm,xl,xs⟩ m W1 (HJ.out k m T W1 ay).2.1.rd (HJ.out k m T W1 ay).2.2.1
  gi_wp2_with fail
  rw[←Y,←aV]
  clear Y aV
  clear e0 e1 e2 e3 e4 e5 e6 e7 e8 e9 bB bC s
  refine⟨trivial,rfl,((callsIn_wide (n:=0)).2 bs).mono ?_⟩
  rintro e W2 ⟨hb,m2,nn,er,rfl,ho,hc⟩
  have an:=Hi hc
  have bu:Hid (J k m T W2):=HB.out _ _ _ _ _ ay hb
  have bz:Hid (Zaa W2 B m2):=ho.mono (Nat.le_trans L aJ.size)
  clear hc ho
  have a2:=bhU aJ L hb
  have aL:=bkN aC hb
  have bg:=bkN bf hb
  clear hb
  have a8:Hid (Zaa W2 B m2):=bz.out
  have aR:m2.val=.agg m2.ar:=rfl
  rw[aR]
  clear aR
  dsimp only
  obtain⟨W3,ab⟩:=ExY (W2.alloc (.cells m2.ar 37))
  obtain⟨b7,aE⟩:=ExY W2.heap.size
  have aD:Hid (b7≠b4):=by
   have h:=aL.lt
   show b7≠b4
   rw[aE]
   exact Ne.symm (Nat.ne_of_lt h)
  have a3:=bhA a2 L ab
  have bc:=bkA aL ab
  have bh:=bkA bg ab
  have a9:=boA a8 ab
  have bj:=bkW ab aE
  have bv:Hid (J k m T W3):=by rw[ab];exact HB.out _ _ _ _ _ bu ((Below.refl _ _).alloc (Nat.le_refl _) _)
  obtain⟨W4,ac⟩:=ExY (W3.alloc (.cells #[I er,I nn] 41))
  obtain⟨b8,aW⟩:=ExY W3.heap.size
  have a4:=bhA a3 L ac
  have X:=bkA bc ac
  have aM:=bkA bh ac
  have aN:=bkA bj ac
  have ba:=boA a9 ac
  have aO:=bkW ac aW
  have bw:Hid (J k m T W4):=by rw[ac];exact HB.out _ _ _ _ _ bv ((Below.refl _ _).alloc (Nat.le_refl _) _)
  have aQ:b8=b7+1:=by rw[aW,ab,World.size_alloc,←aE]
  gi_upto_region 5 with(fail)
  rw[←ab,←aE,←ac,←aQ]
  clear ab ac aE aW aQ
  have s:=X.nine
  have z:=aM.twelve
  have C:=aN.nine
  have E:=aO.two
  gi_upto_region 6 with(refine Zcy ZjL rfl rfl 37 _ _ rfl b4 m2.ar rfl rfl 37 m.ar X ZaU (by rfl) (by simp[Value.oneCell']) ?_)
  clear s z C E
  obtain⟨W5,ad⟩:=ExY (W4.setRow b4 m2.ar)
  have a5:Hid (ZaC B b4 V W5):=by rw[ad];exact a4.row_in
  have bd:Hid (Bk W5 b4 37 m2.ar):=by rw[ad];exact X.row _
  have bi:=bkR aM ad X rfl
  have bn:Hid (Bk W5 b7 37 m2.ar):=by rw[ad];exact aN.rowFar (aD.out) _
  have bo:=bkR aO ad X rfl
  have bb:=boR ba ad X (by decide)
  have bx:Hid (J k m T W5):=by rw[ad];exact HS.out _ _ _ _ _ _ _ _ bw.out (aB.out.1) ((fun h=>Nat.lt_irrefl _ (h▸aB.out.2))) (by decide) X.out
  rw[←ad]
  clear ad
  refine wpIn_region_any (by kernel_rfl) ?_
  change wpAnyIn _ _ _ _ _ _ _ _ _ (World.drew _)
  obtain⟨W6,ae⟩:=ExY W5.drew
  have Z:=bhD a5 ae
  have ao:=bkD bd ae
  have ap:=bkD bi ae
  have aq:=bkD bn ae
  have au:=bkD bo ae
  have aa:=boD bb ae
  have aT:Hid (J k m T W6):=by rw[ae];exact HB.out _ _ _ _ _ bx (Below.refl _ _).drew
  rw[←ae]
  clear ae
  have s:=ao.nine
  have z:=ap.twelve
  have C:=aq.nine
  have E:=au.two
  refine wpAnyIn_take (i:=0) (v:=?_) rfl rfl (by kernel_rfl) (by kernel_rfl) (by kernel_rfl) (fun _ _ _ h=>h) ⟨Or.inl ⟨by rfl,?_⟩,fun _=>rfl⟩ ?_
  rotate_left
  ·intro w;first|(go_simp<;>fail)|(go_simp;with_reducible rfl)
  refine wpAnyIn_ready (rs:=[1,3]) (by kernel_rfl) (by simp) ?_
  refine AllReadyIn.cons rfl (fun K hK=>?_) ?_
  ·go_simp
   refine hK _ _ ?_
   refine wpAnyIn_ready (rs:=[2,3]) (by kernel_rfl) (by simp) ?_
   refine AllReadyIn.cons rfl (fun K hK=>?_) ?_
   ·go_simp
    refine⟨trivial,rfl,((callsIn_wide (n:=0)).2 (Zbq m2 W6 ((aa.rd).mono (Nat.le_refl _)))).mono ?_⟩
    rintro e W7 ⟨m3,rfl,G,R,hb⟩
    have U:=Hi G
    have ag:Hid (Zaa W7 B m3):=R.mono (Nat.le_trans L Z.size)
    have az:Hid (J k m T W7):=HB.out _ _ _ _ _ aT hb
    clear G R
    have af:=bhU Z L hb
    have N:=bkN ao hb
    have aj:=bkN ap hb
    have ak:=bkN aq hb
    have al:=bkN au hb
    have ah:=boN aa hb
    clear s z C E
    clear hb
    have s:=N.nine
    have z:=aj.twelve
    have C:=ak.nine
    have E:=al.two
    refine hK _ _ ?_
    refine wpAnyIn_ready (rs:=[3]) (by kernel_rfl) (by simp) ?_
    refine AllReadyIn.cons rfl (fun K hK=>?_) AllReadyIn.nil
    go_simp
    refine hK _ _ ?_
    obtain⟨fn,tmps,aw,aP,hy,hR⟩:=HY.out k aG.out m m2 m3 nn er T B W7 az.out aU.out (Nat.le_trans L.out af.out.size) (aS.out▸an.out) ah.out U.out ag.out
    have HR:=Hi hR
    clear hR
    refine wpAnyIn_ready (rs:=[4]) (by kernel_rfl) (by simp) ?_
    refine AllReadyIn.cons rfl (fun K hK=>?_) AllReadyIn.nil
    go_simp
    refine⟨rfl,HR.mono ?_⟩
    clear hy
    rintro e W9 (⟨rfl,⟨T2,hj⟩,hk⟩|⟨rfl,hx⟩)
    ·have aA:=Hi hj
     have ai:Hid (Bk W9 b4 37 m2.cs.toArray):=hk _ _ aB.1 N
     clear hj hk s z C E
     refine hK _ _ ?_
     refine wpAnyIn_take (i:=5) (v:=?_) rfl rfl (by kernel_rfl) (by kernel_rfl) (by kernel_rfl) (fun _ _ _ h=>h) ⟨Or.inl ⟨by rfl,?_⟩,fun _=>rfl⟩ ?_
     rotate_left
     ·intro w;first|(go_simp<;>fail)|(go_simp;with_reducible rfl)
     refine wpAnyIn_done (by kernel_rfl) ?_ _
     gi_wp2
     rw[WK.out]
     exact⟨⟨k+1,m2,T2,ax,by rw[Int.natCast_succ],aA,ai⟩,Zba ax⟩
    ·have HX:=Hi hx
     clear hx s z C E
     refine hK _ _ ?_
     refine wpAnyIn_take (i:=5) (v:=?_) rfl rfl (by kernel_rfl) (by kernel_rfl) (by kernel_rfl) (fun _ _ _ h=>h) ⟨Or.inl ⟨by rfl,?_⟩,fun _=>rfl⟩ ?_
     rotate_left
     ·intro w;first|(go_simp<;>fail)|(go_simp;with_reducible rfl)
     refine wpAnyIn_done (by kernel_rfl) ?_ _
     gi_wp2
     try simp only[Exit.inBlock,Exit.then]
     refine bodyPost_ret (results_none rfl _ _ _) rfl ?_
     exact⟨rfl,.inr HX⟩
   refine AllReadyIn.cons rfl (fun K hK=>?_) AllReadyIn.nil
   go_simp
   refine hK _ _ ?_
   refine wpAnyIn_ready (rs:=[2]) (by kernel_rfl) (by simp) ?_
   refine AllReadyIn.cons rfl (fun K hK=>?_) AllReadyIn.nil
   go_simp
   refine⟨trivial,rfl,((callsIn_wide (n:=0)).2 (Zbq m2 W6 ((aa.rd).mono (Nat.le_refl _)))).mono ?_⟩
   rintro e W7 ⟨m3,rfl,G,R,hb⟩
   have U:=Hi G
   have ag:Hid (Zaa W7 B m3):=R.mono (Nat.le_trans L Z.size)
   have az:Hid (J k m T W7):=HB.out _ _ _ _ _ aT hb
   clear G R
   have af:=bhU Z L hb
   have N:=bkN ao hb
   have aj:=bkN ap hb
   have ak:=bkN aq hb
   have al:=bkN au hb
   have ah:=boN aa hb
   clear s z C E
   clear hb
   have s:=N.nine
   have z:=aj.twelve
   have C:=ak.nine
   have E:=al.two
   refine hK _ _ ?_
   obtain⟨fn,tmps,aw,aP,hy,hR⟩:=HY.out k aG.out m m2 m3 nn er T B W7 az.out aU.out (Nat.le_trans L.out af.out.size) (aS.out▸an.out) ah.out U.out ag.out
   have HR:=Hi hR
   clear hR
   refine wpAnyIn_ready (rs:=[4]) (by kernel_rfl) (by simp) ?_
   refine AllReadyIn.cons rfl (fun K hK=>?_) AllReadyIn.nil
   go_simp
   refine⟨rfl,HR.mono ?_⟩
   clear hy
   rintro e W9 (⟨rfl,⟨T2,hj⟩,hk⟩|⟨rfl,hx⟩)
   ·have aA:=Hi hj
    have ai:Hid (Bk W9 b4 37 m2.cs.toArray):=hk _ _ aB.1 N
    clear hj hk s z C E
    refine hK _ _ ?_
    refine wpAnyIn_take (i:=5) (v:=?_) rfl rfl (by kernel_rfl) (by kernel_rfl) (by kernel_rfl) (fun _ _ _ h=>h) ⟨Or.inl ⟨by rfl,?_⟩,fun _=>rfl⟩ ?_
    rotate_left
    ·intro w;first|(go_simp<;>fail)|(go_simp;with_reducible rfl)
    refine wpAnyIn_done (by kernel_rfl) ?_ _
    gi_wp2
    rw[WK.out]
    exact⟨⟨k+1,m2,T2,ax,by rw[Int.natCast_succ],aA,ai⟩,Zba ax⟩
   ·have HX:=Hi hx
    clear hx s z C E
    refine hK _ _ ?_
    refine wpAnyIn_take (i:=5) (v:=?_) rfl rfl (by kernel_rfl) (by kernel_rfl) (by kernel_rfl) (fun _ _ _ h=>h) ⟨Or.inl ⟨by rfl,?_⟩,fun _=>rfl⟩ ?_
    rotate_left
    ·intro w;first|(go_simp<;>fail)|(go_simp;with_reducible rfl)
    refine wpAnyIn_done (by kernel_rfl) ?_ _
    gi_wp2
    try simp only[Exit.inBlock,Exit.then]
    refine bodyPost_ret (results_none rfl _ _ _) rfl ?_
    exact⟨rfl,.inr HX⟩
  refine AllReadyIn.cons rfl (fun K hK=>?_) AllReadyIn.nil
  go_simp
  refine hK _ _ ?_
  refine wpAnyIn_ready (rs:=[1]) (by kernel_rfl) (by simp) ?_
  refine AllReadyIn.cons rfl (fun K hK=>?_) AllReadyIn.nil
  go_simp
  refine hK _ _ ?_
  refine wpAnyIn_ready (rs:=[2]) (by kernel_rfl) (by simp) ?_
  refine AllReadyIn.cons rfl (fun K hK=>?_) AllReadyIn.nil
  go_simp
  refine⟨trivial,rfl,((callsIn_wide (n:=0)).2 (Zbq m2 W6 ((aa.rd).mono (Nat.le_refl _)))).mono ?_⟩
  rintro e W7 ⟨m3,rfl,G,R,hb⟩
  have U:=Hi G
  have ag:Hid (Zaa W7 B m3):=R.mono (Nat.le_trans L Z.size)
  have az:Hid (J k m T W7):=HB.out _ _ _ _ _ aT hb
  clear G R
  have af:=bhU Z L hb
  have N:=bkN ao hb
  have aj:=bkN ap hb
  have ak:=bkN aq hb
  have al:=bkN au hb
  have ah:=boN aa hb
  clear s z C E
  clear hb
  have s:=N.nine
  have z:=aj.twelve
  have C:=ak.nine
  have E:=al.two
  refine hK _ _ ?_
  obtain⟨fn,tmps,aw,aP,hy,hR⟩:=HY.out k aG.out m m2 m3 nn er T B W7 az.out aU.out (Nat.le_trans L.out af.out.size) (aS.out▸an.out) ah.out U.out ag.out
  have HR:=Hi hR
  clear hR
  refine wpAnyIn_ready (rs:=[4]) (by kernel_rfl) (by simp) ?_
  refine AllReadyIn.cons rfl (fun K hK=>?_) AllReadyIn.nil
  go_simp
  refine⟨rfl,HR.mono ?_⟩
  clear hy
  rintro e W9 (⟨rfl,⟨T2,hj⟩,hk⟩|⟨rfl,hx⟩)
  ·have aA:=Hi hj
   have ai:Hid (Bk W9 b4 37 m2.cs.toArray):=hk _ _ aB.1 N
   clear hj hk s z C E
   refine hK _ _ ?_
   refine wpAnyIn_take (i:=5) (v:=?_) rfl rfl (by kernel_rfl) (by kernel_rfl) (by kernel_rfl) (fun _ _ _ h=>h) ⟨Or.inl ⟨by rfl,?_⟩,fun _=>rfl⟩ ?_
   rotate_left
   ·intro w;first|(go_simp<;>fail)|(go_simp;with_reducible rfl)
   refine wpAnyIn_done (by kernel_rfl) ?_ _
   gi_wp2
   rw[WK.out]
   exact⟨⟨k+1,m2,T2,ax,by rw[Int.natCast_succ],aA,ai⟩,Zba ax⟩
  ·have HX:=Hi hx
   clear hx s z C E
   refine hK _ _ ?_
   refine wpAnyIn_take (i:=5) (v:=?_) rfl rfl (by kernel_rfl) (by kernel_rfl) (by kernel_rfl) (fun _ _ _ h=>h) ⟨Or.inl ⟨by rfl,?_⟩,fun _=>rfl⟩ ?_
   rotate_left
   ·intro w;first|(go_simp<;>fail)|(go_simp;with_reducible rfl)
   refine wpAnyIn_done (by kernel_rfl) ?_ _
   gi_wp2
   try simp only[Exit.inBlock,Exit.then]
   refine bodyPost_ret (results_none rfl _ _ _) rfl ?_
   exact⟨rfl,.inr HX⟩
end
section
attribute [local go_sem] Oper.semAt_some
def ZiF(b:Nat)(w w':World):Prop:=∀g t cs,g≠b→Bk w g t cs→Bk w' g t cs
theorem ZiF.own{b:Nat}{w w':World}(k:ZiF b w w'){B:Nat}{m:Zab}(h:Zaa w B m)(s:b<B):Zaa w' B m:=h.kept fun g t cs hg=>k g t cs (by omega)
theorem ZiF.row{b:Nat}{w w':World}(k:ZiF b w w'){base e n c s:Nat}{A:Option Addr}{xs:List Value}(h:w.ownsRow base e s (.slice A n c) n xs)(z:b<base):w'.ownsRow base e s (.slice A n c) n xs:=
 ZaF h fun p hp=>by
  obtain⟨cs,_,hg,hc⟩:=ZaK h hp
  exact(k _ _ _ (by omega) hc:_=_).trans (hc:_=_).symm
theorem Bk.put{w:World}{g l t:Nat}{cs:Array Value}{L:Loop}(h:Bk w g t cs)(z:w.heap[l]?=some (.loop L))(o:Obj):Bk (w.putObj l o) g t cs:=by
 have s:g≠l:=fun e=>by
  subst e
  have h2:w.heap[g]?=some (.cells cs t):=h
  rw[z] at h2
  cases h2
 exact(World.putObj_heap_other s).trans h
theorem Bk.putd{w:World}{g l t:Nat}{cs:Array Value}{d:Option (List Deferred)}(h:Bk w g t cs)(z:w.heap[l]?=some (.deferred d))(o:Obj):Bk (w.putObj l o) g t cs:=by
 have s:g≠l:=fun e=>by
  subst e
  have h2:w.heap[g]?=some (.cells cs t):=h
  rw[z] at h2
  cases h2
 exact(World.putObj_heap_other s).trans h
theorem Zb4.keep{w w':World}{lo C z b:Nat}{m:Zab}{s:List EvP}{A:Option Addr}{c:Nat}(h:Zb4 w lo C z m s A c)(k:ZiF b w w')(E:b<lo):Zb4 w' lo C z m s A c:=
 ⟨k _ _ _ (by have:=h.ge.1;omega) h.bk,k _ _ _ (by have:=h.ge.2;omega) h.bk2,k.row h.ev E,h.ge⟩
theorem Zb4.row{w:World}{lo z C g t:Nat}{m:Zab}{s:List EvP}{A:Option Addr}{c:Nat}{cs cs':Array Value}(h:Zb4 w lo z C m s A c)(J:g≠z)(G:t=37∨t=41)(E:Bk w g t cs):Zb4 (w.setRow g cs') lo z C m s A c:=by
 refine⟨h.bk.rowFar (Ne.symm J) _,h.bk2.rowFar (h.bk2.ne E (by rcases G with rfl|rfl<;>decide)) _,Zbc h.ev E (by rcases G with rfl|rfl<;>decide) _,h.ge⟩
theorem Zaa.rowT{w:World}{B:Nat}{m:Zab}(h:Zaa w B m){g t:Nat}{cs cs':Array Value}(s:Bk w g t cs)(z:t=37∨t=41):Zaa (w.setRow g cs') B m:=by
 rcases z with rfl|rfl
 ·exact h.rowFar s (by decide) _
 ·exact h.rowFar s (by decide) _
theorem ZcU{w:World}{g t l:Nat}{cs cs':Array Value}{o:Obj}(C:Bk w g t cs)(z:w.heap[l]?=some o)(E:∀cs t fr,o ≠ .cells cs t fr):(w.setRow g cs').heap[l]?=some o:=by
 have s:l≠g:=fun e=>by
  subst e
  have h2:w.heap[l]?=some (.cells cs t):=C
  rw[z] at h2
  cases h2
  exact E _ _ _ rfl
 rw[setRow_other w g l cs' s]
 exact z
theorem Zbj.symm{a b:Zab}(h:Zbj a b):Zbj b a:=⟨h.day.symm,h.curs.symm,h.unders.symm,h.instrs.symm,h.accts.symm,h.poss.symm,h.orders.symm,h.avail.symm,h.locs.symm⟩
def Ze0(m:Zab)(evs:List EvP)(w:World)(e:Ending)(w':World):Prop:=
 Bw w w'∧∃m1 mN m':Zab,e=.returned m'.val∧Zaa w' 0 m'∧Zbj m m1∧ZhB m1 evs evs.length mN∧Zbj mN m'
theorem ZhO:∀(s:Array Value) (w:World),(callFunc 10 s).run prog w=.ok (.enter 10 s) w:=by
 intro s w
 kernel_rfl
theorem Zld(m:Zab)(A:Option Addr)(c:Nat)(s:List EvP)(w:World)(hm:Zay w w.heap.size m)(bs:Gl w)(bi:s.length≤60)(bx:Rd w w.heap.size 12 A s.length (s.flatMap EvP.cs))(bn:∀(ev:EvP) (m:Zab) (w:World),Zay w w.heap.size m→Gl w→Calls prog 11 #[m.val,ev.val] w (Zdu m ev w)):
 Calls prog 8 #[m.val,.slice A s.length c] w (Ze0 m s w):=by
 obtain⟨n,hn⟩:=ExY s.length
 have aX:=Hi bi
 have bK:Hid (Rd w w.heap.size 12 A s.length (s.flatMap EvP.cs)):=bx
 have a2:=Hi hm
 have ax:=Hi bs
 have aY:=Hi bn
 show Calls prog 8 #[.agg m.ar,.slice A s.length c] w (Ze0 m s w)
 clear hn bi bx hm bs bn
 obtain⟨W1,al⟩:=ExY (w.alloc (.cells m.ar 37))
 obtain⟨b2,az⟩:=ExY w.heap.size
 have aC:=blB al
 have aF:=bkW al az
 obtain⟨W2,am⟩:=ExY (W1.alloc (.cells zZ 37))
 obtain⟨b4,an⟩:=ExY W1.heap.size
 have bc:Hid (b4≠b2):=by
  have h:=aF.lt
  show b4≠b2
  rw[an]
  exact Ne.symm (Nat.ne_of_lt h)
 have aS:=blZ aC an
 have aa:=blA aC am
 have aG:=bkA aF am
 have aI:=bkW am an
 have aP:b4=b2+1:=by rw[an,al,World.size_alloc,←az]
 refine ZcF (fd:=f8) func8 rfl ?_
 simp only[ntmps8,List.size_toArray,List.length_cons,List.length_nil,Nat.reduceAdd,Nat.reduceSub,Array.replicate_succ,Array.replicate_zero,List.push_toArray,List.append_toArray,List.nil_append,List.cons_append]
 refine Za1 (Zbk ?_)
 go_wp2
 rw[←al,←az,←am,←aP]
 clear al az aP am an
 refine Za1 (Zbk ?_)
 have ai:=aG.nine
 have aj:=aI.nine
 go_wp2_with fail
 have bJ:=Hi aa.size
 refine(Zbq m _ ((a2.below aa).mono aa.size)).mono ?_
 rintro e W3 ⟨m3,rfl,au,aQ,hb⟩
 have aR:=Hi au
 have a4:Hid (Zaa W3 w.heap.size m3):=aQ.mono bJ
 clear au aQ
 have aD:=blT aa hb
 have aH:=bkN aG hb
 have aJ:=bkN aI hb
 clear ai aj
 clear hb
 have a5:Hid (Zaa W3 w.heap.size m3):=a4.out
 have R:m3.val=.agg m3.ar:=rfl
 rw[R]
 clear R
 dsimp only
 obtain⟨W4,Y⟩:=ExY (W3.alloc (.cells m3.ar 37))
 obtain⟨b5,ad⟩:=ExY W3.heap.size
 have bd:Hid (b5≠b2):=by
  have h:=aH.lt
  show b5≠b2
  rw[ad]
  exact Ne.symm (Nat.ne_of_lt h)
 have ah:Hid (b5≠b4):=by
  have h:=aJ.lt
  show b5≠b4
  rw[ad]
  exact Ne.symm (Nat.ne_of_lt h)
 have aT:=blZ aD ad
 have z:=blA aD Y
 have bb:=bkA aH Y
 have af:=bkA aJ Y
 have a6:=boA a5 Y
 have ag:=bkW Y ad
 go_wp2
 rw[←Y,←ad]
 clear Y ad
 refine Za1 ?_
 refine Za1 (Zbk ?_)
 have ai:=bb.nine
 have aj:=af.nine
 have bf:=ag.nine
 go_wp2_with fail
 have aB:Hid (w.heap.size≤W4.heap.size):=z.size
 have a8:=Hi z.size
 refine(Zgk m A c s _ ((a2.below z).mono z.size) aX ((bK.below z).mono z.size)).mono ?_
 rintro e W5 ⟨hb,bl,be,m1,A7,c7,rfl,bz,bu,br⟩
 have ba:=Hi bz
 have aw:=Hi br
 have a3:=Hi bu
 clear bz bu br
 have ab:=blT z hb
 have aK:=bkN af hb
 have aL:=bkN ag hb
 have a7:=boN a6 hb
 clear ai aj bf
 clear hb
 dsimp only
 obtain⟨lo,ap⟩:=ExY W4.heap.size
 rw[←ap] at a3 aw
 have aE:=Hi ap
 have aA:Hid (b4<lo∧b5<lo∧6<lo):=by
  refine⟨?_,?_,?_⟩
  ·have h1:=af.lt
   rw[ap];have h2:=a8.out;omega
  ·have h1:=ag.lt
   rw[ap];omega
  ·have h1:=ax.lt
   rw[ap];have h2:=a8.out;omega
 have bI:Hid (b4≠b5):=(Ne.symm ah)
 have a0:Hid (Gl W5):=ax.below ab ax.lt
 have a1:Hid (lo≤W5.heap.size):=by have h1:=aw.ge.1;have h2:=aw.bk.lt;show lo≤_;omega
 go_wp2
 refine Zd3 (ZeL (caps:=#[Pt bl,Pt be]) rfl ZhO ?_)
 intro U aq W1 C aW aV
 refine(Zfp (W5.heap.size+1) lo bl be W1.heap.size A7 c7 m1 s (fun(k:Nat) (mk:Zab) (T:Nat) (W:World)=>Bw w W∧Zb4 W lo bl be m1 s A7 c7∧Zaa W 0 mk∧Gl W∧(lo≤T∧T≤W.heap.size)∧W.heap[W5.heap.size+1]?=some (.loop (U .ready none))∧W.heap[W5.heap.size]?=some (.deferred (some []))∧Bk W b4 37 zZ∧(∃mo:Zab,Bk W b5 37 mo.cs.toArray∧Zbj mk mo∧Zaa W 0 mo)∧ZhB m1 s k mk) (fun _=>False) aX aY ?_ ?_ ?_ ?_ W1 ?_).mono ?_
 ·rintro k mk T W ⟨h1,h2,h3,h4,h5,_⟩
  exact⟨h2,h3,h4,h5.2⟩
 ·rintro k mk T W W' ⟨h1,h2,h3,h4,h5,h6,h7,h8,⟨mo,h9,J,L⟩,E⟩ hb
  exact⟨h1.trans (hb.mono h1.size),h2.below hb,h3.below hb,h4.below hb h4.lt,⟨h5.1,Nat.le_trans h5.2 hb.size⟩,(hb.block _ (Array.getElem?_eq_some_iff.1 h6).1).trans h6,(hb.block _ (Array.getElem?_eq_some_iff.1 h7).1).trans h7,h8.below hb h8.lt,⟨mo,h9.below hb h9.lt,J,L.below hb⟩,E⟩
 ·rintro k mk T W g t cs bM ⟨h1,h2,h3,h4,h5,h6,h7,h8,⟨mo,h9,J,L⟩,E⟩ hg bP ht hb
  have hx:=aA.out
  have bQ:w.heap.size≤lo:=by have e:=aB.out;rw[aE.out];exact e
  refine⟨ZaB h1 (Nat.le_trans bQ hg) _,h2.row bP ht hb,h3.rowT hb ht,h4.below (ZaB (Below.refl g _) (Nat.le_refl _) _) (by omega),⟨h5.1,?_⟩,ZcU hb h6 (fun _ _ _ h=>by cases h),ZcU hb h7 (fun _ _ _ h=>by cases h),h8.rowFar (by omega) _,⟨mo,h9.rowFar (by omega) _,J,L.rowT hb ht⟩,E⟩
  rw[show(W.setRow g bM).heap.size=W.heap.size by simp];exact h5.2
 ·rintro k hk mk m2 m3 n er T B W ⟨h1,h2,h3,h4,h5,h6,h7,h8,⟨mo,h9,J,L⟩,E⟩ bO bN bB bv bA bw
  refine Zee aq func8 h6 rfl ?_
  have R:m3.val=.agg m3.ar:=rfl
  rw[R]
  clear R
  have l5:=a1.out
  have l6:=aA.out
  have lw:w.heap.size≤lo:=by rw[aE.out];exact aB
  have bh:=aT.out
  obtain⟨W6,ay⟩:=ExY (W.alloc (.cells m3.ar 37))
  obtain⟨b6,aU⟩:=ExY W.heap.size
  have B6:Bw W W6:=by rw[ay];exact(Below.refl _ _).alloc (Nat.le_refl _) _
  have aN:Bk W6 b6 37 m3.ar:=by rw[ay,aU];exact Bk.new _ _ _
  have ae:W6.heap[W5.heap.size+1]?=some (.loop (U .ready none)):=(B6.block _ (Array.getElem?_eq_some_iff.1 h6).1).trans h6
  have bo:W6.heap[W5.heap.size]?=some (.deferred (some [])):=(B6.block _ (Array.getElem?_eq_some_iff.1 h7).1).trans h7
  obtain⟨W7,N⟩:=ExY (W6.putObj (W5.heap.size+1) (.loop (U .busy none)))
  have aO:Bk W7 b6 37 m3.ar:=by rw[N];exact aN.put ae _
  have bj:Bk W6 b5 37 mo.cs.toArray:=h9.below B6 h9.lt
  have G:Bk W7 b5 37 mo.ar:=by rw[N];exact Bk.put bj ae _
  have bt:W7.heap[W5.heap.size+1]?=some (.loop (U .busy none)):=by rw[N];exact World.putObj_heap_same (Array.getElem?_eq_some_iff.1 ae).1
  have bp:W7.heap[W5.heap.size]?=some (.deferred (some [])):=by rw[N];exact(World.putObj_heap_other (Nat.ne_of_lt (Nat.lt_succ_self _))).trans bo
  obtain⟨W8,ac⟩:=ExY (W7.setRow b5 m3.ar)
  have ao:W8.heap[W5.heap.size+1]?=some (.loop (U .busy none)):=by rw[ac];exact ZcU G bt (fun _ _ _ h=>by cases h)
  have bq:W8.heap[W5.heap.size]?=some (.deferred (some [])):=by rw[ac];exact ZcU G bp (fun _ _ _ h=>by cases h)
  have aM:Bk W8 b5 37 m3.ar:=by rw[ac];exact G.row _
  obtain⟨W9,Z⟩:=ExY (W8.putObj (W5.heap.size+1) (.loop (U .ready none)))
  have KP:ZiF b5 W W9:=fun g t cs hg hb=>by
   have k6:=hb.below B6 hb.lt
   have k7:Bk W7 g t cs:=by rw[N];exact k6.put ae _
   have k8:Bk W8 g t cs:=by rw[ac];exact k7.rowFar hg _
   rw[Z];exact k8.put ao _
  have BW:Below w.heap.size W W9:=by
   have e6:Below w.heap.size W W6:=B6.mono h1.size
   have e7:Below w.heap.size W W7:=by rw[N];exact ZaT e6 (by omega) _
   have e8:Below w.heap.size W W8:=by rw[ac];exact ZaB e7 bh _
   rw[Z];exact ZaT e8 (by omega) _
  have aZ:Hid (Bw w W9∧Zb4 W9 lo bl be m1 s A7 c7∧Zaa W9 0 m2∧Gl W9∧(lo≤W9.heap.size∧W9.heap.size≤W9.heap.size)∧W9.heap[W5.heap.size+1]?=some (.loop (U .ready none))∧W9.heap[W5.heap.size]?=some (.deferred (some []))∧Bk W9 b4 37 zZ∧(∃mo:Zab,Bk W9 b5 37 mo.cs.toArray∧Zbj m2 mo∧Zaa W9 0 mo)∧ZhB m1 s (k+1) m2):=by
   refine⟨h1.trans BW,h2.keep KP l6.2.1,(KP.own bv (by omega)).mono (Nat.zero_le _),h4.below BW ax.lt,⟨?_,Nat.le_refl _⟩,?_,?_,KP _ _ _ (bI.out) h8,⟨m3,?_,bA,(KP.own bw (by omega)).mono (Nat.zero_le _)⟩,E.succ hk bB⟩
   ·have:=BW.size;have:=h5.2;omega
   ·rw[Z];exact World.putObj_heap_same (Array.getElem?_eq_some_iff.1 ao).1
   ·rw[Z];exact(World.putObj_heap_other (Nat.ne_of_lt (Nat.lt_succ_self _))).trans bq
   ·rw[Z];exact aM.put ao _
  have bF:Hid (Zmt lo W W9):=fun g cs hg hb=>KP g 37 cs (by omega) hb
  have bG:=Hi ae
  have bH:=Hi ao
  have bE:=Hi aO
  have bD:=Hi G
  clear KP BW aM bq ao bp bt bj bo ae aN B6 bh lw l6 l5 h1 h2 h3 h4 h5 h6 h7 h8 h9 J L E bO bN bB bv bA bw aO G aq C aW aV
  gi_wp2
  rw[←ay,←aU]
  refine⟨bG,?_⟩
  rw[←N]
  clear ay aU N
  have z1:(m3.ar:Array Value).all (·.oneCell')=true:=by simp[Value.oneCell']
  have Z1:=Hi z1
  clear z1
  have bL:=bE.nine
  gi_wp2_with (refine Zcy (Zb7 _) rfl rfl 37 _ _ rfl b5 m3.ar rfl rfl 37 mo.ar bD ZaU (by rfl) Z1 ?_)
  rw[←ac]
  exact⟨bH,.inl ⟨rfl,⟨_,by rw[←Z];exact aZ.out⟩,by rw[←Z];exact bF.out⟩⟩
 ·exact⟨ab.trans (C.mono ab.size),aw.below C,(a3.below C).mono (Nat.zero_le _),a0.below C a0.lt,⟨Nat.le_trans a1 C.size,Nat.le_refl _⟩,aW,aV,aK.below C aK.lt,⟨m3,aL.below C aL.lt,ba.symm.trans aR,(a7.below C).mono (Nat.zero_le _)⟩,.zero⟩
 ·rintro e W9 ⟨rfl,⟨mN,T,h1,h2,h3,h4,h5,h6,h7,h8,⟨mo,h9,J,L⟩,E⟩|h⟩
  rotate_left
  ·exact h.elim
  refine .inl ⟨_,rfl,h6,?_⟩
  have lw:w.heap.size≤W5.heap.size:=ab.size
  have bg:=aS.out
  obtain⟨V1,X⟩:=ExY (W9.putObj (W5.heap.size+1) (.loop (U .exhausted none)))
  have k5:Bk V1 b5 37 mo.ar:=by rw[X];exact Bk.put h9 h6 _
  have k4:Bk V1 b4 37 zZ:=by rw[X];exact Bk.put h8 h6 _
  have kd:V1.heap[W5.heap.size]?=some (.deferred (some [])):=by rw[X];exact(World.putObj_heap_other (Nat.ne_of_lt (Nat.lt_succ_self _))).trans h7
  have kb:Bw w V1:=by rw[X];exact ZaT h1 (by omega) _
  have ko:Zaa V1 0 mo:=by rw[X];exact L.kept fun g t cs _ hb=>hb.put h6 _
  obtain⟨V2,ak⟩:=ExY (V1.setRow b4 mo.ar)
  have q4:Bk V2 b4 37 mo.ar:=by rw[ak];exact k4.row _
  have qd:V2.heap[W5.heap.size]?=some (.deferred (some [])):=by rw[ak];exact ZcU k4 kd (fun _ _ _ h=>by cases h)
  have qb:Bw w V2:=by rw[ak];exact ZaB kb bg _
  have qo:Zaa V2 0 mo:=by rw[ak];exact ko.rowFar k4 (by decide) _
  have Q4:=Hi q4
  have QD:=Hi qd
  have QB:=Hi qb
  have QO:=Hi qo
  have K5:=Hi k5
  have K4:=Hi k4
  have a9:=Hi E
  have bC:=Hi J
  have LW:=Hi lw
  clear h1 h2 h3 h4 h5 h6 h7 h8 h9 J L E k5 k4 kd kb ko q4 qd qb qo bg lw C aW aV aq
  rw[←X]
  clear X
  show ZiD prog 8 _ _ _ _
  refine Zbk ?_
  dsimp only
  have z1:(mo.ar:Array Value).all (·.oneCell')=true:=by simp[Value.oneCell']
  have Z1:=Hi z1
  clear z1
  have bL:=K5.nine
  go_wp2_with (refine wpList_store_row rfl 37 _ _ rfl b4 mo.ar rfl rfl 37 zZ K4 ZaU (by rfl) Z1 ?_)
  rw[←ak]
  show LeavesInM Fence.wide 0 prog f8 _ (Ze0 m s w) [{target:=.collected W5.heap.size,args:=#[]}] .returning _
  refine⟨by simp,.inl ⟨W5.heap.size,_,rfl,run_takeDeferred QD,?_⟩⟩
  refine⟨.agg mo.ar,results_cell_row (p:=4) results8 _ _ b4 37 mo.ar (0,0) _ rfl (Q4.putd QD _) underlying37 rfl ZaU,?_⟩
  exact⟨ZaT QB LW _,m1,mN,mo,rfl,QO.kept fun g t cs _ hb=>hb.putd QD _,ba,a9,bC⟩
end
section
structure ZbW(b3 b4 b5 l D B lw:Nat)(ol od:Obj)(W0 W:World):Prop where
 low:lw≤W0.heap.size
 below:Below lw W0 W
 size:W0.heap.size≤W.heap.size
 busy:W.heap[l]?=some ol
 dfd:W.heap[D]?=some od
 nol:∀cs t fr,ol ≠ .cells cs t fr
 nod:∀cs t fr,od ≠ .cells cs t fr
 keep:∀g t cs,g≠b3→g≠b4→g≠b5→(t≠45∨B≤g)→Bk W0 g t cs→Bk W g t cs
theorem ZdQ{w:World}{g t l i:Nat}{cs:Array Value}{o:Obj}{u:Value}(C:Bk w g t cs)(z:w.heap[l]?=some o)(E:∀cs t fr,o ≠ .cells cs t fr):(w.setCell (Aq g i) u).heap[l]?=some o:=by
 have s:l≠g:=fun e=>by
  subst e
  have h2:w.heap[l]?=some (.cells cs t):=C
  rw[z] at h2
  cases h2
  exact E _ _ _ rfl
 exact(Below.heap_setCell w (Aq g i) u l s).trans z
section
variable {b3 b4 b5 l D B lw:Nat} {ol od:Obj} {W0 W:World}
theorem ZbW.alloc(h:ZbW b3 b4 b5 l D B lw ol od W0 W)(o:Obj):ZbW b3 b4 b5 l D B lw ol od W0 (W.alloc o):=
 ⟨h.low,h.below.alloc (Nat.le_trans h.low h.size) _,Nat.le_trans h.size (by simp),(Below.heap_alloc W o l (Array.getElem?_eq_some_iff.1 h.busy).1).trans h.busy,(Below.heap_alloc W o D (Array.getElem?_eq_some_iff.1 h.dfd).1).trans h.dfd,h.nol,h.nod,
  fun g t cs h3 h4 h5 h6 hb=>(h.keep g t cs h3 h4 h5 h6 hb).alloc _⟩
theorem ZbW.cell(h:ZbW b3 b4 b5 l D B lw ol od W0 W){g t:Nat}{cs:Array Value}(E:Bk W g t cs)(G:lw≤g)(C:∀g' t' s,g'≠b3→g'≠b4→g'≠b5→(t'≠45∨B≤g')→Bk W0 g' t' s→g'≠g)(i:Nat)(u:Value):
 ZbW b3 b4 b5 l D B lw ol od W0 (W.setCell (Aq g i) u):=
 ⟨h.low,h.below.setCell (p:=Aq g i) G _,Nat.le_trans h.size (by simp),ZdQ E h.busy h.nol,ZdQ E h.dfd h.nod,h.nol,h.nod,
  fun g' t' s h3 h4 h5 h6 z=>(h.keep g' t' s h3 h4 h5 h6 z).far (p:=Aq g i) (C g' t' s h3 h4 h5 h6 z) _⟩
theorem ZbW.cell3(h:ZbW b3 b4 b5 l D B lw ol od W0 W){t:Nat}{cs:Array Value}(s:Bk W b3 t cs)(z:lw≤b3)(i:Nat)(u:Value):ZbW b3 b4 b5 l D B lw ol od W0 (W.setCell (Aq b3 i) u):=
 h.cell s z (fun _ _ _ h _ _ _ _=>h) i u
theorem ZbW.cell5(h:ZbW b3 b4 b5 l D B lw ol od W0 W){t:Nat}{cs:Array Value}(s:Bk W b5 t cs)(z:lw≤b5)(i:Nat)(u:Value):ZbW b3 b4 b5 l D B lw ol od W0 (W.setCell (Aq b5 i) u):=
 h.cell s z (fun _ _ _ _ _ h _ _=>h) i u
theorem ZbW.grown(h:ZbW b3 b4 b5 l D B lw ol od W0 W){W':World}{base n c:Nat}{A:Option Addr}{xs:List Value}(G:W.ownsRow base 45 5 (.slice A n c) n xs)(N:lw≤base)(L:∀p,A=some p→p.block<B)(C:W.grownBy W' (Value.slice A n c).ownBlock):ZbW b3 b4 b5 l D B lw ol od W0 W':=by
 have z:∀g,(Value.slice A n c).ownBlock=some g→base≤g:=ZcS G
 have s:∀ {k:Nat} {o:Obj},W.heap[k]?=some o→(∀cs t fr,o ≠ .cells cs t fr)→W'.heap[k]?=some o:=fun {k o} hk ho=>by
  refine(C.block k (Array.getElem?_eq_some_iff.1 hk).1 fun e=>?_).trans hk
  cases A with
  |none=>cases e
  |some p=>
   obtain⟨cs,hp,_,hc⟩:=ZaK G rfl
   rw[hp] at e
   have e2:k=p.block:=Option.some.inj e
   have h2:W.heap[p.block]?=some (.cells cs 45):=hc
   rw[←e2,hk] at h2
   cases h2
   exact ho _ _ _ rfl
 refine⟨h.low,h.below.trans (Below.grownB C (Nat.le_trans h.low h.size) fun g e=>Nat.le_trans N (z g e)),Nat.le_trans h.size C.size,s h.busy h.nol,s h.dfd h.nod,h.nol,h.nod,fun g t cs h3 h4 h5 h6 E=>?_⟩
 have hk:=h.keep g t cs h3 h4 h5 h6 E
 refine hk.grown C fun e=>?_
 cases A with
 |none=>cases e
 |some p=>
  obtain⟨J,hp,_,hc⟩:=ZaK G rfl
  rw[hp] at e
  have e2:g=p.block:=Option.some.inj e
  rcases h6 with h6|h6
  ·exact hk.ne hc h6 e2
  ·have:=L p rfl
   omega
end
theorem ZmG{w:World}{B n:Nat}{A:Option Addr}{l:List EvP}(h:Rd w B 12 A n (l.flatMap EvP.cs)){k:Nat}(s:k<l.length):
 ∃a,A=some a∧a.block<B∧w.cell? (a.add (k*12))=(l[k]).cs[0]?∧∀j,j+1<12→w.cell? ⟨(a.add (k*12)).block,(a.add (k*12)).off+(j+1),none⟩=(l[k]).cs[j+1]?:=Zf1 Zfm h s (by decide)
end
section
theorem ZdB{w:World}{g t:Nat}{l:List Int}(h:Bk w g t (Zag l).toArray){k:Nat}(s:k<l.length):w.cell? (Aq g k)=some (I (l.getD k 0)):=by
 have:=h.cell k
 rw[this]
 simp[Zag,List.getD,s]
theorem ZdT{w:World}{g t:Nat}{l:List Int}(h:Bk w g t (Zag l).toArray)(k:Nat)(x:Int):Bk (w.setCell (Aq g k) (I x)) g t (Zag (l.set k x)).toArray:=by
 have:=h.set k (I x)
 have e:(Zag l).toArray.setIfInBounds k (I x)=(Zag (l.set k x)).toArray:=by simp[Zag,List.map_set]
 rw[e] at this
 exact this
structure ZeM(b1 b2 b3 b4 b5 lw:Nat)(A:Option Addr)(n c:Nat)(W:World)(k:Nat)(la:List Int)(os:List O.Lc)(T:Nat)(last:List Int)(left:List O.Lc)(LA:Option Addr)(lc:Nat):Prop where
 h1:Bk W b1 22 #[.slice A n c]
 h2:Bk W b2 4 #[.bool false]
 h3:Bk W b3 24 (Zag last).toArray
 h4:Bk W b4 25 #[.slice LA left.length lc]
 h5:Bk W b5 3 #[I k]
 row:W.ownsRow lw 45 5 (.slice LA left.length lc) left.length (O.lcs left)
 bound:∀p,LA=some p→p.block<T
 few:left.length≤k
 once:Zgb la os last left
section
variable {b1 b2 b3 b4 b5 lw:Nat} {A:Option Addr} {n c k:Nat} {W W':World} {la:List Int} {os:List O.Lc} {T:Nat} {last:List Int} {left:List O.Lc} {LA:Option Addr} {lc:Nat}
theorem ZeM.below(h:ZeM b1 b2 b3 b4 b5 lw A n c W k la os T last left LA lc)(s:Bw W W'):ZeM b1 b2 b3 b4 b5 lw A n c W' k la os T last left LA lc:=
 ⟨h.h1.below s h.h1.lt,h.h2.below s h.h2.lt,h.h3.below s h.h3.lt,h.h4.below s h.h4.lt,h.h5.below s h.h5.lt,Zai h.row s,h.bound,h.few,h.once⟩
theorem ZeM.rowT(h:ZeM b1 b2 b3 b4 b5 lw A n c W k la os T last left LA lc){g t:Nat}{cs cs':Array Value}(s:Bk W g t cs)(z:t=37∨t=41):ZeM b1 b2 b3 b4 b5 lw A n c (W.setRow g cs') k la os T last left LA lc:=by
 have e:t≠22∧t≠4∧t≠24∧t≠25∧t≠3∧t≠45:=by rcases z with rfl|rfl<;>decide
 exact⟨h.h1.rowFar (h.h1.ne s (Ne.symm e.1)) _,h.h2.rowFar (h.h2.ne s (Ne.symm e.2.1)) _,h.h3.rowFar (h.h3.ne s (Ne.symm e.2.2.1)) _,h.h4.rowFar (h.h4.ne s (Ne.symm e.2.2.2.1)) _,h.h5.rowFar (h.h5.ne s (Ne.symm e.2.2.2.2.1)) _,Zbc h.row s e.2.2.2.2.2 _,h.bound,h.few,h.once⟩
end
end
def ZiA:List EvP:=[ev1,ev2,ev3,ev4,ev5]
theorem ZmY{s C z:Zab}{d:Ad}(E:Zbj (wk0 d) s)(h:ZhB s ZiA 5 C)(G:Zbj C z):z.orders=[oA]:=by
 obtain⟨d0,rfl⟩:=ZiB E
 cases h with
 |succ h hk s5=>
 cases h with
 |succ h hk s4=>
 cases h with
 |succ h hk s3=>
 cases h with
 |succ h hk s2=>
 cases h with
 |succ h hk s1=>
 cases h with
 |zero=>
 obtain⟨d1,rfl⟩:=ZmS s1
 obtain⟨d2,rfl⟩:=ZmT s2
 obtain⟨d3,rfl⟩:=ZmU s3
 obtain⟨d4,rfl⟩:=ZmV s4
 rw[G.orders]
 exact ZmW s5
theorem Zhz(w:World)(ae:Gl w):Calls prog 5 #[] w fun e w'=>e=.returned (.bool true)∧Bw w w':=by
 have ab:=Hi ae
 have X:Hid (Bw w w):=Below.refl _ _
 clear ae
 go_enter func5,ntmps5
 go_wp2_with fail
 refine(Zfn _).mono ?_
 rintro e W1 ⟨rfl,hr,hb⟩
 obtain⟨m,hm⟩:=ExY (Zen w.heap.size)
 rw[←hm] at hr ⊢
 have ah:Hid (∃d,m=wk0 d):=⟨⟨some ⟨w.heap.size+1+1,0,none⟩,some ⟨w.heap.size+1+1+1,0,none⟩,none,1,1,0,⟨some ⟨w.heap.size+1,0,none⟩,1⟩,⟨none,0⟩,⟨none,0⟩,⟨some ⟨w.heap.size+1+1+1+1,0,none⟩,2⟩,⟨none,0⟩,⟨none,0⟩,⟨none,0⟩,⟨none,0⟩⟩,by rw[hm];rfl⟩
 have ai:=Hi hr
 clear hm hr
 have s:m.val=.agg m.ar:=rfl
 rw[s]
 clear s
 have Y:=blT X hb
 clear hb
 dsimp only
 obtain⟨W2,z⟩:=ExY (W1.alloc (.cells #[I 8,I (-1),I 0,I 0,I 0,I 0,I 0,I 0,I 0,I 0,.bool false,.string ⟨#[]⟩,I 7,I 2,I 0,I 0,I 0,I 0,I 0,I 0,I 0,I 1000,.bool false,.string ⟨#[]⟩,I 9,I 0,I 0,I 0,I 0,I 0,I 0,I 0,I 100,I 0,.bool false,.string ⟨#[65]⟩,I 10,I 0,I 0,I 1,I 0,I 0,I 0,I 1,I 0,I 0,.bool false,.string ⟨#[]⟩,I 1,I 2,I 1,I 0,I 0,I 0,I 0,I 50,I 100,I 0,.bool false,.string ⟨#[]⟩] 43))
 obtain⟨be,R⟩:=ExY W1.heap.size
 have J:=blA Y z
 have ad:=bkW z R
 have af:Rd W2 W2.heap.size 12 (some (Aq be 0)) 5 (ZiA.flatMap EvP.cs):=Zhp ad rfl
 have HL:Hid (Calls prog 8 #[.agg m.ar,.slice (some (Aq be 0)) 5 5] W2 (Ze0 m ZiA W2)):=Zld m (some (Aq be 0)) 5 ZiA W2 (by rw[z];exact(ai.below ((Below.refl _ W1).alloc (Nat.le_refl _) _)).mono (by simp)) (ab.below J ab.lt) (by decide) af Zff
 clear af
 go_wp2_with fail
 rw[←z,←R]
 clear z R
 refine(HL.out).mono ?_
 rintro e W3 ⟨hb,m1,mN,m9,rfl,ho,hs,hr,ag⟩
 have L:Hid (m9.orders=[oA]):=by
  obtain⟨d,hd⟩:=ah.out
  exact ZmY (hd▸hs) hr ag
 clear hs hr ag
 have Z:=blT J hb
 clear hb
 have E:=ho.orders
 have G:m9.orders.length=1:=by rw[L.out];rfl
 obtain⟨g,hA,p0,p1,p2,p3,p4⟩:=Zit E rfl (k:=0) (by rw[G];decide)
 have he:m9.orders[0]'(by rw[G];decide)=oA:=by simp[L.out]
 rw[he] at p0 p1 p2 p3 p4
 have HP:Hid (∀U,Bw W3 U→U.cell? (Aq g 0)=some (I 2)∧U.cell? (Aq g 1)=some (I 1)∧U.cell? (Aq g 2)=some (I 0)∧U.cell? (Aq g 3)=some (I 50)∧U.cell? (Aq g 4)=some (I 100)):=fun U hU=>by
  have hl:=(ZaP E _ hA).2
  exact⟨(hU.cell (p:=Aq g 0) hl).trans p0,(hU.cell (p:=Aq g 1) hl).trans p1,(hU.cell (p:=Aq g 2) hl).trans p2,(hU.cell (p:=Aq g 3) hl).trans p3,(hU.cell (p:=Aq g 4) hl).trans p4⟩
 have s:m9.val=.agg #[I m9.day,.slice m9.sCur.A m9.curs.length m9.sCur.c,.slice m9.sUnd.A m9.unders.length m9.sUnd.c,.slice m9.sIns.A m9.instrs.length m9.sIns.c,.slice m9.sAcc.A m9.accts.length m9.sAcc.c,.slice m9.sPos.A m9.poss.length m9.sPos.c,.slice m9.sOrd.A m9.orders.length m9.sOrd.c,.slice m9.sAva.A m9.avail.length m9.sAva.c,.slice m9.sLoc.A m9.locs.length m9.sLoc.c]:=rfl
 rw[s,G,hA]
 clear s E hA p0 p1 p2 p3 p4 he ho G
 dsimp only
 obtain⟨W4,C⟩:=ExY (W3.alloc (.cells (m9.ar_O (.slice (some ⟨g,0,none⟩) 1 m9.sOrd.c)) 37))
 obtain⟨b1,N⟩:=ExY W3.heap.size
 have aa:=blA Z C
 have ac:=bkW C N
 have hp:=HP.out W4 (by rw[C];exact(Below.refl _ _).alloc (Nat.le_refl _) _)
 obtain⟨p0,p1,p2,p3,p4⟩:=hp
 go_upto_region 2 with(fail)
 rw[←C,←N]
 clear C N
 have aj:=ac.nine
 go_wp2
 go_ret
 exact⟨rfl,aa⟩
section
attribute [local go_sem] Oper.semAt_some
theorem Zb4.keepW{w w':World}{lo C z:Nat}{m:Zab}{s:List EvP}{A:Option Addr}{c:Nat}(h:Zb4 w lo C z m s A c)(k:∀g t cs,lo≤g→t≠45→Bk w g t cs→Bk w' g t cs):Zb4 w' lo C z m s A c:=
 ⟨k _ _ _ h.ge.1 (by decide) h.bk,k _ _ _ h.ge.2 (by decide) h.bk2,ZaF h.ev fun p hp=>by
  obtain⟨cs,_,hg,hc⟩:=ZaK h.ev hp
  exact(k _ _ _ hg (by decide) hc:_=_).trans (hc:_=_).symm,h.ge⟩
def Zig(w:World)(e:Ending)(w':World):Prop:=e=.returned (.bool true)∧Bw w w'
theorem ZdK{fn:Func}{p:Tmp}(h:fn.results=#[.cell p 4])(tmps:Array Value)(w:World)(g:Nat)(v:Bool)(C:tmps.getD p undef=Pt g)(z:Bk w g 4 #[.bool v]):(results fn tmps).run prog w=.ok (.bool v) w:=by
 have s:tmps[p]?.getD undef=Pt g:=by simpa using C
 have c2:=Ct z 0 rfl
 try simp only[List.getElem?_toArray,List.getElem?_cons_zero] at c2
 have l2:(loadVar 4 (Aq g 0)).run prog w=.ok (.bool v) w:=by simp[go_sem,c2]
 simp[results,h,s,asAddr,l2]
end
end Go.Proofs.YtdefojlkofnloaaGreatDoor
