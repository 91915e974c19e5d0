/- A part of the proof of CorePositions: for every input, no condition. -/
import Derived.Test.YtdefojlkofnloaaGreatDoorZa06
import Derived.Test.YtdefojlkofnloaaGreatDoorZa08
import Derived.Test.YtdefojlkofnloaaGreatDoorZa15
set_option maxRecDepth 100000
set_option maxHeartbeats 8000000
set_option linter.unusedVariables false
set_option linter.unusedSimpArgs false
namespace Go.Proofs.YtdefojlkofnloaaGreatDoor
open Go.RowKit Go.Proofs.Tryz
theorem Zba{n k:Nat}(h:k<n):n-(intOf (I ((k:Int)+1))).toNat<n-(intOf (I k)).toNat:=by
 simp only[intOf]
 omega
def Zdp(m:Zab)(v:Nat)(a:ZaA):Prop:=a.cash.length≠m.curs.length∨a.last<0∨1099511627776<a.last∨(v≤1∧(a.flag=true∨0<a.last))
instance (m:Zab) (v:Nat) (a:ZaA):Decidable (Zdp m v a):=by unfold Zdp;infer_instance
def ZeU(m:Zab)(v:Nat):Bool := !decide (Zdp m v (m.accts.getD v default)) && !Zfr (fun x => !ZbM x) (m.accts.getD v default).cash
def Zbe(m:Zab):Bool:=decide ((Zct (Zah m.accts)).2=0)&&ZfW (ZeU m) m.accts.length 0
theorem ZgW(m:Zab)(w:World)(hm:Zay w w.heap.size m):
 Calls prog 140 #[m.val] w fun e w'=>e=.returned (.bool (Zbe m))∧Bw w w':=by
 obtain⟨r,hr⟩:=ExY (Zbe m)
 rw[←hr]
 have HM:=Hi hm
 show Calls prog 140 #[.agg #[I m.day,.slice m.sCur.A m.curs.length m.sCur.c,.slice m.sUnd.A m.unders.length m.sUnd.c,.slice m.sIns.A m.instrs.length m.sIns.c,.slice m.sAcc.A m.accts.length m.sAcc.c,.slice m.sPos.A m.poss.length m.sPos.c,.slice m.sOrd.A m.orders.length m.sOrd.c,.slice m.sAva.A m.avail.length m.sAva.c,.slice m.sLoc.A m.locs.length m.sLoc.c]] w _
 obtain⟨aA,am⟩:=ExY m.sAcc.A
 rw[←am]
 have aw:Hid (Rd w w.heap.size 4 aA m.accts.length (m.accts.flatMap ZaA.cs)):=by rw[am];exact HM.accts
 have aD:=Zdl aA m.accts.length m.sAcc.c m.accts
 have az:=Zfk
 unfold Zbe at hr
 obtain⟨ps,R⟩:=ExY (Zah m.accts)
 have aL:ps.length=m.accts.length:=by rw[R];simp[Zah]
 rw[←R] at hr
 have aJ:Hid (∀V,Bw w V→Calls prog 71 #[.slice aA m.accts.length m.sAcc.c] V (Zd8 V ps)):=fun V hV=>by
  rw[R];exact aD V HM.short.2.2.2.1 ((aw.below hV).mono hV.size)
 obtain⟨⟨x,ex⟩,hx⟩:∃y,y=Zct ps:=⟨_,rfl⟩
 have aF:Hid (∀A n c w,n≤maxLen→Rd w w.heap.size 1 A n (Zag ps)→Calls prog 70 #[.slice A n c] w fun e w'=>e=.returned (.tuple #[I x,I ex])∧Bw w w'):=fun A n c w h1 h2=>by
  have:=az A n c ps w h1 h2
  rw[←hx] at this
  exact this
 rw[←hx] at hr
 dsimp only at hr
 have HR:=Hi hr
 clear hr hm am aD az R hx aL
 obtain⟨W1,ad⟩:=ExY (w.alloc (.cells (m.ar_A (.slice aA m.accts.length m.sAcc.c)) 37))
 obtain⟨bl,ao⟩:=ExY w.heap.size
 have ae:=blB ad
 have ag:=bkW ad ao
 go_enter func140,ntmps140
 go_upto_region 1 with(fail)
 rw[←ad,←ao]
 clear ad ao
 have z:=ag.nine
 go_wp2_with fail
 refine(aJ.out W1 ae).mono ?_
 rintro e W2 ⟨pA,pc,rfl,h1,h2,h3,hb⟩
 have aI:Hid (Rd W2 W2.heap.size 1 pA ps.length (Zag ps)):=Rd.of_own h3
 have aH:Hid (ps.length≤maxLen):=Nat.le_trans h1 h2
 clear h1 h2 h3
 have au:=blT ae hb
 have ah:=bkN ag hb
 clear z
 clear hb
 have z:=ah.nine
 go_wp2_with fail
 refine((fun _=>aF.out pA ps.length pc _ aH aI) W2).mono ?_
 rintro e W3 ⟨rfl,hb⟩
 have af:=blT au hb
 have ai:=bkN ah hb
 clear z
 clear hb
 have z:=ai.nine
 by_cases ap:ex=0
 rotate_left
 ·have e0:r=false:=by rw[HR.out,decide_eq_false ap];rfl
  have aN:(ex != 0)=true:=by simpa using ap
  subst e0
  go_wp2
  go_ret
  exact⟨rfl,af⟩
 subst ap
 have aE:r=ZfW (ZeU m) m.accts.length 0:=by rw[HR.out];rfl
 have aK:=Hi aE
 have aG:Hid (Bw w W3∧Bk W3 bl 37 (m.ar_A (.slice aA m.accts.length m.sAcc.c))):=⟨af,ai⟩
 clear aE
 go_upto_region 5 with(fail)
 clear z
 go_loopw [19] (fun v wr=>∃k:Nat,k≤m.accts.length∧v=I k∧Hid (r=ZfW (ZeU m) (m.accts.length-k) k)∧Hid (Bw w wr∧Bk wr bl 37 (m.ar_A (.slice aA m.accts.length m.sAcc.c)))) (fun v _=>m.accts.length-(intOf v).toNat)
 case atStart=>exact⟨0,Nat.zero_le _,rfl,aK,aG⟩
 case round=>
  obtain⟨k,hk,rfl,HK,HW⟩:=hrel
  rename World=>V
  have G:Hid (Bw w V):=HW.1
  have ay:Hid (Bk V bl 37 (m.ar_A (.slice aA m.accts.length m.sAcc.c))):=HW.2
  clear HW
  by_cases aq:k<m.accts.length
  ·obtain⟨q,hq⟩:∃q,m.accts.length-k=q+1:=⟨m.accts.length-k-1,by omega⟩
   have hr:=HK.out
   rw[hq,ZfW,show q=m.accts.length-(k+1) by omega] at hr
   have aj:m.accts.getD k default=m.accts[k]:=by simp[aq]
   have aC:ZeU m k=(!decide (Zdp m k m.accts[k]) && !Zfr (fun x => !ZbM x) m.accts[k].cash):=by unfold ZeU;rw[aj]
   rw[aC] at hr
   obtain⟨a,rfl,_,c0,c1,c2,c3⟩:=ZeT (aw.below G) aq
   have E:=(HM.below G).cash m.accts[k] (List.getElem_mem _)
   obtain⟨⟨pp,pA,pc,s,pf,pl⟩,hx⟩:∃x,x=m.accts[k]:=⟨_,rfl⟩
   rw[←hx] at c0 c1 c2 c3 hr E
   dsimp only at c0 c1 c2 c3 hr E
   have ak:Hid (∀V',Bw V V'→Calls prog 174 #[.slice pA s.length pc,.func (.func 175) #[] #[]] V' fun e w'=>e=.returned (.bool (Zfr (fun x => !ZbM x) s))∧Below V'.heap.size V' w'):=
    fun V' hV=>ZlY pA s.length pc s (fun x => !ZbM x) V' (ZbR E.2) rfl (((E.1.mono G.size).below hV).mono hV.size) (fun x V2 _ _=>ZfH x V2)
   obtain⟨h,hh⟩:=ExY (Zfr (fun x => !ZbM x) s)
   rw[←hh] at hr ak
   have X:=Hi hr
   clear hx hr aC hq HK aj hh E
   have U:=Hi aq
   have wk:wrap64 ((k:Int)+1)=(k:Int)+1:=by have:=HM.short.2.2.2.1;unfold wrap64;omega
   have i7:(0:Int)≤(k:Int):=by omega
   have i8:(k:Int)<(m.accts.length:Int):=by omega
   obtain⟨W6,Y⟩:=ExY (V.alloc (.cells #[I pp,.slice pA s.length pc,.bool pf,I pl] 59))
   obtain⟨ba,an⟩:=ExY V.heap.size
   have C:=blA G Y
   have ab:Hid (Bk W6 bl 37 (m.ar_A (.slice (some a) m.accts.length m.sAcc.c))):=bkA ay Y
   have Z:=bkW Y an
   have ax:Hid (Bw V W6):=by rw[Y];exact(Below.refl _ _).alloc (Nat.le_refl _) _
   go_upto_region 7 with(fail)
   rw[←Y,←an]
   clear Y an
   clear c0 c1 c2 c3
   have z:=ab.nine
   have N:=Z.four
   by_cases e1:s.length=m.curs.length
   rotate_left
   ·have b1:((s.length:Int) != (m.curs.length:Int))=true:=by rw[bne_iff_ne];omega
    have e0:r=false:=by rw[X.out,decide_eq_true (show Zdp m k ⟨pp,pA,pc,s,pf,pl⟩ from .inl e1)];rfl
    subst e0
    go_wp2
    go_ret
    exact⟨rfl,C⟩
   have b1:((s.length:Int) != (m.curs.length:Int))=false:=by rw[e1];simp
   have E1:=Hi e1
   clear e1
   by_cases e2:pl<0
   ·have e0:r=false:=by rw[X.out,decide_eq_true (show Zdp m k ⟨pp,pA,pc,s,pf,pl⟩ from .inr (.inl e2))];rfl
    subst e0
    go_wp2
    go_ret
    exact⟨rfl,C⟩
   by_cases e3:1099511627776<pl
   ·have e0:r=false:=by rw[X.out,decide_eq_true (show Zdp m k ⟨pp,pA,pc,s,pf,pl⟩ from .inr (.inr (.inl e3)))];rfl
    subst e0
    go_wp2
    go_ret
    exact⟨rfl,C⟩
   by_cases e4:k≤1∧(pf=true∨0<pl)
   ·have j1:(k:Int)≤1:=by omega
    cases pf with
    |true=>
     have e0:r=false:=by rw[X.out,decide_eq_true (show Zdp m k ⟨pp,pA,pc,s,true,pl⟩ from .inr (.inr (.inr e4)))];rfl
     subst e0
     go_wp2
     go_ret
     exact⟨rfl,C⟩
    |false=>
     have j2:0<pl:=by rcases e4.2 with h|h;(cases h);exact h
     have e0:r=false:=by rw[X.out,decide_eq_true (show Zdp m k ⟨pp,pA,pc,s,false,pl⟩ from .inr (.inr (.inr e4)))];rfl
     subst e0
     go_wp2
     go_ret
     exact⟨rfl,C⟩
   have hr:r=(!h&&ZfW (ZeU m) (m.accts.length-(k+1)) (k+1)):=by
    rw[X.out,decide_eq_false (show ¬Zdp m k ⟨pp,pA,pc,s,pf,pl⟩ from fun hb=>by
     rcases hb with hb|hb|hb|hb
     ·exact hb E1
     ·exact e2 hb
     ·exact e3 hb
     ·exact e4 hb)]
    rfl
   have ac:=Hi hr
   clear hr
   by_cases j1:k≤1
   ·have aM:(k:Int)≤1:=by omega
    have j3:¬(0<pl):=fun h=>e4 ⟨j1,.inr h⟩
    have j4:pf=false:=by
     cases pf with
     |false=>rfl
     |true=>exact absurd ⟨j1,.inl rfl⟩ e4
    subst j4
    clear e4
    go_wp2_with fail
    refine((fun _=>ak.out _ ax) W6).mono ?_
    rintro e W7 ⟨rfl,hb⟩
    have J:=blT C hb
    have L:=bkN ab hb
    have aa:Hid (Bk W7 ba 59 #[I pp,.slice pA s.length pc,.bool false,I pl]):=bkN Z hb
    clear z N
    clear hb
    have z:=L.nine
    have N:=aa.four
    cases h with
    |true=>
     have e0:r=false:=by rw[ac.out];rfl
     subst e0
     go_wp2
     go_ret
     exact⟨rfl,J⟩
    |false=>
     have hr:r=ZfW (ZeU m) (m.accts.length-(k+1)) (k+1):=by rw[ac.out];rfl
     have al:=Hi hr
     clear hr
     go_wp2
     go_roundw
     case rel=>exact⟨k+1,by have:=U.out;omega,by go_num,al,⟨J,L⟩⟩
     case measure=>
      first
       |exact Zba U
       |(rw[wk];exact Zba U)
   ·have aM:¬((k:Int)≤1):=by omega
    clear e4
    go_wp2_with fail
    refine((fun _=>ak.out _ ax) W6).mono ?_
    rintro e W7 ⟨rfl,hb⟩
    have J:=blT C hb
    have L:=bkN ab hb
    have aa:=bkN Z hb
    clear z N
    clear hb
    have z:=L.nine
    have N:=aa.four
    cases h with
    |true=>
     have e0:r=false:=by rw[ac.out];rfl
     subst e0
     go_wp2
     go_ret
     exact⟨rfl,J⟩
    |false=>
     have hr:r=ZfW (ZeU m) (m.accts.length-(k+1)) (k+1):=by rw[ac.out];rfl
     have al:=Hi hr
     clear hr
     go_wp2
     go_roundw
     case rel=>exact⟨k+1,by have:=U.out;omega,by go_num,al,⟨J,L⟩⟩
     case measure=>
      first
       |exact Zba U
       |(rw[wk];exact Zba U)
  ·have aB:k=m.accts.length:=by omega
   have e0:r=true:=by rw[HK.out,aB,Nat.sub_self];rfl
   subst aB
   subst e0
   go_wp2
   go_ret
   exact⟨rfl,G⟩
def Zfv(m:Zab)(o:O.Lc):Bool:=decide ((m.accts.getD o.acct.toNat default).last<o.id)
def Za2(m:Zab):Bool:=
 if m.day<0∨100000<m.day then false
 else Zcp m&&(Zbe m&&(P.goodB m.accts.length m.instrs.length m.poss&&(O.goodB m.accts.length m.instrs.length m.orders &&
  (L.goodB m.avail m.locs m.accts.length m.instrs.length && !Zfr (Zfv m) m.orders))))
theorem Zlm{s z:Int}{l:List O.Lc}(h:O.goodB s z l=true):∀o∈l,0≤o.acct∧o.acct<s:=by
 intro o ho
 unfold O.goodB at h
 simp only[Bool.and_eq_true,List.all_eq_true] at h
 have:=h.2.2 o ho
 unfold O.okB at this
 have:=of_decide_eq_true this
 omega
theorem good_any(m:Zab)(w:World)(C:Zay w w.heap.size m):
 Calls prog 103 #[m.val] w fun e w'=>e=.returned (.bool (Za2 m))∧Bw w w':=by
 have ax:∀(fn:Fn) (first cap:Array Value) (w:World),(Instr.makeFunc fn first cap).run prog w=.ok (.func fn first cap) w:=fun _ _ _ _=>rfl
 obtain⟨r,hr⟩:=ExY (Za2 m)
 rw[←hr]
 unfold Za2 at hr
 have HT:Hid (∀V,Bw w V→Calls prog 139 #[.agg m.ar] V fun e w'=>e=.returned (.bool (Zcp m))∧Bw V w'):=fun V hV=>Zjj m V ((C.below hV).mono hV.size)
 have HA:Hid (∀V,Bw w V→Calls prog 140 #[.agg m.ar] V fun e w'=>e=.returned (.bool (Zbe m))∧Bw V w'):=fun V hV=>ZgW m V ((C.below hV).mono hV.size)
 have HP:Hid (∀V,Bw w V→Calls prog 141 #[.slice m.sPos.A m.poss.length m.sPos.c,I m.accts.length,I m.instrs.length] V fun e w'=>e=.returned (.bool (P.goodB m.accts.length m.instrs.length m.poss))∧Bw V w'):=fun V hV=>P.good_any _ _ _ m.poss _ _ V (ZbR C.short.2.2.2.2.1) ((C.poss.below hV).mono hV.size)
 have HO:Hid (∀V,Bw w V→Calls prog 142 #[.slice m.sOrd.A m.orders.length m.sOrd.c,I m.accts.length,I m.instrs.length] V fun e w'=>e=.returned (.bool (O.goodB m.accts.length m.instrs.length m.orders))∧Bw V w'):=fun V hV=>O.good_any _ _ _ m.orders _ _ V (ZbR C.short.2.2.2.2.2.1) ((C.orders.below hV).mono hV.size)
 have HL:Hid (∀V,Bw w V→Calls prog 143 #[.slice m.sAva.A m.avail.length m.sAva.c,.slice m.sLoc.A m.locs.length m.sLoc.c,I m.accts.length,I m.instrs.length] V fun e w'=>e=.returned (.bool (L.goodB m.avail m.locs m.accts.length m.instrs.length))∧Bw V w'):=fun V hV=>L.good_any _ _ _ _ _ _ m.avail m.locs _ _ V (ZbR C.short.2.2.2.2.2.2.1) (ZbR C.short.2.2.2.2.2.2.2) ((C.avail.below hV).mono hV.size) ((C.locs.below hV).mono hV.size)
 have ah:Hid (∀bl V,O.goodB m.accts.length m.instrs.length m.orders=true→Bw w V→Bk V bl 37 m.cs.toArray→Calls prog 144 #[.slice m.sOrd.A m.orders.length m.sOrd.c,.func (.func 145) #[] #[Pt bl]] V fun e w'=>e=.returned (.bool (Zfr (Zfv m) m.orders))∧Bw V w'):=
  fun bl V hg hV hb=>ZlZ _ _ _ m.orders (Zfv m) (Pt bl) V (ZbR C.short.2.2.2.2.2.1) rfl ((C.orders.below hV).mono hV.size) (fun o V' ho ai=>Zle o m bl V' (Zlm hg o ho) (hb.below ai hb.lt) (((C.accts.below hV).below (ai.mono hV.size)).mono (Nat.le_trans hV.size ai.size)))
 have e0:m.cs.toArray=m.ar:=rfl
 obtain⟨b1,aj⟩:=ExY (Zcp m)
 obtain⟨b2,ak⟩:=ExY (Zbe m)
 obtain⟨b3,al⟩:=ExY (P.goodB m.accts.length m.instrs.length m.poss)
 obtain⟨b4,am⟩:=ExY (O.goodB m.accts.length m.instrs.length m.orders)
 obtain⟨b5,an⟩:=ExY (L.goodB m.avail m.locs m.accts.length m.instrs.length)
 obtain⟨b6,ao⟩:=ExY (Zfr (Zfv m) m.orders)
 rw[←aj,←ak,←al,←am,←an,←ao] at hr
 rw[←aj] at HT
 rw[←ak] at HA
 rw[←al] at HP
 rw[←am] at HO ah
 rw[←an] at HL
 rw[←ao,e0] at ah
 have HR:=Hi hr
 show Calls prog 103 #[.agg m.ar] w _
 clear C hr aj ak al am an ao e0
 obtain⟨W1,X⟩:=ExY (w.alloc (.cells m.ar 37))
 obtain⟨bl,ap⟩:=ExY w.heap.size
 have z:=blB X
 have ab:=bkW X ap
 go_enter func103,ntmps103
 go_upto_region 1 with(fail)
 rw[←X,←ap]
 clear X ap
 have s:=ab.nine
 by_cases d1:m.day<0
 ·have e0:r=false:=by rw[HR.out,if_pos (.inl d1)]
  subst e0
  go_wp2
  go_ret
  exact⟨rfl,z⟩
 by_cases d2:100000<m.day
 ·have e0:r=false:=by rw[HR.out,if_pos (.inr d2)]
  subst e0
  go_wp2
  go_ret
  exact⟨rfl,z⟩
 have aq:=HR.out
 rw[if_neg (by omega)] at aq
 have E:=Hi aq
 clear aq
 go_wp2_with fail
 refine((fun _=>HT.out _ z) W1).mono ?_
 rintro e W2 ⟨rfl,hb⟩
 have G:=blT z hb
 have ac:=bkN ab hb
 clear s
 clear hb
 have s:=ac.nine
 cases b1 with
 |false=>
  have e0:r=false:=by rw[E.out];rfl
  subst e0
  go_wp2
  go_ret
  exact⟨rfl,G⟩
 |true=>
 go_wp2_with fail
 refine((fun _=>HA.out _ G) W2).mono ?_
 rintro e W3 ⟨rfl,hb⟩
 have Z:=blT G hb
 have ad:=bkN ac hb
 clear s
 clear hb
 have s:=ad.nine
 cases b2 with
 |false=>
  have e0:r=false:=by rw[E.out];rfl
  subst e0
  go_wp2
  go_ret
  exact⟨rfl,Z⟩
 |true=>
 go_upto_region 3 with(fail)
 go_quiet (fail)
 obtain⟨W4,Y⟩:=ExY (W3.drewN nq)
 rw[←Y]
 have aa:Hid (Bw w W4):=by rw[Y];exact Below.drewN' Z _
 have ae:Hid (Bk W4 bl 37 m.ar):=by rw[Y];exact ad.drewN _
 clear s
 clear Y
 have s:=ae.nine
 go_wp2_with fail
 refine((fun _=>HP.out _ aa) W4).mono ?_
 rintro e W5 ⟨rfl,hb⟩
 have J:=blT aa hb
 have af:=bkN ae hb
 clear s
 clear hb
 have s:=af.nine
 cases b3 with
 |false=>
  have e0:r=false:=by rw[E.out];rfl
  subst e0
  go_wp2
  go_ret
  exact⟨rfl,J⟩
 |true=>
 go_wp2_with fail
 refine((fun _=>HO.out _ J) W5).mono ?_
 rintro e W6 ⟨rfl,hb⟩
 have N:=blT J hb
 have ag:=bkN af hb
 clear s
 clear hb
 have s:=ag.nine
 cases b4 with
 |false=>
  have e0:r=false:=by rw[E.out];rfl
  subst e0
  go_wp2
  go_ret
  exact⟨rfl,N⟩
 |true=>
 go_wp2_with fail
 refine((fun _=>HL.out _ N) W6).mono ?_
 rintro e W7 ⟨rfl,hb⟩
 have R:=blT N hb
 have U:=bkN ag hb
 clear s
 clear hb
 have s:=U.nine
 cases b5 with
 |false=>
  have e0:r=false:=by rw[E.out];rfl
  subst e0
  go_wp2
  go_ret
  exact⟨rfl,R⟩
 |true=>
 go_wp2_with fail
 refine((fun _=>ah.out bl _ (by trivial) R U) W7).mono ?_
 rintro e W8 ⟨rfl,hb⟩
 have au:=blT R hb
 have aw:=bkN U hb
 clear s
 clear hb
 have s:=aw.nine
 go_wp2
 go_ret
 exact⟨by rw[E.out];rfl,au⟩
theorem ZlH:(prog.info? 57).map (fun i=>(i.zero,i.size,i.bytes))=some (some (.agg #[I 0,I 0]),2,16):=by kernel_rfl
theorem ZiQ(A:Option Addr)(n c:Nat)(xs:List Value)(w:World)(E:∀u∈xs,u.oneCell'=true)(Z:n*16≤140737488355328)(L:Rd w w.heap.size 2 A n xs):
 Calls prog 12 #[.slice A n c] w fun r w'=>∃A' c',r=.returned (.slice A' n c')∧n≤c'∧c'≤maxLen∧w'.ownsRow w.heap.size 57 2 (.slice A' n c') n xs∧Bw w w':=by
 have hk:=fun W=>Lib.run_eql_slice_nil (P:=prog) W 29 57 A n c 0 0 underlying29
 obtain⟨i0,hi,C⟩:=Option.map_eq_some_iff.1 ZlH
 simp only[Prod.mk.injEq] at C
 obtain⟨R,U,X⟩:=C
 rcases A with _|a
 ·have h0:n=0:=by
   rcases Nat.eq_zero_or_pos n with h0|h0
   ·exact h0
   ·obtain⟨_,h,_⟩:=L.2 h0
    cases h
  subst h0
  have hs:xs=[]:=List.eq_nil_of_length_eq_zero (by simpa using L.1)
  subst hs
  go_enter func12,ntmps12
  go_wp2
  go_ret
  exact⟨none,0,rfl,Nat.le_refl _,Nat.zero_le _,World.ownsRow_nil _ _ _ _,Below.refl _ _⟩
 ·have z:(w.alloc (.cells #[] 57)).ownsRow w.heap.size 57 2 (.slice (some ⟨w.heap.size,0,none⟩) 0 0) 0 []:=⟨by simp,.inr ⟨w.heap.size,0,#[],rfl,Nat.le_refl _,Bk.new _ _ _,Nat.le_refl _,Nat.zero_le _,by simp,by simp⟩⟩
  have N:Rd (w.alloc (.cells #[] 57)) w.heap.size 2 (some a) n xs:=L.alloc (Nat.le_refl _) _
  go_enter func12,ntmps12
  go_wp2_with (at_builtin;go_must (refine Zan _ rfl (.tmp 5) (.tmp 6) _ rfl w.heap.size 57 i0 _ 2 16 underlying29 hi R U X rfl (by omega) _ 0 [] rfl z w.heap.size (some a) n c _ rfl N E (by simp only[maxLen];omega) (by omega) (by simp) ?_);intro A1 c1 w1 h1 h2 s G Y)
  go_ret
  refine⟨A1,c1,by simp,by omega,h2,by simpa using s,((Below.refl w.heap.size w).alloc (Nat.le_refl _) _).grown G (by simp) ?_⟩
  intro k J
  exact Nat.le_of_eq (Option.some.inj J)
theorem ZlJ:(prog.info? 63).map (fun i=>(i.zero,i.size,i.bytes))=some (some (.agg #[.string ⟨#[]⟩,I 0,I 0,I 0]),4,40):=by kernel_rfl
theorem ZiS(A:Option Addr)(n c:Nat)(xs:List Value)(w:World)(E:∀u∈xs,u.oneCell'=true)(Z:n*40≤140737488355328)(L:Rd w w.heap.size 4 A n xs):
 Calls prog 13 #[.slice A n c] w fun r w'=>∃A' c',r=.returned (.slice A' n c')∧n≤c'∧c'≤maxLen∧w'.ownsRow w.heap.size 63 4 (.slice A' n c') n xs∧Bw w w':=by
 have hk:=fun W=>Lib.run_eql_slice_nil (P:=prog) W 30 63 A n c 0 0 underlying30
 obtain⟨i0,hi,C⟩:=Option.map_eq_some_iff.1 ZlJ
 simp only[Prod.mk.injEq] at C
 obtain⟨R,U,X⟩:=C
 rcases A with _|a
 ·have h0:n=0:=by
   rcases Nat.eq_zero_or_pos n with h0|h0
   ·exact h0
   ·obtain⟨_,h,_⟩:=L.2 h0
    cases h
  subst h0
  have hs:xs=[]:=List.eq_nil_of_length_eq_zero (by simpa using L.1)
  subst hs
  go_enter func13,ntmps13
  go_wp2
  go_ret
  exact⟨none,0,rfl,Nat.le_refl _,Nat.zero_le _,World.ownsRow_nil _ _ _ _,Below.refl _ _⟩
 ·have z:(w.alloc (.cells #[] 63)).ownsRow w.heap.size 63 4 (.slice (some ⟨w.heap.size,0,none⟩) 0 0) 0 []:=⟨by simp,.inr ⟨w.heap.size,0,#[],rfl,Nat.le_refl _,Bk.new _ _ _,Nat.le_refl _,Nat.zero_le _,by simp,by simp⟩⟩
  have N:Rd (w.alloc (.cells #[] 63)) w.heap.size 4 (some a) n xs:=L.alloc (Nat.le_refl _) _
  go_enter func13,ntmps13
  go_wp2_with (at_builtin;go_must (refine Zan _ rfl (.tmp 5) (.tmp 6) _ rfl w.heap.size 63 i0 _ 4 40 underlying30 hi R U X rfl (by omega) _ 0 [] rfl z w.heap.size (some a) n c _ rfl N E (by simp only[maxLen];omega) (by omega) (by simp) ?_);intro A1 c1 w1 h1 h2 s G Y)
  go_ret
  refine⟨A1,c1,by simp,by omega,h2,by simpa using s,((Below.refl w.heap.size w).alloc (Nat.le_refl _) _).grown G (by simp) ?_⟩
  intro k J
  exact Nat.le_of_eq (Option.some.inj J)
theorem ZjS:(prog.info? 66).map (fun i=>(i.zero,i.size,i.bytes))=some (some (.agg #[I 0,I 0,I 0,I 0,I 0,.bool false,I 0]),7,56):=by kernel_rfl
theorem ZiR(A:Option Addr)(n c:Nat)(xs:List Value)(w:World)(E:∀u∈xs,u.oneCell'=true)(Z:n*56≤140737488355328)(L:Rd w w.heap.size 7 A n xs):
 Calls prog 14 #[.slice A n c] w fun r w'=>∃A' c',r=.returned (.slice A' n c')∧n≤c'∧c'≤maxLen∧w'.ownsRow w.heap.size 66 7 (.slice A' n c') n xs∧Bw w w':=by
 have hk:=fun W=>Lib.run_eql_slice_nil (P:=prog) W 31 66 A n c 0 0 underlying31
 obtain⟨i0,hi,C⟩:=Option.map_eq_some_iff.1 ZjS
 simp only[Prod.mk.injEq] at C
 obtain⟨R,U,X⟩:=C
 rcases A with _|a
 ·have h0:n=0:=by
   rcases Nat.eq_zero_or_pos n with h0|h0
   ·exact h0
   ·obtain⟨_,h,_⟩:=L.2 h0
    cases h
  subst h0
  have hs:xs=[]:=List.eq_nil_of_length_eq_zero (by simpa using L.1)
  subst hs
  go_enter func14,ntmps14
  go_wp2
  go_ret
  exact⟨none,0,rfl,Nat.le_refl _,Nat.zero_le _,World.ownsRow_nil _ _ _ _,Below.refl _ _⟩
 ·have z:(w.alloc (.cells #[] 66)).ownsRow w.heap.size 66 7 (.slice (some ⟨w.heap.size,0,none⟩) 0 0) 0 []:=⟨by simp,.inr ⟨w.heap.size,0,#[],rfl,Nat.le_refl _,Bk.new _ _ _,Nat.le_refl _,Nat.zero_le _,by simp,by simp⟩⟩
  have N:Rd (w.alloc (.cells #[] 66)) w.heap.size 7 (some a) n xs:=L.alloc (Nat.le_refl _) _
  go_enter func14,ntmps14
  go_wp2_with (at_builtin;go_must (refine Zan _ rfl (.tmp 5) (.tmp 6) _ rfl w.heap.size 66 i0 _ 7 56 underlying31 hi R U X rfl (by omega) _ 0 [] rfl z w.heap.size (some a) n c _ rfl N E (by simp only[maxLen];omega) (by omega) (by simp) ?_);intro A1 c1 w1 h1 h2 s G Y)
  go_ret
  refine⟨A1,c1,by simp,by omega,h2,by simpa using s,((Below.refl w.heap.size w).alloc (Nat.le_refl _) _).grown G (by simp) ?_⟩
  intro k J
  exact Nat.le_of_eq (Option.some.inj J)
theorem ZlI:(prog.info? 59).map (fun i=>(i.zero,i.size,i.bytes))=some (some (.agg #[I 0,.slice none 0 0,.bool false,I 0]),4,48):=by kernel_rfl
theorem ZiP(A:Option Addr)(n c:Nat)(xs:List Value)(w:World)(E:∀u∈xs,u.oneCell'=true)(Z:n*48≤140737488355328)(L:Rd w w.heap.size 4 A n xs):
 Calls prog 15 #[.slice A n c] w fun r w'=>∃A' c',r=.returned (.slice A' n c')∧n≤c'∧c'≤maxLen∧w'.ownsRow w.heap.size 59 4 (.slice A' n c') n xs∧Bw w w':=by
 have hk:=fun W=>Lib.run_eql_slice_nil (P:=prog) W 32 59 A n c 0 0 underlying32
 obtain⟨i0,hi,C⟩:=Option.map_eq_some_iff.1 ZlI
 simp only[Prod.mk.injEq] at C
 obtain⟨R,U,X⟩:=C
 rcases A with _|a
 ·have h0:n=0:=by
   rcases Nat.eq_zero_or_pos n with h0|h0
   ·exact h0
   ·obtain⟨_,h,_⟩:=L.2 h0
    cases h
  subst h0
  have hs:xs=[]:=List.eq_nil_of_length_eq_zero (by simpa using L.1)
  subst hs
  go_enter func15,ntmps15
  go_wp2
  go_ret
  exact⟨none,0,rfl,Nat.le_refl _,Nat.zero_le _,World.ownsRow_nil _ _ _ _,Below.refl _ _⟩
 ·have z:(w.alloc (.cells #[] 59)).ownsRow w.heap.size 59 4 (.slice (some ⟨w.heap.size,0,none⟩) 0 0) 0 []:=⟨by simp,.inr ⟨w.heap.size,0,#[],rfl,Nat.le_refl _,Bk.new _ _ _,Nat.le_refl _,Nat.zero_le _,by simp,by simp⟩⟩
  have N:Rd (w.alloc (.cells #[] 59)) w.heap.size 4 (some a) n xs:=L.alloc (Nat.le_refl _) _
  go_enter func15,ntmps15
  go_wp2_with (at_builtin;go_must (refine Zan _ rfl (.tmp 5) (.tmp 6) _ rfl w.heap.size 59 i0 _ 4 48 underlying32 hi R U X rfl (by omega) _ 0 [] rfl z w.heap.size (some a) n c _ rfl N E (by simp only[maxLen];omega) (by omega) (by simp) ?_);intro A1 c1 w1 h1 h2 s G Y)
  go_ret
  refine⟨A1,c1,by simp,by omega,h2,by simpa using s,((Below.refl w.heap.size w).alloc (Nat.le_refl _) _).grown G (by simp) ?_⟩
  intro k J
  exact Nat.le_of_eq (Option.some.inj J)
theorem ZbZ(w:World):Calls prog 51 #[I 0] w fun e w'=>e=.returned (.tuple #[])∧w'=w:=by
 go_enter func51,ntmps51
 go_wp2
 exact⟨rfl,_,results_none rfl _ _ _,rfl,rfl⟩
theorem ZbJ(er:Int)(h:er≠0)(w:World):Calls prog 51 #[I er] w fun e w'=>e=.panicked [{v:=.iface 144 (.agg #[I er]),recovered:=false}]∧w'=w:=by
 have b:(er != 0)=true:=by simpa using h
 go_enter func51,ntmps51
 go_wp2
 exact⟨rfl,rfl,rfl⟩
theorem Za0(er:Int)(w:World):Calls prog 54 #[.bool true,I er] w fun e w'=>e=.returned (.tuple #[])∧w'=w:=by
 go_enter func54,ntmps54
 go_wp2
 exact⟨rfl,_,results_none rfl _ _ _,rfl,rfl⟩
theorem Zav(er:Int)(w:World):Calls prog 54 #[.bool false,I er] w fun e w'=>e=.panicked [{v:=.iface 144 (.agg #[I er]),recovered:=false}]∧w'=w:=by
 go_enter func54,ntmps54
 go_wp2
 exact⟨rfl,rfl,rfl⟩
theorem Zda(w:World):Calls prog 68 #[I 0] w fun e w'=>e=.returned (.tuple #[])∧w'=w:=by
 go_enter func68,ntmps68
 go_wp2
 exact⟨rfl,_,results_none rfl _ _ _,rfl,rfl⟩
theorem ZcJ(er:Int)(h:er≠0)(w:World):Calls prog 68 #[I er] w fun e w'=>e=.panicked [{v:=.iface 164 (.agg #[I er]),recovered:=false}]∧w'=w:=by
 have b:(er != 0)=true:=by simpa using h
 go_enter func68,ntmps68
 go_wp2
 exact⟨rfl,rfl,rfl⟩
theorem ZaV(er:Int)(w:World):Calls prog 62 #[.bool true,I er] w fun e w'=>e=.returned (.tuple #[])∧w'=w:=by
 go_enter func62,ntmps62
 go_wp2
 exact⟨rfl,_,results_none rfl _ _ _,rfl,rfl⟩
theorem Zat(er:Int)(w:World):Calls prog 62 #[.bool false,I er] w fun e w'=>e=.panicked [{v:=.iface 164 (.agg #[I er]),recovered:=false}]∧w'=w:=by
 go_enter func62,ntmps62
 go_wp2
 exact⟨rfl,rfl,rfl⟩
theorem Zfw(w:World):Calls prog 136 #[I 0] w fun e w'=>e=.returned (.tuple #[])∧w'=w:=by
 go_enter func136,ntmps136
 go_wp2
 exact⟨rfl,_,results_none rfl _ _ _,rfl,rfl⟩
theorem ZeF(er:Int)(h:er≠0)(w:World):Calls prog 136 #[I er] w fun e w'=>e=.panicked [{v:=.iface 181 (.agg #[I er]),recovered:=false}]∧w'=w:=by
 have b:(er != 0)=true:=by simpa using h
 go_enter func136,ntmps136
 go_wp2
 exact⟨rfl,rfl,rfl⟩
theorem Za7(er:Int)(w:World):Calls prog 85 #[.bool true,I er] w fun e w'=>e=.returned (.tuple #[])∧w'=w:=by
 go_enter func85,ntmps85
 go_wp2
 exact⟨rfl,_,results_none rfl _ _ _,rfl,rfl⟩
theorem Zau(er:Int)(w:World):Calls prog 85 #[.bool false,I er] w fun e w'=>e=.panicked [{v:=.iface 181 (.agg #[I er]),recovered:=false}]∧w'=w:=by
 go_enter func85,ntmps85
 go_wp2
 exact⟨rfl,rfl,rfl⟩
theorem ZjZ(x:Int)(w:World):Calls prog 87 #[I x,I 0] w fun e w'=>e=.returned (I x)∧w'=w:=by
 have HF:=Hi (Zfw w)
 go_enter func87,ntmps87
 go_wp2_with fail
 refine HF.mono ?_
 rintro e w' ⟨rfl,s⟩
 rw[s]
 clear s w'
 go_wp2
 go_ret
 exact⟨rfl,rfl⟩
theorem Zi0(x er:Int)(h:er≠0)(w:World):Calls prog 87 #[I x,I er] w fun e w'=>e=.panicked [{v:=.iface 181 (.agg #[I er]),recovered:=false}]∧w'=w:=by
 have HF:=Hi (ZeF er h w)
 go_enter func87,ntmps87
 go_wp2_with fail
 refine HF.mono ?_
 rintro e w' ⟨rfl,s⟩
 rw[s]
 clear s w'
 exact⟨rfl,rfl,rfl⟩
theorem Zhj(p q s:Addr)(w:World):
 CallsD prog 102 #[.pointer (some p),.pointer (some q),.pointer (some s)] .returning w fun e u' w'=>e=.returned (.tuple #[])∧u'=.returning∧w'=w:=by
 have hq:∀w:World,(binOp BinOp.eql 20 .nilIface .nilIface).run prog w=.ok (.bool true) w:=fun _=>by kernel_rfl
 refine callsD_of_wpS func102 rfl fun c₀ cs hu=>?_
 apply wpS_seq
 apply wpS_region
 simp[wpOpsS,go_sem,recoverD,hu,ntmps102,Exit.thenS]
 refine wpS_of_wp ?_
 go_wp2
 cases c₀
 simp_all [bodyPostS,results,results102]
theorem Zhk(B L C z:Nat)(er x u:Int)(cs9:Array Value)(h9:cs9.size=9)(N:List PanicEntry)(w:World)(hB:B≤w.heap.size)(h1:Bk w L 37 cs9)(h2:Bk w C 3 #[I x])(h3:Bk w z 39 #[I u])(g1:B≤L)(g2:B≤C)(g3:B≤z):
 CallsD prog 102 #[Pt L,Pt C,Pt z] (.panicking ({v:=.iface 144 (.agg #[I er]),recovered:=false}::N)) w fun e u' w'=>
  e=.returned (.tuple #[])∧u'=.panicking ({v:=.iface 144 (.agg #[I er]),recovered:=true}::N) ∧
  Below B w w'∧Bk w' L 37 zZ∧Bk w' C 3 #[I 0]∧Bk w' z 39 #[I er]:=by
 have hq:∀w:World,(binOp BinOp.eql 20 (.iface 144 (.agg #[I er])) .nilIface).run prog w=.ok (.bool false) w:=fun _=>by kernel_rfl
 have ad:∀(w:World) (v:Value),(Instr.typeAssert (.iface 144 v) 20 144 true).run prog w=.ok (.tuple #[v,.bool true]) w:=fun _ _=>by kernel_rfl
 refine callsD_of_wpS func102 rfl fun c₀ cs hu=>?_
 apply wpS_seq
 apply wpS_region
 simp[wpOpsS,go_sem,recoverD,hu,ntmps102,Exit.thenS]
 refine wpS_of_wp ?_
 obtain⟨W1,E⟩:=ExY (w.alloc (.cells #[I er] 144))
 obtain⟨bs,X⟩:=ExY w.heap.size
 have R:Bk W1 bs 144 #[I er]:=by rw[E,X];exact Bk.new _ _ _
 have k1:Bk W1 L 37 cs9:=by rw[E];exact h1.alloc _
 have k2:Bk W1 C 3 #[I x]:=by rw[E];exact h2.alloc _
 have k3:Bk W1 z 39 #[I u]:=by rw[E];exact h3.alloc _
 have kb:Below B w W1:=by rw[E];exact(Below.refl _ _).alloc hB _
 have n1:bs≠L:=R.ne k1 (by decide)
 have n2:bs≠C:=R.ne k2 (by decide)
 have n3:C≠L:=k2.ne k1 (by decide)
 have n4:z≠L:=k3.ne k1 (by decide)
 have n5:z≠C:=k3.ne k2 (by decide)
 have Y:=Hi R
 have Z:=Hi k1
 have aa:=Hi k2
 have ac:=Hi k3
 have KB:=Hi kb
 have N1:=Hi n1
 have N2:=Hi n2
 have N3:=Hi n3
 have N4:=Hi n4
 have N5:=Hi n5
 have zs:cs9.size=(zZ:Array Value).size:=h9
 have ZS:=Hi zs
 clear h1 h2 h3 R k1 k2 k3 kb n1 n2 n3 n4 n5 zs h9
 have ef:(#[Pt L,Pt C,Pt z]++(Array.replicate 12 undef).setIfInBounds 3 (.iface 144 (.agg #[I er])):Array Value)=#[Pt L,Pt C,Pt z,undef,undef,undef,.iface 144 (.agg #[I er]),undef,undef,undef,undef,undef,undef,undef,undef]:=rfl
 rw[ef]
 clear ef
 go_upto_region 7 with(fail)
 rw[←E,←X]
 clear E X
 refine wp_region_held_drew (S:=(fun V=>V.cell? (Aq bs 0)=some (I er))) (by kernel_rfl) (Y.drew.cell 0) (fun s=>?_)
 refine tkH [0,1,2] s (by kernel_rfl) (fun _ _ _ _ h=>h) ?_
 iterate 3 (refine ycH rfl (by rfl) (fun w h=>by go_simp<;>rfl) ?_;try simp only[Act.put,sA,sB,sC])
 refine onH 3 (by kernel_rfl) rfl fun K hK=>?_
 refine Zaq rfl 37 _ _ rfl L zZ rfl rfl 37 cs9 Z.drew ZaU ZS (by simp[Value.oneCell']) ?_
 obtain⟨W2,G⟩:=ExY (W1.drew.setRow L zZ)
 rw[←G]
 have a1:Bk W2 L 37 zZ:=by rw[G];exact Z.drew.row _
 have a2:Bk W2 C 3 #[I x]:=by rw[G];exact aa.drew.rowFar N3 _
 have a3:Bk W2 z 39 #[I u]:=by rw[G];exact ac.drew.rowFar N4 _
 have a4:Bk W2 bs 144 #[I er]:=by rw[G];exact Y.drew.rowFar N1 _
 have ab:Below B w W2:=by rw[G];exact ZaB KB.drew g1 _
 have A1:=Hi a1
 have A2:=Hi a2
 have A3:=Hi a3
 have A4:=Hi a4
 have AB:=Hi ab
 clear G a1 a2 a3 a4 ab s
 refine hK.out _ _ (A4.cell 0) (fun s=>?_)
 clear hK K s
 refine onH 4 (by kernel_rfl) rfl fun K hK=>?_
 have U:=A2.one
 go_simp
 clear U
 obtain⟨W3,J⟩:=ExY (W2.setCell ⟨C,0,none⟩ (I 0))
 rw[←J]
 have a1:Bk W3 L 37 zZ:=by rw[J];exact A1.far (p:=Aq C 0) (Ne.symm N3) _
 have a2:Bk W3 C 3 #[I 0]:=by rw[J];exact A2.set 0 _
 have a3:Bk W3 z 39 #[I u]:=by rw[J];exact A3.far (p:=Aq C 0) N5 _
 have a4:Bk W3 bs 144 #[I er]:=by rw[J];exact A4.far (p:=Aq C 0) N2 _
 have ab:Below B w W3:=by rw[J];exact AB.setCell g2 _
 have B1:=Hi a1
 have B2:=Hi a2
 have B3:=Hi a3
 have B4:=Hi a4
 have BB:=Hi ab
 clear J a1 a2 a3 a4 ab
 refine hK.out _ _ (B4.cell 0) (fun s=>?_)
 clear hK K s
 refine onH 5 (by kernel_rfl) rfl fun K hK=>?_
 have U:=B3.one
 go_simp
 clear U
 have n6:bs≠z:=by
  intro h
  have:=B4.out
  rw[h] at this
  exact B3.ne this (by decide) rfl
 have e4:Bk (W3.setCell (Aq z 0) (I er)) bs 144 #[I er]:=B4.far (p:=Aq z 0) n6 _
 refine hK.out _ _ (e4.cell 0) (fun s=>?_)
 clear hK K s
 refine wpAnyH_done (by kernel_rfl) ?_ _
 refine⟨rfl,_,rfl,.tuple #[],results_none rfl _ _ _,rfl,rfl,BB.setCell g3 _,?_,?_,B3.set 0 _⟩
 ·exact B1.far (p:=Aq z 0) (Ne.symm N4) _
 ·exact B2.far (p:=Aq z 0) (Ne.symm N5) _
theorem ZgX(p q s:Addr)(w:World):
 CallsD prog 121 #[.pointer (some p),.pointer (some q),.pointer (some s)] .returning w fun e u' w'=>e=.returned (.tuple #[])∧u'=.returning∧w'=w:=by
 have hq:∀w:World,(binOp BinOp.eql 20 .nilIface .nilIface).run prog w=.ok (.bool true) w:=fun _=>by kernel_rfl
 refine callsD_of_wpS func121 rfl fun c₀ cs hu=>?_
 apply wpS_seq
 apply wpS_region
 simp[wpOpsS,go_sem,recoverD,hu,ntmps121,Exit.thenS]
 refine wpS_of_wp ?_
 go_wp2
 cases c₀
 simp_all [bodyPostS,results,results121]
theorem Zdy(B L C z:Nat)(er x u:Int)(cs9:Array Value)(h9:cs9.size=9)(N:List PanicEntry)(w:World)(hB:B≤w.heap.size)(h1:Bk w L 37 cs9)(h2:Bk w C 3 #[I x])(h3:Bk w z 39 #[I u])(g1:B≤L)(g2:B≤C)(g3:B≤z):
 CallsD prog 121 #[Pt L,Pt C,Pt z] (.panicking ({v:=.iface 164 (.agg #[I er]),recovered:=false}::N)) w fun e u' w'=>
  e=.returned (.tuple #[])∧u'=.panicking ({v:=.iface 164 (.agg #[I er]),recovered:=true}::N) ∧
  Below B w w'∧Bk w' L 37 zZ∧Bk w' C 3 #[I 0]∧Bk w' z 39 #[I er]:=by
 have hq:∀w:World,(binOp BinOp.eql 20 (.iface 164 (.agg #[I er])) .nilIface).run prog w=.ok (.bool false) w:=fun _=>by kernel_rfl
 have ad:∀(w:World) (v:Value),(Instr.typeAssert (.iface 164 v) 20 164 true).run prog w=.ok (.tuple #[v,.bool true]) w:=fun _ _=>by kernel_rfl
 refine callsD_of_wpS func121 rfl fun c₀ cs hu=>?_
 apply wpS_seq
 apply wpS_region
 simp[wpOpsS,go_sem,recoverD,hu,ntmps121,Exit.thenS]
 refine wpS_of_wp ?_
 obtain⟨W1,E⟩:=ExY (w.alloc (.cells #[I er] 164))
 obtain⟨bs,X⟩:=ExY w.heap.size
 have R:Bk W1 bs 164 #[I er]:=by rw[E,X];exact Bk.new _ _ _
 have k1:Bk W1 L 37 cs9:=by rw[E];exact h1.alloc _
 have k2:Bk W1 C 3 #[I x]:=by rw[E];exact h2.alloc _
 have k3:Bk W1 z 39 #[I u]:=by rw[E];exact h3.alloc _
 have kb:Below B w W1:=by rw[E];exact(Below.refl _ _).alloc hB _
 have n1:bs≠L:=R.ne k1 (by decide)
 have n2:bs≠C:=R.ne k2 (by decide)
 have n3:C≠L:=k2.ne k1 (by decide)
 have n4:z≠L:=k3.ne k1 (by decide)
 have n5:z≠C:=k3.ne k2 (by decide)
 have Y:=Hi R
 have Z:=Hi k1
 have aa:=Hi k2
 have ac:=Hi k3
 have KB:=Hi kb
 have N1:=Hi n1
 have N2:=Hi n2
 have N3:=Hi n3
 have N4:=Hi n4
 have N5:=Hi n5
 have zs:cs9.size=(zZ:Array Value).size:=h9
 have ZS:=Hi zs
 clear h1 h2 h3 R k1 k2 k3 kb n1 n2 n3 n4 n5 zs h9
 have ef:(#[Pt L,Pt C,Pt z]++(Array.replicate 12 undef).setIfInBounds 3 (.iface 164 (.agg #[I er])):Array Value)=#[Pt L,Pt C,Pt z,undef,undef,undef,.iface 164 (.agg #[I er]),undef,undef,undef,undef,undef,undef,undef,undef]:=rfl
 rw[ef]
 clear ef
 go_upto_region 7 with(fail)
 rw[←E,←X]
 clear E X
 refine wp_region_held_drew (S:=(fun V=>V.cell? (Aq bs 0)=some (I er))) (by kernel_rfl) (Y.drew.cell 0) (fun s=>?_)
 refine tkH [0,1,2] s (by kernel_rfl) (fun _ _ _ _ h=>h) ?_
 iterate 3 (refine ycH rfl (by rfl) (fun w h=>by go_simp<;>rfl) ?_;try simp only[Act.put,sA,sB,sC])
 refine onH 3 (by kernel_rfl) rfl fun K hK=>?_
 refine Zaq rfl 37 _ _ rfl L zZ rfl rfl 37 cs9 Z.drew ZaU ZS (by simp[Value.oneCell']) ?_
 obtain⟨W2,G⟩:=ExY (W1.drew.setRow L zZ)
 rw[←G]
 have a1:Bk W2 L 37 zZ:=by rw[G];exact Z.drew.row _
 have a2:Bk W2 C 3 #[I x]:=by rw[G];exact aa.drew.rowFar N3 _
 have a3:Bk W2 z 39 #[I u]:=by rw[G];exact ac.drew.rowFar N4 _
 have a4:Bk W2 bs 164 #[I er]:=by rw[G];exact Y.drew.rowFar N1 _
 have ab:Below B w W2:=by rw[G];exact ZaB KB.drew g1 _
 have A1:=Hi a1
 have A2:=Hi a2
 have A3:=Hi a3
 have A4:=Hi a4
 have AB:=Hi ab
 clear G a1 a2 a3 a4 ab s
 refine hK.out _ _ (A4.cell 0) (fun s=>?_)
 clear hK K s
 refine onH 4 (by kernel_rfl) rfl fun K hK=>?_
 have U:=A2.one
 go_simp
 clear U
 obtain⟨W3,J⟩:=ExY (W2.setCell ⟨C,0,none⟩ (I 0))
 rw[←J]
 have a1:Bk W3 L 37 zZ:=by rw[J];exact A1.far (p:=Aq C 0) (Ne.symm N3) _
 have a2:Bk W3 C 3 #[I 0]:=by rw[J];exact A2.set 0 _
 have a3:Bk W3 z 39 #[I u]:=by rw[J];exact A3.far (p:=Aq C 0) N5 _
 have a4:Bk W3 bs 164 #[I er]:=by rw[J];exact A4.far (p:=Aq C 0) N2 _
 have ab:Below B w W3:=by rw[J];exact AB.setCell g2 _
 have B1:=Hi a1
 have B2:=Hi a2
 have B3:=Hi a3
 have B4:=Hi a4
 have BB:=Hi ab
 clear J a1 a2 a3 a4 ab
 refine hK.out _ _ (B4.cell 0) (fun s=>?_)
 clear hK K s
 refine onH 5 (by kernel_rfl) rfl fun K hK=>?_
 have U:=B3.one
 go_simp
 clear U
 have n6:bs≠z:=by
  intro h
  have:=B4.out
  rw[h] at this
  exact B3.ne this (by decide) rfl
 have e4:Bk (W3.setCell (Aq z 0) (I er)) bs 164 #[I er]:=B4.far (p:=Aq z 0) n6 _
 refine hK.out _ _ (e4.cell 0) (fun s=>?_)
 clear hK K s
 refine wpAnyH_done (by kernel_rfl) ?_ _
 refine⟨rfl,_,rfl,.tuple #[],results_none rfl _ _ _,rfl,rfl,BB.setCell g3 _,?_,?_,B3.set 0 _⟩
 ·exact B1.far (p:=Aq z 0) (Ne.symm N4) _
 ·exact B2.far (p:=Aq z 0) (Ne.symm N5) _
theorem Zg9(p q s:Addr)(w:World):
 CallsD prog 135 #[.pointer (some p),.pointer (some q),.pointer (some s)] .returning w fun e u' w'=>e=.returned (.tuple #[])∧u'=.returning∧w'=w:=by
 have hq:∀w:World,(binOp BinOp.eql 20 .nilIface .nilIface).run prog w=.ok (.bool true) w:=fun _=>by kernel_rfl
 refine callsD_of_wpS func135 rfl fun c₀ cs hu=>?_
 apply wpS_seq
 apply wpS_region
 simp[wpOpsS,go_sem,recoverD,hu,ntmps135,Exit.thenS]
 refine wpS_of_wp ?_
 go_wp2
 cases c₀
 simp_all [bodyPostS,results,results135]
theorem ZdC(B L C z:Nat)(er x u:Int)(cs9:Array Value)(h9:cs9.size=9)(N:List PanicEntry)(w:World)(hB:B≤w.heap.size)(h1:Bk w L 37 cs9)(h2:Bk w C 3 #[I x])(h3:Bk w z 39 #[I u])(g1:B≤L)(g2:B≤C)(g3:B≤z):
 CallsD prog 135 #[Pt L,Pt C,Pt z] (.panicking ({v:=.iface 181 (.agg #[I er]),recovered:=false}::N)) w fun e u' w'=>
  e=.returned (.tuple #[])∧u'=.panicking ({v:=.iface 181 (.agg #[I er]),recovered:=true}::N) ∧
  Below B w w'∧Bk w' L 37 zZ∧Bk w' C 3 #[I 0]∧Bk w' z 39 #[I er]:=by
 have hq:∀w:World,(binOp BinOp.eql 20 (.iface 181 (.agg #[I er])) .nilIface).run prog w=.ok (.bool false) w:=fun _=>by kernel_rfl
 have ad:∀(w:World) (v:Value),(Instr.typeAssert (.iface 181 v) 20 181 true).run prog w=.ok (.tuple #[v,.bool true]) w:=fun _ _=>by kernel_rfl
 refine callsD_of_wpS func135 rfl fun c₀ cs hu=>?_
 apply wpS_seq
 apply wpS_region
 simp[wpOpsS,go_sem,recoverD,hu,ntmps135,Exit.thenS]
 refine wpS_of_wp ?_
 obtain⟨W1,E⟩:=ExY (w.alloc (.cells #[I er] 181))
 obtain⟨bs,X⟩:=ExY w.heap.size
 have R:Bk W1 bs 181 #[I er]:=by rw[E,X];exact Bk.new _ _ _
 have k1:Bk W1 L 37 cs9:=by rw[E];exact h1.alloc _
 have k2:Bk W1 C 3 #[I x]:=by rw[E];exact h2.alloc _
 have k3:Bk W1 z 39 #[I u]:=by rw[E];exact h3.alloc _
 have kb:Below B w W1:=by rw[E];exact(Below.refl _ _).alloc hB _
 have n1:bs≠L:=R.ne k1 (by decide)
 have n2:bs≠C:=R.ne k2 (by decide)
 have n3:C≠L:=k2.ne k1 (by decide)
 have n4:z≠L:=k3.ne k1 (by decide)
 have n5:z≠C:=k3.ne k2 (by decide)
 have Y:=Hi R
 have Z:=Hi k1
 have aa:=Hi k2
 have ac:=Hi k3
 have KB:=Hi kb
 have N1:=Hi n1
 have N2:=Hi n2
 have N3:=Hi n3
 have N4:=Hi n4
 have N5:=Hi n5
 have zs:cs9.size=(zZ:Array Value).size:=h9
 have ZS:=Hi zs
 clear h1 h2 h3 R k1 k2 k3 kb n1 n2 n3 n4 n5 zs h9
 have ef:(#[Pt L,Pt C,Pt z]++(Array.replicate 12 undef).setIfInBounds 3 (.iface 181 (.agg #[I er])):Array Value)=#[Pt L,Pt C,Pt z,undef,undef,undef,.iface 181 (.agg #[I er]),undef,undef,undef,undef,undef,undef,undef,undef]:=rfl
 rw[ef]
 clear ef
 go_upto_region 7 with(fail)
 rw[←E,←X]
 clear E X
 refine wp_region_held_drew (S:=(fun V=>V.cell? (Aq bs 0)=some (I er))) (by kernel_rfl) (Y.drew.cell 0) (fun s=>?_)
 refine tkH [0,1,2] s (by kernel_rfl) (fun _ _ _ _ h=>h) ?_
 iterate 3 (refine ycH rfl (by rfl) (fun w h=>by go_simp<;>rfl) ?_;try simp only[Act.put,sA,sB,sC])
 refine onH 3 (by kernel_rfl) rfl fun K hK=>?_
 refine Zaq rfl 37 _ _ rfl L zZ rfl rfl 37 cs9 Z.drew ZaU ZS (by simp[Value.oneCell']) ?_
 obtain⟨W2,G⟩:=ExY (W1.drew.setRow L zZ)
 rw[←G]
 have a1:Bk W2 L 37 zZ:=by rw[G];exact Z.drew.row _
 have a2:Bk W2 C 3 #[I x]:=by rw[G];exact aa.drew.rowFar N3 _
 have a3:Bk W2 z 39 #[I u]:=by rw[G];exact ac.drew.rowFar N4 _
 have a4:Bk W2 bs 181 #[I er]:=by rw[G];exact Y.drew.rowFar N1 _
 have ab:Below B w W2:=by rw[G];exact ZaB KB.drew g1 _
 have A1:=Hi a1
 have A2:=Hi a2
 have A3:=Hi a3
 have A4:=Hi a4
 have AB:=Hi ab
 clear G a1 a2 a3 a4 ab s
 refine hK.out _ _ (A4.cell 0) (fun s=>?_)
 clear hK K s
 refine onH 4 (by kernel_rfl) rfl fun K hK=>?_
 have U:=A2.one
 go_simp
 clear U
 obtain⟨W3,J⟩:=ExY (W2.setCell ⟨C,0,none⟩ (I 0))
 rw[←J]
 have a1:Bk W3 L 37 zZ:=by rw[J];exact A1.far (p:=Aq C 0) (Ne.symm N3) _
 have a2:Bk W3 C 3 #[I 0]:=by rw[J];exact A2.set 0 _
 have a3:Bk W3 z 39 #[I u]:=by rw[J];exact A3.far (p:=Aq C 0) N5 _
 have a4:Bk W3 bs 181 #[I er]:=by rw[J];exact A4.far (p:=Aq C 0) N2 _
 have ab:Below B w W3:=by rw[J];exact AB.setCell g2 _
 have B1:=Hi a1
 have B2:=Hi a2
 have B3:=Hi a3
 have B4:=Hi a4
 have BB:=Hi ab
 clear J a1 a2 a3 a4 ab
 refine hK.out _ _ (B4.cell 0) (fun s=>?_)
 clear hK K s
 refine onH 5 (by kernel_rfl) rfl fun K hK=>?_
 have U:=B3.one
 go_simp
 clear U
 have n6:bs≠z:=by
  intro h
  have:=B4.out
  rw[h] at this
  exact B3.ne this (by decide) rfl
 have e4:Bk (W3.setCell (Aq z 0) (I er)) bs 181 #[I er]:=B4.far (p:=Aq z 0) n6 _
 refine hK.out _ _ (e4.cell 0) (fun s=>?_)
 clear hK K s
 refine wpAnyH_done (by kernel_rfl) ?_ _
 refine⟨rfl,_,rfl,.tuple #[],results_none rfl _ _ _,rfl,rfl,BB.setCell g3 _,?_,?_,B3.set 0 _⟩
 ·exact B1.far (p:=Aq z 0) (Ne.symm N4) _
 ·exact B2.far (p:=Aq z 0) (Ne.symm N5) _
def Zen(N:Nat):Zab:=
 ⟨0,[⟨1000000,0⟩],[],[],[⟨-1,some ⟨N+1+1,0,none⟩,1,[0],false,0⟩,⟨-1,some ⟨N+1+1+1,0,none⟩,1,[0],false,0⟩],[],[],[],[],
  ⟨some ⟨N+1,0,none⟩,1⟩,⟨none,0⟩,⟨none,0⟩,⟨some ⟨N+1+1+1+1,0,none⟩,2⟩,⟨none,0⟩,⟨none,0⟩,⟨none,0⟩,⟨none,0⟩⟩
theorem Zhp{w:World}{g k n:Nat}{t:TypeId}{xs:List Value}(h:Bk w g t xs.toArray)(s:xs.length=n*k):Rd w w.heap.size k (some (Aq g 0)) n xs:=
 ⟨s,fun _=>⟨_,rfl,h.lt,World.news_of_block h⟩⟩
theorem Zfn(w:World):Calls prog 7 #[] w fun e w'=>e=.returned (Zen w.heap.size).val∧Zay w' w'.heap.size (Zen w.heap.size)∧Below w.heap.size w w':=by
 obtain⟨N,hN⟩:=ExY w.heap.size
 obtain⟨W1,G⟩:=ExY (w.alloc (.cells #[I 0,.slice (some ⟨N+1,0,none⟩) 1 1,.slice none 0 0,.slice none 0 0,.slice (some ⟨N+1+1+1+1,0,none⟩) 2 2,.slice none 0 0,.slice none 0 0,.slice none 0 0,.slice none 0 0] 37))
 obtain⟨W2,E⟩:=ExY (W1.alloc (.cells #[I 1000000,I 0] 57))
 obtain⟨W3,C⟩:=ExY (W2.alloc (.cells #[I 0] 3))
 obtain⟨W4,s⟩:=ExY (W3.alloc (.cells #[I 0] 3))
 obtain⟨W5,z⟩:=ExY (W4.alloc (.cells #[I (-1),.slice (some ⟨N+1+1,0,none⟩) 1 1,.bool false,I 0,I (-1),.slice (some ⟨N+1+1+1,0,none⟩) 1 1,.bool false,I 0] 59))
 have s1:W1.heap.size=N+1:=by rw[G,World.size_alloc,hN]
 have s2:W2.heap.size=N+1+1:=by rw[E,World.size_alloc,s1]
 have s3:W3.heap.size=N+1+1+1:=by rw[C,World.size_alloc,s2]
 have s4:W4.heap.size=N+1+1+1+1:=by rw[s,World.size_alloc,s3]
 have b0:Bk W5 N 37 #[I 0,.slice (some ⟨N+1,0,none⟩) 1 1,.slice none 0 0,.slice none 0 0,.slice (some ⟨N+1+1+1+1,0,none⟩) 2 2,.slice none 0 0,.slice none 0 0,.slice none 0 0,.slice none 0 0]:=by rw[z,s,C,E,G,hN];exact((((Bk.new _ _ _).alloc _).alloc _).alloc _).alloc _
 have b1:Bk W5 (N+1) 57 #[I 1000000,I 0]:=by rw[z,s,C,E,←s1];exact(((Bk.new _ _ _).alloc _).alloc _).alloc _
 have b2:Bk W5 (N+1+1) 3 #[I 0]:=by rw[z,s,C,←s2];exact((Bk.new _ _ _).alloc _).alloc _
 have b3:Bk W5 (N+1+1+1) 3 #[I 0]:=by rw[z,s,←s3];exact(Bk.new _ _ _).alloc _
 have b4:Bk W5 (N+1+1+1+1) 59 #[I (-1),.slice (some ⟨N+1+1,0,none⟩) 1 1,.bool false,I 0,I (-1),.slice (some ⟨N+1+1+1,0,none⟩) 1 1,.bool false,I 0]:=by rw[z,←s4];exact Bk.new _ _ _
 have bl:Below w.heap.size w W5:=by
  rw[z,s,C,E,G]
  exact(((((Below.refl _ w).alloc (Nat.le_refl _) _).alloc (by simp) _).alloc (by simp;omega) _).alloc (by simp;omega) _).alloc (by simp;omega) _
 have rd:Zay W5 W5.heap.size (Zen N):=by
  refine⟨Zhp b1 rfl,Rd.nil _ _ _ _,Rd.nil _ _ _ _,Zhp b4 rfl,?_,Rd.nil _ _ _ _,Rd.nil _ _ _ _,Rd.nil _ _ _ _,Rd.nil _ _ _ _,by simp[Zen],by simp[Zen]⟩
  intro a ha
  simp only[Zen,List.mem_cons,List.not_mem_nil,or_false] at ha
  rcases ha with rfl|rfl
  ·exact⟨Zhp b2 rfl,by simp⟩
  ·exact⟨Zhp b3 rfl,by simp⟩
 have B0:=Hi b0
 have BL:=Hi bl
 have RD:=Hi rd
 clear s1 s2 s3 s4 b0 b1 b2 b3 b4 bl rd
 rw[←hN]
 go_enter func7,ntmps7
 go_wp2
 rw[←hN,←G,←E,←C,←s,←z]
 refine bodyPost_ret (results_cell_row (p:=0) results7 _ W5 N 37 #[I 0,.slice (some ⟨N+1,0,none⟩) 1 1,.slice none 0 0,.slice none 0 0,.slice (some ⟨N+1+1+1+1,0,none⟩) 2 2,.slice none 0 0,.slice none 0 0,.slice none 0 0,.slice none 0 0] (0,0) _ rfl B0 underlying37 rfl (by kernel_rfl)) rfl ⟨rfl,RD,?_⟩
 rw[hN]
 exact BL
def Zhv(m:Zab)(bel mp:Value):Array Value:=#[I m.day,.slice m.sCur.A m.curs.length m.sCur.c,.slice m.sUnd.A m.unders.length m.sUnd.c,.slice m.sIns.A m.instrs.length m.sIns.c,.slice m.sAcc.A m.accts.length m.sAcc.c,.slice m.sPos.A m.poss.length m.sPos.c,.slice m.sOrd.A m.orders.length m.sOrd.c,.slice m.sAva.A m.avail.length m.sAva.c,.slice m.sLoc.A m.locs.length m.sLoc.c,bel,mp]
theorem Ziu(m:Zab)(G:Nat)(E Z:Value)(k:Nat)(under:Int)(w:World)(L:k<m.instrs.length)(J:Bk w G 226 (Zhv m E Z))(N:Rd w w.heap.size 7 m.sIns.A m.instrs.length (m.instrs.flatMap ZaD.cs)):
 Calls prog 217 #[Pt G,I k,I under] w fun e w'=>e=.returned (.bool ((m.instrs.getD k default).under==under))∧w'=w:=by
 have s:m.instrs.getD k default=m.instrs[k]:=by simp[L]
 rw[s]
 have x3:w.cell? (Aq G 3)=some (.slice m.sIns.A m.instrs.length m.sIns.c):=J.cell 3
 obtain⟨a,hA,_,c0,c1,c2,c3,c4,c5,c6⟩:=Zds N L
 rw[hA] at x3
 obtain⟨⟨R,un,U,C,z,X,mark⟩,hx⟩:∃x,x=m.instrs[k]:=⟨_,rfl⟩
 rw[←hx] at c0 c1 c2 c3 c4 c5 c6 ⊢
 dsimp only at c0 c1 c2 c3 c4 c5 c6 ⊢
 have Y:=J.lt
 have i0:(0:Int)≤(k:Int):=by omega
 have i1:(k:Int)<(m.instrs.length:Int):=by omega
 clear J N hx s hA
 go_enter func217,ntmps217
 go_wp2
 go_ret
 exact⟨rfl,rfl⟩
end Go.Proofs.YtdefojlkofnloaaGreatDoor
