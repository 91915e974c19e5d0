/- A part of the proof of CoreOnce: for every input, no condition. -/
import Derived.Test.YtdefojlkofnloaaGreatDoorZb26
set_option maxRecDepth 100000
set_option maxHeartbeats 8000000
set_option linter.unusedVariables false
set_option linter.unusedSimpArgs false
namespace Go.Proofs.YtdefojlkofnloaaGreatDoor
open Go.RowKit Go.Proofs.Tryz
theorem Zkp(w:World)(g i:Nat)(u:Value):w.grownBy (w.setCell (Aq g i) u) (some g):=
 ⟨rfl,rfl,rfl,by simp,fun k _ s=>Below.heap_setCell w (Aq g i) u k (fun e=>s (by rw[e]))⟩
theorem Zmz{l:List O.Lc}(s:O.tidyB l=true){a i q:Int}(h:(O.cutL l a i q).2.2=0):∃k:Nat,k<l.length∧O.findL l a i=(k:Int)∧1≤q∧q≤1000000000:=by
 obtain⟨h1,h2⟩:=(O.tidy_iff l).1 s
 have h3:=O.sorted_of _ h1
 unfold O.cutL at h
 by_cases ht:O.thereB l ⟨a,i,0,0,0⟩=true
 rotate_left
 ·rw[if_neg ht] at h;cases h
 rw[if_pos ht] at h
 have hl:=O.there_lt ht
 refine⟨O.place l ⟨a,i,0,0,0⟩,hl,by rw[O.findL_sorted h3,if_pos ht],?_⟩
 by_cases hq:q<1∨Zef (l.getD (O.place l ⟨a,i,0,0,0⟩) default).qty<q
 ·rw[if_pos hq] at h;cases h
 have h4:=h2 _ hl
 simp only[fitsQ,decide_eq_true_eq] at h4
 have h5:Zef (l.getD (O.place l ⟨a,i,0,0,0⟩) default).qty≤1000000000:=by unfold Zef;split<;>omega
 omega
theorem ZkQ{l:List O.Lc}{a i q:Int}(h:l.length≤1000000):(O.cutL l a i q).1.length≤1000000:=by
 unfold O.cutL
 split
 ·split
  ·simp
  ·split
   ·simp only[List.length_append,List.length_take,List.length_drop];omega
   ·simp only[O.putQ,List.length_set];exact h
 ·simp
theorem ZkK{l:List P.Lc}{a i q:Int}(h:l.length≤1000):(P.addL l a i q).1.length≤1000000:=by
 unfold P.addL
 split
 ·simp
 ·split
  ·exact Nat.le_trans h (by decide)
  ·split
   ·split
    ·simp
    ·split
     ·simp only[List.length_append,List.length_take,List.length_drop];omega
     ·simp only[P.putQ,List.length_set];exact Nat.le_trans h (by decide)
   ·split
    ·simp
    ·simp only[List.length_append,List.length_take,List.length_drop,List.length_cons];omega
theorem ZfZ{m:Zab}(h:Za2 m=true):O.tidyB m.orders=true:=by
 have s:=(ZbI h).2.2.2.2.1
 rw[O.good_ref] at s
 simp only[Bool.and_eq_true] at s
 exact s.2.1
theorem ZiU{m:Zab}(h:Za2 m=true):P.tidyB m.poss=true:=by
 have s:=(ZbI h).2.2.2.1
 rw[P.good_ref] at s
 simp only[Bool.and_eq_true] at s
 exact s.2.1
theorem Zaa.setPos{w:World}{base:Nat}{m:Zab}(h:Zaa w base m){A:Option Addr}{c:Nat}{l:List P.Lc}(z:w.ownsRow base 50 3 (.slice A l.length c) l.length (P.lcs l))(s:l.length≤1000000):Zaa w base {m with poss:=l,sPos:=⟨A,c⟩}:=
 ⟨h.curs,h.unders,h.instrs,h.accts,z,h.orders,h.avail,h.locs,h.cash,h.apart,h.away,h.short.1,h.short.2.1,h.short.2.2.1,h.short.2.2.2.1,s,h.short.2.2.2.2.2⟩
theorem Zmh{w:World}{B n:Nat}{A:Option Addr}{l:List O.Lc}(h:Rd w B 5 A n (O.lcs l)){k:Nat}(z:k<l.length):
 ∃a,A=some a∧a.block<B∧∀V,Below B w V→V.cell? (a.add (k*5))=some (I (l.getD k default).acct)∧V.cell? ⟨(a.add (k*5)).block,(a.add (k*5)).off+1,none⟩=some (I (l.getD k default).id)∧V.cell? ⟨(a.add (k*5)).block,(a.add (k*5)).off+2,none⟩=some (I (l.getD k default).instr) ∧
  V.cell? ⟨(a.add (k*5)).block,(a.add (k*5)).off+3,none⟩=some (I (l.getD k default).qty)∧V.cell? ⟨(a.add (k*5)).block,(a.add (k*5)).off+4,none⟩=some (I (l.getD k default).price):=by
 obtain⟨a,hA,hb,_⟩:=Zkl h z
 refine⟨a,hA,hb,fun V hV=>?_⟩
 obtain⟨a',s,_,h0,h1,h2,h3,h4⟩:=Zkl (h.below hV) z
 have e:a'=a:=Option.some.inj (s.symm.trans hA)
 subst e
 exact⟨h0,h1,h2,h3,h4⟩
theorem Zmg{w:World}{B n:Nat}{A:Option Addr}{l:List ZaD}(h:Rd w B 7 A n (l.flatMap ZaD.cs)){k:Nat}(z:k<l.length):
 ∃a,A=some a∧a.block<B∧∀V,Below B w V→V.cell? (a.add (k*7))=some (I (l[k]).kind)∧V.cell? ⟨(a.add (k*7)).block,(a.add (k*7)).off+1,none⟩=some (I (l[k]).under)∧V.cell? ⟨(a.add (k*7)).block,(a.add (k*7)).off+2,none⟩=some (I (l[k]).mult)∧V.cell? ⟨(a.add (k*7)).block,(a.add (k*7)).off+3,none⟩=some (I (l[k]).strike)∧V.cell? ⟨(a.add (k*7)).block,(a.add (k*7)).off+4,none⟩=some (I (l[k]).expiry)∧V.cell? ⟨(a.add (k*7)).block,(a.add (k*7)).off+5,none⟩=some (.bool (l[k]).call)∧V.cell? ⟨(a.add (k*7)).block,(a.add (k*7)).off+6,none⟩=some (I (l[k]).mark):=by
 obtain⟨a,hA,hb,_⟩:=Zds h z
 refine⟨a,hA,hb,fun V hV=>?_⟩
 obtain⟨a',s,_,h0⟩:=Zds (h.below hV) z
 have e:a'=a:=Option.some.inj (s.symm.trans hA)
 subst e
 exact h0
theorem Zmj{w:World}{B n:Nat}{A:Option Addr}{l:List ZbD}(h:Rd w B 4 A n (l.flatMap ZbD.cs)){k:Nat}(z:k<l.length):
 ∃a,A=some a∧a.block<B∧∀V,Below B w V→V.cell? (a.add (k*4))=some (.string (l[k]).name)∧V.cell? ⟨(a.add (k*4)).block,(a.add (k*4)).off+1,none⟩=some (I (l[k]).cur)∧V.cell? ⟨(a.add (k*4)).block,(a.add (k*4)).off+2,none⟩=some (I (l[k]).price)∧V.cell? ⟨(a.add (k*4)).block,(a.add (k*4)).off+3,none⟩=some (I (l[k]).vol):=by
 obtain⟨a,hA,hb,_⟩:=ZfE h z
 refine⟨a,hA,hb,fun V hV=>?_⟩
 obtain⟨a',s,_,h0⟩:=ZfE (h.below hV) z
 have e:a'=a:=Option.some.inj (s.symm.trans hA)
 subst e
 exact h0
def ZcY(oq qty:Int):Int:=if oq<0 then -qty else qty
def Zc3(m:Zab)(acct id qty:Int)(m':Zab)(n:Int):Prop:=
 ZaZ m acct∧(O.cutL m.orders acct id qty).2.2=0∧n=(O.cutL m.orders acct id qty).2.1∧1≤qty ∧
 ∃(k:Nat) (m2:Zab) (s1 s2:Sl),k<m.orders.length∧O.findL m.orders acct id=(k:Int)∧(P.addL m.poss acct (m.orders.getD k default).instr (ZcY (m.orders.getD k default).qty qty)).2=0∧Zbi m m2 ∧
  Zbo {m2 with orders:=(O.cutL m.orders acct id qty).1,sOrd:=s1,poss:=(P.addL m.poss acct (m.orders.getD k default).instr (ZcY (m.orders.getD k default).qty qty)).1,sPos:=s2} m'
theorem ZjI(m:Zab)(acct id qty price:Int)(bl ba bi bq bp:Nat)(w:World)(hl:Bk w bl 37 m.ar)(eC:Bk w ba 3 #[I acct])(eD:Bk w bi 3 #[I id])(eF:Bk w bq 3 #[I qty])(eE:Bk w bp 3 #[I price])(n0:bl<bq)(n1:ba≠bq)(n2:bi≠bq)(n3:bp≠bq)(hm:Zay w bl m)(eH:∀V,Below bl w V→Gl V):
 Calls prog 55 #[Pt bl,Pt ba,Pt bi,Pt bq,Pt bp] w fun e w'=>w.grownBy w' (some bq)∧Zdt 144 (Zc3 m acct id qty) True w.heap.size e w':=by
 have cx:=Hi hm
 have fo:=Hi eH
 have fc:=Hi n0
 have ck:=Hi n1
 have cl:=Hi n2
 have aM:=Hi n3
 clear n0 n1 n2 n3
 have dl:Hid (∀V,Bw w V→Zay V V.heap.size m):=fun V hV=>(hm.below (hV.mono (Nat.le_of_lt hl.lt))).mono (Nat.le_trans (Nat.le_of_lt hl.lt) hV.size)
 have fC:Hid (∀V,Bw w V→Calls prog 45 #[.agg m.ar,I acct] V fun e w'=>Bw V w'∧Zie 144 (ZaZ m acct) e):=fun V hV=>ZdZ m acct V (dl.out V hV)
 have fi:Hid (∀V,Bw w V→Calls prog 53 #[.slice m.sOrd.A m.orders.length m.sOrd.c,I acct,I id] V fun e w'=>e=.returned (I (O.findL m.orders acct id))∧Bw V w'):=fun V hV=>O.find_any _ _ _ _ _ _ V (ZbR hm.short.2.2.2.2.2.1) (dl.out V hV).orders
 have fe:Hid (ZaZ m acct→∀V,Bw w V→Calls prog 56 #[.slice m.sOrd.A m.orders.length m.sOrd.c,I acct,I id,I qty] V (O.COut V (O.cutL m.orders acct id qty))):=fun ht V hV=>O.cut_any _ _ _ _ _ _ _ V (ZfZ ht.1) hm.short.2.2.2.2.2.1 (dl.out V hV).orders
 have e9:Hid (ZaZ m acct→∀i q V,Zay V V.heap.size m→Calls prog 57 #[.slice m.sPos.A m.poss.length m.sPos.c,I acct,I i,I q] V (P.LOut V (P.addL m.poss acct i q))):=fun ht i q V h=>P.add_any _ _ _ _ _ _ _ V (ZiU ht.1) hm.short.2.2.2.2.1 h.poss
 have ek:Hid (∀(m:Zab) cur aG dV d6 V,Zay V V.heap.size m→Calls prog 59 #[.agg m.ar,I cur,I aG,I dV,I d6] V (Zgc m V)):=fun m cur aG dV d6 V h=>Zka m cur aG dV d6 V h
 have ft:=Hi hm.short.2.2.2.2.2.1
 have fk:Hid (∀V (m2:Zab),Zay V V.heap.size m2→Gl V→Calls prog 48 #[.agg m2.ar] V fun e w'=>Bw V w'∧Zd5 144 (Zbo m2) (Zb8 m2) V.heap.size e w'):=fun V m2 h1 h2=>Zdi m2 V h1 h2
 have bv:=Hi hl
 have en:=Hi eC
 have eo:=Hi eD
 have cX:=Hi eF
 have ep:=Hi eE
 clear hl eC eD eF eE hm eH
 obtain⟨W1,aH⟩:=ExY (w.alloc (.cells zZ 37))
 obtain⟨bz,cn⟩:=ExY w.heap.size
 have ev:Hid (bz≠bl):=by
  have h:=bv.lt
  show bz≠bl
  rw[cn]
  exact Ne.symm (Nat.ne_of_lt h)
 have dR:=bl0 cn
 have cI:=blB aH
 have cS:=bkA bv aH
 have cL:=bkA en aH
 have cO:=bkA eo aH
 have cY:=bkA cX aH
 have cU:=bkA ep aH
 have c3:=bkW aH cn
 go_enter func55,ntmps55
 go_upto_region 1 with(fail)
 rw[←aH,←cn]
 clear aH cn
 have L:=cS.nine
 have s:=cL.one
 have z:=cO.one
 have E:=cY.one
 have C:=cU.one
 have G:=c3.nine
 go_wp2_with fail
 refine(fC.out _ cI).mono ?_
 rintro e W2 ⟨hb,he⟩
 have fg:=Hi he
 clear he
 have a7:=blT cI hb
 have cT:=bkN cS hb
 have cM:=bkN cL hb
 have cP:=bkN cO hb
 have cZ:=bkN cY hb
 have cV:=bkN cU hb
 have c4:=bkN c3 hb
 clear L s z E C G
 clear hb
 have L:=cT.nine
 have s:=cM.one
 have z:=cP.one
 have E:=cZ.one
 have C:=cV.one
 have G:=c4.nine
 rcases fg.out with⟨he,eO⟩|⟨er,a3,he,d0⟩
 rotate_left
 ·unfold Pan at he
  subst he
  dsimp only
  clear d0
  go_wp2
  exact⟨rfl,Zae (ZaG w _) a7 (Nat.le_refl _),Zdt.no a3 trivial⟩
 subst he
 have bH:=Hi eO
 clear eO
 dsimp only
 obtain⟨⟨ls,fL,df⟩,dZ⟩:∃p,p=O.cutL m.orders acct id qty:=⟨_,rfl⟩
 have a8:=fe.out bH
 rw[←dZ] at a8
 replace a8:=Hi a8
 have bF:=Hi dZ
 clear dZ
 go_wp2_with fail
 have fu:=Hi a7.size
 refine(a8.out _ a7).mono ?_
 rintro e W3 ⟨A1,c1,rfl,h1,h2,ho,hb⟩
 dsimp only at ho h1
 have ap:=blT a7 hb
 have bw:=bkN cT hb
 have bs:=bkN cM hb
 have bu:=bkN cP hb
 have c0:=bkN cZ hb
 have cW:=bkN cV hb
 have c5:=bkN c4 hb
 clear L s z E C G
 clear hb
 have L:=bw.nine
 have s:=bs.one
 have z:=bu.one
 have E:=c0.one
 have C:=cW.one
 have G:=c5.nine
 have em:Hid (W3.ownsRow w.heap.size 45 5 (.slice A1 ls.length c1) ls.length (O.lcs ls)):=Zap ho fu
 clear h1 h2 ho
 dsimp only
 by_cases a4:df=0
 rotate_left
 ·go_wp2_with fail
  refine Cq (ZbJ df a4 _) ?_
  dsimp only
  go_wp2
  exact⟨rfl,Zae (ZaG w _) ap (Nat.le_refl _),Zdt.no a4 trivial⟩
 subst a4
 go_wp2_with fail
 refine Cq (ZbZ _) ?_
 dsimp only
 have ef:Hid (ls.length≤1000000):=by
  have h:=ZkQ (a:=acct) (i:=id) (q:=qty) ft
  rw[←bF.out] at h
  exact h
 obtain⟨k,cF,dX,eM,eN⟩:=Zmz (ZfZ bH.1) (a:=acct) (i:=id) (q:=qty) (by rw[←bF.out])
 have ee:=Hi cF
 have fm:=Hi dX
 have el:=Hi eM
 have fw:=Hi eN
 have fj:Hid (∀V,Bw w V→Calls prog 53 #[.slice m.sOrd.A m.orders.length m.sOrd.c,I acct,I id] V fun e w'=>e=.returned (I k)∧Bw V w'):=by
  rw[←dX]
  exact fi
 clear dX eM eN
 obtain⟨aa,dW,cE,az⟩:=Zmh cx.orders cF
 obtain⟨oa,eJ⟩:=ExY ((m.orders.getD k default).acct)
 obtain⟨oi,eK⟩:=ExY ((m.orders.getD k default).id)
 obtain⟨ins,cp⟩:=ExY ((m.orders.getD k default).instr)
 obtain⟨oq,d3⟩:=ExY ((m.orders.getD k default).qty)
 obtain⟨op,eL⟩:=ExY ((m.orders.getD k default).price)
 rw[←eJ,←eK,←cp,←d3,←eL] at az
 have fd:=Hi az
 have e7:=Hi dW
 have dY:=fj.out
 rw[dW] at dY
 have eb:=Hi dY
 clear dY
 have ed:=Hi cp
 have fs:=Hi d3
 clear az dW eJ eK eL cp d3 cE
 have k1:(k:Int)<(m.orders.length:Int):=Int.ofNat_lt.mpr cF
 have k0:(0:Int)≤(k:Int):=Int.natCast_nonneg k
 clear cF
 have HD:Hid (∀U,Bw W3 U→(fun U=>U.cell? (Aq bl 6)=some (.slice (some aa) m.orders.length m.sOrd.c)∧U.cell? (Aq ba 0)=some (I acct)∧U.cell? (Aq bi 0)=some (I id)∧U.cell? (aa.add (k*5))=some (I oa)∧U.cell? ⟨(aa.add (k*5)).block,(aa.add (k*5)).off+1,none⟩=some (I oi)∧U.cell? ⟨(aa.add (k*5)).block,(aa.add (k*5)).off+2,none⟩=some (I ins)∧U.cell? ⟨(aa.add (k*5)).block,(aa.add (k*5)).off+3,none⟩=some (I oq)∧U.cell? ⟨(aa.add (k*5)).block,(aa.add (k*5)).off+4,none⟩=some (I op)) U):=fun U hU=>by
  have h1:=bw.below hU bw.lt
  have h2:=bs.below hU bs.lt
  have h3:=bu.below hU bu.lt
  have h4:=Ct h1 6 rfl
  rw[e7.out] at h4
  exact⟨h4,h2.cell 0,h3.cell 0,fd.out U ((ap.trans (hU.mono ap.size)).mono (Nat.le_of_lt bv.lt))⟩
 clear L s z E C G
 go_upto_region 4 with(fail)
 go_cut [10] (fun fJ wx=>∃aY:Nat,fJ=Pt aY∧Hid (W3.heap.size≤aY∧Bw W3 wx∧Bk wx aY 45 #[I oa,I oi,I ins,I oq,I op]))
 case first=>
  refine Zbf (fun U=>U.cell? (Aq bl 6)=some (.slice (some aa) m.orders.length m.sOrd.c)∧U.cell? (Aq ba 0)=some (I acct)∧U.cell? (Aq bi 0)=some (I id)∧U.cell? (aa.add (k*5))=some (I oa)∧U.cell? ⟨(aa.add (k*5)).block,(aa.add (k*5)).off+1,none⟩=some (I oi)∧U.cell? ⟨(aa.add (k*5)).block,(aa.add (k*5)).off+2,none⟩=some (I ins)∧U.cell? ⟨(aa.add (k*5)).block,(aa.add (k*5)).off+3,none⟩=some (I oq)∧U.cell? ⟨(aa.add (k*5)).block,(aa.add (k*5)).off+4,none⟩=some (I op)) 10 (by kernel_rfl) ?_
  refine tkM [0,1,2,3,4,5] (HD.out _ (Below.refl _ W3).drew) (by kernel_rfl) (fun _ _ _ _ h=>h) ?_
  iterate 6 (refine ycM rfl (by rfl) (fun w h=>by go_simp<;>rfl) ?_;try simp only[Act.put,sA,sB,sC])
  refine ZcD (rs:=[6,9]) (by kernel_rfl) (by simp) ?_
  refine ZgP rfl (fun K hK=>?_) (ZgP rfl (fun K hK=>?_) (ZgQ.nil))
  ·go_simp
   refine(eb.out _ (ap.drew)).mono ?_
   rintro e V4 ⟨rfl,hb⟩
   dsimp only
   have ae:Hid (Bw W3 V4):=⟨hb.os,hb.tape,hb.output,hb.size,hb.block⟩
   clear hb
   refine hK.out _ _ (fun _=>HD.out _ ae) ?_
   try simp only[Act.put,sA,sB,sC]
   refine tkM [7,8] (HD.out _ ae) (by kernel_rfl) (fun _ _ _ _ h=>h) ?_
   iterate 2 (refine ycM rfl (by rfl) (fun w h=>by go_simp<;>rfl) ?_;try simp only[Act.put,sA,sB,sC])
   refine onM 9 (by kernel_rfl) rfl fun K hK=>?_
   go_simp
   have al:Hid (Bk (V4.alloc (.cells #[I 0,I 0,I 0,I 0,I 0] 45)) V4.heap.size 45 #[I 0,I 0,I 0,I 0,I 0]):=Bk.new _ _ _
   have ak:Hid (Bw W3 (V4.alloc (.cells #[I 0,I 0,I 0,I 0,I 0] 45))):=ae.alloc ae.size _
   have R:Hid (W3.heap.size≤V4.heap.size):=ae.size
   refine hK.out _ _ (fun _=>HD.out _ ak) ?_
   try simp only[Act.put,sA,sB,sC]
   refine onM 10 (by kernel_rfl) rfl fun K hK=>?_
   refine Zaq rfl 45 _ _ rfl V4.heap.size #[I oa,I oi,I ins,I oq,I op] rfl rfl 45 #[I 0,I 0,I 0,I 0,I 0] al ZmX (by rfl) (by simp[Value.oneCell']) ?_
   refine hK.out _ _ (fun h0=>Zac (by kernel_rfl) h0) ?_
   refine Zak (by kernel_rfl) ?_ _
   go_wp2
   go_meet
   exact⟨_,rfl,R,(ZaB ak R _),al.row _⟩
  ·go_simp
   have aJ:Hid (Bk (W3.alloc (.cells #[I 0,I 0,I 0,I 0,I 0] 45)).drew W3.heap.size 45 #[I 0,I 0,I 0,I 0,I 0]):=Bk.drew (Bk.new _ _ _)
   have ae:Hid (Bw W3 (W3.alloc (.cells #[I 0,I 0,I 0,I 0,I 0] 45)).drew):=((Below.refl _ W3).alloc (Nat.le_refl _) _).drew
   obtain⟨V4,aZ⟩:=ExY ((W3.alloc (.cells #[I 0,I 0,I 0,I 0,I 0] 45)).drew)
   rw[←aZ]
   rw[←aZ] at aJ ae
   clear aZ
   refine hK.out _ _ (fun _=>HD.out _ ae) ?_
   try simp only[Act.put,sA,sB,sC]
   refine onM 6 (by kernel_rfl) rfl fun K hK=>?_
   go_simp
   refine(eb.out _ (ap.trans (ae.mono ap.size))).mono ?_
   rintro e V5 ⟨rfl,hb⟩
   dsimp only
   have ak:=blT ae hb
   have al:Hid (Bk V5 W3.heap.size 45 #[I 0,I 0,I 0,I 0,I 0]):=bkN aJ hb
   have R:Hid (W3.heap.size≤W3.heap.size):=Nat.le_refl _
   clear hb
   refine hK.out _ _ (fun _=>HD.out _ ak) ?_
   try simp only[Act.put,sA,sB,sC]
   refine tkM [7,8] (HD.out _ ak) (by kernel_rfl) (fun _ _ _ _ h=>h) ?_
   iterate 2 (refine ycM rfl (by rfl) (fun w h=>by go_simp<;>rfl) ?_;try simp only[Act.put,sA,sB,sC])
   refine onM 10 (by kernel_rfl) rfl fun K hK=>?_
   refine Zaq rfl 45 _ _ rfl W3.heap.size #[I oa,I oi,I ins,I oq,I op] rfl rfl 45 #[I 0,I 0,I 0,I 0,I 0] al ZmX (by rfl) (by simp[Value.oneCell']) ?_
   refine hK.out _ _ (fun h0=>Zac (by kernel_rfl) h0) ?_
   refine Zak (by kernel_rfl) ?_ _
   go_wp2
   go_meet
   exact⟨_,rfl,R,(ZaB ak R _),al.row _⟩
 case rest=>
 obtain⟨aY,rfl,HW⟩:=hcut
 have hb:=HW.2.1
 have aA:=blT ap hb
 have bR:=bkN bw hb
 have cN:=bkN bs hb
 have cQ:=bkN bu hb
 have aw:=bkN c0 hb
 have bW:=bkN cW hb
 have ce:=bkN c5 hb
 have cK:=boB em hb
 clear hb
 have aD:Hid (Bk wc aY 45 #[I oa,I oi,I ins,I oq,I op]):=HW.2.2
 clear HW
 rename World=>W4
 have L:=bR.nine
 have s:=cN.one
 have z:=cQ.one
 have E:=aw.one
 have C:=bW.one
 have G:=ce.nine
 have J:=aD.five
 go_upto_if 41 with(fail)
 go_cut [] (fun wx=>∃sq:Int,Hid (sq=ZcY oq qty)∧Hid (W4.grownBy wx (some bq))∧Hid (Below bl w wx)∧Hid (Bk wx bq 3 #[I sq]))
 case first=>
  have cJ:Hid (Below bl w W4):=aA.mono (Nat.le_of_lt bv.lt)
  by_cases d1:oq<0
  ·have iw:IntKind.i64.wrap (-qty) = -qty:=IntWalk.i64_in _ (by have h1:=el.out;have h2:=fw.out;omega)
   have bG:Hid (-qty=ZcY oq qty):=by unfold ZcY;rw[if_pos d1];exact rfl
   go_upto_region 7 with(fail)
   obtain⟨V6,a0⟩:=ExY (W4.setCell ⟨bq,0,none⟩ (I (-qty)))
   rw[←a0]
   have dk:Hid (W4.grownBy V6 (some bq)):=by rw[a0];exact Zkp _ _ _ _
   have fb:Hid (Below bl w V6):=by rw[a0];exact cJ.setCell (p:=Aq bq 0) (Nat.le_of_lt fc) _
   have fx:Hid (Bk V6 bq 3 #[I (-qty)]):=bkS aw 0 a0
   have fv:Hid (Bk V6 bp 3 #[I price]):=by rw[a0];exact bW.far (p:=Aq bq 0) aM _
   have e6:=bkF aD a0 aw rfl
   clear a0 L s z E C G J
   have fM:=fv.one
   have fN:=e6.five
   by_cases d2:op≤price
   ·go_wp2_with fail
    refine(ZdG _ 37 _).mono ?_
    rintro e w' ⟨aI,he|he⟩
    ·subst he
     rw[aI]
     clear aI w'
     dsimp only
     go_wp2
     go_meet
     exact⟨_,bG,dk,fb,fx⟩
    ·unfold Pan at he
     subst he
     rw[aI]
     clear aI w'
     dsimp only
     go_wp2
     exact⟨rfl,Za6 (Zae (ZaG w _) aA (Nat.le_refl _)) dk,Zdt.no (by decide) trivial⟩
   ·go_wp2_with fail
    refine Cq (Zav 37 _) ?_
    dsimp only
    go_wp2
    exact⟨rfl,Za6 (Zae (ZaG w _) aA (Nat.le_refl _)) dk,Zdt.no (by decide) trivial⟩
  ·have bG:Hid (qty=ZcY oq qty):=by unfold ZcY;rw[if_neg d1];exact rfl
   by_cases d2:1≤price
   ·go_wp2_with fail
    refine(ZdG _ 37 _).mono ?_
    rintro e w' ⟨aI,he|he⟩
    ·subst he
     rw[aI]
     clear aI w'
     dsimp only
     go_wp2
     go_meet
     exact⟨_,bG,ZaG _ _,cJ,aw⟩
    ·unfold Pan at he
     subst he
     rw[aI]
     clear aI w'
     dsimp only
     go_wp2
     exact⟨rfl,Zae (ZaG w _) aA (Nat.le_refl _),Zdt.no (by decide) trivial⟩
   ·go_wp2_with fail
    refine Cq (Zav 37 _) ?_
    dsimp only
    go_wp2
    exact⟨rfl,Zae (ZaG w _) aA (Nat.le_refl _),Zdt.no (by decide) trivial⟩
 case rest=>
 obtain⟨sq,bG,aK,cw,d7⟩:=hcut
 rename World=>X
 clear L s z E C G J
 have am:Hid (Bk X bl 37 m.ar):=bR.gone aK (bR.ne aw (by decide))
 have bI:Hid (Bk X ba 3 #[I acct]):=cN.gone aK ck
 have bM:Hid (Bk X bi 3 #[I id]):=cQ.gone aK cl
 have b7:Hid (Bk X bq 3 #[I sq]):=d7
 have bX:Hid (Bk X bp 3 #[I price]):=bW.gone aK aM
 have cf:Hid (Bk X bz 37 zZ):=ce.gone aK (ce.ne aw (by decide))
 have a9:Hid (Bk X aY 45 #[I oa,I oi,I ins,I oq,I op]):=aD.gone aK (aD.ne aw (by decide))
 have du:Hid (X.ownsRow w.heap.size 45 5 (.slice A1 ls.length c1) ls.length (O.lcs ls)):=ZaF cK fun p hp=>by
  have h:=ZaP cK p hp
  have h2:=cX.lt
  exact aK.block _ h.2 (fun e=>by injection e with e;omega)
 have bx:Hid (w.grownBy X (some bq)):=Za6 (Zae (ZaG w _) aA (Nat.le_refl _)) aK
 have aL:Hid (w.heap.size≤X.heap.size):=bx.size
 have dn:Hid (∀V,Bw X V→Zay V V.heap.size m):=fun V hV=>(cx.below (cw.trans (hV.mono (Nat.le_of_lt am.lt)))).mono (Nat.le_trans (Nat.le_of_lt am.lt) hV.size)
 have ec:Hid (∀V,Bw X V→Gl V):=fun V hV=>fo.out V (cw.trans (hV.mono (Nat.le_of_lt am.lt)))
 have di:Hid (Bw X X):=Below.refl _ _
 have cG:=Zbr bH.1
 have fB:=Hi cG
 have eI:=cG.ord _ (show(m.orders.getD k default)∈m.orders by simp[ee.out])
 rw[←ed.out] at eI
 obtain⟨q,hq⟩:∃q:Nat,ins=(q:Int):=⟨ins.toNat,by omega⟩
 have fy:=Hi (ed.symm.trans hq)
 subst hq
 have cu:q<m.instrs.length:=by omega
 obtain⟨ab,cE,ez,az⟩:=Zmg cx.instrs cu
 have fH:m.instrs.getD q default=m.instrs[q]:=by simp[cu]
 obtain⟨kind,cq⟩:=ExY ((m.instrs[q]).kind)
 obtain⟨un,d5⟩:=ExY ((m.instrs[q]).under)
 obtain⟨mult,ct⟩:=ExY ((m.instrs[q]).mult)
 obtain⟨strike,aP⟩:=ExY ((m.instrs[q]).strike)
 obtain⟨expiry,c9⟩:=ExY ((m.instrs[q]).expiry)
 obtain⟨fG,c8⟩:=ExY ((m.instrs[q]).call)
 obtain⟨mark,cr⟩:=ExY ((m.instrs[q]).mark)
 have db:=cG.ins _ (List.getElem_mem cu)
 rw[←cq,←d5,←ct,←aP,←c9,←c8,←cr] at az
 rw[←d5] at db
 obtain⟨uu,rfl⟩:∃q:Nat,un=(q:Int):=⟨un.toNat,by omega⟩
 have cv:uu<m.unders.length:=by omega
 obtain⟨au,eA,eB,co⟩:=Zmj cx.unders cv
 obtain⟨fO,dc⟩:=ExY ((m.unders[uu]).name)
 obtain⟨cH,da⟩:=ExY ((m.unders[uu]).cur)
 obtain⟨fP,dd⟩:=ExY ((m.unders[uu]).price)
 obtain⟨fQ,de⟩:=ExY ((m.unders[uu]).vol)
 rw[←dc,←da,←dd,←de] at co
 have ff:=Hi co
 have fa:=Hi eA
 have e8:=Hi cE
 obtain⟨y0,y1,y2,y3,y4,y5,y6⟩:=az X cw
 have k1:(q:Int)<(m.instrs.length:Int):=Int.ofNat_lt.mpr cu
 have k0:(0:Int)≤(q:Int):=Int.natCast_nonneg q
 have j1:(uu:Int)<(m.unders.length:Int):=Int.ofNat_lt.mpr cv
 have j0:(0:Int)≤(uu:Int):=Int.natCast_nonneg uu
 have fr:=Hi j1
 have fq:=Hi j0
 clear cG eI cu cE ez az fH cq d5 ct aP c9 c8 cr db cv eA eB co dc da dd de j1 j0
 obtain⟨eP,eQ,eR,dh,eS,eT,eU,eV,eW,eX,eY,eZ,e0,e1,e2,e3,e4,e5,fI⟩:=am.nine
 have s:=bI.one
 have z:=bM.one
 have E:=b7.one
 have C:=bX.one
 have G:=cf.nine
 have J:=a9.five
 rw[e8.out] at dh
 obtain⟨fE,aj⟩:=ExY (X.alloc (.cells #[I kind,I uu,I mult,I strike,I expiry,.bool fG,I mark] 66))
 obtain⟨ex,cm⟩:=ExY X.heap.size
 have aQ:=blA di aj
 have bS:=bkA am aj
 have bJ:=bkA bI aj
 have bN:=bkA bM aj
 have b8:=bkA b7 aj
 have bY:=bkA bX aj
 have cg:=bkA cf aj
 have bb:Hid (Bk fE aY 45 #[I oa,I oi,I q,I oq,I op]):=bkA a9 aj
 have dv:=boC du aj
 have bg:=bkW aj cm
 go_upto_region 10 with(fail)
 rw[←aj,←cm]
 clear aj cm
 clear y0 y1 y2 y3 y4 y5 y6
 clear eP eQ eR dh eS eT eU eV eW eX eY eZ e0 e1 e2 e3 e4 e5 fI s z E C G J
 have L:=bS.nine
 have s:=bJ.one
 have z:=bN.one
 have E:=b8.one
 have C:=bY.one
 have G:=cg.nine
 have J:=bb.five
 have ac:=bg.seven
 obtain⟨⟨ps,dg⟩,d4⟩:∃p,p=P.addL m.poss acct (q:Int) sq:=⟨_,rfl⟩
 have a6:=e9.out bH (q:Int) sq
 rw[←d4] at a6
 replace a6:=Hi a6
 have ej:=Hi d4
 clear d4
 go_wp2_with fail
 have eg:=Hi aQ.size
 refine(a6.out _ (dn.out _ aQ)).mono ?_
 rintro e dS ⟨A2,c2,rfl,h1,h2,ho,hb⟩
 dsimp only at ho h1
 have bB:=blT aQ hb
 have bT:=bkN bS hb
 have aS:=bkN bJ hb
 have aT:=bkN bN hb
 have aV:=bkN b8 hb
 have aU:=bkN bY hb
 have ch:=bkN cg hb
 have bc:=bkN bb hb
 have bh:=bkN bg hb
 have dw:=boB dv hb
 clear L s z E C G J ac
 clear hb
 have L:=bT.nine
 have s:=aS.one
 have z:=aT.one
 have E:=aV.one
 have C:=aU.one
 have G:=ch.nine
 have J:=bc.five
 have ac:=bh.seven
 have dz:Hid (dS.ownsRow w.heap.size 50 3 (.slice A2 ps.length c2) ps.length (P.lcs ps)):=Zap ho (Nat.le_trans aL eg)
 clear h1 h2 ho
 dsimp only
 by_cases a5:dg=0
 rotate_left
 ·go_wp2_with fail
  refine Cq (ZbJ dg a5 _) ?_
  dsimp only
  go_wp2
  exact⟨rfl,Zae bx bB aL,Zdt.no a5 trivial⟩
 subst a5
 go_wp2_with fail
 refine Cq (ZbZ _) ?_
 dsimp only
 have dm:Hid (ps.length≤1000000):=by
  have h:=ZkK (a:=acct) (i:=(q:Int)) (q:=sq) (Nat.le_trans fB.lens.2.2.2.2.1 (by decide))
  rw[←ej.out] at h
  exact h
 go_upto_region 12 with(fail)
 go_wp2_with fail
 clear L s z E C G J ac
 obtain⟨Y,af⟩:=ExY (dS.alloc (.cells #[I sq,I mult,I (wrap64 (price-mark))] 3))
 obtain⟨bt,a1⟩:=ExY dS.heap.size
 have eq:Hid (bt≠ba):=by
  have h:=aS.lt
  show bt≠ba
  rw[a1]
  exact Ne.symm (Nat.ne_of_lt h)
 have es:Hid (bt≠bi):=by
  have h:=aT.lt
  show bt≠bi
  rw[a1]
  exact Ne.symm (Nat.ne_of_lt h)
 have eu:Hid (bt≠bq):=by
  have h:=aV.lt
  show bt≠bq
  rw[a1]
  exact Ne.symm (Nat.ne_of_lt h)
 have et:Hid (bt≠bp):=by
  have h:=aU.lt
  show bt≠bp
  rw[a1]
  exact Ne.symm (Nat.ne_of_lt h)
 have ai:=blA bB af
 have aq:=bkA bT af
 have aE:=bkA aS af
 have bO:=bkA aT af
 have b9:=bkA aV af
 have bZ:=bkA aU af
 have aX:=bkA ch af
 have bd:=bkA bc af
 have ao:=bkA bh af
 have dx:=boC dw af
 have dA:=boC dz af
 have aW:=bkW af a1
 rw[←af,←a1]
 clear af a1
 obtain⟨⟨c7,c6⟩,eG⟩:∃p,p=Zes [sq,mult,wrap64 (price-mark)] 1:=⟨_,rfl⟩
 have ei:=Hi (ZfD (some (Aq bt 0)) 3 3 [sq,mult,wrap64 (price-mark)] Y (by omega) (Zhp (k:=1) (n:=3) (xs:=[I sq,I mult,I (wrap64 (price-mark))]) aW rfl))
 rw[←eG] at ei
 clear eG
 refine Cq (ei.out) ?_
 dsimp only
 have L:=aq.nine
 have s:=aE.one
 have z:=bO.one
 have E:=b9.one
 have C:=bZ.one
 have G:=aX.nine
 have J:=bd.five
 have ac:=ao.seven
 have ay:=aW.three
 by_cases a2:c6=0
 rotate_left
 ·go_wp2_with fail
  refine Cq (ZbJ c6 a2 _) ?_
  dsimp only
  go_wp2
  exact⟨rfl,Zae bx ai aL,Zdt.no a2 trivial⟩
 subst a2
 go_wp2_with fail
 refine Cq (ZbZ _) ?_
 dsimp only
 have HD:Hid (∀U,Bw Y U→(fun U=>Bk U bl 37 m.ar∧U.cell? (Aq bl 2)=some (.slice (some au) m.unders.length m.sUnd.c)∧U.cell? (Aq ex 1)=some (I uu)∧U.cell? ⟨(au.add (uu*4)).block,(au.add (uu*4)).off+1,none⟩=some (I cH)∧U.cell? (Aq ba 0)=some (I acct)) U):=fun U hU=>by
  have h1:=aq.below hU aq.lt
  have h2:=ao.below hU ao.lt
  have h3:=aE.below hU aE.lt
  have h4:=Ct h1 2 rfl
  rw[fa.out] at h4
  have h5:=ff.out U (cw.trans ((ai.trans (hU.mono ai.size)).mono (Nat.le_of_lt am.lt)))
  exact⟨h1,h4,h2.cell 1,h5.2.1,h3.cell 0⟩
 have j1:=fr.out
 have j0:=fq.out
 go_upto_region 14 with(fail)
 clear L s z E C G J ac ay
 go_cut [9,14] (fun v9 fK wx=>∃(ah:Nat) (m2:Zab) (er:Int),v9=I er∧fK=Pt ah∧Hid (Y.heap.size≤ah∧Bw Y wx∧Bk wx ah 37 m2.ar∧(er=0→Zbi m m2∧Zaa wx Y.heap.size m2)))
 have zi:(prog.info? 37).map (·.size)=some (m.ar:Array Value).size:=by kernel_rfl
 have fF:=Hi zi
 clear zi
 case first=>
  refine Zbf (fun U=>Bk U bl 37 m.ar∧U.cell? (Aq bl 2)=some (.slice (some au) m.unders.length m.sUnd.c)∧U.cell? (Aq ex 1)=some (I uu)∧U.cell? ⟨(au.add (uu*4)).block,(au.add (uu*4)).off+1,none⟩=some (I cH)∧U.cell? (Aq ba 0)=some (I acct)) 16 (by kernel_rfl) ?_
  refine Zjq (i:=0) (v:=(.agg m.ar)) rfl (by kernel_rfl) (by kernel_rfl) (by kernel_rfl) (by kernel_rfl) (by kernel_rfl) (fun _ _ _ h=>h) (Or.inl ⟨by rfl,?_⟩) (HD.out _ (Below.refl _ Y).drew) ?_
  ·intro w ey
   try dsimp only at ey
   obtain⟨q0,q1,q2,q3,q4⟩:=ey
   exact Za9 37 _ rfl bl rfl 37 _ (0,0) _ q0 underlying37 rfl fF
  try simp only[Act.put,sA,sB,sC]
  refine tkM [1,2,3,4,5,6,7,8,9] (HD.out _ (Below.refl _ Y).drew) (by kernel_rfl) (fun _ _ _ _ h=>h) ?_
  iterate 9 (refine ycM rfl (by rfl) (fun w h=>by go_simp<;>rfl) ?_;try simp only[Act.put,sA,sB,sC])
  refine ZcD (rs:=[10,14]) (by kernel_rfl) (by simp) ?_
  refine ZgP rfl (fun K hK=>?_) (ZgP rfl (fun K hK=>?_) (ZgQ.nil))
  ·go_simp
   refine(ek.out m cH c7 acct 0 _ (dn.out _ (ai.drew))).mono ?_
   rintro e V4 ⟨hb,m2,er,he,hc⟩
   have an:m2.val=.agg m2.ar:=rfl
   rw[an] at he
   clear an
   subst he
   have ae:Hid (Bw Y V4):=⟨hb.os,hb.tape,hb.output,hb.size,hb.block⟩
   have d8:Hid (er=0→Zbi m m2∧Zaa V4 Y.heap.size m2):=fun h=>by
    rcases hc with⟨_,h1,h2⟩|h1
    ·exact⟨h1,h2⟩
    ·exact absurd h h1
   clear hb hc
   dsimp only
   refine hK.out _ _ (fun _=>HD.out _ ae) ?_
   try simp only[Act.put,sA,sB,sC]
   refine tkM [11,12,13] (HD.out _ ae) (by kernel_rfl) (fun _ _ _ _ h=>h) ?_
   iterate 3 (refine ycM rfl (by rfl) (fun w h=>by go_simp<;>rfl) ?_;try simp only[Act.put,sA,sB,sC])
   refine onM 14 (by kernel_rfl) rfl fun K hK=>?_
   go_simp
   have al:Hid (Bk (V4.alloc (.cells zZ 37)) V4.heap.size 37 zZ):=Bk.new _ _ _
   have ak:Hid (Bw Y (V4.alloc (.cells zZ 37))):=ae.alloc ae.size _
   have R:Hid (Y.heap.size≤V4.heap.size):=ae.size
   have bE:Hid (er=0→Zbi m m2∧Zaa (V4.alloc (.cells zZ 37)) Y.heap.size m2):=fun h=>⟨(d8.out h).1,(d8.out h).2.below ((Below.refl _ _).alloc (Nat.le_refl _) _)⟩
   refine hK.out _ _ (fun _=>HD.out _ ak) ?_
   try simp only[Act.put,sA,sB,sC]
   refine onM 15 (by kernel_rfl) rfl fun K hK=>?_
   refine Zaq rfl 37 _ _ rfl V4.heap.size m2.ar rfl rfl 37 zZ al ZaU (by rfl) (by simp[Value.oneCell']) ?_
   refine hK.out _ _ (fun _=>HD.out _ (ZaB ak R _)) ?_
   try simp only[Act.put]
   refine onM 16 (by kernel_rfl) rfl fun K hK=>?_
   go_simp
   refine hK.out _ _ (fun h0=>Zac (by kernel_rfl) h0) ?_
   refine Zak (by kernel_rfl) ?_ _
   go_wp2
   go_meet
   exact⟨_,m2,er,rfl,rfl,R,ZaB ak R _,al.row _,fun h=>⟨(bE.out h).1,(bE.out h).2.rowFar al (by decide) _⟩⟩
  ·go_simp
   have aJ:Hid (Bk (Y.alloc (.cells zZ 37)).drew Y.heap.size 37 zZ):=Bk.drew (Bk.new _ _ _)
   have ae:Hid (Bw Y (Y.alloc (.cells zZ 37)).drew):=((Below.refl _ Y).alloc (Nat.le_refl _) _).drew
   obtain⟨V4,aZ⟩:=ExY ((Y.alloc (.cells zZ 37)).drew)
   rw[←aZ]
   rw[←aZ] at aJ ae
   clear aZ
   refine hK.out _ _ (fun _=>HD.out _ ae) ?_
   try simp only[Act.put,sA,sB,sC]
   refine onM 10 (by kernel_rfl) rfl fun K hK=>?_
   go_simp
   refine(ek.out m cH c7 acct 0 _ (dn.out _ (ai.trans (ae.mono ai.size)))).mono ?_
   rintro e V5 ⟨hb,m2,er,he,hc⟩
   have an:m2.val=.agg m2.ar:=rfl
   rw[an] at he
   clear an
   subst he
   have ak:=blT ae hb
   have al:Hid (Bk V5 Y.heap.size 37 zZ):=bkN aJ hb
   have R:Hid (Y.heap.size≤Y.heap.size):=Nat.le_refl _
   have bE:Hid (er=0→Zbi m m2∧Zaa V5 Y.heap.size m2):=fun h=>by
    rcases hc with⟨_,h1,h2⟩|h1
    ·exact⟨h1,h2.mono ae.size⟩
    ·exact absurd h h1
   clear hb hc
   dsimp only
   refine hK.out _ _ (fun _=>HD.out _ ak) ?_
   try simp only[Act.put,sA,sB,sC]
   refine tkM [11,12,13] (HD.out _ ak) (by kernel_rfl) (fun _ _ _ _ h=>h) ?_
   iterate 3 (refine ycM rfl (by rfl) (fun w h=>by go_simp<;>rfl) ?_;try simp only[Act.put,sA,sB,sC])
   refine onM 15 (by kernel_rfl) rfl fun K hK=>?_
   refine Zaq rfl 37 _ _ rfl Y.heap.size m2.ar rfl rfl 37 zZ al ZaU (by rfl) (by simp[Value.oneCell']) ?_
   refine hK.out _ _ (fun _=>HD.out _ (ZaB ak R _)) ?_
   try simp only[Act.put]
   refine onM 16 (by kernel_rfl) rfl fun K hK=>?_
   go_simp
   refine hK.out _ _ (fun h0=>Zac (by kernel_rfl) h0) ?_
   refine Zak (by kernel_rfl) ?_ _
   go_wp2
   go_meet
   exact⟨_,m2,er,rfl,rfl,R,ZaB ak R _,al.row _,fun h=>⟨(bE.out h).1,(bE.out h).2.rowFar al (by decide) _⟩⟩
 case rest=>
 obtain⟨ah,m2,er,rfl,rfl,HW⟩:=hcut
 have hb:=HW.2.1
 have br:Hid (X.heap.size≤ah):=Nat.le_trans ai.size HW.1
 have aB:Hid (ah≠bl):=by
  have h1:=aq.lt
  have h2:=HW.1
  show ah≠bl
  omega
 have aC:Hid (ah≠bz):=by
  have h1:=aX.lt
  have h2:=HW.1
  show ah≠bz
  omega
 have fD:Hid (w.heap.size≤Y.heap.size):=Nat.le_trans aL ai.size
 have bC:=blT ai hb
 have bU:=bkN aq hb
 have bK:=bkN aE hb
 have bP:=bkN bO hb
 have ca:=bkN b9 hb
 have b0:=bkN bZ hb
 have ci:=bkN aX hb
 have be:=bkN bd hb
 have bj:=bkN ao hb
 have cc:=bkN aW hb
 have dy:=boB dx hb
 have dB:=boB dA hb
 clear hb
 have N:Hid (Bk wc ah 37 m2.ar):=HW.2.2.1
 have d9:Hid (er=0→Zbi m m2∧Zaa wc Y.heap.size m2):=HW.2.2.2
 clear HW j1 j0
 rename World=>ew
 by_cases a3:er=0
 rotate_left
 ·go_wp2_with fail
  refine Cq (ZbJ er a3 _) ?_
  dsimp only
  go_wp2
  exact⟨rfl,Zae bx bC aL,Zdt.no a3 trivial⟩
 subst a3
 have fA:=Hi (d9.out rfl).1
 have dp:Hid (Zaa ew w.heap.size m2):=(d9.out rfl).2.mono fD
 go_wp2_with fail
 refine Cq (ZbZ _) ?_
 dsimp only
 have L:=bU.nine
 have s:=bK.one
 have z:=bP.one
 have E:=ca.one
 have C:=b0.one
 have G:=ci.nine
 have J:=be.five
 have ac:=bj.seven
 have ay:=cc.three
 have ax:=N.nine
 go_upto_region 17 with(fail)
 obtain⟨bA,ad⟩:=ExY (ew.setCell ⟨ah,6,none⟩ (.slice A1 ls.length c1))
 rw[←ad]
 have dj:Hid (Bw X bA):=by rw[ad];exact(bC.setCell (p:=Aq ah 6) br _)
 have dH:Hid (Bk bA bl 37 m.ar):=by rw[ad];exact(bU.far (p:=Aq ah 6) ((Ne.symm aB)) _)
 have dD:=bkF bK ad N rfl
 have dF:=bkF bP ad N rfl
 have dL:=bkF ca ad N rfl
 have dJ:=bkF b0 ad N rfl
 have dP:Hid (Bk bA bz 37 zZ):=by rw[ad];exact(ci.far (p:=Aq ah 6) ((Ne.symm aC)) _)
 have cy:=bkF be ad N rfl
 have cA:=bkF bj ad N rfl
 have dN:=bkF cc ad N rfl
 have Z:Hid (Bk bA ah 37 (m2.ar_O (.slice A1 ls.length c1))):=bkS N 6 ad
 have dq:Hid (Zaa bA w.heap.size {m2 with orders:=ls,sOrd:=⟨A1,c1⟩}):=by rw[ad];exact(Zaa.far (Zaa.setOrd dp dy ef) N (by decide) 6 _)
 have dC:=boO dB ad N rfl
 clear L s z E C G J ac ay ax
 clear ad
 obtain⟨aN,ag⟩:=ExY (bA.setCell ⟨ah,5,none⟩ (.slice A2 ps.length c2))
 rw[←ag]
 have aR:Hid (Bw X aN):=by rw[ag];exact(dj.setCell (p:=Aq ah 5) br _)
 have bV:Hid (Bk aN bl 37 m.ar):=by rw[ag];exact(dH.far (p:=Aq ah 5) ((Ne.symm aB)) _)
 have bL:=bkF dD ag Z rfl
 have bQ:=bkF dF ag Z rfl
 have cb:=bkF dL ag Z rfl
 have b6:=bkF dJ ag Z rfl
 have cj:Hid (Bk aN bz 37 zZ):=by rw[ag];exact(dP.far (p:=Aq ah 5) ((Ne.symm aC)) _)
 have bf:=bkF cy ag Z rfl
 have bn:=bkF cA ag Z rfl
 have cd:=bkF dN ag Z rfl
 have bo:Hid (Bk aN ah 37 (m2.ar_PO (.slice A2 ps.length c2) (.slice A1 ls.length c1))):=bkS Z 5 ag
 have dr:Hid (Zaa aN w.heap.size {m2 with orders:=ls,sOrd:=⟨A1,c1⟩,poss:=ps,sPos:=⟨A2,c2⟩}):=by rw[ag];exact(Zaa.far (Zaa.setPos dq dC dm) Z (by decide) 5 _)
 clear ag
 have L:=bV.nine
 have s:=bL.one
 have z:=bQ.one
 have E:=cb.one
 have C:=b6.one
 have G:=cj.nine
 have J:=bf.five
 have ac:=bn.seven
 have ay:=cd.three
 have ax:=bo.nine
 have fh:Hid (Calls prog 48 #[.agg (m2.ar_PO (.slice A2 ps.length c2) (.slice A1 ls.length c1))] aN fun e w'=>Bw aN w'∧Zd5 144 (Zbo {m2 with orders:=ls,sOrd:=⟨A1,c1⟩,poss:=ps,sPos:=⟨A2,c2⟩}) (Zb8 {m2 with orders:=ls,sOrd:=⟨A1,c1⟩,poss:=ps,sPos:=⟨A2,c2⟩}) aN.heap.size e w'):=fk.out _ {m2 with orders:=ls,sOrd:=⟨A1,c1⟩,poss:=ps,sPos:=⟨A2,c2⟩} dr.rd (ec.out _ aR)
 go_wp2_with fail
 have eh:=Hi aR.size
 refine(fh.out).mono ?_
 rintro e dT ⟨hb,he⟩
 have ea:=Hi he
 clear he
 have bD:=blT aR hb
 have dI:=bkN bV hb
 have dE:=bkN bL hb
 have dG:=bkN bQ hb
 have dM:=bkN cb hb
 have dK:=bkN b6 hb
 have aF:=bkN cj hb
 have cz:=bkN bf hb
 have cC:=bkN bn hb
 have dO:=bkN cd hb
 have cD:=bkN bo hb
 clear L s z E C G J ac ay ax
 clear hb
 have L:=dI.nine
 have s:=dE.one
 have z:=dG.one
 have E:=dM.one
 have C:=dK.one
 have G:=aF.nine
 have J:=cz.five
 have ac:=cC.seven
 have ay:=dO.three
 have ax:=cD.nine
 rcases ea.out with⟨m4,he,ho,hr⟩|⟨er,a3,he,d0⟩
 rotate_left
 ·unfold Pan at he
  subst he
  dsimp only
  clear d0
  go_wp2
  exact⟨rfl,Zae bx bD aL,Zdt.no a3 trivial⟩
 have an:m4.val=.agg m4.ar:=rfl
 rw[an] at he
 clear an
 subst he
 have fz:=Hi hr
 have ds:Hid (Zaa dT w.heap.size m4):=ho.mono (Nat.le_trans aL eh)
 clear hr ho
 dsimp only
 go_wp2_with (refine wpList_store_row rfl 37 _ _ rfl bz m4.ar rfl rfl 37 zZ aF ZaU (by rfl) (by simp[Value.oneCell']) ?_)
 clear L s z E C G J ac ay ax
 obtain⟨dU,aO⟩:=ExY (dT.setRow bz m4.ar)
 rw[←aO]
 have fp:Hid (w.grownBy dU (some bq)):=by rw[aO];exact Zae (Zae bx bD aL) (ZaB (Below.refl _ dT) dR _) (Nat.le_refl _)
 have dQ:Hid (Bk dU bz 37 m4.ar):=by rw[aO];exact aF.row _
 have dt:=boR ds aO aF (by decide)
 clear aO
 have key:P.addL m.poss acct (m.orders.getD k default).instr (ZcY (m.orders.getD k default).qty qty)=(ps,0):=by
  rw[fy.out,←fs.out,←bG.out]
  exact ej.symm
 exact bodyPost_ret (Zaw (p:=5) (q:=6) results55 _ dU bz 37 m4.ar (0,0) _ rfl dQ underlying37 rfl ZaU) rfl ⟨fp,Zdt.yes m4 rfl dt
  ⟨bH,by rw[←bF.out],by rw[←bF.out],el,k,m2,⟨A1,c1⟩,⟨A2,c2⟩,ee,fm,by rw[key],fA,by rw[key,←bF.out];exact fz.out⟩⟩
theorem Zh4(m:Zab)(E acct id s qty z:Int)(w:World)(hm:Zay w w.heap.size m)(an:Gl w):
 Calls prog 27 #[m.val,I E,(⟨acct,id,s,qty,z⟩:O.Lc).val] w (Zar (Zb5 m E ⟨acct,id,s,qty,z⟩) (True) w):=by
 show Calls prog 27 #[.agg m.ar,I E,.agg #[I acct,I id,I s,I qty,I z]] w (Zar (Zb5 m E ⟨acct,id,s,qty,z⟩) (True) w)
 obtain⟨W1,U⟩:=ExY (w.alloc (.cells m.ar 37))
 obtain⟨bl,aa⟩:=ExY w.heap.size
 have ao:=blB U
 have aw:=bkW U aa
 obtain⟨W2,R⟩:=ExY (W1.alloc (.cells #[I E] 3))
 obtain⟨bi,Z⟩:=ExY W1.heap.size
 have ac:=blA ao R
 have ax:=bkA aw R
 have aq:=bkW R Z
 have ah:bi=bl+1:=by rw[Z,U,World.size_alloc,←aa]
 obtain⟨W3,J⟩:=ExY (W2.alloc (.cells #[I acct,I id,I s,I qty,I z] 45))
 obtain⟨bo,X⟩:=ExY W2.heap.size
 have ad:=blA ac J
 have G:=blZ ac X
 have ay:=bkA ax J
 have au:=bkA aq J
 have az:=bkW J X
 have ai:bo=bi+1:=by rw[X,R,World.size_alloc,←Z]
 obtain⟨W4,L⟩:=ExY (W3.alloc (.cells zZ 37))
 obtain⟨bz,ab⟩:=ExY W3.heap.size
 have C:=blA ad L
 have al:=blZ ad ab
 have af:=bkA ay L
 have ae:=bkA au L
 have N:=bkA az L
 have ag:=bkW L ab
 have aj:bz=bo+1:=by rw[ab,J,World.size_alloc,←X]
 have ap:Hid (bz≠bo):=by
  show bz≠bo
  have h1:=ag.out
  have h2:=N.out
  exact h1.ne h2 (by decide)
 have HT:=Hi (Zey 52 #[Pt bl,Pt bo,Pt bi] (Zb5 m E ⟨acct,id,s,qty,z⟩) (True) bo W4 N.lt (fun W=>by kernel_rfl) (by
  intro W hW
  exact Zhr m E acct id s qty z bl bi bo W (af.below hW af.lt) (ae.below hW ae.lt) (N.below hW N.lt) ((hm.below (C.trans (hW.mono C.size))).mono G) (fun V hV=>an.below ((C.trans (hW.mono C.size)).trans (hV.mono G)) an.lt)))
 clear hm an
 go_enter func27,ntmps27
 go_upto_region 1 with(fail)
 rw[←U,←aa,←R,←ah,←J,←ai,←L,←aj]
 clear U aa ah R Z ai J X aj L ab
 go_wp2_with fail
 refine HT.mono ?_
 rintro e W9 ⟨hg,m2,n,er,rfl,hc⟩
 have HC:=Hi hc
 have aA:Hid (Bw w W9):=C.trans (Zcb hg G C.size)
 have aB:=Hi C.size
 have am:Hid (Bk W9 bz 37 zZ):=ag.gone hg ap
 clear hg hc
 have ak:m2.val=.agg m2.ar:=rfl
 rw[ak]
 clear ak
 dsimp only
 go_wp2_with (refine wpList_store_row rfl 37 _ _ rfl bz m2.ar rfl rfl 37 zZ am ZaU (by rfl) (by simp[Value.oneCell']) ?_)
 obtain⟨V9,Y⟩:=ExY (W9.setRow bz m2.ar)
 rw[←Y]
 have aE:=bkr am Y
 have aC:=blr aA Y al
 have aD:(er=0∧Zaa V9 w.heap.size m2∧Zb5 m E ⟨acct,id,s,qty,z⟩ m2 n)∨(er≠0∧m2=Za4∧n=0∧True):=by
  rcases HC.out with⟨h1,h2,h3⟩|h
  ·exact .inl ⟨h1,by rw[Y];exact(h2.mono aB).rowFar am (by decide) _,h3⟩
  ·exact .inr h
 exact bodyPost_ret (Zam (p:=6) (q:=7) (r:=8) results27 _ V9 bz 37 m2.ar (0,0) _ rfl aE underlying37 rfl ZaU) rfl ⟨aC,m2,n,er,rfl,aD⟩
theorem ZkY(m:Zab)(acct id qty E:Int)(w:World)(hm:Zay w w.heap.size m)(ay:Gl w):
 Calls prog 28 #[m.val,I acct,I id,I qty,I E] w (Zar (Zc3 m acct id qty) (True) w):=by
 show Calls prog 28 #[.agg m.ar,I acct,I id,I qty,I E] w (Zar (Zc3 m acct id qty) (True) w)
 obtain⟨W1,U⟩:=ExY (w.alloc (.cells m.ar 37))
 obtain⟨bl,X⟩:=ExY w.heap.size
 have az:=blB U
 have R:=bl0 X
 have aK:=bkW U X
 obtain⟨W2,N⟩:=ExY (W1.alloc (.cells #[I acct] 3))
 obtain⟨ba,aa⟩:=ExY W1.heap.size
 have aA:=blA az N
 have aL:=bkA aK N
 have aD:=bkW N aa
 have al:ba=bl+1:=by rw[aa,U,World.size_alloc,←X]
 obtain⟨W3,J⟩:=ExY (W2.alloc (.cells #[I id] 3))
 obtain⟨bi,ab⟩:=ExY W2.heap.size
 have ae:=blA aA J
 have aM:=bkA aL J
 have aE:=bkA aD J
 have aH:=bkW J ab
 have am:bi=ba+1:=by rw[ab,N,World.size_alloc,←aa]
 obtain⟨W4,G⟩:=ExY (W3.alloc (.cells #[I qty] 3))
 obtain⟨bq,Y⟩:=ExY W3.heap.size
 have aB:=blA ae G
 have au:=blZ ae Y
 have aN:=bkA aM G
 have aF:=bkA aE G
 have aI:=bkA aH G
 have aQ:=bkW G Y
 have ao:bq=bi+1:=by rw[Y,J,World.size_alloc,←ab]
 obtain⟨W5,z⟩:=ExY (W4.alloc (.cells #[I E] 3))
 obtain⟨bp,ac⟩:=ExY W4.heap.size
 have af:=blA aB z
 have aO:=bkA aN z
 have aG:=bkA aF z
 have aJ:=bkA aI z
 have aR:=bkA aQ z
 have aP:=bkW z ac
 have an:bp=bq+1:=by rw[ac,G,World.size_alloc,←Y]
 obtain⟨W6,C⟩:=ExY (W5.alloc (.cells zZ 37))
 obtain⟨bz,ad⟩:=ExY W5.heap.size
 have s:=blA af C
 have aw:=blZ af ad
 have ai:=bkA aO C
 have ag:=bkA aG C
 have ah:=bkA aJ C
 have L:=bkA aR C
 have aj:=bkA aP C
 have ak:=bkW C ad
 have ap:bz=bp+1:=by rw[ad,z,World.size_alloc,←ac]
 have aC:Hid (bz≠bq):=by
  show bz≠bq
  have h1:=ak.out
  have h2:=L.out
  exact h1.ne h2 (by decide)
 have HT:=Hi (Zey 55 #[Pt bl,Pt ba,Pt bi,Pt bq,Pt bp] (Zc3 m acct id qty) (True) bq W6 L.lt (fun W=>by kernel_rfl) (by
  intro W hW
  exact ZjI m acct id qty E bl ba bi bq bp W (ai.below hW ai.lt) (ag.below hW ag.lt) (ah.below hW ah.lt) (L.below hW L.lt) (aj.below hW aj.lt) (by omega) (by omega) (by omega) (by omega) ((hm.below (s.trans (hW.mono s.size))).mono R) (fun V hV=>ay.below ((s.trans (hW.mono s.size)).trans (hV.mono R)) ay.lt)))
 clear hm ay
 go_enter func28,ntmps28
 go_upto_region 1 with(fail)
 rw[←U,←X,←N,←al,←J,←am,←G,←ao,←z,←an,←C,←ap]
 clear U X al N aa am J ab ao G Y an z ac ap C ad
 go_wp2_with fail
 refine HT.mono ?_
 rintro e W9 ⟨hg,m2,n,er,rfl,hc⟩
 have HC:=Hi hc
 have aS:Hid (Bw w W9):=s.trans (Zcb hg au s.size)
 have aT:=Hi s.size
 have ax:Hid (Bk W9 bz 37 zZ):=ak.gone hg aC
 clear hg hc
 have aq:m2.val=.agg m2.ar:=rfl
 rw[aq]
 clear aq
 dsimp only
 go_wp2_with (refine wpList_store_row rfl 37 _ _ rfl bz m2.ar rfl rfl 37 zZ ax ZaU (by rfl) (by simp[Value.oneCell']) ?_)
 obtain⟨V9,Z⟩:=ExY (W9.setRow bz m2.ar)
 rw[←Z]
 have aW:=bkr ax Z
 have aU:=blr aS Z aw
 have aV:(er=0∧Zaa V9 w.heap.size m2∧Zc3 m acct id qty m2 n)∨(er≠0∧m2=Za4∧n=0∧True):=by
  rcases HC.out with⟨h1,h2,h3⟩|h
  ·exact .inl ⟨h1,by rw[Z];exact(h2.mono aT).rowFar ax (by decide) _,h3⟩
  ·exact .inr h
 exact bodyPost_ret (Zam (p:=10) (q:=11) (r:=12) results28 _ V9 bz 37 m2.ar (0,0) _ rfl aW underlying37 rfl ZaU) rfl ⟨aU,m2,n,er,rfl,aV⟩
end Go.Proofs.YtdefojlkofnloaaGreatDoor
