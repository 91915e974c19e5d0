/- A part of the proof of CoreOnce: for every input, no condition. -/
import Derived.Test.YtdefojlkofnloaaGreatDoorZb04
import Derived.Test.YtdefojlkofnloaaGreatDoorZb05
import Derived.Test.YtdefojlkofnloaaGreatDoorZb13
set_option maxRecDepth 100000
set_option maxHeartbeats 8000000
set_option linter.unusedVariables false
set_option linter.unusedSimpArgs false
namespace Go.Proofs.YtdefojlkofnloaaGreatDoor
open Go.RowKit Go.Proofs.Tryz
section
noncomputable def ZlN(i:ZaD)(u:ZbD)(day:Int)(s:Nat):Int×Int:=
 if(Zch u.price u.vol s).2.2≠0 then(0,(Zch u.price u.vol s).2.2) else ZgL i (Zch u.price u.vol s).1 (Zch u.price u.vol s).2.1 day
def Zmu(g:Nat→Int):Nat→Nat→Int
 |0,_=>0
 |k+1,s=>if g s≠0 then g s else Zmu g k (s+1)
def Zbd(f:Nat→Int)(s:Nat):Array Value:=((List.range 21).map fun j=>Value.int .i64 (if j<s then f j else 0)).toArray
theorem Za8(f:Nat→Int)(s:Nat):(Zbd f s).size=21:=by simp[Zbd]
theorem ZcE(f:Nat→Int)(s j:Nat)(z:j<21):(Zbd f s)[j]?=some (I (if j<s then f j else 0)):=by simp[Zbd,z]
theorem Zii(f:Nat→Int)(s:Nat):(Zbd f s).setIfInBounds s (I (f s))=Zbd f (s+1):=by
 apply Array.ext_getElem?
 intro j
 by_cases hj:j<21
 ·rw[Array.getElem?_setIfInBounds,ZcE f (s+1) j hj,ZcE f s j hj,Za8]
  by_cases h:s=j
  ·subst h
   simp[hj]
  ·simp only[h,if_false]
   have e:j<s+1↔j<s:=by omega
   simp only[e]
 ·simp[Zbd,hj]
theorem ZdP(f:Nat→Int)(s:Nat):(Zbd f s).all (·.oneCell')=true:=by
 simp[Zbd,Value.oneCell']
theorem Bk.row{w:World}{g:Nat}{t:TypeId}{cs:Array Value}(h:Bk w g t cs)(cs':Array Value):Bk (w.setRow g cs') g t cs':=setRow_heap w g cs cs' t (0,0) h
theorem Bk.rowFar{w:World}{g k:Nat}{t:TypeId}{cs:Array Value}(h:Bk w g t cs)(s:g≠k)(cs':Array Value):Bk (w.setRow k cs') g t cs:=(setRow_other w k g cs' s).trans h
theorem ZaB{B g:Nat}{a w:World}(h:Below B a w)(s:B≤g)(cs:Array Value):Below B a (w.setRow g cs):=
 h.trans ⟨rfl,rfl,rfl,by simp,fun k hk=>setRow_other w g k cs (by omega)⟩
theorem bkR{V W:World}{g b2 t t':Nat}{cs cs' cs2:Array Value}(h:Hid (Bk W g t cs))(e:V=W.setRow b2 cs2)(k:Hid (Bk W b2 t' cs'))(s:Nat.beq t t'=false):Hid (Bk V g t cs):=by
 rw[e];exact h.rowFar (h.ne k (Nat.ne_of_beq_eq_false s)) _
theorem blR{B:Nat}{w W V:World}{g:Nat}{cs:Array Value}(h:Hid (Below B w W))(e:V=W.setRow g cs)(s:Hid (B≤g)):Hid (Below B w V):=by rw[e];exact ZaB h s _
theorem blr{B:Nat}{w W V:World}{g:Nat}{cs:Array Value}(h:Hid (Below B w W))(e:V=W.setRow g cs)(s:Hid (B≤g)):Below B w V:=blR h e s
theorem bkr{V W:World}{g t:Nat}{cs cs':Array Value}(h:Hid (Bk W g t cs))(e:V=W.setRow g cs'):Bk V g t cs':=by rw[e];exact h.row _
section
variable {P:Program}
theorem Zaw{fn:Func}{p q:Tmp}{s:TypeId}(h:fn.results=#[.cell p s,.tmp q])(tmps:Array Value)(w:World)(g:Nat)(t:TypeId)(cs:Array Value)(fr:Nat×Nat)(d:TypeDesc)(G:tmps.getD p undef=Pt g)(E:w.heap[g]?=some (.cells cs t fr))(J:P.underlying s=some d)(C:(match d with | .struct _ | .array _ _=>true|_=>false)=true)(hi:(P.info? s).map (·.size)=some cs.size):
 (results fn tmps).run P w=.ok (.tuple #[.agg cs,tmps.getD q undef]) w:=by
 have z:tmps[p]?.getD undef=Pt g:=by simpa using G
 simp[results,h,z,asAddr,run_loadVar_row w g t s cs fr d E J C hi]
theorem Zaq{ops:Array Oper}{o:Oper}{a:Act}{w:World}{K:Act→World→Prop}{Q:Exit→Act→World→Prop}{E:Prop}(C:o.guard=none)(G:TypeId)(x y:Operand)(N:o.op=.store G x y)(g:Nat)(cells:Array Value)(R:a.eval x=Pt g)(U:a.eval y=.agg cells)(t:TypeId)(s:Array Value)(L:w.heap[g]?=some (.cells s t (0,0)))(hi:(P.info? G).map (·.size)=some cells.size)(z:s.size=cells.size)(J:cells.all (·.oneCell')=true)(h:K (a.put o.dst undef) (w.setRow g cells)):if Region.wanted o (yielded ops a.tmps)=true then Oper.wp P o a w K Q else E:=by
 have hw:Region.wanted o (yielded ops a.tmps)=true:=by simp[Region.wanted,C]
 rw[if_pos hw]
 exact wp_store_row G x y N g cells R U t s L hi z J h
end
noncomputable def ZfI(i:ZaD)(u:ZbD)(day:Int):Int:=Zmu (fun s=>(ZlN i u day s).2) 21 0
noncomputable def Zf5(i:ZaD)(u:ZbD)(day:Int):Array Value:=Zbd (fun s=>(ZlN i u day s).1) (if ZfI i u day=0 then 21 else 0)
theorem Zkv(i:ZaD)(u:ZbD)(day:Int)(w:World)(hp:0≤u.price∧u.price≤1000000000000)(hv:0≤u.vol∧u.vol≤50000)(hg:Gl w):
 Calls prog 226 #[i.val,u.val,I day] w fun e w'=>e=.returned (.tuple #[.agg (Zf5 i u day),I (ZfI i u day)])∧Bw w w':=by
 obtain⟨f,hf⟩:∃f:Nat→Int,f=fun s=>(ZlN i u day s).1:=⟨_,rfl⟩
 obtain⟨E,hE⟩:=ExY (ZfI i u day)
 unfold Zf5
 rw[←hE,←hf]
 unfold ZfI at hE
 have HP:=Hi (fun s w hs hg=>Zkc u.price u.vol s w hs hp hv hg)
 have HU:=Hi (fun p v w=>Ziz i p v day w)
 have HE:=Hi hE
 have HF:=Hi (fun s=>(congrFun hf s:f s=(ZlN i u day s).1))
 have HO:=Hi (fun s=>(rfl:ZlN i u day s=if(Zch u.price u.vol s).2.2≠0 then(0,(Zch u.price u.vol s).2.2) else ZgL i (Zch u.price u.vol s).1 (Zch u.price u.vol s).2.1 day))
 have HG:=Hi hg
 clear hf hE hg hp hv
 obtain⟨uE,ay⟩:∃g:Nat→Int×Int,g=fun s=>ZlN i u day s:=⟨_,rfl⟩
 obtain⟨uA,a4⟩:∃g:Int→Int→Int×Int,g=fun p v=>ZgL i p v day:=⟨_,rfl⟩
 rw[show(fun s=>(ZlN i u day s).2)=(fun s=>(uE s).2) by rw[ay]] at HE
 have bw:Hid (∀s,f s=(uE s).1):=fun s=>by rw[ay];exact HF.out s
 have a9:Hid (∀s,uE s=if(Zch u.price u.vol s).2.2≠0 then(0,(Zch u.price u.vol s).2.2) else uA (Zch u.price u.vol s).1 (Zch u.price u.vol s).2.1):=fun s=>by rw[ay,a4];exact HO.out s
 have aT:Hid (∀p v w,Calls prog 130 #[i.val,I p,I v,I day] w fun e w'=>e=.returned (.tuple #[I (uA p v).1,I (uA p v).2])∧Bw w w'):=fun p v w=>by rw[a4];exact HU.out p v w
 clear ay a4
 obtain⟨ab,L,ac,C,z,ao,mark⟩:=i
 obtain⟨ad,ap,price,vol⟩:=u
 unfold ZaD.val at aT ⊢
 unfold ZbD.val
 dsimp only at HP aT a9 ⊢
 obtain⟨W1,aj⟩:=ExY (w.alloc (.cells #[I ab,I L,I ac,I C,I z,.bool ao,I mark] 66))
 obtain⟨bi,aq⟩:=ExY w.heap.size
 have a6:=blB aj
 have bb:=bkW aj aq
 obtain⟨W2,ae⟩:=ExY (W1.alloc (.cells #[.string ad,I ap,I price,I vol] 63))
 obtain⟨bu,aw⟩:=ExY W1.heap.size
 have az:=blA a6 ae
 have bc:=bkA bb ae
 have bg:=bkW ae aw
 have aN:bu=bi+1:=by rw[aw,aj,World.size_alloc,←aq]
 obtain⟨W3,Z⟩:=ExY (W2.alloc (.cells zW 239))
 obtain⟨bz,al⟩:=ExY W2.heap.size
 have aA:=blA az Z
 have Y:=blZ az al
 have bd:=bkA bc Z
 have bh:=bkA bg Z
 have bl:=bkW Z al
 have aO:bz=bu+1:=by rw[al,ae,World.size_alloc,←aw]
 obtain⟨W4,aa⟩:=ExY (W3.alloc (.cells zW 239))
 obtain⟨bo,au⟩:=ExY W3.heap.size
 have a7:=blA aA aa
 have aY:=blZ aA au
 have be:=bkA bd aa
 have bj:=bkA bh aa
 have aL:=bkA bl aa
 have aG:=bkW aa au
 have aM:bo=bz+1:=by rw[au,Z,World.size_alloc,←al]
 have br:¬(bz=bo):=by omega
 have bB:¬(bo=bz):=by omega
 have e0:(zW:Array Value)=Zbd f 0:=by simp[Zbd];rfl
 rw[e0] at aL aG
 clear e0
 go_enter func226,ntmps226
 go_upto_region 2 with(fail)
 rw[←aj,←aq,←ae,←aN,←Z,←aO,←aa,←aM]
 clear aj aq aN ae aw aO Z al aM aa au
 have bt:Hid (E=Zmu (fun s=>(uE s).2) (21-0) 0):=HE
 have bA:Hid (Bw w W4∧Bk W4 bi 66 #[I ab,I L,I ac,I C,I z,.bool ao,I mark]∧Bk W4 bu 63 #[.string ad,I ap,I price,I vol]∧Bk W4 bz 239 (Zbd f 0)∧Bk W4 bo 239 (Zbd f 0)):=⟨a7,be,bj,aL,aG⟩
 go_upto_region 3 with(fail)
 go_loopw [13] (fun a5 wr=>∃k:Nat,k≤21∧a5=I k∧Hid (E=Zmu (fun s=>(uE s).2) (21-k) k)∧Hid (Bw w wr∧Bk wr bi 66 #[I ab,I L,I ac,I C,I z,.bool ao,I mark]∧Bk wr bu 63 #[.string ad,I ap,I price,I vol]∧Bk wr bz 239 (Zbd f 0)∧Bk wr bo 239 (Zbd f k))) (fun a5 _=>21-(intOf a5).toNat)
 case atStart=>exact⟨0,by omega,rfl,bt,bA⟩
 case round=>
  obtain⟨k,hk,rfl,aR,HK⟩:=hrel
  rename World=>V
  have ag:Hid (Bw w V):=HK.1
  have aD:Hid (Bk V bi 66 #[I ab,I L,I ac,I C,I z,.bool ao,I mark]):=HK.2.1
  have aI:Hid (Bk V bu 63 #[.string ad,I ap,I price,I vol]):=HK.2.2.1
  have ah:Hid (Bk V bz 239 (Zbd f 0)):=HK.2.2.2.1
  have aH:Hid (Bk V bo 239 (Zbd f k)):=HK.2.2.2.2
  clear HK
  by_cases a3:k<21
  ·have R:=aD.seven
   have U:=aI.four
   have i2:(k:Int)<21:=by omega
   have bx:Hid (Gl V):=HG.below ag HG.lt
   have aS:=Hi (fun w hg=>HP.out k w a3 hg)
   have an:=a9.out k
   obtain⟨⟨p,v,ep⟩,hp⟩:∃x,x=Zch price vol k:=⟨_,rfl⟩
   rw[←hp] at aS an
   dsimp only at aS an
   have ba:=Hi an
   obtain⟨m,hm⟩:∃m,21-k=m+1:=⟨20-k,by omega⟩
   have a1:=aR.out
   rw[hm,Zmu] at a1
   have aQ:=Hi a1
   clear hp an a1 aR
   go_wp2_with fail
   refine((fun _=>aS.out _ bx) V).mono ?_
   rintro e W6 ⟨rfl,hb⟩
   have aB:=blT ag hb
   have aE:=bkN aD hb
   have aJ:=bkN aI hb
   have ai:=bkN ah hb
   have bf:=bkN aH hb
   clear R U
   clear hb
   have R:=aE.seven
   have U:=aJ.four
   by_cases ax:ep=0
   rotate_left
   ·have hu:uE k=(0,ep):=by rw[ba.out,if_pos ax]
    have e0:E=ep:=by rw[aQ.out,hu,if_pos ax]
    have bp:(ep != 0)=true:=by simpa using ax
    subst e0
    clear R U
    have zi:(prog.info? 239).map (·.size)=some (zW:Array Value).size:=by kernel_rfl
    have zs:(Zbd f 0).size=(zW:Array Value).size:=Za8 _ _
    have z1:(zW:Array Value).all (·.oneCell')=true:=by rw[show(zW:Array Value)=Zbd f 0 by simp[Zbd];rfl];exact ZdP f 0
    have ZI:=Hi zi
    have ZS:=Hi zs
    have Z1:=Hi z1
    clear zi zs z1
    go_wp2_with (refine wpList_store_row rfl 239 _ _ rfl bz zW rfl rfl 239 (Zbd f 0) ai ZI ZS Z1 ?_)
    have e1:(zW:Array Value)=Zbd f 0:=by simp[Zbd];rfl
    rw[e1]
    obtain⟨V9,G⟩:=ExY (W6.setRow bz (Zbd f 0))
    rw[←G]
    have am:=bkr ai G
    have ak:=blr aB G Y
    exact bodyPost_ret (Zaw (p:=6) (q:=7) results226 _ V9 bz 239 (Zbd f 0) (0,0) _ rfl am underlying239 rfl (by rw[Za8];kernel_rfl)) rfl ⟨rfl,ak⟩
   subst ax
   have hu:uE k=uA p v:=by rw[ba.out,if_neg (by simp)]
   obtain⟨⟨x,ex⟩,hx⟩:∃y,y=uA p v:=⟨_,rfl⟩
   have aV:=Hi (aT.out p v)
   rw[←hx] at aV hu
   dsimp only at aV
   have aU:=Hi hu
   clear hu hx
   go_wp2_with fail
   refine(aV.out W6).mono ?_
   rintro e W7 ⟨rfl,hb⟩
   have a8:=blT aB hb
   have aF:=bkN aE hb
   have aK:=bkN aJ hb
   have bn:=bkN ai hb
   have N:=bkN bf hb
   clear hb
   have R:=aF.seven
   have U:=aK.four
   have aP:k<21:=a3
   have cO:W7.cell? (Aq bo k)=some (I 0):=by rw[N.cell,ZcE f k k a3,if_neg (Nat.lt_irrefl k)]
   have fO:W7.frozen? (Aq bo k)=false:=N.frozen k
   have i0:(0:Int)≤(k:Int):=by omega
   obtain⟨a0,J⟩:=ExY (W7.setCell ⟨bo,k,none⟩ (I x))
   have af:=blS a8 J aY
   have bs:f k=x:=by rw[bw.out k,aU.out]
   have aX:Hid (Bk a0 bo 239 (Zbd f (k+1))):=by rw[J,←Zii,bs];exact N.set k _
   have X:Hid (Bk a0 bz 239 (Zbd f 0)):=by rw[J];exact bn.far (p:=Aq bo k) br _
   have aW:=bkF aF J N rfl
   have aZ:=bkF aK J N rfl
   have aC:=Hi J
   clear J bs
   by_cases a2:ex=0
   rotate_left
   ·have e0:E=ex:=by rw[aQ.out,aU.out,if_pos a2]
    have bp:(ex != 0)=true:=by simpa using a2
    subst e0
    go_upto_region 9 with(fail)
    rw[←aC.out]
    clear cO fO
    clear R U
    have zi:(prog.info? 239).map (·.size)=some (zW:Array Value).size:=by kernel_rfl
    have zs:(Zbd f 0).size=(zW:Array Value).size:=Za8 _ _
    have z1:(zW:Array Value).all (·.oneCell')=true:=by rw[show(zW:Array Value)=Zbd f 0 by simp[Zbd];rfl];exact ZdP f 0
    have ZI:=Hi zi
    have ZS:=Hi zs
    have Z1:=Hi z1
    clear zi zs z1
    go_wp2_with (refine wpList_store_row rfl 239 _ _ rfl bz zW rfl rfl 239 (Zbd f 0) X ZI ZS Z1 ?_)
    have e1:(zW:Array Value)=Zbd f 0:=by simp[Zbd];rfl
    rw[e1]
    obtain⟨V9,G⟩:=ExY (a0.setRow bz (Zbd f 0))
    rw[←G]
    have am:=bkr X G
    have ak:=blr af G Y
    exact bodyPost_ret (Zaw (p:=6) (q:=7) results226 _ V9 bz 239 (Zbd f 0) (0,0) _ rfl am underlying239 rfl (by rw[Za8];kernel_rfl)) rfl ⟨rfl,ak⟩
   subst a2
   have bq:E=Zmu (fun s=>(uE s).2) (21-(k+1)) (k+1):=by
    rw[aQ.out,aU.out,if_neg (by simp),show 21-(k+1)=m by omega]
   have bv:=Hi bq
   clear bq
   go_upto_region 9 with(fail)
   rw[←aC.out]
   clear cO fO
   go_wp2
   go_roundw
   case rel=>exact⟨k+1,by omega,by go_num,bv,⟨af,aW,aZ,X,aX⟩⟩
   case measure=>simp[intOf];omega
  ·have aP:k=21:=by omega
   subst aP
   have e0:E=0:=by rw[aR.out];rfl
   subst e0
   have zi:(prog.info? 239).map (·.size)=some (Zbd f 21).size:=by rw[Za8];kernel_rfl
   have zs:(Zbd f 0).size=(Zbd f 21).size:=by rw[Za8,Za8]
   have z1:(Zbd f 21).all (·.oneCell')=true:=ZdP f 21
   have ZI:=Hi zi
   have ZS:=Hi zs
   have Z1:=Hi z1
   clear zi zs z1
   go_wp2_with (first|refine wpList_load_row rfl 239 _ rfl bo rfl 239 (Zbd f 21) (0,0) _ aH underlying239 rfl ZI ?_|refine wpList_store_row rfl 239 _ _ rfl bz (Zbd f 21) rfl rfl 239 (Zbd f 0) ah ZI ZS Z1 ?_)
   obtain⟨V9,G⟩:=ExY (V.setRow bz (Zbd f 21))
   rw[←G]
   have am:=bkr ah G
   have ak:=blr ag G Y
   exact bodyPost_ret (Zaw (p:=6) (q:=7) results226 _ V9 bz 239 (Zbd f 21) (0,0) _ rfl am underlying239 rfl ZI) rfl ⟨rfl,ak⟩
end
def ZgN(f:Nat→Int):Nat→Nat→Nat→Nat
 |0,_,at_=>at_
 |k+1,s,at_=>ZgN f k (s+1) (if f s>f at_ then s else at_)
theorem Zh5(f:Nat→Int)(k:Nat)(s:k<21)(w:World):(Instr.index 239 (.agg (Zbd f 21)) (I k)).run prog w=.ok (I (f k)) w:=by
 have g1:(Zbd f 21)[k]?=some (I (f k)):=by rw[ZcE f 21 k s,if_pos s]
 have h0:(0:Int)≤(k:Int)∧(k:Int)<((21:Nat):Int):=by omega
 simp[Instr.index,run_underlying underlying239,asIntOf,h0,go_sem,part,g1,s]
def ZfK(f:Nat→Int):Nat:=ZgN f 21 0 0
theorem Zkz(f:Nat→Int)(w:World):Calls prog 209 #[.agg (Zbd f 21)] w fun e w'=>e=.returned (.tuple #[I (f (ZfK f)),I (ZfK f:Int)])∧Bw w w':=by
 obtain⟨r,hr⟩:=ExY (ZfK f)
 rw[←hr]
 unfold ZfK at hr
 have HR:=Hi hr
 clear hr
 have zi:(prog.info? 239).map (·.size)=some (Zbd f 21).size:=by rw[Za8];kernel_rfl
 have ZI:=Hi zi
 clear zi
 obtain⟨W1,z⟩:=ExY (w.alloc (.cells (Zbd f 21) 239))
 obtain⟨bl,J⟩:=ExY w.heap.size
 have L:=blB z
 have E:=bkW z J
 go_enter func209,ntmps209
 go_upto_region 2 with(fail)
 rw[←z,←J]
 clear z J
 go_upto_region 3 with(refine wpList_load_row rfl 239 _ rfl bl rfl 239 (Zbd f 21) (0,0) _ E underlying239 rfl ZI ?_)
 go_loopw [4,8] (fun v4 v8 wr=>∃k s:Nat,k≤21∧s<21∧v4=I s∧v8=I k∧Hid (r=ZgN f (21-k) k s)∧wr=W1) (fun _ v8 _=>21-(intOf v8).toNat)
 case atStart=>exact⟨0,0,by omega,by omega,rfl,rfl,HR,rfl⟩
 case round=>
  obtain⟨k,s,hk,ha,rfl,rfl,HK,X⟩:=hrel
  subst X
  rename World=>W1
  have cA:W1.cell? (Aq bl s)=some (I (f s)):=by rw[E.cell,ZcE f 21 s ha,if_pos ha]
  have i0:(0:Int)≤(s:Int):=by omega
  have i1:(s:Int)<21:=by omega
  by_cases C:k<21
  ·have g1:(Zbd f 21)[k]?=some (I (f k)):=by rw[ZcE f 21 k C,if_pos C]
   have Y:=fun w=>Zh5 f k C w
   have i2:(k:Int)<21:=by omega
   have i3:(0:Int)≤(k:Int):=by omega
   obtain⟨m,hm⟩:∃m,21-k=m+1:=⟨20-k,by omega⟩
   have hr:=HK.out
   rw[hm,ZgN] at hr
   have N:=Hi hr
   clear hr HK
   by_cases R:f s<f k
   ·have hr:=N.out
    rw[if_pos R,show m=21-(k+1) by omega] at hr
    have G:=Hi hr
    clear hr
    go_wp2
    go_roundw
    case rel=>exact⟨k+1,k,by omega,C,rfl,by go_num,G,by trivial⟩
    case measure=>simp[intOf];omega
   ·have hr:=N.out
    rw[if_neg R,show m=21-(k+1) by omega] at hr
    have G:=Hi hr
    clear hr
    go_wp2
    go_roundw
    case rel=>exact⟨k+1,s,by omega,ha,rfl,by go_num,G,by trivial⟩
    case measure=>simp[intOf];omega
  ·have U:k=21:=by omega
   subst U
   have e0:r=s:=by rw[HK.out];rfl
   clear HK
   subst e0
   go_wp2
   go_ret2
   exact⟨rfl,L⟩
def Zfj(ps:List Int):Nat→Nat→List Int→Int×Int
 |0,_,_=>(0,0)
 |k+1,v,d=>
  if ps.getD v 0 = -1 then Zfj ps k (v+1) (d.set v 1)
  else if ps.getD v 0≤1∨(v:Int)≤ps.getD v 0∨v≤1∨4≤d.getD (ps.getD v 0).toNat 0 then((v:Int),33)
  else Zfj ps k (v+1) (d.set v (wrap64 (d.getD (ps.getD v 0).toNat 0+1)))
def Zct(ps:List Int):Int×Int:=
 if ps.length<2 then(0,33) else if 16<ps.length then(16,40) else Zfj ps ps.length 0 (List.replicate ps.length 0)
def Zag(l:List Int):List Value:=l.map (Value.int .i64)
theorem ZdA(l:List Int):(Zag l).length=l.length:=by simp[Zag]
theorem Zcx(l:List Int)(j:Nat)(s:j<l.length):(Zag l)[j]?=some (I (l.getD j 0)):=by simp[Zag,s]
theorem Zg6(l:List Int)(j:Nat)(s:j<l.length):(Zag l).toArray[j]?=some (I (l.getD j 0)):=by simp[Zag,s]
theorem Zg7(l:List Int)(j:Nat)(x:Int):(Zag l).toArray.setIfInBounds j (I x)=(Zag (l.set j x)).toArray:=by
 simp[Zag,List.map_set]
theorem Zj9{w:World}{base e g n:Nat}{xs:List Value}(h:w.ownsRow base e 1 (.slice (some (Aq g 0)) n n) n xs):Bk w g e xs.toArray:=by
 rcases h.2 with⟨hv,_⟩|⟨b,z,s,hv,_,hh,h1,h2,h3,h4⟩
 ·cases hv
 ·injection hv with a1 a2 a3
  injection a1 with a1
  injection a1 with a1
  subst a1 a3
  have e1:xs=s.toList:=by
   rw[←h4]
   apply List.take_of_length_le
   simp
   omega
  rw[e1]
  exact hh
theorem Zfk(A:Option Addr)(n c:Nat)(ps:List Int)(w:World)(hn:n≤maxLen)(s:Rd w w.heap.size 1 A n (Zag ps)):
 Calls prog 70 #[.slice A n c] w fun e w'=>e=.returned (.tuple #[I (Zct ps).1,I (Zct ps).2])∧Bw w w':=by
 have hl:ps.length=n:=by have:=s.1;rw[ZdA] at this;omega
 obtain⟨r,G⟩:=ExY (Zct ps)
 rw[←G]
 unfold Zct at G
 rw[hl] at G
 have HR:=Hi G
 have an:=Hi s
 have HL:=Hi hl
 have HN:=Hi hn
 clear G s hl
 go_enter func70,ntmps70
 by_cases h2:n<2
 ·have e0:r=(0,33):=by rw[HR.out,if_pos h2]
  subst e0
  have i2:(n:Int)<2:=by omega
  go_wp2
  go_ret2
  exact⟨rfl,Below.refl _ _⟩
 have i2:¬((n:Int)<2):=by omega
 by_cases ae:16<n
 ·have e0:r=(16,40):=by rw[HR.out,if_neg h2,if_pos ae]
  subst e0
  have i3:(16:Int)<(n:Int):=by omega
  go_wp2
  go_ret2
  exact⟨rfl,Below.refl _ _⟩
 have i3:¬((16:Int)<(n:Int)):=by omega
 have Z:=HR.out
 rw[if_neg h2,if_neg ae] at Z
 have ak:=Hi Z
 clear Z hn
 obtain⟨i,hi,J⟩:=Option.map_eq_some_iff.1 Zgq
 simp only[Prod.mk.injEq] at J
 have au:=Hi J.1
 have aw:=Hi J.2.1
 have ax:=Hi J.2.2
 have HI:=Hi hi
 clear J hi
 have ah:∀w',w'.ownsRow w.heap.size 3 1 (.slice (some ⟨w.heap.size,0,none⟩) n n) n (madeCells (Value.int .i64 0).cells (n*1)).toList→w.grownBy w' none→Bk w' w.heap.size 3 (Zag (List.replicate n 0)).toArray∧Bw w w':=by
  intro w' ho hg
  have hb:Bw w w':=(Below.refl _ w).grown hg (Nat.le_refl _) (by simp)
  have h1:=Zj9 ho
  have e1:(madeCells (Value.int .i64 0).cells (n*1)).toList=Zag (List.replicate n 0):=by
   apply List.ext_getElem?
   intro j
   simp[madeCells,Zag,Value.cells]
   by_cases hj:j<n
   ·simp[hj,Nat.mod_one]
   ·simp[hj]
  rw[e1] at h1
  exact⟨h1,hb⟩
 have aj:=Hi ah
 clear ah
 go_upto_region 6 with(refine wpList_make_full w rfl _ _ 34 rfl w.heap.size 3 i _ 1 underlying34 HI au aw .i64 .i64 _ _ n rfl rfl rfl rfl (by rw[ax.out];omega) HN (Nat.le_refl _) ?_;intro W1 ho hg)
 obtain⟨E,U⟩:=aj.out W1 ho hg
 obtain⟨bd,L⟩:=ExY w.heap.size
 rw[←L] at E
 rw[←L]
 have R:=bl0 L
 have ai:Hid (Bw w W1∧Bk W1 bd 3 (Zag (List.replicate n 0)).toArray):=⟨U,E⟩
 have am:Hid (Rd w w.heap.size 1 A n (Zag ps)):=an
 clear ho hg E U L
 go_upto_region 7 with(fail)
 go_loopw [18] (fun aa wr=>∃(k:Nat) (d:List Int),k≤n∧aa=I k∧Hid (d.length=n)∧Hid (r=Zfj ps (n-k) k d)∧Hid (Bw w wr∧Bk wr bd 3 (Zag d).toArray)) (fun aa _=>n-(intOf aa).toNat)
 case atStart=>exact⟨0,_,Nat.zero_le _,rfl,(by simp:(List.replicate n (0:Int)).length=n),ak,ai⟩
 case round=>
  obtain⟨k,d,hk,rfl,HD,HK,HB⟩:=hrel
  rename World=>V
  by_cases az:k<n
  ·obtain⟨m,hm⟩:∃m,n-k=m+1:=⟨n-k-1,by omega⟩
   have s:=HK.out
   rw[hm,Zfj,show m=n-(k+1) by omega] at s
   have af:=HD.out
   have ad:Rd V w.heap.size 1 A n (Zag ps):=am.below HB.1
   obtain⟨a,rfl,_,ca⟩:=ad.cell (j:=k) (u:=I (ps.getD k 0)) (Zcx ps k (by have:=HL.out;omega))
   have cd:V.cell? (Aq bd k)=some (I (d.getD k 0)):=by rw[HB.2.cell];exact Zg6 d k (by omega)
   have fd:V.frozen? (Aq bd k)=false:=HB.2.frozen k
   obtain⟨p,hp⟩:=ExY (ps.getD k 0)
   rw[←hp] at s ca
   have ab:=Hi s
   have Y:=Hi af
   clear hp s ad HK hm af m
   have i0:(0:Int)≤(k:Int):=by omega
   have i1:(k:Int)<(n:Int):=by omega
   by_cases N:p = -1
   ·have s:=ab.out
    rw[if_pos N] at s
    have C:=Hi s
    subst N
    clear s
    obtain⟨V2,z⟩:=ExY (V.setCell ⟨bd,k,none⟩ (I 1))
    have X:Hid (Bw w V2∧Bk V2 bd 3 (Zag (d.set k 1)).toArray):=by
     refine⟨by rw[z];exact HB.out.1.setCell R.out _,?_⟩
     rw[z,←Zg7];exact HB.2.set k _
    go_upto_region 14 with(fail)
    rw[←z]
    clear z ca cd fd
    go_wp2
    go_roundw
    case rel=>exact⟨k+1,d.set k 1,by omega,by go_num,(by rw[List.length_set];exact Y.out:(d.set k 1).length=n),C,X⟩
    case measure=>simp[intOf];omega
   have ay:(p == -1)=false:=by simpa using N
   have s:=ab.out
   rw[if_neg N] at s
   have C:=Hi s
   clear s
   by_cases ao:p≤1
   ·have e0:r=((k:Int),33):=by rw[C.out,if_pos (.inl ao)]
    subst e0
    go_wp2
    go_ret2
    exact⟨rfl,HB.1⟩
   by_cases ap:(k:Int)≤p
   ·have e0:r=((k:Int),33):=by rw[C.out,if_pos (.inr (.inl ap))]
    subst e0
    go_wp2
    go_ret2
    exact⟨rfl,HB.1⟩
   have i5:¬((k:Int)≤1):=by omega
   obtain⟨q,rfl⟩:∃q:Nat,p=q:=⟨p.toNat,by omega⟩
   have hq:q<n:=by omega
   have i6:(0:Int)≤(q:Int):=by omega
   have i7:(q:Int)<(n:Int):=by omega
   have cq:V.cell? (Aq bd q)=some (I (d.getD q 0)):=by rw[HB.2.cell];exact Zg6 d q (by have:=Y.out;omega)
   have s:=C.out
   rw[show((q:Int)).toNat=q from Int.toNat_natCast q] at s
   obtain⟨x,hx⟩:=ExY (d.getD q 0)
   rw[←hx] at s cq
   have ac:=Hi s
   clear s hx
   by_cases aq:4≤x
   ·have e0:r=((k:Int),33):=by rw[ac.out,if_pos (.inr (.inr (.inr aq)))]
    subst e0
    go_wp2
    go_ret2
    exact⟨rfl,HB.1⟩
   have s:=ac.out
   rw[if_neg (by omega)] at s
   have al:=Hi s
   clear s
   obtain⟨V2,z⟩:=ExY (V.setCell ⟨bd,k,none⟩ (I (wrap64 (x+1))))
   have X:Hid (Bw w V2∧Bk V2 bd 3 (Zag (d.set k (wrap64 (x+1)))).toArray):=by
    refine⟨by rw[z];exact HB.out.1.setCell R.out _,?_⟩
    rw[z,←Zg7];exact HB.2.set k _
   go_upto_region 14 with(fail)
   rw[←z]
   clear z ca cd fd cq
   go_wp2
   go_roundw
   case rel=>exact⟨k+1,d.set k (wrap64 (x+1)),by omega,by go_num,(by rw[List.length_set];exact Y.out:(d.set k (wrap64 (x+1))).length=n),al,X⟩
   case measure=>simp[intOf];omega
  ·have ag:k=n:=by omega
   have e0:r=(0,0):=by rw[HK.out,ag,Nat.sub_self];rfl
   subst e0
   subst ag
   go_wp2
   go_ret2
   exact⟨rfl,HB.1⟩
section
section
variable {α:Type} {f:α→List Value} {m:Nat}
theorem Ze7(s:∀x,(f x).length=m)(l:List α):(l.flatMap f).length=l.length*m:=by
 induction l with
 |nil=>simp
 |cons a l ih=>simp only[List.flatMap_cons,List.length_append,List.length_cons,ih,s];rw[Nat.succ_mul];omega
theorem Zb3(s:∀x,(f x).length=m)(l:List α)(k:Nat)(z:k<l.length)(j:Nat)(C:j<m):(l.flatMap f)[k*m+j]?=(f l[k])[j]?:=by
 induction l generalizing k with
 |nil=>simp at z
 |cons a l ih=>
  rw[List.flatMap_cons]
  rcases k with _|k
  ·rw[List.getElem?_append_left (by rw[s];omega)];simp
  ·rw[List.getElem?_append_right (by rw[s,Nat.succ_mul];omega),show(k+1)*m+j-(f a).length=k*m+j by rw[s,Nat.succ_mul];omega,ih k (by simpa using z)];simp
theorem Zf1{w:World}{B n:Nat}{A:Option Addr}{l:List α}(C:∀x,(f x).length=m)(h:Rd w B m A n (l.flatMap f)){k:Nat}(E:k<l.length)(G:0<m):
 ∃a,A=some a∧a.block<B∧w.cell? (a.add (k*m))=(f l[k])[0]?∧∀j,j+1<m→w.cell? ⟨(a.add (k*m)).block,(a.add (k*m)).off+(j+1),none⟩=(f l[k])[j+1]?:=by
 have sp:∀(a:Addr) (j:Nat),a.add (k*m+(j+1))=⟨(a.add (k*m)).block,(a.add (k*m)).off+(j+1),none⟩:=fun a j=>by
  rw[←Ze1];simp[Addr.add]
 have g:∀j,j<m→∃u,(f l[k])[j]?=some u:=fun j hj=>⟨_,List.getElem?_eq_getElem (by rw[C];exact hj)⟩
 obtain⟨u0,s⟩:=g 0 G
 obtain⟨a,hA,hb,h0⟩:=h.cell ((Zb3 C l k E 0 G).trans s)
 refine⟨a,hA,hb,by rw[s];exact h0,fun j hj=>?_⟩
 obtain⟨u,hu⟩:=g (j+1) hj
 obtain⟨a1,z,_,h1⟩:=h.cell ((Zb3 C l k E (j+1) hj).trans hu)
 have e1:a1=a:=Option.some.inj (z.symm.trans hA)
 rw[e1,sp] at h1
 rw[hu];exact h1
theorem ZeI{w:World}{B n:Nat}{A:Option Addr}{l:List α}(s:∀x,(f x).length=m)(h:Rd w B m A n (l.flatMap f))(z:0<m):l.length=n:=by
 have h1:=h.1
 rw[Ze7 s] at h1
 exact Nat.eq_of_mul_eq_mul_right z h1
end
structure ZaA where
 parent:Int
 A:Option Addr
 c:Nat
 cash:List Int
 flag:Bool
 last:Int
instance:Inhabited ZaA:=⟨⟨0,none,0,[],false,0⟩⟩
instance:Inhabited ZbD:=⟨⟨⟨#[]⟩,0,0,0⟩⟩
def ZaA.cs(a:ZaA):List Value:=[I a.parent,.slice a.A a.cash.length a.c,.bool a.flag,I a.last]
def ZaA.val(a:ZaA):Value:=.agg #[I a.parent,.slice a.A a.cash.length a.c,.bool a.flag,I a.last]
theorem ZhN(x:ZcB):x.cs.length=2:=rfl
theorem Zed(x:ZbD):x.cs.length=4:=rfl
theorem Zft(x:ZaD):x.cs.length=7:=rfl
theorem Zc4(x:ZaA):x.cs.length=4:=rfl
theorem Zkk{w:World}{B n:Nat}{A:Option Addr}{l:List ZcB}(h:Rd w B 2 A n (l.flatMap ZcB.cs)){k:Nat}(s:k<l.length):
 ∃a,A=some a∧a.block<B∧w.cell? (a.add (k*2))=some (I (l[k]).rate)∧w.cell? ⟨(a.add (k*2)).block,(a.add (k*2)).off+1,none⟩=some (I (l[k]).hair):=by
 obtain⟨a,hA,hb,h0,h⟩:=Zf1 ZhN h s (by decide)
 exact⟨a,hA,hb,h0,h 0 (by decide)⟩
theorem ZfE{w:World}{B n:Nat}{A:Option Addr}{l:List ZbD}(h:Rd w B 4 A n (l.flatMap ZbD.cs)){k:Nat}(s:k<l.length):
 ∃a,A=some a∧a.block<B∧w.cell? (a.add (k*4))=some (.string (l[k]).name)∧w.cell? ⟨(a.add (k*4)).block,(a.add (k*4)).off+1,none⟩=some (I (l[k]).cur)∧w.cell? ⟨(a.add (k*4)).block,(a.add (k*4)).off+2,none⟩=some (I (l[k]).price)∧w.cell? ⟨(a.add (k*4)).block,(a.add (k*4)).off+3,none⟩=some (I (l[k]).vol):=by
 obtain⟨a,hA,hb,h0,h⟩:=Zf1 Zed h s (by decide)
 exact⟨a,hA,hb,h0,h 0 (by decide),h 1 (by decide),h 2 (by decide)⟩
theorem Zds{w:World}{B n:Nat}{A:Option Addr}{l:List ZaD}(h:Rd w B 7 A n (l.flatMap ZaD.cs)){k:Nat}(s:k<l.length):
 ∃a,A=some a∧a.block<B∧w.cell? (a.add (k*7))=some (I (l[k]).kind)∧w.cell? ⟨(a.add (k*7)).block,(a.add (k*7)).off+1,none⟩=some (I (l[k]).under)∧w.cell? ⟨(a.add (k*7)).block,(a.add (k*7)).off+2,none⟩=some (I (l[k]).mult)∧w.cell? ⟨(a.add (k*7)).block,(a.add (k*7)).off+3,none⟩=some (I (l[k]).strike)∧w.cell? ⟨(a.add (k*7)).block,(a.add (k*7)).off+4,none⟩=some (I (l[k]).expiry)∧w.cell? ⟨(a.add (k*7)).block,(a.add (k*7)).off+5,none⟩=some (.bool (l[k]).call)∧w.cell? ⟨(a.add (k*7)).block,(a.add (k*7)).off+6,none⟩=some (I (l[k]).mark):=by
 obtain⟨a,hA,hb,h0,h⟩:=Zf1 Zft h s (by decide)
 exact⟨a,hA,hb,h0,h 0 (by decide),h 1 (by decide),h 2 (by decide),h 3 (by decide),h 4 (by decide),h 5 (by decide)⟩
theorem ZeT{w:World}{B n:Nat}{A:Option Addr}{l:List ZaA}(h:Rd w B 4 A n (l.flatMap ZaA.cs)){k:Nat}(s:k<l.length):
 ∃a,A=some a∧a.block<B∧w.cell? (a.add (k*4))=some (I (l[k]).parent)∧w.cell? ⟨(a.add (k*4)).block,(a.add (k*4)).off+1,none⟩=some (.slice (l[k]).A (l[k]).cash.length (l[k]).c)∧w.cell? ⟨(a.add (k*4)).block,(a.add (k*4)).off+2,none⟩=some (.bool (l[k]).flag)∧w.cell? ⟨(a.add (k*4)).block,(a.add (k*4)).off+3,none⟩=some (I (l[k]).last):=by
 obtain⟨a,hA,hb,h0,h⟩:=Zf1 Zc4 h s (by decide)
 exact⟨a,hA,hb,h0,h 0 (by decide),h 1 (by decide),h 2 (by decide)⟩
structure Sl where
 A:Option Addr
 c:Nat
structure Zab where
 day:Int
 curs:List ZcB
 unders:List ZbD
 instrs:List ZaD
 accts:List ZaA
 poss:List P.Lc
 orders:List O.Lc
 avail:List Int
 locs:List L.Lc
 sCur:Sl
 sUnd:Sl
 sIns:Sl
 sAcc:Sl
 sPos:Sl
 sOrd:Sl
 sAva:Sl
 sLoc:Sl
abbrev Zab.ar(m:Zab):Array Value:=#[I m.day,.slice m.sCur.A m.curs.length m.sCur.c,.slice m.sUnd.A m.unders.length m.sUnd.c,.slice m.sIns.A m.instrs.length m.sIns.c,.slice m.sAcc.A m.accts.length m.sAcc.c,.slice m.sPos.A m.poss.length m.sPos.c,.slice m.sOrd.A m.orders.length m.sOrd.c,.slice m.sAva.A m.avail.length m.sAva.c,.slice m.sLoc.A m.locs.length m.sLoc.c]
abbrev Zab.ar_A(m:Zab)(a:Value):Array Value:=#[I m.day,.slice m.sCur.A m.curs.length m.sCur.c,.slice m.sUnd.A m.unders.length m.sUnd.c,.slice m.sIns.A m.instrs.length m.sIns.c,a,.slice m.sPos.A m.poss.length m.sPos.c,.slice m.sOrd.A m.orders.length m.sOrd.c,.slice m.sAva.A m.avail.length m.sAva.c,.slice m.sLoc.A m.locs.length m.sLoc.c]
abbrev Zab.ar_C(m:Zab)(a:Value):Array Value:=#[I m.day,a,.slice m.sUnd.A m.unders.length m.sUnd.c,.slice m.sIns.A m.instrs.length m.sIns.c,.slice m.sAcc.A m.accts.length m.sAcc.c,.slice m.sPos.A m.poss.length m.sPos.c,.slice m.sOrd.A m.orders.length m.sOrd.c,.slice m.sAva.A m.avail.length m.sAva.c,.slice m.sLoc.A m.locs.length m.sLoc.c]
abbrev Zab.ar_I(m:Zab)(a:Value):Array Value:=#[I m.day,.slice m.sCur.A m.curs.length m.sCur.c,.slice m.sUnd.A m.unders.length m.sUnd.c,.slice m.sIns.A m.instrs.length m.sIns.c,.slice m.sAcc.A m.accts.length m.sAcc.c,.slice m.sPos.A m.poss.length m.sPos.c,.slice m.sOrd.A m.orders.length m.sOrd.c,a,.slice m.sLoc.A m.locs.length m.sLoc.c]
abbrev Zab.ar_N(m:Zab)(a:Value):Array Value:=#[I m.day,.slice m.sCur.A m.curs.length m.sCur.c,.slice m.sUnd.A m.unders.length m.sUnd.c,a,.slice m.sAcc.A m.accts.length m.sAcc.c,.slice m.sPos.A m.poss.length m.sPos.c,.slice m.sOrd.A m.orders.length m.sOrd.c,.slice m.sAva.A m.avail.length m.sAva.c,.slice m.sLoc.A m.locs.length m.sLoc.c]
abbrev Zab.ar_O(m:Zab)(a:Value):Array Value:=#[I m.day,.slice m.sCur.A m.curs.length m.sCur.c,.slice m.sUnd.A m.unders.length m.sUnd.c,.slice m.sIns.A m.instrs.length m.sIns.c,.slice m.sAcc.A m.accts.length m.sAcc.c,.slice m.sPos.A m.poss.length m.sPos.c,a,.slice m.sAva.A m.avail.length m.sAva.c,.slice m.sLoc.A m.locs.length m.sLoc.c]
abbrev Zab.ar_AO(m:Zab)(a b:Value):Array Value:=#[I m.day,.slice m.sCur.A m.curs.length m.sCur.c,.slice m.sUnd.A m.unders.length m.sUnd.c,.slice m.sIns.A m.instrs.length m.sIns.c,a,.slice m.sPos.A m.poss.length m.sPos.c,b,.slice m.sAva.A m.avail.length m.sAva.c,.slice m.sLoc.A m.locs.length m.sLoc.c]
abbrev Zab.ar_CA(m:Zab)(a b:Value):Array Value:=#[I m.day,a,.slice m.sUnd.A m.unders.length m.sUnd.c,.slice m.sIns.A m.instrs.length m.sIns.c,b,.slice m.sPos.A m.poss.length m.sPos.c,.slice m.sOrd.A m.orders.length m.sOrd.c,.slice m.sAva.A m.avail.length m.sAva.c,.slice m.sLoc.A m.locs.length m.sLoc.c]
abbrev Zab.ar_CU(m:Zab)(a b:Value):Array Value:=#[I m.day,a,b,.slice m.sIns.A m.instrs.length m.sIns.c,.slice m.sAcc.A m.accts.length m.sAcc.c,.slice m.sPos.A m.poss.length m.sPos.c,.slice m.sOrd.A m.orders.length m.sOrd.c,.slice m.sAva.A m.avail.length m.sAva.c,.slice m.sLoc.A m.locs.length m.sLoc.c]
abbrev Zab.ar_NI(m:Zab)(a b:Value):Array Value:=#[I m.day,.slice m.sCur.A m.curs.length m.sCur.c,.slice m.sUnd.A m.unders.length m.sUnd.c,a,.slice m.sAcc.A m.accts.length m.sAcc.c,.slice m.sPos.A m.poss.length m.sPos.c,.slice m.sOrd.A m.orders.length m.sOrd.c,b,.slice m.sLoc.A m.locs.length m.sLoc.c]
abbrev Zab.ar_OL(m:Zab)(a b:Value):Array Value:=#[I m.day,.slice m.sCur.A m.curs.length m.sCur.c,.slice m.sUnd.A m.unders.length m.sUnd.c,.slice m.sIns.A m.instrs.length m.sIns.c,.slice m.sAcc.A m.accts.length m.sAcc.c,.slice m.sPos.A m.poss.length m.sPos.c,a,.slice m.sAva.A m.avail.length m.sAva.c,b]
abbrev Zab.ar_PO(m:Zab)(a b:Value):Array Value:=#[I m.day,.slice m.sCur.A m.curs.length m.sCur.c,.slice m.sUnd.A m.unders.length m.sUnd.c,.slice m.sIns.A m.instrs.length m.sIns.c,.slice m.sAcc.A m.accts.length m.sAcc.c,a,b,.slice m.sAva.A m.avail.length m.sAva.c,.slice m.sLoc.A m.locs.length m.sLoc.c]
abbrev Zab.ar_OIL(m:Zab)(a b c:Value):Array Value:=#[I m.day,.slice m.sCur.A m.curs.length m.sCur.c,.slice m.sUnd.A m.unders.length m.sUnd.c,.slice m.sIns.A m.instrs.length m.sIns.c,.slice m.sAcc.A m.accts.length m.sAcc.c,.slice m.sPos.A m.poss.length m.sPos.c,a,b,c]
def Zab.cs(m:Zab):List Value:=[I m.day,.slice m.sCur.A m.curs.length m.sCur.c,.slice m.sUnd.A m.unders.length m.sUnd.c,.slice m.sIns.A m.instrs.length m.sIns.c,.slice m.sAcc.A m.accts.length m.sAcc.c,
 .slice m.sPos.A m.poss.length m.sPos.c,.slice m.sOrd.A m.orders.length m.sOrd.c,.slice m.sAva.A m.avail.length m.sAva.c,.slice m.sLoc.A m.locs.length m.sLoc.c]
def Zab.val(m:Zab):Value:=.agg m.cs.toArray
structure Zay(w:World)(B:Nat)(m:Zab):Prop where
 curs:Rd w B 2 m.sCur.A m.curs.length (m.curs.flatMap ZcB.cs)
 unders:Rd w B 4 m.sUnd.A m.unders.length (m.unders.flatMap ZbD.cs)
 instrs:Rd w B 7 m.sIns.A m.instrs.length (m.instrs.flatMap ZaD.cs)
 accts:Rd w B 4 m.sAcc.A m.accts.length (m.accts.flatMap ZaA.cs)
 cash:∀a∈m.accts,Rd w B 1 a.A a.cash.length (Zag a.cash)∧a.cash.length≤1000000
 poss:Rd w B 3 m.sPos.A m.poss.length (P.lcs m.poss)
 orders:Rd w B 5 m.sOrd.A m.orders.length (O.lcs m.orders)
 avail:Rd w B 1 m.sAva.A m.avail.length (Zag m.avail)
 locs:Rd w B 3 m.sLoc.A m.locs.length (L.lcs m.locs)
 short:m.curs.length≤1000000∧m.unders.length≤1000000∧m.instrs.length≤1000000∧m.accts.length≤1000000∧m.poss.length≤1000000∧m.orders.length≤1000000∧m.avail.length≤1000000∧m.locs.length≤1000000
 caps:m.curs.length≤m.sCur.c∧m.unders.length≤m.sUnd.c∧m.instrs.length≤m.sIns.c∧m.accts.length≤m.sAcc.c∧m.poss.length≤m.sPos.c∧m.orders.length≤m.sOrd.c∧m.avail.length≤m.sAva.c∧m.locs.length≤m.sLoc.c
theorem ZbR{n:Nat}(h:n≤1000000):n≤maxLen:=Nat.le_trans h (by decide)
theorem Zay.below{w w':World}{B:Nat}{m:Zab}(h:Zay w B m)(s:Below B w w'):Zay w' B m:=
 ⟨h.curs.below s,h.unders.below s,h.instrs.below s,h.accts.below s,fun a ha=>⟨(h.cash a ha).1.below s,(h.cash a ha).2⟩,h.poss.below s,h.orders.below s,h.avail.below s,h.locs.below s,h.short,h.caps⟩
theorem Zay.mono{w:World}{B B':Nat}{m:Zab}(h:Zay w B m)(s:B≤B'):Zay w B' m:=
 ⟨h.curs.mono s,h.unders.mono s,h.instrs.mono s,h.accts.mono s,fun a ha=>⟨(h.cash a ha).1.mono s,(h.cash a ha).2⟩,h.poss.mono s,h.orders.mono s,h.avail.mono s,h.locs.mono s,h.short,h.caps⟩
end
def ZeV(ps:List Int)(v:Int):Bool:=decide ((Zct ps).2=0)&&(decide (0≤v)&&decide (v<ps.length))
theorem Zhx(A:Option Addr)(n c:Nat)(ps:List Int)(v:Int)(w:World)(E:n≤maxLen)(C:Rd w w.heap.size 1 A n (Zag ps)):
 Calls prog 150 #[.slice A n c,I v] w fun e w'=>e=.returned (.bool (ZeV ps v))∧Bw w w':=by
 have hl:ps.length=n:=by have:=C.1;rw[ZdA] at this;omega
 obtain⟨r,s⟩:=ExY (ZeV ps v)
 rw[←s]
 unfold ZeV at s
 rw[hl] at s
 have HC:=Hi (Zfk A n c ps w E C)
 obtain⟨⟨x,ex⟩,hx⟩:∃y,y=Zct ps:=⟨_,rfl⟩
 rw[←hx] at HC s
 dsimp only at HC s
 have HR:=Hi s
 clear s C hl hx E
 go_enter func150,ntmps150
 go_wp2_with fail
 refine((fun _=>HC.out) w).mono ?_
 rintro e W1 ⟨rfl,hb⟩
 have z:Hid (Bw w W1):=hb.mono (Nat.le_refl _)
 clear hb
 by_cases he:ex=0
 rotate_left
 ·have be:(ex==0)=false:=by simpa using he
  have e0:r=false:=by rw[HR.out,decide_eq_false he];rfl
  subst e0
  go_wp2
  go_ret
  exact⟨rfl,z⟩
 subst he
 by_cases h0:0≤v
 rotate_left
 ·have e0:r=false:=by rw[HR.out,decide_eq_false h0];rfl
  subst e0
  go_wp2
  go_ret
  exact⟨rfl,z⟩
 by_cases h1:v<(n:Int)
 rotate_left
 ·have e0:r=false:=by rw[HR.out,decide_eq_false h1,decide_eq_true h0];rfl
  subst e0
  go_wp2
  go_ret
  refine⟨?_,z⟩
  show Ending.returned (.bool (decide (v<(n:Int))))=_
  rw[decide_eq_false (by omega)]
 have e0:r=true:=by rw[HR.out,decide_eq_true h1,decide_eq_true h0];rfl
 subst e0
 go_wp2
 go_ret
 exact⟨rfl,z⟩
def ZlG(l:List Int)(x:Int):Int:=if(l.findIdx fun y=>y==x)<l.length then((l.findIdx fun y=>y==x:Nat):Int) else -1
theorem Zgm{l:List Int}{k:Nat}(h:k<l.length):l.getD k 0=l[k]:=by simp[h]
theorem Zla{l:List Int}{x:Int}{k:Nat}(z:k<l.length)(s:∀j,j<k→(l.getD j 0==x)=false)(h:(l.getD k 0==x)=true):ZlG l x=(k:Int):=by
 have e:l.findIdx (fun y=>y==x)=k:=by
  rw[List.findIdx_eq z]
  rw[Zgm z] at h
  refine⟨h,fun j hj=>?_⟩
  have:=s j hj
  rw[Zgm (by omega)] at this
  exact this
 unfold ZlG
 rw[e,if_pos z]
theorem ZjR{l:List Int}{x:Int}(s:∀j,j<l.length→(l.getD j 0==x)=false):ZlG l x = -1:=by
 have e:l.findIdx (fun y=>y==x)=l.length:=by
  rw[List.findIdx_eq_length]
  intro y hy
  obtain⟨j,hj,rfl⟩:=List.mem_iff_getElem.1 hy
  have:=s j hj
  rwa [Zgm hj] at this
 unfold ZlG
 rw[e,if_neg (Nat.lt_irrefl _)]
def Zk7(l:List Int)(x:Int):Bool:=decide (0≤ZlG l x)
theorem Zk9(A:Option Addr)(n c:Nat)(l:List Int)(x:Int)(w:World)(U:n≤maxLen)(J:Rd w w.heap.size 1 A n (Zag l)):
 Calls prog 223 #[.slice A n c,I x] w fun e w'=>e=.returned (I (ZlG l x))∧w'=w:=by
 have hl:l.length=n:=by have:=J.1;rw[ZdA] at this;omega
 obtain⟨r,z⟩:=ExY (ZlG l x)
 rw[←z]
 have HE:=Hi z
 have HR:=Hi J
 have HL:=Hi hl
 unfold maxLen at U
 clear z J hl
 go_enter func223,ntmps223
 go_upto_region 2 with(fail)
 go_loopw [8] (fun v wr=>∃k:Nat,k≤n∧v=I k∧Hid (∀j,j<k→(l.getD j 0==x)=false)∧wr=w) (fun v _=>n-(intOf v).toNat)
 case atStart=>exact⟨0,Nat.zero_le _,rfl,(fun j hj=>absurd hj (Nat.not_lt_zero _):∀j,j<0→(l.getD j 0==x)=false),rfl⟩
 case round=>
  obtain⟨k,hk,rfl,HP,L⟩:=hrel
  subst L
  rename World=>w
  by_cases R:k<n
  ·obtain⟨a,rfl,_,ca⟩:=HR.cell (j:=k) (u:=I (l.getD k 0)) (Zcx l k (by have:=HL.out;omega))
   have i0:(0:Int)≤(k:Int):=by omega
   have i1:(k:Int)<(n:Int):=by omega
   obtain⟨y,hy⟩:=ExY (l.getD k 0)
   rw[←hy] at ca
   have HY:=Hi hy
   clear hy
   by_cases s:x=y
   ·have e0:r=(k:Int):=by rw[HE.out];exact Zla (by have:=HL.out;omega) HP (by rw[←HY.out,s];simp)
    subst e0
    subst s
    go_wp2
    go_ret
    exact⟨rfl,rfl⟩
   ·have N:(x==y)=false:=by simpa using s
    have C:∀j,j<k+1→(l.getD j 0==x)=false:=fun j hj=>by
     rcases Nat.lt_or_eq_of_le (Nat.lt_succ_iff.1 hj) with h1|h1
     ·exact HP.out j h1
     ·rw[h1,←HY.out];simp;exact fun h=>s h.symm
    have E:=Hi C
    clear C
    go_wp2
    go_roundw
    case rel=>exact⟨k+1,by omega,by go_num,E,by trivial⟩
    case measure=>simp[intOf];omega
  ·have G:k=n:=by omega
   have e0:r = -1:=by rw[HE.out];exact ZjR (fun j hj=>HP.out j (by have:=HL.out;omega))
   subst e0
   subst G
   go_wp2
   go_ret
   exact⟨rfl,rfl⟩
theorem Zgn(A:Option Addr)(n c:Nat)(l:List Int)(x:Int)(w:World)(z:n≤maxLen)(C:Rd w w.heap.size 1 A n (Zag l)):
 Calls prog 216 #[.slice A n c,I x] w fun e w'=>e=.returned (.bool (Zk7 l x))∧w'=w:=by
 have HC:=Hi (Zk9 A n c l x w z C)
 unfold Zk7
 obtain⟨r,s⟩:=ExY (ZlG l x)
 rw[←s] at HC ⊢
 clear s C z
 go_enter func216,ntmps216
 go_wp2_with fail
 refine Cq (HC.out) ?_
 go_wp2
 go_ret
 exact⟨rfl,rfl⟩
def Zah(l:List ZaA):List Int:=l.map ZaA.parent
def Zd8(w:World)(l:List Int)(e:Ending)(w':World):Prop:=
 ∃A c,e=.returned (.slice A l.length c)∧l.length≤c∧c≤maxLen∧w'.ownsRow w.heap.size 3 1 (.slice A l.length c) l.length (Zag l)∧Bw w w'
theorem Zdl(A:Option Addr)(n c:Nat)(l:List ZaA)(w:World)(hn:n≤1000000)(hr:Rd w w.heap.size 4 A n (l.flatMap ZaA.cs)):
 Calls prog 71 #[.slice A n c] w (Zd8 w (Zah l)):=by
 have hl:l.length=n:=ZeI Zc4 hr (by decide)
 obtain⟨ps,N⟩:=ExY (Zah l)
 have af:ps.length=n:=by rw[N];simp[Zah,hl]
 have ae:∀k (hk:k<l.length),ps.take (k+1)=ps.take k++[(l[k]).parent]:=fun k hk=>by
  rw[List.take_add_one,N]
  simp[Zah,hk]
 have z:ps.take n=ps:=List.take_of_length_le (by omega)
 rw[←N]
 have HR:=Hi hr
 have HL:=Hi hl
 have am:=Hi af
 have ak:=Hi ae
 have ai:=Hi z
 clear hr hl N af ae z
 obtain⟨i,hi,E⟩:=Option.map_eq_some_iff.1 Zgq
 simp only[Prod.mk.injEq] at E
 have ap:=Hi E.1
 have aq:=Hi E.2.1
 have au:=Hi E.2.2
 have HI:=Hi hi
 clear E hi
 go_enter func71,ntmps71
 go_upto_region 3 with(fail)
 go_loopw [3,8] (fun v3 v8 wr=>∃(k c:Nat) (A:Option Addr),k≤n∧v3=.slice A k c∧v8=I k∧Hid (k≤c∧c≤maxLen∧wr.ownsRow w.heap.size 3 1 (.slice A k c) k (Zag (ps.take k)))∧Hid (Bw w wr)) (fun _ v8 _=>n-(intOf v8).toNat)
 case atStart=>exact⟨0,0,none,Nat.zero_le _,rfl,rfl,⟨Nat.le_refl _,Nat.zero_le _,World.ownsRow_nil _ _ _ _⟩,Below.refl _ _⟩
 case round=>
  obtain⟨k,c1,A1,hk,rfl,rfl,HO,HB⟩:=hrel
  rename World=>V
  by_cases aw:k<n
  ·have ad:k<l.length:=by have:=HL.out;omega
   obtain⟨a,rfl,_,c0,U,c2,c3⟩:=ZeT (HR.below HB) ad
   obtain⟨⟨pp,pA,pc,G,pf,pl⟩,hx⟩:∃x,x=l[k]:=⟨_,rfl⟩
   have L:=ak.out k ad
   rw[←hx] at c0 U c2 c3 L
   dsimp only at c0 U c2 c3 L
   have al:=Hi L
   clear hx L
   have i0:(0:Int)≤(k:Int):=by omega
   have i1:(k:Int)<(n:Int):=by omega
   go_upto_region 5 with(fail)
   obtain⟨W1,s⟩:=ExY (V.alloc (.cells #[I pp,.slice pA G.length pc,.bool pf,I pl] 59))
   obtain⟨bl,X⟩:=ExY V.heap.size
   have aa:Bk W1 bl 59 #[I pp,.slice pA G.length pc,.bool pf,I pl]:=by rw[s,X];exact Bk.new _ _ _
   have J:=blA HB s
   have Y:Hid (W1.ownsRow w.heap.size 3 1 (.slice A1 k c1) k (Zag (ps.take k))):=by rw[s];exact HO.2.2.alloc _
   rw[←s,←X]
   obtain⟨x0,x1,x2,x3,z0,z1,z2,z3,lx⟩:=aa.four
   clear s X aa c0 U c2 c3 HO
   have R:∀u∈[Value.int .i64 pp],u.oneCell'=true:=by simp[Value.oneCell']
   have ag:Rd (W1.alloc (.cells #[I pp] 3)) (W1.heap.size+1) 1 (some ⟨W1.heap.size,0,none⟩) 1 [I pp]:=by
    refine⟨rfl,fun _=>⟨_,rfl,by simp,World.news_of_block (Bk.new W1 3 #[I pp])⟩⟩
   have an:=Hi ag
   have Z:=Hi R
   clear ag R
   go_wp2_with (at_builtin;go_must (refine Zan _ rfl (.tmp 12) (.tmp 15) _ rfl w.heap.size 3 i _ 1 8 underlying34 HI ap aq au rfl (by omega) _ k (Zag (ps.take k)) rfl (Y.alloc _) _ _ 1 1 _ rfl an Z (by unfold maxLen;omega) (by omega) (by have:=J.size;simp;omega) ?_);intro A2 c5 w3 h1 h2 C ac ab)
   have ah:Hid (Bw w w3):=(J.alloc J.size _).grown ac (by have:=J.size;simp;omega) (fun b hb=>(Y.lt b hb).1)
   have aj:Hid (k+1≤c5∧c5≤maxLen∧w3.ownsRow w.heap.size 3 1 (.slice A2 (k+1) c5) (k+1) (Zag (ps.take (k+1)))):=by
    refine⟨h1,h2,?_⟩
    rw[al.out]
    have e:Zag (ps.take k++[pp])=Zag (ps.take k)++[I pp]:=by simp[Zag]
    rw[e]
    exact C
   clear C ac ab h1 h2 x0 x1 x2 x3 z0 z1 z2 z3 lx
   go_roundw
   case rel=>exact⟨k+1,c5,A2,by omega,rfl,by go_num,aj,ah⟩
   case measure=>simp[intOf];omega
  ·have ao:k=n:=by omega
   subst ao
   go_wp2
   go_ret
   have ho:=HO.out
   rw[ai.out] at ho
   rw[←am.out] at ho ⊢
   exact⟨A1,c1,rfl,ho.1,ho.2.1,ho.2.2,HB⟩
end Go.Proofs.YtdefojlkofnloaaGreatDoor
