/- A part of the proof of CorePositions: for every input, no condition. -/
import Derived.Test.YtdefojlkofnloaaGreatDoorZa17
import Derived.Deep.Slices
import Derived.LaidMore
import Derived.Lay
import Derived.Lib.LaidTab
import Derived.Lib.SmallJoins
import Derived.OpenShut
import Derived.ProofKit
import Derived.SevenTiedAt
import Derived.Stop.Joined
import Derived.Stop.LaidErr
import Derived.Test.YtdefojlkofnloaaGreatDoorCards
import Derived.Test.YtdefojlkofnloaaGreatDoorTie
set_option maxRecDepth 100000
set_option maxHeartbeats 8000000
set_option linter.unusedVariables false
set_option linter.unusedSimpArgs false
namespace Go.Proofs.YtdefojlkofnloaaGreatDoor
open Go.RowKit Go.Proofs.Tryz
section
open Go.ChangeShapes Go.WideShapes Go.ChangeAt Go.Joins Go.Deep
theorem own:ownKnob prog.godebug=none:=by kernel_rfl
theorem ZjX:laidOutB prog=true:=by kernel_rfl
section
variable {H:Type} {enc:TypeId×Value→H}
theorem Zez{P:Program}(z:laidOutB P=true){W W':World}(s:Bw W W'):∀(ts:List TypeId) (vs:List Value) (ds:List (DataW H)) (ps:List MemPlace),
 (∀t∈ts,P.readableRec t=true∧t<P.types.size)→DataW.TrodAll enc P W 0 (fun _=>true) true ts vs ds ps→(∀x∈ps,x.block<W.heap.size) →
 DataW.TrodAll enc P W' 0 (fun b=>decide (b<W.heap.size)) true ts vs ds ps
 |[],[],[],_,_,h,_=>h
 |t::ts,v::vs,d::ds,ps,hr,h,hlt=>by
  obtain⟨p,q,h1,h2,rfl⟩:=h
  exact⟨p,q,Below.trod z (hr t (List.mem_cons_self ..)).1 (hr t (List.mem_cons_self ..)).2 h1 s (fun x hx=>hlt x (List.mem_append_left _ hx)),
   Zez z s ts vs ds q (fun t' ht=>hr t' (List.mem_cons_of_mem _ ht)) h2 (fun x hx=>hlt x (List.mem_append_right _ hx)),rfl⟩
 |[],_::_,_,_,_,h,_=>h.elim
 |[],[],_::_,_,_,h,_=>h.elim
 |_::_,[],_,_,_,h,_=>h.elim
 |_::_,_::_,[],_,_,h,_=>h.elim
theorem Zir{P:Program}{f:Func}{s:ChangeSpec}{W W':World}{args:Array Value}{E gs:List (DataW H)}{z:List MemPlace}(hl:laidOutB P=true){b:TypeId}(G:P.underlying b=some .bool)(N:DataW.Whole enc P f.params.toList s.vars false W args.toList E gs z)(L:f.resultTypes=#[b])(Y:∀t∈f.params.toList,P.readableRec t=true∧t<P.types.size)(C:s.vars=[])(J:s.fn H E={results:=[.lit (.bool true)],args:=E})(Z:Bw W W'):
 s.post enc P f false true false false W args (.bool true) W':=by
 have U:∀p∈z,p.block<W.heap.size:=fun p hp=>N.lt p hp
 have R:=N
 obtain⟨p,q,hA,hV,X,hz,hn⟩:=N
 rw[C] at hV
 obtain⟨rfl,rfl⟩:=trodVars_none hV
 have e:E++[]=E:=List.append_nil E
 refine⟨E,[],z,[],p,[],R,?_,?_,?_,Z.frame _,fun h=>by cases h⟩
 ·rw[e,J,L]
  exact trodAll_cons_mk (shut_bool G true) trodAll_mk0
 ·rw[e,J]
  exact Zez hl Z _ _ _ _ Y hA (fun x hx=>U x (by rw[X];exact List.mem_append_left _ hx))
 ·rw[e,J,C]
  exact rfl
end
theorem ZlS:prog.cellsOf 43=12:=by kernel_rfl
theorem ZlW:∃a0 a1 a2 a3 a4 a5 a6 a7 a8 a9 a10 a11,prog.underlying 43=some (.struct #[a0,a1,a2,a3,a4,a5,a6,a7,a8,a9,a10,a11])∧oneCellFields prog #[a0,a1,a2,a3,a4,a5,a6,a7,a8,a9,a10,a11]=true∧a0.type=3∧a1.type=3∧a2.type=3∧a3.type=3∧a4.type=3∧a5.type=3∧a6.type=3∧a7.type=3∧a8.type=3∧a9.type=3∧a10.type=4∧a11.type=9:=by
 refine⟨_,_,_,_,_,_,_,_,_,_,_,_,underlying43,by kernel_rfl,rfl,rfl,rfl,rfl,rfl,rfl,rfl,rfl,rfl,rfl,rfl,rfl⟩
instance:Inhabited EvP:=⟨⟨0,0,0,0,0,0,0,0,0,0,false,⟨#[]⟩⟩⟩
theorem ZhQ(l:List EvP):(l.flatMap EvP.cs).length=l.length*12:=by
 induction l with
 |nil=>rfl
 |cons a t ih=>rw[List.flatMap_cons,List.length_append,ih,Zfm,List.length_cons];omega
theorem ZmA(l:List EvP)(k:Nat)(s:k<l.length)(j:Nat)(z:j<12):(l.flatMap EvP.cs)[k*12+j]?=(l[k]).cs[j]?:=by
 induction l generalizing k with
 |nil=>cases s
 |cons a t ih=>
  cases k with
  |zero=>
   rw[List.flatMap_cons,List.getElem?_append_left (by rw[Zfm];omega)]
   simp
  |succ k=>
   rw[List.flatMap_cons,List.getElem?_append_right (by rw[Zfm];omega),Zfm]
   have e:(k+1)*12+j-12=k*12+j:=by omega
   rw[e,ih k (by simpa using s)]
   rfl
theorem ZfC{H:Type}{enc:TypeId×Value→H}{W:World}{r:Reach}{b0:Nat}{v:Value}{d:DataW H}{p:List MemPlace}(hv:Value.okWide prog W r b0 22 v)(h:DataW.Trod enc prog W 0 (fun _=>true) true 22 v d p):
 ∃(A:Option Addr) (c:Nat) (l:List EvP),v=.slice A l.length c∧Rd W W.heap.size 12 A l.length (l.flatMap EvP.cs):=by
 obtain⟨a0,l0,c0,rfl,_⟩:=okWide_slice underlying22 hv
 obtain⟨aB,h⟩:=h
 obtain⟨f0,f1,f2,f3,f4,f5,f6,f7,f8,f9,C,E,hs,ac,t0,t1,t2,t3,t4,t5,t6,t7,t8,t9,ax,ay⟩:=ZlW
 rcases open_slice underlying22 h with⟨e0,_⟩|⟨ad,len,aC,m,n,D,Pl,e0,_,hl,hm,hk,_,hx⟩
 ·simp[Value.cells] at e0
  obtain⟨rfl,rfl,rfl⟩:=e0
  exact⟨none,0,[],rfl,Rd.nil _ _ _ _⟩
 simp[Value.cells] at e0
 obtain⟨rfl,rfl,rfl⟩:=e0
 have aq:m=c0:=by simpa using hk
 subst aq
 have o:=hone_of ac
 have R:∀i,i<l0→∃q:EvP,W.cell? (ad.add (i*12))=some (I q.kind)∧W.cell? (ad.add (i*12+1))=some (I q.acct)∧W.cell? (ad.add (i*12+2))=some (I q.id)∧W.cell? (ad.add (i*12+3))=some (I q.new)∧W.cell? (ad.add (i*12+4))=some (I q.instr)∧W.cell? (ad.add (i*12+5))=some (I q.under)∧W.cell? (ad.add (i*12+6))=some (I q.cur)∧W.cell? (ad.add (i*12+7))=some (I q.qty)∧W.cell? (ad.add (i*12+8))=some (I q.price)∧W.cell? (ad.add (i*12+9))=some (I q.amount)∧W.cell? (ad.add (i*12+10))=some (.bool q.call)∧W.cell? (ad.add (i*12+11))=some (.string q.name):=by
  intro i hi
  obtain⟨ae,h1,h2⟩:=hx i (by omega)
  rw[ZlS] at h1
  obtain⟨_,aa,s⟩:=World.cells?_some h1
  obtain⟨xs,k,hk,aD,_,aw,hf⟩:=DataW.trod_struct hs h2
  match xs,aw,ae,aa with
  |[y0,y1,y2,y3,y4,y5,y6,y7,y8,y9,y10,y11],_,[v0,v1,v2,v3,v4,v5,v6,v7,v8,v9,v10,v11],_=>
   have g0:=hf 0 f0 rfl
   have g1:=hf 1 f1 rfl
   have g2:=hf 2 f2 rfl
   have g3:=hf 3 f3 rfl
   have g4:=hf 4 f4 rfl
   have g5:=hf 5 f5 rfl
   have g6:=hf 6 f6 rfl
   have g7:=hf 7 f7 rfl
   have g8:=hf 8 f8 rfl
   have g9:=hf 9 f9 rfl
   have U:=hf 10 C rfl
   have X:=hf 11 E rfl
   rw[(o 0 f0 rfl).1,(o 0 f0 rfl).2,t0] at g0
   rw[(o 1 f1 rfl).1,(o 1 f1 rfl).2,t1] at g1
   rw[(o 2 f2 rfl).1,(o 2 f2 rfl).2,t2] at g2
   rw[(o 3 f3 rfl).1,(o 3 f3 rfl).2,t3] at g3
   rw[(o 4 f4 rfl).1,(o 4 f4 rfl).2,t4] at g4
   rw[(o 5 f5 rfl).1,(o 5 f5 rfl).2,t5] at g5
   rw[(o 6 f6 rfl).1,(o 6 f6 rfl).2,t6] at g6
   rw[(o 7 f7 rfl).1,(o 7 f7 rfl).2,t7] at g7
   rw[(o 8 f8 rfl).1,(o 8 f8 rfl).2,t8] at g8
   rw[(o 9 f9 rfl).1,(o 9 f9 rfl).2,t9] at g9
   rw[(o 10 C rfl).1,(o 10 C rfl).2,ax] at U
   rw[(o 11 E rfl).1,(o 11 E rfl).2,ay] at X
   obtain⟨x0,e0,_,_⟩:=DataW.trod_int underlying3 (x:=y0) (by simpa using g0)
   obtain⟨x1,e1,_,_⟩:=DataW.trod_int underlying3 (x:=y1) (by simpa using g1)
   obtain⟨x2,e2,_,_⟩:=DataW.trod_int underlying3 (x:=y2) (by simpa using g2)
   obtain⟨x3,e3,_,_⟩:=DataW.trod_int underlying3 (x:=y3) (by simpa using g3)
   obtain⟨x4,e4,_,_⟩:=DataW.trod_int underlying3 (x:=y4) (by simpa using g4)
   obtain⟨x5,e5,_,_⟩:=DataW.trod_int underlying3 (x:=y5) (by simpa using g5)
   obtain⟨x6,e6,_,_⟩:=DataW.trod_int underlying3 (x:=y6) (by simpa using g6)
   obtain⟨x7,e7,_,_⟩:=DataW.trod_int underlying3 (x:=y7) (by simpa using g7)
   obtain⟨x8,e8,_,_⟩:=DataW.trod_int underlying3 (x:=y8) (by simpa using g8)
   obtain⟨x9,e9,_,_⟩:=DataW.trod_int underlying3 (x:=y9) (by simpa using g9)
   obtain⟨az,L,_⟩:=DataW.trod_bool underlying4 (x:=y10) (by simpa using U)
   obtain⟨aA,N,_,_⟩:=DataW.trod_string underlying9 (x:=y11) (by simpa using X)
   simp only[List.cons.injEq,and_true] at e0 e1 e2 e3 e4 e5 e6 e7 e8 e9 L N
   subst e0 e1 e2 e3 e4 e5 e6 e7 e8 e9 L N
   have c0:=s 0 (by omega)
   have c1:=s 1 (by omega)
   have c2:=s 2 (by omega)
   have c3:=s 3 (by omega)
   have c4:=s 4 (by omega)
   have c5:=s 5 (by omega)
   have c6:=s 6 (by omega)
   have c7:=s 7 (by omega)
   have c8:=s 8 (by omega)
   have c9:=s 9 (by omega)
   have G:=s 10 (by omega)
   have J:=s 11 (by omega)
   rw[Go.Deep.add_add] at c0 c1 c2 c3 c4 c5 c6 c7 c8 c9 G J
   exact⟨⟨x0,x1,x2,x3,x4,x5,x6,x7,x8,x9,az,aA⟩,by simpa using c0,by simpa using c1,by simpa using c2,by simpa using c3,by simpa using c4,by simpa using c5,by simpa using c6,by simpa using c7,by simpa using c8,by simpa using c9,by simpa using G,by simpa using J⟩
 obtain⟨q,hq⟩:=choose_lt R
 have ab:((List.range l0).map q).length=l0:=by simp
 refine⟨some ad,m,(List.range l0).map q,by rw[ab],by rw[ZhQ],fun z=>⟨ad,rfl,?_,fun j u hu=>?_⟩⟩
 ·rw[ab] at z
  have:=World.block_lt_of_cell? W _ (hq 0 z).1
  rwa [Zfe] at this
 ·have hj:j<l0*12:=by
   have:=(List.getElem?_eq_some_iff.1 hu).1
   rw[ZhQ] at this
   simpa using this
  have hk:j/12<l0:=by omega
  obtain⟨ag,ah,ai,aj,ak,al,am,an,ao,ap,Y,Z⟩:=hq (j/12) hk
  have au:j/12<((List.range l0).map q).length:=by simpa using hk
  have hr:j=j/12*12+j%12:=by omega
  have e:=ZmA ((List.range l0).map q) (j/12) au (j%12) (Nat.mod_lt _ (by decide))
  rw[←hr,hu] at e
  have af:((List.range l0).map q)[j/12]=q (j/12):=by simp
  rw[af] at e
  have h5:j%12=0∨j%12=1∨j%12=2∨j%12=3∨j%12=4∨j%12=5∨j%12=6∨j%12=7∨j%12=8∨j%12=9∨j%12=10∨j%12=11:=by omega
  rcases h5 with h5|h5|h5|h5|h5|h5|h5|h5|h5|h5|h5|h5<;>rw[h5] at e hr<;>simp[EvP.cs] at e<;>subst e
  ·have e:j=j/12*12:=by omega
   exact(congrArg (fun m=>W.cell? (ad.add m)) e).trans ag
  ·exact(congrArg (fun m=>W.cell? (ad.add m)) hr).trans ah
  ·exact(congrArg (fun m=>W.cell? (ad.add m)) hr).trans ai
  ·exact(congrArg (fun m=>W.cell? (ad.add m)) hr).trans aj
  ·exact(congrArg (fun m=>W.cell? (ad.add m)) hr).trans ak
  ·exact(congrArg (fun m=>W.cell? (ad.add m)) hr).trans al
  ·exact(congrArg (fun m=>W.cell? (ad.add m)) hr).trans am
  ·exact(congrArg (fun m=>W.cell? (ad.add m)) hr).trans an
  ·exact(congrArg (fun m=>W.cell? (ad.add m)) hr).trans ao
  ·exact(congrArg (fun m=>W.cell? (ad.add m)) hr).trans ap
  ·exact(congrArg (fun m=>W.cell? (ad.add m)) hr).trans Y
  ·exact(congrArg (fun m=>W.cell? (ad.add m)) hr).trans Z
theorem ZfY{W:World}(h:laidMetH prog Rows.coreOnceRow.laid W):Gl W:=by
 rw[MakeChecks.laidMetH_plain _ _ _ (by kernel_rfl)] at h
 have h1:laidMet prog [("bulwark/grid.shifts",Lib.tabData .i64 ZdM),("bulwark/grid.vols",Lib.tabData .i64 ZfU),("unicode/utf8.first",Rows.laid_unicode_utf8_first)] W:=laidMet.tail h
 have h2:laidMet prog [("bulwark/grid.vols",Lib.tabData .i64 ZfU),("unicode/utf8.first",Rows.laid_unicode_utf8_first)] W:=laidMet.tail h1
 have t1:=Lib.tabIs_of_head (g:=5) (t:=262) (e:=3) (n:=7) (by kernel_rfl) (by kernel_rfl) underlying262 underlying3 (by kernel_rfl) (by kernel_rfl) h1
 have t2:=Lib.tabIs_of_head (g:=6) (t:=263) (e:=3) (n:=3) (by kernel_rfl) (by kernel_rfl) underlying263 underlying3 (by kernel_rfl) (by kernel_rfl) h2
 exact⟨fun j hj=>t1.cell (by kernel_rfl) j hj,fun j hj=>t2.cell (by kernel_rfl) j hj⟩
theorem Zhw(os:Os)(args:Array Value):laidMetH prog Rows.coreOnceRow.laid ((World.laidAll prog os Rows.coreOnceRow.laid).forCall (fun _ _=>0) ⟨#[],args,[]⟩).memory:=by
 rw[MakeChecks.laidMetH_plain _ _ _ (by kernel_rfl)]
 exact laidMet_laidAll _ (by kernel_rfl) (by kernel_rfl)
end
end Go.Proofs.YtdefojlkofnloaaGreatDoor
