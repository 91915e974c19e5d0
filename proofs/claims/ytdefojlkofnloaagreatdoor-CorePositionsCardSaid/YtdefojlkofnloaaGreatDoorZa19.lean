/- A part of the proof of CorePositions: for every input, no condition. -/
import Derived.Test.YtdefojlkofnloaaGreatDoorZa17
import Derived.MapKept
set_option maxRecDepth 100000
set_option maxHeartbeats 8000000
set_option linter.unusedVariables false
set_option linter.unusedSimpArgs false
namespace Go.Proofs.YtdefojlkofnloaaGreatDoor
open Go.RowKit Go.Proofs.Tryz
section
open Go.MapKept
noncomputable def unE(m:Zab)(k:Nat):Int:=ZfI (m.instrs.getD k default) (m.unders.getD (m.instrs.getD k default).under.toNat default) m.day
noncomputable def unF(m:Zab)(k:Nat)(s:Nat):Int:=(ZlN (m.instrs.getD k default) (m.unders.getD (m.instrs.getD k default).under.toNat default) m.day s).1
noncomputable def unV(m:Zab)(k:Nat):Array Value:=Zf5 (m.instrs.getD k default) (m.unders.getD (m.instrs.getD k default).under.toNat default) m.day
theorem ZmI{m:Zab}{k:Nat}(h:unE m k=0):unV m k=Zbd (unF m k) 21:=by
 unfold unV Zf5
 have h':ZfI (m.instrs.getD k default) (m.unders.getD (m.instrs.getD k default).under.toNat default) m.day=0:=h
 rw[h',if_pos rfl]
 rfl
def ZkG(m:Zab)(clock:Nat)(x:MapEntry):Prop:=∃k:Nat,x.key=I k∧unE m k=0∧x.val=.agg (Zbd (unF m k) 21)∧x.born<clock
def ZaE(w:World)(bm:Nat)(m:Zab):Prop:=∃es clock,w.heap[bm]?=some (.map es clock)∧∀x∈es.toList,ZkG m clock x
def Zfb(w:World)(bm:Nat)(m:Zab)(k:Nat):Prop:=∃es clock,w.heap[bm]?=some (.map es clock)∧(∀x∈es.toList,ZkG m clock x)∧∀x∈es.toList,x.key ≠ I k
theorem Zfb.ok{w:World}{bm:Nat}{m:Zab}{k:Nat}(h:Zfb w bm m k):ZaE w bm m:=by obtain⟨es,c,h1,h2,_⟩:=h;exact⟨es,c,h1,h2⟩
theorem ZaE.made(w:World)(m:Zab):ZaE (w.alloc (.map #[] 0)) w.heap.size m:=⟨#[],0,heap_alloc_new w _,by simp⟩
theorem ZaE.lt{w:World}{bm:Nat}{m:Zab}(h:ZaE w bm m):bm<w.heap.size:=by obtain⟨es,c,h1,_⟩:=h;exact(Array.getElem?_eq_some_iff.1 h1).1
theorem ZaE.keep{w w':World}{bm:Nat}{m:Zab}(h:ZaE w bm m)(s:w'.heap[bm]?=w.heap[bm]?):ZaE w' bm m:=by obtain⟨es,c,h1,h2⟩:=h;exact⟨es,c,s.trans h1,h2⟩
theorem Zfb.keep{w w':World}{bm:Nat}{m:Zab}{k:Nat}(h:Zfb w bm m k)(s:w'.heap[bm]?=w.heap[bm]?):Zfb w' bm m k:=by obtain⟨es,c,h1,h2⟩:=h;exact⟨es,c,s.trans h1,h2⟩
theorem ZaE.ne{w:World}{bm g:Nat}{t:TypeId}{cs:Array Value}{m:Zab}(h:ZaE w bm m)(s:Bk w g t cs):g≠bm:=by
 obtain⟨es,c,h1,_⟩:=h
 rintro rfl
 unfold Bk at s
 rw[h1] at s
 cases s
theorem ZgK:prog.underlying 224=some (.map 3 239):=underlying224
theorem ZkE(w:World):(zeroValue 239).run prog w=.ok (.agg (Zbd (fun _=>0) 0)) w:=by
 have e:Zbd (fun _=>0) 0=zW:=by simp[Zbd];rfl
 have z:∀w:World,(zeroValue 239).run prog w=.ok (.agg zW) w:=fun _=>by kernel_rfl
 rw[e]
 exact z w
theorem ZcP(k:Nat):IsKey (.int .i64) (I k):=rfl
theorem ZaE.look{w:World}{bm:Nat}{m:Zab}(h:ZaE w bm m)(k:Nat):
 ∃u known,(Instr.lookup 224 (.map (some bm)) (I k) true).run prog w=.ok (.tuple #[.agg u,.bool known]) w ∧
  ((known=true∧unE m k=0∧u=Zbd (unF m k) 21)∨(known=false∧u=Zbd (fun _=>0) 0∧Zfb w bm m k)):=by
 obtain⟨es,s,hb,he⟩:=h
 have z:∀x∈es.toList,IsKey (.int .i64) x.key:=fun x hx=>by
  obtain⟨j,hj,_⟩:=he x hx
  rw[hj];exact ZcP j
 have hu:prog.underlying 3=some (.int .i64):=underlying3
 rcases findNow_spec (ZcP k) es.toList 0 z with⟨h1,h2⟩|⟨j,e,h1,h2,h3⟩
 ·refine⟨_,false,?_,.inr ⟨rfl,rfl,es,s,hb,he,h2⟩⟩
  unfold Instr.lookup
  simp only[Sem.run_bind,run_underlying ZgK,Result.andThen,MapKept.run_getObj_map hb,Sem.run_pure,run_checkKey hu (ZcP k),run_findKey hu h1,ZkE,if_true]
 ·obtain⟨k',C,h0,hv,_⟩:=he e (List.mem_of_getElem? h2)
  rw[C] at h3
  injection h3 with _ h3
  obtain rfl:k'=k:=by omega
  refine⟨_,true,?_,.inl ⟨rfl,h0,rfl⟩⟩
  unfold Instr.lookup
  simp only[Sem.run_bind,run_underlying ZgK,Result.andThen,MapKept.run_getObj_map hb,Sem.run_pure,run_checkKey hu (ZcP k'),run_findKey hu h1,hv,if_true]
def World.put(w:World)(b:Nat)(o:Obj):World:={w with heap:=w.heap.setIfInBounds b o}
theorem Zho(w:World)(b:Nat)(o:Obj):w.grownBy (World.put w b o) (some b):=
 ⟨rfl,rfl,rfl,by simp[World.put],fun k _ hk=>by
  have:b≠k:=fun e=>hk (by rw[e])
  simp[World.put,this]⟩
theorem ZlO{w:World}{b:Nat}(h:b<w.heap.size)(o:Obj):(World.put w b o).heap[b]?=some o:=by simp[World.put,h]
theorem Zfb.entry{w:World}{bm:Nat}{m:Zab}{k:Nat}(h:Zfb w bm m k):
 ∃es s,w.heap[bm]?=some (.map es s)∧(∀x∈es.toList,ZkG m s x) ∧
  (Instr.mapEntry 224 (.map (some bm)) (I k)).run prog w=.ok (.tuple #[.agg (Zbd (fun _=>0) 0),I s]) (World.put w bm (.map (es.push {key:=I k,val:=.agg (Zbd (fun _=>0) 0),born:=s}) (s+1))):=by
 obtain⟨es,s,hb,he,C⟩:=h
 refine⟨es,s,hb,he,?_⟩
 have z:∀x∈es.toList,IsKey (.int .i64) x.key:=fun x hx=>by
  obtain⟨j,hj,_⟩:=he x hx
  rw[hj];exact ZcP j
 have hu:prog.underlying 3=some (.int .i64):=underlying3
 rcases findNow_spec (ZcP k) es.toList 0 z with⟨h1,h2⟩|⟨j,e,h1,h2,h3⟩
 ·unfold Instr.mapEntry
  simp only[Sem.run_bind,run_underlying ZgK,Result.andThen,MapKept.run_getObj_map hb,Sem.run_pure,run_checkKey hu (ZcP k),run_findKey hu h1,ZkE,MapKept.run_setObj_map _ hb]
  rfl
 ·exact absurd h3 (C e (List.mem_of_getElem? h2))
theorem ZhP{w:World}{bm:Nat}{m:Zab}{k s:Nat}{z:Array MapEntry}(G:w.heap[bm]?=some (.map (z.push {key:=I k,val:=.agg (Zbd (fun _=>0) 0),born:=s}) (s+1)))(L:∀x∈z.toList,ZkG m s x)(N:unE m k=0):
 ∃w',(Instr.entryStore 224 (.map (some bm)) (I s) (.agg (Zbd (unF m k) 21))).run prog w=.ok () w'∧ZaE w' bm m∧w.grownBy w' (some bm):=by
 have C:bm<w.heap.size:=(Array.getElem?_eq_some_iff.1 G).1
 have J:(z.push {key:=I k,val:=.agg (Zbd (fun _=>0) 0),born:=s}).findIdx? (fun e=>(e.born:Int)==(s:Int))=some z.size:=by
  rw[Array.findIdx?_push]
  have h1:z.findIdx? (fun e=>(e.born:Int)==(s:Int))=none:=by
   rw[Array.findIdx?_eq_none_iff]
   intro x hx
   obtain⟨_,_,_,_,C⟩:=L x (by simpa using hx)
   simp only[beq_eq_false_iff_ne]
   omega
  rw[h1]
  simp
 refine⟨World.put w bm (.map ((z.push {key:=I k,val:=.agg (Zbd (fun _=>0) 0),born:=s}).modify z.size fun e=>{e with val:=.agg (Zbd (unF m k) 21)}) (s+1)),?_,⟨_,_,ZlO C _,?_⟩,Zho _ _ _⟩
 ·have E:∀W:World,(asInt (I s)).run prog W=.ok (s:Int) W:=fun _=>rfl
  unfold Instr.entryStore
  simp only[E,Sem.run_bind,Result.andThen,MapKept.run_getObj_map G,J,MapKept.run_setObj_map _ G]
  rfl
 ·intro x hx
  have e:((z.push {key:=I k,val:=.agg (Zbd (fun _=>0) 0),born:=s}).modify z.size fun e=>{e with val:=.agg (Zbd (unF m k) 21)})=z.push {key:=I k,val:=.agg (Zbd (unF m k) 21),born:=s}:=by
   apply Array.ext_getElem?
   intro i
   rw[Array.getElem?_modify]
   by_cases hi:z.size=i
   ·subst hi;simp
   ·rw[if_neg hi,Array.getElem?_push,Array.getElem?_push]
    have:i≠z.size:=Ne.symm hi
    simp[this]
  rw[e] at hx
  simp only[Array.toList_push,List.mem_append,List.mem_cons,List.not_mem_nil,or_false] at hx
  rcases hx with hx|rfl
  ·obtain⟨j,a,b,c,d⟩:=L x hx
   exact⟨j,a,b,c,by omega⟩
  ·exact⟨k,rfl,N,rfl,Nat.lt_succ_self _⟩
section
variable {w w':World} {bm:Nat} {m:Zab}
theorem Bk.turn{g:Nat}{t:TypeId}{cs:Array Value}(h:Bk w g t cs)(z:ZaE w bm m)(s:w.grownBy w' (some bm)):Bk w' g t cs:=h.grown s fun e=>z.ne h (Option.some.inj e)
theorem ZbF{p:Addr}{u:Value}(h:w.cell? p=some u)(E:ZaE w bm m)(C:w.grownBy w' (some bm)):w'.cell? p=some u:=by
 have z:p.block≠bm:=by
  rintro rfl
  obtain⟨es,c,h1,_⟩:=E
  simp[World.cell?,h1] at h
 have s:=World.block_lt_of_cell? w p h
 rw[World.cell?_of_block (C.block p.block s fun e=>z (Option.some.inj e))]
 exact h
theorem Rd.turn{B k n:Nat}{A:Option Addr}{xs:List Value}(h:Rd w B k A n xs)(z:ZaE w bm m)(s:w.grownBy w' (some bm)):Rd w' B k A n xs:=by
 refine⟨h.1,fun hn=>?_⟩
 obtain⟨a,e,hb,hc⟩:=h.2 hn
 exact⟨a,e,hb,fun j u hu=>ZbF (hc j u hu) z s⟩
end
end
section
section
variable {P:Program} (w:World) {ops:Array Oper} {rest:List Oper} {o:Oper} {a:Act} {Q:Exit→Act→World→Prop}
theorem Zib(J:o.guard=none)(m x:Operand)(t:TypeId)(C:o.op=Op.lookup t m x true)(E G v:Value)(L:a.eval m=E)(N:a.eval x=G)(s:(Instr.lookup t E G true).run P w=.ok v w)(hK:wpList P ops Q rest (a.put o.dst v) w):wpList P ops Q (o::rest) a w:=by
 refine wpList_plain J fun K' z=>?_
 unfold Oper.wp
 simp[execOp,C,L,N,s,Result.andThen]
 exact z _ _ hK
end
section
variable {P:Program}
theorem Za9{o:Oper}{a:Act}{w:World}(s:TypeId)(x:Operand)(E:o.op=.load s x)(g:Nat)(J:a.eval x=Pt g)(t:TypeId)(cs:Array Value)(fr:Nat×Nat)(d:TypeDesc)(C:w.heap[g]?=some (.cells cs t fr))(G:P.underlying s=some d)(z:(match d with | .struct _ | .array _ _=>true|_=>false)=true)(hi:(P.info? s).map (·.size)=some cs.size):
 (execOp a.eval o).run P w=.ok (.value (.agg cs)) w:=by
 unfold execOp
 simp only[E,J,Instr.loadAt,Instr.sureAddr,Sem.run_bind,Sem.run_pure,Result.andThen_ok,run_loadVar_row w g t s cs fr d C G z hi]
theorem ZgG{ops:Array Oper}{o:Oper}{a:Act}{w w':World}{K:Act→World→Prop}{Q:Exit→Act→World→Prop}{E:Prop}(z:o.guard=none)(t:TypeId)(x y:Operand)(J:o.op=.mapEntry t x y)(C G v:Value)(L:a.eval x=C)(N:a.eval y=G)(s:(Instr.mapEntry t C G).run P w=.ok v w')(h:K (a.put o.dst v) w'):if Region.wanted o (yielded ops a.tmps)=true then Oper.wp P o a w K Q else E:=by
 have hw:Region.wanted o (yielded ops a.tmps)=true:=by simp[Region.wanted,z]
 rw[if_pos hw]
 unfold Oper.wp
 simp[execOp,J,L,N,s,Result.andThen]
 exact h
theorem ZfF{ops:Array Oper}{o:Oper}{a:Act}{w w':World}{K:Act→World→Prop}{Q:Exit→Act→World→Prop}{E:Prop}(C:o.guard=none)(t:TypeId)(x y z:Operand)(N:o.op=.entryStore t x y z)(G J L:Value)(R:a.eval x=G)(U:a.eval y=J)(X:a.eval z=L)(s:(Instr.entryStore t G J L).run P w=.ok () w')(h:K (a.put o.dst undef) w'):if Region.wanted o (yielded ops a.tmps)=true then Oper.wp P o a w K Q else E:=by
 have hw:Region.wanted o (yielded ops a.tmps)=true:=by simp[Region.wanted,C]
 rw[if_pos hw]
 unfold Oper.wp
 simp[execOp,N,R,U,X,s,Result.andThen]
 exact h
end
structure ZbT(m:Zab):Prop where
 ins:∀i∈m.instrs,0≤i.under∧i.under<m.unders.length
 und:∀u∈m.unders,0≤u.cur∧u.cur<m.curs.length∧0≤u.price∧u.price≤1000000000000∧0≤u.vol∧u.vol≤50000
 pos:∀p∈m.poss,0≤p.instr∧p.instr<m.instrs.length∧0≤p.acct∧p.acct<m.accts.length
 ord:∀p∈m.orders,0≤p.instr∧p.instr<m.instrs.length∧0≤p.acct∧p.acct<m.accts.length
 cash:∀a∈m.accts,a.cash.length=m.curs.length
 lens:m.curs.length≤4∧m.unders.length≤6∧m.instrs.length≤12∧m.accts.length≤16∧m.poss.length≤64∧m.orders.length≤32
structure Zdx(w:World)(bs bm:Nat)(m:Zab)(bA:Option Addr)(bc:Nat)(below:List Int):Prop where
 bk:Bk w bs 226 (Zhv m (.slice bA below.length bc) (.map (some bm)))
 mp:ZaE w bm m
 led:Zay w w.heap.size m
 bel:Rd w w.heap.size 1 bA below.length (Zag below)
 gl:Gl w
theorem Zae{w W W':World}{row:Option Nat}{B:Nat}(h:w.grownBy W row)(s:Below B W W')(z:w.heap.size≤B):w.grownBy W' row:=
 ⟨s.os.trans h.os,s.tape.trans h.tape,s.output.trans h.output,Nat.le_trans h.size s.size,fun k hk hr=>(s.block k (by omega)).trans (h.block k hk hr)⟩
theorem ZaG(w:World)(row:Option Nat):w.grownBy w row:=⟨rfl,rfl,rfl,Nat.le_refl _,fun _ _ _=>rfl⟩
theorem Za6{w W W':World}{row:Option Nat}(h:w.grownBy W row)(s:W.grownBy W' row):w.grownBy W' row:=
 ⟨s.os.trans h.os,s.tape.trans h.tape,s.output.trans h.output,Nat.le_trans h.size s.size,fun k hk hr=>(s.block k (Nat.lt_of_lt_of_le hk h.size) hr).trans (h.block k hk hr)⟩
theorem Zcb{w W:World}{g:Nat}{B:Nat}(h:w.grownBy W (some g))(s:B≤g)(z:B≤w.heap.size):Below B w W:=
 ⟨h.os,h.tape,h.output,h.size,fun k hk=>h.block k (by omega) (fun e=>by injection e with e;omega)⟩
theorem Zay.turn{w w':World}{bm:Nat}{m C:Zab}{B:Nat}(h:Zay w B m)(z:ZaE w bm C)(s:w.grownBy w' (some bm)):Zay w' B m:=
 ⟨h.curs.turn z s,h.unders.turn z s,h.instrs.turn z s,h.accts.turn z s,fun a ha=>⟨(h.cash a ha).1.turn z s,(h.cash a ha).2⟩,h.poss.turn z s,h.orders.turn z s,h.avail.turn z s,h.locs.turn z s,h.short,h.caps⟩
theorem Gl.turn{w w':World}{bm:Nat}{C:Zab}(h:Gl w)(z:ZaE w bm C)(s:w.grownBy w' (some bm)):Gl w':=
 ⟨fun j hj=>ZbF (h.1 j hj) z s,fun j hj=>ZbF (h.2 j hj) z s⟩
theorem Zdx.turn{w w':World}{E bm:Nat}{m:Zab}{z:Option Addr}{C:Nat}{below:List Int}(h:Zdx w E bm m z C below)(s:w.grownBy w' (some bm))(G:ZaE w' bm m):Zdx w' E bm m z C below:=
 ⟨h.bk.turn h.mp s,G,(h.led.turn h.mp s).mono s.size,(h.bel.turn h.mp s).mono s.size,h.gl.turn h.mp s⟩
theorem Zdx.below{w w':World}{C bm:Nat}{m:Zab}{s:Option Addr}{z:Nat}{below:List Int}(h:Zdx w C bm m s z below)(E:Bw w w'):Zdx w' C bm m s z below:=
 h.turn (Zae (ZaG w _) E (Nat.le_refl _)) (h.mp.keep (E.block _ h.mp.lt))
noncomputable def ofO(m:Zab)(k s:Nat):Option Int:=if unE m k=0 then some (unF m k s) else none
theorem Zmm(m:Zab)(bs bm:Nat)(bA:Option Addr)(bc:Nat)(below:List Int)(k s:Nat)(w:World)(hs:Zdx w bs bm m bA bc below)(ho:ZbT m)(hk:k<m.instrs.length)(aM:s<21):
 Calls prog 224 #[Pt bs,I k,I s] w fun e w'=>Zc9 (ofO m k s) e∧w.grownBy w' (some bm)∧ZaE w' bm m:=by
 obtain⟨r,hr⟩:=ExY (ofO m k s)
 rw[←hr]
 unfold ofO at hr
 have HR:=Hi hr
 have aC:=Hi hs
 have aO:=Hi ho
 have HK:=Hi hk
 have L:=Hi aM
 obtain⟨u,known,ad,X⟩:=hs.mp.look k
 have a5:=Hi ad
 have HC:=Hi X
 have aw:u.size=21:=by
  rcases X with⟨_,_,h⟩|⟨_,h,_⟩<;>rw[h]<;>exact Za8 _ _
 have bi:u.all (·.oneCell')=true:=by
  rcases X with⟨_,_,h⟩|⟨_,h,_⟩<;>rw[h]<;>exact ZdP _ _
 have zi:(prog.info? 239).map (·.size)=some u.size:=by rw[aw];kernel_rfl
 have ZI:=Hi zi
 have zs:(zW:Array Value).size=u.size:=by rw[aw];rfl
 have ZS:=Hi zs
 have Z1:=Hi bi
 have bK:w.cell? (Aq bs 10)=some (.map (some bm)):=hs.bk.cell 10
 have bn:=hs.bk.lt
 obtain⟨W1,aD⟩:=ExY (w.alloc (.cells zW 239))
 obtain⟨b7,aH⟩:=ExY w.heap.size
 have bp:=bkW aD aH
 have bu:=blB aD
 have aK:=bl0 aH
 obtain⟨W2,aE⟩:=ExY (W1.setRow b7 u)
 have aA:Hid (Bk W2 b7 239 u):=by rw[aE];exact bp.row _
 have am:=blR bu aE aK
 clear hr hs ho hk aM ad X aw bi zi zs
 go_enter func224,ntmps224
 go_upto_region 1 with(fail)
 go_upto_region 2 with(first|refine Zib w rfl _ _ 224 rfl _ _ _ rfl rfl a5.out ?_|refine wpList_store_row rfl 239 _ _ rfl w.heap.size u rfl rfl 239 zW (Bk.new w 239 _) ZI.out ZS.out Z1.out ?_)
 rw[←aD,←aH,←aE]
 clear aD aH aE bK bn
 rcases HC.out with⟨rfl,h0,hu⟩|⟨rfl,hu,bh⟩
 ·have bq:Hid (Bk W2 b7 239 (Zbd (unF m k) 21)):=by rw[←hu];exact aA
  have c7:W2.cell? (Aq b7 s)=some (I (unF m k s)):=by rw[bq.cell,ZcE _ _ _ L.out,if_pos L.out]
  have i0:(0:Int)≤(s:Int):=by omega
  have i1:(s:Int)<21:=by have:=L.out;omega
  have e0:r=some (unF m k s):=by rw[HR.out,if_pos h0]
  subst e0
  have HG:Hid (w.grownBy W2 (some bm)):=Zae (ZaG w _) am (Nat.le_refl _)
  have HM:Hid (ZaE W2 bm m):=aC.mp.keep (am.block _ aC.mp.lt)
  clear hu h0
  go_wp2
  go_ret
  exact⟨rfl,HG,HM⟩
 ·have a3:Hid (Zfb W2 bm m k):=bh.keep (am.block _ aC.mp.lt)
  have J:Hid (Zdx W2 bs bm m bA bc below):=aC.below am
  have a0:Hid (w.grownBy W2 (some bm)):=Zae (ZaG w _) am (Nat.le_refl _)
  obtain⟨a,hA,_,c0,c1,c2,c3,c4,c5,c6⟩:=Zds J.led.instrs HK.out
  have x3:W2.cell? (Aq bs 3)=some (.slice m.sIns.A m.instrs.length m.sIns.c):=J.bk.cell 3
  rw[hA] at x3
  have aj:m.instrs.getD k default=m.instrs[k]'HK.out:=by simp[HK.out]
  obtain⟨x,hx⟩:=ExY (m.instrs[k]'HK.out)
  have aW:x∈m.instrs:=by rw[hx];exact List.getElem_mem _
  rw[←hx] at c0 c1 c2 c3 c4 c5 c6 aj
  obtain⟨q,hq⟩:∃q:Nat,x.under=q:=⟨x.under.toNat,by have:=(aO.ins x aW).1;omega⟩
  have aV:q<m.unders.length:=by have:=(aO.ins x aW).2;omega
  obtain⟨a2,bd,_,d0,d1,d2,d3⟩:=ZfE J.led.unders aV
  have x2:W2.cell? (Aq bs 2)=some (.slice m.sUnd.A m.unders.length m.sUnd.c):=J.bk.cell 2
  rw[bd] at x2
  have x0:W2.cell? (Aq bs 0)=some (I m.day):=J.bk.cell 0
  have Y:m.unders.getD q default=m.unders[q]:=by simp[aV]
  obtain⟨y,hy⟩:=ExY (m.unders[q])
  have bl:y∈m.unders:=by rw[hy];exact List.getElem_mem _
  rw[←hy] at d0 d1 d2 d3 Y
  have hE:unE m k=ZfI x y m.day:=by unfold unE;rw[aj,hq,Int.toNat_natCast,Y]
  have hV:unV m k=Zf5 x y m.day:=by unfold unV;rw[aj,hq,Int.toNat_natCast,Y]
  have an:Hid (∀V,Bw W2 V→Calls prog 226 #[x.val,y.val,I m.day] V fun e w'=>e=.returned (.tuple #[.agg (unV m k),I (unE m k)])∧Bw V w'):=by
   intro V bH
   rw[hE,hV]
   have:=aO.und y bl
   exact Zkv x y m.day V ⟨this.2.2.1,this.2.2.2.1⟩ ⟨this.2.2.2.2.1,this.2.2.2.2.2⟩ (J.gl.below bH J.gl.lt)
  obtain⟨ax,un,ay,Z,R,aR,mark⟩:=x
  obtain⟨aN,bb,az,bo⟩:=y
  dsimp only at hq
  subst hq
  unfold ZaD.val ZbD.val at an
  dsimp only at an c0 c1 c2 c3 c4 c5 c6 d0 d1 d2 d3
  have G:Hid ((unV m k).size=21∧(unV m k).all (·.oneCell')=true):=by
   unfold unV Zf5
   exact⟨Za8 _ _,ZdP _ _⟩
  obtain⟨uv,aI⟩:=ExY (unV m k)
  obtain⟨ue,ae⟩:=ExY (unE m k)
  rw[←aI,←ae] at an
  rw[←aI] at G
  have bD:=Hi aI
  have ba:=Hi ae
  have i0:(0:Int)≤(k:Int):=by omega
  have i1:(k:Int)<(m.instrs.length:Int):=by have:=HK.out;omega
  have i2:(0:Int)≤(q:Int):=by omega
  have i3:(q:Int)<(m.unders.length:Int):=by omega
  have bn:bs<W2.heap.size:=J.bk.lt
  obtain⟨W3,aF⟩:=ExY (W2.alloc (.cells #[I ax,I q,I ay,I Z,I R,.bool aR,I mark] 66))
  obtain⟨b9,aT⟩:=ExY W2.heap.size
  have aY:=bkW aF aT
  have aa:Hid (Bw W2 W3):=by rw[aF];exact(Below.refl _ W2).alloc (Nat.le_refl _) _
  have HD:Hid (∀U,Bw W3 U→U.cell? (Aq b9 0)=some (I ax)∧U.cell? (Aq b9 1)=some (I q)∧U.cell? (Aq b9 2)=some (I ay)∧U.cell? (Aq b9 3)=some (I Z)∧U.cell? (Aq b9 4)=some (I R)∧U.cell? (Aq b9 5)=some (.bool aR)∧U.cell? (Aq b9 6)=some (I mark) ∧
   U.cell? (Aq bs 0)=some (I m.day)∧U.cell? (Aq bs 2)=some (.slice (some a2) m.unders.length m.sUnd.c)∧U.cell? (a2.add (q*4))=some (.string aN)∧U.cell? ⟨(a2.add (q*4)).block,(a2.add (q*4)).off+1,none⟩=some (I bb)∧U.cell? ⟨(a2.add (q*4)).block,(a2.add (q*4)).off+2,none⟩=some (I az)∧U.cell? ⟨(a2.add (q*4)).block,(a2.add (q*4)).off+3,none⟩=some (I bo)):=by
   intro U hU
   have h9:=aY.below hU aY.lt
   have ak:Bw W2 U:=aa.trans (hU.mono aa.size)
   exact⟨h9.cell 0,h9.cell 1,h9.cell 2,h9.cell 3,h9.cell 4,h9.cell 5,h9.cell 6,(ak.cell (World.block_lt_of_cell? _ _ x0)).trans x0,(ak.cell (World.block_lt_of_cell? _ _ x2)).trans x2,(ak.cell (World.block_lt_of_cell? _ _ d0)).trans d0,(ak.cell (World.block_lt_of_cell? _ _ d1)).trans d1,(ak.cell (World.block_lt_of_cell? _ _ d2)).trans d2,(ak.cell (World.block_lt_of_cell? _ _ d3)).trans d3⟩
  clear bh hu hA aj hx aW aV bd Y hy bl hE hV aI ae x0 x2 d0 d1 d2 d3
  go_upto_region 4 with(fail)
  rw[←aF,←aT]
  clear aF aT c0 c1 c2 c3 c4 c5 c6 x3
  go_cut [10,11] (fun bI bJ wx=>∃E:Nat,bI=Pt E∧bJ=I ue∧Hid (Bw W3 wx∧W3.heap.size≤E∧Bk wx E 239 uv))
  case first=>
   refine Zbf (fun U=>U.cell? (Aq b9 0)=some (I ax)∧U.cell? (Aq b9 1)=some (I q)∧U.cell? (Aq b9 2)=some (I ay)∧U.cell? (Aq b9 3)=some (I Z)∧U.cell? (Aq b9 4)=some (I R)∧U.cell? (Aq b9 5)=some (.bool aR)∧U.cell? (Aq b9 6)=some (I mark)∧U.cell? (Aq bs 0)=some (I m.day)∧U.cell? (Aq bs 2)=some (.slice (some a2) m.unders.length m.sUnd.c)∧U.cell? (a2.add (q*4))=some (.string aN)∧U.cell? ⟨(a2.add (q*4)).block,(a2.add (q*4)).off+1,none⟩=some (I bb)∧U.cell? ⟨(a2.add (q*4)).block,(a2.add (q*4)).off+2,none⟩=some (I az)∧U.cell? ⟨(a2.add (q*4)).block,(a2.add (q*4)).off+3,none⟩=some (I bo)) 21 (by kernel_rfl) ?_
   refine tkM [0,1,2,3,4,5,6,7,8,9,10,11,12,13,14] (HD.out _ (Below.refl _ W3).drew) (by kernel_rfl) (fun _ _ _ _ h=>h) ?_
   iterate 15 (refine ycM rfl (by rfl) (fun w h=>by go_simp<;>rfl) ?_;try simp only[Act.put,sA,sB,sC])
   refine ZcD (rs:=[15,19]) (by kernel_rfl) (by simp) ?_
   refine ZgP rfl (fun K hK=>?_) (ZgP rfl (fun K hK=>?_) (ZgQ.nil))
   ·go_simp
    refine(an.out _ (aa.drew)).mono ?_
    rintro e W4 ⟨rfl,hb⟩
    dsimp only
    have C:Hid (Bw W3 W4):=⟨hb.os,hb.tape,hb.output,hb.size,hb.block⟩
    clear hb
    refine hK.out _ _ (fun _=>HD.out _ C) ?_
    try simp only[Act.put,sA,sB,sC]
    refine tkM [16,17,18] (HD.out _ C) (by kernel_rfl) (fun _ _ _ _ h=>h) ?_
    iterate 3 (refine ycM rfl (by rfl) (fun w h=>by go_simp<;>rfl) ?_;try simp only[Act.put,sA,sB,sC])
    refine onM 19 (by kernel_rfl) rfl fun K hK=>?_
    go_simp
    have al:Hid (Bk (W4.alloc (.cells zW 239)) W4.heap.size 239 zW):=Bk.new _ _ _
    have ab:Hid (Bw W3 (W4.alloc (.cells zW 239))):=C.alloc C.size _
    have z:Hid (W3.heap.size≤W4.heap.size):=C.size
    refine hK.out _ _ (fun _=>HD.out _ ab) ?_
    try simp only[Act.put,sA,sB,sC]
    refine onM 20 (by kernel_rfl) rfl fun K hK=>?_
    have zi:(prog.info? 239).map (·.size)=some uv.size:=by rw[G.1];kernel_rfl
    have zs:(zW:Array Value).size=uv.size:=by rw[G.1];rfl
    have aP:=Hi zi
    have aQ:=Hi zs
    clear zi zs
    refine Zaq rfl 239 _ _ rfl W4.heap.size uv rfl rfl 239 zW al aP aQ G.2 ?_
    refine hK.out _ _ (fun _=>HD.out _ (ZaB ab z _)) ?_
    try simp only[Act.put]
    refine onM 21 (by kernel_rfl) rfl fun K hK=>?_
    go_simp
    refine hK.out _ _ (fun h0=>Zac (by kernel_rfl) h0) ?_
    refine Zak (by kernel_rfl) ?_ _
    go_wp2
    go_meet
    exact⟨_,rfl,rfl,(ZaB ab z _),z,al.row _⟩
   ·go_simp
    have aJ:Hid (Bk (W3.alloc (.cells zW 239)).drew W3.heap.size 239 zW):=Bk.drew (Bk.new _ _ _)
    have C:Hid (Bw W3 (W3.alloc (.cells zW 239)).drew):=((Below.refl _ W3).alloc (Nat.le_refl _) _).drew
    obtain⟨W4,aS⟩:=ExY ((W3.alloc (.cells zW 239)).drew)
    rw[←aS]
    rw[←aS] at aJ C
    clear aS
    refine hK.out _ _ (fun _=>HD.out _ C) ?_
    try simp only[Act.put,sA,sB,sC]
    refine onM 15 (by kernel_rfl) rfl fun K hK=>?_
    go_simp
    refine(an.out _ (aa.trans (C.mono aa.size))).mono ?_
    rintro e W5 ⟨rfl,hb⟩
    dsimp only
    have ab:=blT C hb
    have al:Hid (Bk W5 W3.heap.size 239 zW):=bkN aJ hb
    have z:Hid (W3.heap.size≤W3.heap.size):=Nat.le_refl W3.heap.size
    clear hb
    refine hK.out _ _ (fun _=>HD.out _ ab) ?_
    try simp only[Act.put,sA,sB,sC]
    refine tkM [16,17,18] (HD.out _ ab) (by kernel_rfl) (fun _ _ _ _ h=>h) ?_
    iterate 3 (refine ycM rfl (by rfl) (fun w h=>by go_simp<;>rfl) ?_;try simp only[Act.put,sA,sB,sC])
    refine onM 20 (by kernel_rfl) rfl fun K hK=>?_
    have zi:(prog.info? 239).map (·.size)=some uv.size:=by rw[G.1];kernel_rfl
    have zs:(zW:Array Value).size=uv.size:=by rw[G.1];rfl
    have aP:=Hi zi
    have aQ:=Hi zs
    clear zi zs
    refine Zaq rfl 239 _ _ rfl W3.heap.size uv rfl rfl 239 zW al aP aQ G.2 ?_
    refine hK.out _ _ (fun _=>HD.out _ (ZaB ab z _)) ?_
    try simp only[Act.put]
    refine onM 21 (by kernel_rfl) rfl fun K hK=>?_
    go_simp
    refine hK.out _ _ (fun h0=>Zac (by kernel_rfl) h0) ?_
    refine Zak (by kernel_rfl) ?_ _
    go_wp2
    go_meet
    exact⟨_,rfl,rfl,(ZaB ab z _),z,al.row _⟩
  case rest=>
   obtain⟨E,rfl,rfl,HW⟩:=hcut
   have C:Hid (Bw W3 wc):=HW.1
   have ai:Hid (Bw W2 wc):=aa.trans (C.mono aa.size)
   have ah:Hid (Bk wc E 239 uv):=HW.2.2
   have bC:Hid (E≠b7):=by
    have h1:=HW.2.1
    have h2:=aA.lt
    have h3:=aa.size
    show E≠b7
    omega
   have aB:Hid (Bk wc b7 239 u):=aA.below ai aA.lt
   have af:Hid (Zdx wc bs bm m bA bc below):=J.below ai
   have a4:Hid (Zfb wc bm m k):=a3.keep (ai.block _ J.mp.lt)
   have a1:Hid (w.grownBy wc (some bm)):=Zae a0 ai a0.size
   clear HW a3 HD
   by_cases ae:ue=0
   rotate_left
   ·have e1:r=none:=by rw[HR.out,←ba.out,if_neg ae]
    go_wp2_with fail
    refine Cq (ZbS _ ue ae _) ?_
    dsimp only
    go_wp2
    exact⟨rfl,by rw[e1];exact Zc9.none ae,a1,af.mp⟩
   subst ae
   have h0:unE m k=0:=ba.symm
   have e1:r=some (unF m k s):=by rw[HR.out,if_pos h0]
   have bj:uv=Zbd (unF m k) 21:=by rw[bD.out];exact ZmI h0
   subst bj
   have H0:=Hi h0
   clear h0
   go_wp2_with fail
   refine Cq (Zcd _ _) ?_
   dsimp only
   go_upto_region 6 with(fail)
   refine Zbf (fun U=>U.cell? (Aq bs 10)=some (.map (some bm))∧Bk U E 239 (Zbd (unF m k) 21)) 10 (by kernel_rfl) ?_
   refine tkM [0,1,2,3,4] (⟨af.bk.cell 10,ah⟩) (by kernel_rfl) (fun _ _ _ _ h=>h) ?_
   iterate 5 (refine ycM rfl (by rfl) (fun w h=>by go_simp<;>rfl) ?_;try simp only[Act.put,sA,sB,sC])
   refine Zjq (i:=5) (v:=.agg (Zbd (unF m k) 21)) rfl (by kernel_rfl) (by kernel_rfl) (by kernel_rfl) (by kernel_rfl) (by kernel_rfl) (fun _ _ _ h=>h) (Or.inl ⟨by rfl,?_⟩) (⟨af.bk.cell 10,ah⟩) ?_
   ·intro w ao
    try dsimp only at ao
    obtain⟨q0,q1⟩:=ao
    exact Za9 239 _ rfl E rfl 239 _ (0,0) _ q1 underlying239 rfl (by rw[Za8];kernel_rfl)
   try simp only[Act.put,sA,sB,sC]
   refine Zjq (i:=6) (v:=.agg (Zbd (unF m k) 21)) rfl (by kernel_rfl) (by kernel_rfl) (by kernel_rfl) (by kernel_rfl) (by kernel_rfl) (fun _ _ _ h=>h) (Or.inl ⟨by rfl,?_⟩) (⟨af.bk.cell 10,ah⟩) ?_
   ·intro w ao
    try dsimp only at ao
    obtain⟨q0,q1⟩:=ao
    exact Za9 239 _ rfl E rfl 239 _ (0,0) _ q1 underlying239 rfl (by rw[Za8];kernel_rfl)
   try simp only[Act.put,sA,sB,sC]
   refine onM 7 (by kernel_rfl) rfl fun K hK=>?_
   have zi:(prog.info? 239).map (·.size)=some (Zbd (unF m k) 21).size:=by rw[Za8];kernel_rfl
   have zs:u.size=(Zbd (unF m k) 21).size:=by rw[Za8];have:=ZS.out;simpa using this.symm
   have bF:=Hi zi
   have bG:=Hi zs
   have bE:=Hi (ZdP (unF m k) 21)
   clear zi zs
   refine Zaq rfl 239 _ _ rfl b7 (Zbd (unF m k) 21) rfl rfl 239 u aB.drew bF bG bE ?_
   obtain⟨W5,ag⟩:=ExY (wc.drew.setRow b7 (Zbd (unF m k) 21))
   rw[←ag]
   have br:Hid (Bk W5 b7 239 (Zbd (unF m k) 21)):=by rw[ag];exact aB.drew.row _
   have aL:b7≠bm:=af.mp.ne aB
   have ac:Hid (Zfb W5 bm m k):=a4.keep (by rw[ag];exact setRow_other wc.drew b7 bm _ (Ne.symm aL))
   have bw:Hid (w.grownBy W5 (some bm)):=Zae a1 (by rw[ag];exact ZaB (Below.refl _ wc).drew aK _) (Nat.le_refl _)
   have be:W5.cell? (Aq bs 10)=some (.map (some bm)):=by rw[ag];exact(Bk.rowFar (af.bk.drew) (af.bk.ne aB (by decide)) _).cell 10
   have bf:Bk W5 E 239 (Zbd (unF m k) 21):=by rw[ag];exact ah.drew.rowFar (bC.out) _
   have a6:=Hi be
   have a8:=Hi bf
   clear ag be bf aL
   refine hK.out _ _ (fun _=>⟨a6,a8⟩) ?_
   try simp only[Act.put]
   refine onM 8 (by kernel_rfl) rfl fun K hK=>?_
   obtain⟨es,N,hb,he,ad⟩:=ac.entry
   refine ZgG rfl 224 _ _ rfl _ _ _ rfl rfl ad ?_
   obtain⟨W6,aG⟩:=ExY (World.put W5 bm (.map (es.push {key:=I k,val:=.agg (Zbd (fun _=>0) 0),born:=N}) (N+1)))
   rw[←aG]
   have aZ:Hid (W6.heap[bm]?=some (.map (es.push {key:=I k,val:=.agg (Zbd (fun _=>0) 0),born:=N}) (N+1))):=by show _=_;rw[aG];exact ZlO ac.ok.lt _
   have ap:W5.grownBy W6 (some bm):=by rw[aG];exact Zho _ _ _
   have bx:Hid (w.grownBy W6 (some bm)):=Za6 bw ap
   have a7:Hid (W6.cell? (Aq bs 10)=some (.map (some bm))):=ZbF a6 ac.ok ap
   have a9:Hid (Bk W6 E 239 (Zbd (unF m k) 21)):=a8.turn ac.ok ap
   have aX:Hid (Bk W6 b7 239 (Zbd (unF m k) 21)):=br.turn ac.ok ap
   have bv:=Hi he
   clear aG ap hb he ad
   refine hK.out _ _ (fun _=>⟨a7,a9⟩) ?_
   try simp only[Act.put,sA,sB,sC]
   refine tkM [9] (⟨a7,a9⟩) (by kernel_rfl) (fun _ _ _ _ h=>h) ?_
   (refine ycM rfl (by rfl) (fun w h=>by go_simp<;>rfl) ?_;try simp only[Act.put,sA,sB,sC])
   refine onM 10 (by kernel_rfl) rfl fun K hK=>?_
   obtain⟨W7,au,bg,aU⟩:=ZhP aZ.out bv.out H0.out
   refine ZfF rfl 224 _ _ _ rfl _ _ _ rfl rfl rfl au ?_
   have aq:b7≠bm:=fun h=>by have h1:=aZ.out;have h2:=aX.out;unfold Bk at h2;rw[h] at h2;rw[h1] at h2;cases h2
   have bt:Hid (Bk W7 b7 239 (Zbd (unF m k) 21)):=aX.grown aU (fun e=>aq (Option.some.inj e))
   have bz:Hid (w.grownBy W7 (some bm)):=Za6 bx aU
   have bB:=Hi bg
   clear au bg aU aq
   refine hK.out _ _ (fun h0=>Zac (by kernel_rfl) h0) ?_
   refine Zak (by kernel_rfl) ?_ _
   subst e1
   have c7:W7.cell? (Aq b7 s)=some (I (unF m k s)):=by rw[bt.cell,ZcE _ _ _ L.out,if_pos L.out]
   have j0:(0:Int)≤(s:Int):=by omega
   have j1:(s:Int)<21:=by have:=L.out;omega
   go_wp2
   go_ret
   exact⟨rfl,bz,bB⟩
end
noncomputable def ZfP(m:Zab)(k:Nat)(qty:Int)(s:Nat)(fr:Int):Option Int:=
 (ofO m k s).bind fun v=>(okO (ZhA v fr)).bind fun d=>okO (Zes [qty,(m.instrs.getD k default).mult,d] 1)
theorem Zk3(m:Zab)(bs bm:Nat)(bA:Option Addr)(bc:Nat)(below:List Int)(k s:Nat)(qty fr:Int)(w:World)(hs:Zdx w bs bm m bA bc below)(ho:ZbT m)(hk:k<m.instrs.length)(Z:s<21):
 Calls prog 218 #[Pt bs,I k,I qty,I s,I fr] w fun e w'=>Zc9 (ZfP m k qty s fr) e∧w.grownBy w' (some bm)∧ZaE w' bm m:=by
 obtain⟨r,hr⟩:=ExY (ZfP m k qty s fr)
 rw[←hr]
 unfold ZfP at hr
 have ah:Hid (∀W,w.grownBy W (some bm)→ZaE W bm m→Calls prog 224 #[Pt bs,I k,I s] W fun e w'=>Zc9 (ofO m k s) e∧W.grownBy w' (some bm)∧ZaE w' bm m):=by
  exact fun W hW hM=>Zmm m bs bm bA bc below k s W (hs.turn hW hM) ho hk Z
 have ag:Hid (ZaE w.drew bm m):=hs.mp
 have aa:Hid (w.grownBy w.drew (some bm)):=⟨rfl,rfl,rfl,Nat.le_refl _,fun _ _ _=>rfl⟩
 obtain⟨a,hA,_,c0,c1,c2,c3,c4,c5,c6⟩:=Zds hs.led.instrs hk
 have x3:w.cell? (Aq bs 3)=some (.slice m.sIns.A m.instrs.length m.sIns.c):=hs.bk.cell 3
 rw[hA] at x3
 have Y:m.instrs.getD k default=m.instrs[k]:=by simp[hk]
 obtain⟨mult,C⟩:=ExY ((m.instrs[k]).mult)
 rw[Y,←C] at hr
 rw[←C] at c2
 have HR:=Hi hr
 have HT:Hid (∀U,w.grownBy U (some bm)→U.cell? (Aq bs 3)=some (.slice (some a) m.instrs.length m.sIns.c)∧U.cell? ⟨(a.add (k*7)).block,(a.add (k*7)).off+2,none⟩=some (I mult)):=
  fun U hU=>⟨ZbF x3 hs.mp hU,ZbF c2 hs.mp hU⟩
 have i0:(0:Int)≤(k:Int):=by omega
 have i1:(k:Int)<(m.instrs.length:Int):=by omega
 clear hr Y C hA c0 c1 c2 c3 c4 c5 c6 x3 hs ho hk Z
 go_enter func218,ntmps218
 go_upto_region 1 with(fail)
 refine Zbf (fun U=>U.cell? (Aq bs 3)=some (.slice (some a) m.instrs.length m.sIns.c)∧U.cell? ⟨(a.add (k*7)).block,(a.add (k*7)).off+2,none⟩=some (I mult)) 24 (by kernel_rfl) ?_
 refine tkM [0,1,2,3,4,5,6,7,8,9,10,11,12,14] (HT.out _ aa) (by kernel_rfl) (fun _ _ _ _ h=>h) ?_
 iterate 14 (refine ycM rfl (by rfl) (fun w h=>by go_simp<;>rfl) ?_;try simp only[Act.put,sA,sB,sC])
 refine onM 13 (by kernel_rfl) rfl fun K hK=>?_
 go_simp
 refine(ah.out _ aa ag).mono ?_
 rintro e W1 ⟨he,hg,hm⟩
 have z:Hid (w.grownBy W1 (some bm)):=Za6 aa hg
 have G:=Hi hm
 clear hg hm
 obtain⟨ro,ac⟩:=ExY (ofO m k s)
 rw[←ac] at he
 have R:=Hi ac
 clear ac
 cases ro with
 |none=>
  obtain⟨er,am,rfl⟩:=he
  dsimp only
  go_wp2
  exact⟨rfl,by rw[HR.out,←R.out];exact Zc9.none am,z,G⟩
 |some v=>
 have al:e=.returned (I v):=he
 subst al
 clear he
 dsimp only
 have ai:Hid (r=(okO (ZhA v fr)).bind fun d=>okO (Zes [qty,mult,d] 1)):=by show _=_;rw[HR.out,←R.out];rfl
 obtain⟨⟨d,ed⟩,hd⟩:∃p,p=ZhA v fr:=⟨_,rfl⟩
 have X:=Hi (fun W=>ZdY v fr W)
 rw[←hd] at X
 have ae:Hid (r=(okO (d,ed)).bind fun d=>okO (Zes [qty,mult,d] 1)):=by show _=_;rw[ai.out,hd]
 clear hd
 refine hK.out _ _ (fun _=>HT.out _ z) ?_
 try simp only[Act.put,sA,sB,sC]
 refine onM 15 (by kernel_rfl) rfl fun K hK=>?_
 go_simp
 refine Cq (X.out _) ?_
 dsimp only
 refine hK.out _ _ (fun _=>HT.out _ z) ?_
 try simp only[Act.put,sA,sB,sC]
 refine tkM [16,17] (HT.out _ z) (by kernel_rfl) (fun _ _ _ _ h=>h) ?_
 iterate 2 (refine ycM rfl (by rfl) (fun w h=>by go_simp<;>rfl) ?_;try simp only[Act.put,sA,sB,sC])
 refine onM 18 (by kernel_rfl) rfl fun K hK=>?_
 go_simp
 by_cases L:ed=0
 rotate_left
 ·refine Cq (ZbS _ ed L _) ?_
  dsimp only
  go_wp2
  exact⟨rfl,by rw[ae.out];unfold okO;rw[if_neg L];exact Zc9.none L,z,G⟩
 subst L
 refine Cq (Zcd _ _) ?_
 dsimp only
 have aj:Hid (r=okO (Zes [qty,mult,d] 1)):=by show _=_;rw[ae.out];rfl
 refine hK.out _ _ (fun _=>HT.out _ z) ?_
 try simp only[Act.put,sA,sB,sC]
 refine onM 19 (by kernel_rfl) rfl fun K hK=>?_
 go_simp
 obtain⟨W2,J⟩:=ExY (W1.alloc (.cells #[I qty,I mult,I d] 3))
 rw[←J]
 have ak:Hid (Rd W2 W2.heap.size 1 (some ⟨W1.heap.size,0,none⟩) 3 ([qty,mult,d].map (Value.int .i64))):=by rw[J];exact Zhp (k:=1) (n:=3) (xs:=[I qty,I mult,I d]) (Bk.new _ _ _) rfl
 have ab:Bw W1 W2:=by rw[J];exact(Below.refl _ W1).alloc (Nat.le_refl _) _
 have E:Hid (w.grownBy W2 (some bm)):=Zae z ab z.size
 have ad:Hid (ZaE W2 bm m):=G.keep (ab.block _ G.lt)
 clear J ab
 refine hK.out _ _ (fun _=>HT.out _ E) ?_
 try simp only[Act.put,sA,sB,sC]
 refine onM 20 (by kernel_rfl) rfl fun K hK=>?_
 go_simp
 obtain⟨⟨x,ex⟩,hx⟩:∃p,p=Zes [qty,mult,d] 1:=⟨_,rfl⟩
 have HP:=Hi (ZfD _ 3 3 [qty,mult,d] W2 (by omega) ak)
 rw[←hx] at HP
 have af:Hid (r=okO (x,ex)):=by show _=_;rw[aj.out,hx]
 clear hx
 refine Cq (HP.out) ?_
 dsimp only
 refine hK.out _ _ (fun _=>HT.out _ E) ?_
 try simp only[Act.put,sA,sB,sC]
 refine tkM [21,22] (HT.out _ E) (by kernel_rfl) (fun _ _ _ _ h=>h) ?_
 iterate 2 (refine ycM rfl (by rfl) (fun w h=>by go_simp<;>rfl) ?_;try simp only[Act.put,sA,sB,sC])
 refine onM 23 (by kernel_rfl) rfl fun K hK=>?_
 go_simp
 by_cases N:ex=0
 rotate_left
 ·refine Cq (ZbS _ ex N _) ?_
  dsimp only
  go_wp2
  exact⟨rfl,by rw[af.out];unfold okO;rw[if_neg N];exact Zc9.none N,E,ad⟩
 subst N
 refine Cq (Zcd _ _) ?_
 dsimp only
 refine hK.out _ _ (fun _=>HT.out _ E) ?_
 try simp only[Act.put,sA,sB,sC]
 refine onM 24 (by kernel_rfl) rfl fun K hK=>?_
 go_simp
 refine hK.out _ _ (fun h0=>Zac (by kernel_rfl) h0) ?_
 refine Zak (by kernel_rfl) ?_ _
 go_wp2
 go_ret
 exact⟨by rw[af.out];exact Zc9.some,E,ad⟩
end Go.Proofs.YtdefojlkofnloaaGreatDoor
