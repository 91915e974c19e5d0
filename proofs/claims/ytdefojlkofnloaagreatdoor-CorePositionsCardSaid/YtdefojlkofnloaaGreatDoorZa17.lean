/- A part of the proof of CorePositions: for every input, no condition. -/
import Derived.Test.YtdefojlkofnloaaGreatDoorZa16
set_option maxRecDepth 100000
set_option maxHeartbeats 8000000
set_option linter.unusedVariables false
set_option linter.unusedSimpArgs false
namespace Go.Proofs.YtdefojlkofnloaaGreatDoor
open Go.RowKit Go.Proofs.Tryz
theorem Zju(A:Option Addr)(n c:Nat)(ps:List Int)(v:Int)(w:World)(hn:n≤1000000)(Z:Rd w w.heap.size 1 A n (Zag ps)):
 Calls prog 108 #[.slice A n c,I v] w fun e w'=>∃bo bv A' c',e=.returned (.func (.func 149) #[] #[Pt bo,Pt bv]) ∧
  Bk w' bo 34 #[.slice A' n c']∧Bk w' bv 3 #[I v]∧Rd w' w'.heap.size 1 A' n (Zag ps)∧n≤c'∧Bw w w':=by
 have aa:∀(fn:Fn) (first cap:Array Value) (w:World),(Instr.makeFunc fn first cap).run prog w=.ok (.func fn first cap) w:=fun _ _ _ _=>rfl
 obtain⟨W1,C⟩:=ExY (w.alloc (.cells #[I v] 3))
 obtain⟨bv,R⟩:=ExY w.heap.size
 have s:=blB C
 have G:=bkW C R
 have HC:=Hi (L.cloneI_any A n c (Zag ps) W1 (by simp[Zag,Value.oneCell']) (by omega) ((Z.below s).mono s.size))
 clear Z hn
 go_enter func108,ntmps108
 go_upto_region 1 with(fail)
 rw[←C,←R]
 clear C R
 have N:=G.one
 go_wp2_with fail
 refine HC.mono ?_
 rintro e W2 ⟨A1,c1,rfl,h1,h2,ho,hb⟩
 have Y:Hid (Rd W2 W2.heap.size 1 A1 n (Zag ps)):=Rd.of_own ho
 have X:=Hi h1
 clear ho h1 h2
 have E:=blT s hb
 have J:=bkN G hb
 clear N
 clear hb
 have N:=J.one
 obtain⟨W3,z⟩:=ExY (W2.alloc (.cells #[.slice A1 n c1] 34))
 obtain⟨bo,U⟩:=ExY W2.heap.size
 have k1:Bk W3 bo 34 #[.slice A1 n c1]:=by rw[z,U];exact Bk.new _ _ _
 have k2:Bk W3 bv 3 #[I v]:=by rw[z];exact J.alloc _
 have k3:Rd W3 W3.heap.size 1 A1 n (Zag ps):=by rw[z];exact(Y.alloc (Nat.le_refl _) _).mono (by simp)
 have k4:Bw w W3:=by rw[z];exact E.alloc E.size _
 have K1:=Hi k1
 have K2:=Hi k2
 have K3:=Hi k3
 have K4:=Hi k4
 clear k1 k2 k3 k4
 go_wp2
 rw[←z,←U]
 go_ret
 exact⟨bo,bv,A1,c1,rfl,K1,K2,K3,X,K4⟩
structure EvP where
 kind:Int
 acct:Int
 id:Int
 new:Int
 instr:Int
 under:Int
 cur:Int
 qty:Int
 price:Int
 amount:Int
 call:Bool
 name:ByteArray
def EvP.cs(e:EvP):List Value:=[I e.kind,I e.acct,I e.id,I e.new,I e.instr,I e.under,I e.cur,I e.qty,I e.price,I e.amount,.bool e.call,.string e.name]
def EvP.val(e:EvP):Value:=.agg e.cs.toArray
theorem Zfm(e:EvP):e.cs.length=12:=rfl
theorem Zg0(e:EvP)(id:Int)(w:World):Calls prog 25 #[e.val,I id] w fun r w'=>r=.returned ((O.Lc.mk e.acct id e.instr e.qty e.price).val)∧Bw w w':=by
 obtain⟨x0,x1,x2,x3,x4,x5,x6,x7,x8,x9,C,E⟩:=e
 show Calls prog 25 #[.agg #[I x0,I x1,I x2,I x3,I x4,I x5,I x6,I x7,I x8,I x9,.bool C,.string E],I id] w _
 obtain⟨W1,s⟩:=ExY (w.alloc (.cells #[I x0,I x1,I x2,I x3,I x4,I x5,I x6,I x7,I x8,I x9,.bool C,.string E] 77))
 obtain⟨W2,z⟩:=ExY (W1.alloc (.cells #[I x1,I id,I x4,I x7,I x8] 45))
 have s1:W1.heap.size=w.heap.size+1:=by rw[s,World.size_alloc]
 have b2:Bk W2 (w.heap.size+1) 45 #[I x1,I id,I x4,I x7,I x8]:=by rw[z,←s1];exact Bk.new _ _ _
 have bl:Bw w W2:=by rw[z,s];exact((Below.refl _ w).alloc (Nat.le_refl _) _).alloc (by simp) _
 have B2:=Hi b2
 have BL:=Hi bl
 clear s1 b2 bl
 go_enter func25,ntmps25
 go_wp2
 rw[←s,←z]
 exact bodyPost_ret (results_cell_row (p:=4) results25 _ W2 (w.heap.size+1) 45 #[I x1,I id,I x4,I x7,I x8] (0,0) _ rfl B2 underlying45 rfl (by kernel_rfl)) rfl ⟨rfl,BL⟩
theorem Zi2(e:EvP)(w:World):Calls prog 34 #[e.val] w fun r w'=>r=.returned ((ZbD.mk e.name e.cur e.price e.amount).val)∧Bw w w':=by
 obtain⟨x0,x1,x2,x3,x4,x5,x6,x7,x8,x9,E,s⟩:=e
 show Calls prog 34 #[.agg #[I x0,I x1,I x2,I x3,I x4,I x5,I x6,I x7,I x8,I x9,.bool E,.string s]] w _
 obtain⟨W1,z⟩:=ExY (w.alloc (.cells #[I x0,I x1,I x2,I x3,I x4,I x5,I x6,I x7,I x8,I x9,.bool E,.string s] 77))
 obtain⟨W2,C⟩:=ExY (W1.alloc (.cells #[.string s,I x6,I x8,I x9] 63))
 have s1:W1.heap.size=w.heap.size+1:=by rw[z,World.size_alloc]
 have b2:Bk W2 (w.heap.size+1) 63 #[.string s,I x6,I x8,I x9]:=by rw[C,←s1];exact Bk.new _ _ _
 have bl:Bw w W2:=by rw[C,z];exact((Below.refl _ w).alloc (Nat.le_refl _) _).alloc (by simp) _
 have B2:=Hi b2
 have BL:=Hi bl
 clear s1 b2 bl
 go_enter func34,ntmps34
 go_wp2
 rw[←z,←C]
 exact bodyPost_ret (results_cell_row (p:=2) results34 _ W2 (w.heap.size+1) 63 #[.string s,I x6,I x8,I x9] (0,0) _ rfl B2 underlying63 rfl (by kernel_rfl)) rfl ⟨rfl,BL⟩
theorem Zjl(e:EvP)(w:World):Calls prog 36 #[e.val] w fun r w'=>r=.returned ((ZaD.mk e.new e.under e.qty e.price e.amount e.call 0).val)∧Bw w w':=by
 obtain⟨x0,x1,x2,x3,x4,x5,x6,x7,x8,x9,s,E⟩:=e
 show Calls prog 36 #[.agg #[I x0,I x1,I x2,I x3,I x4,I x5,I x6,I x7,I x8,I x9,.bool s,.string E]] w _
 obtain⟨W1,z⟩:=ExY (w.alloc (.cells #[I x0,I x1,I x2,I x3,I x4,I x5,I x6,I x7,I x8,I x9,.bool s,.string E] 77))
 obtain⟨W2,C⟩:=ExY (W1.alloc (.cells #[I x3,I x5,I x7,I x8,I x9,.bool s,I 0] 66))
 have s1:W1.heap.size=w.heap.size+1:=by rw[z,World.size_alloc]
 have b2:Bk W2 (w.heap.size+1) 66 #[I x3,I x5,I x7,I x8,I x9,.bool s,I 0]:=by rw[C,←s1];exact Bk.new _ _ _
 have bl:Bw w W2:=by rw[C,z];exact((Below.refl _ w).alloc (Nat.le_refl _) _).alloc (by simp) _
 have B2:=Hi b2
 have BL:=Hi bl
 clear s1 b2 bl
 go_enter func36,ntmps36
 go_wp2
 rw[←z,←C]
 exact bodyPost_ret (results_cell_row (p:=2) results36 _ W2 (w.heap.size+1) 66 #[I x3,I x5,I x7,I x8,I x9,.bool s,I 0] (0,0) _ rfl B2 underlying66 rfl (by kernel_rfl)) rfl ⟨rfl,BL⟩
def ofV(kind:Int):Value:=if kind<1∨16<kind then .nilFunc else if kind≤4 then .func (.func 21) #[] #[] else if kind≤12 then .func (.func 22) #[] #[] else .func (.func 23) #[] #[]
theorem ZmD(s:Int)(w:World):Calls prog 20 #[I s] w fun e w'=>e=.returned (ofV s)∧w'=w:=by
 obtain⟨r,hr⟩:=ExY (ofV s)
 rw[←hr]
 have HR:=Hi hr
 clear hr
 go_enter func20,ntmps20
 by_cases h1:s<1
 ·have e0:r=.nilFunc:=by rw[HR.out];exact if_pos (.inl h1)
  subst e0
  go_wp2
  go_ret
  exact⟨rfl,rfl⟩
 by_cases h2:16<s
 ·have e0:r=.nilFunc:=by rw[HR.out];exact if_pos (.inr h2)
  subst e0
  go_wp2
  go_ret
  exact⟨rfl,rfl⟩
 have hr:=HR.out
 unfold ofV at hr
 rw[if_neg (by omega)] at hr
 have z:=Hi hr
 clear hr
 by_cases h3:s≤4
 ·have e0:r=.func (.func 21) #[] #[]:=by rw[z.out];exact if_pos h3
  subst e0
  go_wp2
  go_ret
  exact⟨rfl,rfl⟩
 by_cases h4:s≤12
 ·have e0:r=.func (.func 22) #[] #[]:=by rw[z.out,if_neg h3];exact if_pos h4
  subst e0
  go_wp2
  go_ret
  exact⟨rfl,rfl⟩
 ·have e0:r=.func (.func 23) #[] #[]:=by rw[z.out,if_neg h3];exact if_neg h4
  subst e0
  go_wp2
  go_ret
  exact⟨rfl,rfl⟩
theorem ZdL{z j:Nat}{y:Int}{R:Nat→Int→Prop}{S:Prop}(s:j<z)(E:wrap64 ((j:Int)+1)=(j:Int)+1)(h:R (j+1) y)(C:S):
 (∃(j_1:Nat) (c:Int),j_1≤z∧Value.int .i64 y=Value.int .i64 c∧Value.int .i64 (wrap64 ((j:Int)+1))=Value.int .i64 (j_1:Int)∧R j_1 c∧S) ∧
  z-(intOf (Value.int .i64 (wrap64 ((j:Int)+1)))).toNat<z-(intOf (Value.int .i64 (j:Int))).toNat:=by
 rw[E]
 exact⟨⟨j+1,y,s,rfl,by rw[Int.natCast_succ],h,C⟩,Zba s⟩
def Zc9(r:Option Int)(e:Ending):Prop:=
 match r with
 |some x=>e=.returned (I x)
 |none=>∃er:Int,er≠0∧e=.panicked [{v:=.iface 229 (.agg #[I er]),recovered:=false}]
theorem Zc9.some{x:Int}:Zc9 (some x) (.returned (I x)):=rfl
theorem Zc9.none{er:Int}(h:er≠0):Zc9 none (.panicked [{v:=.iface 229 (.agg #[I er]),recovered:=false}]):=⟨er,h,rfl⟩
def okO(p:Int×Int):Option Int:=if p.2=0 then some p.1 else none
def ZlP(f:Nat→Int):Nat→Nat→Int→Option Int
 |0,_,all=>some all
 |k+1,s,all=>(okO (ZfM all (f s))).bind (ZlP f k (s+1))
def ZeP(m:Zab)(below:List Int)(n j:Nat):Int:=(m.accts.getD (below.getD j 0).toNat default).cash.getD n 0
noncomputable def Zgo(m:Zab)(below:List Int):Nat→Nat→Int→Option Int
 |0,_,all=>some all
 |k+1,n,all=>(ZlP (ZeP m below n) below.length 0 0).bind fun cash=>(okO (Zf8 (m.curs.getD n default) cash)).bind fun x=>(okO (ZfM all x)).bind (Zgo m below k (n+1))
noncomputable def ZjO(m:Zab)(below:List Int):Option Int:=Zgo m below m.curs.length 0 0
theorem Zk8(m:Zab)(N:Nat)(bA:Option Addr)(bc:Nat)(below:List Int)(mp:Value)(w:World)(hb:Bk w N 226 (Zhv m (.slice bA below.length bc) mp))(hm:Zay w w.heap.size m)(ai:Rd w w.heap.size 1 bA below.length (Zag below))(aF:∀v∈below,0≤v∧v<m.accts.length)(X:∀a∈m.accts,a.cash.length=m.curs.length)(ap:m.curs.length≤4)(ah:below.length≤1000000):
 Calls prog 153 #[Pt N] w fun e w'=>Zc9 (ZjO m below) e∧Bw w w':=by
 obtain⟨r,hr⟩:=ExY (ZjO m below)
 rw[←hr]
 unfold ZjO at hr
 obtain⟨bn,U⟩:=ExY below.length
 obtain⟨cn,L⟩:=ExY m.curs.length
 obtain⟨an,ad⟩:=ExY m.accts.length
 obtain⟨cA,aq⟩:=ExY m.sCur.A
 obtain⟨aA,am⟩:=ExY m.sAcc.A
 have a4:Hid (Rd w w.heap.size 2 cA cn (m.curs.flatMap ZcB.cs)):=by rw[aq,L];exact hm.curs
 have a2:Hid (Rd w w.heap.size 4 aA an (m.accts.flatMap ZaA.cs)):=by rw[am,ad];exact hm.accts
 have a3:Hid (Rd w w.heap.size 1 bA bn (Zag below)):=by rw[U];exact ai
 have x1:w.cell? (Aq N 1)=some (.slice cA cn m.sCur.c):=by rw[aq,L];exact hb.cell 1
 have x4:w.cell? (Aq N 4)=some (.slice aA an m.sAcc.c):=by rw[am,ad];exact hb.cell 4
 have x9:w.cell? (Aq N 9)=some (.slice bA bn bc):=by rw[U];exact hb.cell 9
 have ax:N<w.heap.size:=hb.lt
 have HX:Hid (∀V,Bw w V→V.cell? (Aq N 1)=some (.slice cA cn m.sCur.c)∧V.cell? (Aq N 4)=some (.slice aA an m.sAcc.c)∧V.cell? (Aq N 9)=some (.slice bA bn bc)):=fun V hV=>
  ⟨(hV.cell (p:=Aq N 1) ax).trans x1,(hV.cell (p:=Aq N 4) ax).trans x4,(hV.cell (p:=Aq N 9) ax).trans x9⟩
 have aY:=Hi aF
 have aW:Hid (∀a∈m.accts,a.cash.length=cn):=fun a ha=>by rw[L];exact X a ha
 have aV:Hid (∀a∈m.accts,Rd w w.heap.size 1 a.A a.cash.length (Zag a.cash)):=fun a ha=>(hm.cash a ha).1
 rw[←L] at hr ap
 have HR:=Hi hr
 have aT:=Hi ap
 have Y:Hid (bn=below.length∧bn≤1000000):=⟨U,by rw[U];exact ah⟩
 have aR:=Hi ad
 have aU:=Hi L
 clear hr hb hm ai aF X ap ah aq am x4 x9 U L ad
 go_enter func153,ntmps153
 go_upto_region 3 with(fail)
 clear x1
 go_loopw [3,15] (fun v3 ay wr=>∃(n:Nat) (s:Int),n≤cn∧v3=I s∧ay=I n∧Hid (r=Zgo m below (cn-n) n s)∧Hid (Bw w wr)) (fun _ ay _=>cn-(intOf ay).toNat)
 case atStart=>exact⟨0,0,Nat.zero_le _,rfl,rfl,HR,Below.refl _ _⟩
 case round=>
  obtain⟨n,s,hn,rfl,rfl,HK,HB⟩:=hrel
  rename World=>V
  obtain⟨y1,y4,y9⟩:=HX.out V HB
  by_cases aJ:n<cn
  ·have aK:n<m.curs.length:=by have:=aU.out;omega
   obtain⟨a,rfl,_,c0,c1⟩:=Zkk (a4.below HB) aK
   have aj:m.curs.getD n default=m.curs[n]:=by simp[aK]
   obtain⟨⟨xr,xh⟩,hx⟩:∃x,x=m.curs[n]:=⟨_,rfl⟩
   rw[←hx] at c0 c1
   dsimp only at c0 c1
   have a7:Hid (m.curs.getD n default=⟨xr,xh⟩):=by show _=_;rw[aj,hx]
   clear hx aj
   have i0:(0:Int)≤(n:Int):=by omega
   have i1:(n:Int)<(cn:Int):=by omega
   have wk:wrap64 ((n:Int)+1)=(n:Int)+1:=by have:=aT.out;unfold wrap64;omega
   obtain⟨W1,Z⟩:=ExY (V.alloc (.cells #[I xr,I xh] 57))
   obtain⟨bk,ao⟩:=ExY V.heap.size
   have aS:=bkW Z ao
   have J:=blA HB Z
   go_upto_region 5 with(fail)
   rw[←Z,←ao]
   clear Z ao c0 c1 y1 y4 y9
   obtain⟨y1,y4,y9⟩:=HX.out W1 J
   go_upto_region 7 with(fail)
   obtain⟨cs,au⟩:=ExY (ZlP (ZeP m below n) bn 0 0)
   have a5:=Hi au
   have ag:Hid (ZlP (ZeP m below n) bn 0 0=cs):=au.symm
   clear au
   go_loopw [6,25] (fun v6 az wr=>∃(j:Nat) (c:Int),j≤bn∧v6=I c∧az=I j∧Hid (cs=ZlP (ZeP m below n) (bn-j) j c)∧wr=W1) (fun _ az _=>bn-(intOf az).toNat)
   case atStart=>exact⟨0,0,Nat.zero_le _,rfl,rfl,a5,rfl⟩
   case round=>
    obtain⟨j,c,hj,rfl,rfl,HS,a9⟩:=hrel
    subst a9
    rename World=>W1
    by_cases aI:j<bn
    ·obtain⟨q,hq⟩:∃q,bn-j=q+1:=⟨bn-j-1,by omega⟩
     have hs:=HS.out
     rw[hq,ZlP,show q=bn-(j+1) by omega] at hs
     have aG:j<below.length:=by have:=Y.1;omega
     obtain⟨ab,rfl,_,cb⟩:=(a3.below J).cell (j:=j) (u:=I (below.getD j 0)) (Zcx below j aG)
     have ak:=aY.out (below.getD j 0) (by rw[Zgm aG];exact List.getElem_mem _)
     obtain⟨vq,aw⟩:∃q:Nat,below.getD j 0=q:=⟨(below.getD j 0).toNat,by omega⟩
     rw[aw] at cb ak
     have aM:vq<m.accts.length:=by omega
     obtain⟨aa,rfl,_,d0,d1,d2,d3⟩:=ZeT (a2.below J) aM
     have G:=aW.out m.accts[vq] (List.getElem_mem _)
     have af:=(aV.out m.accts[vq] (List.getElem_mem _)).below J
     have aE:ZeP m below n j=m.accts[vq].cash.getD n 0:=by
      unfold ZeP
      rw[aw,Int.toNat_natCast]
      simp[aM]
     rw[aE] at hs
     obtain⟨⟨pp,pA,pc,E,pf,pl⟩,hx⟩:∃x,x=m.accts[vq]:=⟨_,rfl⟩
     rw[←hx] at d0 d1 d2 d3 G af hs
     dsimp only at d0 d1 d2 d3 G af hs
     obtain⟨ac,rfl,_,cc⟩:=af.cell (j:=n) (u:=I (E.getD n 0)) (Zcx E n (by omega))
     rw[G] at d1
     obtain⟨xc,aO⟩:=ExY (E.getD n 0)
     rw[←aO] at cc hs
     have HA:=Hi (Zc1 c xc)
     obtain⟨⟨y,ey⟩,hy⟩:∃p,p=ZfM c xc:=⟨_,rfl⟩
     rw[←hy] at hs HA
     dsimp only at hs HA
     have aD:=Hi hs
     have j0:(0:Int)≤(j:Int):=by omega
     have j1:(j:Int)<(bn:Int):=by omega
     have v0:(0:Int)≤(vq:Int):=by omega
     have v1:(vq:Int)<(an:Int):=by have:=aR.out;omega
     have wj:wrap64 ((j:Int)+1)=(j:Int)+1:=by have:=Y.2;unfold wrap64;omega
     have a0:=Hi aI
     clear hs hq aw ak G af aE hx aO hy HS aI
     go_wp2_with fail
     refine Cq (HA.out W1) ?_
     by_cases C:ey=0
     rotate_left
     ·have e0:cs=none:=by rw[aD.out];unfold okO;rw[if_neg C];rfl
      have e1:r=none:=by
       have h:=HK.out
       obtain⟨p,hp⟩:∃p,cn-n=p+1:=⟨cn-n-1,by omega⟩
       rw[hp,Zgo,←Y.1,ag.out,e0] at h
       exact h
      go_wp2_with fail
      refine Cq (ZbS _ ey C _) ?_
      dsimp only
      go_wp2
      exact⟨rfl,by rw[e1];exact Zc9.none C,J⟩
     subst C
     have hs:cs=ZlP (ZeP m below n) (bn-(j+1)) (j+1) y:=by rw[aD.out];rfl
     have a6:=Hi hs
     clear hs
     go_wp2_with fail
     refine Cq (Zcd _ _) ?_
     dsimp only
     go_wp2
     exact ZdL (R:=fun aP c=>Hid (cs=ZlP (ZeP m below n) (bn-aP) aP c)) a0 wj a6 trivial
    ·have aH:j=bn:=by omega
     have e0:cs=some c:=by rw[HS.out,aH,Nat.sub_self];rfl
     subst aH
     have aX:=Hi e0
     clear e0
     have HW:=Hi (fun V=>ZkA ⟨xr,xh⟩ c V)
     obtain⟨⟨y,ey⟩,hy⟩:∃p,p=Zf8 ⟨xr,xh⟩ c:=⟨_,rfl⟩
     rw[←hy] at HW
     have HY:=Hi hy
     clear hy
     have e2:r=(okO (y,ey)).bind fun x=>(okO (ZfM s x)).bind (Zgo m below (cn-(n+1)) (n+1)):=by
      have h:=HK.out
      obtain⟨p,hp⟩:∃p,cn-n=p+1:=⟨cn-n-1,by omega⟩
      rw[hp,Zgo,a7.out,←Y.1,ag.out,aX.out,show p=cn-(n+1) by omega] at h
      rw[HY.out]
      exact h
     have aB:=Hi e2
     clear e2
     have a1:=Hi aJ
     clear aJ
     have a8:=aS.two
     go_wp2_with fail
     refine(HW.out W1).mono ?_
     rintro e W2 ⟨rfl,hb⟩
     have al:=blT J hb
     clear hb a8
     dsimp only
     by_cases C:ey=0
     rotate_left
     ·have e1:r=none:=by rw[aB.out];unfold okO;rw[if_neg C];rfl
      go_wp2_with fail
      refine Cq (ZbS _ ey C _) ?_
      dsimp only
      go_wp2
      exact⟨rfl,by rw[e1];exact Zc9.none C,al⟩
     subst C
     go_wp2_with fail
     refine Cq (Zcd _ _) ?_
     dsimp only
     have HA:=Hi (Zc1 s y)
     obtain⟨⟨z,ez⟩,hz⟩:∃p,p=ZfM s y:=⟨_,rfl⟩
     rw[←hz] at HA
     have e2:r=(okO (z,ez)).bind (Zgo m below (cn-(n+1)) (n+1)):=by rw[aB.out,hz];rfl
     have aC:=Hi e2
     clear e2 hz
     go_wp2_with fail
     refine(HA.out W2).mono ?_
     rintro e w' ⟨rfl,aN⟩
     rw[aN]
     clear aN w'
     dsimp only
     by_cases ae:ez=0
     rotate_left
     ·have e1:r=none:=by rw[aC.out];unfold okO;rw[if_neg ae];rfl
      go_wp2_with fail
      refine Cq (ZbS _ ez ae _) ?_
      dsimp only
      go_wp2
      exact⟨rfl,by rw[e1];exact Zc9.none ae,al⟩
     subst ae
     have e2:r=Zgo m below (cn-(n+1)) (n+1) z:=by rw[aC.out];rfl
     have aZ:=Hi e2
     clear e2
     go_wp2_with fail
     refine Cq (Zcd _ _) ?_
     dsimp only
     go_wp2
     exact ZdL (R:=fun aQ s=>Hid (r=Zgo m below (cn-aQ) aQ s)) a1 wk aZ al
  ·have aL:n=cn:=by omega
   have e0:r=some s:=by rw[HK.out,aL,Nat.sub_self];rfl
   subst e0
   subst aL
   go_wp2
   go_ret
   exact⟨rfl,HB⟩
section
section
variable {w w':World} {base e k n c:Nat} {A:Option Addr} {xs:List Value}
theorem Zbb(h:w.ownsRow base e k (.slice A n c) n xs)(C:0<n):∃g,A=some (Aq g 0)∧base≤g∧g<w.heap.size∧∃cs,Bk w g e cs:=by
 rcases h.2 with⟨_,h0⟩|⟨g,z,s,hv,hg,hh,_⟩
 ·omega
 ·injection hv with a1 a2 a3
  have hB:Bk w g e s:=hh
  exact⟨g,a1,hg,hB.lt,s,hB⟩
theorem ZaK(h:w.ownsRow base e k (.slice A n c) n xs){p:Addr}(s:A=some p):∃cs,p=⟨p.block,0,none⟩∧base≤p.block∧Bk w p.block e cs:=by
 rcases h.2 with⟨hv,h0⟩|⟨g,C,z,hv,hg,hh,_⟩
 ·injection hv with a1
  rw[a1] at s;cases s
 ·injection hv with a1 a2 a3
  rw[a1] at s
  injection s with s
  subst s
  exact⟨z,rfl,hg,hh⟩
theorem ZbA{g:Nat}(h:w.ownsRow base e k (.slice (some (Aq g 0)) n c) n xs)(i:Nat)(C:i<n*k)(u:Value):
 (w.setCell (Aq g i) u).ownsRow base e k (.slice (some (Aq g 0)) n c) n (xs.set i u):=by
 refine⟨by rw[List.length_set];exact h.1,?_⟩
 rcases h.2 with⟨hv,h0⟩|⟨g',s,z,hv,hg,hh,h1,h2,h3,h4⟩
 ·injection hv with a1;cases a1
 ·injection hv with a1 a2 a3
  injection a1 with a1
  injection a1 with a1
  subst a1
  have hB:Bk w g e z:=hh
  refine .inr ⟨g,s,_,by rw[a3],hg,hB.set i u,h1,h2,by simp[h3],?_⟩
  rw[←h4,Array.toList_setIfInBounds,List.take_set]
theorem ZbV{g i:Nat}{u:Value}(h:w.ownsRow base e k (.slice A n c) n xs)(s:∀p,A=some p→p.block≠g):(w.setCell (Aq g i) u).ownsRow base e k (.slice A n c) n xs:=
 ZaF h fun p hp=>Below.heap_setCell w (Aq g i) u p.block (s p hp)
theorem Zad{g i t:Nat}{u:Value}{cs:Array Value}(h:w.ownsRow base e k (.slice A n c) n xs)(G:Bk w g t cs)(C:t≠e):(w.setCell (Aq g i) u).ownsRow base e k (.slice A n c) n xs:=
 ZbV h fun p hp=>by
  obtain⟨E,_,_,s⟩:=ZaK h hp
  exact fun z=>(s.ne G (Ne.symm C)) z
theorem Zai(h:w.ownsRow base e k (.slice A n c) n xs)(s:Bw w w'):w'.ownsRow base e k (.slice A n c) n xs:=
 ZaF h fun p hp=>s.block p.block (ZaP h p hp).2
theorem boO{w w':World}{base e k n c g i t:Nat}{A:Option Addr}{xs:List Value}{u:Value}{cs:Array Value}(h:Hid (w.ownsRow base e k (.slice A n c) n xs))(q:w'=w.setCell (Aq g i) u)(z:Hid (Bk w g t cs))(s:Nat.beq t e=false):Hid (w'.ownsRow base e k (.slice A n c) n xs):=by rw[q];exact Zad h z (Nat.ne_of_beq_eq_false s)
theorem boB{w w':World}{base e k n c:Nat}{A:Option Addr}{xs:List Value}(h:Hid (w.ownsRow base e k (.slice A n c) n xs))(s:Bw w w'):Hid (w'.ownsRow base e k (.slice A n c) n xs):=Zai h s
theorem boC{w w':World}{base e k n c:Nat}{A:Option Addr}{xs:List Value}{o:Obj}(h:Hid (w.ownsRow base e k (.slice A n c) n xs))(q:w'=w.alloc o):Hid (w'.ownsRow base e k (.slice A n c) n xs):=by rw[q];exact Zai h ((Below.refl _ _).alloc (Nat.le_refl _) _)
theorem Zbh{g:Nat}(h:w.ownsRow base e k (.slice (some (Aq g 0)) n c) n xs)(j:Nat)(C:j<n*k):w.cell? (Aq g j)=xs[j]?∧w.frozen? (Aq g j)=false:=by
 rcases h.2 with⟨hv,h0⟩|⟨g',z,s,hv,hg,hh,h1,h2,h3,h4⟩
 ·injection hv with a1;cases a1
 ·injection hv with a1 a2 a3
  injection a1 with a1
  injection a1 with a1
  subst a1
  have hB:Bk w g e s:=hh
  refine⟨?_,hB.frozen j⟩
  rw[hB.cell,←h4,List.getElem?_take_of_lt C,Array.getElem?_toList]
theorem ZdH(h:w.ownsRow base e k (.slice A n c) n xs):n≤c:=by
 rcases h.2 with⟨hv,h0⟩|⟨g,s,z,hv,hg,hh,h1,h2,h3,h4⟩
 ·omega
 ·injection hv with a1 a2 a3
  omega
end
section
variable {α:Type} {f:α→List Value} {m:Nat}
theorem ZcI(z:∀x,(f x).length=m)(l:List α)(k:Nat)(C:k<l.length)(j:Nat)(E:j<m)(u:Value)(x:α)(s:f x=(f l[k]).set j u):
 (l.flatMap f).set (k*m+j) u=(l.set k x).flatMap f:=by
 induction l generalizing k with
 |nil=>simp at C
 |cons a l ih=>
  rcases k with _|k
  ·simp only[List.getElem_cons_zero] at s
   rw[List.flatMap_cons,List.set_append_left _ _ (by rw[z];omega)]
   simp only[List.set_cons_zero,List.flatMap_cons,Nat.zero_mul,Nat.zero_add,s]
  ·simp only[List.getElem_cons_succ] at s
   rw[List.flatMap_cons,List.set_append_right _ _ (by rw[z,Nat.succ_mul];omega),show(k+1)*m+j-(f a).length=k*m+j by rw[z,Nat.succ_mul];omega,
    ih k (by simpa using C) s]
   simp only[List.set_cons_succ,List.flatMap_cons]
end
theorem Zkm{α:Type}{f:α→List Value}(l:List α)(k:Nat)(z:k<l.length)(x:α)(s:f x=f l[k]):(l.set k x).flatMap f=l.flatMap f:=by
 induction l generalizing k with
 |nil=>simp at z
 |cons a l ih=>
  rcases k with _|k
  ·simp only[List.getElem_cons_zero] at s
   simp only[List.set_cons_zero,List.flatMap_cons,s]
  ·simp only[List.getElem_cons_succ] at s
   simp only[List.set_cons_succ,List.flatMap_cons,ih k (by simpa using z) s]
structure Zaa(w:World)(base:Nat)(m:Zab):Prop where
 curs:w.ownsRow base 57 2 (.slice m.sCur.A m.curs.length m.sCur.c) m.curs.length (m.curs.flatMap ZcB.cs)
 unders:w.ownsRow base 63 4 (.slice m.sUnd.A m.unders.length m.sUnd.c) m.unders.length (m.unders.flatMap ZbD.cs)
 instrs:w.ownsRow base 66 7 (.slice m.sIns.A m.instrs.length m.sIns.c) m.instrs.length (m.instrs.flatMap ZaD.cs)
 accts:w.ownsRow base 59 4 (.slice m.sAcc.A m.accts.length m.sAcc.c) m.accts.length (m.accts.flatMap ZaA.cs)
 poss:w.ownsRow base 50 3 (.slice m.sPos.A m.poss.length m.sPos.c) m.poss.length (P.lcs m.poss)
 orders:w.ownsRow base 45 5 (.slice m.sOrd.A m.orders.length m.sOrd.c) m.orders.length (O.lcs m.orders)
 avail:w.ownsRow base 3 1 (.slice m.sAva.A m.avail.length m.sAva.c) m.avail.length (Zag m.avail)
 locs:w.ownsRow base 72 3 (.slice m.sLoc.A m.locs.length m.sLoc.c) m.locs.length (L.lcs m.locs)
 cash:∀a∈m.accts,w.ownsRow base 3 1 (.slice a.A a.cash.length a.c) a.cash.length (Zag a.cash)∧a.cash.length≤1000000
 apart:∀(i j:Nat) (x y:ZaA) (p q:Addr),m.accts[i]?=some x→m.accts[j]?=some y→i≠j→x.A=some p→y.A=some q→p.block≠q.block
 away:∀x∈m.accts,∀(p q:Addr),x.A=some p→m.sAva.A=some q→p.block≠q.block
 short:m.curs.length≤1000000∧m.unders.length≤1000000∧m.instrs.length≤1000000∧m.accts.length≤1000000∧m.poss.length≤1000000∧m.orders.length≤1000000∧m.avail.length≤1000000∧m.locs.length≤1000000
theorem Zaa.rd{w:World}{base:Nat}{m:Zab}(h:Zaa w base m):Zay w w.heap.size m:=
 ⟨Rd.of_own h.curs,Rd.of_own h.unders,Rd.of_own h.instrs,Rd.of_own h.accts,fun a ha=>⟨Rd.of_own (h.cash a ha).1,(h.cash a ha).2⟩,Rd.of_own h.poss,Rd.of_own h.orders,Rd.of_own h.avail,Rd.of_own h.locs,h.short,
  ZdH h.curs,ZdH h.unders,ZdH h.instrs,ZdH h.accts,ZdH h.poss,ZdH h.orders,ZdH h.avail,ZdH h.locs⟩
theorem Zaa.below{w w':World}{base:Nat}{m:Zab}(h:Zaa w base m)(s:Bw w w'):Zaa w' base m:=
 ⟨Zai h.curs s,Zai h.unders s,Zai h.instrs s,Zai h.accts s,Zai h.poss s,Zai h.orders s,Zai h.avail s,Zai h.locs s,fun a ha=>⟨Zai (h.cash a ha).1 s,(h.cash a ha).2⟩,h.apart,h.away,h.short⟩
theorem Zaa.far{w:World}{base:Nat}{m:Zab}(h:Zaa w base m){g t:Nat}{cs:Array Value}(s:Bk w g t cs)(z:t≠57∧t≠63∧t≠66∧t≠59∧t≠50∧t≠45∧t≠3∧t≠72)(i:Nat)(u:Value):Zaa (w.setCell (Aq g i) u) base m:=
 ⟨Zad h.curs s z.1,Zad h.unders s z.2.1,Zad h.instrs s z.2.2.1,Zad h.accts s z.2.2.2.1,Zad h.poss s z.2.2.2.2.1,Zad h.orders s z.2.2.2.2.2.1,Zad h.avail s z.2.2.2.2.2.2.1,Zad h.locs s z.2.2.2.2.2.2.2,
  fun a ha=>⟨Zad (h.cash a ha).1 s z.2.2.2.2.2.2.1,(h.cash a ha).2⟩,h.apart,h.away,h.short⟩
theorem boN{V W:World}{B:Nat}{m:Zab}(h:Hid (Zaa W B m))(s:Bw W V):Hid (Zaa V B m):=h.below s
theorem boA{V W:World}{B:Nat}{m:Zab}{o:Obj}(h:Hid (Zaa W B m))(e:V=W.alloc o):Hid (Zaa V B m):=by rw[e];exact h.below ((Below.refl _ _).alloc (Nat.le_refl _) _)
theorem boF{V W:World}{B g t i:Nat}{m:Zab}{cs:Array Value}{u:Value}(h:Hid (Zaa W B m))(e:V=W.setCell (Aq g i) u)(k:Hid (Bk W g t cs))(s:t≠57∧t≠63∧t≠66∧t≠59∧t≠50∧t≠45∧t≠3∧t≠72):Hid (Zaa V B m):=by rw[e];exact h.far k s _ _
theorem Zaa.setAcc{w:World}{base:Nat}{m:Zab}(h:Zaa w base m){g v j:Nat}{x:ZaA}{u:Value}(G:m.sAcc.A=some (Aq g 0))(L:v<m.accts.length)(X:j<4)(Y:x.cs=(m.accts[v]).cs.set j u)(U:x.A=(m.accts[v]).A∧x.c=(m.accts[v]).c∧x.cash=(m.accts[v]).cash):Zaa (w.setCell (Aq g (v*4+j)) u) base {m with accts:=m.accts.set v x}:=by
 obtain⟨cs,_,_,hb⟩:=ZaK h.accts G
 have e1:=ZbA (G▸h.accts) (v*4+j) (by have:v*4+4≤m.accts.length*4:=(by omega);omega) u
 rw[ZcI Zc4 m.accts v L j X u x Y] at e1
 have C:(m.accts.set v x).length=m.accts.length:=List.length_set ..
 have s:∀(i:Nat) (y:ZaA),(m.accts.set v x)[i]?=some y→∃z,m.accts[i]?=some z∧y.A=z.A∧y.c=z.c∧y.cash=z.cash:=by
  intro i y hy
  by_cases hi:v=i
  ·subst hi
   rw[List.getElem?_set_self L] at hy
   cases hy
   exact⟨m.accts[v],List.getElem?_eq_getElem L,U⟩
  ·rw[List.getElem?_set_ne hi] at hy
   exact⟨y,hy,rfl,rfl,rfl⟩
 have E:∀y∈m.accts.set v x,∃z∈m.accts,y.A=z.A∧y.c=z.c∧y.cash=z.cash:=by
  intro y hy
  obtain⟨i,hi⟩:=List.getElem?_of_mem hy
  obtain⟨z,hz,r⟩:=s i y hi
  exact⟨z,List.mem_of_getElem? hz,r⟩
 refine⟨Zad h.curs hb (by decide),Zad h.unders hb (by decide),Zad h.instrs hb (by decide),?_,Zad h.poss hb (by decide),Zad h.orders hb (by decide),Zad h.avail hb (by decide),Zad h.locs hb (by decide),?_,?_,?_,?_⟩
 ·show World.ownsRow _ base 59 4 (.slice m.sAcc.A (m.accts.set v x).length m.sAcc.c) (m.accts.set v x).length _
  rw[C,G]
  exact e1
 ·intro y hy
  obtain⟨z,hz,h1,h2,h3⟩:=E y hy
  rw[h1,h2,h3]
  exact⟨Zad (h.cash z hz).1 hb (by decide),(h.cash z hz).2⟩
 ·intro i j' y z p q hy hz J hp hq
  obtain⟨y',N,h1,_,_⟩:=s i y hy
  obtain⟨z',R,h2,_,_⟩:=s j' z hz
  exact h.apart i j' y' z' p q N R J (h1▸hp) (h2▸hq)
 ·intro y hy p q hp hq
  obtain⟨z,hz,h1,_,_⟩:=E y hy
  exact h.away z hz p q (h1▸hp) hq
 ·show _∧_∧_∧(m.accts.set v x).length≤_∧_
  rw[C]
  exact h.short
theorem Zaa.setCash{w:World}{base:Nat}{m:Zab}(h:Zaa w base m){g v c:Nat}{y:Int}(N:v<m.accts.length)(Y:(m.accts[v]).A=some (Aq g 0))(hc:c<(m.accts[v]).cash.length):
 Zaa (w.setCell (Aq g c) (I y)) base {m with accts:=m.accts.set v {m.accts[v] with cash:=(m.accts[v]).cash.set c y}}:=by
 have hm:m.accts[v]∈m.accts:=List.getElem_mem _
 have N?:m.accts[v]?=some m.accts[v]:=List.getElem?_eq_getElem N
 obtain⟨cs,_,_,hb⟩:=ZaK (h.cash _ hm).1 Y
 obtain⟨x,hx⟩:=ExY (m.accts[v])
 rw[←hx] at hm N? Y hc ⊢
 obtain⟨x',s⟩:∃x':ZaA,x'={x with cash:=x.cash.set c y}:=⟨_,rfl⟩
 have R:x'.A=x.A:=by rw[s]
 have Z:x'.c=x.c:=by rw[s]
 have E:x'.cash=x.cash.set c y:=by rw[s]
 have J:x'.cash.length=x.cash.length:=by rw[E,List.length_set]
 have aa:x'.cs=x.cs:=by unfold ZaA.cs;rw[R,Z,J,s]
 rw[←s]
 clear s
 have L:(m.accts.set v x').length=m.accts.length:=List.length_set ..
 have G:∀(i:Nat) (z:ZaA),(m.accts.set v x')[i]?=some z→∃z',m.accts[i]?=some z'∧z.A=z'.A:=by
  intro i z hz
  by_cases hi:v=i
  ·subst hi
   rw[List.getElem?_set_self N] at hz
   cases hz
   exact⟨x,N?,R⟩
  ·rw[List.getElem?_set_ne hi] at hz
   exact⟨z,hz,rfl⟩
 have ab:∀(i:Nat) (z:ZaA),m.accts[i]?=some z→v≠i→∀p,z.A=some p→p.block≠g:=fun i z hz hi p hp U=>
  h.apart v i x z (Aq g 0) p N? hz hi Y hp U.symm
 refine⟨Zad h.curs hb (by decide),Zad h.unders hb (by decide),Zad h.instrs hb (by decide),?_,Zad h.poss hb (by decide),Zad h.orders hb (by decide),?_,Zad h.locs hb (by decide),?_,?_,?_,?_⟩
 ·show World.ownsRow _ base 59 4 (.slice m.sAcc.A (m.accts.set v x').length m.sAcc.c) (m.accts.set v x').length ((m.accts.set v x').flatMap ZaA.cs)
  rw[L,Zkm m.accts v N x' (by rw[aa,hx])]
  exact Zad h.accts hb (by decide)
 ·exact ZbV h.avail fun p hp U=>h.away x hm (Aq g 0) p Y hp U.symm
 ·intro z hz
  obtain⟨i,hi⟩:=List.getElem?_of_mem hz
  by_cases X:v=i
  ·subst X
   rw[List.getElem?_set_self N] at hi
   cases hi
   have e:=h.cash x hm
   rw[R,Z,J,E,Y]
   refine⟨?_,e.2⟩
   have e1:=ZbA (Y▸e.1) c (by omega) (I y)
   rwa [show(Zag x.cash).set c (I y)=Zag (x.cash.set c y) by simp[Zag,List.map_set]] at e1
  ·rw[List.getElem?_set_ne X] at hi
   have C:=List.mem_of_getElem? hi
   exact⟨ZbV (h.cash z C).1 (ab i z hi X),(h.cash z C).2⟩
 ·intro i j' z1 z2 p q hy hz hn hp hq
  obtain⟨y',ac,h1⟩:=G i z1 hy
  obtain⟨z',C,h2⟩:=G j' z2 hz
  exact h.apart i j' y' z' p q ac C hn (h1▸hp) (h2▸hq)
 ·intro z hz p q hp hq
  obtain⟨i,hi⟩:=List.getElem?_of_mem hz
  obtain⟨z',C,h1⟩:=G i z hi
  exact h.away z' (List.mem_of_getElem? C) p q (h1▸hp) hq
 ·show _∧_∧_∧(m.accts.set v x').length≤_∧_
  rw[L]
  exact h.short
end
structure ZfL where
 parent:Int
 cash:List Int
 flag:Bool
 last:Int
deriving DecidableEq
def ZaA.p(a:ZaA):ZfL:=⟨a.parent,a.cash,a.flag,a.last⟩
structure Zbj(m m':Zab):Prop where
 day:m'.day=m.day
 curs:m'.curs=m.curs
 unders:m'.unders=m.unders
 instrs:m'.instrs=m.instrs
 accts:m'.accts.map ZaA.p=m.accts.map ZaA.p
 poss:m'.poss=m.poss
 orders:m'.orders=m.orders
 avail:m'.avail=m.avail
 locs:m'.locs=m.locs
theorem Zbj.refl(m:Zab):Zbj m m:=⟨rfl,rfl,rfl,rfl,rfl,rfl,rfl,rfl,rfl⟩
theorem Zbj.trans{a b c:Zab}(h:Zbj a b)(k:Zbj b c):Zbj a c:=
 ⟨k.day.trans h.day,k.curs.trans h.curs,k.unders.trans h.unders,k.instrs.trans h.instrs,k.accts.trans h.accts,k.poss.trans h.poss,k.orders.trans h.orders,k.avail.trans h.avail,k.locs.trans h.locs⟩
structure ZbU(w0 w:World)(S0:Nat)(m:Zab)(v:Nat):Prop where
 curs:w.ownsRow w0.heap.size 57 2 (.slice m.sCur.A m.curs.length m.sCur.c) m.curs.length (m.curs.flatMap ZcB.cs)
 unders:w.ownsRow w0.heap.size 63 4 (.slice m.sUnd.A m.unders.length m.sUnd.c) m.unders.length (m.unders.flatMap ZbD.cs)
 instrs:w.ownsRow w0.heap.size 66 7 (.slice m.sIns.A m.instrs.length m.sIns.c) m.instrs.length (m.instrs.flatMap ZaD.cs)
 accts:w.ownsRow w0.heap.size 59 4 (.slice m.sAcc.A m.accts.length m.sAcc.c) m.accts.length (m.accts.flatMap ZaA.cs)
 poss:w.ownsRow w0.heap.size 50 3 (.slice m.sPos.A m.poss.length m.sPos.c) m.poss.length (P.lcs m.poss)
 orders:w.ownsRow w0.heap.size 45 5 (.slice m.sOrd.A m.orders.length m.sOrd.c) m.orders.length (O.lcs m.orders)
 avail:w.ownsRow w0.heap.size 3 1 (.slice m.sAva.A m.avail.length m.sAva.c) m.avail.length (Zag m.avail)
 locs:w.ownsRow w0.heap.size 72 3 (.slice m.sLoc.A m.locs.length m.sLoc.c) m.locs.length (L.lcs m.locs)
 base:w0.heap.size≤S0
 far:∀q,m.sAva.A=some q→q.block<S0
 new:∀(i:Nat) (x:ZaA),m.accts[i]?=some x→i<v→w.ownsRow S0 3 1 (.slice x.A x.cash.length x.c) x.cash.length (Zag x.cash)
 apart:∀(i j:Nat) (x y:ZaA) (p q:Addr),m.accts[i]?=some x→m.accts[j]?=some y→i<j→j<v→x.A=some p→y.A=some q→p.block≠q.block
 old:∀(i:Nat) (x:ZaA),m.accts[i]?=some x→v≤i→Rd w0 w0.heap.size 1 x.A x.cash.length (Zag x.cash)
 len:∀x∈m.accts,x.cash.length≤1000000
 short:m.curs.length≤1000000∧m.unders.length≤1000000∧m.instrs.length≤1000000∧m.accts.length≤1000000∧m.poss.length≤1000000∧m.orders.length≤1000000∧m.avail.length≤1000000∧m.locs.length≤1000000
theorem ZbU.done{E w:World}{S0:Nat}{m:Zab}(h:ZbU E w S0 m m.accts.length):Zaa w E.heap.size m:=by
 have hi:∀(i:Nat) (x:ZaA),m.accts[i]?=some x→i<m.accts.length:=fun i x hx=>(List.getElem?_eq_some_iff.1 hx).1
 refine⟨h.curs,h.unders,h.instrs,h.accts,h.poss,h.orders,h.avail,h.locs,?_,?_,?_,h.short⟩
 ·intro a ha
  obtain⟨i,hx⟩:=List.getElem?_of_mem ha
  exact⟨Zap (h.new i a hx (hi i a hx)) h.base,h.len a ha⟩
 ·intro i j x y p q hx hy C hp hq
  rcases Nat.lt_or_gt_of_ne C with s|s
  ·exact h.apart i j x y p q hx hy s (hi j y hy) hp hq
  ·exact Ne.symm (h.apart j i y x q p hy hx s (hi i x hx) hq hp)
 ·intro x hx p q hp hq
  obtain⟨i,z⟩:=List.getElem?_of_mem hx
  have h1:=(ZaP (h.new i x z (hi i x z)) p hp).1
  have h2:=h.far q hq
  omega
theorem ZbU.step{w0 w w1:World}{S0:Nat}{m:Zab}{v g Y:Nat}{X:Option Addr}(h:ZbU w0 w S0 m v)(hS:S0≤w.heap.size)(hA:m.sAcc.A=some (Aq g 0))(Z:v<m.accts.length)(ho:w1.ownsRow w.heap.size 3 1 (.slice X (m.accts[v]).cash.length Y) (m.accts[v]).cash.length (Zag (m.accts[v]).cash))(N:Bw w w1):
 ZbU w0 (w1.setCell (Aq g (v*4+1)) (.slice X (m.accts[v]).cash.length Y)) S0 {m with accts:=m.accts.set v {m.accts[v] with A:=X,c:=Y}} (v+1):=by
 have Z?:m.accts[v]?=some m.accts[v]:=List.getElem?_eq_getElem Z
 obtain⟨x,hx⟩:=ExY (m.accts[v])
 rw[←hx] at Z? ho ⊢
 obtain⟨x',E⟩:∃x':ZaA,x'={x with A:=X,c:=Y}:=⟨_,rfl⟩
 have aa:x'.A=X:=by rw[E]
 have ae:x'.c=Y:=by rw[E]
 have G:x'.cash=x.cash:=by rw[E]
 have af:x'.cs=x.cs.set 1 (.slice X x.cash.length Y):=by rw[E];rfl
 rw[←E]
 clear E
 have a1:=Zai h.accts N
 obtain⟨cs,_,_,C⟩:=ZaK a1 hA
 have e1:=ZbA (hA▸a1) (v*4+1) (by omega) (.slice X x.cash.length Y)
 rw[ZcI Zc4 m.accts v Z 1 (by decide) _ x' (by rw[af,hx])] at e1
 have U:(m.accts.set v x').length=m.accts.length:=List.length_set ..
 have s:∀(i:Nat) (z:ZaA),(m.accts.set v x')[i]?=some z→(i=v∧z=x')∨(i≠v∧m.accts[i]?=some z):=by
  intro i z hz
  by_cases hi:v=i
  ·subst hi
   rw[List.getElem?_set_self Z] at hz
   cases hz
   exact .inl ⟨rfl,rfl⟩
  ·rw[List.getElem?_set_ne hi] at hz
   exact .inr ⟨Ne.symm hi,hz⟩
 have ag:=h.len x (List.mem_of_getElem? Z?)
 refine⟨Zad (Zai h.curs N) C (by decide),Zad (Zai h.unders N) C (by decide),Zad (Zai h.instrs N) C (by decide),?_,Zad (Zai h.poss N) C (by decide),Zad (Zai h.orders N) C (by decide),
  Zad (Zai h.avail N) C (by decide),Zad (Zai h.locs N) C (by decide),h.base,h.far,?_,?_,?_,?_,?_⟩
 ·show World.ownsRow _ w0.heap.size 59 4 (.slice m.sAcc.A (m.accts.set v x').length m.sAcc.c) (m.accts.set v x').length _
  rw[U,hA]
  exact e1
 ·intro i z hz hi
  rcases s i z hz with⟨rfl,rfl⟩|⟨R,J⟩
  ·rw[aa,ae,G]
   exact Zad (Zap ho hS) C (by decide)
  ·exact Zad (Zai (h.new i z J (by omega)) N) C (by decide)
 ·intro i j z1 z2 p q ac ah ab hj hp hq
  rcases s j z2 ah with⟨rfl,rfl⟩|⟨R,ad⟩
  ·rcases s i z1 ac with⟨rfl,rfl⟩|⟨R,L⟩
   ·omega
   ·rw[aa] at hq
    have k1:=(ZaP (h.new i z1 L ab) p hp).2
    have k2:=(ZaP ho q hq).1
    omega
  ·rcases s i z1 ac with⟨rfl,rfl⟩|⟨ai,L⟩
   ·omega
   ·exact h.apart i j z1 z2 p q L ad ab (by omega) hp hq
 ·intro i z hz hi
  rcases s i z hz with⟨rfl,rfl⟩|⟨R,J⟩
  ·omega
  ·exact h.old i z J (by omega)
 ·intro z hz
  obtain⟨i,hi⟩:=List.getElem?_of_mem hz
  rcases s i z hi with⟨rfl,rfl⟩|⟨R,J⟩
  ·rw[G];exact ag
  ·exact h.len z (List.mem_of_getElem? J)
 ·show _∧_∧_∧(m.accts.set v x').length≤_∧_
  rw[U]
  exact h.short
theorem ZbU.below{z w w':World}{S0:Nat}{m:Zab}{v:Nat}(h:ZbU z w S0 m v)(s:Bw w w'):ZbU z w' S0 m v:=
 ⟨Zai h.curs s,Zai h.unders s,Zai h.instrs s,Zai h.accts s,Zai h.poss s,Zai h.orders s,Zai h.avail s,Zai h.locs s,h.base,h.far,fun i x hx hi=>Zai (h.new i x hx hi) s,h.apart,h.old,h.len,h.short⟩
theorem Zbj.set{a m:Zab}(h:Zbj a m){v:Nat}(s:v<m.accts.length){x:ZaA}(z:x.p=(m.accts[v]).p):Zbj a {m with accts:=m.accts.set v x}:=
 ⟨h.day,h.curs,h.unders,h.instrs,by
  show(m.accts.set v x).map ZaA.p=_
  rw[List.map_set,z,←h.accts]
  apply List.ext_getElem?
  intro i
  by_cases hi:v=i
  ·subst hi
   rw[List.getElem?_set_self (by simpa using s)];simp[s]
  ·rw[List.getElem?_set_ne hi],h.poss,h.orders,h.avail,h.locs⟩
theorem ZkP(l:List ZcB):∀u∈l.flatMap ZcB.cs,u.oneCell'=true:=by
 intro u hu
 obtain⟨x,_,h⟩:=List.mem_flatMap.1 hu
 simp only[ZcB.cs,List.mem_cons,List.not_mem_nil,or_false] at h
 rcases h with rfl|rfl<;>rfl
theorem ZlA(l:List ZbD):∀u∈l.flatMap ZbD.cs,u.oneCell'=true:=by
 intro u hu
 obtain⟨x,_,h⟩:=List.mem_flatMap.1 hu
 simp only[ZbD.cs,List.mem_cons,List.not_mem_nil,or_false] at h
 rcases h with rfl|rfl|rfl|rfl<;>rfl
theorem Zio(l:List ZaD):∀u∈l.flatMap ZaD.cs,u.oneCell'=true:=by
 intro u hu
 obtain⟨x,_,h⟩:=List.mem_flatMap.1 hu
 simp only[ZaD.cs,List.mem_cons,List.not_mem_nil,or_false] at h
 rcases h with rfl|rfl|rfl|rfl|rfl|rfl|rfl<;>rfl
theorem ZkJ(l:List ZaA):∀u∈l.flatMap ZaA.cs,u.oneCell'=true:=by
 intro u hu
 obtain⟨x,_,h⟩:=List.mem_flatMap.1 hu
 simp only[ZaA.cs,List.mem_cons,List.not_mem_nil,or_false] at h
 rcases h with rfl|rfl|rfl|rfl<;>rfl
theorem Ze4(l:List Int):∀u∈Zag l,u.oneCell'=true:=by simp[Zag,Value.oneCell']
def ZcA(m:Zab)(w:World)(e:Ending)(w':World):Prop:=∃m',e=.returned m'.val∧Zbj m m'∧Zaa w' w.heap.size m'∧Bw w w'
end Go.Proofs.YtdefojlkofnloaaGreatDoor
