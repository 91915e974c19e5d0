/- A part of the proof of CoreOnce: for every input, no condition. -/
import Derived.Test.YtdefojlkofnloaaGreatDoorZb03
import Derived.Test.YtdefojlkofnloaaGreatDoorZb04
import Derived.Laws.Externs
import Derived.Lib.AppendZerosOnto
import Derived.Lib.Overlaps
set_option maxRecDepth 100000
set_option maxHeartbeats 8000000
set_option linter.unusedVariables false
set_option linter.unusedSimpArgs false
namespace Go.Proofs.YtdefojlkofnloaaGreatDoor
open Go.RowKit Go.Proofs.Tryz
section
namespace L
section
variable {P:Program}
theorem ZcW(w:World){o:Oper}{a:Act}{K:Act→World→Prop}{Q:Exit→Act→World→Prop}(d s:Operand)(t t':TypeId)(E:o.op=.call {callee:=.builtin .copy,args:=#[d,s],argTypes:=#[t,t']})(v u:Value)(C:a.eval d=v)(J:a.eval s=u){z:Value}{w':World}(G:(Builtin.copy_ #[t,t'] o.type #[v,u]).run P w=.ok z w')(h:K (a.put o.dst z) w'):o.wp P a w K Q:=by
 unfold Oper.wp execOp
 simp only[E,resolve,invoke,builtin,Sem.run_bind,Sem.run_pure,Result.andThen_ok,List.map_toArray,List.map_cons,List.map_nil,C,J,G]
 exact h
theorem Zbg(w:World){ops:Array Oper}{rest:List Oper}{o:Oper}{a:Act}{Q:Exit→Act→World→Prop}(z:o.guard=none)(d s:Operand)(t t':TypeId)(G:o.op=.call {callee:=.builtin .copy,args:=#[d,s],argTypes:=#[t,t']})(v u:Value)(E:a.eval d=v)(L:a.eval s=u){C:Value}{w':World}(J:(Builtin.copy_ #[t,t'] o.type #[v,u]).run P w=.ok C w')(h:wpList P ops Q rest (a.put o.dst C) w'):wpList P ops Q (o::rest) a w:=
 wpList_plain z fun _ hK=>ZcW w d s t t' G v u E L J (hK _ _ h)
theorem ZbB{ops:Array Oper}{o:Oper}{a:Act}{w:World}{K:Act→World→Prop}{Q:Exit→Act→World→Prop}{E:Prop}(G:o.guard=none)(d x:Operand)(t t':TypeId)(s:o.op=.call {callee:=.builtin .copy,args:=#[d,x],argTypes:=#[t,t']})(v u:Value)(C:a.eval d=v)(L:a.eval x=u){z:Value}{w':World}(J:(Builtin.copy_ #[t,t'] o.type #[v,u]).run P w=.ok z w')(hK:K (a.put o.dst z) w'):if Region.wanted o (yielded ops a.tmps)=true then Oper.wp P o a w K Q else E:=by
 have hw:Region.wanted o (yielded ops a.tmps)=true:=by simp[Region.wanted,G]
 rw[if_pos hw]
 exact ZcW w d x t t' s v u C L J hK
end
theorem Zew(w:World)(ty:TypeId)(b o s C:Nat)(a:Addr)(z G:Nat)(cs:List Value)(Y:cs.length=Nat.min z s*3)(E:∀j v,cs[j]?=some v→w.cell? (a.add j)=some v)(U:∀j,j<cs.length→(w.cell? (Aq b (o+j))).isSome=true)(X:∀j,j<cs.length→w.frozen? (Aq b (o+j))=false)(R:∀v∈cs,v.oneCell'=true):
 (Builtin.copy_ #[35,35] ty #[.slice (some (Aq b o)) s C,.slice (some a) z G]).run prog w=.ok (goInt (Nat.min z s)) (w.setCells b o cs):=by
 have hl:=run_loadCells_list (P:=prog) w a cs E
 have L:=run_storeCells_cells (P:=prog) b o cs 0 w (by simpa using U) (by simpa using X) R
 obtain⟨i0,J,Z,N,aa⟩:=info_parts info72
 rw[Y] at hl
 simp[Builtin.copy_,run_underlying underlying35,Builtin.lenOf,Builtin.firstCells,sizeOf,typeInfo,J,N,hl,L]
def ZcZ(base:Nat)(w:World)(ys:List Lc)(e:Ending)(w':World):Prop:=
 ∃A c,e=.returned (.slice A ys.length c)∧ys.length≤c∧c≤maxLen∧w'.ownsRow base 72 3 (.slice A ys.length c) ys.length (lcs ys)∧Below base w w'
theorem Zde(x:Lc):lcs [x]=x.cells:=by simp[lcs]
theorem Zhq{w:World}{s:Nat}{x:Lc}(h:Bk w s 72 #[I x.acct,I x.instr,I x.qty]):Rd w (s+1) 3 (some (Aq s 0)) 1 x.cells:=
 ⟨rfl,fun _=>⟨_,rfl,by simp,World.news_of_block h⟩⟩
theorem Zdc(base n c Y:Nat)(A:Option Addr)(l:List Lc)(x:Lc)(w:World)(z:w.ownsRow base 72 3 (.slice A n c) n (lcs l))(hl:l.length=n)(hn:(n+1)*24≤140737488355328)(s:base≤w.heap.size)(hv:Bk w Y 72 #[I x.acct,I x.instr,I x.qty]):
 Calls prog 134 #[.slice A n c,I n,.slice (some (Aq Y 0)) 1 1] w (ZcZ base w (l++[x])):=by
 obtain⟨A0,c0,C,aa,J⟩:=ZdX z
 injection C with hA0 _ C
 subst hA0 C
 obtain⟨i0,N,R,U,X⟩:=info_parts info72
 have hr:=Zhq hv
 have HO:=Hi z
 have HL:=Hi hl
 clear z hl hv
 unfold maxLen at J
 have j1:(0:Int)≤(n:Int):=by omega
 have j2:(n:Int)≤(c:Int):=by omega
 go_enter func134,ntmps134
 go_wp2_with (at_builtin;go_must (refine Zan _ rfl (.tmp 23) (.tmp 24) _ rfl base 72 i0 _ 3 24 underlying35 N R U X rfl (by omega) _ n (lcs l) rfl HO (Y+1) _ 1 1 _ rfl hr (cells_one x) (by unfold maxLen;omega) (by omega) s ?_);intro A1 c1 w1 h1 h2 G L Z)
 all_goals
  go_ret
  have E:(l++[x]).length=n+1:=by rw[List.length_append,HL.out];rfl
  refine⟨A1,c1,by rw[E];rfl,by rw[E];exact h1,h2,by rw[E,lcs_append,Zde];exact G,(Below.refl base w).grown L s fun k hk=>(HO.lt k hk).1⟩
theorem ZcO(base n p vb g:Nat)(l:List Lc)(x:Lc)(cur:Array Value)(w:World)(z:base≤w.heap.size)(hB:Bk w g 72 cur)(aC:cur.size=n*3)(hl:l.length=n)(ht:cur.toList.take (n*3)=lcs l)(hn:(n+1)*24≤140737488355328)(hp:p<n)(hv:Bk w vb 72 #[I x.acct,I x.instr,I x.qty]):
 Calls prog 134 #[.slice (some (Aq g 0)) n n,I p,.slice (some (Aq vb 0)) 1 1] w (ZcZ base w (l.take p++x::l.drop p)):=by
 obtain⟨i0,aB,aD,aE,au⟩:=info_parts info72
 have aA:(lcs l).length=n*3:=by rw[lcs_len,hl]
 have ah:∀j v,(lcs l)[j]?=some v→w.cell? (Aq g j)=some v:=fun j v hj=>by
  rw[hB.cell,←Array.getElem?_toList]
  have aF:=(List.getElem?_eq_some_iff.1 hj).1
  rw[←ht,List.getElem?_take_of_lt (by omega)] at hj
  exact hj
 have add0:∀b j k:Nat,((Aq b j):Addr).add k=(Aq b (j+k)):=fun b j k=>by
  unfold Addr.add
  split
  ·simp_all
  ·rfl
 have ad:(Builtin.firstCells i0.size p (.slice (some (Aq g 0)) p n)).run prog w.drew=.ok (lcs (l.take p)).toArray w.drew:=by
  rw[aE]
  exact run_firstCells_some w.drew 3 p (Aq g 0) p n (lcs (l.take p)) (by rw[lcs_len,List.length_take];omega) (fun j v hj=>by
   rw[add0,Nat.zero_add]
   rw[←Zby,List.getElem?_take] at hj
   split at hj
   ·exact ah j v hj
   ·cases hj)
 obtain⟨G,hG⟩:=ExY (grownCap w (n+1) n 72)
 have ak:n+1≤G:=by rw[hG];exact grownCap_ge w _ _ _
 have aa:G≤maxLen:=by rw[hG];exact grownCap_le_maxLen w _ _ _ (by unfold maxLen;omega)
 obtain⟨s,E⟩:∃s:Array Value,s=(lcs (l.take p)).toArray++Builtin.zeroCells (Value.agg #[I 0,I 0,I 0]).cells (n+1-p)++Builtin.zeroCells (Value.agg #[I 0,I 0,I 0]).cells (G-(n+1)):=⟨_,rfl⟩
 have ai:∀ty,(Builtin.append_ #[35,3] ty #[.slice (some (Aq g 0)) p n,I ((n:Int)+1-(p:Int))]).run prog w=.ok (.slice (some ⟨w.heap.size,0,none⟩) (n+1) G) (w.drew.alloc (.cells s 72)):=fun ty=>by
  have h:=Lib.run_append_grow_zeros w 35 3 ty 72 i0 _ .i64 .i64 underlying35 underlying3 aB aD (some (Aq g 0)) p n (lcs (l.take p)) ad (n+1-p) (by omega) (by omega) (by omega) (by omega) (by rw[au];omega) (by rw[au,show p+(n+1-p)=n+1 by omega];exact growslice_fits (by omega) (by omega))
  rw[show p+(n+1-p)=n+1 by omega,←hG,←E] at h
  rw[show(n:Int)+1-(p:Int)=((n+1-p:Nat):Int) by omega]
  exact h
 have Y:s.size=G*3:=by
  rw[E]
  simp only[Array.size_append,List.size_toArray,lcs_len,List.length_take,Builtin.zeroCells]
  simp[Value.cells]
  omega
 have al:s.toList.take (p*3)=lcs (l.take p):=by
  rw[E]
  simp only[Array.toList_append]
  rw[List.append_assoc,List.take_append_of_le_length (by simp only[lcs_len,List.length_take];omega),List.take_of_length_le (by simp only[lcs_len,List.length_take];omega)]
 obtain⟨N,hN⟩:=ExY w.heap.size
 have az:g<N:=by rw[hN];exact hB.lt
 have aG:vb<N:=by rw[hN];exact hv.lt
 rw[←hN] at ai
 obtain⟨W1,J⟩:=ExY ((w.alloc (.cells s 72)).drew)
 have U:Bk W1 N 72 s:=by rw[J,hN];exact(Bk.new w 72 s).drew
 have ao:Bk W1 g 72 cur:=by rw[J];exact(hB.alloc _).drew
 have aq:Bk W1 vb 72 #[I x.acct,I x.instr,I x.qty]:=by rw[J];exact(hv.alloc _).drew
 have ab:Below base w W1:=by rw[J];exact((Below.refl _ w).alloc z _).drew
 have C:x.cells.length=3:=rfl
 have m1:Nat.min 1 (n+1-p)=1:=Nat.min_eq_left (by omega)
 have m2:Nat.min (n-p) (n-p)=n-p:=Nat.min_self _
 obtain⟨W2,L⟩:=ExY (W1.setCells N (p*3) x.cells)
 have am:∀ty,(Builtin.copy_ #[35,35] ty #[.slice (some (Aq N (p*3))) (n+1-p) (G-p),.slice (some (Aq vb 0)) 1 1]).run prog W1=.ok (I 1) W2:=fun ty=>by
  have h:=Zew W1 ty N (p*3) (n+1-p) (G-p) (Aq vb 0) 1 1 x.cells (by rw[C,m1])
   (fun j v hj=>by rw[add0,Nat.zero_add,aq.cell,←Array.getElem?_toList];exact hj) (fun j hj=>by rw[U.cell,Array.getElem?_eq_getElem (by rw[Y];omega)];rfl) (fun j _=>U.frozen _) (cells_one x)
  rw[←L,m1] at h
  exact h
 have X:Bk W2 N 72 (ow s (p*3) x.cells):=by rw[L];exact Bk.cells _ _ U
 have Z:(ow s (p*3) x.cells).size=G*3:=by rw[Zbv];exact Y
 have ap:Bk W2 g 72 cur:=by
  rw[L]
  exact(Below.cells (B:=N) (Nat.le_refl _) x.cells (p*3) (Below.refl N W1)).block g az |>.trans ao
 have ac:Below base w W2:=by rw[L];exact Below.cells (by rw[hN];exact z) _ _ ab
 have R:∀j v,(lcs (l.drop p))[j]?=some v→W2.cell? (Aq g (p*3+j))=some v:=fun j v hj=>by
  rw[←Zb0,List.getElem?_drop] at hj
  rw[ap.cell,←hB.cell]
  exact ah _ v hj
 have af:(lcs (l.drop p)).length=(n-p)*3:=by rw[lcs_len,List.length_drop,hl]
 have an:∀ty,(Builtin.copy_ #[35,35] ty #[.slice (some (Aq N ((p+1)*3))) (n-p) (G-(p+1)),.slice (some (Aq g (p*3))) (n-p) (n-p)]).run prog W2.drew=.ok (I ((n-p:Nat):Int)) (W2.drew.setCells N ((p+1)*3) (lcs (l.drop p))):=fun ty=>by
  have h:=Zew W2.drew ty N ((p+1)*3) (n-p) (G-(p+1)) (Aq g (p*3)) (n-p) (n-p) (lcs (l.drop p)) (by rw[af,m2])
   (fun j v hj=>by rw[add0];exact R j v hj) (fun j hj=>by rw[X.drew.cell,Array.getElem?_eq_getElem (by rw[Z];omega)];rfl) (fun j _=>X.drew.frozen _) (lcs_one _)
  rw[m2] at h
  exact h
 have ag:(l.take p++x::l.drop p).length=n+1:=by rw[List.length_append,List.length_cons,List.length_take,List.length_drop,hl];omega
 have aj:(W2.drew.setCells N ((p+1)*3) (lcs (l.drop p))).ownsRow base 72 3 (.slice (some (Aq N 0)) (n+1) G) (n+1) (lcs (l.take p++x::l.drop p)):=by
  refine ZbO (by rw[hN];exact z) (Bk.cells _ _ X.drew) ak aa (by rw[Zbv];exact Z) ag ?_
  have e1:lcs (l.take p++x::l.drop p)=(lcs (l.take p)++x.cells)++lcs (l.drop p):=by rw[lcs_append];show _=_;rw[List.append_assoc];rfl
  have e2:(ow s (p*3) x.cells).toList.take ((p+1)*3)=lcs (l.take p)++x.cells:=by
   rw[Zbu _ _ _ (by rw[Y,C];omega),al,←List.append_assoc,List.take_append_of_le_length (by rw[List.length_append,lcs_len,List.length_take,hl,C];omega),List.take_of_length_le (by rw[List.length_append,lcs_len,List.length_take,hl,C];omega)]
  rw[Zbu _ _ _ (by rw[Z,af];omega),e2,e1,←List.append_assoc,List.take_append_of_le_length (by simp only[List.length_append,lcs_len,List.length_take,List.length_drop,hl,C];omega),
   List.take_of_length_le (by simp only[List.length_append,lcs_len,List.length_take,List.length_drop,hl,C];omega)]
 have aw:=Hi aj
 have ax:Hid (Below base w (W2.drew.setCells N ((p+1)*3) (lcs (l.drop p)))):=Below.cells (by rw[hN];exact z) _ _ ac.drew
 have ae:=Hi ag
 have ay:=Hi J
 clear m1 m2 add0 hN aj ag af R ac ap Z X C ab aq ao U J L al Y E hG ad ah aA ht hl aC hB hv
 unfold maxLen at aa
 have j1:(0:Int)≤(p:Int):=by omega
 have j2:(p:Int)≤(n:Int):=by omega
 have j3:¬((p:Int)=(n:Int)):=by omega
 have j4:(n:Int)<(n:Int)+1:=by omega
 have j5:IntKind.i64.wrap ((n:Int)+1)=(n:Int)+1:=IntWalk.i64_in _ (by omega)
 have j6:IntKind.i64.wrap ((n:Int)+1-(p:Int))=(n:Int)+1-(p:Int):=IntWalk.i64_in _ (by omega)
 have j7:IntKind.i64.wrap ((p:Int)+1)=(p:Int)+1:=IntWalk.i64_in _ (by omega)
 have j8:((p:Int)+1).toNat=p+1:=by omega
 have j9:(0:Int)≤(p:Int)+1:=by omega
 have aH:(p:Int)≤(n:Int)+1:=by omega
 have aI:¬(G=p):=by omega
 have aJ:¬(G=p+1):=by omega
 have aK:¬(n=p):=by omega
 have aL:(p:Int)+1≤(n:Int)+1:=by omega
 go_enter func134,ntmps134
 go_upto_region 10 with(at_builtin;refine Lib.wpList_append_run _ rfl _ _ _ _ rfl _ _ rfl rfl _ _ (ai _) ?_)
 rw[←ay.out]
 clear ai
 go_upto_region 11 with(at_builtin;refine Zbg _ rfl _ _ 35 35 rfl _ _ rfl rfl (am _) ?_)
 go_region_law (refine ZbB rfl (.tmp 50) (.tmp 53) 35 35 rfl (.slice (some (Aq N ((p+1)*3))) (n-p) (G-(p+1))) (.slice (some (Aq g (p*3))) (n-p) (n-p)) (by simp[Act.eval,Act.put]) (by simp[Act.eval,Act.put]) (an _) ?_)
 all_goals
  go_wp2
  go_ret
  exact⟨some (Aq N 0),G,by rw[ae.out];rfl,by rw[ae.out];exact ak,by unfold maxLen;omega,by rw[ae.out];exact aw.out,ax⟩
end L
end
namespace L
theorem Zdn{w:World}{g:Nat}{t:TypeId}{cs:Array Value}(h:Bk w g t cs):w.shape? g=some (t,cs.size):=by
 unfold Bk at h
 simp[World.shape?,h]
theorem Zcw(base n c p G g:Nat)(l:List Lc)(x:Lc)(s:Array Value)(w:World)(hb:base≤g)(Y:Bk w g 72 s)(ad:n+1≤c)(ak:c≤maxLen)(C:s.size=c*3)(hl:l.length=n)(ht:s.toList.take (n*3)=lcs l)(hp:p<n)(ae:G≠g)(hv:Bk w G 72 #[I x.acct,I x.instr,I x.qty]):
 Calls prog 134 #[.slice (some (Aq g 0)) n c,I p,.slice (some (Aq G 0)) 1 1] w (ZcZ base w (l.take p++x::l.drop p)):=by
 unfold maxLen at ak
 have aj:(lcs l).length=n*3:=by rw[lcs_len,hl]
 have af:∀j v,(lcs l)[j]?=some v→w.cell? (Aq g j)=some v:=fun j v hj=>by
  rw[Y.cell,←Array.getElem?_toList]
  have am:=(List.getElem?_eq_some_iff.1 hj).1
  rw[←ht,List.getElem?_take_of_lt (by omega)] at hj
  exact hj
 have add0:∀b j k:Nat,((Aq b j):Addr).add k=(Aq b (j+k)):=fun b j k=>by
  unfold Addr.add
  split
  ·simp_all
  ·rfl
 have al:∀lb cb,(callFunc 169 #[.slice (some (Aq G 0)) 1 1,.slice (some (Aq g ((p+1)*3))) lb cb]).run prog w=.ok (.value (.bool false)) w:=fun lb cb=>by
  rw[run_callFunc_extern func169 (by kernel_rfl) (by kernel_rfl) (by kernel_rfl) (e:=Extern.SlicesOverlaps.overlaps #[35,35] #[4]) (by kernel_rfl),
   Lib.run_overlaps_apart w 35 4 72 underlying35 3 Tryz.sizeOf72 (Aq G 0) (Aq g ((p+1)*3)) 1 1 lb cb ae 72 72 3 (c*3) (by rw[Zdn hv];rfl) (by rw[Zdn Y,C]) (by omega) (hv.frozen 0) (hv.frozen 3)]
  rfl
 have E:x.cells.length=3:=rfl
 have U:(lcs (l.drop p)).length=(n-p)*3:=by rw[lcs_len,List.length_drop,hl]
 have m1:Nat.min 1 (n+1-p)=1:=Nat.min_eq_left (by omega)
 have m2:Nat.min (n+1-p) (n-p)=n-p:=Nat.min_eq_right (by omega)
 obtain⟨W1,z⟩:=ExY (w.drew.setCells g ((p+1)*3) (lcs (l.drop p)))
 have ab:∀ty,(Builtin.copy_ #[35,35] ty #[.slice (some (Aq g ((p+1)*3))) (n-p) (c-(p+1)),.slice (some (Aq g (p*3))) (n+1-p) (c-p)]).run prog w.drew=.ok (I ((n-p:Nat):Int)) W1:=fun ty=>by
  have h:=Zew w.drew ty g ((p+1)*3) (n-p) (c-(p+1)) (Aq g (p*3)) (n+1-p) (c-p) (lcs (l.drop p)) (by rw[U,m2])
   (fun j v hj=>by rw[add0];rw[←Zb0,List.getElem?_drop] at hj;exact af _ v hj) (fun j hj=>by rw[Y.drew.cell,Array.getElem?_eq_getElem (by omega)];rfl) (fun j _=>Y.drew.frozen _) (lcs_one _)
  rw[←z,m2] at h
  exact h
 have J:Bk W1 g 72 (ow s ((p+1)*3) (lcs (l.drop p))):=by rw[z];exact Bk.cells _ _ Y.drew
 have L:(ow s ((p+1)*3) (lcs (l.drop p))).size=c*3:=by rw[Zbv];exact C
 have ag:Bk W1 G 72 #[I x.acct,I x.instr,I x.qty]:=by
  rw[z]
  have far:∀(vs:List Value) (o:Nat) (V:World),Bk V G 72 #[I x.acct,I x.instr,I x.qty]→Bk (V.setCells g o vs) G 72 #[I x.acct,I x.instr,I x.qty]:=fun vs=>by
   induction vs with
   |nil=>exact fun _ _ h=>h
   |cons v r ih=>exact fun o V h=>by rw[World.setCells];exact ih _ _ (h.far (p:=Aq g o) ae v)
  exact far _ _ _ hv.drew
 have ac:∀ty,(Builtin.copy_ #[35,35] ty #[.slice (some (Aq g (p*3))) (n+1-p) (c-p),.slice (some (Aq G 0)) 1 1]).run prog W1=.ok (I 1) (W1.setCells g (p*3) x.cells):=fun ty=>by
  have h:=Zew W1 ty g (p*3) (n+1-p) (c-p) (Aq G 0) 1 1 x.cells (by rw[E,m1])
   (fun j v hj=>by rw[add0,Nat.zero_add,ag.cell,←Array.getElem?_toList];exact hj) (fun j hj=>by rw[J.cell,Array.getElem?_eq_getElem (by rw[L];omega)];rfl) (fun j _=>J.frozen _) (cells_one x)
  rw[m1] at h
  exact h
 have X:(l.take p++x::l.drop p).length=n+1:=by rw[List.length_append,List.length_cons,List.length_take,List.length_drop,hl];omega
 have Z:(W1.setCells g (p*3) x.cells).ownsRow base 72 3 (.slice (some (Aq g 0)) (n+1) c) (n+1) (lcs (l.take p++x::l.drop p)):=by
  refine ZbO hb (Bk.cells _ _ J) ad (by unfold maxLen;omega) (by rw[Zbv];exact L) X ?_
  have e1:lcs (l.take p++x::l.drop p)=lcs (l.take p)++(x.cells++lcs (l.drop p)):=by rw[lcs_append];rfl
  have e0:s.toList.take (p*3)=lcs (l.take p):=by rw[←Zby,←ht,List.take_take,Nat.min_eq_left (by omega)]
  have N:s.toList.length=c*3:=by simpa using C
  have aa:=Zbu (lcs (l.drop p)) s ((p+1)*3) (by rw[C,U];omega)
  have h1:(ow s ((p+1)*3) (lcs (l.drop p))).toList.take (p*3)=lcs (l.take p):=by
   rw[aa,List.take_append_of_le_length (by rw[List.length_take,N];omega),List.take_take,Nat.min_eq_left (by omega),e0]
  have h2:(ow s ((p+1)*3) (lcs (l.drop p))).toList.drop (p*3+3)=lcs (l.drop p)++s.toList.drop ((p+1)*3+(lcs (l.drop p)).length):=by
   rw[show p*3+3=(p+1)*3 by omega,aa]
   exact List.drop_left' (by rw[List.length_take,N];omega)
  rw[Zbu _ _ _ (by rw[L,E];omega),E,h1,h2,e1,←List.append_assoc x.cells,←List.append_assoc (lcs (l.take p))]
  exact List.take_left' (by simp only[List.length_append,lcs_len,List.length_take,List.length_drop,hl,E];omega)
 have ah:=Hi Z
 have ai:Hid (Below base w (W1.setCells g (p*3) x.cells)):=Below.cells hb _ _ (by rw[z];exact Below.cells hb _ _ (Below.refl _ _).drew)
 have R:=Hi X
 clear m1 m2 add0 Z X U L J ag E z af aj ht hl C Y hv
 have j1:(0:Int)≤(p:Int):=by omega
 have j2:(p:Int)≤(n:Int):=by omega
 have j3:¬((p:Int)=(n:Int)):=by omega
 have j4:¬((c:Int)<(n:Int)+1):=by omega
 have j5:IntKind.i64.wrap ((n:Int)+1)=(n:Int)+1:=IntWalk.i64_in _ (by omega)
 have j7:IntKind.i64.wrap ((p:Int)+1)=(p:Int)+1:=IntWalk.i64_in _ (by omega)
 have j8:((p:Int)+1).toNat=p+1:=by omega
 have j9:(0:Int)≤(p:Int)+1:=by omega
 have an:(p:Int)≤(n:Int)+1:=by omega
 have ao:¬(c=p):=by omega
 have ap:¬(c=p+1):=by omega
 have aq:(p:Int)+1≤(n:Int)+1:=by omega
 have au:(0:Int)≤(n:Int)+1:=by omega
 have aw:(n:Int)+1≤(c:Int):=by omega
 have ax:((n:Int)+1).toNat=n+1:=by omega
 have ay:(n:Int)≤(c:Int):=by omega
 go_enter func134,ntmps134
 go_upto_region 15 with(simp only[al])
 go_region_law (refine ZbB rfl (.tmp 73) (.tmp 76) 35 35 rfl (.slice (some (Aq g ((p+1)*3))) (n-p) (c-(p+1))) (.slice (some (Aq g (p*3))) (n+1-p) (c-p)) (by simp[Act.eval,Act.put]) (by simp[Act.eval,Act.put]) (ab _) ?_)
 all_goals
  go_wp2_with (at_builtin;refine Zbg _ rfl _ _ 35 35 rfl _ _ rfl rfl (ac _) ?_)
  go_ret
  exact⟨some (Aq g 0),c,by rw[R.out];rfl,by rw[R.out];exact ad,by unfold maxLen;omega,by rw[R.out];exact ah.out,ai⟩
end L
namespace L
def ResOut(w:World)(r:List Int×List Lc×Int)(e:Ending)(w':World):Prop:=
 ∃A c B d,e=.returned (.tuple #[.slice A r.1.length c,.slice B r.2.1.length d,I r.2.2])∧r.1.length≤c∧c≤maxLen∧r.2.1.length≤d∧d≤maxLen ∧
  w'.ownsRow w.heap.size 3 1 (.slice A r.1.length c) r.1.length (Zgs r.1)∧w'.ownsRow w.heap.size 72 3 (.slice B r.2.1.length d) r.2.1.length (lcs r.2.1)∧Bw w w'
theorem Zdm{w w':World}(er:Int)(s:Bw w w'):ResOut w ([],[],er) (.returned (.tuple #[.slice none 0 0,.slice none 0 0,I er])) w':=
 ⟨none,0,none,0,rfl,Nat.le_refl _,Nat.zero_le _,Nat.le_refl _,Nat.zero_le _,World.ownsRow_nil _ _ _ _,World.ownsRow_nil _ _ _ _,s⟩
theorem ZjQ{l:List Lc}(h:ZcV (tidyAt l) l.length=true)(a i:Int):0≤heldL l a i∧heldL l a i≤1000000000:=by
 unfold heldL
 split
 ·rename_i x hx
  obtain⟨j,hj,rfl⟩:=List.mem_iff_getElem.1 (List.mem_of_find?_eq_some hx)
  have:=(upto_iff _ _).1 h j hj
  simp only[tidyAt,Bool.and_eq_true] at this
  have h1:=this.1
  rw[Zaf hj] at h1
  simpa[fitsQ] using h1
 ·omega
theorem Zlw{α:Type}(X D:List α)(N:Nat)(h:X.length≤N):(X++D).take N=X++D.take (N-X.length):=by rw[List.take_append,List.take_of_length_le h]
theorem Ze6{w J w':World}{A B:Option Addr}{c d er:Nat}{z:List Int}{C:List Lc}{base:Nat}(X:z.length≤c)(E:c≤maxLen)(Y:C.length≤d)(G:d≤maxLen)(L:J.ownsRow w.heap.size 3 1 (.slice A z.length c) z.length (Zgs z))(N:Bw J w')(U:w'.ownsRow base 72 3 (.slice B C.length d) C.length (lcs C))(s:w.heap.size≤base)(R:Bw w J):
 ResOut w (z,C,(er:Int)) (.returned (.tuple #[.slice A z.length c,.slice B C.length d,I er])) w':=
 ⟨A,c,B,d,rfl,X,E,Y,G,ZaF L fun p hp=>N.block _ (ZaP L p hp).2,Zap U s,R.trans (N.mono R.size)⟩
theorem reserve_any(A B:Option Addr)(n c m d:Nat)(av:List Int)(l:List Lc)(a i q:Int)(w:World)(a5:av.all fitsQ=true)(aO:ZcV (tidyAt l) l.length=true)(hn:n*8≤140737488355328)(hm:m≤1000000)(aM:Rd w w.heap.size 1 A n (Zgs av))(aA:Rd w w.heap.size 3 B m (lcs l)):
 Calls prog 81 #[.slice A n c,.slice B m d,I a,I i,I q] w (ResOut w (reserveS av l a i q)):=by
 have hl:av.length=n:=by have:=aM.1;rw[Ze3] at this;omega
 have a9:l.length=m:=by have:=aA.1;rw[lcs_len] at this;omega
 have bf:=sorted_of l aO
 obtain⟨br,bs⟩:=ZjQ aO a i
 obtain⟨h,hh⟩:=ExY (heldL l a i)
 rw[←hh] at br bs
 have U:=held_any B m d l a i w (by unfold maxLen;omega) aA
 rw[←hh] at U
 obtain⟨r,hr⟩:=ExY (reserveS av l a i q)
 rw[←hr]
 have aY:=Hi U
 have HH:=Hi hh
 have HR:=Hi hr
 have aT:=Hi a5
 have a3:=Hi bf
 have a2:=Hi aM
 have bj:=Hi aA
 have aj:=Hi hl
 have C:=Hi a9
 clear a5 aO aM aA hl a9 bf hh hr U
 go_enter func81,ntmps81
 go_wp2_with fail
 refine aY.mono ?_
 rintro e w1 ⟨rfl,a6⟩
 have s:=Hi a6
 clear a6
 by_cases hi:i<0∨(n:Int)≤i
 ·have e:r=([],[],32):=by rw[HR.out];unfold reserveS;rw[aj.out,if_pos hi]
  subst e
  by_cases h0:i<0
  ·go_wp2
   go_ret3
   exact Zdm 32 s
  ·have h1:(n:Int)≤i:=by omega
   have h2:¬(i<(n:Int)):=by omega
   go_wp2
   go_ret3
   exact Zdm 32 s
 obtain⟨k,rfl⟩:∃k:Nat,i=k:=⟨i.toNat,by omega⟩
 have hk:k<av.length:=by have:=aj.out;omega
 obtain⟨a0,rfl,bn,c0⟩:=(a2.below s).int hk
 obtain⟨bD,bE⟩:=ZlE aT hk
 obtain⟨v,hv⟩:=ExY (av[k])
 rw[←hv] at c0 bD bE
 have HV:Hid (av.getD k 0=v):=by rw[hv];exact Zaf hk
 clear hv bn
 have er:Hid (r=if q < -1000000000∨1000000000<q∨h+q<0∨1000000000<h+q then([],[],36) else if v<q then([],[],39) else if 1000000000<v-q then([],[],36)
  else if thereB l ⟨a,k,0⟩=false∧h+q≠0∧32≤l.length then([],[],40) else(av.set k (v-q),putL l (place l ⟨a,k,0⟩) (thereB l ⟨a,k,0⟩) ⟨a,k,h+q⟩,0)):=Hi (by
  rw[HR.out];unfold reserveS;rw[aj.out,if_neg hi,Int.toNat_natCast,HV.out,←HH.out])
 have i1:(0:Int)≤(k:Int):=by omega
 have i2:(k:Int)<(n:Int):=by omega
 have i3:¬((k:Int)<0):=by omega
 have i4:¬((n:Int)≤(k:Int)):=by omega
 by_cases bv:q < -1000000000
 ·have e:r=([],[],36):=by rw[er.out,if_pos (.inl bv)]
  subst e
  go_wp2
  go_ret3
  exact Zdm 36 s
 by_cases bw:1000000000<q
 ·have e:r=([],[],36):=by rw[er.out,if_pos (.inr (.inl bw))]
  subst e
  go_wp2
  go_ret3
  exact Zdm 36 s
 have iw:IntKind.i64.wrap (h+q)=h+q:=IntWalk.i64_in _ (by omega)
 have bL:¬(q>1000000000):=by omega
 by_cases bz:h+q<0
 ·have e:r=([],[],36):=by rw[er.out,if_pos (.inr (.inr (.inl bz)))]
  subst e
  go_wp2
  go_ret3
  exact Zdm 36 s
 by_cases bA:1000000000<h+q
 ·have e:r=([],[],36):=by rw[er.out,if_pos (.inr (.inr (.inr bA)))]
  subst e
  go_wp2
  go_ret3
  exact Zdm 36 s
 have an:Hid (r=if v<q then([],[],39) else if 1000000000<v-q then([],[],36)
  else if thereB l ⟨a,k,0⟩=false∧h+q≠0∧32≤l.length then([],[],40) else(av.set k (v-q),putL l (place l ⟨a,k,0⟩) (thereB l ⟨a,k,0⟩) ⟨a,k,h+q⟩,0)):=Hi (by
  rw[er.out,if_neg (by omega)])
 clear er
 by_cases aP:v<q
 ·have e:r=([],[],39):=by rw[an.out,if_pos aP]
  subst e
  go_wp2
  go_ret3
  exact Zdm 39 s
 have bF:¬(q>v):=by omega
 have bN:IntKind.i64.wrap (-q) = -q:=IntWalk.i64_in _ (by omega)
 have G:Calls prog 79 #[.slice (some a0) n c,I k,I (-q)] w1 (SupOut w1 (supplyS av k (-q))):=supply_any (some a0) n c av k (-q) w1 aT hn ((a2.below s).mono s.size)
 have es:supplyS av k (-q)=if 1000000000<v-q then([],36) else(av.set k (v-q),0):=by
  unfold supplyS
  rw[aj.out,if_neg hi,Int.toNat_natCast,HV.out]
  by_cases h1:1000000000<v-q
  ·rw[if_pos (by omega),if_pos h1]
  ·rw[if_neg (by omega),if_neg h1];rfl
 rw[es] at G
 clear es
 by_cases aB:1000000000<v-q
 ·have e:r=([],[],36):=by rw[an.out,if_neg aP,if_pos aB]
  subst e
  rw[if_pos aB] at G
  have ae:=Hi G
  clear G
  go_wp2_with fail
  refine ae.mono ?_
  rintro e w2 ⟨A1,c1,rfl,_,_,_,au⟩
  go_wp2
  go_ret3
  exact Zdm 36 (s.trans (au.mono s.size))
 rw[if_neg aB] at G
 have ae:=Hi G
 clear G
 have ab:Hid (r=if thereB l ⟨a,k,0⟩=false∧h+q≠0∧32≤l.length then([],[],40) else(av.set k (v-q),putL l (place l ⟨a,k,0⟩) (thereB l ⟨a,k,0⟩) ⟨a,k,h+q⟩,0)):=Hi (by
  rw[an.out,if_neg aP,if_neg aB])
 clear an
 go_wp2_with fail
 refine ae.mono ?_
 rintro e w2 ⟨A1,c1,rfl,ax,ba,az,au⟩
 dsimp only at ax az
 clear c0
 obtain⟨ys,aR⟩:=ExY (av.set k (v-q))
 dsimp only
 rw[←aR] at ax az ⊢
 have am:=Hi aR
 have al:Hid (w2.ownsRow w.heap.size 3 1 (.slice A1 ys.length c1) ys.length (Zgs ys)):=Zap az s.size
 have L:=blT s au
 have ai:=Hi ax
 have ak:=Hi ba
 clear aR az au ax ba
 go_wp2_with fail
 refine(cloneL_any B m d (lcs l) w2 (lcs_one l) (by omega) ((bj.below L).mono L.size)).mono ?_
 rintro e w3 ⟨A2,c2,rfl,bG,bI,bc,aK⟩
 obtain⟨W4,af⟩:=ExY (w3.alloc (.cells #[I a,I k,I (h+q)] 72))
 obtain⟨bx,aL⟩:=ExY w3.heap.size
 have aV:=bkW af aL
 have aU:Hid (Bw w2 W4):=by rw[af];exact aK.alloc aK.size _
 have aI:Hid (W4.ownsRow w2.heap.size 72 3 (.slice A2 m c2) m (lcs l)):=by rw[af];exact bc.alloc _
 have a7:w2.heap.size≤W4.heap.size:=aU.size
 go_upto_region 15 with(fail)
 rw[←af,←aL]
 clear af aL bc aK
 have Y:=aV.three
 have Z:=Zfi A2 m c2 l ⟨a,k,h+q⟩ W4 a3 (by omega) (Rd.of_own aI)
 rw[Zkb l a k (h+q) 0,Zkt l a k (h+q) 0] at Z
 obtain⟨p,hp⟩:=ExY (place l ⟨a,k,0⟩)
 obtain⟨th,aN⟩:=ExY (thereB l ⟨a,k,0⟩)
 have aJ:=a3.place ⟨a,k,0⟩
 rw[←hp,←aN] at Z ab
 rw[←hp] at aJ
 have bK:p≤m:=by have:=aJ.1;have:=C.out;omega
 have bg:th=true→p<m:=fun ht=>by
  have e:=ht
  rw[aN] at e
  unfold thereB at e
  rw[←hp] at e
  simp only[Bool.and_eq_true,decide_eq_true_eq] at e
  have:=C.out
  omega
 have aC:=Hi Z
 clear Z hp aN aJ
 unfold Lc.val at aC
 go_wp2_with fail
 refine aC.mono ?_
 rintro e w5 ⟨rfl,aw⟩
 have aW:=bkN aV aw
 have aa:Hid (w5.ownsRow w2.heap.size 72 3 (.slice A2 m c2) m (lcs l)):=ZaF aI fun p hp=>aw.block _ (ZaP aI p hp).2
 have ad:Hid (Bw w2 w5):=aU.trans (aw.mono a7)
 clear Y aw
 have Y:=aW.three
 have ah:w.heap.size≤w2.heap.size:=L.size
 by_cases ht:th=true
 ·subst ht
  have be:=bg rfl
  obtain⟨g0,rfl⟩:∃g0,A2=some g0:=by
   rcases A2 with _|g0
   ·rcases aa.2 with⟨_,h0⟩|⟨_,_,_,hv,_⟩
    ·omega
    ·cases hv
   ·exact⟨g0,rfl⟩
  obtain⟨g,J,rfl,R,hB,ay,ac,X,E⟩:=ZcH aa
  obtain⟨m',rfl⟩:∃m',m=m'+1:=⟨m-1,by omega⟩
  by_cases hz:h+q=0
  ·have e:r=(ys,l.take p++l.drop (p+1),0):=by
    rw[ab.out,if_neg (by simp),am.out]
    unfold putL
    rw[if_pos hz,if_pos rfl]
    rfl
   subst e
   have bO:IntKind.i64.wrap ((p:Int)+1)=(p:Int)+1:=IntWalk.i64_in _ (by omega)
   have aD:=ZcL w2.heap.size g m' c2 p l J w5 R hB ay ac X C E be
   have aX:=Hi aD
   have z:(l.take p++l.drop (p+1)).length=m':=by rw[List.length_append,List.length_take,List.length_drop,C.out];omega
   have aH:=Hi z
   have bb:m'≤c2:=by omega
   clear aD hB X E z
   go_wp2_with fail
   refine aX.mono ?_
   rintro e w6 ⟨rfl,N,bo⟩
   clear Y
   go_wp2
   go_ret3
   have z:=aH.out
   rw[←z] at N ⊢
   exact Ze6 (er:=0) ai ak (by rw[z];exact bb) ac al (ad.trans bo) N ah L
  ·have e:r=(ys,l.take p++(⟨a,k,h+q⟩::l.drop (p+1)),0):=by
    rw[ab.out,if_neg (by simp),am.out]
    unfold putL
    rw[if_neg hz,if_pos rfl]
    rfl
   subst e
   have bJ:p*3+3≤J.size:=by omega
   have bH:=hB.lt
   obtain⟨_,y0⟩:∃v,w5.cell? ⟨g,p*3,none⟩=some v:=⟨_,by rw[hB.cell];exact Array.getElem?_eq_getElem (by omega)⟩
   obtain⟨_,y1⟩:∃v,w5.cell? ⟨g,p*3+1,none⟩=some v:=⟨_,by rw[hB.cell];exact Array.getElem?_eq_getElem (by omega)⟩
   obtain⟨_,y2⟩:∃v,w5.cell? ⟨g,p*3+2,none⟩=some v:=⟨_,by rw[hB.cell];exact Array.getElem?_eq_getElem (by omega)⟩
   have u0:=hB.frozen (p*3)
   have u1:=hB.frozen (p*3+1)
   have u2:=hB.frozen (p*3+2)
   have a4:Bk (((w5.setCell (Aq g (p*3)) (I a)).setCell (Aq g (p*3+1)) (I k)).setCell (Aq g (p*3+2)) (I (h+q))) g 72 (ow J (p*3) (Lc.cells ⟨a,k,h+q⟩)):=
    Bk.cells (Lc.cells ⟨a,k,h+q⟩) (p*3) hB
   have z:(l.take p++(⟨a,k,h+q⟩::l.drop (p+1)):List Lc).length=m'+1:=by rw[List.length_append,List.length_cons,List.length_take,List.length_drop,C.out];omega
   have aE:(((w5.setCell (Aq g (p*3)) (I a)).setCell (Aq g (p*3+1)) (I k)).setCell (Aq g (p*3+2)) (I (h+q))).ownsRow w2.heap.size 72 3 (.slice (some (Aq g 0)) (m'+1) c2) (m'+1) (lcs (l.take p++(⟨a,k,h+q⟩::l.drop (p+1)))):=by
    refine ZbO R a4 ay ac (by rw[Zbv];exact X) z ?_
    have aQ:(Lc.cells ⟨a,k,h+q⟩).length=3:=rfl
    have e0:J.toList.take (p*3)=lcs (l.take p):=by rw[←Zby,←E,List.take_take,Nat.min_eq_left (by omega)]
    have e1:lcs (l.take p++(⟨a,k,h+q⟩::l.drop (p+1)))=lcs (l.take p)++(Lc.cells ⟨a,k,h+q⟩++lcs (l.drop (p+1))):=by rw[lcs_append];rfl
    have e2:lcs (l.drop (p+1))=(J.toList.drop (p*3+3)).take ((m'+1)*3-(p*3+3)):=by
     rw[←Zb0,←E,List.drop_take,show(p+1)*3=p*3+3 by omega]
    have bB:(J.toList.take (p*3)).length=p*3:=by rw[List.length_take,Array.length_toList];omega
    have hX:(J.toList.take (p*3)++Lc.cells ⟨a,k,h+q⟩).length=p*3+3:=by rw[List.length_append,bB,aQ]
    rw[Zbu _ _ _ (by rw[aQ];omega),aQ,e1,←List.append_assoc,Zlw _ _ _ (by rw[hX];omega),hX,e2,e0,List.append_assoc]
   have aH:=Hi z
   have aZ:=Hi aE
   have bi:Hid (Bw w2 (((w5.setCell (Aq g (p*3)) (I a)).setCell (Aq g (p*3+1)) (I k)).setCell (Aq g (p*3+2)) (I (h+q)))):=
    Below.setCell (Below.setCell (Below.setCell ad (p:=Aq g (p*3)) R _) (p:=Aq g (p*3+1)) R _) (p:=Aq g (p*3+2)) R _
   have i5:(0:Int)≤(p:Int):=by omega
   have i6:(p:Int)<(m':Int)+1:=by omega
   clear hB a4 X E z aE
   go_wp2
   go_ret3
   have z:=aH.out
   have N:=aZ.out
   rw[←z] at N ⊢
   exact Ze6 (er:=0) ai ak (by rw[z];exact ay) ac al bi N ah L
 have bC:th=false:=by simpa using ht
 subst bC
 by_cases hz:h+q=0
 ·have e:r=(ys,l,0):=by
   rw[ab.out,if_neg (by omega),am.out]
   unfold putL
   rw[if_pos hz,if_neg (by simp),List.nil_append,List.take_append_drop]
  subst e
  obtain⟨_,_,ag,h5,h6⟩:=ZdX aa
  injection ag with hA2 _ ag
  subst hA2 ag
  go_wp2
  go_ret3
  have z:=C.out
  have N:=aa.out
  rw[←z] at N h5 ⊢
  exact Ze6 (er:=0) ai ak h5 h6 al ad N ah L
 by_cases bl:32≤m
 ·have e:r=([],[],40):=by rw[ab.out,if_pos ⟨rfl,hz,by rw[C.out];exact bl⟩]
  subst e
  have i5:(32:Int)≤(m:Int):=by omega
  go_wp2
  go_ret3
  exact Zdm 40 (L.trans (ad.mono ah))
 have e:r=(ys,l.take p++⟨a,k,h+q⟩::l.drop p,0):=by
  rw[ab.out,if_neg (by rw[C.out];omega),am.out]
  unfold putL
  rw[if_neg hz,if_neg (by simp)]
  rfl
 obtain⟨zs,aS⟩:=ExY (l.take p++(⟨a,k,h+q⟩:Lc)::l.drop p)
 rw[←aS] at e
 subst e
 have i5:¬((32:Int)≤(m:Int)):=by omega
 obtain⟨vb,bh⟩:=ExY w5.heap.size
 obtain⟨W6,aq⟩:=ExY (w5.alloc (.cells #[I a,I k,I (h+q)] 72))
 have ap:Bk W6 vb 72 #[I a,I k,I (h+q)]:=by rw[aq,bh];exact Bk.new _ _ _
 have ao:W6.ownsRow w2.heap.size 72 3 (.slice A2 m c2) m (lcs l):=by rw[aq];exact aa.alloc _
 have aG:=blA ad aq
 have aF:Calls prog 134 #[.slice A2 m c2,I p,.slice (some (Aq vb 0)) 1 1] W6 (ZcZ w2.heap.size W6 zs):=by
  rw[aS]
  by_cases bu:p=m
  ·have e1:l.take p=l:=List.take_of_length_le (by rw[C.out];omega)
   have e2:l.drop p=[]:=List.drop_eq_nil_of_le (by rw[C.out];omega)
   rw[e1,e2]
   subst bu
   exact Zdc w2.heap.size p c2 vb A2 l ⟨a,k,h+q⟩ W6 ao C (by omega) aG.size ap
  ·have bd:p<m:=by omega
   obtain⟨g0,rfl⟩:∃g0,A2=some g0:=by
    rcases A2 with _|g0
    ·rcases ao.2 with⟨_,h0⟩|⟨_,_,_,hv,_⟩
     ·omega
     ·cases hv
    ·exact⟨g0,rfl⟩
   obtain⟨g,J,rfl,R,hB,ay,ac,X,E⟩:=ZcH ao
   by_cases bq:c2=m
   ·subst bq
    exact ZcO w2.heap.size c2 p vb g l ⟨a,k,h+q⟩ J W6 aG.size hB X C E (by omega) bd ap
   ·refine Zcw w2.heap.size m c2 p vb g l ⟨a,k,h+q⟩ J W6 R hB (by omega) ac X C E bd ?_ ap
    intro bM
    have:=(aa.lt g rfl).2
    omega
 have a1:=Hi aF
 clear aF ao ap aS
 go_wp2_with fail
 rw[←aq,←bh]
 refine a1.mono ?_
 rintro e w7 ⟨A3,c3,rfl,h5,h6,bt,bp⟩
 clear Y
 have a8:Bw w2 w7:=aG.trans bp
 go_wp2
 go_ret3
 exact Ze6 (er:=0) ai ak h5 h6 al a8 bt ah L
end L
namespace L
theorem ZfH(q:Int)(w:World):Calls prog 183 #[I q] w fun e w'=>e=.returned (.bool (!fitsQ q))∧w'=w:=by
 obtain⟨r,hr⟩:=ExY (!fitsQ q)
 rw[←hr]
 have HR:=Hi hr
 clear hr
 go_enter func183,ntmps183
 by_cases h1:q<0
 ·have e:r=true:=by rw[HR.out];simp[fitsQ];omega
  subst e
  go_wp2
  go_ret
  exact⟨rfl,rfl⟩
 by_cases h2:1000000000<q
 ·have e:r=true:=by rw[HR.out];simp[fitsQ];omega
  subst e
  go_wp2
  go_ret
  exact⟨rfl,rfl⟩
 ·have e:r=false:=by rw[HR.out];simp[fitsQ];omega
  subst e
  go_wp2
  go_ret
  exact⟨rfl,rfl⟩
def Zmv(av:List Int)(r:Int):Prop:=(av.all fitsQ=true∧r<0)∨(av.all fitsQ=false∧0≤r)
theorem Zfs(A:Option Addr)(n c:Nat)(av:List Int)(w:World)(U:n≤maxLen)(E:Rd w w.heap.size 1 A n (Zgs av)):
 Calls prog 204 #[.slice A n c,.func (.func 183) #[] #[]] w fun e w'=>(∃r:Int,e=.returned (I r)∧Zmv av r)∧w'=w:=by
 have hl:av.length=n:=by have:=E.1;rw[Ze3] at this;omega
 have HL:=Hi hl
 have J:=Hi E
 clear hl E
 unfold maxLen at U
 go_enter func204,ntmps204
 go_wp2
 go_loopw [8] (fun v wr=>∃k:Nat,k≤n∧v=I k∧(av.take k).all fitsQ=true∧w=wr) (fun v _=>n-(intOf v).toNat)
 case atStart=>exact⟨0,Nat.zero_le _,rfl,rfl,rfl⟩
 case round=>
  obtain⟨k,hk,rfl,z,L⟩:=hrel
  subst L
  have HP:=Hi z
  clear z
  by_cases R:k<n
  ·have C:k<av.length:=by have:=HL.out;omega
   obtain⟨a0,hA,_,c0⟩:=J.int C
   obtain⟨v,hv⟩:=ExY (av[k])
   rw[←hv] at c0
   have HV:=Hi hv
   subst hA
   clear hv
   have i1:(k:Int)<(n:Int):=by omega
   have i2:(0:Int)≤(k:Int):=by omega
   have i3:IntKind.i64.wrap ((k:Int)+1)=(k:Int)+1:=IntWalk.i64_in _ (by omega)
   obtain⟨b,hb⟩:=ExY (!fitsQ v)
   have hu:=ZfH v w
   rw[←hb] at hu
   have HU:=Hi hu
   have G:=Hi hb
   clear hu hb
   go_wp2_with fail
   refine HU.mono ?_
   rintro e w' ⟨rfl,N⟩
   subst N
   cases b with
   |false=>
    go_wp2
    refine⟨⟨k+1,by omega,by push_cast;rfl,?_,by first|rfl|trivial⟩,by simp only[intOf];omega⟩
    have hf:fitsQ v=true:=by have:=G.out;simpa using this.symm
    rw[List.take_add_one,List.getElem?_eq_getElem C,List.all_append,HP.out,←HV.out]
    simp[hf]
   |true=>
    have hf:fitsQ v=false:=by have:=G.out;simpa using this.symm
    have s:av.all fitsQ=false:=by
     cases h:av.all fitsQ with
     |false=>rfl
     |true=>rw[HV.out,List.all_eq_true.1 h _ (List.getElem_mem C)] at hf;cases hf
    go_wp2
    go_ret
    exact⟨⟨k,rfl,.inr ⟨s,i2⟩⟩,rfl⟩
  ·have i3:¬((k:Int)<(n:Int)):=by omega
   have s:av.all fitsQ=true:=by
    have:=HP.out
    rwa [List.take_of_length_le (by have:=HL.out;omega)] at this
   go_wp2
   go_ret
   exact⟨⟨-1,rfl,.inl ⟨s,by omega⟩⟩,rfl⟩
theorem Zcu(A:Option Addr)(n c:Nat)(av:List Int)(w:World)(E:n≤maxLen)(z:Rd w w.heap.size 1 A n (Zgs av)):
 Calls prog 174 #[.slice A n c,.func (.func 183) #[] #[]] w fun e w'=>e=.returned (.bool (!av.all fitsQ))∧w'=w:=by
 obtain⟨b,hb⟩:=ExY (!av.all fitsQ)
 have hi:=Zfs A n c av w E z
 rw[←hb]
 have HI:=Hi hi
 have s:=Hi hb
 clear hi hb z
 go_enter func174,ntmps174
 go_wp2_with fail
 refine HI.mono ?_
 rintro e w' ⟨⟨r,rfl,hd⟩,C⟩
 subst C
 have HD:=Hi hd
 clear hd
 by_cases h0:0≤r
 ·have e:b=true:=by
   rcases HD.out with⟨_,h⟩|⟨h,_⟩
   ·omega
   ·rw[s.out,h];rfl
  subst e
  go_wp2
  go_ret
  exact⟨rfl,rfl⟩
 ·have e:b=false:=by
   rcases HD.out with⟨h,_⟩|⟨_,h⟩
   ·rw[s.out,h];rfl
   ·omega
  subst e
  go_wp2
  go_ret
  first
   |exact⟨rfl,rfl⟩
   |(refine⟨?_,rfl⟩;show Ending.returned (Value.bool (decide (0≤r)))=_;rw[decide_eq_false (by omega)])
def Zdb(a n:Int)(l:List Lc)(j:Nat):Bool:=tidyAt l j&&inAt a n l j
theorem Zkw(a n:Int)(l:List Lc)(k:Nat):ZcV (Zdb a n l) k=(ZcV (tidyAt l) k&&ZcV (inAt a n l) k):=by
 induction k with
 |zero=>rfl
 |succ k ih=>rw[Zcg,Zcg,Zcg,ih];unfold Zdb;cases ZcV (tidyAt l) k<;>cases ZcV (inAt a n l) k<;>cases tidyAt l k<;>cases inAt a n l k<;>rfl
theorem Zk4(av:List Int)(l:List Lc)(a n:Int):goodB av l a n=(decide ((av.length:Int)=n∧l.length≤32)&&(av.all fitsQ&&ZcV (Zdb a n l) l.length)):=by
 unfold goodB tidyB
 rw[Zkw]
 cases av.all fitsQ<;>cases ZcV (tidyAt l) l.length<;>cases ZcV (inAt a n l) l.length<;>rfl
theorem ZcK(E G:Int)(l:List Lc)(j:Nat)(z C s:Int)(J:l.getD j default=⟨z,C,s⟩)(h:¬(2≤z∧z<E∧0≤C∧C<G∧s≠0∧0≤s∧s≤1000000000)):Zdb E G l j=false:=by
 unfold Zdb tidyAt inAt
 rw[J]
 dsimp only
 by_cases h1:0≤s∧s≤1000000000
 ·rw[decide_eq_false (show ¬(2≤z∧z<E∧0≤C∧C<G∧s≠0) by omega),Bool.and_false]
 ·have e:fitsQ s=false:=decide_eq_false h1
  rw[e]
  rfl
theorem good_any(A B:Option Addr)(n c m d:Nat)(av:List Int)(l:List Lc)(J E:Int)(w:World)(hn:n≤maxLen)(hm:m≤maxLen)(ag:Rd w w.heap.size 1 A n (Zgs av))(ah:Rd w w.heap.size 3 B m (lcs l)):
 Calls prog 143 #[.slice A n c,.slice B m d,I J,I E] w fun e w'=>e=.returned (.bool (goodB av l J E))∧Bw w w':=by
 have hl:av.length=n:=by have:=ag.1;rw[Ze3] at this;omega
 have ay:l.length=m:=by have:=ah.1;rw[lcs_len] at this;omega
 obtain⟨r,hr⟩:=ExY (goodB av l J E)
 rw[←hr]
 rw[Zk4] at hr
 have HR:=Hi hr
 have aj:=Hi hl
 have G:=Hi ay
 have aD:=Hi ag
 have al:=Hi ah
 clear hr hl ay ag ah
 unfold maxLen at hn hm
 go_enter func143,ntmps143
 by_cases h1:(n:Int)=E
 case neg=>
  have e:r=false:=by rw[HR.out,aj.out,decide_eq_false (fun h=>h1 h.1)];rfl
  subst e
  go_wp2
  go_ret
  exact⟨rfl,Below.refl _ _⟩
 by_cases h2:32<m
 ·have e:r=false:=by rw[HR.out,G.out,decide_eq_false (fun h=>by omega)];rfl
  subst e
  have i1:(32:Int)<(m:Int):=by omega
  go_wp2
  go_ret
  exact⟨rfl,Below.refl _ _⟩
 have i1:¬((32:Int)<(m:Int)):=by omega
 have aA:Hid (r=(av.all fitsQ&&ZcV (Zdb J E l) l.length)):=Hi (by rw[HR.out,aj.out,G.out,decide_eq_true ⟨h1,by omega⟩];rfl)
 go_wp2_with fail
 refine(Zcu A n c av w (by unfold maxLen;omega) aD).mono ?_
 rintro e w1 ⟨rfl,aF⟩
 subst aF
 by_cases ha:av.all fitsQ=true
 case neg=>
  have an:av.all fitsQ=false:=by simpa using ha
  have e:r=false:=by rw[aA.out,an];rfl
  subst e
  rw[an]
  go_wp2
  go_ret
  exact⟨rfl,Below.refl _ _⟩
 have aB:Hid (r=ZcV (Zdb J E l) l.length):=Hi (by rw[aA.out,ha];rfl)
 rw[ha]
 clear ha
 rename World=>w
 have aC:Hid (Bw w w):=Below.refl _ _
 have az:∀j,j<m→Zdb J E l j=false→r=false:=fun j hj h=>by rw[aB.out];exact Zd0 (by have:=G.out;omega) h
 have z:=Hi az
 clear az
 go_wp2
 go_loopw [26] (fun v wr=>∃k:Nat,k≤m∧v=I k∧ZcV (Zdb J E l) k=true∧Bw w wr) (fun v _=>m-(intOf v).toNat)
 case atStart=>exact⟨0,Nat.zero_le _,rfl,rfl,aC⟩
 case round=>
  obtain⟨j,hj,rfl,Y,ap⟩:=hrel
  rename World=>V2
  have ak:=Hi Y
  have aa:=Hi ap
  clear Y ap
  by_cases C:j<m
  ·have ax:j<l.length:=by have:=G.out;omega
   obtain⟨a0,hA,_,c0,c1,c2⟩:=(al.below aa).loc ax
   obtain⟨⟨xa,xi,xq⟩,hx⟩:∃x,x=l[j]:=⟨_,rfl⟩
   rw[←hx] at c0 c1 c2
   have HX:Hid (l.getD j default=⟨xa,xi,xq⟩):=by rw[hx];exact Zaf ax
   dsimp only at c0 c1 c2
   subst hA
   clear hx
   have i1:(j:Int)<(m:Int):=by omega
   have i2:(0:Int)≤(j:Int):=by omega
   have i4:IntKind.i64.wrap ((j:Int)+1)=(j:Int)+1:=IntWalk.i64_in _ (by omega)
   obtain⟨V3,R⟩:=ExY (V2.alloc (.cells #[I xa,I xi,I xq] 72))
   obtain⟨bx,af⟩:=ExY V2.heap.size
   have ad:=bkW R af
   have s:=blA aa R
   go_upto_region 6 with(fail)
   rw[←R,←af]
   clear R af c0 c1 c2
   have aG:=ad.three
   have Z:Zdb J E l j=true→ZcV (Zdb J E l) (j+1)=true:=fun h=>by rw[Zcg,ak.out,h];rfl
   have U:=Hi Z
   clear Z
   by_cases k0:xa≤1
   ·have e:r=false:=z.out j C (ZcK _ _ _ _ _ _ _ HX (by omega))
    subst e
    go_wp2
    go_ret
    exact⟨rfl,s⟩
   by_cases k1:J≤xa
   ·have e:r=false:=z.out j C (ZcK _ _ _ _ _ _ _ HX (by omega))
    subst e
    go_wp2
    go_ret
    exact⟨rfl,s⟩
   by_cases k2:xi<0
   ·have e:r=false:=z.out j C (ZcK _ _ _ _ _ _ _ HX (by omega))
    subst e
    go_wp2
    go_ret
    exact⟨rfl,s⟩
   by_cases k3:E≤xi
   ·have e:r=false:=z.out j C (ZcK _ _ _ _ _ _ _ HX (by omega))
    subst e
    go_wp2
    go_ret
    exact⟨rfl,s⟩
   by_cases k4:xq<1
   ·have e:r=false:=z.out j C (ZcK _ _ _ _ _ _ _ HX (by omega))
    subst e
    go_wp2
    go_ret
    exact⟨rfl,s⟩
   by_cases k5:1000000000<xq
   ·have e:r=false:=z.out j C (ZcK _ _ _ _ _ _ _ HX (by omega))
    subst e
    go_wp2
    go_ret
    exact⟨rfl,s⟩
   have hb:∀o,ZbY l j=o→Zdb J E l j=o:=fun o ho=>by
    unfold Zdb tidyAt inAt
    rw[ho,HX.out]
    have e1:fitsQ xq=true:=by simp[fitsQ];omega
    dsimp only
    rw[e1,decide_eq_true (by omega),Bool.true_and,Bool.and_true]
   have ab:=Hi hb
   clear hb
   rcases j with _|j
   ·simp only[Int.natCast_zero] at *
    go_upto_region 8 with(fail)
    go_quiet (fail)
    go_wp2
    exact⟨⟨1,by omega,rfl,U.out (ab.out true (by simp[ZbY])),⟨s.os,s.tape,s.out.output,s.size,s.block⟩⟩,by simp only[intOf];omega⟩
   have aw:j<l.length:=by omega
   obtain⟨a1,am,_,d0,d1,d2⟩:=(al.below s).loc aw
   have e1:a1=a0:=(Option.some.inj am).symm
   subst e1
   obtain⟨⟨ya,yi,yq⟩,hy⟩:∃y,y=l[j]:=⟨_,rfl⟩
   rw[←hy] at d0 d1 d2
   have HY:Hid (l.getD j default=⟨ya,yi,yq⟩):=by rw[hy];exact Zaf aw
   dsimp only at d0 d1 d2
   clear hy am
   have N:Hid (ZbY l (j+1)=decide (ZaN ⟨ya,yi,yq⟩ ⟨xa,xi,xq⟩<0)):=by
    unfold ZbY
    rw[Nat.add_sub_cancel,HX.out,HY.out]
    exact decide_eq_decide.2 (by omega)
   obtain⟨cr,au⟩:=ExY (ZaN ⟨ya,yi,yq⟩ ⟨xa,xi,xq⟩)
   have L:∀W',_:=fun W'=>Zdz ⟨ya,yi,yq⟩ ⟨xa,xi,xq⟩ W'
   unfold Lc.val at L
   dsimp only at L
   rw[←au] at L N
   have ai:=Hi L
   clear L au
   have j1:(0:Int)<(j:Int)+1:=by omega
   have j2:IntKind.i64.wrap ((j:Int)+1-1)=(j:Int):=by rw[Int.add_sub_cancel];exact IntWalk.i64_in _ (by omega)
   have j3:(0:Int)≤(j:Int):=by omega
   have j4:(j:Int)<(m:Int):=by omega
   have j5:(j:Int)+1-1=(j:Int):=by omega
   have j6:IntKind.i64.wrap (j:Int)=(j:Int):=IntWalk.i64_in _ (by omega)
   have l0:=World.block_lt_of_cell? _ _ d0
   have l1:=World.block_lt_of_cell? _ _ d1
   have l2:=World.block_lt_of_cell? _ _ d2
   have HS:Hid (∀w',Bw V3 w'→(fun w'=>Bw V3 w'∧w'.cell? (Aq bx 0)=some (I xa)∧w'.cell? (Aq bx 1)=some (I xi)∧w'.cell? (Aq bx 2)=some (I xq)∧w'.cell? (a1.add (j*3))=some (I ya)∧w'.cell? ⟨(a1.add (j*3)).block,(a1.add (j*3)).off+1,none⟩=some (I yi)∧w'.cell? ⟨(a1.add (j*3)).block,(a1.add (j*3)).off+2,none⟩=some (I yq)) w'):=fun w' hw=>by
    have a:=(ad.below hw ad.lt).three
    exact⟨hw,a.1,a.2.1,a.2.2.1,(hw.cell l0).trans d0,(hw.cell l1).trans d1,(hw.cell l2).trans d2⟩
   have X:=s.size
   go_upto_region 8 with(fail)
   go_region_held (fun w'=>Bw V3 w'∧w'.cell? (Aq bx 0)=some (I xa)∧w'.cell? (Aq bx 1)=some (I xi)∧w'.cell? (Aq bx 2)=some (I xq)∧w'.cell? (a1.add (j*3))=some (I ya)∧w'.cell? ⟨(a1.add (j*3)).block,(a1.add (j*3)).off+1,none⟩=some (I yi)∧w'.cell? ⟨(a1.add (j*3)).block,(a1.add (j*3)).off+2,none⟩=some (I yq))
    (first
     |with_reducible assumption
     |(refine HS.out _ ?_;first|with_reducible exact ae.out|with_reducible exact(Below.refl _ _).drew))
    (first
     |(go_at_call 132;refine(ai.out _).mono ?_;rintro e w2 ⟨rfl,ao⟩;obtain⟨hB,-⟩ := ‹Bw V3 _∧_›;have ae:Hid (Bw V3 w2):=hB.trans (ao.mono hB.size);clear ao hB))
   all_goals
    by_cases aq:cr<0
    ·have ho:ZbY l (j+1)=true:=by rw[N.out];exact decide_eq_true aq
     go_wp2
     exact⟨⟨j+1+1,by omega,by push_cast;rfl,U.out (ab.out true ho),s.trans (ae.mono X)⟩,by simp only[intOf];omega⟩
    ·have ho:ZbY l (j+1)=false:=by rw[N.out];exact decide_eq_false aq
     have e:r=false:=z.out (j+1) C (ab.out false ho)
     subst e
     go_wp2
     go_ret
     exact⟨rfl,s.trans (ae.mono X)⟩
  ·have i5:¬((j:Int)<(m:Int)):=by omega
   have aE:j=m:=by omega
   have e:r=true:=by rw[aB.out,G.out,←aE,ak.out]
   subst e
   go_wp2
   go_ret
   exact⟨rfl,aa⟩
end L
end Go.Proofs.YtdefojlkofnloaaGreatDoor
