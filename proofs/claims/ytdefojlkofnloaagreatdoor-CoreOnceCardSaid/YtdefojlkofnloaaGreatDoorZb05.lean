/- A part of the proof of CoreOnce: for every input, no condition. -/
import Derived.Test.YtdefojlkofnloaaGreatDoorZb01
import Derived.BigQuiet
import Derived.Deep.CutBlock
import Derived.Deep.CutRange
import Derived.Deep.DeepCutAuto
import Derived.Deep.DeepMust
import Derived.Deep.QuietTactic
import Derived.Deep.RegionHeld3
import Derived.Laws.Externs
import Derived.Laws.IdiomCopy
import Derived.Lib.AppendZerosOnto
import Derived.Lib.Hide
import Derived.Lib.Overlaps
import Derived.Lib.SliceRun
import Derived.Shelf.RegionOpenPlain
import Derived.StillTailTactics
set_option maxRecDepth 100000
set_option maxHeartbeats 8000000
set_option linter.unusedVariables false
set_option linter.unusedSimpArgs false
namespace Go.Proofs.YtdefojlkofnloaaGreatDoor
open Go.RowKit Go.Proofs.Tryz
section
theorem Zbs(x:Int)(w:World):Calls prog 192 #[I x] w fun e w'=>e=.returned (.bool false)∧w'=w:=by
 go_enter func192,ntmps192
 go_wp2
 go_ret
 exact⟨rfl,rfl⟩
theorem Zdh(x y:Int)(w:World):Calls prog 157 #[I x,I y] w fun e w'=>e=.returned (I (Zdq x y))∧w'=w:=by
 by_cases h1:x<y
 ·have e:Zdq x y = -1:=by unfold Zdq;rw[if_pos h1]
  rw[e]
  go_enter func157,ntmps157
  go_wp2_with fail
  refine(Zbs x w).mono ?_
  rintro e w' ⟨rfl,rfl⟩
  go_wp2_with fail
  refine(Zbs y _).mono ?_
  rintro e w' ⟨rfl,rfl⟩
  go_wp2
  go_ret
  exact⟨rfl,rfl⟩
 by_cases h2:y<x
 ·have e:Zdq x y=1:=by unfold Zdq;rw[if_neg h1,if_pos h2]
  rw[e]
  go_enter func157,ntmps157
  go_wp2_with fail
  refine(Zbs x w).mono ?_
  rintro e w' ⟨rfl,rfl⟩
  go_wp2_with fail
  refine(Zbs y _).mono ?_
  rintro e w' ⟨rfl,rfl⟩
  go_wp2
  go_ret
  exact⟨rfl,rfl⟩
 ·have e:Zdq x y=0:=by unfold Zdq;rw[if_neg h1,if_neg h2]
  rw[e]
  go_enter func157,ntmps157
  go_wp2_with fail
  refine(Zbs x w).mono ?_
  rintro e w' ⟨rfl,rfl⟩
  go_wp2_with fail
  refine(Zbs y _).mono ?_
  rintro e w' ⟨rfl,rfl⟩
  go_wp2
  go_ret
  exact⟨rfl,rfl⟩
theorem Zis(g:Nat)(a b r:Int)(w:World)(s:r=if a≠0 then a else b)(z:w.cell? (Aq g 0)=some (I a))(C:w.cell? (Aq g 1)=some (I b)):
 Calls prog 156 #[.slice (some (Aq g 0)) 2 2] w fun e w'=>e=.returned (I r)∧w'=w:=by
 rw[s]
 clear s
 go_enter func156,ntmps156
 by_cases ha:a=0
 ·subst ha
  rw[if_neg (by simp)]
  by_cases hb:b=0
  ·subst hb
   go_wp2
   refine wp_loop_rounds 3 ?_
   rw[rounds_succ]
   go_wp2
   rw[rounds_succ]
   go_wp2
   rw[rounds_succ]
   go_wp2
   go_ret
   exact⟨rfl,rfl⟩
  ·go_wp2
   refine wp_loop_rounds 2 ?_
   rw[rounds_succ]
   go_wp2
   rw[rounds_succ]
   go_wp2
   go_ret
   exact⟨rfl,rfl⟩
 ·rw[if_pos ha]
  go_wp2
  refine wp_loop_rounds 1 ?_
  rw[rounds_succ]
  go_wp2
  go_ret
  exact⟨rfl,rfl⟩
section
variable {P:Program}
theorem ZcW(w:World){o:Oper}{a:Act}{K:Act→World→Prop}{Q:Exit→Act→World→Prop}(d s:Operand)(t t':TypeId)(E:o.op=.call {callee:=.builtin .copy,args:=#[d,s],argTypes:=#[t,t']})(v u:Value)(C:a.eval d=v)(J:a.eval s=u){z:Value}{w':World}(G:(Builtin.copy_ #[t,t'] o.type #[v,u]).run P w=.ok z w')(h:K (a.put o.dst z) w'):o.wp P a w K Q:=by
 unfold Oper.wp execOp
 simp only[E,resolve,invoke,builtin,Sem.run_bind,Sem.run_pure,Result.andThen_ok,List.map_toArray,List.map_cons,List.map_nil,C,J,G]
 exact h
theorem Zbg(w:World){ops:Array Oper}{rest:List Oper}{o:Oper}{a:Act}{Q:Exit→Act→World→Prop}(z:o.guard=none)(d s:Operand)(t t':TypeId)(G:o.op=.call {callee:=.builtin .copy,args:=#[d,s],argTypes:=#[t,t']})(v u:Value)(E:a.eval d=v)(L:a.eval s=u){C:Value}{w':World}(J:(Builtin.copy_ #[t,t'] o.type #[v,u]).run P w=.ok C w')(h:wpList P ops Q rest (a.put o.dst C) w'):wpList P ops Q (o::rest) a w:=
 wpList_plain z fun _ hK=>ZcW w d s t t' G v u E L J (hK _ _ h)
theorem ZbB{ops:Array Oper}{o:Oper}{a:Act}{w:World}{K:Act→World→Prop}{Q:Exit→Act→World→Prop}{E:Prop}(G:o.guard=none)(d x:Operand)(t t':TypeId)(s:o.op=.call {callee:=.builtin .copy,args:=#[d,x],argTypes:=#[t,t']})(v u:Value)(C:a.eval d=v)(L:a.eval x=u){z:Value}{w':World}(J:(Builtin.copy_ #[t,t'] o.type #[v,u]).run P w=.ok z w')(hK:K (a.put o.dst z) w'):if Region.wanted o (yielded ops a.tmps)=true then Oper.wp P o a w K Q else E:=by
 have hw:Region.wanted o (yielded ops a.tmps)=true:=by simp[Region.wanted,G]
 rw[if_pos hw]
 exact ZcW w d x t t' s v u C L J hK
end
theorem Zdn{w:World}{g:Nat}{t:TypeId}{cs:Array Value}(h:Bk w g t cs):w.shape? g=some (t,cs.size):=by
 unfold Bk at h
 simp[World.shape?,h]
theorem Zgq:(prog.info? 3).map (fun i=>(i.zero,i.size,i.bytes))=some (some (I 0),1,8):=by kernel_rfl
end
namespace O
theorem info45:(prog.info? 45).map (fun i=>(i.zero,i.size,i.bytes))=some (some (.agg #[I 0,I 0,I 0,I 0,I 0]),5,40):=by kernel_rfl
theorem Zdz(x y:Lc)(w:World):Calls prog 147 #[x.val,y.val] w fun e w'=>e=.returned (I (ZaN x y))∧Bw w w':=by
 obtain⟨W,hW⟩:=ExY ((w.alloc (.cells #[I x.acct,I x.id,I x.instr,I x.qty,I x.price] 45)).alloc (.cells #[I y.acct,I y.id,I y.instr,I y.qty,I y.price] 45))
 have E:Bk W w.heap.size 45 #[I x.acct,I x.id,I x.instr,I x.qty,I x.price]:=by rw[hW];exact(Bk.new w _ _).alloc _
 have G:Bk W (w.heap.size+1) 45 #[I y.acct,I y.id,I y.instr,I y.qty,I y.price]:=by
  rw[hW];have:=Bk.new (w.alloc (.cells #[I x.acct,I x.id,I x.instr,I x.qty,I x.price] 45)) 45 #[I y.acct,I y.id,I y.instr,I y.qty,I y.price];simpa using this
 have s:Bw w W:=by rw[hW];exact((Below.refl _ w).alloc (Nat.le_refl _) _).alloc (by simp) _
 have hz:w.heap.size≤W.heap.size:=s.size
 have z:=Hi E
 have C:=Hi G
 have J:=Hi s
 obtain⟨r,hr⟩:=ExY (ZaN x y)
 have HR:=Hi hr
 rw[←hr]
 clear E G s hr
 unfold Lc.val
 go_enter func147,ntmps147
 go_upto_region 1 with(fail)
 rw[←hW]
 clear hW
 have HS:Hid (∀w',Bw W w'→(fun w'=>Bw W w'∧w'.cell? ⟨w.heap.size,0,none⟩=some (I x.acct)∧w'.cell? ⟨w.heap.size,1,none⟩=some (I x.id)∧w'.cell? ⟨w.heap.size+1,0,none⟩=some (I y.acct)∧w'.cell? ⟨w.heap.size+1,1,none⟩=some (I y.id)) w'):=fun w' h=>by
  have a:=(z.below h z.lt).five
  have b:=(C.below h C.lt).five
  exact⟨h,a.1,a.2.1,b.1,b.2.1⟩
 go_region_held3 (fun w'=>Bw W w'∧w'.cell? ⟨w.heap.size,0,none⟩=some (I x.acct)∧w'.cell? ⟨w.heap.size,1,none⟩=some (I x.id)∧w'.cell? ⟨w.heap.size+1,0,none⟩=some (I y.acct)∧w'.cell? ⟨w.heap.size+1,1,none⟩=some (I y.id))
  (first
   |with_reducible assumption
   |(refine HS.out _ ?_;repeat (first|with_reducible exact Below.refl _ _|with_reducible refine Below.drew ?_|with_reducible refine Below.alloc ?_ (Nat.le_refl _) _)))
  (first
   |(go_at_call 157;refine(Zdh _ _ _).mono ?_;rintro e w' ⟨rfl,rfl⟩)
   |(go_at_call 156;refine(Zis _ (Zdq x.acct y.acct) (Zdq x.id y.id) r _ HR (by simp) (by simp)).mono ?_;rintro e w' ⟨rfl,rfl⟩))
 all_goals
  go_wp2
  go_ret
  refine⟨rfl,J.trans (Below.mono (B:=W.heap.size) ?_ hz)⟩
  repeat (first|with_reducible exact Below.refl _ _|with_reducible refine Below.drew ?_|with_reducible refine Below.alloc ?_ (Nat.le_refl _) _)
theorem cloneL_any(A:Option Addr)(n c:Nat)(xs:List Value)(w:World)(C:∀u∈xs,u.oneCell'=true)(Y:n*40≤140737488355328)(J:Rd w w.heap.size 5 A n xs):
 Calls prog 17 #[.slice A n c] w fun r w'=>∃A' c',r=.returned (.slice A' n c')∧n≤c'∧c'≤maxLen∧w'.ownsRow w.heap.size 45 5 (.slice A' n c') n xs∧Bw w w':=by
 have hk:=fun W=>Lib.run_eql_slice_nil (P:=prog) W 25 45 A n c 0 0 underlying25
 obtain⟨i0,hi,N,R,U⟩:=info_parts info45
 rcases A with _|a
 ·have h0:n=0:=by
   rcases Nat.eq_zero_or_pos n with h0|h0
   ·exact h0
   ·obtain⟨_,h,_⟩:=J.2 h0
    cases h
  subst h0
  have hs:xs=[]:=List.eq_nil_of_length_eq_zero (by simpa using J.1)
  subst hs
  go_enter func17,ntmps17
  go_wp2
  go_ret
  exact⟨none,0,rfl,Nat.le_refl _,Nat.zero_le _,World.ownsRow_nil _ _ _ _,Below.refl _ _⟩
 ·have z:(w.alloc (.cells #[] 45)).ownsRow w.heap.size 45 5 (.slice (some ⟨w.heap.size,0,none⟩) 0 0) 0 []:=⟨by simp,.inr ⟨w.heap.size,0,#[],rfl,Nat.le_refl _,Bk.new _ _ _,Nat.le_refl _,Nat.zero_le _,by simp,by simp⟩⟩
  have L:Rd (w.alloc (.cells #[] 45)) w.heap.size 5 (some a) n xs:=J.alloc (Nat.le_refl _) _
  go_enter func17,ntmps17
  go_wp2_with (at_builtin;go_must (refine Zan _ rfl (.tmp 5) (.tmp 6) _ rfl w.heap.size 45 i0 _ 5 40 underlying25 hi N R U rfl (by omega) _ 0 [] rfl z w.heap.size (some a) n c _ rfl L C (by simp only[maxLen];omega) (by omega) (by simp) ?_);intro A1 c1 w1 h1 h2 s E X)
  go_ret
  refine⟨A1,c1,by simp,by omega,h2,by simpa using s,((Below.refl w.heap.size w).alloc (Nat.le_refl _) _).grown E (by simp) ?_⟩
  intro k G
  exact Nat.le_of_eq (Option.some.inj G)
end O
namespace O
theorem Zfi(A:Option Addr)(n c:Nat)(l:List Lc)(x:Lc)(w:World)(hs:Sorted l)(hn:n*40≤140737488355328)(hr:Rd w w.heap.size 5 A n (lcs l)):
 Calls prog 146 #[.slice A n c,x.val,.func (.func 147) #[] #[]] w fun e w'=>e=.returned (.tuple #[I (place l x:Nat),.bool (thereB l x)])∧Below w.heap.size w w':=by
 have hl:l.length=n:=by have:=hr.1;rw[lcs_len] at this;omega
 obtain⟨W,hW⟩:=ExY (w.alloc (.cells #[I x.acct,I x.id,I x.instr,I x.qty,I x.price] 45))
 have L:Hid (Bk W w.heap.size 45 #[I x.acct,I x.id,I x.instr,I x.qty,I x.price]):=by rw[hW];exact Bk.new _ _ _
 have ae:=blB hW
 have ah:Hid (Rd W w.heap.size 5 A n (lcs l)):=by rw[hW];exact hr.alloc (Nat.le_refl _) _
 obtain⟨b,hb⟩:=ExY w.heap.size
 obtain⟨pl,ai⟩:=ExY (place l x)
 obtain⟨th,aj⟩:=ExY (thereB l x)
 have ag:=Hi ai
 have ap:=Hi aj
 have HL:=Hi hl
 have ao:=Hi hs
 rw[←ai,←aj]
 rw[←hb] at L ae ah
 have ak:=Hi hb
 clear hr hl hs ai aj
 unfold Lc.val
 go_enter func146,ntmps146
 go_wp2
 rw[←hW,←hb]
 clear hW hb
 go_loopw [9,10] (fun vi vj wr=>∃i j:Nat,vi=I i∧vj=I j∧i≤j∧j≤n∧(∀m,m<i→ZaN (l.getD m default) x<0)∧(∀m,j≤m→m<n→¬ZaN (l.getD m default) x<0)∧Below W.heap.size W wr) (fun vi vj _=>(intOf vj-intOf vi).toNat)
 case atStart=>exact⟨0,n,rfl,rfl,Nat.zero_le _,Nat.le_refl _,fun m hm=>absurd hm (Nat.not_lt_zero _),fun m h1 h2=>absurd h2 (by omega),Below.refl _ _⟩
 case round=>
  obtain⟨i,j,rfl,rfl,ay,ax,ad,ab,R⟩:=hrel
  have am:=Hi ad
  have al:=Hi ab
  have HB:=Hi R
  clear ad ab R
  rename World=>V
  by_cases az:i<j
  ·have i1:(i:Int)<(j:Int):=by omega
   have i2:IntKind.i64.wrap ((i:Int)+(j:Int))=(i:Int)+(j:Int):=IntWalk.i64_in _ (by omega)
   go_upto_region 5 with(fail)
   obtain⟨h,hh⟩:∃h:Nat,(h:Int)=((i:Int)+(j:Int))/2:=⟨(i+j)/2,by omega⟩
   rw[←hh]
   have h1:i≤h:=by omega
   have h2:h<j:=by omega
   clear hh i2
   have U:h<l.length:=by have:=HL.out;omega
   have Z:b≤W.heap.size:=Nat.le_of_lt L.lt
   obtain⟨a0,hA,aw,c0,c1,c2,c3,c4⟩:=rd_loc (ah.below (HB.mono Z)) U
   subst hA
   obtain⟨⟨z,C,E,J,G⟩,hy⟩:∃y,y=l[h]:=⟨_,rfl⟩
   rw[←hy] at c0 c1 c2 c3 c4
   have HY:Hid (l.getD h default=⟨z,C,E,J,G⟩):=by rw[hy];exact Zaf U
   dsimp only at c0 c1 c2 c3 c4
   clear hy
   obtain⟨r,X⟩:=ExY (ZaN ⟨z,C,E,J,G⟩ x)
   have s:∀W':World,_:=fun W'=>Zdz ⟨z,C,E,J,G⟩ x W'
   unfold Lc.val at s
   dsimp only at s
   rw[←X] at s
   have af:=Hi s
   have an:=Hi X
   clear s X
   have N:Hid (Bk V b 45 #[I x.acct,I x.id,I x.instr,I x.qty,I x.price]):=L.below HB L.lt
   have ac:=HB.size
   have l0:=World.block_lt_of_cell? _ _ c0
   have l1:=World.block_lt_of_cell? _ _ c1
   have l2:=World.block_lt_of_cell? _ _ c2
   have l3:=World.block_lt_of_cell? _ _ c3
   have l4:=World.block_lt_of_cell? _ _ c4
   have HS:Hid (∀w',Below V.heap.size V w'→(fun w'=>Below V.heap.size V w'∧w'.cell? (Aq b 0)=some (I x.acct)∧w'.cell? (Aq b 1)=some (I x.id)∧w'.cell? (Aq b 2)=some (I x.instr)∧w'.cell? (Aq b 3)=some (I x.qty)∧w'.cell? (Aq b 4)=some (I x.price)∧w'.cell? (a0.add (h*5))=some (I z)∧w'.cell? ⟨(a0.add (h*5)).block,(a0.add (h*5)).off+1,none⟩=some (I C)∧w'.cell? ⟨(a0.add (h*5)).block,(a0.add (h*5)).off+2,none⟩=some (I E)∧w'.cell? ⟨(a0.add (h*5)).block,(a0.add (h*5)).off+3,none⟩=some (I J)∧w'.cell? ⟨(a0.add (h*5)).block,(a0.add (h*5)).off+4,none⟩=some (I G)) w'):=fun w' hw=>by
    have a:=(N.below hw N.lt).five
    exact⟨hw,a.1,a.2.1,a.2.2.1,a.2.2.2.1,a.2.2.2.2.1,(hw.cell l0).trans c0,(hw.cell l1).trans c1,(hw.cell l2).trans c2,(hw.cell l3).trans c3,(hw.cell l4).trans c4⟩
   have j1:(0:Int)≤(h:Int):=by omega
   have j2:(h:Int)<(n:Int):=by omega
   have j3:IntKind.i64.wrap ((h:Int)+1)=(h:Int)+1:=IntWalk.i64_in _ (by omega)
   go_region_held (fun w'=>Below V.heap.size V w'∧w'.cell? (Aq b 0)=some (I x.acct)∧w'.cell? (Aq b 1)=some (I x.id)∧w'.cell? (Aq b 2)=some (I x.instr)∧w'.cell? (Aq b 3)=some (I x.qty)∧w'.cell? (Aq b 4)=some (I x.price)∧w'.cell? (a0.add (h*5))=some (I z)∧w'.cell? ⟨(a0.add (h*5)).block,(a0.add (h*5)).off+1,none⟩=some (I C)∧w'.cell? ⟨(a0.add (h*5)).block,(a0.add (h*5)).off+2,none⟩=some (I E)∧w'.cell? ⟨(a0.add (h*5)).block,(a0.add (h*5)).off+3,none⟩=some (I J)∧w'.cell? ⟨(a0.add (h*5)).block,(a0.add (h*5)).off+4,none⟩=some (I G))
    (first
     |with_reducible assumption
     |(refine HS.out _ ?_;first|with_reducible exact Y.out|with_reducible exact(Below.refl _ _).drew))
    (first
     |(go_at_call 147;refine(af.out _).mono ?_;rintro e w2 ⟨rfl,aa⟩;obtain⟨hB,-⟩ := ‹Below V.heap.size V _∧_›;have Y:Hid (Below V.heap.size V w2):=hB.trans (aa.mono hB.size);clear aa hB))
   all_goals
    by_cases au:r<0
    ·go_wp2
     refine⟨⟨h+1,j,by push_cast;rfl,rfl,by omega,ax,fun m hm=>?_,fun m h3 h4=>by have:=al.out m h3 h4;omega,HB.trans (Y.mono ac)⟩,by simp only[intOf];omega⟩
     refine ao.low (Nat.le_of_lt_succ hm) U ?_
     rw[HY.out,←an.out]
     exact au
    ·go_wp2
     refine⟨⟨i,h,rfl,rfl,h1,by omega,am,fun m hm aA=>?_,HB.trans (Y.mono ac)⟩,by simp only[intOf];omega⟩
     refine ao.high hm (by have:=HL.out;omega) ?_
     rw[HY.out,←an.out]
     exact au
  ·have aq:i=j:=by omega
   subst aq
   have hp:pl=i:=by
    rw[ag.out]
    exact Zcq (by have:=HL.out;omega) am fun m h1 h2=>by have:=al.out m h1 (by have:=HL.out;omega);omega
   subst hp
   have i1:¬((pl:Int)<(pl:Int)):=by omega
   by_cases aC:pl<n
   ·have U:pl<l.length:=by have:=HL.out;omega
    have Z:b≤W.heap.size:=Nat.le_of_lt L.lt
    obtain⟨a0,hA,aw,c0,c1,c2,c3,c4⟩:=rd_loc (ah.below (HB.mono Z)) U
    subst hA
    obtain⟨⟨z,C,E,J,G⟩,hy⟩:∃y,y=l[pl]:=⟨_,rfl⟩
    rw[←hy] at c0 c1 c2 c3 c4
    have HY:Hid (l.getD pl default=⟨z,C,E,J,G⟩):=by rw[hy];exact Zaf U
    dsimp only at c0 c1 c2 c3 c4
    clear hy
    obtain⟨r,X⟩:=ExY (ZaN ⟨z,C,E,J,G⟩ x)
    have s:∀W':World,_:=fun W'=>Zdz ⟨z,C,E,J,G⟩ x W'
    unfold Lc.val at s
    dsimp only at s
    rw[←X] at s
    have af:=Hi s
    have ht:th=decide (r=0):=by
     rw[ap.out,X,←HY.out]
     unfold thereB
     rw[←ag.out,decide_eq_true U]
     simp
    clear s X
    have N:Hid (Bk V b 45 #[I x.acct,I x.id,I x.instr,I x.qty,I x.price]):=L.below HB L.lt
    have ac:=HB.size
    have l0:=World.block_lt_of_cell? _ _ c0
    have l1:=World.block_lt_of_cell? _ _ c1
    have l2:=World.block_lt_of_cell? _ _ c2
    have l3:=World.block_lt_of_cell? _ _ c3
    have l4:=World.block_lt_of_cell? _ _ c4
    have HS:Hid (∀w',Below V.heap.size V w'→(fun w'=>Below V.heap.size V w'∧w'.cell? (Aq b 0)=some (I x.acct)∧w'.cell? (Aq b 1)=some (I x.id)∧w'.cell? (Aq b 2)=some (I x.instr)∧w'.cell? (Aq b 3)=some (I x.qty)∧w'.cell? (Aq b 4)=some (I x.price)∧w'.cell? (a0.add (pl*5))=some (I z)∧w'.cell? ⟨(a0.add (pl*5)).block,(a0.add (pl*5)).off+1,none⟩=some (I C)∧w'.cell? ⟨(a0.add (pl*5)).block,(a0.add (pl*5)).off+2,none⟩=some (I E)∧w'.cell? ⟨(a0.add (pl*5)).block,(a0.add (pl*5)).off+3,none⟩=some (I J)∧w'.cell? ⟨(a0.add (pl*5)).block,(a0.add (pl*5)).off+4,none⟩=some (I G)) w'):=fun w' hw=>by
     have a:=(N.below hw N.lt).five
     exact⟨hw,a.1,a.2.1,a.2.2.1,a.2.2.2.1,a.2.2.2.2.1,(hw.cell l0).trans c0,(hw.cell l1).trans c1,(hw.cell l2).trans c2,(hw.cell l3).trans c3,(hw.cell l4).trans c4⟩
    have j1:(0:Int)≤(pl:Int):=by omega
    have j2:(pl:Int)<(n:Int):=by omega
    go_upto_region 8 with(fail)
    go_region_held (fun w'=>Below V.heap.size V w'∧w'.cell? (Aq b 0)=some (I x.acct)∧w'.cell? (Aq b 1)=some (I x.id)∧w'.cell? (Aq b 2)=some (I x.instr)∧w'.cell? (Aq b 3)=some (I x.qty)∧w'.cell? (Aq b 4)=some (I x.price)∧w'.cell? (a0.add (pl*5))=some (I z)∧w'.cell? ⟨(a0.add (pl*5)).block,(a0.add (pl*5)).off+1,none⟩=some (I C)∧w'.cell? ⟨(a0.add (pl*5)).block,(a0.add (pl*5)).off+2,none⟩=some (I E)∧w'.cell? ⟨(a0.add (pl*5)).block,(a0.add (pl*5)).off+3,none⟩=some (I J)∧w'.cell? ⟨(a0.add (pl*5)).block,(a0.add (pl*5)).off+4,none⟩=some (I G))
     (first
      |with_reducible assumption
      |(refine HS.out _ ?_;first|with_reducible exact Y.out|with_reducible exact(Below.refl _ _).drew))
     (first
      |(go_at_call 147;refine(af.out _).mono ?_;rintro e w2 ⟨rfl,aa⟩;obtain⟨hB,-⟩ := ‹Below V.heap.size V _∧_›;have Y:Hid (Below V.heap.size V w2):=hB.trans (aa.mono hB.size);clear aa hB))
    all_goals
     go_wp2
     go_ret2
     refine⟨by rw[ht];rfl,?_⟩
     rw[←ak.out]
     exact ae.trans ((HB.trans (Y.mono ac)).mono Z)
   ·have aB:pl=n:=by omega
    have ht:th=false:=by
     rw[ap.out]
     unfold thereB
     rw[←ag.out,decide_eq_false (by have:=HL.out;omega)]
     rfl
    subst ht
    have j2:¬((pl:Int)<(n:Int)):=by omega
    have Z:b≤W.heap.size:=Nat.le_of_lt L.lt
    go_upto_region 8 with(fail)
    go_quiet (fail)
    go_wp2
    go_ret2
    refine⟨rfl,?_⟩
    rw[←ak.out]
    have R:=ae.trans (HB.mono Z)
    exact⟨R.os,R.tape,R.output,R.size,R.block⟩
end O
namespace O
theorem ZcH{w:World}{base n c:Nat}{a:Addr}{xs:List Value}(h:w.ownsRow base 45 5 (.slice (some a) n c) n xs):∃g s,a=(Aq g 0)∧base≤g∧Bk w g 45 s∧n≤c∧c≤maxLen∧s.size=c*5∧s.toList.take (n*5)=xs:=by
 rcases h.2 with⟨hv,_⟩|⟨g,z,s,hv,hb,hh,h1,h2,h3,h4⟩
 ·cases hv
 ·injection hv with a1 a2 a3
  injection a1 with a1
  subst a1 a3
  exact⟨g,s,rfl,hb,hh,h1,h2,h3,h4⟩
theorem ZbO{w:World}{base n c g:Nat}{s:Array Value}{l:List Lc}(J:base≤g)(L:Bk w g 45 s)(z:n≤c)(C:c≤maxLen)(E:s.size=c*5)(N:l.length=n)(G:s.toList.take (n*5)=lcs l):w.ownsRow base 45 5 (.slice (some (Aq g 0)) n c) n (lcs l):=
 ⟨by rw[lcs_len,N],.inr ⟨g,c,s,rfl,J,L,z,C,E,G⟩⟩
theorem Zby(l:List Lc)(p:Nat):(lcs l).take (p*5)=lcs (l.take p):=by
 induction l generalizing p with
 |nil=>simp[lcs]
 |cons a l ih=>
  have e:lcs (a::l)=a.cells++lcs l:=rfl
  cases p with
  |zero=>simp[lcs]
  |succ p=>
   have e2:lcs ((a::l).take (p+1))=a.cells++lcs (l.take p):=rfl
   rw[e,e2,←ih p,List.take_append]
   have hc:a.cells.length=5:=rfl
   rw[List.take_of_length_le (by omega),hc]
   congr 2
   omega
theorem Zb0(l:List Lc)(p:Nat):(lcs l).drop (p*5)=lcs (l.drop p):=by
 have h1:=Zby l p
 have h2:lcs l=lcs (l.take p)++lcs (l.drop p):=by rw[←lcs_append,List.take_append_drop]
 have h3:(lcs l).take (p*5)++(lcs l).drop (p*5)=lcs (l.take p)++lcs (l.drop p):=by rw[List.take_append_drop,←h2]
 rw[h1] at h3
 exact List.append_cancel_left h3
def Zcz:List Value:=[I 0,I 0,I 0,I 0,I 0]
theorem Zce(w:World)(g o c:Nat)(C:∀j,j<5→(w.cell? (Aq g (o+j))).isSome=true)(E:∀j,j<5→w.frozen? (Aq g (o+j))=false)(G:TypeId):
 (Builtin.clear_ #[25] G #[.slice (some (Aq g o)) 1 c]).run prog w=.ok (.tuple #[]) (w.setCells g o Zcz):=by
 have hv:=Tryz.zeroValue45
 have s:=run_storeCells_cells (P:=prog) g o Zcz 0 w (by simpa[Zcz] using C) (by simpa[Zcz] using E) (by intro v z;simp[Zcz] at z;subst z;rfl)
 simp only[Nat.add_zero] at s
 have hz:(Builtin.zeroCells (Value.agg #[I 0,I 0,I 0,I 0,I 0]).cells 1).toList=Zcz:=by kernel_rfl
 simp[Builtin.clear_,run_underlying underlying25,hv,hz,s]
theorem ZcL(base g m c p:Nat)(l:List Lc)(E:Array Value)(w:World)(hb:base≤g)(hB:Bk w g 45 E)(aj:m+1≤c)(ad:c≤maxLen)(G:E.size=c*5)(hl:l.length=m+1)(ht:E.toList.take ((m+1)*5)=lcs l)(hp:p<m+1):
 Calls prog 111 #[.slice (some (Aq g 0)) (m+1) c,I p,I ((p:Int)+1)] w fun e w'=>e=.returned (.slice (some (Aq g 0)) m c)∧w'.ownsRow base 45 5 (.slice (some (Aq g 0)) m c) m (lcs (l.take p++l.drop (p+1)))∧Below base w w':=by
 unfold maxLen at ad
 obtain⟨s,z⟩:=ExY (lcs (l.drop (p+1)))
 have C:s.length=(m-p)*5:=by rw[z,lcs_len,List.length_drop,hl];congr 1;omega
 have J:∀k,k<c*5→∃u,w.cell? (Aq g k)=some u:=fun k hk=>⟨E[k]'(by omega),by rw[hB.cell];simp[G,hk]⟩
 have L:∀t u,s[t]?=some u→w.cell? (Aq g ((p+1)*5+t))=some u:=by
  intro t u hu
  have af:t<s.length:=(List.getElem?_eq_some_iff.1 hu).1
  rw[hB.cell,←Array.getElem?_toList]
  have e:(E.toList.take ((m+1)*5))[(p+1)*5+t]?=some u:=by
   rw[ht,←List.getElem?_drop,Zb0,←z]
   exact hu
  rwa [List.getElem?_take_of_lt (by omega)] at e
 obtain⟨A9,ah,ab⟩:∃A9:Addr,(if c=p+1 then some (⟨g,0,none⟩:Addr) else some ⟨g,(p+1)*5,none⟩)=some A9∧Hid (∀t u,s[t]?=some u→w.drew.cell? (A9.add t)=some u):=by
  by_cases h:c=p+1
  ·refine⟨(Aq g 0),by rw[if_pos h],fun t u hu=>?_⟩
   have h0:s.length=0:=by rw[C];omega
   rw[List.length_eq_zero_iff.1 h0] at hu
   simp at hu
  ·refine⟨(Aq g ((p+1)*5)),by rw[if_neg h],fun t u hu=>?_⟩
   have e:((Aq g ((p+1)*5)):Addr).add t=(Aq g ((p+1)*5+t)):=by
    unfold Addr.add
    split
    ·simp_all
    ·rfl
   rw[e]
   exact L t u hu
 have s2:Hid (∀u∈s,u.oneCell'=true):=by rw[z];exact lcs_one _
 have s1:Hid (s.length=(m-p)*5):=C
 have s3:Hid (∀t,t<s.length→(w.drew.cell? (Aq g (0+p*5+t))).isSome=true∧w.drew.frozen? (Aq g (0+p*5+t))=false):=by
  intro t af
  obtain⟨u,hu⟩:=J (0+p*5+t) (by omega)
  exact⟨by show(w.cell? _).isSome=true;rw[hu];rfl,hB.frozen _⟩
 obtain⟨i0,ae,ak,ag,al⟩:=info_parts info45
 obtain⟨W1,U⟩:=ExY (w.drew.setCells g (0+p*5) s)
 have R:Bk W1 g 45 (ow E (0+p*5) s):=by rw[U];exact Bk.cells s _ hB.drew
 have N:(ow E (0+p*5) s).size=c*5:=by rw[Zbv];exact G
 have Y:Below base w W1:=by rw[U];exact Below.cells hb s _ (Below.refl _ _).drew
 have ai:∀ty,(Builtin.clear_ #[25] ty #[.slice (some (Aq g (m*5))) 1 (c-m)]).run prog W1=.ok (.tuple #[]) (W1.setCells g (m*5) Zcz):=fun ty=>
  Zce W1 g _ _ (fun j hj=>by rw[R.cell,Array.getElem?_eq_getElem (by rw[N];omega)];rfl) (fun j hj=>R.frozen _) ty
 have aa:(W1.setCells g (m*5) Zcz).ownsRow base 45 5 (.slice (some (Aq g 0)) m c) m (lcs (l.take p++l.drop (p+1))):=by
  refine ZbO hb (Bk.cells Zcz _ R) (by omega) (by unfold maxLen;omega) (by rw[Zbv];exact N) (by rw[List.length_append,List.length_take,List.length_drop];omega) ?_
  rw[Zbu _ _ _ (by rw[N];simp[Zcz];omega),List.take_append_of_le_length (by rw[List.length_take,Array.length_toList,N];omega),List.take_take,Nat.min_self,
   Zbu _ _ _ (by rw[G,C];omega),←List.append_assoc,List.take_append_of_le_length (by rw[List.length_append,List.length_take,Array.length_toList,G,C];omega),
   List.take_of_length_le (by rw[List.length_append,List.length_take,Array.length_toList,G,C];omega),lcs_append,←z]
  congr 1
  rw[Nat.zero_add,←Zby,←ht,List.take_take,Nat.min_eq_left (by omega)]
 have ac:=Hi aa
 have Z:Hid (Below base w (W1.setCells g (m*5) Zcz)):=Below.cells hb Zcz _ Y
 have X:Hid (W1=w.drew.setCells g (0+p*5) s):=U
 clear aa Y R N U L J C z ht hl G hB
 have k1:p+(m-p)=m:=by omega
 have am:(m:Int)≤(c:Int):=by omega
 have an:(0:Int)≤(m:Int):=by omega
 have ao:(m:Int)≤(m:Int)+1:=by omega
 have ap:((m:Int)+1).toNat=m+1:=by omega
 have aq:¬(c=m):=by omega
 have j1:(0:Int)≤(p:Int):=by omega
 have j2:(p:Int)≤(p:Int)+1:=by omega
 have j3:(p:Int)+1≤((m:Int)+1):=by omega
 have j4:((m:Int)+1)≤(c:Int):=by omega
 have j5:((p:Int)+1).toNat=p+1:=by omega
 have j6:¬((p:Int)=(p:Int)+1):=by omega
 have j7:(p:Int)≤(c:Int):=by omega
 have j8:(p:Int)+1≤(c:Int):=by omega
 have j9:(0:Int)≤(p:Int)+1:=by omega
 go_enter func111,ntmps111
 go_wp2_with fail
 go_region_law (refine step_append_room rfl (.tmp 22) (.tmp 25) 25 rfl 45 i0 5 underlying25 ae ag g 0 p c (by simp[Act.eval,Act.put]) A9 (m-p) (c-(p+1)) s (by simp[Act.eval,Act.put]) s1 ab s2 (by omega) s3 ?_;rw[←X.out])
 all_goals
  go_wp2
  go_ret
  exact⟨rfl,ac,Z⟩
end O
namespace O
theorem Zcf(w:World)(ty:TypeId)(b o s C:Nat)(a:Addr)(z G:Nat)(cs:List Value)(Y:cs.length=Nat.min z s*5)(E:∀j v,cs[j]?=some v→w.cell? (a.add j)=some v)(U:∀j,j<cs.length→(w.cell? (Aq b (o+j))).isSome=true)(X:∀j,j<cs.length→w.frozen? (Aq b (o+j))=false)(R:∀v∈cs,v.oneCell'=true):
 (Builtin.copy_ #[25,25] ty #[.slice (some (Aq b o)) s C,.slice (some a) z G]).run prog w=.ok (goInt (Nat.min z s)) (w.setCells b o cs):=by
 have hl:=run_loadCells_list (P:=prog) w a cs E
 have L:=run_storeCells_cells (P:=prog) b o cs 0 w (by simpa using U) (by simpa using X) R
 obtain⟨i0,J,Z,N,aa⟩:=info_parts info45
 rw[Y] at hl
 simp[Builtin.copy_,run_underlying underlying25,Builtin.lenOf,Builtin.firstCells,sizeOf,typeInfo,J,N,hl,L]
def ZcZ(base:Nat)(w:World)(ys:List Lc)(e:Ending)(w':World):Prop:=
 ∃A c,e=.returned (.slice A ys.length c)∧ys.length≤c∧c≤maxLen∧w'.ownsRow base 45 5 (.slice A ys.length c) ys.length (lcs ys)∧Below base w w'
theorem Zde(x:Lc):lcs [x]=x.cells:=by simp[lcs]
theorem Zhq{w:World}{s:Nat}{x:Lc}(h:Bk w s 45 #[I x.acct,I x.id,I x.instr,I x.qty,I x.price]):Rd w (s+1) 5 (some (Aq s 0)) 1 x.cells:=
 ⟨rfl,fun _=>⟨_,rfl,by simp,World.news_of_block h⟩⟩
theorem Zdc(base n c Y:Nat)(A:Option Addr)(l:List Lc)(x:Lc)(w:World)(z:w.ownsRow base 45 5 (.slice A n c) n (lcs l))(hl:l.length=n)(hn:(n+1)*40≤140737488355328)(s:base≤w.heap.size)(hv:Bk w Y 45 #[I x.acct,I x.id,I x.instr,I x.qty,I x.price]):
 Calls prog 148 #[.slice A n c,I n,.slice (some (Aq Y 0)) 1 1] w (ZcZ base w (l++[x])):=by
 obtain⟨A0,c0,C,aa,J⟩:=ZdX z
 injection C with hA0 _ C
 subst hA0 C
 obtain⟨i0,N,R,U,X⟩:=info_parts info45
 have hr:=Zhq hv
 have HO:=Hi z
 have HL:=Hi hl
 clear z hl hv
 unfold maxLen at J
 have j1:(0:Int)≤(n:Int):=by omega
 have j2:(n:Int)≤(c:Int):=by omega
 go_enter func148,ntmps148
 go_wp2_with (at_builtin;go_must (refine Zan _ rfl (.tmp 23) (.tmp 24) _ rfl base 45 i0 _ 5 40 underlying25 N R U X rfl (by omega) _ n (lcs l) rfl HO (Y+1) _ 1 1 _ rfl hr (cells_one x) (by unfold maxLen;omega) (by omega) s ?_);intro A1 c1 w1 h1 h2 G L Z)
 all_goals
  go_ret
  have E:(l++[x]).length=n+1:=by rw[List.length_append,HL.out];rfl
  refine⟨A1,c1,by rw[E];rfl,by rw[E];exact h1,h2,by rw[E,lcs_append,Zde];exact G,(Below.refl base w).grown L s fun k hk=>(HO.lt k hk).1⟩
theorem ZcO(base n p vb g:Nat)(l:List Lc)(x:Lc)(cur:Array Value)(w:World)(z:base≤w.heap.size)(hB:Bk w g 45 cur)(aC:cur.size=n*5)(hl:l.length=n)(ht:cur.toList.take (n*5)=lcs l)(hn:(n+1)*40≤140737488355328)(hp:p<n)(hv:Bk w vb 45 #[I x.acct,I x.id,I x.instr,I x.qty,I x.price]):
 Calls prog 148 #[.slice (some (Aq g 0)) n n,I p,.slice (some (Aq vb 0)) 1 1] w (ZcZ base w (l.take p++x::l.drop p)):=by
 obtain⟨i0,aB,aD,aE,au⟩:=info_parts info45
 have aA:(lcs l).length=n*5:=by rw[lcs_len,hl]
 have ah:∀j v,(lcs l)[j]?=some v→w.cell? (Aq g j)=some v:=fun j v hj=>by
  rw[hB.cell,←Array.getElem?_toList]
  have aF:=(List.getElem?_eq_some_iff.1 hj).1
  rw[←ht,List.getElem?_take_of_lt (by omega)] at hj
  exact hj
 have add0:∀b j k:Nat,((Aq b j):Addr).add k=(Aq b (j+k)):=fun b j k=>by
  unfold Addr.add
  split
  ·simp_all
  ·rfl
 have ad:(Builtin.firstCells i0.size p (.slice (some (Aq g 0)) p n)).run prog w.drew=.ok (lcs (l.take p)).toArray w.drew:=by
  rw[aE]
  exact run_firstCells_some w.drew 5 p (Aq g 0) p n (lcs (l.take p)) (by rw[lcs_len,List.length_take];omega) (fun j v hj=>by
   rw[add0,Nat.zero_add]
   rw[←Zby,List.getElem?_take] at hj
   split at hj
   ·exact ah j v hj
   ·cases hj)
 obtain⟨G,hG⟩:=ExY (grownCap w (n+1) n 45)
 have ak:n+1≤G:=by rw[hG];exact grownCap_ge w _ _ _
 have aa:G≤maxLen:=by rw[hG];exact grownCap_le_maxLen w _ _ _ (by unfold maxLen;omega)
 obtain⟨s,E⟩:∃s:Array Value,s=(lcs (l.take p)).toArray++Builtin.zeroCells (Value.agg #[I 0,I 0,I 0,I 0,I 0]).cells (n+1-p)++Builtin.zeroCells (Value.agg #[I 0,I 0,I 0,I 0,I 0]).cells (G-(n+1)):=⟨_,rfl⟩
 have ai:∀ty,(Builtin.append_ #[25,3] ty #[.slice (some (Aq g 0)) p n,I ((n:Int)+1-(p:Int))]).run prog w=.ok (.slice (some ⟨w.heap.size,0,none⟩) (n+1) G) (w.drew.alloc (.cells s 45)):=fun ty=>by
  have h:=Lib.run_append_grow_zeros w 25 3 ty 45 i0 _ .i64 .i64 underlying25 underlying3 aB aD (some (Aq g 0)) p n (lcs (l.take p)) ad (n+1-p) (by omega) (by omega) (by omega) (by omega) (by rw[au];omega) (by rw[au,show p+(n+1-p)=n+1 by omega];exact growslice_fits (by omega) (by omega))
  rw[show p+(n+1-p)=n+1 by omega,←hG,←E] at h
  rw[show(n:Int)+1-(p:Int)=((n+1-p:Nat):Int) by omega]
  exact h
 have Y:s.size=G*5:=by
  rw[E]
  simp only[Array.size_append,List.size_toArray,lcs_len,List.length_take,Builtin.zeroCells]
  simp[Value.cells]
  omega
 have al:s.toList.take (p*5)=lcs (l.take p):=by
  rw[E]
  simp only[Array.toList_append]
  rw[List.append_assoc,List.take_append_of_le_length (by simp only[lcs_len,List.length_take];omega),List.take_of_length_le (by simp only[lcs_len,List.length_take];omega)]
 obtain⟨N,hN⟩:=ExY w.heap.size
 have az:g<N:=by rw[hN];exact hB.lt
 have aG:vb<N:=by rw[hN];exact hv.lt
 rw[←hN] at ai
 obtain⟨W1,J⟩:=ExY ((w.alloc (.cells s 45)).drew)
 have U:Bk W1 N 45 s:=by rw[J,hN];exact(Bk.new w 45 s).drew
 have ao:Bk W1 g 45 cur:=by rw[J];exact(hB.alloc _).drew
 have aq:Bk W1 vb 45 #[I x.acct,I x.id,I x.instr,I x.qty,I x.price]:=by rw[J];exact(hv.alloc _).drew
 have ab:Below base w W1:=by rw[J];exact((Below.refl _ w).alloc z _).drew
 have C:x.cells.length=5:=rfl
 have m1:Nat.min 1 (n+1-p)=1:=Nat.min_eq_left (by omega)
 have m2:Nat.min (n-p) (n-p)=n-p:=Nat.min_self _
 obtain⟨W2,L⟩:=ExY (W1.setCells N (p*5) x.cells)
 have am:∀ty,(Builtin.copy_ #[25,25] ty #[.slice (some (Aq N (p*5))) (n+1-p) (G-p),.slice (some (Aq vb 0)) 1 1]).run prog W1=.ok (I 1) W2:=fun ty=>by
  have h:=Zcf W1 ty N (p*5) (n+1-p) (G-p) (Aq vb 0) 1 1 x.cells (by rw[C,m1])
   (fun j v hj=>by rw[add0,Nat.zero_add,aq.cell,←Array.getElem?_toList];exact hj) (fun j hj=>by rw[U.cell,Array.getElem?_eq_getElem (by rw[Y];omega)];rfl) (fun j _=>U.frozen _) (cells_one x)
  rw[←L,m1] at h
  exact h
 have X:Bk W2 N 45 (ow s (p*5) x.cells):=by rw[L];exact Bk.cells _ _ U
 have Z:(ow s (p*5) x.cells).size=G*5:=by rw[Zbv];exact Y
 have ap:Bk W2 g 45 cur:=by
  rw[L]
  exact(Below.cells (B:=N) (Nat.le_refl _) x.cells (p*5) (Below.refl N W1)).block g az |>.trans ao
 have ac:Below base w W2:=by rw[L];exact Below.cells (by rw[hN];exact z) _ _ ab
 have R:∀j v,(lcs (l.drop p))[j]?=some v→W2.cell? (Aq g (p*5+j))=some v:=fun j v hj=>by
  rw[←Zb0,List.getElem?_drop] at hj
  rw[ap.cell,←hB.cell]
  exact ah _ v hj
 have af:(lcs (l.drop p)).length=(n-p)*5:=by rw[lcs_len,List.length_drop,hl]
 have an:∀ty,(Builtin.copy_ #[25,25] ty #[.slice (some (Aq N ((p+1)*5))) (n-p) (G-(p+1)),.slice (some (Aq g (p*5))) (n-p) (n-p)]).run prog W2.drew=.ok (I ((n-p:Nat):Int)) (W2.drew.setCells N ((p+1)*5) (lcs (l.drop p))):=fun ty=>by
  have h:=Zcf W2.drew ty N ((p+1)*5) (n-p) (G-(p+1)) (Aq g (p*5)) (n-p) (n-p) (lcs (l.drop p)) (by rw[af,m2])
   (fun j v hj=>by rw[add0];exact R j v hj) (fun j hj=>by rw[X.drew.cell,Array.getElem?_eq_getElem (by rw[Z];omega)];rfl) (fun j _=>X.drew.frozen _) (lcs_one _)
  rw[m2] at h
  exact h
 have ag:(l.take p++x::l.drop p).length=n+1:=by rw[List.length_append,List.length_cons,List.length_take,List.length_drop,hl];omega
 have aj:(W2.drew.setCells N ((p+1)*5) (lcs (l.drop p))).ownsRow base 45 5 (.slice (some (Aq N 0)) (n+1) G) (n+1) (lcs (l.take p++x::l.drop p)):=by
  refine ZbO (by rw[hN];exact z) (Bk.cells _ _ X.drew) ak aa (by rw[Zbv];exact Z) ag ?_
  have e1:lcs (l.take p++x::l.drop p)=(lcs (l.take p)++x.cells)++lcs (l.drop p):=by rw[lcs_append];show _=_;rw[List.append_assoc];rfl
  have e2:(ow s (p*5) x.cells).toList.take ((p+1)*5)=lcs (l.take p)++x.cells:=by
   rw[Zbu _ _ _ (by rw[Y,C];omega),al,←List.append_assoc,List.take_append_of_le_length (by rw[List.length_append,lcs_len,List.length_take,hl,C];omega),List.take_of_length_le (by rw[List.length_append,lcs_len,List.length_take,hl,C];omega)]
  rw[Zbu _ _ _ (by rw[Z,af];omega),e2,e1,←List.append_assoc,List.take_append_of_le_length (by simp only[List.length_append,lcs_len,List.length_take,List.length_drop,hl,C];omega),
   List.take_of_length_le (by simp only[List.length_append,lcs_len,List.length_take,List.length_drop,hl,C];omega)]
 have aw:=Hi aj
 have ax:Hid (Below base w (W2.drew.setCells N ((p+1)*5) (lcs (l.drop p)))):=Below.cells (by rw[hN];exact z) _ _ ac.drew
 have ae:=Hi ag
 have ay:=Hi J
 clear m1 m2 add0 hN aj ag af R ac ap Z X C ab aq ao U J L al Y E hG ad ah aA ht hl aC hB hv
 unfold maxLen at aa
 have j1:(0:Int)≤(p:Int):=by omega
 have j2:(p:Int)≤(n:Int):=by omega
 have j3:¬((p:Int)=(n:Int)):=by omega
 have j4:(n:Int)<(n:Int)+1:=by omega
 have j5:IntKind.i64.wrap ((n:Int)+1)=(n:Int)+1:=IntWalk.i64_in _ (by omega)
 have j6:IntKind.i64.wrap ((n:Int)+1-(p:Int))=(n:Int)+1-(p:Int):=IntWalk.i64_in _ (by omega)
 have j7:IntKind.i64.wrap ((p:Int)+1)=(p:Int)+1:=IntWalk.i64_in _ (by omega)
 have j8:((p:Int)+1).toNat=p+1:=by omega
 have j9:(0:Int)≤(p:Int)+1:=by omega
 have aH:(p:Int)≤(n:Int)+1:=by omega
 have aI:¬(G=p):=by omega
 have aJ:¬(G=p+1):=by omega
 have aK:¬(n=p):=by omega
 have aL:(p:Int)+1≤(n:Int)+1:=by omega
 go_enter func148,ntmps148
 go_upto_region 10 with(at_builtin;refine Lib.wpList_append_run _ rfl _ _ _ _ rfl _ _ rfl rfl _ _ (ai _) ?_)
 rw[←ay.out]
 clear ai
 go_upto_region 11 with(at_builtin;refine Zbg _ rfl _ _ 25 25 rfl _ _ rfl rfl (am _) ?_)
 go_region_law (refine ZbB rfl (.tmp 50) (.tmp 53) 25 25 rfl (.slice (some (Aq N ((p+1)*5))) (n-p) (G-(p+1))) (.slice (some (Aq g (p*5))) (n-p) (n-p)) (by simp[Act.eval,Act.put]) (by simp[Act.eval,Act.put]) (an _) ?_)
 all_goals
  go_wp2
  go_ret
  exact⟨some (Aq N 0),G,by rw[ae.out];rfl,by rw[ae.out];exact ak,by unfold maxLen;omega,by rw[ae.out];exact aw.out,ax⟩
end O
namespace O
theorem Zcw(base n c p G g:Nat)(l:List Lc)(x:Lc)(s:Array Value)(w:World)(hb:base≤g)(Y:Bk w g 45 s)(ad:n+1≤c)(ak:c≤maxLen)(C:s.size=c*5)(hl:l.length=n)(ht:s.toList.take (n*5)=lcs l)(hp:p<n)(ae:G≠g)(hv:Bk w G 45 #[I x.acct,I x.id,I x.instr,I x.qty,I x.price]):
 Calls prog 148 #[.slice (some (Aq g 0)) n c,I p,.slice (some (Aq G 0)) 1 1] w (ZcZ base w (l.take p++x::l.drop p)):=by
 unfold maxLen at ak
 have aj:(lcs l).length=n*5:=by rw[lcs_len,hl]
 have af:∀j v,(lcs l)[j]?=some v→w.cell? (Aq g j)=some v:=fun j v hj=>by
  rw[Y.cell,←Array.getElem?_toList]
  have am:=(List.getElem?_eq_some_iff.1 hj).1
  rw[←ht,List.getElem?_take_of_lt (by omega)] at hj
  exact hj
 have add0:∀b j k:Nat,((Aq b j):Addr).add k=(Aq b (j+k)):=fun b j k=>by
  unfold Addr.add
  split
  ·simp_all
  ·rfl
 have al:∀lb cb,(callFunc 184 #[.slice (some (Aq G 0)) 1 1,.slice (some (Aq g ((p+1)*5))) lb cb]).run prog w=.ok (.value (.bool false)) w:=fun lb cb=>by
  rw[run_callFunc_extern func184 (by kernel_rfl) (by kernel_rfl) (by kernel_rfl) (e:=Extern.SlicesOverlaps.overlaps #[25,25] #[4]) (by kernel_rfl),
   Lib.run_overlaps_apart w 25 4 45 underlying25 5 Tryz.sizeOf45 (Aq G 0) (Aq g ((p+1)*5)) 1 1 lb cb ae 45 45 5 (c*5) (by rw[Zdn hv];rfl) (by rw[Zdn Y,C]) (by omega) (hv.frozen 0) (hv.frozen 5)]
  rfl
 have E:x.cells.length=5:=rfl
 have U:(lcs (l.drop p)).length=(n-p)*5:=by rw[lcs_len,List.length_drop,hl]
 have m1:Nat.min 1 (n+1-p)=1:=Nat.min_eq_left (by omega)
 have m2:Nat.min (n+1-p) (n-p)=n-p:=Nat.min_eq_right (by omega)
 obtain⟨W1,z⟩:=ExY (w.drew.setCells g ((p+1)*5) (lcs (l.drop p)))
 have ab:∀ty,(Builtin.copy_ #[25,25] ty #[.slice (some (Aq g ((p+1)*5))) (n-p) (c-(p+1)),.slice (some (Aq g (p*5))) (n+1-p) (c-p)]).run prog w.drew=.ok (I ((n-p:Nat):Int)) W1:=fun ty=>by
  have h:=Zcf w.drew ty g ((p+1)*5) (n-p) (c-(p+1)) (Aq g (p*5)) (n+1-p) (c-p) (lcs (l.drop p)) (by rw[U,m2])
   (fun j v hj=>by rw[add0];rw[←Zb0,List.getElem?_drop] at hj;exact af _ v hj) (fun j hj=>by rw[Y.drew.cell,Array.getElem?_eq_getElem (by omega)];rfl) (fun j _=>Y.drew.frozen _) (lcs_one _)
  rw[←z,m2] at h
  exact h
 have J:Bk W1 g 45 (ow s ((p+1)*5) (lcs (l.drop p))):=by rw[z];exact Bk.cells _ _ Y.drew
 have L:(ow s ((p+1)*5) (lcs (l.drop p))).size=c*5:=by rw[Zbv];exact C
 have ag:Bk W1 G 45 #[I x.acct,I x.id,I x.instr,I x.qty,I x.price]:=by
  rw[z]
  have far:∀(vs:List Value) (o:Nat) (V:World),Bk V G 45 #[I x.acct,I x.id,I x.instr,I x.qty,I x.price]→Bk (V.setCells g o vs) G 45 #[I x.acct,I x.id,I x.instr,I x.qty,I x.price]:=fun vs=>by
   induction vs with
   |nil=>exact fun _ _ h=>h
   |cons v r ih=>exact fun o V h=>by rw[World.setCells];exact ih _ _ (h.far (p:=Aq g o) ae v)
  exact far _ _ _ hv.drew
 have ac:∀ty,(Builtin.copy_ #[25,25] ty #[.slice (some (Aq g (p*5))) (n+1-p) (c-p),.slice (some (Aq G 0)) 1 1]).run prog W1=.ok (I 1) (W1.setCells g (p*5) x.cells):=fun ty=>by
  have h:=Zcf W1 ty g (p*5) (n+1-p) (c-p) (Aq G 0) 1 1 x.cells (by rw[E,m1])
   (fun j v hj=>by rw[add0,Nat.zero_add,ag.cell,←Array.getElem?_toList];exact hj) (fun j hj=>by rw[J.cell,Array.getElem?_eq_getElem (by rw[L];omega)];rfl) (fun j _=>J.frozen _) (cells_one x)
  rw[m1] at h
  exact h
 have X:(l.take p++x::l.drop p).length=n+1:=by rw[List.length_append,List.length_cons,List.length_take,List.length_drop,hl];omega
 have Z:(W1.setCells g (p*5) x.cells).ownsRow base 45 5 (.slice (some (Aq g 0)) (n+1) c) (n+1) (lcs (l.take p++x::l.drop p)):=by
  refine ZbO hb (Bk.cells _ _ J) ad (by unfold maxLen;omega) (by rw[Zbv];exact L) X ?_
  have e1:lcs (l.take p++x::l.drop p)=lcs (l.take p)++(x.cells++lcs (l.drop p)):=by rw[lcs_append];rfl
  have e0:s.toList.take (p*5)=lcs (l.take p):=by rw[←Zby,←ht,List.take_take,Nat.min_eq_left (by omega)]
  have N:s.toList.length=c*5:=by simpa using C
  have aa:=Zbu (lcs (l.drop p)) s ((p+1)*5) (by rw[C,U];omega)
  have h1:(ow s ((p+1)*5) (lcs (l.drop p))).toList.take (p*5)=lcs (l.take p):=by
   rw[aa,List.take_append_of_le_length (by rw[List.length_take,N];omega),List.take_take,Nat.min_eq_left (by omega),e0]
  have h2:(ow s ((p+1)*5) (lcs (l.drop p))).toList.drop (p*5+5)=lcs (l.drop p)++s.toList.drop ((p+1)*5+(lcs (l.drop p)).length):=by
   rw[show p*5+5=(p+1)*5 by omega,aa]
   exact List.drop_left' (by rw[List.length_take,N];omega)
  rw[Zbu _ _ _ (by rw[L,E];omega),E,h1,h2,e1,←List.append_assoc x.cells,←List.append_assoc (lcs (l.take p))]
  exact List.take_left' (by simp only[List.length_append,lcs_len,List.length_take,List.length_drop,hl,E];omega)
 have ah:=Hi Z
 have ai:Hid (Below base w (W1.setCells g (p*5) x.cells)):=Below.cells hb _ _ (by rw[z];exact Below.cells hb _ _ (Below.refl _ _).drew)
 have R:=Hi X
 clear m1 m2 add0 Z X U L J ag E z af aj ht hl C Y hv
 have j1:(0:Int)≤(p:Int):=by omega
 have j2:(p:Int)≤(n:Int):=by omega
 have j3:¬((p:Int)=(n:Int)):=by omega
 have j4:¬((c:Int)<(n:Int)+1):=by omega
 have j5:IntKind.i64.wrap ((n:Int)+1)=(n:Int)+1:=IntWalk.i64_in _ (by omega)
 have j7:IntKind.i64.wrap ((p:Int)+1)=(p:Int)+1:=IntWalk.i64_in _ (by omega)
 have j8:((p:Int)+1).toNat=p+1:=by omega
 have j9:(0:Int)≤(p:Int)+1:=by omega
 have an:(p:Int)≤(n:Int)+1:=by omega
 have ao:¬(c=p):=by omega
 have ap:¬(c=p+1):=by omega
 have aq:(p:Int)+1≤(n:Int)+1:=by omega
 have au:(0:Int)≤(n:Int)+1:=by omega
 have aw:(n:Int)+1≤(c:Int):=by omega
 have ax:((n:Int)+1).toNat=n+1:=by omega
 have ay:(n:Int)≤(c:Int):=by omega
 go_enter func148,ntmps148
 go_upto_region 15 with(simp only[al])
 go_region_law (refine ZbB rfl (.tmp 73) (.tmp 76) 25 25 rfl (.slice (some (Aq g ((p+1)*5))) (n-p) (c-(p+1))) (.slice (some (Aq g (p*5))) (n+1-p) (c-p)) (by simp[Act.eval,Act.put]) (by simp[Act.eval,Act.put]) (ab _) ?_)
 all_goals
  go_wp2_with (at_builtin;refine Zbg _ rfl _ _ 25 25 rfl _ _ rfl rfl (ac _) ?_)
  go_ret
  exact⟨some (Aq g 0),c,by rw[R.out];rfl,by rw[R.out];exact ad,by unfold maxLen;omega,by rw[R.out];exact ah.out,ai⟩
end O
def ZfO(q:Int):Bool:=decide (q≠0 ∧ -1000000000≤q∧q≤1000000000)
theorem Zim(q:Int)(w:World):Calls prog 178 #[I q] w fun e w'=>e=.returned (.bool (ZfO q))∧w'=w:=by
 obtain⟨r,hr⟩:=ExY (ZfO q)
 rw[←hr]
 have HR:=Hi hr
 clear hr
 go_enter func178,ntmps178
 by_cases h0:q≠0
 rotate_left
 ·have e:r=false:=by rw[HR.out];simp[ZfO];omega
  subst e
  go_wp2
  go_ret
  exact⟨rfl,rfl⟩
 have b0:(q != 0)=true:=by simpa using h0
 by_cases h1 : -1000000000≤q
 rotate_left
 ·have e:r=false:=by rw[HR.out];simp[ZfO];omega
  subst e
  go_wp2
  go_ret
  exact⟨rfl,rfl⟩
 by_cases h2:q≤1000000000
 rotate_left
 ·have e:r=false:=by rw[HR.out];simp[ZfO];omega
  subst e
  go_wp2
  go_ret
  exact⟨rfl,rfl⟩
 have e:r=true:=by rw[HR.out];simp[ZfO,h0,h1,h2]
 subst e
 go_wp2
 go_ret
 exact⟨rfl,rfl⟩
def Zdo(a n:Int):Bool:=decide (1<a∧a<n)
theorem Zf4(a n:Int)(w:World):Calls prog 177 #[I a,I n] w fun e w'=>e=.returned (.bool (Zdo a n))∧w'=w:=by
 obtain⟨r,hr⟩:=ExY (Zdo a n)
 rw[←hr]
 have HR:=Hi hr
 clear hr
 go_enter func177,ntmps177
 by_cases h0:1<a
 rotate_left
 ·have e:r=false:=by rw[HR.out];simp[Zdo];omega
  subst e
  go_wp2
  go_ret
  exact⟨rfl,rfl⟩
 by_cases h1:a<n
 rotate_left
 ·have e:r=false:=by rw[HR.out];simp[Zdo];omega
  subst e
  go_wp2
  go_ret
  exact⟨rfl,rfl⟩
 have e:r=true:=by rw[HR.out];simp[Zdo,h0,h1]
 subst e
 go_wp2
 go_ret
 exact⟨rfl,rfl⟩
def ZfR(q:Int):Int:=if IntKind.i64.wrap (-q)>q then IntKind.i64.wrap (-q) else q
theorem Ze9(q:Int)(w:World):Calls prog 114 #[I q] w fun e w'=>e=.returned (I (ZfR q))∧w'=w:=by
 obtain⟨m,hm⟩:∃m,IntKind.i64.wrap (-q)=m:=⟨_,rfl⟩
 unfold ZfR
 rw[hm]
 by_cases hq:m>q
 ·rw[if_pos hq]
  go_enter func114,ntmps114
  go_wp2
  go_ret
  exact⟨rfl,rfl⟩
 ·rw[if_neg hq]
  go_enter func114,ntmps114
  go_wp2
  go_ret
  exact⟨rfl,rfl⟩
theorem Zlu(q:Int):q≤ZfR q:=by unfold ZfR;split<;>omega
theorem Ze8{q:Int}(s : -1000000000≤q)(z:q≤1000000000):ZfR q=if q<0 then -q else q:=by
 unfold ZfR
 rw[IntWalk.i64_in _ (by omega)]
 split<;>split<;>omega
def Zef(q:Int):Int:=if q<0 then -q else q
namespace O
theorem ZeE(base n c p E:Nat)(A:Option Addr)(l:List Lc)(x:Lc)(w:World)(z:w.ownsRow base 45 5 (.slice A n c) n (lcs l))(Y:l.length=n)(hn:(n+1)*40≤140737488355328)(hp:p≤n)(s:base≤w.heap.size)(N:Bk w E 45 #[I x.acct,I x.id,I x.instr,I x.qty,I x.price])(Z:∀a,A=some a→E≠a.block):
 Calls prog 148 #[.slice A n c,I p,.slice (some (Aq E 0)) 1 1] w (ZcZ base w (l.take p++x::l.drop p)):=by
 by_cases aa:p=n
 ·have e1:l.take p=l:=List.take_of_length_le (by omega)
  have e2:l.drop p=[]:=List.drop_eq_nil_of_le (by omega)
  rw[e1,e2]
  subst aa
  exact Zdc base p c E A l x w z Y hn s N
 ·have J:p<n:=by omega
  obtain⟨g0,rfl⟩:∃g0,A=some g0:=by
   rcases A with _|g0
   ·rcases z.2 with⟨_,h0⟩|⟨_,_,_,N,_⟩
    ·omega
    ·cases N
   ·exact⟨g0,rfl⟩
  obtain⟨g,G,rfl,X,hB,ab,U,L,C⟩:=ZcH z
  by_cases R:c=n
  ·subst R
   exact ZcO base c p E g l x G w s hB L Y C hn J N
  ·exact Zcw base n c p E g l x G w X hB (by omega) U L Y C J (Z _ rfl) N
def putQ(l:List Lc)(p:Nat)(y:Int):List Lc:=l.set p {l.getD p default with qty:=y}
theorem Zet(l:List Lc)(p:Nat)(y:Int):(putQ l p y).length=l.length:=by simp[putQ]
theorem Zgu(l:List Lc)(p:Nat)(y:Int)(s:p<l.length):(lcs l).set (p*5+3) (I y)=lcs (putQ l p y):=by
 induction l generalizing p with
 |nil=>simp at s
 |cons a l ih=>
  have e:lcs (a::l)=a.cells++lcs l:=rfl
  rcases p with _|p
  ·rw[e]
   rfl
  ·have e2:lcs (putQ (a::l) (p+1) y)=a.cells++lcs (putQ l p y):=rfl
   rw[e,e2,←ih p (by simpa using s),List.set_append_right _ _ (by simp[Lc.cells];omega)]
   congr 2
   simp[Lc.cells];omega
theorem ZbA{w:World}{base n c g:Nat}{s:Array Value}{l:List Lc}{p:Nat}(L:base≤g)(J:Bk w g 45 s)(z:n≤c)(C:c≤maxLen)(E:s.size=c*5)(N:l.length=n)(G:s.toList.take (n*5)=lcs l)(R:p<n)(y:Int):
 (w.setCell (Aq g (p*5+3)) (I y)).ownsRow base 45 5 (.slice (some (Aq g 0)) n c) n (lcs (putQ l p y)):=by
 refine ZbO L (J.set _ _) z C (by simp[E]) (by rw[Zet,N]) ?_
 rw[Array.toList_setIfInBounds,List.take_set,G,Zgu l p y (by omega)]
theorem Zgl(l:List Lc){k:Nat}(h:k<l.length):l[k]=l.getD k default:=(Zaf h).symm
def LOut(w:World)(r:List Lc×Int)(e:Ending)(w':World):Prop:=
 ∃A c,e=.returned (.tuple #[.slice A r.1.length c,I r.2])∧r.1.length≤c∧c≤maxLen∧w'.ownsRow w.heap.size 45 5 (.slice A r.1.length c) r.1.length (lcs r.1)∧Bw w w'
theorem Zgt{w w':World}(er:Int)(s:Bw w w'):LOut w ([],er) (.returned (.tuple #[.slice none 0 0,I er])) w':=
 ⟨none,0,rfl,Nat.le_refl _,Nat.zero_le _,World.ownsRow_nil _ _ _ _,s⟩
theorem Zl5{w w':World}{A:Option Addr}{c m:Nat}{z:List Lc}(J:z.length=m)(G:m≤c)(s:c≤maxLen)(C:w'.ownsRow w.heap.size 45 5 (.slice A m c) m (lcs z))(E:Bw w w'):
 LOut w (z,0) (.returned (.tuple #[.slice A m c,I 0])) w':=by
 subst J
 exact⟨A,c,rfl,G,s,C,E⟩
end O
end Go.Proofs.YtdefojlkofnloaaGreatDoor
