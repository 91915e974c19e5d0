/- A part of the proof of CorePositions: for every input, no condition. -/
import Derived.Test.YtdefojlkofnloaaGreatDoorZa02
import Derived.BigQuiet
import Derived.Deep.QuietTactic
set_option maxRecDepth 100000
set_option maxHeartbeats 8000000
set_option linter.unusedVariables false
set_option linter.unusedSimpArgs false
namespace Go.Proofs.YtdefojlkofnloaaGreatDoor
open Go.RowKit Go.Proofs.Tryz
namespace L
theorem Zfi(A:Option Addr)(n c:Nat)(l:List Lc)(x:Lc)(w:World)(hs:Sorted l)(hn:n*24≤140737488355328)(hr:Rd w w.heap.size 3 A n (lcs l)):
 Calls prog 131 #[.slice A n c,x.val,.func (.func 132) #[] #[]] w fun e w'=>e=.returned (.tuple #[I (place l x:Nat),.bool (thereB l x)])∧Below w.heap.size w w':=by
 have hl:l.length=n:=by have:=hr.1;rw[lcs_len] at this;omega
 obtain⟨W,hW⟩:=ExY (w.alloc (.cells #[I x.acct,I x.instr,I x.qty] 72))
 have z:Hid (Bk W w.heap.size 72 #[I x.acct,I x.instr,I x.qty]):=by rw[hW];exact Bk.new _ _ _
 have Z:=blB hW
 have ac:Hid (Rd W w.heap.size 3 A n (lcs l)):=by rw[hW];exact hr.alloc (Nat.le_refl _) _
 obtain⟨b,hb⟩:=ExY w.heap.size
 obtain⟨pl,ad⟩:=ExY (place l x)
 obtain⟨th,ae⟩:=ExY (thereB l x)
 have ab:=Hi ad
 have ak:=Hi ae
 have HL:=Hi hl
 have aj:=Hi hs
 rw[←ad,←ae]
 rw[←hb] at z Z ac
 have af:=Hi hb
 clear hr hl hs ad ae
 unfold Lc.val
 go_enter func131,ntmps131
 go_wp2
 rw[←hW,←hb]
 clear hW hb
 go_loopw [9,10] (fun vi vj wr=>∃i j:Nat,vi=I i∧vj=I j∧i≤j∧j≤n∧(∀m,m<i→ZaN (l.getD m default) x<0)∧(∀m,j≤m→m<n→¬ZaN (l.getD m default) x<0)∧Below W.heap.size W wr) (fun vi vj _=>(intOf vj-intOf vi).toNat)
 case atStart=>exact⟨0,n,rfl,rfl,Nat.zero_le _,Nat.le_refl _,fun m hm=>absurd hm (Nat.not_lt_zero _),fun m h1 h2=>absurd h2 (by omega),Below.refl _ _⟩
 case round=>
  obtain⟨i,j,rfl,rfl,ap,ao,Y,U,E⟩:=hrel
  have ah:=Hi Y
  have ag:=Hi U
  have HB:=Hi E
  clear Y U E
  rename World=>V
  by_cases aq:i<j
  ·have i1:(i:Int)<(j:Int):=by omega
   have i2:IntKind.i64.wrap ((i:Int)+(j:Int))=(i:Int)+(j:Int):=IntWalk.i64_in _ (by omega)
   go_upto_region 5 with(fail)
   obtain⟨h,hh⟩:∃h:Nat,(h:Int)=((i:Int)+(j:Int))/2:=⟨(i+j)/2,by omega⟩
   rw[←hh]
   have h1:i≤h:=by omega
   have h2:h<j:=by omega
   clear hh i2
   have G:h<l.length:=by have:=HL.out;omega
   have N:b≤W.heap.size:=Nat.le_of_lt z.lt
   obtain⟨a0,hA,an,c0,c1,c2⟩:=(ac.below (HB.mono N)).loc G
   subst hA
   obtain⟨⟨ya,yi,yq⟩,hy⟩:∃y,y=l[h]:=⟨_,rfl⟩
   rw[←hy] at c0 c1 c2
   have HY:Hid (l.getD h default=⟨ya,yi,yq⟩):=by rw[hy];exact Zaf G
   dsimp only at c0 c1 c2
   clear hy
   obtain⟨r,J⟩:=ExY (ZaN ⟨ya,yi,yq⟩ x)
   have s:∀W':World,_:=fun W'=>Zdz ⟨ya,yi,yq⟩ x W'
   unfold Lc.val at s
   dsimp only at s
   rw[←J] at s
   have aa:=Hi s
   have ai:=Hi J
   clear s J
   have C:Hid (Bk V b 72 #[I x.acct,I x.instr,I x.qty]):=z.below HB z.lt
   have X:=HB.size
   have l0:=World.block_lt_of_cell? _ _ c0
   have l1:=World.block_lt_of_cell? _ _ c1
   have l2:=World.block_lt_of_cell? _ _ c2
   have HS:Hid (∀w',Below V.heap.size V w'→(fun w'=>Below V.heap.size V w'∧w'.cell? (Aq b 0)=some (I x.acct)∧w'.cell? (Aq b 1)=some (I x.instr)∧w'.cell? (Aq b 2)=some (I x.qty)∧w'.cell? (a0.add (h*3))=some (I ya)∧w'.cell? ⟨(a0.add (h*3)).block,(a0.add (h*3)).off+1,none⟩=some (I yi)∧w'.cell? ⟨(a0.add (h*3)).block,(a0.add (h*3)).off+2,none⟩=some (I yq)) w'):=fun w' hw=>by
    have a:=(C.below hw C.lt).three
    exact⟨hw,a.1,a.2.1,a.2.2.1,(hw.cell l0).trans c0,(hw.cell l1).trans c1,(hw.cell l2).trans c2⟩
   have j1:(0:Int)≤(h:Int):=by omega
   have j2:(h:Int)<(n:Int):=by omega
   have j3:IntKind.i64.wrap ((h:Int)+1)=(h:Int)+1:=IntWalk.i64_in _ (by omega)
   go_region_held (fun w'=>Below V.heap.size V w'∧w'.cell? (Aq b 0)=some (I x.acct)∧w'.cell? (Aq b 1)=some (I x.instr)∧w'.cell? (Aq b 2)=some (I x.qty)∧w'.cell? (a0.add (h*3))=some (I ya)∧w'.cell? ⟨(a0.add (h*3)).block,(a0.add (h*3)).off+1,none⟩=some (I yi)∧w'.cell? ⟨(a0.add (h*3)).block,(a0.add (h*3)).off+2,none⟩=some (I yq))
    (first
     |with_reducible assumption
     |(refine HS.out _ ?_;first|with_reducible exact L.out|with_reducible exact(Below.refl _ _).drew))
    (first
     |(go_at_call 132;refine(aa.out _).mono ?_;rintro e w2 ⟨rfl,R⟩;obtain⟨hB,-⟩ := ‹Below V.heap.size V _∧_›;have L:Hid (Below V.heap.size V w2):=hB.trans (R.mono hB.size);clear R hB))
   all_goals
    by_cases am:r<0
    ·go_wp2
     refine⟨⟨h+1,j,by push_cast;rfl,rfl,by omega,ao,fun m hm=>?_,fun m h3 h4=>by have:=ag.out m h3 h4;omega,HB.trans (L.mono X)⟩,by simp only[intOf];omega⟩
     refine aj.low (Nat.le_of_lt_succ hm) G ?_
     rw[HY.out,←ai.out]
     exact am
    ·go_wp2
     refine⟨⟨i,h,rfl,rfl,h1,by omega,ah,fun m hm au=>?_,HB.trans (L.mono X)⟩,by simp only[intOf];omega⟩
     refine aj.high hm (by have:=HL.out;omega) ?_
     rw[HY.out,←ai.out]
     exact am
  ·have al:i=j:=by omega
   subst al
   have hp:pl=i:=by
    rw[ab.out]
    exact Zcq (by have:=HL.out;omega) ah fun m h1 h2=>by have:=ag.out m h1 (by have:=HL.out;omega);omega
   subst hp
   have i1:¬((pl:Int)<(pl:Int)):=by omega
   by_cases ax:pl<n
   ·have G:pl<l.length:=by have:=HL.out;omega
    have N:b≤W.heap.size:=Nat.le_of_lt z.lt
    obtain⟨a0,hA,an,c0,c1,c2⟩:=(ac.below (HB.mono N)).loc G
    subst hA
    obtain⟨⟨ya,yi,yq⟩,hy⟩:∃y,y=l[pl]:=⟨_,rfl⟩
    rw[←hy] at c0 c1 c2
    have HY:Hid (l.getD pl default=⟨ya,yi,yq⟩):=by rw[hy];exact Zaf G
    dsimp only at c0 c1 c2
    clear hy
    obtain⟨r,J⟩:=ExY (ZaN ⟨ya,yi,yq⟩ x)
    have s:∀W':World,_:=fun W'=>Zdz ⟨ya,yi,yq⟩ x W'
    unfold Lc.val at s
    dsimp only at s
    rw[←J] at s
    have aa:=Hi s
    have ht:th=decide (r=0):=by
     rw[ak.out,J,←HY.out]
     unfold thereB
     rw[←ab.out,decide_eq_true G]
     simp
    clear s J
    have C:Hid (Bk V b 72 #[I x.acct,I x.instr,I x.qty]):=z.below HB z.lt
    have X:=HB.size
    have l0:=World.block_lt_of_cell? _ _ c0
    have l1:=World.block_lt_of_cell? _ _ c1
    have l2:=World.block_lt_of_cell? _ _ c2
    have HS:Hid (∀w',Below V.heap.size V w'→(fun w'=>Below V.heap.size V w'∧w'.cell? (Aq b 0)=some (I x.acct)∧w'.cell? (Aq b 1)=some (I x.instr)∧w'.cell? (Aq b 2)=some (I x.qty)∧w'.cell? (a0.add (pl*3))=some (I ya)∧w'.cell? ⟨(a0.add (pl*3)).block,(a0.add (pl*3)).off+1,none⟩=some (I yi)∧w'.cell? ⟨(a0.add (pl*3)).block,(a0.add (pl*3)).off+2,none⟩=some (I yq)) w'):=fun w' hw=>by
     have a:=(C.below hw C.lt).three
     exact⟨hw,a.1,a.2.1,a.2.2.1,(hw.cell l0).trans c0,(hw.cell l1).trans c1,(hw.cell l2).trans c2⟩
    have j1:(0:Int)≤(pl:Int):=by omega
    have j2:(pl:Int)<(n:Int):=by omega
    go_upto_region 8 with(fail)
    go_region_held (fun w'=>Below V.heap.size V w'∧w'.cell? (Aq b 0)=some (I x.acct)∧w'.cell? (Aq b 1)=some (I x.instr)∧w'.cell? (Aq b 2)=some (I x.qty)∧w'.cell? (a0.add (pl*3))=some (I ya)∧w'.cell? ⟨(a0.add (pl*3)).block,(a0.add (pl*3)).off+1,none⟩=some (I yi)∧w'.cell? ⟨(a0.add (pl*3)).block,(a0.add (pl*3)).off+2,none⟩=some (I yq))
     (first
      |with_reducible assumption
      |(refine HS.out _ ?_;first|with_reducible exact L.out|with_reducible exact(Below.refl _ _).drew))
     (first
      |(go_at_call 132;refine(aa.out _).mono ?_;rintro e w2 ⟨rfl,R⟩;obtain⟨hB,-⟩ := ‹Below V.heap.size V _∧_›;have L:Hid (Below V.heap.size V w2):=hB.trans (R.mono hB.size);clear R hB))
    all_goals
     go_wp2
     go_ret2
     refine⟨by rw[ht];rfl,?_⟩
     rw[←af.out]
     exact Z.trans ((HB.trans (L.mono X)).mono N)
   ·have aw:pl=n:=by omega
    have ht:th=false:=by
     rw[ak.out]
     unfold thereB
     rw[←ab.out,decide_eq_false (by have:=HL.out;omega)]
     rfl
    subst ht
    have j2:¬((pl:Int)<(n:Int)):=by omega
    have N:b≤W.heap.size:=Nat.le_of_lt z.lt
    go_upto_region 8 with(fail)
    go_quiet (fail)
    go_wp2
    go_ret2
    refine⟨rfl,?_⟩
    rw[←af.out]
    have E:=Z.trans (HB.mono N)
    exact⟨E.os,E.tape,E.output,E.size,E.block⟩
end L
end Go.Proofs.YtdefojlkofnloaaGreatDoor
