/- A part of the proof of CorePositions: for every input, no condition. -/
import Derived.Test.YtdefojlkofnloaaGreatDoorZa07
set_option maxRecDepth 100000
set_option maxHeartbeats 8000000
set_option linter.unusedVariables false
set_option linter.unusedSimpArgs false
namespace Go.Proofs.YtdefojlkofnloaaGreatDoor
open Go.RowKit Go.Proofs.Tryz
namespace P
theorem ZgE(A:Option Addr)(n c:Nat)(l:List Lc)(w:World)(hn:n≤maxLen)(hr:Rd w w.heap.size 3 A n (lcs l)):
 Calls prog 179 #[.slice A n c,.func (.func 116) #[] #[]] w fun e w'=>e=.returned (.bool (Zc7 l))∧Bw w w':=by
 have hl:l.length=n:=by have:=hr.1;rw[lcs_len] at this;omega
 obtain⟨r,R⟩:=ExY (Zc7 l)
 rw[←R]
 have HR:=Hi R
 have HL:=Hi hl
 have aa:=Hi hr
 clear hl hr R
 unfold maxLen at hn
 go_enter func179,ntmps179
 go_wp2
 go_loopw [5] (fun v wr=>∃k:Nat,(k+1≤n∨k=0)∧v=I ((k:Int)+1)∧ZcV (ZbY l) (k+1)=true∧Bw w wr) (fun v _=>n+1-(intOf v).toNat)
 case atStart=>exact⟨0,.inr rfl,rfl,by simp[Zcg,ZfJ,ZbY],Below.refl _ _⟩
 case round=>
  obtain⟨k,hk,rfl,U,hb⟩:=hrel
  have HP:=Hi U
  have HB:=Hi hb
  clear U hb
  rename World=>V
  by_cases an:k+1<n
  ·have Y:k+1<l.length:=by have:=HL.out;omega
   have ag:k<l.length:=by omega
   obtain⟨a0,hA,_,d0,d1,d2⟩:=rd_loc (aa.below HB) ag
   obtain⟨a1,ab,_,e0,e1,e2⟩:=rd_loc (aa.below HB) Y
   have ea:a1=a0:=Option.some.inj (ab.symm.trans hA)
   subst ea
   subst hA
   obtain⟨⟨E,G,J⟩,hy⟩:∃y,y=l[k]:=⟨_,rfl⟩
   rw[←hy] at d0 d1 d2
   have HY:Hid (l.getD k default=⟨E,G,J⟩):=by rw[hy];exact Zaf ag
   obtain⟨⟨s,z,C⟩,hx⟩:∃x,x=l[k+1]:=⟨_,rfl⟩
   rw[←hx] at e0 e1 e2
   have HX:Hid (l.getD (k+1) default=⟨s,z,C⟩):=by rw[hx];exact Zaf Y
   dsimp only at d0 d1 d2 e0 e1 e2
   clear hy hx ab
   have N:Hid (ZbY l (k+1)=decide (ZaN ⟨E,G,J⟩ ⟨s,z,C⟩<0)):=by
    unfold ZbY
    rw[Nat.add_sub_cancel,HX.out,HY.out]
    exact decide_eq_decide.2 (by omega)
   obtain⟨cr,af⟩:=ExY (ZaN ⟨E,G,J⟩ ⟨s,z,C⟩)
   have L:∀W',_:=fun W'=>Zdz ⟨E,G,J⟩ ⟨s,z,C⟩ W'
   unfold Lc.val at L
   dsimp only at L
   rw[←af] at L N
   have Z:=Hi L
   clear L af
   have i1:(k:Int)+1<(n:Int):=by omega
   have i2:(0:Int)≤(k:Int)+1:=by omega
   have i4:IntKind.i64.wrap ((k:Int)+1+1)=(k:Int)+1+1:=IntWalk.i64_in _ (by omega)
   have j2:IntKind.i64.wrap ((k:Int)+1-1)=(k:Int):=by rw[Int.add_sub_cancel];exact IntWalk.i64_in _ (by omega)
   have j3:(0:Int)≤(k:Int):=by omega
   have j4:(k:Int)<(n:Int):=by omega
   have j5:(k:Int)+1-1=(k:Int):=by omega
   have j6:IntKind.i64.wrap (k:Int)=(k:Int):=IntWalk.i64_in _ (by omega)
   have ah:=World.block_lt_of_cell? _ _ d0
   have ai:=World.block_lt_of_cell? _ _ d1
   have aj:=World.block_lt_of_cell? _ _ d2
   have ak:=World.block_lt_of_cell? _ _ e0
   have al:=World.block_lt_of_cell? _ _ e1
   have am:=World.block_lt_of_cell? _ _ e2
   have HS:Hid (∀w',Bw V w'→(fun w'=>Bw V w'∧w'.cell? (a1.add (k*3))=some (I E)∧w'.cell? ⟨(a1.add (k*3)).block,(a1.add (k*3)).off+1,none⟩=some (I G)∧w'.cell? ⟨(a1.add (k*3)).block,(a1.add (k*3)).off+2,none⟩=some (I J)∧w'.cell? (a1.add ((k+1)*3))=some (I s)∧w'.cell? ⟨(a1.add ((k+1)*3)).block,(a1.add ((k+1)*3)).off+1,none⟩=some (I z)∧w'.cell? ⟨(a1.add ((k+1)*3)).block,(a1.add ((k+1)*3)).off+2,none⟩=some (I C)) w'):=fun w' hw=>
    ⟨hw,(hw.cell ah).trans d0,(hw.cell ai).trans d1,(hw.cell aj).trans d2,(hw.cell ak).trans e0,(hw.cell al).trans e1,(hw.cell am).trans e2⟩
   have ac:=HB.size
   go_upto_region 4 with(fail)
   go_region_held (fun w'=>Bw V w'∧w'.cell? (a1.add (k*3))=some (I E)∧w'.cell? ⟨(a1.add (k*3)).block,(a1.add (k*3)).off+1,none⟩=some (I G)∧w'.cell? ⟨(a1.add (k*3)).block,(a1.add (k*3)).off+2,none⟩=some (I J)∧w'.cell? (a1.add ((k+1)*3))=some (I s)∧w'.cell? ⟨(a1.add ((k+1)*3)).block,(a1.add ((k+1)*3)).off+1,none⟩=some (I z)∧w'.cell? ⟨(a1.add ((k+1)*3)).block,(a1.add ((k+1)*3)).off+2,none⟩=some (I C))
    (first
     |with_reducible assumption
     |(refine HS.out _ ?_;first|with_reducible exact X.out|with_reducible exact(Below.refl _ _).drew))
    (first
     |(go_at_call 116;refine(Z.out _).mono ?_;rintro e w2 ⟨rfl,ad⟩;obtain⟨hB,-⟩ := ‹Bw V _∧_›;have X:Hid (Bw V w2):=hB.trans (ad.mono hB.size);clear ad hB))
   all_goals
    by_cases ae:cr<0
    ·have ho:ZbY l (k+1)=true:=by rw[N.out];exact decide_eq_true ae
     have hu:ZcV (ZbY l) (k+1+1)=true:=by rw[Zcg,HP.out,ho];rfl
     have HU:=Hi hu
     clear hu ho
     go_wp2
     exact⟨⟨k+1,.inl (by omega),by push_cast;rfl,HU,HB.trans (X.mono ac)⟩,by simp only[intOf];omega⟩
    ·have ho:ZbY l (k+1)=false:=by rw[N.out];exact decide_eq_false ae
     have e:r=false:=by rw[HR.out];exact Zd0 (k:=k+1) Y ho
     subst e
     clear ho
     go_wp2
     go_ret
     exact⟨rfl,HB.trans (X.mono ac)⟩
  ·have i3:¬((k:Int)+1<(n:Int)):=by omega
   have e:r=true:=by
    rw[HR.out]
    unfold Zc7
    rw[HL.out,upto_iff]
    intro j hj
    exact(upto_iff _ _).1 HP j (by omega)
   subst e
   go_wp2
   go_ret
   exact⟨rfl,HB⟩
end P
namespace P
def inB(ac nc:Int)(x:Lc):Bool:=decide (1<x.acct∧x.acct<ac∧0≤x.instr∧x.instr<nc∧x.qty≠0)
theorem ZgM(f:Lc→Bool)(l:List Lc):ZcV (fun j=>f (l.getD j default)) l.length=l.all f:=by
 rw[Bool.eq_iff_iff,upto_iff,List.all_eq_true]
 constructor
 ·intro h x hx
  obtain⟨j,hj,rfl⟩:=List.mem_iff_getElem.1 hx
  have:=h j hj
  rwa [Zaf hj] at this
 ·intro h j hj
  rw[Zaf hj]
  exact h _ (List.getElem_mem hj)
theorem good_ref(s z:Int)(l:List Lc):goodB s z l=(decide (l.length≤64)&&(tidyB l&&ZcV (fun j=>inB s z (l.getD j default)) l.length)):=by
 unfold goodB
 congr 1
 rw[ZgM,Bool.eq_iff_iff,Bool.and_eq_true,Bool.and_eq_true,tidy_iff,List.all_eq_true,List.all_eq_true]
 constructor
 ·rintro⟨h1,h2⟩
  refine⟨⟨h1,fun j hj=>?_⟩,fun x hx=>?_⟩
  ·have:=h2 _ (List.getElem_mem hj)
   rw[Zaf hj]
   unfold okB at this
   have:=of_decide_eq_true this
   exact decide_eq_true (by omega)
  ·have:=h2 x hx
   unfold okB at this
   have:=of_decide_eq_true this
   exact decide_eq_true (by omega)
 ·rintro⟨⟨h1,h3⟩,h2⟩
  refine⟨h1,fun x hx=>?_⟩
  obtain⟨j,hj,rfl⟩:=List.mem_iff_getElem.1 hx
  have a:=h2 _ (List.getElem_mem hj)
  have b:=h3 j hj
  rw[Zaf hj] at b
  unfold inB at a
  unfold fitsQ at b
  have a:=of_decide_eq_true a
  have b:=of_decide_eq_true b
  exact decide_eq_true (by omega)
theorem good_any(A:Option Addr)(n c:Nat)(l:List Lc)(J L:Int)(w:World)(hn:n≤maxLen)(hr:Rd w w.heap.size 3 A n (lcs l)):
 Calls prog 141 #[.slice A n c,I J,I L] w fun e w'=>e=.returned (.bool (goodB J L l))∧Bw w w':=by
 have hl:l.length=n:=by have:=hr.1;rw[lcs_len] at this;omega
 obtain⟨r,s⟩:=ExY (goodB J L l)
 rw[←s]
 unfold goodB at s
 rw[hl] at s
 have HR:=Hi s
 obtain⟨W,hW⟩:=ExY ((w.alloc (.cells #[I J] 3)).alloc (.cells #[I L] 3))
 have Z:Bk W w.heap.size 3 #[I J]:=by rw[hW];exact(Bk.new w _ _).alloc _
 have aa:Bk W (w.heap.size+1) 3 #[I L]:=by
  rw[hW];have:=Bk.new (w.alloc (.cells #[I J] 3)) 3 #[I L];simpa using this
 have z:Hid (Bw w W):=by rw[hW];exact((Below.refl _ w).alloc (Nat.le_refl _) _).alloc (by simp) _
 have Y:Hid (∀V',Bw W V'→Rd V' V'.heap.size 3 A n (lcs l)):=fun V' h=>(((hr.below z).mono z.size).below h).mono h.size
 have H0:=Hi Z
 have H1:=Hi aa
 have HN:=Hi hn
 clear Z aa hr s hl hn
 go_enter func141,ntmps141
 go_upto_region 1 with(fail)
 rw[←hW]
 clear hW
 by_cases h1:64<n
 ·have e:r=false:=by rw[HR.out,decide_eq_false (by omega)];rfl
  subst e
  have i1:¬((n:Int)≤64):=by omega
  go_wp2
  go_ret
  exact⟨rfl,z⟩
 have ad:r=(Zc7 l&&l.all (okB J L)):=by rw[HR.out,decide_eq_true (by omega)];rfl
 have X:=Hi ad
 clear ad
 have i1:(n:Int)≤64:=by omega
 have C:=ZgE A n c l W HN (Y.out W (Below.refl _ _))
 obtain⟨b,hb⟩:=ExY (Zc7 l)
 rw[←hb] at C
 have N:=Hi C
 have R:=Hi hb
 clear C hb
 go_wp2_with fail
 refine N.mono ?_
 rintro e w1 ⟨rfl,ab⟩
 have E:=Hi ab
 clear ab
 cases b with
 |false=>
  have e:r=false:=by rw[X.out,←R.out];rfl
  subst e
  go_wp2
  go_ret
  exact⟨rfl,z.trans (E.mono z.size)⟩
 |true=>
 have ae:r=l.all (okB J L):=by rw[X.out,←R.out];rfl
 have G:=Zcu A n c l J L w.heap.size (w.heap.size+1) w1 HN (Y.out w1 E) (H0.below E H0.lt) (H1.below E H1.lt)
 rw[←ae] at G
 have U:=Hi G
 clear G ae
 go_wp2_with fail
 refine U.mono ?_
 rintro e w2 ⟨rfl,af⟩
 go_wp2
 go_ret
 exact⟨by simp,z.trans ((E.trans (af.mono E.size)).mono z.size)⟩
end P
section
namespace P
def ltL(x y:Lc):Prop:=ZaN x y<0
theorem ZcT{l:List Lc}:l.Pairwise ltL↔Sorted l:=by
 rw[List.pairwise_iff_getElem]
 constructor
 ·intro h i j s hj
  rw[Zaf (by omega),Zaf hj]
  exact h i j (by omega) hj s
 ·intro h i j hi hj s
  have:=h i j s hj
  rwa [Zaf (by omega),Zaf hj] at this
theorem good_iff(s z:Int)(l:List Lc):goodB s z l=true↔(l.length≤64∧(∀y∈l,okB s z y=true)∧l.Pairwise ltL):=by
 unfold goodB
 rw[Bool.and_eq_true,Bool.and_eq_true,decide_eq_true_eq,List.all_eq_true,ZcT]
 exact⟨fun⟨h1,h2,h3⟩=>⟨h1,h3,sorted_of l h2⟩,fun⟨h1,h3,h2⟩=>⟨h1,rise_of l h2,h3⟩⟩
theorem good_sorted{s z:Int}{l:List Lc}(h:goodB s z l=true):Sorted l:=ZcT.1 ((good_iff s z l).1 h).2.2
theorem is_iff(y:Lc)(a i:Int):y.is a i=true↔(y.acct=a∧y.instr=i):=by
 unfold Lc.is
 rw[decide_eq_true_eq]
theorem is_false(y:Lc)(a i:Int):y.is a i=false↔¬(y.acct=a∧y.instr=i):=by
 unfold Lc.is
 rw[decide_eq_false_iff_not]
structure ZaS(l:List Lc)(a i:Int)(T M D:List Lc):Prop where
 eq:l=T++(M++D)
 lo:∀y∈T,ZaN y ⟨a,i,0⟩<0
 hi:∀y∈D,ZaN ⟨a,i,0⟩ y<0
 mid:M=[]∨∃x:Lc,M=[x]∧x.acct=a∧x.instr=i
section
variable {l T M D:List Lc} {a i:Int}
theorem ZaS.no(h:ZaS l a i T M D):(∀y∈T,y.is a i=false)∧(∀y∈D,y.is a i=false):=by
 constructor
 ·intro y hy
  have:=h.lo y hy
  rw[is_false]
  rw[cmpL_lt] at this
  dsimp only at this
  omega
 ·intro y hy
  have:=h.hi y hy
  rw[is_false]
  rw[cmpL_lt] at this
  dsimp only at this
  omega
theorem ZaS.place(h:ZaS l a i T M D):place l ⟨a,i,0⟩=T.length∧thereB l ⟨a,i,0⟩ = !M.isEmpty:=by
 have hp:YtdefojlkofnloaaGreatDoor.P.place l ⟨a,i,0⟩=T.length:=by
  refine Zcq (by rw[h.eq,List.length_append];omega) (fun j hj=>?_) (fun j hj s=>?_)
  ·have:l.getD j default=T[j]:=by rw[Zaf (by rw[h.eq,List.length_append];omega)];simp[h.eq,hj]
   rw[this]
   exact h.lo _ (List.getElem_mem hj)
  ·have hm:l.getD j default∈M++D:=by
    rw[Zaf s]
    simp only[h.eq]
    rw[List.getElem_append_right hj]
    exact List.getElem_mem _
   rcases List.mem_append.1 hm with h1|h1
   ·rcases h.mid with rfl|⟨x,rfl,e1,e2⟩
    ·cases h1
    ·rw[List.mem_singleton.1 h1,cmpL_lt]
     dsimp only
     omega
   ·have:=h.hi _ h1
    rw[cmpL_lt] at this ⊢
    dsimp only at this ⊢
    omega
 refine⟨hp,?_⟩
 unfold thereB
 rw[hp]
 rcases h.mid with hM|⟨x,hM,e1,e2⟩
 ·subst hM
  by_cases hd:T.length<l.length
  ·have hm:l.getD T.length default∈D:=by
    rw[Zaf hd]
    simp only[h.eq,List.nil_append]
    rw[List.getElem_append_right (Nat.le_refl _)]
    exact List.getElem_mem _
   have:=h.hi _ hm
   rw[decide_eq_false (show ¬ZaN (l.getD T.length default) ⟨a,i,0⟩=0 from fun hc=>by
    rw[ZbG] at hc
    rw[cmpL_lt] at this
    dsimp only at this hc
    omega),Bool.and_false]
   rfl
  ·rw[decide_eq_false hd];rfl
 ·subst hM
  have hd:T.length<l.length:=by rw[h.eq];simp
  have e:l.getD T.length default=x:=by rw[Zaf hd];simp[h.eq]
  rw[decide_eq_true hd,e,decide_eq_true ((@ZbG x ⟨a,i,0⟩).2 ⟨e1,e2⟩)]
  rfl
theorem ZaS.take(h:ZaS l a i T M D):l.take T.length=T:=by rw[h.eq];exact List.take_left' rfl
theorem ZaS.drop0(h:ZaS l a i T [] D):l.drop T.length=D:=by rw[h.eq];exact List.drop_left' rfl
theorem ZaS.drop1{x:Lc}(h:ZaS l a i T [x] D):l.drop (T.length+1)=D:=by rw[h.eq,←List.append_assoc];exact List.drop_left' (by simp)
theorem ZaS.at1{x:Lc}(h:ZaS l a i T [x] D):l.getD T.length default=x:=by
 have hd:T.length<l.length:=by rw[h.eq];simp
 rw[Zaf hd];simp[h.eq]
theorem ZaS.set1{x:Lc}(h:ZaS l a i T [x] D)(y:Int):putQ l T.length y=T++([{x with qty:=y}]++D):=by
 unfold putQ
 rw[h.at1,h.eq]
 simp
theorem ZaS.len(h:ZaS l a i T M D):l.length=T.length+(M.length+D.length):=by rw[h.eq];simp
theorem ZaS.anew(h:ZaS l a i T M D){s:List Lc}(z:s=[]∨∃x:Lc,s=[x]∧x.acct=a∧x.instr=i):ZaS (T++(s++D)) a i T s D:=⟨rfl,h.lo,h.hi,z⟩
theorem ZaS.good{E G:Int}(h:ZaS l a i T M D)(N:goodB E G l=true){C:List Lc}(L:C=[]∨∃x:Lc,C=[x]∧x.acct=a∧x.instr=i)(J:∀x∈C,okB E G x=true)(z:(T++(C++D)).length≤64):goodB E G (T++(C++D))=true:=by
 obtain⟨g2,g4,g5⟩:=(good_iff E G l).1 N
 refine(good_iff _ _ _).2 ⟨z,fun y hy=>?_,?_⟩
 ·rcases List.mem_append.1 hy with h1|h1
  ·exact g4 y (by rw[h.eq];exact List.mem_append_left _ h1)
  ·rcases List.mem_append.1 h1 with h2|h2
   ·exact J y h2
   ·exact g4 y (by rw[h.eq];exact List.mem_append_right _ (List.mem_append_right _ h2))
 ·rw[h.eq,List.pairwise_append,List.pairwise_append] at g5
  obtain⟨p1,⟨_,p2,_⟩,p3⟩:=g5
  rw[List.pairwise_append,List.pairwise_append]
  have s:∀x∈C,∀y:Lc,(ZaN y x=ZaN y ⟨a,i,0⟩)∧(ZaN x y=ZaN ⟨a,i,0⟩ y):=fun x hx y=>by
   rcases L with rfl|⟨x',rfl,e1,e2⟩
   ·cases hx
   ·rw[List.mem_singleton.1 hx]
    unfold ZaN
    rw[e1,e2]
    exact⟨rfl,rfl⟩
  refine⟨p1,⟨?_,p2,?_⟩,?_⟩
  ·rcases L with rfl|⟨x,rfl,_,_⟩
   ·exact List.Pairwise.nil
   ·exact List.pairwise_singleton _ _
  ·intro x hx y hy
   unfold ltL
   rw[(s x hx y).2]
   exact h.hi y hy
  ·intro x hx y hy
   rcases List.mem_append.1 hy with h2|h2
   ·unfold ltL
    rw[(s y h2 x).1]
    exact h.lo x hx
   ·exact p3 x hx y (List.mem_append_right _ h2)
end
theorem about_of{l:List Lc}(E:Sorted l)(a i:Int):∃T M D,ZaS l a i T M D:=by
 obtain⟨h1,h2,h3⟩:=E.place ⟨a,i,0⟩
 obtain⟨p,hp⟩:=ExY (place l ⟨a,i,0⟩)
 rw[←hp] at h1 h2 h3
 have lo:∀y∈l.take p,ZaN y ⟨a,i,0⟩<0:=fun y hy=>by
  obtain⟨j,hj,rfl⟩:=List.mem_iff_getElem.1 hy
  rw[List.length_take] at hj
  have:=h2 j (by omega)
  rw[Zaf (by omega)] at this
  simpa using this
 have up:∀j,p≤j→∀(hj:j<l.length),¬(l[j].acct=a∧l[j].instr=i)→ZaN ⟨a,i,0⟩ l[j]<0:=fun j C hj G=>by
  have:=h3 j C hj
  rw[Zaf hj] at this
  rw[cmpL_lt] at this ⊢
  dsimp only at this ⊢
  omega
 by_cases s:p<l.length
 ·by_cases hk:l[p].acct=a∧l[p].instr=i
  ·refine⟨l.take p,[l[p]],l.drop (p+1),⟨?_,lo,fun y hy=>?_,.inr ⟨l[p],rfl,hk.1,hk.2⟩⟩⟩
   ·rw[List.singleton_append,←List.drop_eq_getElem_cons s,List.take_append_drop]
   ·obtain⟨j,hj,rfl⟩:=List.mem_iff_getElem.1 hy
    rw[List.length_drop] at hj
    rw[List.getElem_drop]
    refine up _ (by omega) (by omega) fun z=>?_
    have:=E p (p+1+j) (by omega) (by omega)
    rw[Zaf s,Zaf (by omega),cmpL_lt] at this
    omega
  ·refine⟨l.take p,[],l.drop p,⟨by rw[List.nil_append,List.take_append_drop],lo,fun y hy=>?_,.inl rfl⟩⟩
   obtain⟨j,hj,rfl⟩:=List.mem_iff_getElem.1 hy
   rw[List.length_drop] at hj
   rw[List.getElem_drop]
   refine up _ (by omega) (by omega) fun z=>?_
   rcases Nat.eq_zero_or_pos j with rfl|h0
   ·exact hk z
   ·have h4:=E p (p+j) (by omega) (by omega)
    rw[Zaf s,Zaf (by omega),cmpL_lt] at h4
    have h5:=up p (Nat.le_refl _) s hk
    rw[cmpL_lt] at h5
    dsimp only at h5
    omega
 ·exact⟨l,[],[],⟨by simp,(fun y hy=>lo y (by rwa [List.take_of_length_le (by omega)])),(fun y hy=>nomatch hy),Or.inl rfl⟩⟩
theorem about_mem{l:List Lc}(z:Sorted l){x:Lc}(s:x∈l):∃T D,ZaS l x.acct x.instr T [x] D:=by
 obtain⟨T,M,D,h⟩:=about_of z x.acct x.instr
 have hm:x∈M:=by
  obtain⟨n1,n2⟩:=h.no
  rw[h.eq] at s
  have hi:=(is_iff x x.acct x.instr).2 ⟨rfl,rfl⟩
  rcases List.mem_append.1 s with h1|h1
  ·rw[n1 x h1] at hi;cases hi
  ·rcases List.mem_append.1 h1 with h2|h2
   ·exact h2
   ·rw[n2 x h2] at hi;cases hi
 rcases h.mid with rfl|⟨y,rfl,_,_⟩
 ·cases hm
 ·rw[List.mem_singleton.1 hm] at h ⊢
  exact⟨T,D,h⟩
end P
end
namespace P
def qtyL(l:List Lc)(a i:Int):Int:=match l.find? (fun x=>x.is a i) with|some x=>x.qty|none=>0
theorem Zk1{l:List Lc}{a i:Int}{k:Nat}(z:k<l.length)(s:∀j,j<k→(l.getD j default).is a i=false)(h:(l.getD k default).is a i=true):l.find? (fun x=>x.is a i)=some (l.getD k default):=by
 rw[Zaf z] at h ⊢
 refine List.find?_eq_some_iff_getElem.2 ⟨h,k,z,rfl,fun j hj=>?_⟩
 have:=s j hj
 rw[Zaf (by omega)] at this
 simp[this]
theorem Zls{l:List Lc}{a i:Int}{k:Nat}(z:k<l.length)(s:∀j,j<k→(l.getD j default).is a i=false)(h:(l.getD k default).is a i=true):qtyL l a i=(l.getD k default).qty:=by
 unfold qtyL
 rw[Zk1 z s h]
theorem Zkh{l:List Lc}{a i:Int}(s:∀j,j<l.length→(l.getD j default).is a i=false):qtyL l a i=0:=by
 unfold qtyL
 rw[List.find?_eq_none.2]
 intro x hx
 obtain⟨j,hj,rfl⟩:=List.mem_iff_getElem.1 hx
 have:=s j hj
 rw[Zaf hj] at this
 simp[this]
theorem qty_any(A:Option Addr)(n c:Nat)(l:List Lc)(a i:Int)(w:World)(N:n≤maxLen)(G:Rd w w.heap.size 3 A n (lcs l)):
 Calls prog 105 #[.slice A n c,I a,I i] w fun e w'=>e=.returned (I (qtyL l a i))∧Bw w w':=by
 have hl:l.length=n:=by have:=G.1;rw[lcs_len] at this;omega
 have HL:=Hi hl
 have HR:=Hi G
 clear hl G
 unfold maxLen at N
 obtain⟨r,s⟩:=ExY (qtyL l a i)
 rw[←s]
 have HE:=Hi s
 clear s
 go_enter func105,ntmps105
 go_wp2
 go_loopw [11] (fun v wr=>∃k:Nat,k≤n∧v=I k∧(∀j,j<k→(l.getD j default).is a i=false)∧Bw w wr) (fun v _=>n-(intOf v).toNat)
 case atStart=>exact⟨0,Nat.zero_le _,rfl,fun j hj=>absurd hj (Nat.not_lt_zero _),Below.refl _ _⟩
 case round=>
  obtain⟨k,hk,rfl,z,hb⟩:=hrel
  have HP:=Hi z
  have HB:=Hi hb
  clear z hb
  rename World=>V
  by_cases L:k<n
  ·have C:k<l.length:=by have:=HL.out;omega
   obtain⟨a0,hA,E,c0,c1,c2⟩:=rd_loc (HR.below HB) C
   subst hA
   obtain⟨⟨xa,xi,xq⟩,hx⟩:∃x,x=l[k]:=⟨_,rfl⟩
   rw[←hx] at c0 c1 c2
   have HX:Hid (l.getD k default=⟨xa,xi,xq⟩):=by rw[hx];exact Zaf C
   dsimp only at c0 c1 c2
   clear hx E
   have i1:(k:Int)<(n:Int):=by omega
   have i2:(0:Int)≤(k:Int):=by omega
   have i3:IntKind.i64.wrap ((k:Int)+1)=(k:Int)+1:=IntWalk.i64_in _ (by omega)
   by_cases ha:xa=a
   ·by_cases hi:xi=i
    ·subst ha hi
     have e:r=xq:=by
      rw[HE.out,Zls C HP.out (by rw[HX.out];simp[Lc.is]),HX.out]
     subst e
     go_wp2
     go_ret
     exact⟨rfl,HB.alloc HB.size _⟩
    ·subst ha
     go_wp2
     refine⟨⟨k+1,by omega,by push_cast;rfl,fun j hj=>?_,HB.alloc HB.size _⟩,by simp only[intOf];omega⟩
     rcases Nat.lt_or_eq_of_le (Nat.lt_succ_iff.1 hj) with h1|rfl
     ·exact HP.out j h1
     ·rw[HX.out];simp[Lc.is,hi]
   ·go_wp2
    refine⟨⟨k+1,by omega,by push_cast;rfl,fun j hj=>?_,HB.alloc HB.size _⟩,by simp only[intOf];omega⟩
    rcases Nat.lt_or_eq_of_le (Nat.lt_succ_iff.1 hj) with h1|rfl
    ·exact HP.out j h1
    ·rw[HX.out];simp[Lc.is,ha]
  ·have i3:¬((k:Int)<(n:Int)):=by omega
   have J:k=n:=by omega
   have e:r=0:=by
    rw[HE.out]
    exact Zkh fun j hj=>HP.out j (by have:=HL.out;omega)
   subst e
   go_wp2
   go_ret
   exact⟨rfl,HB⟩
end P
namespace P
def addL(l:List Lc)(a i q:Int):List Lc×Int:=
 if q < -1000000000∨1000000000<q then([],36) else if q=0 then(l,0)
 else if thereB l ⟨a,i,0⟩=true then
  if(l.getD (place l ⟨a,i,0⟩) default).qty+q < -1000000000∨1000000000<(l.getD (place l ⟨a,i,0⟩) default).qty+q then([],36)
  else if(l.getD (place l ⟨a,i,0⟩) default).qty+q=0 then(l.take (place l ⟨a,i,0⟩)++l.drop (place l ⟨a,i,0⟩+1),0)
  else(putQ l (place l ⟨a,i,0⟩) ((l.getD (place l ⟨a,i,0⟩) default).qty+q),0)
 else if 64≤l.length then([],40) else(l.take (place l ⟨a,i,0⟩)++⟨a,i,q⟩::l.drop (place l ⟨a,i,0⟩),0)
theorem add_any(A:Option Addr)(n c:Nat)(l:List Lc)(a i q:Int)(w:World)(aT:tidyB l=true)(hn:n≤1000000)(hr:Rd w w.heap.size 3 A n (lcs l)):
 Calls prog 57 #[.slice A n c,I a,I i,I q] w (LOut w (addL l a i q)):=by
 have hl:l.length=n:=by have:=hr.1;rw[lcs_len] at this;omega
 obtain⟨af,ag⟩:=(tidy_iff l).1 aT
 have aQ:=sorted_of l af
 obtain⟨r,aq⟩:=ExY (addL l a i q)
 rw[←aq]
 have HR:=Hi aq
 have HQ:=Hi ag
 have aD:=Hi aQ
 have a1:=Hi hr
 have HL:=Hi hl
 clear aq aT af ag aQ hr hl
 go_enter func57,ntmps57
 go_wp2_with fail
 refine(cloneL_any A n c (lcs l) w (lcs_one l) (by omega) a1).mono ?_
 rintro e w1 ⟨A1,c1,rfl,aK,aM,aO,ak⟩
 obtain⟨W2,R⟩:=ExY (w1.alloc (.cells #[I a,I i,I q] 50))
 obtain⟨bx,al⟩:=ExY w1.heap.size
 have az:=bkW R al
 have aV:Hid (Bw w W2):=by rw[R];exact ak.alloc ak.size _
 have aj:Hid (W2.ownsRow w.heap.size 50 3 (.slice A1 n c1) n (lcs l)):=by rw[R];exact aO.alloc _
 have aX:=Hi aK
 have aY:=Hi aM
 clear aK aM
 go_upto_region 3 with(fail)
 rw[←R,←al]
 clear R al aO ak
 have C:=az.three
 have E:=Zfi A1 n c1 l ⟨a,i,q⟩ W2 aD (by omega) (Rd.of_own aj)
 obtain⟨aP,aR⟩:=Zf0 (l:=l) (x:=⟨a,i,q⟩) (y:=⟨a,i,0⟩) rfl rfl
 rw[aP,aR] at E
 have ao:=aD.place ⟨a,i,0⟩
 have J:=fun h=>there_lt (l:=l) (x:=⟨a,i,0⟩) h
 have ab:=HR.out
 unfold addL at ab
 obtain⟨p,hp⟩:=ExY (place l ⟨a,i,0⟩)
 obtain⟨th,au⟩:=ExY (thereB l ⟨a,i,0⟩)
 rw[←hp,←au] at E ab
 rw[←hp] at ao J
 rw[←au] at J
 have a9:p≤n:=by have:=ao.1;have:=HL.out;omega
 have aS:th=true→p<n:=fun ht=>by have:=J ht;have:=HL.out;omega
 have aC:=Hi ab
 have ad:=Hi E
 clear E hp au ao J aP aR ab
 unfold Lc.val at ad
 go_wp2_with fail
 refine ad.mono ?_
 rintro e w3 ⟨rfl,Z⟩
 have aA:=bkN az Z
 have N:Hid (w3.ownsRow w.heap.size 50 3 (.slice A1 n c1) n (lcs l)):=ZaF aj fun p hp=>Z.block _ (ZaP aj p hp).2
 have z:=blT aV Z
 clear C Z
 have C:=aA.three
 go_wp2_with fail
 refine(Ze9 q w3).mono ?_
 rintro e w4 ⟨rfl,rfl⟩
 by_cases U:q < -1000000000∨1000000000<q
 ·have e:r=([],36):=by rw[aC.out,if_pos U]
  subst e
  have hs:=Zlu q
  obtain⟨s,L⟩:=ExY (ZfR q)
  rw[←L] at hs ⊢
  clear L
  by_cases h1:s>1000000000
  ·go_wp2
   go_ret2
   exact Zgt 36 z
  ·have h2:q < -1000000000:=by omega
   go_wp2
   go_ret2
   exact Zgt 36 z
 have ba : -1000000000≤q:=by omega
 have bb:q≤1000000000:=by omega
 obtain⟨s,L⟩:=ExY (ZfR q)
 have bn:s≤1000000000:=by rw[L,Ze8 ba bb];split<;>omega
 rw[←L]
 clear L
 have bo:¬(s>1000000000):=by omega
 have bl:¬(q < -1000000000):=by omega
 have er:=aC.out
 rw[if_neg U] at er
 clear U
 by_cases hz:q=0
 ·have e:r=(l,0):=by rw[er,if_pos hz]
  subst e hz
  clear er
  go_wp2
  go_ret2
  exact Zl5 HL aX aY N z
 have bq:(q==0)=false:=by simpa using hz
 rw[if_neg hz] at er
 by_cases ht:th=true
 ·subst ht
  rw[if_pos rfl] at er
  have X:=aS rfl
  have ap:=HQ.out p (by rw[HL.out];exact X)
  obtain⟨a0,rfl,a3,c0,aE,c2⟩:=rd_loc (Rd.of_own N) (show p<l.length by rw[HL.out];exact X)
  have aL:l[p]'(by rw[HL.out];exact X)=l.getD p default:=Zgl l _
  rw[aL] at c0 aE c2
  obtain⟨h,hh⟩:=ExY ((l.getD p default).qty)
  rw[←hh] at er ap c2
  have bc : -1000000000≤h∧h≤1000000000:=by simpa[fitsQ] using ap
  obtain⟨bg,bh⟩:=bc
  have ah:=Hi er
  clear er ap hh aL c0 aE a3
  obtain⟨g,aF,rfl,am,hB,an,aa,ac,G⟩:=ZcH N
  simp only[add0,Nat.zero_add] at c2
  have i1:(0:Int)≤(p:Int):=by omega
  have i2:(p:Int)<(n:Int):=by omega
  have iw:IntKind.i64.wrap (h+q)=h+q:=IntWalk.i64_in _ (by omega)
  by_cases be:h+q < -1000000000
  ·have e:r=([],36):=by rw[ah.out,if_pos (.inl be)]
   subst e
   go_wp2
   go_ret2
   exact Zgt 36 z
  by_cases bf:h+q>1000000000
  ·have e:r=([],36):=by rw[ah.out,if_pos (.inr bf)]
   subst e
   go_wp2
   go_ret2
   exact Zgt 36 z
  have er:=ah.out
  rw[if_neg (by omega)] at er
  by_cases aw:h+q=0
  ·obtain⟨m',rfl⟩:∃m',n=m'+1:=⟨n-1,by omega⟩
   have e:r=(l.take p++l.drop (p+1),0):=by rw[er,if_pos aw]
   subst e
   clear er
   have br:IntKind.i64.wrap ((p:Int)+1)=(p:Int)+1:=IntWalk.i64_in _ (by omega)
   have aB:=Hi (ZcL w.heap.size g m' c1 p l aF w4 am hB an aa ac HL G X)
   have ai:Hid ((l.take p++l.drop (p+1)).length=m'):=by rw[Hid,List.length_append,List.length_take,List.length_drop,HL.out];omega
   have aN:m'≤c1:=by omega
   clear hB ac G
   go_wp2_with fail
   refine aB.mono ?_
   rintro e w6 ⟨rfl,a7,a4⟩
   clear C c2
   go_wp2
   go_ret2
   exact Zl5 ai aN aa a7 (z.trans a4)
  ·have bi:(h+q==0)=false:=by simpa using aw
   have e:r=(putQ l p (h+q),0):=by rw[er,if_neg aw]
   subst e
   clear er
   have aZ:=Hi (ZbA am hB an aa ac HL G X (h+q))
   have aW:Hid (Bw w (w4.setCell (Aq g (p*3+2)) (I (h+q)))):=Below.setCell z (p:=Aq g (p*3+2)) am _
   have ai:Hid ((putQ l p (h+q)).length=n):=by rw[Hid,Zet,HL.out]
   have bj:=hB.lt
   have a6:p*3+2<aF.size:=by omega
   obtain⟨_,y0⟩:∃v,w4.cell? ⟨g,p*3+2,none⟩=some v:=⟨_,by rw[hB.cell];exact Array.getElem?_eq_getElem a6⟩
   have u0:=hB.frozen (p*3+2)
   clear hB ac G
   go_wp2
   go_ret2
   exact Zl5 ai an aa aZ aW
 have bd:th=false:=by simpa using ht
 subst bd
 rw[if_neg (by simp),HL.out] at er
 by_cases aG:64≤n
 ·have e:r=([],40):=by rw[er,if_pos aG]
  subst e
  have i5:(64:Int)≤(n:Int):=by omega
  clear er
  go_wp2
  go_ret2
  exact Zgt 40 z
 have e:r=(l.take p++⟨a,i,q⟩::l.drop p,0):=by rw[er,if_neg aG]
 clear er
 obtain⟨zs,ax⟩:=ExY (l.take p++(⟨a,i,q⟩:Lc)::l.drop p)
 rw[←ax] at e
 subst e
 have i5:¬((64:Int)≤(n:Int)):=by omega
 obtain⟨vb,aU⟩:=ExY w4.heap.size
 obtain⟨W6,Y⟩:=ExY (w4.alloc (.cells #[I a,I i,I q] 50))
 have aI:Bk W6 vb 50 #[I a,I i,I q]:=by rw[Y,aU];exact Bk.new _ _ _
 have aH:W6.ownsRow w.heap.size 50 3 (.slice A1 n c1) n (lcs l):=by rw[Y];exact N.alloc _
 have ay:=blA z Y
 have ae:=Hi (ZeE w.heap.size n c1 p vb A1 l ⟨a,i,q⟩ W6 aH HL (by omega) a9 ay.size aI (fun a' a2 bp=>by have:=(ZaP N a' a2).2;omega))
 rw[←ax] at ae
 clear aH aI ax
 go_wp2_with fail
 rw[←Y,←aU]
 refine ae.mono ?_
 rintro e w7 ⟨A3,c3,rfl,h5,h6,a8,a5⟩
 clear C
 have aJ:Bw w w7:=ay.trans a5
 go_wp2
 go_ret2
 exact Zl5 rfl h5 h6 a8 aJ
end P
section
namespace P
section
variable {l T M D:List Lc} {a i:Int}
theorem ZaS.find(h:ZaS l a i T M D):l.find? (fun x=>x.is a i)=M.head?:=by
 obtain⟨n1,n2⟩:=h.no
 have f1:T.find? (fun x=>x.is a i)=none:=List.find?_eq_none.2 fun y hy=>by simp[n1 y hy]
 have f2:D.find? (fun x=>x.is a i)=none:=List.find?_eq_none.2 fun y hy=>by simp[n2 y hy]
 rw[h.eq,List.find?_append,f1,List.find?_append,f2]
 rcases h.mid with rfl|⟨x,rfl,e1,e2⟩
 ·rfl
 ·have:=(is_iff x a i).2 ⟨e1,e2⟩
  simp[this]
theorem ZaS.qty0(h:ZaS l a i T [] D):qtyL l a i=0:=by unfold qtyL;rw[h.find];rfl
theorem ZaS.qty1{x:Lc}(h:ZaS l a i T [x] D):qtyL l a i=x.qty:=by unfold qtyL;rw[h.find];rfl
theorem ZaS.other(h:ZaS l a i T M D){b j:Int}(s:¬(b=a∧j=i)):qtyL l b j=qtyL (T++D) b j:=by
 have fm:M.find? (fun x=>x.is b j)=none:=by
  rcases h.mid with rfl|⟨x,rfl,e1,e2⟩
  ·rfl
  ·have:x.is b j=false:=(is_false x b j).2 fun hc=>s ⟨by omega,by omega⟩
   simp[this]
 unfold qtyL
 rw[h.eq,List.find?_append,List.find?_append,fm,Option.none_or,←List.find?_append]
theorem ZaS.add0(h:ZaS l a i T [] D)(q:Int):addL l a i q=if q < -1000000000∨1000000000<q then([],36) else if q=0 then(l,0) else if 64≤l.length then([],40) else(T++([⟨a,i,q⟩]++D),0):=by
 unfold addL
 rw[h.place.1,h.place.2,h.take,h.drop0]
 rfl
theorem ZaS.add1{x:Lc}(h:ZaS l a i T [x] D)(q:Int):addL l a i q=if q < -1000000000∨1000000000<q then([],36) else if q=0 then(l,0) else
 if x.qty+q < -1000000000∨1000000000<x.qty+q then([],36) else if x.qty+q=0 then(T++([]++D),0) else(T++([{x with qty:=x.qty+q}]++D),0):=by
 unfold addL
 rw[h.place.1,h.place.2,h.take,h.drop1,h.at1,h.set1]
 rfl
end
structure Zmt(l:List Lc)(a i q:Int)(l':List Lc):Prop where
 good:goodB 16 12 l'=true
 qty:qtyL l' a i=qtyL l a i+q
 other:∀p∈l,¬(p.acct=a∧p.instr=i)→qtyL l' p.acct p.instr=p.qty
 back:addL l' a i (-q)=(l,0)
 qs : -1000000000≤q∧q≤1000000000
 hs : -1000000000≤qtyL l a i∧qtyL l a i≤1000000000
theorem kept{l:List Lc}{a i q:Int}(E:goodB 16 12 l=true)(ha:2≤a∧a≤15)(hi:0≤i∧i≤11){l':List Lc}(h:addL l a i q=(l',0)):Zmt l a i q l':=by
 obtain⟨g1,g2,g3⟩:=(good_iff 16 12 l).1 E
 have hs:=good_sorted E
 have C:∀p∈l,qtyL l p.acct p.instr=p.qty:=fun p hp=>by
  obtain⟨T,D,hc⟩:=about_mem hs hp
  exact hc.qty1
 obtain⟨T,M,D,hc⟩:=about_of hs a i
 have z:∀ {M':List Lc},(M'=[]∨∃x:Lc,M'=[x]∧x.acct=a∧x.instr=i)→∀p∈l,¬(p.acct=a∧p.instr=i)→qtyL (T++(M'++D)) p.acct p.instr=p.qty:=fun hm p hp G=>by
  rw[(hc.anew hm).other G,←hc.other G,C p hp]
 rcases hc.mid with rfl|⟨x,rfl,e1,e2⟩
 ·rw[hc.add0] at h
  have N:=hc.qty0
  split at h
  ·cases h
  split at h
  ·rename_i _ hz
   cases h
   subst hz
   exact⟨E,by omega,fun p hp _=>C p hp,by rw[hc.add0];simp,by omega,by omega⟩
  rename_i hb hz
  split at h
  ·cases h
  rename_i X
  cases h
  have hm:([⟨a,i,q⟩]:List Lc)=[]∨∃x:Lc,([⟨a,i,q⟩]:List Lc)=[x]∧x.acct=a∧x.instr=i:=.inr ⟨_,rfl,rfl,rfl⟩
  have hn:=hc.anew hm
  have s:=hc.len
  refine⟨hc.good E hm (fun y hy=>?_) ?_,by rw[hn.qty1,N];exact(Int.zero_add q).symm,z hm,?_,by omega,by omega⟩
  ·rw[List.mem_singleton.1 hy]
   exact decide_eq_true (by dsimp only;omega)
  ·simp at s ⊢
   omega
  ·rw[hn.add1]
   dsimp only
   rw[if_neg (by omega),if_neg (by omega),if_neg (by omega),if_pos (by omega),←hc.eq]
 ·rw[hc.add1] at h
  have J:=hc.qty1
  have U:x∈l:=by rw[hc.eq];simp
  have aa:=of_decide_eq_true (g2 x U)
  have s:=hc.len
  split at h
  ·cases h
  split at h
  ·rename_i _ hz
   cases h
   subst hz
   exact⟨E,by omega,fun p hp _=>C p hp,by rw[hc.add1];simp,by omega,by omega⟩
  rename_i hb hz
  split at h
  ·cases h
  rename_i Y
  split at h
  ·rename_i L
   cases h
   have hm:([]:List Lc)=[]∨∃x:Lc,([]:List Lc)=[x]∧x.acct=a∧x.instr=i:=.inl rfl
   have hn:=hc.anew hm
   refine⟨hc.good E hm (fun y hy=>by cases hy) ?_,by rw[hn.qty0,J];omega,z hm,?_,by omega,by omega⟩
   ·simp at s ⊢
    omega
   ·rw[hn.add0]
    have R:(⟨a,i,-q⟩:Lc)=x:=by
     obtain⟨xa,xi,xq⟩:=x
     dsimp only at e1 e2 L
     rw[←e1,←e2,show -q=xq by omega]
    have Z:(T++([]++D)).length<64:=by simp at s ⊢;omega
    rw[if_neg (by omega),if_neg (by omega),if_neg (by omega),R,←hc.eq]
  ·rename_i L
   cases h
   have hm:([{x with qty:=x.qty+q}]:List Lc)=[]∨∃y:Lc,([{x with qty:=x.qty+q}]:List Lc)=[y]∧y.acct=a∧y.instr=i:=.inr ⟨_,rfl,e1,e2⟩
   have hn:=hc.anew hm
   refine⟨hc.good E hm (fun y hy=>?_) ?_,by rw[hn.qty1,J],z hm,?_,by omega,by omega⟩
   ·rw[List.mem_singleton.1 hy]
    exact decide_eq_true (by dsimp only;omega)
   ·simp at s ⊢
    omega
   ·rw[hn.add1]
    dsimp only
    have e:x.qty+q + -q=x.qty:=by omega
    rw[if_neg (by omega),if_neg (by omega),e,if_neg (by omega),if_neg (by omega),←hc.eq]
end P
end
section
theorem Zhg{s l2:List Nat}(h:s.Nodup)(z:∀x∈s,x∈l2):s.length≤l2.length:=by
 induction s generalizing l2 with
 |nil=>exact Nat.zero_le _
 |cons a t ih=>
  obtain⟨ha,ht⟩:=List.nodup_cons.1 h
  have hm:=z a (List.mem_cons_self ..)
  have h1:=ih ht (l2:=l2.erase a) (fun x hx=>(List.mem_erase_of_ne (fun hc=>ha (by subst hc;exact hx))).2 (z x (List.mem_cons_of_mem _ hx)))
  have h2:=List.length_erase_of_mem hm
  have h3:0<l2.length:=List.length_pos_of_mem hm
  rw[List.length_cons]
  omega
structure ZhC(sum:List Int)(ps:List P.Lc):Prop where
 len:sum.length=192
 good:P.goodB 16 12 ps=true
 at':∀a i:Nat,a<16→i<12→sum.getD (a*12+i) 0=P.qtyL ps a i
def ZhV(x:Int):Bool:=decide (x≠0)
section
variable {sum:List Int} {ps:List P.Lc}
theorem P.good_at{l:List P.Lc}(s:P.goodB 16 12 l=true){p:P.Lc}(z:p∈l):1<p.acct∧p.acct<16∧0≤p.instr∧p.instr<12∧p.qty≠0 ∧ -1000000000≤p.qty∧p.qty≤1000000000:=
 of_decide_eq_true (((P.good_iff 16 12 l).1 s).2.1 p z)
theorem P.qtyL_mem{l:List P.Lc}(s:P.goodB 16 12 l=true){p:P.Lc}(z:p∈l):P.qtyL l p.acct p.instr=p.qty:=by
 obtain⟨T,D,hc⟩:=P.about_mem (P.good_sorted s) z
 exact hc.qty1
theorem P.qtyL_ne{l:List P.Lc}{a i:Int}(h:P.qtyL l a i≠0):∃p∈l,p.acct=a∧p.instr=i:=by
 unfold P.qtyL at h
 cases hf:l.find? (fun x=>x.is a i) with
 |none=>rw[hf] at h;exact absurd rfl h
 |some p=>
  refine⟨p,List.mem_of_find?_eq_some hf,?_⟩
  have:=List.find?_some hf
  exact(P.is_iff p a i).1 this
theorem ZhC.pos(h:ZhC sum ps){p:P.Lc}(s:p∈ps):sum.getD (p.acct.toNat*12+p.instr.toNat) 0=p.qty:=by
 have h1:=P.good_at h.good s
 rw[h.at' _ _ (by omega) (by omega),←P.qtyL_mem h.good s]
 rw[Int.toNat_of_nonneg (by omega),Int.toNat_of_nonneg (by omega)]
theorem ZhC.count(h:ZhC sum ps):sum.countP ZhV=ps.length:=by
 obtain⟨z,s⟩:∃f:P.Lc→Nat,f=fun p=>p.acct.toNat*12+p.instr.toNat:=⟨_,rfl⟩
 obtain⟨N,hN⟩:=ExY ((List.range 192).filter (fun k=>ZhV (sum.getD k 0)))
 have e1:sum.countP ZhV=N.length:=by
  have e:sum=(List.range 192).map (fun k=>sum.getD k 0):=by
   apply List.ext_getElem
   ·simp[h.len]
   ·intro k h1 h2
    simp[List.getD,h1]
  rw[hN,←List.countP_eq_length_filter]
  conv=>lhs;rw[e]
  rw[List.countP_map]
  rfl
 have n1:(ps.map z).Nodup:=by
  have hp:=((P.good_iff 16 12 ps).1 h.good).2.2
  rw[List.nodup_iff_pairwise_ne,List.pairwise_map]
  refine List.Pairwise.imp_of_mem ?_ hp
  intro x y hx hy G hc
  have h1:=P.good_at h.good hx
  have h2:=P.good_at h.good hy
  have h3:=P.cmpL_lt.1 G
  rw[s] at hc
  dsimp only at hc
  omega
 have n2:N.Nodup:=by
  rw[hN]
  exact List.Pairwise.filter _ List.nodup_range
 have m1:∀k∈ps.map z,k∈N:=by
  intro k hk
  obtain⟨p,hp,rfl⟩:=List.mem_map.1 hk
  have h1:=P.good_at h.good hp
  have h2:=h.pos hp
  rw[hN,List.mem_filter,List.mem_range]
  have h3:z p=p.acct.toNat*12+p.instr.toNat:=by rw[s]
  rw[h3]
  refine⟨by omega,?_⟩
  unfold ZhV
  rw[h2]
  exact decide_eq_true h1.2.2.2.2.1
 have m2:∀k∈N,k∈ps.map z:=by
  intro k hk
  rw[hN,List.mem_filter,List.mem_range] at hk
  obtain⟨J,C⟩:=hk
  have E:k=k/12*12+k%12:=by omega
  have h4:=h.at' (k/12) (k%12) (by omega) (by omega)
  rw[←E] at h4
  have h5:P.qtyL ps (k/12:Nat) (k%12:Nat)≠0:=by
   rw[←h4]
   exact of_decide_eq_true C
  obtain⟨p,hp,e1,e2⟩:=P.qtyL_ne h5
  refine List.mem_map.2 ⟨p,hp,?_⟩
  rw[s]
  dsimp only
  omega
 rw[e1]
 have:=Zhg n1 m1
 have:=Zhg n2 m2
 rw[List.length_map] at *
 omega
theorem P.add_other{l z:List P.Lc}{a i q b j:Int}(C:P.goodB 16 12 l=true)(h:P.addL l a i q=(z,0))(s:¬(b=a∧j=i)):P.qtyL z b j=P.qtyL l b j:=by
 obtain⟨T,M,D,hc⟩:=P.about_of (P.good_sorted C) a i
 have key:∀ {M':List P.Lc},(M'=[]∨∃x:P.Lc,M'=[x]∧x.acct=a∧x.instr=i)→P.qtyL (T++(M'++D)) b j=P.qtyL l b j:=fun hm=>by
  rw[(hc.anew hm).other s,←hc.other s]
 rcases hc.mid with rfl|⟨x,rfl,e1,e2⟩
 ·rw[hc.add0] at h
  repeat' split at h
  all_goals cases h
  ·rfl
  ·exact key (.inr ⟨_,rfl,rfl,rfl⟩)
 ·rw[hc.add1] at h
  repeat' split at h
  all_goals cases h
  ·rfl
  ·exact key (.inl rfl)
  ·exact key (.inr ⟨_,rfl,e1,e2⟩)
theorem ZhC.add(h:ZhC sum ps){a i:Nat}(C:2≤a∧a<16)(hi:i<12){q:Int}{s:List P.Lc}(z:P.addL ps a i q=(s,0)):
 ZhC (sum.set (a*12+i) (sum.getD (a*12+i) 0+q)) s ∧ -1000000000≤sum.getD (a*12+i) 0∧sum.getD (a*12+i) 0≤1000000000 ∧ -1000000000≤q∧q≤1000000000:=by
 have hk:=P.kept h.good (by omega) (by omega) z
 have h0:=h.at' a i C.2 hi
 refine⟨⟨(List.length_set ..).trans h.len,hk.good,fun b j hb hj=>?_⟩,?_⟩
 ·by_cases he:b=a∧j=i
  ·obtain⟨rfl,rfl⟩:=he
   have:(sum.set (b*12+j) (sum.getD (b*12+j) 0+q)).getD (b*12+j) 0=sum.getD (b*12+j) 0+q:=by
    have h5:=h.len
    simp only[List.getD]
    rw[List.getElem?_set_self (by omega)]
    rfl
   rw[this,hk.qty,h0]
  ·have h5:¬((b:Int)=(a:Int)∧(j:Int)=(i:Int)):=by omega
   rw[P.add_other h.good z h5,←h.at' b j hb hj]
   have h6:a*12+i≠b*12+j:=by omega
   simp only[List.getD]
   rw[List.getElem?_set_ne h6]
 ·rw[h0]
  exact⟨hk.hs.1,hk.hs.2,hk.qs.1,hk.qs.2⟩
end
end
namespace O
def Zh6(a i:Int)(x:Lc):Int:=if x.acct=a∧x.instr=i∧x.qty<0 then -x.qty else 0
def sellS(l:List Lc)(a i:Int):Nat→Int
 |0=>0
 |k+1=>sellS l a i k+Zh6 a i (l.getD k default)
theorem sellS_bounds{l:List Lc}(a i:Int)(h:∀j,j<l.length→fitsQ (l.getD j default).qty=true):∀k,k≤l.length→0≤sellS l a i k∧sellS l a i k≤1000000000*(k:Int):=by
 intro k
 induction k with
 |zero=>exact fun _=>⟨Int.le_refl _,by simp[sellS]⟩
 |succ k ih=>
  intro hk
  have h1:=ih (by omega)
  have h2:=of_decide_eq_true (h k (by omega))
  unfold sellS Zh6
  push_cast
  split<;>omega
theorem selling_any(A:Option Addr)(n c:Nat)(l:List Lc)(a i:Int)(w:World)(G:∀j,j<l.length→fitsQ (l.getD j default).qty=true)(Z:n≤1000000)(X:Rd w w.heap.size 5 A n (lcs l)):
 Calls prog 106 #[.slice A n c,I a,I i] w fun e w'=>e=.returned (I (sellS l a i l.length))∧Bw w w':=by
 have hl:l.length=n:=by have:=X.1;rw[lcs_len] at this;omega
 have N:=Hi (sellS_bounds a i G)
 rw[hl]
 have HL:=Hi hl
 have HR:=Hi X
 have HF:=Hi G
 clear hl X G
 go_enter func106,ntmps106
 go_wp2
 go_loopw [7,12] (fun s v wr=>∃k:Nat,k≤n∧v=I k∧s=I (sellS l a i k)∧Bw w wr) (fun _ v _=>n-(intOf v).toNat)
 case atStart=>exact⟨0,Nat.zero_le _,rfl,rfl,Below.refl _ _⟩
 case round=>
  obtain⟨k,hk,rfl,rfl,hb⟩:=hrel
  have HB:=Hi hb
  clear hb
  rename World=>V
  have E:=N.out k (by have:=HL.out;omega)
  obtain⟨s,hs⟩:=ExY (sellS l a i k)
  rw[←hs] at E ⊢
  by_cases Y:k<n
  ·have L:k<l.length:=by have:=HL.out;omega
   have hq:=of_decide_eq_true (HF.out k L)
   have C:sellS l a i (k+1)=s+Zh6 a i (l.getD k default):=by rw[hs];rfl
   obtain⟨a0,hA,R,c0,c1,c2,c3,c4⟩:=rd_loc (HR.below HB) L
   subst hA
   obtain⟨⟨xa,xd,xi,xq,xp⟩,hx⟩:∃x,x=l[k]:=⟨_,rfl⟩
   rw[←hx] at c0 c1 c2 c3 c4
   have hX:l.getD k default=⟨xa,xd,xi,xq,xp⟩:=by rw[hx];exact Zaf L
   rw[hX] at C hq
   dsimp only at c0 c1 c2 c3 c4 hq
   have J:=Hi C
   clear hx R hX hs C
   have i1:(k:Int)<(n:Int):=by omega
   have i2:(0:Int)≤(k:Int):=by omega
   have i3:IntKind.i64.wrap ((k:Int)+1)=(k:Int)+1:=IntWalk.i64_in _ (by omega)
   by_cases ha:xa=a
   ·by_cases hi:xi=i
    ·by_cases hz:xq<0
     ·have e:sellS l a i (k+1)=s-xq:=by rw[J.out];unfold Zh6;rw[if_pos ⟨ha,hi,hz⟩];show s + -xq=s-xq;omega
      have HE:=Hi e
      have i4:IntKind.i64.wrap (s-xq)=s-xq:=IntWalk.i64_in _ (by omega)
      subst ha hi
      clear e hq E
      go_wp2
      exact⟨⟨k+1,by omega,by push_cast;rfl,by rw[HE.out],HB.alloc HB.size _⟩,by simp only[intOf];omega⟩
     ·have e:sellS l a i (k+1)=s:=by rw[J.out];unfold Zh6;rw[if_neg (fun h=>hz h.2.2)];exact Int.add_zero s
      have HE:=Hi e
      subst ha hi
      clear e hq E
      go_wp2
      exact⟨⟨k+1,by omega,by push_cast;rfl,by rw[HE.out],HB.alloc HB.size _⟩,by simp only[intOf];omega⟩
    ·have e:sellS l a i (k+1)=s:=by rw[J.out];unfold Zh6;rw[if_neg (fun h=>hi h.2.1)];exact Int.add_zero s
     have HE:=Hi e
     subst ha
     clear e hq E
     go_wp2
     exact⟨⟨k+1,by omega,by push_cast;rfl,by rw[HE.out],HB.alloc HB.size _⟩,by simp only[intOf];omega⟩
   ·have e:sellS l a i (k+1)=s:=by rw[J.out];unfold Zh6;rw[if_neg (fun h=>ha h.1)];exact Int.add_zero s
    have HE:=Hi e
    clear e hq E
    go_wp2
    exact⟨⟨k+1,by omega,by push_cast;rfl,by rw[HE.out],HB.alloc HB.size _⟩,by simp only[intOf];omega⟩
  ·have i3:¬((k:Int)<(n:Int)):=by omega
   have U:k=n:=by omega
   subst U
   have HS:=Hi hs
   clear hs E
   go_wp2
   go_ret
   exact⟨congrArg (fun z=>Ending.returned (Value.int .i64 z)) HS,HB⟩
end O
end Go.Proofs.YtdefojlkofnloaaGreatDoor
