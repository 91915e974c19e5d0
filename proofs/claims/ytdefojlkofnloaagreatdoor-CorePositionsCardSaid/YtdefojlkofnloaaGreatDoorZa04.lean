/- A part of the proof of CorePositions: for every input, no condition. -/
import Derived.Test.YtdefojlkofnloaaGreatDoorZa02
import Derived.BigQuiet
import Derived.Deep.QuietTactic
import Derived.Laws.IdiomCopy
import Derived.Lib.SliceRun
import Derived.Shelf.RegionOpenPlain
set_option maxRecDepth 100000
set_option maxHeartbeats 8000000
set_option linter.unusedVariables false
set_option linter.unusedSimpArgs false
namespace Go.Proofs.YtdefojlkofnloaaGreatDoor
open Go.RowKit Go.Proofs.Tryz
namespace L
def ow(cur:Array Value)(o:Nat):List Value→Array Value
 |[]=>cur
 |v::r=>ow (cur.setIfInBounds o v) (o+1) r
theorem Zbv(z:List Value):∀(s:Array Value) (o:Nat),(ow s o z).size=s.size:=by
 induction z with
 |nil=>exact fun _ _=>rfl
 |cons v r ih=>exact fun s o=>by rw[ow,ih];simp
theorem Zbu(z:List Value):∀(s:Array Value) (o:Nat),o+z.length≤s.size→(ow s o z).toList=s.toList.take o++(z++s.toList.drop (o+z.length)):=by
 induction z with
 |nil=>intro s o _;simp[ow]
 |cons v r ih=>
  intro s o h
  simp only[List.length_cons] at h
  rw[ow,ih _ _ (by simp;omega)]
  simp only[Array.toList_setIfInBounds,List.length_cons]
  have e1:(s.toList.set o v).take (o+1)=s.toList.take o++[v]:=by
   rw[List.take_set,List.take_add_one]
   rw[List.getElem?_eq_getElem (by simp;omega)]
   simp only[Option.toList_some]
   rw[List.set_append_right _ _ (by simp;omega)]
   simp
   rw[Nat.min_eq_left (by omega)]
   simp
  have e2:(s.toList.set o v).drop (o+1+r.length)=s.toList.drop (o+(r.length+1)):=by
   rw[List.drop_set_of_lt (by omega)]
   congr 1
   omega
  rw[e1,e2]
  simp
theorem Bk.cells{t:TypeId}{g:Nat}(s:List Value):∀ {w:World} {cur:Array Value} (o:Nat),Bk w g t cur→Bk (w.setCells g o s) g t (ow cur o s):=by
 induction s with
 |nil=>exact fun _ h=>h
 |cons v r ih=>exact fun o h=>by rw[World.setCells];exact ih _ (h.set o v)
theorem Below.cells{B g:Nat}(z:B≤g)(s:List Value):∀ {w W:World} (o:Nat),Below B w W→Below B w (W.setCells g o s):=by
 induction s with
 |nil=>exact fun _ h=>h
 |cons v r ih=>exact fun o h=>by rw[World.setCells];exact ih _ (Below.setCell h (p:=Aq g o) z v)
theorem ZcH{w:World}{base n c:Nat}{a:Addr}{xs:List Value}(h:w.ownsRow base 72 3 (.slice (some a) n c) n xs):∃g s,a=(Aq g 0)∧base≤g∧Bk w g 72 s∧n≤c∧c≤maxLen∧s.size=c*3∧s.toList.take (n*3)=xs:=by
 rcases h.2 with⟨hv,_⟩|⟨g,z,s,hv,hb,hh,h1,h2,h3,h4⟩
 ·cases hv
 ·injection hv with a1 a2 a3
  injection a1 with a1
  subst a1 a3
  exact⟨g,s,rfl,hb,hh,h1,h2,h3,h4⟩
theorem ZbO{w:World}{base n c g:Nat}{s:Array Value}{l:List Lc}(J:base≤g)(L:Bk w g 72 s)(z:n≤c)(C:c≤maxLen)(E:s.size=c*3)(N:l.length=n)(G:s.toList.take (n*3)=lcs l):w.ownsRow base 72 3 (.slice (some (Aq g 0)) n c) n (lcs l):=
 ⟨by rw[lcs_len,N],.inr ⟨g,c,s,rfl,J,L,z,C,E,G⟩⟩
theorem Zby(l:List Lc)(p:Nat):(lcs l).take (p*3)=lcs (l.take p):=by
 induction l generalizing p with
 |nil=>simp[lcs]
 |cons a l ih=>
  have e:lcs (a::l)=a.cells++lcs l:=rfl
  cases p with
  |zero=>simp[lcs]
  |succ p=>
   have e2:lcs ((a::l).take (p+1))=a.cells++lcs (l.take p):=rfl
   rw[e,e2,←ih p,List.take_append]
   have hc:a.cells.length=3:=rfl
   rw[List.take_of_length_le (by omega),hc]
   congr 2
   omega
theorem Zb0(l:List Lc)(p:Nat):(lcs l).drop (p*3)=lcs (l.drop p):=by
 have h1:=Zby l p
 have h2:lcs l=lcs (l.take p)++lcs (l.drop p):=by rw[←lcs_append,List.take_append_drop]
 have h3:(lcs l).take (p*3)++(lcs l).drop (p*3)=lcs (l.take p)++lcs (l.drop p):=by rw[List.take_append_drop,←h2]
 rw[h1] at h3
 exact List.append_cancel_left h3
def ZeY:List Value:=[I 0,I 0,I 0]
theorem Zce(w:World)(g o c:Nat)(C:∀j,j<3→(w.cell? (Aq g (o+j))).isSome=true)(E:∀j,j<3→w.frozen? (Aq g (o+j))=false)(G:TypeId):
 (Builtin.clear_ #[35] G #[.slice (some (Aq g o)) 1 c]).run prog w=.ok (.tuple #[]) (w.setCells g o ZeY):=by
 have hv:=Tryz.zeroValue72
 have s:=run_storeCells_cells (P:=prog) g o ZeY 0 w (by simpa[ZeY] using C) (by simpa[ZeY] using E) (by intro v z;simp[ZeY] at z;subst z;rfl)
 simp only[Nat.add_zero] at s
 have hz:(Builtin.zeroCells (Value.agg #[I 0,I 0,I 0]).cells 1).toList=ZeY:=by kernel_rfl
 simp[Builtin.clear_,run_underlying underlying35,hv,hz,s]
theorem ZcL(base g m c p:Nat)(l:List Lc)(E:Array Value)(w:World)(hb:base≤g)(hB:Bk w g 72 E)(aj:m+1≤c)(ad:c≤maxLen)(G:E.size=c*3)(hl:l.length=m+1)(ht:E.toList.take ((m+1)*3)=lcs l)(hp:p<m+1):
 Calls prog 133 #[.slice (some (Aq g 0)) (m+1) c,I p,I ((p:Int)+1)] w fun e w'=>e=.returned (.slice (some (Aq g 0)) m c)∧w'.ownsRow base 72 3 (.slice (some (Aq g 0)) m c) m (lcs (l.take p++l.drop (p+1)))∧Below base w w':=by
 unfold maxLen at ad
 obtain⟨s,z⟩:=ExY (lcs (l.drop (p+1)))
 have C:s.length=(m-p)*3:=by rw[z,lcs_len,List.length_drop,hl];congr 1;omega
 have J:∀k,k<c*3→∃u,w.cell? (Aq g k)=some u:=fun k hk=>⟨E[k]'(by omega),by rw[hB.cell];simp[G,hk]⟩
 have L:∀t u,s[t]?=some u→w.cell? (Aq g ((p+1)*3+t))=some u:=by
  intro t u hu
  have af:t<s.length:=(List.getElem?_eq_some_iff.1 hu).1
  rw[hB.cell,←Array.getElem?_toList]
  have e:(E.toList.take ((m+1)*3))[(p+1)*3+t]?=some u:=by
   rw[ht,←List.getElem?_drop,Zb0,←z]
   exact hu
  rwa [List.getElem?_take_of_lt (by omega)] at e
 obtain⟨A9,ah,ab⟩:∃A9:Addr,(if c=p+1 then some (⟨g,0,none⟩:Addr) else some ⟨g,(p+1)*3,none⟩)=some A9∧Hid (∀t u,s[t]?=some u→w.drew.cell? (A9.add t)=some u):=by
  by_cases h:c=p+1
  ·refine⟨(Aq g 0),by rw[if_pos h],fun t u hu=>?_⟩
   have h0:s.length=0:=by rw[C];omega
   rw[List.length_eq_zero_iff.1 h0] at hu
   simp at hu
  ·refine⟨(Aq g ((p+1)*3)),by rw[if_neg h],fun t u hu=>?_⟩
   have e:((Aq g ((p+1)*3)):Addr).add t=(Aq g ((p+1)*3+t)):=by
    unfold Addr.add
    split
    ·simp_all
    ·rfl
   rw[e]
   exact L t u hu
 have s2:Hid (∀u∈s,u.oneCell'=true):=by rw[z];exact lcs_one _
 have s1:Hid (s.length=(m-p)*3):=C
 have s3:Hid (∀t,t<s.length→(w.drew.cell? (Aq g (0+p*3+t))).isSome=true∧w.drew.frozen? (Aq g (0+p*3+t))=false):=by
  intro t af
  obtain⟨u,hu⟩:=J (0+p*3+t) (by omega)
  exact⟨by show(w.cell? _).isSome=true;rw[hu];rfl,hB.frozen _⟩
 obtain⟨i0,ae,ak,ag,al⟩:=info_parts info72
 obtain⟨W1,U⟩:=ExY (w.drew.setCells g (0+p*3) s)
 have R:Bk W1 g 72 (ow E (0+p*3) s):=by rw[U];exact Bk.cells s _ hB.drew
 have N:(ow E (0+p*3) s).size=c*3:=by rw[Zbv];exact G
 have Y:Below base w W1:=by rw[U];exact Below.cells hb s _ (Below.refl _ _).drew
 have ai:∀ty,(Builtin.clear_ #[35] ty #[.slice (some (Aq g (m*3))) 1 (c-m)]).run prog W1=.ok (.tuple #[]) (W1.setCells g (m*3) ZeY):=fun ty=>
  Zce W1 g _ _ (fun j hj=>by rw[R.cell,Array.getElem?_eq_getElem (by rw[N];omega)];rfl) (fun j hj=>R.frozen _) ty
 have aa:(W1.setCells g (m*3) ZeY).ownsRow base 72 3 (.slice (some (Aq g 0)) m c) m (lcs (l.take p++l.drop (p+1))):=by
  refine ZbO hb (Bk.cells ZeY _ R) (by omega) (by unfold maxLen;omega) (by rw[Zbv];exact N) (by rw[List.length_append,List.length_take,List.length_drop];omega) ?_
  rw[Zbu _ _ _ (by rw[N];simp[ZeY];omega),List.take_append_of_le_length (by rw[List.length_take,Array.length_toList,N];omega),List.take_take,Nat.min_self,
   Zbu _ _ _ (by rw[G,C];omega),←List.append_assoc,List.take_append_of_le_length (by rw[List.length_append,List.length_take,Array.length_toList,G,C];omega),
   List.take_of_length_le (by rw[List.length_append,List.length_take,Array.length_toList,G,C];omega),lcs_append,←z]
  congr 1
  rw[Nat.zero_add,←Zby,←ht,List.take_take,Nat.min_eq_left (by omega)]
 have ac:=Hi aa
 have Z:Hid (Below base w (W1.setCells g (m*3) ZeY)):=Below.cells hb ZeY _ Y
 have X:Hid (W1=w.drew.setCells g (0+p*3) s):=U
 clear aa Y R N U L J C z ht hl G hB
 have k1:p+(m-p)=m:=by omega
 have am:(m:Int)≤(c:Int):=by omega
 have an:(0:Int)≤(m:Int):=by omega
 have ao:(m:Int)≤(m:Int)+1:=by omega
 have ap:((m:Int)+1).toNat=m+1:=by omega
 have aq:¬(c=m):=by omega
 have j1:(0:Int)≤(p:Int):=by omega
 have j2:(p:Int)≤(p:Int)+1:=by omega
 have j3:(p:Int)+1≤((m:Int)+1):=by omega
 have j4:((m:Int)+1)≤(c:Int):=by omega
 have j5:((p:Int)+1).toNat=p+1:=by omega
 have j6:¬((p:Int)=(p:Int)+1):=by omega
 have j7:(p:Int)≤(c:Int):=by omega
 have j8:(p:Int)+1≤(c:Int):=by omega
 have j9:(0:Int)≤(p:Int)+1:=by omega
 go_enter func133,ntmps133
 go_wp2_with fail
 go_region_law (refine step_append_room rfl (.tmp 22) (.tmp 25) 35 rfl 72 i0 3 underlying35 ae ag g 0 p c (by simp[Act.eval,Act.put]) A9 (m-p) (c-(p+1)) s (by simp[Act.eval,Act.put]) s1 ab s2 (by omega) s3 ?_;rw[←X.out])
 all_goals
  go_wp2
  go_ret
  exact⟨rfl,ac,Z⟩
end L
end Go.Proofs.YtdefojlkofnloaaGreatDoor
