/- A part of the proof of CorePositions: for every input, no condition. -/
import Derived.Test.YtdefojlkofnloaaGreatDoorZa06
set_option maxRecDepth 100000
set_option maxHeartbeats 8000000
set_option linter.unusedVariables false
set_option linter.unusedSimpArgs false
namespace Go.Proofs.YtdefojlkofnloaaGreatDoor
open Go.RowKit Go.Proofs.Tryz
namespace O
theorem drop_any(A:Option Addr)(n c:Nat)(l:List Lc)(a i:Int)(w:World)(ab:Sorted l)(hn:n≤1000000)(hr:Rd w w.heap.size 5 A n (lcs l)):
 Calls prog 50 #[.slice A n c,I a,I i] w (LOut w (dropL l a i)):=by
 have hl:l.length=n:=by have:=hr.1;rw[lcs_len] at this;omega
 obtain⟨r,J⟩:=ExY (dropL l a i)
 rw[←J]
 have HF:=find_any A n c l a i w (by unfold maxLen;omega) hr
 rw[findL_sorted ab] at HF
 have s:=fun h=>there_lt (l:=l) (x:=⟨a,i,0,0,0⟩) h
 have C:=J
 unfold dropL at C
 obtain⟨p,hp⟩:=ExY (place l ⟨a,i,0,0,0⟩)
 obtain⟨th,L⟩:=ExY (thereB l ⟨a,i,0,0,0⟩)
 rw[←hp,←L] at HF C
 rw[←hp,←L] at s
 have ad:th=true→p<n:=fun ht=>by have:=s ht;omega
 have U:=Hi C
 have ah:=Hi hr
 have HL:=Hi hl
 have af:=Hi HF
 clear J ab hr hl hp L s C HF
 go_enter func50,ntmps50
 go_wp2_with fail
 refine af.mono ?_
 rintro e w1 ⟨rfl,G⟩
 cases th with
 |false=>
  have e:r=([],34):=by rw[U.out,if_neg (by simp)]
  subst e
  rw[if_neg (by simp)]
  go_wp2
  go_ret2
  exact Zgt 34 G
 |true=>
 rw[if_pos rfl]
 have an:=ad rfl
 obtain⟨m',rfl⟩:∃m',n=m'+1:=⟨n-1,by omega⟩
 have e:r=(l.take p++l.drop (p+1),0):=by rw[U.out,if_pos rfl]
 subst e
 have i1:(0:Int)≤(p:Int):=by omega
 have aq:¬((p:Int)<0):=by omega
 have i2:(p:Int)<(m':Int)+1:=by omega
 have z:=Hi G
 clear G
 go_wp2_with fail
 refine(cloneL_any A (m'+1) c (lcs l) w1 (lcs_one l) (by omega) ((ah.below z).mono z.size)).mono ?_
 rintro e w3 ⟨A1,c1,rfl,ao,ap,aa,X⟩
 have R:Hid (w3.ownsRow w.heap.size 45 5 (.slice A1 (m'+1) c1) (m'+1) (lcs l)):=Zap aa z.size
 have ae:=blT z X
 obtain⟨g0,rfl⟩:∃g0,A1=some g0:=by
  rcases A1 with _|g0
  ·rcases R.2 with⟨_,h0⟩|⟨_,_,_,hv,_⟩
   ·omega
   ·cases hv
  ·exact⟨g0,rfl⟩
 obtain⟨g,ai,rfl,ak,hB,al,Y,ac,E⟩:=ZcH R
 have au:IntKind.i64.wrap ((p:Int)+1)=(p:Int)+1:=IntWalk.i64_in _ (by omega)
 have N:=Hi (ZcL w.heap.size g m' c1 p l ai w3 ak hB al Y ac HL E an)
 have ag:Hid ((l.take p++l.drop (p+1)).length=m'):=by rw[Hid,List.length_append,List.length_take,List.length_drop,HL.out];omega
 have Z:m'≤c1:=by omega
 clear hB ac E aa X
 go_wp2_with fail
 refine N.mono ?_
 rintro e w6 ⟨rfl,am,aj⟩
 go_wp2
 go_ret2
 exact Zl5 ag Z Y am (ae.trans aj)
end O
end Go.Proofs.YtdefojlkofnloaaGreatDoor
