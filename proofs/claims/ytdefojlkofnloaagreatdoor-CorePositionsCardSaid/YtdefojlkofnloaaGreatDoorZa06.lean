/- A part of the proof of CorePositions: for every input, no condition. -/
import Derived.Test.YtdefojlkofnloaaGreatDoorZa05
set_option maxRecDepth 100000
set_option maxHeartbeats 8000000
set_option linter.unusedVariables false
set_option linter.unusedSimpArgs false
namespace Go.Proofs.YtdefojlkofnloaaGreatDoor
open Go.RowKit Go.Proofs.Tryz
namespace O
def findL(l:List Lc)(a i:Int):Int:=if(l.findIdx fun x=>x.is a i)<l.length then((l.findIdx fun x=>x.is a i:Nat):Int) else -1
theorem Zg4{l:List Lc}{a i:Int}{k:Nat}(z:k<l.length)(s:∀j,j<k→(l.getD j default).is a i=false)(h:(l.getD k default).is a i=true):findL l a i=(k:Int):=by
 have e:l.findIdx (fun x=>x.is a i)=k:=by
  rw[List.findIdx_eq z]
  rw[Zaf z] at h
  refine⟨h,fun j hj=>?_⟩
  have:=s j hj
  rw[Zaf (by omega)] at this
  simpa using this
 unfold findL
 rw[e,if_pos z]
theorem ZfX{l:List Lc}{a i:Int}(s:∀j,j<l.length→(l.getD j default).is a i=false):findL l a i = -1:=by
 have e:l.findIdx (fun x=>x.is a i)=l.length:=by
  rw[List.findIdx_eq_length]
  intro x hx
  obtain⟨j,hj,rfl⟩:=List.mem_iff_getElem.1 hx
  have:=s j hj
  rwa [Zaf hj] at this
 unfold findL
 rw[e,if_neg (Nat.lt_irrefl _)]
theorem findL_sorted{l:List Lc}(s:Sorted l)(a i:Int):findL l a i=if thereB l ⟨a,i,0,0,0⟩=true then((place l ⟨a,i,0,0,0⟩:Nat):Int) else -1:=by
 have hk:=fun j (hj:j<l.length)=>s.key ⟨a,i,0,0,0⟩ hj
 split
 ·rename_i ht
  have hp:=there_lt ht
  refine Zg4 hp (fun j hj=>?_) ((hk _ hp).2 ⟨rfl,ht⟩)
  cases hc:(l.getD j default).is a i with
  |false=>rfl
  |true=>have:=((hk j (by omega)).1 hc).1;omega
 ·rename_i ht
  refine ZfX fun j hj=>?_
  cases hc:(l.getD j default).is a i with
  |false=>rfl
  |true=>exact absurd ((hk j hj).1 hc).2 ht
theorem Zlc(x:Lc)(a i:Int)(b1 b2:Nat)(w:World)(s:w.cell? (Aq b1 0)=some (I a))(z:w.cell? (Aq b2 0)=some (I i)):
 Calls prog 113 #[x.val,Pt b1,Pt b2] w fun e w'=>e=.returned (.bool (x.is a i))∧Bw w w':=by
 obtain⟨r,hr⟩:=ExY (x.is a i)
 rw[←hr]
 have HR:=Hi hr
 clear hr
 have g1:=World.block_lt_of_cell? _ _ s
 have g2:=World.block_lt_of_cell? _ _ z
 dsimp only at g1 g2
 unfold Lc.val
 by_cases ha:x.acct=a
 ·by_cases hi:x.id=i
  ·have e:r=true:=by rw[HR.out];simp[Lc.is,ha,hi]
   subst e
   go_enter func113,ntmps113
   go_wp2
   go_ret
   exact⟨rfl,(Below.refl w.heap.size w).alloc (Nat.le_refl _) _⟩
  ·have e:r=false:=by rw[HR.out];simp[Lc.is,hi]
   have C:(x.id==i)=false:=by simpa using hi
   subst e
   go_enter func113,ntmps113
   go_wp2
   go_ret
   exact⟨rfl,(Below.refl w.heap.size w).alloc (Nat.le_refl _) _⟩
 ·have e:r=false:=by rw[HR.out];simp[Lc.is,ha]
  subst e
  go_enter func113,ntmps113
  go_wp2
  go_ret
  exact⟨rfl,(Below.refl w.heap.size w).alloc (Nat.le_refl _) _⟩
theorem Zfs(A:Option Addr)(n c:Nat)(l:List Lc)(a i:Int)(b1 b2:Nat)(w:World)(hn:n≤maxLen)(hr:Rd w w.heap.size 5 A n (lcs l))(Z:Bk w b1 3 #[I a])(h2:Bk w b2 3 #[I i]):
 Calls prog 112 #[.slice A n c,.func (.func 113) #[] #[Pt b1,Pt b2]] w fun e w'=>e=.returned (I (findL l a i))∧Bw w w':=by
 have hl:l.length=n:=by have:=hr.1;rw[lcs_len] at this;omega
 have HL:=Hi hl
 have HR:=Hi hr
 have H1:=Hi Z
 have H2:=Hi h2
 clear hl hr Z h2
 unfold maxLen at hn
 obtain⟨r,s⟩:=ExY (findL l a i)
 rw[←s]
 have HE:=Hi s
 clear s
 go_enter func112,ntmps112
 go_wp2
 go_loopw [5,8] (fun u v wr=>∃k:Nat,k≤n∧v=I k∧(∀j,j<k→(l.getD j default).is a i=false)∧Bw w wr) (fun _ v _=>n-(intOf v).toNat)
 case atStart=>exact⟨0,Nat.zero_le _,rfl,fun j hj=>absurd hj (Nat.not_lt_zero _),Below.refl _ _⟩
 case round=>
  obtain⟨k,hk,rfl,z,hb⟩:=hrel
  have HP:=Hi z
  have HB:=Hi hb
  clear z hb
  rename World=>V
  by_cases ac:k<n
  ·have C:k<l.length:=by have:=HL.out;omega
   obtain⟨a0,hA,aa,c0,c1,c2,c3,c4⟩:=rd_loc (HR.below HB) C
   subst hA
   obtain⟨⟨N,R,U,Y,X⟩,hx⟩:∃x,x=l[k]:=⟨_,rfl⟩
   rw[←hx] at c0 c1 c2 c3 c4
   have HX:Hid (l.getD k default=⟨N,R,U,Y,X⟩):=by rw[hx];exact Zaf C
   dsimp only at c0 c1 c2 c3 c4
   clear hx aa
   have i1:(k:Int)<(n:Int):=by omega
   have i2:(0:Int)≤(k:Int):=by omega
   have i3:IntKind.i64.wrap ((k:Int)+1)=(k:Int)+1:=IntWalk.i64_in _ (by omega)
   have k1:=((H1.below HB H1.lt).one).1
   have k2:=((H2.below HB H2.lt).one).1
   have hc:=Zlc ⟨N,R,U,Y,X⟩ a i b1 b2 V k1 k2
   rw[←HX.out] at hc
   obtain⟨rb,E⟩:=ExY ((l.getD k default).is a i)
   rw[←E] at hc
   rw[HX.out] at hc
   unfold Lc.val at hc
   have HC:=Hi hc
   have J:=Hi E
   clear hc E k1 k2
   go_wp2_with fail
   refine HC.mono ?_
   rintro e w2 ⟨rfl,L⟩
   have G:=blT HB L
   clear L c0 c1 c2 c3 c4
   cases rb with
   |true=>
    have e:r=(k:Int):=by rw[HE.out,Zg4 C HP.out J.symm]
    subst e
    go_wp2
    go_ret
    exact⟨rfl,G⟩
   |false=>
    go_wp2
    refine⟨⟨k+1,by omega,by push_cast;rfl,fun j hj=>?_,G⟩,by simp only[intOf];omega⟩
    rcases Nat.lt_or_eq_of_le (Nat.lt_succ_iff.1 hj) with Z|rfl
    ·exact HP.out j Z
    ·exact J.symm
  ·have i3:¬((k:Int)<(n:Int)):=by omega
   have ab:k=n:=by omega
   have e:r = -1:=by
    rw[HE.out]
    exact ZfX fun j hj=>HP.out j (by have:=HL.out;omega)
   subst e
   go_wp2
   go_ret
   exact⟨rfl,HB⟩
theorem find_any(A:Option Addr)(n c:Nat)(l:List Lc)(a i:Int)(w:World)(L:n≤maxLen)(J:Rd w w.heap.size 5 A n (lcs l)):
 Calls prog 53 #[.slice A n c,I a,I i] w fun e w'=>e=.returned (I (findL l a i))∧Bw w w':=by
 obtain⟨W,hW⟩:=ExY ((w.alloc (.cells #[I a] 3)).alloc (.cells #[I i] 3))
 have C:Bk W w.heap.size 3 #[I a]:=by rw[hW];exact(Bk.new w _ _).alloc _
 have E:Bk W (w.heap.size+1) 3 #[I i]:=by
  rw[hW];have:=Bk.new (w.alloc (.cells #[I a] 3)) 3 #[I i];simpa using this
 have s:Hid (Bw w W):=by rw[hW];exact((Below.refl _ w).alloc (Nat.le_refl _) _).alloc (by simp) _
 have HI:=Hi (Zfs A n c l a i w.heap.size (w.heap.size+1) W L ((J.below s).mono s.size) C E)
 obtain⟨r,z⟩:=ExY (findL l a i)
 rw[←z] at HI ⊢
 clear C E J z
 go_enter func53,ntmps53
 go_upto_region 1 with(fail)
 rw[←hW]
 clear hW
 go_wp2_with fail
 refine HI.mono ?_
 rintro e w2 ⟨rfl,G⟩
 go_wp2
 go_ret
 exact⟨rfl,s.trans (G.mono s.size)⟩
end O
namespace O
def putL(l:List Lc)(x:Lc):List Lc×Int:=
 if thereB l x=true then([],35) else if 32≤l.length then([],40) else(l.take (place l x)++x::l.drop (place l x),0)
def dropL(l:List Lc)(a i:Int):List Lc×Int:=
 if thereB l ⟨a,i,0,0,0⟩=true then(l.take (place l ⟨a,i,0,0,0⟩)++l.drop (place l ⟨a,i,0,0,0⟩+1),0) else([],34)
def cutL(l:List Lc)(a i q:Int):List Lc×Int×Int:=
 if thereB l ⟨a,i,0,0,0⟩=true then
  if q<1∨Zef (l.getD (place l ⟨a,i,0,0,0⟩) default).qty<q then([],0,36)
  else if Zef (l.getD (place l ⟨a,i,0,0,0⟩) default).qty=q then(l.take (place l ⟨a,i,0,0,0⟩)++l.drop (place l ⟨a,i,0,0,0⟩+1),0,0)
  else(putQ l (place l ⟨a,i,0,0,0⟩) (if(l.getD (place l ⟨a,i,0,0,0⟩) default).qty<0 then(l.getD (place l ⟨a,i,0,0,0⟩) default).qty+q else(l.getD (place l ⟨a,i,0,0,0⟩) default).qty-q),Zef (l.getD (place l ⟨a,i,0,0,0⟩) default).qty-q,0)
 else([],0,34)
def COut(w:World)(r:List Lc×Int×Int)(e:Ending)(w':World):Prop:=
 ∃A c,e=.returned (.tuple #[.slice A r.1.length c,I r.2.1,I r.2.2])∧r.1.length≤c∧c≤maxLen∧w'.ownsRow w.heap.size 45 5 (.slice A r.1.length c) r.1.length (lcs r.1)∧Bw w w'
theorem ZlQ{w w':World}(er:Int)(s:Bw w w'):COut w ([],0,er) (.returned (.tuple #[.slice none 0 0,I 0,I er])) w':=
 ⟨none,0,rfl,Nat.le_refl _,Nat.zero_le _,World.ownsRow_nil _ _ _ _,s⟩
theorem ZmJ{w w':World}{A:Option Addr}{c m:Nat}{z:List Lc}{v:Int}(J:z.length=m)(G:m≤c)(s:c≤maxLen)(C:w'.ownsRow w.heap.size 45 5 (.slice A m c) m (lcs z))(E:Bw w w'):
 COut w (z,v,0) (.returned (.tuple #[.slice A m c,I v,I 0])) w':=by
 subst J
 exact⟨A,c,rfl,G,s,C,E⟩
theorem put_any(A:Option Addr)(n c:Nat)(l:List Lc)(x:Lc)(w:World)(ao:Sorted l)(hn:n≤1000000)(hr:Rd w w.heap.size 5 A n (lcs l)):
 Calls prog 107 #[.slice A n c,x.val] w (LOut w (putL l x)):=by
 have hl:l.length=n:=by have:=hr.1;rw[lcs_len] at this;omega
 obtain⟨r,ab⟩:=ExY (putL l x)
 rw[←ab]
 have HR:=Hi ab
 have ai:=Hi ao
 have HL:=Hi hl
 obtain⟨w0,L⟩:=ExY (w.alloc (.cells #[I x.acct,I x.id,I x.instr,I x.qty,I x.price] 45))
 obtain⟨bx,Z⟩:=ExY w.heap.size
 have aw:=bkW L Z
 have C:=blB L
 have ax:Hid (Rd w0 w0.heap.size 5 A n (lcs l)):=(hr.below C).mono C.size
 clear ab ao hr hl
 unfold Lc.val
 go_enter func107,ntmps107
 go_upto_region 1 with(fail)
 rw[←L,←Z]
 clear L Z
 go_wp2_with fail
 refine(cloneL_any A n c (lcs l) w0 (lcs_one l) (by omega) ax).mono ?_
 rintro e w1 ⟨A1,c1,rfl,aA,aB,an,Y⟩
 have N:=bkN aw Y
 have au:=blT C Y
 have X:Hid (w1.ownsRow w.heap.size 45 5 (.slice A1 n c1) n (lcs l)):=Zap an C.size
 clear aA aB an Y
 have z:=N.five
 have s:=Zfi A1 n c1 l x w1 ai (by omega) (Rd.of_own X)
 have aa:=ai.place x
 have J:=HR.out
 unfold putL at J
 obtain⟨p,hp⟩:=ExY (place l x)
 obtain⟨th,ap⟩:=ExY (thereB l x)
 rw[←hp,←ap] at s J
 rw[←hp] at aa
 have aD:p≤n:=by have:=aa.1;have:=HL.out;omega
 have ah:=Hi J
 unfold Lc.val at s
 have ae:=Hi s
 clear s hp ap aa J
 go_wp2_with fail
 refine ae.mono ?_
 rintro e w4 ⟨rfl,G⟩
 have af:=bkN N G
 have ag:Hid (w4.ownsRow w.heap.size 45 5 (.slice A1 n c1) n (lcs l)):=ZaF X fun p hp=>G.block _ (ZaP X p hp).2
 have U:=blT au G
 clear z G
 have z:=af.five
 cases th with
 |true=>
  have e:r=([],35):=by rw[ah.out,if_pos rfl]
  subst e
  go_wp2
  go_ret2
  exact Zgt 35 U
 |false=>
 have er:=ah.out
 rw[if_neg (by simp),HL.out] at er
 by_cases aj:32≤n
 ·have e:r=([],40):=by rw[er,if_pos aj]
  subst e
  have i5:(32:Int)≤(n:Int):=by omega
  clear er
  go_wp2
  go_ret2
  exact Zgt 40 U
 have e:r=(l.take p++x::l.drop p,0):=by rw[er,if_neg aj]
 clear er
 obtain⟨zs,ac⟩:=ExY (l.take p++x::l.drop p)
 rw[←ac] at e
 subst e
 have i5:¬((32:Int)≤(n:Int)):=by omega
 obtain⟨vb,aq⟩:=ExY w4.heap.size
 obtain⟨W6,E⟩:=ExY (w4.alloc (.cells #[I x.acct,I x.id,I x.instr,I x.qty,I x.price] 45))
 have al:Bk W6 vb 45 #[I x.acct,I x.id,I x.instr,I x.qty,I x.price]:=by rw[E,aq];exact Bk.new _ _ _
 have ak:W6.ownsRow w.heap.size 45 5 (.slice A1 n c1) n (lcs l):=by rw[E];exact ag.alloc _
 have ad:=blA U E
 have R:=Hi (ZeE w.heap.size n c1 p vb A1 l x W6 ak HL (by omega) aD ad.size al (fun a' ay aE=>by have:=(ZaP ag a' ay).2;omega))
 rw[←ac] at R
 clear ak al ac
 go_wp2_with fail
 rw[←E,←aq]
 refine R.mono ?_
 rintro e w7 ⟨A3,c3,rfl,h5,h6,aC,az⟩
 clear z
 have am:Bw w w7:=ad.trans az
 go_wp2
 go_ret2
 exact Zl5 rfl h5 h6 aC am
end O
namespace O
theorem cut_any(A:Option Addr)(n c:Nat)(l:List Lc)(a i q:Int)(w:World)(aL:tidyB l=true)(hn:n≤1000000)(hr:Rd w w.heap.size 5 A n (lcs l)):
 Calls prog 56 #[.slice A n c,I a,I i,I q] w (COut w (cutL l a i q)):=by
 have hl:l.length=n:=by have:=hr.1;rw[lcs_len] at this;omega
 obtain⟨ad,ae⟩:=(tidy_iff l).1 aL
 have aH:=sorted_of l ad
 obtain⟨r,an⟩:=ExY (cutL l a i q)
 rw[←an]
 have HF:=find_any A n c l a i w (by unfold maxLen;omega) hr
 rw[findL_sorted aH] at HF
 have X:=fun h=>there_lt (l:=l) (x:=⟨a,i,0,0,0⟩) h
 have aa:=an
 unfold cutL at aa
 obtain⟨p,hp⟩:=ExY (place l ⟨a,i,0,0,0⟩)
 obtain⟨th,ap⟩:=ExY (thereB l ⟨a,i,0,0,0⟩)
 rw[←hp,←ap] at HF aa
 rw[←hp,←ap] at X
 have aK:th=true→p<n:=fun ht=>by have:=X ht;omega
 have ay:=Hi aa
 have HQ:=Hi ae
 have ax:=Hi hr
 have HL:=Hi hl
 have aN:=Hi HF
 clear an aH hr hl hp ap X aa HF aL ad ae
 go_enter func56,ntmps56
 go_wp2_with fail
 refine aN.mono ?_
 rintro e w1 ⟨rfl,ah⟩
 cases th with
 |false=>
  have e:r=([],0,34):=by rw[ay.out,if_neg (by simp)]
  subst e
  rw[if_neg (by simp)]
  go_wp2
  go_ret3
  exact ZlQ 34 ah
 |true=>
 rw[if_pos rfl]
 have U:=aK rfl
 have er:=ay.out
 rw[if_pos rfl] at er
 obtain⟨m',rfl⟩:∃m',n=m'+1:=⟨n-1,by omega⟩
 have i1:(0:Int)≤(p:Int):=by omega
 have a4:¬((p:Int)<0):=by omega
 have i2:(p:Int)<(m':Int)+1:=by omega
 have E:=Hi ah
 clear ah
 have am:=HQ.out p (by rw[HL.out];exact U)
 obtain⟨a0,aS,aT,c0,aQ,aR,c2,c4⟩:=rd_loc (ax.below E) (show p<l.length by rw[HL.out];exact U)
 have aC:l[p]'(by rw[HL.out];exact U)=l.getD p default:=Zgl l _
 rw[aC] at c2
 obtain⟨qh,hh⟩:=ExY ((l.getD p default).qty)
 rw[←hh] at er am c2
 subst aS
 have a1 : -1000000000≤qh∧qh≤1000000000:=by simpa[fitsQ] using am
 obtain⟨aF,aG⟩:=a1
 have C:ZfR qh=Zef qh:=by rw[Ze8 aF aG];rfl
 have Y:=Hi er
 clear er am hh aC c0 aQ aR c4 aT
 go_upto_region 5 with(fail)
 clear c2
 obtain⟨s,hs⟩:=ExY (Zef qh)
 have z:(qh<0→s = -qh)∧(¬qh<0→s=qh):=by rw[hs];unfold Zef;exact⟨fun h=>if_pos h,fun h=>if_neg h⟩
 rw[←hs] at Y C
 clear hs
 have aP:=Hi C
 clear C
 by_cases aY:q<1
 ·have e:r=([],0,36):=by rw[Y.out,if_pos (.inl aY)]
  subst e
  go_wp2
  go_ret3
  exact ZlQ 36 E
 go_wp2_with fail
 refine(Ze9 qh w1).mono ?_
 rintro e w2 ⟨rfl,rfl⟩
 rw[aP.out]
 by_cases aZ:q>s
 ·have e:r=([],0,36):=by rw[Y.out,if_pos (.inr aZ)]
  subst e
  go_wp2
  go_ret3
  exact ZlQ 36 E
 have er:=Y.out
 rw[if_neg (by omega)] at er
 have aM:=Hi er
 have aO:=Hi z
 clear er z
 go_wp2_with fail
 refine(cloneL_any (some a0) (m'+1) c (lcs l) w2 (lcs_one l) (by omega) ((ax.below E).mono E.size)).mono ?_
 rintro e w3 ⟨A1,c1,rfl,aU,aW,aE,aB⟩
 have aw:Hid (w3.ownsRow w.heap.size 45 5 (.slice A1 (m'+1) c1) (m'+1) (lcs l)):=Zap aE E.size
 have af:=blT E aB
 obtain⟨g0,rfl⟩:∃g0,A1=some g0:=by
  rcases A1 with _|g0
  ·rcases aw.2 with⟨_,h0⟩|⟨_,_,_,hv,_⟩
   ·omega
   ·cases hv
  ·exact⟨g0,rfl⟩
 obtain⟨g,aA,rfl,aj,hB,Z,L,C,G⟩:=ZcH aw
 clear aU aW aE aB
 have a5:IntKind.i64.wrap ((p:Int)+1)=(p:Int)+1:=IntWalk.i64_in _ (by omega)
 have er:=aM.out
 have z:=aO.out
 have a7:IntKind.i64.wrap (-q) = -q:=IntWalk.i64_in _ (by omega)
 by_cases aI:s=q
 ·have e:r=(l.take p++l.drop (p+1),0,0):=by rw[er,if_pos aI]
  subst e
  clear er
  have ab:=Hi (ZcL w.heap.size g m' c1 p l aA w3 aj hB Z L C HL G U)
  have R:Hid ((l.take p++l.drop (p+1)).length=m'):=by rw[Hid,List.length_append,List.length_take,List.length_drop,HL.out];omega
  have ac:m'≤c1:=by omega
  clear hB C G
  by_cases aD:qh<0
  ·have ak:qh = -q:=by have:=z.1 (by omega);omega
   subst ak
   go_wp2_with fail
   refine ab.mono ?_
   rintro e w6 ⟨rfl,al,ai⟩
   go_wp2
   go_ret3
   exact ZmJ R ac L al (af.trans ai)
  ·have ak:qh=q:=by have:=z.2 (by omega);omega
   subst ak
   go_wp2_with fail
   refine ab.mono ?_
   rintro e w6 ⟨rfl,al,ai⟩
   go_wp2
   go_ret3
   exact ZmJ R ac L al (af.trans ai)
 obtain⟨y,hy⟩:=ExY (if qh<0 then qh+q else qh-q)
 have e:r=(putQ l p y,s-q,0):=by rw[er,if_neg aI,hy]
 subst e
 clear er
 have N:(qh<0→y=qh+q)∧(¬qh<0→y=qh-q):=by rw[hy];exact⟨fun h=>if_pos h,fun h=>if_neg h⟩
 have aJ:ZfR y=s-q:=by
  by_cases aD:qh<0
  ·have h1:=z.1 (by omega)
   have h2:=N.1 (by omega)
   rw[Ze8 (by omega) (by omega)]
   split<;>omega
  ·have h1:=z.2 (by omega)
   have h2:=N.2 (by omega)
   rw[Ze8 (by omega) (by omega)]
   split<;>omega
 have az:=Hi aJ
 clear hy aJ
 have ag:=Hi (ZbA aj hB Z L C HL G U y)
 obtain⟨W4,J⟩:=ExY (w3.setCell ⟨g,p*5+3,none⟩ (I y))
 have au:Hid (Bw w W4):=by rw[J];exact Below.setCell af (p:=Aq g (p*5+3)) aj _
 have R:Hid ((putQ l p y).length=m'+1):=by rw[Hid,Zet,HL.out]
 have a3:=hB.lt
 have aV:p*5+3<aA.size:=by omega
 obtain⟨_,y0⟩:∃v,w3.cell? ⟨g,p*5+3,none⟩=some v:=⟨_,by rw[hB.cell];exact Array.getElem?_eq_getElem aV⟩
 have u0:=hB.frozen (p*5+3)
 rw[←J] at ag
 clear hB C G
 by_cases aD:qh<0
 ·have aq:=N.1 (by omega)
  have aX:(qh == -q)=false:=by have:=z.1 (by omega);simp;omega
  have ao:=z.1 (by omega)
  have a2:IntKind.i64.wrap (qh - -q)=qh+q:=by rw[show qh - -q=qh+q by omega];exact IntWalk.i64_in _ (by omega)
  have a6:IntKind.i64.wrap (qh+q)=qh+q:=IntWalk.i64_in _ (by omega)
  subst aq
  clear z N ao
  go_upto_region 13 with(fail)
  rw[←J]
  clear J y0 u0
  go_wp2_with fail
  refine(Ze9 _ W4).mono ?_
  rintro e w5 ⟨rfl,rfl⟩
  rw[az.out]
  go_wp2
  go_ret3
  exact ZmJ R Z L ag au
 ·have aq:=N.2 (by omega)
  have aX:(qh==q)=false:=by have:=z.2 (by omega);simp;omega
  have ao:=z.2 (by omega)
  have a2:IntKind.i64.wrap (qh-q)=qh-q:=IntWalk.i64_in _ (by omega)
  subst aq
  clear z N ao
  go_upto_region 13 with(fail)
  rw[←J]
  clear J y0 u0
  go_wp2_with fail
  refine(Ze9 _ W4).mono ?_
  rintro e w5 ⟨rfl,rfl⟩
  rw[az.out]
  go_wp2
  go_ret3
  exact ZmJ R Z L ag au
end O
namespace O
def okB(ac nc:Int)(x:Lc):Bool:=decide (1<x.acct∧x.acct<ac∧1≤x.id∧x.id≤1099511627776∧0≤x.instr∧x.instr<nc∧x.qty≠0 ∧ -1000000000≤x.qty∧x.qty≤1000000000∧1≤x.price∧x.price≤100000000000000)
def goodB(ac nc:Int)(l:List Lc):Bool:=decide (l.length≤32)&&(Zc7 l&&l.all (okB ac nc))
theorem ZhI(x:Lc)(J N:Int)(b1 b2:Nat)(w:World)(h1:w.cell? (Aq b1 0)=some (I J))(h2:w.cell? (Aq b2 0)=some (I N)):
 Calls prog 181 #[x.val,Pt b1,Pt b2] w fun e w'=>e=.returned (.bool (!okB J N x))∧Bw w w':=by
 obtain⟨z,C,E,s,G⟩:=x
 have X:okB J N ⟨z,C,E,s,G⟩=decide (1<z∧z<J∧1≤C∧C≤1099511627776∧0≤E∧E<N∧s≠0 ∧ -1000000000≤s∧s≤1000000000∧1≤G∧G≤100000000000000):=rfl
 rw[X]
 obtain⟨r,hr⟩:=ExY (!decide (1<z∧z<J∧1≤C∧C≤1099511627776∧0≤E∧E<N∧s≠0 ∧ -1000000000≤s∧s≤1000000000∧1≤G∧G≤100000000000000))
 rw[←hr]
 have HR:=Hi hr
 have g1:=World.block_lt_of_cell? _ _ h1
 have g2:=World.block_lt_of_cell? _ _ h2
 dsimp only at g1 g2
 obtain⟨W,hW⟩:=ExY (w.alloc (.cells #[I z,I C,I E,I s,I G] 45))
 obtain⟨bx,L⟩:=ExY w.heap.size
 have aa:=bkW hW L
 have HB:=blB hW
 have af:W.cell? (Aq b1 0)=some (I J):=(HB.cell (p:=Aq b1 0) g1).trans h1
 have ag:W.cell? (Aq b2 0)=some (I N):=(HB.cell (p:=Aq b2 0) g2).trans h2
 clear X hr g1 g2 h1 h2
 unfold Lc.val
 go_enter func181,ntmps181
 go_upto_region 1 with(fail)
 rw[←hW,←L]
 clear hW L
 have ae:=aa.five
 go_wp2_with fail
 refine(Zf4 z J W).mono ?_
 rintro e W0 ⟨rfl,rfl⟩
 by_cases ht:Zdo z J=true
 case neg=>
  have ad:¬(1<z∧z<J):=fun h=>ht (decide_eq_true h)
  have e:r=true:=by rw[HR.out,decide_eq_false (by omega)];rfl
  have Z:Zdo z J=false:=by simpa using ht
  subst e
  rw[Z]
  clear ht Z ad
  go_wp2
  go_ret
  exact⟨rfl,HB⟩
 have Y:1<z∧z<J:=of_decide_eq_true (show decide (1<z∧z<J)=true from ht)
 rw[ht]
 have HT:=Hi Y
 clear ht Y
 by_cases k0:C<1
 ·have e:r=true:=by rw[HR.out,decide_eq_false (by omega)];rfl
  subst e
  go_wp2
  go_ret
  exact⟨rfl,HB⟩
 by_cases k1:1099511627776<C
 ·have e:r=true:=by rw[HR.out,decide_eq_false (by omega)];rfl
  subst e
  go_wp2
  go_ret
  exact⟨rfl,HB⟩
 by_cases k2:E<0
 ·have e:r=true:=by rw[HR.out,decide_eq_false (by omega)];rfl
  subst e
  go_wp2
  go_ret
  exact⟨rfl,HB⟩
 by_cases k3:N≤E
 ·have e:r=true:=by rw[HR.out,decide_eq_false (by omega)];rfl
  subst e
  go_wp2
  go_ret
  exact⟨rfl,HB⟩
 go_wp2_with fail
 refine(Zim s W0).mono ?_
 rintro e W1 ⟨rfl,rfl⟩
 by_cases hf:ZfO s=true
 case neg=>
  have ab:¬(s≠0 ∧ -1000000000≤s∧s≤1000000000):=fun h=>hf (decide_eq_true h)
  have e:r=true:=by rw[HR.out,decide_eq_false (by omega)];rfl
  have U:ZfO s=false:=by simpa using hf
  subst e
  rw[U]
  clear hf U ab
  go_wp2
  go_ret
  exact⟨rfl,HB⟩
 have R:s≠0 ∧ -1000000000≤s∧s≤1000000000:=of_decide_eq_true (show decide (s≠0 ∧ -1000000000≤s∧s≤1000000000)=true from hf)
 rw[hf]
 have HF:=Hi R
 clear hf R
 by_cases k5:G<1
 ·have e:r=true:=by rw[HR.out,decide_eq_false (by omega)];rfl
  subst e
  go_wp2
  go_ret
  exact⟨rfl,HB⟩
 by_cases k6:100000000000000<G
 ·have e:r=true:=by rw[HR.out,decide_eq_false (by omega)];rfl
  subst e
  go_wp2
  go_ret
  exact⟨rfl,HB⟩
 have e:r=false:=by have q0:=HT.out;have q1:=HF.out;rw[HR.out,decide_eq_true (by omega)];rfl
 subst e
 go_wp2
 go_ret
 exact⟨by simp[k0,k1,k2,k3,k5,k6],HB⟩
def Zgh(ac nc:Int)(l:List Lc):Int:=if(l.findIdx fun x => !okB ac nc x)<l.length then((l.findIdx fun x => !okB ac nc x:Nat):Int) else -1
theorem Zgi{l:List Lc}{z C:Int}{k:Nat}(E:k<l.length)(s:∀j,j<k→(!okB z C (l.getD j default))=false)(h:(!okB z C (l.getD k default))=true):Zgh z C l=(k:Int):=by
 have e:l.findIdx (fun x => !okB z C x)=k:=by
  rw[List.findIdx_eq E]
  rw[Zaf E] at h
  refine⟨h,fun j hj=>?_⟩
  have:=s j hj
  rw[Zaf (by omega)] at this
  simpa using this
 unfold Zgh
 rw[e,if_pos E]
theorem Zfg{l:List Lc}{z C:Int}(s:∀j,j<l.length→(!okB z C (l.getD j default))=false):Zgh z C l = -1:=by
 have e:l.findIdx (fun x => !okB z C x)=l.length:=by
  rw[List.findIdx_eq_length]
  intro x hx
  obtain⟨j,hj,rfl⟩:=List.mem_iff_getElem.1 hx
  have:=s j hj
  rwa [Zaf hj] at this
 unfold Zgh
 rw[e,if_neg (Nat.lt_irrefl _)]
theorem ZhH(l:List Lc)(s z:Int):(0≤Zgh s z l)↔l.all (okB s z)=false:=by
 unfold Zgh
 by_cases h:(l.findIdx fun x => !okB s z x)<l.length
 ·rw[if_pos h]
  have h1:=List.findIdx_getElem (xs:=l) (p:=fun x => !okB s z x) (w:=h)
  refine⟨fun _=>?_,fun _=>by omega⟩
  cases hh:l.all (okB s z) with
  |false=>rfl
  |true=>
   rw[List.all_eq_true.1 hh _ (List.getElem_mem h)] at h1
   cases h1
 ·rw[if_neg h]
  refine⟨fun h0=>by omega,fun h0=>?_⟩
  exfalso
  have h1:l.findIdx (fun x => !okB s z x)=l.length:=Nat.le_antisymm List.findIdx_le_length (by omega)
  rw[List.findIdx_eq_length] at h1
  have:l.all (okB s z)=true:=List.all_eq_true.2 fun x hx=>by simpa using h1 x hx
  rw[this] at h0
  cases h0
theorem ZeD(A:Option Addr)(n c:Nat)(l:List Lc)(G J:Int)(b1 b2:Nat)(w:World)(hn:n≤maxLen)(hr:Rd w w.heap.size 5 A n (lcs l))(h1:Bk w b1 3 #[I G])(h2:Bk w b2 3 #[I J]):
 Calls prog 112 #[.slice A n c,.func (.func 181) #[] #[Pt b1,Pt b2]] w fun e w'=>e=.returned (I (Zgh G J l))∧Bw w w':=by
 have hl:l.length=n:=by have:=hr.1;rw[lcs_len] at this;omega
 have HL:=Hi hl
 have HR:=Hi hr
 have H1:=Hi h1
 have H2:=Hi h2
 clear hl hr h1 h2
 unfold maxLen at hn
 obtain⟨r,s⟩:=ExY (Zgh G J l)
 rw[←s]
 have HE:=Hi s
 clear s
 go_enter func112,ntmps112
 go_wp2
 go_loopw [5,8] (fun u v wr=>∃k:Nat,k≤n∧v=I k∧(∀j,j<k→(!okB G J (l.getD j default))=false)∧Bw w wr) (fun _ v _=>n-(intOf v).toNat)
 case atStart=>exact⟨0,Nat.zero_le _,rfl,fun j hj=>absurd hj (Nat.not_lt_zero _),Below.refl _ _⟩
 case round=>
  obtain⟨k,hk,rfl,z,hb⟩:=hrel
  have HP:=Hi z
  have HB:=Hi hb
  clear z hb
  rename World=>V
  by_cases ae:k<n
  ·have C:k<l.length:=by have:=HL.out;omega
   obtain⟨a0,hA,ab,c0,c1,c2,c3,c4⟩:=rd_loc (HR.below HB) C
   subst hA
   obtain⟨⟨U,X,Y,aa,Z⟩,hx⟩:∃x,x=l[k]:=⟨_,rfl⟩
   rw[←hx] at c0 c1 c2 c3 c4
   have HX:Hid (l.getD k default=⟨U,X,Y,aa,Z⟩):=by rw[hx];exact Zaf C
   dsimp only at c0 c1 c2 c3 c4
   clear hx ab
   have i1:(k:Int)<(n:Int):=by omega
   have i2:(0:Int)≤(k:Int):=by omega
   have i3:IntKind.i64.wrap ((k:Int)+1)=(k:Int)+1:=IntWalk.i64_in _ (by omega)
   have k1:=((H1.below HB H1.lt).one).1
   have k2:=((H2.below HB H2.lt).one).1
   have hc:=ZhI ⟨U,X,Y,aa,Z⟩ G J b1 b2 V k1 k2
   rw[←HX.out] at hc
   obtain⟨rb,E⟩:=ExY ((!okB G J (l.getD k default)))
   rw[←E] at hc
   rw[HX.out] at hc
   unfold Lc.val at hc
   have HC:=Hi hc
   have N:=Hi E
   clear hc E k1 k2
   go_wp2_with fail
   refine HC.mono ?_
   rintro e w2 ⟨rfl,R⟩
   have L:=blT HB R
   clear R c0 c1 c2 c3 c4
   cases rb with
   |true=>
    have e:r=(k:Int):=by rw[HE.out,Zgi C HP.out N.symm]
    subst e
    go_wp2
    go_ret
    exact⟨rfl,L⟩
   |false=>
    go_wp2
    refine⟨⟨k+1,by omega,by push_cast;rfl,fun j hj=>?_,L⟩,by simp only[intOf];omega⟩
    rcases Nat.lt_or_eq_of_le (Nat.lt_succ_iff.1 hj) with h1|rfl
    ·exact HP.out j h1
    ·exact N.symm
  ·have i3:¬((k:Int)<(n:Int)):=by omega
   have ad:k=n:=by omega
   have e:r = -1:=by
    rw[HE.out]
    exact Zfg fun j hj=>HP.out j (by have:=HL.out;omega)
   subst e
   go_wp2
   go_ret
   exact⟨rfl,HB⟩
theorem Zcu(A:Option Addr)(n c:Nat)(l:List Lc)(s z:Int)(b1 b2:Nat)(w:World)(J:n≤maxLen)(L:Rd w w.heap.size 5 A n (lcs l))(E:Bk w b1 3 #[I s])(G:Bk w b2 3 #[I z]):
 Calls prog 144 #[.slice A n c,.func (.func 181) #[] #[Pt b1,Pt b2]] w fun e w'=>e=.returned (.bool (!l.all (okB s z)))∧Bw w w':=by
 have HI:=Hi (ZeD A n c l s z b1 b2 w J L E G)
 have hg:=ZhH l s z
 obtain⟨j,hj⟩:=ExY (Zgh s z l)
 rw[←hj] at HI hg
 obtain⟨b,hb⟩:=ExY (l.all (okB s z))
 rw[←hb] at hg ⊢
 clear hj hb L E G J
 go_enter func144,ntmps144
 go_wp2_with fail
 refine HI.mono ?_
 rintro e w1 ⟨rfl,C⟩
 by_cases h0:0≤j
 ·have e:b=false:=hg.1 h0
  subst e
  clear hg
  go_wp2
  go_ret
  exact⟨rfl,C⟩
 ·have e:b=true:=by cases b with
   |true=>rfl
   |false=>exact absurd (hg.2 rfl) h0
  subst e
  clear hg
  go_wp2
  go_ret
  exact⟨by simp[h0],C⟩
end O
namespace O
theorem ZgE(A:Option Addr)(n c:Nat)(l:List Lc)(w:World)(hn:n≤maxLen)(hr:Rd w w.heap.size 5 A n (lcs l)):
 Calls prog 182 #[.slice A n c,.func (.func 147) #[] #[]] w fun e w'=>e=.returned (.bool (Zc7 l))∧Bw w w':=by
 have hl:l.length=n:=by have:=hr.1;rw[lcs_len] at this;omega
 obtain⟨r,Z⟩:=ExY (Zc7 l)
 rw[←Z]
 have HR:=Hi Z
 have HL:=Hi hl
 have ae:=Hi hr
 clear hl hr Z
 unfold maxLen at hn
 go_enter func182,ntmps182
 go_wp2
 go_loopw [5] (fun v wr=>∃k:Nat,(k+1≤n∨k=0)∧v=I ((k:Int)+1)∧ZcV (ZbY l) (k+1)=true∧Bw w wr) (fun v _=>n+1-(intOf v).toNat)
 case atStart=>exact⟨0,.inr rfl,rfl,by simp[Zcg,ZfJ,ZbY],Below.refl _ _⟩
 case round=>
  obtain⟨k,hk,rfl,aa,hb⟩:=hrel
  have HP:=Hi aa
  have HB:=Hi hb
  clear aa hb
  rename World=>V
  by_cases az:k+1<n
  ·have ac:k+1<l.length:=by have:=HL.out;omega
   have ak:k<l.length:=by omega
   obtain⟨a0,hA,_,d0,d1,d2,d3,d4⟩:=rd_loc (ae.below HB) ak
   obtain⟨a1,af,_,e0,e1,e2,e3,e4⟩:=rd_loc (ae.below HB) ac
   have ea:a1=a0:=Option.some.inj (af.symm.trans hA)
   subst ea
   subst hA
   obtain⟨⟨J,L,N,U,R⟩,hy⟩:∃y,y=l[k]:=⟨_,rfl⟩
   rw[←hy] at d0 d1 d2 d3 d4
   have HY:Hid (l.getD k default=⟨J,L,N,U,R⟩):=by rw[hy];exact Zaf ak
   obtain⟨⟨s,z,C,G,E⟩,hx⟩:∃x,x=l[k+1]:=⟨_,rfl⟩
   rw[←hx] at e0 e1 e2 e3 e4
   have HX:Hid (l.getD (k+1) default=⟨s,z,C,G,E⟩):=by rw[hx];exact Zaf ac
   dsimp only at d0 d1 d2 d3 d4 e0 e1 e2 e3 e4
   clear hy hx af
   have Y:Hid (ZbY l (k+1)=decide (ZaN ⟨J,L,N,U,R⟩ ⟨s,z,C,G,E⟩<0)):=by
    unfold ZbY
    rw[Nat.add_sub_cancel,HX.out,HY.out]
    exact decide_eq_decide.2 (by omega)
   obtain⟨cr,aj⟩:=ExY (ZaN ⟨J,L,N,U,R⟩ ⟨s,z,C,G,E⟩)
   have X:∀W',_:=fun W'=>Zdz ⟨J,L,N,U,R⟩ ⟨s,z,C,G,E⟩ W'
   unfold Lc.val at X
   dsimp only at X
   rw[←aj] at X Y
   have ad:=Hi X
   clear X aj
   have i1:(k:Int)+1<(n:Int):=by omega
   have i2:(0:Int)≤(k:Int)+1:=by omega
   have i4:IntKind.i64.wrap ((k:Int)+1+1)=(k:Int)+1+1:=IntWalk.i64_in _ (by omega)
   have j2:IntKind.i64.wrap ((k:Int)+1-1)=(k:Int):=by rw[Int.add_sub_cancel];exact IntWalk.i64_in _ (by omega)
   have j3:(0:Int)≤(k:Int):=by omega
   have j4:(k:Int)<(n:Int):=by omega
   have j5:(k:Int)+1-1=(k:Int):=by omega
   have j6:IntKind.i64.wrap (k:Int)=(k:Int):=IntWalk.i64_in _ (by omega)
   have al:=World.block_lt_of_cell? _ _ d0
   have am:=World.block_lt_of_cell? _ _ d1
   have an:=World.block_lt_of_cell? _ _ d2
   have ao:=World.block_lt_of_cell? _ _ d3
   have ap:=World.block_lt_of_cell? _ _ d4
   have aq:=World.block_lt_of_cell? _ _ e0
   have au:=World.block_lt_of_cell? _ _ e1
   have aw:=World.block_lt_of_cell? _ _ e2
   have ax:=World.block_lt_of_cell? _ _ e3
   have ay:=World.block_lt_of_cell? _ _ e4
   have HS:Hid (∀w',Bw V w'→(fun w'=>Bw V w'∧w'.cell? (a1.add (k*5))=some (I J)∧w'.cell? ⟨(a1.add (k*5)).block,(a1.add (k*5)).off+1,none⟩=some (I L)∧w'.cell? ⟨(a1.add (k*5)).block,(a1.add (k*5)).off+2,none⟩=some (I N)∧w'.cell? ⟨(a1.add (k*5)).block,(a1.add (k*5)).off+3,none⟩=some (I U)∧w'.cell? ⟨(a1.add (k*5)).block,(a1.add (k*5)).off+4,none⟩=some (I R)∧w'.cell? (a1.add ((k+1)*5))=some (I s)∧w'.cell? ⟨(a1.add ((k+1)*5)).block,(a1.add ((k+1)*5)).off+1,none⟩=some (I z)∧w'.cell? ⟨(a1.add ((k+1)*5)).block,(a1.add ((k+1)*5)).off+2,none⟩=some (I C)∧w'.cell? ⟨(a1.add ((k+1)*5)).block,(a1.add ((k+1)*5)).off+3,none⟩=some (I G)∧w'.cell? ⟨(a1.add ((k+1)*5)).block,(a1.add ((k+1)*5)).off+4,none⟩=some (I E)) w'):=fun w' hw=>
    ⟨hw,(hw.cell al).trans d0,(hw.cell am).trans d1,(hw.cell an).trans d2,(hw.cell ao).trans d3,(hw.cell ap).trans d4,(hw.cell aq).trans e0,(hw.cell au).trans e1,(hw.cell aw).trans e2,(hw.cell ax).trans e3,(hw.cell ay).trans e4⟩
   have ag:=HB.size
   go_upto_region 4 with(fail)
   go_region_held (fun w'=>Bw V w'∧w'.cell? (a1.add (k*5))=some (I J)∧w'.cell? ⟨(a1.add (k*5)).block,(a1.add (k*5)).off+1,none⟩=some (I L)∧w'.cell? ⟨(a1.add (k*5)).block,(a1.add (k*5)).off+2,none⟩=some (I N)∧w'.cell? ⟨(a1.add (k*5)).block,(a1.add (k*5)).off+3,none⟩=some (I U)∧w'.cell? ⟨(a1.add (k*5)).block,(a1.add (k*5)).off+4,none⟩=some (I R)∧w'.cell? (a1.add ((k+1)*5))=some (I s)∧w'.cell? ⟨(a1.add ((k+1)*5)).block,(a1.add ((k+1)*5)).off+1,none⟩=some (I z)∧w'.cell? ⟨(a1.add ((k+1)*5)).block,(a1.add ((k+1)*5)).off+2,none⟩=some (I C)∧w'.cell? ⟨(a1.add ((k+1)*5)).block,(a1.add ((k+1)*5)).off+3,none⟩=some (I G)∧w'.cell? ⟨(a1.add ((k+1)*5)).block,(a1.add ((k+1)*5)).off+4,none⟩=some (I E))
    (first
     |with_reducible assumption
     |(refine HS.out _ ?_;first|with_reducible exact ab.out|with_reducible exact(Below.refl _ _).drew))
    (first
     |(go_at_call 147;refine(ad.out _).mono ?_;rintro e w2 ⟨rfl,ah⟩;obtain⟨hB,-⟩ := ‹Bw V _∧_›;have ab:Hid (Bw V w2):=hB.trans (ah.mono hB.size);clear ah hB))
   all_goals
    by_cases ai:cr<0
    ·have ho:ZbY l (k+1)=true:=by rw[Y.out];exact decide_eq_true ai
     have hu:ZcV (ZbY l) (k+1+1)=true:=by rw[Zcg,HP.out,ho];rfl
     have HU:=Hi hu
     clear hu ho
     go_wp2
     exact⟨⟨k+1,.inl (by omega),by push_cast;rfl,HU,HB.trans (ab.mono ag)⟩,by simp only[intOf];omega⟩
    ·have ho:ZbY l (k+1)=false:=by rw[Y.out];exact decide_eq_false ai
     have e:r=false:=by rw[HR.out];exact Zd0 (k:=k+1) ac ho
     subst e
     clear ho
     go_wp2
     go_ret
     exact⟨rfl,HB.trans (ab.mono ag)⟩
  ·have i3:¬((k:Int)+1<(n:Int)):=by omega
   have e:r=true:=by
    rw[HR.out]
    unfold Zc7
    rw[HL.out,upto_iff]
    intro j hj
    exact(upto_iff _ _).1 HP j (by omega)
   subst e
   go_wp2
   go_ret
   exact⟨rfl,HB⟩
end O
namespace O
def inB(ac nc:Int)(x:Lc):Bool:=decide (1<x.acct∧x.acct<ac∧1≤x.id∧x.id≤1099511627776∧0≤x.instr∧x.instr<nc∧x.qty≠0∧1≤x.price∧x.price≤100000000000000)
theorem ZgM(f:Lc→Bool)(l:List Lc):ZcV (fun j=>f (l.getD j default)) l.length=l.all f:=by
 rw[Bool.eq_iff_iff,upto_iff,List.all_eq_true]
 constructor
 ·intro h x hx
  obtain⟨j,hj,rfl⟩:=List.mem_iff_getElem.1 hx
  have:=h j hj
  rwa [Zaf hj] at this
 ·intro h j hj
  rw[Zaf hj]
  exact h _ (List.getElem_mem hj)
theorem good_ref(s z:Int)(l:List Lc):goodB s z l=(decide (l.length≤32)&&(tidyB l&&ZcV (fun j=>inB s z (l.getD j default)) l.length)):=by
 unfold goodB
 congr 1
 rw[ZgM,Bool.eq_iff_iff,Bool.and_eq_true,Bool.and_eq_true,tidy_iff,List.all_eq_true,List.all_eq_true]
 constructor
 ·rintro⟨h1,h2⟩
  refine⟨⟨h1,fun j hj=>?_⟩,fun x hx=>?_⟩
  ·have:=h2 _ (List.getElem_mem hj)
   rw[Zaf hj]
   unfold okB at this
   have:=of_decide_eq_true this
   exact decide_eq_true (by omega)
  ·have:=h2 x hx
   unfold okB at this
   have:=of_decide_eq_true this
   exact decide_eq_true (by omega)
 ·rintro⟨⟨h1,h3⟩,h2⟩
  refine⟨h1,fun x hx=>?_⟩
  obtain⟨j,hj,rfl⟩:=List.mem_iff_getElem.1 hx
  have a:=h2 _ (List.getElem_mem hj)
  have b:=h3 j hj
  rw[Zaf hj] at b
  unfold inB at a
  unfold fitsQ at b
  have a:=of_decide_eq_true a
  have b:=of_decide_eq_true b
  exact decide_eq_true (by omega)
theorem good_any(A:Option Addr)(n c:Nat)(l:List Lc)(J L:Int)(w:World)(hn:n≤maxLen)(hr:Rd w w.heap.size 5 A n (lcs l)):
 Calls prog 142 #[.slice A n c,I J,I L] w fun e w'=>e=.returned (.bool (goodB J L l))∧Bw w w':=by
 have hl:l.length=n:=by have:=hr.1;rw[lcs_len] at this;omega
 obtain⟨r,s⟩:=ExY (goodB J L l)
 rw[←s]
 unfold goodB at s
 rw[hl] at s
 have HR:=Hi s
 obtain⟨W,hW⟩:=ExY ((w.alloc (.cells #[I J] 3)).alloc (.cells #[I L] 3))
 have Z:Bk W w.heap.size 3 #[I J]:=by rw[hW];exact(Bk.new w _ _).alloc _
 have aa:Bk W (w.heap.size+1) 3 #[I L]:=by
  rw[hW];have:=Bk.new (w.alloc (.cells #[I J] 3)) 3 #[I L];simpa using this
 have z:Hid (Bw w W):=by rw[hW];exact((Below.refl _ w).alloc (Nat.le_refl _) _).alloc (by simp) _
 have Y:Hid (∀V',Bw W V'→Rd V' V'.heap.size 5 A n (lcs l)):=fun V' h=>(((hr.below z).mono z.size).below h).mono h.size
 have H0:=Hi Z
 have H1:=Hi aa
 have HN:=Hi hn
 clear Z aa hr s hl hn
 go_enter func142,ntmps142
 go_upto_region 1 with(fail)
 rw[←hW]
 clear hW
 by_cases h1:32<n
 ·have e:r=false:=by rw[HR.out,decide_eq_false (by omega)];rfl
  subst e
  have i1:¬((n:Int)≤32):=by omega
  go_wp2
  go_ret
  exact⟨rfl,z⟩
 have ad:r=(Zc7 l&&l.all (okB J L)):=by rw[HR.out,decide_eq_true (by omega)];rfl
 have X:=Hi ad
 clear ad
 have i1:(n:Int)≤32:=by omega
 have C:=ZgE A n c l W HN (Y.out W (Below.refl _ _))
 obtain⟨b,hb⟩:=ExY (Zc7 l)
 rw[←hb] at C
 have N:=Hi C
 have R:=Hi hb
 clear C hb
 go_wp2_with fail
 refine N.mono ?_
 rintro e w1 ⟨rfl,ab⟩
 have E:=Hi ab
 clear ab
 cases b with
 |false=>
  have e:r=false:=by rw[X.out,←R.out];rfl
  subst e
  go_wp2
  go_ret
  exact⟨rfl,z.trans (E.mono z.size)⟩
 |true=>
 have ae:r=l.all (okB J L):=by rw[X.out,←R.out];rfl
 have G:=Zcu A n c l J L w.heap.size (w.heap.size+1) w1 HN (Y.out w1 E) (H0.below E H0.lt) (H1.below E H1.lt)
 rw[←ae] at G
 have U:=Hi G
 clear G ae
 go_wp2_with fail
 refine U.mono ?_
 rintro e w2 ⟨rfl,af⟩
 go_wp2
 go_ret
 exact⟨by simp,z.trans ((E.trans (af.mono E.size)).mono z.size)⟩
end O
section
namespace O
def ltL(x y:Lc):Prop:=ZaN x y<0
theorem ZcT{l:List Lc}:l.Pairwise ltL↔Sorted l:=by
 rw[List.pairwise_iff_getElem]
 constructor
 ·intro h i j s hj
  rw[Zaf (by omega),Zaf hj]
  exact h i j (by omega) hj s
 ·intro h i j hi hj s
  have:=h i j s hj
  rwa [Zaf (by omega),Zaf hj] at this
theorem good_iff(s z:Int)(l:List Lc):goodB s z l=true↔(l.length≤32∧(∀y∈l,okB s z y=true)∧l.Pairwise ltL):=by
 unfold goodB
 rw[Bool.and_eq_true,Bool.and_eq_true,decide_eq_true_eq,List.all_eq_true,ZcT]
 exact⟨fun⟨h1,h2,h3⟩=>⟨h1,h3,sorted_of l h2⟩,fun⟨h1,h3,h2⟩=>⟨h1,rise_of l h2,h3⟩⟩
theorem good_sorted{s z:Int}{l:List Lc}(h:goodB s z l=true):Sorted l:=ZcT.1 ((good_iff s z l).1 h).2.2
theorem is_iff(y:Lc)(a i:Int):y.is a i=true↔(y.acct=a∧y.id=i):=by
 unfold Lc.is
 rw[decide_eq_true_eq]
theorem is_false(y:Lc)(a i:Int):y.is a i=false↔¬(y.acct=a∧y.id=i):=by
 unfold Lc.is
 rw[decide_eq_false_iff_not]
structure ZaS(l:List Lc)(a i:Int)(T M D:List Lc):Prop where
 eq:l=T++(M++D)
 lo:∀y∈T,ZaN y ⟨a,i,0,0,0⟩<0
 hi:∀y∈D,ZaN ⟨a,i,0,0,0⟩ y<0
 mid:M=[]∨∃x:Lc,M=[x]∧x.acct=a∧x.id=i
section
variable {l T M D:List Lc} {a i:Int}
theorem ZaS.no(h:ZaS l a i T M D):(∀y∈T,y.is a i=false)∧(∀y∈D,y.is a i=false):=by
 constructor
 ·intro y hy
  have:=h.lo y hy
  rw[is_false]
  rw[cmpL_lt] at this
  dsimp only at this
  omega
 ·intro y hy
  have:=h.hi y hy
  rw[is_false]
  rw[cmpL_lt] at this
  dsimp only at this
  omega
theorem ZaS.place(h:ZaS l a i T M D):place l ⟨a,i,0,0,0⟩=T.length∧thereB l ⟨a,i,0,0,0⟩ = !M.isEmpty:=by
 have hp:YtdefojlkofnloaaGreatDoor.O.place l ⟨a,i,0,0,0⟩=T.length:=by
  refine Zcq (by rw[h.eq,List.length_append];omega) (fun j hj=>?_) (fun j hj s=>?_)
  ·have:l.getD j default=T[j]:=by rw[Zaf (by rw[h.eq,List.length_append];omega)];simp[h.eq,hj]
   rw[this]
   exact h.lo _ (List.getElem_mem hj)
  ·have hm:l.getD j default∈M++D:=by
    rw[Zaf s]
    simp only[h.eq]
    rw[List.getElem_append_right hj]
    exact List.getElem_mem _
   rcases List.mem_append.1 hm with h1|h1
   ·rcases h.mid with rfl|⟨x,rfl,e1,e2⟩
    ·cases h1
    ·rw[List.mem_singleton.1 h1,cmpL_lt]
     dsimp only
     omega
   ·have:=h.hi _ h1
    rw[cmpL_lt] at this ⊢
    dsimp only at this ⊢
    omega
 refine⟨hp,?_⟩
 unfold thereB
 rw[hp]
 rcases h.mid with hM|⟨x,hM,e1,e2⟩
 ·subst hM
  by_cases hd:T.length<l.length
  ·have hm:l.getD T.length default∈D:=by
    rw[Zaf hd]
    simp only[h.eq,List.nil_append]
    rw[List.getElem_append_right (Nat.le_refl _)]
    exact List.getElem_mem _
   have:=h.hi _ hm
   rw[decide_eq_false (show ¬ZaN (l.getD T.length default) ⟨a,i,0,0,0⟩=0 from fun hc=>by
    rw[ZbG] at hc
    rw[cmpL_lt] at this
    dsimp only at this hc
    omega),Bool.and_false]
   rfl
  ·rw[decide_eq_false hd];rfl
 ·subst hM
  have hd:T.length<l.length:=by rw[h.eq];simp
  have e:l.getD T.length default=x:=by rw[Zaf hd];simp[h.eq]
  rw[decide_eq_true hd,e,decide_eq_true ((@ZbG x ⟨a,i,0,0,0⟩).2 ⟨e1,e2⟩)]
  rfl
theorem ZaS.take(h:ZaS l a i T M D):l.take T.length=T:=by rw[h.eq];exact List.take_left' rfl
theorem ZaS.drop0(h:ZaS l a i T [] D):l.drop T.length=D:=by rw[h.eq];exact List.drop_left' rfl
theorem ZaS.drop1{x:Lc}(h:ZaS l a i T [x] D):l.drop (T.length+1)=D:=by rw[h.eq,←List.append_assoc];exact List.drop_left' (by simp)
theorem ZaS.at1{x:Lc}(h:ZaS l a i T [x] D):l.getD T.length default=x:=by
 have hd:T.length<l.length:=by rw[h.eq];simp
 rw[Zaf hd];simp[h.eq]
theorem ZaS.set1{x:Lc}(h:ZaS l a i T [x] D)(y:Int):putQ l T.length y=T++([{x with qty:=y}]++D):=by
 unfold putQ
 rw[h.at1,h.eq]
 simp
theorem ZaS.len(h:ZaS l a i T M D):l.length=T.length+(M.length+D.length):=by rw[h.eq];simp
theorem ZaS.anew(h:ZaS l a i T M D){s:List Lc}(z:s=[]∨∃x:Lc,s=[x]∧x.acct=a∧x.id=i):ZaS (T++(s++D)) a i T s D:=⟨rfl,h.lo,h.hi,z⟩
theorem ZaS.good{E G:Int}(h:ZaS l a i T M D)(N:goodB E G l=true){C:List Lc}(L:C=[]∨∃x:Lc,C=[x]∧x.acct=a∧x.id=i)(J:∀x∈C,okB E G x=true)(z:(T++(C++D)).length≤32):goodB E G (T++(C++D))=true:=by
 obtain⟨g2,g4,g5⟩:=(good_iff E G l).1 N
 refine(good_iff _ _ _).2 ⟨z,fun y hy=>?_,?_⟩
 ·rcases List.mem_append.1 hy with h1|h1
  ·exact g4 y (by rw[h.eq];exact List.mem_append_left _ h1)
  ·rcases List.mem_append.1 h1 with h2|h2
   ·exact J y h2
   ·exact g4 y (by rw[h.eq];exact List.mem_append_right _ (List.mem_append_right _ h2))
 ·rw[h.eq,List.pairwise_append,List.pairwise_append] at g5
  obtain⟨p1,⟨_,p2,_⟩,p3⟩:=g5
  rw[List.pairwise_append,List.pairwise_append]
  have s:∀x∈C,∀y:Lc,(ZaN y x=ZaN y ⟨a,i,0,0,0⟩)∧(ZaN x y=ZaN ⟨a,i,0,0,0⟩ y):=fun x hx y=>by
   rcases L with rfl|⟨x',rfl,e1,e2⟩
   ·cases hx
   ·rw[List.mem_singleton.1 hx]
    unfold ZaN
    rw[e1,e2]
    exact⟨rfl,rfl⟩
  refine⟨p1,⟨?_,p2,?_⟩,?_⟩
  ·rcases L with rfl|⟨x,rfl,_,_⟩
   ·exact List.Pairwise.nil
   ·exact List.pairwise_singleton _ _
  ·intro x hx y hy
   unfold ltL
   rw[(s x hx y).2]
   exact h.hi y hy
  ·intro x hx y hy
   rcases List.mem_append.1 hy with h2|h2
   ·unfold ltL
    rw[(s y h2 x).1]
    exact h.lo x hx
   ·exact p3 x hx y (List.mem_append_right _ h2)
end
theorem about_of{l:List Lc}(E:Sorted l)(a i:Int):∃T M D,ZaS l a i T M D:=by
 obtain⟨h1,h2,h3⟩:=E.place ⟨a,i,0,0,0⟩
 obtain⟨p,hp⟩:=ExY (place l ⟨a,i,0,0,0⟩)
 rw[←hp] at h1 h2 h3
 have lo:∀y∈l.take p,ZaN y ⟨a,i,0,0,0⟩<0:=fun y hy=>by
  obtain⟨j,hj,rfl⟩:=List.mem_iff_getElem.1 hy
  rw[List.length_take] at hj
  have:=h2 j (by omega)
  rw[Zaf (by omega)] at this
  simpa using this
 have up:∀j,p≤j→∀(hj:j<l.length),¬(l[j].acct=a∧l[j].id=i)→ZaN ⟨a,i,0,0,0⟩ l[j]<0:=fun j C hj G=>by
  have:=h3 j C hj
  rw[Zaf hj] at this
  rw[cmpL_lt] at this ⊢
  dsimp only at this ⊢
  omega
 by_cases s:p<l.length
 ·by_cases hk:l[p].acct=a∧l[p].id=i
  ·refine⟨l.take p,[l[p]],l.drop (p+1),⟨?_,lo,fun y hy=>?_,.inr ⟨l[p],rfl,hk.1,hk.2⟩⟩⟩
   ·rw[List.singleton_append,←List.drop_eq_getElem_cons s,List.take_append_drop]
   ·obtain⟨j,hj,rfl⟩:=List.mem_iff_getElem.1 hy
    rw[List.length_drop] at hj
    rw[List.getElem_drop]
    refine up _ (by omega) (by omega) fun z=>?_
    have:=E p (p+1+j) (by omega) (by omega)
    rw[Zaf s,Zaf (by omega),cmpL_lt] at this
    omega
  ·refine⟨l.take p,[],l.drop p,⟨by rw[List.nil_append,List.take_append_drop],lo,fun y hy=>?_,.inl rfl⟩⟩
   obtain⟨j,hj,rfl⟩:=List.mem_iff_getElem.1 hy
   rw[List.length_drop] at hj
   rw[List.getElem_drop]
   refine up _ (by omega) (by omega) fun z=>?_
   rcases Nat.eq_zero_or_pos j with rfl|h0
   ·exact hk z
   ·have h4:=E p (p+j) (by omega) (by omega)
    rw[Zaf s,Zaf (by omega),cmpL_lt] at h4
    have h5:=up p (Nat.le_refl _) s hk
    rw[cmpL_lt] at h5
    dsimp only at h5
    omega
 ·exact⟨l,[],[],⟨by simp,(fun y hy=>lo y (by rwa [List.take_of_length_le (by omega)])),(fun y hy=>nomatch hy),Or.inl rfl⟩⟩
theorem about_mem{l:List Lc}(z:Sorted l){x:Lc}(s:x∈l):∃T D,ZaS l x.acct x.id T [x] D:=by
 obtain⟨T,M,D,h⟩:=about_of z x.acct x.id
 have hm:x∈M:=by
  obtain⟨n1,n2⟩:=h.no
  rw[h.eq] at s
  have hi:=(is_iff x x.acct x.id).2 ⟨rfl,rfl⟩
  rcases List.mem_append.1 s with h1|h1
  ·rw[n1 x h1] at hi;cases hi
  ·rcases List.mem_append.1 h1 with h2|h2
   ·exact h2
   ·rw[n2 x h2] at hi;cases hi
 rcases h.mid with rfl|⟨y,rfl,_,_⟩
 ·cases hm
 ·rw[List.mem_singleton.1 hm] at h ⊢
  exact⟨T,D,h⟩
end O
end
section
namespace O
section
variable {l T M D:List Lc} {a i:Int}
theorem ZaS.find0(h:ZaS l a i T [] D)(s:Sorted l):findL l a i = -1:=by rw[findL_sorted s,h.place.2];rfl
theorem ZaS.find1{x:Lc}(h:ZaS l a i T [x] D)(s:Sorted l):findL l a i=(T.length:Int):=by rw[findL_sorted s,h.place.1,h.place.2];rfl
end
end O
end
section
structure Zgb(la:List Int)(os:List O.Lc)(last:List Int)(left:List O.Lc):Prop where
 len:last.length=16
 las:∀v:Nat,v<16→last.getD v 0=la.getD v 0
 ids:∀e∈left,0≤e.acct∧e.acct<16∧e.id≤last.getD e.acct.toNat 0
 has:∀o∈os,∃e∈left,e.acct=o.acct∧e.id=o.id
 all:∀o∈os,∀e∈left,e.acct=o.acct→e.id=o.id→e.qty=Zef o.qty
structure Zfd(la la':List Int)(os os':List O.Lc)(acct id qty:Int):Prop where
 hacct:1<acct∧acct<la.length∧la.length≤16
 hid:la.getD acct.toNat 0<id
 hla:la'=la.set acct.toNat id
 hqty : -1000000000≤qty∧qty≤1000000000
 hos:∀o∈os',(o.acct=acct∧o.id=id∧o.qty=qty)∨o∈os
structure ZfV(la la':List Int)(os os':List O.Lc)(acct id q n:Int):Prop where
 hla:∀v:Nat,v<16→la'.getD v 0=la.getD v 0
 hos:∃x∈os,x.acct=acct∧x.id=id∧1≤q∧q≤Zef x.qty∧Zef x.qty≤1000000000∧n=Zef x.qty-q ∧
  ∀o∈os',(o.acct=acct∧o.id=id∧Zef o.qty=Zef x.qty-q)∨(o∈os∧¬(o.acct=acct∧o.id=id))
theorem ZcG{l:List Int}{k:Nat}(h:k<l.length)(x:Int):(l.set k x).getD k 0=x:=by simp[List.getD,h]
theorem Zc5{l:List Int}{k j:Nat}(h:k≠j)(x:Int):(l.set k x).getD j 0=l.getD j 0:=by simp[List.getD,List.getElem?_set_ne h]
section
variable {la la' last:List Int} {os os' left:List O.Lc} {acct id qty q n:Int}
theorem Zgb.new(h:Zgb la os last left)(p:Zfd la la' os os' acct id qty):¬id≤last.getD acct.toNat 0:=by
 have h1:=p.hacct
 have h2:=h.las acct.toNat (by omega)
 have h3:=p.hid
 omega
theorem Zgb.put(h:Zgb la os last left)(p:Zfd la la' os os' acct id qty)(x y:Int):Zgb la' os' (last.set acct.toNat id) (left++[⟨acct,id,x,Zef qty,y⟩]):=by
 have h1:=p.hacct
 have h3:=p.hid
 have hl:=h.len
 have h2:=h.las acct.toNat (by omega)
 have s:∀e∈left,e.acct=acct→e.id<id:=fun e he h4=>by
  have h5:=h.ids e he
  rw[h4] at h5
  omega
 have z:∀o∈os,¬(o.acct=acct∧o.id=id):=fun o ho hk=>by
  obtain⟨e,he,e1,e2⟩:=h.has o ho
  have h5:=s e he (e1.trans hk.1)
  have h6:=hk.2
  omega
 refine⟨(List.length_set ..).trans hl,fun v hv=>?_,fun e he=>?_,fun o ho=>?_,fun o ho e he k1 k2=>?_⟩
 ·rw[p.hla]
  by_cases hk:acct.toNat=v
  ·subst hk
   rw[ZcG (by omega),ZcG (by omega)]
  ·rw[Zc5 hk,Zc5 hk]
   exact h.las v hv
 ·rcases List.mem_append.1 he with h4|h4
  ·have h5:=h.ids e h4
   refine⟨h5.1,h5.2.1,?_⟩
   by_cases hk:acct.toNat=e.acct.toNat
   ·rw[←hk,ZcG (by omega)]
    have:=s e h4 (by omega)
    omega
   ·rw[Zc5 hk]
    exact h5.2.2
  ·have h5:=List.mem_singleton.1 h4
   subst h5
   dsimp only
   refine⟨by omega,by omega,?_⟩
   rw[ZcG (by omega)]
   exact Int.le_refl _
 ·rcases p.hos o ho with⟨k1,k2,k3⟩|h4
  ·exact⟨_,List.mem_append_right _ (List.mem_singleton.2 rfl),k1.symm,k2.symm⟩
  ·obtain⟨e,he,e1⟩:=h.has o h4
   exact⟨e,List.mem_append_left _ he,e1⟩
 ·rcases p.hos o ho with⟨l1,l2,l3⟩|h4
  ·rcases List.mem_append.1 he with h5|h5
   ·have:=s e h5 (k1.trans l1)
    omega
   ·have h6:=List.mem_singleton.1 h5
    subst h6
    dsimp only
    rw[l3]
  ·rcases List.mem_append.1 he with h5|h5
   ·exact h.all o h4 e h5 k1 k2
   ·have h6:=List.mem_singleton.1 h5
    subst h6
    exact absurd ⟨k1.symm,k2.symm⟩ (z o h4)
theorem Zgb.known(h:Zgb la os last left)(p:ZfV la la' os os' acct id q n):∃e∈left,e.acct=acct∧e.id=id:=by
 obtain⟨x,hx,k1,k2,_⟩:=p.hos
 obtain⟨e,he,e1,e2⟩:=h.has x hx
 exact⟨e,he,e1.trans k1,e2.trans k2⟩
end
end
end Go.Proofs.YtdefojlkofnloaaGreatDoor
