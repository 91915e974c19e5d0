/- A part of the proof of CoreOnce: for every input, no condition. -/
import Derived.Test.YtdefojlkofnloaaGreatDoorZb09
import Derived.Test.YtdefojlkofnloaaGreatDoorZb14
set_option maxRecDepth 100000
set_option maxHeartbeats 8000000
set_option linter.unusedVariables false
set_option linter.unusedSimpArgs false
namespace Go.Proofs.YtdefojlkofnloaaGreatDoor
open Go.RowKit Go.Proofs.Tryz
def ZeO(ps:List Int):Nat→Nat→List Int→List Int
 |0,_,out=>out
 |k+1,u,out=>ZeO ps k (u+1) (if Zk7 out (ps.getD u 0)=true then out++[(u:Int)] else out)
def ZbE(ps:List Int)(v:Int):List Int:=if ZeV ps v=true then ZeO ps (ps.length-v.toNat-1) (v.toNat+1) [v] else[]
theorem Zj7{w:World}{base g e k cap n:Nat}{cs:Array Value}(h:Bk w g e cs)(z:base≤g)(E:cs.size=cap*k)(s:n≤cap)(C:cap≤maxLen):
 w.ownsRow base e k (.slice (some (Aq g 0)) n cap) n (cs.toList.take (n*k)):=by
 refine⟨?_,.inr ⟨g,cap,cs,rfl,z,h,s,C,E,rfl⟩⟩
 have:n*k≤cap*k:=Nat.mul_le_mul_right k s
 simp
 omega
theorem Zjx(A:Option Addr)(n c:Nat)(ps:List Int)(v:Int)(w:World)(hn:n≤maxLen)(s:Rd w w.heap.size 1 A n (Zag ps)):
 Calls prog 207 #[.slice A n c,I v] w (Zd8 w (ZbE ps v)):=by
 have hl:ps.length=n:=by have:=s.1;rw[ZdA] at this;omega
 obtain⟨r,z⟩:=ExY (ZbE ps v)
 rw[←z]
 unfold ZbE at z
 rw[hl] at z
 have HG:=Hi (Zhx A n c ps v w hn s)
 obtain⟨g,hg⟩:=ExY (ZeV ps v)
 rw[←hg] at HG z
 have ak:Hid (g=true→0≤v∧v<(n:Int)∧n≤16):=fun h=>by
  rw[hg,ZeV] at h
  simp only[Bool.and_eq_true,decide_eq_true_eq] at h
  refine⟨h.2.1,by have:=h.2.2;omega,?_⟩
  have h1:=h.1
  unfold Zct at h1
  rw[hl] at h1
  split at h1
  ·cases h1
  ·split at h1
   ·cases h1
   ·omega
 have HR:=Hi z
 have an:=Hi s
 have HL:=Hi hl
 clear z s hl hg
 obtain⟨i,hi,E⟩:=Option.map_eq_some_iff.1 Zgq
 simp only[Prod.mk.injEq] at E
 have ap:=Hi E.1
 have aq:=Hi E.2.1
 have au:=Hi E.2.2
 have HI:=Hi hi
 clear E hi hn
 go_enter func207,ntmps207
 go_wp2_with fail
 refine HG.mono ?_
 rintro e W1 ⟨rfl,hb⟩
 have L:Hid (Bw w W1):=hb
 clear hb
 cases g with
 |false=>
  have e0:r=[]:=by rw[HR.out];rfl
  subst e0
  go_wp2
  go_ret
  exact⟨none,0,rfl,Nat.le_refl _,Nat.zero_le _,World.ownsRow_nil _ _ _ _,L⟩
 |true=>
 obtain⟨v0,v1,ay⟩:=ak.out rfl
 obtain⟨u0,rfl⟩:∃u:Nat,v=u:=⟨v.toNat,by omega⟩
 have U:=HR.out
 rw[if_pos rfl,Int.toNat_natCast,show n-u0-1=n-(u0+1) by omega] at U
 have am:=Hi U
 clear U
 obtain⟨W2,G⟩:=ExY (W1.alloc (.cells #[I u0] 3))
 have ai:=blA L G
 have al:Hid (W2.ownsRow w.heap.size 3 1 (.slice (some ⟨W1.heap.size,0,none⟩) 1 1) 1 (Zag [(u0:Int)])):=by
  have ao:Bk W2 W1.heap.size 3 #[I u0]:=by rw[G];exact Bk.new _ _ _
  exact Zj7 (k:=1) ao L.size rfl (Nat.le_refl _) (by decide)
 go_upto_region 5 with(fail)
 rw[←G]
 clear G
 go_loopw [5,6] (fun v5 v6 wr=>∃(u m c:Nat) (A:Option Addr) (out:List Int),u≤n∧v5=.slice A m c∧v6=I u∧Hid (r=ZeO ps (n-u) u out)∧Hid (m≤u∧out.length=m∧m≤c∧c≤maxLen∧wr.ownsRow w.heap.size 3 1 (.slice A m c) m (Zag out))∧Hid (Bw w wr)) (fun _ v6 _=>n-(intOf v6).toNat)
 case atStart=>exact⟨u0+1,1,1,_,[(u0:Int)],by omega,rfl,by go_num,am,⟨by omega,rfl,Nat.le_refl _,by decide,al⟩,ai⟩
 case round=>
  obtain⟨u,m,c1,A1,out,hu,rfl,rfl,HK,HO,HB⟩:=hrel
  rename World=>V
  by_cases ax:u<n
  ·obtain⟨q,hq⟩:∃q,n-u=q+1:=⟨n-u-1,by omega⟩
   have s:=HK.out
   rw[hq,ZeO,show q=n-(u+1) by omega] at s
   have af:Rd V w.heap.size 1 A n (Zag ps):=an.below HB
   obtain⟨a,rfl,_,ca⟩:=af.cell (j:=u) (u:=I (ps.getD u 0)) (Zcx ps u (by have:=HL.out;omega))
   obtain⟨p,hp⟩:=ExY (ps.getD u 0)
   rw[←hp] at s ca
   have ad:m≤maxLen:=Nat.le_trans HO.2.2.1 HO.2.2.2.1
   have HH:=Hi (Zgn A1 m c1 out p V ad (Rd.of_own HO.2.2.2.2))
   obtain⟨h,hh⟩:=ExY (Zk7 out p)
   rw[←hh] at s HH
   have Z:=Hi s
   clear s hh hp HK af ad
   have i0:(0:Int)≤(u:Int):=by omega
   have i1:(u:Int)<(n:Int):=by omega
   go_wp2_with fail
   refine HH.mono ?_
   rintro e w' ⟨rfl,ah⟩
   rw[ah]
   clear ah w' ca
   cases h with
   |false=>
    have s:=Z.out
    rw[if_neg (by simp)] at s
    have R:=Hi s
    have N:Hid (m≤u+1∧out.length=m∧m≤c1∧c1≤maxLen∧V.ownsRow w.heap.size 3 1 (.slice A1 m c1) m (Zag out)):=⟨by have:=HO.1;omega,HO.2⟩
    clear s HO
    go_wp2
    go_roundw
    case rel=>exact⟨u+1,m,c1,A1,out,by omega,rfl,by go_num,R,N,HB⟩
    case measure=>simp[intOf];omega
   |true=>
    have s:=Z.out
    rw[if_pos rfl] at s
    have R:=Hi s
    clear s
    have aw:m≤16:=by have:=HO.1;omega
    have J:∀x∈[Value.int .i64 u],x.oneCell'=true:=by simp[Value.oneCell']
    have ae:Rd (V.alloc (.cells #[I u] 3)) (V.heap.size+1) 1 (some ⟨V.heap.size,0,none⟩) 1 [I u]:=by
     refine⟨rfl,fun _=>⟨_,rfl,by simp,World.news_of_block (Bk.new V 3 #[I u])⟩⟩
    have aa:=Hi ae
    have Y:=Hi J
    have X:=Hi HO.2.2.2.2
    clear ae J
    go_wp2_with (at_builtin;go_must (refine Zan _ rfl (.tmp 27) (.tmp 29) _ rfl w.heap.size 3 i _ 1 8 underlying34 HI ap aq au rfl (by omega) _ m (Zag out) rfl (X.alloc _) _ _ 1 1 _ rfl aa Y (by unfold maxLen;omega) (by omega) (by have:=HB.size;simp;omega) ?_);intro A2 c5 w3 h1 h2 C ac ab)
    have aj:Hid (Bw w w3):=(HB.alloc HB.size _).grown ac (by have:=HB.size;simp;omega) (fun b hb=>(X.lt b hb).1)
    have N:Hid (m+1≤u+1∧(out++[(u:Int)]).length=m+1∧m+1≤c5∧c5≤maxLen∧w3.ownsRow w.heap.size 3 1 (.slice A2 (m+1) c5) (m+1) (Zag (out++[(u:Int)]))):=by
     refine⟨by have:=HO.1;omega,by rw[List.length_append,HO.2.1];rfl,h1,h2,?_⟩
     have e:Zag (out++[(u:Int)])=Zag out++[I u]:=by simp[Zag]
     rw[e]
     exact C
    clear C ac ab h1 h2
    go_roundw
    case rel=>exact⟨u+1,m+1,c5,A2,out++[(u:Int)],by omega,rfl,by go_num,R,N,aj⟩
    case measure=>simp[intOf];omega
  ·have ag:u=n:=by omega
   have e0:r=out:=by rw[HK.out,ag,Nat.sub_self];rfl
   subst e0
   subst ag
   have i1:¬((u:Int)<(u:Int)):=by omega
   go_wp2
   go_ret
   obtain⟨_,h1,h2,h3,h4⟩:=HO.out
   subst h1
   exact⟨A1,c1,rfl,h2,h3,h4,HB⟩
section
section
variable {α:Type}
def Zgp(p:α→Bool)(l:List α):Int:=if l.findIdx p<l.length then((l.findIdx p:Nat):Int) else -1
def Zfr(p:α→Bool)(l:List α):Bool:=decide (0≤Zgp p l)
theorem Ze2{p:α→Bool}{l:List α}{k:Nat}(z:k<l.length)(s:∀j (hj:j<l.length),j<k→p l[j]=false)(h:p l[k]=true):Zgp p l=(k:Int):=by
 have e:l.findIdx p=k:=by
  rw[List.findIdx_eq z]
  exact⟨h,fun j hj=>s j (by omega) hj⟩
 unfold Zgp
 rw[e,if_pos z]
theorem Zep{p:α→Bool}{l:List α}(s:∀j (hj:j<l.length),p l[j]=false):Zgp p l = -1:=by
 have e:l.findIdx p=l.length:=by
  rw[List.findIdx_eq_length]
  intro y hy
  obtain⟨j,hj,rfl⟩:=List.mem_iff_getElem.1 hy
  exact s j hj
 unfold Zgp
 rw[e,if_neg (Nat.lt_irrefl _)]
theorem Zin(p:α→Bool)(l:List α):Zfr p l=true↔∃x∈l,p x=true:=by
 unfold Zfr Zgp
 rw[decide_eq_true_eq]
 constructor
 ·intro h
  split at h
  ·rename_i s
   exact⟨_,List.getElem_mem _,List.findIdx_getElem (w:=s)⟩
  ·omega
 ·rintro⟨x,hx,hp⟩
  have s:l.findIdx p<l.length:=List.findIdx_lt_length_of_exists ⟨x,hx,hp⟩
  rw[if_pos s]
  omega
theorem Zk6(p:α→Bool)(l:List α):Zfr p l=false↔∀x∈l,p x=false:=by
 rw[←Bool.not_eq_true,Zin]
 constructor
 ·intro h x hx
  rw[←Bool.not_eq_true]
  exact fun hp=>h ⟨x,hx,hp⟩
 ·rintro h ⟨x,hx,hp⟩
  rw[h x hx] at hp
  cases hp
end
theorem Zl3(A:Option Addr)(n c:Nat)(l:List ZbD)(p:ZbD→Bool)(C:Value)(w:World)(hn:n≤maxLen)(X:l.length=n)(Z:Rd w w.heap.size 4 A n (l.flatMap ZbD.cs))(Y:∀(x:ZbD) (V:World),x∈l→Bw w V→Calls prog 129 #[x.val,C] V fun e w'=>e=.returned (.bool (p x))∧Bw V w'):
 Calls prog 128 #[.slice A n c,.func (.func 129) #[] #[C]] w fun e w'=>e=.returned (I (Zgp p l))∧Bw w w':=by
 obtain⟨r,z⟩:=ExY (Zgp p l)
 rw[←z]
 have HE:=Hi z
 have HL:=Hi X
 have HR:=Hi Z
 have HP:=Hi Y
 unfold maxLen at hn
 clear z X Z Y
 go_enter func128,ntmps128
 go_upto_region 2 with(fail)
 go_loopw [8] (fun v wr=>∃k:Nat,k≤n∧v=I k∧Hid (∀j (hj:j<l.length),j<k→p l[j]=false)∧Hid (Bw w wr)) (fun v _=>n-(intOf v).toNat)
 case atStart=>exact⟨0,Nat.zero_le _,rfl,(fun j _ hj=>absurd hj (Nat.not_lt_zero _):∀j (hj:j<l.length),j<0→p l[j]=false),Below.refl _ _⟩
 case round=>
  obtain⟨k,hk,rfl,s,HB⟩:=hrel
  rename World=>V
  by_cases aa:k<n
  ·have N:k<l.length:=by have:=HL.out;omega
   obtain⟨a0,rfl,_,c0,c1,c2,c3⟩:=ZfE (HR.below HB) N
   obtain⟨⟨xn,xc,xp,xv⟩,hx⟩:∃x,x=l[k]:=⟨_,rfl⟩
   have hc:=HP.out (l[k]) V (List.getElem_mem _) HB
   obtain⟨rb,E⟩:=ExY (p l[k])
   rw[←E] at hc
   rw[←hx] at hc c0 c1 c2 c3
   dsimp only[ZbD.val] at hc c0 c1 c2 c3
   have HC:=Hi hc
   have J:Hid (rb=p l[k]):=E
   clear hx E hc
   have i0:(0:Int)≤(k:Int):=by omega
   have i1:(k:Int)<(n:Int):=by omega
   go_wp2_with fail
   refine HC.mono ?_
   rintro e w2 ⟨rfl,L⟩
   have G:=blT HB L
   clear L c0 c1 c2 c3
   cases rb with
   |true=>
    have e:r=(k:Int):=by rw[HE.out];exact Ze2 N s J.symm
    subst e
    go_wp2
    go_ret
    exact⟨rfl,G⟩
   |false=>
    have R:Hid (∀j (hj:j<l.length),j<k+1→p l[j]=false):=fun j hj h=>by
     rcases Nat.lt_or_eq_of_le (Nat.lt_succ_iff.1 h) with h1|rfl
     ·exact s.out j hj h1
     ·exact J.symm
    go_wp2
    go_roundw
    case rel=>exact⟨k+1,by omega,by go_num,R,G⟩
    case measure=>simp[intOf];omega
  ·have U:k=n:=by omega
   have e:r = -1:=by rw[HE.out];exact Zep fun j hj=>s.out j hj (by have:=HL.out;omega)
   subst e
   subst U
   go_wp2
   go_ret
   exact⟨rfl,HB⟩
theorem Zl0(A:Option Addr)(n c:Nat)(l:List ZaD)(p:ZaD→Bool)(C:Value)(w:World)(hn:n≤maxLen)(X:l.length=n)(Z:Rd w w.heap.size 7 A n (l.flatMap ZaD.cs))(Y:∀(x:ZaD) (V:World),x∈l→Bw w V→Calls prog 173 #[x.val,C] V fun e w'=>e=.returned (.bool (p x))∧Bw V w'):
 Calls prog 203 #[.slice A n c,.func (.func 173) #[] #[C]] w fun e w'=>e=.returned (I (Zgp p l))∧Bw w w':=by
 obtain⟨r,z⟩:=ExY (Zgp p l)
 rw[←z]
 have HE:=Hi z
 have HL:=Hi X
 have HR:=Hi Z
 have HP:=Hi Y
 unfold maxLen at hn
 clear z X Z Y
 go_enter func203,ntmps203
 go_upto_region 2 with(fail)
 go_loopw [8] (fun v wr=>∃k:Nat,k≤n∧v=I k∧Hid (∀j (hj:j<l.length),j<k→p l[j]=false)∧Hid (Bw w wr)) (fun v _=>n-(intOf v).toNat)
 case atStart=>exact⟨0,Nat.zero_le _,rfl,(fun j _ hj=>absurd hj (Nat.not_lt_zero _):∀j (hj:j<l.length),j<0→p l[j]=false),Below.refl _ _⟩
 case round=>
  obtain⟨k,hk,rfl,s,HB⟩:=hrel
  rename World=>V
  by_cases aa:k<n
  ·have N:k<l.length:=by have:=HL.out;omega
   obtain⟨a0,rfl,_,c0,c1,c2,c3,c4,c5,c6⟩:=Zds (HR.below HB) N
   obtain⟨⟨xk,xu,xm,xs,xe,xc,ab⟩,hx⟩:∃x,x=l[k]:=⟨_,rfl⟩
   have hc:=HP.out (l[k]) V (List.getElem_mem _) HB
   obtain⟨rb,E⟩:=ExY (p l[k])
   rw[←E] at hc
   rw[←hx] at hc c0 c1 c2 c3 c4 c5 c6
   dsimp only[ZaD.val] at hc c0 c1 c2 c3 c4 c5 c6
   have HC:=Hi hc
   have J:Hid (rb=p l[k]):=E
   clear hx E hc
   have i0:(0:Int)≤(k:Int):=by omega
   have i1:(k:Int)<(n:Int):=by omega
   go_wp2_with fail
   refine HC.mono ?_
   rintro e w2 ⟨rfl,L⟩
   have G:=blT HB L
   clear L c0 c1 c2 c3 c4 c5 c6
   cases rb with
   |true=>
    have e:r=(k:Int):=by rw[HE.out];exact Ze2 N s J.symm
    subst e
    go_wp2
    go_ret
    exact⟨rfl,G⟩
   |false=>
    have R:Hid (∀j (hj:j<l.length),j<k+1→p l[j]=false):=fun j hj h=>by
     rcases Nat.lt_or_eq_of_le (Nat.lt_succ_iff.1 h) with h1|rfl
     ·exact s.out j hj h1
     ·exact J.symm
    go_wp2
    go_roundw
    case rel=>exact⟨k+1,by omega,by go_num,R,G⟩
    case measure=>simp[intOf];omega
  ·have U:k=n:=by omega
   have e:r = -1:=by rw[HE.out];exact Zep fun j hj=>s.out j hj (by have:=HL.out;omega)
   subst e
   subst U
   go_wp2
   go_ret
   exact⟨rfl,HB⟩
theorem ZlX(A:Option Addr)(n c:Nat)(l:List ZaD)(p:ZaD→Bool)(s:Value)(w:World)(C:n≤maxLen)(J:l.length=n)(G:Rd w w.heap.size 7 A n (l.flatMap ZaD.cs))(E:∀(x:ZaD) (V:World),x∈l→Bw w V→Calls prog 173 #[x.val,s] V fun e w'=>e=.returned (.bool (p x))∧Bw V w'):
 Calls prog 172 #[.slice A n c,.func (.func 173) #[] #[s]] w fun e w'=>e=.returned (.bool (Zfr p l))∧Bw w w':=by
 have HC:=Hi (Zl0 A n c l p s w C J G E)
 unfold Zfr
 obtain⟨r,z⟩:=ExY (Zgp p l)
 rw[←z] at HC ⊢
 clear z G C E
 go_enter func172,ntmps172
 go_wp2_with fail
 refine HC.mono ?_
 rintro e w' ⟨rfl,hb⟩
 go_wp2
 go_ret
 exact⟨rfl,hb⟩
theorem Zl1(A:Option Addr)(n c:Nat)(l:List Int)(p:Int→Bool)(w:World)(hn:n≤maxLen)(U:l.length=n)(Y:Rd w w.heap.size 1 A n (Zag l))(X:∀(x:Int) (V:World),x∈l→Bw w V→Calls prog 175 #[I x] V fun e w'=>e=.returned (.bool (p x))∧Bw V w'):
 Calls prog 204 #[.slice A n c,.func (.func 175) #[] #[]] w fun e w'=>e=.returned (I (Zgp p l))∧Bw w w':=by
 obtain⟨r,z⟩:=ExY (Zgp p l)
 rw[←z]
 have HE:=Hi z
 have HL:=Hi U
 have HR:=Hi Y
 have HP:=Hi X
 unfold maxLen at hn
 clear z U Y X
 go_enter func204,ntmps204
 go_upto_region 2 with(fail)
 go_loopw [8] (fun v wr=>∃k:Nat,k≤n∧v=I k∧Hid (∀j (hj:j<l.length),j<k→p l[j]=false)∧Hid (Bw w wr)) (fun v _=>n-(intOf v).toNat)
 case atStart=>exact⟨0,Nat.zero_le _,rfl,(fun j _ hj=>absurd hj (Nat.not_lt_zero _):∀j (hj:j<l.length),j<0→p l[j]=false),Below.refl _ _⟩
 case round=>
  obtain⟨k,hk,rfl,s,HB⟩:=hrel
  rename World=>V
  by_cases Z:k<n
  ·have L:k<l.length:=by have:=HL.out;omega
   obtain⟨a0,rfl,_,c0⟩:=(HR.below HB).cell (j:=k) (u:=I (l[k])) (by simp[Zag,L])
   obtain⟨x,hx⟩:=ExY (l[k])
   rw[←hx] at c0
   have HX:=Hi hx
   have HC:=Hi (HP.out x V (by rw[hx];exact List.getElem_mem _) HB)
   obtain⟨rb,C⟩:=ExY (p x)
   rw[←C] at HC
   have G:Hid (rb=p l[k]):=by rw[←HX.out];exact C
   clear hx C
   have i0:(0:Int)≤(k:Int):=by omega
   have i1:(k:Int)<(n:Int):=by omega
   go_wp2_with fail
   refine HC.mono ?_
   rintro e w2 ⟨rfl,J⟩
   have E:=blT HB J
   clear J c0
   cases rb with
   |true=>
    have e:r=(k:Int):=by rw[HE.out];exact Ze2 L s G.symm
    subst e
    go_wp2
    go_ret
    exact⟨rfl,E⟩
   |false=>
    have N:Hid (∀j (hj:j<l.length),j<k+1→p l[j]=false):=fun j hj h=>by
     rcases Nat.lt_or_eq_of_le (Nat.lt_succ_iff.1 h) with h1|rfl
     ·exact s.out j hj h1
     ·exact G.symm
    go_wp2
    go_roundw
    case rel=>exact⟨k+1,by omega,by go_num,N,E⟩
    case measure=>simp[intOf];omega
  ·have R:k=n:=by omega
   have e:r = -1:=by rw[HE.out];exact Zep fun j hj=>s.out j hj (by have:=HL.out;omega)
   subst e
   subst R
   go_wp2
   go_ret
   exact⟨rfl,HB⟩
theorem ZlY(A:Option Addr)(n c:Nat)(l:List Int)(p:Int→Bool)(w:World)(z:n≤maxLen)(G:l.length=n)(E:Rd w w.heap.size 1 A n (Zag l))(C:∀(x:Int) (V:World),x∈l→Bw w V→Calls prog 175 #[I x] V fun e w'=>e=.returned (.bool (p x))∧Bw V w'):
 Calls prog 174 #[.slice A n c,.func (.func 175) #[] #[]] w fun e w'=>e=.returned (.bool (Zfr p l))∧Bw w w':=by
 have HC:=Hi (Zl1 A n c l p  w z G E C)
 unfold Zfr
 obtain⟨r,s⟩:=ExY (Zgp p l)
 rw[←s] at HC ⊢
 clear s E z C
 go_enter func174,ntmps174
 go_wp2_with fail
 refine HC.mono ?_
 rintro e w' ⟨rfl,hb⟩
 go_wp2
 go_ret
 exact⟨rfl,hb⟩
theorem Zl2(A:Option Addr)(n c:Nat)(l:List O.Lc)(p:O.Lc→Bool)(C:Value)(w:World)(hn:n≤maxLen)(X:l.length=n)(Z:Rd w w.heap.size 5 A n (O.lcs l))(Y:∀(x:O.Lc) (V:World),x∈l→Bw w V→Calls prog 145 #[x.val,C] V fun e w'=>e=.returned (.bool (p x))∧Bw V w'):
 Calls prog 112 #[.slice A n c,.func (.func 145) #[] #[C]] w fun e w'=>e=.returned (I (Zgp p l))∧Bw w w':=by
 obtain⟨r,z⟩:=ExY (Zgp p l)
 rw[←z]
 have HE:=Hi z
 have HL:=Hi X
 have HR:=Hi Z
 have HP:=Hi Y
 unfold maxLen at hn
 clear z X Z Y
 go_enter func112,ntmps112
 go_upto_region 2 with(fail)
 go_loopw [8] (fun v wr=>∃k:Nat,k≤n∧v=I k∧Hid (∀j (hj:j<l.length),j<k→p l[j]=false)∧Hid (Bw w wr)) (fun v _=>n-(intOf v).toNat)
 case atStart=>exact⟨0,Nat.zero_le _,rfl,(fun j _ hj=>absurd hj (Nat.not_lt_zero _):∀j (hj:j<l.length),j<0→p l[j]=false),Below.refl _ _⟩
 case round=>
  obtain⟨k,hk,rfl,s,HB⟩:=hrel
  rename World=>V
  by_cases aa:k<n
  ·have N:k<l.length:=by have:=HL.out;omega
   obtain⟨a0,rfl,_,c0,c1,c2,c3,c4⟩:=O.rd_loc (HR.below HB) N
   obtain⟨⟨xa,xi,xn,xq,xp⟩,hx⟩:∃x,x=l[k]:=⟨_,rfl⟩
   have hc:=HP.out (l[k]) V (List.getElem_mem _) HB
   obtain⟨rb,E⟩:=ExY (p l[k])
   rw[←E] at hc
   rw[←hx] at hc c0 c1 c2 c3 c4
   dsimp only[O.Lc.val] at hc c0 c1 c2 c3 c4
   have HC:=Hi hc
   have J:Hid (rb=p l[k]):=E
   clear hx E hc
   have i0:(0:Int)≤(k:Int):=by omega
   have i1:(k:Int)<(n:Int):=by omega
   go_wp2_with fail
   refine HC.mono ?_
   rintro e w2 ⟨rfl,L⟩
   have G:=blT HB L
   clear L c0 c1 c2 c3 c4
   cases rb with
   |true=>
    have e:r=(k:Int):=by rw[HE.out];exact Ze2 N s J.symm
    subst e
    go_wp2
    go_ret
    exact⟨rfl,G⟩
   |false=>
    have R:Hid (∀j (hj:j<l.length),j<k+1→p l[j]=false):=fun j hj h=>by
     rcases Nat.lt_or_eq_of_le (Nat.lt_succ_iff.1 h) with h1|rfl
     ·exact s.out j hj h1
     ·exact J.symm
    go_wp2
    go_roundw
    case rel=>exact⟨k+1,by omega,by go_num,R,G⟩
    case measure=>simp[intOf];omega
  ·have U:k=n:=by omega
   have e:r = -1:=by rw[HE.out];exact Zep fun j hj=>s.out j hj (by have:=HL.out;omega)
   subst e
   subst U
   go_wp2
   go_ret
   exact⟨rfl,HB⟩
theorem ZlZ(A:Option Addr)(n c:Nat)(l:List O.Lc)(p:O.Lc→Bool)(s:Value)(w:World)(C:n≤maxLen)(J:l.length=n)(G:Rd w w.heap.size 5 A n (O.lcs l))(E:∀(x:O.Lc) (V:World),x∈l→Bw w V→Calls prog 145 #[x.val,s] V fun e w'=>e=.returned (.bool (p x))∧Bw V w'):
 Calls prog 144 #[.slice A n c,.func (.func 145) #[] #[s]] w fun e w'=>e=.returned (.bool (Zfr p l))∧Bw w w':=by
 have HC:=Hi (Zl2 A n c l p s w C J G E)
 unfold Zfr
 obtain⟨r,z⟩:=ExY (Zgp p l)
 rw[←z] at HC ⊢
 clear z G C E
 go_enter func144,ntmps144
 go_wp2_with fail
 refine HC.mono ?_
 rintro e w' ⟨rfl,hb⟩
 go_wp2
 go_ret
 exact⟨rfl,hb⟩
end
theorem Bk.nine{w:World}{g:Nat}{t:TypeId}{a b c d e f h i j:Value}(k:Bk w g t #[a,b,c,d,e,f,h,i,j]):w.cell? (Aq g 0)=some a∧w.cell? (Aq g 1)=some b∧w.cell? (Aq g 2)=some c∧w.cell? (Aq g 3)=some d∧w.cell? (Aq g 4)=some e∧w.cell? (Aq g 5)=some f∧w.cell? (Aq g 6)=some h∧w.cell? (Aq g 7)=some i∧w.cell? (Aq g 8)=some j ∧
 w.frozen? (Aq g 0)=false∧w.frozen? (Aq g 1)=false∧w.frozen? (Aq g 2)=false∧w.frozen? (Aq g 3)=false∧w.frozen? (Aq g 4)=false∧w.frozen? (Aq g 5)=false∧w.frozen? (Aq g 6)=false∧w.frozen? (Aq g 7)=false∧w.frozen? (Aq g 8)=false∧g<w.heap.size:=
 ⟨k.cell 0,k.cell 1,k.cell 2,k.cell 3,k.cell 4,k.cell 5,k.cell 6,k.cell 7,k.cell 8,k.frozen 0,k.frozen 1,k.frozen 2,k.frozen 3,k.frozen 4,k.frozen 5,k.frozen 6,k.frozen 7,k.frozen 8,k.lt⟩
theorem ZiY(u:ZbD)(s:ByteArray)(L:Nat)(w:World)(U:Bk w L 9 #[.string s]):
 Calls prog 129 #[u.val,Pt L] w fun e w'=>e=.returned (.bool (u.name.toList==s.toList))∧Bw w w':=by
 obtain⟨xn,xc,xp,xv⟩:=u
 unfold ZbD.val
 dsimp only
 obtain⟨W1,z⟩:=ExY (w.alloc (.cells #[.string xn,I xc,I xp,I xv] 63))
 obtain⟨bu,C⟩:=ExY w.heap.size
 have E:=blB z
 have J:=bkW z C
 have G:Hid (Bk W1 L 9 #[.string s]):=by rw[z];exact U.alloc _
 clear U
 go_enter func129,ntmps129
 go_upto_region 1 with(fail)
 rw[←z,←C]
 clear z C
 have R:=J.four
 have N:=G.one
 go_wp2
 go_ret
 exact⟨rfl,E⟩
def ZcR(l:List ZbD)(s:ByteArray):Int:=Zgp (fun u=>u.name.toList==s.toList) l
theorem ZfA(A:Option Addr)(n c:Nat)(l:List ZbD)(s:ByteArray)(w:World)(X:n≤maxLen)(U:Rd w w.heap.size 4 A n (l.flatMap ZbD.cs)):
 Calls prog 74 #[.slice A n c,.string s] w fun e w'=>e=.returned (I (ZcR l s))∧Bw w w':=by
 have Y:∀(fn:Fn) (first cap:Array Value) (w:World),(Instr.makeFunc fn first cap).run prog w=.ok (.func fn first cap) w:=fun _ _ _ _=>rfl
 have hl:l.length=n:=ZeI Zed U (by decide)
 obtain⟨W1,E⟩:=ExY (w.alloc (.cells #[.string s] 9))
 obtain⟨bn,J⟩:=ExY w.heap.size
 have C:=blB E
 have z:=bkW E J
 have HI:=Hi (Zl3 A n c l (fun u=>u.name.toList==s.toList) (Pt bn) W1 X hl ((U.below C).mono C.size) (fun x V _ hV=>ZiY x s bn V (z.below hV z.lt)))
 unfold ZcR
 obtain⟨r,R⟩:=ExY (Zgp (fun u:ZbD=>u.name.toList==s.toList) l)
 rw[←R] at HI ⊢
 clear R U X hl
 go_enter func74,ntmps74
 go_upto_region 1 with(fail)
 rw[←E,←J]
 clear E J
 have G:=z.one
 go_wp2_with fail
 refine((fun _=>HI.out) W1).mono ?_
 rintro e W2 ⟨rfl,hb⟩
 have L:=blT C hb
 have N:=bkN z hb
 clear G
 clear hb
 have G:=N.one
 go_wp2
 go_ret
 exact⟨rfl,L⟩
theorem ZiW(i:ZaD)(m:Zab)(bl:Nat)(w:World)(hn:m.unders.length≤maxLen)(C:Bk w bl 37 m.cs.toArray):
 Calls prog 173 #[i.val,Pt bl] w fun e w'=>e=.returned (.bool (!Zgr i m.unders.length))∧Bw w w':=by
 have HI:=Hi (fun w=>ZhU i m.unders.length hn w)
 obtain⟨r,ab⟩:=ExY (Zgr i m.unders.length)
 rw[←ab] at HI ⊢
 clear ab hn
 obtain⟨ac,U,ad,E,z,ae,mark⟩:=i
 unfold ZaD.val at HI ⊢
 dsimp only at HI ⊢
 replace C:Bk w bl 37 m.ar:=C
 obtain⟨W1,s⟩:=ExY (w.alloc (.cells #[I ac,I U,I ad,I E,I z,.bool ae,I mark] 66))
 obtain⟨bi,R⟩:=ExY w.heap.size
 have X:=blB s
 have G:=bkW s R
 have J:Hid (Bk W1 bl 37 m.ar):=by rw[s];exact C.alloc _
 clear C
 go_enter func173,ntmps173
 go_upto_region 1 with(fail)
 rw[←s,←R]
 clear s R
 have L:=G.seven
 have N:=J.nine
 go_wp2_with fail
 refine(HI.out W1).mono ?_
 rintro e W2 ⟨rfl,C⟩
 have Y:=blT X C
 have Z:=bkN G C
 have aa:=bkN J C
 clear L N
 clear C
 have L:=Z.seven
 have N:=aa.nine
 go_wp2
 go_ret
 exact⟨rfl,Y⟩
theorem ZfH(x:Int)(w:World):Calls prog 175 #[I x] w fun e w'=>e=.returned (.bool (!ZbM x))∧Bw w w':=by
 have HI:=Hi (fun w=>Zca x w)
 obtain⟨r,s⟩:=ExY (ZbM x)
 rw[←s] at HI ⊢
 clear s
 go_enter func175,ntmps175
 go_wp2_with fail
 refine Cq (HI.out _) ?_
 go_wp2
 go_ret
 exact⟨rfl,Below.refl _ _⟩
theorem Zle(o:O.Lc)(m:Zab)(J:Nat)(w:World)(X:0≤o.acct∧o.acct<m.accts.length)(L:Bk w J 37 m.cs.toArray)(U:Rd w w.heap.size 4 m.sAcc.A m.accts.length (m.accts.flatMap ZaA.cs)):
 Calls prog 145 #[o.val,Pt J] w fun e w'=>e=.returned (.bool (decide ((m.accts.getD o.acct.toNat default).last<o.id)))∧Bw w w':=by
 obtain⟨xa,xi,xn,xq,xp⟩:=o
 dsimp only at X ⊢
 obtain⟨q,rfl⟩:∃q:Nat,xa=q:=⟨xa.toNat,by omega⟩
 have hq:q<m.accts.length:=by omega
 have e1:m.accts.getD ((q:Int)).toNat default=m.accts[q]:=by rw[Int.toNat_natCast];simp[hq]
 rw[e1]
 clear e1
 unfold O.Lc.val
 dsimp only
 replace L:Bk w J 37 m.ar:=L
 obtain⟨W1,z⟩:=ExY (w.alloc (.cells #[I q,I xi,I xn,I xq,I xp] 45))
 obtain⟨bo,C⟩:=ExY w.heap.size
 have s:=blB z
 have G:=bkW z C
 have E:Hid (Bk W1 J 37 m.ar):=by rw[z];exact L.alloc _
 obtain⟨a,hA,_,c0,c1,c2,c3⟩:=ZeT ((U.below s).mono s.size) hq
 obtain⟨y,hy⟩:=ExY (m.accts[q])
 rw[←hy] at c0 c1 c2 c3 ⊢
 clear L U hy
 have i0:(0:Int)≤(q:Int):=by omega
 have i1:(q:Int)<(m.accts.length:Int):=by omega
 go_enter func145,ntmps145
 go_upto_region 1 with(fail)
 rw[←z,←C]
 clear z C
 have R:=G.five
 have N:=E.nine
 rw[hA] at *
 go_quiet (fail)
 go_wp2
 go_ret
 exact⟨rfl,Below.drewN' s _⟩
def ZfW(p:Nat→Bool):Nat→Nat→Bool
 |0,_=>true
 |k+1,s=>p s&&ZfW p k (s+1)
theorem Zih(p:Nat→Bool)(k s:Nat):ZfW p k s=true↔∀j,s≤j→j<s+k→p j=true:=by
 induction k generalizing s with
 |zero=>simp[ZfW];omega
 |succ k ih=>
  rw[ZfW,Bool.and_eq_true,ih]
  constructor
  ·rintro⟨h1,h2⟩ j h3 h4
   by_cases h:j=s
   ·subst h;exact h1
   ·exact h2 j (by omega) (by omega)
  ·intro h
   exact⟨h s (Nat.le_refl _) (by omega),fun j h1 h2=>h j (by omega) (by omega)⟩
def Zg1(m:Zab)(n:Nat):Bool:=ZlF (m.curs.getD n default) n
def ZfT(m:Zab)(n:Nat):Bool:=Ziy (m.unders.getD n default) m.curs.length && !decide (0≤ZcR (m.unders.take n) (m.unders.getD n default).name)
def Zcp(m:Zab):Bool:=
 if m.curs.length<1∨4<m.curs.length∨6<m.unders.length∨12<m.instrs.length then false
 else ZfW (Zg1 m) m.curs.length 0&&(ZfW (ZfT m) m.unders.length 0 && !Zfr (fun i => !Zgr i m.unders.length) m.instrs)
theorem Zmi{w:World}{B n q:Nat}{A:Option Addr}{l:List ZbD}(h:Rd w B 4 A n (l.flatMap ZbD.cs))(z:q≤n):Rd w B 4 A q ((l.take q).flatMap ZbD.cs):=by
 have hl:l.length=n:=ZeI Zed h (by decide)
 have e:(l.take q).flatMap ZbD.cs=(l.flatMap ZbD.cs).take (q*4):=by
  have e2:l.flatMap ZbD.cs=(l.take q).flatMap ZbD.cs++(l.drop q).flatMap ZbD.cs:=by rw[←List.flatMap_append,List.take_append_drop]
  have e3:((l.take q).flatMap ZbD.cs).length=q*4:=by rw[Ze7 Zed,List.length_take];omega
  rw[e2,←e3,List.take_left]
 refine⟨by rw[Ze7 Zed,List.length_take];omega,fun s=>?_⟩
 obtain⟨a,hA,hb,hc⟩:=h.2 (by omega)
 refine⟨a,hA,hb,fun j u hu=>hc j u ?_⟩
 rw[e,List.getElem?_take] at hu
 split at hu
 ·exact hu
 ·cases hu
theorem Zjj(m:Zab)(w:World)(hm:Zay w w.heap.size m):
 Calls prog 139 #[m.val] w fun e w'=>e=.returned (.bool (Zcp m))∧Bw w w':=by
 have aU:∀(fn:Fn) (first cap:Array Value) (w:World),(Instr.makeFunc fn first cap).run prog w=.ok (.func fn first cap) w:=fun _ _ _ _=>rfl
 obtain⟨r,hr⟩:=ExY (Zcp m)
 rw[←hr]
 have HR:=Hi hr
 have HM:=Hi hm
 have aT:=hm.caps.2.1
 clear hr hm
 show Calls prog 139 #[.agg #[I m.day,.slice m.sCur.A m.curs.length m.sCur.c,.slice m.sUnd.A m.unders.length m.sUnd.c,.slice m.sIns.A m.instrs.length m.sIns.c,.slice m.sAcc.A m.accts.length m.sAcc.c,.slice m.sPos.A m.poss.length m.sPos.c,.slice m.sOrd.A m.orders.length m.sOrd.c,.slice m.sAva.A m.avail.length m.sAva.c,.slice m.sLoc.A m.locs.length m.sLoc.c]] w _
 obtain⟨cA,aj⟩:=ExY m.sCur.A
 obtain⟨uA,al⟩:=ExY m.sUnd.A
 rw[←aj,←al]
 have aM:Hid (Rd w w.heap.size 2 cA m.curs.length (m.curs.flatMap ZcB.cs)):=by rw[aj];exact HM.curs
 have aD:Hid (Rd w w.heap.size 4 uA m.unders.length (m.unders.flatMap ZbD.cs)):=by rw[al];exact HM.unders
 have aP:=Hi aj
 have aQ:=Hi al
 clear aj al
 obtain⟨W1,ai⟩:=ExY (w.alloc (.cells (m.ar_CU (.slice cA m.curs.length m.sCur.c) (.slice uA m.unders.length m.sUnd.c)) 37))
 obtain⟨bl,aA⟩:=ExY w.heap.size
 have X:=blB ai
 have ao:=bkW ai aA
 go_enter func139,ntmps139
 go_upto_region 1 with(fail)
 rw[←ai,←aA]
 clear ai aA
 have s:=ao.nine
 by_cases h0:m.curs.length<1
 ·have e0:r=false:=by rw[HR.out];exact if_pos (.inl h0)
  subst e0
  have i5:(m.curs.length:Int)<1:=by omega
  go_wp2
  go_ret
  exact⟨rfl,X⟩
 have i0:¬((m.curs.length:Int)<1):=by omega
 by_cases h1:4<m.curs.length
 ·have e0:r=false:=by rw[HR.out];exact if_pos (.inr (.inl h1))
  subst e0
  have i5:(4:Int)<(m.curs.length:Int):=by omega
  go_wp2
  go_ret
  exact⟨rfl,X⟩
 have i1:¬((4:Int)<(m.curs.length:Int)):=by omega
 by_cases h2:6<m.unders.length
 ·have e0:r=false:=by rw[HR.out];exact if_pos (.inr (.inr (.inl h2)))
  subst e0
  have i5:(6:Int)<(m.unders.length:Int):=by omega
  go_wp2
  go_ret
  exact⟨rfl,X⟩
 have i2:¬((6:Int)<(m.unders.length:Int)):=by omega
 by_cases h3:12<m.instrs.length
 ·have e0:r=false:=by rw[HR.out];exact if_pos (.inr (.inr (.inr h3)))
  subst e0
  have i5:(12:Int)<(m.instrs.length:Int):=by omega
  go_wp2
  go_ret
  exact⟨rfl,X⟩
 have i3:¬((12:Int)<(m.instrs.length:Int)):=by omega
 have N:=HR.out
 unfold Zcp at N
 rw[if_neg (by omega)] at N
 obtain⟨Z,R⟩:=ExY ((ZfW (ZfT m) m.unders.length 0 && !Zfr (fun i => !Zgr i m.unders.length) m.instrs))
 rw[←R] at N
 have aN:=Hi N
 have ag:=Hi R
 clear N R
 have aK:Hid (Bw w W1∧Bk W1 bl 37 (m.ar_CU (.slice cA m.curs.length m.sCur.c) (.slice uA m.unders.length m.sUnd.c))):=⟨X,ao⟩
 go_upto_region 4 with(fail)
 clear s
 go_loopw [32] (fun v wr=>∃k:Nat,k≤m.curs.length∧v=I k∧Hid (r=(ZfW (Zg1 m) (m.curs.length-k) k&&Z))∧Hid (Bw w wr∧Bk wr bl 37 (m.ar_CU (.slice cA m.curs.length m.sCur.c) (.slice uA m.unders.length m.sUnd.c)))) (fun v _=>m.curs.length-(intOf v).toNat)
 case atStart=>exact⟨0,Nat.zero_le _,rfl,aN,aK⟩
 case round=>
  obtain⟨k,hk,rfl,HK,HW⟩:=hrel
  rename World=>V
  have z:Hid (Bw w V):=HW.1
  have G:Hid (Bk V bl 37 (m.ar_CU (.slice cA m.curs.length m.sCur.c) (.slice uA m.unders.length m.sUnd.c))):=HW.2
  clear HW
  by_cases ad:k<m.curs.length
  ·obtain⟨q,hq⟩:∃q,m.curs.length-k=q+1:=⟨m.curs.length-k-1,by omega⟩
   have hr:=HK.out
   rw[hq,ZfW,show q=m.curs.length-(k+1) by omega] at hr
   have af:Zg1 m k=ZlF m.curs[k] k:=by unfold Zg1;rw[show m.curs.getD k default=m.curs[k] by simp[ad]]
   rw[af] at hr
   obtain⟨a,rfl,_,c0,c1⟩:=Zkk (aM.below z) ad
   obtain⟨⟨xr,xh⟩,hx⟩:∃x,x=m.curs[k]:=⟨_,rfl⟩
   rw[←hx] at c0 c1 hr
   dsimp only at c0 c1
   have HC:=Hi (fun w=>ZhM ⟨xr,xh⟩ k w)
   obtain⟨g,hg⟩:=ExY (ZlF ⟨xr,xh⟩ k)
   rw[←hg] at hr HC
   dsimp only[ZcB.val] at HC
   have Y:=Hi hr
   clear hx hr hg af hq HK
   have i7:(0:Int)≤(k:Int):=by omega
   have i8:(k:Int)<(m.curs.length:Int):=by omega
   obtain⟨W6,J⟩:=ExY (V.alloc (.cells #[I xr,I xh] 57))
   obtain⟨bc,ay⟩:=ExY V.heap.size
   have C:=blA z J
   have E:Hid (Bk W6 bl 37 (m.ar_CU (.slice (some a) m.curs.length m.sCur.c) (.slice uA m.unders.length m.sUnd.c))):=bkA G J
   have an:=bkW J ay
   go_upto_region 6 with(fail)
   rw[←J,←ay]
   clear J ay
   clear c0 c1
   have s:=E.nine
   have aq:=an.two
   go_wp2_with fail
   refine(HC.out W6).mono ?_
   rintro e W7 ⟨rfl,hb⟩
   have am:=blT C hb
   have ap:=bkN E hb
   have aF:=bkN an hb
   clear s aq
   clear hb
   have s:=ap.nine
   have aq:=aF.two
   cases g with
   |false=>
    have e0:r=false:=by rw[Y.out];rfl
    subst e0
    go_wp2
    go_ret
    exact⟨rfl,am⟩
   |true=>
    have hr:r=(ZfW (Zg1 m) (m.curs.length-(k+1)) (k+1)&&Z):=by rw[Y.out];rfl
    have aw:=Hi hr
    clear hr
    go_wp2
    go_roundw
    case rel=>exact⟨k+1,by omega,by go_num,aw,⟨am,ap⟩⟩
    case measure=>simp[intOf];omega
  ·have ac:k=m.curs.length:=by omega
   have hr:r=Z:=by rw[HK.out,ac,Nat.sub_self];rfl
   subst ac
   clear HK
   subst hr
   obtain⟨aa,U⟩:=ExY (!Zfr (fun i => !Zgr i m.unders.length) m.instrs)
   have N:=ag.out
   rw[←U] at N
   have Y:=Hi N
   have ah:=Hi U
   clear N U
   have aL:Hid (Bw w V∧Bk V bl 37 (m.ar_CU (.slice cA m.curs.length m.sCur.c) (.slice uA m.unders.length m.sUnd.c))):=⟨z,G⟩
   have s:=G.nine
   go_upto_region 10 with(fail)
   clear s
   go_loopw [45] (fun v wr=>∃k:Nat,k≤m.unders.length∧v=I k∧Hid (r=(ZfW (ZfT m) (m.unders.length-k) k&&aa))∧Hid (Bw w wr∧Bk wr bl 37 (m.ar_CU (.slice cA m.curs.length m.sCur.c) (.slice uA m.unders.length m.sUnd.c)))) (fun v _=>m.unders.length-(intOf v).toNat)
   case atStart=>exact⟨0,Nat.zero_le _,rfl,Y,aL⟩
   case round=>
    obtain⟨k,hk,rfl,HK,HW⟩:=hrel
    rename World=>V
    have z:Hid (Bw w V):=HW.1
    have G:Hid (Bk V bl 37 (m.ar_CU (.slice cA m.curs.length m.sCur.c) (.slice uA m.unders.length m.sUnd.c))):=HW.2
    clear HW
    by_cases ad:k<m.unders.length
    ·obtain⟨q,hq⟩:∃q,m.unders.length-k=q+1:=⟨m.unders.length-k-1,by omega⟩
     have hr:=HK.out
     rw[hq,ZfW,show q=m.unders.length-(k+1) by omega] at hr
     have au:m.unders.getD k default=m.unders[k]:=by simp[ad]
     have af:ZfT m k=(Ziy m.unders[k] m.curs.length && !decide (0≤ZcR (m.unders.take k) m.unders[k].name)):=by unfold ZfT;rw[au]
     rw[af] at hr
     obtain⟨a,rfl,_,c0,c1,c2,c3⟩:=ZfE (aD.below z) ad
     obtain⟨⟨xn,xc,xp,xv⟩,hx⟩:∃x,x=m.unders[k]:=⟨_,rfl⟩
     rw[←hx] at c0 c1 c2 c3 hr
     dsimp only at c0 c1 c2 c3 hr
     have HC:=Hi (fun w=>ZgJ ⟨xn,xc,xp,xv⟩ m.curs.length (by unfold maxLen;omega) w)
     have HN:Hid (∀w',Bw w w'→Calls prog 74 #[.slice (some a) k m.sUnd.c,.string xn] w' fun e aR=>e=.returned (I (ZcR (m.unders.take k) xn))∧Below w'.heap.size w' aR):=
      fun w' hb=>ZfA (some a) k m.sUnd.c (m.unders.take k) xn w' (by unfold maxLen;omega) (Zmi ((aD.below hb).mono hb.size) (by omega))
     obtain⟨g,hg⟩:=ExY (Ziy ⟨xn,xc,xp,xv⟩ m.curs.length)
     obtain⟨ni,ae⟩:=ExY (ZcR (m.unders.take k) xn)
     rw[←hg] at hr HC
     rw[←ae] at hr HN
     dsimp only[ZbD.val] at HC
     have Y:=Hi hr
     clear hx hr hg af hq HK au ae
     have i7:(0:Int)≤(k:Int):=by omega
     have i8:(k:Int)<(m.unders.length:Int):=by omega
     have i9:(k:Int)≤(m.sUnd.c:Int):=by omega
     obtain⟨W6,J⟩:=ExY (V.alloc (.cells #[.string xn,I xc,I xp,I xv] 63))
     obtain⟨bu,aB⟩:=ExY V.heap.size
     have C:=blA z J
     have E:Hid (Bk W6 bl 37 (m.ar_CU (.slice cA m.curs.length m.sCur.c) (.slice (some a) m.unders.length m.sUnd.c))):=bkA G J
     have ab:=bkW J aB
     go_upto_region 12 with(fail)
     rw[←J,←aB]
     clear J aB
     clear c0 c1 c2 c3
     have s:=E.nine
     have aS:=ab.four
     have HS:Hid (∀w',Bw W6 w'→(fun w'=>Bw W6 w'∧w'.cell? (Aq bl 0)=some (I m.day)∧w'.cell? (Aq bl 1)=some (.slice cA m.curs.length m.sCur.c)∧w'.cell? (Aq bl 2)=some (.slice (some a) m.unders.length m.sUnd.c)∧w'.cell? (Aq bl 3)=some (.slice m.sIns.A m.instrs.length m.sIns.c)∧w'.cell? (Aq bl 4)=some (.slice m.sAcc.A m.accts.length m.sAcc.c)∧w'.cell? (Aq bl 5)=some (.slice m.sPos.A m.poss.length m.sPos.c)∧w'.cell? (Aq bl 6)=some (.slice m.sOrd.A m.orders.length m.sOrd.c)∧w'.cell? (Aq bl 7)=some (.slice m.sAva.A m.avail.length m.sAva.c)∧w'.cell? (Aq bl 8)=some (.slice m.sLoc.A m.locs.length m.sLoc.c)∧w'.cell? (Aq bu 0)=some (.string xn)∧w'.cell? (Aq bu 1)=some (I xc)∧w'.cell? (Aq bu 2)=some (I xp)∧w'.cell? (Aq bu 3)=some (I xv)) w'):=fun w' h=>by
      have x:=(E.below h E.lt)
      have y:=(ab.below h ab.lt)
      exact⟨h,x.cell 0,x.cell 1,x.cell 2,x.cell 3,x.cell 4,x.cell 5,x.cell 6,x.cell 7,x.cell 8,y.cell 0,y.cell 1,y.cell 2,y.cell 3⟩
     cases g with
     |false=>
      have e0:r=false:=by rw[Y.out];rfl
      subst e0
      refine wp_region_held_drew (S:=(fun w'=>Bw W6 w'∧w'.cell? (Aq bl 0)=some (I m.day)∧w'.cell? (Aq bl 1)=some (.slice cA m.curs.length m.sCur.c)∧w'.cell? (Aq bl 2)=some (.slice (some a) m.unders.length m.sUnd.c)∧w'.cell? (Aq bl 3)=some (.slice m.sIns.A m.instrs.length m.sIns.c)∧w'.cell? (Aq bl 4)=some (.slice m.sAcc.A m.accts.length m.sAcc.c)∧w'.cell? (Aq bl 5)=some (.slice m.sPos.A m.poss.length m.sPos.c)∧w'.cell? (Aq bl 6)=some (.slice m.sOrd.A m.orders.length m.sOrd.c)∧w'.cell? (Aq bl 7)=some (.slice m.sAva.A m.avail.length m.sAva.c)∧w'.cell? (Aq bl 8)=some (.slice m.sLoc.A m.locs.length m.sLoc.c)∧w'.cell? (Aq bu 0)=some (.string xn)∧w'.cell? (Aq bu 1)=some (I xc)∧w'.cell? (Aq bu 2)=some (I xp)∧w'.cell? (Aq bu 3)=some (I xv))) (by kernel_rfl) (HS.out _ (Below.refl _ _).drew) (fun L=>?_)
      refine tkH [0,1,2,3] L (by kernel_rfl) (fun _ _ _ _ h=>h) ?_
      iterate 4 (refine ycH rfl (by rfl) (fun w h=>by go_simp<;>rfl) ?_;try simp only[Act.put,sA,sB,sC])
      refine onH 4 (by kernel_rfl) rfl fun K hK=>?_
      go_simp
      obtain⟨hB,-⟩:=L
      refine(HC.out _).mono ?_
      rintro e wq ⟨rfl,aJ⟩
      have aE:Hid (Bw W6 wq):=hB.trans (aJ.mono hB.size)
      clear hB aJ
      dsimp only
      refine hK.out _ _ (HS.out _ aE) (fun L=>?_)
      try simp only[Act.put,sA,sB,sC]
      refine tkH [5,6,7,8,9,10,11,12,13,14,15] L (by kernel_rfl) (fun _ _ _ _ h=>h) ?_
      iterate 11 ((first|refine ycH rfl (by rfl) (fun w h=>by go_simp<;>rfl) ?_|refine ncH rfl (by rfl) ?_);try simp only[Act.put,sA,sB,sC])
      refine wpAnyH_done (by kernel_rfl) ?_ _
      go_wp2
      go_ret
      exact⟨rfl,C.trans (aE.mono C.size)⟩
     |true=>
      go_region_held3 (fun w'=>Bw W6 w'∧w'.cell? (Aq bl 0)=some (I m.day)∧w'.cell? (Aq bl 1)=some (.slice cA m.curs.length m.sCur.c)∧w'.cell? (Aq bl 2)=some (.slice (some a) m.unders.length m.sUnd.c)∧w'.cell? (Aq bl 3)=some (.slice m.sIns.A m.instrs.length m.sIns.c)∧w'.cell? (Aq bl 4)=some (.slice m.sAcc.A m.accts.length m.sAcc.c)∧w'.cell? (Aq bl 5)=some (.slice m.sPos.A m.poss.length m.sPos.c)∧w'.cell? (Aq bl 6)=some (.slice m.sOrd.A m.orders.length m.sOrd.c)∧w'.cell? (Aq bl 7)=some (.slice m.sAva.A m.avail.length m.sAva.c)∧w'.cell? (Aq bl 8)=some (.slice m.sLoc.A m.locs.length m.sLoc.c)∧w'.cell? (Aq bu 0)=some (.string xn)∧w'.cell? (Aq bu 1)=some (I xc)∧w'.cell? (Aq bu 2)=some (I xp)∧w'.cell? (Aq bu 3)=some (I xv))
       (first
        |assumption
        |exact HS.out _ (Below.refl _ _).drew)
       (first
        |(go_at_call 63;obtain⟨hB,-⟩ := ‹Bw W6 _∧_›;refine(HC.out _).mono ?_;rintro e w5 ⟨rfl,aH⟩;have h5:=HS.out _ (hB.trans (aH.mono hB.size));clear aH hB)
        |(go_at_call 74;obtain⟨hB,-⟩ := ‹Bw W6 _∧_›;refine(HN.out _ (C.trans (hB.mono C.size))).mono ?_;rintro e w6 ⟨rfl,aI⟩;have h6:=HS.out _ (hB.trans (aI.mono hB.size));clear aI hB))
      obtain⟨ax,-⟩:=h6
      have aC:=blT C ax
      have aG:=bkN E ax
      clear h5 ax
      by_cases ae:0≤ni
      ·have e0:r=false:=by rw[Y.out,decide_eq_true ae];rfl
       subst e0
       go_wp2
       go_ret
       exact⟨rfl,aC⟩
      ·have hr:r=(ZfW (ZfT m) (m.unders.length-(k+1)) (k+1)&&aa):=by rw[Y.out,decide_eq_false ae];rfl
       have aw:=Hi hr
       clear hr
       go_wp2
       go_roundw
       case rel=>exact⟨k+1,by omega,by go_num,aw,⟨aC,aG⟩⟩
       case measure=>simp[intOf];omega
    ·have ac:k=m.unders.length:=by omega
     have hr:r=aa:=by rw[HK.out,ac,Nat.sub_self];rfl
     subst ac
     clear HK
     have ak:=ah.out
     rw[←hr] at ak
     have az:Bk V bl 37 m.cs.toArray:=by
      have h:=G.out
      rw[aP.out,aQ.out] at h
      exact h
     have HI:=Hi (ZlX m.sIns.A m.instrs.length m.sIns.c m.instrs (fun i => !Zgr i m.unders.length) (Pt bl) V (ZbR HM.short.2.2.1) rfl ((HM.below z).instrs.mono z.size) (fun i V' _ hV=>ZiW i m bl V' (ZbR HM.short.2.1) (az.below hV az.lt)))
     obtain⟨h,hh⟩:=ExY (Zfr (fun i:ZaD => !Zgr i m.unders.length) m.instrs)
     rw[←hh] at HI ak
     have aO:=Hi ak
     clear hr ak az hh
     have s:=G.nine
     go_wp2_with fail
     refine((fun _=>HI.out) V).mono ?_
     rintro e W6 ⟨rfl,hb⟩
     have C:=blT z hb
     have E:=bkN G hb
     clear s
     clear hb
     have s:=E.nine
     go_wp2
     go_ret
     exact⟨by rw[aO.out];rfl,C⟩
end Go.Proofs.YtdefojlkofnloaaGreatDoor
