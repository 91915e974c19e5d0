/- A part of the proof of CorePositions: for every input, no condition. -/
import Derived.Test.YtdefojlkofnloaaGreatDoorZa01
import Derived.Deep.CutBlock
import Derived.Deep.CutRange
import Derived.Deep.DeepCutAuto
import Derived.Deep.DeepMust
import Derived.Deep.RegionHeld3
import Derived.Lib.Hide
import Derived.StillTailTactics
set_option maxRecDepth 100000
set_option maxHeartbeats 8000000
set_option linter.unusedVariables false
set_option linter.unusedSimpArgs false
namespace Go.Proofs.YtdefojlkofnloaaGreatDoor
open Go.RowKit Go.Proofs.Tryz
namespace L
theorem Zbs(x:Int)(w:World):Calls prog 192 #[I x] w fun e w'=>e=.returned (.bool false)∧w'=w:=by
 go_enter func192,ntmps192
 go_wp2
 go_ret
 exact⟨rfl,rfl⟩
theorem Zdh(x y:Int)(w:World):Calls prog 157 #[I x,I y] w fun e w'=>e=.returned (I (Zdq x y))∧w'=w:=by
 by_cases h1:x<y
 ·have e:Zdq x y = -1:=by unfold Zdq;rw[if_pos h1]
  rw[e]
  go_enter func157,ntmps157
  go_wp2_with fail
  refine(Zbs x w).mono ?_
  rintro e w' ⟨rfl,rfl⟩
  go_wp2_with fail
  refine(Zbs y _).mono ?_
  rintro e w' ⟨rfl,rfl⟩
  go_wp2
  go_ret
  exact⟨rfl,rfl⟩
 by_cases h2:y<x
 ·have e:Zdq x y=1:=by unfold Zdq;rw[if_neg h1,if_pos h2]
  rw[e]
  go_enter func157,ntmps157
  go_wp2_with fail
  refine(Zbs x w).mono ?_
  rintro e w' ⟨rfl,rfl⟩
  go_wp2_with fail
  refine(Zbs y _).mono ?_
  rintro e w' ⟨rfl,rfl⟩
  go_wp2
  go_ret
  exact⟨rfl,rfl⟩
 ·have e:Zdq x y=0:=by unfold Zdq;rw[if_neg h1,if_neg h2]
  rw[e]
  go_enter func157,ntmps157
  go_wp2_with fail
  refine(Zbs x w).mono ?_
  rintro e w' ⟨rfl,rfl⟩
  go_wp2_with fail
  refine(Zbs y _).mono ?_
  rintro e w' ⟨rfl,rfl⟩
  go_wp2
  go_ret
  exact⟨rfl,rfl⟩
theorem Zis(g:Nat)(a b r:Int)(w:World)(s:r=if a≠0 then a else b)(z:w.cell? (Aq g 0)=some (I a))(C:w.cell? (Aq g 1)=some (I b)):
 Calls prog 156 #[.slice (some (Aq g 0)) 2 2] w fun e w'=>e=.returned (I r)∧w'=w:=by
 rw[s]
 clear s
 go_enter func156,ntmps156
 by_cases ha:a=0
 ·subst ha
  rw[if_neg (by simp)]
  by_cases hb:b=0
  ·subst hb
   go_wp2
   refine wp_loop_rounds 3 ?_
   rw[rounds_succ]
   go_wp2
   rw[rounds_succ]
   go_wp2
   rw[rounds_succ]
   go_wp2
   go_ret
   exact⟨rfl,rfl⟩
  ·go_wp2
   refine wp_loop_rounds 2 ?_
   rw[rounds_succ]
   go_wp2
   rw[rounds_succ]
   go_wp2
   go_ret
   exact⟨rfl,rfl⟩
 ·rw[if_pos ha]
  go_wp2
  refine wp_loop_rounds 1 ?_
  rw[rounds_succ]
  go_wp2
  go_ret
  exact⟨rfl,rfl⟩
theorem Zdz(x y:Lc)(w:World):Calls prog 132 #[x.val,y.val] w fun e w'=>e=.returned (I (ZaN x y))∧Bw w w':=by
 obtain⟨W,hW⟩:=ExY ((w.alloc (.cells #[I x.acct,I x.instr,I x.qty] 72)).alloc (.cells #[I y.acct,I y.instr,I y.qty] 72))
 have E:Bk W w.heap.size 72 #[I x.acct,I x.instr,I x.qty]:=by rw[hW];exact(Bk.new w _ _).alloc _
 have G:Bk W (w.heap.size+1) 72 #[I y.acct,I y.instr,I y.qty]:=by
  rw[hW];have:=Bk.new (w.alloc (.cells #[I x.acct,I x.instr,I x.qty] 72)) 72 #[I y.acct,I y.instr,I y.qty];simpa using this
 have s:Bw w W:=by rw[hW];exact((Below.refl _ w).alloc (Nat.le_refl _) _).alloc (by simp) _
 have hz:w.heap.size≤W.heap.size:=s.size
 have z:=Hi E
 have C:=Hi G
 have J:=Hi s
 obtain⟨r,hr⟩:=ExY (ZaN x y)
 have HR:=Hi hr
 rw[←hr]
 clear E G s hr
 unfold Lc.val
 go_enter func132,ntmps132
 go_upto_region 1 with(fail)
 rw[←hW]
 clear hW
 have HS:Hid (∀w',Bw W w'→(fun w'=>Bw W w'∧w'.cell? ⟨w.heap.size,0,none⟩=some (I x.acct)∧w'.cell? ⟨w.heap.size,1,none⟩=some (I x.instr)∧w'.cell? ⟨w.heap.size+1,0,none⟩=some (I y.acct)∧w'.cell? ⟨w.heap.size+1,1,none⟩=some (I y.instr)) w'):=fun w' h=>by
  have a:=(z.below h z.lt).three
  have b:=(C.below h C.lt).three
  exact⟨h,a.1,a.2.1,b.1,b.2.1⟩
 go_region_held3 (fun w'=>Bw W w'∧w'.cell? ⟨w.heap.size,0,none⟩=some (I x.acct)∧w'.cell? ⟨w.heap.size,1,none⟩=some (I x.instr)∧w'.cell? ⟨w.heap.size+1,0,none⟩=some (I y.acct)∧w'.cell? ⟨w.heap.size+1,1,none⟩=some (I y.instr))
  (first
   |with_reducible assumption
   |(refine HS.out _ ?_;repeat (first|with_reducible exact Below.refl _ _|with_reducible refine Below.drew ?_|with_reducible refine Below.alloc ?_ (Nat.le_refl _) _)))
  (first
   |(go_at_call 157;refine(Zdh _ _ _).mono ?_;rintro e w' ⟨rfl,rfl⟩)
   |(go_at_call 156;refine(Zis _ (Zdq x.acct y.acct) (Zdq x.instr y.instr) r _ HR (by simp) (by simp)).mono ?_;rintro e w' ⟨rfl,rfl⟩))
 all_goals
  go_wp2
  go_ret
  refine⟨rfl,J.trans (Below.mono (B:=W.heap.size) ?_ hz)⟩
  repeat (first|with_reducible exact Below.refl _ _|with_reducible refine Below.drew ?_|with_reducible refine Below.alloc ?_ (Nat.le_refl _) _)
end L
namespace L
theorem Zgq:(prog.info? 3).map (fun i=>(i.zero,i.size,i.bytes))=some (some (I 0),1,8):=by kernel_rfl
theorem info72:(prog.info? 72).map (fun i=>(i.zero,i.size,i.bytes))=some (some (.agg #[I 0,I 0,I 0]),3,24):=by kernel_rfl
theorem Zma{w:World}{base e size n c:Nat}{a:Addr}{xs:List Value}(h:w.ownsRow base e size (.slice (some a) n c) n xs)(j:Nat)(v:Value):(w.setCell (a.add j) v).ownsRow base e size (.slice (some a) n c) n (xs.set j v):=by
 rcases h with⟨hl,⟨hv,h0⟩|⟨g,z,s,hv,hb,hh,h1,h2,h3,h4⟩⟩
 ·cases hv
 ·injection hv with a1 a2 a3
  injection a1 with a1
  subst a1 a3
  have hB:Bk w g e s:=hh
  have ha:((Aq g 0):Addr).add j=(Aq g j):=by
   unfold Addr.add
   split
   ·simp_all
   ·simp
  rw[ha]
  refine⟨by rw[List.length_set];exact hl,.inr ⟨g,c,_,rfl,hb,hB.set j v,h1,h2,by simp[h3],?_⟩⟩
  rw[←h4]
  simp[List.take_set]
theorem ZdT(l:List Int)(k:Nat)(v:Int):(Zgs l).set k (I v)=Zgs (l.set k v):=by simp[Zgs,List.map_set]
theorem ZlE{l:List Int}(h:l.all fitsQ=true){k:Nat}(s:k<l.length):0≤l[k]∧l[k]≤1000000000:=by
 have:=List.all_eq_true.1 h _ (List.getElem_mem s)
 simpa[fitsQ] using this
theorem held_any(A:Option Addr)(n c:Nat)(l:List Lc)(a i:Int)(w:World)(N:n≤maxLen)(G:Rd w w.heap.size 3 A n (lcs l)):
 Calls prog 82 #[.slice A n c,I a,I i] w fun e w'=>e=.returned (I (heldL l a i))∧Bw w w':=by
 have hl:l.length=n:=by have:=G.1;rw[lcs_len] at this;omega
 have HL:=Hi hl
 have HR:=Hi G
 clear hl G
 unfold maxLen at N
 obtain⟨r,s⟩:=ExY (heldL l a i)
 rw[←s]
 have HE:=Hi s
 clear s
 go_enter func82,ntmps82
 go_wp2
 go_loopw [11] (fun v wr=>∃k:Nat,k≤n∧v=I k∧(∀j,j<k→ZiZ a i (l.getD j default)=false)∧Bw w wr) (fun v _=>n-(intOf v).toNat)
 case atStart=>exact⟨0,Nat.zero_le _,rfl,fun j hj=>absurd hj (Nat.not_lt_zero _),Below.refl _ _⟩
 case round=>
  obtain⟨k,hk,rfl,z,hb⟩:=hrel
  have HP:=Hi z
  have HB:=Hi hb
  clear z hb
  rename World=>V
  by_cases L:k<n
  ·have C:k<l.length:=by have:=HL.out;omega
   obtain⟨a0,hA,E,c0,c1,c2⟩:=(HR.below HB).loc C
   subst hA
   obtain⟨⟨xa,xi,xq⟩,hx⟩:∃x,x=l[k]:=⟨_,rfl⟩
   rw[←hx] at c0 c1 c2
   have HX:Hid (l.getD k default=⟨xa,xi,xq⟩):=by rw[hx];exact Zaf C
   dsimp only at c0 c1 c2
   clear hx E
   have i1:(k:Int)<(n:Int):=by omega
   have i2:(0:Int)≤(k:Int):=by omega
   have i3:IntKind.i64.wrap ((k:Int)+1)=(k:Int)+1:=IntWalk.i64_in _ (by omega)
   by_cases ha:xa=a
   ·by_cases hi:xi=i
    ·subst ha hi
     have e:r=xq:=by
      rw[HE.out,ZjP C HP.out (by rw[HX.out];simp[ZiZ]),HX.out]
     subst e
     go_wp2
     go_ret
     exact⟨rfl,HB.alloc HB.size _⟩
    ·subst ha
     go_wp2
     refine⟨⟨k+1,by omega,by push_cast;rfl,fun j hj=>?_,HB.alloc HB.size _⟩,by simp only[intOf];omega⟩
     rcases Nat.lt_or_eq_of_le (Nat.lt_succ_iff.1 hj) with h1|rfl
     ·exact HP.out j h1
     ·rw[HX.out];simp[ZiZ,hi]
   ·go_wp2
    refine⟨⟨k+1,by omega,by push_cast;rfl,fun j hj=>?_,HB.alloc HB.size _⟩,by simp only[intOf];omega⟩
    rcases Nat.lt_or_eq_of_le (Nat.lt_succ_iff.1 hj) with h1|rfl
    ·exact HP.out j h1
    ·rw[HX.out];simp[ZiZ,ha]
  ·have i3:¬((k:Int)<(n:Int)):=by omega
   have J:k=n:=by omega
   have e:r=0:=by
    rw[HE.out]
    exact ZiV fun j hj=>HP.out j (by have:=HL.out;omega)
   subst e
   go_wp2
   go_ret
   exact⟨rfl,HB⟩
theorem cloneI_any(A:Option Addr)(n c:Nat)(xs:List Value)(w:World)(C:∀u∈xs,u.oneCell'=true)(Y:n*8≤140737488355328)(J:Rd w w.heap.size 1 A n xs):
 Calls prog 18 #[.slice A n c] w fun r w'=>∃A' c',r=.returned (.slice A' n c')∧n≤c'∧c'≤maxLen∧w'.ownsRow w.heap.size 3 1 (.slice A' n c') n xs∧Bw w w':=by
 have hk:=fun W=>Lib.run_eql_slice_nil (P:=prog) W 34 3 A n c 0 0 underlying34
 obtain⟨i0,hi,N,R,U⟩:=info_parts Zgq
 rcases A with _|a
 ·have h0:n=0:=by
   rcases Nat.eq_zero_or_pos n with h0|h0
   ·exact h0
   ·obtain⟨_,h,_⟩:=J.2 h0
    cases h
  subst h0
  have hs:xs=[]:=List.eq_nil_of_length_eq_zero (by simpa using J.1)
  subst hs
  go_enter func18,ntmps18
  go_wp2
  go_ret
  exact⟨none,0,rfl,Nat.le_refl _,Nat.zero_le _,World.ownsRow_nil _ _ _ _,Below.refl _ _⟩
 ·have z:(w.alloc (.cells #[] 3)).ownsRow w.heap.size 3 1 (.slice (some ⟨w.heap.size,0,none⟩) 0 0) 0 []:=⟨by simp,.inr ⟨w.heap.size,0,#[],rfl,Nat.le_refl _,Bk.new _ _ _,Nat.le_refl _,Nat.zero_le _,by simp,by simp⟩⟩
  have L:Rd (w.alloc (.cells #[] 3)) w.heap.size 1 (some a) n xs:=J.alloc (Nat.le_refl _) _
  go_enter func18,ntmps18
  go_wp2_with (at_builtin;go_must (refine Zan _ rfl (.tmp 5) (.tmp 6) _ rfl w.heap.size 3 i0 _ 1 8 underlying34 hi N R U rfl (by omega) _ 0 [] rfl z w.heap.size (some a) n c _ rfl L C (by simp only[maxLen];omega) (by omega) (by simp) ?_);intro A1 c1 w1 h1 h2 s E X)
  go_ret
  refine⟨A1,c1,by simp,by omega,h2,by simpa using s,((Below.refl w.heap.size w).alloc (Nat.le_refl _) _).grown E (by simp) ?_⟩
  intro k G
  exact Nat.le_of_eq (Option.some.inj G)
theorem cloneL_any(A:Option Addr)(n c:Nat)(xs:List Value)(w:World)(C:∀u∈xs,u.oneCell'=true)(Y:n*24≤140737488355328)(J:Rd w w.heap.size 3 A n xs):
 Calls prog 19 #[.slice A n c] w fun r w'=>∃A' c',r=.returned (.slice A' n c')∧n≤c'∧c'≤maxLen∧w'.ownsRow w.heap.size 72 3 (.slice A' n c') n xs∧Bw w w':=by
 have hk:=fun W=>Lib.run_eql_slice_nil (P:=prog) W 35 72 A n c 0 0 underlying35
 obtain⟨i0,hi,N,R,U⟩:=info_parts info72
 rcases A with _|a
 ·have h0:n=0:=by
   rcases Nat.eq_zero_or_pos n with h0|h0
   ·exact h0
   ·obtain⟨_,h,_⟩:=J.2 h0
    cases h
  subst h0
  have hs:xs=[]:=List.eq_nil_of_length_eq_zero (by simpa using J.1)
  subst hs
  go_enter func19,ntmps19
  go_wp2
  go_ret
  exact⟨none,0,rfl,Nat.le_refl _,Nat.zero_le _,World.ownsRow_nil _ _ _ _,Below.refl _ _⟩
 ·have z:(w.alloc (.cells #[] 72)).ownsRow w.heap.size 72 3 (.slice (some ⟨w.heap.size,0,none⟩) 0 0) 0 []:=⟨by simp,.inr ⟨w.heap.size,0,#[],rfl,Nat.le_refl _,Bk.new _ _ _,Nat.le_refl _,Nat.zero_le _,by simp,by simp⟩⟩
  have L:Rd (w.alloc (.cells #[] 72)) w.heap.size 3 (some a) n xs:=J.alloc (Nat.le_refl _) _
  go_enter func19,ntmps19
  go_wp2_with (at_builtin;go_must (refine Zan _ rfl (.tmp 5) (.tmp 6) _ rfl w.heap.size 72 i0 _ 3 24 underlying35 hi N R U rfl (by omega) _ 0 [] rfl z w.heap.size (some a) n c _ rfl L C (by simp only[maxLen];omega) (by omega) (by simp) ?_);intro A1 c1 w1 h1 h2 s E X)
  go_ret
  refine⟨A1,c1,by simp,by omega,h2,by simpa using s,((Below.refl w.heap.size w).alloc (Nat.le_refl _) _).grown E (by simp) ?_⟩
  intro k G
  exact Nat.le_of_eq (Option.some.inj G)
theorem short_any(p s q:Int)(w:World)(C : -1000000000≤p∧p≤1000000000)(G:0≤s∧s≤1099511627776)(E : -1000000000≤q):
 Calls prog 104 #[I p,I s,I q] w fun e w'=>e=.returned (I (if 0≤q then 0 else if s-q-p<0 then 0 else s-q-p))∧w'=w:=by
 by_cases h0:0≤q
 ·rw[if_pos h0]
  go_enter func104,ntmps104
  go_wp2
  go_ret
  exact⟨rfl,rfl⟩
 rw[if_neg h0]
 have i1:IntKind.i64.wrap (s-q)=s-q:=IntWalk.i64_in _ (by omega)
 have i2:IntKind.i64.wrap (s-q-p)=s-q-p:=IntWalk.i64_in _ (by omega)
 have z:¬(q≥0):=by omega
 by_cases h1:s-q-p<0
 ·rw[if_pos h1]
  go_enter func104,ntmps104
  go_wp2
  go_ret
  exact⟨rfl,rfl⟩
 ·rw[if_neg h1]
  go_enter func104,ntmps104
  go_wp2
  go_ret
  exact⟨rfl,rfl⟩
end L
namespace L
def SupOut(w:World)(r:List Int×Int)(e:Ending)(w':World):Prop:=
 ∃A c,e=.returned (.tuple #[.slice A r.1.length c,I r.2])∧r.1.length≤c∧c≤maxLen∧w'.ownsRow w.heap.size 3 1 (.slice A r.1.length c) r.1.length (Zgs r.1)∧Bw w w'
theorem ZeK(w:World)(er:Int):SupOut w ([],er) (.returned (.tuple #[.slice none 0 0,I er])) w:=
 ⟨none,0,rfl,Nat.le_refl _,Nat.zero_le _,World.ownsRow_nil _ _ _ _,Below.refl _ _⟩
theorem supply_any(A:Option Addr)(n c:Nat)(av:List Int)(i q:Int)(w:World)(J:av.all fitsQ=true)(hn:n*8≤140737488355328)(C:Rd w w.heap.size 1 A n (Zgs av)):
 Calls prog 79 #[.slice A n c,I i,I q] w (SupOut w (supplyS av i q)):=by
 have hl:av.length=n:=by have:=C.1;rw[Ze3] at this;omega
 subst hl
 by_cases hi:i<0∨(av.length:Int)≤i
 ·have e:supplyS av i q=([],32):=by unfold supplyS;rw[if_pos hi]
  rw[e]
  clear e
  by_cases h0:i<0
  ·go_enter func79,ntmps79
   go_wp2
   refine bodyPost_ret (results_tmp2 rfl _ _ _) rfl ?_
   exact ZeK w 32
  ·have h1:(av.length:Int)≤i:=by omega
   have h2:¬(i<(av.length:Int)):=by omega
   go_enter func79,ntmps79
   go_wp2
   refine bodyPost_ret (results_tmp2 rfl _ _ _) rfl ?_
   exact ZeK w 32
 obtain⟨k,rfl⟩:∃k:Nat,i=k:=⟨i.toNat,by omega⟩
 have hk:k<av.length:=by omega
 obtain⟨a,rfl,hb,c0⟩:=C.int hk
 obtain⟨Z,aa⟩:=ZlE J hk
 obtain⟨v,hv⟩:=ExY (av[k])
 rw[←hv] at c0 Z aa
 have eg:av.getD k 0=v:=by rw[hv];exact Zaf hk
 have es:supplyS av k q=if q < -1000000000∨1000000000<q∨v+q<0∨1000000000<v+q then([],36) else(av.set k (v+q),0):=by
  unfold supplyS
  rw[if_neg hi,Int.toNat_natCast,eg]
 have i1:(0:Int)≤(k:Int):=by omega
 have i2:(k:Int)<(av.length:Int):=by omega
 have i3:¬((k:Int)<0):=by omega
 have i4:¬((av.length:Int)≤(k:Int)):=by omega
 by_cases R:q < -1000000000
 ·rw[es,if_pos (.inl R)]
  clear es eg hv
  go_enter func79,ntmps79
  go_wp2
  refine bodyPost_ret (results_tmp2 rfl _ _ _) rfl ?_
  exact ZeK w 36
 by_cases U:1000000000<q
 ·rw[es,if_pos (.inr (.inl U))]
  clear es eg hv
  go_enter func79,ntmps79
  go_wp2
  refine bodyPost_ret (results_tmp2 rfl _ _ _) rfl ?_
  exact ZeK w 36
 have iw:IntKind.i64.wrap (v+q)=v+q:=IntWalk.i64_in _ (by omega)
 have ad:¬(q>1000000000):=by omega
 by_cases X:v+q<0
 ·rw[es,if_pos (.inr (.inr (.inl X)))]
  clear es eg hv
  go_enter func79,ntmps79
  go_wp2
  refine bodyPost_ret (results_tmp2 rfl _ _ _) rfl ?_
  exact ZeK w 36
 by_cases Y:1000000000<v+q
 ·rw[es,if_pos (.inr (.inr (.inr Y)))]
  clear es eg hv
  go_enter func79,ntmps79
  go_wp2
  refine bodyPost_ret (results_tmp2 rfl _ _ _) rfl ?_
  exact ZeK w 36
 rw[es,if_neg (by omega)]
 have HR:=Hi C
 have HV:=Hi hv
 clear es eg C hv
 go_enter func79,ntmps79
 go_wp2_with fail
 refine(cloneI_any (some a) av.length c (Zgs av) w (Ze4 av) hn HR).mono ?_
 rintro e w1 ⟨A1,c1,rfl,L,N,s,z⟩
 obtain⟨a1,rfl,ac,d0⟩:=(Rd.of_own s).int hk
 rw[←HV.out] at d0
 have z0:w1.frozen? (a1.add k)=false:=by
  rcases s.2 with⟨hx,_⟩|⟨g,ab,G,hx,_,hh,_⟩
  ·cases hx
  ·injection hx with hx
   injection hx with hx
   subst hx
   have hB:Bk w1 g 3 G:=hh
   unfold Addr.add
   split
   ·exact hB.frozen 0
   ·exact hB.frozen _
 have HO:=Hi s
 have E:=Hi z
 clear s z c0
 go_wp2
 refine bodyPost_ret (results_tmp2 rfl _ _ _) rfl ?_
 have hp:=Zma HO k (I (v+q))
 rw[ZdT] at hp
 refine⟨some a1,c1,by simp,by simpa using L,N,by simpa using hp,Below.setCell E (by rw[Zfe];exact(HO.lt _ rfl).1) _⟩
end L
end Go.Proofs.YtdefojlkofnloaaGreatDoor
