/- A part of the proof of CoreOnce: for every input, no condition. -/
import Derived.Test.YtdefojlkofnloaaGreatDoorZb28
set_option maxRecDepth 100000
set_option maxHeartbeats 8000000
set_option linter.unusedVariables false
set_option linter.unusedSimpArgs false
namespace Go.Proofs.YtdefojlkofnloaaGreatDoor
open Go.RowKit Go.Proofs.Tryz
theorem Zal{w w':World}{base e k n c:Nat}{A:Option Addr}{xs:List Value}{r:Option Nat}(h:w.ownsRow base e k (.slice A n c) n xs)(z:w.grownBy w' r)(s:∀p,A=some p→some p.block≠r):w'.ownsRow base e k (.slice A n c) n xs:=
 ZaF h fun p hp=>z.block p.block (ZaP h p hp).2 (s p hp)
theorem Zao{w:World}{base e k n c s R X J N:Nat}{A C:Option Addr}{xs L:List Value}(h:w.ownsRow base e k (.slice A n c) n xs)(U:w.ownsRow s R X (.slice C J N) J L)(G:e≠R):
 ∀p,A=some p→some p.block≠(Value.slice C J N).ownBlock:=by
 intro p hp z
 cases C with
 |none=>cases z
 |some q=>
  obtain⟨_,_,_,hb⟩:=ZaK h hp
  obtain⟨_,_,_,E⟩:=ZaK U rfl
  have e1:p.block=q.block:=by simpa[Value.ownBlock] using z
  exact hb.ne E G e1
theorem Zaa.setCur{w:World}{base:Nat}{m:Zab}(h:Zaa w base m){g v j:Nat}{x:ZcB}{u:Value}(C:m.sCur.A=some (Aq g 0))(J:v<m.curs.length)(G:j<2)(L:x.cs=(m.curs[v]).cs.set j u):Zaa (w.setCell (Aq g (v*2+j)) u) base {m with curs:=m.curs.set v x}:=by
 obtain⟨cs,_,_,hb⟩:=ZaK h.curs C
 have E:v*2+j<m.curs.length*2:=by omega
 have e1:=ZbA (C▸h.curs) (v*2+j) E u
 rw[ZcI ZhN m.curs v J j G u x L] at e1
 have s:(m.curs.set v x).length=m.curs.length:=List.length_set ..
 have z:(w.setCell (Aq g (v*2+j)) u).ownsRow base 57 2 (.slice m.sCur.A (m.curs.set v x).length m.sCur.c) (m.curs.set v x).length ((m.curs.set v x).flatMap ZcB.cs):=by
  rw[s,C];exact e1
 have hl:(m.curs.set v x).length≤1000000:=by rw[s];exact h.short.1
 exact⟨z,Zad h.unders hb (by decide),Zad h.instrs hb (by decide),Zad h.accts hb (by decide),Zad h.poss hb (by decide),Zad h.orders hb (by decide),Zad h.avail hb (by decide),Zad h.locs hb (by decide),fun a ha=>⟨Zad (h.cash a ha).1 hb (by decide),(h.cash a ha).2⟩,h.apart,h.away,hl,h.short.2.1,h.short.2.2.1,h.short.2.2.2.1,h.short.2.2.2.2.1,h.short.2.2.2.2.2.1,h.short.2.2.2.2.2.2.1,h.short.2.2.2.2.2.2.2⟩
theorem Zaa.appCur{w w':World}{base:Nat}{m:Zab}(h:Zaa w base m){l:List ZcB}{A:Option Addr}{c:Nat}(s:w.grownBy w' (Value.slice m.sCur.A m.curs.length m.sCur.c).ownBlock)(z:w'.ownsRow base 57 2 (.slice A l.length c) l.length (l.flatMap ZcB.cs))(C:l.length≤1000000):Zaa w' base {m with curs:=l,sCur:=⟨A,c⟩}:=
 ⟨z,Zal h.unders s (Zao h.unders h.curs (by decide)),Zal h.instrs s (Zao h.instrs h.curs (by decide)),Zal h.accts s (Zao h.accts h.curs (by decide)),Zal h.poss s (Zao h.poss h.curs (by decide)),Zal h.orders s (Zao h.orders h.curs (by decide)),Zal h.avail s (Zao h.avail h.curs (by decide)),Zal h.locs s (Zao h.locs h.curs (by decide)),fun a ha=>⟨Zal (h.cash a ha).1 s (Zao (h.cash a ha).1 h.curs (by decide)),(h.cash a ha).2⟩,h.apart,h.away,C,h.short.2.1,h.short.2.2.1,h.short.2.2.2.1,h.short.2.2.2.2.1,h.short.2.2.2.2.2.1,h.short.2.2.2.2.2.2.1,h.short.2.2.2.2.2.2.2⟩
theorem Zaa.setUnd{w:World}{base:Nat}{m:Zab}(h:Zaa w base m){g v j:Nat}{x:ZbD}{u:Value}(C:m.sUnd.A=some (Aq g 0))(J:v<m.unders.length)(G:j<4)(L:x.cs=(m.unders[v]).cs.set j u):Zaa (w.setCell (Aq g (v*4+j)) u) base {m with unders:=m.unders.set v x}:=by
 obtain⟨cs,_,_,hb⟩:=ZaK h.unders C
 have E:v*4+j<m.unders.length*4:=by omega
 have e1:=ZbA (C▸h.unders) (v*4+j) E u
 rw[ZcI Zed m.unders v J j G u x L] at e1
 have s:(m.unders.set v x).length=m.unders.length:=List.length_set ..
 have z:(w.setCell (Aq g (v*4+j)) u).ownsRow base 63 4 (.slice m.sUnd.A (m.unders.set v x).length m.sUnd.c) (m.unders.set v x).length ((m.unders.set v x).flatMap ZbD.cs):=by
  rw[s,C];exact e1
 have hl:(m.unders.set v x).length≤1000000:=by rw[s];exact h.short.2.1
 exact⟨Zad h.curs hb (by decide),z,Zad h.instrs hb (by decide),Zad h.accts hb (by decide),Zad h.poss hb (by decide),Zad h.orders hb (by decide),Zad h.avail hb (by decide),Zad h.locs hb (by decide),fun a ha=>⟨Zad (h.cash a ha).1 hb (by decide),(h.cash a ha).2⟩,h.apart,h.away,h.short.1,hl,h.short.2.2.1,h.short.2.2.2.1,h.short.2.2.2.2.1,h.short.2.2.2.2.2.1,h.short.2.2.2.2.2.2.1,h.short.2.2.2.2.2.2.2⟩
theorem Zaa.appUnd{w w':World}{base:Nat}{m:Zab}(h:Zaa w base m){l:List ZbD}{A:Option Addr}{c:Nat}(s:w.grownBy w' (Value.slice m.sUnd.A m.unders.length m.sUnd.c).ownBlock)(z:w'.ownsRow base 63 4 (.slice A l.length c) l.length (l.flatMap ZbD.cs))(C:l.length≤1000000):Zaa w' base {m with unders:=l,sUnd:=⟨A,c⟩}:=
 ⟨Zal h.curs s (Zao h.curs h.unders (by decide)),z,Zal h.instrs s (Zao h.instrs h.unders (by decide)),Zal h.accts s (Zao h.accts h.unders (by decide)),Zal h.poss s (Zao h.poss h.unders (by decide)),Zal h.orders s (Zao h.orders h.unders (by decide)),Zal h.avail s (Zao h.avail h.unders (by decide)),Zal h.locs s (Zao h.locs h.unders (by decide)),fun a ha=>⟨Zal (h.cash a ha).1 s (Zao (h.cash a ha).1 h.unders (by decide)),(h.cash a ha).2⟩,h.apart,h.away,h.short.1,C,h.short.2.2.1,h.short.2.2.2.1,h.short.2.2.2.2.1,h.short.2.2.2.2.2.1,h.short.2.2.2.2.2.2.1,h.short.2.2.2.2.2.2.2⟩
theorem Zaa.setIns{w:World}{base:Nat}{m:Zab}(h:Zaa w base m){g v j:Nat}{x:ZaD}{u:Value}(C:m.sIns.A=some (Aq g 0))(J:v<m.instrs.length)(G:j<7)(L:x.cs=(m.instrs[v]).cs.set j u):Zaa (w.setCell (Aq g (v*7+j)) u) base {m with instrs:=m.instrs.set v x}:=by
 obtain⟨cs,_,_,hb⟩:=ZaK h.instrs C
 have E:v*7+j<m.instrs.length*7:=by omega
 have e1:=ZbA (C▸h.instrs) (v*7+j) E u
 rw[ZcI Zft m.instrs v J j G u x L] at e1
 have s:(m.instrs.set v x).length=m.instrs.length:=List.length_set ..
 have z:(w.setCell (Aq g (v*7+j)) u).ownsRow base 66 7 (.slice m.sIns.A (m.instrs.set v x).length m.sIns.c) (m.instrs.set v x).length ((m.instrs.set v x).flatMap ZaD.cs):=by
  rw[s,C];exact e1
 have hl:(m.instrs.set v x).length≤1000000:=by rw[s];exact h.short.2.2.1
 exact⟨Zad h.curs hb (by decide),Zad h.unders hb (by decide),z,Zad h.accts hb (by decide),Zad h.poss hb (by decide),Zad h.orders hb (by decide),Zad h.avail hb (by decide),Zad h.locs hb (by decide),fun a ha=>⟨Zad (h.cash a ha).1 hb (by decide),(h.cash a ha).2⟩,h.apart,h.away,h.short.1,h.short.2.1,hl,h.short.2.2.2.1,h.short.2.2.2.2.1,h.short.2.2.2.2.2.1,h.short.2.2.2.2.2.2.1,h.short.2.2.2.2.2.2.2⟩
theorem Zaa.appIns{w w':World}{base:Nat}{m:Zab}(h:Zaa w base m){l:List ZaD}{A:Option Addr}{c:Nat}(s:w.grownBy w' (Value.slice m.sIns.A m.instrs.length m.sIns.c).ownBlock)(z:w'.ownsRow base 66 7 (.slice A l.length c) l.length (l.flatMap ZaD.cs))(C:l.length≤1000000):Zaa w' base {m with instrs:=l,sIns:=⟨A,c⟩}:=
 ⟨Zal h.curs s (Zao h.curs h.instrs (by decide)),Zal h.unders s (Zao h.unders h.instrs (by decide)),z,Zal h.accts s (Zao h.accts h.instrs (by decide)),Zal h.poss s (Zao h.poss h.instrs (by decide)),Zal h.orders s (Zao h.orders h.instrs (by decide)),Zal h.avail s (Zao h.avail h.instrs (by decide)),Zal h.locs s (Zao h.locs h.instrs (by decide)),fun a ha=>⟨Zal (h.cash a ha).1 s (Zao (h.cash a ha).1 h.instrs (by decide)),(h.cash a ha).2⟩,h.apart,h.away,h.short.1,h.short.2.1,C,h.short.2.2.2.1,h.short.2.2.2.2.1,h.short.2.2.2.2.2.1,h.short.2.2.2.2.2.2.1,h.short.2.2.2.2.2.2.2⟩
theorem Zaa.setLoc{w:World}{base:Nat}{m:Zab}(h:Zaa w base m){A:Option Addr}{c:Nat}{l:List L.Lc}(s:w.ownsRow base 72 3 (.slice A l.length c) l.length (L.lcs l))(z:l.length≤1000000):Zaa w base {m with locs:=l,sLoc:=⟨A,c⟩}:=
 ⟨h.curs,h.unders,h.instrs,h.accts,h.poss,h.orders,h.avail,s,h.cash,h.apart,h.away,h.short.1,h.short.2.1,h.short.2.2.1,h.short.2.2.2.1,h.short.2.2.2.2.1,h.short.2.2.2.2.2.1,h.short.2.2.2.2.2.2.1,z⟩
theorem Zaa.setAva{w:World}{base:Nat}{m:Zab}(h:Zaa w base m){A:Option Addr}{c:Nat}{l:List Int}(s:w.ownsRow base 3 1 (.slice A l.length c) l.length (Zag l))(C:l.length≤1000000)(z:∀x∈m.accts,∀(p q:Addr),x.A=some p→A=some q→p.block≠q.block):Zaa w base {m with avail:=l,sAva:=⟨A,c⟩}:=
 ⟨h.curs,h.unders,h.instrs,h.accts,h.poss,h.orders,s,h.locs,h.cash,h.apart,z,h.short.1,h.short.2.1,h.short.2.2.1,h.short.2.2.2.1,h.short.2.2.2.2.1,h.short.2.2.2.2.2.1,C,h.short.2.2.2.2.2.2.2⟩
theorem Zhl{A s:Option Addr}{n c C z:Nat}{q:Addr}{k:Nat}(h:(Value.slice s C z).ownBlock=(Value.slice A n c).ownBlock∨(Value.slice s C z).ownBlock=some k)(E:s=some q):(∃p,A=some p∧p.block=q.block)∨q.block=k:=by
 subst E
 rcases h with h|h
 ·cases A with
  |none=>cases h
  |some p=>exact .inl ⟨p,rfl,by simpa[Value.ownBlock,eq_comm] using h⟩
 ·exact .inr (by simpa[Value.ownBlock] using h)
theorem Zaa.appAva{w w':World}{base:Nat}{m:Zab}(h:Zaa w base m){l:List Int}{A:Option Addr}{n c:Nat}(z:w.grownBy w' (Value.slice m.sAva.A m.avail.length m.sAva.c).ownBlock)(C:w'.ownsRow base 3 1 (.slice A l.length c) l.length (Zag l))(G:l.length≤1000000)(E:(Value.slice A n c).ownBlock=(Value.slice m.sAva.A m.avail.length m.sAva.c).ownBlock∨(Value.slice A n c).ownBlock=some w.heap.size):Zaa w' base {m with avail:=l,sAva:=⟨A,c⟩}:=
 ⟨Zal h.curs z (Zao h.curs h.avail (by decide)),Zal h.unders z (Zao h.unders h.avail (by decide)),Zal h.instrs z (Zao h.instrs h.avail (by decide)),Zal h.accts z (Zao h.accts h.avail (by decide)),Zal h.poss z (Zao h.poss h.avail (by decide)),Zal h.orders z (Zao h.orders h.avail (by decide)),C,Zal h.locs z (Zao h.locs h.avail (by decide)),fun a ha=>⟨Zal (h.cash a ha).1 z (fun p hp s=>by
  cases hs:m.sAva.A with
  |none=>rw[hs] at s;cases s
  |some q=>rw[hs] at s;exact h.away a ha p q hp hs (by simpa[Value.ownBlock] using s)),(h.cash a ha).2⟩,h.apart,fun x hx p q hp hq=>by
  rcases Zhl E hq with⟨p',h1,h2⟩|h1
  ·rw[←h2];exact h.away x hx p p' hp h1
  ·have:=(ZaP (h.cash x hx).1 p hp).2
   omega,h.short.1,h.short.2.1,h.short.2.2.1,h.short.2.2.2.1,h.short.2.2.2.2.1,h.short.2.2.2.2.2.1,G,h.short.2.2.2.2.2.2.2⟩
theorem Zaa.appAcc{w w':World}{base:Nat}{m:Zab}{x:ZaA}{S:Nat}(h:Zaa w base m){A:Option Addr}{c:Nat}(C:w.grownBy w' (Value.slice m.sAcc.A m.accts.length m.sAcc.c).ownBlock)(G:w'.ownsRow base 59 4 (.slice A (m.accts++[x]).length c) (m.accts++[x]).length ((m.accts++[x]).flatMap ZaA.cs))(Y:(m.accts++[x]).length≤1000000)(J:w'.ownsRow S 3 1 (.slice x.A x.cash.length x.c) x.cash.length (Zag x.cash))(U:x.cash.length≤1000000)(X:base≤S)(E:∀a∈m.accts,∀p,a.A=some p→p.block<S)(L:∀q,m.sAva.A=some q→q.block<S):Zaa w' base {m with accts:=m.accts++[x],sAcc:=⟨A,c⟩}:=by
 have s:∀(i:Nat) (y:ZaA),(m.accts++[x])[i]?=some y→(i<m.accts.length∧m.accts[i]?=some y)∨(i=m.accts.length∧y=x):=by
  intro i y hy
  by_cases hi:i<m.accts.length
  ·rw[List.getElem?_append_left hi] at hy
   exact .inl ⟨hi,hy⟩
  ·rw[List.getElem?_append_right (by omega)] at hy
   by_cases N:i=m.accts.length
   ·subst N
    simp at hy
    exact .inr ⟨rfl,hy.symm⟩
   ·have:(([x]:List ZaA)[i-m.accts.length]?)=none:=by simp;omega
    rw[this] at hy;cases hy
 refine⟨Zal h.curs C (Zao h.curs h.accts (by decide)),Zal h.unders C (Zao h.unders h.accts (by decide)),Zal h.instrs C (Zao h.instrs h.accts (by decide)),G,Zal h.poss C (Zao h.poss h.accts (by decide)),Zal h.orders C (Zao h.orders h.accts (by decide)),Zal h.avail C (Zao h.avail h.accts (by decide)),Zal h.locs C (Zao h.locs h.accts (by decide)),?_,?_,?_,h.short.1,h.short.2.1,h.short.2.2.1,Y,h.short.2.2.2.2.1,h.short.2.2.2.2.2.1,h.short.2.2.2.2.2.2.1,h.short.2.2.2.2.2.2.2⟩
 ·intro a ha
  rcases List.mem_append.1 ha with ha|ha
  ·exact⟨Zal (h.cash a ha).1 C (Zao (h.cash a ha).1 h.accts (by decide)),(h.cash a ha).2⟩
  ·simp only[List.mem_cons,List.not_mem_nil,or_false] at ha
   subst ha
   exact⟨Zap J X,U⟩
 ·intro i j y z p q hy hz R hp hq
  rcases s i y hy with⟨h1,h2⟩|⟨h1,h2⟩
  ·rcases s j z hz with⟨h3,h4⟩|⟨h3,h4⟩
   ·exact h.apart i j y z p q h2 h4 R hp hq
   ·subst h4
    have k1:=E y (List.mem_of_getElem? h2) p hp
    have k2:=(ZaP J q hq).1
    omega
  ·subst h2
   rcases s j z hz with⟨h3,h4⟩|⟨h3,h4⟩
   ·have k1:=E z (List.mem_of_getElem? h4) q hq
    have k2:=(ZaP J p hp).1
    omega
   ·omega
 ·intro y hy p q hp hq
  rcases List.mem_append.1 hy with hy|hy
  ·exact h.away y hy p q hp hq
  ·simp only[List.mem_cons,List.not_mem_nil,or_false] at hy
   subst hy
   have k1:=L q hq
   have k2:=(ZaP J p hp).1
   omega
theorem Zaa.appCash{w w':World}{base:Nat}{m:Zab}(h:Zaa w base m){g v c n:Nat}{A:Option Addr}{l:List Int}(hA:m.sAcc.A=some (Aq g 0))(hv:v<m.accts.length)(hg:w.grownBy w' (Value.slice (m.accts[v]).A (m.accts[v]).cash.length (m.accts[v]).c).ownBlock)(ad:w'.ownsRow base 3 1 (.slice A l.length c) l.length (Zag l))(hl:l.length≤1000000)(ab:(Value.slice A n c).ownBlock=(Value.slice (m.accts[v]).A (m.accts[v]).cash.length (m.accts[v]).c).ownBlock∨(Value.slice A n c).ownBlock=some w.heap.size):
 Zaa (w'.setCell (Aq g (v*4+1)) (.slice A l.length c)) base {m with accts:=m.accts.set v {m.accts[v] with A:=A,c:=c,cash:=l}}:=by
 have hv?:m.accts[v]?=some m.accts[v]:=List.getElem?_eq_getElem hv
 have hm:m.accts[v]∈m.accts:=List.getElem_mem _
 obtain⟨x,hx⟩:=ExY (m.accts[v])
 rw[←hx] at hv? hm hg ab ⊢
 obtain⟨x',J⟩:∃x':ZaA,x'={x with A:=A,c:=c,cash:=l}:=⟨_,rfl⟩
 have R:x'.A=A:=by rw[J]
 have ag:x'.c=c:=by rw[J]
 have aa:x'.cash=l:=by rw[J]
 have ah:x'.cs=x.cs.set 1 (.slice A l.length c):=by rw[J];rfl
 rw[←J]
 clear J
 have ae:=(h.cash x hm).1
 have a1:=Zal h.accts hg (Zao h.accts ae (by decide))
 obtain⟨cs,_,_,U⟩:=ZaK a1 hA
 have e1:=ZbA (hA▸a1) (v*4+1) (by omega) (.slice A l.length c)
 rw[ZcI Zc4 m.accts v hv 1 (by decide) _ x' (by rw[ah,hx])] at e1
 have Z:(m.accts.set v x').length=m.accts.length:=List.length_set ..
 have E:∀(i:Nat) (z:ZaA),(m.accts.set v x')[i]?=some z→(i=v∧z=x')∨(i≠v∧m.accts[i]?=some z):=by
  intro i z hz
  by_cases hi:v=i
  ·subst hi
   rw[List.getElem?_set_self hv] at hz
   cases hz
   exact .inl ⟨rfl,rfl⟩
  ·rw[List.getElem?_set_ne hi] at hz
   exact .inr ⟨Ne.symm hi,hz⟩
 have Y:∀(p:Addr),(∀p0,x.A=some p0→p.block≠p0.block)→some p.block≠(Value.slice x.A x.cash.length x.c).ownBlock:=by
  intro p hp X
  cases hs:x.A with
  |none=>rw[hs] at X;cases X
  |some q=>rw[hs] at X;exact hp q hs (by simpa[Value.ownBlock] using X)
 have s:∀(p q:Addr),p.block<w.heap.size→(∀p0,x.A=some p0→p.block≠p0.block)→A=some q→p.block≠q.block:=by
  intro p q hp C hq
  rcases Zhl ab hq with⟨p',h1,h2⟩|h1
  ·rw[←h2];exact C p' h1
  ·omega
 have K:∀ {e k n' c':Nat} {A':Option Addr} {xs:List Value},e≠59→e≠3→w.ownsRow base e k (.slice A' n' c') n' xs→(w'.setCell (Aq g (v*4+1)) (.slice A l.length c)).ownsRow base e k (.slice A' n' c') n' xs:=fun h1 h2 ho=>
  Zad (Zal ho hg (Zao ho ae h2)) U (Ne.symm h1)
 refine⟨K (by decide) (by decide) h.curs,K (by decide) (by decide) h.unders,K (by decide) (by decide) h.instrs,?_,K (by decide) (by decide) h.poss,K (by decide) (by decide) h.orders,?_,K (by decide) (by decide) h.locs,?_,?_,?_,?_⟩
 ·show World.ownsRow _ base 59 4 (.slice m.sAcc.A (m.accts.set v x').length m.sAcc.c) (m.accts.set v x').length _
  rw[Z,hA]
  exact e1
 ·exact Zad (Zal h.avail hg fun p hp=>Y p fun p0 C=>Ne.symm (h.away x hm p0 p C hp)) U (by decide)
 ·intro z hz
  obtain⟨i,hi⟩:=List.getElem?_of_mem hz
  rcases E i z hi with⟨rfl,rfl⟩|⟨L,G⟩
  ·rw[R,ag,aa]
   exact⟨Zad ad U (by decide),hl⟩
  ·have af:=h.cash z (List.mem_of_getElem? G)
   exact⟨Zad (Zal af.1 hg fun p hp=>Y p fun p0 C=>h.apart i v z x p p0 G hv? L hp C) U (by decide),af.2⟩
 ·intro i j y z p q hy hz L hp hq
  rcases E i y hy with⟨rfl,rfl⟩|⟨ai,N⟩
  ·rcases E j z hz with⟨rfl,rfl⟩|⟨ac,G⟩
   ·exact absurd rfl L
   ·rw[R] at hp
    exact Ne.symm (s q p (ZaP (h.cash z (List.mem_of_getElem? G)).1 q hq).2 (fun p0 C=>h.apart j i z x q p0 G hv? ac hq C) hp)
  ·rcases E j z hz with⟨rfl,rfl⟩|⟨ac,G⟩
   ·rw[R] at hq
    exact s p q (ZaP (h.cash y (List.mem_of_getElem? N)).1 p hp).2 (fun p0 C=>h.apart i j y x p p0 N hv? ai hp C) hq
   ·exact h.apart i j y z p q N G L hp hq
 ·intro y hy p q hp hq
  obtain⟨i,hi⟩:=List.getElem?_of_mem hy
  rcases E i y hi with⟨rfl,rfl⟩|⟨L,N⟩
  ·rw[R] at hp
   exact Ne.symm (s q p (ZaP h.avail q hq).2 (fun p0 C=>Ne.symm (h.away x hm p0 q C hq)) hp)
  ·exact h.away y (List.mem_of_getElem? N) p q hp hq
 ·show _∧_∧_∧(m.accts.set v x').length≤_∧_
  rw[Z]
  exact h.short
structure Zax(m m':Zab):Prop where
 poss:m'.poss=m.poss
 orders:m'.orders=m.orders
 last:∃z:List Int,(∀x∈z,x=0)∧m'.accts.map ZaA.last=m.accts.map ZaA.last++z
theorem Zax.same{m m':Zab}(s:m'.poss=m.poss)(z:m'.orders=m.orders)(C:m'.accts.map ZaA.last=m.accts.map ZaA.last):Zax m m':=⟨s,z,[],by simp,by rw[C,List.append_nil]⟩
theorem Ziq{l:List ZaA}{v:Nat}(s:v<l.length){x:ZaA}(z:x.last=(l[v]).last):(l.set v x).map ZaA.last=l.map ZaA.last:=by
 rw[List.map_set,z]
 apply List.ext_getElem?
 intro i
 by_cases hi:v=i
 ·subst hi
  rw[List.getElem?_set_self (by simpa using s)];simp[s]
 ·rw[List.getElem?_set_ne hi]
theorem ZeN(b:Bool)(er:Int)(w:World):Calls prog 62 #[.bool b,I er] w fun e w'=>w'=w∧(e=.returned (.tuple #[])∨e=Pan 164 er):=by
 cases b with
 |true=>exact(ZaV er w).mono fun e w' h=>⟨h.2,.inl h.1⟩
 |false=>exact(Zat er w).mono fun e w' h=>⟨h.2,.inr h.1⟩
theorem ZeR(b:Bool)(er:Int)(w:World):Calls prog 85 #[.bool b,I er] w fun e w'=>w'=w∧(e=.returned (.tuple #[])∨e=Pan 181 er):=by
 cases b with
 |true=>exact(Za7 er w).mono fun e w' h=>⟨h.2,.inl h.1⟩
 |false=>exact(Zau er w).mono fun e w' h=>⟨h.2,.inr h.1⟩
theorem ZdJ{w:World}{base:Nat}{m:Zab}(h:Zaa w base m){g q:Nat}(C:m.sUnd.A=some (Aq g 0))(E:q<m.unders.length):w.cell? (Aq g (q*4))=some (.string (m.unders.getD q default).name)∧w.cell? (Aq g (q*4+1))=some (I (m.unders.getD q default).cur) ∧
 w.cell? (Aq g (q*4+2))=some (I (m.unders.getD q default).price)∧w.cell? (Aq g (q*4+3))=some (I (m.unders.getD q default).vol)∧(∀j,w.frozen? (Aq g j)=false)∧g<w.heap.size∧base≤g:=by
 have e:m.unders.getD q default=m.unders[q]:=by simp[E]
 have c:=fun j (hj:j<4)=>(Zbh (C▸h.unders) (q*4+j) (by omega)).1.trans (Zb3 Zed m.unders q E j hj)
 obtain⟨cs,_,hB,z⟩:=ZaK h.unders C
 have s:Bk w g 63 cs:=z
 rw[e]
 exact⟨c 0 (by decide),c 1 (by decide),c 2 (by decide),c 3 (by decide),fun j=>s.frozen j,s.lt,hB⟩
theorem Zkf{w:World}{B:Nat}{m:Zab}(h:Zaa w B m){g q:Nat}(N:m.sUnd.A=some (Aq g 0))(U:q<m.unders.length)(price vol:Int):
 ∃m2:Zab,Zaa ((w.setCell (Aq g (q*4+2)) (I price)).setCell (Aq g (q*4+3)) (I vol)) B m2∧m2.cs=m.cs∧Zax m m2∧m2.sUnd.A=some (Aq g 0)∧q<m2.unders.length∧m2.curs=m.curs:=by
 obtain⟨m1,s⟩:∃m1:Zab,m1={m with unders:=m.unders.set q {m.unders[q] with price:=price}}:=⟨_,rfl⟩
 have h1:Zaa (w.setCell (Aq g (q*4+2)) (I price)) B m1:=by rw[s];exact h.setUnd N U (by decide) rfl
 have z:m1.sUnd.A=some (Aq g 0):=by rw[s];exact N
 have R:m1.unders.length=m.unders.length:=by rw[s];exact List.length_set ..
 have G:q<m1.unders.length:=by omega
 have C:m1.cs=m.cs:=by rw[s];unfold Zab.cs;dsimp only;rw[List.length_set]
 have E:Zax m m1:=by rw[s];exact Zax.same rfl rfl rfl
 have J:m1.curs=m.curs:=by rw[s]
 have L:m1.accts.map ZaA.last=m.accts.map ZaA.last:=by rw[s]
 have h2:=h1.setUnd (u:=I vol) (x:={m1.unders[q] with vol:=vol}) z G (j:=3) (by decide) rfl
 refine⟨_,h2,?_,?_,z,?_,J⟩
 ·unfold Zab.cs at C ⊢;dsimp only;rw[List.length_set];exact C
 ·exact Zax.same E.poss E.orders L
 ·dsimp only;rw[List.length_set];exact G
theorem Zi8(m:Zab)(Z Y ap:Int)(B pl bu bp bv:Nat)(w:World)(hB:B≤w.heap.size)(a4:Bk w pl 37 m.ar)(ho:Zaa w B m)(aY:Bk w bu 3 #[I Z])(aX:Bk w bp 3 #[I Y])(aZ:Bk w bv 3 #[I ap])(lu:bu<B)(lp:bp<B)(lv:bv<B):
 Calls prog 61 #[Pt pl,Pt bu,Pt bp,Pt bv] w (Zbx 164 37 B pl (fun m' _=>Zax m m') True w):=by
 have a7:=Hi hB
 have bb:=Hi ho.short.1
 have ai:=Hi a4
 have aG:=Hi ho
 have ag:=Hi aY
 have ax:=Hi aX
 have ay:=Hi aZ
 clear hB a4 ho aY aX aZ lu lp lv
 have aj:Hid (ZaC B pl w w):=ZaC.refl _ _ _
 go_enter func61,ntmps61
 have R:=ai.nine
 have L:=ag.one
 have J:=ax.one
 have N:=ay.one
 go_upto_region 1 with(fail)
 by_cases d1:0≤Z
 rotate_left
 ·clear R L J N
  obtain⟨W1,z⟩:=ExY w.drew
  have aa:=bhD aj z
  have E:=bkD ai z
  have G:=bkD ag z
  refine rgK (by kernel_rfl) z (CsA G 0 rfl (CsB E 2 rfl)) fun s=>?_
  clear z
  refine tkH [0,1,2,3,4,5,6,7,8,9,10] s (by kernel_rfl) (fun _ _ _ _ h=>h) ?_
  iterate 11 ((first|refine ycH rfl (by rfl) (fun w h=>by simp only[Cs] at h;go_simp<;>rfl) ?_|refine ncH rfl (by rfl) ?_);try simp only[Act.put,sA,sB,sC])
  refine onH 11 (by kernel_rfl) rfl fun K hK=>?_
  go_simp
  refine Cq (Zat 31 _) ?_
  dsimp only
  go_wp2
  exact⟨rfl,aa,m,E,.inr ⟨31,(by decide),rfl,trivial⟩⟩
 by_cases d2:Z<(m.unders.length:Int)
 rotate_left
 ·clear R L J N
  obtain⟨W1,z⟩:=ExY w.drew
  have aa:=bhD aj z
  have E:=bkD ai z
  have G:=bkD ag z
  refine rgK (by kernel_rfl) z (CsA G 0 rfl (CsB E 2 rfl)) fun s=>?_
  clear z
  refine tkH [0,1,2,3,4,5,6,7,8,9,10] s (by kernel_rfl) (fun _ _ _ _ h=>h) ?_
  iterate 11 (refine ycH rfl (by rfl) (fun w h=>by simp only[Cs] at h;go_simp<;>rfl) ?_;try simp only[Act.put,sA,sB,sC])
  refine onH 11 (by kernel_rfl) rfl fun K hK=>?_
  go_simp
  refine Cq (Zat 31 _) ?_
  dsimp only
  go_wp2
  exact⟨rfl,aa,m,E,.inr ⟨31,(by decide),rfl,trivial⟩⟩
 clear R L J N
 obtain⟨W1,z⟩:=ExY w.drew
 have aa:=bhD aj z
 have E:=bkD ai z
 have G:=bkD ag z
 have aJ:=bkD ax z
 have aQ:=bkD ay z
 have au:=boD aG z
 refine rgK (by kernel_rfl) z (CsA G 0 rfl (CsB E 2 rfl)) fun s=>?_
 clear z
 refine tkH [0,1,2,3,4,5,6,7,8,9,10] s (by kernel_rfl) (fun _ _ _ _ h=>h) ?_
 iterate 11 (refine ycH rfl (by rfl) (fun w h=>by simp only[Cs] at h;go_simp<;>rfl) ?_;try simp only[Act.put,sA,sB,sC])
 refine onH 11 (by kernel_rfl) rfl fun K hK=>?_
 go_simp
 refine Cq (ZaV 31 _) ?_
 dsimp only
 refine hK.out _ _ (⟨G.cell 0,E.cell 2⟩) (fun s=>?_)
 try simp only[Act.put,sA,sB,sC]
 refine wpAnyH_done (by kernel_rfl) ?_ _
 clear s
 obtain⟨q,rfl⟩:∃q:Nat,Z=(q:Int):=ZaW d1
 have hq:q<m.unders.length:=Int.ofNat_lt.mp d2
 have HQ:=Hi hq
 obtain⟨g,hA,_,_,_⟩:=Zbb au.unders (Nat.lt_of_le_of_lt (Nat.zero_le _) hq)
 have HA:=Hi hA
 clear hq hA
 go_upto_region 2 with(fail)
 obtain⟨W2,ad⟩:=ExY W1.drew
 have aD:=bhD aa ad
 have ac:=bkD E ad
 have ab:Hid (Bk W2 bu 3 #[I q]):=bkD G ad
 have af:=bkD aJ ad
 have ah:=bkD aQ ad
 have ak:=boD au ad
 refine rgH (S:=(fun U=>U.cell? (Aq bu 0)=some (I q)∧U.cell? (Aq pl 2)=some (.slice (some (Aq g 0)) m.unders.length m.sUnd.c))) (by kernel_rfl) ad ⟨ab.out.cell 0,HA.out▸ac.out.cell 2⟩ fun s=>?_
 clear ad
 refine tkH [0,1,2,3,4,5,6] s (by kernel_rfl) (fun _ _ _ _ h=>h) ?_
 iterate 7 (refine ycH rfl (by rfl) (fun w h=>by go_simp<;>rfl) ?_;try simp only[Act.put,sA,sB,sC])
 refine wpAnyH_done (by kernel_rfl) ?_ _
 clear s
 obtain⟨y0,y1,y2,y3,y4,y5,y6⟩:=ZdJ ak HA HQ
 have z2:=y4 (q*4+2)
 have z3:=y4 (q*4+3)
 clear y4
 have R:=ac.nine
 have L:=ab.one
 have J:=af.one
 have N:=ah.one
 go_upto_region 4 with(fail)
 clear y0 y1 y2 y3 y5 y6 z2 z3
 obtain⟨m2,a3,a0,a2,aW,a5,a1⟩:=Zkf ak HA HQ Y ap
 obtain⟨aV,_,an,az⟩:=ZaK ak.unders HA
 obtain⟨W3,ae⟩:=ExY (((W2.setCell ⟨g,q*4+2,none⟩ (I Y)).setCell ⟨g,q*4+3,none⟩ (I ap)))
 rw[←ae]
 have C:Bk W2 g 63 aV:=az
 have aE:Hid (ZaC B pl w W3):=by rw[ae];exact((aD.set_up an).set_up an)
 have al:Hid (Bk W3 pl 37 m.ar):=by rw[ae];exact((ac.far (p:=Aq g (q*4+2)) (ac.ne C (by decide)) _).far (p:=Aq g (q*4+3)) (ac.ne C (by decide)) _)
 have aN:Hid (Bk W3 bu 3 #[I q]):=by rw[ae];exact((ab.far (p:=Aq g (q*4+2)) (ab.ne C (by decide)) _).far (p:=Aq g (q*4+3)) (ab.ne C (by decide)) _)
 have aK:Hid (Bk W3 bp 3 #[I Y]):=by rw[ae];exact((af.far (p:=Aq g (q*4+2)) (af.ne C (by decide)) _).far (p:=Aq g (q*4+3)) (af.ne C (by decide)) _)
 have aR:Hid (Bk W3 bv 3 #[I ap]):=by rw[ae];exact((ah.far (p:=Aq g (q*4+2)) (ah.ne C (by decide)) _).far (p:=Aq g (q*4+3)) (ah.ne C (by decide)) _)
 have aw:Hid (Zaa W3 B m2):=by rw[ae];exact a3
 clear R L J N
 clear az C an aV
 clear ae
 have a8:=Hi a0
 have ba:=Hi a2
 have a6:=Hi aW
 have bc:=Hi a5
 clear a3 a0 a2 aW a5 a1
 obtain⟨⟨nm,cu,pr,vo⟩,hu⟩:∃u,u=m2.unders.getD q default:=⟨_,rfl⟩
 have hy:=ZdJ aw a6 bc
 rw[←hu] at hy
 have HY:=Hi hy
 clear hy hu
 have a9:Hid (m.curs.length≤maxLen):=ZbR bb
 have aA:Hid (∀U,Bw W3 U→U.cell? (Aq g (q*4))=some (.string nm)∧U.cell? (Aq g (q*4+1))=some (I cu)∧U.cell? (Aq g (q*4+2))=some (I pr)∧U.cell? (Aq g (q*4+3))=some (I vo)∧U.cell? (Aq pl 1)=some (.slice m.sCur.A m.curs.length m.sCur.c)):=fun U hU=>by
  obtain⟨y0,y1,y2,y3,_,y5,_⟩:=HY.out
  exact⟨(hU.cell y5).trans y0,(hU.cell (p:=Aq g (q*4+1)) y5).trans y1,(hU.cell (p:=Aq g (q*4+2)) y5).trans y2,(hU.cell (p:=Aq g (q*4+3)) y5).trans y3,(al.below hU al.lt).cell 1⟩
 obtain⟨W4,X⟩:=ExY W3.drew
 have aF:=bhD aE X
 have aU:=bkD al X
 have aO:=bkD aN X
 have aL:=bkD aK X
 have aS:=bkD aR X
 have aH:=boD aw X
 have aB:Hid (Bw W3 W4):=by rw[X];exact(Below.refl _ _).drew
 refine rgH (S:=(fun U=>U.cell? (Aq g (q*4))=some (.string nm)∧U.cell? (Aq g (q*4+1))=some (I cu)∧U.cell? (Aq g (q*4+2))=some (I pr)∧U.cell? (Aq g (q*4+3))=some (I vo)∧U.cell? (Aq pl 1)=some (.slice m.sCur.A m.curs.length m.sCur.c))) (by kernel_rfl) X (aA.out _ aB) fun s=>?_
 clear X
 refine tkH [0,1,2,3,4,5,6,7] s (by kernel_rfl) (fun _ _ _ _ h=>h) ?_
 iterate 8 (refine ycH rfl (by rfl) (fun w h=>by go_simp<;>rfl) ?_;try simp only[Act.put,sA,sB,sC])
 refine onH 8 (by kernel_rfl) rfl fun K hK=>?_
 go_simp
 refine(ZgJ ⟨nm,cu,pr,vo⟩ m.curs.length a9 _).mono ?_
 rintro e W5 ⟨rfl,hb⟩
 have aC:=blT aB hb
 have aq:=bhU aF a7 hb
 have am:=bkN aU hb
 have aP:=bkN aO hb
 have aM:=bkN aL hb
 have aT:=bkN aS hb
 have aI:=boN aH hb
 clear hb
 dsimp only
 refine hK.out _ _ (aA.out _ aC) (fun s=>?_)
 try simp only[Act.put,sA,sB,sC]
 refine onH 9 (by kernel_rfl) rfl fun K hK=>?_
 go_simp
 refine(ZeN _ 37 _).mono ?_
 rintro e w' ⟨ao,he|he⟩
 rotate_left
 ·unfold Pan at he
  subst he
  rw[ao]
  clear ao w'
  dsimp only
  go_wp2
  exact⟨rfl,aq,m,am,.inr ⟨37,(by decide),rfl,trivial⟩⟩
 subst he
 rw[ao]
 clear ao w'
 dsimp only
 refine hK.out _ _ (aA.out _ aC) (fun s=>?_)
 try simp only[Act.put,sA,sB,sC]
 refine wpAnyH_done (by kernel_rfl) ?_ _
 clear s
 have R:=am.nine
 have L:=aP.one
 have J:=aM.one
 have N:=aT.one
 go_wp2
 go_ret
 exact⟨aq,m2,by rw[a8.out];exact am.out,.inl ⟨_,rfl,aI,ba⟩⟩
theorem Zke(m:Zab)(z s ae:Int)(w:World)(hm:Zay w w.heap.size m)(aw:Gl w):
 Calls prog 29 #[m.val,I z,I s,I ae] w (Zar (Zaj m (fun m1 m2 _=>Zax m1 m2)) (Zas m (fun m1 m2 _=>Zax m1 m2) (fun _=>True)) w):=by
 show Calls prog 29 #[.agg m.ar,I z,I s,I ae] w (Zar (Zaj m (fun m1 m2 _=>Zax m1 m2)) (Zas m (fun m1 m2 _=>Zax m1 m2) (fun _=>True)) w)
 obtain⟨W1,Y⟩:=ExY (w.alloc (.cells m.ar 37))
 obtain⟨bl,ac⟩:=ExY w.heap.size
 have ax:=blB Y
 have aA:=bkW Y ac
 obtain⟨W2,U⟩:=ExY (W1.alloc (.cells #[I z] 3))
 obtain⟨bu,ad⟩:=ExY W1.heap.size
 have ay:=blA ax U
 have aB:=bkA aA U
 have ai:=bkW U ad
 have am:bu=bl+1:=by rw[ad,Y,World.size_alloc,←ac]
 obtain⟨W3,J⟩:=ExY (W2.alloc (.cells #[I s] 3))
 obtain⟨bp,Z⟩:=ExY W2.heap.size
 have aH:Hid (bp≠bu):=by
  have h:=ai.lt
  show bp≠bu
  rw[Z]
  exact Ne.symm (Nat.ne_of_lt h)
 have az:=blA ay J
 have aC:=bkA aB J
 have aj:=bkA ai J
 have ah:=bkW J Z
 have al:bp=bu+1:=by rw[Z,U,World.size_alloc,←ad]
 obtain⟨W4,E⟩:=ExY (W3.alloc (.cells #[I ae] 3))
 obtain⟨bv,X⟩:=ExY W3.heap.size
 have aJ:Hid (bv≠bu):=by
  have h:=aj.lt
  show bv≠bu
  rw[X]
  exact Ne.symm (Nat.ne_of_lt h)
 have aI:Hid (bv≠bp):=by
  have h:=ah.lt
  show bv≠bp
  rw[X]
  exact Ne.symm (Nat.ne_of_lt h)
 have af:=blA az E
 have ag:=bkA aC E
 have aF:=bkA aj E
 have aE:=bkA ah E
 have aG:=bkW E X
 have an:bv=bp+1:=by rw[X,J,World.size_alloc,←Z]
 obtain⟨W5,G⟩:=ExY (W4.alloc (.cells zZ 37))
 obtain⟨bz,aa⟩:=ExY W4.heap.size
 have aK:Hid (bz≠bl):=by
  have h:=ag.lt
  show bz≠bl
  rw[aa]
  exact Ne.symm (Nat.ne_of_lt h)
 have aq:=blZ af aa
 have C:=blA af G
 have aD:=bkA ag G
 have N:=bkA aF G
 have L:=bkA aE G
 have R:=bkA aG G
 have ak:=bkW G aa
 have ao:bz=bv+1:=by rw[aa,E,World.size_alloc,←X]
 have HT:Hid (Calls prog 60 #[.agg m.ar,.func (.func 61) #[] #[Pt bu,Pt bp,Pt bv]] W5 (Zar (Zaj m (fun m1 m2 _=>Zax m1 m2)) (Zas m (fun m1 m2 _=>Zax m1 m2) (fun _=>True)) W5)):=Hi (ZbQ 61 #[Pt bu,Pt bp,Pt bv] m (fun m1 m2 _=>Zax m1 m2) (fun _=>True) W5 ((hm.below C).mono C.size) (aw.below C aw.lt) (fun pl W=>by kernel_rfl) (by
  intro m1 B pl W hp
  exact Zi8 m1 z s ae B pl bu bp bv W hp.size hp.bk hp.own (N.below hp.below N.lt) (L.below hp.below L.lt) (R.below hp.below R.lt) (Nat.lt_of_lt_of_le N.lt hp.base) (Nat.lt_of_lt_of_le L.lt hp.base) (Nat.lt_of_lt_of_le R.lt hp.base)))
 clear hm aw
 go_enter func29,ntmps29
 go_upto_region 1 with(fail)
 rw[←Y,←ac,←U,←am,←J,←al,←E,←an,←G,←ao]
 clear Y ac am U ad al J Z an E X ao G aa
 have aL:=aD.nine
 have aN:=N.one
 have aM:=L.one
 have aO:=R.one
 have aP:=ak.nine
 go_wp2_with fail
 refine HT.mono ?_
 rintro e W9 ⟨hb,m2,n,er,rfl,hc⟩
 have HC:=Hi hc
 have aQ:=blT C hb
 have aR:=Hi C.size
 have au:=bkN ak hb
 clear hb hc aL aN aM aO aP
 have ap:m2.val=.agg m2.ar:=rfl
 rw[ap]
 clear ap
 dsimp only
 go_wp2_with (refine wpList_store_row rfl 37 _ _ rfl bz m2.ar rfl rfl 37 zZ au ZaU (by rfl) (by simp[Value.oneCell']) ?_)
 obtain⟨V9,ab⟩:=ExY (W9.setRow bz m2.ar)
 rw[←ab]
 have aU:=bkr au ab
 have aS:=blr aQ ab aq
 have aT:(er=0∧Zaa V9 w.heap.size m2∧(Zaj m (fun m1 m2 _=>Zax m1 m2)) m2 n)∨(er≠0∧m2=Za4∧n=0∧(Zas m (fun m1 m2 _=>Zax m1 m2) (fun _=>True))):=by
  rcases HC.out with⟨h1,h2,h3⟩|h
  ·exact .inl ⟨h1,by rw[ab];exact(h2.mono aR).rowFar au (by decide) _,h3⟩
  ·exact .inr h
 exact bodyPost_ret (Zam (p:=8) (q:=9) (r:=10) results29 _ V9 bz 37 m2.ar (0,0) _ rfl aU underlying37 rfl ZaU) rfl ⟨aS,m2,n,er,rfl,aT⟩
def Zdv(m:Zab)(acct cur amount:Int):Prop:=0≤acct∧acct<m.accts.length∧0≤cur∧cur<m.curs.length∧(ZfM ((m.accts.getD acct.toNat default).cash.getD cur.toNat 0) amount).2=0
def ZaA.pay(a:ZaA)(c:Nat)(x:Int):ZaA:={a with cash:=a.cash.set c x}
def ZbP(acct cur amount:Int)(m m2:Zab):Prop:=Zax m m2∧m2={m with accts:=m.accts.set acct.toNat ((m.accts.getD acct.toNat default).pay cur.toNat (ZfM ((m.accts.getD acct.toNat default).cash.getD cur.toNat 0) amount).1)}
theorem Zjz(m:Zab)(acct al amount:Int)(B pl ba bc bm:Nat)(w:World)(hB:B≤w.heap.size)(bd:Bk w pl 37 m.ar)(ho:Zaa w B m)(hg:Za2 m=true)(a6:Bk w ba 3 #[I acct])(a7:Bk w bc 3 #[I al])(a8:Bk w bm 3 #[I amount])(la:ba<B)(lc:bc<B)(lm:bm<B):
 Calls prog 66 #[Pt pl,Pt ba,Pt bc,Pt bm] w (Zbx 164 37 B pl (fun m' _=>ZbP acct al amount m m') (¬Zdv m acct al amount) w):=by
 have bh:=Hi hg
 have af:=Hi bd
 have aT:=Hi ho
 have ae:=Hi a6
 have aG:=Hi a7
 have aJ:=Hi a8
 have aK:=Hi la
 have aL:=Hi lc
 have aM:=Hi lm
 clear hB bd ho hg a6 a7 a8 la lc lm
 have am:Hid (ZaC B pl w w):=ZaC.refl _ _ _
 go_enter func66,ntmps66
 have ak:=af.nine
 have ah:=ae.one
 have ai:=aG.one
 have aj:=aJ.one
 go_upto_region 1 with(fail)
 by_cases d1:0≤acct
 rotate_left
 ·clear ak ah ai aj
  obtain⟨W1,z⟩:=ExY w.drew
  have J:=bhD am z
  have E:=bkD af z
  have L:=bkD ae z
  refine rgK (by kernel_rfl) z (CsA L 0 rfl (CsB E 4 rfl)) fun s=>?_
  clear z
  refine tkH [0,1,2,3,4,5,6,7,8,9,10] s (by kernel_rfl) (fun _ _ _ _ h=>h) ?_
  iterate 11 ((first|refine ycH rfl (by rfl) (fun w h=>by simp only[Cs] at h;go_simp<;>rfl) ?_|refine ncH rfl (by rfl) ?_);try simp only[Act.put,sA,sB,sC])
  refine onH 11 (by kernel_rfl) rfl fun K hK=>?_
  go_simp
  refine Cq (Zat 33 _) ?_
  dsimp only
  go_wp2
  exact⟨rfl,J,m,E,.inr ⟨33,(by decide),rfl,fun h=>(by have h1:=h.1;omega)⟩⟩
 by_cases d2:acct<(m.accts.length:Int)
 rotate_left
 ·clear ak ah ai aj
  obtain⟨W1,z⟩:=ExY w.drew
  have J:=bhD am z
  have E:=bkD af z
  have L:=bkD ae z
  refine rgK (by kernel_rfl) z (CsA L 0 rfl (CsB E 4 rfl)) fun s=>?_
  clear z
  refine tkH [0,1,2,3,4,5,6,7,8,9,10] s (by kernel_rfl) (fun _ _ _ _ h=>h) ?_
  iterate 11 (refine ycH rfl (by rfl) (fun w h=>by simp only[Cs] at h;go_simp<;>rfl) ?_;try simp only[Act.put,sA,sB,sC])
  refine onH 11 (by kernel_rfl) rfl fun K hK=>?_
  go_simp
  refine Cq (Zat 33 _) ?_
  dsimp only
  go_wp2
  exact⟨rfl,J,m,E,.inr ⟨33,(by decide),rfl,fun h=>(by have h1:=h.2.1;omega)⟩⟩
 clear ak ah ai aj
 obtain⟨W1,z⟩:=ExY w.drew
 have J:=bhD am z
 have E:=bkD af z
 have L:=bkD ae z
 have ao:=bkD aG z
 have aZ:=bkD aJ z
 have aU:=boD aT z
 refine rgK (by kernel_rfl) z (CsA L 0 rfl (CsB E 4 rfl)) fun s=>?_
 clear z
 refine tkH [0,1,2,3,4,5,6,7,8,9,10] s (by kernel_rfl) (fun _ _ _ _ h=>h) ?_
 iterate 11 (refine ycH rfl (by rfl) (fun w h=>by simp only[Cs] at h;go_simp<;>rfl) ?_;try simp only[Act.put,sA,sB,sC])
 refine onH 11 (by kernel_rfl) rfl fun K hK=>?_
 go_simp
 refine Cq (ZaV 33 _) ?_
 dsimp only
 refine hK.out _ _ (⟨L.cell 0,E.cell 4⟩) (fun s=>?_)
 try simp only[Act.put,sA,sB,sC]
 refine wpAnyH_done (by kernel_rfl) ?_ _
 clear s
 go_upto_region 2 with(fail)
 by_cases e1:0≤al
 rotate_left
 ·obtain⟨W2,C⟩:=ExY W1.drew
  have aa:=bhD J C
  have G:=bkD E C
  have N:=bkD ao C
  refine rgK (by kernel_rfl) C (CsA N 0 rfl (CsB G 1 rfl)) fun s=>?_
  clear C
  refine tkH [0,1,2,3,4,5,6,7,8,9,10] s (by kernel_rfl) (fun _ _ _ _ h=>h) ?_
  iterate 11 ((first|refine ycH rfl (by rfl) (fun w h=>by simp only[Cs] at h;go_simp<;>rfl) ?_|refine ncH rfl (by rfl) ?_);try simp only[Act.put,sA,sB,sC])
  refine onH 11 (by kernel_rfl) rfl fun K hK=>?_
  go_simp
  refine Cq (Zat 30 _) ?_
  dsimp only
  go_wp2
  exact⟨rfl,aa,m,G,.inr ⟨30,(by decide),rfl,fun h=>(by have h1:=h.2.2.1;omega)⟩⟩
 by_cases e2:al<(m.curs.length:Int)
 rotate_left
 ·obtain⟨W2,C⟩:=ExY W1.drew
  have aa:=bhD J C
  have G:=bkD E C
  have N:=bkD ao C
  refine rgK (by kernel_rfl) C (CsA N 0 rfl (CsB G 1 rfl)) fun s=>?_
  clear C
  refine tkH [0,1,2,3,4,5,6,7,8,9,10] s (by kernel_rfl) (fun _ _ _ _ h=>h) ?_
  iterate 11 (refine ycH rfl (by rfl) (fun w h=>by simp only[Cs] at h;go_simp<;>rfl) ?_;try simp only[Act.put,sA,sB,sC])
  refine onH 11 (by kernel_rfl) rfl fun K hK=>?_
  go_simp
  refine Cq (Zat 30 _) ?_
  dsimp only
  go_wp2
  exact⟨rfl,aa,m,G,.inr ⟨30,(by decide),rfl,fun h=>(by have h1:=h.2.2.2.1;omega)⟩⟩
 obtain⟨W2,C⟩:=ExY W1.drew
 have aa:=bhD J C
 have G:=bkD E C
 have aY:=bkD L C
 have N:=bkD ao C
 have a0:=bkD aZ C
 have aC:=boD aU C
 refine rgK (by kernel_rfl) C (CsA N 0 rfl (CsB G 1 rfl)) fun s=>?_
 clear C
 refine tkH [0,1,2,3,4,5,6,7,8,9,10] s (by kernel_rfl) (fun _ _ _ _ h=>h) ?_
 iterate 11 (refine ycH rfl (by rfl) (fun w h=>by simp only[Cs] at h;go_simp<;>rfl) ?_;try simp only[Act.put,sA,sB,sC])
 refine onH 11 (by kernel_rfl) rfl fun K hK=>?_
 go_simp
 refine Cq (ZaV 30 _) ?_
 dsimp only
 refine hK.out _ _ (⟨N.cell 0,G.cell 1⟩) (fun s=>?_)
 try simp only[Act.put,sA,sB,sC]
 refine wpAnyH_done (by kernel_rfl) ?_ _
 clear s
 obtain⟨q,rfl⟩:∃q:Nat,acct=(q:Int):=ZaW d1
 obtain⟨c,rfl⟩:∃q:Nat,al=(q:Int):=ZaW e1
 have hq:q<m.accts.length:=Int.ofNat_lt.mp d2
 have aN:(m.accts[q]).cash.length=m.curs.length:=(Zbr bh).cash _ (List.getElem_mem hq)
 have hc:c<(m.accts[q]).cash.length:=by rw[aN];exact Int.ofNat_lt.mp e2
 obtain⟨g,g1,hA,a4,c1,c2,f2,bb,bj,ax⟩:=ZgB aC hq hc
 have aA:m.accts.getD q default=m.accts[q]:=by simp[hq]
 obtain⟨cc,a9⟩:=ExY ((m.accts[q]).c)
 obtain⟨y,hy⟩:=ExY ((m.accts[q]).cash.getD c 0)
 rw[aN,←a9] at c1
 rw[←hy] at c2
 have HQ:=Hi hq
 have bg:Hid (c<(m.accts[q]'HQ.out).cash.length):=hc
 have HA:=Hi hA
 have be:Hid ((m.accts[q]'HQ.out).A=some (Aq g1 0)):=a4
 have HY:Hid (y=(m.accts.getD q default).cash.getD c 0):=by show y=_;rw[aA];exact hy
 have ay:=Hi bb
 have R:Hid (∀U,Bw W2 U→U.cell? (Aq g (q*4+1))=some (.slice (some (Aq g1 0)) m.curs.length cc)∧U.cell? (Aq g1 c)=some (I y)∧∃cs,Bk U g1 3 cs):=fun U hU=>
  ⟨(hU.cell (World.block_lt_of_cell? _ _ c1)).trans c1,(hU.cell (World.block_lt_of_cell? _ _ c2)).trans c2,bj,ax.below hU ax.lt⟩
 clear aN hq hc hA a4 ax bb a9 hy aA c1 c2 f2
 have aX:Hid (Bw W2 W2):=Below.refl _ _
 go_upto_region 3 with(fail)
 obtain⟨⟨x,ex⟩,hx⟩:∃p,p=ZfM y amount:=⟨_,rfl⟩
 have aO:=Hi (fun W=>Zc1 y amount W)
 rw[←hx] at aO
 have HX:=Hi hx
 clear hx
 obtain⟨W3,X⟩:=ExY W2.drew
 have ab:=blD aX X
 have aB:=bhD aa X
 have ag:=bkD G X
 have an:Hid (Bk W3 ba 3 #[I q]):=bkD aY X
 have ap:Hid (Bk W3 bc 3 #[I c]):=bkD N X
 have aq:=bkD a0 X
 have aV:=boD aC X
 refine rgH (S:=(fun U=>U.cell? (Aq pl 4)=some (.slice (some (Aq g 0)) m.accts.length m.sAcc.c)∧U.cell? (Aq ba 0)=some (I q)∧U.cell? (Aq g (q*4+1))=some (.slice (some (Aq g1 0)) m.curs.length cc)∧U.cell? (Aq bc 0)=some (I c)∧U.cell? (Aq g1 c)=some (I y)∧U.cell? (Aq bm 0)=some (I amount))) (by kernel_rfl) X ⟨HA.out▸ag.out.cell 4,an.out.cell 0,(R.out _ ab.out).1,ap.out.cell 0,(R.out _ ab.out).2.1,aq.out.cell 0⟩ fun s=>?_
 clear X
 refine tkH [0,1,2,3,4,5,6,7,8,9,10,11] s (by kernel_rfl) (fun _ _ _ _ h=>h) ?_
 iterate 12 (refine ycH rfl (by rfl) (fun w h=>by go_simp<;>rfl) ?_;try simp only[Act.put,sA,sB,sC])
 refine onH 12 (by kernel_rfl) rfl fun K hK=>?_
 go_simp
 refine Cq (aO.out _) ?_
 dsimp only
 refine hK.out _ _ (⟨HA.out▸ag.out.cell 4,an.out.cell 0,(R.out _ ab.out).1,ap.out.cell 0,(R.out _ ab.out).2.1,aq.out.cell 0⟩) (fun s=>?_)
 try simp only[Act.put,sA,sB,sC]
 refine tkH [13,14,15,16,17] s (by kernel_rfl) (fun _ _ _ _ h=>h) ?_
 iterate 5 (refine ycH rfl (by rfl) (fun w h=>by go_simp<;>rfl) ?_;try simp only[Act.put,sA,sB,sC])
 refine wpAnyH_done (by kernel_rfl) ?_ _
 clear s
 by_cases az:ex=0
 rotate_left
 ·have bi:Hid (¬Zdv m (q:Int) (c:Int) amount):=fun h=>by
   have h2:=h.2.2.2.2
   rw[Int.toNat_natCast,Int.toNat_natCast,←HY.out,←HX.out] at h2
   exact az h2
  go_wp2_with fail
  refine Cq (ZcJ ex az _) ?_
  dsimp only
  go_wp2
  exact⟨rfl,aB,m,ag,.inr ⟨ex,az,rfl,bi⟩⟩
 subst az
 go_wp2_with fail
 refine Cq (Zda _) ?_
 dsimp only
 go_upto_region 5 with(fail)
 obtain⟨W4,Y⟩:=ExY W3.drew
 have ac:=blD ab Y
 have aP:=bhD aB Y
 have au:=bkD ag Y
 have aE:=bkD an Y
 have aH:=bkD ap Y
 have a1:=bkD aq Y
 have aD:=boD aV Y
 refine rgH (S:=(fun U=>U.cell? (Aq pl 4)=some (.slice (some (Aq g 0)) m.accts.length m.sAcc.c)∧U.cell? (Aq ba 0)=some (I q)∧U.cell? (Aq g (q*4+1))=some (.slice (some (Aq g1 0)) m.curs.length cc)∧U.cell? (Aq bc 0)=some (I c))) (by kernel_rfl) Y ⟨HA.out▸au.out.cell 4,aE.out.cell 0,(R.out _ ac.out).1,aH.out.cell 0⟩ fun s=>?_
 clear Y
 have k1:W4.cell? (Aq g1 c)=some (I y):=(R.out _ ac).2.1
 have k2:W4.frozen? (Aq g1 c)=false:=by
  obtain⟨a3,ad⟩:=(R.out _ ac).2.2
  exact ad.frozen c
 have aS:Hid (∃cs,Bk W4 g1 3 cs):=(R.out _ ac).2.2
 have aR:Hid (W4.cell? (Aq g (q*4+1))=some (.slice (some (Aq g1 0)) m.curs.length cc)):=(R.out _ ac).1
 refine tkH [0,1,2,3,4,5,6,7,8,9,10] s (by kernel_rfl) (fun _ _ _ _ h=>h) ?_
 iterate 11 (refine ycH rfl (by rfl) (fun w h=>by go_simp<;>rfl) ?_;try simp only[Act.put,sA,sB,sC])
 refine onH 11 (by kernel_rfl) rfl fun K hK=>?_
 go_simp
 obtain⟨a3,ad⟩:=aS.out
 obtain⟨W5,Z⟩:=ExY (W4.setCell ⟨g1,c,none⟩ (I x))
 rw[←Z]
 have bf:Hid (W5.cell? ⟨g,q*4+1,none⟩=some (.slice (some ⟨g1,0,none⟩) m.curs.length cc)):=by rw[Z];exact(World.cell?_setCell_far W4 ⟨g1,c,none⟩ ⟨g,q*4+1,none⟩ _ (fun e=>(by obtain⟨bl,_,_,a5⟩:=ZaK aD.accts HA.out;exact a5.ne ad (by decide) e.symm))).trans aR
 have aQ:=bhS aP Z ay
 have aw:Hid (Bk W5 pl 37 m.ar):=by rw[Z];exact au.far (p:=Aq g1 c) (au.ne ad (by decide)) _
 have aF:Hid (Bk W5 ba 3 #[I q]):=by rw[Z];exact aE.far (p:=Aq g1 c) (Nat.ne_of_lt (Nat.lt_of_lt_of_le aK ay)) _
 have aI:Hid (Bk W5 bc 3 #[I c]):=by rw[Z];exact aH.far (p:=Aq g1 c) (Nat.ne_of_lt (Nat.lt_of_lt_of_le aL ay)) _
 have a2:Hid (Bk W5 bm 3 #[I amount]):=by rw[Z];exact a1.far (p:=Aq g1 c) (Nat.ne_of_lt (Nat.lt_of_lt_of_le aM ay)) _
 have aW:Hid (Zaa W5 B {m with accts:=m.accts.set q {m.accts[q]'HQ.out with cash:=(m.accts[q]'HQ.out).cash.set c x}}):=by rw[Z];exact Zaa.setCash aD HQ be bg
 clear ad a3 Z
 refine hK.out _ _ (⟨HA.out▸aw.out.cell 4,aF.out.cell 0,bf.out,aI.out.cell 0⟩) (fun s=>?_)
 try simp only[Act.put,sA,sB,sC]
 refine wpAnyH_done (by kernel_rfl) ?_ _
 clear s
 clear k1 k2
 have ak:=aw.nine
 have ah:=aF.one
 have ai:=aI.one
 have aj:=a2.one
 go_wp2
 go_ret
 refine⟨aQ,{m with accts:=m.accts.set q {m.accts[q]'HQ.out with cash:=(m.accts[q]'HQ.out).cash.set c x}},?_,.inl ⟨_,rfl,aW,Zax.same rfl rfl (Ziq HQ rfl),?_⟩⟩
 ·have e:Zab.cs {m with accts:=m.accts.set q {m.accts[q]'HQ.out with cash:=(m.accts[q]'HQ.out).cash.set c x}}=m.cs:=by unfold Zab.cs;dsimp only;rw[List.length_set]
  rw[e]
  exact aw
 ·have aA:m.accts.getD q default=m.accts[q]'HQ.out:=by have:=HQ.out;simp[this]
  rw[Int.toNat_natCast,Int.toNat_natCast,←HY.out,←HX.out,aA]
  rfl
theorem ZkN(m:Zab)(acct z s:Int)(w:World)(hm:Zay w w.heap.size m)(au:Gl w):
 Calls prog 31 #[m.val,I acct,I z,I s] w (Zar (Zaj m (fun m1 m2 _=>ZbP acct z s m1 m2)) (Zas m (fun m1 m2 _=>ZbP acct z s m1 m2) (fun m1=>¬Zdv m1 acct z s)) w):=by
 show Calls prog 31 #[.agg m.ar,I acct,I z,I s] w (Zar (Zaj m (fun m1 m2 _=>ZbP acct z s m1 m2)) (Zas m (fun m1 m2 _=>ZbP acct z s m1 m2) (fun m1=>¬Zdv m1 acct z s)) w)
 obtain⟨W1,Y⟩:=ExY (w.alloc (.cells m.ar 37))
 obtain⟨bl,ad⟩:=ExY w.heap.size
 have aw:=blB Y
 have aB:=bkW Y ad
 obtain⟨W2,U⟩:=ExY (W1.alloc (.cells #[I acct] 3))
 obtain⟨ba,ac⟩:=ExY W1.heap.size
 have ax:=blA aw U
 have aC:=bkA aB U
 have af:=bkW U ac
 have ak:ba=bl+1:=by rw[ac,Y,World.size_alloc,←ad]
 obtain⟨W3,J⟩:=ExY (W2.alloc (.cells #[I z] 3))
 obtain⟨bc,Z⟩:=ExY W2.heap.size
 have aG:Hid (bc≠ba):=by
  have h:=af.lt
  show bc≠ba
  rw[Z]
  exact Ne.symm (Nat.ne_of_lt h)
 have ay:=blA ax J
 have aD:=bkA aC J
 have ag:=bkA af J
 have ah:=bkW J Z
 have al:bc=ba+1:=by rw[Z,U,World.size_alloc,←ac]
 obtain⟨W4,E⟩:=ExY (W3.alloc (.cells #[I s] 3))
 obtain⟨bm,X⟩:=ExY W3.heap.size
 have aH:Hid (bm≠ba):=by
  have h:=ag.lt
  show bm≠ba
  rw[X]
  exact Ne.symm (Nat.ne_of_lt h)
 have aI:Hid (bm≠bc):=by
  have h:=ah.lt
  show bm≠bc
  rw[X]
  exact Ne.symm (Nat.ne_of_lt h)
 have ae:=blA ay E
 have ai:=bkA aD E
 have az:=bkA ag E
 have aA:=bkA ah E
 have aF:=bkW E X
 have am:bm=bc+1:=by rw[X,J,World.size_alloc,←Z]
 obtain⟨W5,G⟩:=ExY (W4.alloc (.cells zZ 37))
 obtain⟨bz,aa⟩:=ExY W4.heap.size
 have aJ:Hid (bz≠bl):=by
  have h:=ai.lt
  show bz≠bl
  rw[aa]
  exact Ne.symm (Nat.ne_of_lt h)
 have ap:=blZ ae aa
 have C:=blA ae G
 have aE:=bkA ai G
 have L:=bkA az G
 have N:=bkA aA G
 have R:=bkA aF G
 have aj:=bkW G aa
 have an:bz=bm+1:=by rw[aa,E,World.size_alloc,←X]
 have HT:Hid (Calls prog 60 #[.agg m.ar,.func (.func 66) #[] #[Pt ba,Pt bc,Pt bm]] W5 (Zar (Zaj m (fun m1 m2 _=>ZbP acct z s m1 m2)) (Zas m (fun m1 m2 _=>ZbP acct z s m1 m2) (fun m1=>¬Zdv m1 acct z s)) W5)):=Hi (ZbQ 66 #[Pt ba,Pt bc,Pt bm] m (fun m1 m2 _=>ZbP acct z s m1 m2) (fun m1=>¬Zdv m1 acct z s) W5 ((hm.below C).mono C.size) (au.below C au.lt) (fun pl W=>by kernel_rfl) (by
  intro m1 B pl W hp
  exact Zjz m1 acct z s B pl ba bc bm W hp.size hp.bk hp.own hp.good (L.below hp.below L.lt) (N.below hp.below N.lt) (R.below hp.below R.lt) (Nat.lt_of_lt_of_le L.lt hp.base) (Nat.lt_of_lt_of_le N.lt hp.base) (Nat.lt_of_lt_of_le R.lt hp.base)))
 clear hm au
 go_enter func31,ntmps31
 go_upto_region 1 with(fail)
 rw[←Y,←ad,←U,←ak,←J,←al,←E,←am,←G,←an]
 clear Y ad ak U ac al J Z am E X an G aa
 have aM:=aE.nine
 have aK:=L.one
 have aL:=N.one
 have aN:=R.one
 have aO:=aj.nine
 go_wp2_with fail
 refine HT.mono ?_
 rintro e W9 ⟨hb,m2,n,er,rfl,hc⟩
 have HC:=Hi hc
 have aP:=blT C hb
 have aQ:=Hi C.size
 have aq:=bkN aj hb
 clear hb hc aM aK aL aN aO
 have ao:m2.val=.agg m2.ar:=rfl
 rw[ao]
 clear ao
 dsimp only
 go_wp2_with (refine wpList_store_row rfl 37 _ _ rfl bz m2.ar rfl rfl 37 zZ aq ZaU (by rfl) (by simp[Value.oneCell']) ?_)
 obtain⟨V9,ab⟩:=ExY (W9.setRow bz m2.ar)
 rw[←ab]
 have aT:=bkr aq ab
 have aR:=blr aP ab ap
 have aS:(er=0∧Zaa V9 w.heap.size m2∧(Zaj m (fun m1 m2 _=>ZbP acct z s m1 m2)) m2 n)∨(er≠0∧m2=Za4∧n=0∧(Zas m (fun m1 m2 _=>ZbP acct z s m1 m2) (fun m1=>¬Zdv m1 acct z s))):=by
  rcases HC.out with⟨h1,h2,h3⟩|h
  ·exact .inl ⟨h1,by rw[ab];exact(h2.mono aQ).rowFar aq (by decide) _,h3⟩
  ·exact .inr h
 exact bodyPost_ret (Zam (p:=8) (q:=9) (r:=10) results31 _ V9 bz 37 m2.ar (0,0) _ rfl aT underlying37 rfl ZaU) rfl ⟨aR,m2,n,er,rfl,aS⟩
end Go.Proofs.YtdefojlkofnloaaGreatDoor
