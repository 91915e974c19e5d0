/- A part of the proof of CoreOnce: for every input, no condition. -/
import Derived.Test.YtdefojlkofnloaaGreatDoorZb31
set_option maxRecDepth 100000
set_option maxHeartbeats 8000000
set_option linter.unusedVariables false
set_option linter.unusedSimpArgs false
namespace Go.Proofs.YtdefojlkofnloaaGreatDoor
open Go.RowKit Go.Proofs.Tryz
def Zid(T:Nat)(e:Ending):Prop:=(∃x:Int,e=.returned (I x))∨(∃er:Int,er≠0∧e=Pan T er)
theorem Zid.yes{T:Nat}{x:Int}:Zid T (.returned (I x)):=.inl ⟨x,rfl⟩
theorem Zid.no{T:Nat}{er:Int}(h:er≠0):Zid T (.panicked [{v:=.iface T (.agg #[I er]),recovered:=false}]):=.inr ⟨er,h,rfl⟩
theorem ZcM(x er:Int)(w:World):Calls prog 87 #[I x,I er] w fun e w'=>w'=w∧((er=0∧e=.returned (I x))∨(er≠0∧e=Pan 181 er)):=by
 by_cases h:er=0
 ·subst h
  exact(ZjZ x w).mono fun e w' h=>⟨h.2,.inl ⟨rfl,h.1⟩⟩
 ·exact(Zi0 x er h w).mono fun e w' h2=>⟨h2.2,.inr ⟨h,h2.1⟩⟩
theorem Zgv(m:Zab)(z k:Nat)(w:World)(N:Bk w z 130 m.ar)(R:Zay w w.heap.size m)(G:ZbT m)(L:k<m.instrs.length):
 Calls prog 96 #[Pt z,I k] w fun e w'=>(∃x:Int,e=.returned (I x))∧Bw w w':=by
 obtain⟨a,hA,_,c0,c1,c2,c3,c4,c5,c6⟩:=Zds R.instrs L
 have hu:=G.ins _ (List.getElem_mem L)
 obtain⟨un,J⟩:=ExY ((m.instrs[k]).under)
 rw[←J] at c1 hu
 obtain⟨q,rfl⟩:∃q:Nat,un=(q:Int):=ZaW hu.1
 have hq:q<m.unders.length:=Int.ofNat_lt.mp hu.2
 obtain⟨au,C,_,d0,d1,d2,d3⟩:=ZfE R.unders hq
 obtain⟨cu,E⟩:=ExY ((m.unders[q]).cur)
 rw[←E] at d1
 have k0:(0:Int)≤(k:Int):=Int.natCast_nonneg k
 have k1:(k:Int)<(m.instrs.length:Int):=Int.ofNat_lt.mpr L
 have q0:(0:Int)≤(q:Int):=Int.natCast_nonneg q
 have q1:(q:Int)<(m.unders.length:Int):=Int.ofNat_lt.mpr hq
 have y2:=Ct N 2 rfl
 have y3:=Ct N 3 rfl
 have HS:Hid ((fun U=>U.cell? (Aq z 2)=some (.slice (some au) m.unders.length m.sUnd.c)∧U.cell? (Aq z 3)=some (.slice (some a) m.instrs.length m.sIns.c)∧U.cell? ⟨(a.add (k*7)).block,(a.add (k*7)).off+1,none⟩=some (I q)∧U.cell? ⟨(au.add (q*4)).block,(au.add (q*4)).off+1,none⟩=some (I cu)) w):=⟨C▸y2,hA▸y3,c1,d1⟩
 clear c0 c1 c2 c3 c4 c5 c6 d0 d1 d2 d3 J E L hA C R N hu hq y2 y3 G
 go_enter func96,ntmps96
 go_upto_region 1 with(fail)
 refine wp_region_held_drew (S:=(fun U=>U.cell? (Aq z 2)=some (.slice (some au) m.unders.length m.sUnd.c)∧U.cell? (Aq z 3)=some (.slice (some a) m.instrs.length m.sIns.c)∧U.cell? ⟨(a.add (k*7)).block,(a.add (k*7)).off+1,none⟩=some (I q)∧U.cell? ⟨(au.add (q*4)).block,(au.add (q*4)).off+1,none⟩=some (I cu))) (by kernel_rfl) (HS.out) (fun s=>?_)
 refine tkH [0,1,2,3,4,5,6,7,8,9,10,11,12,13,14,15,16,17] s (by kernel_rfl) (fun _ _ _ _ h=>h) ?_
 iterate 18 (refine ycH rfl (by rfl) (fun w h=>by go_simp<;>rfl) ?_;try simp only[Act.put,sA,sB,sC])
 refine wpAnyH_done (by kernel_rfl) ?_ _
 clear s
 go_wp2
 go_ret
 exact⟨⟨_,rfl⟩,(Below.refl _ w).drew⟩
theorem Zd2(m:Zab)(Y k:Nat)(qty s:Int)(w:World)(Z:Bk w Y 130 m.ar)(hm:Zay w w.heap.size m)(X:k<m.instrs.length):
 Calls prog 97 #[Pt Y,I k,I qty,I s] w fun e w'=>Zid 181 e∧Bw w w':=by
 obtain⟨a,hA,_,c0,c1,c2,c3,c4,c5,c6⟩:=Zds hm.instrs X
 obtain⟨mult,U⟩:=ExY ((m.instrs[k]).mult)
 rw[←U] at c2
 clear c0 c1 c3 c4 c5 c6 U
 have k0:(0:Int)≤(k:Int):=Int.natCast_nonneg k
 have k1:(k:Int)<(m.instrs.length:Int):=Int.ofNat_lt.mpr X
 obtain⟨y0,y1,y2,y3,y4,y5,y6,y7,y8,z0,z1,z2,z3,z4,z5,z6,z7,z8,lz⟩:=Z.nine
 rw[hA] at y3
 clear X hA hm Z
 go_enter func97,ntmps97
 go_wp2_with fail
 obtain⟨W1,C⟩:=ExY (w.alloc (.cells #[I qty,I mult,I s] 3))
 have E:=blB C
 have L:Bk W1 w.heap.size 3 #[I qty,I mult,I s]:=by rw[C];exact Bk.new _ _ _
 rw[←C]
 clear C y0 y1 y2 y3 y4 y5 y6 y7 y8 z0 z1 z2 z3 z4 z5 z6 z7 z8 lz c2
 obtain⟨⟨J,er⟩,N⟩:∃p,p=Zes [qty,mult,s] 1:=⟨_,rfl⟩
 have G:=Hi (ZfD (some ⟨w.heap.size,0,none⟩) 3 3 [qty,mult,s] W1 (by omega) (Zhp (k:=1) (n:=3) (xs:=[I qty,I mult,I s]) L rfl))
 rw[←N] at G
 clear N L
 refine G.mono ?_
 rintro e w' ⟨rfl,z⟩
 rw[z]
 clear z w'
 dsimp only
 go_wp2_with fail
 refine(ZcM J er _).mono ?_
 rintro e w' ⟨z,⟨R,he⟩|⟨R,he⟩⟩
 ·subst he
  rw[z]
  clear z w'
  dsimp only
  go_wp2
  go_ret
  exact⟨Zid.yes,E⟩
 ·unfold Pan at he
  subst he
  rw[z]
  clear z w'
  dsimp only
  go_wp2
  exact⟨rfl,Zid.no R,E⟩
theorem Zf2(q G C:Int)(w:World):
 Calls prog 90 #[I q,I G,I C] w fun e w'=>Zid 181 e∧Bw w w':=by
 go_enter func90,ntmps90
 go_wp2_with fail
 refine(Zdk q G C 2 _).mono ?_
 rintro e w' ⟨rfl,mm,s⟩
 rw[s]
 clear s w'
 dsimp only
 obtain⟨⟨x,er⟩,hx⟩:∃p,p=Za3 q G C 2:=⟨_,rfl⟩
 rw[←hx]
 dsimp only
 have z:Hid (Bw w (w.drewN mm)):=Below.drewN' (Below.refl _ w) _
 obtain⟨W1,J⟩:=ExY (w.drewN mm)
 rw[←J] at z ⊢
 clear J hx
 go_wp2_with fail
 refine(ZcM x er _).mono ?_
 rintro e w' ⟨s,⟨E,he⟩|⟨E,he⟩⟩
 rotate_left
 ·unfold Pan at he
  subst he
  rw[s]
  clear s w'
  dsimp only
  go_wp2
  exact⟨rfl,Zid.no E,z⟩
 subst he
 rw[s]
 clear s w' E
 dsimp only
 by_cases d:x≤1000000000
 ·go_wp2_with fail
  refine Cq (Za7 36 _) ?_
  dsimp only
  go_wp2
  go_ret
  exact⟨Zid.yes,z⟩
 ·go_wp2_with fail
  refine Cq (Zau 36 _) ?_
  dsimp only
  go_wp2
  exact⟨rfl,Zid.no (by decide),z⟩
theorem Zgw(z E J:Int)(N R:Nat)(w:World)(U:Bk w N 3 #[I E])(X:Bk w R 3 #[I J]):
 Calls prog 86 #[I z,Pt N,Pt R] w fun e w'=>Zid 181 e∧Bw w w':=by
 obtain⟨x0,z0,l0⟩:=U.one
 obtain⟨x1,z1,l1⟩:=X.one
 clear U X
 go_enter func86,ntmps86
 go_wp2_with fail
 refine(Zdk z E J 0 _).mono ?_
 rintro e w' ⟨rfl,mm,s⟩
 rw[s]
 clear s w'
 dsimp only
 obtain⟨⟨x,er⟩,hx⟩:∃p,p=Za3 z E J 0:=⟨_,rfl⟩
 rw[←hx]
 dsimp only
 have C:Hid (Bw w (w.drewN mm)):=Below.drewN' (Below.refl _ w) _
 obtain⟨W1,L⟩:=ExY (w.drewN mm)
 rw[←L] at C ⊢
 clear L hx x0 z0 l0 x1 z1 l1
 go_wp2_with fail
 refine(ZcM x er _).mono ?_
 rintro e w' ⟨s,⟨G,he⟩|⟨G,he⟩⟩
 rotate_left
 ·unfold Pan at he
  subst he
  rw[s]
  clear s w'
  dsimp only
  go_wp2
  exact⟨rfl,Zid.no G,C⟩
 subst he
 rw[s]
 clear s w' G
 dsimp only
 go_wp2
 go_ret
 exact⟨Zid.yes,C⟩
theorem ZgC(m:Zab)(L:Nat)(ab s ac ad:Int)(w:World)(hb:Bk w L 130 m.ar)(hm:Zay w w.heap.size m):
 Calls prog 95 #[Pt L,I ab,I s,I ac,I ad] w fun e w'=>ZaC w.heap.size L w w' ∧
  ((e=.returned (.tuple #[])∧∃m2,Bk w' L 130 (Zab.cs m2).toArray∧Zbi m m2∧Zaa w' w.heap.size m2)∨(∃er:Int,er≠0∧e=Pan 181 er∧Bk w' L 130 m.cs.toArray)):=by
 have an:Hid (Calls prog 59 #[.agg m.ar,I ab,I s,I ac,I ad] w (Zgc m w)):=Zka m ab s ac ad w hm
 obtain⟨B,hB⟩:=ExY w.heap.size
 have ae:Hid (B≤w.heap.size):=by rw[hB];exact Nat.le_refl _
 have af:=Hi hB
 have U:=Hi hb
 clear hB hb hm
 have ag:Hid (ZaC B L w w):=ZaC.refl _ _ _
 go_enter func95,ntmps95
 have C:=U.nine
 go_wp2_with fail
 refine(an.out).mono ?_
 rintro e W1 ⟨hb,m2,er,he,hc⟩
 have ah:=bhU ag ae hb
 have X:=bkN U hb
 clear C
 clear hb
 have C:=X.nine
 have Y:m2.val=.agg m2.ar:=rfl
 rw[Y] at he
 clear Y
 subst he
 have HC:=Hi hc
 clear hc
 dsimp only
 obtain⟨W2,E⟩:=ExY (W1.alloc (.cells m2.ar 37))
 obtain⟨ap,J⟩:=ExY W1.heap.size
 have R:=bhA ah ae E
 have z:=bkA X E
 have Z:=bkW E J
 have al:Hid (Bw W1 W2):=by rw[E];exact(Below.refl _ _).alloc (Nat.le_refl _) _
 go_upto_region 1 with(fail)
 rw[←E,←J]
 clear E J
 clear C
 by_cases N:er=0
 rotate_left
 ·go_wp2_with fail
  refine Cq (ZeF er N _) ?_
  dsimp only
  go_wp2
  exact⟨rfl,af.out▸R.out,.inr ⟨er,N,rfl,z.out⟩⟩
 have hc:Zbi m m2∧Zaa W1 w.heap.size m2:=by
  rcases HC.out with⟨_,h1,h2⟩|h
  ·exact⟨h1,h2⟩
  ·exact absurd N h
 subst N
 have ao:=Hi hc.1
 have aj:Hid (Zaa W2 w.heap.size m2):=hc.2.below al
 clear hc
 go_wp2_with fail
 refine Cq (Zfw _) ?_
 dsimp only
 have C:=z.nine
 have aa:=Z.nine
 go_wp2_with (refine wpList_store_row rfl 37 _ _ rfl L m2.ar rfl rfl 130 m.ar z ZaU (by rfl) (by simp[Value.oneCell']) ?_)
 clear C aa
 obtain⟨W3,G⟩:=ExY (W2.setRow L m2.ar)
 rw[←G]
 have ai:Hid (ZaC B L w W3):=by rw[G];exact R.row_in
 have am:Hid (Bk W3 L 130 m2.ar):=by rw[G];exact z.row _
 have ak:=boR aj G z (by decide)
 clear G
 go_end0
 exact⟨af.out▸ai.out,.inl ⟨rfl,m2,am.out,ao.out,ak.out⟩⟩
theorem ZaC.weak{B B' h:Nat}{w w':World}(a:ZaC B h w w')(z:B'≤B):ZaC B' h w w':=⟨a.os,a.tape,a.output,a.size,fun k hk s=>a.block k (by omega) s⟩
theorem Zer{w w':World}{base e k n c C t:Nat}{A:Option Addr}{xs:List Value}{cs:Array Value}(h:w.ownsRow base e k (.slice A n c) n xs)(E:Bk w C t cs)(z:t≠e)(G:ZaC w.heap.size C w w'):w'.ownsRow base e k (.slice A n c) n xs:=
 ZaF h fun p hp=>G.block p.block (ZaP h p hp).2 (fun he=>by
  obtain⟨_,_,_,s⟩:=ZaK h hp
  exact s.ne E (Ne.symm z) he)
theorem Zi5{w:World}{base e k n c g:Nat}{xs:List Value}(h:w.ownsRow base e k (.slice (some (Aq g 0)) n c) n xs)(i:Nat)(hi:n*k≤i)(u:Value):
 (w.setCell (Aq g i) u).ownsRow base e k (.slice (some (Aq g 0)) n c) n xs:=by
 refine⟨h.1,?_⟩
 rcases h.2 with⟨hv,h0⟩|⟨g',s,z,hv,hg,hh,h1,h2,h3,h4⟩
 ·injection hv with a1;cases a1
 ·injection hv with a1 a2 a3
  injection a1 with a1
  injection a1 with a1
  subst a1
  have hB:Bk w g e z:=hh
  refine .inr ⟨g,s,_,by rw[a3],hg,hB.set i u,h1,h2,by simp[h3],?_⟩
  rw[Array.toList_setIfInBounds,List.take_set,List.set_eq_of_length_le]
  ·exact h4
  ·rw[List.length_take];omega
structure Zdg(B:Nat)(w w':World):Prop where
 rows:∀(A:Option Addr) (n c:Nat) (l:List ZaD),l.length=n→w.ownsRow B 66 7 (.slice A n c) n (l.flatMap ZaD.cs)→∃l':List ZaD,l'.length=n∧w'.ownsRow B 66 7 (.slice A n c) n (l'.flatMap ZaD.cs)
 others:∀(g t:Nat) (cs:Array Value),t≠66→t≠130→Bk w g t cs→Bk w' g t cs
theorem Zdg.refl(B:Nat)(w:World):Zdg B w w:=⟨fun _ _ _ l h1 h2=>⟨l,h1,h2⟩,fun _ _ _ _ _ h=>h⟩
theorem Zdg.trans{B:Nat}{w w' w2:World}(a:Zdg B w w')(b:Zdg B w' w2):Zdg B w w2:=⟨fun A n c l h1 h2=>by
 obtain⟨l',h3,h4⟩:=a.rows A n c l h1 h2
 exact b.rows A n c l' h3 h4,fun g t cs h1 h2 h=>b.others g t cs h1 h2 (a.others g t cs h1 h2 h)⟩
theorem Zdg.hole{B s:Nat}{w w':World}{cs:Array Value}(z:Bk w s 130 cs)(C:ZaC w.heap.size s w w'):Zdg B w w':=
 ⟨fun _ _ _ l h1 h2=>⟨l,h1,Zer h2 z (by decide) C⟩,fun g t E _ h2 h=>(C.block g h.lt (h.ne z h2)).trans h⟩
theorem Zdg.mark{B g q:Nat}{w:World}{s:Array Value}(x:Int)(z:Bk w g 66 s):Zdg B w (w.setCell (Aq g (q*7+6)) (I x)):=by
 refine⟨?_,fun g' t cs h1 _ h=>h.far (p:=Aq g (q*7+6)) (h.ne z h1) _⟩
 intro A n c l h1 h2
 by_cases hA:∃p,A=some p∧p.block=g
 ·obtain⟨p,hp,E⟩:=hA
  obtain⟨_,he,_,_⟩:=ZaK h2 hp
  have C:A=some (Aq g 0):=by rw[hp,he,E]
  subst C
  by_cases hq:q<n
  ·have G:q<l.length:=by omega
   have e1:=ZbA h2 (q*7+6) (by omega) (I x)
   rw[ZcI Zft l q G 6 (by decide) _ {l[q] with mark:=x} rfl] at e1
   exact⟨_,by rw[List.length_set];exact h1,e1⟩
  ·exact⟨l,h1,Zi5 h2 _ (by omega) _⟩
 ·exact⟨l,h1,ZbV h2 fun p hp he=>hA ⟨p,hp,he⟩⟩
theorem Zht{m m2:Zab}(h:Zbi m m2)(s:ZbT m):ZbT m2:=by
 have hl:m2.accts.length=m.accts.length:=by have:=congrArg List.length h.accts;simpa using this
 refine⟨by rw[h.instrs,h.unders];exact s.ins,by rw[h.unders,h.curs];exact s.und,by rw[h.poss,h.instrs,hl];exact s.pos,by rw[h.orders,h.instrs,hl];exact s.ord,?_,by rw[h.curs,h.unders,h.instrs,hl,h.poss,h.orders];exact s.lens⟩
 intro a ha
 have h1:a.q∈m.accts.map ZaA.q:=by rw[←h.accts];exact List.mem_map_of_mem ha
 obtain⟨b,hb,he⟩:=List.mem_map.1 h1
 have h2:=s.cash b hb
 have h3:=congrArg (fun p:Int×Nat×Bool×Int=>p.2.1) he
 simp only[ZaA.q] at h3
 rw[h.curs,←h3];exact h2
structure Zd4(m m':Zab):Prop where
 poss:m'.poss=m.poss
 orders:m'.orders=m.orders
 last:m'.accts.map ZaA.last=m.accts.map ZaA.last
 seen:ZbT m'
 ilen:m'.instrs.length=m.instrs.length
 ulen:m'.unders.length=m.unders.length
theorem Zd4.refl{m:Zab}(s:ZbT m):Zd4 m m:=⟨rfl,rfl,rfl,s,rfl,rfl⟩
theorem Zd4.trans{a b c:Zab}(h:Zd4 a b)(k:Zd4 b c):Zd4 a c:=⟨k.poss.trans h.poss,k.orders.trans h.orders,k.last.trans h.last,k.seen,k.ilen.trans h.ilen,k.ulen.trans h.ulen⟩
theorem Zbi.last{m s:Zab}(h:Zbi m s):s.accts.map ZaA.last=m.accts.map ZaA.last:=by
 have h1:=congrArg (List.map fun p:Int×Nat×Bool×Int=>p.2.2.2) h.accts
 rw[List.map_map,List.map_map] at h1
 exact h1
theorem Zbi.life{m m2:Zab}(h:Zbi m m2)(s:ZbT m):Zd4 m m2:=⟨h.poss,h.orders,h.last,Zht h s,by rw[h.instrs],by rw[h.unders]⟩
theorem Zj0{m:Zab}{k:Nat}(z:k<m.instrs.length)(x:Int)(s:ZbT m):Zd4 m {m with instrs:=m.instrs.set k {m.instrs[k] with mark:=x}}:=by
 have hl:(m.instrs.set k {m.instrs[k] with mark:=x}).length=m.instrs.length:=List.length_set ..
 refine⟨rfl,rfl,rfl,⟨?_,s.und,by dsimp only;rw[hl];exact s.pos,by dsimp only;rw[hl];exact s.ord,s.cash,by dsimp only;rw[hl];exact s.lens⟩,hl,rfl⟩
 intro i hi
 rcases List.mem_or_eq_of_mem_set hi with h|h
 ·exact s.ins i h
 ·subst h
  have h2:=s.ins m.instrs[k] (List.getElem_mem z)
  exact h2
theorem ZdI{w:World}{base:Nat}{m:Zab}(h:Zaa w base m){g q:Nat}(C:m.sIns.A=some (Aq g 0))(E:q<m.instrs.length):w.cell? (Aq g (q*7))=some (I (m.instrs[q]).kind)∧w.cell? (Aq g (q*7+1))=some (I (m.instrs[q]).under)∧w.cell? (Aq g (q*7+2))=some (I (m.instrs[q]).mult)∧w.cell? (Aq g (q*7+3))=some (I (m.instrs[q]).strike) ∧
 w.cell? (Aq g (q*7+4))=some (I (m.instrs[q]).expiry)∧w.cell? (Aq g (q*7+5))=some (.bool (m.instrs[q]).call)∧w.cell? (Aq g (q*7+6))=some (I (m.instrs[q]).mark)∧(∀j,w.frozen? (Aq g j)=false)∧g<w.heap.size∧base≤g∧∃cs,Bk w g 66 cs:=by
 have c:=fun j (hj:j<7)=>(Zbh (C▸h.instrs) (q*7+j) (by omega)).1.trans (Zb3 Zft m.instrs q E j hj)
 obtain⟨cs,_,hB,z⟩:=ZaK h.instrs C
 have s:Bk w g 66 cs:=z
 exact⟨c 0 (by decide),c 1 (by decide),c 2 (by decide),c 3 (by decide),c 4 (by decide),c 5 (by decide),c 6 (by decide),fun j=>s.frozen j,s.lt,hB,cs,s⟩
theorem Zhn{w:World}{base n c:Nat}{A:Option Addr}{l:List P.Lc}(h:w.ownsRow base 50 3 (.slice A n c) n (P.lcs l))(C:l.length=n){k:Nat}(z:k<l.length):∃g,A=some (Aq g 0)∧w.cell? (Aq g (k*3))=some (I (l[k]).acct)∧w.cell? (Aq g (k*3+1))=some (I (l[k]).instr)∧w.cell? (Aq g (k*3+2))=some (I (l[k]).qty):=by
 obtain⟨g,hg,_,_,_⟩:=Zbb h (by omega)
 have s:∀x:P.Lc,x.cells.length=3:=fun _=>rfl
 have c:=fun j (hj:j<3)=>(Zbh (hg▸h) (k*3+j) (by omega)).1.trans (Zb3 (f:=P.Lc.cells) s l k z j hj)
 exact⟨g,hg,c 0 (by decide),c 1 (by decide),c 2 (by decide)⟩
theorem Zje(m:Zab)(bx k BB:Nat)(w:World)(bA:BB≤w.heap.size)(hb:Bk w bx 130 m.ar)(ho:Zaa w BB m)(aj:ZbT m)(hk:k<m.instrs.length):
 Calls prog 100 #[Pt bx,I k] w fun e w'=>ZaC BB bx w w'∧Zdg BB w w'∧∃m2:Zab,Bk w' bx 130 m2.cs.toArray∧((e=.returned (.tuple #[])∧Zaa w' BB m2∧Zd4 m m2)∨(∃er:Int,er≠0∧e=Pan 181 er)):=by
 obtain⟨B,hB⟩:=ExY w.heap.size
 have ba:Hid (B≤w.heap.size):=by rw[hB];exact Nat.le_refl _
 have bc:Hid (BB≤B):=by rw[hB];exact bA
 have bJ:=Hi bA
 have bb:=Hi hB
 have ab:=Hi hb
 have aw:=Hi ho
 have bu:=Hi ho
 have aC:=Hi aj
 have HK:=Hi hk
 clear hB bA hb ho aj hk
 have bK:Hid (ZaC B bx w w):=ZaC.refl _ _ _
 go_enter func100,ntmps100
 have hu:=aC.ins _ (List.getElem_mem HK.out)
 obtain⟨g,hA,-,-,-⟩:=Zbb aw.instrs (Nat.lt_of_le_of_lt (Nat.zero_le _) HK.out)
 obtain⟨c0,c1,c2,c3,c4,c5,c6,-,-,-,-⟩:=ZdI aw.out hA HK.out
 obtain⟨⟨G,un,J,z,s,ai,mark⟩,hi⟩:∃i,i=m.instrs[k]'HK.out:=⟨_,rfl⟩
 rw[←hi] at hu c0 c1 c2 c3 c4 c5 c6
 dsimp only at hu c0 c1 c2 c3 c4 c5 c6
 obtain⟨q,rfl⟩:∃q:Nat,un=(q:Int):=ZaW hu.1
 have hq:q<m.unders.length:=Int.ofNat_lt.mp hu.2
 have aj:=aC.und _ (List.getElem_mem hq)
 have b9:m.unders.getD q default=m.unders[q]:=by simp[hq]
 obtain⟨gu,bz,-,-,-⟩:=Zbb aw.unders (Nat.lt_of_le_of_lt (Nat.zero_le _) hq)
 have hy:=ZdJ aw.out bz hq
 rw[←b9] at aj
 obtain⟨⟨nm,cu,pr,vo⟩,cc⟩:∃u,u=m.unders.getD q default:=⟨_,rfl⟩
 rw[←cc] at hy aj
 obtain⟨y0,y1,y2,y3,-,y5,-⟩:=hy
 have HY:Hid (∀U,Bw w U→U.cell? (Aq gu (q*4))=some (.string nm)∧U.cell? (Aq gu (q*4+1))=some (I cu)∧U.cell? (Aq gu (q*4+2))=some (I pr)∧U.cell? (Aq gu (q*4+3))=some (I vo)):=fun U hU=>
  ⟨(hU.cell y5).trans y0,(hU.cell (p:=Aq gu (q*4+1)) y5).trans y1,(hU.cell (p:=Aq gu (q*4+2)) y5).trans y2,(hU.cell (p:=Aq gu (q*4+3)) y5).trans y3⟩
 have bt:=Hi bz
 have HA:=Hi hA
 have k0:(0:Int)≤(k:Int):=Int.natCast_nonneg k
 have k1:(k:Int)<(m.instrs.length:Int):=Int.ofNat_lt.mpr HK
 have bS:Hid ((0≤pr∧pr≤1000000000000)∧(0≤vo∧vo≤50000)):=⟨⟨aj.2.2.1,aj.2.2.2.1⟩,⟨aj.2.2.2.2.1,aj.2.2.2.2.2⟩⟩
 have q0:(0:Int)≤(q:Int):=Int.natCast_nonneg q
 have q1:(q:Int)<(m.unders.length:Int):=Int.ofNat_lt.mpr hq
 have Q0:=Hi q0
 have Q1:=Hi q1
 clear hu hq aj b9 bz cc y0 y1 y2 y3 y5 hi hA q0 q1
 obtain⟨aU,aV,aW,al,aX,az,aY,aZ,a0,a1,a2,a3,a4,a5,a6,a7,a8,a9,bo⟩:=ab.nine
 rw[HA.out] at al
 have bU:Hid (Bw w w):=Below.refl _ _
 obtain⟨W1,aD⟩:=ExY (w.alloc (.cells #[I G,I q,I J,I z,I s,.bool ai,I mark] 66))
 obtain⟨b4,bB⟩:=ExY w.heap.size
 have bV:=blA bU aD
 have bL:=bhA bK ba aD
 have bX:=bkA ab aD
 have bO:=boA aw aD
 have bW:=bkW aD bB
 go_upto_region 1 with(fail)
 rw[←aD,←bB]
 clear aD bB
 clear c0 c1 c2 c3 c4 c5 c6
 clear aU aV aW al aX az aY aZ a0 a1 a2 a3 a4 a5 a6 a7 a8 a9 bo
 obtain⟨⟨aG,er⟩,ca⟩:∃p,p=Zj3 ⟨G,(q:Int),J,z,s,ai,mark⟩ ⟨nm,cu,pr,vo⟩ m.day:=⟨_,rfl⟩
 have bf:=fun W=>Zj4 ⟨G,(q:Int),J,z,s,ai,mark⟩ ⟨nm,cu,pr,vo⟩ m.day W bS.1 bS.2
 rw[←ca] at bf
 have bN:=Hi bf
 have q0:=Q0.out
 have q1:=Q1.out
 clear ca bf
 obtain⟨W2,aE⟩:=ExY W1.drew
 have ax:=blD bV aE
 have bM:=bhD bL aE
 have bd:=bkD bX aE
 have aa:=bkD bW aE
 have bP:=boD bO aE
 refine rgH (S:=(fun U=>U.cell? (Aq b4 0)=some (I G)∧U.cell? (Aq b4 1)=some (I q)∧U.cell? (Aq b4 2)=some (I J)∧U.cell? (Aq b4 3)=some (I z)∧U.cell? (Aq b4 4)=some (I s)∧U.cell? (Aq b4 5)=some (.bool ai)∧U.cell? (Aq b4 6)=some (I mark)∧U.cell? (Aq bx 2)=some (.slice (some (Aq gu 0)) m.unders.length m.sUnd.c)∧U.cell? (Aq gu (q*4))=some (.string nm)∧U.cell? (Aq gu (q*4+1))=some (I cu)∧U.cell? (Aq gu (q*4+2))=some (I pr)∧U.cell? (Aq gu (q*4+3))=some (I vo)∧U.cell? (Aq bx 0)=some (I m.day))) (by kernel_rfl) aE ⟨aa.out.cell 0,aa.out.cell 1,aa.out.cell 2,aa.out.cell 3,aa.out.cell 4,aa.out.cell 5,aa.out.cell 6,bt.out▸bd.out.cell 2,(HY.out _ ax.out).1,(HY.out _ ax.out).2.1,(HY.out _ ax.out).2.2.1,(HY.out _ ax.out).2.2.2,bd.out.cell 0⟩ fun C=>?_
 clear aE
 refine tkH [0,1,2,3,4,5,6,7,8,9,10,11,12,13,14] C (by kernel_rfl) (fun _ _ _ _ h=>h) ?_
 iterate 15 (refine ycH rfl (by rfl) (fun w h=>by go_simp<;>rfl) ?_;try simp only[Act.put,sA,sB,sC])
 refine onH 15 (by kernel_rfl) rfl fun K hK=>?_
 go_simp
 refine(bN.out _).mono ?_
 rintro e W3 ⟨rfl,hb⟩
 have Z:=blT ax hb
 have au:=bhU bM ba hb
 have ac:=bkN bd hb
 have E:=bkN aa hb
 have bQ:=boN bP hb
 clear hb
 dsimp only
 refine hK.out _ _ (⟨E.out.cell 0,E.out.cell 1,E.out.cell 2,E.out.cell 3,E.out.cell 4,E.out.cell 5,E.out.cell 6,bt.out▸ac.out.cell 2,(HY.out _ Z.out).1,(HY.out _ Z.out).2.1,(HY.out _ Z.out).2.2.1,(HY.out _ Z.out).2.2.2,ac.out.cell 0⟩) (fun C=>?_)
 try simp only[Act.put,sA,sB,sC]
 refine tkH [16,17] C (by kernel_rfl) (fun _ _ _ _ h=>h) ?_
 iterate 2 (refine ycH rfl (by rfl) (fun w h=>by go_simp<;>rfl) ?_;try simp only[Act.put,sA,sB,sC])
 refine onH 18 (by kernel_rfl) rfl fun K hK=>?_
 go_simp
 refine(ZcM aG er _).mono ?_
 rintro e w' ⟨bn,⟨aF,he⟩|⟨aF,he⟩⟩
 rotate_left
 ·unfold Pan at he
  subst he
  rw[bn]
  clear bn w'
  dsimp only
  go_wp2
  exact⟨rfl,au.out.weak bc.out,Zdg.hole ab.out (bb.out▸au.out),m,ac.out,.inr ⟨er,aF,rfl⟩⟩
 subst he
 rw[bn]
 clear bn w' aF
 dsimp only
 refine hK.out _ _ (⟨E.out.cell 0,E.out.cell 1,E.out.cell 2,E.out.cell 3,E.out.cell 4,E.out.cell 5,E.out.cell 6,bt.out▸ac.out.cell 2,(HY.out _ Z.out).1,(HY.out _ Z.out).2.1,(HY.out _ Z.out).2.2.1,(HY.out _ Z.out).2.2.2,ac.out.cell 0⟩) (fun C=>?_)
 try simp only[Act.put,sA,sB,sC]
 refine tkH [19] C (by kernel_rfl) (fun _ _ _ _ h=>h) ?_
 (refine ycH rfl (by rfl) (fun w h=>by go_simp<;>rfl) ?_;try simp only[Act.put,sA,sB,sC])
 refine wpAnyH_done (by kernel_rfl) ?_ _
 clear C
 by_cases d1:aG≤100000000000000
 rotate_left
 ·go_wp2_with fail
  refine Cq (Zau 4 _) ?_
  dsimp only
  go_wp2
  exact⟨rfl,au.out.weak bc.out,Zdg.hole ab.out (bb.out▸au.out),m,ac.out,.inr ⟨4,(by decide),rfl⟩⟩
 go_wp2_with fail
 refine Cq (Za7 4 _) ?_
 dsimp only
 obtain⟨aU,aV,aW,al,aX,az,aY,aZ,a0,a1,a2,a3,a4,a5,a6,a7,a8,a9,bo⟩:=ac.nine
 have aT:=E.seven
 obtain⟨pn,bG⟩:=ExY m.poss.length
 rw[←bG] at az
 have bR:=Hi bG
 clear bG
 go_upto_region 4 with(fail)
 have cg:Hid (ZaC B bx w W3∧Bk W3 bx 130 m.ar∧Zbi m m∧Zaa W3 BB m∧Bk W3 b4 66 #[I G,I q,I J,I z,I s,.bool ai,I mark]):=⟨au,ac,Zbi.refl m,bQ,E⟩
 clear aU aV aW al aX az aY aZ a0 a1 a2 a3 a4 a5 a6 a7 a8 a9 bo aT
 go_loopw [44] (fun bH wr=>∃(j:Nat) (m2:Zab),j≤pn∧bH=I (j:Int)∧Hid True∧Hid (ZaC B bx w wr∧Bk wr bx 130 m2.ar∧Zbi m m2∧Zaa wr BB m2∧Bk wr b4 66 #[I G,I q,I J,I z,I s,.bool ai,I mark])) (fun bH _=>pn-(intOf bH).toNat)
 case atStart=>exact⟨0,m,Nat.zero_le _,rfl,trivial,cg⟩
 case round=>
  obtain⟨j,m2,hj,rfl,_,HJ⟩:=hrel
  rename World=>V
  have ad:Hid (ZaC B bx w V):=HJ.1
  have ag:Hid (Bk V bx 130 m2.ar):=HJ.2.1
  have aB:Hid (Zbi m m2):=HJ.2.2.1
  have ae:Hid (Zaa V BB m2):=HJ.2.2.2.1
  have aL:Hid (Bk V b4 66 #[I G,I q,I J,I z,I s,.bool ai,I mark]):=HJ.2.2.2.2
  clear HJ
  by_cases bE:j<pn
  rotate_left
  ·have ay:k<m2.instrs.length:=by rw[aB.instrs];exact HK
   obtain⟨g2,bw,-,-,-⟩:=Zbb ae.instrs (Nat.lt_of_le_of_lt (Nat.zero_le _) ay)
   obtain⟨-,-,-,-,-,-,c6,f6,-,b8,bv,be⟩:=ZdI ae.out bw ay
   obtain⟨cn,br⟩:=ExY ((m2.instrs[k]).mark)
   rw[←br] at c6
   clear br
   have z6:=f6 (k*7+6)
   have bI:=Hi bw
   have aA:=Hi ay
   have cf:=Hi b8
   have ce:Hid (∃cs,Bk V g2 66 cs):=⟨bv,be⟩
   have k2:(k:Int)<(m2.instrs.length:Int):=Int.ofNat_lt.mpr ay
   obtain⟨aU,aV,aW,al,aX,az,aY,aZ,a0,a1,a2,a3,a4,a5,a6,a7,a8,a9,bo⟩:=ag.nine
   have aT:=aL.seven
   rw[bI.out] at al
   clear f6 bw b8 be bv ay
   go_wp2
   obtain⟨bv,be⟩:=ce.out
   obtain⟨W,hW⟩:=ExY (V.setCell ⟨g2,k*7+6,none⟩ (I aG))
   rw[←hW]
   have JO:Hid (Zaa W BB {m2 with instrs:=m2.instrs.set k {m2.instrs[k]'aA.out with mark:=aG}}):=by rw[hW];exact ae.setIns bI aA (j:=6) (by decide) rfl
   have JX:Hid (Bk W bx 130 m2.ar):=by rw[hW];exact ag.far (p:=Aq g2 (k*7+6)) (ag.ne be (by decide)) _
   have JH:Hid (ZaC BB bx w W):=by rw[hW];exact(ad.weak bc).set_up cf
   have JI:Hid (Zdg BB w W):=by rw[hW];exact Zdg.trans (Zdg.hole ab.out (bb.out▸ad.out)) (Zdg.mark aG be)
   clear hW
   go_end0
   refine⟨JH,JI,_,?_,.inl ⟨rfl,JO,(Zbi.life aB aC).trans (Zj0 aA aG (Zht aB aC))⟩⟩
   have e:Zab.cs {m2 with instrs:=m2.instrs.set k {m2.instrs[k]'aA.out with mark:=aG}}=m2.cs:=by unfold Zab.cs;dsimp only;rw[List.length_set]
   rw[e]
   exact JX
  have ch:=Hi bE
  have WK:Hid (wrap64 ((j:Int)+1)=(j:Int)+1):=ZaQ (by have h1:=aC.lens.2.2.2.2.1;have h2:=bR.out;omega)
  have RE:=Hi (fun(W:World) (m3:Zab) (h2:Hid (ZaC B bx w W∧Bk W bx 130 m3.ar∧Zbi m m3∧Zaa W BB m3∧Bk W b4 66 #[I G,I q,I J,I z,I s,.bool ai,I mark]))=>Zcn (R:=fun _ _=>Hid True) (S:=fun _ m3=>Hid (ZaC B bx w W∧Bk W bx 130 m3.ar∧Zbi m m3∧Zaa W BB m3∧Bk W b4 66 #[I G,I q,I J,I z,I s,.bool ai,I mark])) m3 ch.out WK.out trivial h2)
  have bD:j<m.poss.length:=by have:=bR.out;omega
  have bs:=Zer bu.out.poss ab.out (by decide) (bb.out▸ad.out)
  obtain⟨gp,b6,p0,p1,p2⟩:=Zhn bs rfl bD
  have bF:=aC.pos _ (List.getElem_mem bD)
  obtain⟨⟨pa,pi,pq⟩,hp⟩:∃p,p=m.poss[j]:=⟨_,rfl⟩
  rw[←hp] at p0 p1 p2 bF
  dsimp only at p0 p1 p2 bF
  have cd:=Hi b6
  have j0:(0:Int)≤(j:Int):=Int.natCast_nonneg j
  have j1:(j:Int)<(pn:Int):=Int.ofNat_lt.mpr bE
  clear bD bs hp b6 bE bF
  rw[cd.out]
  obtain⟨bq,L⟩:=ExY (V.alloc (.cells #[I pa,I pi,I pq] 50))
  obtain⟨b7,bC⟩:=ExY V.heap.size
  have aH:=bhA ad ba L
  have aq:=bkA ag L
  have an:=bkA aL L
  have aI:=boA ae L
  have aP:=bkW L bC
  go_upto_region 6 with(fail)
  rw[←L,←bC]
  clear L bC
  clear p0 p1 p2
  have b0:=aq.nine
  have aT:=an.seven
  have bZ:=aP.three
  by_cases d2:pi=(k:Int)
  rotate_left
  ·have bp:(pi==(k:Int))=false:=by simpa using d2
   go_wp2
   exact RE.out bq m2 ⟨aH,aq,aB,aI,an⟩
  have bp:(pi==(k:Int))=true:=by simpa using d2
  go_upto_region 7 with(fail)
  have ay:k<m2.instrs.length:=by rw[aB.instrs];exact HK
  have aA:=Hi ay
  have cj:=Hi (Zht aB.out aC.out)
  clear ay
  clear b0 aT bZ
  obtain⟨cl,N⟩:=ExY bq.drew
  have bg:=bhD aH N
  have aR:=bkD aq N
  have aM:=bkD an N
  have ao:=bkD aP N
  have aJ:=boD aI N
  refine rgK (by kernel_rfl) N (CsA ao 2 rfl (CsA aM 6 rfl (CsB ao 0 rfl))) fun C=>?_
  clear N
  refine tkH [0,1,2,4,5,6,7,8,9,10,11,13,14] C (by kernel_rfl) (fun _ _ _ _ h=>h) ?_
  iterate 13 (refine ycH rfl (by rfl) (fun w h=>by simp only[Cs] at h;go_simp<;>rfl) ?_;try simp only[Act.put,sA,sB,sC])
  refine onH 3 (by kernel_rfl) rfl fun K hK=>?_
  go_simp
  refine(Zgv m2 bx k _ aR aJ.rd cj aA).mono ?_
  rintro e cm ⟨⟨x,rfl⟩,hb⟩
  have bh:=bhU bg ba hb
  have aS:=bkN aR hb
  have aN:=bkN aM hb
  have ap:=bkN ao hb
  have aK:=boN aJ hb
  clear hb
  dsimp only
  refine hK.out _ _ (⟨ap.cell 2,aN.cell 6,ap.cell 0⟩) (fun C=>?_)
  try simp only[Act.put,sA,sB,sC]
  refine onH 12 (by kernel_rfl) rfl fun K hK=>?_
  go_simp
  refine(Zd2 m2 bx k _ _ _ aS aK.rd aA).mono ?_
  rintro e bY ⟨he,hb⟩
  have X:=bhU bh ba hb
  have ah:=bkN aS hb
  have af:=bkN aN hb
  have Y:=bkN ap hb
  have bi:=boN aK hb
  clear hb
  rcases he with⟨y,rfl⟩|⟨er,aF,he⟩
  rotate_left
  ·unfold Pan at he
   subst he
   dsimp only
   go_wp2
   exact⟨rfl,X.out.weak bc.out,Zdg.hole ab.out (bb.out▸X.out),m2,ah.out,.inr ⟨er,aF,rfl⟩⟩
  dsimp only
  refine hK.out _ _ (⟨Y.cell 2,af.cell 6,Y.cell 0⟩) (fun C=>?_)
  try simp only[Act.put,sA,sB,sC]
  refine onH 15 (by kernel_rfl) rfl fun K hK=>?_
  go_simp
  refine(ZgC m2 bx x y 0 pa _ ah bi.rd).mono ?_
  rintro e ak ⟨hh,he⟩
  have am:Hid (ZaC B bx w ak):=X.trans (hh.weak (Nat.le_trans ba X.size))
  have aO:Hid (Bk ak b4 66 #[I G,I q,I J,I z,I s,.bool ai,I mark]):=af.hole hh af.lt ((af.ne ah (by decide)))
  have aQ:Hid (Bk ak b7 50 #[I pa,I pi,I pq]):=Y.hole hh Y.lt ((Y.ne ah (by decide)))
  have ck:Hid (BB≤bY.heap.size):=Nat.le_trans bJ X.size
  rcases he with⟨he,m4,bl,cb,ho⟩|⟨er,aF,he,bl⟩
  rotate_left
  ·unfold Pan at he
   subst he
   dsimp only
   go_wp2
   exact⟨rfl,am.out.weak bc.out,Zdg.hole ab.out (bb.out▸am.out),m2,bl,.inr ⟨er,aF,rfl⟩⟩
  subst he
  have bj:Hid (Bk ak bx 130 m4.ar):=bl
  have bT:Hid (Zbi m m4):=aB.trans cb
  have ci:Hid (Zaa ak BB m4):=ho.mono ck
  clear hh bl cb ho
  dsimp only
  refine hK.out _ _ (⟨aQ.cell 2,aO.cell 6,aQ.cell 0⟩) (fun C=>?_)
  try simp only[Act.put,sA,sB,sC]
  refine wpAnyH_done (by kernel_rfl) ?_ _
  clear C
  go_wp2
  exact RE.out ak m4 ⟨am,bj,bT,ci,aO⟩
end Go.Proofs.YtdefojlkofnloaaGreatDoor
