/- A part of the proof of CoreOnce: for every input, no condition. -/
import Derived.Below
import Derived.Deep.AppendLies
import Derived.Deep.Draws
import Derived.Deep.RegionHeld
import Derived.Deep.RegionLaw
import Derived.Laws.OwnMore
import Derived.Maps.AppendAt
import Derived.OneCell
import Derived.OwnWalk
import Derived.RegionTactic
import Derived.WalkKit
import Derived.WalkLawsBesides
set_option maxRecDepth 100000
set_option maxHeartbeats 8000000
set_option linter.unusedVariables false
set_option linter.unusedSimpArgs false
namespace Go.Proofs.YtdefojlkofnloaaGreatDoor
open Go.RowKit
section
def Rd (w:World) (B k:Nat) (A:Option Addr) (n:Nat) (xs:List Value):Prop:=
 xs.length=n*k∧(0<n→∃a,A=some a∧a.block<B∧∀j u,xs[j]?=some u→w.cell? (a.add j)=some u)
theorem Zfe (a:Addr) (n:Nat):(a.add n).block=a.block:=by unfold Addr.add;split<;>rfl
theorem Ze1 (a:Addr) (i j:Nat):(a.add i).add j=a.add (i+j):=by
 unfold Addr.add
 by_cases hi:i=0<;>by_cases hj:j=0<;>simp[hi,hj,Nat.add_assoc]
section
variable {w w':World} {B B' k n:Nat} {A:Option Addr} {xs:List Value}
theorem Rd.nil (w:World) (B k:Nat) (A:Option Addr):Rd w B k A 0 []:=⟨by simp,fun h=>absurd h (Nat.lt_irrefl 0)⟩
theorem Rd.of_cells (h:Rd w B k A n xs) (s:∀p:Addr,p.block<B→w'.cell? p=w.cell? p):Rd w' B k A n xs:=
 ⟨h.1,fun hn=>by
  obtain⟨a,e,hb,hc⟩:=h.2 hn
  exact⟨a,e,hb,fun j u hu=>(s _ (by rw[Zfe];exact hb)).trans (hc j u hu)⟩⟩
theorem Rd.mono (h:Rd w B k A n xs) (s:B≤B'):Rd w B' k A n xs:=
 ⟨h.1,fun hn=>by
  obtain⟨a,e,hb,hc⟩:=h.2 hn
  exact⟨a,e,Nat.lt_of_lt_of_le hb s,hc⟩⟩
theorem Rd.below (h:Rd w B k A n xs) (s:Below B w w'):Rd w' B k A n xs:=h.of_cells fun _ hp=>s.cell hp
theorem Rd.alloc (h:Rd w B k A n xs) (s:B≤w.heap.size) (o:Obj):Rd (w.alloc o) B k A n xs:=h.of_cells fun p hp=>World.cell?_alloc_lt w o p (by omega)
theorem Rd.setCell (h:Rd w B k A n xs) {p:Addr} (s:B≤p.block) (u:Value):Rd (w.setCell p u) B k A n xs:=
 h.of_cells fun q hq=>World.cell?_setCell_other w p q u (fun e=>by subst e;omega)
theorem Rd.drew (h:Rd w B k A n xs):Rd w.drew B k A n xs:=h
theorem Rd.drewN (h:Rd w B k A n xs) (m:Nat):Rd (w.drewN m) B k A n xs:=h
theorem Rd.grown (h:Rd w B k A n xs) {row:Option Nat} (s:w.grownBy w' row) (C:B≤w.heap.size) (z:∀g,row=some g→B≤g):Rd w' B k A n xs:=
 h.of_cells fun p hp=>World.cell?_of_block (s.block p.block (by omega) (fun e=>by have:=z _ e.symm;omega))
theorem Rd.cell (h:Rd w B k A n xs) {j:Nat} {u:Value} (s:xs[j]?=some u):∃a,A=some a∧a.block<B∧w.cell? (a.add j)=some u:=by
 have hn:0<n:=by
  rcases Nat.eq_zero_or_pos n with h0|h0
  ·subst h0
   have:xs=[]:=List.eq_nil_of_length_eq_zero (by simpa using h.1)
   subst this
   simp at s
  ·exact h0
 obtain⟨a,e,hb,hc⟩:=h.2 hn
 exact⟨a,e,hb,hc j u s⟩
theorem Rd.of_own {base:Nat} {e:TypeId} {c:Nat} (h:w.ownsRow base e k (.slice A n c) n xs):Rd w w.heap.size k A n xs:=by
 refine⟨h.1,fun hn=>?_⟩
 rcases h.2 with⟨_,h0⟩|⟨g,s,z,hv,_,hg,_⟩
 ·omega
 ·injection hv with hA
  subst hA
  exact⟨_,rfl,(Array.getElem?_eq_some_iff.1 hg).1,h.cells (g:=g) rfl⟩
end
section
variable {P:Program} (w:World)
theorem Zev (base t J e:Nat) (i:TypeInfo) (size:Nat) (C:P.underlying t=some (.slice e)) (hi:P.info? e=some i)
 (v:Value) (n:Nat) (xs:List Value) (s:w.ownsRow base e size v n xs) (c:Nat):(Builtin.append_ #[t,t] J #[v,.slice none 0 c]).run P w=.ok v w:=by
 rcases s.2 with⟨rfl,rfl⟩|⟨g,E,G,rfl,_,_,z,_⟩
 ·simp[Builtin.append_,run_underlying C,sizeOf,typeInfo,hi,Builtin.lenOf,Builtin.firstCells]
 ·simp[Builtin.append_,run_underlying C,sizeOf,typeInfo,hi,Builtin.lenOf,Builtin.firstCells,z,storeCells]
theorem ZdX {w:World} {base e size:Nat} {v:Value} {n:Nat} {xs:List Value} (h:w.ownsRow base e size v n xs):∃A c,v=.slice A n c∧n≤c∧c≤maxLen:=by
 rcases h.2 with⟨rfl,rfl⟩|⟨g,s,z,rfl,_,_,h1,h2,_⟩
 ·exact⟨none,0,rfl,Nat.le_refl _,Nat.zero_le _⟩
 ·exact⟨some ⟨g,0,none⟩,s,rfl,h1,h2⟩
theorem ZgF (base t ty e:Nat) (i:TypeInfo) (z:Value) (size bytes:Nat) (ht:P.underlying t=some (.slice e)) (hi:P.info? e=some i) (hz:i.zero=some z)
 (L:i.size=size) (Y:i.bytes=bytes) (aa:z.cells.size=size) (Z:0<size)
 (v:Value) (n:Nat) (xs:List Value) (C:w.ownsRow base e size v n xs)
 (B:Nat) (A:Option Addr) (m c:Nat) (s:List Value) (R:Rd w B size A m s) (U:∀u∈s,u.oneCell'=true)
 (X:n+m≤maxLen) (G:(n+m)*bytes≤140737488355328) (J:base≤w.heap.size):
 ∃A' c' w',(Builtin.append_ #[t,t] ty #[v,.slice A m c]).run P w=.ok (.slice A' (n+m) c') w'∧n+m≤c'∧c'≤maxLen∧w'.ownsRow base e size (.slice A' (n+m) c') (n+m) (xs++s)∧w.grownBy w' v.ownBlock ∧
  ((Value.slice A' (n+m) c').ownBlock=v.ownBlock∨(Value.slice A' (n+m) c').ownBlock=some w.heap.size):=by
 have E:m=0→s=[]:=fun h0=>List.eq_nil_of_length_eq_zero (by rw[R.1,h0,Nat.zero_mul])
 rcases A with _|ad
 ·have hm:m=0:=by
   rcases Nat.eq_zero_or_pos m with h0|h0
   ·exact h0
   ·obtain⟨_,h,_⟩:=R.2 h0
    cases h
  obtain rfl:=E hm
  subst hm
  obtain⟨A',c',rfl,U,h2⟩:=ZdX C
  exact⟨A',c',w,Zev w base t ty e i size ht hi _ n xs C c,by simpa using U,h2,by simpa using C,World.grownBy.refl w _,.inl rfl⟩
 ·have hc:∀j u,s[j]?=some u→w.cell? (ad.add j)=some u:=by
   intro j u hu
   obtain⟨ab,h,_,hc⟩:=R.cell hu
   injection h with h
   subst h
   exact hc
  obtain⟨v',w',N,h2,h3,_,h5⟩:=run_append_own_at (P:=P) w base t ty e i z size bytes ht hi hz L Y aa Z v n xs C ad m c s R.1 hc U X G J
  obtain⟨A',c',rfl,h6,h7⟩:=ZdX h2
  exact⟨A',c',w',N,h6,h7,h2,h3,h5⟩
theorem ZdO {o:Oper} {a:Act} {K:Act→World→Prop} {Q:Exit→Act→World→Prop} (s x:Operand) (t:TypeId)
 (ho:o.op=.call {callee:=.builtin .append,args:=#[s,x],argTypes:=#[t,t]})
 (base e:Nat) (i:TypeInfo) (z:Value) (size bytes:Nat) (ht:P.underlying t=some (.slice e)) (hi:P.info? e=some i) (hz:i.zero=some z)
 (J:i.size=size) (U:i.bytes=bytes) (Y:z.cells.size=size) (X:0<size)
 (v:Value) (n:Nat) (xs:List Value) (hs:a.eval s=v) (L:w.ownsRow base e size v n xs)
 (B:Nat) (A:Option Addr) (m c:Nat) (C:List Value) (hx:a.eval x=.slice A m c) (hr:Rd w B size A m C) (Z:∀u∈C,u.oneCell'=true)
 (R:n+m≤maxLen) (E:(n+m)*bytes≤140737488355328) (G:base≤w.heap.size)
 (h:∀A' c' w',n+m≤c'→c'≤maxLen→w'.ownsRow base e size (.slice A' (n+m) c') (n+m) (xs++C)→w.grownBy w' v.ownBlock→((Value.slice A' (n+m) c').ownBlock=v.ownBlock∨(Value.slice A' (n+m) c').ownBlock=some w.heap.size)→K (a.put o.dst (.slice A' (n+m) c')) w'):o.wp P a w K Q:=by
 obtain⟨A',c',w',N,h2,h3,h4,h5,h6⟩:=ZgF (P:=P) w base t o.type e i z size bytes ht hi hz J U Y X v n xs L B A m c C hr Z R E G
 unfold Oper.wp execOp
 simp only[ho,resolve,invoke,builtin,Sem.run_bind,Sem.run_pure,Result.andThen_ok,List.map_toArray,List.map_cons,List.map_nil,hs,hx,N]
 exact h A' c' w' h2 h3 h4 h5 h6
theorem Zan {ops:Array Oper} {rest:List Oper} {o:Oper} {a:Act} {Q:Exit→Act→World→Prop} (U:o.guard=none) (s x:Operand) (t:TypeId)
 (ho:o.op=.call {callee:=.builtin .append,args:=#[s,x],argTypes:=#[t,t]})
 (base e:Nat) (i:TypeInfo) (z:Value) (size bytes:Nat) (ht:P.underlying t=some (.slice e)) (hi:P.info? e=some i) (hz:i.zero=some z)
 (J:i.size=size) (R:i.bytes=bytes) (Y:z.cells.size=size) (X:0<size)
 (v:Value) (n:Nat) (xs:List Value) (hs:a.eval s=v) (L:w.ownsRow base e size v n xs)
 (B:Nat) (A:Option Addr) (m c:Nat) (C:List Value) (hx:a.eval x=.slice A m c) (hr:Rd w B size A m C) (Z:∀u∈C,u.oneCell'=true)
 (N:n+m≤maxLen) (E:(n+m)*bytes≤140737488355328) (G:base≤w.heap.size)
 (h:∀A' c' w',n+m≤c'→c'≤maxLen→w'.ownsRow base e size (.slice A' (n+m) c') (n+m) (xs++C)→w.grownBy w' v.ownBlock→((Value.slice A' (n+m) c').ownBlock=v.ownBlock∨(Value.slice A' (n+m) c').ownBlock=some w.heap.size)→wpList P ops Q rest (a.put o.dst (.slice A' (n+m) c')) w'):wpList P ops Q (o::rest) a w:=
 wpList_plain U fun _ hK=>ZdO w s x t ho base e i z size bytes ht hi hz J R Y X v n xs hs L B A m c C hx hr Z N E G fun A' c' w' h2 h3 h4 h5 h6=>hK _ _ (h A' c' w' h2 h3 h4 h5 h6)
theorem ZaY {ops:Array Oper} {o:Oper} {a:Act} {K:Act→World→Prop} {Q:Exit→Act→World→Prop} {E:Prop} (X:o.guard=none) (s x:Operand) (t:TypeId)
 (ho:o.op=.call {callee:=.builtin .append,args:=#[s,x],argTypes:=#[t,t]})
 (base e:Nat) (i:TypeInfo) (z:Value) (size bytes:Nat) (ht:P.underlying t=some (.slice e)) (hi:P.info? e=some i) (hz:i.zero=some z)
 (L:i.size=size) (U:i.bytes=bytes) (Z:z.cells.size=size) (Y:0<size)
 (v:Value) (n:Nat) (xs:List Value) (hs:a.eval s=v) (N:w.ownsRow base e size v n xs)
 (B:Nat) (A:Option Addr) (m c:Nat) (C:List Value) (hx:a.eval x=.slice A m c) (hr:Rd w B size A m C) (h1:∀u∈C,u.oneCell'=true)
 (R:n+m≤maxLen) (G:(n+m)*bytes≤140737488355328) (J:base≤w.heap.size)
 (h:∀A' c' w',n+m≤c'→c'≤maxLen→w'.ownsRow base e size (.slice A' (n+m) c') (n+m) (xs++C)→w.grownBy w' v.ownBlock→((Value.slice A' (n+m) c').ownBlock=v.ownBlock∨(Value.slice A' (n+m) c').ownBlock=some w.heap.size)→K (a.put o.dst (.slice A' (n+m) c')) w'):
 if Region.wanted o (yielded ops a.tmps)=true then Oper.wp P o a w K Q else E:=by
 have hw:Region.wanted o (yielded ops a.tmps)=true:=by simp[Region.wanted,X]
 rw[if_pos hw]
 exact ZdO w s x t ho base e i z size bytes ht hi hz L U Z Y v n xs hs N B A m c C hx hr h1 R G J h
end
theorem Zap {w:World} {base s e size:Nat} {v:Value} {n:Nat} {xs:List Value} (h:w.ownsRow base e size v n xs) (E:s≤base):w.ownsRow s e size v n xs:=by
 refine⟨h.1,?_⟩
 rcases h.2 with h2|⟨g,z,C,hv,hg,r⟩
 ·exact .inl h2
 ·exact .inr ⟨g,z,C,hv,Nat.le_trans E hg,r⟩
def Bk (w:World) (g:Nat) (t:TypeId) (cs:Array Value):Prop:=w.heap[g]?=some (.cells cs t (0,0))
section
variable {w w':World} {g:Nat} {t:TypeId} {cs:Array Value}
theorem Bk.lt (h:Bk w g t cs):g<w.heap.size:=(Array.getElem?_eq_some_iff.1 h).1
theorem Bk.cell (h:Bk w g t cs) (i:Nat):w.cell? ⟨g,i,none⟩=cs[i]?:=cell_of_row w g i cs t (0,0) h
theorem Bk.frozen (h:Bk w g t cs) (i:Nat):w.frozen? ⟨g,i,none⟩=false:=by
 unfold Bk at h
 simp[World.frozen?,h]
theorem Bk.new (w:World) (t:TypeId) (cs:Array Value):Bk (w.alloc (.cells cs t)) w.heap.size t cs:=heap_alloc_new w _
theorem Bk.drew (h:Bk w g t cs):Bk w.drew g t cs:=h
theorem Bk.drewN (h:Bk w g t cs) (n:Nat):Bk (w.drewN n) g t cs:=h
theorem Bk.alloc (h:Bk w g t cs) (o:Obj):Bk (w.alloc o) g t cs:=(Below.heap_alloc w o g h.lt).trans h
theorem Bk.set (h:Bk w g t cs) (i:Nat) (u:Value):Bk (w.setCell ⟨g,i,none⟩ u) g t (cs.setIfInBounds i u):=by
 unfold Bk at h ⊢
 simp[World.setCell,Array.getElem?_modify,h]
theorem Bk.far (h:Bk w g t cs) {p:Addr} (s:g≠p.block) (u:Value):Bk (w.setCell p u) g t cs:=(Below.heap_setCell w p u g s).trans h
theorem Bk.below {B:Nat} (h:Bk w g t cs) (s:Below B w w') (z:g<B):Bk w' g t cs:=(s.block g z).trans h
theorem Bk.grown {row:Option Nat} (h:Bk w g t cs) (s:w.grownBy w' row) (z:some g≠row):Bk w' g t cs:=(s.block g h.lt z).trans h
theorem Bk.ne {C:Nat} {t':TypeId} {cs':Array Value} (h:Bk w g t cs) (s:Bk w C t' cs') (z:t≠t'):g≠C:=by
 rintro rfl
 unfold Bk at h s
 rw[h] at s
 injection s with s
 injection s with _ ht
 exact z ht
theorem Bk.three {a b c:Value} (h:Bk w g t #[a,b,c]):w.cell? ⟨g,0,none⟩=some a∧w.cell? ⟨g,1,none⟩=some b∧w.cell? ⟨g,2,none⟩=some c ∧
 w.frozen? ⟨g,0,none⟩=false∧w.frozen? ⟨g,1,none⟩=false∧w.frozen? ⟨g,2,none⟩=false∧g<w.heap.size:=
 ⟨h.cell 0,h.cell 1,h.cell 2,h.frozen 0,h.frozen 1,h.frozen 2,h.lt⟩
theorem Bk.four {a b c d:Value} (h:Bk w g t #[a,b,c,d]):w.cell? ⟨g,0,none⟩=some a∧w.cell? ⟨g,1,none⟩=some b∧w.cell? ⟨g,2,none⟩=some c∧w.cell? ⟨g,3,none⟩=some d ∧
 w.frozen? ⟨g,0,none⟩=false∧w.frozen? ⟨g,1,none⟩=false∧w.frozen? ⟨g,2,none⟩=false∧w.frozen? ⟨g,3,none⟩=false∧g<w.heap.size:=
 ⟨h.cell 0,h.cell 1,h.cell 2,h.cell 3,h.frozen 0,h.frozen 1,h.frozen 2,h.frozen 3,h.lt⟩
theorem Bk.five {a b c d e:Value} (h:Bk w g t #[a,b,c,d,e]):w.cell? ⟨g,0,none⟩=some a∧w.cell? ⟨g,1,none⟩=some b∧w.cell? ⟨g,2,none⟩=some c∧w.cell? ⟨g,3,none⟩=some d∧w.cell? ⟨g,4,none⟩=some e ∧
 w.frozen? ⟨g,0,none⟩=false∧w.frozen? ⟨g,1,none⟩=false∧w.frozen? ⟨g,2,none⟩=false∧w.frozen? ⟨g,3,none⟩=false∧w.frozen? ⟨g,4,none⟩=false∧g<w.heap.size:=
 ⟨h.cell 0,h.cell 1,h.cell 2,h.cell 3,h.cell 4,h.frozen 0,h.frozen 1,h.frozen 2,h.frozen 3,h.frozen 4,h.lt⟩
theorem Bk.two {a b:Value} (h:Bk w g t #[a,b]):w.cell? ⟨g,0,none⟩=some a∧w.cell? ⟨g,1,none⟩=some b∧w.frozen? ⟨g,0,none⟩=false∧w.frozen? ⟨g,1,none⟩=false∧g<w.heap.size:=
 ⟨h.cell 0,h.cell 1,h.frozen 0,h.frozen 1,h.lt⟩
theorem Bk.one {a:Value} (h:Bk w g t #[a]):w.cell? ⟨g,0,none⟩=some a∧w.frozen? ⟨g,0,none⟩=false∧g<w.heap.size:=
 ⟨h.cell 0,h.frozen 0,h.lt⟩
end
section
variable {w w':World} {base e size n c:Nat} {A:Option Addr} {xs:List Value}
theorem ZaF (h:w.ownsRow base e size (.slice A n c) n xs) (C:∀p,A=some p→w'.heap[p.block]?=w.heap[p.block]?):w'.ownsRow base e size (.slice A n c) n xs:=by
 refine⟨h.1,?_⟩
 rcases h.2 with h0|⟨g,s,z,hv,hg,hh,r⟩
 ·exact .inl h0
 ·refine .inr ⟨g,s,z,hv,hg,?_,r⟩
  injection hv with hA
  rw[C _ hA];exact hh
theorem ZaP (h:w.ownsRow base e size (.slice A n c) n xs):∀p,A=some p→base≤p.block∧p.block<w.heap.size:=fun p hp=>by
 subst hp
 exact h.lt p.block rfl
end
def Ow (w:World) (base e k:Nat) (A:Option Addr) (n c:Nat):Prop:=∃xs,w.ownsRow base e k (.slice A n c) n xs
section
variable {w w' V W:World} {base e k n c lo hi:Nat} {A:Option Addr}
theorem Ow.of {xs:List Value} (h:w.ownsRow base e k (.slice A n c) n xs):Ow w base e k A n c:=⟨xs,h⟩
theorem Ow.set (h:Ow w base e k A n c) (g i:Nat) (u:Value):Ow (w.setCell ⟨g,i,none⟩ u) base e k A n c:=by
 obtain⟨xs,hl,h⟩:=h
 rcases h with⟨hv,h0⟩|⟨b,z,s,hv,hb,hh,h1,h2,h3,h4⟩
 ·injection hv with a1 a2 a3
  subst a1 a2 a3
  exact⟨[],by simp,.inl ⟨rfl,rfl⟩⟩
 ·by_cases hg:b=g
  ·subst hg
   have hB:Bk w b e s:=hh
   refine⟨(s.setIfInBounds i u).toList.take (n*k),?_,.inr ⟨b,z,_,hv,hb,hB.set i u,h1,h2,by simp[h3],rfl⟩⟩
   have hm:n*k≤z*k:=Nat.mul_le_mul_right k h1
   simp only[List.length_take,Array.length_toList,Array.size_setIfInBounds]
   omega
  ·have hB:Bk w b e s:=hh
   exact⟨xs,hl,.inr ⟨b,z,s,hv,hb,hB.far (p:=⟨g,i,none⟩) hg u,h1,h2,h3,h4⟩⟩
theorem Ow.cell (h:Ow w base e k A n c) {j:Nat} (C:j<n*k):∃g,A=some ⟨g,0,none⟩∧base≤g∧g<w.heap.size∧(∃u,w.cell? ⟨g,j,none⟩=some u)∧w.frozen? ⟨g,j,none⟩=false:=by
 obtain⟨xs,hl,h⟩:=h
 rcases h with⟨hv,h0⟩|⟨b,z,s,hv,hb,hh,h1,h2,h3,h4⟩
 ·subst h0
  simp at C
 ·injection hv with a1 a2 a3
  have hB:Bk w b e s:=hh
  refine⟨b,a1,hb,hB.lt,?_,hB.frozen j⟩
  have hm:n*k≤z*k:=Nat.mul_le_mul_right k h1
  have hs:j<s.size:=by omega
  exact⟨s[j],by rw[hB.cell];simp[hs]⟩
structure Ex (lo hi:Nat) (V W:World):Prop where
 os:W.os=V.os
 tape:W.tape=V.tape
 output:W.output=V.output
 size:V.heap.size≤W.heap.size
 block:∀b,b<V.heap.size→(b<lo∨hi≤b)→W.heap[b]?=V.heap[b]?
theorem Ex.refl (V:World):Ex lo hi V V:=⟨rfl,rfl,rfl,Nat.le_refl _,fun _ _ _=>rfl⟩
theorem Ex.drew (h:Ex lo hi V W):Ex lo hi V W.drew:=⟨h.os,h.tape,h.output,h.size,h.block⟩
theorem Ex.alloc (h:Ex lo hi V W) (o:Obj):Ex lo hi V (W.alloc o):=
 ⟨h.os,h.tape,h.output,Nat.le_trans h.size (by simp),fun b hb hr=>(Below.heap_alloc W o b (Nat.lt_of_lt_of_le hb h.size)).trans (h.block b hb hr)⟩
theorem Ex.set (h:Ex lo hi V W) {g:Nat} (s:lo≤g) (z:g<hi) (i:Nat) (u:Value):Ex lo hi V (W.setCell ⟨g,i,none⟩ u):=
 ⟨h.os,h.tape,h.output,by simpa[World.setCell] using h.size,fun b hb hr=>(Below.heap_setCell W ⟨g,i,none⟩ u b (by simp only;omega)).trans (h.block b hb hr)⟩
theorem Ex.below {B:Nat} (h:Ex lo hi V W) (s:Below B W w') (C:V.heap.size≤B):Ex lo hi V w':=
 ⟨s.os.trans h.os,s.tape.trans h.tape,s.output.trans h.output,Nat.le_trans h.size s.size,fun b z hr=>(s.block b (by omega)).trans (h.block b z hr)⟩
theorem Ex.grown {row:Option Nat} (h:Ex lo hi V W) (s:W.grownBy w' row) (C:∀g,row=some g→lo≤g∧g<hi):Ex lo hi V w':=
 ⟨s.os.trans h.os,s.tape.trans h.tape,s.output.trans h.output,Nat.le_trans h.size s.size,fun b hb z=>(s.block b (Nat.lt_of_lt_of_le hb h.size) (fun e=>by have:=C b e.symm;omega)).trans (h.block b hb z)⟩
theorem Ex.bk (h:Ex lo hi V W) {g:Nat} {t:TypeId} {cs:Array Value} (s:Bk V g t cs) (z:g<lo∨hi≤g):Bk W g t cs:=(h.block g s.lt z).trans s
theorem Ex.own (h:Ex lo hi V W) {xs:List Value} (s:V.ownsRow base e k (.slice A n c) n xs) (z:∀p,A=some p→p.block<lo∨hi≤p.block):W.ownsRow base e k (.slice A n c) n xs:=
 ZaF s fun p hp=>h.block p.block (ZaP s p hp).2 (z p hp)
theorem Ex.rd {xs:List Value} {B:Nat} (h:Ex lo hi V W) (s:Rd V B k A n xs) (z:B≤lo) (C:B≤V.heap.size):Rd W B k A n xs:=
 s.of_cells fun p hp=>World.cell?_of_block (h.block p.block (by omega) (.inl (by omega)))
end
section
variable {P:Program} {ops:Array Oper} {Q:Exit→Act→World→Prop} {md:Region.Mode} {S:World→Prop} {st:Nat}
def Zjn (md:Region.Mode) (ops:Array Oper) (st i:Nat):Bool:=
 match ops[st]? with
 |some o=>o.after.any fun e=>Region.binds md e&&e.on==i
 |none=>true
theorem Zhh {i:Nat} {listed:Array Bool} (z:Zjn md ops st i=true) (hi:i∈Region.ready md ops listed):st∉Region.ready md ops listed:=by
 intro hs
 obtain⟨_,o,ho,s⟩:=mem_ready.1 hs
 simp only[Zjn,ho] at z
 obtain⟨e,he,hb⟩:=Array.any_eq_true'.1 z
 simp only[Bool.and_eq_true,beq_iff_eq] at hb
 have h1:=s e he hb.1
 have h0:=(mem_ready.1 hi).1
 rw[hb.2] at h1
 by_cases h:i<listed.size
 ·simp[h] at h0 h1
  rw[h0] at h1
  cases h1
 ·simp[Array.getElem?_eq_none (Nat.le_of_not_lt h)] at h1
def ZmN (P:Program) (md:Region.Mode) (ops:Array Oper) (Q:Exit→Act→World→Prop) (S:World→Prop) (st:Nat):Nat→Array Bool→Act→World→Prop
 |0,l,a,w=>Region.ready md ops l=[]∧Q .normal a w
 |n+1,l,a,w=>(Region.ready md ops l=[]→Q .normal a w) ∧
  ∀i∈Region.ready md ops l,wpOp P ops Q i (fun b v=>(i≠st→S v)∧ZmN P md ops Q S st n (l.setIfInBounds i true) b v) a w
end
section
variable {P:Program} {ops:Array Oper} {Q:Exit→Act→World→Prop} {md:Region.Mode} {S:World→Prop} {st:Nat}
def Zmw (P:Program) (md:Region.Mode) (ops:Array Oper) (Q:Exit→Act→World→Prop) (S:World→Prop) (st n:Nat) (l:Array Bool) (a:Act) (w:World) (rs:List Nat):Prop:=
 ∀i∈rs,wpOp P ops Q i (fun b v=>(i≠st→S v)∧ZmN P md ops Q S st n (l.setIfInBounds i true) b v) a w
theorem Zmw.nil {n:Nat} {l:Array Bool} {a:Act} {w:World}:Zmw P md ops Q S st n l a w []:=fun _ h=>by cases h
theorem Zmw.cons {n:Nat} {l:Array Bool} {a:Act} {w:World} {i:Nat} {o:Oper} {rs:List Nat} (s:ops[i]?=some o)
 (h:∀K:Act→World→Prop,Shut (∀b v,(i≠st→S v)→ZmN P md ops Q S st n (l.setIfInBounds i true) b v→K b v)→if Region.wanted o (yielded ops a.tmps)=true then Oper.wp P o a w K Q else K (a.put o.dst undef) w)
 (z:Zmw P md ops Q S st n l a w rs):Zmw P md ops Q S st n l a w (i::rs):=fun j hj=>by
 rcases List.mem_cons.1 hj with rfl|hj
 ·exact wpOp_step s (fun K hK=>h K (fun b v hS hW=>hK b v ⟨hS,hW⟩))
 ·exact z j hj
end
end
section
section
variable {P:Program} {ops:Array Oper} {Q:Exit→Act→World→Prop} {md:Region.Mode} {S:World→Prop} {st:Nat}
def Zd9(P:Program)(md:Region.Mode)(ops:Array Oper)(Q:Exit→Act→World→Prop)(S:World→Prop)(st:Nat):Nat→Array Bool→Act→World→Prop
 |0,l,a,w=>Region.ready md ops l=[]∧Q .normal a w
 |n+1,l,a,w=>(Region.ready md ops l=[]→Q .normal a w) ∧
  ∀i∈Region.ready md ops l,wpOp P ops Q i (fun b v=>((l.setIfInBounds i true).getD st true=false→S v)∧Zd9 P md ops Q S st n (l.setIfInBounds i true) b v) a w
theorem Zgf:∀(n:Nat) (l:Array Bool) (a:Act) (w:World),Zd9 P md ops Q S st n l a w→wpAny P md ops Q n l a w
 |0,_,_,_,h=>h
 |n+1,_,_,_,h=>⟨h.1,fun i hi=>wpOp_mono (fun b v k=>Zgf n _ b v k.2) (h.2 i hi)⟩
theorem ZiI{i:Nat}{N:Oper}{v:Value}(hi:ops[i]?=some N)(J:∀(j:Nat) (o:Oper) cs b,ops[j]?=some o→o.op ≠ .select cs b)(hQ:∀c a w,Q (.panic c) (a.put N.dst v) w→Q (.panic c) a w)(Y:Zjn md ops st i=true)(n:Nat):
 ∀(l:Array Bool) (a:Act) (w:World),l.getD st true=false →
  (∀j oj,ops[j]?=some oj→j≠i→l.getD j true=false→(∀e∈oj.after,Region.binds md e=true→e.on≠i)→N.apart ops oj=true) →
  i∈Region.ready md ops l→YieldsIf P ops S N v a→S w→Zd9 P md ops Q S st n (l.setIfInBounds i true) (a.put N.dst v) w→Zd9 P md ops Q S st (n+1) l a w:=by
 induction n with
 |zero=>
  intro l a w _ _ hr hy hS H
  refine⟨fun h=>(by rw[h] at hr;cases hr),fun j hj=>?_⟩
  by_cases s:j=i
  ·rw[s];exact hy.wpOp hi hS ⟨fun _=>hS,H⟩
  ·have:=ready_mono hj s
   rw[H.1] at this
   cases this
 |succ n ih=>
  intro l a w hu z hr hy hS H
  refine⟨fun h=>(by rw[h] at hr;cases hr),fun j hj=>?_⟩
  by_cases s:j=i
  ·rw[s];exact hy.wpOp hi hS ⟨fun _=>hS,H⟩
  have E:j≠st:=fun h=>Zhh Y hr (h▸hj)
  have U:i≠st:=fun h=>Zhh Y hr (h▸hr)
  obtain⟨G,oj,L,R⟩:=mem_ready.1 hj
  have C:=(mem_ready.1 hr).1
  have ae:∀e∈oj.after,Region.binds md e=true→e.on≠i:=fun e he hb ab=>by
   have h1:=R e he hb
   rw[ab] at h1
   by_cases h:i<l.size
   ·simp[h] at C h1
    rw[C] at h1
    cases h1
   ·simp[Array.getElem?_eq_none (Nat.le_of_not_lt h)] at h1
  have af:(l.setIfInBounds j true).getD st true=false:=by rw[getD_set_ne true E];exact hu
  have Z:((l.setIfInBounds i true).setIfInBounds j true).getD st true=false:=by rw[getD_set_ne true E,getD_set_ne true U];exact hu
  refine wpOp_mono (fun b u k=>⟨fun _=>k.2.1 Z,ih _ b u af (fun m om hm ac aa ad=>?_) (ready_mono hr (Ne.symm s)) k.1 (k.2.1 Z) ?_⟩)
   (wpOp_putIf L (z j oj L s G ae) (fun cs b=>J i N cs b hi) (fun cs b=>J j oj cs b L) hQ hy (H.2 j (ready_mono hj s)))
  ·refine z m om hm ac ?_ ad
   by_cases X:j=m
   ·rw[←X];exact G
   ·rw[getD_set_ne true X] at aa;exact aa
  ·rw[Array.setIfInBounds_comm _ _ s]
   exact k.2.2
theorem ZgZ{i:Nat}{s:Oper}{v:Value}{n:Nat}{l:Array Bool}{a:Act}{w:World}(hi:ops[i]?=some s)(L:Region.noSelect ops=true)(G:Region.free md ops l i=true)(J:(Region.ready md ops l).contains i=true)(z:Zjn md ops st i=true)(N:l.getD st true=false)(C:∀c a w,Q (.panic c) (a.put s.dst v) w→Q (.panic c) a w)(R:YieldsIf P ops S s v a)(E:S w)(h:Zd9 P md ops Q S st n (l.setIfInBounds i true) (a.put s.dst v) w):Zd9 P md ops Q S st (n+1) l a w:=
 ZiI hi (Region.noSelect_spec L) C z n l a w N (Region.free_spec hi G) (by simpa using J) R E h
theorem ZkL{i:Nat}{o:Oper}{n:Nat}{l:Array Bool}{a:Act}{w:World}(s:Region.ready md ops l=[i])(z:ops[i]?=some o)(h:∀K:Act→World→Prop,Shut (∀b v,((l.setIfInBounds i true).getD st true=false→S v)→Zd9 P md ops Q S st n (l.setIfInBounds i true) b v→K b v)→if Region.wanted o (yielded ops a.tmps)=true then Oper.wp P o a w K Q else K (a.put o.dst undef) w):
 Zd9 P md ops Q S st (n+1) l a w:=by
 refine⟨fun h0=>(by rw[s] at h0;cases h0),fun j hj=>?_⟩
 rw[s] at hj
 obtain rfl:=List.mem_singleton.1 hj
 exact wpOp_step z (fun K hK=>h K (fun b v hS hW=>hK b v ⟨hS,hW⟩))
theorem Zak{l:Array Bool}{a:Act}{w:World}(s:Region.ready md ops l=[])(h:Q .normal a w):∀n,Zd9 P md ops Q S st n l a w
 |0=>⟨s,h⟩
 |_+1=>⟨fun _=>h,by rw[s];simp⟩
theorem Zbf(S:World→Prop)(st:Nat){id:Nat}{a:Act}{w:World}(s:P.follows .mixedOrders=true)(h:Zd9 P .any ops Q S st ops.size (Array.replicate ops.size false) a w.drew):(Code.region id ops true).wp P Q a w:=
 wp_region_any s (Zgf _ _ _ _ h)
def ZgQ(P:Program)(md:Region.Mode)(ops:Array Oper)(Q:Exit→Act→World→Prop)(S:World→Prop)(st n:Nat)(l:Array Bool)(a:Act)(w:World)(rs:List Nat):Prop:=
 ∀i∈rs,wpOp P ops Q i (fun b v=>((l.setIfInBounds i true).getD st true=false→S v)∧Zd9 P md ops Q S st n (l.setIfInBounds i true) b v) a w
theorem ZgQ.nil{n:Nat}{l:Array Bool}{a:Act}{w:World}:ZgQ P md ops Q S st n l a w []:=fun _ h=>by cases h
theorem ZgQ.cons{n:Nat}{l:Array Bool}{a:Act}{w:World}{i:Nat}{o:Oper}{rs:List Nat}(s:ops[i]?=some o)(h:∀K:Act→World→Prop,Shut (∀b v,((l.setIfInBounds i true).getD st true=false→S v)→Zd9 P md ops Q S st n (l.setIfInBounds i true) b v→K b v)→if Region.wanted o (yielded ops a.tmps)=true then Oper.wp P o a w K Q else K (a.put o.dst undef) w)(z:ZgQ P md ops Q S st n l a w rs):ZgQ P md ops Q S st n l a w (i::rs):=fun j hj=>by
 rcases List.mem_cons.1 hj with rfl|hj
 ·exact wpOp_step s (fun K hK=>h K (fun b v hS hW=>hK b v ⟨hS,hW⟩))
 ·exact z j hj
theorem ZcD{rs:List Nat}{n:Nat}{l:Array Bool}{a:Act}{w:World}(z:Region.ready md ops l=rs)(s:rs≠[])(h:ZgQ P md ops Q S st n l a w rs):Zd9 P md ops Q S st (n+1) l a w:=
 ⟨fun h0=>absurd (z▸h0) s,z▸h⟩
theorem Zac{p:Prop}{b:Bool}(h:b=true)(s:b=false):p:=by rw[h] at s;cases s
end
end
section
def nth{α:Type}:List α→Nat→Option α
 |[],_=>none
 |o::_,0=>some o
 |_::os,k+1=>nth os k
theorem ZlL{α:Type}:∀(l:List α) (i:Nat),nth l i=l[i]?
 |[],_=>by simp[nth]
 |_::_,0=>by simp[nth]
 |_::l,k+1=>by simpa[nth] using ZlL l k
theorem ZdE{α:Type}{c:Array α}{i:Nat}{o:α}(h:nth c.toList i=some o):c[i]?=some o:=by
 rw[ZlL] at h;simpa using h
section
variable {P:Program} {ops:Array Oper} {Q:Exit→Act→World→Prop} {md:Region.Mode} {S:World→Prop} {st i n:Nat} {is:List Nat} {l:Array Bool} {a:Act} {w:World} {o:Oper} {v:Value}
theorem ZmF(s:∀c a t w,Q (.panic c) {a with tmps:=t} w→Q (.panic c) a w)(c:List PanicEntry)(a:Act)(w:World)(h:Q (.panic c) (a.put o.dst v) w):Q (.panic c) a w:=by
 rcases o with⟨d,_,_,_,_,_⟩
 cases d with
 |none=>exact h
 |some d=>exact s _ _ _ _ h
def ZmK(md:Region.Mode)(ops:Array Oper):List Nat→Array Bool→Bool
 |[],_=>true
 |i::is,l=>Region.free md ops l i&&((Region.ready md ops l).contains i&&ZmK md ops is (l.setIfInBounds i true))
def Zml(P:Program)(md:Region.Mode)(ops:Array Oper)(Q:Exit→Act→World→Prop)(S:World→Prop)(w:World):List Nat→Nat→Array Bool→Act→Prop
 |[],n,l,a=>wpAnyH P md ops Q S n l a w
 |_::_,0,_,_=>False
 |i::is,n+1,l,a=>∃o v,nth ops.toList i=some o∧YieldsIf P ops S o v a∧Zml P md ops Q S w is n (l.setIfInBounds i true) (a.put o.dst v)
theorem Zkn(C:Region.noSelect ops=true)(s:∀c a t w,Q (.panic c) {a with tmps:=t} w→Q (.panic c) a w)(z:S w):
 ∀(is:List Nat) (n:Nat) (l:Array Bool) (a:Act),ZmK md ops is l=true→Zml P md ops Q S w is n l a→wpAnyH P md ops Q S n l a w
 |[],_,_,_,_,h=>h
 |_::_,0,_,_,_,h=>h.elim
 |i::is,n+1,l,a,hc,⟨o,v,ho,hy,h⟩=>by
  simp only[ZmK,Bool.and_eq_true] at hc
  exact wpAnyH_take (ZdE ho) C hc.1 hc.2.1 (ZmF s) hy z (Zkn C s z is n _ _ hc.2.2 h)
theorem tkH(is:List Nat)(C:S w)(s:(Region.noSelect ops&&ZmK md ops is l)=true)(z:∀c a t w,Q (.panic c) {a with tmps:=t} w→Q (.panic c) a w)(h:Zml P md ops Q S w is n l a):wpAnyH P md ops Q S n l a w:=by
 rw[Bool.and_eq_true] at s
 exact Zkn s.1 z C is n l a s.2 h
theorem ycH(s:nth ops.toList i=some o)(z:Region.wanted o (yielded ops a.tmps)=true)(C:∀w,S w→(execOp a.eval o).run P w=.ok (.value v) w)(h:Zml P md ops Q S w is n (l.setIfInBounds i true) (a.put o.dst v)):Zml P md ops Q S w (i::is) (n+1) l a:=⟨o,v,s,.inl ⟨z,C⟩,h⟩
theorem ncH(s:nth ops.toList i=some o)(z:Region.wanted o (yielded ops a.tmps)=false)(h:Zml P md ops Q S w is n (l.setIfInBounds i true) (a.put o.dst undef)):Zml P md ops Q S w (i::is) (n+1) l a:=⟨o,undef,s,.inr ⟨z,rfl⟩,h⟩
theorem onH(i:Nat){o:Oper}(z:Region.ready md ops l=[i])(s:nth ops.toList i=some o)(h:∀K':Act→World→Prop,Shut (∀a w,S w→(S w→wpAnyH P md ops Q S n (l.setIfInBounds i true) a w)→K' a w)→if Region.wanted o (yielded ops a.tmps)=true then Oper.wp P o a w K' Q else K' (a.put o.dst undef) w):
 wpAnyH P md ops Q S (n+1) l a w:=wpAnyH_ready z (by simp) (AllReadyH.cons (ZdE s) h AllReadyH.nil)
def ZmL(md:Region.Mode)(ops:Array Oper)(st:Nat):List Nat→Array Bool→Bool
 |[],_=>true
 |i::is,l=>Region.free md ops l i&&((Region.ready md ops l).contains i&&(Zjn md ops st i&&(!l.getD st true&&ZmL md ops st is (l.setIfInBounds i true))))
def ZmH(P:Program)(md:Region.Mode)(ops:Array Oper)(Q:Exit→Act→World→Prop)(S:World→Prop)(st:Nat)(w:World):List Nat→Nat→Array Bool→Act→Prop
 |[],n,l,a=>Zd9 P md ops Q S st n l a w
 |_::_,0,_,_=>False
 |i::is,n+1,l,a=>∃o v,nth ops.toList i=some o∧YieldsIf P ops S o v a∧ZmH P md ops Q S st w is n (l.setIfInBounds i true) (a.put o.dst v)
theorem Zko(C:Region.noSelect ops=true)(s:∀c a t w,Q (.panic c) {a with tmps:=t} w→Q (.panic c) a w)(z:S w):
 ∀(is:List Nat) (n:Nat) (l:Array Bool) (a:Act),ZmL md ops st is l=true→ZmH P md ops Q S st w is n l a→Zd9 P md ops Q S st n l a w
 |[],_,_,_,_,h=>h
 |_::_,0,_,_,_,h=>h.elim
 |i::is,n+1,l,a,hc,⟨o,v,ho,hy,h⟩=>by
  simp only[ZmL,Bool.and_eq_true] at hc
  exact ZgZ (ZdE ho) C hc.1 hc.2.1 hc.2.2.1 (by simpa using hc.2.2.2.1) (ZmF s) hy z (Zko C s z is n _ _ hc.2.2.2.2 h)
theorem tkM(is:List Nat)(C:S w)(s:(Region.noSelect ops&&ZmL md ops st is l)=true)(z:∀c a t w,Q (.panic c) {a with tmps:=t} w→Q (.panic c) a w)(h:ZmH P md ops Q S st w is n l a):Zd9 P md ops Q S st n l a w:=by
 rw[Bool.and_eq_true] at s
 exact Zko s.1 z C is n l a s.2 h
theorem ycM(s:nth ops.toList i=some o)(z:Region.wanted o (yielded ops a.tmps)=true)(C:∀w,S w→(execOp a.eval o).run P w=.ok (.value v) w)(h:ZmH P md ops Q S st w is n (l.setIfInBounds i true) (a.put o.dst v)):ZmH P md ops Q S st w (i::is) (n+1) l a:=⟨o,v,s,.inl ⟨z,C⟩,h⟩
theorem onM(i:Nat){o:Oper}(z:Region.ready md ops l=[i])(s:nth ops.toList i=some o)(h:∀K:Act→World→Prop,Shut (∀b v,((l.setIfInBounds i true).getD st true=false→S v)→Zd9 P md ops Q S st n (l.setIfInBounds i true) b v→K b v)→if Region.wanted o (yielded ops a.tmps)=true then Oper.wp P o a w K Q else K (a.put o.dst undef) w):
 Zd9 P md ops Q S st (n+1) l a w:=ZkL z (ZdE s) h
end
theorem Zjq{P:Program}{ops:Array Oper}{Q:Exit→Act→World→Prop}{md:Region.Mode}{S:World→Prop}{st:Nat}{i:Nat}{s:Oper}{v:Value}{n:Nat}{l:Array Bool}{a:Act}{w:World}(hi:nth ops.toList i=some s)(L:Region.noSelect ops=true)(G:Region.free md ops l i=true)(J:(Region.ready md ops l).contains i=true)(z:Zjn md ops st i=true)(N:l.getD st true=false)(C:∀c a w,Q (.panic c) (a.put s.dst v) w→Q (.panic c) a w)(R:YieldsIf P ops S s v a)(E:S w)(h:Zd9 P md ops Q S st n (l.setIfInBounds i true) (a.put s.dst v) w):Zd9 P md ops Q S st (n+1) l a w:=ZgZ (ZdE hi) L G J z N C R E h
theorem ZgP{P:Program}{ops:Array Oper}{Q:Exit→Act→World→Prop}{md:Region.Mode}{S:World→Prop}{st:Nat}{n:Nat}{l:Array Bool}{a:Act}{w:World}{i:Nat}{o:Oper}{rs:List Nat}(s:nth ops.toList i=some o)(h:∀K:Act→World→Prop,Shut (∀b v,((l.setIfInBounds i true).getD st true=false→S v)→Zd9 P md ops Q S st n (l.setIfInBounds i true) b v→K b v)→if Region.wanted o (yielded ops a.tmps)=true then Oper.wp P o a w K Q else K (a.put o.dst undef) w)(z:ZgQ P md ops Q S st n l a w rs):ZgQ P md ops Q S st n l a w (i::rs):=ZgQ.cons (ZdE s) h z
abbrev zW:Array Value:=#[.int .i64 0,.int .i64 0,.int .i64 0,.int .i64 0,.int .i64 0,.int .i64 0,.int .i64 0,.int .i64 0,.int .i64 0,.int .i64 0,.int .i64 0,.int .i64 0,.int .i64 0,.int .i64 0,.int .i64 0,.int .i64 0,.int .i64 0,.int .i64 0,.int .i64 0,.int .i64 0,.int .i64 0]
abbrev I(x:Int):Value:=.int .i64 x
abbrev Pt(b:Nat):Value:=.pointer (some ⟨b,0,none⟩)
abbrev Bw(w W:World):Prop:=Below w.heap.size w W
abbrev Aq(b i:Nat):Addr:=⟨b,i,none⟩
theorem Hi{p:Prop}(h:p):Hid p:=h
abbrev zZ:Array Value:=#[.int .i64 0,.slice none 0 0,.slice none 0 0,.slice none 0 0,.slice none 0 0,.slice none 0 0,.slice none 0 0,.slice none 0 0,.slice none 0 0]
section
variable {w V W:World} {g b b2 t t' i:Nat} {cs cs' cs2:Array Value} {o:Obj} {p:Addr} {u:Value}
theorem bkA(h:Hid (Bk W g t cs))(e:V=W.alloc o):Hid (Bk V g t cs):=by rw[e];exact h.out.alloc _
theorem bkD(h:Hid (Bk W g t cs))(e:V=W.drew):Hid (Bk V g t cs):=by rw[e];exact h.out.drew
theorem bkN(h:Hid (Bk W g t cs))(s:Below W.heap.size W V):Hid (Bk V g t cs):=h.out.below s h.out.lt
theorem bkS(h:Hid (Bk W g t cs))(i:Nat)(e:V=W.setCell ⟨g,i,none⟩ u):Hid (Bk V g t (cs.setIfInBounds i u)):=by rw[e];exact h.out.set i _
theorem bkF(h:Hid (Bk W g t cs))(e:V=W.setCell ⟨b2,i,none⟩ u)(k:Hid (Bk W b2 t' cs'))(s:Nat.beq t t'=false):Hid (Bk V g t cs):=by
 rw[e];exact h.out.far (p:=⟨b2,i,none⟩) (h.out.ne k.out (Nat.ne_of_beq_eq_false s)) _
theorem bkW(e:V=W.alloc (.cells cs t))(s:b=W.heap.size):Hid (Bk V b t cs):=by rw[e,s];exact Bk.new _ _ _
theorem blA(h:Hid (Below w.heap.size w W))(e:V=W.alloc o):Hid (Below w.heap.size w V):=by rw[e];exact h.out.alloc h.out.size _
theorem blB(e:V=w.alloc o):Hid (Below w.heap.size w V):=by rw[e];exact(Below.refl _ w).alloc (Nat.le_refl _) _
theorem blD(h:Hid (Below i w W))(e:V=W.drew):Hid (Below i w V):=by rw[e];exact h.out.drew
theorem blS(h:Hid (Below t w W))(e:V=W.setCell ⟨g,i,none⟩ u)(s:Hid (t≤g)):Hid (Below t w V):=by rw[e];exact h.out.setCell s.out _
theorem blZ(h:Hid (Below t w W))(e:b=W.heap.size):Hid (w.heap.size≤b):=by rw[e];exact h.out.size
theorem bl0(e:b=w.heap.size):Hid (w.heap.size≤b):=by rw[e];exact Nat.le_refl _
theorem blT(h:Hid (Below w.heap.size w W))(s:Below W.heap.size W V):Hid (Below w.heap.size w V):=h.out.trans (s.mono h.out.size)
end
theorem sA(as:List Value)(i:Nat)(v:Value):as.toArray.setIfInBounds i v=(as.set i v).toArray:=List.setIfInBounds_toArray ..
theorem sB(a b:Value)(l:List Value):(a::l).set 0 b=b::l:=rfl
theorem sC(a b:Value)(l:List Value)(n:Nat):(a::l).set (n+1) b=a::l.set n b:=rfl
theorem Cq{P:Program}{f:FuncId}{args:Array Value}{w s:World}{v:Ending}{R:Ending→World→Prop}(h:Calls P f args w fun e w'=>e=v∧w'=s)(k:R v s):Calls P f args w R:=
 h.mono fun e w' ⟨he,hw⟩=>by rw[he,hw];exact k
theorem rgH{P:Program}{ops:Array Oper}{Q:Exit→Act→World→Prop}{S:World→Prop}{id:Nat}{a:Act}{w W:World}(z:P.follows .mixedOrders=true)(e:W=w.drew)(s:S W)(h:S W→wpAnyH P .any ops Q S ops.size (Array.replicate ops.size false) a W):(Code.region id ops true).wp P Q a w:=by subst e;exact wp_region_held_drew z s h
theorem Ct{W:World}{g t:Nat}{cs:Array Value}{v:Value}(h:Hid (Bk W g t cs))(i:Nat)(e:nth cs.toList i=some v):W.cell? ⟨g,i,none⟩=some v:=(h.out.cell i).trans (ZdE e)
theorem ExY{α:Type}(x:α):∃y,y=x:=⟨x,rfl⟩
theorem rgM{P:Program}{ops:Array Oper}{Q:Exit→Act→World→Prop}(S:World→Prop)(st:Nat){id:Nat}{a:Act}{w W:World}(s:P.follows .mixedOrders=true)(e:W=w.drew)(h:Zd9 P .any ops Q S st ops.size (Array.replicate ops.size false) a W):(Code.region id ops true).wp P Q a w:=by subst e;exact Zbf S st s h
end
end Go.Proofs.YtdefojlkofnloaaGreatDoor
