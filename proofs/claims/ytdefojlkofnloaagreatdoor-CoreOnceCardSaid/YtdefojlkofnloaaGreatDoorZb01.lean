/- A part of the proof of CoreOnce: for every input, no condition. -/
import Derived.Test.YtdefojlkofnloaaGreatDoorZb00
import Derived.Test.YtdefojlkofnloaaGreatDoorProg
set_option maxRecDepth 100000
set_option maxHeartbeats 8000000
set_option linter.unusedVariables false
set_option linter.unusedSimpArgs false
namespace Go.Proofs.YtdefojlkofnloaaGreatDoor
open Go.RowKit Go.Proofs.Tryz
theorem ZaU:(Tryz.prog.info? 37).map (·.size)=some 9:=by kernel_rfl
theorem ZiE:(Tryz.prog.info? 41).map (·.size)=some 2:=by kernel_rfl
theorem ZmX:(Tryz.prog.info? 45).map (·.size)=some 5:=by kernel_rfl
theorem ZmM:(Tryz.prog.info? 50).map (·.size)=some 3:=by kernel_rfl
def Zdq(a b:Int):Int:=if a<b then -1 else if b<a then 1 else 0
theorem Zeb{a b:Int}:Zdq a b<0↔a<b:=by unfold Zdq;split<;>(try split)<;>omega
theorem ZbX{a b:Int}:Zdq a b=0↔a=b:=by unfold Zdq;split<;>(try split)<;>omega
def ZcV(f:Nat→Bool)(k:Nat):Bool:=(List.range k).all f
theorem ZfJ(f:Nat→Bool):ZcV f 0=true:=rfl
theorem Zcg(f:Nat→Bool)(k:Nat):ZcV f (k+1)=(ZcV f k&&f k):=by simp[ZcV,List.range_succ]
theorem upto_iff(f:Nat→Bool)(k:Nat):ZcV f k=true↔∀j,j<k→f j=true:=by simp[ZcV]
theorem Zd0{f:Nat→Bool}{k n:Nat}(s:k<n)(h:f k=false):ZcV f n=false:=by
 cases h':ZcV f n with
 |false=>rfl
 |true=>rw[(upto_iff f n).1 h' k s] at h;cases h
def fitsQ(q:Int):Bool:=decide (-1000000000≤q∧q≤1000000000)
theorem Zaf{α:Type}{l:List α}{d:α}{k:Nat}(h:k<l.length):l.getD k d=l[k]:=by simp[List.getD,h]
theorem Ziw{α:Type}(l:List α)(d:α){k:Nat}(h:k<l.length):l=l.take k++(l.getD k d::l.drop (k+1)):=by
 rw[Zaf h,←List.drop_eq_getElem_cons h,List.take_append_drop]
theorem add0(b j k:Nat):(⟨b,j,none⟩:Addr).add k=⟨b,j+k,none⟩:=by
 unfold Addr.add
 split
 ·simp_all
 ·rfl
def ow(cur:Array Value)(o:Nat):List Value→Array Value
 |[]=>cur
 |v::r=>ow (cur.setIfInBounds o v) (o+1) r
theorem Zbv(z:List Value):∀(s:Array Value) (o:Nat),(ow s o z).size=s.size:=by
 induction z with
 |nil=>exact fun _ _=>rfl
 |cons v r ih=>exact fun s o=>by rw[ow,ih];simp
theorem Zbu(z:List Value):∀(s:Array Value) (o:Nat),o+z.length≤s.size→(ow s o z).toList=s.toList.take o++(z++s.toList.drop (o+z.length)):=by
 induction z with
 |nil=>intro s o _;simp[ow]
 |cons v r ih=>
  intro s o h
  simp only[List.length_cons] at h
  rw[ow,ih _ _ (by simp;omega)]
  simp only[Array.toList_setIfInBounds,List.length_cons]
  have e1:(s.toList.set o v).take (o+1)=s.toList.take o++[v]:=by
   rw[List.take_set,List.take_add_one]
   rw[List.getElem?_eq_getElem (by simp;omega)]
   simp only[Option.toList_some]
   rw[List.set_append_right _ _ (by simp;omega)]
   simp
   rw[Nat.min_eq_left (by omega)]
   simp
  have e2:(s.toList.set o v).drop (o+1+r.length)=s.toList.drop (o+(r.length+1)):=by
   rw[List.drop_set_of_lt (by omega)]
   congr 1
   omega
  rw[e1,e2]
  simp
theorem Bk.cells{t:TypeId}{g:Nat}(s:List Value):∀ {w:World} {cur:Array Value} (o:Nat),Bk w g t cur→Bk (w.setCells g o s) g t (ow cur o s):=by
 induction s with
 |nil=>exact fun _ h=>h
 |cons v r ih=>exact fun o h=>by rw[World.setCells];exact ih _ (h.set o v)
theorem Below.cells{B g:Nat}(z:B≤g)(s:List Value):∀ {w W:World} (o:Nat),Below B w W→Below B w (W.setCells g o s):=by
 induction s with
 |nil=>exact fun _ h=>h
 |cons v r ih=>exact fun o h=>by rw[World.setCells];exact ih _ (Below.setCell h (p:=⟨g,o,none⟩) z v)
section
namespace O
structure Lc where
 acct:Int
 id:Int
 instr:Int
 qty:Int
 price:Int
deriving DecidableEq
instance:Inhabited Lc:=⟨⟨0,0,0,0,0⟩⟩
def Lc.cells(x:Lc):List Value:=[I x.acct,I x.id,I x.instr,I x.qty,I x.price]
def Lc.val(x:Lc):Value:=.agg #[I x.acct,I x.id,I x.instr,I x.qty,I x.price]
def lcs(l:List Lc):List Value:=l.flatMap Lc.cells
def Lc.is(x:Lc)(a i:Int):Bool:=decide (x.acct=a∧x.id=i)
theorem lcs_append(a b:List Lc):lcs (a++b)=lcs a++lcs b:=List.flatMap_append
theorem lcs_len(l:List Lc):(lcs l).length=l.length*5:=by
 induction l with
 |nil=>rfl
 |cons a l ih=>simp only[lcs,List.flatMap_cons,List.length_append,List.length_cons] at ih ⊢;rw[ih];simp[Lc.cells];omega
theorem Zdd(l:List Lc)(k:Nat)(s:k<l.length)(j:Nat)(z:j<5):(lcs l)[k*5+j]?=(l[k]).cells[j]?:=by
 induction l generalizing k with
 |nil=>simp at s
 |cons a l ih=>
  have e:lcs (a::l)=a.cells++lcs l:=rfl
  rw[e]
  rcases k with _|k
  ·rw[List.getElem?_append_left (by simp[Lc.cells];omega)];simp
  ·rw[List.getElem?_append_right (by simp[Lc.cells];omega),show(k+1)*5+j-a.cells.length=k*5+j by simp[Lc.cells];omega,ih k (by simpa using s)];simp
theorem cells_one(x:Lc):∀u∈x.cells,u.oneCell'=true:=by
 intro u hu
 simp[Lc.cells] at hu
 rcases hu with rfl|rfl|rfl|rfl|rfl<;>rfl
theorem lcs_one(l:List Lc):∀u∈lcs l,u.oneCell'=true:=by
 intro u hu
 obtain⟨x,_,hx⟩:=List.mem_flatMap.1 hu
 exact cells_one x u hx
theorem rd_loc{w:World}{B n:Nat}{A:Option Addr}{l:List Lc}(h:Rd w B 5 A n (lcs l)){k:Nat}(s:k<l.length):
 ∃a,A=some a∧a.block<B∧w.cell? (a.add (k*5))=some (I (l[k]).acct)∧w.cell? ⟨(a.add (k*5)).block,(a.add (k*5)).off+1,none⟩=some (I (l[k]).id)∧w.cell? ⟨(a.add (k*5)).block,(a.add (k*5)).off+2,none⟩=some (I (l[k]).instr)∧w.cell? ⟨(a.add (k*5)).block,(a.add (k*5)).off+3,none⟩=some (I (l[k]).qty)∧w.cell? ⟨(a.add (k*5)).block,(a.add (k*5)).off+4,none⟩=some (I (l[k]).price):=by
 have sp:∀(a:Addr) (j:Nat),a.add (k*5+(j+1))=⟨(a.add (k*5)).block,(a.add (k*5)).off+(j+1),none⟩:=fun a j=>by
  rw[←Ze1];simp[Addr.add]
 obtain⟨a,hA,hb,h0⟩:=h.cell ((Zdd l k s 0 (by omega)).trans rfl)
 obtain⟨a1,z,_,h1⟩:=h.cell ((Zdd l k s 1 (by omega)).trans rfl)
 have e1:a1=a:=Option.some.inj (z.symm.trans hA)
 rw[e1,sp] at h1
 obtain⟨a2,C,_,h2⟩:=h.cell ((Zdd l k s 2 (by omega)).trans rfl)
 have e2:a2=a:=Option.some.inj (C.symm.trans hA)
 rw[e2,sp] at h2
 obtain⟨a3,E,_,h3⟩:=h.cell ((Zdd l k s 3 (by omega)).trans rfl)
 have e3:a3=a:=Option.some.inj (E.symm.trans hA)
 rw[e3,sp] at h3
 obtain⟨a4,G,_,h4⟩:=h.cell ((Zdd l k s 4 (by omega)).trans rfl)
 have e4:a4=a:=Option.some.inj (G.symm.trans hA)
 rw[e4,sp] at h4
 exact⟨_,hA,hb,h0,h1,h2,h3,h4⟩
def ZaN(a b:Lc):Int:=if Zdq a.acct b.acct≠0 then Zdq a.acct b.acct else Zdq a.id b.id
theorem cmpL_lt{a b:Lc}:ZaN a b<0↔a.acct<b.acct∨(a.acct=b.acct∧a.id<b.id):=by
 unfold ZaN
 have h1:=@Zeb a.acct b.acct
 have h2:=@ZbX a.acct b.acct
 have h3:=@Zeb a.id b.id
 split<;>omega
theorem ZbG{a b:Lc}:ZaN a b=0↔a.acct=b.acct∧a.id=b.id:=by
 unfold ZaN
 have h2:=@ZbX a.acct b.acct
 have h3:=@ZbX a.id b.id
 split<;>omega
theorem Zb6{a b c:Lc}(s:ZaN a b<0)(z:ZaN b c<0):ZaN a c<0:=by
 rw[cmpL_lt] at *
 omega
def Sorted(l:List Lc):Prop:=∀i j,i<j→j<l.length→ZaN (l.getD i default) (l.getD j default)<0
def ZbY(l:List Lc)(j:Nat):Bool:=decide (j=0∨ZaN (l.getD (j-1) default) (l.getD j default)<0)
def tidyAt(l:List Lc)(j:Nat):Bool:=fitsQ (l.getD j default).qty&&ZbY l j
def Zc7(l:List Lc):Bool:=ZcV (ZbY l) l.length
def tidyB(l:List Lc):Bool:=ZcV (tidyAt l) l.length
theorem sorted_of(l:List Lc)(h:Zc7 l=true):Sorted l:=by
 have step:∀j,j+1<l.length→ZaN (l.getD j default) (l.getD (j+1) default)<0:=fun j hj=>by
  have:=(upto_iff _ _).1 h (j+1) hj
  simp only[ZbY,decide_eq_true_eq] at this
  rcases this with h0|h0
  ·omega
  ·simpa using h0
 intro i j s
 induction j with
 |zero=>omega
 |succ j ih=>
  intro hj
  by_cases he:i=j
  ·subst he;exact step i hj
  ·exact Zb6 (ih (by omega) (by omega)) (step j hj)
theorem rise_of(l:List Lc)(h:Sorted l):Zc7 l=true:=(upto_iff _ _).2 fun j hj=>by
 unfold ZbY
 rw[decide_eq_true_eq]
 by_cases h0:j=0
 ·exact .inl h0
 ·exact .inr (h (j-1) j (by omega) hj)
theorem tidy_iff(l:List Lc):tidyB l=true↔Zc7 l=true∧∀j,j<l.length→fitsQ (l.getD j default).qty=true:=by
 unfold tidyB Zc7
 rw[upto_iff,upto_iff]
 constructor
 ·intro h
  have h':=fun j hj=>(Bool.and_eq_true_iff.1 (h j hj))
  exact⟨fun j hj=>(h' j hj).2,fun j hj=>(h' j hj).1⟩
 ·rintro⟨h1,h2⟩ j hj
  exact Bool.and_eq_true_iff.2 ⟨h2 j hj,h1 j hj⟩
def place(l:List Lc)(x:Lc):Nat:=l.countP fun y=>decide (ZaN y x<0)
def thereB(l:List Lc)(x:Lc):Bool:=decide (place l x<l.length)&&decide (ZaN (l.getD (place l x) default) x=0)
theorem Zf0{l:List Lc}{x y:Lc}(s:x.acct=y.acct)(C:x.id=y.id):place l x=place l y∧thereB l x=thereB l y:=by
 have e:∀z:Lc,ZaN z x=ZaN z y:=fun z=>by unfold ZaN;rw[s,C]
 have e1:place l x=place l y:=by unfold place;simp only[e]
 refine⟨e1,?_⟩
 unfold thereB
 rw[e1,e]
section
variable {l:List Lc} {x:Lc}
theorem Zcq{i:Nat}(hi:i≤l.length)(s:∀j,j<i→ZaN (l.getD j default) x<0)(z:∀j,i≤j→j<l.length→¬ZaN (l.getD j default) x<0):place l x=i:=by
 unfold place
 have e:(l.take i++l.drop i).countP (fun y=>decide (ZaN y x<0))=i:=by
  rw[List.countP_append]
  have a1:(l.take i).countP (fun y=>decide (ZaN y x<0))=i:=by
   rw[List.countP_eq_length.2,List.length_take,Nat.min_eq_left hi]
   intro y hy
   obtain⟨j,hj,rfl⟩:=List.mem_iff_getElem.1 hy
   rw[List.length_take] at hj
   have:=s j (by omega)
   rw[Zaf (by omega)] at this
   simpa using this
  have a2:(l.drop i).countP (fun y=>decide (ZaN y x<0))=0:=by
   rw[List.countP_eq_zero]
   intro y hy
   obtain⟨j,hj,rfl⟩:=List.mem_iff_getElem.1 hy
   rw[List.length_drop] at hj
   have:=z (i+j) (by omega) (by omega)
   rw[Zaf (by omega)] at this
   simpa using this
  omega
 rwa [List.take_append_drop] at e
theorem Sorted.low(h:Sorted l){j k:Nat}(s:j≤k)(C:k<l.length)(z:ZaN (l.getD k default) x<0):ZaN (l.getD j default) x<0:=by
 rcases Nat.lt_or_eq_of_le s with h1|rfl
 ·exact Zb6 (h j k h1 C) z
 ·exact z
theorem Sorted.high(h:Sorted l){j k:Nat}(s:j≤k)(z:k<l.length)(C:¬ZaN (l.getD j default) x<0):¬ZaN (l.getD k default) x<0:=fun hc=>C (h.low s z hc)
theorem Sorted.place(h:Sorted l)(x:Lc):YtdefojlkofnloaaGreatDoor.O.place l x≤l.length∧(∀j,j<YtdefojlkofnloaaGreatDoor.O.place l x→ZaN (l.getD j default) x<0)∧(∀j,YtdefojlkofnloaaGreatDoor.O.place l x≤j→j<l.length→¬ZaN (l.getD j default) x<0):=by
 have ex:∃i,i≤l.length∧(∀j,j<i→ZaN (l.getD j default) x<0)∧(∀j,i≤j→j<l.length→¬ZaN (l.getD j default) x<0):=by
  suffices ∀m,m≤l.length→(∀j,j<m→ZaN (l.getD j default) x<0)∨∃i,i<m∧(∀j,j<i→ZaN (l.getD j default) x<0)∧¬ZaN (l.getD i default) x<0 by
   rcases this l.length (Nat.le_refl _) with h1|⟨i,hi,h1,h2⟩
   ·exact⟨l.length,Nat.le_refl _,h1,fun j h2 h3=>absurd h3 (by omega)⟩
   ·exact⟨i,by omega,h1,fun j h3 h4=>h.high h3 h4 h2⟩
  intro m
  induction m with
  |zero=>exact fun _=>.inl fun j hj=>absurd hj (by omega)
  |succ m ih=>
   intro hm
   rcases ih (by omega) with h1|⟨i,hi,h1,h2⟩
   ·by_cases hc:ZaN (l.getD m default) x<0
    ·refine .inl fun j hj=>?_
     rcases Nat.lt_or_eq_of_le (Nat.lt_succ_iff.1 hj) with h3|rfl
     ·exact h1 j h3
     ·exact hc
    ·exact .inr ⟨m,by omega,h1,hc⟩
   ·exact .inr ⟨i,by omega,h1,h2⟩
 obtain⟨i,hi,h0,h1⟩:=ex
 rw[Zcq hi h0 h1]
 exact⟨hi,h0,h1⟩
theorem Zfu(x y:Lc):y.is x.acct x.id=decide (ZaN y x=0):=by
 unfold Lc.is
 exact decide_eq_decide.2 (ZbG (a:=y) (b:=x)).symm
theorem Sorted.key(h:Sorted l)(x:Lc){j:Nat}(z:j<l.length):(l.getD j default).is x.acct x.id=true↔(j=YtdefojlkofnloaaGreatDoor.O.place l x∧thereB l x=true):=by
 obtain⟨h1,h2,h3⟩:=h.place x
 rw[Zfu,decide_eq_true_eq]
 constructor
 ·intro hc
  have e1:¬j<YtdefojlkofnloaaGreatDoor.O.place l x:=fun hl=>by have:=h2 j hl;omega
  have e2:¬YtdefojlkofnloaaGreatDoor.O.place l x<j:=fun hl=>by
   have s:=h (YtdefojlkofnloaaGreatDoor.O.place l x) j hl z
   have n:=h3 _ (Nat.le_refl _) (by omega)
   rw[ZbG] at hc
   rw[cmpL_lt] at s n
   omega
  have e:j=YtdefojlkofnloaaGreatDoor.O.place l x:=by omega
  refine⟨e,?_⟩
  unfold thereB
  rw[←e]
  rw[decide_eq_true z,decide_eq_true hc]
  rfl
 ·rintro⟨e,ht⟩
  unfold thereB at ht
  rw[←e] at ht
  simp only[Bool.and_eq_true,decide_eq_true_eq] at ht
  exact ht.2
theorem there_lt{x:Lc}(h:thereB l x=true):YtdefojlkofnloaaGreatDoor.O.place l x<l.length:=by
 unfold thereB at h
 simp only[Bool.and_eq_true,decide_eq_true_eq] at h
 exact h.1
end
end O
end
section
namespace P
structure Lc where
 acct:Int
 instr:Int
 qty:Int
deriving DecidableEq
instance:Inhabited Lc:=⟨⟨0,0,0⟩⟩
def Lc.cells(x:Lc):List Value:=[I x.acct,I x.instr,I x.qty]
def Lc.val(x:Lc):Value:=.agg #[I x.acct,I x.instr,I x.qty]
def lcs(l:List Lc):List Value:=l.flatMap Lc.cells
def Lc.is(x:Lc)(a i:Int):Bool:=decide (x.acct=a∧x.instr=i)
theorem lcs_append(a b:List Lc):lcs (a++b)=lcs a++lcs b:=List.flatMap_append
theorem lcs_len(l:List Lc):(lcs l).length=l.length*3:=by
 induction l with
 |nil=>rfl
 |cons a l ih=>simp only[lcs,List.flatMap_cons,List.length_append,List.length_cons] at ih ⊢;rw[ih];simp[Lc.cells];omega
theorem Zdd(l:List Lc)(k:Nat)(s:k<l.length)(j:Nat)(z:j<3):(lcs l)[k*3+j]?=(l[k]).cells[j]?:=by
 induction l generalizing k with
 |nil=>simp at s
 |cons a l ih=>
  have e:lcs (a::l)=a.cells++lcs l:=rfl
  rw[e]
  rcases k with _|k
  ·rw[List.getElem?_append_left (by simp[Lc.cells];omega)];simp
  ·rw[List.getElem?_append_right (by simp[Lc.cells];omega),show(k+1)*3+j-a.cells.length=k*3+j by simp[Lc.cells];omega,ih k (by simpa using s)];simp
theorem cells_one(x:Lc):∀u∈x.cells,u.oneCell'=true:=by
 intro u hu
 simp[Lc.cells] at hu
 rcases hu with rfl|rfl|rfl<;>rfl
theorem lcs_one(l:List Lc):∀u∈lcs l,u.oneCell'=true:=by
 intro u hu
 obtain⟨x,_,hx⟩:=List.mem_flatMap.1 hu
 exact cells_one x u hx
theorem rd_loc{w:World}{B n:Nat}{A:Option Addr}{l:List Lc}(h:Rd w B 3 A n (lcs l)){k:Nat}(C:k<l.length):
 ∃a,A=some a∧a.block<B∧w.cell? (a.add (k*3))=some (I (l[k]).acct)∧w.cell? ⟨(a.add (k*3)).block,(a.add (k*3)).off+1,none⟩=some (I (l[k]).instr)∧w.cell? ⟨(a.add (k*3)).block,(a.add (k*3)).off+2,none⟩=some (I (l[k]).qty):=by
 have sp:∀(a:Addr) (j:Nat),a.add (k*3+(j+1))=⟨(a.add (k*3)).block,(a.add (k*3)).off+(j+1),none⟩:=fun a j=>by
  rw[←Ze1];simp[Addr.add]
 obtain⟨a,hA,hb,h0⟩:=h.cell ((Zdd l k C 0 (by omega)).trans rfl)
 obtain⟨a1,s,_,h1⟩:=h.cell ((Zdd l k C 1 (by omega)).trans rfl)
 have e1:a1=a:=Option.some.inj (s.symm.trans hA)
 rw[e1,sp] at h1
 obtain⟨a2,z,_,h2⟩:=h.cell ((Zdd l k C 2 (by omega)).trans rfl)
 have e2:a2=a:=Option.some.inj (z.symm.trans hA)
 rw[e2,sp] at h2
 exact⟨_,hA,hb,h0,h1,h2⟩
def ZaN(a b:Lc):Int:=if Zdq a.acct b.acct≠0 then Zdq a.acct b.acct else Zdq a.instr b.instr
theorem cmpL_lt{a b:Lc}:ZaN a b<0↔a.acct<b.acct∨(a.acct=b.acct∧a.instr<b.instr):=by
 unfold ZaN
 have h1:=@Zeb a.acct b.acct
 have h2:=@ZbX a.acct b.acct
 have h3:=@Zeb a.instr b.instr
 split<;>omega
theorem ZbG{a b:Lc}:ZaN a b=0↔a.acct=b.acct∧a.instr=b.instr:=by
 unfold ZaN
 have h2:=@ZbX a.acct b.acct
 have h3:=@ZbX a.instr b.instr
 split<;>omega
theorem Zb6{a b c:Lc}(s:ZaN a b<0)(z:ZaN b c<0):ZaN a c<0:=by
 rw[cmpL_lt] at *
 omega
def Sorted(l:List Lc):Prop:=∀i j,i<j→j<l.length→ZaN (l.getD i default) (l.getD j default)<0
def ZbY(l:List Lc)(j:Nat):Bool:=decide (j=0∨ZaN (l.getD (j-1) default) (l.getD j default)<0)
def tidyAt(l:List Lc)(j:Nat):Bool:=fitsQ (l.getD j default).qty&&ZbY l j
def Zc7(l:List Lc):Bool:=ZcV (ZbY l) l.length
def tidyB(l:List Lc):Bool:=ZcV (tidyAt l) l.length
theorem sorted_of(l:List Lc)(h:Zc7 l=true):Sorted l:=by
 have step:∀j,j+1<l.length→ZaN (l.getD j default) (l.getD (j+1) default)<0:=fun j hj=>by
  have:=(upto_iff _ _).1 h (j+1) hj
  simp only[ZbY,decide_eq_true_eq] at this
  rcases this with h0|h0
  ·omega
  ·simpa using h0
 intro i j s
 induction j with
 |zero=>omega
 |succ j ih=>
  intro hj
  by_cases he:i=j
  ·subst he;exact step i hj
  ·exact Zb6 (ih (by omega) (by omega)) (step j hj)
theorem rise_of(l:List Lc)(h:Sorted l):Zc7 l=true:=(upto_iff _ _).2 fun j hj=>by
 unfold ZbY
 rw[decide_eq_true_eq]
 by_cases h0:j=0
 ·exact .inl h0
 ·exact .inr (h (j-1) j (by omega) hj)
theorem tidy_iff(l:List Lc):tidyB l=true↔Zc7 l=true∧∀j,j<l.length→fitsQ (l.getD j default).qty=true:=by
 unfold tidyB Zc7
 rw[upto_iff,upto_iff]
 constructor
 ·intro h
  have h':=fun j hj=>(Bool.and_eq_true_iff.1 (h j hj))
  exact⟨fun j hj=>(h' j hj).2,fun j hj=>(h' j hj).1⟩
 ·rintro⟨h1,h2⟩ j hj
  exact Bool.and_eq_true_iff.2 ⟨h2 j hj,h1 j hj⟩
def place(l:List Lc)(x:Lc):Nat:=l.countP fun y=>decide (ZaN y x<0)
def thereB(l:List Lc)(x:Lc):Bool:=decide (place l x<l.length)&&decide (ZaN (l.getD (place l x) default) x=0)
theorem Zf0{l:List Lc}{x y:Lc}(s:x.acct=y.acct)(C:x.instr=y.instr):place l x=place l y∧thereB l x=thereB l y:=by
 have e:∀z:Lc,ZaN z x=ZaN z y:=fun z=>by unfold ZaN;rw[s,C]
 have e1:place l x=place l y:=by unfold place;simp only[e]
 refine⟨e1,?_⟩
 unfold thereB
 rw[e1,e]
section
variable {l:List Lc} {x:Lc}
theorem Zcq{i:Nat}(hi:i≤l.length)(s:∀j,j<i→ZaN (l.getD j default) x<0)(z:∀j,i≤j→j<l.length→¬ZaN (l.getD j default) x<0):place l x=i:=by
 unfold place
 have e:(l.take i++l.drop i).countP (fun y=>decide (ZaN y x<0))=i:=by
  rw[List.countP_append]
  have a1:(l.take i).countP (fun y=>decide (ZaN y x<0))=i:=by
   rw[List.countP_eq_length.2,List.length_take,Nat.min_eq_left hi]
   intro y hy
   obtain⟨j,hj,rfl⟩:=List.mem_iff_getElem.1 hy
   rw[List.length_take] at hj
   have:=s j (by omega)
   rw[Zaf (by omega)] at this
   simpa using this
  have a2:(l.drop i).countP (fun y=>decide (ZaN y x<0))=0:=by
   rw[List.countP_eq_zero]
   intro y hy
   obtain⟨j,hj,rfl⟩:=List.mem_iff_getElem.1 hy
   rw[List.length_drop] at hj
   have:=z (i+j) (by omega) (by omega)
   rw[Zaf (by omega)] at this
   simpa using this
  omega
 rwa [List.take_append_drop] at e
theorem Sorted.low(h:Sorted l){j k:Nat}(s:j≤k)(C:k<l.length)(z:ZaN (l.getD k default) x<0):ZaN (l.getD j default) x<0:=by
 rcases Nat.lt_or_eq_of_le s with h1|rfl
 ·exact Zb6 (h j k h1 C) z
 ·exact z
theorem Sorted.high(h:Sorted l){j k:Nat}(s:j≤k)(z:k<l.length)(C:¬ZaN (l.getD j default) x<0):¬ZaN (l.getD k default) x<0:=fun hc=>C (h.low s z hc)
theorem Sorted.place(h:Sorted l)(x:Lc):YtdefojlkofnloaaGreatDoor.P.place l x≤l.length∧(∀j,j<YtdefojlkofnloaaGreatDoor.P.place l x→ZaN (l.getD j default) x<0)∧(∀j,YtdefojlkofnloaaGreatDoor.P.place l x≤j→j<l.length→¬ZaN (l.getD j default) x<0):=by
 have ex:∃i,i≤l.length∧(∀j,j<i→ZaN (l.getD j default) x<0)∧(∀j,i≤j→j<l.length→¬ZaN (l.getD j default) x<0):=by
  suffices ∀m,m≤l.length→(∀j,j<m→ZaN (l.getD j default) x<0)∨∃i,i<m∧(∀j,j<i→ZaN (l.getD j default) x<0)∧¬ZaN (l.getD i default) x<0 by
   rcases this l.length (Nat.le_refl _) with h1|⟨i,hi,h1,h2⟩
   ·exact⟨l.length,Nat.le_refl _,h1,fun j h2 h3=>absurd h3 (by omega)⟩
   ·exact⟨i,by omega,h1,fun j h3 h4=>h.high h3 h4 h2⟩
  intro m
  induction m with
  |zero=>exact fun _=>.inl fun j hj=>absurd hj (by omega)
  |succ m ih=>
   intro hm
   rcases ih (by omega) with h1|⟨i,hi,h1,h2⟩
   ·by_cases hc:ZaN (l.getD m default) x<0
    ·refine .inl fun j hj=>?_
     rcases Nat.lt_or_eq_of_le (Nat.lt_succ_iff.1 hj) with h3|rfl
     ·exact h1 j h3
     ·exact hc
    ·exact .inr ⟨m,by omega,h1,hc⟩
   ·exact .inr ⟨i,by omega,h1,h2⟩
 obtain⟨i,hi,h0,h1⟩:=ex
 rw[Zcq hi h0 h1]
 exact⟨hi,h0,h1⟩
theorem Zfu(x y:Lc):y.is x.acct x.instr=decide (ZaN y x=0):=by
 unfold Lc.is
 exact decide_eq_decide.2 (ZbG (a:=y) (b:=x)).symm
theorem Sorted.key(h:Sorted l)(x:Lc){j:Nat}(z:j<l.length):(l.getD j default).is x.acct x.instr=true↔(j=YtdefojlkofnloaaGreatDoor.P.place l x∧thereB l x=true):=by
 obtain⟨h1,h2,h3⟩:=h.place x
 rw[Zfu,decide_eq_true_eq]
 constructor
 ·intro hc
  have e1:¬j<YtdefojlkofnloaaGreatDoor.P.place l x:=fun hl=>by have:=h2 j hl;omega
  have e2:¬YtdefojlkofnloaaGreatDoor.P.place l x<j:=fun hl=>by
   have s:=h (YtdefojlkofnloaaGreatDoor.P.place l x) j hl z
   have n:=h3 _ (Nat.le_refl _) (by omega)
   rw[ZbG] at hc
   rw[cmpL_lt] at s n
   omega
  have e:j=YtdefojlkofnloaaGreatDoor.P.place l x:=by omega
  refine⟨e,?_⟩
  unfold thereB
  rw[←e]
  rw[decide_eq_true z,decide_eq_true hc]
  rfl
 ·rintro⟨e,ht⟩
  unfold thereB at ht
  rw[←e] at ht
  simp only[Bool.and_eq_true,decide_eq_true_eq] at ht
  exact ht.2
theorem there_lt{x:Lc}(h:thereB l x=true):YtdefojlkofnloaaGreatDoor.P.place l x<l.length:=by
 unfold thereB at h
 simp only[Bool.and_eq_true,decide_eq_true_eq] at h
 exact h.1
end
end P
end
namespace L
structure Lc where
 acct:Int
 instr:Int
 qty:Int
deriving DecidableEq
instance:Inhabited Lc:=⟨⟨0,0,0⟩⟩
def Lc.cells(x:Lc):List Value:=[I x.acct,I x.instr,I x.qty]
def Lc.val(x:Lc):Value:=.agg #[I x.acct,I x.instr,I x.qty]
def lcs(l:List Lc):List Value:=l.flatMap Lc.cells
def Zgs(l:List Int):List Value:=l.map fun q=>I q
theorem lcs_append(a b:List Lc):lcs (a++b)=lcs a++lcs b:=List.flatMap_append
theorem lcs_len(l:List Lc):(lcs l).length=l.length*3:=by
 induction l with
 |nil=>rfl
 |cons a l ih=>simp only[lcs,List.flatMap_cons,List.length_append,List.length_cons] at ih ⊢;rw[ih];simp[Lc.cells];omega
theorem Zdd(l:List Lc)(k:Nat)(s:k<l.length)(j:Nat)(z:j<3):(lcs l)[k*3+j]?=(l[k]).cells[j]?:=by
 induction l generalizing k with
 |nil=>simp at s
 |cons a l ih=>
  have e:lcs (a::l)=a.cells++lcs l:=rfl
  rw[e]
  rcases k with _|k
  ·rw[List.getElem?_append_left (by simp[Lc.cells];omega)];simp
  ·rw[List.getElem?_append_right (by simp[Lc.cells];omega),show(k+1)*3+j-a.cells.length=k*3+j by simp[Lc.cells];omega,ih k (by simpa using s)];simp
theorem Zl4(l:List Int)(k:Nat)(s:k<l.length):(Zgs l)[k]?=some (I l[k]):=by simp[Zgs,s]
theorem Ze3(l:List Int):(Zgs l).length=l.length:=by simp[Zgs]
theorem Ze4(l:List Int):∀u∈Zgs l,u.oneCell'=true:=by
 intro u hu
 obtain⟨_,_,rfl⟩:=List.mem_map.1 hu
 rfl
theorem cells_one(x:Lc):∀u∈x.cells,u.oneCell'=true:=by
 intro u hu
 simp[Lc.cells] at hu
 rcases hu with rfl|rfl|rfl<;>rfl
theorem lcs_one(l:List Lc):∀u∈lcs l,u.oneCell'=true:=by
 intro u hu
 obtain⟨x,_,hx⟩:=List.mem_flatMap.1 hu
 exact cells_one x u hx
end L
open L in
theorem Rd.int{w:World}{B n:Nat}{A:Option Addr}{l:List Int}(h:Rd w B 1 A n (Zgs l)){k:Nat}(s:k<l.length):∃a,A=some a∧a.block<B∧w.cell? (a.add k)=some (I l[k]):=
 h.cell (Zl4 l k s)
open L in
theorem Rd.loc{w:World}{B n:Nat}{A:Option Addr}{l:List Lc}(h:Rd w B 3 A n (lcs l)){k:Nat}(C:k<l.length):
 ∃a,A=some a∧a.block<B∧w.cell? (a.add (k*3))=some (I (l[k]).acct)∧w.cell? ⟨(a.add (k*3)).block,(a.add (k*3)).off+1,none⟩=some (I (l[k]).instr)∧w.cell? ⟨(a.add (k*3)).block,(a.add (k*3)).off+2,none⟩=some (I (l[k]).qty):=by
 have sp:∀(a:Addr) (j:Nat),a.add (k*3+(j+1))=⟨(a.add (k*3)).block,(a.add (k*3)).off+(j+1),none⟩:=fun a j=>by
  rw[←Ze1];simp[Addr.add]
 obtain⟨a,hA,hb,h0⟩:=h.cell ((Zdd l k C 0 (by omega)).trans rfl)
 obtain⟨a1,s,_,h1⟩:=h.cell ((Zdd l k C 1 (by omega)).trans rfl)
 obtain⟨a2,z,_,h2⟩:=h.cell ((Zdd l k C 2 (by omega)).trans rfl)
 have e1:a1=a:=Option.some.inj (s.symm.trans hA)
 have e2:a2=a:=Option.some.inj (z.symm.trans hA)
 subst e1 e2
 rw[sp] at h1 h2
 exact⟨_,hA,hb,h0,h1,h2⟩
namespace L
def Zdq(a b:Int):Int:=if a<b then -1 else if b<a then 1 else 0
def ZaN(a b:Lc):Int:=if Zdq a.acct b.acct≠0 then Zdq a.acct b.acct else Zdq a.instr b.instr
theorem Zeb{a b:Int}:Zdq a b<0↔a<b:=by unfold Zdq;split<;>(try split)<;>omega
theorem ZbX{a b:Int}:Zdq a b=0↔a=b:=by unfold Zdq;split<;>(try split)<;>omega
theorem cmpL_lt{a b:Lc}:ZaN a b<0↔a.acct<b.acct∨(a.acct=b.acct∧a.instr<b.instr):=by
 unfold ZaN
 have h1:=@Zeb a.acct b.acct
 have h2:=@ZbX a.acct b.acct
 have h3:=@Zeb a.instr b.instr
 split<;>omega
theorem ZbG{a b:Lc}:ZaN a b=0↔a.acct=b.acct∧a.instr=b.instr:=by
 unfold ZaN
 have h2:=@ZbX a.acct b.acct
 have h3:=@ZbX a.instr b.instr
 split<;>omega
theorem Zb6{a b c:Lc}(s:ZaN a b<0)(z:ZaN b c<0):ZaN a c<0:=by
 rw[cmpL_lt] at *
 omega
def Sorted(l:List Lc):Prop:=∀i j,i<j→j<l.length→ZaN (l.getD i default) (l.getD j default)<0
def ZcV(f:Nat→Bool)(k:Nat):Bool:=(List.range k).all f
theorem ZfJ(f:Nat→Bool):ZcV f 0=true:=rfl
theorem Zcg(f:Nat→Bool)(k:Nat):ZcV f (k+1)=(ZcV f k&&f k):=by simp[ZcV,List.range_succ]
theorem upto_iff(f:Nat→Bool)(k:Nat):ZcV f k=true↔∀j,j<k→f j=true:=by simp[ZcV]
theorem Zd0{f:Nat→Bool}{k n:Nat}(s:k<n)(h:f k=false):ZcV f n=false:=by
 cases h':ZcV f n with
 |false=>rfl
 |true=>rw[(upto_iff f n).1 h' k s] at h;cases h
def fitsQ(q:Int):Bool:=decide (0≤q∧q≤1000000000)
def ZbY(l:List Lc)(j:Nat):Bool:=decide (j=0∨ZaN (l.getD (j-1) default) (l.getD j default)<0)
def tidyAt(l:List Lc)(j:Nat):Bool:=fitsQ (l.getD j default).qty&&ZbY l j
def tidyB(av:List Int)(l:List Lc):Bool:=av.all fitsQ&&ZcV (tidyAt l) l.length
def inAt(a n:Int)(l:List Lc)(j:Nat):Bool:=decide (2≤(l.getD j default).acct∧(l.getD j default).acct<a∧0≤(l.getD j default).instr∧(l.getD j default).instr<n∧(l.getD j default).qty≠0)
def goodB(av:List Int)(l:List Lc)(a n:Int):Bool:=decide ((av.length:Int)=n∧l.length≤32)&&(tidyB av l&&ZcV (inAt a n l) l.length)
theorem sorted_of(l:List Lc)(h:ZcV (tidyAt l) l.length=true):Sorted l:=by
 have step:∀j,j+1<l.length→ZaN (l.getD j default) (l.getD (j+1) default)<0:=fun j hj=>by
  have:=(upto_iff _ _).1 h (j+1) hj
  simp only[tidyAt,ZbY,Bool.and_eq_true,decide_eq_true_eq] at this
  rcases this.2 with h0|h0
  ·omega
  ·simpa using h0
 intro i j s
 induction j with
 |zero=>omega
 |succ j ih=>
  intro hj
  by_cases he:i=j
  ·subst he;exact step i hj
  ·exact Zb6 (ih (by omega) (by omega)) (step j hj)
def ZiZ(a i:Int)(x:Lc):Bool:=decide (x.acct=a∧x.instr=i)
def heldL(l:List Lc)(a i:Int):Int:=match l.find? (ZiZ a i) with|some x=>x.qty|none=>0
def supplyS(av:List Int)(i q:Int):List Int×Int:=
 if i<0∨(av.length:Int)≤i then([],32)
 else if q < -1000000000∨1000000000<q∨av.getD i.toNat 0+q<0∨1000000000<av.getD i.toNat 0+q then([],36)
 else(av.set i.toNat (av.getD i.toNat 0+q),0)
def place(l:List Lc)(x:Lc):Nat:=l.countP fun y=>decide (ZaN y x<0)
def thereB(l:List Lc)(x:Lc):Bool:=decide (place l x<l.length)&&decide (ZaN (l.getD (place l x) default) x=0)
def putL(l:List Lc)(p:Nat)(there:Bool)(x:Lc):List Lc:=l.take p++((if x.qty=0 then[] else[x])++l.drop (if there then p+1 else p))
def reserveS(av:List Int)(l:List Lc)(a i q:Int):List Int×List Lc×Int:=
 if i<0∨(av.length:Int)≤i then([],[],32)
 else if q < -1000000000∨1000000000<q∨heldL l a i+q<0∨1000000000<heldL l a i+q then([],[],36)
 else if av.getD i.toNat 0<q then([],[],39)
 else if 1000000000<av.getD i.toNat 0-q then([],[],36)
 else if thereB l ⟨a,i,0⟩=false∧heldL l a i+q≠0∧32≤l.length then([],[],40)
 else(av.set i.toNat (av.getD i.toNat 0-q),putL l (place l ⟨a,i,0⟩) (thereB l ⟨a,i,0⟩) ⟨a,i,heldL l a i+q⟩,0)
end L
section
namespace L
theorem Zaf{α:Type}{l:List α}{d:α}{k:Nat}(h:k<l.length):l.getD k d=l[k]:=by simp[List.getD,h]
theorem Ziw{α:Type}(l:List α)(d:α){k:Nat}(h:k<l.length):l=l.take k++(l.getD k d::l.drop (k+1)):=by
 rw[Zaf h,←List.drop_eq_getElem_cons h,List.take_append_drop]
theorem ZjP{l:List Lc}{a i:Int}{k:Nat}(C:k<l.length)(s:∀j,j<k→ZiZ a i (l.getD j default)=false)(z:ZiZ a i (l.getD k default)=true):heldL l a i=(l.getD k default).qty:=by
 unfold heldL
 have:l.find? (ZiZ a i)=some (l.getD k default):=by
  rw[List.find?_eq_some_iff_append]
  refine⟨z,l.take k,l.drop (k+1),Ziw l default C,fun x hx=>?_⟩
  obtain⟨j,hj,rfl⟩:=List.mem_iff_getElem.1 hx
  rw[List.length_take] at hj
  have:=s j (by omega)
  rw[Zaf (by omega)] at this
  simp[this]
 rw[this]
theorem ZiV{l:List Lc}{a i:Int}(s:∀j,j<l.length→ZiZ a i (l.getD j default)=false):heldL l a i=0:=by
 unfold heldL
 have:l.find? (ZiZ a i)=none:=by
  rw[List.find?_eq_none]
  intro x hx
  obtain⟨j,hj,rfl⟩:=List.mem_iff_getElem.1 hx
  have:=s j hj
  rw[Zaf hj] at this
  simp[this]
 rw[this]
section
variable {l:List Lc} {x:Lc}
theorem Zcq{i:Nat}(hi:i≤l.length)(s:∀j,j<i→ZaN (l.getD j default) x<0)(z:∀j,i≤j→j<l.length→¬ZaN (l.getD j default) x<0):place l x=i:=by
 unfold place
 have e:(l.take i++l.drop i).countP (fun y=>decide (ZaN y x<0))=i:=by
  rw[List.countP_append]
  have a1:(l.take i).countP (fun y=>decide (ZaN y x<0))=i:=by
   rw[List.countP_eq_length.2,List.length_take,Nat.min_eq_left hi]
   intro y hy
   obtain⟨j,hj,rfl⟩:=List.mem_iff_getElem.1 hy
   rw[List.length_take] at hj
   have:=s j (by omega)
   rw[Zaf (by omega)] at this
   simpa using this
  have a2:(l.drop i).countP (fun y=>decide (ZaN y x<0))=0:=by
   rw[List.countP_eq_zero]
   intro y hy
   obtain⟨j,hj,rfl⟩:=List.mem_iff_getElem.1 hy
   rw[List.length_drop] at hj
   have:=z (i+j) (by omega) (by omega)
   rw[Zaf (by omega)] at this
   simpa using this
  omega
 rwa [List.take_append_drop] at e
theorem Sorted.low(h:Sorted l){j k:Nat}(s:j≤k)(C:k<l.length)(z:ZaN (l.getD k default) x<0):ZaN (l.getD j default) x<0:=by
 rcases Nat.lt_or_eq_of_le s with h1|rfl
 ·exact Zb6 (h j k h1 C) z
 ·exact z
theorem Sorted.high(h:Sorted l){j k:Nat}(s:j≤k)(z:k<l.length)(C:¬ZaN (l.getD j default) x<0):¬ZaN (l.getD k default) x<0:=fun hc=>C (h.low s z hc)
theorem Sorted.place(h:Sorted l)(x:Lc):L.place l x≤l.length∧(∀j,j<L.place l x→ZaN (l.getD j default) x<0)∧(∀j,L.place l x≤j→j<l.length→¬ZaN (l.getD j default) x<0):=by
 have ex:∃i,i≤l.length∧(∀j,j<i→ZaN (l.getD j default) x<0)∧(∀j,i≤j→j<l.length→¬ZaN (l.getD j default) x<0):=by
  suffices ∀m,m≤l.length→(∀j,j<m→ZaN (l.getD j default) x<0)∨∃i,i<m∧(∀j,j<i→ZaN (l.getD j default) x<0)∧¬ZaN (l.getD i default) x<0 by
   rcases this l.length (Nat.le_refl _) with h1|⟨i,hi,h1,h2⟩
   ·exact⟨l.length,Nat.le_refl _,h1,fun j h2 h3=>absurd h3 (by omega)⟩
   ·exact⟨i,by omega,h1,fun j h3 h4=>h.high h3 h4 h2⟩
  intro m
  induction m with
  |zero=>exact fun _=>.inl fun j hj=>absurd hj (by omega)
  |succ m ih=>
   intro hm
   rcases ih (by omega) with h1|⟨i,hi,h1,h2⟩
   ·by_cases hc:ZaN (l.getD m default) x<0
    ·refine .inl fun j hj=>?_
     rcases Nat.lt_or_eq_of_le (Nat.lt_succ_iff.1 hj) with h3|rfl
     ·exact h1 j h3
     ·exact hc
    ·exact .inr ⟨m,by omega,h1,hc⟩
   ·exact .inr ⟨i,by omega,h1,h2⟩
 obtain⟨i,hi,h0,h1⟩:=ex
 rw[Zcq hi h0 h1]
 exact⟨hi,h0,h1⟩
theorem Zfu(a i q:Int)(y:Lc):ZiZ a i y=decide (ZaN y ⟨a,i,q⟩=0):=by
 unfold ZiZ
 exact decide_eq_decide.2 (ZbG (a:=y) (b:=⟨a,i,q⟩)).symm
theorem Sorted.key(h:Sorted l)(a i q:Int){j:Nat}(z:j<l.length):ZiZ a i (l.getD j default)=true↔(j=L.place l ⟨a,i,q⟩∧thereB l ⟨a,i,q⟩=true):=by
 obtain⟨h1,h2,h3⟩:=h.place ⟨a,i,q⟩
 rw[Zfu a i q,decide_eq_true_eq]
 constructor
 ·intro hc
  have e1:¬j<L.place l ⟨a,i,q⟩:=fun hl=>by have:=h2 j hl;omega
  have e2:¬L.place l ⟨a,i,q⟩<j:=fun hl=>by
   have s:=h (L.place l ⟨a,i,q⟩) j hl z
   have n:=h3 _ (Nat.le_refl _) (by omega)
   rw[ZbG] at hc
   rw[cmpL_lt] at s n
   dsimp only at hc n
   omega
  have e:j=L.place l ⟨a,i,q⟩:=by omega
  refine⟨e,?_⟩
  unfold thereB
  rw[←e]
  rw[decide_eq_true z,decide_eq_true hc]
  rfl
 ·rintro⟨e,ht⟩
  unfold thereB at ht
  rw[←e] at ht
  simp only[Bool.and_eq_true,decide_eq_true_eq] at ht
  exact ht.2
end
theorem Zkb(l:List Lc)(a i q r:Int):place l ⟨a,i,q⟩=place l ⟨a,i,r⟩:=rfl
theorem Zkt(l:List Lc)(a i q r:Int):thereB l ⟨a,i,q⟩=thereB l ⟨a,i,r⟩:=rfl
end L
end
section
def Cs:List (Nat×Nat×Value)→World→Prop
 |[],_=>True
 |[(b,i,v)],U=>U.cell? (Aq b i)=some v
 |(b,i,v)::y::l,U=>U.cell? (Aq b i)=some v∧Cs (y::l) U
section
variable {P:Program} {ops:Array Oper} {Q:Exit→Act→World→Prop} {id:Nat} {a:Act} {w W:World} {g t i b:Nat} {cs:Array Value} {v:Value} {y:Nat×Nat×Value} {l:List (Nat×Nat×Value)}
theorem CsA(h:Hid (Bk W g t cs))(i:Nat)(e:nth cs.toList i=some v)(k:Cs (y::l) W):Cs ((g,i,v)::y::l) W:=⟨Ct h i e,k⟩
theorem CsB(h:Hid (Bk W g t cs))(i:Nat)(e:nth cs.toList i=some v):Cs [(g,i,v)] W:=Ct h i e
theorem rgK(z:P.follows .mixedOrders=true)(e:W=w.drew)(s:Cs l W)(h:Cs l W→wpAnyH P .any ops Q (Cs l) ops.size (Array.replicate ops.size false) a W):(Code.region id ops true).wp P Q a w:=by subst e;exact wp_region_held_drew z s h
theorem rgL(st:Nat)(z:P.follows .mixedOrders=true)(e:W=w.drew)(s:Cs l W)(h:Cs l W→Zd9 P .any ops Q (Cs l) st ops.size (Array.replicate ops.size false) a W):(Code.region id ops true).wp P Q a w:=by subst e;exact Zbf _ st z (h s)
end
end
end Go.Proofs.YtdefojlkofnloaaGreatDoor
