/- A part of the proof of CorePositions: for every input, no condition. -/
import Derived.Test.YtdefojlkofnloaaGreatDoorZa41
set_option maxRecDepth 100000
set_option maxHeartbeats 8000000
set_option linter.unusedVariables false
set_option linter.unusedSimpArgs false
namespace Go.Proofs.YtdefojlkofnloaaGreatDoor
open Go.RowKit Go.Proofs.Tryz
section
def Zjy(l:Nat)(rec:LoopState→Option Code→Loop)(R:Ending→World→Prop):Exit→Act→World→Prop
 |.normal,_,w=>w.heap[l]?=some (.loop (rec .busy none))∧R (.returned (.bool true)) (w.putObj l (.loop (rec .ready none)))
 |.ret,_,w=>w.heap[l]?=some (.loop (rec .busy none))∧R (.returned (.bool false)) (w.putObj l (.loop (rec .done (some .ret))))
 |_,_,_=>False
theorem ZkD{P:Program}{fn:FuncId}{W:World}{l D:Nat}{tmps:Array Value}{ps:Array Tmp}{s z:Code}{args:Array Value}{R:Ending→World→Prop}{C:LoopState→Option Code→Loop}(G:C=Zbt fn tmps ps s z D)(J:W.heap[l]?=some (.loop (C .ready none)))(L:args.size=ps.size)(h:s.wpIn (Fence.wide.inRound l) 0 P (Exit.then (fun a₁ w₁=>w₁.heap[l]?=some (.loop (C .ready none)) ∧
  z.wpIn (Fence.wide.inRound l) 0 P (Zjy l C R) a₁ (w₁.putObj l (.loop (C .busy none)))) (fun _ _ _=>False)) {tmps:=(ps.zip args).foldl (fun t (p,v)=>t.setIfInBounds p v) tmps,defers:=[]} W):
 YieldAt Fence.wide 0 P l args W R:=by
 subst G
 have hy:=run_yield (P:=P) (args:=args) J L
 refine⟨fn,_,s,z,hy,roundIn_of_wpIn trivial (wpIn_mono h ?_)⟩
 intro e a₁ w₁ he
 cases e with
 |normal=>
  obtain⟨h1,h2⟩:=he
  refine⟨_,run_beginRound h1 rfl,wpIn_mono h2 ?_⟩
  intro e a₂ w₂ he
  cases e with
  |normal=>exact⟨_,_,run_endRound none he.1,he.2⟩
  |ret=>exact⟨_,_,run_endRound (some .ret) he.1,he.2⟩
  |panic E=>exact he
  |exit id=>exact he.elim
  |goto t=>exact he.elim
  |outgrown=>exact he
 |exit id=>exact he
 |goto t=>exact he
 |ret=>exact he
 |panic E=>exact he
 |outgrown=>exact he
theorem ZlC{P:Program}{Q:Exit→Act→World→Prop}{a:Act}{w:World}{fn:FuncId}{g:Operand}{ps:Array Tmp}{s z:Code}{E:FuncId}{caps:Array Value}(R:a.eval g=.func (.func E) #[] caps)(N:∀args w,(callFunc E args).run P w=.ok (.enter E args) w)(h:∀rec,rec=Zbt fn a.tmps ps s z w.heap.size→∀W1,Bw w W1→W1.heap[w.heap.size+1]?=some (.loop (rec .ready none))→W1.heap[w.heap.size]?=some (.deferred (some [])) →
  Calls P E (#[.func (.yield (w.heap.size+1)) #[] #[]]++caps) W1 fun e W2=>∃v,e=.returned v ∧
   ((W2.heap[w.heap.size+1]?=some (.loop (rec .ready none))∧Q .normal {a with defers:={target:=.collected w.heap.size,args:=#[]}::a.defers} (W2.putObj (w.heap.size+1) (.loop (rec .exhausted none)))) ∨
    (W2.heap[w.heap.size+1]?=some (.loop (rec .done (some .ret)))∧Q .ret {a with defers:={target:=.collected w.heap.size,args:=#[]}::a.defers} (W2.putObj (w.heap.size+1) (.loop (rec .exhausted (some .ret))))))):
 ZiD P fn (Code.rangeFunc g ps s z) Q a w:=by
 obtain⟨W1,C⟩:=ExY ((w.alloc (.deferred (some []))).alloc (.loop (Zbt fn a.tmps ps s z w.heap.size .ready none)))
 have J:W1.heap[w.heap.size+1]?=some (.loop (Zbt fn a.tmps ps s z w.heap.size .ready none)):=by
  rw[C];have:=World.alloc_heap_new (w.alloc (.deferred (some []))) (.loop (Zbt fn a.tmps ps s z w.heap.size .ready none));rwa [World.size_alloc] at this
 have G:W1.heap[w.heap.size]?=some (.deferred (some [])):=by
  rw[C];exact(Below.heap_alloc _ _ _ (by simp)).trans (World.alloc_heap_new w _)
 have L:Bw w W1:=by rw[C];exact((Below.refl _ w).alloc (Nat.le_refl _) _).alloc (by simp) _
 refine Zd7 ⟨w.heap.size+1,[{target:=.collected w.heap.size,args:=#[]}],W1,{target:=.fn (.func E) caps,args:=#[.func (.yield (w.heap.size+1)) #[] #[]]},W1,E,
  #[.func (.yield (w.heap.size+1)) #[] #[]]++caps,W1,?_,?_,?_,?_⟩
 ·rw[C];exact run_enterLoop_outer _ _ _ _ _
 ·simp only[resolve,R]
  simp[go_sem]
 ·simp[invoke,go_sem,N]
 ·refine(h _ rfl W1 L J G).mono ?_
  rintro e W2 ⟨v,rfl,⟨hl,hq⟩|⟨hl,hq⟩⟩
  ·exact⟨none,_,run_endLoop hl (by simp[Zbt]),hq⟩
  ·exact⟨some .ret,_,run_endLoop hl (by simp[Zbt]),wpIn_ret hq⟩
theorem ZgD{P:Program}{ops:Array Oper}{Q:Exit→Act→World→Prop}{F:Fence}{a:Act}{w:World}(hF:Zjp F)(S:World→Prop){id:Nat}(E:P.follows .mixedOrders=true)(C:ops.all Zc6=true)(s:¬LetsOut Q)(z:S w.drew)(h:S w.drew→wpAnyH P .any ops Q S ops.size (Array.replicate ops.size false) a w.drew):(Code.region id ops true).wpIn F 0 P Q a w:=
 wpIn_region_any E (ZgO hF C s _ _ _ _ (wpAny_of_held _ _ _ _ (h z)))
theorem ZkC{F:Fence}{n:Nat}{P:Program}{c:Code}{K:Act→World→Prop}{s:Exit→Act→World→Prop}{a:Act}{w:World}(h:c.wpIn F n P (Exit.then K (fun _ _ _=>False)) a w):c.wpIn F n P (Exit.then K s) a w:=
 wpIn_mono h fun e a w he=>by cases e<;>first|exact he|exact he.elim
theorem ZbL{F:Fence}{n:Nat}{P:Program}{x y:Code}{Q:Exit→Act→World→Prop}{a:Act}{w:World}(h:∀R:Act→World→Prop,Hid (∀a w,y.wpIn F n P Q a w→R a w)→x.wpIn F n P (Exit.then R Q) a w):(x.seq y).wpIn F n P Q a w:=
 wpIn_seq (h _ (fun _ _ h=>h))
structure ZgR(b1 b2 b3 b4 b5:Nat)(A:Option Addr)(n c:Nat)(W:World)(k:Nat)(mk:Zab)(sum:List Int)(mb:Zab):Prop where
 h1:Bk W b1 22 #[.slice A n c]
 h2:Bk W b2 4 #[.bool false]
 h3:Bk W b3 48 (Zag sum).toArray
 h4:Bk W b4 37 mb.cs.toArray
 h5:Bk W b5 3 #[I k]
 row:W.ownsRow 0 45 5 (.slice mb.sOrd.A mb.orders.length mb.sOrd.c) mb.orders.length (O.lcs mb.orders)
 ord:mb.orders=mk.orders
 sums:ZhC sum mk.poss
section
variable {b1 b2 b3 b4 b5:Nat} {A:Option Addr} {n c k:Nat} {W W':World} {mk mb:Zab} {sum:List Int}
theorem ZgR.below(h:ZgR b1 b2 b3 b4 b5 A n c W k mk sum mb)(s:Bw W W'):ZgR b1 b2 b3 b4 b5 A n c W' k mk sum mb:=
 ⟨h.h1.below s h.h1.lt,h.h2.below s h.h2.lt,h.h3.below s h.h3.lt,h.h4.below s h.h4.lt,h.h5.below s h.h5.lt,Zai h.row s,h.ord,h.sums⟩
theorem ZgR.rowT(h:ZgR b1 b2 b3 b4 b5 A n c W k mk sum mb){g t:Nat}{cs cs':Array Value}(s:Bk W g t cs)(z:g≠b4)(C:t=37∨t=41):ZgR b1 b2 b3 b4 b5 A n c (W.setRow g cs') k mk sum mb:=by
 have e:t≠22∧t≠4∧t≠48∧t≠3∧t≠45:=by rcases C with rfl|rfl<;>decide
 exact⟨h.h1.rowFar (h.h1.ne s (Ne.symm e.1)) _,h.h2.rowFar (h.h2.ne s (Ne.symm e.2.1)) _,h.h3.rowFar (h.h3.ne s (Ne.symm e.2.2.1)) _,h.h4.rowFar (Ne.symm z) _,h.h5.rowFar (h.h5.ne s (Ne.symm e.2.2.2.1)) _,Zbc h.row s e.2.2.2.2 _,h.ord,h.sums⟩
end
theorem ZbW.setRow{b3 b4 b5 l D B lw:Nat}{ol od:Obj}{W0 W:World}(h:ZbW b3 b4 b5 l D B lw ol od W0 W){t:Nat}{cs:Array Value}(C:Bk W b4 t cs)(E:lw≤b4)(cs':Array Value):ZbW b3 b4 b5 l D B lw ol od W0 (W.setRow b4 cs'):=
 ⟨h.low,ZaB h.below E _,Nat.le_trans h.size (by simp),ZcU C h.busy h.nol,ZcU C h.dfd h.nod,h.nol,h.nod,fun g' t' s h3 h4 h5 h6 z=>(h.keep g' t' s h3 h4 h5 h6 z).rowFar h4 _⟩
end
section
attribute [local go_sem] Oper.semAt_some
def cS1:Code→Code
 |.seq x _=>x
 |c=>c
def cS2:Code→Code
 |.seq _ y=>y
 |c=>c
def cB:Code→Code
 |.block _ c=>c
 |c=>c
def cR:Code→Code
 |.rangeFunc _ _ _ b=>b
 |c=>c
noncomputable def Zmy:Code:=cB (cR (cB (cS2 (cS1 (cS2 (cS2 (cS2 (cS2 (cS2 (cS2 (f4.body.getD .skip)))))))))))
noncomputable def Zmk:Code:=cS2 (cS2 (cS2 (cS2 (cS2 Zmy))))
theorem ZhL{l:List Int}{k:Nat}(s:k<l.length):(l.take (k+1)).countP ZhV=(l.take k).countP ZhV+(if l.getD k 0≠0 then 1 else 0):=by
 rw[List.take_succ_eq_append_getElem s,List.countP_append,List.countP_singleton]
 have e:l.getD k 0=l[k]:=by simp[List.getD,s]
 rw[e]
 unfold ZhV
 by_cases h:l[k]=0<;>simp[h]
theorem ZgH(l b3 b4 b6:Nat){x0 x1 x2 x5 x7 x8 x9 bx bz bA bB bC bD bE bF bG bH bI bJ bK bL bM bN bO bP bQ bR bS bT bU bV bW bX bY bZ b0 b7 b8 b9 ca cb cd ce cf cg ch ci cj ck cl cm cn co cp cq cr ct cu cv cw cx cy cz cA cC cD cE cF cG cH cI cJ cK cL cM cN cO cP cQ cS cT cU cV cW cX cY cZ c0 c1 c2 c3 c4 c5 c6 c7 c8 c9 aA aB aC aD aE aF aG aH aI aJ aK aL aM aN aO aP aQ aR aS aT aU aV aW aX aY aZ a0 a1 a2 a3 a4 a5 a6 a7 a8 a9 ba bb bc bd be bf bg bh bi:Value}(Q:Exit→Act→World→Prop)(sum:List Int)(z mb:Zab)(base:Nat)(W:World)(ad:ZhC sum z.poss)(h3:Bk W b3 48 (Zag sum).toArray)(h6:Bk W b6 37 z.cs.toArray)(h4:Bk W b4 37 mb.cs.toArray)(ak:W.ownsRow base 50 3 (.slice z.sPos.A z.poss.length z.sPos.c) z.poss.length (P.lcs z.poss))(hQ:∀a' V,Bw W V→Q .normal a' (V.setRow b4 z.ar)):
 Code.wpIn (Fence.wide.inRound l) 0 prog Zmk Q {tmps:=#[x0,x1,x2,Pt b3,Pt b4,x5,Pt b6,x7,x8,x9,bx,bz,bA,bB,bC,bD,bE,bF,bG,bH,bI,bJ,bK,bL,bM,bN,bO,bP,bQ,bR,bS,bT,bU,bV,bW,bX,bY,bZ,b0,b7,b8,b9,ca,cb,cd,ce,cf,cg,ch,ci,cj,ck,cl,cm,cn,co,cp,cq,cr,ct,cu,cv,cw,cx,cy,cz,cA,cC,cD,cE,cF,cG,cH,cI,cJ,cK,cL,cM,cN,cO,cP,cQ,cS,cT,cU,cV,cW,cX,cY,cZ,c0,c1,c2,c3,c4,c5,c6,c7,c8,c9,aA,aB,aC,aD,aE,aF,aG,aH,aI,aJ,aK,aL,aM,aN,aO,aP,aQ,aR,aS,aT,aU,aV,aW,aX,aY,aZ,a0,a1,a2,a3,a4,a5,a6,a7,a8,a9,ba,bb,bc,bd,be,bf,bg,bh,bi],defers:=[]} W:=by
 have s:=Hi ad
 have H3:=Hi h3
 have H6:Hid (Bk W b6 37 z.ar):=h6
 have H4:Hid (Bk W b4 37 mb.cs.toArray):=h4
 have au:=Hi ak
 have bp:=Hi hQ
 have R:Hid (∀(V:World),Bw W V→∀j,j<192→V.cell? (Aq b3 j)=some (I (sum.getD j 0))):=fun V hV j hj=>ZdB (h3.below hV h3.lt) (by rw[ad.len];exact hj)
 clear ad h3 h6 h4 ak hQ
 show Code.wpIn (Fence.wide.inRound l) 0 prog Zmk Q _ W
 dsimp only[Zmk,Zmy,cS1,cS2,cB,cR,f4,Option.getD]
 gi_wp2
 gi_loopw [11,105] (fun an ae wr=>∃v:Nat,v≤16∧an=I (((sum.take (v*12)).countP ZhV:Nat):Int)∧ae=I (v:Int)∧W=wr) (fun _ ae _=>16-(intOf ae).toNat)
 case atStart=>exact⟨0,Nat.zero_le _,rfl,rfl,rfl⟩
 case round=>
  obtain⟨v,hv,rfl,rfl,rfl⟩:=hrel
  by_cases E:v<16
  rotate_left
  ·have ax:v=16:=by omega
   have aj:(sum.take (v*12)).countP ZhV=z.poss.length:=by rw[ax,List.take_of_length_le (by rw[s.len];exact Nat.le_refl _)];exact s.count
   rw[aj]
   have ap:Hid (z.poss.length≤64):=((P.good_iff 16 12 z.poss).1 s.good).1
   have bv:=H6.nine
   gi_upto_region 38 with(fail)
   clear aj ax E hv bv
   have bo:Hid (Bw W W):=Below.refl _ _
   gi_loopw [124] (fun ag wr=>∃j:Nat,j≤z.poss.length∧ag=I (j:Int)∧Hid (Bw W wr)) (fun ag _=>z.poss.length-(intOf ag).toNat)
   case atStart=>exact⟨0,Nat.zero_le _,rfl,bo⟩
   case round=>
    obtain⟨j,hj,rfl,G⟩:=hrel
    rename World=>V
    by_cases E:j<z.poss.length
    rotate_left
    ·obtain⟨da,db,dc,dd,de,df,dg,dh,di,dj,dk,dl,dm,dn,dp,dq,dr,ds,lf⟩:=(H6.below G H6.lt).nine
     have bj:Hid (Bk V b4 37 mb.ar):=H4.below G H4.lt
     have jj:¬(j:Int)<(z.poss.length:Int):=fun h=>E (Int.ofNat_lt.mp h)
     gi_wp2_with (refine Zcy (Zb7 _) rfl rfl 37 _ _ rfl b4 z.ar rfl rfl 37 mb.ar bj ZaU (by rfl) (by simp[Value.oneCell']) ?_)
     exact bp.out _ V G
    have L:=Hi E
    have bt:Hid (wrap64 ((j:Int)+1)=(j:Int)+1):=ZaQ (by have h1:=ap.out;omega)
    have ai:j<z.poss.length:=E
    obtain⟨g,hA,p0,p1,p2⟩:=Zhn (Zai au G) rfl ai
    have ab:=List.getElem_mem ai
    have J:=s.pos ab
    have am:=P.good_at s.good ab
    obtain⟨⟨pa,pi,pq⟩,hp⟩:∃p,p=z.poss[j]'ai:=⟨_,rfl⟩
    rw[←hp] at p0 p1 p2 J am
    dsimp only at p0 p1 p2 J am
    obtain⟨q,rfl⟩:∃q:Nat,pa=(q:Int):=ZaW (by omega)
    obtain⟨i,rfl⟩:∃i:Nat,pi=(i:Int):=ZaW (by omega)
    have aq:Hid (q<16∧i<12):=by show _∧_;omega
    have ac:sum.getD (q*12+i) 0=pq:=by simpa using J
    have y:=R.out V G (q*12+i) (by omega)
    rw[ac] at y
    have HA:=Hi hA
    have j0:(0:Int)≤(j:Int):=Int.natCast_nonneg j
    have j1:(j:Int)<(z.poss.length:Int):=Int.ofNat_lt.mpr E
    clear ai ab J am hp hA ac E hj
    rw[HA.out]
    obtain⟨W2,Y⟩:=ExY (V.alloc (.cells #[I q,I i,I pq] 50))
    obtain⟨N,aa⟩:=ExY V.heap.size
    have X:=bkW Y aa
    have bl:=blA G Y
    have br:Hid (W2.cell? (Aq b3 (q*12+i))=some (I pq)):=by
     have h1:b3<W.heap.size:=H3.lt
     show _=_
     rw[Y]
     exact(((Below.refl V.heap.size V).alloc (Nat.le_refl _) _).cell (p:=Aq b3 (q*12+i)) (Nat.lt_of_lt_of_le h1 G.size)).trans y
    gi_upto_region 40 with(fail)
    rw[←Y,←aa]
    clear Y aa y p0 p1 p2 j0 j1
    have q0:(0:Int)≤(q:Int):=Int.natCast_nonneg q
    have q1:(q:Int)<16:=by have:=aq.out;omega
    have i0:(0:Int)≤(i:Int):=Int.natCast_nonneg i
    have i1:(i:Int)<12:=by have:=aq.out;omega
    obtain⟨W3,Z⟩:=ExY W2.drew
    have bn:=blD bl Z
    have bq:Hid (W3.cell? (Aq N 0)=some (I q)∧W3.cell? (Aq N 1)=some (I i)∧W3.cell? (Aq N 2)=some (I pq)∧W3.cell? (Aq b3 (q*12+i))=some (I pq)):=by rw[Z];exact⟨X.cell 0,X.cell 1,X.cell 2,br⟩
    refine ZkC ?_
    refine ZgD (Zb7 _) (fun U=>U.cell? (Aq N 0)=some (I q)∧U.cell? (Aq N 1)=some (I i)∧U.cell? (Aq N 2)=some (I pq)∧U.cell? (Aq b3 (q*12+i))=some (I pq)) (by kernel_rfl) (by kernel_rfl) (fun⟨_,_,h⟩=>h) (by rw[←Z];exact bq.out) (fun C=>?_)
    rw[←Z] at C ⊢
    clear Z
    refine tkH [0,1,2,3,4,5,6,7,8] C (by kernel_rfl) (fun _ _ _ _ h=>h) ?_
    iterate 9 (refine ycH rfl (by rfl) (fun w h=>by go_simp<;>rfl) ?_;try simp only[Act.put,sA,sB,sC])
    refine onH 9 (by kernel_rfl) rfl fun K hK=>?_
    go_simp
    refine hK.out _ _ (C) (fun C=>?_)
    try simp only[Act.put,sA,sB,sC]
    refine wpAnyH_done (by kernel_rfl) ?_ _
    have tt:(pq != pq)=false:=by simp
    gi_wp2
    rw[bt.out]
    exact⟨⟨j+1,L,by rw[Int.natCast_succ],bn⟩,Zba L⟩
  have L:=Hi E
  have bu:Hid (wrap64 ((v:Int)+1)=(v:Int)+1):=ZaQ (by omega)
  have j0:(0:Int)≤(v:Int):=Int.natCast_nonneg v
  have j1:(v:Int)<16:=by omega
  gi_wp2
  clear hv E
  gi_loopw [11,108] (fun an af wr=>∃i:Nat,i≤12∧an=I (((sum.take (v*12+i)).countP ZhV:Nat):Int)∧af=I (i:Int)∧W=wr) (fun _ af _=>12-(intOf af).toNat)
  case atStart=>exact⟨0,Nat.zero_le _,rfl,rfl,rfl⟩
  case round=>
   obtain⟨i,hi,rfl,rfl,rfl⟩:=hrel
   by_cases az:i<12
   rotate_left
   ·have bw:i=12:=by omega
    gi_wp2
    try rw[bu.out]
    exact⟨⟨v+1,L,by rw[bw,Nat.succ_mul],by rw[Int.natCast_succ],by simp⟩,Zba L⟩
   have ah:=Hi az
   have aw:Hid (wrap64 ((i:Int)+1)=(i:Int)+1):=ZaQ (by omega)
   have hk:v*12+i<192:=by have:=L.out;omega
   obtain⟨x,hx⟩:=ExY (sum.getD (v*12+i) 0)
   have y:=R.out _ (Below.refl _ _) _ hk
   rw[←hx] at y
   have HX:=Hi hx
   have al:=Hi (ZhL (l:=sum) (k:=v*12+i) (by rw[s.len];exact hk))
   have ao:Hid ((sum.take (v*12+i)).countP ZhV≤192):=by
    have h1:=List.countP_le_length (p:=ZhV) (l:=sum.take (v*12+i))
    rw[List.length_take,s.len] at h1
    exact Nat.le_trans h1 (Nat.min_le_right _ _)
   obtain⟨cc,ay⟩:=ExY ((sum.take (v*12+i)).countP ZhV)
   rw[←ay] at al ao ⊢
   have bs:Hid (wrap64 ((cc:Int)+1)=(cc:Int)+1):=ZaQ (by have:=ao.out;omega)
   have i0:(0:Int)≤(i:Int):=Int.natCast_nonneg i
   have i1:(i:Int)<12:=by omega
   clear hk hx hi az ay
   by_cases h0:x=0
   ·have tx:(x != 0)=false:=by simpa using h0
    have hn:(sum.take (v*12+(i+1))).countP ZhV=cc:=by rw[←Nat.add_assoc,al.out,←HX.out,if_neg (fun h=>h h0)];rfl
    have HN:=Hi hn
    clear h0 hn
    gi_wp2
    try rw[aw.out]
    exact⟨⟨i+1,ah,by rw[HN.out],by rw[Int.natCast_succ],by simp⟩,Zba ah⟩
   ·have tx:(x != 0)=true:=by simpa using h0
    have hn:(sum.take (v*12+(i+1))).countP ZhV=cc+1:=by rw[←Nat.add_assoc,al.out,←HX.out,if_pos h0]
    have HN:=Hi hn
    clear h0 hn
    gi_wp2
    try rw[aw.out]
    try rw[bs.out]
    exact⟨⟨i+1,ah,by rw[HN.out,Int.natCast_succ],by rw[Int.natCast_succ],by simp⟩,Zba ah⟩
end
end Go.Proofs.YtdefojlkofnloaaGreatDoor
