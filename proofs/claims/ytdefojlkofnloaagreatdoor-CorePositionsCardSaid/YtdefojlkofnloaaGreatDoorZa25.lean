/- A part of the proof of CorePositions: for every input, no condition. -/
import Derived.Test.YtdefojlkofnloaaGreatDoorZa23
import Derived.Test.YtdefojlkofnloaaGreatDoorZa24
import Derived.LoopIn
import Derived.LoopNIn
import Derived.OwnWalkIn
import Derived.TacticsInMore
set_option maxRecDepth 100000
set_option maxHeartbeats 8000000
set_option linter.unusedVariables false
set_option linter.unusedSimpArgs false
namespace Go.Proofs.YtdefojlkofnloaaGreatDoor
open Go.RowKit Go.Proofs.Tryz
section
attribute [local go_sem] Oper.semAt_some
def Zbt(fn:FuncId)(tmps:Array Value)(ps:Array Tmp)(assign body:Code)(D:Nat)(st:LoopState)(pe:Option Code):Loop:=
 {state:=st,pending:=pe,fn,tmps,params:=ps,assign,body,defers:=D}
section
variable {P:Program} {Q:Exit→Act→World→Prop} {a:Act} {w:World} {fn:FuncId}
def Zik(l:Nat)(rec:LoopState→Option Code→Loop)(R:Ending→World→Prop):Exit→Act→World→Prop
 |.normal,_,w=>w.heap[l]?=some (.loop (rec .busy none))∧R (.returned (.bool true)) (w.putObj l (.loop (rec .ready none)))
 |.panic chain,a,w=>a.defers=[]∧R (.panicked chain) w
 |_,_,_=>False
theorem Zjo{W:World}{l D:Nat}{tmps:Array Value}{ps:Array Tmp}{s z:Code}{args:Array Value}{R:Ending→World→Prop}{fd:Func}(E:P.funcs[fn]?=some fd)(G:W.heap[l]?=some (.loop (Zbt fn tmps ps s z D .ready none)))(J:args.size=ps.size)(h:s.wpIn (Fence.wide.inRound l) 0 P (Exit.then (fun a₁ w₁=>w₁.heap[l]?=some (.loop (Zbt fn tmps ps s z D .ready none)) ∧
  z.wpIn (Fence.wide.inRound l) 0 P (Zik l (Zbt fn tmps ps s z D) R) a₁ (w₁.putObj l (.loop (Zbt fn tmps ps s z D .busy none)))) (fun _ _ _=>False)) {tmps:=(ps.zip args).foldl (fun t (p,v)=>t.setIfInBounds p v) tmps,defers:=[]} W):
 YieldAt Fence.wide 0 P l args W R:=by
 have hy:=run_yield (P:=P) (args:=args) G J
 refine⟨fn,_,s,z,hy,ZeX E (wpIn_mono h ?_)⟩
 intro e a₁ w₁ he
 cases e with
 |normal=>
  obtain⟨h1,h2⟩:=he
  refine⟨_,run_beginRound h1 rfl,wpIn_mono h2 ?_⟩
  intro e a₂ w₂ he
  cases e with
  |normal=>exact⟨_,_,run_endRound none he.1,he.2⟩
  |panic C=>exact he
  |exit id=>exact he
  |goto t=>exact he
  |ret=>exact he
  |outgrown=>exact he
 |exit id=>exact he
 |goto t=>exact he
 |ret=>exact he
 |panic C=>exact he
 |outgrown=>exact he
theorem ZkB{g:Operand}{ps:Array Tmp}{s z:Code}{G:FuncId}{caps:Array Value}(U:a.eval g=.func (.func G) #[] caps)(R:∀args w,(callFunc G args).run P w=.ok (.enter G args) w)(h:∀W1,Bw w W1→W1.heap[w.heap.size+1]?=some (.loop (Zbt fn a.tmps ps s z w.heap.size .ready none))→W1.heap[w.heap.size]?=some (.deferred (some [])) →
  Calls P G (#[.func (.yield (w.heap.size+1)) #[] #[]]++caps) W1 fun e W2=>
   (∃v,e=.returned v∧W2.heap[w.heap.size+1]?=some (.loop (Zbt fn a.tmps ps s z w.heap.size .ready none)) ∧
    Q .normal {a with defers:={target:=.collected w.heap.size,args:=#[]}::a.defers} (W2.putObj (w.heap.size+1) (.loop (Zbt fn a.tmps ps s z w.heap.size .exhausted none)))) ∨
   (∃C,e=.panicked C∧Q (.panic C) {a with defers:={target:=.collected w.heap.size,args:=#[]}::a.defers} W2)):
 ZiD P fn (Code.rangeFunc g ps s z) Q a w:=by
 obtain⟨W1,E⟩:=ExY ((w.alloc (.deferred (some []))).alloc (.loop (Zbt fn a.tmps ps s z w.heap.size .ready none)))
 have L:W1.heap[w.heap.size+1]?=some (.loop (Zbt fn a.tmps ps s z w.heap.size .ready none)):=by
  rw[E];have:=World.alloc_heap_new (w.alloc (.deferred (some []))) (.loop (Zbt fn a.tmps ps s z w.heap.size .ready none));rwa [World.size_alloc] at this
 have J:W1.heap[w.heap.size]?=some (.deferred (some [])):=by
  rw[E];exact(Below.heap_alloc _ _ _ (by simp)).trans (World.alloc_heap_new w _)
 have N:Bw w W1:=by rw[E];exact((Below.refl _ w).alloc (Nat.le_refl _) _).alloc (by simp) _
 refine Zd7 ⟨w.heap.size+1,[{target:=.collected w.heap.size,args:=#[]}],W1,{target:=.fn (.func G) caps,args:=#[.func (.yield (w.heap.size+1)) #[] #[]]},W1,G,
  #[.func (.yield (w.heap.size+1)) #[] #[]]++caps,W1,?_,?_,?_,?_⟩
 ·rw[E];exact run_enterLoop_outer _ _ _ _ _
 ·simp only[resolve,U]
  simp[go_sem]
 ·simp[invoke,go_sem,R]
 ·refine(h W1 N L J).mono ?_
  rintro e W2 (⟨v,rfl,hl,hq⟩|⟨C,rfl,hq⟩)
  ·exact⟨none,_,run_endLoop hl (by simp[Zbt]),hq⟩
  ·exact hq
theorem ZaT{B l:Nat}{w W:World}(h:Below B w W)(s:B≤l)(o:Obj):Below B w (W.putObj l o):=
 ⟨h.os,h.tape,h.output,by simpa using h.size,fun k hk=>(World.putObj_heap_other (by omega)).trans (h.block k hk)⟩
end
theorem Zea{u n:Int}(h:u = -1∨(1<u∧u<n))(s:¬u = -1):0≤u∧(1:Int)<u∧u<n:=by omega
theorem ZiO{y:Int}{k n:Nat}(h:y = -1∨(1<y∧y<(k:Int)))(s:k<n):y = -1∨(1<y∧y<(n:Int)):=by omega
theorem ZiN{y:Int}{k:Nat}(h:y = -1∨(1<y∧y<(k:Int))):(intOf (I y)+1).toNat<(intOf (I k)+1).toNat:=by simp only[intOf];omega
theorem ZhK{ps:List Int}(h:(Zct ps).2=0):∀v,v<ps.length→ps.getD v 0 = -1∨(1<ps.getD v 0∧ps.getD v 0<v):=by
 obtain⟨h2,s⟩:=Zem h
 unfold Zct at h
 rw[if_neg (by omega),if_neg (by omega)] at h
 have key:∀(k u:Nat) (d:List Int),(Zfj ps k u d).2=0→∀v,u≤v→v<u+k→ps.getD v 0 = -1∨(1<ps.getD v 0∧ps.getD v 0<v):=by
  intro k
  induction k with
  |zero=>intro u d _ v h1 h2;omega
  |succ k ih=>
   intro u d hd v h1 h2
   rw[Zfj] at hd
   by_cases c1:ps.getD u 0 = -1
   ·rw[if_pos c1] at hd
    by_cases hv:v=u
    ·subst hv;exact .inl c1
    ·exact ih _ _ hd v (by omega) (by omega)
   ·rw[if_neg c1] at hd
    by_cases c2:ps.getD u 0≤1∨(u:Int)≤ps.getD u 0∨u≤1∨4≤d.getD (ps.getD u 0).toNat 0
    ·rw[if_pos c2] at hd;cases hd
    ·rw[if_neg c2] at hd
     by_cases hv:v=u
     ·subst hv;right;omega
     ·exact ih _ _ hd v (by omega) (by omega)
 intro v hv
 exact key ps.length 0 _ h v (by omega) (by omega)
theorem ZiG(l bo bv:Nat)(A:Option Addr)(n c:Nat)(ps:List Int)(v:Int)(J:World→Prop)(Jp:World→Prop)(E:ZeV ps v=true)(ac:1<v)(Y:∀W,J W→W.cell? (Aq bo 0)=some (.slice A n c)∧W.cell? (Aq bv 0)=some (I v)∧Rd W W.heap.size 1 A n (Zag ps))(hB:∀W W',J W→Bw W W'→J W')(hY:∀(k:Nat) W,J W→1<k→k<ps.length→YieldAt Fence.wide 0 prog l #[I k] W fun e W'=>(e=.returned (.bool true)∧J W')∨(∃er:Int,er≠0∧e=Pan 144 er∧Jp W'))(W:World)(X:J W):
 Calls prog 149 #[.func (.yield l) #[] #[],Pt bo,Pt bv] W fun e W'=>(e=.returned (.tuple #[])∧J W')∨(∃er:Int,er≠0∧e=Pan 144 er∧Jp W'):=by
 refine(callsIn_wide (n:=0)).1 (callsIn_of_wp func149 rfl trivial ?_ rfl)
 simp only[ntmps149,List.size_toArray,List.length_cons,List.length_nil,Nat.reduceAdd,Nat.reduceSub,Array.replicate_succ,Array.replicate_zero,List.push_toArray,List.append_toArray,List.nil_append,List.cons_append]
 have hv:v<ps.length∧(Zct ps).2=0:=by
  unfold ZeV at E
  simp only[Bool.and_eq_true,decide_eq_true_eq] at E
  exact⟨E.2.2,E.1⟩
 have ae:=Hi (ZhK hv.2)
 have HJ:=Hi Y
 have HB:=Hi hB
 have HY:=Hi hY
 have hl:ps.length=n:=by have:=(Y W X).2.2.1;rw[ZdA] at this;omega
 have HL:=Hi hl
 have R:=Hi (Zhx A n c ps v W (by have:=(Zem hv.2).2;rw[←hl];exact Nat.le_trans this (by decide)) (Y W X).2.2)
 rw[E] at R
 have HV:=Hi (show 1<v∧v<ps.length from⟨ac,hv.1⟩)
 have ag:=Hi X
 obtain⟨c0,c1,_⟩:=Y W X
 clear Y hB hY hv E X hl ac
 gi_wp2_with fail
 refine⟨trivial,rfl,((callsIn_wide (n:=0)).2 R).mono ?_⟩
 rintro e W2 ⟨rfl,hb⟩
 have G:Hid (J W2):=HB.out W W2 ag hb
 clear hb c0 c1
 dsimp only
 obtain⟨c0,c1,_⟩:=HJ.out W2 G
 gi_wp2
 gi_loopw [4] (fun v4 wr=>∃u:Int,v4=I u∧Hid (u = -1∨(1<u∧u<ps.length))∧Hid (J wr)) (fun v4 _=>(intOf v4+1).toNat)
 case atStart=>exact⟨v,rfl,.inr HV,G⟩
 case round=>
  obtain⟨u,rfl,HU,N⟩:=hrel
  rename World=>V
  clear c0 c1
  by_cases hu:u = -1
  ·subst hu
   gi_wp2
   go_end0
   exact .inl ⟨rfl,N⟩
  ·obtain⟨k,hk⟩:=ZaW (Zea HU hu).1
   subst hk
   have z:k<ps.length:=Int.ofNat_lt.mp (Zea HU hu).2.2
   have ab:1<k:=Int.ofNat_lt.mp (Zea HU hu).2.1
   obtain⟨fn,tmps,ad,ah,hy,hR⟩:=HY.out k V N ab z
   have d0:(0:Int)≤(k:Int):=Int.natCast_nonneg k
   have HR:=Hi hR
   have s:=Hi z
   clear hR z ab hu
   gi_wp2_with fail
   refine⟨rfl,HR.mono ?_⟩
   rintro e W3 (⟨rfl,hj⟩|⟨er,Z,rfl,hp⟩)
   ·have L:=Hi hj
    clear hj
    obtain⟨c0,_,hr⟩:=HJ.out W3 L
    obtain⟨aa,hA,_,ck⟩:=hr.cell (Zcx ps k s)
    rw[hA] at c0
    obtain⟨y,C⟩:=ExY (ps.getD k 0)
    rw[←C] at ck
    have U:Hid (y = -1∨(1<y∧y<(k:Int))):=by have:=ae.out k s.out;rw[←C] at this;exact this
    have d1:(k:Int)<(n:Int):=by have:=HL.out;have:=s.out;omega
    clear hr hA C
    dsimp only
    gi_wp2
    exact⟨⟨y,rfl,ZiO U s,L⟩,ZiN U⟩
   ·have HP:=Hi hp
    have af:=Hi Z
    clear hp Z
    unfold Pan
    dsimp only
    gi_wp2
    exact⟨rfl,.inr ⟨er,af,rfl,HP⟩⟩
end
section
attribute [local go_sem] Oper.semAt_some
theorem ZeL{P:Program}{Q:Exit→Act→World→Prop}{a:Act}{w:World}{fn:FuncId}{g:Operand}{ps:Array Tmp}{s z:Code}{C:FuncId}{caps:Array Value}(G:a.eval g=.func (.func C) #[] caps)(E:∀args w,(callFunc C args).run P w=.ok (.enter C args) w)(h:∀rec,rec=Zbt fn a.tmps ps s z w.heap.size→∀W1,Bw w W1→W1.heap[w.heap.size+1]?=some (.loop (rec .ready none))→W1.heap[w.heap.size]?=some (.deferred (some [])) →
  Calls P C (#[.func (.yield (w.heap.size+1)) #[] #[]]++caps) W1 fun e W2=>
   (∃v,e=.returned v∧W2.heap[w.heap.size+1]?=some (.loop (rec .ready none)) ∧
    Q .normal {a with defers:={target:=.collected w.heap.size,args:=#[]}::a.defers} (W2.putObj (w.heap.size+1) (.loop (rec .exhausted none)))) ∨
   (∃chain,e=.panicked chain∧Q (.panic chain) {a with defers:={target:=.collected w.heap.size,args:=#[]}::a.defers} W2)):
 ZiD P fn (Code.rangeFunc g ps s z) Q a w:=ZkB G E fun W1=>h _ rfl W1
theorem Zee{P:Program}{fn:FuncId}{W:World}{l D:Nat}{tmps:Array Value}{ps:Array Tmp}{s C:Code}{args:Array Value}{R:Ending→World→Prop}{fd:Func}{z:LoopState→Option Code→Loop}(E:z=Zbt fn tmps ps s C D)(G:P.funcs[fn]?=some fd)(J:W.heap[l]?=some (.loop (z .ready none)))(L:args.size=ps.size)(h:s.wpIn (Fence.wide.inRound l) 0 P (Exit.then (fun a₁ w₁=>w₁.heap[l]?=some (.loop (z .ready none)) ∧
  C.wpIn (Fence.wide.inRound l) 0 P (Zik l z R) a₁ (w₁.putObj l (.loop (z .busy none)))) (fun _ _ _=>False)) {tmps:=(ps.zip args).foldl (fun t (p,v)=>t.setIfInBounds p v) tmps,defers:=[]} W):
 YieldAt Fence.wide 0 P l args W R:=by
 subst E
 exact Zjo G J L h
theorem Zf3{r:Option Int}{x er:Int}(h:(er=0∧r=some x)∨(er≠0∧r=none))(s:er=0):r=some x:=by
 rcases h with h|h
 ·exact h.2
 ·exact absurd s h.1
theorem Zhy{r:Option Int}{x er:Int}(h:(er=0∧r=some x)∨(er≠0∧r=none))(s:er≠0):r=none:=by
 rcases h with h|h
 ·exact absurd h.1 s
 ·exact h.2
def ZcN(m m2:Zab):Prop:=∀v:Nat,1<v→v<m.accts.length→∃now,ZaH m2 v=some now∧(((m.accts.getD v default).flag=false∧0≤now)∨((m.accts.getD v default).flag=true∧∃was,ZaH m v=some was∧was≤now))
theorem ZjB{m m2:Zab}{k:Nat}(h:ZaH m2 k=none)(s:1<k)(z:k<m.accts.length):¬ZcN m m2:=fun hc=>by
 obtain⟨C,h3,_⟩:=hc k s z
 rw[h] at h3;cases h3
theorem ZjC{m m2:Zab}{k:Nat}{x:Int}(h:ZaH m2 k=some x)(C:(m.accts.getD k default).flag=false)(E:¬0≤x)(s:1<k)(z:k<m.accts.length):¬ZcN m m2:=fun hc=>by
 obtain⟨G,h3,h4|h4⟩:=hc k s z
 ·rw[h] at h3;cases h3;exact E h4.2
 ·rw[C] at h4;cases h4.1
theorem ZjD{m m2:Zab}{k:Nat}(C:(m.accts.getD k default).flag=true)(h:ZaH m k=none)(s:1<k)(z:k<m.accts.length):¬ZcN m m2:=fun hc=>by
 obtain⟨E,h3,h4|h4⟩:=hc k s z
 ·rw[C] at h4;cases h4.1
 ·obtain⟨_,G,h5,_⟩:=h4
  rw[h] at h5;cases h5
theorem ZjE{m m2:Zab}{k:Nat}{x y:Int}(h:ZaH m2 k=some x)(C:(m.accts.getD k default).flag=true)(G:ZaH m k=some y)(E:¬y≤x)(s:1<k)(z:k<m.accts.length):¬ZcN m m2:=fun hc=>by
 obtain⟨J,h3,h4|h4⟩:=hc k s z
 ·rw[C] at h4;cases h4.1
 ·obtain⟨_,L,h5,h6⟩:=h4
  rw[G] at h5;cases h5
  rw[h] at h3;cases h3
  exact E h6
def Zc8(m m2:Zab)(w:World)(e:Ending)(w':World):Prop:=Bw w w'∧(e=.returned (.tuple #[])∨∃er:Int,er≠0∧e=Pan 144 er∧¬ZcN m m2)
theorem ZkI{w:World}{B:Nat}{m:Zab}{k:Nat}(h:Zay w B m)(z:k<m.accts.length):∃aa,m.sAcc.A=some aa∧w.cell? ⟨(aa.add (k*4)).block,(aa.add (k*4)).off+2,none⟩=some (.bool (m.accts.getD k default).flag):=by
 obtain⟨aa,s,_,g0,g1,g2,g3⟩:=ZeT h.accts z
 refine⟨aa,s,?_⟩
 have e:m.accts.getD k default=m.accts[k]:=by simp[z]
 rw[e]
 exact g2
theorem ZkS:∀(s:Array Value) (w:World),(callFunc 149 s).run prog w=.ok (.enter 149 s) w:=by
 intro s w
 kernel_rfl
theorem Zfl(m E:Zab)(acct:Int)(w:World)(hm:Zay w w.heap.size m)(aR:Zay w w.heap.size E)(Y:Gl w)(aS:ZaZ m acct):
 Calls prog 47 #[m.val,E.val,I acct] w (Zc8 m E w):=by
 show Calls prog 47 #[.agg m.ar,.agg E.ar,I acct] w (Zc8 m E w)
 have aV:=Hi hm
 have ad:=Hi aS
 have aU:Hid (∀V,Bw w V→∀v:Int,Calls prog 109 #[.agg m.ar,I v] V (ZhD (ZaH m v) V)):=fun V hV v=>ZeC m v V ((hm.below hV).mono hV.size) (Y.below hV Y.lt)
 have az:Hid (∀V,Bw w V→∀v:Int,Calls prog 109 #[.agg E.ar,I v] V (ZhD (ZaH E v) V)):=fun V hV v=>ZeC E v V ((aR.below hV).mono hV.size) (Y.below hV Y.lt)
 have aW:Hid (∀V,Bw w V→Calls prog 71 #[.slice m.sAcc.A m.accts.length m.sAcc.c] V (Zd8 V (Zah m.accts))):=fun V hV=>Zdl _ _ _ _ V hm.short.2.2.2.1 ((hm.accts.below hV).mono hV.size)
 have aq:(Zah m.accts).length=m.accts.length:=by simp[Zah]
 have aE:=Hi aq
 have aT:Hid (∀V A c,Rd V V.heap.size 1 A (Zah m.accts).length (Zag (Zah m.accts))→Calls prog 108 #[.slice A (Zah m.accts).length c,I acct] V fun e w'=>∃bo bv A' c',e=.returned (.func (.func 149) #[] #[Pt bo,Pt bv]) ∧
  Bk w' bo 34 #[.slice A' (Zah m.accts).length c']∧Bk w' bv 3 #[I acct]∧Rd w' w'.heap.size 1 A' (Zah m.accts).length (Zag (Zah m.accts))∧(Zah m.accts).length≤c'∧Bw V w'):=
  fun V A c h=>Zju _ _ _ _ _ V (by rw[aq];exact hm.short.2.2.2.1) h
 clear hm aR Y aS aq
 refine ZcF (fd:=f47) func47 rfl ?_
 simp only[ntmps47,List.size_toArray,List.length_cons,List.length_nil,Nat.reduceAdd,Nat.reduceSub,Array.replicate_succ,Array.replicate_zero,List.push_toArray,List.append_toArray,List.nil_append,List.cons_append]
 obtain⟨W2,U⟩:=ExY ((w.alloc (.cells m.ar 37)).alloc (.cells E.ar 37))
 obtain⟨bl,ae⟩:=ExY w.heap.size
 have ag:Hid (Bw w W2):=by rw[U];exact((Below.refl _ w).alloc (Nat.le_refl _) _).alloc (by simp) _
 have ai:Hid (Bk W2 bl 37 m.ar):=by rw[U,ae];exact(Bk.new _ _ _).alloc _
 have aG:Hid (Bk W2 (bl+1) 37 E.ar):=by
  have h:=Bk.new (w.alloc (.cells m.ar 37)) 37 E.ar
  rw[World.size_alloc] at h
  rw[U,ae];exact h
 refine Za1 (Zbk ?_)
 go_wp2
 rw[←U,←ae]
 clear U ae
 have aJ:=ai.nine
 refine Za1 (Zbk ?_)
 go_wp2_with fail
 refine(aW.out _ ag).mono ?_
 rintro e W3 ⟨A1,c1,rfl,_,_,ho,hb⟩
 have aw:=blT ag hb
 have aI:=bkN ai hb
 have aH:=bkN aG hb
 have HQ:=Hi (Rd.of_own ho)
 clear ho hb aJ
 dsimp only
 go_wp2_with fail
 refine(aT.out _ _ _ HQ).mono ?_
 rintro e W4 ⟨bo,bv,A2,c2,rfl,ho,hv,hr,_,hb⟩
 have z:=blT aw hb
 have aj:=bkN aI hb
 have ah:=bkN aH hb
 have aD:=Hi ho
 have aF:=Hi hv
 have aX:=Hi hr
 clear ho hv hr hb
 dsimp only
 go_wp2
 refine Zd3 (ZeL (caps:=#[Pt bo,Pt bv]) rfl ZkS ?_)
 intro L ak W1 aL aQ aM
 have aN:ZeV (Zah m.accts) acct=true:=by
  have h:=(ZbI ad.1).2.2.1
  unfold Zbe at h
  simp only[Bool.and_eq_true,decide_eq_true_eq] at h
  unfold ZeV
  simp only[Bool.and_eq_true,decide_eq_true_eq]
  have h1:=ad.2.1
  have h2:=ad.2.2
  exact⟨h.1,by omega,by rw[aE.out];exact h2⟩
 refine(ZiG (W4.heap.size+1) bo bv A2 (Zah m.accts).length c2 (Zah m.accts) acct
  (fun W=>Bw W4 W∧W.heap[W4.heap.size+1]?=some (.loop (L .ready none))∧W.heap[W4.heap.size]?=some (.deferred (some [])))
  (fun W=>Bw W4 W∧W.heap[W4.heap.size]?=some (.deferred (some []))∧¬ZcN m E) aN ad.2.1 ?_ ?_ ?_ W1 ⟨aL,aQ,aM⟩).mono ?_
 ·rintro W ⟨h1,_,_⟩
  exact⟨(aD.below h1 aD.lt).cell 0,(aF.below h1 aF.lt).cell 0,(aX.below h1).mono h1.size⟩
 ·rintro W W' ⟨h1,h2,h3⟩ hb
  exact⟨h1.trans (hb.mono h1.size),(hb.block _ (Array.getElem?_eq_some_iff.1 h2).1).trans h2,(hb.block _ (Array.getElem?_eq_some_iff.1 h3).1).trans h3⟩
 ·rintro k W ⟨h1,h2,h3⟩ aO aP
  refine Zee ak func47 h2 rfl ?_
  have H1:=Hi h1
  have H2:=Hi h2
  have H3:=Hi h3
  clear h1 h2 h3 aL aQ aM aN ak
  gi_wp2
  refine⟨H2,?_⟩
  obtain⟨W6,X⟩:=ExY (W.putObj (W4.heap.size+1) (.loop (L .busy none)))
  have al:Hid (Bw W4 W6):=by rw[X];exact ZaT H1 (Nat.le_succ _) _
  have aB:Hid (W6.heap[W4.heap.size+1]?=some (.loop (L .busy none))):=by show _=_;rw[X];exact World.putObj_heap_same (Array.getElem?_eq_some_iff.1 H2).1
  have ay:Hid (W6.heap[W4.heap.size]?=some (.deferred (some []))):=by show _=_;rw[X];exact(World.putObj_heap_other (Nat.ne_of_lt (Nat.lt_succ_self _))).trans H3
  rw[←X]
  clear X
  have af:k<m.accts.length:=by rw[←aE.out];exact aP
  have Z:=Hi aO
  have ab:=Hi af
  obtain⟨aa,aK,g2⟩:=ZkI aV af
  obtain⟨fl,ap⟩:=ExY ((m.accts.getD k default).flag)
  have ao:Hid ((m.accts.getD k default).flag=fl):=ap.symm
  rw[←ap] at g2
  have au:=Hi aK
  have aA:Hid (w.cell? ⟨(aa.add (k*4)).block,(aa.add (k*4)).off+2,none⟩=some (.bool fl)):=g2
  have N:Hid (∀V,Bw W4 V→Bw w V∧Bk V bl 37 m.ar∧Bk V (bl+1) 37 E.ar):=fun V hV=>⟨z.trans (hV.mono z.size),aj.below hV aj.lt,ah.below hV ah.lt⟩
  have k0:(0:Int)≤(k:Int):=Int.natCast_nonneg k
  have k1:(k:Int)<(m.accts.length:Int):=Int.ofNat_lt.mpr af
  clear aO aP af g2 aK ap
  obtain⟨x0,x1,x2,x3,x4,x5,x6,x7,x8,z0,z1,z2,z3,z4,z5,z6,z7,z8,lx⟩:=(N.out W6 al).2.2.nine
  gi_wp2_with fail
  refine⟨trivial,rfl,(CallsIn.inRound _ ((callsIn_wide (n:=0)).2 (az.out W6 (N.out W6 al).1 k))).mono ?_⟩
  rintro e W7 ⟨hb,x,er,rfl,hc⟩
  have HC:=Hi hc
  have G:=blT al hb
  have ac:Hid (W7.heap[W4.heap.size+1]?=some (.loop (L .busy none))):=(hb.block _ (Array.getElem?_eq_some_iff.1 aB).1).trans aB
  have R:Hid (W7.heap[W4.heap.size]?=some (.deferred (some []))):=(hb.block _ (Array.getElem?_eq_some_iff.1 ay).1).trans ay
  clear hb hc x0 x1 x2 x3 x4 x5 x6 x7 x8 z0 z1 z2 z3 z4 z5 z6 z7 z8 lx
  dsimp only
  by_cases C:er=0
  rotate_left
  ·have J:Hid (¬ZcN m E):=ZjB (Zhy HC C) Z ab
   gi_wp2_with fail
   refine⟨trivial,rfl,(CallsIn.inRound _ ((callsIn_wide (n:=0)).2 (ZbJ er C _))).mono ?_⟩
   rintro e w' ⟨rfl,s⟩
   rw[s]
   clear s w'
   dsimp only
   gi_wp2
   exact⟨rfl,.inr ⟨er,C,rfl,G,R,J⟩⟩
  subst C
  have HX:Hid (ZaH E k=some x):=Zf3 HC rfl
  gi_wp2_with fail
  refine⟨trivial,rfl,(CallsIn.inRound _ ((callsIn_wide (n:=0)).2 (ZbZ _))).mono ?_⟩
  rintro e w' ⟨rfl,s⟩
  rw[s]
  clear s w'
  dsimp only
  obtain⟨x0,x1,x2,x3,x4,x5,x6,x7,x8,z0,z1,z2,z3,z4,z5,z6,z7,z8,lx⟩:=(N.out W7 G).2.1.nine
  rw[au.out] at x4
  have g2:W7.cell? ⟨(aa.add (k*4)).block,(aa.add (k*4)).off+2,none⟩=some (.bool fl):=((N.out W7 G).1.cell (World.block_lt_of_cell? _ _ aA)).trans aA
  cases fl with
  |false=>
   by_cases hx:0≤x
   ·gi_wp2_with fail
    refine⟨trivial,rfl,(CallsIn.inRound _ ((callsIn_wide (n:=0)).2 (Za0 38 _))).mono ?_⟩
    rintro e w' ⟨rfl,s⟩
    rw[s]
    clear s w'
    dsimp only
    clear g2 x0 x1 x2 x3 x4 x5 x6 x7 x8 z0 z1 z2 z3 z4 z5 z6 z7 z8 lx
    gi_wp2
    exact⟨ac,.inl ⟨rfl,ZaT G (Nat.le_succ _) _,World.putObj_heap_same (Array.getElem?_eq_some_iff.1 ac).1,(World.putObj_heap_other (Nat.ne_of_lt (Nat.lt_succ_self _))).trans R⟩⟩
   ·have J:Hid (¬ZcN m E):=ZjC HX ao hx Z ab
    gi_wp2_with fail
    refine⟨trivial,rfl,(CallsIn.inRound _ ((callsIn_wide (n:=0)).2 (Zav 38 _))).mono ?_⟩
    rintro e w' ⟨rfl,s⟩
    rw[s]
    clear s w'
    dsimp only
    clear g2 x0 x1 x2 x3 x4 x5 x6 x7 x8 z0 z1 z2 z3 z4 z5 z6 z7 z8 lx
    gi_wp2
    exact⟨rfl,.inr ⟨38,by decide,rfl,G,R,J⟩⟩
  |true=>
  gi_wp2_with fail
  refine⟨trivial,rfl,?_⟩
  rw[←au.out]
  refine(CallsIn.inRound _ ((callsIn_wide (n:=0)).2 (aU.out W7 (N.out W7 G).1 k))).mono ?_
  rintro e W8 ⟨hb,y,er,rfl,hc⟩
  have ax:=Hi hc
  have am:=blT G hb
  have aC:Hid (W8.heap[W4.heap.size+1]?=some (.loop (L .busy none))):=(hb.block _ (Array.getElem?_eq_some_iff.1 ac).1).trans ac
  have an:Hid (W8.heap[W4.heap.size]?=some (.deferred (some []))):=(hb.block _ (Array.getElem?_eq_some_iff.1 R).1).trans R
  clear hb hc g2 x0 x1 x2 x3 x4 x5 x6 x7 x8 z0 z1 z2 z3 z4 z5 z6 z7 z8 lx
  dsimp only
  by_cases C:er=0
  rotate_left
  ·have J:Hid (¬ZcN m E):=ZjD ao (Zhy ax C) Z ab
   gi_wp2_with fail
   refine⟨trivial,rfl,(CallsIn.inRound _ ((callsIn_wide (n:=0)).2 (ZbJ er C _))).mono ?_⟩
   rintro e w' ⟨rfl,s⟩
   rw[s]
   clear s w'
   dsimp only
   gi_wp2
   exact⟨rfl,.inr ⟨er,C,rfl,am,an,J⟩⟩
  subst C
  have HY:Hid (ZaH m k=some y):=Zf3 ax rfl
  gi_wp2_with fail
  refine⟨trivial,rfl,(CallsIn.inRound _ ((callsIn_wide (n:=0)).2 (ZbZ _))).mono ?_⟩
  rintro e w' ⟨rfl,s⟩
  rw[s]
  clear s w'
  dsimp only
  by_cases aY:y≤x
  ·gi_wp2_with fail
   refine⟨trivial,rfl,(CallsIn.inRound _ ((callsIn_wide (n:=0)).2 (Za0 38 _))).mono ?_⟩
   rintro e w' ⟨rfl,s⟩
   rw[s]
   clear s w'
   dsimp only
   gi_wp2
   exact⟨aC,.inl ⟨rfl,ZaT am (Nat.le_succ _) _,World.putObj_heap_same (Array.getElem?_eq_some_iff.1 aC).1,(World.putObj_heap_other (Nat.ne_of_lt (Nat.lt_succ_self _))).trans an⟩⟩
  ·have J:Hid (¬ZcN m E):=ZjE HX ao HY aY Z ab
   gi_wp2_with fail
   refine⟨trivial,rfl,(CallsIn.inRound _ ((callsIn_wide (n:=0)).2 (Zav 38 _))).mono ?_⟩
   rintro e w' ⟨rfl,s⟩
   rw[s]
   clear s w'
   dsimp only
   gi_wp2
   exact⟨rfl,.inr ⟨38,by decide,rfl,am,an,J⟩⟩
 ·rintro e W5 (⟨rfl,h1,h2,h3⟩|⟨er,C,rfl,h1,h2,h3⟩)
  ·refine .inl ⟨_,rfl,h2,?_⟩
   have h4:(W5.putObj (W4.heap.size+1) (.loop (L .exhausted none))).heap[W4.heap.size]?=some (.deferred (some [])):=(World.putObj_heap_other (by omega)).trans h3
   show LeavesInM Fence.wide 0 prog f47 _ (Zc8 m E w) [{target:=.collected W4.heap.size,args:=#[]}] .returning _
   refine⟨by simp,.inl ⟨W4.heap.size,_,rfl,run_takeDeferred h4,?_⟩⟩
   refine⟨.tuple #[],results_none rfl _ _ _,?_,.inl rfl⟩
   exact ZaT (ZaT (z.trans (h1.mono z.size)) (Nat.le_succ_of_le z.size) _) z.size _
  ·refine .inr ⟨_,rfl,?_⟩
   show LeavesInM Fence.wide 0 prog f47 _ (Zc8 m E w) [{target:=.collected W4.heap.size,args:=#[]}] (.panicking _) _
   refine⟨by simp,.inl ⟨W4.heap.size,_,rfl,run_takeDeferred h2,?_⟩⟩
   exact⟨ZaT (z.trans (h1.mono z.size)) z.size _,.inr ⟨er,C,rfl,h3⟩⟩
end
def Zdt(T:Nat)(R:Zab→Int→Prop)(bad:Prop)(B:Nat)(e:Ending)(w':World):Prop:=(∃m' n,e=.returned (.tuple #[m'.val,I n])∧Zaa w' B m'∧R m' n)∨(∃er:Int,er≠0∧e=Pan T er∧bad)
theorem Zdt.yes{T:Nat}{R:Zab→Int→Prop}{bad:Prop}{B:Nat}{w':World}{v:Value}{n:Int}(s:Zab)(E:s.val=v)(z:Zaa w' B s)(C:R s n):Zdt T R bad B (.returned (.tuple #[v,I n])) w':=.inl ⟨s,n,by rw[E],z,C⟩
theorem Zdt.no{T:Nat}{R:Zab→Int→Prop}{bad:Prop}{B:Nat}{w':World}{er:Int}(s:er≠0)(h:bad):Zdt T R bad B (.panicked [{v:=.iface T (.agg #[I er]),recovered:=false}]) w':=.inr ⟨er,s,rfl,h⟩
structure ZeA(m:Zab)(o:O.Lc):Prop where
 trade:ZaZ m o.acct
 put:ZcX m o
 cover:∀m2,Zc0 m o m2→ZcN m m2
 flags:∀m2,Zc0 m o m2→¬Zb8 m2
def Zeh(m:Zab)(o:O.Lc)(m':Zab)(n:Int):Prop:=n=o.id∧ZaZ m o.acct∧∃m2,Zc0 m o m2∧Zbo m2 m'
theorem Zll(m:Zab)(o:O.Lc)(bl bo:Nat)(w:World)(hl:Bk w bl 37 m.ar)(aL:Bk w bo 45 #[I o.acct,I o.id,I o.instr,I o.qty,I o.price])(hm:Zay w w.heap.size m)(ah:Gl w):
 Calls prog 44 #[Pt bl,Pt bo] w fun e w'=>Bw w w'∧Zdt 144 (Zeh m o) (¬ZeA m o) w.heap.size e w':=by
 obtain⟨acct,id,instr,qty,price⟩:=o
 dsimp only at aL
 have a7:Hid (∀V,Bw w V→Calls prog 45 #[.agg m.ar,I acct] V fun e w'=>Bw V w'∧Zie 144 (ZaZ m acct) e):=fun V hV=>ZdZ m acct V ((hm.below hV).mono hV.size)
 have a5:Hid (∀V,Bw w V→ZaZ m acct→Calls prog 46 #[.agg m.ar,.agg #[I acct,I id,I instr,I qty,I price]] V fun e w'=>Bw V w'∧Zd5 144 (Zc0 m ⟨acct,id,instr,qty,price⟩) (¬ZcX m ⟨acct,id,instr,qty,price⟩) V.heap.size e w'):=fun V hV h=>put_any m ⟨acct,id,instr,qty,price⟩ V ((hm.below hV).mono hV.size) h
 have aU:Hid (∀V (m2:Zab),Bw w V→Zay V V.heap.size m2→ZaZ m acct→Calls prog 47 #[.agg m.ar,.agg m2.ar,I acct] V (Zc8 m m2 V)):=fun V m2 hV h ht=>Zfl m m2 acct V ((hm.below hV).mono hV.size) h (ah.below hV ah.lt) ht
 have aY:Hid (∀V (m2:Zab),Bw w V→Zay V V.heap.size m2→Calls prog 48 #[.agg m2.ar] V fun e w'=>Bw V w'∧Zd5 144 (Zbo m2) (Zb8 m2) V.heap.size e w'):=fun V m2 hV h=>Zdi m2 V h (ah.below hV ah.lt)
 have aN:=Hi hl
 have aP:=Hi aL
 clear hl aL hm ah
 obtain⟨W1,ab⟩:=ExY (w.alloc (.cells zZ 37))
 obtain⟨bz,aj⟩:=ExY w.heap.size
 have ak:=blB ab
 have aK:=bl0 aj
 have au:=bkA aN ab
 have az:=bkA aP ab
 have aE:=bkW ab aj
 go_enter func44,ntmps44
 go_upto_region 1 with(fail)
 rw[←ab,←aj]
 clear ab aj
 have s:=au.nine
 have z:=az.five
 have C:=aE.nine
 go_wp2_with fail
 refine(a7.out _ ak).mono ?_
 rintro e W2 ⟨hb,he⟩
 have aV:=Hi he
 clear he
 have Y:=blT ak hb
 have aw:=bkN au hb
 have aA:=bkN az hb
 have aF:=bkN aE hb
 clear s z C
 clear hb
 have s:=aw.nine
 have z:=aA.five
 have C:=aF.nine
 rcases aV.out with⟨he,aT⟩|⟨er,X,he,E⟩
 rotate_left
 ·unfold Pan at he
  subst he
  dsimp only
  have L:Hid (¬ZeA m ⟨acct,id,instr,qty,price⟩):=fun h=>E h.trade
  clear E
  go_wp2
  exact⟨rfl,Y,Zdt.no X L⟩
 subst he
 have aJ:=Hi aT
 clear aT
 dsimp only
 go_wp2_with fail
 have a3:=Hi Y.size
 refine(a5.out _ Y aJ).mono ?_
 rintro e W3 ⟨hb,he⟩
 have aW:=Hi he
 clear he
 have al:=blT Y hb
 have ax:=bkN aw hb
 have aB:=bkN aA hb
 have af:=bkN aF hb
 clear s z C
 clear hb
 have s:=ax.nine
 have z:=aB.five
 have C:=af.nine
 rcases aW.out with⟨m2,he,ho,hr⟩|⟨er,X,he,E⟩
 rotate_left
 ·unfold Pan at he
  subst he
  dsimp only
  have L:Hid (¬ZeA m ⟨acct,id,instr,qty,price⟩):=fun h=>E h.put
  clear E
  go_wp2
  exact⟨rfl,al,Zdt.no X L⟩
 have J:m2.val=.agg m2.ar:=rfl
 rw[J] at he
 clear J
 subst he
 have HR:=Hi hr
 have aZ:Hid (Zaa W3 w.heap.size m2):=ho.mono a3
 clear hr ho
 dsimp only
 obtain⟨W4,G⟩:=ExY (W3.alloc (.cells m2.ar 37))
 obtain⟨b4,ai⟩:=ExY W3.heap.size
 have am:=blA al G
 have ay:=bkA ax G
 have aC:=bkA aB G
 have aG:=bkA af G
 have ao:=bkW G ai
 have aR:Hid (b4≠bz):=by
  have h:=af.lt
  show b4≠bz
  rw[ai]
  exact Ne.symm (Nat.ne_of_lt h)
 have aM:=boA aZ G
 go_upto_region 3 with(fail)
 rw[←G,←ai]
 clear G ai
 clear s z C
 have s:=ay.nine
 have z:=aC.five
 have C:=aG.nine
 have ag:=ao.nine
 go_wp2_with fail
 refine(aU.out _ m2 am aM.rd aJ).mono ?_
 rintro e W5 ⟨hb,he⟩
 have aX:=Hi he
 clear he
 have a0:=boN aM hb
 have an:=blT am hb
 have aO:=bkN ay hb
 have aD:=bkN aC hb
 have aH:=bkN aG hb
 have ap:=bkN ao hb
 clear s z C ag
 clear hb
 have s:=aO.nine
 have z:=aD.five
 have C:=aH.nine
 have ag:=ap.nine
 rcases aX.out with he|⟨er,X,he,E⟩
 rotate_left
 ·unfold Pan at he
  subst he
  dsimp only
  have L:Hid (¬ZeA m ⟨acct,id,instr,qty,price⟩):=fun h=>E (h.cover m2 HR)
  clear E
  go_wp2
  exact⟨rfl,an,Zdt.no X L⟩
 subst he
 dsimp only
 go_upto_region 4 with(fail)
 clear s z C ag
 obtain⟨W6,R⟩:=ExY W5.drew
 have Z:=blD an R
 have ad:=bkD aD R
 have aQ:=bkD aH R
 have ac:=bkD ap R
 have a1:=boD a0 R
 refine rgM (fun U=>Bk U b4 37 m2.ar∧U.cell? (Aq bo 1)=some (I id)) 5 (by kernel_rfl) R ?_
 clear R
 refine Zjq (i:=0) (v:=(.agg m2.ar)) rfl (by kernel_rfl) (by kernel_rfl) (by kernel_rfl) (by kernel_rfl) (by kernel_rfl) (fun _ _ _ h=>h) (Or.inl ⟨by rfl,?_⟩) (⟨ac,ad.cell 1⟩) ?_
 ·intro w aS
  try dsimp only at aS
  obtain⟨q0,q1⟩:=aS
  exact Za9 37 _ rfl b4 rfl 37 _ (0,0) _ q0 underlying37 rfl ZaU
 try simp only[Act.put,sA,sB,sC]
 refine tkM [2,3] (⟨ac,ad.cell 1⟩) (by kernel_rfl) (fun _ _ _ _ h=>h) ?_
 iterate 2 (refine ycM rfl (by rfl) (fun w h=>by go_simp<;>rfl) ?_;try simp only[Act.put,sA,sB,sC])
 refine onM 1 (by kernel_rfl) rfl fun K hK=>?_
 go_simp
 try dsimp only
 have a4:=Hi Z.size
 refine(aY.out _ m2 Z a1.rd).mono ?_
 rintro e W7 ⟨hb,he⟩
 rcases he with⟨m3,he,ho,hr⟩|⟨er,X,he,E⟩
 rotate_left
 ·unfold Pan at he
  subst he
  dsimp only
  have L:Hid (¬ZeA m ⟨acct,id,instr,qty,price⟩):=fun h=>h.flags m2 HR E
  have aI:=blT Z hb
  clear E hb
  go_wp2
  exact⟨rfl,aI,Zdt.no X L⟩
 have J:m3.val=.agg m3.ar:=rfl
 rw[J] at he
 clear J
 subst he
 dsimp only
 have a6:=Hi hr
 have a2:Hid (Zaa W7 w.heap.size m3):=ho.mono a4
 have aI:=blT Z hb
 have aq:=bkN ac hb
 have ae:=bkN ad hb
 have aa:=bkN aQ hb
 clear hr ho hb
 refine hK.out _ _ (fun _=>⟨aq,ae.cell 1⟩) ?_
 try simp only[Act.put,sA,sB,sC]
 refine onM 4 (by kernel_rfl) rfl fun K hK=>?_
 refine Zaq rfl 37 _ _ rfl bz m3.ar rfl rfl 37 zZ aa ZaU (by rfl) (by simp[Value.oneCell']) ?_
 obtain⟨V9,N⟩:=ExY (W7.setRow bz m3.ar)
 rw[←N]
 have Jz:Hid (Bk V9 bz 37 m3.ar):=by rw[N];exact aa.row _
 have JB:=blR aI N aK
 have JO:=boR a2 N aa (by decide)
 have J4:Hid (Bk V9 b4 37 m2.ar):=by rw[N];exact(setRow_other W7 bz b4 _ aR).trans aq
 have Jo:Hid (Bk V9 bo 45 #[I acct,I id,I instr,I qty,I price]):=by rw[N];exact(setRow_other W7 bz bo _ (ae.ne aa (by decide))).trans ae
 clear N
 refine hK.out _ _ (fun _=>⟨J4,Jo.cell 1⟩) ?_
 try simp only[Act.put]
 refine onM 5 (by kernel_rfl) rfl fun K hK=>?_
 go_simp
 refine hK.out _ _ (fun h0=>Zac (by kernel_rfl) h0) ?_
 refine Zak (by kernel_rfl) ?_ _
 go_wp2
 exact bodyPost_ret (Zaw (p:=2) (q:=3) results44 _ V9 bz 37 m3.ar (0,0) _ rfl Jz underlying37 rfl ZaU) rfl ⟨JB,Zdt.yes m3 rfl JO ⟨rfl,aJ,m2,HR,a6⟩⟩
theorem Bk.gone{w w':World}{g t hole:Nat}{cs:Array Value}(h:Bk w g t cs)(z:w.grownBy w' (some hole))(s:g≠hole):Bk w' g t cs:=
 (z.block g h.lt (fun e=>s (Option.some.inj e))).trans h
theorem Zec{P:Program}{ops:Array Oper}{Q:Exit→Act→World→Prop}(S:World→Prop)(st:Nat){id:Nat}{a:Act}{w:World}(s:P.follows .mixedOrders=true)(h:Zd9 P .any ops (fun x a w=>x=.normal∧Q x a w) S st ops.size (Array.replicate ops.size false) a w.drew):(Code.region id ops true).wp P Q a w:=
 Code.wp_mono (fun _ _ _ h=>h.2) (Zbf S st s h)
theorem Zaa.low{w:World}{base:Nat}{m:Zab}(h:Zaa w base m){g:Nat}(s:g<base)(i:Nat)(u:Value):Zaa (w.setCell (Aq g i) u) base m:=by
 have hf:∀ {e k n c:Nat} {A:Option Addr} {xs:List Value},w.ownsRow base e k (.slice A n c) n xs→(w.setCell (Aq g i) u).ownsRow base e k (.slice A n c) n xs:=fun h=>ZbV h fun p hp=>by
  obtain⟨cs,_,hb,_⟩:=ZaK h hp
  exact fun e=>by omega
 exact⟨hf h.curs,hf h.unders,hf h.instrs,hf h.accts,hf h.poss,hf h.orders,hf h.avail,hf h.locs,fun a ha=>⟨hf (h.cash a ha).1,(h.cash a ha).2⟩,h.apart,h.away,h.short⟩
theorem Zbp{fn:Func}{p q r:Tmp}(h:fn.results=#[.cell p 37,.cell q 3,.cell r 39])(tmps:Array Value)(w:World)(gp gq gr:Nat)(cs:Array Value)(x y:Int)(L:tmps.getD p undef=Pt gp)(N:tmps.getD q undef=Pt gq)(R:tmps.getD r undef=Pt gr)(E:Bk w gp 37 cs)(G:Bk w gq 3 #[I x])(J:Bk w gr 39 #[I y])(hi:(prog.info? 37).map (·.size)=some cs.size):
 (results fn tmps).run prog w=.ok (.tuple #[.agg cs,I x,I y]) w:=by
 have s:tmps[p]?.getD undef=Pt gp:=by simpa using L
 have z:tmps[q]?.getD undef=Pt gq:=by simpa using N
 have C:tmps[r]?.getD undef=Pt gr:=by simpa using R
 have c2:=Ct G 0 rfl
 have c3:=Ct J 0 rfl
 try simp only[List.getElem?_toArray,List.getElem?_cons_zero] at c2 c3
 have e1:=run_loadVar_row (P:=prog) w gp 37 37 cs (0,0) _ E underlying37 rfl hi
 have l2:(loadVar 3 (Aq gq 0)).run prog w=.ok (I x) w:=by simp[go_sem,c2]
 have l3:(loadVar 39 (Aq gr 0)).run prog w=.ok (I y) w:=by simp[go_sem,c3]
 simp[results,h,s,z,C,asAddr,e1,l2,l3]
def Zjs(R:Zab→Int→Prop)(bad:Prop)(hole:Nat)(w:World)(e:Ending)(w':World):Prop:=
 w.grownBy w' (some hole)∧∃(m':Zab) (n er:Int),e=.returned (.tuple #[m'.val,I n,I er])∧((er=0∧Zaa w' w.heap.size m'∧R m' n)∨(er≠0∧m'=Za4∧n=0∧bad))
theorem Zey(k:Nat)(caps:Array Value)(R:Zab→Int→Prop)(bad:Prop)(hole:Nat)(w:World)(hh:hole<w.heap.size)(aS:∀W,(callFunc k caps).run prog W=.ok (.enter k caps) W)(aC:∀W,Bw w W→Calls prog k caps W fun e W'=>W.grownBy W' (some hole)∧Zdt 144 R bad W.heap.size e W'):
 Calls prog 43 #[.func (.func k) #[] caps] w (Zjs R bad hole w):=by
 obtain⟨W1,ae⟩:=ExY (w.alloc (.cells zZ 37))
 obtain⟨pl,af⟩:=ExY w.heap.size
 have ai:=blB ae
 have z:=bl0 af
 have ay:=bkW ae af
 obtain⟨W2,Y⟩:=ExY (W1.alloc (.cells #[I 0] 3))
 obtain⟨pn,ag⟩:=ExY W1.heap.size
 have aj:=blA ai Y
 have C:=blZ ai ag
 have az:=bkA ay Y
 have aB:=bkW Y ag
 have an:pn=pl+1:=by rw[ag,ae,World.size_alloc,←af]
 obtain⟨W3,Z⟩:=ExY (W2.alloc (.cells #[I 0] 39))
 obtain⟨pe,ah⟩:=ExY W2.heap.size
 have aa:=blA aj Z
 have G:=blZ aj ah
 have aA:=bkA az Z
 have ak:=bkA aB Z
 have ax:=bkW Z ah
 have am:pe=pn+1:=by rw[ah,Y,World.size_alloc,←ag]
 have au:=Hi hh
 have aG:=Hi (aC W3 aa)
 clear aC hh
 have aM:Hid (hole≠pl):=by show _≠_;have:=z.out;have:=au.out;omega
 have aN:Hid (hole≠pn):=by show _≠_;have:=C.out;have:=au.out;omega
 have aL:Hid (hole≠pe):=by show _≠_;have:=G.out;have:=au.out;omega
 go_enter_defers func43,ntmps43
 go_upto_region 2 with(fail)
 rw[←ae,←af,←Y,←an,←Z,←am]
 clear ae af an Y ag am Z ah
 go_wp2_with fail
 refine aG.mono ?_
 rintro e W4 ⟨hg,he⟩
 have aq:Hid (w.grownBy W4 (some hole)):=Za6 (Zae (ZaG w _) aa (Nat.le_refl _)) hg
 have aJ:=Hi aa.size
 have s:Hid (Bk W4 pl 37 zZ):=aA.gone hg (Ne.symm aM)
 have ac:Hid (Bk W4 pn 3 #[I 0]):=ak.gone hg (Ne.symm aN)
 have ab:Hid (Bk W4 pe 39 #[I 0]):=ax.gone hg (Ne.symm aL)
 clear hg
 have aD:¬(pn=pe):=ac.ne ab (by decide)
 have aE:¬(pe=pn):=fun h=>aD h.symm
 clear aD aE
 rcases he with⟨m2,n,he,ho,hr⟩|⟨er,aQ,he,aF⟩
 rotate_left
 ·unfold Pan at he
  subst he
  dsimp only
  have aH:=Hi aF
  clear aF
  go_wp2
  refine leaves_cons (f:=102) (args:=#[Pt pl,Pt pn,Pt pe]) (by simp) (by simp[go_sem]) ?_
  refine(Zhk w.heap.size pl pn pe er 0 0 zZ rfl _ W4 aq.size s ac ab z C G).mono ?_
  rintro e u' aw ⟨rfl,rfl,hb,h1,h2,h3⟩
  have aR:(prog.info? 37).map (·.size)=some (zZ:Array Value).size:=by kernel_rfl
  refine⟨_,Zbp (p:=2) (q:=3) (r:=4) results43 _ aw pl pn pe _ _ _ rfl rfl rfl h1 h2 h3 aR,?_⟩
  exact⟨Zae aq hb (Nat.le_refl _),Za4,0,er,rfl,.inr ⟨aQ,rfl,rfl,aH⟩⟩
 have ao:m2.val=.agg m2.ar:=rfl
 rw[ao] at he
 clear ao
 subst he
 have HR:=Hi hr
 have aI:Hid (Zaa W4 W3.heap.size m2):=ho
 have al:Hid (pn<W3.heap.size):=ak.lt
 clear hr ho
 dsimp only
 obtain⟨V1,E⟩:=ExY (W4.setRow pl m2.ar)
 have Jl:Hid (Bk V1 pl 37 m2.ar):=by rw[E];exact s.row _
 have Jn:=bkR ac E s rfl
 have Je:=bkR ab E s rfl
 have JG:Hid (w.grownBy V1 (some hole)):=by rw[E];exact Zae aq (ZaB (Below.refl _ W4) z _) (Nat.le_refl _)
 have JO:=boR aI E s (by decide)
 obtain⟨xn,zn,ln⟩:=Jn.one
 rw[E] at xn zn ln
 have aK:=Hi E
 clear E
 go_upto_region 3 with(refine wpList_store_row rfl 37 _ _ rfl pl m2.ar rfl rfl 37 zZ s ZaU (by rfl) (by simp[Value.oneCell']) ?_)
 clear xn zn ln
 obtain⟨V2,J⟩:=ExY ((V1.setCell ⟨pn,0,none⟩ (I n)).drew)
 have Kl:Hid (Bk V2 pl 37 m2.ar):=by rw[J];exact(Bk.far Jl (p:=Aq pn 0) (Jl.ne Jn (by decide)) _).drew
 have Kn:Hid (Bk V2 pn 3 #[I n]):=by rw[J];exact(Bk.set Jn 0 _).drew
 have Ke:Hid (Bk V2 pe 39 #[I 0]):=by rw[J];exact(Bk.far Je (p:=Aq pn 0) (Je.ne Jn (by decide)) _).drew
 have KG:Hid (w.grownBy V2 (some hole)):=by rw[J];exact Zae JG ((Below.refl _ V1).setCell (p:=Aq pn 0) C _).drew (Nat.le_refl _)
 have KO:Hid (Zaa V2 W3.heap.size m2):=by rw[J];exact(JO.low al 0 _).drewO
 refine Zec (fun U=>Bk U pl 37 m2.ar∧Bk U pn 3 #[I n]) 4 (by kernel_rfl) ?_
 rw[←aK.out,←J]
 clear J
 refine Zjq (i:=0) (v:=(.agg m2.ar)) rfl (by kernel_rfl) (by kernel_rfl) (by kernel_rfl) (by kernel_rfl) (by kernel_rfl) (fun _ _ _ h=>by cases h.1) (Or.inl ⟨by rfl,?_⟩) (⟨Kl,Kn⟩) ?_
 ·intro w ad
  try dsimp only at ad
  obtain⟨q0,q1⟩:=ad
  exact Za9 37 _ rfl pl rfl 37 _ (0,0) _ q0 underlying37 rfl ZaU
 try simp only[Act.put,sA,sB,sC]
 refine Zjq (i:=1) (v:=(I n)) rfl (by kernel_rfl) (by kernel_rfl) (by kernel_rfl) (by kernel_rfl) (by kernel_rfl) (fun _ _ _ h=>by cases h.1) (Or.inl ⟨by rfl,?_⟩) (⟨Kl,Kn⟩) ?_
 ·intro w ad
  try dsimp only at ad
  obtain⟨q0,q1⟩:=ad
  obtain⟨xn,zn,ln⟩:=q1.one
  first|(go_simp<;>fail)|(go_simp;with_reducible rfl)
 try simp only[Act.put,sA,sB,sC]
 refine onM 2 (by kernel_rfl) rfl fun K hK=>?_
 refine Zaq rfl 37 _ _ rfl pl m2.ar rfl rfl 37 m2.ar Kl ZaU (by rfl) (by simp[Value.oneCell']) ?_
 obtain⟨V3,L⟩:=ExY (V2.setRow pl m2.ar)
 rw[←L]
 have Ll:Hid (Bk V3 pl 37 m2.ar):=by rw[L];exact Kl.row _
 have Ln:=bkR Kn L Kl rfl
 have Le:=bkR Ke L Kl rfl
 have LG:Hid (w.grownBy V3 (some hole)):=by rw[L];exact Zae KG (ZaB (Below.refl _ V2) z _) (Nat.le_refl _)
 have LO:=boR KO L Kl (by decide)
 clear L
 refine hK.out _ _ (fun _=>⟨Ll,Ln⟩) ?_
 try simp only[Act.put]
 refine onM 3 (by kernel_rfl) rfl fun K hK=>?_
 have aP:=Ln.one
 go_simp
 clear aP
 obtain⟨V4,N⟩:=ExY (V3.setCell ⟨pn,0,none⟩ (I n))
 rw[←N]
 have Ml:Hid (Bk V4 pl 37 m2.ar):=by rw[N];exact Bk.far Ll (p:=Aq pn 0) (Ll.ne Ln (by decide)) _
 have Mn:Hid (Bk V4 pn 3 #[I n]):=by rw[N];exact Bk.set Ln 0 _
 have Me:Hid (Bk V4 pe 39 #[I 0]):=by rw[N];exact Bk.far Le (p:=Aq pn 0) (Le.ne Ln (by decide)) _
 have MG:Hid (w.grownBy V4 (some hole)):=by rw[N];exact Zae LG ((Below.refl _ V3).setCell (p:=Aq pn 0) C _) (Nat.le_refl _)
 have MO:Hid (Zaa V4 W3.heap.size m2):=by rw[N];exact LO.low al 0 _
 clear N
 refine hK.out _ _ (fun _=>⟨Ml,Mn⟩) ?_
 try simp only[Act.put]
 refine onM 4 (by kernel_rfl) rfl fun K hK=>?_
 have aO:=Me.one
 go_simp
 clear aO
 obtain⟨V5,X⟩:=ExY (V4.setCell ⟨pe,0,none⟩ (I 0))
 rw[←X]
 have Nl:Hid (Bk V5 pl 37 m2.ar):=by rw[X];exact Bk.far Ml (p:=Aq pe 0) (Ml.ne Me (by decide)) _
 have Nn:Hid (Bk V5 pn 3 #[I n]):=by rw[X];exact Bk.far Mn (p:=Aq pe 0) (Mn.ne Me (by decide)) _
 have Ne:Hid (Bk V5 pe 39 #[I 0]):=by rw[X];exact Bk.set Me 0 _
 have NG:Hid (w.grownBy V5 (some hole)):=by rw[X];exact Zae MG ((Below.refl _ V4).setCell (p:=Aq pe 0) G _) (Nat.le_refl _)
 have NO:Hid (Zaa V5 W3.heap.size m2):=by rw[X];exact Zaa.far MO Me (by decide) 0 _
 clear X
 refine hK.out _ _ (fun h0=>Zac (by kernel_rfl) h0) ?_
 refine Zak (by kernel_rfl) ?_ _
 refine⟨rfl,?_⟩
 go_wp2
 refine leaves_cons (f:=102) (args:=#[Pt pl,Pt pn,Pt pe]) (by simp) (by simp[go_sem]) ?_
 refine(Zhj (Aq pl 0) (Aq pn 0) (Aq pe 0) V5).mono ?_
 rintro e u' aw ⟨rfl,rfl,ap⟩
 rw[ap]
 clear ap aw
 refine⟨_,Zbp (p:=2) (q:=3) (r:=4) results43 _ V5 pl pn pe _ _ _ rfl rfl rfl Nl Nn Ne ZaU,?_⟩
 exact⟨NG,m2,n,0,rfl,.inl ⟨rfl,NO.mono aJ,HR⟩⟩
theorem Zam{P:Program}{fn:Func}{p q r:Tmp}{s:TypeId}(h:fn.results=#[.cell p s,.tmp q,.tmp r])(tmps:Array Value)(w:World)(g:Nat)(t:TypeId)(cs:Array Value)(fr:Nat×Nat)(d:TypeDesc)(G:tmps.getD p undef=Pt g)(E:w.heap[g]?=some (.cells cs t fr))(J:P.underlying s=some d)(C:(match d with | .struct _ | .array _ _=>true|_=>false)=true)(hi:(P.info? s).map (·.size)=some cs.size):
 (results fn tmps).run P w=.ok (.tuple #[.agg cs,tmps.getD q undef,tmps.getD r undef]) w:=by
 have z:tmps[p]?.getD undef=Pt g:=by simpa using G
 simp[results,h,z,asAddr,run_loadVar_row w g t s cs fr d E J C hi]
def Zar(R:Zab→Int→Prop)(bad:Prop)(w:World)(e:Ending)(w':World):Prop:=
 Bw w w'∧∃(m':Zab) (n er:Int),e=.returned (.tuple #[m'.val,I n,I er])∧((er=0∧Zaa w' w.heap.size m'∧R m' n)∨(er≠0∧m'=Za4∧n=0∧bad))
theorem Zl7(m:Zab)(acct id s qty z:Int)(w:World)(hm:Zay w w.heap.size m)(ai:Gl w):
 Calls prog 24 #[m.val,(⟨acct,id,s,qty,z⟩:O.Lc).val] w (Zar (Zeh m ⟨acct,id,s,qty,z⟩) (¬ZeA m ⟨acct,id,s,qty,z⟩) w):=by
 show Calls prog 24 #[.agg m.ar,.agg #[I acct,I id,I s,I qty,I z]] w (Zar (Zeh m ⟨acct,id,s,qty,z⟩) (¬ZeA m ⟨acct,id,s,qty,z⟩) w)
 obtain⟨W1,L⟩:=ExY (w.alloc (.cells m.ar 37))
 obtain⟨bl,U⟩:=ExY w.heap.size
 have Y:=blB L
 have ak:=bkW L U
 obtain⟨W2,G⟩:=ExY (W1.alloc (.cells #[I acct,I id,I s,I qty,I z] 45))
 obtain⟨bo,N⟩:=ExY W1.heap.size
 have Z:=blA Y G
 have af:=blZ Y N
 have al:=bkA ak G
 have am:=bkW G N
 have ac:bo=bl+1:=by rw[N,L,World.size_alloc,←U]
 obtain⟨W3,J⟩:=ExY (W2.alloc (.cells zZ 37))
 obtain⟨bz,X⟩:=ExY W2.heap.size
 have C:=blA Z J
 have ag:=blZ Z X
 have aa:=bkA al J
 have E:=bkA am J
 have ab:=bkW J X
 have ad:bz=bo+1:=by rw[X,G,World.size_alloc,←N]
 have aj:Hid (bz≠bo):=by
  show bz≠bo
  have h1:=ab.out
  have h2:=E.out
  exact h1.ne h2 (by decide)
 have HT:=Hi (Zey 44 #[Pt bl,Pt bo] (Zeh m ⟨acct,id,s,qty,z⟩) (¬ZeA m ⟨acct,id,s,qty,z⟩) bo W3 E.lt (fun W=>by kernel_rfl) (by
  intro W hW
  refine(Zll m ⟨acct,id,s,qty,z⟩ bl bo W (aa.below hW aa.lt) (E.below hW E.lt) ((hm.below (C.trans (hW.mono C.size))).mono (Nat.le_trans C.size hW.size)) (ai.below (C.trans (hW.mono C.size)) ai.lt)).mono ?_
  rintro e W' ⟨h1,h2⟩
  exact⟨Zae (ZaG W _) h1 (Nat.le_refl _),h2⟩))
 clear hm ai
 go_enter func24,ntmps24
 go_upto_region 1 with(fail)
 rw[←L,←U,←G,←ac,←J,←ad]
 clear L U ac G N ad J X
 go_wp2_with fail
 refine HT.mono ?_
 rintro e W9 ⟨hg,m2,n,er,rfl,hc⟩
 have HC:=Hi hc
 have an:Hid (Bw w W9):=C.trans (Zcb hg af C.size)
 have ao:=Hi C.size
 have ah:Hid (Bk W9 bz 37 zZ):=ab.gone hg aj
 clear hg hc
 have ae:m2.val=.agg m2.ar:=rfl
 rw[ae]
 clear ae
 dsimp only
 go_wp2_with (refine wpList_store_row rfl 37 _ _ rfl bz m2.ar rfl rfl 37 zZ ah ZaU (by rfl) (by simp[Value.oneCell']) ?_)
 obtain⟨V9,R⟩:=ExY (W9.setRow bz m2.ar)
 rw[←R]
 have au:=bkr ah R
 have ap:=blr an R ag
 have aq:(er=0∧Zaa V9 w.heap.size m2∧Zeh m ⟨acct,id,s,qty,z⟩ m2 n)∨(er≠0∧m2=Za4∧n=0∧¬ZeA m ⟨acct,id,s,qty,z⟩):=by
  rcases HC.out with⟨h1,h2,h3⟩|h
  ·exact .inl ⟨h1,by rw[R];exact(h2.mono ao).rowFar ah (by decide) _,h3⟩
  ·exact .inr h
 exact bodyPost_ret (Zam (p:=4) (q:=5) (r:=6) results24 _ V9 bz 37 m2.ar (0,0) _ rfl au underlying37 rfl ZaU) rfl ⟨ap,m2,n,er,rfl,aq⟩
end Go.Proofs.YtdefojlkofnloaaGreatDoor
