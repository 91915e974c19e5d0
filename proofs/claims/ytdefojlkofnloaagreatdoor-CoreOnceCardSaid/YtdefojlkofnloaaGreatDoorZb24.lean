/- A part of the proof of CoreOnce: for every input, no condition. -/
import Derived.Test.YtdefojlkofnloaaGreatDoorZb01
import Derived.RangeFuncBox
import Derived.RangeFuncCalls
import Derived.RangeFuncLeaves
set_option maxRecDepth 100000
set_option maxHeartbeats 8000000
set_option linter.unusedVariables false
set_option linter.unusedSimpArgs false
namespace Go.Proofs.YtdefojlkofnloaaGreatDoor
open Go.RowKit Go.Proofs.Tryz
section
section
variable {P:Program} {Q:Exit→Act→World→Prop} {a:Act} {w:World} {fn:FuncId}
def Zjc(P:Program)(l:Nat)(R:Ending→World→Prop):Exit→Act→World→Prop
 |.normal,_,w=>∃v w',(Instr.endRound l none).run P w=.ok v w'∧R (.returned v) w'
 |.panic chain,a,w=>a.defers=[]∧R (.panicked chain) w
 |_,_,_=>False
theorem ZeX{l:Nat}{tmps:Array Value}{z s:Code}{R:Ending→World→Prop}{fd:Func}(hf:P.funcs[fn]?=some fd)(h:z.wpIn (Fence.wide.inRound l) 0 P (Exit.then (fun a₁ w₁=>∃w₂,(Instr.beginRound l).run P w₁=.ok () w₂∧s.wpIn (Fence.wide.inRound l) 0 P (Zjc P l R) a₁ w₂) (fun _ _ _=>False)) {tmps:=tmps,defers:=[]} w):
 RoundIn Fence.wide 0 P l fn tmps z s w R:=by
 refine⟨trivial,fun c cs hr=>?_⟩
 let b:Frame:={(default:Frame) with fn:=fn,kind:=.normal,roundOf:=some l}
 have Z:Frame.round l fn tmps z s .normal=b.atR {tmps:=tmps,defers:=[]} [.code z,.beginRound,.code s]:=by
  simp[Frame.round,Frame.atR,b]
 have N:(Fence.wide.inRound l).room ((c::cs).length+1+0):=hr
 have G:(Fence.wide.inRound l).fn b.fn:=trivial
 obtain⟨e,a₁,w₁,hq,J⟩:=h b [.beginRound,.code s] (c::cs) rfl G N
 rw[←Z] at J
 cases e with
 |normal=>
  obtain⟨w₂,aa,U⟩:=hq
  have s1:StepsIn (Machine.fenced P (Fence.wide.inRound l)) P (lone (b.atR a₁ [.beginRound,.code s]) (c::cs) w₁) (lone (b.atR a₁ [.code s]) (c::cs) w₂):=
   .one (fenced_calm (fr:=b.atR a₁ [.beginRound,.code s]) G N rfl) (stepR_beginRound rfl aa)
  obtain⟨e₂,a₂,w₃,E,L⟩:=U b [] (c::cs) rfl G N
  cases e₂ with
  |normal=>
   obtain⟨v,w₄,X,hR⟩:=E
   exact⟨.returned v,w₄,hR,(StepsIn.trans J s1).trans (StepsIn.trans L (.one (fenced_calm (fr:=b.atR a₂ []) G N rfl) (stepR_round_end rfl rfl X)))⟩
  |panic C=>
   obtain⟨hd,hR⟩:=E
   obtain⟨Y,hs⟩:=L
   have hl:Frame.leaving P {b.atR a₂ Y with mode:=.panicking C} w₃ (.panicked C):=⟨rfl,hd,fd,hf⟩
   exact⟨.panicked C,w₃,hR,(StepsIn.trans J s1).trans (StepsIn.trans hs (.one (fenced_leaving (n:=0) G N hl) (step_leave_panicked hl)))⟩
  |exit id=>exact E.elim
  |goto t=>exact E.elim
  |ret=>exact E.elim
  |outgrown=>exact E.elim
 |exit id=>exact hq.elim
 |goto t=>exact hq.elim
 |ret=>exact hq.elim
 |panic C=>exact hq.elim
 |outgrown=>exact hq.elim
def ZiD(P:Program)(fn:FuncId)(c:Code)(Q:Exit→Act→World→Prop)(a:Act)(w:World):Prop:=
 ∀(b:Frame) (k:List Item) (cs:List Frame),b.roundOf=none→b.fn=fn→∃e a' w',Q e a' w'∧ArrivesIn (Machine.fenced P Fence.wide) P (lone (b.atR a (.code c::k)) cs w) b k cs e a' w'
theorem Zbk{c:Code}(h:c.wp P Q a w):ZiD P fn c Q a w:=fun b k cs s _=>(wpIn_wide (n:=0)).2 h b k cs s trivial (room_wide _)
theorem Za1{x y:Code}(h:ZiD P fn x (Exit.then (fun a w=>ZiD P fn y Q a w) Q) a w):ZiD P fn (Code.seq x y) Q a w:=by
 intro b k cs C hb
 have h0:(lone (b.atR a (.code (.seq x y)::k)) cs w).fenced P Fence.wide:=fenced_wide _ _
 obtain⟨e,a₁,w₁,hq,s⟩:=h b (.code y::k) cs C hb
 cases e with
 |normal=>
  obtain⟨e₂,a₂,w₂,E,z⟩:=hq b k cs C hb
  exact⟨e₂,a₂,w₂,E,.of_steps (.head h0 stepR_seq s) z⟩
 |exit id=>exact⟨_,a₁,w₁,hq,.of_steps (.one h0 stepR_seq) (.pass (x:=.code y) rfl (fun _ _=>.inl (by simp)) s)⟩
 |goto l=>exact⟨_,a₁,w₁,hq,.of_steps (.one h0 stepR_seq) (.pass (x:=.code y) rfl (fun _ _=>.inl (by simp)) s)⟩
 |ret=>exact⟨_,a₁,w₁,hq,.of_steps (.one h0 stepR_seq) (.pass (x:=.code y) rfl (fun _ _=>.inl (by simp)) s)⟩
 |panic ch=>exact⟨_,a₁,w₁,hq,.of_steps (.one h0 stepR_seq) (.pass (x:=.code y) rfl (fun _ _=>.inl (by simp)) s)⟩
 |outgrown=>exact⟨_,a₁,w₁,hq,.of_steps (.one h0 stepR_seq) (.pass (x:=.code y) rfl (fun _ _=>.inl (by simp)) s)⟩
theorem Zd3{id:Nat}{c:Code}(h:ZiD P fn c (Exit.inBlock id Q) a w):ZiD P fn (Code.block id c) Q a w:=by
 intro b k cs J hb
 have h0:(lone (b.atR a (.code (.block id c)::k)) cs w).fenced P Fence.wide:=fenced_wide _ _
 obtain⟨e,a₁,w₁,hq,s⟩:=h b (.inBlock id::k) cs J hb
 cases e with
 |normal=>exact⟨.normal,a₁,w₁,hq,.head h0 stepR_block (StepsIn.trans s (.one (fenced_wide _ _) stepR_inBlock))⟩
 |exit z=>
  by_cases C:z=id
  ·simp only[Exit.inBlock,C,if_true] at hq
   exact⟨.normal,a₁,w₁,hq,.head h0 stepR_block (s.1 k (by simp[exitTo,C]))⟩
  ·simp only[Exit.inBlock,C,if_false] at hq
   have G:(id==z)=false:=by simp;exact fun h=>C h.symm
   have hx:exitTo z (.inBlock id::k)=exitTo z k:=by simp[exitTo,G]
   exact⟨.exit z,a₁,w₁,hq,fun k' hk=>.head h0 stepR_block (s.1 k' (by rw[hx];exact hk)),
    fun E hk=>let ⟨k₁,h1,h2⟩:=s.2 E (by rw[hx];exact hk);⟨k₁,h1,.head h0 stepR_block h2⟩⟩
 |goto l=>
  have hx:gotoIn l (.inBlock id::k)=gotoIn l k:=by simp[gotoIn]
  exact⟨_,a₁,w₁,hq,fun k' hk=>.head h0 stepR_block (s.1 k' (by rw[hx];exact hk)),
   fun E hk=>let ⟨k₁,h1,h2⟩:=s.2 E (by rw[hx];exact hk);⟨k₁,h1,.head h0 stepR_block h2⟩⟩
 |ret=>exact⟨_,a₁,w₁,hq,.of_steps (.one h0 stepR_block) s⟩
 |panic ch=>exact⟨_,a₁,w₁,hq,.of_steps (.one h0 stepR_block) s⟩
 |outgrown=>exact⟨_,a₁,w₁,hq,.of_steps (.one h0 stepR_block) s⟩
theorem Zd7{g:Operand}{ps:Array Tmp}{s E:Code}(h:∃(l:Nat) (mark:List Deferred) (w₁:World) (d:Deferred) (X:World) (f:FuncId) (args:Array Value) (w₂:World),
  (Instr.enterLoop fn a.tmps ps s E none).run P w=.ok (l,mark) w₁ ∧
  (resolve a.eval (rangeCall g l) 0).run P w₁=.ok d X ∧
  (invoke d.target d.args).run P X=.ok (.enter f args) w₂ ∧
  Calls P f args w₂ (rangePost Fence.wide 0 P l Q {a with defers:=mark++a.defers})):
 ZiD P fn (Code.rangeFunc g ps s E) Q a w:=by
 intro b k cs ac hb
 obtain⟨l,mark,w₁,d,X,f,args,w₂,he,ab,aa,L⟩:=h
 have U:=(callsIn_wide (n:=0)).2 L
 rw[←ac,←hb] at he
 have h0:(lone (b.atR a (.code (.rangeFunc g ps s E)::k)) cs w).fenced P Fence.wide:=fenced_wide _ _
 have z:=stepR_rangeFunc (P:=P) (b:=b) (a:=a) (k:=k) (cs:=cs) (w:=w) he ab aa
 obtain⟨e,w₃,fr,hR,C,ae,G⟩:=U.2 (b.atR {a with defers:=mark++a.defers} (.inRangeFunc l::k)::cs) (room_wide _)
 cases e with
 |outgrown=>
  obtain⟨a₀,w₀,hq⟩:=hR
  exact⟨.outgrown,a₀,w₀,hq,.inr (Outgrown.of_steps (.one z) C)⟩
 |returned v=>
  obtain⟨N,w₄,Z,hj⟩:=hR
  have J:StepsIn (Machine.fenced P Fence.wide) P (lone (b.atR a (.code (.rangeFunc g ps s E)::k)) cs w) (lone (b.atR {a with defers:=mark++a.defers} ((N.map Item.code).toList++k)) cs w₄):=by
   refine .head h0 z (StepsIn.trans C (.head (fenced_wide _ _) ?_ (.one (fenced_wide _ _) (stepR_endRangeFunc Z))))
   rw[←finish_atR_inRangeFunc l v];exact step_leave_returned G
  cases N with
  |none=>exact⟨.normal,_,w₄,hj,J⟩
  |some c=>
   obtain⟨e',ad,w₅,hq,Y⟩:=hj b k cs ac trivial (room_wide _)
   exact⟨e',ad,w₅,hq,.of_steps J Y⟩
 |panicked R=>
  refine⟨.panic R,_,w₃,hR,.inRangeFunc l::k,.head h0 z (StepsIn.trans C (.one (fenced_wide _ _) ?_))⟩
  rw[←Frame.raise_atR];exact step_leave_panicked G
theorem ZcF{fd:Func}{c:Code}{args:Array Value}{R:Ending→World→Prop}(U:P.funcs[fn]?=some fd)(X:fd.body=some c)(h:ZiD P fn c (bodyPostM Fence.wide 0 P fd R) {tmps:=args++Array.replicate (fd.ntmps-args.size) undef,defers:=[]} w):Calls P fn args w R:=by
 refine(callsIn_wide (n:=0)).1 ⟨trivial,fun cs hr=>?_⟩
 let b:Frame:={(default:Frame) with fn:=fn,kind:=.normal,roundOf:=none}
 have hF:Fence.wide.fn fn:=trivial
 have L:Frame.enter P fn args .normal =
  b.atR {tmps:=args++Array.replicate (fd.ntmps-args.size) undef,defers:=[]} [.code c]:=by
  simp[Frame.enter,Frame.atR,U,X,b]
 obtain⟨e,a',w',hq,s⟩:=h b [] cs rfl rfl
 rw[←L] at s
 cases e with
 |normal=>
  obtain⟨e',J,C,hR,hs,E,hl⟩:=leaves_stepsInM a'.defers .returning w' {b.atR a' [] with mode:=.returning} cs rfl rfl rfl U rfl hF hr hq
  exact⟨e',J,C,hR,ComesIn.of_steps (StepsIn.trans s (.one (fenced_wide _ _) (stepR_end rfl))) hs,E,hl⟩
 |ret=>
  obtain⟨G,N⟩:=s.1 rfl
  obtain⟨e',J,C,hR,hs,E,hl⟩:=leaves_stepsInM a'.defers .returning w' {b.atR a' G with mode:=.returning} cs rfl rfl rfl U rfl hF hr hq
  exact⟨e',J,C,hR,ComesIn.of_steps N hs,E,hl⟩
 |panic z=>
  obtain⟨G,N⟩:=s
  obtain⟨e',J,C,hR,hs,E,hl⟩:=leaves_stepsInM a'.defers (.panicking z) w' {b.atR a' G with mode:=.panicking z} cs rfl rfl rfl U rfl hF hr hq
  exact⟨e',J,C,hR,ComesIn.of_steps N hs,E,hl⟩
 |exit id=>exact hq.elim
 |goto l=>exact hq.elim
 |outgrown=>exact⟨.outgrown,w',b,hq,s.resolve_left (by simp[b]),rfl,trivial⟩
end
end
end Go.Proofs.YtdefojlkofnloaaGreatDoor
