/- A part of the proof of CoreOnce: for every input, no condition. -/
import Derived.Test.YtdefojlkofnloaaGreatDoorZb14
import Derived.OrdersIn
import Derived.OwnWalkIn
import Derived.RangeFuncBox
import Derived.RangeFuncCalls
import Derived.RangeFuncLeaves
import Derived.TacticsInMore
set_option maxRecDepth 100000
set_option maxHeartbeats 8000000
set_option linter.unusedVariables false
set_option linter.unusedSimpArgs false
namespace Go.Proofs.YtdefojlkofnloaaGreatDoor
open Go.RowKit Go.Proofs.Tryz
section
def Zjp(F:Fence):Prop:=F=Fence.wide∨∃l,F=Fence.wide.inRound l
theorem ZjL:Zjp Fence.wide:=.inl rfl
theorem Zb7(l:Nat):Zjp (Fence.wide.inRound l):=.inr ⟨l,rfl⟩
section
variable {P:Program} {ops:Array Oper} {Q:Exit→Act→World→Prop} {md:Region.Mode} {F:Fence} {o:Oper} {a:Act} {w:World}
theorem Zmn(hF:Zjp F){K:Act→World→Prop}{r:Result Next}(h:o.upon P a K Q r):o.uponIn F 0 P a K Q r:=by
 cases r with
 |ok x w'=>
  cases x with
  |value v=>exact h
  |skip=>exact h
  |defer d=>exact h
  |enter f z=>
   rcases hF with rfl|⟨l,rfl⟩
   ·exact⟨fun h=>(by cases h),(callsIn_wide (n:=0)).2 h⟩
   ·exact⟨fun h=>(by cases h),CallsIn.inRound l ((callsIn_wide (n:=0)).2 h)⟩
  |row row z=>
   rcases hF with rfl|⟨l,rfl⟩
   ·exact⟨fun h=>(by cases h),fun c cs _=>let ⟨v,w',r,s⟩:=h c cs;⟨v,w',r,stepsIn_wide.2 s⟩⟩
   ·exact⟨fun h=>(by cases h),fun c cs _=>let ⟨v,w',r,s⟩:=h c cs;⟨v,w',r,stepsIn_wide.2 s⟩⟩
  |_=>exact h.elim
 |halt x w'=>cases x<;>first|exact h|exact h.elim
theorem Zj5(hF:Zjp F)(s:∀c,o.op ≠ .defer c){K:Act→World→Prop}(h:Oper.wp P o a w K Q):o.wpIn F 0 P a w K Q:=by
 unfold Oper.wpIn
 rw[Oper.semAt_plain F _ _ s]
 refine⟨fun f _=>?_,Zmn hF h⟩
 rcases hF with rfl|⟨l,rfl⟩<;>trivial
def Zc6(o:Oper):Bool:=match o.op with | .defer _=>false|_=>true
theorem ZeS(h:Zc6 o=true):∀c,o.op ≠ .defer c:=by
 intro c hc
 unfold Zc6 at h
 rw[hc] at h
 cases h
theorem Zfx{rest:List Oper}(hF:Zjp F)(z:o.guard=none)(s:Zc6 o=true)(h:∀K:Act→World→Prop,(∀b v,wpListIn F 0 P ops Q rest b v→K b v)→Oper.wp P o a w K Q):wpListIn F 0 P ops Q (o::rest) a w:=
 wpListIn_plain z fun K hK=>Zj5 hF (ZeS s) (h K hK)
end
end
end Go.Proofs.YtdefojlkofnloaaGreatDoor
