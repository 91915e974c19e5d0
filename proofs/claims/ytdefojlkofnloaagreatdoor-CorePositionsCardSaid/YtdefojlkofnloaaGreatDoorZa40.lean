/- A part of the proof of CorePositions: for every input, no condition. -/
import Derived.Test.YtdefojlkofnloaaGreatDoorZa14
import Derived.OrdersIn
import Derived.OwnWalkIn
import Derived.RangeFuncBox
import Derived.RangeFuncCalls
import Derived.RangeFuncLeaves
import Derived.TacticsInMore
set_option maxRecDepth 100000
set_option maxHeartbeats 8000000
set_option linter.unusedVariables false
set_option linter.unusedSimpArgs false
namespace Go.Proofs.YtdefojlkofnloaaGreatDoor
open Go.RowKit Go.Proofs.Tryz
section
def Zjp(F:Fence):Prop:=F=Fence.wide∨∃l,F=Fence.wide.inRound l
theorem ZjL:Zjp Fence.wide:=.inl rfl
theorem Zb7(l:Nat):Zjp (Fence.wide.inRound l):=.inr ⟨l,rfl⟩
section
variable {P:Program} {ops:Array Oper} {Q:Exit→Act→World→Prop} {md:Region.Mode} {F:Fence} {o:Oper} {a:Act} {w:World}
theorem Zmn(hF:Zjp F){K:Act→World→Prop}{r:Result Next}(h:o.upon P a K Q r):o.uponIn F 0 P a K Q r:=by
 cases r with
 |ok x w'=>
  cases x with
  |value v=>exact h
  |skip=>exact h
  |defer d=>exact h
  |enter f z=>
   rcases hF with rfl|⟨l,rfl⟩
   ·exact⟨fun h=>(by cases h),(callsIn_wide (n:=0)).2 h⟩
   ·exact⟨fun h=>(by cases h),CallsIn.inRound l ((callsIn_wide (n:=0)).2 h)⟩
  |row row z=>
   rcases hF with rfl|⟨l,rfl⟩
   ·exact⟨fun h=>(by cases h),fun c cs _=>let ⟨v,w',r,s⟩:=h c cs;⟨v,w',r,stepsIn_wide.2 s⟩⟩
   ·exact⟨fun h=>(by cases h),fun c cs _=>let ⟨v,w',r,s⟩:=h c cs;⟨v,w',r,stepsIn_wide.2 s⟩⟩
  |_=>exact h.elim
 |halt x w'=>cases x<;>first|exact h|exact h.elim
theorem Zj5(hF:Zjp F)(s:∀c,o.op ≠ .defer c){K:Act→World→Prop}(h:Oper.wp P o a w K Q):o.wpIn F 0 P a w K Q:=by
 unfold Oper.wpIn
 rw[Oper.semAt_plain F _ _ s]
 refine⟨fun f _=>?_,Zmn hF h⟩
 rcases hF with rfl|⟨l,rfl⟩<;>trivial
def Zc6(o:Oper):Bool:=match o.op with | .defer _=>false|_=>true
theorem ZeS(h:Zc6 o=true):∀c,o.op ≠ .defer c:=by
 intro c hc
 unfold Zc6 at h
 rw[hc] at h
 cases h
theorem Zmq(hF:Zjp F)(z:ops.all Zc6=true)(s:¬LetsOut Q){i:Nat}{K:Act→World→Prop}(h:wpOp P ops Q i K a w):wpOpIn F 0 P ops Q i K a w:=by
 unfold wpOp at h
 unfold wpOpIn
 cases ho:ops[i]? with
 |none=>simpa only[ho] using h
 |some o=>
  simp only[ho] at h ⊢
  have hm:o∈ops:=Array.mem_of_getElem? ho
  split
  ·rename_i hw
   rw[if_pos hw] at h
   rcases h with h|h
   ·exact Zj5 hF (ZeS (Array.all_eq_true_iff_forall_mem.1 z o hm)) h
   ·exact absurd h.2 s
  ·rename_i hw
   rw[if_neg hw] at h
   refine⟨fun f _=>?_,h⟩
   rcases hF with rfl|⟨l,rfl⟩<;>trivial
theorem ZgO(hF:Zjp F)(z:ops.all Zc6=true)(s:¬LetsOut Q):∀(n:Nat) (l:Array Bool) (a:Act) (w:World),wpAny P md ops Q n l a w→wpAnyIn F 0 P md ops Q n l a w
 |0,_,_,_,h=>h
 |n+1,_,_,_,h=>⟨h.1,fun i hi=>wpOpIn_mono (fun b v k=>ZgO hF z s n _ b v k) (Zmq hF z s (h.2 i hi))⟩
theorem Zeu(hF:Zjp F)(S:World→Prop)(st:Nat){id:Nat}(C:P.follows .mixedOrders=true)(z:ops.all Zc6=true)(s:¬LetsOut Q)(h:Zd9 P .any ops Q S st ops.size (Array.replicate ops.size false) a w.drew):(Code.region id ops true).wpIn F 0 P Q a w:=
 wpIn_region_any C (ZgO hF z s _ _ _ _ (Zgf _ _ _ _ h))
theorem Zfx{rest:List Oper}(hF:Zjp F)(z:o.guard=none)(s:Zc6 o=true)(h:∀K:Act→World→Prop,(∀b v,wpListIn F 0 P ops Q rest b v→K b v)→Oper.wp P o a w K Q):wpListIn F 0 P ops Q (o::rest) a w:=
 wpListIn_plain z fun K hK=>Zj5 hF (ZeS s) (h K hK)
end
end
end Go.Proofs.YtdefojlkofnloaaGreatDoor
