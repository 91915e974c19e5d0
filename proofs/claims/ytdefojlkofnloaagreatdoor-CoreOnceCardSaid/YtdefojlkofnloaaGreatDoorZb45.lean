/- A part of the proof of CoreOnce: for every input, no condition. -/
import Derived.Test.YtdefojlkofnloaaGreatDoorZb42
import Derived.Test.YtdefojlkofnloaaGreatDoorZb44
set_option maxRecDepth 100000
set_option maxHeartbeats 8000000
set_option linter.unusedVariables false
set_option linter.unusedSimpArgs false
namespace Go.Proofs.YtdefojlkofnloaaGreatDoor
open Go.RowKit Go.Proofs.Tryz
section
open Go.ChangeShapes Go.WideShapes Go.ChangeAt Go.Joins Go.Deep
theorem Zh1(os:Os)(z:os.Started)(H:Type)(enc:TypeId×Value→H):
 ReturnsInHanded {} Tryz.checked os 3 .any (fun w s=>(Rows.coreOnceSpec.pre enc prog f3 [] false w s∧laidMetH prog Rows.coreOnceRow.laid w)∧sizedMet enc prog f3 (OpenSpec.ofChange Rows.coreOnceSpec) false w s)
  (Rows.coreOnceSpec.post enc prog f3 false true false false):=by
 refine returnsInHanded_of_change_and (C:=Tryz.checked) (X:=fun w _=>laidMetH prog Rows.coreOnceRow.laid w) (fun _ _ _ hh h=>h.of_heap hh) own z (by kernel_rfl) func3
  (ChangeSpec.witness_shaped (enc:=enc) (C:=Tryz.checked) (os:=os) (X:=fun w _=>laidMetH prog Rows.coreOnceRow.laid w) false (World.laidAll prog os Rows.coreOnceRow.laid) #[.slice none 0 0] 8 (World.laidAll_os _ _ _)
   (World.shaped_of_ZipB (by kernel_rfl) (by kernel_rfl)) (by kernel_rfl) (by kernel_rfl) (by kernel_rfl) (Zhw os _)) ?_
 intro W J s ds gs L G hW _ _ hL _
 have E:∀(j:Nat) t v,f3.params[j]?=some t→s[j]?=some v→Value.okWide prog W .any J t v:=G
 have R:=hW
 obtain⟨p,q,N,hV,rfl,Z,aa⟩:=hW
 have hA:DataW.TrodAll enc prog W 0 (fun _=>true) true f3.params.toList s.toList ds p:=N
 rw[params3] at hA E
 obtain⟨v0,ab,d0,Y,p0,q0,U,rfl,rfl,h0,r0⟩:=trodAll_cons hA
 obtain⟨rfl,rfl,rfl⟩:=trodAll_nil r0
 obtain rfl:s=#[v0]:=by cases s;simp_all
 obtain⟨A,c,l,rfl,hr⟩:=ZfC (E 0 22 v0 rfl rfl) h0
 refine(Zln A c l W (ZfY hL) hr).mono fun e W' he=>?_
 exact⟨_,he.1,Zir ZjX underlying4 R rfl (by rw[params3];intro t ht;simp at ht;rcases ht with rfl;exact⟨by kernel_rfl,of_decide_eq_true (by kernel_rfl)⟩) rfl rfl he.2⟩
theorem Zlo:Rows.CoreOnceSaid:=
 OpenClaim.holds_of_wide 3 f3 rfl rfl rfl rfl rfl rfl rfl ⟨rfl,rfl,rfl,rfl,rfl⟩ rfl rfl rfl rfl rfl (by kernel_rfl) func3 (by kernel_rfl)
  (of_decide_eq_true (by kernel_rfl)) (by unfold Func.isWrapper;first|(rw[if_pos (by decide +kernel)];kernel_rfl)|(rw[if_neg (by decide +kernel)];exact⟨rfl,rfl⟩))
  (fun os s H z _=>Zh1 os s H z)
theorem once_holds:Rows.CoreOnceCardSaid:=
 Claim7.holds_tied_plain_at .later [] [.data,.data,.data,.pinned] true (true,"7103272d84b8c94bc2b57ad087f7473812f34476d3b48bffca5ae018efb958e2") true
  Zlo (fun _ h=>by cases h) (by kernel_rfl) (fun _ h=>by cases h) coreOnce_row_tie rfl ⟨rfl,rfl⟩ (by kernel_rfl) rfl
  (fun f fn hf z=>by
   obtain rfl:f=3:=Option.some.inj ((show prog.funcNamed "bulwark/bulwarktop.CoreOnce" = some 3 by kernel_rfl).symm.trans hf) |>.symm
   obtain rfl:fn=f3:=(Option.some.inj (func3.symm.trans z)).symm
   exact⟨by kernel_rfl,fun j t ht=>by
    rw[params3] at ht
    have hm:t∈[22]:=by simpa using Array.mem_of_getElem? ht
    have s:([22].all fun u => !prog.wantsStandIn u)=true:=by kernel_rfl
    exact(show prog.wantsStandIn t=false by simpa using List.all_eq_true.1 s t hm)⟩)
  (by kernel_rfl)
end
end Go.Proofs.YtdefojlkofnloaaGreatDoor
