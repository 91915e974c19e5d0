/- A part of the proof of CorePositions: for every input, no condition. -/
import Derived.Test.YtdefojlkofnloaaGreatDoorZa43
import Derived.Test.YtdefojlkofnloaaGreatDoorZa44
set_option maxRecDepth 100000
set_option maxHeartbeats 8000000
set_option linter.unusedVariables false
set_option linter.unusedSimpArgs false
namespace Go.Proofs.YtdefojlkofnloaaGreatDoor
open Go.RowKit Go.Proofs.Tryz
section
open Go.ChangeShapes Go.WideShapes Go.ChangeAt Go.Joins Go.Deep
theorem Zi7(os:Os)(z:os.Started)(H:Type)(enc:TypeId×Value→H):
 ReturnsInHanded {} Tryz.checked os 4 .any (fun w s=>(Rows.corePositionsSpec.pre enc prog f4 [] false w s∧laidMetH prog Rows.corePositionsRow.laid w)∧sizedMet enc prog f4 (OpenSpec.ofChange Rows.corePositionsSpec) false w s)
  (Rows.corePositionsSpec.post enc prog f4 false true false false):=by
 refine returnsInHanded_of_change_and (C:=Tryz.checked) (X:=fun w _=>laidMetH prog Rows.corePositionsRow.laid w) (fun _ _ _ hh h=>h.of_heap hh) own z (by kernel_rfl) func4
  (ChangeSpec.witness_shaped (enc:=enc) (C:=Tryz.checked) (os:=os) (X:=fun w _=>laidMetH prog Rows.corePositionsRow.laid w) false (World.laidAll prog os Rows.coreOnceRow.laid) #[.slice none 0 0] 8 (World.laidAll_os _ _ _)
   (World.shaped_of_ZipB (by kernel_rfl) (by kernel_rfl)) (by kernel_rfl) (by kernel_rfl) (by kernel_rfl) (Zhw os _)) ?_
 intro W J s ds gs L G hW _ _ hL _
 have E:∀(j:Nat) t v,f4.params[j]?=some t→s[j]?=some v→Value.okWide prog W .any J t v:=G
 have R:=hW
 obtain⟨p,q,N,hV,rfl,Z,aa⟩:=hW
 have hA:DataW.TrodAll enc prog W 0 (fun _=>true) true f4.params.toList s.toList ds p:=N
 rw[params4] at hA E
 obtain⟨v0,ab,d0,Y,p0,q0,U,rfl,rfl,h0,r0⟩:=trodAll_cons hA
 obtain⟨rfl,rfl,rfl⟩:=trodAll_nil r0
 obtain rfl:s=#[v0]:=by cases s;simp_all
 obtain⟨A,c,l,rfl,hr⟩:=ZfC (E 0 22 v0 rfl rfl) h0
 refine(Zmc A c l W (ZfY hL) hr).mono fun e W' he=>?_
 exact⟨_,he.1,Zir ZjX underlying4 R rfl (by rw[params4];intro t ht;simp at ht;rcases ht with rfl;exact⟨by kernel_rfl,of_decide_eq_true (by kernel_rfl)⟩) rfl rfl he.2⟩
theorem Zmd:Rows.CorePositionsSaid:=
 OpenClaim.holds_of_wide 4 f4 rfl rfl rfl rfl rfl rfl rfl ⟨rfl,rfl,rfl,rfl,rfl⟩ rfl rfl rfl rfl rfl (by kernel_rfl) func4 (by kernel_rfl)
  (of_decide_eq_true (by kernel_rfl)) (by unfold Func.isWrapper;first|(rw[if_pos (by decide +kernel)];kernel_rfl)|(rw[if_neg (by decide +kernel)];exact⟨rfl,rfl⟩))
  (fun os s H z _=>Zi7 os s H z)
theorem pos_holds:Rows.CorePositionsCardSaid:=
 Claim7.holds_tied_plain_at .later [] [.data,.data,.data,.pinned] true (true,"7103272d84b8c94bc2b57ad087f7473812f34476d3b48bffca5ae018efb958e2") true
  Zmd (fun _ h=>by cases h) (by kernel_rfl) (fun _ h=>by cases h) corePositions_row_tie rfl ⟨rfl,rfl⟩ (by kernel_rfl) rfl
  (fun f fn hf z=>by
   obtain rfl:f=4:=Option.some.inj ((show prog.funcNamed "bulwark/bulwarktop.CorePositions" = some 4 by kernel_rfl).symm.trans hf) |>.symm
   obtain rfl:fn=f4:=(Option.some.inj (func4.symm.trans z)).symm
   exact⟨by kernel_rfl,fun j t ht=>by
    rw[params4] at ht
    have hm:t∈[22]:=by simpa using Array.mem_of_getElem? ht
    have s:([22].all fun u => !prog.wantsStandIn u)=true:=by kernel_rfl
    exact(show prog.wantsStandIn t=false by simpa using List.all_eq_true.1 s t hm)⟩)
  (by kernel_rfl)
end
end Go.Proofs.YtdefojlkofnloaaGreatDoor
