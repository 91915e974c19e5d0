/- A part of the proof of CorePositions: for every input, no condition. -/
import Derived.Test.YtdefojlkofnloaaGreatDoorZa01
import Derived.BigQuiet
import Derived.Deep.CutBlock
import Derived.Deep.CutRange
import Derived.Deep.DeepCutAuto
import Derived.Deep.DeepMust
import Derived.Deep.QuietTactic
import Derived.Deep.RegionHeld3
import Derived.Laws.Externs
import Derived.Laws.IdiomCopy
import Derived.Lib.AppendZerosOnto
import Derived.Lib.Hide
import Derived.Lib.Overlaps
import Derived.Lib.SliceRun
import Derived.Shelf.Bits.Mul64
import Derived.Shelf.RegionOpenPlain
import Derived.Shelf.Small.Bits
import Derived.Shelf.Strings.SlTrimAscii
import Derived.StillTailTactics
set_option maxRecDepth 100000
set_option maxHeartbeats 8000000
set_option linter.unusedVariables false
set_option linter.unusedSimpArgs false
namespace Go.Proofs.YtdefojlkofnloaaGreatDoor
open Go.RowKit Go.Proofs.Tryz
section
open Go.Shelf
def Tryz.lay264_ren:Go.Shelf.Ren:=⟨fun|264=>137|n=>n,fun|53=>167|46=>195|n=>n,fun|n=>n⟩
theorem Tryz.lay264:Lays.n264 prog Tryz.lay264_ren:={
 mixed:=by kernel_rfl,
 f264:=func137.trans (congrArg some (by kernel_rfl)),
 t46:=underlying195,
 a46:=Tryz.isAgg195,
 z46:=Tryz.sizeOf195,
 v46:=Tryz.zeroValue195,
 t53:=underlying167,
 a53:=Tryz.isAgg167,
 z53:=Tryz.sizeOf167,
 v53:=Tryz.zeroValue167}
def Tryz.lay134_ren:Go.Shelf.Ren:=⟨fun|134=>171|129=>202|n=>n,fun|53=>167|3=>3|4=>4|46=>195|5=>5|9=>9|n=>n,fun|n=>n⟩
theorem Tryz.lay134:Lays.n134 prog Tryz.lay134_ren:={
 mixed:=by kernel_rfl,
 f129:=func202.trans (congrArg some (by kernel_rfl)),
 f134:=func171.trans (congrArg some (by kernel_rfl)),
 t3:=underlying3,
 a3:=Tryz.isAgg3,
 z3:=Tryz.sizeOf3,
 v3:=Tryz.zeroValue3,
 t4:=underlying4,
 a4:=Tryz.isAgg4,
 z4:=Tryz.sizeOf4,
 v4:=Tryz.zeroValue4,
 t5:=underlying5,
 a5:=Tryz.isAgg5,
 z5:=Tryz.sizeOf5,
 v5:=Tryz.zeroValue5,
 t9:=underlying9,
 a9:=Tryz.isAgg9,
 z9:=Tryz.sizeOf9,
 v9:=Tryz.zeroValue9,
 t46:=underlying195,
 a46:=Tryz.isAgg195,
 z46:=Tryz.sizeOf195,
 v46:=Tryz.zeroValue195,
 t53:=underlying167,
 a53:=Tryz.isAgg167,
 z53:=Tryz.sizeOf167,
 v53:=Tryz.zeroValue167}
def Tryz.lay160_ren:Go.Shelf.Ren:=⟨fun|160=>127|232=>161|231=>160|227=>162|234=>164|233=>163|236=>166|235=>165|228=>194|271=>197|151=>196|197=>195|120=>213|152=>212|260=>211|137=>219|119=>220|224=>221|225=>222|217=>225|266=>227|n=>n,fun|9=>9|4=>4|3=>3|5=>5|117=>203|116=>202|0=>0|124=>206|21=>21|105=>232|46=>195|119=>249|139=>252|138=>251|n=>n,fun|3=>2|4=>3|n=>n⟩
theorem Tryz.lay160:Lays.n160 prog Tryz.lay160_ren:={
 mixed:=by kernel_rfl,
 f119:=func220.trans (congrArg some (by kernel_rfl)),
 f120:=func213.trans (congrArg some (by kernel_rfl)),
 f137:=func219.trans (congrArg some (by kernel_rfl)),
 f151:=func196.trans (congrArg some (by kernel_rfl)),
 f152:=func212.trans (congrArg some (by kernel_rfl)),
 f160:=func127.trans (congrArg some (by kernel_rfl)),
 f197:=func195.trans (congrArg some (by kernel_rfl)),
 f217:=func225.trans (congrArg some (by kernel_rfl)),
 f224:=func221.trans (congrArg some (by kernel_rfl)),
 f225:=func222.trans (congrArg some (by kernel_rfl)),
 f227:=func162.trans (congrArg some (by kernel_rfl)),
 f228:=func194.trans (congrArg some (by kernel_rfl)),
 f231:=func160.trans (congrArg some (by kernel_rfl)),
 f232:=func161.trans (congrArg some (by kernel_rfl)),
 f233:=func163.trans (congrArg some (by kernel_rfl)),
 f234:=func164.trans (congrArg some (by kernel_rfl)),
 f235:=func165.trans (congrArg some (by kernel_rfl)),
 f236:=func166.trans (congrArg some (by kernel_rfl)),
 f260:=func211.trans (congrArg some (by kernel_rfl)),
 f266:=func227.trans (congrArg some (by kernel_rfl)),
 f271:=func197.trans (congrArg some (by kernel_rfl)),
 t0:=underlying0,
 a0:=Tryz.isAgg0,
 z0:=Tryz.sizeOf0,
 v0:=Tryz.zeroValue0,
 t3:=underlying3,
 a3:=Tryz.isAgg3,
 z3:=Tryz.sizeOf3,
 v3:=Tryz.zeroValue3,
 t4:=underlying4,
 a4:=Tryz.isAgg4,
 z4:=Tryz.sizeOf4,
 v4:=Tryz.zeroValue4,
 t5:=underlying5,
 a5:=Tryz.isAgg5,
 z5:=Tryz.sizeOf5,
 v5:=Tryz.zeroValue5,
 t9:=underlying9,
 a9:=Tryz.isAgg9,
 z9:=Tryz.sizeOf9,
 v9:=Tryz.zeroValue9,
 t21:=underlying21,
 a21:=Tryz.isAgg21,
 z21:=Tryz.sizeOf21,
 v21:=Tryz.zeroValue21,
 t46:=underlying195,
 a46:=Tryz.isAgg195,
 z46:=Tryz.sizeOf195,
 v46:=Tryz.zeroValue195,
 t105:=underlying232,
 a105:=Tryz.isAgg232,
 z105:=Tryz.sizeOf232,
 v105:=Tryz.zeroValue232,
 t116:=underlying202,
 a116:=Tryz.isAgg202,
 z116:=Tryz.sizeOf202,
 t117:=underlying203,
 a117:=Tryz.isAgg203,
 z117:=Tryz.sizeOf203,
 v117:=Tryz.zeroValue203,
 t119:=underlying249,
 a119:=Tryz.isAgg249,
 z119:=Tryz.sizeOf249,
 t124:=underlying206,
 a124:=Tryz.isAgg206,
 z124:=Tryz.sizeOf206,
 v124:=Tryz.zeroValue206,
 t138:=underlying251,
 a138:=Tryz.isAgg251,
 z138:=Tryz.sizeOf251,
 v138:=Tryz.zeroValue251,
 t139:=underlying252,
 a139:=Tryz.isAgg252,
 z139:=Tryz.sizeOf252,
 v139:=Tryz.zeroValue252,
 g3:=by kernel_rfl,
 g4:=by kernel_rfl}
theorem Zhc(x y:Nat)(s:x<18446744073709551616)(z:y<18446744073709551616)(w:World):
 Calls prog 137 #[.int .u64 x,.int .u64 y] w fun e w'=>e=.returned (.tuple #[.int .u64 ((x*y/18446744073709551616:Nat):Int),.int .u64 ((x*y%18446744073709551616:Nat):Int)])∧w'=w:=
 Go.Proofs.Any.bits_Mul64 Tryz.lay264 x y s z w
theorem Zlh(x:Int)(w:World)(s:0≤x)(z:x≤18446744073709551615):
 Calls prog 171 #[.int .u64 x] w fun e w'=>e=.returned (I (64-(Lib.bitLen x.toNat:Int)))∧w'=w:=
 Go.Proofs.Any.bits_LeadingZeros64 Tryz.lay134 x w s z
theorem Zlz(s z:ByteArray)(w:World)(G:s.size≤9223372036854775807)(E:z.size<4294967281)(C:∀(j:Nat) (b:UInt8),z.data.toList[j]?=some b→b.toNat<128):
 Calls prog 127 #[.string s,.string z] w fun e w'=>e=.returned (.string {data:=(Lib.trimS s.data.toList z.data.toList).toArray})∧Bw w w':=
 Go.Proofs.Any.strings_Trim_laid Tryz.lay160 (by kernel_rfl) s z w G E C
end
def ZaR(x:Int):Nat:=(if x<0 then IntKind.u64.wrap (-(IntKind.u64.wrap x)) else IntKind.u64.wrap x).toNat
theorem ZbH(x:Int):0≤IntKind.u64.wrap x∧IntKind.u64.wrap x<18446744073709551616:=by
 rw[IntKind.wrap_u64]
 omega
theorem Zex(x:Int):ZaR x<18446744073709551616:=by
 have h1:=ZbH x
 have h2:=ZbH (-(IntKind.u64.wrap x))
 unfold ZaR
 split<;>omega
theorem Zjf(x:Int):(ZaR x:Int)=if x<0 then IntKind.u64.wrap (-(IntKind.u64.wrap x)) else IntKind.u64.wrap x:=by
 have h1:=ZbH x
 have h2:=ZbH (-(IntKind.u64.wrap x))
 unfold ZaR
 split<;>omega
def ZbM(x:Int):Bool:=decide (ZaR x≤4611686018427387904)
def Zco(hi lo:Nat)(neg:Bool):Int×Int:=
 if 0<hi∨4611686018427387904<lo then(0,4) else if neg=true then(-(lo:Int),0) else((lo:Int),0)
def ZfM(a b:Int):Int×Int:=
 if ZbM a=false∨ZbM b=false then(0,4)
 else if decide (a<0)=decide (b<0) then Zco ((ZaR a+ZaR b)/18446744073709551616) ((ZaR a+ZaR b)%18446744073709551616) (decide (a<0))
 else(wrap64 (a+b),0)
def ZhA(a b:Int):Int×Int:=if ZbM b=false then(0,4) else ZfM a (wrap64 (-b))
def Zhd(a b:Int):Int×Int:=
 if ZbM a=false∨ZbM b=false then(0,4)
 else Zco (ZaR a*ZaR b/18446744073709551616) (ZaR a*ZaR b%18446744073709551616) (decide (a<0) != decide (b<0))
def Zes:List Int→Int→Int×Int
 |[],all=>(all,0)
 |x::xs,all=>if(Zhd all x).2=0 then Zes xs (Zhd all x).1 else(0,(Zhd all x).2)
theorem Zcv(x:Int)(w:World):Calls prog 125 #[I x] w fun e w'=>e=.returned (.int .u64 (ZaR x:Int))∧w'=w:=by
 have hc:=Zjf x
 by_cases h:x<0
 ·rw[if_pos h] at hc
  rw[hc]
  clear hc
  go_enter func125,ntmps125
  go_wp2
  go_ret
  exact⟨rfl,rfl⟩
 ·rw[if_neg h] at hc
  rw[hc]
  clear hc
  go_enter func125,ntmps125
  go_wp2
  go_ret
  exact⟨rfl,rfl⟩
theorem Zca(x:Int)(w:World):Calls prog 123 #[I x] w fun e w'=>e=.returned (.bool (ZbM x))∧w'=w:=by
 have HS:=Hi (Zcv x w)
 obtain⟨n,hn⟩:=ExY (ZaR x)
 have hf:ZbM x=decide (n≤4611686018427387904):=by rw[hn];rfl
 rw[hf]
 rw[←hn] at HS
 clear hf hn
 have e1:decide ((n:Int)≤4611686018427387904)=decide (n≤4611686018427387904):=by
  by_cases h:n≤4611686018427387904
  ·rw[decide_eq_true h,decide_eq_true (by omega)]
  ·rw[decide_eq_false h,decide_eq_false (by omega)]
 go_enter func123,ntmps123
 go_wp2_with fail
 refine HS.mono ?_
 rintro e w' ⟨rfl,s⟩
 rw[s]
 clear s w'
 go_wp2
 go_ret
 exact⟨by first|rfl|rw[e1],rfl⟩
theorem ZaJ(hi lo:Nat)(s:Bool)(w:World):Calls prog 126 #[.int .u64 hi,.int .u64 lo,.bool s] w fun e w'=>e=.returned (.tuple #[I (Zco hi lo s).1,I (Zco hi lo s).2])∧w'=w:=by
 by_cases h:0<hi∨4611686018427387904<lo
 ·have e:Zco hi lo s=(0,4):=if_pos h
  rw[e]
  clear e
  by_cases h1:0<hi
  ·have i1:(0:Int)<(hi:Int):=by omega
   clear h
   go_enter func126,ntmps126
   go_wp2
   go_ret2
   exact⟨rfl,rfl⟩
  ·have e0:hi=0:=by omega
   subst e0
   have i2:(4611686018427387904:Int)<(lo:Int):=by omega
   clear h
   go_enter func126,ntmps126
   go_wp2
   go_ret2
   exact⟨rfl,rfl⟩
 ·have e0:hi=0:=by omega
  subst e0
  have i2:¬((4611686018427387904:Int)<(lo:Int)):=by omega
  cases s with
  |true=>
   have e:Zco 0 lo true=(-(lo:Int),0):=by unfold Zco;rw[if_neg h,if_pos rfl]
   rw[e]
   clear e h
   go_enter func126,ntmps126
   go_wp2
   go_ret2
   exact⟨rfl,rfl⟩
  |false=>
   have e:Zco 0 lo false=((lo:Int),0):=by unfold Zco;rw[if_neg h,if_neg (by decide)]
   rw[e]
   clear e h
   go_enter func126,ntmps126
   go_wp2
   go_ret2
   exact⟨rfl,rfl⟩
theorem ZgY(x y c:Nat)(s:c≤1)(w:World):
 (callFunc 124 #[.int .u64 x,.int .u64 y,.int .u64 c]).run prog w=.ok (.value (.tuple #[.int .u64 (((x+y+c)%18446744073709551616:Nat):Int),.int .u64 (((x+y+c)/18446744073709551616:Nat):Int)])) w:=by
 rw[run_callFunc_extern func124 (by kernel_rfl) (by kernel_rfl) (by kernel_rfl) (e:=add64Entry) (by kernel_rfl),run_add64 x y c (by omega) (by omega) (by omega) (by omega)]
 simp only[Result.andThen]
 congr 5<;>omega
theorem ZiH(x y:Nat)(w:World):
 (callFunc 124 #[.int .u64 x,.int .u64 y,.int .u64 0]).run prog w=.ok (.value (.tuple #[.int .u64 (((x+y)%18446744073709551616:Nat):Int),.int .u64 (((x+y)/18446744073709551616:Nat):Int)])) w:=ZgY x y 0 (by omega) w
theorem Zel(x:Nat)(w:World):
 (callFunc 124 #[.int .u64 x,.int .u64 1,.int .u64 0]).run prog w=.ok (.value (.tuple #[.int .u64 (((x+1)%18446744073709551616:Nat):Int),.int .u64 (((x+1)/18446744073709551616:Nat):Int)])) w:=ZgY x 1 0 (by omega) w
theorem Zc1(a b:Int)(w:World):Calls prog 67 #[I a,I b] w fun e w'=>e=.returned (.tuple #[I (ZfM a b).1,I (ZfM a b).2])∧w'=w:=by
 have z:=Hi (Zca a)
 have C:=Hi (Zca b)
 by_cases hf:ZbM a=false∨ZbM b=false
 ·rw[show ZfM a b=(0,4) from if_pos hf]
  cases E:ZbM a with
  |false=>
   rw[E] at z
   clear E hf
   go_enter func67,ntmps67
   go_wp2_with fail
   refine Cq (z.out w) ?_
   go_wp2
   go_ret2
   exact⟨rfl,rfl⟩
  |true=>
   rw[E] at z
   have G:ZbM b=false:=by rcases hf with h|h<;>simp_all
   rw[G] at C
   clear E G hf
   go_enter func67,ntmps67
   go_wp2_with fail
   refine Cq (z.out w) ?_
   go_wp2_with fail
   refine Cq (C.out w) ?_
   go_wp2
   go_ret2
   exact⟨rfl,rfl⟩
 have E:ZbM a=true:=by
  cases h:ZbM a with
  |true=>rfl
  |false=>exact absurd (.inl h) hf
 have G:ZbM b=true:=by
  cases h:ZbM b with
  |true=>rfl
  |false=>exact absurd (.inr h) hf
 rw[E] at z
 rw[G] at C
 have he:ZfM a b=if decide (a<0)=decide (b<0) then Zco ((ZaR a+ZaR b)/18446744073709551616) ((ZaR a+ZaR b)%18446744073709551616) (decide (a<0)) else(wrap64 (a+b),0):=if_neg hf
 rw[he]
 clear he hf E G
 have N:=Hi (Zcv a w)
 have R:=Hi (Zcv b w)
 have L:=fun w=>ZiH (ZaR a) (ZaR b) w
 have J:=Hi (fun aa=>ZaJ ((ZaR a+ZaR b)/18446744073709551616) ((ZaR a+ZaR b)%18446744073709551616) aa w)
 obtain⟨sa,U⟩:=ExY (ZaR a)
 obtain⟨sb,X⟩:=ExY (ZaR b)
 rw[←U,←X] at L J ⊢
 rw[←U] at N
 rw[←X] at R
 obtain⟨lo,Z⟩:=ExY ((sa+sb)%18446744073709551616)
 obtain⟨hi,Y⟩:=ExY ((sa+sb)/18446744073709551616)
 rw[←Z,←Y] at L J ⊢
 clear U X Z Y
 by_cases ha:a<0<;>by_cases hb:b<0
 ·rw[if_pos (by rw[decide_eq_true (by omega),decide_eq_true (by omega)])]
  rw[decide_eq_true ha]
  have da:decide (a<0)=true:=decide_eq_true ha
  have db:decide (b<0)=true:=decide_eq_true hb
  go_enter func67,ntmps67
  go_wp2_with fail
  refine Cq (z.out w) ?_
  go_wp2_with fail
  refine Cq (C.out w) ?_
  go_wp2_with fail
  refine N.mono ?_
  rintro e w' ⟨rfl,s⟩
  rw[s]
  clear s w'
  go_wp2_with fail
  refine R.mono ?_
  rintro e w' ⟨rfl,s⟩
  rw[s]
  clear s w'
  go_wp2_with fail
  refine Cq (J.out true) ?_
  go_wp2
  go_ret2
  exact⟨rfl,rfl⟩
 ·rw[if_neg (by simp;omega)]
  have da:decide (a<0)=true:=decide_eq_true ha
  have db:decide (b<0)=false:=decide_eq_false hb
  go_enter func67,ntmps67
  go_wp2_with fail
  refine Cq (z.out w) ?_
  go_wp2_with fail
  refine Cq (C.out w) ?_
  go_wp2
  go_ret2
  exact⟨rfl,rfl⟩
 ·rw[if_neg (by simp;omega)]
  have da:decide (a<0)=false:=decide_eq_false ha
  have db:decide (b<0)=true:=decide_eq_true hb
  go_enter func67,ntmps67
  go_wp2_with fail
  refine Cq (z.out w) ?_
  go_wp2_with fail
  refine Cq (C.out w) ?_
  go_wp2
  go_ret2
  exact⟨rfl,rfl⟩
 ·rw[if_pos (by rw[decide_eq_false (by omega),decide_eq_false (by omega)])]
  have da:decide (a<0)=false:=decide_eq_false ha
  have db:decide (b<0)=false:=decide_eq_false hb
  rw[da]
  go_enter func67,ntmps67
  go_wp2_with fail
  refine Cq (z.out w) ?_
  go_wp2_with fail
  refine Cq (C.out w) ?_
  go_wp2_with fail
  refine N.mono ?_
  rintro e w' ⟨rfl,s⟩
  rw[s]
  clear s w'
  go_wp2_with fail
  refine R.mono ?_
  rintro e w' ⟨rfl,s⟩
  rw[s]
  clear s w'
  go_wp2_with fail
  refine Cq (J.out _) ?_
  go_wp2
  go_ret2
  exact⟨rfl,rfl⟩
theorem ZdY(a b:Int)(w:World):Calls prog 120 #[I a,I b] w fun e w'=>e=.returned (.tuple #[I (ZhA a b).1,I (ZhA a b).2])∧w'=w:=by
 have z:=Hi (Zca b w)
 have HA:=Hi (Zc1 a (wrap64 (-b)) w)
 unfold ZhA
 cases hfb:ZbM b with
 |false=>
  rw[if_pos rfl]
  rw[hfb] at z
  clear hfb
  go_enter func120,ntmps120
  go_wp2_with fail
  refine z.mono ?_
  rintro e w' ⟨rfl,s⟩
  rw[s]
  clear s w'
  go_wp2
  go_ret2
  exact⟨rfl,rfl⟩
 |true=>
  rw[if_neg (by decide)]
  rw[hfb] at z
  clear hfb
  go_enter func120,ntmps120
  go_wp2_with fail
  refine z.mono ?_
  rintro e w' ⟨rfl,s⟩
  rw[s]
  clear s w'
  go_wp2_with fail
  refine HA.mono ?_
  rintro e w' ⟨rfl,s⟩
  rw[s]
  clear s w'
  go_wp2
  go_ret2
  exact⟨rfl,rfl⟩
theorem Zgy(a b:Int)(w:World):Calls prog 119 #[I a,I b] w fun e w'=>e=.returned (.tuple #[I (Zhd a b).1,I (Zhd a b).2])∧w'=w:=by
 have C:=Hi (Zca a)
 have G:=Hi (Zca b)
 by_cases hf:ZbM a=false∨ZbM b=false
 ·rw[show Zhd a b=(0,4) from if_pos hf]
  cases z:ZbM a with
  |false=>
   rw[z] at C
   clear z hf
   go_enter func119,ntmps119
   go_wp2_with fail
   refine Cq (C.out w) ?_
   go_wp2
   go_ret2
   exact⟨rfl,rfl⟩
  |true=>
   rw[z] at C
   have E:ZbM b=false:=by rcases hf with h|h<;>simp_all
   rw[E] at G
   clear z E hf
   go_enter func119,ntmps119
   go_wp2_with fail
   refine Cq (C.out w) ?_
   go_wp2_with fail
   refine Cq (G.out w) ?_
   go_wp2
   go_ret2
   exact⟨rfl,rfl⟩
 have z:ZbM a=true:=by
  cases h:ZbM a with
  |true=>rfl
  |false=>exact absurd (.inl h) hf
 have E:ZbM b=true:=by
  cases h:ZbM b with
  |true=>rfl
  |false=>exact absurd (.inr h) hf
 rw[z] at C
 rw[E] at G
 have he:Zhd a b=Zco (ZaR a*ZaR b/18446744073709551616) (ZaR a*ZaR b%18446744073709551616) (decide (a<0) != decide (b<0)):=if_neg hf
 rw[he]
 clear he hf z E
 have R:=Hi (Zcv a w)
 have U:=Hi (Zcv b w)
 have HM:=Hi (Zhc (ZaR a) (ZaR b) (Zex a) (Zex b) w)
 have J:=Hi (ZaJ (ZaR a*ZaR b/18446744073709551616) (ZaR a*ZaR b%18446744073709551616) (decide (a<0) != decide (b<0)) w)
 obtain⟨sa,L⟩:=ExY (ZaR a)
 obtain⟨sb,N⟩:=ExY (ZaR b)
 rw[←L,←N] at HM J ⊢
 rw[←L] at R
 rw[←N] at U
 obtain⟨lo,Y⟩:=ExY (sa*sb%18446744073709551616)
 obtain⟨hi,X⟩:=ExY (sa*sb/18446744073709551616)
 rw[←Y,←X] at HM J ⊢
 clear L N Y X
 obtain⟨da,Z⟩:∃d,decide (a<0)=d:=⟨_,rfl⟩
 obtain⟨db,aa⟩:∃d,decide (b<0)=d:=⟨_,rfl⟩
 rw[Z,aa] at J ⊢
 go_enter func119,ntmps119
 go_wp2_with fail
 refine Cq (C.out w) ?_
 go_wp2_with fail
 refine Cq (G.out w) ?_
 go_wp2_with fail
 refine R.mono ?_
 rintro e w' ⟨rfl,s⟩
 rw[s]
 clear s w'
 go_wp2_with fail
 refine U.mono ?_
 rintro e w' ⟨rfl,s⟩
 rw[s]
 clear s w'
 go_wp2_with fail
 refine HM.mono ?_
 rintro e w' ⟨rfl,s⟩
 rw[s]
 clear s w'
 go_wp2_with fail
 refine J.mono ?_
 rintro e w' ⟨rfl,s⟩
 rw[s]
 clear s w'
 go_wp2
 go_ret2
 exact⟨rfl,rfl⟩
theorem ZfD(A:Option Addr)(n c:Nat)(xs:List Int)(w:World)(Y:n≤1000000)(U:Rd w w.heap.size 1 A n (xs.map (Value.int .i64))):
 Calls prog 58 #[.slice A n c] w fun e w'=>e=.returned (.tuple #[I (Zes xs 1).1,I (Zes xs 1).2])∧w'=w:=by
 have hl:xs.length=n:=by simpa using U.1
 obtain⟨r,C⟩:=ExY (Zes xs 1)
 rw[←C]
 have HL:=Hi hl
 have L:=Hi C
 clear hl C
 go_enter func58,ntmps58
 go_upto_region 3 with(fail)
 go_loopw [4,11] (fun v4 E wr=>∃(k:Nat) (s:Int),k≤n∧v4=I s∧E=I k∧Hid (Zes (xs.drop k) s=r)∧wr=w) (fun _ E _=>n-(intOf E).toNat)
 case atStart=>exact⟨0,1,Nat.zero_le _,rfl,rfl,L.symm,rfl⟩
 case round=>
  obtain⟨k,s,hk,rfl,rfl,HP,R⟩:=hrel
  subst R
  rename World=>w
  by_cases X:k<n
  ·have G:k<xs.length:=by have:=HL.out;omega
   obtain⟨a,rfl,_,ca⟩:=U.cell (j:=k) (u:=I (xs[k])) (by simp)
   have i1:(0:Int)≤(k:Int):=by omega
   have i2:(k:Int)<(n:Int):=by omega
   have hp:=HP.out
   rw[List.drop_eq_getElem_cons G,Zes] at hp
   have HM:=Hi (Zgy s xs[k] w)
   obtain⟨⟨m,em⟩,hm⟩:∃m,m=Zhd s xs[k]:=⟨_,rfl⟩
   rw[←hm] at hp HM
   dsimp only at hp HM
   generalize xs[k]=x at *
   clear hm HP
   by_cases he:em=0
   ·rw[if_pos he] at hp
    have HP:=Hi hp
    subst he
    clear hp
    go_wp2_with fail
    refine HM.mono ?_
    rintro e w' ⟨rfl,z⟩
    rw[z]
    clear z w'
    go_wp2
    go_roundw
    case rel=>exact⟨k+1,m,by omega,rfl,by go_num,HP,by trivial⟩
    case measure=>simp[intOf];omega
   ·rw[if_neg he] at hp
    have b1:(em != 0)=true:=by simpa using he
    have HP:=Hi hp
    clear hp he
    go_wp2_with fail
    refine HM.mono ?_
    rintro e w' ⟨rfl,z⟩
    rw[z]
    clear z w'
    go_wp2
    go_ret2
    rw[←HP.out]
    exact⟨rfl,rfl⟩
  ·have N:k=n:=by omega
   have hp:=HP.out
   rw[List.drop_eq_nil_of_le (by have:=HL.out;omega),Zes] at hp
   have J:=Hi hp
   clear hp
   subst N
   go_wp2
   go_ret2
   rw[←J.out]
   exact⟨rfl,rfl⟩
end Go.Proofs.YtdefojlkofnloaaGreatDoor
