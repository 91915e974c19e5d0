/- A part of the proof of CorePositions: for every input, no condition. -/
import Derived.Test.YtdefojlkofnloaaGreatDoorZa11
import Derived.Deep.LoopGhost
set_option maxRecDepth 100000
set_option maxHeartbeats 8000000
set_option linter.unusedVariables false
set_option linter.unusedSimpArgs false
namespace Go.Proofs.YtdefojlkofnloaaGreatDoor
open Go.RowKit Go.Proofs.Tryz
theorem ZjG(lo y:Nat)(z:lo<18446744073709551616)(E:y<18446744073709551616)(C:0<y)(w:World):
 Calls prog 138 #[.int .u64 0,.int .u64 lo,.int .u64 y] w fun e w'=>e=.returned (.tuple #[.int .u64 ((lo/y:Nat):Int),.int .u64 ((lo%y:Nat):Int)])∧∃m,w'=w.drewN m:=by
 have b0:((y:Int)==0)=false:=by rw[beq_eq_false_iff_ne];omega
 have i1:¬((y:Int)≤0):=by omega
 have i2:(0:Int)<(y:Int):=by omega
 have i3:¬((y:Int)=0):=by omega
 have s:lo/y≤lo:=Nat.div_le_self lo y
 have wq:IntKind.u64.wrap ((lo:Int)/(y:Int))=(lo:Int)/(y:Int):=by
  obtain⟨d,hd⟩:=ExY (lo/y)
  have e:(lo:Int)/(y:Int)=(d:Int):=by rw[hd];exact(Int.natCast_ediv lo y).symm
  rw[←hd] at s
  rw[e,IntKind.wrap_u64]
  omega
 go_enter func138,ntmps138
 go_upto_region 6 with(fail)
 go_quiet (fail)
 go_wp2
 go_ret2
 refine⟨by push_cast;rfl,?_⟩
 exact⟨_,rfl⟩
theorem ZiL(y:Nat)(G:0<y)(z:y<18446744073709551616):∃b,Lib.bitLen y=b+1∧b≤63∧2^b≤y∧y<2^(b+1):=by
 have E:Lib.bitLen y≤64:=Lib.bitLen_le y 64 (Nat.le_refl _) (by simpa using z)
 have hh:=Lib.bitLen_half y (by omega) z
 refine⟨Lib.bitLen (y/2),by omega,by omega,?_,?_⟩
 ·apply Nat.le_of_not_lt
  intro C
  have:=Lib.bitLen_le y (Lib.bitLen (y/2)) (by omega) C
  omega
 ·apply Nat.lt_of_not_le
  intro s
  have h1:=Lib.bitLen_shift _ y s z
  have h2:0<y/2^(Lib.bitLen (y/2)+1):=Nat.div_pos s (Nat.two_pow_pos _)
  have h3:=Lib.bitLen_half _ (Nat.pos_iff_ne_zero.1 h2) (Nat.lt_of_le_of_lt (Nat.div_le_self _ _) z)
  omega
def ZhF(y0 u q r:Int):Prop:=4294967296≤q∨IntKind.u64.wrap (q*y0)>IntKind.u64.wrap (IntKind.u64.wrap (4294967296*r)+u)
instance (y0 u q r:Int):Decidable (ZhF y0 u q r):=by unfold ZhF;infer_instance
def adj(y1 y0 u:Int):Nat→Int→Int→Int×Int
 |0,q,r=>(q,r)
 |k+1,q,r=>if ZhF y0 u q r then
  if 4294967296≤IntKind.u64.wrap (r+y1) then(IntKind.u64.wrap (q-1),IntKind.u64.wrap (r+y1)) else adj y1 y0 u k (IntKind.u64.wrap (q-1)) (IntKind.u64.wrap (r+y1))
  else(q,r)
theorem ZiT(hi lo y:Nat)(hy:y<18446744073709551616)(h0:0<hi)(hh:hi<y):
 ∃q r:Int,0≤q∧0≤r∧∀w,Calls prog 138 #[.int .u64 hi,.int .u64 lo,.int .u64 y] w fun e w'=>e=.returned (.tuple #[.int .u64 q,.int .u64 r])∧w'=w:=by
 obtain⟨b,hb,a6,aU,aV⟩:=ZiL y (by omega) hy
 obtain⟨s,a7⟩:∃s:Nat,s=63-b:=⟨_,rfl⟩
 have hs:(64-(Lib.bitLen (Int.toNat (y:Int)):Int))=(s:Int):=by rw[Int.toNat_natCast,hb];omega
 have a8:s≤63:=by omega
 have aJ:=Hi (fun w=>Zlh (y:Int) w (by omega) (by omega))
 rw[hs] at aJ
 have hY:9223372036854775808≤y*2^s∧y*2^s<18446744073709551616:=by
  have e:b+s=63:=by omega
  have e1:(2:Nat)^b*2^s=2^63:=by rw[←Nat.pow_add,e]
  have p:0<2^s:=Nat.two_pow_pos s
  have l1:2^b*2^s≤y*2^s:=Nat.mul_le_mul_right _ aU
  have l2:y*2^s<2^(b+1)*2^s:=Nat.mul_lt_mul_of_pos_right aV p
  rw[e1] at l1
  rw[Nat.pow_succ,Nat.mul_right_comm,e1] at l2
  exact⟨by simpa using l1,by simpa using l2⟩
 have aT:IntKind.u64.wrap ((y:Int)*2^s)=((y*2^s:Nat):Int):=by
  rw[IntKind.wrap_u64];push_cast;have:=hY.1;have:=hY.2
  have e:((y*2^s:Nat):Int)=(y:Int)*2^s:=by push_cast;rfl
  rw[←e];omega
 obtain⟨Y1,aD⟩:=ExY (IntKind.u64.wrap ((y:Int)*2^s))
 have a5:9223372036854775808≤Y1∧Y1<18446744073709551616:=by rw[aD,aT];omega
 obtain⟨N,aA⟩:=ExY (Y1/4294967296)
 have aY:2147483648≤N∧N<4294967296:=by omega
 obtain⟨G,az⟩:=ExY (bits BinOp.and IntKind.u64 Y1 4294967295)
 obtain⟨aH,aw⟩:=ExY (bits BinOp.or IntKind.u64 (IntKind.u64.wrap ((hi:Int)*2^s)) ((lo:Int)/2^(64-s)))
 obtain⟨a0,aq⟩:=ExY (IntKind.u64.wrap ((lo:Int)*2^s))
 obtain⟨ai,ay⟩:=ExY (a0/4294967296)
 obtain⟨Z,ax⟩:=ExY (bits BinOp.and IntKind.u64 a0 4294967295)
 obtain⟨q1,aX⟩:=ExY (IntKind.u64.wrap (aH.tdiv N))
 obtain⟨rh,aF⟩:=ExY (IntKind.u64.wrap (aH-IntKind.u64.wrap (q1*N)))
 have ap:0≤rh:=by rw[aF];exact(ZbH _).1
 obtain⟨K0,aQ⟩:∃k:Nat,k=4294967300:=⟨_,rfl⟩
 obtain⟨⟨am,aZ⟩,an⟩:∃v,v=adj N G ai K0 q1 rh:=⟨_,rfl⟩
 obtain⟨aG,au⟩:=ExY (IntKind.u64.wrap (IntKind.u64.wrap (IntKind.u64.wrap (aH*4294967296)+ai)-IntKind.u64.wrap (am*Y1)))
 obtain⟨q0,aW⟩:=ExY (IntKind.u64.wrap (aG.tdiv N))
 obtain⟨rg,aE⟩:=ExY (IntKind.u64.wrap (aG-IntKind.u64.wrap (q0*N)))
 have ao:0≤rg:=by rw[aE];exact(ZbH _).1
 obtain⟨⟨ac,ah⟩,al⟩:∃v,v=adj N G Z K0 q0 rg:=⟨_,rfl⟩
 have ak:=Hi au
 have aB:=Hi aW
 have aC:=Hi aE
 have ae:=Hi al
 have aa:=Hi aQ
 have a3:=Hi ap
 have aj:=Hi ao
 clear au aW aE al aQ ap ao
 have a4:=Hi aD
 have aP:=Hi aA
 have aO:=Hi az
 have aL:=Hi aw
 have aK:=Hi aq
 have aN:=Hi ay
 have aM:=Hi ax
 have a1:=Hi aX
 have a2:=Hi aF
 have aI:=Hi an
 have ad:=Hi aY
 clear hs hb a6 aU aV a7 hY aT aD a5 aA aY az aw aq ay ax aX aF an
 obtain⟨Q,hQ⟩:=ExY (IntKind.u64.wrap (IntKind.u64.wrap (am*4294967296)+ac))
 obtain⟨R,hR⟩:=ExY (IntKind.u64.wrap (IntKind.u64.wrap (IntKind.u64.wrap (aG*4294967296)+Z)-IntKind.u64.wrap (ac*Y1))/2^s)
 have aR:0≤Q:=by rw[hQ];exact(ZbH _).1
 have aS:0≤R:=by rw[hR];exact Int.ediv_nonneg (ZbH _).1 (Int.le_of_lt (Int.pow_pos (by decide)))
 have HQ:=Hi hQ
 have HR:=Hi hR
 clear hQ hR
 refine⟨Q,R,aR,aS,fun w=>?_⟩
 clear aR aS
 have b0:((y:Int)==0)=false:=by rw[beq_eq_false_iff_ne];omega
 have b1:((hi:Int)==0)=false:=by rw[beq_eq_false_iff_ne];omega
 have i1:¬((y:Int)≤(hi:Int)):=by omega
 have i2:(0:Int)<(y:Int):=by omega
 have i3:¬(y=0):=by omega
 have i4:¬(hi=0):=by omega
 have i5:¬(y≤hi):=by omega
 go_enter func138,ntmps138
 go_wp2_with fail
 refine Cq (aJ.out w) ?_
 have ws:IntKind.u64.wrap (s:Int)=(s:Int):=by rw[IntKind.wrap_u64];omega
 go_upto_region 9 with(fail)
 rw[←a4.out]
 go_upto_region 10 with(fail)
 rw[←aP.out]
 have yn:¬(N=0):=by have:=ad.out;omega
 go_upto_region 12 with(fail)
 rw[←aO.out,←aL.out]
 go_upto_region 15 with(fail)
 rw[←aK.out,←aN.out,←aM.out]
 go_upto_region 16 with(fail)
 rw[←a1.out]
 go_upto_region 17 with(fail)
 rw[←a2.out]
 go_loopg [15,16] K0 (fun k vq vr wr=>∃q r:Int,vq=.int .u64 q∧vr=.int .u64 r∧Hid ((am,aZ)=adj N G ai k q r)∧Hid (0≤r∧((k=K0)∨(r<4294967296∧4294967298≤(k:Int)+r)))∧wr=w)
 case atStart=>exact⟨q1,rh,rfl,rfl,aI,⟨a3,.inl rfl⟩,rfl⟩
 case round=>
  obtain⟨q,r,rfl,rfl,HA,HI,ag⟩:=hrel
  subst ag
  rename World=>w
  obtain⟨k',rfl⟩:∃k',gk=k'+1:=by
   have:=HI.out;have:=aa.out
   exact⟨gk-1,by omega⟩
  have ha:=HA.out
  rw[adj] at ha
  by_cases hc:ZhF G ai q r
  ·rw[if_pos hc] at ha
   obtain⟨q2,Y⟩:=ExY (IntKind.u64.wrap (q-1))
   obtain⟨r2,E⟩:=ExY (IntKind.u64.wrap (r+N))
   rw[←Y,←E] at ha
   have ab:=Hi Y
   have C:=Hi E
   have L:0≤r2:=by rw[E];exact(ZbH _).1
   have J:=Hi L
   clear Y E L
   have z:=Hi ha
   clear ha HA
   by_cases hq:4294967296≤q
   ·clear hc
    go_upto_region 20 with(fail)
    rw[←ab.out,←C.out]
    by_cases hx:4294967296≤r2
    ·have ha:=z.out
     rw[if_pos hx] at ha
     obtain⟨rfl,rfl⟩:=Prod.mk.inj ha
     clear ha
     go_upto_region 22 with(fail)
     rw[←ak.out]
     go_upto_region 23 with(fail)
     rw[←aB.out]
     go_upto_region 24 with(fail)
     rw[←aC.out]
     go_loopg [18,16] K0 (fun k vq vr wr=>∃q r:Int,vq=.int .u64 q∧vr=.int .u64 r∧Hid ((ac,ah)=adj N G Z k q r)∧Hid (0≤r∧((k=K0)∨(r<4294967296∧4294967298≤(k:Int)+r)))∧wr=w)
     case atStart=>exact⟨q0,rg,rfl,rfl,ae,⟨aj,.inl rfl⟩,rfl⟩
     case round=>
      obtain⟨q,r,rfl,rfl,HA,HI,ag⟩:=hrel
      subst ag
      rename World=>w
      obtain⟨k',rfl⟩:∃k',gk=k'+1:=by
       have:=HI.out;have:=aa.out
       exact⟨gk-1,by omega⟩
      have ha:=HA.out
      rw[adj] at ha
      by_cases hc:ZhF G Z q r
      ·rw[if_pos hc] at ha
       obtain⟨q2,Y⟩:=ExY (IntKind.u64.wrap (q-1))
       obtain⟨r2,E⟩:=ExY (IntKind.u64.wrap (r+N))
       rw[←Y,←E] at ha
       have ab:=Hi Y
       have C:=Hi E
       have L:0≤r2:=by rw[E];exact(ZbH _).1
       have J:=Hi L
       clear Y E L
       have z:=Hi ha
       clear ha HA
       by_cases hq:4294967296≤q
       ·clear hc
        go_upto_region 27 with(fail)
        rw[←ab.out,←C.out]
        by_cases hx:4294967296≤r2
        ·have ha:=z.out
         rw[if_pos hx] at ha
         obtain⟨rfl,rfl⟩:=Prod.mk.inj ha
         clear ha
         go_wp2
         rw[←HQ.out,←HR.out]
         go_ret2
         exact⟨rfl,rfl⟩
        ·have ha:=z.out
         rw[if_neg hx] at ha
         have U:=Hi ha
         clear ha
         have hi:0≤r2∧((k'=K0)∨(r2<4294967296∧4294967298≤(k':Int)+r2)):=by
          have h1:=HI.out
          have h2:=C.out
          have h3:=J.out
          have h4:=aa.out
          have h5:=ad.out
          refine⟨h3,.inr ⟨by omega,?_⟩⟩
          rcases h1.2 with h|⟨h6,h7⟩
          ·omega
          ·rw[IntKind.wrap_u64] at h2
           omega
         have X:=Hi hi
         clear hi
         go_wp2
         go_roundg k'
         case rel=>exact⟨q2,r2,rfl,rfl,U,X,rfl⟩
         case measure=>omega
       ·have af:IntKind.u64.wrap (IntKind.u64.wrap (4294967296*r)+Z)<IntKind.u64.wrap (q*G):=by
         rcases hc with h|h
         ·exact absurd h hq
         ·exact h
        clear hc
        go_upto_region 27 with(fail)
        rw[←ab.out,←C.out]
        by_cases hx:4294967296≤r2
        ·have ha:=z.out
         rw[if_pos hx] at ha
         obtain⟨rfl,rfl⟩:=Prod.mk.inj ha
         clear ha
         go_wp2
         rw[←HQ.out,←HR.out]
         go_ret2
         exact⟨rfl,rfl⟩
        ·have ha:=z.out
         rw[if_neg hx] at ha
         have U:=Hi ha
         clear ha
         have hi:0≤r2∧((k'=K0)∨(r2<4294967296∧4294967298≤(k':Int)+r2)):=by
          have h1:=HI.out
          have h2:=C.out
          have h3:=J.out
          have h4:=aa.out
          have h5:=ad.out
          refine⟨h3,.inr ⟨by omega,?_⟩⟩
          rcases h1.2 with h|⟨h6,h7⟩
          ·omega
          ·rw[IntKind.wrap_u64] at h2
           omega
         have X:=Hi hi
         clear hi
         go_wp2
         go_roundg k'
         case rel=>exact⟨q2,r2,rfl,rfl,U,X,rfl⟩
         case measure=>omega
      ·rw[if_neg hc] at ha
       obtain⟨rfl,rfl⟩:=Prod.mk.inj ha
       have hq:¬(4294967296≤ac):=fun h=>hc (.inl h)
       have af:¬(IntKind.u64.wrap (IntKind.u64.wrap (4294967296*ah)+Z)<IntKind.u64.wrap (ac*G)):=fun h=>hc (.inr h)
       clear hc ha HA
       go_wp2
       rw[←HQ.out,←HR.out]
       go_ret2
       exact⟨rfl,rfl⟩
    ·have ha:=z.out
     rw[if_neg hx] at ha
     have U:=Hi ha
     clear ha
     have hi:0≤r2∧((k'=K0)∨(r2<4294967296∧4294967298≤(k':Int)+r2)):=by
      have h1:=HI.out
      have h2:=C.out
      have h3:=J.out
      have h4:=aa.out
      have h5:=ad.out
      refine⟨h3,.inr ⟨by omega,?_⟩⟩
      rcases h1.2 with h|⟨h6,h7⟩
      ·omega
      ·rw[IntKind.wrap_u64] at h2
       omega
     have X:=Hi hi
     clear hi
     go_wp2
     go_roundg k'
     case rel=>exact⟨q2,r2,rfl,rfl,U,X,rfl⟩
     case measure=>omega
   ·have af:IntKind.u64.wrap (IntKind.u64.wrap (4294967296*r)+ai)<IntKind.u64.wrap (q*G):=by
     rcases hc with h|h
     ·exact absurd h hq
     ·exact h
    clear hc
    go_upto_region 20 with(fail)
    rw[←ab.out,←C.out]
    by_cases hx:4294967296≤r2
    ·have ha:=z.out
     rw[if_pos hx] at ha
     obtain⟨rfl,rfl⟩:=Prod.mk.inj ha
     clear ha
     go_upto_region 22 with(fail)
     rw[←ak.out]
     go_upto_region 23 with(fail)
     rw[←aB.out]
     go_upto_region 24 with(fail)
     rw[←aC.out]
     go_loopg [18,16] K0 (fun k vq vr wr=>∃q r:Int,vq=.int .u64 q∧vr=.int .u64 r∧Hid ((ac,ah)=adj N G Z k q r)∧Hid (0≤r∧((k=K0)∨(r<4294967296∧4294967298≤(k:Int)+r)))∧wr=w)
     case atStart=>exact⟨q0,rg,rfl,rfl,ae,⟨aj,.inl rfl⟩,rfl⟩
     case round=>
      obtain⟨q,r,rfl,rfl,HA,HI,ag⟩:=hrel
      subst ag
      rename World=>w
      obtain⟨k',rfl⟩:∃k',gk=k'+1:=by
       have:=HI.out;have:=aa.out
       exact⟨gk-1,by omega⟩
      have ha:=HA.out
      rw[adj] at ha
      by_cases hc:ZhF G Z q r
      ·rw[if_pos hc] at ha
       obtain⟨q2,Y⟩:=ExY (IntKind.u64.wrap (q-1))
       obtain⟨r2,E⟩:=ExY (IntKind.u64.wrap (r+N))
       rw[←Y,←E] at ha
       have ab:=Hi Y
       have C:=Hi E
       have L:0≤r2:=by rw[E];exact(ZbH _).1
       have J:=Hi L
       clear Y E L
       have z:=Hi ha
       clear ha HA
       by_cases hq:4294967296≤q
       ·clear hc
        go_upto_region 27 with(fail)
        rw[←ab.out,←C.out]
        by_cases hx:4294967296≤r2
        ·have ha:=z.out
         rw[if_pos hx] at ha
         obtain⟨rfl,rfl⟩:=Prod.mk.inj ha
         clear ha
         go_wp2
         rw[←HQ.out,←HR.out]
         go_ret2
         exact⟨rfl,rfl⟩
        ·have ha:=z.out
         rw[if_neg hx] at ha
         have U:=Hi ha
         clear ha
         have hi:0≤r2∧((k'=K0)∨(r2<4294967296∧4294967298≤(k':Int)+r2)):=by
          have h1:=HI.out
          have h2:=C.out
          have h3:=J.out
          have h4:=aa.out
          have h5:=ad.out
          refine⟨h3,.inr ⟨by omega,?_⟩⟩
          rcases h1.2 with h|⟨h6,h7⟩
          ·omega
          ·rw[IntKind.wrap_u64] at h2
           omega
         have X:=Hi hi
         clear hi
         go_wp2
         go_roundg k'
         case rel=>exact⟨q2,r2,rfl,rfl,U,X,rfl⟩
         case measure=>omega
       ·have af:IntKind.u64.wrap (IntKind.u64.wrap (4294967296*r)+Z)<IntKind.u64.wrap (q*G):=by
         rcases hc with h|h
         ·exact absurd h hq
         ·exact h
        clear hc
        go_upto_region 27 with(fail)
        rw[←ab.out,←C.out]
        by_cases hx:4294967296≤r2
        ·have ha:=z.out
         rw[if_pos hx] at ha
         obtain⟨rfl,rfl⟩:=Prod.mk.inj ha
         clear ha
         go_wp2
         rw[←HQ.out,←HR.out]
         go_ret2
         exact⟨rfl,rfl⟩
        ·have ha:=z.out
         rw[if_neg hx] at ha
         have U:=Hi ha
         clear ha
         have hi:0≤r2∧((k'=K0)∨(r2<4294967296∧4294967298≤(k':Int)+r2)):=by
          have h1:=HI.out
          have h2:=C.out
          have h3:=J.out
          have h4:=aa.out
          have h5:=ad.out
          refine⟨h3,.inr ⟨by omega,?_⟩⟩
          rcases h1.2 with h|⟨h6,h7⟩
          ·omega
          ·rw[IntKind.wrap_u64] at h2
           omega
         have X:=Hi hi
         clear hi
         go_wp2
         go_roundg k'
         case rel=>exact⟨q2,r2,rfl,rfl,U,X,rfl⟩
         case measure=>omega
      ·rw[if_neg hc] at ha
       obtain⟨rfl,rfl⟩:=Prod.mk.inj ha
       have hq:¬(4294967296≤ac):=fun h=>hc (.inl h)
       have af:¬(IntKind.u64.wrap (IntKind.u64.wrap (4294967296*ah)+Z)<IntKind.u64.wrap (ac*G)):=fun h=>hc (.inr h)
       clear hc ha HA
       go_wp2
       rw[←HQ.out,←HR.out]
       go_ret2
       exact⟨rfl,rfl⟩
    ·have ha:=z.out
     rw[if_neg hx] at ha
     have U:=Hi ha
     clear ha
     have hi:0≤r2∧((k'=K0)∨(r2<4294967296∧4294967298≤(k':Int)+r2)):=by
      have h1:=HI.out
      have h2:=C.out
      have h3:=J.out
      have h4:=aa.out
      have h5:=ad.out
      refine⟨h3,.inr ⟨by omega,?_⟩⟩
      rcases h1.2 with h|⟨h6,h7⟩
      ·omega
      ·rw[IntKind.wrap_u64] at h2
       omega
     have X:=Hi hi
     clear hi
     go_wp2
     go_roundg k'
     case rel=>exact⟨q2,r2,rfl,rfl,U,X,rfl⟩
     case measure=>omega
  ·rw[if_neg hc] at ha
   obtain⟨rfl,rfl⟩:=Prod.mk.inj ha
   have hq:¬(4294967296≤am):=fun h=>hc (.inl h)
   have af:¬(IntKind.u64.wrap (IntKind.u64.wrap (4294967296*aZ)+ai)<IntKind.u64.wrap (am*G)):=fun h=>hc (.inr h)
   clear hc ha HA
   go_upto_region 22 with(fail)
   rw[←ak.out]
   go_upto_region 23 with(fail)
   rw[←aB.out]
   go_upto_region 24 with(fail)
   rw[←aC.out]
   go_loopg [18,16] K0 (fun k vq vr wr=>∃q r:Int,vq=.int .u64 q∧vr=.int .u64 r∧Hid ((ac,ah)=adj N G Z k q r)∧Hid (0≤r∧((k=K0)∨(r<4294967296∧4294967298≤(k:Int)+r)))∧wr=w)
   case atStart=>exact⟨q0,rg,rfl,rfl,ae,⟨aj,.inl rfl⟩,rfl⟩
   case round=>
    obtain⟨q,r,rfl,rfl,HA,HI,ag⟩:=hrel
    subst ag
    rename World=>w
    obtain⟨k',rfl⟩:∃k',gk=k'+1:=by
     have:=HI.out;have:=aa.out
     exact⟨gk-1,by omega⟩
    have ha:=HA.out
    rw[adj] at ha
    by_cases hc:ZhF G Z q r
    ·rw[if_pos hc] at ha
     obtain⟨q2,Y⟩:=ExY (IntKind.u64.wrap (q-1))
     obtain⟨r2,E⟩:=ExY (IntKind.u64.wrap (r+N))
     rw[←Y,←E] at ha
     have ab:=Hi Y
     have C:=Hi E
     have L:0≤r2:=by rw[E];exact(ZbH _).1
     have J:=Hi L
     clear Y E L
     have z:=Hi ha
     clear ha HA
     by_cases hq:4294967296≤q
     ·clear hc
      go_upto_region 27 with(fail)
      rw[←ab.out,←C.out]
      by_cases hx:4294967296≤r2
      ·have ha:=z.out
       rw[if_pos hx] at ha
       obtain⟨rfl,rfl⟩:=Prod.mk.inj ha
       clear ha
       go_wp2
       rw[←HQ.out,←HR.out]
       go_ret2
       exact⟨rfl,rfl⟩
      ·have ha:=z.out
       rw[if_neg hx] at ha
       have U:=Hi ha
       clear ha
       have hi:0≤r2∧((k'=K0)∨(r2<4294967296∧4294967298≤(k':Int)+r2)):=by
        have h1:=HI.out
        have h2:=C.out
        have h3:=J.out
        have h4:=aa.out
        have h5:=ad.out
        refine⟨h3,.inr ⟨by omega,?_⟩⟩
        rcases h1.2 with h|⟨h6,h7⟩
        ·omega
        ·rw[IntKind.wrap_u64] at h2
         omega
       have X:=Hi hi
       clear hi
       go_wp2
       go_roundg k'
       case rel=>exact⟨q2,r2,rfl,rfl,U,X,rfl⟩
       case measure=>omega
     ·have af:IntKind.u64.wrap (IntKind.u64.wrap (4294967296*r)+Z)<IntKind.u64.wrap (q*G):=by
       rcases hc with h|h
       ·exact absurd h hq
       ·exact h
      clear hc
      go_upto_region 27 with(fail)
      rw[←ab.out,←C.out]
      by_cases hx:4294967296≤r2
      ·have ha:=z.out
       rw[if_pos hx] at ha
       obtain⟨rfl,rfl⟩:=Prod.mk.inj ha
       clear ha
       go_wp2
       rw[←HQ.out,←HR.out]
       go_ret2
       exact⟨rfl,rfl⟩
      ·have ha:=z.out
       rw[if_neg hx] at ha
       have U:=Hi ha
       clear ha
       have hi:0≤r2∧((k'=K0)∨(r2<4294967296∧4294967298≤(k':Int)+r2)):=by
        have h1:=HI.out
        have h2:=C.out
        have h3:=J.out
        have h4:=aa.out
        have h5:=ad.out
        refine⟨h3,.inr ⟨by omega,?_⟩⟩
        rcases h1.2 with h|⟨h6,h7⟩
        ·omega
        ·rw[IntKind.wrap_u64] at h2
         omega
       have X:=Hi hi
       clear hi
       go_wp2
       go_roundg k'
       case rel=>exact⟨q2,r2,rfl,rfl,U,X,rfl⟩
       case measure=>omega
    ·rw[if_neg hc] at ha
     obtain⟨rfl,rfl⟩:=Prod.mk.inj ha
     have hq:¬(4294967296≤ac):=fun h=>hc (.inl h)
     have af:¬(IntKind.u64.wrap (IntKind.u64.wrap (4294967296*ah)+Z)<IntKind.u64.wrap (ac*G)):=fun h=>hc (.inr h)
     clear hc ha HA
     go_wp2
     rw[←HQ.out,←HR.out]
     go_ret2
     exact⟨rfl,rfl⟩
noncomputable def ZkF(hi lo y:Nat):Nat×Nat:=
 if hi=0 then(lo/y,lo%y)
 else open Classical in if h:∃p:Nat×Nat,∀w,Calls prog 138 #[.int .u64 hi,.int .u64 lo,.int .u64 y] w fun e w'=>e=.returned (.tuple #[.int .u64 (p.1:Int),.int .u64 (p.2:Int)])∧∃m,w'=w.drewN m then Classical.choose h else(0,0)
theorem ZjF(hi lo y:Nat)(s:lo<18446744073709551616)(C:y<18446744073709551616)(z:hi<y)(w:World):
 Calls prog 138 #[.int .u64 hi,.int .u64 lo,.int .u64 y] w fun e w'=>e=.returned (.tuple #[.int .u64 ((ZkF hi lo y).1:Int),.int .u64 ((ZkF hi lo y).2:Int)])∧∃m,w'=w.drewN m:=by
 by_cases h0:hi=0
 ·subst h0
  have e:ZkF 0 lo y=(lo/y,lo%y):=if_pos rfl
  rw[e]
  exact ZjG lo y s C z w
 ·have hx:∃p:Nat×Nat,∀w,Calls prog 138 #[.int .u64 hi,.int .u64 lo,.int .u64 y] w fun e w'=>e=.returned (.tuple #[.int .u64 (p.1:Int),.int .u64 (p.2:Int)])∧∃m,w'=w.drewN m:=by
   obtain⟨q,r,hq,hr,h⟩:=ZiT hi lo y C (by omega) z
   refine⟨(q.toNat,r.toNat),fun w=>(h w).mono ?_⟩
   rintro e w' ⟨he,hw⟩
   refine⟨?_,0,hw⟩
   rw[he,Int.toNat_of_nonneg hq,Int.toNat_of_nonneg hr]
  have e:ZkF hi lo y=Classical.choose hx:=by
   unfold ZkF
   rw[if_neg h0,dif_pos hx]
  rw[e]
  exact Classical.choose_spec hx w
def Zeo(mode:Int)(neg:Bool):Bool:=mode==3||(mode==1 && !neg)||(mode==0&&neg)
noncomputable def Za3(a b c mode:Int):Int×Int:=
 if ZbM a=false∨ZbM b=false∨ZbM c=false then(0,4)
 else if c=0∨mode<0∨3<mode then(0,1)
 else if ZaR c≤ZaR a*ZaR b/18446744073709551616 then(0,4)
 else if 0<(ZkF (ZaR a*ZaR b/18446744073709551616) (ZaR a*ZaR b%18446744073709551616) (ZaR c)).2∧Zeo mode ((decide (a<0) != decide (b<0)) != decide (c<0))=true then
  Zco (((ZkF (ZaR a*ZaR b/18446744073709551616) (ZaR a*ZaR b%18446744073709551616) (ZaR c)).1+1)/18446744073709551616)
   (((ZkF (ZaR a*ZaR b/18446744073709551616) (ZaR a*ZaR b%18446744073709551616) (ZaR c)).1+1)%18446744073709551616) ((decide (a<0) != decide (b<0)) != decide (c<0))
 else Zco 0 (ZkF (ZaR a*ZaR b/18446744073709551616) (ZaR a*ZaR b%18446744073709551616) (ZaR c)).1 ((decide (a<0) != decide (b<0)) != decide (c<0))
theorem Zdk(a b c C:Int)(w:World):Calls prog 88 #[I a,I b,I c,I C] w fun e w'=>
 e=.returned (.tuple #[I (Za3 a b c C).1,I (Za3 a b c C).2])∧∃m,w'=w.drewN m:=by
 have ag:=Hi (Zca a)
 have ah:=Hi (Zca b)
 have ai:=Hi (Zca c)
 obtain⟨r,hr⟩:=ExY (Za3 a b c C)
 rw[←hr]
 unfold Za3 at hr
 have ak:=Hi (Zcv a)
 have al:=Hi (Zcv b)
 have ac:=Hi (Zcv c)
 have HM:=Hi (Zhc (ZaR a) (ZaR b) (Zex a) (Zex b))
 have lc:=Zex c
 obtain⟨sa,Z⟩:=ExY (ZaR a)
 obtain⟨sb,aa⟩:=ExY (ZaR b)
 obtain⟨sc,af⟩:=ExY (ZaR c)
 rw[←Z,←aa] at HM
 rw[←Z] at ak
 rw[←aa] at al
 rw[←af] at ac lc
 rw[←Z,←aa,←af] at hr
 obtain⟨lo,au⟩:=ExY (sa*sb%18446744073709551616)
 obtain⟨hi,aq⟩:=ExY (sa*sb/18446744073709551616)
 rw[←au,←aq] at HM hr
 have ab:lo<18446744073709551616:=by omega
 clear Z aa af au aq
 obtain⟨fa,am⟩:=ExY (ZbM a)
 obtain⟨fb,an⟩:=ExY (ZbM b)
 obtain⟨fc,ao⟩:=ExY (ZbM c)
 rw[←am] at ag hr
 rw[←an] at ah hr
 rw[←ao] at ai hr
 clear am an ao
 have HR:=Hi hr
 have az:=Hi ab
 have ay:=Hi lc
 clear hr ab lc
 go_enter func88,ntmps88
 go_wp2_with fail
 refine Cq (ag.out w) ?_
 cases fa with
 |false=>
  have e0:r=(0,4):=by rw[HR.out];simp
  subst e0
  go_wp2
  go_ret2
  exact⟨rfl,0,rfl⟩
 |true=>
 go_wp2_with fail
 refine Cq (ah.out w) ?_
 cases fb with
 |false=>
  have e0:r=(0,4):=by rw[HR.out];simp
  subst e0
  go_wp2
  go_ret2
  exact⟨rfl,0,rfl⟩
 |true=>
 go_wp2_with fail
 refine Cq (ai.out w) ?_
 cases fc with
 |false=>
  have e0:r=(0,4):=by rw[HR.out];simp
  subst e0
  go_wp2
  go_ret2
  exact⟨rfl,0,rfl⟩
 |true=>
 have ae:=HR.out
 rw[if_neg (by simp)] at ae
 have Y:=Hi ae
 clear ae
 by_cases c0:c=0
 ·have e0:r=(0,1):=by rw[Y.out,if_pos (.inl c0)]
  subst e0
  go_wp2
  go_ret2
  exact⟨rfl,0,rfl⟩
 have aE:(c==0)=false:=by simpa using c0
 by_cases m0:C<0
 ·have e0:r=(0,1):=by rw[Y.out,if_pos (.inr (.inl m0))]
  subst e0
  go_wp2
  go_ret2
  exact⟨rfl,0,rfl⟩
 by_cases m3:3<C
 ·have e0:r=(0,1):=by rw[Y.out,if_pos (.inr (.inr m3))]
  subst e0
  go_wp2
  go_ret2
  exact⟨rfl,0,rfl⟩
 have U:=Y.out
 rw[if_neg (by omega)] at U
 obtain⟨da,aB⟩:∃d,decide (a<0)=d:=⟨_,rfl⟩
 obtain⟨db,aC⟩:∃d,decide (b<0)=d:=⟨_,rfl⟩
 obtain⟨dc,aD⟩:∃d,decide (c<0)=d:=⟨_,rfl⟩
 rw[aB,aC,aD] at U
 obtain⟨ng,ad⟩:∃d,((da != db) != dc)=d:=⟨_,rfl⟩
 rw[ad] at U
 have aj:=Hi U
 have aA:=Hi ad
 clear U ad
 go_upto_region 6 with(fail)
 rw[show(!((!(da==db))==dc))=ng from aA.out]
 go_wp2_with fail
 refine Cq (ak.out w) ?_
 go_wp2_with fail
 refine Cq (al.out w) ?_
 go_wp2_with fail
 refine Cq (HM.out w) ?_
 go_wp2_with fail
 refine Cq (ac.out w) ?_
 by_cases ap:sc≤hi
 ·have e0:r=(0,4):=by rw[aj.out,if_pos ap]
  subst e0
  have i5:(sc:Int)≤(hi:Int):=by omega
  go_wp2
  go_ret2
  exact⟨rfl,0,rfl⟩
 have i5:¬((sc:Int)≤(hi:Int)):=by omega
 have X:=aj.out
 rw[if_neg ap] at X
 have HD:=Hi (ZjF hi lo sc az ay (by omega))
 obtain⟨⟨q,rs⟩,aw⟩:∃p,p=ZkF hi lo sc:=⟨_,rfl⟩
 rw[←aw] at HD X
 dsimp only at HD X
 have N:=Hi X
 clear X aw
 go_wp2_with fail
 refine Cq (ac.out w) ?_
 go_wp2_with fail
 refine(HD.out w).mono ?_
 rintro e w' ⟨rfl,mm,ax⟩
 rw[ax]
 clear ax w'
 have hm:C=0∨C=1∨C=2∨C=3:=by omega
 rcases hm with R|R|R|R
 ·subst R
  clear m0 m3
  cases ng with
  |true=>
   have s:=N.out
   rw[show Zeo 0 true=true from rfl] at s
   by_cases L:0<rs
   ·have i6:(0:Int)<(rs:Int):=by omega
    rw[if_pos ⟨L,rfl⟩] at s
    have E:=fun w=>Zel q w
    have z:=Hi (fun w=>ZaJ ((q+1)/18446744073709551616) ((q+1)%18446744073709551616) true w)
    rw[←s] at z
    clear s
    obtain⟨l2,J⟩:=ExY ((q+1)%18446744073709551616)
    obtain⟨h2,G⟩:=ExY ((q+1)/18446744073709551616)
    rw[←J,←G] at E z
    clear J G
    go_wp2_with fail
    refine Cq (z.out _) ?_
    go_wp2
    go_ret2
    exact⟨rfl,_,rfl⟩
   ·have e0:rs=0:=by omega
    subst e0
    rw[if_neg (by simp)] at s
    have z:=Hi (fun w=>ZaJ 0 q true w)
    rw[←s] at z
    clear s
    go_wp2_with fail
    refine Cq (z.out _) ?_
    go_wp2
    go_ret2
    exact⟨rfl,_,rfl⟩
  |false=>
   have s:=N.out
   rw[show Zeo 0 false=false from rfl] at s
   by_cases L:0<rs
   ·have i6:(0:Int)<(rs:Int):=by omega
    rw[if_neg (by simp)] at s
    have z:=Hi (fun w=>ZaJ 0 q false w)
    rw[←s] at z
    clear s
    go_wp2_with fail
    refine Cq (z.out _) ?_
    go_wp2
    go_ret2
    exact⟨rfl,_,rfl⟩
   ·have e0:rs=0:=by omega
    subst e0
    rw[if_neg (by simp)] at s
    have z:=Hi (fun w=>ZaJ 0 q false w)
    rw[←s] at z
    clear s
    go_wp2_with fail
    refine Cq (z.out _) ?_
    go_wp2
    go_ret2
    exact⟨rfl,_,rfl⟩
 ·subst R
  clear m0 m3
  cases ng with
  |true=>
   have s:=N.out
   rw[show Zeo 1 true=false from rfl] at s
   by_cases L:0<rs
   ·have i6:(0:Int)<(rs:Int):=by omega
    rw[if_neg (by simp)] at s
    have z:=Hi (fun w=>ZaJ 0 q true w)
    rw[←s] at z
    clear s
    go_wp2_with fail
    refine Cq (z.out _) ?_
    go_wp2
    go_ret2
    exact⟨rfl,_,rfl⟩
   ·have e0:rs=0:=by omega
    subst e0
    rw[if_neg (by simp)] at s
    have z:=Hi (fun w=>ZaJ 0 q true w)
    rw[←s] at z
    clear s
    go_wp2_with fail
    refine Cq (z.out _) ?_
    go_wp2
    go_ret2
    exact⟨rfl,_,rfl⟩
  |false=>
   have s:=N.out
   rw[show Zeo 1 false=true from rfl] at s
   by_cases L:0<rs
   ·have i6:(0:Int)<(rs:Int):=by omega
    rw[if_pos ⟨L,rfl⟩] at s
    have E:=fun w=>Zel q w
    have z:=Hi (fun w=>ZaJ ((q+1)/18446744073709551616) ((q+1)%18446744073709551616) false w)
    rw[←s] at z
    clear s
    obtain⟨l2,J⟩:=ExY ((q+1)%18446744073709551616)
    obtain⟨h2,G⟩:=ExY ((q+1)/18446744073709551616)
    rw[←J,←G] at E z
    clear J G
    go_wp2_with fail
    refine Cq (z.out _) ?_
    go_wp2
    go_ret2
    exact⟨rfl,_,rfl⟩
   ·have e0:rs=0:=by omega
    subst e0
    rw[if_neg (by simp)] at s
    have z:=Hi (fun w=>ZaJ 0 q false w)
    rw[←s] at z
    clear s
    go_wp2_with fail
    refine Cq (z.out _) ?_
    go_wp2
    go_ret2
    exact⟨rfl,_,rfl⟩
 ·subst R
  clear m0 m3
  cases ng with
  |true=>
   have s:=N.out
   rw[show Zeo 2 true=false from rfl] at s
   by_cases L:0<rs
   ·have i6:(0:Int)<(rs:Int):=by omega
    rw[if_neg (by simp)] at s
    have z:=Hi (fun w=>ZaJ 0 q true w)
    rw[←s] at z
    clear s
    go_wp2_with fail
    refine Cq (z.out _) ?_
    go_wp2
    go_ret2
    exact⟨rfl,_,rfl⟩
   ·have e0:rs=0:=by omega
    subst e0
    rw[if_neg (by simp)] at s
    have z:=Hi (fun w=>ZaJ 0 q true w)
    rw[←s] at z
    clear s
    go_wp2_with fail
    refine Cq (z.out _) ?_
    go_wp2
    go_ret2
    exact⟨rfl,_,rfl⟩
  |false=>
   have s:=N.out
   rw[show Zeo 2 false=false from rfl] at s
   by_cases L:0<rs
   ·have i6:(0:Int)<(rs:Int):=by omega
    rw[if_neg (by simp)] at s
    have z:=Hi (fun w=>ZaJ 0 q false w)
    rw[←s] at z
    clear s
    go_wp2_with fail
    refine Cq (z.out _) ?_
    go_wp2
    go_ret2
    exact⟨rfl,_,rfl⟩
   ·have e0:rs=0:=by omega
    subst e0
    rw[if_neg (by simp)] at s
    have z:=Hi (fun w=>ZaJ 0 q false w)
    rw[←s] at z
    clear s
    go_wp2_with fail
    refine Cq (z.out _) ?_
    go_wp2
    go_ret2
    exact⟨rfl,_,rfl⟩
 ·subst R
  clear m0 m3
  cases ng with
  |true=>
   have s:=N.out
   rw[show Zeo 3 true=true from rfl] at s
   by_cases L:0<rs
   ·have i6:(0:Int)<(rs:Int):=by omega
    rw[if_pos ⟨L,rfl⟩] at s
    have E:=fun w=>Zel q w
    have z:=Hi (fun w=>ZaJ ((q+1)/18446744073709551616) ((q+1)%18446744073709551616) true w)
    rw[←s] at z
    clear s
    obtain⟨l2,J⟩:=ExY ((q+1)%18446744073709551616)
    obtain⟨h2,G⟩:=ExY ((q+1)/18446744073709551616)
    rw[←J,←G] at E z
    clear J G
    go_wp2_with fail
    refine Cq (z.out _) ?_
    go_wp2
    go_ret2
    exact⟨rfl,_,rfl⟩
   ·have e0:rs=0:=by omega
    subst e0
    rw[if_neg (by simp)] at s
    have z:=Hi (fun w=>ZaJ 0 q true w)
    rw[←s] at z
    clear s
    go_wp2_with fail
    refine Cq (z.out _) ?_
    go_wp2
    go_ret2
    exact⟨rfl,_,rfl⟩
  |false=>
   have s:=N.out
   rw[show Zeo 3 false=true from rfl] at s
   by_cases L:0<rs
   ·have i6:(0:Int)<(rs:Int):=by omega
    rw[if_pos ⟨L,rfl⟩] at s
    have E:=fun w=>Zel q w
    have z:=Hi (fun w=>ZaJ ((q+1)/18446744073709551616) ((q+1)%18446744073709551616) false w)
    rw[←s] at z
    clear s
    obtain⟨l2,J⟩:=ExY ((q+1)%18446744073709551616)
    obtain⟨h2,G⟩:=ExY ((q+1)/18446744073709551616)
    rw[←J,←G] at E z
    clear J G
    go_wp2_with fail
    refine Cq (z.out _) ?_
    go_wp2
    go_ret2
    exact⟨rfl,_,rfl⟩
   ·have e0:rs=0:=by omega
    subst e0
    rw[if_neg (by simp)] at s
    have z:=Hi (fun w=>ZaJ 0 q false w)
    rw[←s] at z
    clear s
    go_wp2_with fail
    refine Cq (z.out _) ?_
    go_wp2
    go_ret2
    exact⟨rfl,_,rfl⟩
def Zaz(x lo hi:Int):Bool:=decide (lo≤x)&&decide (x≤hi)
theorem ZbK(x lo hi:Int)(w:World):Calls prog 122 #[I x,I lo,I hi] w fun e w'=>e=.returned (.bool (Zaz x lo hi))∧w'=w:=by
 unfold Zaz
 go_enter func122,ntmps122
 by_cases h1:lo≤x
 ·by_cases h2:x≤hi
  ·rw[decide_eq_true h1,decide_eq_true h2]
   go_wp2
   go_ret
   exact⟨rfl,rfl⟩
  ·rw[decide_eq_true h1,decide_eq_false h2]
   go_wp2
   go_ret
   exact⟨rfl,rfl⟩
 ·rw[decide_eq_false h1]
  go_wp2
  go_ret
  exact⟨rfl,rfl⟩
theorem Zb2(x lo hi:Int)(w:World):Calls prog 167 #[I x,I lo,I hi] w fun e w'=>e=.returned (.bool (Zaz x lo hi))∧w'=w:=by
 unfold Zaz
 go_enter func167,ntmps167
 by_cases h1:lo≤x
 ·by_cases h2:x≤hi
  ·rw[decide_eq_true h1,decide_eq_true h2]
   go_wp2
   go_ret
   exact⟨rfl,rfl⟩
  ·rw[decide_eq_true h1,decide_eq_false h2]
   go_wp2
   go_ret
   exact⟨rfl,rfl⟩
 ·rw[decide_eq_false h1]
  go_wp2
  go_ret
  exact⟨rfl,rfl⟩
structure ZcB where
 rate:Int
 hair:Int
deriving DecidableEq,Inhabited
def ZcB.cs(c:ZcB):List Value:=[I c.rate,I c.hair]
def ZcB.val(c:ZcB):Value:=.agg #[I c.rate,I c.hair]
structure ZbD where
 name:ByteArray
 cur:Int
 price:Int
 vol:Int
def ZbD.cs(u:ZbD):List Value:=[.string u.name,I u.cur,I u.price,I u.vol]
def ZbD.val(u:ZbD):Value:=.agg #[.string u.name,I u.cur,I u.price,I u.vol]
structure ZaD where
 kind:Int
 under:Int
 mult:Int
 strike:Int
 expiry:Int
 call:Bool
 mark:Int
deriving DecidableEq,Inhabited
def ZaD.cs(i:ZaD):List Value:=[I i.kind,I i.under,I i.mult,I i.strike,I i.expiry,.bool i.call,I i.mark]
def ZaD.val(i:ZaD):Value:=.agg #[I i.kind,I i.under,I i.mult,I i.strike,I i.expiry,.bool i.call,I i.mark]
def ZlF(c:ZcB)(n:Int):Bool:=if n=0∧c.rate≠1000000 then false else Zaz c.rate 1 1000000000000&&Zaz c.hair 0 10000
theorem ZhM(c:ZcB)(n:Int)(w:World):Calls prog 65 #[c.val,I n] w fun e w'=>e=.returned (.bool (ZlF c n))∧Bw w w':=by
 obtain⟨r,hr⟩:=ExY (ZlF c n)
 rw[←hr]
 have HR:=Hi hr
 clear hr
 unfold ZcB.val
 obtain⟨W,hW⟩:=ExY (w.alloc (.cells #[I c.rate,I c.hair] 57))
 have HB:Hid (Bk W w.heap.size 57 #[I c.rate,I c.hair]):=by rw[hW];exact Bk.new _ _ _
 have z:=blB hW
 have G:=HB.two
 obtain⟨bx,J⟩:=ExY w.heap.size
 go_enter func65,ntmps65
 go_upto_region 1 with(fail)
 rw[←hW]
 clear hW
 by_cases h0:n=0∧c.rate≠1000000
 ·have e0:r=false:=by rw[HR.out];exact if_pos h0
  subst e0
  obtain⟨rfl,h1⟩:=h0
  have b1:(c.rate != 1000000)=true:=by simpa using h1
  go_wp2
  go_ret
  exact⟨rfl,z⟩
 have E:r=(Zaz c.rate 1 1000000000000&&Zaz c.hair 0 10000):=by rw[HR.out];exact if_neg h0
 obtain⟨p,hp⟩:=ExY (Zaz c.rate 1 1000000000000)
 obtain⟨q,hq⟩:=ExY (Zaz c.hair 0 10000)
 have HP:=Hi (fun w=>ZbK c.rate 1 1000000000000 w)
 have HQ:=Hi (fun w=>ZbK c.hair 0 10000 w)
 rw[←hp,←hq] at E
 rw[←hp] at HP
 rw[←hq] at HQ
 have C:=Hi E
 clear E hp hq
 have s:n=0→c.rate=1000000:=fun h=>Classical.byContradiction fun h2=>h0 ⟨h,h2⟩
 clear h0
 by_cases hn:n=0
 ·have h1:=s hn
  subst hn
  have b1:(c.rate != 1000000)=false:=by simpa using h1
  clear s h1
  go_wp2_with fail
  refine Cq (HP.out _) ?_
  cases p with
  |false=>
   have e0:r=false:=by rw[C.out];rfl
   subst e0
   go_wp2
   go_ret
   exact⟨rfl,z⟩
  |true=>
   have e0:r=q:=by rw[C.out];rfl
   subst e0
   go_wp2_with fail
   refine Cq (HQ.out _) ?_
   go_wp2
   go_ret
   exact⟨rfl,z⟩
 ·have b1:(n==0)=false:=by simpa using hn
  clear s
  go_wp2_with fail
  refine Cq (HP.out _) ?_
  cases p with
  |false=>
   have e0:r=false:=by rw[C.out];rfl
   subst e0
   go_wp2
   go_ret
   exact⟨rfl,z⟩
  |true=>
   have e0:r=q:=by rw[C.out];rfl
   subst e0
   go_wp2_with fail
   refine Cq (HQ.out _) ?_
   go_wp2
   go_ret
   exact⟨rfl,z⟩
def abc:ByteArray:=⟨#[65,66,67,68,69,70,71,72,73,74,75,76,77,78,79,80,81,82,83,84,85,86,87,88,89,90]⟩
def ZgI(s:ByteArray):ByteArray:={data:=(Lib.trimS s.data.toList abc.data.toList).toArray}
def Zhe(s:ByteArray):Bool := !s.toList.isEmpty&&(decide (s.size≤8)&&(ZgI s).toList.isEmpty)
theorem Zjt:∀(j:Nat) (b:UInt8),abc.data.toList[j]?=some b→b.toNat<128:=by
 have h:∀b∈abc.data.toList,b.toNat<128:=by decide +kernel
 intro j b hb
 exact h b (List.mem_of_getElem? hb)
theorem Zgz(s:ByteArray)(w:World):Calls prog 73 #[.string s] w fun e w'=>e=.returned (.bool (Zhe s))∧Bw w w':=by
 obtain⟨r,hr⟩:=ExY (Zhe s)
 rw[←hr]
 unfold Zhe at hr
 obtain⟨b1,z⟩:∃b,s.toList.isEmpty=b:=⟨_,rfl⟩
 rw[z] at hr
 have HR:=Hi hr
 clear hr
 go_enter func73,ntmps73
 cases b1 with
 |true=>
  have E:s.toList=[]:=List.isEmpty_iff.1 z
  have e0:r=false:=by rw[HR.out];rfl
  subst e0
  go_wp2
  go_ret
  exact⟨rfl,Below.refl _ _⟩
 |false=>
 have E:¬s.toList=[]:=fun h=>by rw[h] at z;cases z
 by_cases h8:s.size≤8
 rotate_left
 ·have e0:r=false:=by rw[HR.out,decide_eq_false h8];rfl
  subst e0
  have i8:¬((s.size:Int)≤8):=by omega
  go_wp2
  go_ret
  exact⟨rfl,Below.refl _ _⟩
 have i8:(s.size:Int)≤8:=by omega
 have HT:=Hi (Zlz s abc w (by omega) (by decide) Zjt)
 have G:r=(ZgI s).toList.isEmpty:=by rw[HR.out,decide_eq_true h8];rfl
 rw[show({data:=(Lib.trimS s.data.toList abc.data.toList).toArray}:ByteArray)=ZgI s from rfl] at HT
 have C:=Hi G
 clear G
 obtain⟨tr,J⟩:=ExY (ZgI s)
 rw[←J] at HT C
 unfold abc at HT
 clear J
 go_wp2_with fail
 refine HT.mono ?_
 rintro e w' ⟨rfl,hb⟩
 go_wp2
 go_ret
 exact⟨by rw[C.out];rfl,hb⟩
theorem Bk.seven{w:World}{g:Nat}{t:TypeId}{a b c d e f h:Value}(k:Bk w g t #[a,b,c,d,e,f,h]):w.cell? (Aq g 0)=some a∧w.cell? (Aq g 1)=some b∧w.cell? (Aq g 2)=some c∧w.cell? (Aq g 3)=some d∧w.cell? (Aq g 4)=some e∧w.cell? (Aq g 5)=some f∧w.cell? (Aq g 6)=some h ∧
 w.frozen? (Aq g 0)=false∧w.frozen? (Aq g 1)=false∧w.frozen? (Aq g 2)=false∧w.frozen? (Aq g 3)=false∧w.frozen? (Aq g 4)=false∧w.frozen? (Aq g 5)=false∧w.frozen? (Aq g 6)=false∧g<w.heap.size:=
 ⟨k.cell 0,k.cell 1,k.cell 2,k.cell 3,k.cell 4,k.cell 5,k.cell 6,k.frozen 0,k.frozen 1,k.frozen 2,k.frozen 3,k.frozen 4,k.frozen 5,k.frozen 6,k.lt⟩
def Ziy(u:ZbD)(n:Int):Bool:=Zhe u.name&&(Zaz u.cur 0 (n-1)&&(Zaz u.price 1 1000000000000&&Zaz u.vol 0 50000))
def Zgr(i:ZaD)(n:Int):Bool:=
 Zaz i.under 0 (n-1)&&(Zaz i.mult 1 1000000&&(Zaz i.mark 0 100000000000000 &&
  if i.kind=1 then i.strike==0&&(i.expiry==0 && !i.call)
  else if i.kind=2 then i.strike==0&&(Zaz i.expiry 1 100000 && !i.call)
  else if i.kind=3 then Zaz i.strike 1 1000000000000&&Zaz i.expiry 1 100000 else false))
theorem ZgJ(u:ZbD)(n:Nat)(Y:n≤maxLen)(w:World):Calls prog 63 #[u.val,I n] w fun e w'=>e=.returned (.bool (Ziy u n))∧Bw w w':=by
 obtain⟨r,hr⟩:=ExY (Ziy u n)
 rw[←hr]
 unfold Ziy at hr
 have HN:=Hi (fun w=>Zgz u.name w)
 have L:=Hi (fun w=>ZbK u.cur 0 ((n:Int)-1) w)
 have N:=Hi (fun w=>ZbK u.price 1 1000000000000 w)
 have R:=Hi (fun w=>ZbK u.vol 0 50000 w)
 obtain⟨b1,E⟩:=ExY (Zhe u.name)
 obtain⟨b2,s⟩:=ExY (Zaz u.cur 0 ((n:Int)-1))
 obtain⟨b3,G⟩:=ExY (Zaz u.price 1 1000000000000)
 obtain⟨b4,J⟩:=ExY (Zaz u.vol 0 50000)
 rw[←E,←s,←G,←J] at hr
 rw[←E] at HN
 rw[←s] at L
 rw[←G] at N
 rw[←J] at R
 clear E s G J
 have HR:=Hi hr
 clear hr
 have wn:wrap64 ((n:Int)-1)=(n:Int)-1:=by unfold wrap64;unfold maxLen at Y;omega
 unfold ZbD.val
 obtain⟨W,hW⟩:=ExY (w.alloc (.cells #[.string u.name,I u.cur,I u.price,I u.vol] 63))
 have HB:Hid (Bk W w.heap.size 63 #[.string u.name,I u.cur,I u.price,I u.vol]):=by rw[hW];exact Bk.new _ _ _
 have X:=blB hW
 go_enter func63,ntmps63
 go_upto_region 1 with(fail)
 rw[←hW]
 clear hW
 have C:=HB.four
 go_wp2_with fail
 refine(HN.out W).mono ?_
 rintro e W2 ⟨rfl,s⟩
 have U:=bkN HB s
 have z:=blT X s
 clear C s
 have C:=U.four
 cases b1 with
 |false=>
  have e0:r=false:=by rw[HR.out];rfl
  subst e0
  go_wp2
  go_ret
  exact⟨rfl,z⟩
 |true=>
 go_wp2_with fail
 refine Cq (L.out _) ?_
 cases b2 with
 |false=>
  have e0:r=false:=by rw[HR.out];rfl
  subst e0
  go_wp2
  go_ret
  exact⟨rfl,z⟩
 |true=>
 go_wp2_with fail
 refine Cq (N.out _) ?_
 cases b3 with
 |false=>
  have e0:r=false:=by rw[HR.out];rfl
  subst e0
  go_wp2
  go_ret
  exact⟨rfl,z⟩
 |true=>
 go_wp2_with fail
 refine Cq (R.out _) ?_
 have e0:r=b4:=by rw[HR.out];rfl
 subst e0
 go_wp2
 go_ret
 exact⟨rfl,z⟩
theorem ZhU(i:ZaD)(n:Nat)(hn:n≤maxLen)(w:World):Calls prog 76 #[i.val,I n] w fun e w'=>e=.returned (.bool (Zgr i n))∧Bw w w':=by
 obtain⟨r,hr⟩:=ExY (Zgr i n)
 rw[←hr]
 unfold Zgr at hr
 have G:=Hi (fun w=>ZbK i.under 0 ((n:Int)-1) w)
 have J:=Hi (fun w=>ZbK i.mult 1 1000000 w)
 have L:=Hi (fun w=>ZbK i.mark 0 100000000000000 w)
 have C:=Hi (fun w=>ZbK i.expiry 1 100000 w)
 have N:=Hi (fun w=>ZbK i.strike 1 1000000000000 w)
 obtain⟨b1,R⟩:=ExY (Zaz i.under 0 ((n:Int)-1))
 obtain⟨b2,U⟩:=ExY (Zaz i.mult 1 1000000)
 obtain⟨b3,X⟩:=ExY (Zaz i.mark 0 100000000000000)
 obtain⟨b4,Y⟩:=ExY (Zaz i.expiry 1 100000)
 obtain⟨b5,Z⟩:=ExY (Zaz i.strike 1 1000000000000)
 rw[←R,←U,←X,←Y,←Z] at hr
 rw[←R] at G
 rw[←U] at J
 rw[←X] at L
 rw[←Y] at C
 rw[←Z] at N
 clear R U X Y Z
 have HR:=Hi hr
 clear hr
 have wn:wrap64 ((n:Int)-1)=(n:Int)-1:=by unfold wrap64;unfold maxLen at hn;omega
 obtain⟨s,under,mult,strike,expiry,E,mark⟩:=i
 unfold ZaD.val
 dsimp only at HR G J L C N ⊢
 obtain⟨W,hW⟩:=ExY (w.alloc (.cells #[I s,I under,I mult,I strike,I expiry,.bool E,I mark] 66))
 have HB:Hid (Bk W w.heap.size 66 #[I s,I under,I mult,I strike,I expiry,.bool E,I mark]):=by rw[hW];exact Bk.new _ _ _
 have z:=blB hW
 go_enter func76,ntmps76
 go_upto_region 1 with(fail)
 rw[←hW]
 clear hW
 have aa:=HB.seven
 go_wp2_with fail
 refine Cq (G.out _) ?_
 cases b1 with
 |false=>
  have e0:r=false:=by rw[HR.out];rfl
  subst e0
  go_wp2
  go_ret
  exact⟨rfl,z⟩
 |true=>
 go_wp2_with fail
 refine Cq (J.out _) ?_
 cases b2 with
 |false=>
  have e0:r=false:=by rw[HR.out];rfl
  subst e0
  go_wp2
  go_ret
  exact⟨rfl,z⟩
 |true=>
 go_wp2_with fail
 refine Cq (L.out _) ?_
 cases b3 with
 |false=>
  have e0:r=false:=by rw[HR.out];rfl
  subst e0
  go_wp2
  go_ret
  exact⟨rfl,z⟩
 |true=>
 by_cases k1:s=1
 ·subst k1
  by_cases s0:strike=0
  ·subst s0
   by_cases e0:expiry=0
   ·subst e0
    have e0:r = !E:=by rw[HR.out];rfl
    subst e0
    go_wp2
    go_ret
    exact⟨rfl,z⟩
   ·have be:(expiry==0)=false:=by simpa using e0
    have e1:r=false:=by rw[HR.out];simp[be]
    subst e1
    go_wp2
    go_ret
    exact⟨rfl,z⟩
  ·have be:(strike==0)=false:=by simpa using s0
   have e1:r=false:=by rw[HR.out];simp[be]
   subst e1
   go_wp2
   go_ret
   exact⟨rfl,z⟩
 have ab:(s==1)=false:=by simpa using k1
 by_cases k2:s=2
 ·subst k2
  by_cases s0:strike=0
  ·subst s0
   go_wp2_with fail
   refine Cq (C.out _) ?_
   cases b4 with
   |false=>
    have e1:r=false:=by rw[HR.out];rfl
    subst e1
    go_wp2
    go_ret
    exact⟨rfl,z⟩
   |true=>
    have e1:r = !E:=by rw[HR.out];rfl
    subst e1
    go_wp2
    go_ret
    exact⟨rfl,z⟩
  ·have be:(strike==0)=false:=by simpa using s0
   have e1:r=false:=by rw[HR.out];simp[be]
   subst e1
   go_wp2
   go_ret
   exact⟨rfl,z⟩
 have ac:(s==2)=false:=by simpa using k2
 by_cases k3:s=3
 ·subst k3
  go_wp2_with fail
  refine Cq (N.out _) ?_
  cases b5 with
  |false=>
   have e1:r=false:=by rw[HR.out];rfl
   subst e1
   go_wp2
   go_ret
   exact⟨rfl,z⟩
  |true=>
   go_wp2_with fail
   refine Cq (C.out _) ?_
   have e1:r=b4:=by rw[HR.out];rfl
   subst e1
   go_wp2
   go_ret
   exact⟨rfl,z⟩
 have ad:(s==3)=false:=by simpa using k3
 have e1:r=false:=by rw[HR.out];simp[k1,k2,k3]
 subst e1
 go_wp2
 go_ret
 exact⟨rfl,z⟩
theorem Below.drewN'{B:Nat}{a w:World}(h:Below B a w)(n:Nat):Below B a (w.drewN n):=⟨h.os,h.tape,h.output,h.size,h.block⟩
theorem Zck(a b c s:Int)(w:World):Calls prog 88 #[I a,I b,I c,I s] w fun e w'=>
 e=.returned (.tuple #[I (Za3 a b c s).1,I (Za3 a b c s).2])∧Bw w w':=by
 refine(Zdk a b c s w).mono ?_
 rintro e w' ⟨he,m,hw⟩
 exact⟨he,by rw[hw];exact Below.drewN' (Below.refl _ _) m⟩
noncomputable def Zfh(c:ZcB)(amount mode:Int):Int×Int:=if ZlF c 1=true then Za3 amount c.rate 1000000 mode else(0,30)
noncomputable def Zf8(c:ZcB)(amount:Int):Int×Int:=
 if(Zfh c amount 0).2=0 then Za3 (Zfh c amount 0).1 (if(Zfh c amount 0).1<0 then wrap64 (10000+c.hair) else wrap64 (10000-c.hair)) 10000 0 else(0,(Zfh c amount 0).2)
theorem Zij(c:ZcB)(s mode:Int)(w:World):Calls prog 190 #[c.val,I s,I mode] w fun e w'=>e=.returned (.tuple #[I (Zfh c s mode).1,I (Zfh c s mode).2])∧Bw w w':=by
 obtain⟨r,hr⟩:=ExY (Zfh c s mode)
 rw[←hr]
 unfold Zfh at hr
 have HM:=Hi (fun w=>Zck s c.rate 1000000 mode w)
 have HC:=Hi (fun w=>ZhM c 1 w)
 obtain⟨b,hb⟩:=ExY (ZlF c 1)
 rw[←hb] at hr HC
 have HR:=Hi hr
 clear hr hb
 unfold ZcB.val at HC ⊢
 obtain⟨W1,C⟩:=ExY (w.alloc (.cells #[I c.rate,I c.hair] 57))
 obtain⟨bc,L⟩:=ExY w.heap.size
 have N:=blB C
 have G:=bkW C L
 go_enter func190,ntmps190
 go_upto_region 1 with(fail)
 rw[←C,←L]
 clear C L
 have z:=G.two
 go_wp2_with fail
 refine(HC.out W1).mono ?_
 rintro e W2 ⟨rfl,hb⟩
 have E:=blT N hb
 have J:=bkN G hb
 clear z
 clear hb
 have z:=J.two
 cases b with
 |false=>
  have e0:r=(0,30):=by rw[HR.out];rfl
  subst e0
  go_wp2
  go_ret2
  exact⟨rfl,E⟩
 |true=>
 have e0:r=Za3 s c.rate 1000000 mode:=by rw[HR.out];exact if_pos rfl
 rw[←e0] at HM
 clear e0
 go_wp2_with fail
 refine(HM.out W2).mono ?_
 rintro e W3 ⟨rfl,hb⟩
 have R:=blT E hb
 have U:=bkN J hb
 clear z
 clear hb
 have z:=U.two
 go_wp2
 go_ret2
 exact⟨rfl,R⟩
theorem ZkA(c:ZcB)(s:Int)(w:World):Calls prog 189 #[c.val,I s] w fun e w'=>e=.returned (.tuple #[I (Zf8 c s).1,I (Zf8 c s).2])∧Bw w w':=by
 obtain⟨r,hr⟩:=ExY (Zf8 c s)
 rw[←hr]
 unfold Zf8 at hr
 have HC:=Hi (fun w=>Zij c s 0 w)
 obtain⟨⟨x,ex⟩,hb⟩:∃b,b=Zfh c s 0:=⟨_,rfl⟩
 rw[←hb] at hr HC
 dsimp only at hr HC
 have HM:=Hi (fun f w=>Zck x f 10000 0 w)
 have HR:=Hi hr
 clear hr hb
 unfold ZcB.val at HC ⊢
 obtain⟨W1,R⟩:=ExY (w.alloc (.cells #[I c.rate,I c.hair] 57))
 obtain⟨bc,X⟩:=ExY w.heap.size
 have Z:=blB R
 have U:=bkW R X
 go_enter func189,ntmps189
 go_upto_region 1 with(fail)
 rw[←R,←X]
 clear R X
 have z:=U.two
 go_wp2_with fail
 refine(HC.out W1).mono ?_
 rintro e W2 ⟨rfl,hb⟩
 have E:=blT Z hb
 have L:=bkN U hb
 clear z
 clear hb
 have z:=L.two
 by_cases Y:ex=0
 rotate_left
 ·have e0:r=(0,ex):=by rw[HR.out,if_neg Y]
  subst e0
  have aa:(ex != 0)=true:=by simpa using Y
  go_wp2
  go_ret2
  exact⟨rfl,E⟩
 subst Y
 have C:=HR.out
 rw[if_pos rfl] at C
 by_cases hx:x<0
 ·rw[if_pos hx] at C
  have J:=Hi (HM.out (wrap64 (10000+c.hair)))
  rw[←C] at J
  clear C
  go_wp2_with fail
  refine(J.out W2).mono ?_
  rintro e W3 ⟨rfl,hb⟩
  have G:=blT E hb
  have N:=bkN L hb
  clear z
  clear hb
  have z:=N.two
  go_wp2
  go_ret2
  exact⟨rfl,G⟩
 ·rw[if_neg hx] at C
  have J:=Hi (HM.out (wrap64 (10000-c.hair)))
  rw[←C] at J
  clear C
  go_wp2_with fail
  refine(J.out W2).mono ?_
  rintro e W3 ⟨rfl,hb⟩
  have G:=blT E hb
  have N:=bkN L hb
  clear z
  clear hb
  have z:=N.two
  go_wp2
  go_ret2
  exact⟨rfl,G⟩
end Go.Proofs.YtdefojlkofnloaaGreatDoor
