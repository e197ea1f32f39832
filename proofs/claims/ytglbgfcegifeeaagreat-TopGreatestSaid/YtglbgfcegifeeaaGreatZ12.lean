/- What is known of the three accounts' books. No condition. -/
import Derived.Test.YtglbgfcegifeeaaGreatZ11
import Derived.Laws.Externs
import Derived.Laws.BytesArg
import Derived.WalkKit
import Derived.ProofKit
import Derived.OpenShut
import Derived.ShutString
set_option linter.unusedVariables false
set_option linter.unusedSimpArgs false
set_option linter.unusedSectionVars false
namespace Go.Proofs.YtglbgfcegifeeaaGreat.Fz
open Go Go.Proofs Go.RowKit Vm
def fM (h:aj) (j:Nat) :Int:=cond (decide ((j:Int) < (h.length:Int))) (iu (fe (h[j]?.getD [])) 63) 0
def Oa (h:aj) (n:Nat) :aj:=(List.range n).map fun j=>[.int .i64 (fM h j),.int .i64 0,.int .i64 0]
def n1:aj:=[[.int .i64 (-1)],[.int .i64 (-1)],[.int .i64 (-1)]]
def n0:aj:=[[.int .i64 0],[.int .i64 0],[.int .i64 0]]
def aaq (v:AV) :List (Nat×Option Ob):=[(4,some (.aC 31 4 [[.af,.af,.af,.af]])),(5,some (.mix 31 4 [[v,.ah 11 1 0 3,.ah 12 1 0 3,.ah 16 1 0 3]])),(8,some (.aC 2 1 n1)),(9,some (.aC 2 1 n1)),(10,some (.aC 2 1 n1)),(11,some (.mix 29 1 [[.ah 8 1 0 3],[.ah 9 1 0 3],[.ah 10 1 0 3]])),(12,some (.aC 2 1 n1)),(13,some (.aC 2 1 n0)),(14,some (.aC 2 1 n0)),(15,some (.aC 2 1 n0)),(16,some (.mix 29 1 [[.ah 13 1 0 3],[.ah 14 1 0 3],[.ah 15 1 0 3]]))]
def Fg (h:aj) (w:Int) (v:AV) (i:Int) (o1 o2:Option Ob) :St:=St.of [(0,.d (.ag false 1 h)),(1,.d (.int .i64 w)),(4,.ptr 4 4 0 0),(5,.ptr 5 4 0 0),(6,.d (.int .i64 i))] ((37,o1)::(50037,o2)::aaq v)
def Qb (w:Int) (v:AV) (o1 o2:Option Ob) :St:=St.of [(1,.d (.int .i64 w)),(4,.ptr 4 4 0 0),(5,.ptr 5 4 0 0)] ((37,o1)::(50037,o2)::aaq v)
def afT:bK:=fun st=>match st.env 0,st.env 1 with
 | .d (.ag _ _ h),.d (.int _ w)=> .one (.ex 0) (Qb w (.ah 37 3 0 3) (some (.aC 96 3 (Oa h 3))) none)
 | _,_=> .no
def lD (k:Nat) :Option bK:=if k=150 then some afT else none
theorem aar (L n:Nat) (h:aj) (w:Int) (k:aX) :LB tab aV lD L (n+4) h150 tJ (Fg h w (.d .af) 0 none none) k=
  (bif decide ((0:Int) < (↑h.length:Int)) then
 aA h[(0:Nat)]? fun (e1:aw)=>
 bif aq Cd.aB e1 then
 k Ex.bC
 (St.of
 [(0,AV.d (DV.ag false 1 h)),(1,AV.d (DV.int .i64 w)),
 ((4:Nat),AV.ptr 4 4 0 0),(5,AV.ptr 5 4 0 0),
 ((6:Nat),AV.d (DV.int .i64 (IntKind.i64.wrap (1:Int))))]
 [((37:Nat),
 some
 (Ob.aC 96 3
 [[DV.int .i64
 (IntKind.i64.wrap (↑(BitVec.ofInt IntKind.i64.bits (aa e1 0).ak &&& BitVec.ofInt IntKind.i64.bits (63:Int)).toNat:Int)),DV.int .i64 0,DV.int .i64 0]])),
 ((50037:Nat),none),(4,some (Ob.aC 31 4 [[DV.af,DV.af,DV.af,DV.af]])),
 ((5:Nat),
 some
 (Ob.mix (31:TypeId) (4:Nat)
 [[AV.ah 37 3 0 (1:Nat),AV.ah 11 1 0 (3:Nat),
 AV.ah 12 1 0 (3:Nat),AV.ah 16 1 0 (3:Nat)]])),
 ((8:Nat),
 some (Ob.aC 2 1 [[DV.int .i64 (-1:Int)],[DV.int .i64 (-1:Int)],[DV.int .i64 (-1:Int)]])),
 ((9:Nat),
 some (Ob.aC 2 1 [[DV.int .i64 (-1:Int)],[DV.int .i64 (-1:Int)],[DV.int .i64 (-1:Int)]])),
 ((10:Nat),
 some (Ob.aC 2 1 [[DV.int .i64 (-1:Int)],[DV.int .i64 (-1:Int)],[DV.int .i64 (-1:Int)]])),
 ((11:Nat),
 some
 (Ob.mix (29:TypeId) (1:Nat)
 [[AV.ah 8 1 0 (3:Nat)],[AV.ah 9 1 0 (3:Nat)],
 [AV.ah 10 1 0 (3:Nat)]])),
 ((12:Nat),
 some (Ob.aC 2 1 [[DV.int .i64 (-1:Int)],[DV.int .i64 (-1:Int)],[DV.int .i64 (-1:Int)]])),
 ((13:Nat),some (Ob.aC 2 1 [[DV.int .i64 0],[DV.int .i64 0],[DV.int .i64 0]])),
 ((14:Nat),some (Ob.aC 2 1 [[DV.int .i64 0],[DV.int .i64 0],[DV.int .i64 0]])),
 ((15:Nat),some (Ob.aC 2 1 [[DV.int .i64 0],[DV.int .i64 0],[DV.int .i64 0]])),
 ((16:Nat),
 some
 (Ob.mix (29:TypeId) (1:Nat)
 [[AV.ah 13 1 0 (3:Nat)],[AV.ah 14 1 0 (3:Nat)],
 [AV.ah 15 1 0 (3:Nat)]]))])
 else none
 else
 k Ex.bC
 (St.of
 [(0,AV.d (DV.ag false 1 h)),(1,AV.d (DV.int .i64 w)),(4,AV.ptr 4 4 0 0),
 ((5:Nat),AV.ptr 5 4 0 0),(6,AV.d (DV.int .i64 (IntKind.i64.wrap (1:Int))))]
 [(37,some (Ob.aC 96 3 [[DV.int .i64 0,DV.int .i64 0,DV.int .i64 0]])),
 ((50037:Nat),none),(4,some (Ob.aC 31 4 [[DV.af,DV.af,DV.af,DV.af]])),
 ((5:Nat),
 some
 (Ob.mix (31:TypeId) (4:Nat)
 [[AV.ah 37 3 0 (1:Nat),AV.ah 11 1 0 (3:Nat),
 AV.ah 12 1 0 (3:Nat),AV.ah 16 1 0 (3:Nat)]])),
 ((8:Nat),some (Ob.aC 2 1 [[DV.int .i64 (-1:Int)],[DV.int .i64 (-1:Int)],[DV.int .i64 (-1:Int)]])),
 ((9:Nat),some (Ob.aC 2 1 [[DV.int .i64 (-1:Int)],[DV.int .i64 (-1:Int)],[DV.int .i64 (-1:Int)]])),
 ((10:Nat),some (Ob.aC 2 1 [[DV.int .i64 (-1:Int)],[DV.int .i64 (-1:Int)],[DV.int .i64 (-1:Int)]])),
 ((11:Nat),
 some
 (Ob.mix (29:TypeId) (1:Nat)
 [[AV.ah 8 1 0 (3:Nat)],[AV.ah 9 1 0 (3:Nat)],
 [AV.ah 10 1 0 (3:Nat)]])),
 ((12:Nat),some (Ob.aC 2 1 [[DV.int .i64 (-1:Int)],[DV.int .i64 (-1:Int)],[DV.int .i64 (-1:Int)]])),
 ((13:Nat),some (Ob.aC 2 1 [[DV.int .i64 0],[DV.int .i64 0],[DV.int .i64 0]])),
 ((14:Nat),some (Ob.aC 2 1 [[DV.int .i64 0],[DV.int .i64 0],[DV.int .i64 0]])),
 ((15:Nat),some (Ob.aC 2 1 [[DV.int .i64 0],[DV.int .i64 0],[DV.int .i64 0]])),
 ((16:Nat),
 some
 (Ob.mix (29:TypeId) (1:Nat)
 [[AV.ah 13 1 0 (3:Nat)],[AV.ah 14 1 0 (3:Nat)],
 [AV.ah 15 1 0 (3:Nat)]]))])):=by kernel_rfl
theorem aas (L n:Nat) (h:aj) (w a0:Int) (k:aX) :LB tab aV lD L (n+4) h150 tJ (Fg h w (.ah 37 3 0 1) 1 (some (.aC 96 3 [[.int .i64 a0,.int .i64 0,.int .i64 0]])) none) k=
  (bif decide ((1:Int) < (↑h.length:Int)) then
 aA h[(1:Nat)]? fun (e1:aw)=>
 bif aq Cd.aB e1 then
 k Ex.bC
 (St.of
 [(0,AV.d (DV.ag false 1 h)),(1,AV.d (DV.int .i64 w)),
 ((4:Nat),AV.ptr 4 4 0 0),(5,AV.ptr 5 4 0 0),
 ((6:Nat),AV.d (DV.int .i64 (IntKind.i64.wrap (2:Int))))]
 [(37,none),
 ((50037:Nat),
 some
 (Ob.aC 96 3
 [[DV.int .i64 a0,DV.int .i64 0,DV.int .i64 0],
 [DV.int .i64
 (IntKind.i64.wrap (↑(BitVec.ofInt IntKind.i64.bits (aa e1 0).ak &&& BitVec.ofInt IntKind.i64.bits (63:Int)).toNat:Int)),DV.int .i64 0,DV.int .i64 0]])),
 ((4:Nat),some (Ob.aC 31 4 [[DV.af,DV.af,DV.af,DV.af]])),
 ((5:Nat),
 some
 (Ob.mix (31:TypeId) (4:Nat)
 [[AV.ah (alt (37:Nat) (37:Nat)) (3:Nat) (0:Nat) (2:Nat),AV.ah 11 1 0 (3:Nat),
 AV.ah 12 1 0 (3:Nat),AV.ah 16 1 0 (3:Nat)]])),
 ((8:Nat),
 some (Ob.aC 2 1 [[DV.int .i64 (-1:Int)],[DV.int .i64 (-1:Int)],[DV.int .i64 (-1:Int)]])),
 ((9:Nat),
 some (Ob.aC 2 1 [[DV.int .i64 (-1:Int)],[DV.int .i64 (-1:Int)],[DV.int .i64 (-1:Int)]])),
 ((10:Nat),
 some (Ob.aC 2 1 [[DV.int .i64 (-1:Int)],[DV.int .i64 (-1:Int)],[DV.int .i64 (-1:Int)]])),
 ((11:Nat),
 some
 (Ob.mix (29:TypeId) (1:Nat)
 [[AV.ah 8 1 0 (3:Nat)],[AV.ah 9 1 0 (3:Nat)],
 [AV.ah 10 1 0 (3:Nat)]])),
 ((12:Nat),
 some (Ob.aC 2 1 [[DV.int .i64 (-1:Int)],[DV.int .i64 (-1:Int)],[DV.int .i64 (-1:Int)]])),
 ((13:Nat),some (Ob.aC 2 1 [[DV.int .i64 0],[DV.int .i64 0],[DV.int .i64 0]])),
 ((14:Nat),some (Ob.aC 2 1 [[DV.int .i64 0],[DV.int .i64 0],[DV.int .i64 0]])),
 ((15:Nat),some (Ob.aC 2 1 [[DV.int .i64 0],[DV.int .i64 0],[DV.int .i64 0]])),
 ((16:Nat),
 some
 (Ob.mix (29:TypeId) (1:Nat)
 [[AV.ah 13 1 0 (3:Nat)],[AV.ah 14 1 0 (3:Nat)],
 [AV.ah 15 1 0 (3:Nat)]]))])
 else none
 else
 k Ex.bC
 (St.of
 [(0,AV.d (DV.ag false 1 h)),(1,AV.d (DV.int .i64 w)),(4,AV.ptr 4 4 0 0),
 ((5:Nat),AV.ptr 5 4 0 0),(6,AV.d (DV.int .i64 (IntKind.i64.wrap (2:Int))))]
 [(37,none),
 ((50037:Nat),
 some
 (Ob.aC 96 3
 [[DV.int .i64 a0,DV.int .i64 0,DV.int .i64 0],
 [DV.int .i64 0,DV.int .i64 0,DV.int .i64 0]])),
 ((4:Nat),some (Ob.aC 31 4 [[DV.af,DV.af,DV.af,DV.af]])),
 ((5:Nat),
 some
 (Ob.mix (31:TypeId) (4:Nat)
 [[AV.ah (alt (37:Nat) (37:Nat)) (3:Nat) (0:Nat) (2:Nat),AV.ah 11 1 0 (3:Nat),
 AV.ah 12 1 0 (3:Nat),AV.ah 16 1 0 (3:Nat)]])),
 ((8:Nat),some (Ob.aC 2 1 [[DV.int .i64 (-1:Int)],[DV.int .i64 (-1:Int)],[DV.int .i64 (-1:Int)]])),
 ((9:Nat),some (Ob.aC 2 1 [[DV.int .i64 (-1:Int)],[DV.int .i64 (-1:Int)],[DV.int .i64 (-1:Int)]])),
 ((10:Nat),some (Ob.aC 2 1 [[DV.int .i64 (-1:Int)],[DV.int .i64 (-1:Int)],[DV.int .i64 (-1:Int)]])),
 ((11:Nat),
 some
 (Ob.mix (29:TypeId) (1:Nat)
 [[AV.ah 8 1 0 (3:Nat)],[AV.ah 9 1 0 (3:Nat)],
 [AV.ah 10 1 0 (3:Nat)]])),
 ((12:Nat),some (Ob.aC 2 1 [[DV.int .i64 (-1:Int)],[DV.int .i64 (-1:Int)],[DV.int .i64 (-1:Int)]])),
 ((13:Nat),some (Ob.aC 2 1 [[DV.int .i64 0],[DV.int .i64 0],[DV.int .i64 0]])),
 ((14:Nat),some (Ob.aC 2 1 [[DV.int .i64 0],[DV.int .i64 0],[DV.int .i64 0]])),
 ((15:Nat),some (Ob.aC 2 1 [[DV.int .i64 0],[DV.int .i64 0],[DV.int .i64 0]])),
 ((16:Nat),
 some
 (Ob.mix (29:TypeId) (1:Nat)
 [[AV.ah 13 1 0 (3:Nat)],[AV.ah 14 1 0 (3:Nat)],
 [AV.ah 15 1 0 (3:Nat)]]))])):=by kernel_rfl
theorem aat (L n:Nat) (h:aj) (w a0 a1:Int) (k:aX) :LB tab aV lD L (n+4) h150 tJ (Fg h w (.ah 50037 3 0 2) 2 none (some (.aC 96 3 [[.int .i64 a0,.int .i64 0,.int .i64 0],[.int .i64 a1,.int .i64 0,.int .i64 0]]))) k=
  (bif decide ((2:Int) < (↑h.length:Int)) then
 aA h[(2:Nat)]? fun (e1:aw)=>
 bif aq Cd.aB e1 then
 k Ex.bC
 (St.of
 [(0,AV.d (DV.ag false 1 h)),(1,AV.d (DV.int .i64 w)),
 ((4:Nat),AV.ptr 4 4 0 0),(5,AV.ptr 5 4 0 0),
 ((6:Nat),AV.d (DV.int .i64 (IntKind.i64.wrap (3:Int))))]
 [((37:Nat),
 some
 (Ob.aC 96 3
 [[DV.int .i64 a0,DV.int .i64 0,DV.int .i64 0],
 [DV.int .i64 a1,DV.int .i64 0,DV.int .i64 0],
 [DV.int .i64
 (IntKind.i64.wrap (↑(BitVec.ofInt IntKind.i64.bits (aa e1 0).ak &&& BitVec.ofInt IntKind.i64.bits (63:Int)).toNat:Int)),DV.int .i64 0,DV.int .i64 0]])),
 ((50037:Nat),none),(4,some (Ob.aC 31 4 [[DV.af,DV.af,DV.af,DV.af]])),
 ((5:Nat),
 some
 (Ob.mix (31:TypeId) (4:Nat)
 [[AV.ah (alt (50037:Nat) (37:Nat)) (3:Nat) (0:Nat) (3:Nat),AV.ah 11 1 0 (3:Nat),
 AV.ah 12 1 0 (3:Nat),AV.ah 16 1 0 (3:Nat)]])),
 ((8:Nat),
 some (Ob.aC 2 1 [[DV.int .i64 (-1:Int)],[DV.int .i64 (-1:Int)],[DV.int .i64 (-1:Int)]])),
 ((9:Nat),
 some (Ob.aC 2 1 [[DV.int .i64 (-1:Int)],[DV.int .i64 (-1:Int)],[DV.int .i64 (-1:Int)]])),
 ((10:Nat),
 some (Ob.aC 2 1 [[DV.int .i64 (-1:Int)],[DV.int .i64 (-1:Int)],[DV.int .i64 (-1:Int)]])),
 ((11:Nat),
 some
 (Ob.mix (29:TypeId) (1:Nat)
 [[AV.ah 8 1 0 (3:Nat)],[AV.ah 9 1 0 (3:Nat)],
 [AV.ah 10 1 0 (3:Nat)]])),
 ((12:Nat),
 some (Ob.aC 2 1 [[DV.int .i64 (-1:Int)],[DV.int .i64 (-1:Int)],[DV.int .i64 (-1:Int)]])),
 ((13:Nat),some (Ob.aC 2 1 [[DV.int .i64 0],[DV.int .i64 0],[DV.int .i64 0]])),
 ((14:Nat),some (Ob.aC 2 1 [[DV.int .i64 0],[DV.int .i64 0],[DV.int .i64 0]])),
 ((15:Nat),some (Ob.aC 2 1 [[DV.int .i64 0],[DV.int .i64 0],[DV.int .i64 0]])),
 ((16:Nat),
 some
 (Ob.mix (29:TypeId) (1:Nat)
 [[AV.ah 13 1 0 (3:Nat)],[AV.ah 14 1 0 (3:Nat)],
 [AV.ah 15 1 0 (3:Nat)]]))])
 else none
 else
 k Ex.bC
 (St.of
 [(0,AV.d (DV.ag false 1 h)),(1,AV.d (DV.int .i64 w)),(4,AV.ptr 4 4 0 0),
 ((5:Nat),AV.ptr 5 4 0 0),(6,AV.d (DV.int .i64 (IntKind.i64.wrap (3:Int))))]
 [((37:Nat),
 some
 (Ob.aC 96 3
 [[DV.int .i64 a0,DV.int .i64 0,DV.int .i64 0],
 [DV.int .i64 a1,DV.int .i64 0,DV.int .i64 0],
 [DV.int .i64 0,DV.int .i64 0,DV.int .i64 0]])),
 ((50037:Nat),none),(4,some (Ob.aC 31 4 [[DV.af,DV.af,DV.af,DV.af]])),
 ((5:Nat),
 some
 (Ob.mix (31:TypeId) (4:Nat)
 [[AV.ah (alt (50037:Nat) (37:Nat)) (3:Nat) (0:Nat) (3:Nat),AV.ah 11 1 0 (3:Nat),
 AV.ah 12 1 0 (3:Nat),AV.ah 16 1 0 (3:Nat)]])),
 ((8:Nat),some (Ob.aC 2 1 [[DV.int .i64 (-1:Int)],[DV.int .i64 (-1:Int)],[DV.int .i64 (-1:Int)]])),
 ((9:Nat),some (Ob.aC 2 1 [[DV.int .i64 (-1:Int)],[DV.int .i64 (-1:Int)],[DV.int .i64 (-1:Int)]])),
 ((10:Nat),some (Ob.aC 2 1 [[DV.int .i64 (-1:Int)],[DV.int .i64 (-1:Int)],[DV.int .i64 (-1:Int)]])),
 ((11:Nat),
 some
 (Ob.mix (29:TypeId) (1:Nat)
 [[AV.ah 8 1 0 (3:Nat)],[AV.ah 9 1 0 (3:Nat)],
 [AV.ah 10 1 0 (3:Nat)]])),
 ((12:Nat),some (Ob.aC 2 1 [[DV.int .i64 (-1:Int)],[DV.int .i64 (-1:Int)],[DV.int .i64 (-1:Int)]])),
 ((13:Nat),some (Ob.aC 2 1 [[DV.int .i64 0],[DV.int .i64 0],[DV.int .i64 0]])),
 ((14:Nat),some (Ob.aC 2 1 [[DV.int .i64 0],[DV.int .i64 0],[DV.int .i64 0]])),
 ((15:Nat),some (Ob.aC 2 1 [[DV.int .i64 0],[DV.int .i64 0],[DV.int .i64 0]])),
 ((16:Nat),
 some
 (Ob.mix (29:TypeId) (1:Nat)
 [[AV.ah 13 1 0 (3:Nat)],[AV.ah 14 1 0 (3:Nat)],
 [AV.ah 15 1 0 (3:Nat)]]))])):=by kernel_rfl
theorem aau (L n:Nat) (h:aj) (w a0 a1 a2:Int) (k:aX) :LB tab aV lD L (n+4) h150 tJ (Fg h w (.ah 37 3 0 3) 3 (some (.aC 96 3 [[.int .i64 a0,.int .i64 0,.int .i64 0],[.int .i64 a1,.int .i64 0,.int .i64 0],[.int .i64 a2,.int .i64 0,.int .i64 0]])) none) k=
  (k (Ex.ex (0:Nat))
 (St.of
 [(1,AV.d (DV.int .i64 w)),(4,AV.ptr 4 4 0 0),
 ((5:Nat),AV.ptr 5 4 0 0)]
 [((37:Nat),
 some
 (Ob.aC 96 3
 [[DV.int .i64 a0,DV.int .i64 0,DV.int .i64 0],
 [DV.int .i64 a1,DV.int .i64 0,DV.int .i64 0],
 [DV.int .i64 a2,DV.int .i64 0,DV.int .i64 0]])),
 ((50037:Nat),none),(4,some (Ob.aC 31 4 [[DV.af,DV.af,DV.af,DV.af]])),
 ((5:Nat),
 some
 (Ob.mix (31:TypeId) (4:Nat)
 [[AV.ah 37 3 0 (3:Nat),AV.ah 11 1 0 (3:Nat),
 AV.ah 12 1 0 (3:Nat),AV.ah 16 1 0 (3:Nat)]])),
 ((8:Nat),some (Ob.aC 2 1 [[DV.int .i64 (-1:Int)],[DV.int .i64 (-1:Int)],[DV.int .i64 (-1:Int)]])),
 ((9:Nat),some (Ob.aC 2 1 [[DV.int .i64 (-1:Int)],[DV.int .i64 (-1:Int)],[DV.int .i64 (-1:Int)]])),
 ((10:Nat),some (Ob.aC 2 1 [[DV.int .i64 (-1:Int)],[DV.int .i64 (-1:Int)],[DV.int .i64 (-1:Int)]])),
 ((11:Nat),
 some
 (Ob.mix (29:TypeId) (1:Nat)
 [[AV.ah 8 1 0 (3:Nat)],[AV.ah 9 1 0 (3:Nat)],
 [AV.ah 10 1 0 (3:Nat)]])),
 ((12:Nat),some (Ob.aC 2 1 [[DV.int .i64 (-1:Int)],[DV.int .i64 (-1:Int)],[DV.int .i64 (-1:Int)]])),
 ((13:Nat),some (Ob.aC 2 1 [[DV.int .i64 0],[DV.int .i64 0],[DV.int .i64 0]])),
 ((14:Nat),some (Ob.aC 2 1 [[DV.int .i64 0],[DV.int .i64 0],[DV.int .i64 0]])),
 ((15:Nat),some (Ob.aC 2 1 [[DV.int .i64 0],[DV.int .i64 0],[DV.int .i64 0]])),
 ((16:Nat),
 some
 (Ob.mix (29:TypeId) (1:Nat)
 [[AV.ah 13 1 0 (3:Nat)],[AV.ah 14 1 0 (3:Nat)],
 [AV.ah 15 1 0 (3:Nat)]]))])):=by kernel_rfl
theorem t19 (n:Nat) (h:aj) (w:Int) :FK tab aV lD 20 (n+8) 15 [.ag false 1 h,.int .i64 w]=
  (aP
 (aG (LB tab aV lD (20:Nat) (n+ (8:Nat)) h150 tJ)
 (St.of
 [(0,AV.d (DV.ag false 1 h)),(1,AV.d (DV.int .i64 w)),(4,AV.ptr 4 4 0 0),
 ((5:Nat),AV.ptr 5 4 0 0),(6,AV.d (DV.int .i64 0))]
 [(37,none),(50037,none),(4,some (Ob.aC 31 4 [[DV.af,DV.af,DV.af,DV.af]])),
 ((5:Nat),
 some
 (Ob.mix (31:TypeId) (4:Nat)
 [[AV.d DV.af,AV.ah 11 1 0 (3:Nat),AV.ah 12 1 0 (3:Nat),
 AV.ah 16 1 0 (3:Nat)]])),
 ((8:Nat),some (Ob.aC 2 1 [[DV.int .i64 (-1:Int)],[DV.int .i64 (-1:Int)],[DV.int .i64 (-1:Int)]])),
 ((9:Nat),some (Ob.aC 2 1 [[DV.int .i64 (-1:Int)],[DV.int .i64 (-1:Int)],[DV.int .i64 (-1:Int)]])),
 ((10:Nat),some (Ob.aC 2 1 [[DV.int .i64 (-1:Int)],[DV.int .i64 (-1:Int)],[DV.int .i64 (-1:Int)]])),
 ((11:Nat),
 some
 (Ob.mix (29:TypeId) (1:Nat)
 [[AV.ah 8 1 0 (3:Nat)],[AV.ah 9 1 0 (3:Nat)],
 [AV.ah 10 1 0 (3:Nat)]])),
 ((12:Nat),some (Ob.aC 2 1 [[DV.int .i64 (-1:Int)],[DV.int .i64 (-1:Int)],[DV.int .i64 (-1:Int)]])),
 ((13:Nat),some (Ob.aC 2 1 [[DV.int .i64 0],[DV.int .i64 0],[DV.int .i64 0]])),
 ((14:Nat),some (Ob.aC 2 1 [[DV.int .i64 0],[DV.int .i64 0],[DV.int .i64 0]])),
 ((15:Nat),some (Ob.aC 2 1 [[DV.int .i64 0],[DV.int .i64 0],[DV.int .i64 0]])),
 ((16:Nat),
 some
 (Ob.mix (29:TypeId) (1:Nat)
 [[AV.ah 13 1 0 (3:Nat)],[AV.ah 14 1 0 (3:Nat)],
 [AV.ah 15 1 0 (3:Nat)]]))])
 (Ex.ex (0:Nat),
 St.of
 [(1,AV.d (DV.int .i64 w)),(4,AV.ptr 4 4 0 0),
 ((5:Nat),AV.ptr 5 4 0 0)]
 [((37:Nat),
 some
 (Ob.aC 96 3
 [[DV.int .i64 (fM h (0:Nat)),DV.int .i64 0,DV.int .i64 0],
 [DV.int .i64 (fM h (1:Nat)),DV.int .i64 0,DV.int .i64 0],
 [DV.int .i64 (fM h (2:Nat)),DV.int .i64 0,DV.int .i64 0]])),
 ((50037:Nat),none),(4,some (Ob.aC 31 4 [[DV.af,DV.af,DV.af,DV.af]])),
 ((5:Nat),
 some
 (Ob.mix (31:TypeId) (4:Nat)
 [[AV.ah 37 3 0 (3:Nat),AV.ah 11 1 0 (3:Nat),
 AV.ah 12 1 0 (3:Nat),AV.ah 16 1 0 (3:Nat)]])),
 ((8:Nat),some (Ob.aC 2 1 [[DV.int .i64 (-1:Int)],[DV.int .i64 (-1:Int)],[DV.int .i64 (-1:Int)]])),
 ((9:Nat),some (Ob.aC 2 1 [[DV.int .i64 (-1:Int)],[DV.int .i64 (-1:Int)],[DV.int .i64 (-1:Int)]])),
 ((10:Nat),
 some (Ob.aC 2 1 [[DV.int .i64 (-1:Int)],[DV.int .i64 (-1:Int)],[DV.int .i64 (-1:Int)]])),
 ((11:Nat),
 some
 (Ob.mix (29:TypeId) (1:Nat)
 [[AV.ah 8 1 0 (3:Nat)],[AV.ah 9 1 0 (3:Nat)],
 [AV.ah 10 1 0 (3:Nat)]])),
 ((12:Nat),
 some (Ob.aC 2 1 [[DV.int .i64 (-1:Int)],[DV.int .i64 (-1:Int)],[DV.int .i64 (-1:Int)]])),
 ((13:Nat),some (Ob.aC 2 1 [[DV.int .i64 0],[DV.int .i64 0],[DV.int .i64 0]])),
 ((14:Nat),some (Ob.aC 2 1 [[DV.int .i64 0],[DV.int .i64 0],[DV.int .i64 0]])),
 ((15:Nat),some (Ob.aC 2 1 [[DV.int .i64 0],[DV.int .i64 0],[DV.int .i64 0]])),
 ((16:Nat),
 some
 (Ob.mix (29:TypeId) (1:Nat)
 [[AV.ah 13 1 0 (3:Nat)],[AV.ah 14 1 0 (3:Nat)],
 [AV.ah 15 1 0 (3:Nat)]]))]))
 (bif IntKind.i64.wrap (↑(BitVec.ofInt IntKind.i64.bits w &&& BitVec.ofInt IntKind.i64.bits (1:Int)).toNat:Int)==(1:Int) then
 bif IntKind.i64.wrap (↑(BitVec.ofInt IntKind.i64.bits w &&& BitVec.ofInt IntKind.i64.bits (2:Int)).toNat:Int)==(2:Int) then
 bif IntKind.i64.wrap (↑(BitVec.ofInt IntKind.i64.bits w &&& BitVec.ofInt IntKind.i64.bits (4:Int)).toNat:Int)==(4:Int) then
 some
 (DV.agg
 [DV.sl (SK.own (96:TypeId)) (3:Nat)
 [[DV.int .i64 (fM h (0:Nat)),DV.int .i64 7,DV.int .i64 0],
 [DV.int .i64 (fM h (1:Nat)),DV.int .i64 0,DV.int .i64 5],
 [DV.int .i64 (fM h (2:Nat)),DV.int .i64 3,DV.int .i64 9]],
 DV.sl (SK.cT (29:TypeId)) (1:Nat)
 [[DV.sl (SK.own (2:TypeId)) (1:Nat) [[DV.int .i64 (-1:Int)],[DV.int .i64 6],[DV.int .i64 (-1:Int)]]],
 [DV.sl (SK.own (2:TypeId)) (1:Nat) [[DV.int .i64 (-1:Int)],[DV.int .i64 (-1:Int)],[DV.int .i64 0]]],
 [DV.sl (SK.own (2:TypeId)) (1:Nat) [[DV.int .i64 (-1:Int)],[DV.int .i64 (-1:Int)],[DV.int .i64 (-1:Int)]]]],
 DV.sl (SK.own (2:TypeId)) (1:Nat) [[DV.int .i64 8],[DV.int .i64 (-1:Int)],[DV.int .i64 4]],
 DV.sl (SK.cT (29:TypeId)) (1:Nat)
 [[DV.sl (SK.own (2:TypeId)) (1:Nat) [[DV.int .i64 0],[DV.int .i64 3],[DV.int .i64 0]]],
 [DV.sl (SK.own (2:TypeId)) (1:Nat) [[DV.int .i64 (-3:Int)],[DV.int .i64 0],[DV.int .i64 0]]],
 [DV.sl (SK.own (2:TypeId)) (1:Nat) [[DV.int .i64 0],[DV.int .i64 0],[DV.int .i64 0]]]]])
 else
 some
 (DV.agg
 [DV.sl (SK.own (96:TypeId)) (3:Nat)
 [[DV.int .i64 (fM h (0:Nat)),DV.int .i64 7,DV.int .i64 0],
 [DV.int .i64 (fM h (1:Nat)),DV.int .i64 0,DV.int .i64 5],
 [DV.int .i64 (fM h (2:Nat)),DV.int .i64 3,DV.int .i64 0]],
 DV.sl (SK.cT (29:TypeId)) (1:Nat)
 [[DV.sl (SK.own (2:TypeId)) (1:Nat) [[DV.int .i64 (-1:Int)],[DV.int .i64 6],[DV.int .i64 (-1:Int)]]],
 [DV.sl (SK.own (2:TypeId)) (1:Nat) [[DV.int .i64 (-1:Int)],[DV.int .i64 (-1:Int)],[DV.int .i64 0]]],
 [DV.sl (SK.own (2:TypeId)) (1:Nat) [[DV.int .i64 (-1:Int)],[DV.int .i64 (-1:Int)],[DV.int .i64 (-1:Int)]]]],
 DV.sl (SK.own (2:TypeId)) (1:Nat) [[DV.int .i64 (-1:Int)],[DV.int .i64 (-1:Int)],[DV.int .i64 4]],
 DV.sl (SK.cT (29:TypeId)) (1:Nat)
 [[DV.sl (SK.own (2:TypeId)) (1:Nat) [[DV.int .i64 0],[DV.int .i64 0],[DV.int .i64 0]]],
 [DV.sl (SK.own (2:TypeId)) (1:Nat) [[DV.int .i64 0],[DV.int .i64 0],[DV.int .i64 0]]],
 [DV.sl (SK.own (2:TypeId)) (1:Nat) [[DV.int .i64 0],[DV.int .i64 0],[DV.int .i64 0]]]]])
 else
 bif IntKind.i64.wrap (↑(BitVec.ofInt IntKind.i64.bits w &&& BitVec.ofInt IntKind.i64.bits (4:Int)).toNat:Int)==(4:Int) then
 some
 (DV.agg
 [DV.sl (SK.own (96:TypeId)) (3:Nat)
 [[DV.int .i64 (fM h (0:Nat)),DV.int .i64 7,DV.int .i64 0],
 [DV.int .i64 (fM h (1:Nat)),DV.int .i64 0,DV.int .i64 5],
 [DV.int .i64 (fM h (2:Nat)),DV.int .i64 3,DV.int .i64 9]],
 DV.sl (SK.cT (29:TypeId)) (1:Nat)
 [[DV.sl (SK.own (2:TypeId)) (1:Nat) [[DV.int .i64 (-1:Int)],[DV.int .i64 (-1:Int)],[DV.int .i64 (-1:Int)]]],
 [DV.sl (SK.own (2:TypeId)) (1:Nat) [[DV.int .i64 (-1:Int)],[DV.int .i64 (-1:Int)],[DV.int .i64 (-1:Int)]]],
 [DV.sl (SK.own (2:TypeId)) (1:Nat) [[DV.int .i64 (-1:Int)],[DV.int .i64 (-1:Int)],[DV.int .i64 (-1:Int)]]]],
 DV.sl (SK.own (2:TypeId)) (1:Nat) [[DV.int .i64 8],[DV.int .i64 (-1:Int)],[DV.int .i64 (-1:Int)]],
 DV.sl (SK.cT (29:TypeId)) (1:Nat)
 [[DV.sl (SK.own (2:TypeId)) (1:Nat) [[DV.int .i64 0],[DV.int .i64 3],[DV.int .i64 0]]],
 [DV.sl (SK.own (2:TypeId)) (1:Nat) [[DV.int .i64 (-3:Int)],[DV.int .i64 0],[DV.int .i64 0]]],
 [DV.sl (SK.own (2:TypeId)) (1:Nat) [[DV.int .i64 0],[DV.int .i64 0],[DV.int .i64 0]]]]])
 else
 some
 (DV.agg
 [DV.sl (SK.own (96:TypeId)) (3:Nat)
 [[DV.int .i64 (fM h (0:Nat)),DV.int .i64 7,DV.int .i64 0],
 [DV.int .i64 (fM h (1:Nat)),DV.int .i64 0,DV.int .i64 5],
 [DV.int .i64 (fM h (2:Nat)),DV.int .i64 3,DV.int .i64 0]],
 DV.sl (SK.cT (29:TypeId)) (1:Nat)
 [[DV.sl (SK.own (2:TypeId)) (1:Nat) [[DV.int .i64 (-1:Int)],[DV.int .i64 (-1:Int)],[DV.int .i64 (-1:Int)]]],
 [DV.sl (SK.own (2:TypeId)) (1:Nat) [[DV.int .i64 (-1:Int)],[DV.int .i64 (-1:Int)],[DV.int .i64 (-1:Int)]]],
 [DV.sl (SK.own (2:TypeId)) (1:Nat) [[DV.int .i64 (-1:Int)],[DV.int .i64 (-1:Int)],[DV.int .i64 (-1:Int)]]]],
 DV.sl (SK.own (2:TypeId)) (1:Nat) [[DV.int .i64 (-1:Int)],[DV.int .i64 (-1:Int)],[DV.int .i64 (-1:Int)]],
 DV.sl (SK.cT (29:TypeId)) (1:Nat)
 [[DV.sl (SK.own (2:TypeId)) (1:Nat) [[DV.int .i64 0],[DV.int .i64 0],[DV.int .i64 0]]],
 [DV.sl (SK.own (2:TypeId)) (1:Nat) [[DV.int .i64 0],[DV.int .i64 0],[DV.int .i64 0]]],
 [DV.sl (SK.own (2:TypeId)) (1:Nat) [[DV.int .i64 0],[DV.int .i64 0],[DV.int .i64 0]]]]])
 else
 bif IntKind.i64.wrap (↑(BitVec.ofInt IntKind.i64.bits w &&& BitVec.ofInt IntKind.i64.bits (2:Int)).toNat:Int)==(2:Int) then
 bif IntKind.i64.wrap (↑(BitVec.ofInt IntKind.i64.bits w &&& BitVec.ofInt IntKind.i64.bits (4:Int)).toNat:Int)==(4:Int) then
 some
 (DV.agg
 [DV.sl (SK.own (96:TypeId)) (3:Nat)
 [[DV.int .i64 (fM h (0:Nat)),DV.int .i64 0,DV.int .i64 0],
 [DV.int .i64 (fM h (1:Nat)),DV.int .i64 0,DV.int .i64 0],
 [DV.int .i64 (fM h (2:Nat)),DV.int .i64 0,DV.int .i64 9]],
 DV.sl (SK.cT (29:TypeId)) (1:Nat)
 [[DV.sl (SK.own (2:TypeId)) (1:Nat) [[DV.int .i64 (-1:Int)],[DV.int .i64 6],[DV.int .i64 (-1:Int)]]],
 [DV.sl (SK.own (2:TypeId)) (1:Nat) [[DV.int .i64 (-1:Int)],[DV.int .i64 (-1:Int)],[DV.int .i64 0]]],
 [DV.sl (SK.own (2:TypeId)) (1:Nat) [[DV.int .i64 (-1:Int)],[DV.int .i64 (-1:Int)],[DV.int .i64 (-1:Int)]]]],
 DV.sl (SK.own (2:TypeId)) (1:Nat) [[DV.int .i64 8],[DV.int .i64 (-1:Int)],[DV.int .i64 4]],
 DV.sl (SK.cT (29:TypeId)) (1:Nat)
 [[DV.sl (SK.own (2:TypeId)) (1:Nat) [[DV.int .i64 0],[DV.int .i64 3],[DV.int .i64 0]]],
 [DV.sl (SK.own (2:TypeId)) (1:Nat) [[DV.int .i64 (-3:Int)],[DV.int .i64 0],[DV.int .i64 0]]],
 [DV.sl (SK.own (2:TypeId)) (1:Nat) [[DV.int .i64 0],[DV.int .i64 0],[DV.int .i64 0]]]]])
 else
 some
 (DV.agg
 [DV.sl (SK.own (96:TypeId)) (3:Nat)
 [[DV.int .i64 (fM h (0:Nat)),DV.int .i64 0,DV.int .i64 0],
 [DV.int .i64 (fM h (1:Nat)),DV.int .i64 0,DV.int .i64 0],
 [DV.int .i64 (fM h (2:Nat)),DV.int .i64 0,DV.int .i64 0]],
 DV.sl (SK.cT (29:TypeId)) (1:Nat)
 [[DV.sl (SK.own (2:TypeId)) (1:Nat) [[DV.int .i64 (-1:Int)],[DV.int .i64 6],[DV.int .i64 (-1:Int)]]],
 [DV.sl (SK.own (2:TypeId)) (1:Nat) [[DV.int .i64 (-1:Int)],[DV.int .i64 (-1:Int)],[DV.int .i64 0]]],
 [DV.sl (SK.own (2:TypeId)) (1:Nat) [[DV.int .i64 (-1:Int)],[DV.int .i64 (-1:Int)],[DV.int .i64 (-1:Int)]]]],
 DV.sl (SK.own (2:TypeId)) (1:Nat) [[DV.int .i64 (-1:Int)],[DV.int .i64 (-1:Int)],[DV.int .i64 4]],
 DV.sl (SK.cT (29:TypeId)) (1:Nat)
 [[DV.sl (SK.own (2:TypeId)) (1:Nat) [[DV.int .i64 0],[DV.int .i64 0],[DV.int .i64 0]]],
 [DV.sl (SK.own (2:TypeId)) (1:Nat) [[DV.int .i64 0],[DV.int .i64 0],[DV.int .i64 0]]],
 [DV.sl (SK.own (2:TypeId)) (1:Nat) [[DV.int .i64 0],[DV.int .i64 0],[DV.int .i64 0]]]]])
 else
 bif IntKind.i64.wrap (↑(BitVec.ofInt IntKind.i64.bits w &&& BitVec.ofInt IntKind.i64.bits (4:Int)).toNat:Int)==(4:Int) then
 some
 (DV.agg
 [DV.sl (SK.own (96:TypeId)) (3:Nat)
 [[DV.int .i64 (fM h (0:Nat)),DV.int .i64 0,DV.int .i64 0],
 [DV.int .i64 (fM h (1:Nat)),DV.int .i64 0,DV.int .i64 0],
 [DV.int .i64 (fM h (2:Nat)),DV.int .i64 0,DV.int .i64 9]],
 DV.sl (SK.cT (29:TypeId)) (1:Nat)
 [[DV.sl (SK.own (2:TypeId)) (1:Nat) [[DV.int .i64 (-1:Int)],[DV.int .i64 (-1:Int)],[DV.int .i64 (-1:Int)]]],
 [DV.sl (SK.own (2:TypeId)) (1:Nat) [[DV.int .i64 (-1:Int)],[DV.int .i64 (-1:Int)],[DV.int .i64 (-1:Int)]]],
 [DV.sl (SK.own (2:TypeId)) (1:Nat) [[DV.int .i64 (-1:Int)],[DV.int .i64 (-1:Int)],[DV.int .i64 (-1:Int)]]]],
 DV.sl (SK.own (2:TypeId)) (1:Nat) [[DV.int .i64 8],[DV.int .i64 (-1:Int)],[DV.int .i64 (-1:Int)]],
 DV.sl (SK.cT (29:TypeId)) (1:Nat)
 [[DV.sl (SK.own (2:TypeId)) (1:Nat) [[DV.int .i64 0],[DV.int .i64 3],[DV.int .i64 0]]],
 [DV.sl (SK.own (2:TypeId)) (1:Nat) [[DV.int .i64 (-3:Int)],[DV.int .i64 0],[DV.int .i64 0]]],
 [DV.sl (SK.own (2:TypeId)) (1:Nat) [[DV.int .i64 0],[DV.int .i64 0],[DV.int .i64 0]]]]])
 else
 some
 (DV.agg
 [DV.sl (SK.own (96:TypeId)) (3:Nat)
 [[DV.int .i64 (fM h (0:Nat)),DV.int .i64 0,DV.int .i64 0],
 [DV.int .i64 (fM h (1:Nat)),DV.int .i64 0,DV.int .i64 0],
 [DV.int .i64 (fM h (2:Nat)),DV.int .i64 0,DV.int .i64 0]],
 DV.sl (SK.cT (29:TypeId)) (1:Nat)
 [[DV.sl (SK.own (2:TypeId)) (1:Nat) [[DV.int .i64 (-1:Int)],[DV.int .i64 (-1:Int)],[DV.int .i64 (-1:Int)]]],
 [DV.sl (SK.own (2:TypeId)) (1:Nat) [[DV.int .i64 (-1:Int)],[DV.int .i64 (-1:Int)],[DV.int .i64 (-1:Int)]]],
 [DV.sl (SK.own (2:TypeId)) (1:Nat) [[DV.int .i64 (-1:Int)],[DV.int .i64 (-1:Int)],[DV.int .i64 (-1:Int)]]]],
 DV.sl (SK.own (2:TypeId)) (1:Nat) [[DV.int .i64 (-1:Int)],[DV.int .i64 (-1:Int)],[DV.int .i64 (-1:Int)]],
 DV.sl (SK.cT (29:TypeId)) (1:Nat)
 [[DV.sl (SK.own (2:TypeId)) (1:Nat) [[DV.int .i64 0],[DV.int .i64 0],[DV.int .i64 0]]],
 [DV.sl (SK.own (2:TypeId)) (1:Nat) [[DV.int .i64 0],[DV.int .i64 0],[DV.int .i64 0]]],
 [DV.sl (SK.own (2:TypeId)) (1:Nat) [[DV.int .i64 0],[DV.int .i64 0],[DV.int .i64 0]]]]]))):=by kernel_rfl
def i1 (n:Int) :aw:=[.int .i64 n]
def Fh (a b c:Int) :aw:=[.ag false 1 [i1 a,i1 b,i1 c]]
def ac3 (a b c:Int) :aw:=[.int .i64 a,.int .i64 b,.int .i64 c]
def bit (w:Int) (m:Int) :Bool:=iu w m==m
def bA (h:aj) (w:Int) :aj:=[ac3 (fM h 0) (cond (bit w 1) 7 0) 0,ac3 (fM h 1) 0 (cond (bit w 1) 5 0),ac3 (fM h 2) (cond (bit w 1) 3 0) (cond (bit w 4) 9 0)]
def bB (w:Int) :aj:=[Fh (-1) (cond (bit w 2) 6 (-1)) (-1),Fh (-1) (-1) (cond (bit w 2) 0 (-1)),Fh (-1) (-1) (-1)]
def bM (w:Int) :aj:=[i1 (cond (bit w 4) 8 (-1)),i1 (-1),i1 (cond (bit w 2) 4 (-1))]
def bQ (w:Int) :aj:=[Fh 0 (cond (bit w 4) 3 0) 0,Fh (cond (bit w 4) (-3) 0) 0 0,Fh 0 0 0]
def Im:aR where
 D ds:= ∃x w,ds=[x,.int .i64 w]∧Sl 1 x∧ ∀e∈ar x,aq z1 e=true
 val ds:=match ds with | [x,.int _ w]=>some (.agg (bk (bA (ar x) w) (bB w) (bM w) (bQ w))) | _=>none
theorem DK {h:aj} {j:Nat} (hj:j < h.length) :fM h j=iu (fe h[j]) 63:=by
 unfold fM
 rw [decide_eq_true (by omega),cond_true,iH hj]
theorem DL {h:aj} {j:Nat} (hj: ¬ j < h.length) :fM h j=0:=by
 unfold fM
 rw [decide_eq_false (by omega)]
 rfl
theorem La (L n:Nat) {h:aj} (hz: ∀e∈h,aq z1 e=true) (w:Int) :
  aG (LB tab aV lD L (n+4) h150 tJ) (Fg h w (.d .af) 0 none none) (.ex 0,Qb w (.ah 37 3 0 3) (some (.aC 96 3 (Oa h 3))) none):=by
 refine eF (fun i:Nat=>Fg h w (il 37 50037 3 (Oa h i)) (i:Nat) (eP 96 3 (Oa h i)) (eR 96 3 (Oa h i))) (fun _=>(.ex 0,Qb w (.ah 37 3 0 3) (some (.aC 96 3 (Oa h 3))) none)) 3 (fun i hi=> .inl ⟨fun k=> ?_,rfl⟩) ⟨by simp,fun k=>aau L n h w (fM h 0) (fM h 1) (fM h 2) k⟩ 0 (Nat.zero_le _)
 match i,hi with
 | 0,_=>
  refine (aar L n h w k).trans ?_
  have hw:IntKind.i64.wrap 1=((0+1:Nat) :Int):=rfl
  by_cases hj:0 < h.length
  ·rw [decide_eq_true (by omega),cond_true,bf hj,hz _ (List.getElem_mem hj),cond_true,hw]
   have e:Oa h (0+1)=[[.int .i64 (iu (fe h[0]) 63),.int .i64 0,.int .i64 0]]:=by
    refine Eq.trans (b:=[[.int .i64 (fM h 0),.int .i64 0,.int .i64 0]]) rfl ?_
    rw [DK hj]
   rw [e]
   rfl
  ·rw [decide_eq_false (by omega),cond_false,hw]
   have e:Oa h (0+1)=[[.int .i64 0,.int .i64 0,.int .i64 0]]:=by
    refine Eq.trans (b:=[[.int .i64 (fM h 0),.int .i64 0,.int .i64 0]]) rfl ?_
    rw [DL hj]
   rw [e]
   rfl
 | 1,_=>
  refine (aas L n h w (fM h 0) k).trans ?_
  have hw:IntKind.i64.wrap 2=((1+1:Nat) :Int):=rfl
  by_cases hj:1 < h.length
  ·rw [decide_eq_true (by omega),cond_true,bf hj,hz _ (List.getElem_mem hj),cond_true,hw]
   have e:Oa h (1+1)=[[.int .i64 (fM h 0),.int .i64 0,.int .i64 0],[.int .i64 (iu (fe h[1]) 63),.int .i64 0,.int .i64 0]]:=by
    refine Eq.trans (b:=[[.int .i64 (fM h 0),.int .i64 0,.int .i64 0],[.int .i64 (fM h 1),.int .i64 0,.int .i64 0]]) rfl ?_
    rw [DK hj]
   rw [e]
   rfl
  ·rw [decide_eq_false (by omega),cond_false,hw]
   have e:Oa h (1+1)=[[.int .i64 (fM h 0),.int .i64 0,.int .i64 0],[.int .i64 0,.int .i64 0,.int .i64 0]]:=by
    refine Eq.trans (b:=[[.int .i64 (fM h 0),.int .i64 0,.int .i64 0],[.int .i64 (fM h 1),.int .i64 0,.int .i64 0]]) rfl ?_
    rw [DL hj]
   rw [e]
   rfl
 | 2,_=>
  refine (aat L n h w (fM h 0) (fM h 1) k).trans ?_
  have hw:IntKind.i64.wrap 3=((2+1:Nat) :Int):=rfl
  by_cases hj:2 < h.length
  ·rw [decide_eq_true (by omega),cond_true,bf hj,hz _ (List.getElem_mem hj),cond_true,hw]
   have e:Oa h (2+1)=[[.int .i64 (fM h 0),.int .i64 0,.int .i64 0],[.int .i64 (fM h 1),.int .i64 0,.int .i64 0],[.int .i64 (iu (fe h[2]) 63),.int .i64 0,.int .i64 0]]:=by
    refine Eq.trans (b:=[[.int .i64 (fM h 0),.int .i64 0,.int .i64 0],[.int .i64 (fM h 1),.int .i64 0,.int .i64 0],[.int .i64 (fM h 2),.int .i64 0,.int .i64 0]]) rfl ?_
    rw [DK hj]
   rw [e]
   rfl
  ·rw [decide_eq_false (by omega),cond_false,hw]
   have e:Oa h (2+1)=[[.int .i64 (fM h 0),.int .i64 0,.int .i64 0],[.int .i64 (fM h 1),.int .i64 0,.int .i64 0],[.int .i64 0,.int .i64 0,.int .i64 0]]:=by
    refine Eq.trans (b:=[[.int .i64 (fM h 0),.int .i64 0,.int .i64 0],[.int .i64 (fM h 1),.int .i64 0,.int .i64 0],[.int .i64 (fM h 2),.int .i64 0,.int .i64 0]]) rfl ?_
    rw [DL hj]
   rw [e]
   rfl
theorem Io {f:FuncId} {ds:aw} {A M:aj} {b0 b1 b2 q0 q1 q2:aj}
  (h:bI Tryz.prog f ds (.agg [.sl (.own 96) 3 A,.sl (.cT 29) 1 [[.sl (.own 2) 1 b0],[.sl (.own 2) 1 b1],[.sl (.own 2) 1 b2]],.sl (.own 2) 1 M,.sl (.cT 29) 1 [[.sl (.own 2) 1 q0],[.sl (.own 2) 1 q1],[.sl (.own 2) 1 q2]]])) :
  bI Tryz.prog f ds (.agg (bk A [[.ag false 1 b0],[.ag false 1 b1],[.ag false 1 b2]] M [[.ag false 1 q0],[.ag false 1 q1],[.ag false 1 q2]])):=
 bI.res h (fj.agg (gY.cons (fj.sl _ _ _) (gY.cons (fj.sl _ _ _) (gY.cons (fj.sl _ _ _) (gY.cons (fj.sl _ _ _) gY.nil))))) rfl
theorem Qc:Im.ok Tryz.prog 15:=fun ds r hD hv=>by
 obtain ⟨x,w,rfl,hx,hz⟩:=hD
 cases hv
 refine bI.kU hx ?_
 generalize ar x=h at *
 have ht:=(t19 0 h w).trans (au (La 20 (0+4) hz w))
 unfold bA bB bM bQ
 have e1:(IntKind.i64.wrap ((BitVec.ofInt IntKind.i64.bits w &&& BitVec.ofInt IntKind.i64.bits (1:Int)).toNat:Int)==(1:Int))=bit w 1:=rfl
 have e2:(IntKind.i64.wrap ((BitVec.ofInt IntKind.i64.bits w &&& BitVec.ofInt IntKind.i64.bits (2:Int)).toNat:Int)==(2:Int))=bit w 2:=rfl
 have e4:(IntKind.i64.wrap ((BitVec.ofInt IntKind.i64.bits w &&& BitVec.ofInt IntKind.i64.bits (4:Int)).toNat:Int)==(4:Int))=bit w 4:=rfl
 rw [e1,e2,e4] at ht
 cases h1:bit w 1<;>cases h2:bit w 2<;>cases h4:bit w 4<;>rw [h1,h2,h4] at ht<;>exact Io (aL (lsp:=lD) a7 aY 20 (0+8) ht)
theorem aav (h:aj) (j:Nat) :0≤fM h j∧fM h j≤63:=by
 by_cases hj:j < h.length
 ·rw [DK hj]
  exact Ae (fe h[j]) (m:=63) (by omega)
 ·rw [DL hj]
  omega
theorem RN.po {l R:aj} {i:Nat} (h:RN l R i) : ∀e∈R,PO 3 e:=fun e he=>by
 obtain ⟨j,_,rfl⟩:=h.src e he
 have f:=MF (l[j]?.getD [])
 have t:=aam (l[j]?.getD [])
 have a:=aan (l[j]?.getD [])
 have c:=aao (l[j]?.getD [])
 exact ⟨DI _ _,f.1,by show xW _ < 3; omega,t.1,by show Ff _ < 3; omega,t.2.2,a.1,by show Rb _≤_; omega,c.1,c.2⟩
end Go.Proofs.YtglbgfcegifeeaaGreat.Fz
namespace Go.Proofs.YtglbgfcegifeeaaGreat
open Go Go.Proofs Go.RowKit Vm
def uf (n:Int) :Bool:=decide (0≤n)&&decide (n < 18446744073709551616)
def Qd:fL:=fun ds=>match ds with
 | [.int .u64 a,.int .u64 b,.int .u64 c]=>cond (uf a&&(uf b&&decide (c=0))) (some (.tuple [.int .u64 ((a+b) % 18446744073709551616),.int .u64 ((a+b) / 18446744073709551616)])) none
 | _=>none
theorem Qe:Qd.ok Tryz.prog 221:=by
 intro ds r hv
 unfold Qd at hv
 split at hv
 ·rename_i a b c
  cases hc:(uf a&&(uf b&&decide (c=0))) with
  | false=>rw [hc] at hv; cases hv
  | true=>
   rw [hc] at hv
   simp only [cond_true,Option.some.injEq] at hv
   subst hv
   simp only [uf,Bool.and_eq_true,decide_eq_true_eq] at hc
   obtain ⟨⟨ha,QH⟩,⟨hb,rW⟩,rfl⟩:=hc
   intro w vs S0 o hl hS
   simp only [iZ,cg,aW] at hl
   obtain ⟨hl,rfl⟩:=hl
   obtain ⟨u,us,rfl,rfl,u2,Be,rfl,rfl,u3,us3,rfl,rfl,rfl⟩:=hl
   refine .inr ⟨.tuple #[.int .u64 ((a+b) % 18446744073709551616),.int .u64 ((a+b) / 18446744073709551616)],w,?_,S0,⟨bJ.refl _ _,fun _ _ h=>h,fun _ _ h=> .inl h,hS,?_⟩⟩
   ·refine (run_callFunc_extern (f:=221) (fn:=Tryz.f221) (e:=add64Entry) (by kernel_rfl) (by kernel_rfl) (by kernel_rfl) (by kernel_rfl) (by kernel_rfl) _ w).trans ?_
    have :=run_add64 (P:=Tryz.prog) a b 0 (by omega) (by omega) (by omega) (by omega) w
    rw [this]
    simp only [Result.andThen,Int.add_zero]
   ·simp only [jv]
    refine ⟨[.int .u64 ((a+b) % 18446744073709551616),.int .u64 ((a+b) / 18446744073709551616)],[],rfl,?_⟩
    simp only [cw,aW]
    exact ⟨_,_,rfl,rfl,_,_,rfl,rfl,by simp⟩
 ·cases hv
def Qg:fL:=fun ds=>match ds with
 | [.mv el sz es,.int .i64 i,.int .i64 k]=>cond (Nat.beq el 60&&(Nat.beq sz 7&&(decide (0≤i)&&(decide (i.toNat < es.length)&&decide (k=i+1))))) (some (.sl (.own 60) 7 (es.take i.toNat++es.drop (i.toNat+1)))) none
 | _=>none
theorem Qh:Qg.ok Tryz.prog 92:=by
 intro ds r hv
 unfold Qg at hv
 split at hv
 ·rename_i el sz es i k
  cases hc:(Nat.beq el 60&&(Nat.beq sz 7&&(decide (0≤i)&&(decide (i.toNat < es.length)&&decide (k=i+1))))) with
  | false=>rw [hc] at hv; cases hv
  | true=>
   rw [hc] at hv
   simp only [cond_true,Option.some.injEq] at hv
   subst hv
   simp only [Bool.and_eq_true,decide_eq_true_eq] at hc
   obtain ⟨h1,h2,h3,h4,rfl⟩:=hc
   have e1:=Nat.eq_of_beq_eq_true h1
   have e2:=Nat.eq_of_beq_eq_true h2
   subst e1 e2
   have :=Mt (es:=es) (i:=i.toNat) (k:=i+1) h4 (by omega)
   rwa [Int.toNat_of_nonneg h3] at this
 ·cases hv
theorem sf:Tryz.prog.underlying 73=some (.slice 5):=by kernel_rfl
theorem xY:Tryz.prog.underlying 5=some (.int .u8):=by kernel_rfl
theorem xZ:Tryz.prog.underlying 9=some .string:=by kernel_rfl
def Ip (e:aw) :Bool:=match e with
 | [.int .u8 n]=>decide (0≤n)&&decide (n < 256)
 | _=>false
def gI (es:aj) :List Int:=es.map fun e=>(aa e 0).ak
def Iq:List Int→List Int→Bool
 | [],[]=>true
 | a::l,b::m=>(a==b)&&Iq l m
 | _,_=>false
def ug:DV→Option aj
 | .af=>some []
 | .sl _ sz es=>cond (Nat.beq sz 1) (some es) none
 | .ag _ sz es=>cond (Nat.beq sz 1) (some es) none
 | _=>none
def eqC:fL:=fun ds=>match ds with
 | [a,b]=>(match ug a,ug b with
  | some x,some y=>cond (x.all Ip&&y.all Ip) (some (.bool (Iq (gI x) (gI y)))) none
  | _,_=>none)
 | _=>none
set_option maxHeartbeats 1000000 in
theorem B3 (v1 v2:Value) (xs ys:List Int) (w:World) (h1:(convert 73 9 v1).run Tryz.prog w= .ok (.string (strOfNums xs)) w) (h2:(convert 73 9 v2).run Tryz.prog w= .ok (.string (strOfNums ys)) w) :
  Calls Tryz.prog 171 #[v1,v2] w fun e w'=>e= .returned (.bool (Lib.bytesOf xs==Lib.bytesOf ys))∧w'=w:=by
 rw [← Lib.strOfNums_toList,← Lib.strOfNums_toList]
 go_enter Tryz.func171,Tryz.ntmps171
 go_wp2
 go_ret
 exact ⟨rfl,rfl⟩
theorem uh {e:aw} (h:Ip e=true) : ∃n,e=[.int .u8 n]∧0≤n∧n < 256:=by
 unfold Ip at h
 split at h
 ·simp only [Bool.and_eq_true,decide_eq_true_eq] at h
  exact ⟨_,rfl,h.1,h.2⟩
 ·cases h
theorem oh {n:Int} {es:aj} :gI ([.int .u8 n]::es)=n::gI es:=rfl
theorem Fi (es:aj) :(gI es).length=es.length:=by simp [gI]
theorem ui {w:World} {S:Nat→Nat→Prop} : ∀(es:aj) (b o:Nat),gO w S es 1 b o→es.all Ip=true→ ∀i,i < es.length→w.cell? ⟨b,o+i,none⟩=some (.int .u8 ((gI es).getD i 0))
 | [],b,o,_,_,i,hi=>by simp at hi
 | e::es,b,o,h,hu,i,hi=>by
  simp only [List.all_cons,Bool.and_eq_true] at hu
  obtain ⟨n,rfl,h0,h1⟩:=uh hu.1
  simp only [gO,iS,aW] at h
  obtain ⟨_,⟨⟨_,u,hc,rfl⟩,_⟩,h2⟩:=h
  rw [oh]
  cases i with
  | zero=>simpa using hc
  | succ i=>
   have :=ui es b (o+1) h2 hu.2 i (by simpa using hi)
   rw [List.getD_cons_succ,← this]
   congr 2
   omega
theorem Af {w:World} {a:Addr} {b o cap:Nat} {es:aj} {S:Nat→Nat→Prop} (ha:es.length≠0→a=⟨b,o,none⟩) (he:gO w S es 1 b o) (hu:es.all Ip=true) :
  (convert 73 9 (.slice (some a) es.length cap)).run Tryz.prog w= .ok (.string (strOfNums (gI es))) w:=by
 cases es with
 | nil=>
  rw [run_convert_bytes_string w 73 9 5 _ _ cap sf xY xZ]
  have :=run_bytesToString (P:=Tryz.prog) w a 0 cap [] (run_loadCells_list (P:=Tryz.prog) w a [] (fun j v hj=>by simp at hj))
  rw [List.length_nil,this]
  rfl
 | cons e es=>
  rw [ha (by simp)]
  exact run_convert_bytes_arg (P:=Tryz.prog) w 73 5 sf xY b o _ cap (gI (e::es)) (Fi _) (ui _ b o he hu) 9 xZ
theorem uj {w:World} {S:Nat→Nat→Prop} {a:DV} {v:Value} {x:aj} (h:ug a=some x) (hu:x.all Ip=true) (hv:aW w S a v) :
  (convert 73 9 v).run Tryz.prog w= .ok (.string (strOfNums (gI x))) w:=by
 unfold ug at h
 split at h
 ·cases h
  simp only [aW] at hv
  subst hv
  rw [run_convert_bytes_nil (P:=Tryz.prog) w 73 5 sf xY 0 0 9 xZ]
  rfl
 ·rename_i k sz es
  cases hz:Nat.beq sz 1 with
  | false=>rw [hz] at h; cases h
  | true=>
   rw [hz] at h
   cases Nat.eq_of_beq_eq_true hz
   cases h
   simp only [aW] at hv
   obtain ⟨a,b,o,cap,rfl,h1,_,_,h2⟩:=hv
   exact Af h1 h2 hu
 ·rename_i k sz es
  cases hz:Nat.beq sz 1 with
  | false=>rw [hz] at h; cases h
  | true=>
   rw [hz] at h
   cases Nat.eq_of_beq_eq_true hz
   cases h
   simp only [aW] at hv
   rcases hv with ⟨rfl,rfl⟩ | ⟨a,b,o,cap,rfl,h1,_,_,h2⟩
   ·rw [run_convert_bytes_nil (P:=Tryz.prog) w 73 5 sf xY 0 0 9 xZ]
    rfl
   ·exact Af h1 h2 hu
 ·cases h
theorem Qi {a b:Int} (ha:0≤a∧a < 256) (hb:0≤b∧b < 256) :((UInt8.ofNat a.toNat:UInt8)==UInt8.ofNat b.toNat)=(a==b):=by
 rw [Bool.eq_iff_iff]
 simp only [beq_iff_eq]
 constructor
 ·intro h
  have :=congrArg UInt8.toNat h
  simp only [UInt8.toNat_ofNat'] at this
  omega
 ·rintro rfl
  rfl
theorem uk: ∀(x y:aj),x.all Ip=true→y.all Ip=true→(Lib.bytesOf (gI x)==Lib.bytesOf (gI y))=Iq (gI x) (gI y)
 | [],[],_,_=>rfl
 | [],e::y,_,_=>rfl
 | e::x,[],_,_=>rfl
 | e::x,d::y,hx,hy=>by
  simp only [List.all_cons,Bool.and_eq_true] at hx hy
  obtain ⟨n,rfl,hn⟩:=uh hx.1
  obtain ⟨m,rfl,hm⟩:=uh hy.1
  rw [oh,oh]
  show ((UInt8.ofNat n.toNat:UInt8)::Lib.bytesOf (gI x)==UInt8.ofNat m.toNat::Lib.bytesOf (gI y))=_
  rw [List.cons_beq_cons,uk x y hx.2 hy.2,Qi hn hm]
  rfl
theorem um {a:DV} {x:aj} (h:ug a=some x) :pn [a]=true:=by
 cases a<;>first | rfl | (simp [ug] at h)
theorem Qj:eqC.ok Tryz.prog 171:=by
 intro ds r hv
 unfold eqC at hv
 split at hv
 ·rename_i a b
  split at hv
  ·rename_i x y hx hy
   cases hc:(x.all Ip&&y.all Ip) with
   | false=>rw [hc] at hv; cases hv
   | true=>
    rw [hc] at hv
    cases hv
    rw [Bool.and_eq_true] at hc
    intro w vs S0 o ha hS
    have hm:pn [a,b]=true:=by
     have h1:=um hx
     have h2:=um hy
     cases a<;>first | rfl | (simp [ug] at hx)
    obtain ⟨hl,rfl⟩:=(dy hm).1 ha
    simp only [cg] at hl
    obtain ⟨u,us,rfl,h1,u2,Be,rfl,h2,rfl⟩:=hl
    refine .inl ⟨⟨Tryz.f171,by kernel_rfl,by kernel_rfl,by kernel_rfl⟩,?_⟩
    refine (B3 u u2 (gI x) (gI y) w (uj hx hc.1 h1) (uj hy hc.2 h2)).mono ?_
    rintro e w' ⟨rfl,rfl⟩
    refine ⟨_,rfl,S0,bJ.refl _ _,fun _ _ h=>h,fun _ _ h=> .inl h,hS,?_⟩
    rw [uk x y hc.1 hc.2]
    simp only [jv,aW]
  ·cases hv
 ·cases hv
def Qk (n:Nat) :DV→Bool
 | .af=>true
 | .sl _ sz _=>Nat.beq sz n
 | .ag _ sz _=>Nat.beq sz n
 | _=>false
theorem DN {n:Nat} {x:DV} (h:Qk n x=true) :Sl n x:=by
 cases x with
 | af=>exact Sl.nil n
 | sl q sz es=>cases Nat.eq_of_beq_eq_true h; exact Sl.sl _ _ _
 | ag q sz es=>cases Nat.eq_of_beq_eq_true h; exact Sl.ag _ _ _
 | _=>cases h
def Fj (x:DV) :Bool:=Qk 7 x&&(Nat.ble (ar x).length 1000&&(ar x).all (aq z7))
theorem DO {x:DV} (h:Fj x=true) :Sl 7 x∧(ar x).length≤1000∧ ∀e∈ar x,aq z7 e=true:=by
 simp only [Fj,Bool.and_eq_true,List.all_eq_true] at h
 exact ⟨DN h.1,Nat.le_of_ble_eq_true h.2.1,h.2.2⟩
def afW (l:aj) (t:Int) :aj:=bH (l.filter (bW 86 t)).length (E2 (l.filter (bW 86 t))) (rowP (l.filter (bW 86 t)))
def Ql:fL:=fun ds=>match ds with
 | [x,.int .i64 t]=>cond (Fj x) (some (py (afW (ar x) t))) none
 | _=>none
theorem Lb:Ql.ok Tryz.prog 263:=by
 intro ds r hv
 unfold Ql at hv
 split at hv
 ·rename_i x t
  cases hc:Fj x with
  | false=>rw [hc] at hv; cases hv
  | true=>
   rw [hc] at hv
   cases hv
   obtain ⟨h1,h2,h3⟩:=DO hc
   exact bI.kU h1 (afj h3 h2 t)
 ·cases hv
def Qm (l M:aj) :aj:=bH l.length (rz M l) (rowP l)
def Qn (x:DV) :Bool:=Qk 1 x&&(Nat.ble (ar x).length 1000&&(!(ar x).isEmpty&&(ar x).all fun e=>aq z1 e&&(decide (-9223372036854775808≤fe e)&&decide (fe e≤9223372036854775807))))
def hdC:fL:=fun ds=>match ds with
 | [x,y]=>cond (Fj x&&Qn y) (some (py (Qm (ar x) (ar y)))) none
 | _=>none
theorem Ir:hdC.ok Tryz.prog 42:=by
 intro ds r hv
 unfold hdC at hv
 split at hv
 ·rename_i x y
  cases hc:Fj x&&Qn y with
  | false=>rw [hc] at hv; cases hv
  | true=>
   rw [hc] at hv
   cases hv
   rw [Bool.and_eq_true] at hc
   obtain ⟨h1,h2,h3⟩:=DO hc.1
   have h4:=hc.2
   simp only [Qn,Bool.and_eq_true,List.all_eq_true,Bool.not_eq_true',decide_eq_true_eq] at h4
   obtain ⟨g1,g2,g3,g4⟩:=h4
   exact bI.Np h1 (DN g1) (Dr h3 h2 (fun e he=>⟨(g4 e he).1,(g4 e he).2⟩) (Nat.le_of_ble_eq_true g2) g3)
 ·cases hv
def csK:FuncId→Option fL:=tI 263 Ql (tI 42 hdC (tI 221 Qd (tI 171 eqC (tI 92 Qg Si))))
theorem Qo: ∀f g,csK f=some g→g.ok Tryz.prog f:=mj Lb (mj Ir (mj Qe (mj Qj (mj Qh JE))))
set_option maxRecDepth 1000000
set_option maxHeartbeats 0
theorem aaw:qw csK tab 2000 30 14 [] some=some (.bool true):=by kernel_rfl
theorem Lc:Ft Tryz.prog 14 [] (.bool true):=EM a7 Qo rfl aaw
end Go.Proofs.YtglbgfcegifeeaaGreat
namespace Go.Proofs.YtglbgfcegifeeaaGreat.Fz
open Go Go.Proofs Go.RowKit Vm
def Ld:aR where
 D ds:=ds=[]
 val _:=some (.bool true)
noncomputable def Fk:FuncId→Option aR:=bL 14 Ld (bL 15 Im (bL 16 K8 (bL 17 (jk 86) (bL 18 K6 (bL 19 (hdS gD) (bL 20 zK (bL 21 zK (bL 22 uR aV))))))))
def S40 (done m:aj) (i:Int) :St:=St.of [(16,.d (.ag false 7 done)),(17,.d (.ag false 7 m)),(18,.d (.int .i64 i))] [(39,none),(45,none)]
def KM (done:aj) (e:aw) :Bool:= !decide (fI done (fy e) < 0)
def l40:bK:=fun st=>match st.env 16,st.env 17 with
 | .d (.ag _ _ done),.d (.ag _ _ m)=> .br (m.all (KM done)) (.one (.ex 0) (St.of [] [])) (.one .ret (St.of [(10,.d (.bool false))] [(69,none),(85,none)]))
 | _,_=> .no
def lGr (k:Nat) :Option bK:=if k=40 then some l40 else none
def bkw (h:aj) (w:Int) :DV:= .agg (bk (bA h w) (bB w) (bM w) (bQ w))
noncomputable def T4 (n:Nat) (h l c R m left done:aj) (w t:Int) :aH:=
 cond (bif decide ((l.length:Int) > (20:Int)) then true else (c.length:Int) !=(3:Int)) (some (.bool true))
  (aP (Im.D [.ag false 1 h,.int .i64 w]) (aP (K8.D [.ag false 7 l]) (aP ((jk 86).D [.ag false 7 (ue l),.int .i64 t]) (aP (K6.D [bkw h w,.ag false 7 (ue l),.int .i64 t])
   (aP ((hdS gD).D [.ag false 7 R,.ag false 1 c]) (aP (zK.D [bkw h w,.ag false 7 done])
    (cond (bif !uO (bA h w) (bB w) (bM w) (bQ w) done then true else IntKind.i64.wrap ((left.length:Int)+ (done.length:Int)) !=((ue l).length:Int)) (some (.bool false))
     (aP (zK.D [bkw h w,.ag false 7 m])
      (cond (!uO (bA h w) (bB w) (bM w) (bQ w) m) (aP (zK.D [bkw h w,.ag false 7 m]) (cond (!uO (bA h w) (bB w) (bM w) (bQ w) m) (aP (Ld.D []) (some (.bool true))) (some (.bool false))))
       (cond (m.all (KM done)) (aP (aG (LB tab Fk lGr 20 (n+8) h40 G3) (S40 done m 0) (.ex 0,St.of [] [])) (aP (Ld.D []) (some (.bool true))))
        (aP (aG (LB tab Fk lGr 20 (n+8) h40 G3) (S40 done m 0) (.ret,St.of [(10,.d (.bool false))] [(69,none),(85,none)])) (some (.bool false)))))))))))))
theorem s40 (L n:Nat) (done m:aj) (i:Nat) (K:aX) :LB tab Fk lGr L (n+4) h40 G3 (S40 done m i) K=
  (bif decide ((↑i:Int) < (↑m.length:Int)) then
 aA m[i]? fun (e1:aw)=>
 bif aq Cd.bg e1 then
 aP (uR.D [DV.ag false 7 done,DV.int .i64 (aa e1 0).ak])
 (bif decide (fI done (aa e1 0).ak < (0:Int)) then
 K Ex.ret (St.of [(10,AV.d (DV.bool false))] [(69,none),(85,none)])
 else
 K Ex.bC
 (St.of
 [(16,AV.d (DV.ag false 7 done)),(17,AV.d (DV.ag false 7 m)),
 ((18:Nat),AV.d (DV.int .i64 (IntKind.i64.wrap ((↑i:Int)+ (1:Int)))))]
 [(39,none),(45,none)]))
 else none
 else K (Ex.ex (0:Nat)) (St.of [] [])):=by kernel_rfl
theorem tg4 (n:Nat) (h l c:aj) (w t:Int) :FK tab Fk lGr 20 (n+8) 4 [.ag false 1 h,.int .i64 w,.ag false 7 l,.int .i64 t,.ag false 1 c]=
 T4 n h l c (dn (ue l) t) (dk (dn (ue l) t) c) (qJ (bA h w) (bB w) (bM w) (bQ w) (ue l) t) (qK (bA h w) (bB w) (bM w) (bQ w) (ue l) t) w t:=by kernel_rfl
end Go.Proofs.YtglbgfcegifeeaaGreat.Fz
namespace Go.Proofs.YtglbgfcegifeeaaGreat
open Go Go.Proofs Go.RowKit Vm
theorem Qp {l:aj} (hz: ∀e∈l,aq z7 e=true) {n:Nat} (hn:n < l.length) :rowP l n=l[n]:=by
 rw [eh hn]
 obtain ⟨a0,a1,a2,a3,a4,a5,a6,he⟩:=fB (hz _ (List.getElem_mem hn))
 rw [he]
 rfl
theorem Fl (F:aj) (e:aw) (k:Nat) :(F++[e]).take k=F.take k++cond (decide (F.length < k)) [e] []:=by
 rw [List.take_append]
 by_cases h:F.length < k
 ·rw [decide_eq_true h,cond_true]
  obtain ⟨m,hm⟩ : ∃m,k - F.length=m+1:=⟨k - F.length - 1,by omega⟩
  rw [hm,show List.take (m+1) [e]=[e] from by simp]
 ·rw [decide_eq_false h,cond_false,show k - F.length=0 by omega]
  rfl
theorem afY {r M:aj} (hz: ∀e∈r,aq z7 e=true) {f:Int} (h0:0≤f) (h1:f < (M.length:Int)) :(bH r.length (gD M r) (rowP r)).filter (bW 143 f)=(r.filter (bW 143 f)).take (fe (M[f.toNat]?.getD [])).toNat:=by
 have key: ∀n,n≤r.length→(bH n (gD M r) (rowP r)).filter (bW 143 f)=((r.take n).filter (bW 143 f)).take (fe (M[f.toNat]?.getD [])).toNat:=by
  intro n
  induction n with
  | zero=>intro _; simp [bH]
  | succ n ih=>
   intro hn
   have dZ:n < r.length:=by omega
   have jo:bW 143 f r[n]=(ef r[n]==f):=rfl
   rw [eD,List.filter_append,ih (by omega),List.take_add_one,List.getElem?_eq_getElem dZ,Option.toList_some,List.filter_append,Qp hz dZ]
   by_cases hf:ef r[n]=f
   ·have hp:bW 143 f r[n]=true:=by rw [jo,hf]; exact beq_self_eq_true _
    rw [show [r[n]].filter (bW 143 f)=[r[n]] by rw [List.filter_cons,if_pos hp]; rfl,Fl]
    congr 1
    have hb:gD M r n=decide (((r.take n).filter (bW 143 f)).length < (fe (M[f.toNat]?.getD [])).toNat):=by
     unfold gD
     rw [gd dZ,hf,decide_eq_true (show f≥0 by omega),decide_eq_true h1]
     show decide (_ < _)=_
     exact decide_eq_decide.2 (by omega)
    rw [hb]
    cases decide (((r.take n).filter (bW 143 f)).length < (fe (M[f.toNat]?.getD [])).toNat) with
    | true=>rw [cond_true,List.filter_cons,if_pos hp]; rfl
    | false=>rfl
   ·have hp: ¬ bW 143 f r[n]=true:=by rw [jo]; simp [hf]
    rw [show [r[n]].filter (bW 143 f)=[] by rw [List.filter_cons,if_neg hp]; rfl,List.append_nil]
    cases gD M r n with
    | true=>rw [cond_true,List.filter_cons,if_neg hp]; simp
    | false=>rw [cond_false]; simp
 have :=key r.length (Nat.le_refl _)
 rwa [List.take_length] at this
end Go.Proofs.YtglbgfcegifeeaaGreat
namespace Go.Proofs.YtglbgfcegifeeaaGreat.Fz
open Go Go.Proofs Go.RowKit Vm
structure DM (uS:Nat) (r m:aj) :Prop where
 sub: ∀e∈m,e∈r
 nd:ND m
 len:m.length≤40
 dU: ∀e∈r,pF e=(uS:Int)→e∈m
 Le: ∀φ:aw→Int,(∀e∈r,pF e≠(uS:Int)→0≤φ e)→az φ m≤az φ r
theorem uo (n:Nat) (g:Nat→Int) :cells (n+1) g=cells n g++[[.int .i64 (g n)]]:=by
 unfold cells
 rw [List.range_succ,List.map_append]
 rfl
theorem Ag (a b:aj) :cj (a++b)=cj a+cj b:=by
 induction a with
 | nil=>simp [cj]
 | cons x a ih=>
  simp only [List.cons_append,cj,ih]
  omega
theorem wu {g h:Nat→Int} : ∀n:Nat,(∀j,j < n→g j≤h j)→cj (cells n g)≤cj (cells n h)
 | 0,_=>Int.le_refl _
 | n+1,e=>by
  have h1:=wu n fun j hj=>e j (by omega)
  have h2:=e n (by omega)
  rw [uo,uo,Ag,Ag]
  have e1: ∀x:Int,cj [[DV.int .i64 x]]=x:=fun x=>Int.add_zero x
  rw [e1,e1]
  omega
theorem mz (φ:aw→Int) : ∀l:aj,az (fun e=>0 - φ e) l=0 - az φ l
 | []=>rfl
 | e::l=>by
  have :=mz φ l
  simp only [az]
  omega
theorem B4 {ac bs ms qs r m:aj} (hp: ∀e∈r,PO ac.length e) {uS:Nat} (h:DM uS r m) (hw:cZ ac bs ms qs r uS=true) :cZ ac bs ms qs m uS=true:=by
 obtain ⟨h1,h2⟩:=Bool.and_eq_true_iff.1 hw
 have a1:m.any (bW (De (uS:Nat)))=true:=by
  rw [List.any_eq_true] at h1 ⊢
  obtain ⟨e,he,hf⟩:=h1
  exact ⟨e,h.dU e he (eq_of_beq hf),hf⟩
 have cR:BC ac m uS≤BC ac r uS:=by
  unfold BC
  have :=h.Le (dM uS) fun e he hf=>by
   have hP:=hp e he
   have :=hP.a0
   unfold dM
   rw [if_neg hf]
   split<;>omega
  omega
 have hQ: ∀t:Nat,az (dQ uS t) r≤az (dQ uS t) m:=fun t=>by
  have :=h.Le (fun e=>0 - dQ uS t e) fun e he hf=>by
   have hP:=hp e he
   have :=hP.a0
   unfold dQ
   rw [if_neg fun h=>hf h.1]
   split<;>omega
  rw [mz,mz] at this
  omega
 have hS:az (dS uS) m=az (dS uS) r:=by
  have g1:=h.Le (dS uS) fun e he hf=>by
   unfold dS
   rw [if_neg fun h=>hf h.1]
   omega
  have g2:=h.Le (fun e=>0 - dS uS e) fun e he hf=>by
   unfold dS
   rw [if_neg fun h=>hf h.1]
   omega
  rw [mz,mz] at g2
  omega
 have cu:ES qs ac.length r uS≤ES qs ac.length m uS:=by
  unfold ES
  have :=wu ac.length (g:=fun t=>az (dQ uS t) r) (h:=fun t=>az (dQ uS t) m) fun j _=>hQ j
  omega
 refine Bool.and_eq_true_iff.2 ⟨a1,?_⟩
 unfold QU at h2 ⊢
 rw [Bool.or_eq_true,Bool.or_eq_true] at h2 ⊢
 rcases h2 with h2 | h2 | h2
 ·have :=of_decide_eq_true h2
  exact .inl (decide_eq_true (by omega))
 ·obtain ⟨g1,g2⟩:=Bool.and_eq_true_iff.1 h2
  have :=of_decide_eq_true g2
  exact .inr (.inl (Bool.and_eq_true_iff.2 ⟨g1,decide_eq_true (by omega)⟩))
 ·right
  right
  rw [List.any_eq_true] at h2 ⊢
  obtain ⟨e,he,g⟩:=h2
  unfold eB at g
  obtain ⟨g1,g2⟩:=Bool.and_eq_true_iff.1 g
  refine ⟨e,h.dU e he (eq_of_beq g1),?_⟩
  unfold eB
  refine Bool.and_eq_true_iff.2 ⟨g1,?_⟩
  rw [Bool.or_eq_true] at g2 ⊢
  rcases g2 with g2 | g2
  ·obtain ⟨q1,q2⟩:=Bool.and_eq_true_iff.1 g2
   have :=of_decide_eq_true q2
   exact .inl (Bool.and_eq_true_iff.2 ⟨q1,by rw [hS]; exact decide_eq_true (by omega)⟩)
  ·obtain ⟨q1,q2⟩:=Bool.and_eq_true_iff.1 g2
   have :=of_decide_eq_true q2
   have :=hQ (pT e).toNat
   exact .inr (Bool.and_eq_true_iff.2 ⟨q1,decide_eq_true (by omega)⟩)
theorem uq {n:Nat} {P Q:Nat→Bool} {row:Nat→aw} (h: ∀i,i < n→P i=true→Q i=true) :(bH n P row).Sublist (bH n Q row):=by
 induction n with
 | zero=>exact List.Sublist.refl _
 | succ n ih=>
  rw [eD,eD]
  refine List.Sublist.append (ih fun i hi=>h i (by omega)) ?_
  cases hP:P n with
  | true=>
   rw [h n (by omega) hP]
   exact List.Sublist.refl _
  | false=>exact List.nil_sublist _
theorem Is {n:Nat} {P Q:Nat→Bool} {row:Nat→aw} (φ:aw→Int) (h: ∀i,i < n→P i=true→Q i=true) (h2: ∀i,i < n→Q i=true→P i=false→0≤φ (row i)) :az φ (bH n P row)≤az φ (bH n Q row):=by
 induction n with
 | zero=>exact Int.le_refl _
 | succ n ih=>
  have ih:=ih (fun i hi=>h i (by omega)) fun i hi=>h2 i (by omega)
  rw [eD,eD,mo,mo]
  cases hP:P n with
  | true=>
   rw [h n (by omega) hP]
   omega
  | false=>
   cases hQ:Q n with
   | true=>
    have :=h2 n (by omega) hQ hP
    simp only [cond_true,cond_false,az]
    omega
   | false=>
    simp only [cond_false]
    omega
theorem It {r:aj} (hz: ∀e∈r,aq z7 e=true) :bH r.length (fun _=>true) (rowP r)=r:=by
 have :=jE hz fun _=>true
 rw [List.filter_eq_self.2 fun _ _=>rfl] at this
 exact this
theorem Ah {r M:aj} (hz: ∀e∈r,aq z7 e=true) :(dk r M).Sublist r:=by
 have :=uq (n:=r.length) (P:=gD M r) (Q:=fun _=>true) (row:=rowP r) fun _ _ _=>rfl
 rw [It hz] at this
 exact this
def Iu (r:aj) (j:Nat) :Nat:=((r.take j).filter (Go.Proofs.YtglbgfcegifeeaaGreat.bW 143 (ef (r[j]?.getD [])))).length
theorem sg {r M:aj} {j:Nat} {f:Nat} (hj:j < r.length) (hf:ef r[j]=((f:Nat) :Int)) (hM:f < M.length) :gD M r j=true↔(Iu r j:Int) < fe (M[f]?.getD []):=by
 unfold gD Iu
 rw [List.getElem?_eq_getElem hj]
 simp only [Option.getD_some,hf]
 rw [decide_eq_true (show ((f:Nat) :Int)≥0 by omega),cond_true,decide_eq_true (show ((f:Nat) :Int) < (M.length:Int) by omega),cond_true,decide_eq_true_eq,Int.toNat_natCast]
 exact Iff.rfl
theorem Lf {r:aj} {j f:Nat} (hj:j < r.length) (hf:ef r[j]=((f:Nat) :Int)) :(Iu r j:Int)+1≤nt r f:=by
 have h1:r.take (j+1)=r.take j++[r[j]]:=by rw [List.take_succ_eq_append_getElem hj]
 have h2:((r.take (j+1)).filter (Go.Proofs.YtglbgfcegifeeaaGreat.bW 143 ((f:Nat) :Int))).length=Iu r j+1:=by
  rw [h1,List.filter_append,List.length_append]
  unfold Iu
  rw [List.getElem?_eq_getElem hj]
  simp only [Option.getD_some,hf]
  have :Go.Proofs.YtglbgfcegifeeaaGreat.bW 143 ((f:Nat) :Int) r[j]=true:=beq_iff_eq.2 hf
  rw [List.filter_cons,if_pos this]
  rfl
 have h3:((r.take (j+1)).filter (Go.Proofs.YtglbgfcegifeeaaGreat.bW 143 ((f:Nat) :Int))).length≤(r.filter (Go.Proofs.YtglbgfcegifeeaaGreat.bW 143 ((f:Nat) :Int))).length:=List.Sublist.length_le (List.Sublist.filter _ (List.take_sublist _ _))
 unfold nt
 omega
theorem B5 {r M:aj} (hz: ∀e∈r,aq z7 e=true) {f:Nat} (hM:f < M.length) :nt (dk r M) f=min (((fe (M[f]?.getD [])).toNat:Nat) :Int) (nt r f):=by
 have h:=afY (M:=M) hz (f:=((f:Nat) :Int)) (by omega) (by omega)
 rw [Int.toNat_natCast] at h
 unfold nt dk
 rw [h,List.length_take,show Go.Proofs.YtglbgfcegifeeaaGreat.fe (M[f]?.getD [])=fe (M[f]?.getD []) from rfl]
 omega
theorem DP {n:Nat} {r c:aj} (hp: ∀e∈r,PO n e) (hc:c.length=n) {g:Nat→Int} (hg: ∀i,i < n→nt (dk r c) i≤g i) : ∀j,j < r.length→gD c r j=true→gD (cells n g) r j=true:=fun j hj h=>by
 have hP:=hp _ (List.getElem_mem hj)
 obtain ⟨f,hf⟩ : ∃f:Nat,ef r[j]=(f:Nat):=⟨(ef r[j]).toNat,by have :0≤ef r[j]:=hP.f0; omega⟩
 have hU:f < n:=by have :ef r[j] < n:=hP.f1; omega
 rw [sg hj hf (by omega)] at h
 rw [sg hj hf (by rw [cM]; exact hU),cW _ hU]
 show _ < g f
 have h1:=hg f hU
 rw [B5 (fun e he=>(hp e he).z) (by omega)] at h1
 have h2:=Lf hj hf
 omega
theorem DQ {n:Nat} {r c:aj} (hp: ∀e∈r,PO n e) (hc:c.length=n) {g:Nat→Int} {i:Nat} (hi:i < n) (hg:g i≤nt (dk r c) i) : ∀j (hj:j < r.length),gD (cells n g) r j=true→ef r[j]=((i:Nat) :Int)→gD c r j=true:=fun j hj h hf=>by
 rw [sg hj hf (by rw [cM]; exact hi),cW _ hi] at h
 have h:_ < g i:=h
 rw [sg hj hf (by omega)]
 rw [B5 (fun e he=>(hp e he).z) (by omega)] at hg
 omega
theorem stays {b:PB} (hb:b.ok) {r c:aj} (hp: ∀e∈r,PO b.n e) (nj:ND r) (hr:r.length≤40) (hc:c.length=b.n) (hm:lg b.a b.l b.m b.q (dk r c)=[]) (g:Nat→Int)
  (hg: ∀i,i < b.n→nt (dk r c) i≤g i) : ∀i,i < b.n→nt (dk r c) i≤dm (qH (cZ b.a b.l b.m b.q (dk r (cells b.n g))) b.n) g i:=fun i hi=>by
 have hz: ∀e∈r,aq z7 e=true:=fun e he=>(hp e he).z
 have h1:=hg i hi
 unfold dm
 by_cases h:i∈qH (cZ b.a b.l b.m b.q (dk r (cells b.n g))) b.n
 ·rw [if_pos h]
  apply Int.not_lt.1
  intro dZ
  have heq:g i≤nt (dk r c) i:=by omega
  have hs:=(sd.1 h).2
  have hle:=DP hp hc hg
  have hDM:DM i (dk r (cells b.n g)) (dk r c):=by
   refine ⟨fun e he=>(uq hle).subset he,List.Pairwise.sublist (Ah hz) nj,Nat.le_trans (pG _ _) hr,fun e he hf=> ?_,fun φ hφ=> ?_⟩
   ·obtain ⟨j,hj,rX,rfl⟩:=xS hz he
    have :=DQ hp hc hi heq j hj rX hf
    unfold dk bH
    refine List.mem_map.2 ⟨j,?_,eh hz hj⟩
    rw [List.mem_filter,List.mem_range]
    exact ⟨hj,this⟩
   ·refine Is φ hle fun j hj hQ hP=> ?_
    refine hφ _ ?_ fun hf=> ?_
    ·unfold dk bH
     refine List.mem_map.2 ⟨j,?_,rfl⟩
     rw [List.mem_filter,List.mem_range]
     exact ⟨hj,hQ⟩
    ·rw [eh hz hj] at hf
     have :=DQ hp hc hi heq j hj hQ hf
     rw [this] at hP
     cases hP
  have Gp:=B4 (ac:=b.a) (bs:=b.l) (ms:=b.m) (qs:=b.q) (fun e he=>by rw [b8]; exact hp e (se hz he)) hDM hs
  have :i∈qH (cZ b.a b.l b.m b.q (dk r c)) b.n:=sd.2 ⟨hi,Gp⟩
  unfold lg at hm
  rw [uc,b8,List.map_eq_nil_iff] at hm
  rw [hm] at this
  cases this
 ·rw [if_neg h]
  exact h1
theorem drop_one {l:aj} (hn:ND l) {e:aw} (he:e∈l) :(ir l (fy e)).length+1=l.length∧ND (ir l (fy e))∧ ∀a∈l,fy a≠fy e→a∈ir l (fy e):=by
 obtain ⟨k,hk,rfl⟩:=List.mem_iff_getElem.1 he
 have hf:=Ms hn k hk
 have hd:ir l (fy l[k])=im l k:=by
  unfold ir
  rw [hf,decide_eq_false (by omega),cond_false,Int.toNat_natCast]
 rw [hd]
 have hs:l=l.take k++l[k]::l.drop (k+1):=by rw [← List.drop_eq_getElem_cons hk,List.take_append_drop]
 refine ⟨?_,?_,fun a ha cu=> ?_⟩
 ·unfold im
  rw [List.length_append,List.length_take,List.length_drop]
  omega
 ·refine List.Pairwise.sublist ?_ hn
  have h2:(im l k).Sublist (l.take k++l[k]::l.drop (k+1)):=List.Sublist.append_left (List.sublist_cons_self _ _) _
  rw [← hs] at h2
  exact h2
 ·rw [hs] at ha
  unfold im
  rcases List.mem_append.1 ha with h | h
  ·exact List.mem_append.2 (.inl h)
  ·rcases List.mem_cons.1 h with h | h
   ·exact absurd (by rw [h]) cu
   ·exact List.mem_append.2 (.inr h)
theorem Ai: ∀{all l:aj},ND l→ND all→(∀e∈all,e∈l)→(dG l all).length+all.length=l.length
 | [],l,_,_,_=>rfl
 | e::t,l,hn,ha,hm=>by
  obtain ⟨h1,h2,h3⟩:=drop_one hn (hm e (by simp))
  have Qy:=List.pairwise_cons.1 ha
  have ih:=Ai (all:=t) h2 Qy.2 fun a An=>h3 a (hm a (List.mem_cons.2 (.inr An))) fun hc=>Qy.1 a An hc.symm
  show (dG (ir l (fy e)) t).length+ (t.length+1)=l.length
  omega
def ur (w:Int) :Nat→Int | 0=>cond (bit w 1) 7 0 | 1=>0 | _=>cond (bit w 1) 3 0
def Aj (w:Int) :Nat→Int | 0=>0 | 1=>cond (bit w 1) 5 0 | _=>cond (bit w 4) 9 0
def wv (w:Int) :Nat→Int | 0=>cond (bit w 4) 8 (-1) | 1=> -1 | _=>cond (bit w 2) 4 (-1)
def wx (w:Int) :Nat→Nat→Int | 0,1=>cond (bit w 2) 6 (-1) | 1,2=>cond (bit w 2) 0 (-1) | _,_=> -1
def j8 (w:Int) :Nat→Nat→Int | 0,1=>cond (bit w 4) 3 0 | 1,0=>cond (bit w 4) (-3) 0 | _,_=>0
def b9 (h:aj) (w:Int) :PB:=⟨3,fM h,ur w,Aj w,wv w,wx w,j8 w⟩
theorem aaz (h:aj) (w:Int) :(b9 h w).a=bA h w∧(b9 h w).l=bB w∧(b9 h w).m=bM w∧(b9 h w).q=bQ w:=⟨rfl,rfl,rfl,rfl⟩
theorem Rc (b:Bool) (x y lo hi:Int) (h1:lo≤x∧x≤hi) (h2:lo≤y∧y≤hi) :lo≤cond b x y∧cond b x y≤hi:=by
 cases b
 ·exact h2
 ·exact h1
theorem Qq (h:aj) (w:Int) :(b9 h w).ok:=by
 refine ⟨(by show 3≤3; omega),(by show 3≤6; omega),fun i hi=> ?_,fun i hi=> ?_,fun i j hi hj=> ?_,fun i j hi hj=> ?_,fun i j hi hj=> ?_⟩
 ·have hv:=aav h i
  have c1:0≤ur w i∧ur w i≤7:=by unfold ur; split<;>first | exact Rc _ _ _ _ _ (by omega) (by omega) | omega
  have c2:0≤Aj w i∧Aj w i≤9:=by unfold Aj; split<;>first | exact Rc _ _ _ _ _ (by omega) (by omega) | omega
  show zx (fM h i) (ur w i) (Aj w i)
  unfold zx
  omega
 ·have c1: -1≤wv w i∧wv w i≤8:=by unfold wv; split<;>first | exact Rc _ _ _ _ _ (by omega) (by omega) | omega
  show -1≤wv w i∧wv w i≤_
  omega
 ·have c1: -1≤wx w i j∧wx w i j≤6:=by unfold wx; split<;>first | exact Rc _ _ _ _ _ (by omega) (by omega) | omega
  show -1≤wx w i j∧wx w i j≤_
  omega
 ·have c1: -3≤j8 w i j∧j8 w i j≤3:=by unfold j8; split<;>first | exact Rc _ _ _ _ _ (by omega) (by omega) | omega
  show _ < j8 w i j∧j8 w i j < _
  omega
 ·show j8 w i j= - j8 w j i
  have hi:i < 3:=hi
  have hj:j < 3:=hj
  match i,j,hi,hj with
  | 0,0,_,_=>rfl
  | 0,1,_,_=>show cond (bit w 4) (3:Int) 0= -(cond (bit w 4) (-3:Int) 0); cases bit w 4<;>rfl
  | 0,2,_,_=>rfl
  | 1,0,_,_=>show cond (bit w 4) (-3:Int) 0= -(cond (bit w 4) (3:Int) 0); cases bit w 4<;>rfl
  | 1,1,_,_=>rfl
  | 1,2,_,_=>rfl
  | 2,0,_,_=>rfl
  | 2,1,_,_=>rfl
  | 2,2,_,_=>rfl
  | k+3,_,h,_=>omega
  | _,k+3,_,h=>omega
theorem Lg {b:PB} (hb:b.ok) {l:aj} (hl:l.length≤64) (hp: ∀e∈l,PO b.n e) (h1: ∀i,i < b.n→ -1000000≤b.gl i∧b.gl i≤1000000) (h2: ∀i j,i < b.n→j < b.n→ -1000000≤b.pos i j∧b.pos i j≤1000000) :(b.post l).ok:=by
 have Ie: ∀φ:aw→Int,(∀e,PO b.n e→ -1099511627776≤φ e∧φ e≤1099511627776)→ -70368744177664≤az φ l∧az φ l≤70368744177664:=fun φ hφ=>by
  have :=jj (l:=l) (φ:=φ) (B:=1099511627776) fun e he=>hφ e (hp e he)
  omega
 refine ⟨hb.n3,hb.n6,fun i hi=> ?_,hb.cm,hb.cb,fun i j hi hj=> ?_,fun i j hi hj=> ?_⟩
 ·have a:=hb.ca i hi
  have s:=Ie (dM i) fun e he=>he.dM i
  have g:=h1 i hi
  have k:=HN (c:=b.res i) (m:=az (dS i) l) (by unfold zx at a; omega) (gh fun e he=>((hp e he).dS i).1)
  show zx (b.gl i+az (dM i) l) (b.dj i) (cI (b.res i) (az (dS i) l))
  unfold zx at a ⊢
  omega
 ·have s:=Ie (dQ i j) fun e he=>he.dQ i j
  have g:=h2 i j hi hj
  show _ < b.pos i j+az (dQ i j) l∧b.pos i j+az (dQ i j) l < _
  omega
 ·show b.pos i j+az (dQ i j) l= -(b.pos j i+az (dQ j i) l)
  have RG:az (dQ i j) l= - az (dQ j i) l:=by
   have : ∀l:aj,az (dQ i j) l= - az (dQ j i) l:=fun l=>by
    induction l with
    | nil=>rfl
    | cons e t ih=>
     have hd:dQ i j e= - dQ j i e:=by unfold dQ; omega
     simp only [az,ih,hd]
     omega
   exact this l
  have :=hb.an i j hi hj
  omega
end Go.Proofs.YtglbgfcegifeeaaGreat.Fz
namespace Go.Proofs.YtglbgfcegifeeaaGreat.Fz
open Go Go.Proofs Go.ChangeShapes Go.WideShapes Go.ChangeAt Go.RowKit Vm
theorem Iv:Ld.ok Tryz.prog 14:=fun ds r hD hv=>by
 cases hv
 have hD:ds=[]:=hD
 subst hD
 exact Lc.x
theorem Lh: ∀f s,Fk f=some s→s.ok Tryz.prog f:=aM Iv (aM Qc (aM aap (aM Z7 (aM aaj (aM KY (aM Yr (aM Yq (aM Mp aY))))))))
theorem Qr (L n:Nat) {done m:aj} (hd: ∀e∈done,aq z7 e=true) (M4:done.length≤1000) (hm: ∀e∈m,aq z7 e=true) (hml:m.length≤1000) :
  aG (LB tab Fk lGr L (n+4) h40 G3) (S40 done m 0) (cond (m.all (KM done)) (.ex 0,St.of [] []) (.ret,St.of [(10,.d (.bool false))] [(69,none),(85,none)])):=by
 rw [← zJ]
 refine qy (fun j:Nat=>S40 done m (j:Nat)) _ m.length _ _ (by simp) (by simp) (fun j hj K=> ?_) (fun K=> ?_)
 ·rw [s40,cr hj,cond_true,bf hj,hm _ (List.getElem_mem hj),cond_true,a8 (by omega),iH hj]
  refine (au ⟨_,_,rfl,Sl.ag _ _ _,hd,M4⟩).trans ?_
  show cond (decide (fI done (fy m[j]) < 0)) _ _=cond (!decide (fI done (fy m[j]) < 0)) _ _
  cases decide (fI done (fy m[j]) < 0)<;>rfl
 ·rw [s40,aO]
  rfl
def B6:List Kd:=[.slice (.int .i64),.int .i64,.slice (.struct [.int .i64,.int .i64,.int .i64,.int .i64,.int .i64,.int .i64,.int .i64]),.int .i64,.slice (.int .i64)]
theorem afZ (xs:aw) (h:LL B6 xs) :Ft Tryz.prog 4 xs (.bool true):=by
 simp only [B6,LL,KV,KC,EG] at h
 obtain ⟨x,_,rfl,⟨hv,hx,oi⟩,_,_,rfl,⟨w,hw,_⟩,_,_,rfl,⟨l,XY,hls⟩,_,_,rfl,⟨t,ht,_⟩,_,_,rfl,⟨c,hd,fi⟩,rfl⟩:=h
 cases hx
 cases hw
 cases XY
 cases ht
 cases hd
 have hz1: ∀e∈hv,aq z1 e=true:=fun e he=>by
  obtain ⟨n,rfl,_⟩:=oi e he
  rfl
 have I9:n9 c:=fun e he=>by
  obtain ⟨n,rfl,hn⟩:=fi e he
  exact ⟨rfl,wf_i64 hn⟩
 have hz: ∀e∈l,aq z7 e=true:=fun e he=>by
  obtain ⟨_,_,rfl,⟨a0,rfl,_⟩,_,_,rfl,⟨a1,rfl,_⟩,_,_,rfl,⟨a2,rfl,_⟩,_,_,rfl,⟨a3,rfl,_⟩,_,_,rfl,⟨a4,rfl,_⟩,_,_,rfl,⟨a5,rfl,_⟩,_,_,rfl,⟨a6,rfl,_⟩,rfl⟩:=hls e he
  rfl
 refine LN a7 Lh (L:=20) (n:=0+8) ((tg4 0 hv l c w t).trans ?_)
 unfold T4
 refine I5 (fun _=>rfl) (fun h=> ?_)
 have hb:l.length≤20∧c.length=3:=by
  simp at h
  omega
 obtain ⟨hl,hc⟩:=hb
 have hRN:=K9 l
 have akK:=hRN.len
 have hp:=RN.po hRN
 have hzr:=hRN.z
 have hP:=hRN.p
 have gA:K8.D [.ag false 7 l]:=⟨_,rfl,Sl.ag _ _ _,hz,by show l.length≤1000; omega⟩
 refine (au ⟨_,_,rfl,Sl.ag _ _ _,hz1⟩).trans ((au gA).trans ?_)
 generalize ue l=r at *
 have nj:ND r:=((xO r).1 hP).1
 have fD:=Qq hv w
 have hpb: ∀e∈r,PO (b9 hv w).n e:=hp
 have uC:=pH hpb t
 have hlr:=pI r t
 have Pw: ∀e∈dn r t,aq z7 e=true:=fun e he=>(uC e he).z
 have aaB:ND (dn r t):=List.Pairwise.sublist List.filter_sublist nj
 refine (au ⟨_,_,rfl,Sl.ag _ _ _,by show r.length≤1000; omega,hzr⟩).trans ?_
 refine (au (show K6.D [.agg (PB.dv (b9 hv w)),.ag false 7 r,.int .i64 t] from ⟨b9 hv w,_,_,rfl,fD,Sl.ag _ _ _,by show r.length≤1000; omega,hpb⟩)).trans ?_
 refine (au ⟨_,_,rfl,Sl.ag _ _ _,Sl.ag _ _ _,by show (dn r t).length≤1000; omega,by show c.length≤1000; omega,Pw,I9⟩).trans ?_
 obtain ⟨ea,el,em,eq⟩:=aaz hv w
 rw [← ea,← el,← em,← eq]
 have aaC: ∀{e:aw},e∈cX (b9 hv w).a (b9 hv w).l (b9 hv w).m (b9 hv w).q r t→e∈dn r t:=fun he=>wq hpb t he
 have iU: ∀e∈cX (b9 hv w).a (b9 hv w).l (b9 hv w).m (b9 hv w).q r t,PO (b9 hv w).n e:=fun e he=>uC e (aaC he)
 have aib:(cX (b9 hv w).a (b9 hv w).l (b9 hv w).m (b9 hv w).q r t).length≤40:=Nat.le_trans (pG _ _) (by omega)
 have hE:II (b9 hv w).a (b9 hv w).l (b9 hv w).m (b9 hv w).q r t=0:=by
  unfold II jm
  have h1:(cX (b9 hv w).a (b9 hv w).l (b9 hv w).m (b9 hv w).q r t).all (fS (b9 hv w).a.length)=true:=List.all_eq_true.2 fun e he=>Hw (by rw [b8]; exact iU e he)
  rw [h1,decide_eq_true (show (cX (b9 hv w).a (b9 hv w).l (b9 hv w).m (b9 hv w).q r t).length≤64 by omega),Bool.and_true,cond_true,sb,b8,sc]
  have h2:=Lg fD (l:=cX (b9 hv w).a (b9 hv w).l (b9 hv w).m (b9 hv w).q r t) (by omega) iU (fun i hi=>by have :=aav hv i; show -1000000≤fM hv i∧fM hv i≤_; omega) (fun i j hi hj=>by
   have : -3≤j8 w i j∧j8 w i j≤3:=by unfold j8; split<;>first | exact Rc _ _ _ _ _ (by omega) (by omega) | omega
   show -1000000≤j8 w i j∧j8 w i j≤_
   omega)
  have h3:=(KJ (b:=(b9 hv w).post (cX (b9 hv w).a (b9 hv w).l (b9 hv w).m (b9 hv w).q r t)) fD.n3 fD.n6).2 h2
  rw [show Ak (acc (b9 hv w).n ((b9 hv w).post (cX (b9 hv w).a (b9 hv w).l (b9 hv w).m (b9 hv w).q r t)).gl (b9 hv w).dj ((b9 hv w).post (cX (b9 hv w).a (b9 hv w).l (b9 hv w).m (b9 hv w).q r t)).res) (b9 hv w).l (b9 hv w).m (eT (sq (b9 hv w).n ((b9 hv w).post (cX (b9 hv w).a (b9 hv w).l (b9 hv w).m (b9 hv w).q r t)).pos))=true from h3]
  rfl
 have aaD:qK (b9 hv w).a (b9 hv w).l (b9 hv w).m (b9 hv w).q r t=cX (b9 hv w).a (b9 hv w).l (b9 hv w).m (b9 hv w).q r t:=by
  unfold qK
  rw [hE]
  rfl
 have aaE:qJ (b9 hv w).a (b9 hv w).l (b9 hv w).m (b9 hv w).q r t=dG r (cX (b9 hv w).a (b9 hv w).l (b9 hv w).m (b9 hv w).q r t):=by
  unfold qJ
  rw [hE]
  rfl
 rw [aaD,aaE]
 have Qu:ND (cX (b9 hv w).a (b9 hv w).l (b9 hv w).m (b9 hv w).q r t):=List.Pairwise.sublist (Ah Pw) aaB
 have hlen:=Ai nj Qu fun e he=>(List.mem_filter.1 (aaC he)).1
 have hbk:=fD.bk
 have Qv: ∀{m:aj},m.length≤1000→(∀e∈m,aq z7 e=true)→zK.D [.agg (bk (b9 hv w).a (b9 hv w).l (b9 hv w).m (b9 hv w).q),.ag false 7 m]:=fun h1 h2=>⟨_,_,_,_,_,rfl,hbk,Sl.ag _ _ _,h1,h2⟩
 obtain ⟨g',e1,e2,e3,_⟩:=xV fD (by omega) hpb t (fun _=>True) (fun _ _ _=>trivial) trivial
 have af0:cX (b9 hv w).a (b9 hv w).l (b9 hv w).m (b9 hv w).q r t=dk (dn r t) (cells 3 g'):=by
  unfold cX
  rw [e1]
  rfl
 have fits: ∀{m:aj},m.length≤64→(∀e∈m,PO 3 e)→uO (b9 hv w).a (b9 hv w).l (b9 hv w).m (b9 hv w).q m=(lg (b9 hv w).a (b9 hv w).l (b9 hv w).m (b9 hv w).q m).isEmpty:=fun {m} h1 h2=>by
  unfold uO BI lg
  have h3:m.all (fS (b9 hv w).a.length)=true:=List.all_eq_true.2 fun e he=>Hw (by rw [b8]; exact h2 e he)
  rw [h3,decide_eq_true h1,Bool.true_and,Bool.true_and]
 refine (au (Qv (by omega) fun e he=>(iU e he).z)).trans ?_
 have ij:uO (b9 hv w).a (b9 hv w).l (b9 hv w).m (b9 hv w).q (cX (b9 hv w).a (b9 hv w).l (b9 hv w).m (b9 hv w).q r t)=true:=by
  rw [fits (by omega) iU,af0]
  rw [show lg (b9 hv w).a (b9 hv w).l (b9 hv w).m (b9 hv w).q (dk (dn r t) (cells 3 g'))=[] from e3]
  rfl
 rw [ij,Bool.not_true,cond_false,bx (by omega) (by omega),show (((dG r (cX (b9 hv w).a (b9 hv w).l (b9 hv w).m (b9 hv w).q r t)).length:Int)+ ((cX (b9 hv w).a (b9 hv w).l (b9 hv w).m (b9 hv w).q r t).length:Int) !=(r.length:Int))=false from by
  rw [bne_eq_false_iff_eq]
  omega,cond_false]
 have DR: ∀e∈dk (dn r t) c,PO 3 e:=fun e he=>uC e (se Pw he)
 have hml:(dk (dn r t) c).length≤40:=Nat.le_trans (pG _ _) (by omega)
 refine (au (Qv (by omega) fun e he=>(DR e he).z)).trans ?_
 cases hf:uO (b9 hv w).a (b9 hv w).l (b9 hv w).m (b9 hv w).q (dk (dn r t) c) with
 | false=>
  rw [Bool.not_false,cond_true]
  refine (au (Qv (by omega) fun e he=>(DR e he).z)).trans ?_
  exact au rfl
 | true=>
  rw [Bool.not_true,cond_false]
  have hm:lg (b9 hv w).a (b9 hv w).l (b9 hv w).m (b9 hv w).q (dk (dn r t) c)=[]:=by
   rw [fits (by omega) DR] at hf
   exact List.isEmpty_iff.1 hf
  obtain ⟨g,k1,k2,k3,k4⟩:=xV fD (by omega) hpb t (fun g=> ∀i,i < (b9 hv w).n→nt (dk (dn r t) c) i≤g i) (fun g _ hg=>stays fD uC aaB (by omega) hc hm g hg) (fun i hi=>by
   rw [B5 Pw (show i < c.length by rw [hc]; exact hi)]
   omega)
  have aaF:cX (b9 hv w).a (b9 hv w).l (b9 hv w).m (b9 hv w).q r t=dk (dn r t) (cells 3 g):=by
   unfold cX
   rw [k1]
   rfl
  have aaG:(dk (dn r t) c).Sublist (cX (b9 hv w).a (b9 hv w).l (b9 hv w).m (b9 hv w).q r t):=by
   rw [aaF]
   exact uq (DP uC hc k4)
  have Aq:(dk (dn r t) c).all (KM (cX (b9 hv w).a (b9 hv w).l (b9 hv w).m (b9 hv w).q r t))=true:=List.all_eq_true.2 fun e he=>by
   have h1:=BR (cX (b9 hv w).a (b9 hv w).l (b9 hv w).m (b9 hv w).q r t) (fy e)
   have h2:((cX (b9 hv w).a (b9 hv w).l (b9 hv w).m (b9 hv w).q r t).any fun a=>fy a==fy e)=true:=List.any_eq_true.2 ⟨e,aaG.subset he,beq_self_eq_true _⟩
   rw [h2,decide_eq_true_eq] at h1
   unfold KM
   rw [decide_eq_false (by omega)]
   rfl
  have hL:=Qr 20 (0+4) (done:=cX (b9 hv w).a (b9 hv w).l (b9 hv w).m (b9 hv w).q r t) (m:=dk (dn r t) c) (fun e he=>(iU e he).z) (by omega) (fun e he=>(DR e he).z) (by omega)
  rw [Aq] at hL ⊢
  rw [cond_true]
  exact (au hL).trans (au rfl)
end Go.Proofs.YtglbgfcegifeeaaGreat.Fz
