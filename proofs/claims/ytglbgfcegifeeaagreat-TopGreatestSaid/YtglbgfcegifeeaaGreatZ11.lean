/- The document's Ready, Of, Heads, May: what their loops do. No condition. -/
import Derived.Test.YtglbgfcegifeeaaGreatZ10
set_option linter.unusedVariables false
set_option linter.unusedSimpArgs false
set_option linter.unusedSectionVars false
namespace Go.Proofs.YtglbgfcegifeeaaGreat
open Go Go.Proofs Go.RowKit Vm
def BW:aR where
 D ds:= ∃e t,ds=[pv e,.int .i64 t]
 val ds:=match ds with | [.agg e,.int _ t]=>some (.bool (Mf t e)) | _=>none
def gD (M l:aj) (i:Nat) :Bool:=
 bif (bif decide (ef (l[i]?.getD [])≥0) then decide (ef (l[i]?.getD []) < (M.length:Int)) else false) then decide ((((l.take i).filter (bW 143 (ef (l[i]?.getD [])))).length:Int) < fe (M[(ef (l[i]?.getD [])).toNat]?.getD [])) else false
def PY (l:aj) (t:Int) (v:AV) (i:Int) (o1 o2:Option Ob) :St:=St.of [(0,.d (.ag false 7 l)),(1,.d (.int .i64 t)),(5,v),(6,.d (.int .i64 i))] [(26,o1),(50026,o2)]
def E90 (v:AV) (o1 o2:Option Ob) :St:=St.of [(5,v)] [(26,o1),(50026,o2)]
def BX (l:aj) (t:Int) (v:AV) (i:Int) (o1 o2:Option Ob) :St:=St.of [(0,.d (.ag false 7 l)),(1,.d (.int .i64 t)),(5,v),(6,.d (.int .i64 i))] [(25,o1),(50025,o2)]
def PZ (v:AV) (o1 o2:Option Ob) :St:=St.of [(5,v)] [(25,o1),(50025,o2)]
def Ab (l M:aj) (v:AV) (i:Int) (o1 o2:Option Ob) :St:=St.of [(0,.d (.ag false 7 l)),(1,.d (.ag false 1 M)),(5,v),(6,.d (.int .i64 i))] [(58,o1),(50058,o2)]
def P0 (v:AV) (o1 o2:Option Ob) :St:=St.of [(5,v)] [(58,o1),(50058,o2)]
def l90:bK:=fun st=>match st.env 0,st.env 1 with
 | .d (.ag _ _ l),.d (.int _ t)=>C2 E90 26 50026 60 7 (l.filter (bW 143 t))
 | _,_=> .no
def afI:bK:=fun st=>match st.env 0,st.env 1 with
 | .d (.ag _ _ l),.d (.int _ t)=>C2 PZ 25 50025 60 7 (l.filter (bW 86 t))
 | _,_=> .no
def afJ:bK:=fun st=>match st.env 0,st.env 1 with
 | .d (.ag _ _ l),.d (.ag _ _ M)=>C2 P0 58 50058 60 7 (bH l.length (gD M l) (rowP l))
 | _,_=> .no
def lR (k:Nat) :Option bK:=if k=460 then some l90 else if k=170 then some afI else if k=190 then some afJ else none
noncomputable def om:FuncId→Option aR:=bL 40 BW (bL 46 (jk 143) aV)
theorem t11 (n:Nat) (e:aw) (t:Int) :FK tab aV bu 20 (n+12) 40 [pv e,.int .i64 t]=
  (some (DV.bool (bif decide (t≥(aa e 5).ak) then decide (t≤(aa e 6).ak) else false))):=by kernel_rfl
theorem Z3 (L n:Nat) (l:aj) (t:Int) (i:Nat) (k:aX) :LB tab aV lR L (n+4) h460 j3 (PY l t (.d .af) i none none) k=
  (bif decide ((↑i:Int) < (↑l.length:Int)) then
 aA l[i]? fun (e1:aw)=>
 bif aq Cd.bg e1 then
 bif (aa e1 1).ak==t then
 aA l[i]? fun (e5:aw)=>
 bif aq Cd.bg e5 then
 k Ex.bC
 (St.of
 [(0,AV.d (DV.ag false 7 l)),(1,AV.d (DV.int .i64 t)),
 ((5:Nat),AV.ah 26 7 0 (1:Nat)),
 ((6:Nat),AV.d (DV.int .i64 (IntKind.i64.wrap ((↑i:Int)+ (1:Int)))))]
 [((26:Nat),
 some
 (Ob.aC 60 7
 [[DV.int .i64 (aa e5 0).ak,DV.int .i64 (aa e5 1).ak,DV.int .i64 (aa e5 2).ak,DV.int .i64 (aa e5 3).ak,DV.int .i64 (aa e5 4).ak,DV.int .i64 (aa e5 5).ak,DV.int .i64 (aa e5 6).ak]])),
 ((50026:Nat),none)])
 else none
 else
 k Ex.bC
 (St.of
 [(0,AV.d (DV.ag false 7 l)),(1,AV.d (DV.int .i64 t)),(5,AV.d DV.af),
 ((6:Nat),AV.d (DV.int .i64 (IntKind.i64.wrap ((↑i:Int)+ (1:Int)))))]
 [(26,none),(50026,none)])
 else none
 else k (Ex.ex (0:Nat)) (St.of [(5,AV.d DV.af)] [(26,none),(50026,none)])):=by kernel_rfl
theorem Z4 (L n:Nat) (l O:aj) (t:Int) (i:Nat) (k:aX) :LB tab aV lR L (n+4) h460 j3 (PY l t (.ah 26 7 0 O.length) i (some (.aC 60 7 O)) none) k=
  (bif decide ((↑i:Int) < (↑l.length:Int)) then
 aA l[i]? fun (e1:aw)=>
 bif aq Cd.bg e1 then
 bif (aa e1 1).ak==t then
 aA l[i]? fun (e5:aw)=>
 bif aq Cd.bg e5 then
 bif
 decide
 ((O++
 [[DV.int .i64 (aa e5 0).ak,DV.int .i64 (aa e5 1).ak,DV.int .i64 (aa e5 2).ak,DV.int .i64 (aa e5 3).ak,DV.int .i64 (aa e5 4).ak,DV.int .i64 (aa e5 5).ak,DV.int .i64 (aa e5 6).ak]]).length *
 (56:Nat)≤
 room∧
 (O++
 [[DV.int .i64 (aa e5 0).ak,DV.int .i64 (aa e5 1).ak,DV.int .i64 (aa e5 2).ak,DV.int .i64 (aa e5 3).ak,DV.int .i64 (aa e5 4).ak,DV.int .i64 (aa e5 5).ak,DV.int .i64 (aa e5 6).ak]]).length≤
 room) then
 k Ex.bC
 (St.of
 [(0,AV.d (DV.ag false 7 l)),(1,AV.d (DV.int .i64 t)),
 ((5:Nat),
 AV.ah (alt (26:Nat) (26:Nat)) (7:Nat) (0:Nat)
 (O++
 [[DV.int .i64 (aa e5 0).ak,DV.int .i64 (aa e5 1).ak,DV.int .i64 (aa e5 2).ak,DV.int .i64 (aa e5 3).ak,DV.int .i64 (aa e5 4).ak,DV.int .i64 (aa e5 5).ak,DV.int .i64 (aa e5 6).ak]]).length),
 ((6:Nat),AV.d (DV.int .i64 (IntKind.i64.wrap ((↑i:Int)+ (1:Int)))))]
 [(26,none),
 ((50026:Nat),
 some
 (Ob.aC 60 7
 (O++
 [[DV.int .i64 (aa e5 0).ak,DV.int .i64 (aa e5 1).ak,DV.int .i64 (aa e5 2).ak,DV.int .i64 (aa e5 3).ak,DV.int .i64 (aa e5 4).ak,DV.int .i64 (aa e5 5).ak,DV.int .i64 (aa e5 6).ak]])))])
 else none
 else none
 else
 k Ex.bC
 (St.of
 [(0,AV.d (DV.ag false 7 l)),(1,AV.d (DV.int .i64 t)),
 ((5:Nat),AV.ah 26 7 0 O.length),
 ((6:Nat),AV.d (DV.int .i64 (IntKind.i64.wrap ((↑i:Int)+ (1:Int)))))]
 [(26,some (Ob.aC 60 7 O)),(50026,none)])
 else none
 else
 k (Ex.ex (0:Nat))
 (St.of [(5,AV.ah 26 7 0 O.length)] [(26,some (Ob.aC 60 7 O)),(50026,none)])):=
 (show LB tab aV lR L (n+4) h460 j3 (PY l t (.ah 26 7 0 O.length) i (some (.aC 60 7 O)) none) k=
 (cond (decide ((↑i:Int) < (↑l.length:Int)))
 (aA (l[(↑i:Int).toNat]?)
 fun e1=>
 (cond (aq Cd.bg e1)
 (cond ((aa e1 1).ak==t)
 (aA (l[(↑i:Int).toNat]?)
 fun e5=>
 (cond (aq Cd.bg e5)
 (cond (decide ((60:TypeId)=(60:Nat)∧(7:Nat)=(7:Nat)∧(7:Nat)=(7:Nat)∧(0:Nat)=(0:Nat)∧O.length=O.length∧(O++[[DV.int .i64 (aa e5 0).ak,DV.int .i64 (aa e5 1).ak,DV.int .i64 (aa e5 2).ak,DV.int .i64 (aa e5 3).ak,DV.int .i64 (aa e5 4).ak,DV.int .i64 (aa e5 5).ak,DV.int .i64 (aa e5 6).ak]]).length * (56:Nat)≤room∧(O++[[DV.int .i64 (aa e5 0).ak,DV.int .i64 (aa e5 1).ak,DV.int .i64 (aa e5 2).ak,DV.int .i64 (aa e5 3).ak,DV.int .i64 (aa e5 4).ak,DV.int .i64 (aa e5 5).ak,DV.int .i64 (aa e5 6).ak]]).length≤room))
 (k .bC (St.of [(0,(.d (.ag false 7 l))),(1,(.d (.int .i64 t))),(5,(.ah (alt 26 26) 7 0 ((O++[[DV.int .i64 (aa e5 0).ak,DV.int .i64 (aa e5 1).ak,DV.int .i64 (aa e5 2).ak,DV.int .i64 (aa e5 3).ak,DV.int .i64 (aa e5 4).ak,DV.int .i64 (aa e5 5).ak,DV.int .i64 (aa e5 6).ak]]).length))),(6,(.d (.int .i64 (IntKind.i64.wrap ((↑i:Int)+ (1:Int))))))] [(26,.none),(50026,(.some (.aC 60 7 (O++[[DV.int .i64 (aa e5 0).ak,DV.int .i64 (aa e5 1).ak,DV.int .i64 (aa e5 2).ak,DV.int .i64 (aa e5 3).ak,DV.int .i64 (aa e5 4).ak,DV.int .i64 (aa e5 5).ak,DV.int .i64 (aa e5 6).ak]]))))]))
 none)
 none))
 (k .bC (St.of [(0,(.d (.ag false 7 l))),(1,(.d (.int .i64 t))),(5,(.ah 26 7 0 (O.length))),(6,(.d (.int .i64 (IntKind.i64.wrap ((↑i:Int)+ (1:Int))))))] [(26,(.some (.aC 60 7 O))),(50026,.none)])))
 none))
 (k (.ex 0) (St.of [(5,(.ah 26 7 0 (O.length)))] [(26,(.some (.aC 60 7 O))),(50026,.none)]))) from by kernel_rfl).trans (by first | rfl | (simp only [decide_true,decide_false,eq_self,and_true,true_and,and_self,cond_true,cond_false,Nat.le_refl,Int.le_refl,Option.getD_some,Option.getD_none,Int.toNat_natCast,List.take_length,List.drop_zero,Nat.zero_add,List.nil_append,List.all_nil,List.append_nil,Bool.true_and,Bool.and_true,cK,de,cL,cn,bZ,cp,Option.isSome_some,Option.isSome_none,Bool.false_eq_true,false_and,and_false,if_true,if_false,implies_true,Int.toNat_zero,Bool.not_false,Bool.not_true,bne_self_eq_false]; first | done | rfl))
theorem Z5 (L n:Nat) (l O:aj) (t:Int) (i:Nat) (k:aX) :LB tab aV lR L (n+4) h460 j3 (PY l t (.ah 50026 7 0 O.length) i none (some (.aC 60 7 O))) k=
  (bif decide ((↑i:Int) < (↑l.length:Int)) then
 aA l[i]? fun (e1:aw)=>
 bif aq Cd.bg e1 then
 bif (aa e1 1).ak==t then
 aA l[i]? fun (e5:aw)=>
 bif aq Cd.bg e5 then
 bif
 decide
 ((O++
 [[DV.int .i64 (aa e5 0).ak,DV.int .i64 (aa e5 1).ak,DV.int .i64 (aa e5 2).ak,DV.int .i64 (aa e5 3).ak,DV.int .i64 (aa e5 4).ak,DV.int .i64 (aa e5 5).ak,DV.int .i64 (aa e5 6).ak]]).length *
 (56:Nat)≤
 room∧
 (O++
 [[DV.int .i64 (aa e5 0).ak,DV.int .i64 (aa e5 1).ak,DV.int .i64 (aa e5 2).ak,DV.int .i64 (aa e5 3).ak,DV.int .i64 (aa e5 4).ak,DV.int .i64 (aa e5 5).ak,DV.int .i64 (aa e5 6).ak]]).length≤
 room) then
 k Ex.bC
 (St.of
 [(0,AV.d (DV.ag false 7 l)),(1,AV.d (DV.int .i64 t)),
 ((5:Nat),
 AV.ah (alt (50026:Nat) (26:Nat)) (7:Nat) (0:Nat)
 (O++
 [[DV.int .i64 (aa e5 0).ak,DV.int .i64 (aa e5 1).ak,DV.int .i64 (aa e5 2).ak,DV.int .i64 (aa e5 3).ak,DV.int .i64 (aa e5 4).ak,DV.int .i64 (aa e5 5).ak,DV.int .i64 (aa e5 6).ak]]).length),
 ((6:Nat),AV.d (DV.int .i64 (IntKind.i64.wrap ((↑i:Int)+ (1:Int)))))]
 [((26:Nat),
 some
 (Ob.aC 60 7
 (O++
 [[DV.int .i64 (aa e5 0).ak,DV.int .i64 (aa e5 1).ak,DV.int .i64 (aa e5 2).ak,DV.int .i64 (aa e5 3).ak,DV.int .i64 (aa e5 4).ak,DV.int .i64 (aa e5 5).ak,DV.int .i64 (aa e5 6).ak]]))),
 ((50026:Nat),none)])
 else none
 else none
 else
 k Ex.bC
 (St.of
 [(0,AV.d (DV.ag false 7 l)),(1,AV.d (DV.int .i64 t)),
 ((5:Nat),AV.ah 50026 7 0 O.length),
 ((6:Nat),AV.d (DV.int .i64 (IntKind.i64.wrap ((↑i:Int)+ (1:Int)))))]
 [(26,none),(50026,some (Ob.aC 60 7 O))])
 else none
 else
 k (Ex.ex (0:Nat))
 (St.of [(5,AV.ah 50026 7 0 O.length)] [(26,none),(50026,some (Ob.aC 60 7 O))])):=
 (show LB tab aV lR L (n+4) h460 j3 (PY l t (.ah 50026 7 0 O.length) i none (some (.aC 60 7 O))) k=
 (cond (decide ((↑i:Int) < (↑l.length:Int)))
 (aA (l[(↑i:Int).toNat]?)
 fun e1=>
 (cond (aq Cd.bg e1)
 (cond ((aa e1 1).ak==t)
 (aA (l[(↑i:Int).toNat]?)
 fun e5=>
 (cond (aq Cd.bg e5)
 (cond (decide ((60:TypeId)=(60:Nat)∧(7:Nat)=(7:Nat)∧(7:Nat)=(7:Nat)∧(0:Nat)=(0:Nat)∧O.length=O.length∧(O++[[DV.int .i64 (aa e5 0).ak,DV.int .i64 (aa e5 1).ak,DV.int .i64 (aa e5 2).ak,DV.int .i64 (aa e5 3).ak,DV.int .i64 (aa e5 4).ak,DV.int .i64 (aa e5 5).ak,DV.int .i64 (aa e5 6).ak]]).length * (56:Nat)≤room∧(O++[[DV.int .i64 (aa e5 0).ak,DV.int .i64 (aa e5 1).ak,DV.int .i64 (aa e5 2).ak,DV.int .i64 (aa e5 3).ak,DV.int .i64 (aa e5 4).ak,DV.int .i64 (aa e5 5).ak,DV.int .i64 (aa e5 6).ak]]).length≤room))
 (k .bC (St.of [(0,(.d (.ag false 7 l))),(1,(.d (.int .i64 t))),(5,(.ah (alt 50026 26) 7 0 ((O++[[DV.int .i64 (aa e5 0).ak,DV.int .i64 (aa e5 1).ak,DV.int .i64 (aa e5 2).ak,DV.int .i64 (aa e5 3).ak,DV.int .i64 (aa e5 4).ak,DV.int .i64 (aa e5 5).ak,DV.int .i64 (aa e5 6).ak]]).length))),(6,(.d (.int .i64 (IntKind.i64.wrap ((↑i:Int)+ (1:Int))))))] [(26,(.some (.aC 60 7 (O++[[DV.int .i64 (aa e5 0).ak,DV.int .i64 (aa e5 1).ak,DV.int .i64 (aa e5 2).ak,DV.int .i64 (aa e5 3).ak,DV.int .i64 (aa e5 4).ak,DV.int .i64 (aa e5 5).ak,DV.int .i64 (aa e5 6).ak]])))),(50026,.none)]))
 none)
 none))
 (k .bC (St.of [(0,(.d (.ag false 7 l))),(1,(.d (.int .i64 t))),(5,(.ah 50026 7 0 (O.length))),(6,(.d (.int .i64 (IntKind.i64.wrap ((↑i:Int)+ (1:Int))))))] [(26,.none),(50026,(.some (.aC 60 7 O)))])))
 none))
 (k (.ex 0) (St.of [(5,(.ah 50026 7 0 (O.length)))] [(26,.none),(50026,(.some (.aC 60 7 O)))]))) from by kernel_rfl).trans (by first | rfl | (simp only [decide_true,decide_false,eq_self,and_true,true_and,and_self,cond_true,cond_false,Nat.le_refl,Int.le_refl,Option.getD_some,Option.getD_none,Int.toNat_natCast,List.take_length,List.drop_zero,Nat.zero_add,List.nil_append,List.all_nil,List.append_nil,Bool.true_and,Bool.and_true,cK,de,cL,cn,bZ,cp,Option.isSome_some,Option.isSome_none,Bool.false_eq_true,false_and,and_false,if_true,if_false,implies_true,Int.toNat_zero,Bool.not_false,Bool.not_true,bne_self_eq_false]; first | done | rfl))
theorem t9 (n:Nat) (l:aj) (t:Int) :FK tab aV lR 20 (n+8) 46 [.ag false 7 l,.int .i64 t]=
  (bif (List.filter (bW (143:FuncId) t) l).isEmpty then
 aP
 (aG (LB tab aV lR (20:Nat) (n+ (8:Nat)) h460 j3)
 (St.of
 [(0,AV.d (DV.ag false 7 l)),(1,AV.d (DV.int .i64 t)),(5,AV.d DV.af),
 ((6:Nat),AV.d (DV.int .i64 0))]
 [(26,none),(50026,none)])
 (Ex.ex (0:Nat),St.of [(5,AV.d DV.af)] [(26,none),(50026,none)]))
 (some DV.af)
 else
 bif fw ((List.filter (bW (143:FuncId) t) l).length - (1:Nat)) then
 aP
 (aG (LB tab aV lR (20:Nat) (n+ (8:Nat)) h460 j3)
 (St.of
 [(0,AV.d (DV.ag false 7 l)),(1,AV.d (DV.int .i64 t)),(5,AV.d DV.af),
 ((6:Nat),AV.d (DV.int .i64 0))]
 [(26,none),(50026,none)])
 (Ex.ex (0:Nat),
 St.of [(5,AV.ah 26 7 0 (List.filter (bW (143:FuncId) t) l).length)]
 [(26,some (Ob.aC 60 7 (List.filter (bW (143:FuncId) t) l))),(50026,none)]))
 (some (DV.sl (SK.own (60:Nat)) (7:Nat) (List.filter (bW (143:FuncId) t) l)))
 else
 aP
 (aG (LB tab aV lR (20:Nat) (n+ (8:Nat)) h460 j3)
 (St.of
 [(0,AV.d (DV.ag false 7 l)),(1,AV.d (DV.int .i64 t)),(5,AV.d DV.af),
 ((6:Nat),AV.d (DV.int .i64 0))]
 [(26,none),(50026,none)])
 (Ex.ex (0:Nat),
 St.of [(5,AV.ah 50026 7 0 (List.filter (bW (143:FuncId) t) l).length)]
 [(26,none),(50026,some (Ob.aC 60 7 (List.filter (bW (143:FuncId) t) l)))]))
 (some (DV.sl (SK.own (60:Nat)) (7:Nat) (List.filter (bW (143:FuncId) t) l)))):=
 (show FK tab aV lR 20 (n+8) 46 [.ag false 7 l,.int .i64 t]=
 (cond ((List.filter (bW (143:FuncId) t) l).isEmpty)
 (aP (aG (LB tab aV lR ((20:Nat)) (n+ (8:Nat)) h460 j3) (St.of [(0,(.d (.ag false 7 l))),(1,(.d (.int .i64 t))),(5,(.d .af)),(6,(.d (.int .i64 ((0:Int)))))] [(26,.none),(50026,.none)]) ((.ex 0),(St.of [(5,(.d .af))] [(26,.none),(50026,.none)])))
 (some .af))
 (cond (fw ((List.filter (bW (143:FuncId) t) l).length - (1:Nat)))
 (aP (aG (LB tab aV lR ((20:Nat)) (n+ (8:Nat)) h460 j3) (St.of [(0,(.d (.ag false 7 l))),(1,(.d (.int .i64 t))),(5,(.d .af)),(6,(.d (.int .i64 ((0:Int)))))] [(26,.none),(50026,.none)]) ((.ex 0),(St.of [(5,(.ah 26 7 0 ((List.filter (bW 143 t) l).length)))] [(26,(.some (.aC 60 7 (List.filter (bW (143:FuncId) t) l)))),(50026,.none)])))
 (cond (decide ((List.filter (bW (143:FuncId) t) l).length=(List.filter (bW (143:FuncId) t) l).length))
 (some (.sl (SK.own (60:Nat)) 7 (List.filter (bW (143:FuncId) t) l)))
 (cond (decide ((0:Nat)+ (List.filter (bW (143:FuncId) t) l).length≤(List.filter (bW (143:FuncId) t) l).length))
 (some (.sl (SK.ro) 7 (List.take (List.filter (bW (143:FuncId) t) l).length (List.filter (bW (143:FuncId) t) l))))
 none)))
 (aP (aG (LB tab aV lR ((20:Nat)) (n+ (8:Nat)) h460 j3) (St.of [(0,(.d (.ag false 7 l))),(1,(.d (.int .i64 t))),(5,(.d .af)),(6,(.d (.int .i64 ((0:Int)))))] [(26,.none),(50026,.none)]) ((.ex 0),(St.of [(5,(.ah 50026 7 0 ((List.filter (bW 143 t) l).length)))] [(26,.none),(50026,(.some (.aC 60 7 (List.filter (bW (143:FuncId) t) l))))])))
 (cond (decide ((List.filter (bW (143:FuncId) t) l).length=(List.filter (bW (143:FuncId) t) l).length))
 (some (.sl (SK.own (60:Nat)) 7 (List.filter (bW (143:FuncId) t) l)))
 (cond (decide ((0:Nat)+ (List.filter (bW (143:FuncId) t) l).length≤(List.filter (bW (143:FuncId) t) l).length))
 (some (.sl (SK.ro) 7 (List.take (List.filter (bW (143:FuncId) t) l).length (List.filter (bW (143:FuncId) t) l))))
 none))))) from by kernel_rfl).trans (by first | rfl | (simp only [decide_true,decide_false,eq_self,and_true,true_and,and_self,cond_true,cond_false,Nat.le_refl,Int.le_refl,Option.getD_some,Option.getD_none,Int.toNat_natCast,List.take_length,List.drop_zero,Nat.zero_add,List.nil_append,List.all_nil,List.append_nil,Bool.true_and,Bool.and_true,cK,de,cL,cn,bZ,cp,Option.isSome_some,Option.isSome_none,Bool.false_eq_true,false_and,and_false,if_true,if_false,implies_true,Int.toNat_zero,Bool.not_false,Bool.not_true,bne_self_eq_false]; first | done | rfl))
theorem Mu (L n:Nat) (l:aj) (t:Int) (i:Nat) (k:aX) :LB tab om lR L (n+4) h170 j2 (BX l t (.d .af) i none none) k=
  (bif decide ((↑i:Int) < (↑l.length:Int)) then
 aA l[i]? fun (e1:aw)=>
 bif aq Cd.bg e1 then
 aP
 (BW.D
 [DV.agg
 [DV.int .i64 (aa e1 0).ak,DV.int .i64 (aa e1 1).ak,DV.int .i64 (aa e1 2).ak,DV.int .i64 (aa e1 3).ak,DV.int .i64 (aa e1 4).ak,DV.int .i64 (aa e1 5).ak,DV.int .i64 (aa e1 6).ak],DV.int .i64 t])
 (bif
 Mf t
 [DV.int .i64 (aa e1 0).ak,DV.int .i64 (aa e1 1).ak,DV.int .i64 (aa e1 2).ak,DV.int .i64 (aa e1 3).ak,DV.int .i64 (aa e1 4).ak,DV.int .i64 (aa e1 5).ak,DV.int .i64 (aa e1 6).ak] then
 aA l[i]? fun (e6:aw)=>
 bif aq Cd.bg e6 then
 k Ex.bC
 (St.of
 [(0,AV.d (DV.ag false 7 l)),(1,AV.d (DV.int .i64 t)),
 ((5:Nat),AV.ah 25 7 0 (1:Nat)),
 ((6:Nat),AV.d (DV.int .i64 (IntKind.i64.wrap ((↑i:Int)+ (1:Int)))))]
 [((25:Nat),
 some
 (Ob.aC 60 7
 [[DV.int .i64 (aa e6 0).ak,DV.int .i64 (aa e6 1).ak,DV.int .i64 (aa e6 2).ak,DV.int .i64 (aa e6 3).ak,DV.int .i64 (aa e6 4).ak,DV.int .i64 (aa e6 5).ak,DV.int .i64 (aa e6 6).ak]])),
 ((50025:Nat),none)])
 else none
 else
 k Ex.bC
 (St.of
 [(0,AV.d (DV.ag false 7 l)),(1,AV.d (DV.int .i64 t)),(5,AV.d DV.af),
 ((6:Nat),AV.d (DV.int .i64 (IntKind.i64.wrap ((↑i:Int)+ (1:Int)))))]
 [(25,none),(50025,none)]))
 else none
 else k (Ex.ex (0:Nat)) (St.of [(5,AV.d DV.af)] [(25,none),(50025,none)])):=by kernel_rfl
theorem Mv (L n:Nat) (l O:aj) (t:Int) (i:Nat) (k:aX) :LB tab om lR L (n+4) h170 j2 (BX l t (.ah 25 7 0 O.length) i (some (.aC 60 7 O)) none) k=
  (bif decide ((↑i:Int) < (↑l.length:Int)) then
 aA l[i]? fun (e1:aw)=>
 bif aq Cd.bg e1 then
 aP
 (BW.D
 [DV.agg
 [DV.int .i64 (aa e1 0).ak,DV.int .i64 (aa e1 1).ak,DV.int .i64 (aa e1 2).ak,DV.int .i64 (aa e1 3).ak,DV.int .i64 (aa e1 4).ak,DV.int .i64 (aa e1 5).ak,DV.int .i64 (aa e1 6).ak],DV.int .i64 t])
 (bif
 Mf t
 [DV.int .i64 (aa e1 0).ak,DV.int .i64 (aa e1 1).ak,DV.int .i64 (aa e1 2).ak,DV.int .i64 (aa e1 3).ak,DV.int .i64 (aa e1 4).ak,DV.int .i64 (aa e1 5).ak,DV.int .i64 (aa e1 6).ak] then
 aA l[i]? fun (e6:aw)=>
 bif aq Cd.bg e6 then
 bif
 decide
 ((O++
 [[DV.int .i64 (aa e6 0).ak,DV.int .i64 (aa e6 1).ak,DV.int .i64 (aa e6 2).ak,DV.int .i64 (aa e6 3).ak,DV.int .i64 (aa e6 4).ak,DV.int .i64 (aa e6 5).ak,DV.int .i64 (aa e6 6).ak]]).length *
 (56:Nat)≤
 room∧
 (O++
 [[DV.int .i64 (aa e6 0).ak,DV.int .i64 (aa e6 1).ak,DV.int .i64 (aa e6 2).ak,DV.int .i64 (aa e6 3).ak,DV.int .i64 (aa e6 4).ak,DV.int .i64 (aa e6 5).ak,DV.int .i64 (aa e6 6).ak]]).length≤
 room) then
 k Ex.bC
 (St.of
 [(0,AV.d (DV.ag false 7 l)),(1,AV.d (DV.int .i64 t)),
 ((5:Nat),
 AV.ah (alt (25:Nat) (25:Nat)) (7:Nat) (0:Nat)
 (O++
 [[DV.int .i64 (aa e6 0).ak,DV.int .i64 (aa e6 1).ak,DV.int .i64 (aa e6 2).ak,DV.int .i64 (aa e6 3).ak,DV.int .i64 (aa e6 4).ak,DV.int .i64 (aa e6 5).ak,DV.int .i64 (aa e6 6).ak]]).length),
 ((6:Nat),AV.d (DV.int .i64 (IntKind.i64.wrap ((↑i:Int)+ (1:Int)))))]
 [(25,none),
 ((50025:Nat),
 some
 (Ob.aC 60 7
 (O++
 [[DV.int .i64 (aa e6 0).ak,DV.int .i64 (aa e6 1).ak,DV.int .i64 (aa e6 2).ak,DV.int .i64 (aa e6 3).ak,DV.int .i64 (aa e6 4).ak,DV.int .i64 (aa e6 5).ak,DV.int .i64 (aa e6 6).ak]])))])
 else none
 else none
 else
 k Ex.bC
 (St.of
 [(0,AV.d (DV.ag false 7 l)),(1,AV.d (DV.int .i64 t)),
 ((5:Nat),AV.ah 25 7 0 O.length),
 ((6:Nat),AV.d (DV.int .i64 (IntKind.i64.wrap ((↑i:Int)+ (1:Int)))))]
 [(25,some (Ob.aC 60 7 O)),(50025,none)]))
 else none
 else
 k (Ex.ex (0:Nat))
 (St.of [(5,AV.ah 25 7 0 O.length)] [(25,some (Ob.aC 60 7 O)),(50025,none)])):=
 (show LB tab om lR L (n+4) h170 j2 (BX l t (.ah 25 7 0 O.length) i (some (.aC 60 7 O)) none) k=
 (cond (decide ((↑i:Int) < (↑l.length:Int)))
 (aA (l[(↑i:Int).toNat]?)
 fun e1=>
 (cond (aq Cd.bg e1)
 (aP (aR.D (BW) [(.agg [(.int .i64 ((aa e1 0).ak)),(.int .i64 ((aa e1 1).ak)),(.int .i64 ((aa e1 2).ak)),(.int .i64 ((aa e1 3).ak)),(.int .i64 ((aa e1 4).ak)),(.int .i64 ((aa e1 5).ak)),(.int .i64 ((aa e1 6).ak))]),(.int .i64 t)])
 (cond (Mf t [DV.int .i64 (aa e1 0).ak,DV.int .i64 (aa e1 1).ak,DV.int .i64 (aa e1 2).ak,DV.int .i64 (aa e1 3).ak,DV.int .i64 (aa e1 4).ak,DV.int .i64 (aa e1 5).ak,DV.int .i64 (aa e1 6).ak])
 (aA (l[(↑i:Int).toNat]?)
 fun e6=>
 (cond (aq Cd.bg e6)
 (cond (decide ((60:TypeId)=(60:Nat)∧(7:Nat)=(7:Nat)∧(7:Nat)=(7:Nat)∧(0:Nat)=(0:Nat)∧O.length=O.length∧(O++[[DV.int .i64 (aa e6 0).ak,DV.int .i64 (aa e6 1).ak,DV.int .i64 (aa e6 2).ak,DV.int .i64 (aa e6 3).ak,DV.int .i64 (aa e6 4).ak,DV.int .i64 (aa e6 5).ak,DV.int .i64 (aa e6 6).ak]]).length * (56:Nat)≤room∧(O++[[DV.int .i64 (aa e6 0).ak,DV.int .i64 (aa e6 1).ak,DV.int .i64 (aa e6 2).ak,DV.int .i64 (aa e6 3).ak,DV.int .i64 (aa e6 4).ak,DV.int .i64 (aa e6 5).ak,DV.int .i64 (aa e6 6).ak]]).length≤room))
 (k .bC (St.of [(0,(.d (.ag false 7 l))),(1,(.d (.int .i64 t))),(5,(.ah (alt 25 25) 7 0 ((O++[[DV.int .i64 (aa e6 0).ak,DV.int .i64 (aa e6 1).ak,DV.int .i64 (aa e6 2).ak,DV.int .i64 (aa e6 3).ak,DV.int .i64 (aa e6 4).ak,DV.int .i64 (aa e6 5).ak,DV.int .i64 (aa e6 6).ak]]).length))),(6,(.d (.int .i64 (IntKind.i64.wrap ((↑i:Int)+ (1:Int))))))] [(25,.none),(50025,(.some (.aC 60 7 (O++[[DV.int .i64 (aa e6 0).ak,DV.int .i64 (aa e6 1).ak,DV.int .i64 (aa e6 2).ak,DV.int .i64 (aa e6 3).ak,DV.int .i64 (aa e6 4).ak,DV.int .i64 (aa e6 5).ak,DV.int .i64 (aa e6 6).ak]]))))]))
 none)
 none))
 (k .bC (St.of [(0,(.d (.ag false 7 l))),(1,(.d (.int .i64 t))),(5,(.ah 25 7 0 (O.length))),(6,(.d (.int .i64 (IntKind.i64.wrap ((↑i:Int)+ (1:Int))))))] [(25,(.some (.aC 60 7 O))),(50025,.none)]))))
 none))
 (k (.ex 0) (St.of [(5,(.ah 25 7 0 (O.length)))] [(25,(.some (.aC 60 7 O))),(50025,.none)]))) from by kernel_rfl).trans (by first | rfl | (simp only [decide_true,decide_false,eq_self,and_true,true_and,and_self,cond_true,cond_false,Nat.le_refl,Int.le_refl,Option.getD_some,Option.getD_none,Int.toNat_natCast,List.take_length,List.drop_zero,Nat.zero_add,List.nil_append,List.all_nil,List.append_nil,Bool.true_and,Bool.and_true,cK,de,cL,cn,bZ,cp,Option.isSome_some,Option.isSome_none,Bool.false_eq_true,false_and,and_false,if_true,if_false,implies_true,Int.toNat_zero,Bool.not_false,Bool.not_true,bne_self_eq_false]; first | done | rfl))
theorem Mw (L n:Nat) (l O:aj) (t:Int) (i:Nat) (k:aX) :LB tab om lR L (n+4) h170 j2 (BX l t (.ah 50025 7 0 O.length) i none (some (.aC 60 7 O))) k=
  (bif decide ((↑i:Int) < (↑l.length:Int)) then
 aA l[i]? fun (e1:aw)=>
 bif aq Cd.bg e1 then
 aP
 (BW.D
 [DV.agg
 [DV.int .i64 (aa e1 0).ak,DV.int .i64 (aa e1 1).ak,DV.int .i64 (aa e1 2).ak,DV.int .i64 (aa e1 3).ak,DV.int .i64 (aa e1 4).ak,DV.int .i64 (aa e1 5).ak,DV.int .i64 (aa e1 6).ak],DV.int .i64 t])
 (bif
 Mf t
 [DV.int .i64 (aa e1 0).ak,DV.int .i64 (aa e1 1).ak,DV.int .i64 (aa e1 2).ak,DV.int .i64 (aa e1 3).ak,DV.int .i64 (aa e1 4).ak,DV.int .i64 (aa e1 5).ak,DV.int .i64 (aa e1 6).ak] then
 aA l[i]? fun (e6:aw)=>
 bif aq Cd.bg e6 then
 bif
 decide
 ((O++
 [[DV.int .i64 (aa e6 0).ak,DV.int .i64 (aa e6 1).ak,DV.int .i64 (aa e6 2).ak,DV.int .i64 (aa e6 3).ak,DV.int .i64 (aa e6 4).ak,DV.int .i64 (aa e6 5).ak,DV.int .i64 (aa e6 6).ak]]).length *
 (56:Nat)≤
 room∧
 (O++
 [[DV.int .i64 (aa e6 0).ak,DV.int .i64 (aa e6 1).ak,DV.int .i64 (aa e6 2).ak,DV.int .i64 (aa e6 3).ak,DV.int .i64 (aa e6 4).ak,DV.int .i64 (aa e6 5).ak,DV.int .i64 (aa e6 6).ak]]).length≤
 room) then
 k Ex.bC
 (St.of
 [(0,AV.d (DV.ag false 7 l)),(1,AV.d (DV.int .i64 t)),
 ((5:Nat),
 AV.ah (alt (50025:Nat) (25:Nat)) (7:Nat) (0:Nat)
 (O++
 [[DV.int .i64 (aa e6 0).ak,DV.int .i64 (aa e6 1).ak,DV.int .i64 (aa e6 2).ak,DV.int .i64 (aa e6 3).ak,DV.int .i64 (aa e6 4).ak,DV.int .i64 (aa e6 5).ak,DV.int .i64 (aa e6 6).ak]]).length),
 ((6:Nat),AV.d (DV.int .i64 (IntKind.i64.wrap ((↑i:Int)+ (1:Int)))))]
 [((25:Nat),
 some
 (Ob.aC 60 7
 (O++
 [[DV.int .i64 (aa e6 0).ak,DV.int .i64 (aa e6 1).ak,DV.int .i64 (aa e6 2).ak,DV.int .i64 (aa e6 3).ak,DV.int .i64 (aa e6 4).ak,DV.int .i64 (aa e6 5).ak,DV.int .i64 (aa e6 6).ak]]))),
 ((50025:Nat),none)])
 else none
 else none
 else
 k Ex.bC
 (St.of
 [(0,AV.d (DV.ag false 7 l)),(1,AV.d (DV.int .i64 t)),
 ((5:Nat),AV.ah 50025 7 0 O.length),
 ((6:Nat),AV.d (DV.int .i64 (IntKind.i64.wrap ((↑i:Int)+ (1:Int)))))]
 [(25,none),(50025,some (Ob.aC 60 7 O))]))
 else none
 else
 k (Ex.ex (0:Nat))
 (St.of [(5,AV.ah 50025 7 0 O.length)] [(25,none),(50025,some (Ob.aC 60 7 O))])):=
 (show LB tab om lR L (n+4) h170 j2 (BX l t (.ah 50025 7 0 O.length) i none (some (.aC 60 7 O))) k=
 (cond (decide ((↑i:Int) < (↑l.length:Int)))
 (aA (l[(↑i:Int).toNat]?)
 fun e1=>
 (cond (aq Cd.bg e1)
 (aP (aR.D (BW) [(.agg [(.int .i64 ((aa e1 0).ak)),(.int .i64 ((aa e1 1).ak)),(.int .i64 ((aa e1 2).ak)),(.int .i64 ((aa e1 3).ak)),(.int .i64 ((aa e1 4).ak)),(.int .i64 ((aa e1 5).ak)),(.int .i64 ((aa e1 6).ak))]),(.int .i64 t)])
 (cond (Mf t [DV.int .i64 (aa e1 0).ak,DV.int .i64 (aa e1 1).ak,DV.int .i64 (aa e1 2).ak,DV.int .i64 (aa e1 3).ak,DV.int .i64 (aa e1 4).ak,DV.int .i64 (aa e1 5).ak,DV.int .i64 (aa e1 6).ak])
 (aA (l[(↑i:Int).toNat]?)
 fun e6=>
 (cond (aq Cd.bg e6)
 (cond (decide ((60:TypeId)=(60:Nat)∧(7:Nat)=(7:Nat)∧(7:Nat)=(7:Nat)∧(0:Nat)=(0:Nat)∧O.length=O.length∧(O++[[DV.int .i64 (aa e6 0).ak,DV.int .i64 (aa e6 1).ak,DV.int .i64 (aa e6 2).ak,DV.int .i64 (aa e6 3).ak,DV.int .i64 (aa e6 4).ak,DV.int .i64 (aa e6 5).ak,DV.int .i64 (aa e6 6).ak]]).length * (56:Nat)≤room∧(O++[[DV.int .i64 (aa e6 0).ak,DV.int .i64 (aa e6 1).ak,DV.int .i64 (aa e6 2).ak,DV.int .i64 (aa e6 3).ak,DV.int .i64 (aa e6 4).ak,DV.int .i64 (aa e6 5).ak,DV.int .i64 (aa e6 6).ak]]).length≤room))
 (k .bC (St.of [(0,(.d (.ag false 7 l))),(1,(.d (.int .i64 t))),(5,(.ah (alt 50025 25) 7 0 ((O++[[DV.int .i64 (aa e6 0).ak,DV.int .i64 (aa e6 1).ak,DV.int .i64 (aa e6 2).ak,DV.int .i64 (aa e6 3).ak,DV.int .i64 (aa e6 4).ak,DV.int .i64 (aa e6 5).ak,DV.int .i64 (aa e6 6).ak]]).length))),(6,(.d (.int .i64 (IntKind.i64.wrap ((↑i:Int)+ (1:Int))))))] [(25,(.some (.aC 60 7 (O++[[DV.int .i64 (aa e6 0).ak,DV.int .i64 (aa e6 1).ak,DV.int .i64 (aa e6 2).ak,DV.int .i64 (aa e6 3).ak,DV.int .i64 (aa e6 4).ak,DV.int .i64 (aa e6 5).ak,DV.int .i64 (aa e6 6).ak]])))),(50025,.none)]))
 none)
 none))
 (k .bC (St.of [(0,(.d (.ag false 7 l))),(1,(.d (.int .i64 t))),(5,(.ah 50025 7 0 (O.length))),(6,(.d (.int .i64 (IntKind.i64.wrap ((↑i:Int)+ (1:Int))))))] [(25,.none),(50025,(.some (.aC 60 7 O)))]))))
 none))
 (k (.ex 0) (St.of [(5,(.ah 50025 7 0 (O.length)))] [(25,.none),(50025,(.some (.aC 60 7 O)))]))) from by kernel_rfl).trans (by first | rfl | (simp only [decide_true,decide_false,eq_self,and_true,true_and,and_self,cond_true,cond_false,Nat.le_refl,Int.le_refl,Option.getD_some,Option.getD_none,Int.toNat_natCast,List.take_length,List.drop_zero,Nat.zero_add,List.nil_append,List.all_nil,List.append_nil,Bool.true_and,Bool.and_true,cK,de,cL,cn,bZ,cp,Option.isSome_some,Option.isSome_none,Bool.false_eq_true,false_and,and_false,if_true,if_false,implies_true,Int.toNat_zero,Bool.not_false,Bool.not_true,bne_self_eq_false]; first | done | rfl))
theorem t10 (n:Nat) (l:aj) (t:Int) :FK tab om lR 20 (n+8) 17 [.ag false 7 l,.int .i64 t]=
  (bif (List.filter (bW (86:FuncId) t) l).isEmpty then
 aP
 (aG (LB tab om lR (20:Nat) (n+ (8:Nat)) h170 j2)
 (St.of
 [(0,AV.d (DV.ag false 7 l)),(1,AV.d (DV.int .i64 t)),(5,AV.d DV.af),
 ((6:Nat),AV.d (DV.int .i64 0))]
 [(25,none),(50025,none)])
 (Ex.ex (0:Nat),St.of [(5,AV.d DV.af)] [(25,none),(50025,none)]))
 (some DV.af)
 else
 bif fw ((List.filter (bW (86:FuncId) t) l).length - (1:Nat)) then
 aP
 (aG (LB tab om lR (20:Nat) (n+ (8:Nat)) h170 j2)
 (St.of
 [(0,AV.d (DV.ag false 7 l)),(1,AV.d (DV.int .i64 t)),(5,AV.d DV.af),
 ((6:Nat),AV.d (DV.int .i64 0))]
 [(25,none),(50025,none)])
 (Ex.ex (0:Nat),
 St.of [(5,AV.ah 25 7 0 (List.filter (bW (86:FuncId) t) l).length)]
 [(25,some (Ob.aC 60 7 (List.filter (bW (86:FuncId) t) l))),(50025,none)]))
 (some (DV.sl (SK.own (60:Nat)) (7:Nat) (List.filter (bW (86:FuncId) t) l)))
 else
 aP
 (aG (LB tab om lR (20:Nat) (n+ (8:Nat)) h170 j2)
 (St.of
 [(0,AV.d (DV.ag false 7 l)),(1,AV.d (DV.int .i64 t)),(5,AV.d DV.af),
 ((6:Nat),AV.d (DV.int .i64 0))]
 [(25,none),(50025,none)])
 (Ex.ex (0:Nat),
 St.of [(5,AV.ah 50025 7 0 (List.filter (bW (86:FuncId) t) l).length)]
 [(25,none),(50025,some (Ob.aC 60 7 (List.filter (bW (86:FuncId) t) l)))]))
 (some (DV.sl (SK.own (60:Nat)) (7:Nat) (List.filter (bW (86:FuncId) t) l)))):=
 (show FK tab om lR 20 (n+8) 17 [.ag false 7 l,.int .i64 t]=
 (cond ((List.filter (bW (86:FuncId) t) l).isEmpty)
 (aP (aG (LB tab om lR ((20:Nat)) (n+ (8:Nat)) h170 j2) (St.of [(0,(.d (.ag false 7 l))),(1,(.d (.int .i64 t))),(5,(.d .af)),(6,(.d (.int .i64 ((0:Int)))))] [(25,.none),(50025,.none)]) ((.ex 0),(St.of [(5,(.d .af))] [(25,.none),(50025,.none)])))
 (some .af))
 (cond (fw ((List.filter (bW (86:FuncId) t) l).length - (1:Nat)))
 (aP (aG (LB tab om lR ((20:Nat)) (n+ (8:Nat)) h170 j2) (St.of [(0,(.d (.ag false 7 l))),(1,(.d (.int .i64 t))),(5,(.d .af)),(6,(.d (.int .i64 ((0:Int)))))] [(25,.none),(50025,.none)]) ((.ex 0),(St.of [(5,(.ah 25 7 0 ((List.filter (bW 86 t) l).length)))] [(25,(.some (.aC 60 7 (List.filter (bW (86:FuncId) t) l)))),(50025,.none)])))
 (cond (decide ((List.filter (bW (86:FuncId) t) l).length=(List.filter (bW (86:FuncId) t) l).length))
 (some (.sl (SK.own (60:Nat)) 7 (List.filter (bW (86:FuncId) t) l)))
 (cond (decide ((0:Nat)+ (List.filter (bW (86:FuncId) t) l).length≤(List.filter (bW (86:FuncId) t) l).length))
 (some (.sl (SK.ro) 7 (List.take (List.filter (bW (86:FuncId) t) l).length (List.filter (bW (86:FuncId) t) l))))
 none)))
 (aP (aG (LB tab om lR ((20:Nat)) (n+ (8:Nat)) h170 j2) (St.of [(0,(.d (.ag false 7 l))),(1,(.d (.int .i64 t))),(5,(.d .af)),(6,(.d (.int .i64 ((0:Int)))))] [(25,.none),(50025,.none)]) ((.ex 0),(St.of [(5,(.ah 50025 7 0 ((List.filter (bW 86 t) l).length)))] [(25,.none),(50025,(.some (.aC 60 7 (List.filter (bW (86:FuncId) t) l))))])))
 (cond (decide ((List.filter (bW (86:FuncId) t) l).length=(List.filter (bW (86:FuncId) t) l).length))
 (some (.sl (SK.own (60:Nat)) 7 (List.filter (bW (86:FuncId) t) l)))
 (cond (decide ((0:Nat)+ (List.filter (bW (86:FuncId) t) l).length≤(List.filter (bW (86:FuncId) t) l).length))
 (some (.sl (SK.ro) 7 (List.take (List.filter (bW (86:FuncId) t) l).length (List.filter (bW (86:FuncId) t) l))))
 none))))) from by kernel_rfl).trans (by first | rfl | (simp only [decide_true,decide_false,eq_self,and_true,true_and,and_self,cond_true,cond_false,Nat.le_refl,Int.le_refl,Option.getD_some,Option.getD_none,Int.toNat_natCast,List.take_length,List.drop_zero,Nat.zero_add,List.nil_append,List.all_nil,List.append_nil,Bool.true_and,Bool.and_true,cK,de,cL,cn,bZ,cp,Option.isSome_some,Option.isSome_none,Bool.false_eq_true,false_and,and_false,if_true,if_false,implies_true,Int.toNat_zero,Bool.not_false,Bool.not_true,bne_self_eq_false]; first | done | rfl))
theorem Mx (L n:Nat) (l M:aj) (i:Nat) (k:aX) :LB tab om lR L (n+4) h190 jC (Ab l M (.d .af) i none none) k=
  (bif decide ((↑i:Int) < (↑l.length:Int)) then
 bif decide (i≤l.length) then
 aA l[i]? fun (e2:aw)=>
 bif aq Cd.bg e2 then
 aP ((jk (143:FuncId)).D [DV.ag false 7 (List.take i l),DV.int .i64 (aa e2 1).ak])
 (aA l[i]? fun (e6:aw)=>
 bif aq Cd.bg e6 then
 bif decide ((aa e6 1).ak≥(0:Int)) then
 aA l[i]? fun (rN:aw)=>
 bif aq Cd.bg rN then
 bif decide ((aa rN 1).ak < (↑M.length:Int)) then
 aA l[i]? fun (qG:aw)=>
 bif aq Cd.bg qG then
 bif decide ((0:Int)≤(aa qG 1).ak) then
 aA M[(aa qG 1).ak.toNat]? fun (k9:aw)=>
 bif aq Cd.aB k9 then
 bif
 decide
 ((↑(List.filter (bW (143:FuncId) (aa e2 1).ak) (List.take i l)).length:Int) <
 (aa k9 0).ak) then
 aA l[i]? fun (cl:aw)=>
 bif aq Cd.bg cl then
 k Ex.bC
 (St.of
 [(0,AV.d (DV.ag false 7 l)),(1,AV.d (DV.ag false 1 M)),
 ((5:Nat),AV.ah 58 7 0 (1:Nat)),
 ((6:Nat),AV.d (DV.int .i64 (IntKind.i64.wrap ((↑i:Int)+ (1:Int)))))]
 [((58:Nat),
 some
 (Ob.aC 60 7
 [[DV.int .i64 (aa cl 0).ak,DV.int .i64 (aa cl 1).ak,DV.int .i64 (aa cl 2).ak,DV.int .i64 (aa cl 3).ak,DV.int .i64 (aa cl 4).ak,DV.int .i64 (aa cl 5).ak,DV.int .i64 (aa cl 6).ak]])),
 ((50058:Nat),none)])
 else none
 else
 k Ex.bC
 (St.of
 [(0,AV.d (DV.ag false 7 l)),(1,AV.d (DV.ag false 1 M)),(5,AV.d DV.af),
 ((6:Nat),AV.d (DV.int .i64 (IntKind.i64.wrap ((↑i:Int)+ (1:Int)))))]
 [(58,none),(50058,none)])
 else none
 else none
 else none
 else
 k Ex.bC
 (St.of
 [(0,AV.d (DV.ag false 7 l)),(1,AV.d (DV.ag false 1 M)),(5,AV.d DV.af),
 ((6:Nat),AV.d (DV.int .i64 (IntKind.i64.wrap ((↑i:Int)+ (1:Int)))))]
 [(58,none),(50058,none)])
 else none
 else
 k Ex.bC
 (St.of
 [(0,AV.d (DV.ag false 7 l)),(1,AV.d (DV.ag false 1 M)),(5,AV.d DV.af),
 ((6:Nat),AV.d (DV.int .i64 (IntKind.i64.wrap ((↑i:Int)+ (1:Int)))))]
 [(58,none),(50058,none)])
 else none)
 else none
 else none
 else k (Ex.ex (0:Nat)) (St.of [(5,AV.d DV.af)] [(58,none),(50058,none)])):=
 (show LB tab om lR L (n+4) h190 jC (Ab l M (.d .af) i none none) k=
 (cond (decide ((↑i:Int) < (↑l.length:Int)))
 (cond (decide ((some (↑i:Int)).getD (↑l.length:Int)≤(↑l.length:Int)))
 (aA (l[(↑i:Int).toNat]?)
 fun e2=>
 (cond (aq Cd.bg e2)
 (aP (aR.D (jk (143:FuncId)) [(.ag false 7 (List.drop (none.getD (0:Int)).toNat (List.take ((some (↑i:Int)).getD (↑l.length:Int)).toNat l))),(.int .i64 ((aa e2 1).ak))])
 (aA (l[(↑i:Int).toNat]?)
 fun e6=>
 (cond (aq Cd.bg e6)
 (cond (decide ((aa e6 1).ak≥(0:Int)))
 (aA (l[(↑i:Int).toNat]?)
 fun rN=>
 (cond (aq Cd.bg rN)
 (cond (decide ((aa rN 1).ak < (↑M.length:Int)))
 (aA (l[(↑i:Int).toNat]?)
 fun qG=>
 (cond (aq Cd.bg qG)
 (cond (decide ((0:Int)≤(aa qG 1).ak))
 (aA (M[(aa qG 1).ak.toNat]?)
 fun k9=>
 (cond (aq Cd.aB k9)
 (cond (decide ((↑(List.filter (bW (143:FuncId) (aa e2 1).ak) (ar (DV.ag false 7 (List.drop (none.getD (0:Int)).toNat (List.take ((some (↑i:Int)).getD (↑l.length:Int)).toNat l))))).length:Int) < (aa k9 0).ak))
 (aA (l[(↑i:Int).toNat]?)
 fun cl=>
 (cond (aq Cd.bg cl)
 (k .bC (St.of [(0,(.d (.ag false 7 l))),(1,(.d (.ag false 1 M))),(5,(.ah 58 7 0 1)),(6,(.d (.int .i64 (IntKind.i64.wrap ((↑i:Int)+ (1:Int))))))] [(58,(.some (.aC 60 7 [[(.int .i64 ((aa cl 0).ak)),(.int .i64 ((aa cl 1).ak)),(.int .i64 ((aa cl 2).ak)),(.int .i64 ((aa cl 3).ak)),(.int .i64 ((aa cl 4).ak)),(.int .i64 ((aa cl 5).ak)),(.int .i64 ((aa cl 6).ak))]]))),(50058,.none)]))
 none))
 (k .bC (St.of [(0,(.d (.ag false 7 l))),(1,(.d (.ag false 1 M))),(5,(.d .af)),(6,(.d (.int .i64 (IntKind.i64.wrap ((↑i:Int)+ (1:Int))))))] [(58,.none),(50058,.none)])))
 none))
 none)
 none))
 (k .bC (St.of [(0,(.d (.ag false 7 l))),(1,(.d (.ag false 1 M))),(5,(.d .af)),(6,(.d (.int .i64 (IntKind.i64.wrap ((↑i:Int)+ (1:Int))))))] [(58,.none),(50058,.none)])))
 none))
 (k .bC (St.of [(0,(.d (.ag false 7 l))),(1,(.d (.ag false 1 M))),(5,(.d .af)),(6,(.d (.int .i64 (IntKind.i64.wrap ((↑i:Int)+ (1:Int))))))] [(58,.none),(50058,.none)])))
 none)))
 none))
 none)
 (k (.ex 0) (St.of [(5,(.d .af))] [(58,.none),(50058,.none)]))) from by kernel_rfl).trans (by first | rfl | (simp only [decide_true,decide_false,eq_self,and_true,true_and,and_self,cond_true,cond_false,Nat.le_refl,Int.le_refl,Option.getD_some,Option.getD_none,Int.toNat_natCast,List.take_length,List.drop_zero,Nat.zero_add,List.nil_append,List.all_nil,List.append_nil,Bool.true_and,Bool.and_true,cK,de,cL,cn,bZ,cp,Option.isSome_some,Option.isSome_none,Bool.false_eq_true,false_and,and_false,if_true,if_false,implies_true,Int.toNat_zero,Bool.not_false,Bool.not_true,bne_self_eq_false]; first | done | rfl))
theorem My (L n:Nat) (l M O:aj) (i:Nat) (k:aX) :LB tab om lR L (n+4) h190 jC (Ab l M (.ah 58 7 0 O.length) i (some (.aC 60 7 O)) none) k=
  (bif decide ((↑i:Int) < (↑l.length:Int)) then
 bif decide (i≤l.length) then
 aA l[i]? fun (e2:aw)=>
 bif aq Cd.bg e2 then
 aP ((jk (143:FuncId)).D [DV.ag false 7 (List.take i l),DV.int .i64 (aa e2 1).ak])
 (aA l[i]? fun (e6:aw)=>
 bif aq Cd.bg e6 then
 bif decide ((aa e6 1).ak≥(0:Int)) then
 aA l[i]? fun (rN:aw)=>
 bif aq Cd.bg rN then
 bif decide ((aa rN 1).ak < (↑M.length:Int)) then
 aA l[i]? fun (qG:aw)=>
 bif aq Cd.bg qG then
 bif decide ((0:Int)≤(aa qG 1).ak) then
 aA M[(aa qG 1).ak.toNat]? fun (k9:aw)=>
 bif aq Cd.aB k9 then
 bif
 decide
 ((↑(List.filter (bW (143:FuncId) (aa e2 1).ak) (List.take i l)).length:Int) <
 (aa k9 0).ak) then
 aA l[i]? fun (cl:aw)=>
 bif aq Cd.bg cl then
 bif
 decide
 ((O++
 [[DV.int .i64 (aa cl 0).ak,DV.int .i64 (aa cl 1).ak,DV.int .i64 (aa cl 2).ak,DV.int .i64 (aa cl 3).ak,DV.int .i64 (aa cl 4).ak,DV.int .i64 (aa cl 5).ak,DV.int .i64 (aa cl 6).ak]]).length *
 (56:Nat)≤
 room∧
 (O++
 [[DV.int .i64 (aa cl 0).ak,DV.int .i64 (aa cl 1).ak,DV.int .i64 (aa cl 2).ak,DV.int .i64 (aa cl 3).ak,DV.int .i64 (aa cl 4).ak,DV.int .i64 (aa cl 5).ak,DV.int .i64 (aa cl 6).ak]]).length≤
 room) then
 k Ex.bC
 (St.of
 [(0,AV.d (DV.ag false 7 l)),(1,AV.d (DV.ag false 1 M)),
 ((5:Nat),
 AV.ah (alt (58:Nat) (58:Nat)) (7:Nat) (0:Nat)
 (O++
 [[DV.int .i64 (aa cl 0).ak,DV.int .i64 (aa cl 1).ak,DV.int .i64 (aa cl 2).ak,DV.int .i64 (aa cl 3).ak,DV.int .i64 (aa cl 4).ak,DV.int .i64 (aa cl 5).ak,DV.int .i64 (aa cl 6).ak]]).length),
 ((6:Nat),AV.d (DV.int .i64 (IntKind.i64.wrap ((↑i:Int)+ (1:Int)))))]
 [(58,none),
 ((50058:Nat),
 some
 (Ob.aC 60 7
 (O++
 [[DV.int .i64 (aa cl 0).ak,DV.int .i64 (aa cl 1).ak,DV.int .i64 (aa cl 2).ak,DV.int .i64 (aa cl 3).ak,DV.int .i64 (aa cl 4).ak,DV.int .i64 (aa cl 5).ak,DV.int .i64 (aa cl 6).ak]])))])
 else none
 else none
 else
 k Ex.bC
 (St.of
 [(0,AV.d (DV.ag false 7 l)),(1,AV.d (DV.ag false 1 M)),
 ((5:Nat),AV.ah 58 7 0 O.length),
 ((6:Nat),AV.d (DV.int .i64 (IntKind.i64.wrap ((↑i:Int)+ (1:Int)))))]
 [(58,some (Ob.aC 60 7 O)),(50058,none)])
 else none
 else none
 else none
 else
 k Ex.bC
 (St.of
 [(0,AV.d (DV.ag false 7 l)),(1,AV.d (DV.ag false 1 M)),
 ((5:Nat),AV.ah 58 7 0 O.length),
 ((6:Nat),AV.d (DV.int .i64 (IntKind.i64.wrap ((↑i:Int)+ (1:Int)))))]
 [(58,some (Ob.aC 60 7 O)),(50058,none)])
 else none
 else
 k Ex.bC
 (St.of
 [(0,AV.d (DV.ag false 7 l)),(1,AV.d (DV.ag false 1 M)),
 ((5:Nat),AV.ah 58 7 0 O.length),
 ((6:Nat),AV.d (DV.int .i64 (IntKind.i64.wrap ((↑i:Int)+ (1:Int)))))]
 [(58,some (Ob.aC 60 7 O)),(50058,none)])
 else none)
 else none
 else none
 else
 k (Ex.ex (0:Nat))
 (St.of [(5,AV.ah 58 7 0 O.length)] [(58,some (Ob.aC 60 7 O)),(50058,none)])):=
 (show LB tab om lR L (n+4) h190 jC (Ab l M (.ah 58 7 0 O.length) i (some (.aC 60 7 O)) none) k=
 (cond (decide ((↑i:Int) < (↑l.length:Int)))
 (cond (decide ((some (↑i:Int)).getD (↑l.length:Int)≤(↑l.length:Int)))
 (aA (l[(↑i:Int).toNat]?)
 fun e2=>
 (cond (aq Cd.bg e2)
 (aP (aR.D (jk (143:FuncId)) [(.ag false 7 (List.drop (none.getD (0:Int)).toNat (List.take ((some (↑i:Int)).getD (↑l.length:Int)).toNat l))),(.int .i64 ((aa e2 1).ak))])
 (aA (l[(↑i:Int).toNat]?)
 fun e6=>
 (cond (aq Cd.bg e6)
 (cond (decide ((aa e6 1).ak≥(0:Int)))
 (aA (l[(↑i:Int).toNat]?)
 fun rN=>
 (cond (aq Cd.bg rN)
 (cond (decide ((aa rN 1).ak < (↑M.length:Int)))
 (aA (l[(↑i:Int).toNat]?)
 fun qG=>
 (cond (aq Cd.bg qG)
 (cond (decide ((0:Int)≤(aa qG 1).ak))
 (aA (M[(aa qG 1).ak.toNat]?)
 fun k9=>
 (cond (aq Cd.aB k9)
 (cond (decide ((↑(List.filter (bW (143:FuncId) (aa e2 1).ak) (ar (DV.ag false 7 (List.drop (none.getD (0:Int)).toNat (List.take ((some (↑i:Int)).getD (↑l.length:Int)).toNat l))))).length:Int) < (aa k9 0).ak))
 (aA (l[(↑i:Int).toNat]?)
 fun cl=>
 (cond (aq Cd.bg cl)
 (cond (decide ((60:TypeId)=(60:Nat)∧(7:Nat)=(7:Nat)∧(7:Nat)=(7:Nat)∧(0:Nat)=(0:Nat)∧O.length=O.length∧(O++[[DV.int .i64 (aa cl 0).ak,DV.int .i64 (aa cl 1).ak,DV.int .i64 (aa cl 2).ak,DV.int .i64 (aa cl 3).ak,DV.int .i64 (aa cl 4).ak,DV.int .i64 (aa cl 5).ak,DV.int .i64 (aa cl 6).ak]]).length * (56:Nat)≤room∧(O++[[DV.int .i64 (aa cl 0).ak,DV.int .i64 (aa cl 1).ak,DV.int .i64 (aa cl 2).ak,DV.int .i64 (aa cl 3).ak,DV.int .i64 (aa cl 4).ak,DV.int .i64 (aa cl 5).ak,DV.int .i64 (aa cl 6).ak]]).length≤room))
 (k .bC (St.of [(0,(.d (.ag false 7 l))),(1,(.d (.ag false 1 M))),(5,(.ah (alt 58 58) 7 0 ((O++[[DV.int .i64 (aa cl 0).ak,DV.int .i64 (aa cl 1).ak,DV.int .i64 (aa cl 2).ak,DV.int .i64 (aa cl 3).ak,DV.int .i64 (aa cl 4).ak,DV.int .i64 (aa cl 5).ak,DV.int .i64 (aa cl 6).ak]]).length))),(6,(.d (.int .i64 (IntKind.i64.wrap ((↑i:Int)+ (1:Int))))))] [(58,.none),(50058,(.some (.aC 60 7 (O++[[DV.int .i64 (aa cl 0).ak,DV.int .i64 (aa cl 1).ak,DV.int .i64 (aa cl 2).ak,DV.int .i64 (aa cl 3).ak,DV.int .i64 (aa cl 4).ak,DV.int .i64 (aa cl 5).ak,DV.int .i64 (aa cl 6).ak]]))))]))
 none)
 none))
 (k .bC (St.of [(0,(.d (.ag false 7 l))),(1,(.d (.ag false 1 M))),(5,(.ah 58 7 0 (O.length))),(6,(.d (.int .i64 (IntKind.i64.wrap ((↑i:Int)+ (1:Int))))))] [(58,(.some (.aC 60 7 O))),(50058,.none)])))
 none))
 none)
 none))
 (k .bC (St.of [(0,(.d (.ag false 7 l))),(1,(.d (.ag false 1 M))),(5,(.ah 58 7 0 (O.length))),(6,(.d (.int .i64 (IntKind.i64.wrap ((↑i:Int)+ (1:Int))))))] [(58,(.some (.aC 60 7 O))),(50058,.none)])))
 none))
 (k .bC (St.of [(0,(.d (.ag false 7 l))),(1,(.d (.ag false 1 M))),(5,(.ah 58 7 0 (O.length))),(6,(.d (.int .i64 (IntKind.i64.wrap ((↑i:Int)+ (1:Int))))))] [(58,(.some (.aC 60 7 O))),(50058,.none)])))
 none)))
 none))
 none)
 (k (.ex 0) (St.of [(5,(.ah 58 7 0 (O.length)))] [(58,(.some (.aC 60 7 O))),(50058,.none)]))) from by kernel_rfl).trans (by first | rfl | (simp only [decide_true,decide_false,eq_self,and_true,true_and,and_self,cond_true,cond_false,Nat.le_refl,Int.le_refl,Option.getD_some,Option.getD_none,Int.toNat_natCast,List.take_length,List.drop_zero,Nat.zero_add,List.nil_append,List.all_nil,List.append_nil,Bool.true_and,Bool.and_true,cK,de,cL,cn,bZ,cp,Option.isSome_some,Option.isSome_none,Bool.false_eq_true,false_and,and_false,if_true,if_false,implies_true,Int.toNat_zero,Bool.not_false,Bool.not_true,bne_self_eq_false]; first | done | rfl))
theorem Mz (L n:Nat) (l M O:aj) (i:Nat) (k:aX) :LB tab om lR L (n+4) h190 jC (Ab l M (.ah 50058 7 0 O.length) i none (some (.aC 60 7 O))) k=
  (bif decide ((↑i:Int) < (↑l.length:Int)) then
 bif decide (i≤l.length) then
 aA l[i]? fun (e2:aw)=>
 bif aq Cd.bg e2 then
 aP ((jk (143:FuncId)).D [DV.ag false 7 (List.take i l),DV.int .i64 (aa e2 1).ak])
 (aA l[i]? fun (e6:aw)=>
 bif aq Cd.bg e6 then
 bif decide ((aa e6 1).ak≥(0:Int)) then
 aA l[i]? fun (rN:aw)=>
 bif aq Cd.bg rN then
 bif decide ((aa rN 1).ak < (↑M.length:Int)) then
 aA l[i]? fun (qG:aw)=>
 bif aq Cd.bg qG then
 bif decide ((0:Int)≤(aa qG 1).ak) then
 aA M[(aa qG 1).ak.toNat]? fun (k9:aw)=>
 bif aq Cd.aB k9 then
 bif
 decide
 ((↑(List.filter (bW (143:FuncId) (aa e2 1).ak) (List.take i l)).length:Int) <
 (aa k9 0).ak) then
 aA l[i]? fun (cl:aw)=>
 bif aq Cd.bg cl then
 bif
 decide
 ((O++
 [[DV.int .i64 (aa cl 0).ak,DV.int .i64 (aa cl 1).ak,DV.int .i64 (aa cl 2).ak,DV.int .i64 (aa cl 3).ak,DV.int .i64 (aa cl 4).ak,DV.int .i64 (aa cl 5).ak,DV.int .i64 (aa cl 6).ak]]).length *
 (56:Nat)≤
 room∧
 (O++
 [[DV.int .i64 (aa cl 0).ak,DV.int .i64 (aa cl 1).ak,DV.int .i64 (aa cl 2).ak,DV.int .i64 (aa cl 3).ak,DV.int .i64 (aa cl 4).ak,DV.int .i64 (aa cl 5).ak,DV.int .i64 (aa cl 6).ak]]).length≤
 room) then
 k Ex.bC
 (St.of
 [(0,AV.d (DV.ag false 7 l)),(1,AV.d (DV.ag false 1 M)),
 ((5:Nat),
 AV.ah (alt (50058:Nat) (58:Nat)) (7:Nat) (0:Nat)
 (O++
 [[DV.int .i64 (aa cl 0).ak,DV.int .i64 (aa cl 1).ak,DV.int .i64 (aa cl 2).ak,DV.int .i64 (aa cl 3).ak,DV.int .i64 (aa cl 4).ak,DV.int .i64 (aa cl 5).ak,DV.int .i64 (aa cl 6).ak]]).length),
 ((6:Nat),AV.d (DV.int .i64 (IntKind.i64.wrap ((↑i:Int)+ (1:Int)))))]
 [((58:Nat),
 some
 (Ob.aC 60 7
 (O++
 [[DV.int .i64 (aa cl 0).ak,DV.int .i64 (aa cl 1).ak,DV.int .i64 (aa cl 2).ak,DV.int .i64 (aa cl 3).ak,DV.int .i64 (aa cl 4).ak,DV.int .i64 (aa cl 5).ak,DV.int .i64 (aa cl 6).ak]]))),
 ((50058:Nat),none)])
 else none
 else none
 else
 k Ex.bC
 (St.of
 [(0,AV.d (DV.ag false 7 l)),(1,AV.d (DV.ag false 1 M)),
 ((5:Nat),AV.ah 50058 7 0 O.length),
 ((6:Nat),AV.d (DV.int .i64 (IntKind.i64.wrap ((↑i:Int)+ (1:Int)))))]
 [(58,none),(50058,some (Ob.aC 60 7 O))])
 else none
 else none
 else none
 else
 k Ex.bC
 (St.of
 [(0,AV.d (DV.ag false 7 l)),(1,AV.d (DV.ag false 1 M)),
 ((5:Nat),AV.ah 50058 7 0 O.length),
 ((6:Nat),AV.d (DV.int .i64 (IntKind.i64.wrap ((↑i:Int)+ (1:Int)))))]
 [(58,none),(50058,some (Ob.aC 60 7 O))])
 else none
 else
 k Ex.bC
 (St.of
 [(0,AV.d (DV.ag false 7 l)),(1,AV.d (DV.ag false 1 M)),
 ((5:Nat),AV.ah 50058 7 0 O.length),
 ((6:Nat),AV.d (DV.int .i64 (IntKind.i64.wrap ((↑i:Int)+ (1:Int)))))]
 [(58,none),(50058,some (Ob.aC 60 7 O))])
 else none)
 else none
 else none
 else
 k (Ex.ex (0:Nat))
 (St.of [(5,AV.ah 50058 7 0 O.length)] [(58,none),(50058,some (Ob.aC 60 7 O))])):=
 (show LB tab om lR L (n+4) h190 jC (Ab l M (.ah 50058 7 0 O.length) i none (some (.aC 60 7 O))) k=
 (cond (decide ((↑i:Int) < (↑l.length:Int)))
 (cond (decide ((some (↑i:Int)).getD (↑l.length:Int)≤(↑l.length:Int)))
 (aA (l[(↑i:Int).toNat]?)
 fun e2=>
 (cond (aq Cd.bg e2)
 (aP (aR.D (jk (143:FuncId)) [(.ag false 7 (List.drop (none.getD (0:Int)).toNat (List.take ((some (↑i:Int)).getD (↑l.length:Int)).toNat l))),(.int .i64 ((aa e2 1).ak))])
 (aA (l[(↑i:Int).toNat]?)
 fun e6=>
 (cond (aq Cd.bg e6)
 (cond (decide ((aa e6 1).ak≥(0:Int)))
 (aA (l[(↑i:Int).toNat]?)
 fun rN=>
 (cond (aq Cd.bg rN)
 (cond (decide ((aa rN 1).ak < (↑M.length:Int)))
 (aA (l[(↑i:Int).toNat]?)
 fun qG=>
 (cond (aq Cd.bg qG)
 (cond (decide ((0:Int)≤(aa qG 1).ak))
 (aA (M[(aa qG 1).ak.toNat]?)
 fun k9=>
 (cond (aq Cd.aB k9)
 (cond (decide ((↑(List.filter (bW (143:FuncId) (aa e2 1).ak) (ar (DV.ag false 7 (List.drop (none.getD (0:Int)).toNat (List.take ((some (↑i:Int)).getD (↑l.length:Int)).toNat l))))).length:Int) < (aa k9 0).ak))
 (aA (l[(↑i:Int).toNat]?)
 fun cl=>
 (cond (aq Cd.bg cl)
 (cond (decide ((60:TypeId)=(60:Nat)∧(7:Nat)=(7:Nat)∧(7:Nat)=(7:Nat)∧(0:Nat)=(0:Nat)∧O.length=O.length∧(O++[[DV.int .i64 (aa cl 0).ak,DV.int .i64 (aa cl 1).ak,DV.int .i64 (aa cl 2).ak,DV.int .i64 (aa cl 3).ak,DV.int .i64 (aa cl 4).ak,DV.int .i64 (aa cl 5).ak,DV.int .i64 (aa cl 6).ak]]).length * (56:Nat)≤room∧(O++[[DV.int .i64 (aa cl 0).ak,DV.int .i64 (aa cl 1).ak,DV.int .i64 (aa cl 2).ak,DV.int .i64 (aa cl 3).ak,DV.int .i64 (aa cl 4).ak,DV.int .i64 (aa cl 5).ak,DV.int .i64 (aa cl 6).ak]]).length≤room))
 (k .bC (St.of [(0,(.d (.ag false 7 l))),(1,(.d (.ag false 1 M))),(5,(.ah (alt 50058 58) 7 0 ((O++[[DV.int .i64 (aa cl 0).ak,DV.int .i64 (aa cl 1).ak,DV.int .i64 (aa cl 2).ak,DV.int .i64 (aa cl 3).ak,DV.int .i64 (aa cl 4).ak,DV.int .i64 (aa cl 5).ak,DV.int .i64 (aa cl 6).ak]]).length))),(6,(.d (.int .i64 (IntKind.i64.wrap ((↑i:Int)+ (1:Int))))))] [(58,(.some (.aC 60 7 (O++[[DV.int .i64 (aa cl 0).ak,DV.int .i64 (aa cl 1).ak,DV.int .i64 (aa cl 2).ak,DV.int .i64 (aa cl 3).ak,DV.int .i64 (aa cl 4).ak,DV.int .i64 (aa cl 5).ak,DV.int .i64 (aa cl 6).ak]])))),(50058,.none)]))
 none)
 none))
 (k .bC (St.of [(0,(.d (.ag false 7 l))),(1,(.d (.ag false 1 M))),(5,(.ah 50058 7 0 (O.length))),(6,(.d (.int .i64 (IntKind.i64.wrap ((↑i:Int)+ (1:Int))))))] [(58,.none),(50058,(.some (.aC 60 7 O)))])))
 none))
 none)
 none))
 (k .bC (St.of [(0,(.d (.ag false 7 l))),(1,(.d (.ag false 1 M))),(5,(.ah 50058 7 0 (O.length))),(6,(.d (.int .i64 (IntKind.i64.wrap ((↑i:Int)+ (1:Int))))))] [(58,.none),(50058,(.some (.aC 60 7 O)))])))
 none))
 (k .bC (St.of [(0,(.d (.ag false 7 l))),(1,(.d (.ag false 1 M))),(5,(.ah 50058 7 0 (O.length))),(6,(.d (.int .i64 (IntKind.i64.wrap ((↑i:Int)+ (1:Int))))))] [(58,.none),(50058,(.some (.aC 60 7 O)))])))
 none)))
 none))
 none)
 (k (.ex 0) (St.of [(5,(.ah 50058 7 0 (O.length)))] [(58,.none),(50058,(.some (.aC 60 7 O)))]))) from by kernel_rfl).trans (by first | rfl | (simp only [decide_true,decide_false,eq_self,and_true,true_and,and_self,cond_true,cond_false,Nat.le_refl,Int.le_refl,Option.getD_some,Option.getD_none,Int.toNat_natCast,List.take_length,List.drop_zero,Nat.zero_add,List.nil_append,List.all_nil,List.append_nil,Bool.true_and,Bool.and_true,cK,de,cL,cn,bZ,cp,Option.isSome_some,Option.isSome_none,Bool.false_eq_true,false_and,and_false,if_true,if_false,implies_true,Int.toNat_zero,Bool.not_false,Bool.not_true,bne_self_eq_false]; first | done | rfl))
theorem t20 (n:Nat) (l M:aj) :FK tab om lR 20 (n+8) 19 [.ag false 7 l,.ag false 1 M]=
  (bif (bH l.length (gD M l) (rowP l)).isEmpty then
 aP
 (aG (LB tab om lR (20:Nat) (n+ (8:Nat)) h190 jC)
 (St.of
 [(0,AV.d (DV.ag false 7 l)),(1,AV.d (DV.ag false 1 M)),(5,AV.d DV.af),
 ((6:Nat),AV.d (DV.int .i64 0))]
 [(58,none),(50058,none)])
 (Ex.ex (0:Nat),St.of [(5,AV.d DV.af)] [(58,none),(50058,none)]))
 (some DV.af)
 else
 bif fw ((bH l.length (gD M l) (rowP l)).length - (1:Nat)) then
 aP
 (aG (LB tab om lR (20:Nat) (n+ (8:Nat)) h190 jC)
 (St.of
 [(0,AV.d (DV.ag false 7 l)),(1,AV.d (DV.ag false 1 M)),(5,AV.d DV.af),
 ((6:Nat),AV.d (DV.int .i64 0))]
 [(58,none),(50058,none)])
 (Ex.ex (0:Nat),
 St.of [(5,AV.ah 58 7 0 (bH l.length (gD M l) (rowP l)).length)]
 [(58,some (Ob.aC 60 7 (bH l.length (gD M l) (rowP l)))),(50058,none)]))
 (some (DV.sl (SK.own (60:Nat)) (7:Nat) (bH l.length (gD M l) (rowP l))))
 else
 aP
 (aG (LB tab om lR (20:Nat) (n+ (8:Nat)) h190 jC)
 (St.of
 [(0,AV.d (DV.ag false 7 l)),(1,AV.d (DV.ag false 1 M)),(5,AV.d DV.af),
 ((6:Nat),AV.d (DV.int .i64 0))]
 [(58,none),(50058,none)])
 (Ex.ex (0:Nat),
 St.of [(5,AV.ah 50058 7 0 (bH l.length (gD M l) (rowP l)).length)]
 [(58,none),(50058,some (Ob.aC 60 7 (bH l.length (gD M l) (rowP l))))]))
 (some (DV.sl (SK.own (60:Nat)) (7:Nat) (bH l.length (gD M l) (rowP l))))):=
 (show FK tab om lR 20 (n+8) 19 [.ag false 7 l,.ag false 1 M]=
 (cond ((bH l.length (gD M l) (rowP l)).isEmpty)
 (aP (aG (LB tab om lR ((20:Nat)) (n+ (8:Nat)) h190 jC) (St.of [(0,(.d (.ag false 7 l))),(1,(.d (.ag false 1 M))),(5,(.d .af)),(6,(.d (.int .i64 ((0:Int)))))] [(58,.none),(50058,.none)]) ((.ex 0),(St.of [(5,(.d .af))] [(58,.none),(50058,.none)])))
 (some .af))
 (cond (fw ((bH l.length (gD M l) (rowP l)).length - (1:Nat)))
 (aP (aG (LB tab om lR ((20:Nat)) (n+ (8:Nat)) h190 jC) (St.of [(0,(.d (.ag false 7 l))),(1,(.d (.ag false 1 M))),(5,(.d .af)),(6,(.d (.int .i64 ((0:Int)))))] [(58,.none),(50058,.none)]) ((.ex 0),(St.of [(5,(.ah 58 7 0 ((bH l.length (gD M l) (rowP l)).length)))] [(58,(.some (.aC 60 7 (bH l.length (gD M l) (rowP l))))),(50058,.none)])))
 (cond (decide ((bH l.length (gD M l) (rowP l)).length=(bH l.length (gD M l) (rowP l)).length))
 (some (.sl (SK.own (60:Nat)) 7 (bH l.length (gD M l) (rowP l))))
 (cond (decide ((0:Nat)+ (bH l.length (gD M l) (rowP l)).length≤(bH l.length (gD M l) (rowP l)).length))
 (some (.sl (SK.ro) 7 (List.take (bH l.length (gD M l) (rowP l)).length (bH l.length (gD M l) (rowP l)))))
 none)))
 (aP (aG (LB tab om lR ((20:Nat)) (n+ (8:Nat)) h190 jC) (St.of [(0,(.d (.ag false 7 l))),(1,(.d (.ag false 1 M))),(5,(.d .af)),(6,(.d (.int .i64 ((0:Int)))))] [(58,.none),(50058,.none)]) ((.ex 0),(St.of [(5,(.ah 50058 7 0 ((bH l.length (gD M l) (rowP l)).length)))] [(58,.none),(50058,(.some (.aC 60 7 (bH l.length (gD M l) (rowP l)))))])))
 (cond (decide ((bH l.length (gD M l) (rowP l)).length=(bH l.length (gD M l) (rowP l)).length))
 (some (.sl (SK.own (60:Nat)) 7 (bH l.length (gD M l) (rowP l))))
 (cond (decide ((0:Nat)+ (bH l.length (gD M l) (rowP l)).length≤(bH l.length (gD M l) (rowP l)).length))
 (some (.sl (SK.ro) 7 (List.take (bH l.length (gD M l) (rowP l)).length (bH l.length (gD M l) (rowP l)))))
 none))))) from by kernel_rfl).trans (by first | rfl | (simp only [decide_true,decide_false,eq_self,and_true,true_and,and_self,cond_true,cond_false,Nat.le_refl,Int.le_refl,Option.getD_some,Option.getD_none,Int.toNat_natCast,List.take_length,List.drop_zero,Nat.zero_add,List.nil_append,List.all_nil,List.append_nil,Bool.true_and,Bool.and_true,cK,de,cL,cn,bZ,cp,Option.isSome_some,Option.isSome_none,Bool.false_eq_true,false_and,and_false,if_true,if_false,implies_true,Int.toNat_zero,Bool.not_false,Bool.not_true,bne_self_eq_false]; first | done | rfl))
theorem Z6:BW.ok Tryz.prog 40:=fun ds r hD hv=>by
 obtain ⟨e,t,rfl⟩:=hD
 cases hv
 exact aL (lsp:=bu) a7 aY 20 (0+12) (t11 0 e t)
theorem gd {l:aj} {i:Nat} (hi:i < l.length) :l[i]?.getD []=l[i]:=by
 rw [List.getElem?_eq_getElem hi]
 rfl
theorem Fc {O:aj} (r:aw) (h:O.length≤1000) :decide ((O++[r]).length * 56≤room∧(O++[r]).length≤room)=true:=xo (by rw [List.length_append,List.length_singleton]; omega) (by omega)
theorem P1 (L n:Nat) {l:aj} (hl:l.length≤1000) (hz: ∀e∈l,aq z7 e=true) (t:Int) :
  aG (LB tab aV lR L (n+4) h460 j3) (PY l t (.d .af) 0 none none) (.ex 0,E90 (il 26 50026 7 (l.filter (bW 143 t))) (eP 60 7 (l.filter (bW 143 t))) (eR 60 7 (l.filter (bW 143 t)))):=by
 rw [← jE hz (bW 143 t)]
 refine mN (fun v i a1 a2=>PY l t v (i:Nat) a1 a2) E90 (s:=26) (s':=50026) (el:=60) (sz:=7) l.length (fun i=>bW 143 t (l[i]?.getD [])) (rowP l) ?_ ?_ ?_ ?_ ?_ ?_
 ·intro i hi k
  rw [Z3,cr hi,cond_true,bf hi,hz _ (List.getElem_mem hi),cond_true,bf hi,hz _ (List.getElem_mem hi),cond_true,a8 (by omega),gd hi,eh hi]
  rfl
 ·intro i hi O hO k
  rw [Z4,cr hi,cond_true,bf hi,hz _ (List.getElem_mem hi),cond_true,bf hi,hz _ (List.getElem_mem hi),cond_true,Fc _ (by omega),cond_true,a8 (by omega),gd hi,eh hi]
  rfl
 ·intro i hi O hO k
  rw [Z5,cr hi,cond_true,bf hi,hz _ (List.getElem_mem hi),cond_true,bf hi,hz _ (List.getElem_mem hi),cond_true,Fc _ (by omega),cond_true,a8 (by omega),gd hi,eh hi]
  rfl
 ·intro k
  rw [Z3,aO]
  rfl
 ·intro O k
  rw [Z4,aO]
  rfl
 ·intro O k
  rw [Z5,aO]
  rfl
theorem of9:(jk 143).ok Tryz.prog 46:=fun ds r hD hv=>by
 obtain ⟨x,t,rfl,hx,hl,hz⟩:=hD
 cases hv
 refine bI.kU hx ?_
 generalize ar x=l at *
 refine bI.GY (el:=60) (aL (lsp:=lR) a7 aY 20 (0+8) ((t9 0 l t).trans ?_))
 refine mO (P1 20 (0+4) hl hz t) (fun h=> ?_) (fun h=> ?_) (fun h=> ?_)
 ·rw [h]
  rfl
 ·cases ho:l.filter (bW 143 t) with
  | nil=>exact absurd ho h
  | cons a t=>rfl
 ·cases ho:l.filter (bW 143 t) with
  | nil=>exact absurd ho h
  | cons a t=>rfl
theorem H8: ∀f s,om f=some s→s.ok Tryz.prog f:=aM Z6 (aM of9 aY)
theorem KX (L n:Nat) {l:aj} (hl:l.length≤1000) (hz: ∀e∈l,aq z7 e=true) (t:Int) :
  aG (LB tab om lR L (n+4) h170 j2) (BX l t (.d .af) 0 none none) (.ex 0,PZ (il 25 50025 7 (l.filter (bW 86 t))) (eP 60 7 (l.filter (bW 86 t))) (eR 60 7 (l.filter (bW 86 t)))):=by
 rw [← jE hz (bW 86 t)]
 refine mN (fun v i a1 a2=>BX l t v (i:Nat) a1 a2) PZ (s:=25) (s':=50025) (el:=60) (sz:=7) l.length (fun i=>bW 86 t (l[i]?.getD [])) (rowP l) ?_ ?_ ?_ ?_ ?_ ?_
 ·intro i hi k
  rw [Mu,cr hi,cond_true,bf hi,hz _ (List.getElem_mem hi),cond_true]
  refine (au ⟨_,_,rfl⟩).trans ?_
  rw [bf hi,hz _ (List.getElem_mem hi),cond_true,a8 (by omega),gd hi,eh hi]
  rfl
 ·intro i hi O hO k
  rw [Mv,cr hi,cond_true,bf hi,hz _ (List.getElem_mem hi),cond_true]
  refine (au ⟨_,_,rfl⟩).trans ?_
  rw [bf hi,hz _ (List.getElem_mem hi),cond_true,Fc _ (by omega),cond_true,a8 (by omega),gd hi,eh hi]
  rfl
 ·intro i hi O hO k
  rw [Mw,cr hi,cond_true,bf hi,hz _ (List.getElem_mem hi),cond_true]
  refine (au ⟨_,_,rfl⟩).trans ?_
  rw [bf hi,hz _ (List.getElem_mem hi),cond_true,Fc _ (by omega),cond_true,a8 (by omega),gd hi,eh hi]
  rfl
 ·intro k
  rw [Mu,aO]
  rfl
 ·intro O k
  rw [Mv,aO]
  rfl
 ·intro O k
  rw [Mw,aO]
  rfl
theorem Z7:(jk 86).ok Tryz.prog 17:=fun ds r hD hv=>by
 obtain ⟨x,t,rfl,hx,hl,hz⟩:=hD
 cases hv
 refine bI.kU hx ?_
 generalize ar x=l at *
 refine bI.GY (el:=60) (aL (lsp:=lR) a7 H8 20 (0+8) ((t10 0 l t).trans ?_))
 refine mO (KX 20 (0+4) hl hz t) (fun h=> ?_) (fun h=> ?_) (fun h=> ?_)
 ·rw [h]
  rfl
 ·cases ho:l.filter (bW 86 t) with
  | nil=>exact absurd ho h
  | cons a t=>rfl
 ·cases ho:l.filter (bW 86 t) with
  | nil=>exact absurd ho h
  | cons a t=>rfl
def hdS (dec:aj→aj→Nat→Bool) :aR where
 D ds:= ∃x y,ds=[x,y]∧Sl 7 x∧Sl 1 y∧(ar x).length≤1000∧(ar y).length≤1000∧(∀e∈ar x,aq z7 e=true)∧n9 (ar y)
 val ds:=match ds with | [x,y]=>some (.ag false 7 (bH (ar x).length (dec (ar y) (ar x)) (rowP (ar x)))) | _=>none
theorem ub {l M:aj} (hl:l.length≤1000) (hz: ∀e∈l,aq z7 e=true) (hM:n9 M) {i:Nat} (hi:i < l.length) (b c:aH) :
  (cond (decide (i≤l.length)) (aA l[i]? fun e2=>cond (aq z7 e2) (aP ((jk 143).D [.ag false 7 (List.take i l),.int .i64 (aa e2 1).ak]) (aA l[i]? fun e6=>cond (aq z7 e6) (cond (decide ((aa e6 1).ak≥0)) (aA l[i]? fun rN=>cond (aq z7 rN) (cond (decide ((aa rN 1).ak < (M.length:Int)))
   (aA l[i]? fun qG=>cond (aq z7 qG) (cond (decide ((0:Int)≤(aa qG 1).ak)) (aA M[(aa qG 1).ak.toNat]? fun k9=>cond (aq z1 k9) (cond (decide (((List.filter (bW 143 (aa e2 1).ak) (List.take i l)).length:Int) < (aa k9 0).ak)) b c) none) none) none) c) none) c) none)) none) none)=cond (gD M l i) b c:=by
 have H0:=hz _ (List.getElem_mem hi)
 have hD:(jk 143).D [.ag false 7 (List.take i l),.int .i64 (aa l[i] 1).ak]:=⟨_,_,rfl,Sl.ag _ _ _,by show (List.take i l).length≤1000; rw [List.length_take]; omega,fun e he=>hz e (List.mem_of_mem_take he)⟩
 rw [decide_eq_true (show i≤l.length by omega),cond_true,bf hi,H0,cond_true]
 refine (au hD).trans ?_
 rw [bf hi,H0,cond_true,bf hi,H0,cond_true,bf hi,H0,cond_true]
 unfold gD
 rw [gd hi]
 have hf:ef l[i]=(aa l[i] 1).ak:=rfl
 rw [hf]
 cases h0:decide ((aa l[i] 1).ak≥(0:Int)) with
 | false=>rfl
 | true=>
  cases h1:decide ((aa l[i] 1).ak < (M.length:Int)) with
  | false=>rfl
  | true=>
   have h0':=of_decide_eq_true h0
   have Ln:=of_decide_eq_true h1
   have dZ:(aa l[i] 1).ak.toNat < M.length:=by omega
   simp only [cond_true]
   rw [bf dZ,(hM _ (List.getElem_mem dZ)).1,cond_true,gd dZ]
   rfl
theorem Z8 (L n:Nat) {l M:aj} (hl:l.length≤1000) (hz: ∀e∈l,aq z7 e=true) (hM:n9 M) :
  aG (LB tab om lR L (n+4) h190 jC) (Ab l M (.d .af) 0 none none) (.ex 0,P0 (il 58 50058 7 (bH l.length (gD M l) (rowP l))) (eP 60 7 (bH l.length (gD M l) (rowP l))) (eR 60 7 (bH l.length (gD M l) (rowP l)))):=by
 refine mN (fun v i a1 a2=>Ab l M v (i:Nat) a1 a2) P0 (s:=58) (s':=50058) (el:=60) (sz:=7) l.length (gD M l) (rowP l) ?_ ?_ ?_ ?_ ?_ ?_
 ·intro i hi k
  rw [Mx,cr hi,cond_true,a8 (by omega)]
  refine (ub hl hz hM hi _ _).trans ?_
  rw [bf hi,hz _ (List.getElem_mem hi),cond_true,eh hi]
  rfl
 ·intro i hi O hO k
  rw [My,cr hi,cond_true,a8 (by omega)]
  refine (ub hl hz hM hi _ _).trans ?_
  rw [bf hi,hz _ (List.getElem_mem hi),cond_true,Fc _ (by omega),cond_true,eh hi]
  rfl
 ·intro i hi O hO k
  rw [Mz,cr hi,cond_true,a8 (by omega)]
  refine (ub hl hz hM hi _ _).trans ?_
  rw [bf hi,hz _ (List.getElem_mem hi),cond_true,Fc _ (by omega),cond_true,eh hi]
  rfl
 ·intro k
  rw [Mx,aO]
  rfl
 ·intro O k
  rw [My,aO]
  rfl
 ·intro O k
  rw [Mz,aO]
  rfl
theorem KY:(hdS gD).ok Tryz.prog 19:=fun ds r hD hv=>by
 obtain ⟨x,y,rfl,hx,hy,hl,_,hz,hM⟩:=hD
 cases hv
 refine bI.Np hx hy ?_
 generalize ar x=l at *
 generalize ar y=M at *
 refine bI.GY (el:=60) (aL (lsp:=lR) a7 H8 20 (0+8) ((t20 0 l M).trans ?_))
 refine mO (Z8 20 (0+4) hl hz hM) (fun h=> ?_) (fun h=> ?_) (fun h=> ?_)
 ·rw [h]
  rfl
 ·cases ho:bH l.length (gD M l) (rowP l) with
  | nil=>exact absurd ho h
  | cons a t=>rfl
 ·cases ho:bH l.length (gD M l) (rowP l) with
  | nil=>exact absurd ho h
  | cons a t=>rfl
def vH (m c:Int) :Int:=if m≤0 then m else if m - c≥0 then m - c else 0
theorem P2 {m c:Int} (h: ¬ vH m c < 1) (hc:0≤c) :vH m c - 1=vH m (c+1):=by
 unfold vH at *
 by_cases h1:m≤0
 ·simp only [h1,if_true] at h
  omega
 ·simp only [h1,if_false] at h ⊢
  by_cases h2:m - c≥0
  ·simp only [h2,if_true] at h ⊢
   rw [if_pos (by omega)]
   omega
  ·simp only [h2,if_false] at h
   omega
theorem KZ {m c:Int} (h:vH m c < 1) (hc:0≤c) :vH m c=vH m (c+1):=by
 unfold vH at *
 by_cases h1:m≤0
 ·simp only [h1,if_true]
 ·simp only [h1,if_false] at h ⊢
  by_cases h2:m - c≥0
  ·simp only [h2,if_true] at h ⊢
   rw [if_neg (by omega)]
   omega
  ·simp only [h2,if_false] at h ⊢
   rw [if_neg (by omega)]
def pE (l:aj) (i:Nat) (f:Int) :Int:=(((l.take i).filter (bW 143 f)).length:Int)
theorem H9 (l:aj) {i:Nat} (hi:i < l.length) (f:Int) :pE l (i+1) f=pE l i f+ (if ef l[i]=f then 1 else 0):=by
 unfold pE
 rw [List.take_add_one,List.getElem?_eq_getElem hi,Option.toList_some,List.filter_append,List.length_append]
 have :bW 143 f l[i]=(ef l[i]==f):=rfl
 by_cases h:ef l[i]=f
 ·rw [if_pos h,List.filter_cons,if_pos (by rw [this,h]; simp)]
  simp
 ·rw [if_neg h,List.filter_cons,if_neg (by rw [this]; simp [h])]
  simp
theorem P3 (M l:aj) : ∀i,i≤l.length→ ∀f:Int,0≤f→f < (M.length:Int)→fe ((r8 M l i)[f.toNat]?.getD [])=vH (fe (M[f.toNat]?.getD [])) (pE l i f):=by
 intro i
 induction i with
 | zero=>
  intro _ f h0 h1
  show fe (M[f.toNat]?.getD [])=_
  have :pE l 0 f=0:=by simp [pE]
  rw [this]
  unfold vH
  split
  ·rfl
  ·split<;>omega
 | succ i ih=>
  intro hi f h0 h1
  have dZ:i < l.length:=by omega
  have hI:=ih (by omega) f h0 h1
  have hlen:=r9 M l i
  rw [H9 l dZ f]
  show fe ((px (r8 M l i) (l[i]?.getD []))[f.toNat]?.getD [])=_
  rw [gd dZ]
  have hfl:f.toNat < (r8 M l i).length:=by omega
  by_cases hf:ef l[i]=f
  ·rw [if_pos hf]
   unfold px qD
   rw [hf,hI,hlen]
   generalize fe (M[f.toNat]?.getD [])=m at hI ⊢
   have hc:0≤pE l i f:=by unfold pE; omega
   generalize pE l i f=c at *
   rw [decide_eq_false (show ¬ f < 0 by omega),decide_eq_false (show ¬ f≥(M.length:Int) by omega)]
   cases hd:decide (vH m c < 1) with
   | false=>
    have :=of_decide_eq_false hd
    simp only [Bool.or_self,Bool.not_false,Bool.and_self,cond_true]
    rw [List.getElem?_set_self hfl]
    exact P2 this hc
   | true=>
    have :=of_decide_eq_true hd
    simp only [Bool.or_self,Bool.not_false,Bool.not_true,Bool.and_false,cond_false]
    rw [hI]
    exact KZ this hc
  ·rw [if_neg hf,Int.add_zero,← hI]
   unfold px
   cases hd:qD (r8 M l i) l[i] with
   | false=>rfl
   | true=>
    rw [cond_true,List.getElem?_set_ne]
    unfold qD at hd
    simp at hd
    omega
theorem P4 (M l:aj) {i:Nat} (hi:i < l.length) :rz M l i=gD M l i:=by
 unfold rz gD qD
 rw [gd hi,r9]
 by_cases h0:ef l[i] < 0
 ·rw [decide_eq_true h0,decide_eq_false (show ¬ ef l[i]≥0 by omega)]
  rfl
 ·rw [decide_eq_false h0,decide_eq_true (show ef l[i]≥0 by omega)]
  by_cases h1:ef l[i] < (M.length:Int)
  ·rw [decide_eq_false (show ¬ ef l[i]≥(M.length:Int) by omega),decide_eq_true h1,P3 M l i (by omega) _ (by omega) h1]
   show (!decide (vH _ (pE l i (ef l[i])) < 1))=decide (pE l i (ef l[i]) < fe (M[(ef l[i]).toNat]?.getD []))
   generalize fe (M[(ef l[i]).toNat]?.getD [])=m
   have hc:0≤pE l i (ef l[i]):=by unfold pE; omega
   generalize pE l i (ef l[i])=c at *
   by_cases h:c < m
   ·rw [decide_eq_true h,decide_eq_false]
    ·rfl
    ·unfold vH
     split
     ·omega
     ·split<;>omega
   ·rw [decide_eq_false h,decide_eq_true]
    ·rfl
    ·unfold vH
     split
     ·omega
     ·split<;>omega
  ·rw [decide_eq_true (show ef l[i]≥(M.length:Int) by omega),decide_eq_false h1]
   rfl
theorem K0 (M l:aj) :bH l.length (rz M l) (rowP l)=bH l.length (gD M l) (rowP l):=Bz (fun i hi=>P4 M l hi) fun _ _=>rfl
end Go.Proofs.YtglbgfcegifeeaaGreat
namespace Go.Proofs.YtglbgfcegifeeaaGreat.Fz
open Go Go.Proofs Go.RowKit Vm
def dk (r M:aj) :aj:=bH r.length (gD M r) (rowP r)
def lg (ac bs ms qs l:aj) :aj:=cd ac.length (cZ ac bs ms qs l)
theorem H' (b:Bool) (x y:DV) :(DT.br b (.one x) (.one y)).val=some (cond b x y):=by cases b<;>rfl
def DE:aR where
 D ds:= ∃x y,ds=[x,y]∧Sl 7 x∧Sl 1 y∧(ar x).length≤1000∧(ar y).length≤1000∧(∀e∈ar x,aq z7 e=true)∧n9 (ar y)∧(ar y).isEmpty=false
 val ds:=match ds with | [x,y]=>some (cond (dk (ar x) (ar y)).isEmpty .af (.sl (.own 60) 7 (dk (ar x) (ar y)))) | _=>none
 alt ds:=match ds with | [x,y]=>some (.br (dk (ar x) (ar y)).isEmpty (.one .af) (.one (.sl (.own 60) 7 (dk (ar x) (ar y))))) | _=>none
 coh ds t h:=by
  split at h
  ·cases h
   exact H' _ _ _
  ·cases h
def xQ:aR where
 D ds:= ∃ac bs ms qs x,ds=[.agg (bk ac bs ms qs),x]∧BK ac bs ms qs∧Sl 7 x∧(ar x).length≤1000∧ ∀e∈ar x,PO ac.length e
 val ds:=match ds with | [.agg [.ag _ _ ac,.ag _ _ bs,.ag _ _ ms,.ag _ _ qs],x]=>some (cond (lg ac bs ms qs (ar x)).isEmpty .af (.sl (.own 3) 1 (lg ac bs ms qs (ar x)))) | _=>none
 alt ds:=match ds with | [.agg [.ag _ _ ac,.ag _ _ bs,.ag _ _ ms,.ag _ _ qs],x]=>some (.br (lg ac bs ms qs (ar x)).isEmpty (.one .af) (.one (.sl (.own 3) 1 (lg ac bs ms qs (ar x))))) | _=>none
 coh ds t h:=by
  split at h
  ·cases h
   exact H' _ _ _
  ·cases h
noncomputable def ld:FuncId→Option aR:=bL 42 DE (bL 52 xQ (bL 82 (jk 143) (bL 43 (jk 86) aV)))
def K1 (M:aj) (e:aw) :aj:=M.set (fe e).toNat [.int .i64 (fe (M[(fe e).toNat]?.getD []) - 1)]
def oc (M sh:aj) :aj:=sh.foldl K1 M
def Ac (ac bs ms qs r:aj) :Nat→aj→Int→aj×Int
 | 0,M,k=>(M,k)
 | f+1,M,k=>cond (lg ac bs ms qs (dk r M)).isEmpty (M,k+1) (Ac ac bs ms qs r f (oc M (lg ac bs ms qs (dk r M))) (k+1))
def xR (b:aw) (o1 o2:Option Ob) (s n:Nat) (k:Int) (r sh:aj) (i:Int) :St:=
 St.of [(3,.d (.aI b 0)),(6,.ah s 1 0 n),(7,.d (.int .i64 k)),(8,.d (.ag false 7 r)),(42,.ah 36 1 0 sh.length),(43,.d (.int .i64 (sh.length:Int))),(44,.d (.int .i64 i))] [(15,none),(28,o1),(36,some (.aC 3 1 sh)),(50028,o2),(3,none)]
def od (b:aw) (o1 o2:Option Ob) (s n:Nat) (k:Int) (r:aj) :St:=
 St.of [(3,.d (.aI b 0)),(6,.ah s 1 0 n),(7,.d (.int .i64 k)),(8,.d (.ag false 7 r))] [(15,none),(28,o1),(50028,o2),(3,none)]
def Fe (o1 o2:Option Ob) (s n:Nat) (k:Int) :St:=St.of [(6,.ah s 1 0 n),(7,.d (.int .i64 k))] [(28,o1),(50028,o2)]
def afL:bK:=fun st=>match st.env 3,st.env 6,st.env 7,st.env 8,st.aT 28,st.aT 50028 with
 | .d (.aI [.ag _ _ ac,.ag _ _ bs,.ag _ _ ms,.ag _ _ qs] _),.ah s _ _ n,.d (.int _ k),.d (.ag _ _ r),some (.aC _ _ M),_=> .one .ret (Fe (some (.aC 3 1 (Ac ac bs ms qs r (r.length+1) M k).1)) none s n (Ac ac bs ms qs r (r.length+1) M k).2)
 | .d (.aI [.ag _ _ ac,.ag _ _ bs,.ag _ _ ms,.ag _ _ qs] _),.ah s _ _ n,.d (.int _ k),.d (.ag _ _ r),_,some (.aC _ _ M)=> .one .ret (Fe none (some (.aC 3 1 (Ac ac bs ms qs r (r.length+1) M k).1)) s n (Ac ac bs ms qs r (r.length+1) M k).2)
 | _,_,_,_,_,_=> .no
def afM:bK:=fun st=>match st.env 3,st.env 6,st.env 7,st.env 8,st.aT 36,st.aT 28,st.aT 50028 with
 | .d (.aI b _),.ah s _ _ n,.d (.int _ k),.d (.ag _ _ r),some (.aC _ _ sh),some (.aC _ _ M),_=> .one (.ex 4) (od b (some (.aC 3 1 (oc M sh))) none s n k r)
 | .d (.aI b _),.ah s _ _ n,.d (.int _ k),.d (.ag _ _ r),some (.aC _ _ sh),_,some (.aC _ _ M)=> .one (.ex 4) (od b none (some (.aC 3 1 (oc M sh))) s n k r)
 | _,_,_,_,_,_,_=> .no
def x9 (k:Nat) :Option bK:=if k=412 then some afM else if k=411 then some afL else none
noncomputable def Ia (L m:Nat) (ac bs ms qs r l M:aj) (s n:Nat) (o1 o2 p1 p2:Option Ob) (k:Int) (K:aX) :aH:=
 cond (lg ac bs ms qs l).isEmpty (K .ret (Fe o1 o2 s n (IntKind.i64.wrap (k+1))))
  (cond (((lg ac bs ms qs l).length:Int)==(0:Int)) (K .ret (Fe o1 o2 s n (IntKind.i64.wrap (k+1))))
   (aP (aG (LB tab ld x9 L (m+4) h412 vW) (xR (bk ac bs ms qs) o1 o2 s n (IntKind.i64.wrap (k+1)) r (lg ac bs ms qs l) 0) (.ex 4,od (bk ac bs ms qs) p1 p2 s n (IntKind.i64.wrap (k+1)) r))
    (K .bC (od (bk ac bs ms qs) p1 p2 s n (IntKind.i64.wrap (k+1)) r))))
noncomputable def K2 (L m:Nat) (ac bs ms qs r M:aj) (s n:Nat) (o1 o2:Option Ob) (P:aj→Option Ob×Option Ob) (k:Int) (K:aX) :aH:=
 cond (decide (0+n≤M.length)) (aP (DE.D [.ag false 7 r,.sl .ro 1 (M.take n)])
  (cond (dk r (M.take n)).isEmpty
   (aP (xQ.D [.agg (bk ac bs ms qs),.af]) (Ia L m ac bs ms qs r [] M s n o1 o2 (P (lg ac bs ms qs [])).1 (P (lg ac bs ms qs [])).2 k K))
   (cond (true&& !(DV.sl (.own 60) 7 (dk r (M.take n))).plain) none (aP (xQ.D [.agg (bk ac bs ms qs),.sl .ro 7 (dk r (M.take n))])
    (Ia L m ac bs ms qs r (dk r (M.take n)) M s n o1 o2 (P (lg ac bs ms qs (dk r (M.take n)))).1 (P (lg ac bs ms qs (dk r (M.take n)))).2 k K))))) none
theorem Z9 (L m n:Nat) (ac bs ms qs M r:aj) (k:Int) (K:aX) :LB tab ld x9 L (m+4) h411 rn (od (bk ac bs ms qs) (some (.aC 3 1 M)) none 28 n k r) K=
 K2 L m ac bs ms qs r M 28 n (some (.aC 3 1 M)) none (fun sh=>(some (.aC 3 1 (oc M sh)),none)) k K:=by kernel_rfl
theorem Z' (L m n:Nat) (ac bs ms qs M r:aj) (k:Int) (K:aX) :LB tab ld x9 L (m+4) h411 rn (od (bk ac bs ms qs) none (some (.aC 3 1 M)) 50028 n k r) K=
 K2 L m ac bs ms qs r M 50028 n none (some (.aC 3 1 M)) (fun sh=>(none,some (.aC 3 1 (oc M sh)))) k K:=by kernel_rfl
def Ib (b:aw) (M r sh:aj) (s n:Nat) (P:aj→Option Ob×Option Ob) (k:Int) (i:Nat) (K:aX) :aH:=
 cond (decide ((i:Int) < (sh.length:Int))) (cond (decide ((0:Int)≤(i:Int))) (cond (decide ((i:Int) < (sh.length:Int))) (aA sh[0+ ((i:Nat) :Int).toNat]? fun e=>aA e[0]? fun x=>cond ((DV.int .i64 0).uv x)
  (jJ (fun v=>v - 1) n M x.ak fun M2=>K .bC (xR b (P M2).1 (P M2).2 s n k r sh (IntKind.i64.wrap ((i:Int)+1)))) none) none) none)
  (K (.ex 4) (od b (P M).1 (P M).2 s n k r))
theorem aaa (L m n:Nat) (x y z u:DV) (M r sh:aj) (k:Int) (i:Nat) (K:aX) :LB tab ld x9 L (m+4) h412 vW (xR [x,y,z,u] (some (.aC 3 1 M)) none 28 n k r sh i) K=
 Ib [x,y,z,u] M r sh 28 n (fun M=>(some (.aC 3 1 M),none)) k i K:=by kernel_rfl
theorem aab (L m n:Nat) (x y z u:DV) (M r sh:aj) (k:Int) (i:Nat) (K:aX) :LB tab ld x9 L (m+4) h412 vW (xR [x,y,z,u] none (some (.aC 3 1 M)) 50028 n k r sh i) K=
 Ib [x,y,z,u] M r sh 50028 n (fun M=>(none,some (.aC 3 1 M))) k i K:=by kernel_rfl
structure KV (s:Nat) (P:aj→Option Ob×Option Ob) :Prop where
 afN: ∀(L m n:Nat) (ac bs ms qs M r:aj) (k:Int) (K:aX),LB tab ld x9 L (m+4) h411 rn (od (bk ac bs ms qs) (P M).1 (P M).2 s n k r) K=K2 L m ac bs ms qs r M s n (P M).1 (P M).2 (fun sh=>P (oc M sh)) k K
 aac: ∀(L m n:Nat) (x y z u:DV) (M r sh:aj) (k:Int) (i:Nat) (K:aX),LB tab ld x9 L (m+4) h412 vW (xR [x,y,z,u] (P M).1 (P M).2 s n k r sh i) K=Ib [x,y,z,u] M r sh s n P k i K
theorem kvA:KV 28 fun M=>(some (.aC 3 1 M),none):=⟨fun L m n ac bs ms qs M r k K=>Z9 L m n ac bs ms qs M r k K,fun L m n x y z u M r sh k i K=>aaa L m n x y z u M r sh k i K⟩
theorem kvB:KV 50028 fun M=>(none,some (.aC 3 1 M)):=⟨fun L m n ac bs ms qs M r k K=>Z' L m n ac bs ms qs M r k K,fun L m n x y z u M r sh k i K=>aab L m n x y z u M r sh k i K⟩
def qH (P:Nat→Bool) (n:Nat) :List Nat:=(List.range n).filter P
theorem uc (n:Nat) (P:Nat→Bool) :cd n P=(qH P n).map fun i=>[.int .i64 ((i:Nat) :Int)]:=rfl
theorem sd {P:Nat→Bool} {n i:Nat} :i∈qH P n↔i < n∧P i=true:=by
 unfold qH
 rw [List.mem_filter,List.mem_range]
theorem BY (P:Nat→Bool) (n:Nat) :(qH P n).Nodup:=List.Pairwise.filter _ List.nodup_range
def dm (L:List Nat) (g:Nat→Int) (i:Nat) :Int:=if i∈L then g i - 1 else g i
theorem BZ {n:Nat} (g:Nat→Int) {a:Nat} (ha:a < n) :K1 (cells n g) [.int .i64 ((a:Nat) :Int)]=cells n fun j=>if j=a then g a - 1 else g j:=by
 unfold K1
 rw [show fe [DV.int .i64 ((a:Nat) :Int)]=((a:Nat) :Int) from rfl,Int.toNat_natCast,cW _ ha]
 exact vY g _ ha
theorem oe {n:Nat} : ∀(L:List Nat) (g:Nat→Int),L.Nodup→(∀a∈L,a < n)→oc (cells n g) (L.map fun i=>[.int .i64 ((i:Nat) :Int)])=cells n (dm L g)
 | [],g,_,_=>by
  unfold dm
  simp [oc]
 | a::t,g,hn,hl=>by
  rw [List.nodup_cons] at hn
  have ha:=hl a (by simp)
  show oc (K1 (cells n g) [.int .i64 ((a:Nat) :Int)]) (t.map fun i=>[.int .i64 ((i:Nat) :Int)])=_
  rw [BZ g ha,oe t _ hn.2 fun b hb=>hl b (List.mem_cons.2 (.inr hb))]
  refine gW fun j _=> ?_
  unfold dm
  by_cases hj:j=a
  ·subst hj
   simp [hn.1]
  ·simp [hj]
theorem K3 {L:List Nat} {g:Nat→Int} {n:Nat} {B:Int} (h: ∀i,i < n→0≤g i∧g i≤B) : ∀i,i < n→ -1≤dm L g i∧dm L g i≤B:=fun i hi=>by
 have :=h i hi
 unfold dm
 split<;>omega
theorem K4 {s:Nat} {P:aj→Option Ob×Option Ob} (H:KV s P) (L m:Nat) {n:Nat} (x y z u:DV) (r:aj) (k:Int) {I:List Nat} {g:Nat→Int} (hI:I.Nodup) (hl: ∀a∈I,a < n) (hn:n≤6) (hg: ∀i,i < n→0≤g i∧g i≤5000) (hlen:I.length≤100) :
  aG (LB tab ld x9 L (m+4) h412 vW) (xR [x,y,z,u] (P (cells n g)).1 (P (cells n g)).2 s n k r (I.map fun i=>[.int .i64 ((i:Nat) :Int)]) 0) (.ex 4,od [x,y,z,u] (P (cells n (dm I g))).1 (P (cells n (dm I g))).2 s n k r):=by
 have h0:xR [x,y,z,u] (P (cells n g)).1 (P (cells n g)).2 s n k r (I.map fun i=>[.int .i64 ((i:Nat) :Int)]) 0=xR [x,y,z,u] (P (cells n (dm (I.take 0) g))).1 (P (cells n (dm (I.take 0) g))).2 s n k r (I.map fun i=>[.int .i64 ((i:Nat) :Int)]) ((0:Nat) :Int):=by
  have :cells n (dm (I.take 0) g)=cells n g:=gW fun j _=>by simp [dm]
  rw [this]
  rfl
 rw [h0]
 refine ez (fun j:Nat=>xR [x,y,z,u] (P (cells n (dm (I.take j) g))).1 (P (cells n (dm (I.take j) g))).2 s n k r (I.map fun i=>[.int .i64 ((i:Nat) :Int)]) (j:Nat)) (fun j=>I.length - j) (fun j=>j≤I.length) (fun _=>(.ex 4,od [x,y,z,u] (P (cells n (dm I g))).1 (P (cells n (dm I g))).2 s n k r)) (fun j hs=> ?_) 0 (Nat.zero_le _)
 by_cases hj:j < I.length
 ·left
  refine ⟨j+1,hj,by omega,rfl,fun K=> ?_⟩
  have ha:=hl _ (List.getElem_mem hj)
  have hni:I[j] ∉ I.take j:=fun hc=>by
   obtain ⟨q,hq,he⟩:=List.mem_iff_getElem.1 hc
   rw [List.getElem_take] at he
   rw [List.length_take] at hq
   exact List.pairwise_iff_getElem.1 hI q j (by omega) hj (by omega) he
  have hb:=K3 (L:=I.take j) hg _ ha
  rw [H.aac,Ib,List.length_map,cr hj,cond_true,decide_eq_true (show (0:Int)≤(j:Int) by omega),cond_true,cond_true,Int.toNat_natCast,Nat.zero_add,List.getElem?_map,List.getElem?_eq_getElem hj,Option.map_some,dW,List.getElem?_cons_zero,dW]
  rw [show ((DV.int .i64 0).uv (.int .i64 ((I[j] :Nat) :Int)))=true from rfl,cond_true,xn,gg (h:=fun v=>v - 1) rfl ha (by omega) (by omega),a8 (by omega)]
  have :(cells n fun i=>if i=I[j] then dm (I.take j) g I[j] - 1 else dm (I.take j) g i)=cells n (dm (I.take (j+1)) g):=gW fun i _=>by
   have hm:i∈I.take (j+1)↔i∈I.take j∨i=I[j]:=by
    rw [List.take_succ_eq_append_getElem hj,List.mem_append,List.mem_singleton]
   unfold dm
   by_cases hi:i=I[j]
   ·subst hi
    rw [if_pos rfl,if_neg hni,if_pos (hm.2 (.inr rfl))]
   ·rw [if_neg hi]
    by_cases h2:i∈I.take j
    ·rw [if_pos h2,if_pos (hm.2 (.inl h2))]
    ·rw [if_neg h2,if_neg fun h=>(hm.1 h).elim h2 hi]
  rw [this]
 ·right
  have RT:j=I.length:=by omega
  subst RT
  refine ⟨by simp,fun K=> ?_⟩
  rw [H.aac,Ib,List.length_map,aO,cond_false,List.take_length]
theorem PB.ok.bk {b:PB} (h:b.ok) :BK (acc b.n b.gl b.dj b.res) (eT (sq b.n b.jI)) (cells b.n b.mul) (eT (sq b.n b.pos)):=by
 have aad: ∀v:Nat→Nat→Int,(∀i j,i < b.n→j < b.n→tK (v i j))→Mat (eT (sq b.n v)):=fun v hv e he=>by
  unfold eT sq at he
  rw [List.map_map] at he
  obtain ⟨i,hi,rfl⟩:=List.mem_map.1 he
  refine ⟨rfl,rfl,fun r hr=> ?_⟩
  obtain ⟨j,hj,rfl⟩:=List.mem_map.1 (show r∈cells b.n (v i) from hr)
  exact ⟨rfl,hv i j (List.mem_range.1 hi) (List.mem_range.1 hj)⟩
 refine ⟨⟨fun e he=> ?_,aad _ fun i j hi hj=> ?_,fun e he=> ?_,aad _ fun i j hi hj=> ?_⟩,?_,?_,?_,?_,?_,fun i hi=> ?_,fun i hi=> ?_,fun i hi=> ?_,fun i hi=> ?_,fun i j hi hj=> ?_,fun i j hi hj=> ?_⟩
 ·obtain ⟨j,_,rfl⟩:=List.mem_map.1 he
  rfl
 ·have :=h.cb i j hi hj
  unfold tK
  omega
 ·obtain ⟨j,hj,rfl⟩:=List.mem_map.1 he
  have :=h.cm j (List.mem_range.1 hj)
  refine ⟨rfl,?_⟩
  show tK (b.mul j)
  unfold tK
  omega
 ·have :=h.cq i j hi hj
  unfold tK
  omega
 ·have :=h.n3
  rw [b8]
  omega
 ·rw [b8]; exact h.n6
 ·rw [xK,mr,b8]
 ·rw [cM,b8]
 ·rw [xK,mr,b8]
 ·rw [b8] at hi ⊢
  rw [BP _ hi,cM]
 ·rw [b8] at hi ⊢
  rw [BP _ hi,cM]
 ·rw [b8] at hi
  obtain ⟨h1,h2,h3⟩:=DA b.gl b.dj b.res hi
  rw [h1,h2,h3]
  exact h.ca i hi
 ·rw [b8] at hi
  show -1≤fe ((cells b.n b.mul)[i]?.getD [])∧fe ((cells b.n b.mul)[i]?.getD [])≤_
  rw [cW _ hi]
  exact h.cm i hi
 ·rw [b8] at hi hj
  rw [pB _ hi hj]
  exact h.cb i j hi hj
 ·rw [b8] at hi hj
  rw [pB _ hi hj]
  exact h.cq i j hi hj
theorem eh {l:aj} (hz: ∀e∈l,aq z7 e=true) {i:Nat} (hi:i < l.length) :rowP l i=l[i]:=by
 unfold rowP
 rw [List.getElem?_eq_getElem hi]
 exact XC (hz _ (List.getElem_mem hi))
theorem xS {r M:aj} (hz: ∀e∈r,aq z7 e=true) {e:aw} (he:e∈dk r M) : ∃i,∃h:i < r.length,gD M r i=true∧r[i]=e:=by
 unfold dk bH at he
 obtain ⟨i,hi,rfl⟩:=List.mem_map.1 he
 rw [List.mem_filter,List.mem_range] at hi
 exact ⟨i,hi.1,hi.2,(eh hz hi.1).symm⟩
theorem se {r M:aj} (hz: ∀e∈r,aq z7 e=true) {e:aw} (he:e∈dk r M) :e∈r:=by
 obtain ⟨i,hi,_,rfl⟩:=xS hz he
 exact List.getElem_mem hi
theorem pG (r M:aj) :(dk r M).length≤r.length:=tE _ _ _
theorem B0: ∀{O:aj},(∀e∈O,aq z7 e=true)→(DV.sl (.own 60) 7 O).plain=true:=fun {O} h=>by
 show jr O=true
 induction O with
 | nil=>rfl
 | cons e t ih=>
  obtain ⟨a0,a1,a2,a3,a4,a5,a6,rfl⟩:=fB (h e (by simp))
  exact ih fun e he=>h e (List.mem_cons.2 (.inr he))
theorem Ic {r:aj} {n:Nat} {g:Nat→Int} (hz: ∀e∈r,aq z7 e=true) {i:Nat} (hi:i < n) (h:(dk r (cells n g)).any (bW (De (i:Nat)))=true) :1≤g i:=by
 obtain ⟨e,he,hf⟩:=List.any_eq_true.1 h
 obtain ⟨j,hj,hb,rfl⟩:=xS hz he
 have hf:(pF r[j]==((i:Nat) :Int))=true:=hf
 have hf:=eq_of_beq hf
 unfold gD at hb
 rw [List.getElem?_eq_getElem hj] at hb
 have Sh:ef (some r[j] |>.getD [])=((i:Nat) :Int):=hf
 rw [Sh,decide_eq_true (show ((i:Nat) :Int)≥0 by omega),cond_true,cM,decide_eq_true (show ((i:Nat) :Int) < (n:Int) by omega),cond_true,decide_eq_true_eq,Int.toNat_natCast,cW _ hi] at hb
 have hb:_ < g i:=hb
 omega
theorem qI {g:Nat→Int} {L:List Nat} : ∀n:Nat,cf (dm L g) n+ (((List.range n).filter fun i=>decide (i∈L)).length:Int)=cf g n
 | 0=>rfl
 | n+1=>by
  have ih:=qI (g:=g) (L:=L) n
  rw [List.range_succ,List.filter_append,List.length_append]
  simp only [cf]
  by_cases h:n∈L
  ·rw [show dm L g n=g n - 1 from if_pos h]
   simp only [List.filter_cons,List.filter_nil,h,decide_true,if_true,List.length_cons,List.length_nil]
   omega
  ·rw [show dm L g n=g n from if_neg h]
   simp only [List.filter_cons,List.filter_nil,h,decide_false,Bool.false_eq_true,if_false,List.length_nil]
   omega
theorem mT {g:Nat→Int} : ∀{n:Nat},(∀i,i < n→0≤g i)→0≤cf g n∧ ∀i,i < n→g i≤cf g n
 | 0,_=>⟨Int.le_refl 0,fun i hi=>by omega⟩
 | n+1,h=>by
  obtain ⟨h1,h2⟩:=mT (g:=g) (n:=n) fun i hi=>h i (by omega)
  have h3:=h n (by omega)
  simp only [cf]
  refine ⟨by omega,fun i hi=> ?_⟩
  by_cases Aq:i=n
  ·subst Aq; omega
  ·have :=h2 i (by omega)
   omega
abbrev PB.a (b:PB) :aj:=acc b.n b.gl b.dj b.res
abbrev PB.l (b:PB) :aj:=eT (sq b.n b.jI)
abbrev PB.m (b:PB) :aj:=cells b.n b.mul
abbrev PB.q (b:PB) :aj:=eT (sq b.n b.pos)
theorem MA {s:Nat} {P:aj→Option Ob×Option Ob} (H:KV s P) {b:PB} (hb:b.ok) {r:aj} (hr:r.length≤1000) (hp: ∀e∈r,PO b.n e) (L m:Nat) :
  ∀(f:Nat) (g:Nat→Int) (k:Int),(∀i,i < b.n→0≤g i)→cf g b.n < f→f≤2000→0≤k→k+f≤3000→
   aG (LB tab ld x9 L (m+4) h411 rn) (od b.dv (P (cells b.n g)).1 (P (cells b.n g)).2 s b.n k r) (.ret,Fe (P (Ac b.a b.l b.m b.q r f (cells b.n g) k).1).1 (P (Ac b.a b.l b.m b.q r f (cells b.n g) k).1).2 s b.n (Ac b.a b.l b.m b.q r f (cells b.n g) k).2)
 | 0,g,k,h0,h1,_,_,_=>by
  have :=(mT h0).1
  omega
 | f+1,g,k,h0,h1,h2,h3,h4=>by
  have hz: ∀e∈r,aq z7 e=true:=fun e he=>(hp e he).z
  have Ie:=mT h0
  have YH: ∀i,i < b.n→0≤g i∧g i≤5000:=fun i hi=>⟨h0 i hi,by have :=Ie.2 i hi; omega⟩
  have hbk:=hb.bk
  have jx: ∀K,LB tab ld x9 L (m+4) h411 rn (od b.dv (P (cells b.n g)).1 (P (cells b.n g)).2 s b.n k r) K=
    Ia L m b.a b.l b.m b.q r (dk r (cells b.n g)) (cells b.n g) s b.n (P (cells b.n g)).1 (P (cells b.n g)).2 (P (oc (cells b.n g) (lg b.a b.l b.m b.q (dk r (cells b.n g))))).1 (P (oc (cells b.n g) (lg b.a b.l b.m b.q (dk r (cells b.n g))))).2 k K:=fun K=>by
   refine (H.afN L m b.n b.a b.l b.m b.q (cells b.n g) r k K).trans ?_
   unfold K2
   rw [cM,Nat.zero_add,decide_eq_true (Nat.le_refl _),cond_true]
   have ht:(cells b.n g).take b.n=cells b.n g:=by
    rw [List.take_of_length_le (by rw [cM]; exact Nat.le_refl _)]
   rw [ht]
   have hIn:n9 (cells b.n g):=fun e he=>by
    obtain ⟨j,hj,rfl⟩:=List.mem_map.1 he
    have :=YH j (List.mem_range.1 hj)
    refine ⟨rfl,?_⟩
    show _≤g j∧g j≤_
    omega
   have cu:(cells b.n g).isEmpty=false:=by
    have h3:=hb.n3
    cases hc:cells b.n g with
    | nil=>
     have :=cM b.n g
     rw [hc] at this
     simp at this
     omega
    | cons a t=>rfl
   refine (au ⟨_,_,rfl,Sl.ag _ _ _,Sl.sl _ _ _,hr,by show (cells b.n g).length≤1000; rw [cM]; have :=hb.n6; omega,hz,hIn,cu⟩).trans ?_
   have hO: ∀e∈dk r (cells b.n g),PO b.n e:=fun e he=>hp e (se hz he)
   cases he:(dk r (cells b.n g)).isEmpty with
   | true=>
    have p':dk r (cells b.n g)=[]:=List.isEmpty_iff.1 he
    rw [p']
    exact au ⟨_,_,_,_,_,rfl,hbk,Sl.nil _,by show ([] :aj).length≤1000; simp,fun e he=>by cases he⟩
   | false=>
    rw [cond_false,B0 fun e he=>(hO e he).z]
    exact au ⟨_,_,_,_,_,rfl,hbk,Sl.sl _ _ _,Nat.le_trans (pG _ _) hr,fun e he=>by rw [b8]; exact hO e he⟩
  have P5:Ac b.a b.l b.m b.q r (f+1) (cells b.n g) k=cond (lg b.a b.l b.m b.q (dk r (cells b.n g))).isEmpty (cells b.n g,k+1) (Ac b.a b.l b.m b.q r f (oc (cells b.n g) (lg b.a b.l b.m b.q (dk r (cells b.n g)))) (k+1)):=rfl
  rw [P5]
  have hw:IntKind.i64.wrap (k+1)=k+1:=bx (by omega) (by omega)
  cases he:(lg b.a b.l b.m b.q (dk r (cells b.n g))).isEmpty with
  | true=>
   rw [cond_true]
   refine tD (by simp) fun K=> ?_
   rw [jx,Ia,he,cond_true,hw]
  | false=>
   rw [cond_false]
   have hI:lg b.a b.l b.m b.q (dk r (cells b.n g))=(qH (cZ b.a b.l b.m b.q (dk r (cells b.n g))) b.n).map fun i=>[.int .i64 ((i:Nat) :Int)]:=by
    unfold lg
    rw [uc,b8]
   have jT: ∀i∈qH (cZ b.a b.l b.m b.q (dk r (cells b.n g))) b.n,i < b.n∧1≤g i:=fun i hi=>by
    obtain ⟨h5,h6⟩:=sd.1 hi
    unfold cZ at h6
    rw [Bool.and_eq_true] at h6
    exact ⟨h5,Ic hz h5 h6.1⟩
   have hd:=oe (n:=b.n) (qH (cZ b.a b.l b.m b.q (dk r (cells b.n g))) b.n) g (BY _ _) fun a ha=>(jT a ha).1
   have aae:(qH (cZ b.a b.l b.m b.q (dk r (cells b.n g))) b.n).length≤100:=by
    unfold qH
    have :=List.length_filter_le (cZ b.a b.l b.m b.q (dk r (cells b.n g))) (List.range b.n)
    rw [List.length_range] at this
    have :=hb.n6
    omega
   have hL:=K4 H L m (.ag false 3 b.a) (.ag false 1 b.l) (.ag false 1 b.m) (.ag false 1 b.q) r (k+1) (BY (cZ b.a b.l b.m b.q (dk r (cells b.n g))) b.n) (fun a ha=>(jT a ha).1) hb.n6 YH aae
   rw [← hd,← hI] at hL
   have QC: ∀K,LB tab ld x9 L (m+4) h411 rn (od b.dv (P (cells b.n g)).1 (P (cells b.n g)).2 s b.n k r) K=K .bC (od b.dv (P (oc (cells b.n g) (lg b.a b.l b.m b.q (dk r (cells b.n g))))).1 (P (oc (cells b.n g) (lg b.a b.l b.m b.q (dk r (cells b.n g))))).2 s b.n (k+1) r):=fun K=>by
    rw [jx,Ia,he,cond_false,tR,he,cond_false,hw]
    exact au hL
   have cu:qH (cZ b.a b.l b.m b.q (dk r (cells b.n g))) b.n≠[]:=fun hc=>by
    rw [hI,hc] at he
    cases he
   obtain ⟨q,hq⟩:=List.exists_mem_of_ne_nil _ cu
   have afO:1≤((List.range b.n).filter fun i=>decide (i∈qH (cZ b.a b.l b.m b.q (dk r (cells b.n g))) b.n)).length:=by
    refine List.length_pos_of_mem (a:=q) ?_
    rw [List.mem_filter]
    exact ⟨List.mem_range.2 (jT q hq).1,decide_eq_true hq⟩
   have aaf:=qI (g:=g) (L:=qH (cZ b.a b.l b.m b.q (dk r (cells b.n g))) b.n) b.n
   have Z0: ∀i,i < b.n→0≤dm (qH (cZ b.a b.l b.m b.q (dk r (cells b.n g))) b.n) g i:=fun i hi=>by
    have :=h0 i hi
    unfold dm
    split
    ·rename_i hm
     have :=(jT i hm).2
     omega
    ·omega
   have ih:=MA H hb hr hp L m f (dm (qH (cZ b.a b.l b.m b.q (dk r (cells b.n g))) b.n) g) (k+1) Z0 (by omega) (by omega) (by omega) (by omega)
   rw [← hd,← hI] at ih
   obtain ⟨N,hN⟩:=ih
   refine ⟨N+1,fun K=> ?_⟩
   rw [jh,QC]
   exact hN K
def dn (l:aj) (t:Int) :aj:=l.filter (Go.Proofs.YtglbgfcegifeeaaGreat.bW 86 t)
def nt (r:aj) (i:Nat) :Int:=(((r.filter (Go.Proofs.YtglbgfcegifeeaaGreat.bW 143 ((i:Nat) :Int))).length:Nat) :Int)
def gm (ac bs ms qs l:aj) (t:Int) :aj×Int:=Ac ac bs ms qs (dn l t) ((dn l t).length+1) (cells ac.length (nt (dn l t))) 0
def sK (n:Nat) :Nat:=cond (Nat.beq (n % 2) 1) 28 50028
def PK (n:Nat) (M:aj) :Option Ob×Option Ob:=cond (Nat.beq (n % 2) 1) (some (.aC 3 1 M),none) (none,some (.aC 3 1 M))
noncomputable def Ig:Nat→Nat→aj→aH→aH
 | 0,_,_,K=>K
 | c+1,i,r,K=>aP ((jk 143).D [.ag false 7 r,.int .i64 ((i:Nat) :Int)]) (Ig c (i+1) r K)
noncomputable def T41 (m n:Nat) (A bs ms qs l M0:aj) (t:Int) (X:aj×Int) :aH:=
 aP ((jk 86).D [.ag false 7 l,.int .i64 t]) (Ig n 0 (dn l t)
  (aP (aG (LB tab ld x9 20 (m+8) h411 rn) (od (bk A bs ms qs) (PK n M0).1 (PK n M0).2 (sK n) n 0 (dn l t)) (.ret,Fe (PK n X.1).1 (PK n X.1).2 (sK n) n X.2))
   (cond (decide (n=X.1.length)) (some (.tuple [.sl (.own 3) 1 X.1,.int .i64 X.2])) (cond (decide (n≤X.1.length)) (some (.tuple [.sl .ro 1 (X.1.take n),.int .i64 X.2])) none))))
theorem afP {n:Nat} (h:3≤n∧n≤6) (m:Nat) (a:Nat→aw) (bs ms qs l:aj) (t:Int) :
  FK tab ld x9 20 (m+8) 41 [.agg (bk (tb n 0 a) bs ms qs),.ag false 7 l,.int .i64 t]=
   T41 m n (tb n 0 a) bs ms qs l (tb n 0 fun i=>[.int .i64 (nt (dn l t) i)]) t (Ac (tb n 0 a) bs ms qs (dn l t) ((dn l t).length+1) (tb n 0 fun i=>[.int .i64 (nt (dn l t) i)]) 0):=by
 obtain ⟨h1,h2⟩:=h
 obtain ⟨n,rfl⟩ : ∃c,n=c+3:=⟨n - 3,by omega⟩
 match n,h2 with
 | 0,_=>show FK tab ld x9 20 (m+8) 41 _=_; kernel_rfl
 | 1,_=>show FK tab ld x9 20 (m+8) 41 _=_; kernel_rfl
 | 2,_=>show FK tab ld x9 20 (m+8) 41 _=_; kernel_rfl
 | 3,_=>show FK tab ld x9 20 (m+8) 41 _=_; kernel_rfl
 | c+4,h=>omega
def DF:aR where
 D ds:= ∃b x t,ds=[.agg (PB.dv b),x,.int .i64 t]∧b.ok∧Sl 7 x∧(ar x).length≤1000∧ ∀e∈ar x,PO b.n e
 val ds:=match ds with | [.agg [.ag _ _ ac,.ag _ _ bs,.ag _ _ ms,.ag _ _ qs],x,.int _ t]=>some (.tuple [.ag false 1 (gm ac bs ms qs (ar x) t).1,.int .i64 (gm ac bs ms qs (ar x) t).2]) | _=>none
def DG:aR where
 D:=DE.D
 val ds:=match ds with | [x,y]=>some (.ag false 7 (dk (ar x) (ar y))) | _=>none
noncomputable def B1:FuncId→Option aR:=bL 41 DF (bL 42 DG (bL 43 (jk 86) (bL 44 Dz (bL 45 PM aV))))
def dG (l all:aj) :aj:=all.foldl (fun m e=>ir m (fy e)) l
def Ih (b:aw) (left all:aj) (i:Int) :St:=St.of [(6,.ptr 6 4 0 0),(7,.d (.ag false 7 left)),(11,.d (.ag false 7 all)),(38,.d (.ag false 7 all)),(39,.d (.int .i64 (all.length:Int))),(40,.d (.int .i64 i))] [(26,none),(30,none),(48,none),(100048,none),(6,some (.aC 31 4 [b]))]
def P6 (b:aw) (left all:aj) :St:=St.of [(6,.ptr 6 4 0 0),(7,.d (.ag false 7 left)),(11,.d (.ag false 7 all))] [(26,none),(30,none),(48,none),(100048,none),(6,some (.aC 31 4 [b]))]
def afQ:bK:=fun st=>match st.env 7,st.env 11,st.aT 6 with
 | .d (.ag _ _ l),.d (.ag _ _ all),some (.aC _ _ [[x,y,z,u]])=> .one (.ex 0) (P6 [x,y,z,u] (dG l all) all)
 | _,_,_=> .no
def MB (k:Nat) :Option bK:=if k=180 then some afQ else none
theorem aag (L m:Nat) (x y z u:DV) (left all:aj) (i:Nat) (K:aX) :LB tab B1 MB L (m+4) h180 C8 (Ih [x,y,z,u] left all i) K=
  (bif decide ((↑i:Int) < (↑all.length:Int)) then
 aA all[i]? fun (e1:aw)=>
 bif aq Cd.bg e1 then
 aP (PM.D [DV.ag false 7 left,DV.int .i64 (aa e1 0).ak])
 (K Ex.bC
 (St.of
 [(6,AV.ptr 6 4 0 0),(7,AV.d (DV.ag false 7 (ir left (aa e1 0).ak))),
 ((11:Nat),AV.d (DV.ag false 7 all)),(38,AV.d (DV.ag false 7 all)),
 ((39:Nat),AV.d (DV.int .i64 (↑all.length:Int))),
 ((40:Nat),AV.d (DV.int .i64 (IntKind.i64.wrap ((↑i:Int)+ (1:Int)))))]
 [(26,none),(30,none),(48,none),(100048,none),
 ((6:Nat),some (Ob.aC 31 4 [[x,y,z,u]]))]))
 else none
 else
 K (Ex.ex (0:Nat))
 (St.of
 [(6,AV.ptr 6 4 0 0),(7,AV.d (DV.ag false 7 left)),
 ((11:Nat),AV.d (DV.ag false 7 all))]
 [(26,none),(30,none),(48,none),(100048,none),
 ((6:Nat),some (Ob.aC 31 4 [[x,y,z,u]]))])):=by kernel_rfl
theorem u18 (m:Nat) (ac bs ms qs l:aj) (t:Int) :FK tab B1 MB 20 (m+8) 18 [.agg (bk ac bs ms qs),.ag false 7 l,.int .i64 t]=
  (aP
 (DF.D
 [DV.agg [DV.ag false 3 ac,DV.ag false 1 bs,DV.ag false 1 ms,DV.ag false 1 qs],DV.ag false 7 l,DV.int .i64 t])
 (aP ((jk (86:FuncId)).D [DV.ag false 7 l,DV.int .i64 t])
 (aP
 (DG.D [DV.ag false 7 (List.filter (YtglbgfcegifeeaaGreat.bW (86:FuncId) t) l),DV.ag false 1 (gm ac bs ms qs l t).fst])
 (aP
 (Dz.D
 [DV.agg [DV.ag false 3 ac,DV.ag false 1 bs,DV.ag false 1 ms,DV.ag false 1 qs],
 DV.ag false 7 (dk (List.filter (YtglbgfcegifeeaaGreat.bW (86:FuncId) t) l) (gm ac bs ms qs l t).fst)])
 (bif jm ac bs ms qs (dk (List.filter (YtglbgfcegifeeaaGreat.bW (86:FuncId) t) l) (gm ac bs ms qs l t).fst) !=(0:Int) then
 some
 (DV.tuple
 [DV.agg [DV.ag false 3 ac,DV.ag false 1 bs,DV.ag false 1 ms,DV.ag false 1 qs],
 DV.ag false 7 l,DV.af])
 else
 aP
 (aG (LB tab B1 MB (20:Nat) (m+ (8:Nat)) h180 C8)
 (St.of
 [(6,AV.ptr 6 4 0 0),(7,AV.d (DV.ag false 7 l)),
 ((11:Nat),
 AV.d (DV.ag false 7 (dk (List.filter (YtglbgfcegifeeaaGreat.bW (86:FuncId) t) l) (gm ac bs ms qs l t).fst))),
 ((38:Nat),
 AV.d (DV.ag false 7 (dk (List.filter (YtglbgfcegifeeaaGreat.bW (86:FuncId) t) l) (gm ac bs ms qs l t).fst))),
 ((39:Nat),
 AV.d
 (DV.int .i64
 (↑(dk (List.filter (YtglbgfcegifeeaaGreat.bW (86:FuncId) t) l) (gm ac bs ms qs l t).fst).length:Int))),
 ((40:Nat),AV.d (DV.int .i64 0))]
 [(26,none),(30,none),(48,none),(100048,none),
 ((6:Nat),
 some
 (Ob.aC 31 4
 [[DV.ag false 3
 (nr ac bs ms qs (dk (List.filter (YtglbgfcegifeeaaGreat.bW (86:FuncId) t) l) (gm ac bs ms qs l t).fst)),
 DV.ag false 1 bs,DV.ag false 1 ms,
 DV.ag false 1
 (ns ac bs ms qs (dk (List.filter (YtglbgfcegifeeaaGreat.bW (86:FuncId) t) l) (gm ac bs ms qs l t).fst))]]))])
 (Ex.ex (0:Nat),
 St.of
 [(6,AV.ptr 6 4 0 0),
 ((7:Nat),
 AV.d
 (DV.ag false 7
 (dG l (dk (List.filter (YtglbgfcegifeeaaGreat.bW (86:FuncId) t) l) (gm ac bs ms qs l t).fst)))),
 ((11:Nat),
 AV.d (DV.ag false 7 (dk (List.filter (YtglbgfcegifeeaaGreat.bW (86:FuncId) t) l) (gm ac bs ms qs l t).fst)))]
 [(26,none),(30,none),(48,none),(100048,none),
 ((6:Nat),
 some
 (Ob.aC 31 4
 [[DV.ag false 3
 (nr ac bs ms qs (dk (List.filter (YtglbgfcegifeeaaGreat.bW (86:FuncId) t) l) (gm ac bs ms qs l t).fst)),
 DV.ag false 1 bs,DV.ag false 1 ms,
 DV.ag false 1
 (ns ac bs ms qs
 (dk (List.filter (YtglbgfcegifeeaaGreat.bW (86:FuncId) t) l) (gm ac bs ms qs l t).fst))]]))]))
 (some
 (DV.tuple
 [DV.agg
 [DV.ag false 3
 (nr ac bs ms qs (dk (List.filter (YtglbgfcegifeeaaGreat.bW (86:FuncId) t) l) (gm ac bs ms qs l t).fst)),
 DV.ag false 1 bs,DV.ag false 1 ms,
 DV.ag false 1
 (ns ac bs ms qs (dk (List.filter (YtglbgfcegifeeaaGreat.bW (86:FuncId) t) l) (gm ac bs ms qs l t).fst))],
 DV.ag false 7 (dG l (dk (List.filter (YtglbgfcegifeeaaGreat.bW (86:FuncId) t) l) (gm ac bs ms qs l t).fst)),
 DV.ag false 7 (dk (List.filter (YtglbgfcegifeeaaGreat.bW (86:FuncId) t) l) (gm ac bs ms qs l t).fst)]))))))):=by kernel_rfl
theorem aah:xQ.ok Tryz.prog 52:=fun ds r hD hv=>by
 obtain ⟨ac,bs,ms,qs,x,rfl,hB,hx,hl,hp⟩:=hD
 cases hv
 refine Sl.rr rfl hx ?_
 unfold lg
 generalize ar x=l at *
 have hn:1≤ac.length∧ac.length≤6:=⟨hB.n1,hB.n6⟩
 have hL:=Dj hB hl hp 20 (0+8)
 have hM:tN.D [.int .i64 (ac.length:Nat),.ag false 7 l]:=⟨ac.length,.ag false 7 l,rfl,hB.n1,hB.n6,Sl.ag 7 false l,hl,hp⟩
 have h:=t16 hn 0 bs ms qs l
 rw [au hM] at h
 unfold xz at h
 unfold zC at hL
 generalize cd ac.length (cZ ac bs ms qs l)=O at *
 match O with
 | []=>
  refine aL (lsp:=lH) a7 xC 20 (0+12) (h.trans ?_)
  exact au hL
 | a::t=>
  refine aL (lsp:=lH) a7 xC 20 (0+12) (h.trans ?_)
  rw [show (a::t).isEmpty=false from rfl,cond_false,show (a::t).length - 1=t.length from rfl]
  cases hq:par t.length with
  | true=>
   rw [cond_true]
   simp only [List.length_cons,oV,o1,o2,hq,cond_true] at hL
   exact (au hL).trans (r7 _)
  | false=>
   rw [cond_false]
   simp only [List.length_cons,oV,o1,o2,hq,cond_false] at hL
   exact (au hL).trans (r7 _)
theorem aai:DE.ok Tryz.prog 42:=fun ds r hD hv=>by
 obtain ⟨x,y,rfl,hx,hy,hl,hm,hz,hI,cu⟩:=hD
 cases hv
 refine bI.Np hx hy ?_
 have :=Dr hz hl hI hm cu
 rw [K0] at this
 exact this
theorem Ii:DG.ok Tryz.prog 42:=fun ds r hD hv=>by
 have hD':=hD
 obtain ⟨x,y,rfl,_⟩:=hD
 cases hv
 exact bI.GY (el:=60) (aai _ _ hD' rfl)
theorem K5: ∀f s,ld f=some s→s.ok Tryz.prog f:=aM aai (aM aah (aM aeC (aM HG aY)))
theorem kvK (n:Nat) :KV (sK n) (PK n):=by
 unfold sK PK
 cases Nat.beq (n % 2) 1 with
 | true=>exact kvA
 | false=>exact kvB
theorem Ij (e:aw) (r:aj) (i:Nat) :nt (e::r) i=(if ef e=((i:Nat) :Int) then 1 else 0)+nt r i:=by
 unfold nt
 have hc:Go.Proofs.YtglbgfcegifeeaaGreat.bW 143 ((i:Nat) :Int) e=(ef e==((i:Nat) :Int)):=rfl
 rw [List.filter_cons,hc]
 by_cases h:ef e=((i:Nat) :Int)
 ·rw [if_pos h,if_pos (beq_iff_eq.2 h),List.length_cons]
  omega
 ·rw [if_neg h,if_neg (by simpa using h)]
  omega
theorem Ad (x:Int) : ∀n:Nat,0≤cf (fun i=>if x=((i:Nat) :Int) then (1:Int) else 0) n∧cf (fun i=>if x=((i:Nat) :Int) then (1:Int) else 0) n≤1∧((n:Int)≤x∨x < 0→cf (fun i=>if x=((i:Nat) :Int) then (1:Int) else 0) n=0)
 | 0=>⟨Int.le_refl 0,by show (0:Int)≤1; omega,fun _=>rfl⟩
 | n+1=>by
  obtain ⟨h1,h2,h3⟩:=Ad x n
  simp only [cf]
  by_cases h:x=((n:Nat) :Int)
  ·rw [if_pos h]
   have :=h3 (.inl (by omega))
   refine ⟨by omega,by omega,fun hc=>by omega⟩
  ·rw [if_neg h]
   refine ⟨by omega,by omega,fun hc=> ?_⟩
   have :=h3 (by omega)
   omega
theorem ud (n:Nat) : ∀r:aj,cf (nt r) n≤(r.length:Int)∧ ∀i,0≤nt r i
 | []=>by
  refine ⟨?_,fun i=>Int.natCast_nonneg _⟩
  have : ∀m,cf (nt []) m=0:=fun m=>by
   induction m with
   | zero=>rfl
   | succ m ih=>
    simp only [cf]
    rw [ih]
    rfl
  rw [this]
  exact Int.natCast_nonneg _
 | e::r=>by
  obtain ⟨h1,h2⟩:=ud n r
  refine ⟨?_,fun i=>Int.natCast_nonneg _⟩
  have :cf (nt (e::r)) n=cf (fun i=>if ef e=((i:Nat) :Int) then (1:Int) else 0) n+cf (nt r) n:=by
   rw [fT (h:=fun i=>(if ef e=((i:Nat) :Int) then (1:Int) else 0)+nt r i) fun i _=>Ij e r i]
   have : ∀m,cf (fun i=>(if ef e=((i:Nat) :Int) then (1:Int) else 0)+nt r i) m=cf (fun i=>if ef e=((i:Nat) :Int) then (1:Int) else 0) m+cf (nt r) m:=fun m=>by
    induction m with
    | zero=>rfl
    | succ m ih=>
     simp only [cf]
     omega
   exact this n
  have :=(Ad (ef e) n).2.1
  rw [List.length_cons]
  omega
theorem xT {b:PB} (hb:b.ok) {r:aj} (hz: ∀e∈r,aq z7 e=true) (inv:(Nat→Int)→Prop)
  (hinv: ∀g,(∀i,i < b.n→0≤g i)→inv g→inv (dm (qH (cZ b.a b.l b.m b.q (dk r (cells b.n g))) b.n) g)) :
  ∀(f:Nat) (g:Nat→Int) (k:Int),(∀i,i < b.n→0≤g i)→cf g b.n < f→inv g→ ∃g',(Ac b.a b.l b.m b.q r f (cells b.n g) k).1=cells b.n g'∧(∀i,i < b.n→0≤g' i∧g' i≤g i)∧lg b.a b.l b.m b.q (dk r (cells b.n g'))=[]∧inv g'
 | 0,g,k,h0,h1,_=>by
  have :=(mT h0).1
  omega
 | f+1,g,k,h0,h1,hi=>by
  have P5:Ac b.a b.l b.m b.q r (f+1) (cells b.n g) k=cond (lg b.a b.l b.m b.q (dk r (cells b.n g))).isEmpty (cells b.n g,k+1) (Ac b.a b.l b.m b.q r f (oc (cells b.n g) (lg b.a b.l b.m b.q (dk r (cells b.n g)))) (k+1)):=rfl
  rw [P5]
  have Ie:=mT h0
  cases he:(lg b.a b.l b.m b.q (dk r (cells b.n g))).isEmpty with
  | true=>exact ⟨g,rfl,fun i hi=>⟨h0 i hi,Int.le_refl _⟩,List.isEmpty_iff.1 he,hi⟩
  | false=>
   rw [cond_false]
   have hI:lg b.a b.l b.m b.q (dk r (cells b.n g))=(qH (cZ b.a b.l b.m b.q (dk r (cells b.n g))) b.n).map fun i=>[.int .i64 ((i:Nat) :Int)]:=by
    unfold lg
    rw [uc,b8]
   have jT: ∀i∈qH (cZ b.a b.l b.m b.q (dk r (cells b.n g))) b.n,i < b.n∧1≤g i:=fun i hi=>by
    obtain ⟨h5,h6⟩:=sd.1 hi
    unfold cZ at h6
    rw [Bool.and_eq_true] at h6
    exact ⟨h5,Ic hz h5 h6.1⟩
   have hd:=oe (n:=b.n) (qH (cZ b.a b.l b.m b.q (dk r (cells b.n g))) b.n) g (BY _ _) fun a ha=>(jT a ha).1
   rw [← hI] at hd
   rw [hd]
   have cu:qH (cZ b.a b.l b.m b.q (dk r (cells b.n g))) b.n≠[]:=fun hc=>by
    rw [hI,hc] at he
    cases he
   obtain ⟨q,hq⟩:=List.exists_mem_of_ne_nil _ cu
   have afO:1≤((List.range b.n).filter fun i=>decide (i∈qH (cZ b.a b.l b.m b.q (dk r (cells b.n g))) b.n)).length:=by
    refine List.length_pos_of_mem (a:=q) ?_
    rw [List.mem_filter]
    exact ⟨List.mem_range.2 (jT q hq).1,decide_eq_true hq⟩
   have aaf:=qI (g:=g) (L:=qH (cZ b.a b.l b.m b.q (dk r (cells b.n g))) b.n) b.n
   have Z0: ∀i,i < b.n→0≤dm (qH (cZ b.a b.l b.m b.q (dk r (cells b.n g))) b.n) g i∧dm (qH (cZ b.a b.l b.m b.q (dk r (cells b.n g))) b.n) g i≤g i:=fun i hi=>by
    have :=h0 i hi
    unfold dm
    split
    ·rename_i hm
     have :=(jT i hm).2
     omega
    ·omega
   obtain ⟨g',e1,e2,e3,e4⟩:=xT hb hz inv hinv f _ (k+1) (fun i hi=>(Z0 i hi).1) (by omega) (hinv g h0 hi)
   exact ⟨g',e1,fun i hi=>⟨(e2 i hi).1,Int.le_trans (e2 i hi).2 (Z0 i hi).2⟩,e3,e4⟩
theorem pH {n:Nat} {l:aj} (hp: ∀e∈l,PO n e) (t:Int) : ∀e∈dn l t,PO n e:=fun e he=>hp e ((List.mem_filter.1 he).1)
theorem pI (l:aj) (t:Int) :(dn l t).length≤l.length:=List.length_filter_le _ _
theorem wo {r:aj} (hl:r.length≤1000) (hz: ∀e∈r,aq z7 e=true) (K:aH) : ∀c i,Ig c i r K=K
 | 0,_=>rfl
 | c+1,i=>(au ⟨_,_,rfl,Sl.ag _ _ _,hl,hz⟩).trans (wo hl hz K c (i+1))
theorem P7:DF.ok Tryz.prog 41:=fun ds r hD hv=>by
 obtain ⟨b,x,t,rfl,hb,hx,hl,hp⟩:=hD
 have hv:some (DV.tuple [.ag false 1 (gm b.a b.l b.m b.q (ar x) t).1,.int .i64 (gm b.a b.l b.m b.q (ar x) t).2])=some r:=hv
 cases hv
 have hz: ∀e∈ar x,aq z7 e=true:=fun e he=>(hp e he).z
 refine bI.args (gY.cons (fj.refl _) (gY.cons hx.le (gY.refl _))) rfl rfl ?_
 show bI Tryz.prog 41 [.agg b.dv,.ag false 7 (ar x),.int .i64 t] _
 generalize ar x=l at *
 have h36:3≤b.n∧b.n≤6:=⟨hb.n3,hb.n6⟩
 have uC:=pH hp t
 have hlr:=pI l t
 have hs:=ud b.n (dn l t)
 have run:=afP h36 0 (fun j=>[.int .i64 (b.gl j),.int .i64 (b.dj j),.int .i64 (b.res j)]) b.l b.m b.q l t
 rw [← xI,← jl] at run
 unfold T41 at run
 rw [au ⟨_,_,rfl,Sl.ag _ _ _,hl,hz⟩,wo (by omega) fun e he=>(uC e he).z] at run
 have hX:gm b.a b.l b.m b.q l t=Ac b.a b.l b.m b.q (dn l t) ((dn l t).length+1) (cells b.n (nt (dn l t))) 0:=by
  unfold gm
  rw [b8]
 have hL:=MA (kvK b.n) hb (by omega) uC 20 4 ((dn l t).length+1) (nt (dn l t)) 0 (fun i _=>hs.2 i) (by omega) (by omega) (by omega) (by omega)
 replace run:=run.trans (au hL)
 obtain ⟨g',e1,_,_,_⟩:=xT hb (fun e he=>(uC e he).z) (fun _=>True) (fun _ _ _=>trivial) ((dn l t).length+1) (nt (dn l t)) 0 (fun i _=>hs.2 i) (by omega) trivial
 rw [hX]
 rw [e1,cM,decide_eq_true rfl,cond_true,← e1] at run
 refine bI.res (aL (lsp:=x9) a7 K5 20 8 run) ?_ rfl
 exact fj.tuple (gY.cons (fj.sl _ _ _) (gY.refl _))
def cX (ac bs ms qs l:aj) (t:Int) :aj:=dk (dn l t) (gm ac bs ms qs l t).1
def II (ac bs ms qs l:aj) (t:Int) :Int:=jm ac bs ms qs (cX ac bs ms qs l t)
def Q9 (ac bs ms qs l:aj) (t:Int) :aj:=nr ac bs ms qs (cX ac bs ms qs l t)
def Ra (ac bs ms qs l:aj) (t:Int) :aj:=ns ac bs ms qs (cX ac bs ms qs l t)
def qJ (ac bs ms qs l:aj) (t:Int) :aj:=cond (II ac bs ms qs l t==0) (dG l (cX ac bs ms qs l t)) l
def qK (ac bs ms qs l:aj) (t:Int) :aj:=cond (II ac bs ms qs l t==0) (cX ac bs ms qs l t) []
def K6:aR where
 D ds:= ∃b x t,ds=[.agg (PB.dv b),x,.int .i64 t]∧b.ok∧Sl 7 x∧(ar x).length≤1000∧ ∀e∈ar x,PO b.n e
 val ds:=match ds with | [.agg [.ag _ _ ac,.ag _ _ bs,.ag _ _ ms,.ag _ _ qs],x,.int _ t]=>some (.tuple [.agg (bk (Q9 ac bs ms qs (ar x) t) bs ms (Ra ac bs ms qs (ar x) t)),.ag false 7 (qJ ac bs ms qs (ar x) t),.ag false 7 (qK ac bs ms qs (ar x) t)]) | _=>none
theorem DH: ∀f s,B1 f=some s→s.ok Tryz.prog f:=aM P7 (aM Ii (aM HG (aM PJ (aM PX aY))))
theorem pJ: ∀{all l:aj},(∀e∈l,aq z7 e=true)→(∀e∈dG l all,aq z7 e=true)∧(dG l all).length≤l.length
 | [],l,h=>⟨h,Nat.le_refl _⟩
 | e::t,l,h=>by
  have h1:=E9 h (fy e)
  have h2:=pJ (all:=t) h1.1
  exact ⟨h2.1,Nat.le_trans h2.2 h1.2⟩
theorem xU {all l:aj} {j:Nat} (hj:j < all.length) :dG l (all.take (j+1))=ir (dG l (all.take j)) (fy all[j]):=by
 unfold dG
 rw [List.take_succ_eq_append_getElem hj,List.foldl_append]
 rfl
theorem K7 (L m:Nat) (x y z u:DV) {l all:aj} (hl:l.length≤1000) (hz: ∀e∈l,aq z7 e=true) (ha:all.length≤1000) (hza: ∀e∈all,aq z7 e=true) :
  aG (LB tab B1 MB L (m+4) h180 C8) (Ih [x,y,z,u] l all 0) (.ex 0,P6 [x,y,z,u] (dG l all) all):=by
 have h0:Ih [x,y,z,u] l all 0=Ih [x,y,z,u] (dG l (all.take 0)) all ((0:Nat) :Int):=rfl
 rw [h0]
 refine ez (fun j:Nat=>Ih [x,y,z,u] (dG l (all.take j)) all (j:Nat)) (fun j=>all.length - j) (fun j=>j≤all.length) (fun _=>(.ex 0,P6 [x,y,z,u] (dG l all) all)) (fun j hs=> ?_) 0 (Nat.zero_le _)
 by_cases hj:j < all.length
 ·left
  refine ⟨j+1,hj,by omega,rfl,fun K=> ?_⟩
  have hr:=pJ (all:=all.take j) hz
  rw [aag,cr hj,cond_true,bf hj,hza _ (List.getElem_mem hj),cond_true,a8 (by omega),xU hj]
  exact au ⟨_,_,rfl,Sl.ag _ _ _,hr.1,Nat.le_trans hr.2 hl⟩
 ·right
  have RT:j=all.length:=by omega
  subst RT
  refine ⟨by simp,fun K=> ?_⟩
  rw [aag,aO,List.take_length]
  rfl
theorem xV {b:PB} (hb:b.ok) {l:aj} (hl:l.length≤1000) (hp: ∀e∈l,PO b.n e) (t:Int) (inv:(Nat→Int)→Prop)
  (hinv: ∀g,(∀i,i < b.n→0≤g i)→inv g→inv (dm (qH (cZ b.a b.l b.m b.q (dk (dn l t) (cells b.n g))) b.n) g)) (h0:inv (nt (dn l t))) :
  ∃g',(gm b.a b.l b.m b.q l t).1=cells b.n g'∧(∀i,i < b.n→0≤g' i∧g' i≤1000)∧lg b.a b.l b.m b.q (dk (dn l t) (cells b.n g'))=[]∧inv g':=by
 have uC:=pH hp t
 have hlr:=pI l t
 have hs:=ud b.n (dn l t)
 have hX:gm b.a b.l b.m b.q l t=Ac b.a b.l b.m b.q (dn l t) ((dn l t).length+1) (cells b.n (nt (dn l t))) 0:=by
  unfold gm
  rw [b8]
 obtain ⟨g',e1,e2,e3,e4⟩:=xT hb (fun e he=>(uC e he).z) inv hinv ((dn l t).length+1) (nt (dn l t)) 0 (fun i _=>hs.2 i) (by omega) h0
 rw [hX]
 refine ⟨g',e1,fun i hi=>⟨(e2 i hi).1,?_⟩,e3,e4⟩
 have h1:=(e2 i hi).2
 have h2:=(mT (g:=nt (dn l t)) (n:=b.n) fun i _=>hs.2 i).2 i hi
 omega
theorem wq {b:PB} {l:aj} (hp: ∀e∈l,PO b.n e) (t:Int) {e:aw} (he:e∈cX b.a b.l b.m b.q l t) :e∈dn l t:=se (fun e he=>((pH hp t) e he).z) he
theorem aaj:K6.ok Tryz.prog 18:=fun ds r hD hv=>by
 obtain ⟨b,x,t,rfl,hb,hx,hl,hp⟩:=hD
 have hv:some (DV.tuple [.agg (bk (Q9 b.a b.l b.m b.q (ar x) t) b.l b.m (Ra b.a b.l b.m b.q (ar x) t)),.ag false 7 (qJ b.a b.l b.m b.q (ar x) t),.ag false 7 (qK b.a b.l b.m b.q (ar x) t)])=some r:=hv
 cases hv
 have hz: ∀e∈ar x,aq z7 e=true:=fun e he=>(hp e he).z
 refine bI.args (gY.cons (fj.refl _) (gY.cons hx.le (gY.refl _))) rfl rfl ?_
 show bI Tryz.prog 18 [.agg b.dv,.ag false 7 (ar x),.int .i64 t] _
 generalize ar x=l at *
 have uC:=pH hp t
 have hlr:=pI l t
 obtain ⟨g',e1,e2,_,_⟩:=xV hb hl hp t (fun _=>True) (fun _ _ _=>trivial) trivial
 have run:=u18 0 b.a b.l b.m b.q l t
 have d1:DF.D [.agg [.ag false 3 b.a,.ag false 1 b.l,.ag false 1 b.m,.ag false 1 b.q],.ag false 7 l,.int .i64 t]:=⟨b,_,_,rfl,hb,Sl.ag _ _ _,hl,hp⟩
 have iU: ∀e∈cX b.a b.l b.m b.q l t,aq z7 e=true:=fun e he=>(uC e (wq hp t he)).z
 have hlen:(cX b.a b.l b.m b.q l t).length≤1000:=Nat.le_trans (pG _ _) (by omega)
 have d3:DG.D [.ag false 7 (dn l t),.ag false 1 (gm b.a b.l b.m b.q l t).1]:=by
  refine ⟨_,_,rfl,Sl.ag _ _ _,Sl.ag _ _ _,by show (dn l t).length≤1000; omega,?_,fun e he=>(uC e he).z,?_,?_⟩
  ·show (gm b.a b.l b.m b.q l t).1.length≤1000
   rw [e1,cM]
   have :=hb.n6
   omega
  ·show n9 (gm b.a b.l b.m b.q l t).1
   rw [e1]
   intro e he
   obtain ⟨j,hj,rfl⟩:=List.mem_map.1 he
   have :=e2 j (List.mem_range.1 hj)
   refine ⟨rfl,?_⟩
   show _≤g' j∧g' j≤_
   omega
  ·show (gm b.a b.l b.m b.q l t).1.isEmpty=false
   rw [e1]
   have h3:=hb.n3
   cases hc:cells b.n g' with
   | nil=>
    have :=cM b.n g'
    rw [hc] at this
    simp at this
    omega
   | cons a t=>rfl
 have d4:Dz.D [.agg [.ag false 3 b.a,.ag false 1 b.l,.ag false 1 b.m,.ag false 1 b.q],.ag false 7 (cX b.a b.l b.m b.q l t)]:=⟨b,_,rfl,hb,Sl.ag _ _ _,hlen,iU⟩
 replace run:=(run.trans (au d1)).trans ((au ⟨_,_,rfl,Sl.ag _ _ _,hl,hz⟩).trans ((au d3).trans (au d4)))
 have hE:jm b.a b.l b.m b.q (cX b.a b.l b.m b.q l t)=II b.a b.l b.m b.q l t:=rfl
 unfold qJ qK
 cases h0:(II b.a b.l b.m b.q l t !=0) with
 | true=>
  have h1:(II b.a b.l b.m b.q l t==0)=false:=by simpa [bne] using h0
  have hr:FK tab B1 MB 20 8 18 [.agg b.dv,.ag false 7 l,.int .i64 t]=some (.tuple [.agg (bk b.a b.l b.m b.q),.ag false 7 l,.af]):=by
   refine run.trans ?_
   show cond (II b.a b.l b.m b.q l t !=0) _ _=_
   rw [h0]
   rfl
  have hA:Q9 b.a b.l b.m b.q l t=b.a:=by
   unfold Q9 nr
   rw [hE,h1]
   rfl
  have hQ:Ra b.a b.l b.m b.q l t=b.q:=by
   unfold Ra ns
   rw [hE,h1]
   rfl
  rw [h1,cond_false,cond_false,hA,hQ]
  refine bI.res (aL (lsp:=MB) a7 DH 20 8 hr) ?_ rfl
  exact fj.tuple (gY.cons (fj.refl _) (gY.cons (fj.refl _) (gY.cons (fj.nil _ _) gY.nil)))
 | false=>
  have h1:(II b.a b.l b.m b.q l t==0)=true:=by simpa [bne] using h0
  have hL:=K7 20 4 (.ag false 3 (Q9 b.a b.l b.m b.q l t)) (.ag false 1 b.l) (.ag false 1 b.m) (.ag false 1 (Ra b.a b.l b.m b.q l t)) hl hz hlen iU
  have hr:FK tab B1 MB 20 8 18 [.agg b.dv,.ag false 7 l,.int .i64 t]=some (.tuple [.agg (bk (Q9 b.a b.l b.m b.q l t) b.l b.m (Ra b.a b.l b.m b.q l t)),.ag false 7 (dG l (cX b.a b.l b.m b.q l t)),.ag false 7 (cX b.a b.l b.m b.q l t)]):=by
   refine run.trans ?_
   show cond (II b.a b.l b.m b.q l t !=0) _ _=_
   rw [h0,cond_false]
   exact au hL
  rw [h1,cond_true,cond_true]
  exact aL (lsp:=MB) a7 DH 20 8 hr
end Go.Proofs.YtglbgfcegifeeaaGreat.Fz
namespace Go.Proofs.YtglbgfcegifeeaaGreat
open Go Go.Proofs Go.RowKit Vm
def iu (x m:Int) :Int:=IntKind.i64.wrap ((BitVec.ofInt IntKind.i64.bits x &&& BitVec.ofInt IntKind.i64.bits m).toNat:Int)
def xW (e:aw) :Int:=(iu (aa e 1).ak 255).tmod 3
def og (e:aw) :Int:=(iu (aa e 2).ak 255).tmod 3
def Ff (e:aw) :Int:=cond (xW e==og e) ((IntKind.i64.wrap (xW e+1)).tmod 3) (og e)
def Rb (e:aw) :Int:=IntKind.i64.wrap (1+iu (aa e 3).ak 31)
def rpC (e:aw) :Int:=IntKind.i64.wrap (1+ (iu (aa e 4).ak 255).tmod 3)
def rpS (e:aw) :Int:=iu (aa e 5).ak 7
def rpL (e:aw) :Int:=IntKind.i64.wrap (iu (aa e 5).ak 7+iu (aa e 6).ak 15)
def rp (i:Nat) (e:aw) :aw:=[.int .i64 ((i+1:Nat) :Int),.int .i64 (xW e),.int .i64 (Ff e),.int .i64 (Rb e),.int .i64 (rpC e),.int .i64 (rpS e),.int .i64 (rpL e)]
def qL (l:aj) :Nat→aj
 | 0=>[]
 | i+1=>kZ (qL l i) (rp i (l[i]?.getD []))
def SR (l:aj) (v:AV) (i:Int) :St:=St.of [(0,.d (.ag false 7 l)),(3,v),(4,.d (.int .i64 i))] [(67,none)]
def afS:bK:=fun st=>match st.env 0 with
 | .d (.ag _ _ l)=> .br l.isEmpty (.one (.ex 0) (St.of [(3,.d .af)] [(67,none)])) (.one (.ex 0) (St.of [(3,.d (.ag false 7 (qL l l.length)))] [(67,none)]))
 | _=> .no
def MC (k:Nat) :Option bK:=if k=160 then some afS else none
noncomputable def B2:FuncId→Option aR:=bL 39 PL aV
def MD (i:Int) (t:Int) (e:aw) :aw:=[.int .i64 (IntKind.i64.wrap (i+1)),.int .i64 (xW e),.int .i64 t,.int .i64 (Rb e),.int .i64 (rpC e),.int .i64 (rpS e),.int .i64 (rpL e)]
noncomputable def ME (l R:aj) (v:DV) (i:Int) (p:aw) (k:aX) :aH:=
 aP (PL.D [v,.agg p]) (cond (tY R p==0) (k .bC (SR l (.d (.ag false 7 (kZ R p))) (IntKind.i64.wrap (i+1)))) (k .bC (SR l (.d v) (IntKind.i64.wrap (i+1)))))
theorem sRw (L n:Nat) (l R:aj) (i:Nat) (k:aX) :LB tab B2 MC (L+4) (n+4) h160 vV (SR l (.d (.ag false 7 R)) i) k=
 cond (decide (((i:Nat) :Int) < (l.length:Int))) (aA l[((i:Nat) :Int).toNat]? fun e=>cond (aq z7 e)
  (cond (xW e==og e) (ME l R (.ag false 7 R) (i:Nat) (MD (i:Nat) ((IntKind.i64.wrap (xW e+1)).tmod 3) e) k) (ME l R (.ag false 7 R) (i:Nat) (MD (i:Nat) (og e) e) k)) none)
  (k (.ex 0) (St.of [(3,.d (.ag false 7 R))] [(67,none)])):=by kernel_rfl
theorem aal (L n:Nat) (l:aj) (i:Nat) (k:aX) :LB tab B2 MC (L+4) (n+4) h160 vV (SR l (.d .af) i) k=
 cond (decide (((i:Nat) :Int) < (l.length:Int))) (aA l[((i:Nat) :Int).toNat]? fun e=>cond (aq z7 e)
  (cond (xW e==og e) (ME l [] .af (i:Nat) (MD (i:Nat) ((IntKind.i64.wrap (xW e+1)).tmod 3) e) k) (ME l [] .af (i:Nat) (MD (i:Nat) (og e) e) k)) none)
  (k (.ex 0) (St.of [(3,.d .af)] [(67,none)])):=by kernel_rfl
theorem tRw (L n:Nat) (l:aj) :FK tab B2 MC L (n+8) 16 [.ag false 7 l]=
 cond l.isEmpty (aP (aG (LB tab B2 MC L (n+8) h160 vV) (SR l (.d .af) 0) (.ex 0,St.of [(3,.d .af)] [(67,none)])) (some .af))
  (aP (aG (LB tab B2 MC L (n+8) h160 vV) (SR l (.d .af) 0) (.ex 0,St.of [(3,.d (.ag false 7 (qL l l.length)))] [(67,none)])) (some (.ag false 7 (qL l l.length)))):=by kernel_rfl
theorem Ae (x:Int) {m:Nat} (hm:m < 1000) :0≤iu x m∧iu x m≤m:=by
 unfold iu
 have h1:(BitVec.ofInt IntKind.i64.bits x &&& BitVec.ofInt IntKind.i64.bits (m:Int)).toNat≤m:=by
  rw [BitVec.toNat_and]
  refine Nat.le_trans Nat.and_le_right ?_
  rw [BitVec.toNat_ofInt]
  show ((m:Int) % ((2 ^ 64:Nat) :Int)).toNat≤m
  omega
 rw [bx (by omega) (by omega)]
 omega
theorem MF (e:aw) :0≤xW e∧xW e≤2:=by
 have :=Ae (aa e 1).ak (m:=255) (by omega)
 unfold xW
 have h:((255:Nat) :Int)=255:=rfl
 rw [h] at this
 rw [Int.tmod_eq_emod_of_nonneg this.1]
 omega
theorem P8 (e:aw) :0≤og e∧og e≤2:=by
 have :=Ae (aa e 2).ak (m:=255) (by omega)
 unfold og
 have h:((255:Nat) :Int)=255:=rfl
 rw [h] at this
 rw [Int.tmod_eq_emod_of_nonneg this.1]
 omega
theorem aam (e:aw) :0≤Ff e∧Ff e≤2∧xW e≠Ff e:=by
 have h1:=MF e
 have h2:=P8 e
 unfold Ff
 rw [bx (by omega) (by omega),Int.tmod_eq_emod_of_nonneg (by omega)]
 cases h:(xW e==og e) with
 | true=>
  rw [cond_true]
  omega
 | false=>
  have :=beq_eq_false_iff_ne.1 h
  rw [cond_false]
  omega
theorem aan (e:aw) :1≤Rb e∧Rb e≤32:=by
 have :=Ae (aa e 3).ak (m:=31) (by omega)
 unfold Rb
 have h:((31:Nat) :Int)=31:=rfl
 rw [h] at this
 rw [bx (by omega) (by omega)]
 omega
theorem aao (e:aw) :1≤rpC e∧rpC e≤3:=by
 have :=Ae (aa e 4).ak (m:=255) (by omega)
 unfold rpC
 have h:((255:Nat) :Int)=255:=rfl
 rw [h] at this
 rw [Int.tmod_eq_emod_of_nonneg this.1,bx (by omega) (by omega)]
 omega
theorem DI (i:Nat) (e:aw) :aq z7 (rp i e)=true:=rfl
theorem Ik {i:Nat} (hi:i < 1000000) (e:aw) {t:Int} (ht:t=Ff e) :MD (i:Nat) t e=rp i e:=by
 unfold MD rp
 rw [a8 (by omega),ht]
structure RN (l R:aj) (i:Nat) :Prop where
 src: ∀e∈R,∃j,j < i∧e=rp j (l[j]?.getD [])
 p:isP R=true
 len:R.length=min i 40
theorem RN.z {l R:aj} {i:Nat} (h:RN l R i) : ∀e∈R,aq z7 e=true:=fun e he=>by
 obtain ⟨j,_,rfl⟩:=h.src e he
 exact DI _ _
theorem RN.zero (l:aj) :RN l [] 0:=⟨fun e he=>by simp at he,rfl,rfl⟩
theorem RN.fresh {l R:aj} {i:Nat} (h:RN l R i) : ∀a∈R,fy a≠fy (rp i (l[i]?.getD [])):=fun a ha=>by
 obtain ⟨j,hj,rfl⟩:=h.src a ha
 show ((j+1:Nat) :Int)≠((i+1:Nat) :Int)
 omega
theorem RN.put {l R:aj} {i:Nat} (h:RN l R i) :RN l (kZ R (rp i (l[i]?.getD []))) (i+1)∧tY R (rp i (l[i]?.getD []))=cond (decide (40≤R.length)) 3 0:=by
 obtain ⟨n1,n2,n3⟩:=(xO R).1 h.p
 have hf:=Mr (l:=R) (id:=fy (rp i (l[i]?.getD []))) h.fresh
 have hd:decide (0≤fI R (fy (rp i (l[i]?.getD []))))=false:=decide_eq_false (by omega)
 have hlen:=h.len
 by_cases h40:40≤R.length
 ·unfold kZ tY
  rw [hd,decide_eq_true h40]
  refine ⟨⟨fun e he=> ?_,h.p,?_⟩,rfl⟩
  ·obtain ⟨j,hj,rfl⟩:=h.src e he
   exact ⟨j,by omega,rfl⟩
  ·simp only [cond_false,cond_true]
   omega
 ·obtain ⟨-,p2,p3,-⟩:=PQ n1 n3 (by omega) h.fresh
  refine ⟨⟨fun e he=> ?_,?_,?_⟩,?_⟩
  ·unfold kZ at he
   rw [hd,decide_eq_false h40,cond_false,cond_false] at he
   rcases List.mem_append.1 he with he | he
   ·obtain ⟨j,hj,rfl⟩:=h.src e (List.mem_of_mem_take he)
    exact ⟨j,by omega,rfl⟩
   ·rcases List.mem_cons.1 he with rfl | he
    ·exact ⟨i,by omega,rfl⟩
    ·obtain ⟨j,hj,rfl⟩:=h.src e (List.mem_of_mem_drop he)
     exact ⟨j,by omega,rfl⟩
  ·exact p3
  ·unfold kZ
   rw [hd,decide_eq_false h40,cond_false,cond_false]
   have hb:=HZ R (rp i (l[i]?.getD []))
   simp only [List.length_append,List.length_cons,List.length_take,List.length_drop]
   omega
  ·unfold tY
   rw [hd,decide_eq_false h40]
   rfl
theorem xX (l:aj) : ∀i,RN l (qL l i) i
 | 0=>RN.zero l
 | i+1=>((xX l i).put).1
def ue (l:aj) :aj:=qL l l.length
theorem P9 {R:aj} {p:aw} (h:(tY R p==0)=false) :kZ R p=R:=by
 unfold tY at h
 unfold kZ
 cases h1:decide (0≤fI R (fy p)) with
 | true=>rfl
 | false=>
  rw [h1] at h
  cases h2:decide (40≤R.length) with
  | true=>rfl
  | false=>
   rw [h2] at h
   cases h
theorem DJ: ∀f s,B2 f=some s→s.ok Tryz.prog f:=aM ZV aY
def vR (l:aj) :Nat→DV
 | 0=> .af
 | i+1=> .ag false 7 (qL l (i+1))
theorem Il {l R:aj} {v:DV} {i:Nat} (hi:i < 1000000) (hv:I7 1000 v) (hr:ar v=R) (hn:v= .af∨v= .ag false 7 R) {p:aw} (hp:aq z7 p=true) (k:aX) (h0:v= .af→R=[]) :
  ME l R v (i:Nat) p k=k .bC (SR l (.d (.ag false 7 (kZ R p))) ((i+1:Nat) :Int)):=by
 unfold ME
 refine (au ⟨_,_,rfl,hv,hp⟩).trans ?_
 rw [a8 (by omega)]
 cases h:(tY R p==0) with
 | true=>rfl
 | false=>
  rcases hn with hn | hn
  ·rw [h0 hn] at h
   cases h
  ·rw [P9 h,hn]
   rfl
theorem Qa (L n:Nat) {l:aj} (hl:l.length≤1000) (hz: ∀e∈l,aq z7 e=true) :
  aG (LB tab B2 MC (L+4) (n+4) h160 vV) (SR l (.d .af) 0) (.ex 0,St.of [(3,.d (vR l l.length))] [(67,none)]):=by
 refine eF (fun i:Nat=>SR l (.d (vR l i)) (i:Nat)) (fun _=>(.ex 0,St.of [(3,.d (vR l l.length))] [(67,none)])) l.length (fun i hi=> .inl ⟨fun k=> ?_,rfl⟩) ⟨by simp,fun k=> ?_⟩ 0 (Nat.zero_le _)
 ·have H0:=hz _ (List.getElem_mem hi)
  have hg:l[i]?.getD []=l[i]:=by rw [List.getElem?_eq_getElem hi]; rfl
  have e1:(xW l[i]==og l[i])=true→(IntKind.i64.wrap (xW l[i]+1)).tmod 3=Ff l[i]:=fun h=>by unfold Ff; rw [h]; rfl
  have e2:(xW l[i]==og l[i])=false→og l[i]=Ff l[i]:=fun h=>by unfold Ff; rw [h]; rfl
  cases i with
  | zero=>
   refine (aal L n l 0 k).trans ?_
   rw [cr hi,cond_true,gZ hi,H0,cond_true]
   have key: ∀t,t=Ff l[0]→ME l [] .af ((0:Nat) :Int) (MD ((0:Nat) :Int) t l[0]) k=k .bC (SR l (.d (vR l (0+1))) ((0+1:Nat) :Int)):=fun t ht=>by
    rw [Ik (by omega) _ ht]
    refine (Il (R:=[]) (by omega) ⟨Sl.nil 7,by simp [ar],by simp [ar]⟩ rfl (.inl rfl) (DI _ _) k (fun _=>rfl)).trans ?_
    rw [← hg]
    rfl
   cases h:(xW l[0]==og l[0]) with
   | true=>exact key _ (e1 h)
   | false=>exact key _ (e2 h)
  | succ i=>
   have hR:=xX l (i+1)
   refine (sRw L n l (qL l (i+1)) (i+1) k).trans ?_
   rw [cr hi,cond_true,gZ hi,H0,cond_true]
   have key: ∀t,t=Ff l[i+1]→ME l (qL l (i+1)) (.ag false 7 (qL l (i+1))) ((i+1:Nat) :Int) (MD ((i+1:Nat) :Int) t l[i+1]) k=k .bC (SR l (.d (vR l (i+1+1))) ((i+1+1:Nat) :Int)):=fun t ht=>by
    have hlen:=hR.len
    rw [Ik (by omega) _ ht]
    refine (Il (R:=qL l (i+1)) (by omega) ⟨Sl.ag 7 false _,hR.z,by show (qL l (i+1)).length≤1000; omega⟩ rfl (.inr rfl) (DI _ _) k (fun h=>by cases h)).trans ?_
    rw [← hg]
    rfl
   cases h:(xW l[i+1]==og l[i+1]) with
   | true=>exact key _ (e1 h)
   | false=>exact key _ (e2 h)
 ·cases hc:l.length with
  | zero=>
   refine (aal L n l 0 k).trans ?_
   rw [hc,aO]
   rfl
  | succ c=>
   have :=sRw L n l (qL l (c+1)) (c+1) k
   rw [hc,aO] at this
   exact this
def K8:aR where
 D ds:= ∃x,ds=[x]∧I7 1000 x
 val ds:=match ds with | [x]=>some (.ag false 7 (ue (ar x))) | _=>none
theorem aap:K8.ok Tryz.prog 16:=fun ds r hD hv=>by
 obtain ⟨x,rfl,hx,hz,hl⟩:=hD
 cases hv
 refine bI.kU hx ?_
 generalize ar x=l at *
 have hL:=Qa 16 (0+4) hl hz
 have h:=tRw (16+4) 0 l
 unfold ue
 cases l with
 | nil=>exact bI.res (r:= .af) (aL (lsp:=MC) a7 DJ (16+4) (0+8) (h.trans (au hL))) (fj.nil _ _) rfl
 | cons a t=>exact aL (lsp:=MC) a7 DJ (16+4) (0+8) (h.trans (au hL))
theorem K9 (l:aj) :RN l (ue l) l.length:=xX l l.length
end Go.Proofs.YtglbgfcegifeeaaGreat
