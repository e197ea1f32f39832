/- FitsLess: the runs. No condition. -/
import Derived.Test.YthjcfiekdejdgaaHe
import Derived.Test.YthjcfiekdejdgaaVmT
namespace Go.Proofs.Ythjcfiekdejdgaa
open Go Go.Proofs Go.RowKit Vm
set_option linter.unusedVariables false
set_option linter.unusedSimpArgs false
def S60 (who : Int) (d : List (List DV)) (b : List DV) (r m : List (List DV)) (i : Int) : St := St.of [(3, .d (.int .i64 who)), (4, .d (.sla false 1 d)), (11, .ptr 11 4 0 0), (12, .d (.sla false 7 r)), (13, .d (.sla false 7 m)), (14, .d (.int .i64 i))] [(40, none), (42, none), (74, none), (11, some (.dat 26 4 [b]))]
def E60 (who : Int) (b : List DV) (r m : List (List DV)) : St := St.of [(3, .d (.int .i64 who)), (11, .ptr 11 4 0 0), (12, .d (.sla false 7 r)), (13, .d (.sla false 7 m))] [(40, none), (42, none), (74, none), (11, some (.dat 26 4 [b]))]
/-- which one is looked at, and what is left then -/
def pk (m : List (List DV)) (x : Int) : List DV := m[(and64 x 65535).toNat % m.length]?.getD []
def stepM (who : Int) (m : List (List DV)) (x : Int) : List (List DV) := cond m.isEmpty m (cond (cellA (pk m x) 1 |>.toI |> (· != who)) (dropL m (cellA (pk m x) 0).toI) m)
def dropN (who : Int) (d m : List (List DV)) : Nat → List (List DV)
  | 0 => m
  | i + 1 => stepM who (dropN who d m i) (cel (d[i]?.getD []))
def l60 : LSpec := fun st => match st.env 3, st.env 4, st.env 12, st.env 13, st.seg 11 with
  | .d (.int _ who), .d (.sla _ _ d), .d (.sla _ _ r), .d (.sla _ _ m), some (.dat _ _ [[x, y, z, u]]) => .one (.ex 0) (E60 who [x, y, z, u] r (dropN who d m d.length))
  | _, _, _, _, _ => .no
def isW (who : Int) (s : List (List DV)) : Bool := s.any fun e => cel e == who
def S61 (who : Int) (a b : Bool) (s t : List (List DV)) (i : Int) : St := St.of [(3, .d (.int .i64 who)), (16, .d (.bool a)), (17, .d (.bool b)), (18, .d (.sla false 1 s)), (19, .d (.sla false 1 t)), (20, .d (.int .i64 i))] [(80, none), (83, none)]
def S62 (who : Int) (a b : Bool) (t : List (List DV)) (i : Int) : St := St.of [(3, .d (.int .i64 who)), (16, .d (.bool a)), (17, .d (.bool b)), (19, .d (.sla false 1 t)), (21, .d (.int .i64 i))] [(83, none)]
def l61 : LSpec := fun st => match st.env 3, st.env 16, st.env 17, st.env 18, st.env 19 with
  | .d (.int _ who), .d (.bool a), .d (.bool b), .d (.sla _ _ s), .d (.sla _ _ t) => .one (.ex 2) (St.of [(3, .d (.int .i64 who)), (16, .d (.bool (a || isW who s))), (17, .d (.bool b)), (19, .d (.sla false 1 t))] [(83, none)])
  | _, _, _, _, _ => .no
def l62 : LSpec := fun st => match st.env 3, st.env 16, st.env 17, st.env 19 with
  | .d (.int _ who), .d (.bool a), .d (.bool b), .d (.sla _ _ t) => .one (.ex 4) (St.of [(16, .d (.bool a)), (17, .d (.bool (b || isW who t)))] [])
  | _, _, _, _ => .no
def lG6 (k : Nat) : Option LSpec := if k = 60 then some l60 else if k = 61 then some l61 else if k = 62 then some l62 else none
noncomputable def spL : FuncId → Option FSpec := spAdd 19 someS (spAdd 20 rowS (spAdd 21 drpS (spAdd 16 shoS (spAdd 18 trueS noSp))))
def bkw (h : List (List DV)) (w : Int) : DV := .agg (bk (bA h w) (bB w) (bM w) (bQ w))
def shW (h : List (List DV)) (w : Int) (r : List (List DV)) : List (List DV) := outL 3 (shP (bA h w) (bB w) (bM w) (bQ w) r)
def bw (h : List (List DV)) (w : Int) : List DV := bk (bA h w) (bB w) (bM w) (bQ w)
theorem s60 (L n : Nat) (who : Int) (d : List (List DV)) (x y z u : DV) (r m : List (List DV)) (i : Nat) (k : Kont) : LB tab spL lG6 L (n+4) h60 c6l0 (S60 who d [x, y, z, u] r m i) k =
   (bif bif decide ((↑i : Int) < (↑d.length : Int)) then decide ((↑m.length : Int) > (0 : Int)) else false then
 lookK d[i]? fun (e1 : List DV) =>
 bif okRow [DV.int .i64 0] e1 then
 bif decide ((↑m.length : Int) = (0 : Int)) then none
 else
 bif
 decide
 ((0 : Int) ≤
 (IntKind.i64.wrap (↑(BitVec.ofInt IntKind.i64.bits (cellA e1 0).toI &&& BitVec.ofInt IntKind.i64.bits (65535 : Int)).toNat : Int)).tmod
 (↑m.length : Int)) then
 lookK
 m[((IntKind.i64.wrap (↑(BitVec.ofInt IntKind.i64.bits (cellA e1 0).toI &&& BitVec.ofInt IntKind.i64.bits (65535 : Int)).toNat : Int)).tmod
 (↑m.length : Int)).toNat]?
 fun (e6 : List DV) =>
 bif
 okRow
 [DV.int .i64 0, DV.int .i64 0, DV.int .i64 0, DV.int .i64 0, DV.int .i64 0, DV.int .i64 0, DV.int .i64 0]
 e6 then
 bif (cellA e6 1).toI != who then
 need (drpS.D [DV.sla false 7 m, DV.int .i64 (cellA e6 0).toI])
 (k Ex.nrm
 (St.of
 [(3, AV.d (DV.int .i64 who)), (4, AV.d (DV.sla false 1 d)),
 ((11 : Nat), AV.ptr 11 4 0 0), (12, AV.d (DV.sla false 7 r)),
 ((13 : Nat), AV.d (DV.sla false 7 (dropL m (cellA e6 0).toI))),
 ((14 : Nat), AV.d (DV.int .i64 (IntKind.i64.wrap ((↑i : Int) + (1 : Int)))))]
 [(40, none), (42, none), (74, none), (11, some (Ob.dat 26 4 [[x, y, z, u]]))]))
 else
 k Ex.nrm
 (St.of
 [(3, AV.d (DV.int .i64 who)), (4, AV.d (DV.sla false 1 d)),
 ((11 : Nat), AV.ptr 11 4 0 0), (12, AV.d (DV.sla false 7 r)),
 ((13 : Nat), AV.d (DV.sla false 7 m)), (14, AV.d (DV.int .i64 (IntKind.i64.wrap ((↑i : Int) + (1 : Int)))))]
 [(40, none), (42, none), (74, none), (11, some (Ob.dat 26 4 [[x, y, z, u]]))])
 else none
 else none
 else none
 else
 k (Ex.ex (0 : Nat))
 (St.of
 [(3, AV.d (DV.int .i64 who)), (11, AV.ptr 11 4 0 0),
 ((12 : Nat), AV.d (DV.sla false 7 r)), (13, AV.d (DV.sla false 7 m))]
 [(40, none), (42, none), (74, none), (11, some (Ob.dat 26 4 [[x, y, z, u]]))])) :=
  (show LB tab spL lG6 L (n+4) h60 c6l0 (S60 who d [x, y, z, u] r m i) k =
 (cond (bif decide ((↑i : Int) < (↑d.length : Int)) then decide ((↑m.length : Int) > (0 : Int)) else false)
 (lookK (d[(↑i : Int).toNat]?)
 fun e1 =>
 (cond (okRow [DV.int .i64 0] e1)
 (cond (decide ((↑m.length : Int) = (0 : Int)))
 none
 (cond (decide ((0 : Int) ≤ (IntKind.i64.wrap (↑(BitVec.ofInt IntKind.i64.bits (cellA e1 0).toI &&& BitVec.ofInt IntKind.i64.bits (65535 : Int)).toNat : Int)).tmod (↑m.length : Int)))
 (lookK (m[((IntKind.i64.wrap (↑(BitVec.ofInt IntKind.i64.bits (cellA e1 0).toI &&& BitVec.ofInt IntKind.i64.bits (65535 : Int)).toNat : Int)).tmod (↑m.length : Int)).toNat]?)
 fun e6 =>
 (cond (okRow [DV.int .i64 0, DV.int .i64 0, DV.int .i64 0, DV.int .i64 0, DV.int .i64 0, DV.int .i64 0, DV.int .i64 0] e6)
 (cond ((cellA e6 1).toI != who)
 (need (FSpec.D (drpS) [(.sla false 7 m), (.int .i64 ((cellA e6 0).toI))])
 (k .nrm (St.of [(3, (.d (.int .i64 who))), (4, (.d (.sla false 1 d))), (11, (.ptr 11 4 0 0)), (12, (.d (.sla false 7 r))), (13, (.d (.sla false 7 (dropL (rowsA (DV.sla false 7 m)) (cellA e6 0).toI)))), (14, (.d (.int .i64 (IntKind.i64.wrap ((↑i : Int) + (1 : Int))))))] [(40, .none), (42, .none), (74, .none), (11, (.some (.dat 26 4 [[x, y, z, u]])))])))
 (k .nrm (St.of [(3, (.d (.int .i64 who))), (4, (.d (.sla false 1 d))), (11, (.ptr 11 4 0 0)), (12, (.d (.sla false 7 r))), (13, (.d (.sla false 7 m))), (14, (.d (.int .i64 (IntKind.i64.wrap ((↑i : Int) + (1 : Int))))))] [(40, .none), (42, .none), (74, .none), (11, (.some (.dat 26 4 [[x, y, z, u]])))])))
 none))
 none))
 none))
 (k (.ex 0) (St.of [(3, (.d (.int .i64 who))), (11, (.ptr 11 4 0 0)), (12, (.d (.sla false 7 r))), (13, (.d (.sla false 7 m)))] [(40, .none), (42, .none), (74, .none), (11, (.some (.dat 26 4 [[x, y, z, u]])))]))) from by kernel_rfl).trans (by first | rfl | (simp only [decide_true, decide_false, eq_self, and_true, true_and, and_self, cond_true, cond_false, Nat.le_refl, Int.le_refl, Option.getD_some, Option.getD_none, Int.toNat_natCast, List.take_length, List.drop_zero, Nat.zero_add, List.nil_append, List.all_nil, List.append_nil, Bool.true_and, Bool.and_true, rowsA_sla, rowsA_sl, rowsA_nil, minus_zero, nat_le_cast, nat_nonneg, Option.isSome_some, Option.isSome_none, Bool.false_eq_true, false_and, and_false, if_true, if_false, implies_true, Int.toNat_zero, Bool.not_false, Bool.not_true, bne_self_eq_false]; done) | (simp only [decide_true, decide_false, eq_self, and_true, true_and, and_self, cond_true, cond_false, Nat.le_refl, Int.le_refl, Option.getD_some, Option.getD_none, Int.toNat_natCast, List.take_length, List.drop_zero, Nat.zero_add, List.nil_append, List.all_nil, List.append_nil, Bool.true_and, Bool.and_true, rowsA_sla, rowsA_sl, rowsA_nil, minus_zero, nat_le_cast, nat_nonneg, Option.isSome_some, Option.isSome_none, Bool.false_eq_true, false_and, and_false, if_true, if_false, implies_true, Int.toNat_zero, Bool.not_false, Bool.not_true, bne_self_eq_false]; rfl))
theorem s61 (L n : Nat) (who : Int) (a b : Bool) (s t : List (List DV)) (i : Nat) (k : Kont) : LB tab spL lG6 L (n+4) h61 c6l1 (S61 who a b s t i) k =
   (bif decide ((↑i : Int) < (↑s.length : Int)) then
 bif a then
 k Ex.nrm
 (St.of
 [(3, AV.d (DV.int .i64 who)), (16, AV.d (DV.bool true)), (17, AV.d (DV.bool b)),
 ((18 : Nat), AV.d (DV.sla false 1 s)), (19, AV.d (DV.sla false 1 t)),
 ((20 : Nat), AV.d (DV.int .i64 (IntKind.i64.wrap ((↑i : Int) + (1 : Int)))))]
 [(80, none), (83, none)])
 else
 lookK s[i]? fun (e2 : List DV) =>
 bif okRow [DV.int .i64 0] e2 then
 k Ex.nrm
 (St.of
 [(3, AV.d (DV.int .i64 who)), (16, AV.d (DV.bool ((cellA e2 0).toI == who))), (17, AV.d (DV.bool b)),
 ((18 : Nat), AV.d (DV.sla false 1 s)), (19, AV.d (DV.sla false 1 t)),
 ((20 : Nat), AV.d (DV.int .i64 (IntKind.i64.wrap ((↑i : Int) + (1 : Int)))))]
 [(80, none), (83, none)])
 else none
 else
 k (Ex.ex (2 : Nat))
 (St.of
 [(3, AV.d (DV.int .i64 who)), (16, AV.d (DV.bool a)), (17, AV.d (DV.bool b)),
 ((19 : Nat), AV.d (DV.sla false 1 t))]
 [(83, none)])) :=
  (show LB tab spL lG6 L (n+4) h61 c6l1 (S61 who a b s t i) k =
 (cond (decide ((↑i : Int) < (↑s.length : Int)))
 (cond (a)
 (k .nrm (St.of [(3, (.d (.int .i64 who))), (16, (.d (.bool true))), (17, (.d (.bool b))), (18, (.d (.sla false 1 s))), (19, (.d (.sla false 1 t))), (20, (.d (.int .i64 (IntKind.i64.wrap ((↑i : Int) + (1 : Int))))))] [(80, .none), (83, .none)]))
 (lookK (s[(↑i : Int).toNat]?)
 fun e2 =>
 (cond (okRow [DV.int .i64 0] e2)
 (k .nrm (St.of [(3, (.d (.int .i64 who))), (16, (.d (.bool ((cellA e2 0).toI == who)))), (17, (.d (.bool b))), (18, (.d (.sla false 1 s))), (19, (.d (.sla false 1 t))), (20, (.d (.int .i64 (IntKind.i64.wrap ((↑i : Int) + (1 : Int))))))] [(80, .none), (83, .none)]))
 none)))
 (k (.ex 2) (St.of [(3, (.d (.int .i64 who))), (16, (.d (.bool a))), (17, (.d (.bool b))), (19, (.d (.sla false 1 t)))] [(83, .none)]))) from by kernel_rfl).trans (by first | rfl | (simp only [decide_true, decide_false, eq_self, and_true, true_and, and_self, cond_true, cond_false, Nat.le_refl, Int.le_refl, Option.getD_some, Option.getD_none, Int.toNat_natCast, List.take_length, List.drop_zero, Nat.zero_add, List.nil_append, List.all_nil, List.append_nil, Bool.true_and, Bool.and_true, rowsA_sla, rowsA_sl, rowsA_nil, minus_zero, nat_le_cast, nat_nonneg, Option.isSome_some, Option.isSome_none, Bool.false_eq_true, false_and, and_false, if_true, if_false, implies_true, Int.toNat_zero, Bool.not_false, Bool.not_true, bne_self_eq_false]; done) | (simp only [decide_true, decide_false, eq_self, and_true, true_and, and_self, cond_true, cond_false, Nat.le_refl, Int.le_refl, Option.getD_some, Option.getD_none, Int.toNat_natCast, List.take_length, List.drop_zero, Nat.zero_add, List.nil_append, List.all_nil, List.append_nil, Bool.true_and, Bool.and_true, rowsA_sla, rowsA_sl, rowsA_nil, minus_zero, nat_le_cast, nat_nonneg, Option.isSome_some, Option.isSome_none, Bool.false_eq_true, false_and, and_false, if_true, if_false, implies_true, Int.toNat_zero, Bool.not_false, Bool.not_true, bne_self_eq_false]; rfl))
theorem s62 (L n : Nat) (who : Int) (a b : Bool) (t : List (List DV)) (i : Nat) (k : Kont) : LB tab spL lG6 L (n+4) h62 c6l2 (S62 who a b t i) k =
   (bif decide ((↑i : Int) < (↑t.length : Int)) then
 bif b then
 k Ex.nrm
 (St.of
 [(3, AV.d (DV.int .i64 who)), (16, AV.d (DV.bool a)), (17, AV.d (DV.bool true)),
 ((19 : Nat), AV.d (DV.sla false 1 t)), (21, AV.d (DV.int .i64 (IntKind.i64.wrap ((↑i : Int) + (1 : Int)))))]
 [(83, none)])
 else
 lookK t[i]? fun (e2 : List DV) =>
 bif okRow [DV.int .i64 0] e2 then
 k Ex.nrm
 (St.of
 [(3, AV.d (DV.int .i64 who)), (16, AV.d (DV.bool a)), (17, AV.d (DV.bool ((cellA e2 0).toI == who))),
 ((19 : Nat), AV.d (DV.sla false 1 t)), (21, AV.d (DV.int .i64 (IntKind.i64.wrap ((↑i : Int) + (1 : Int)))))]
 [(83, none)])
 else none
 else k (Ex.ex (4 : Nat)) (St.of [(16, AV.d (DV.bool a)), (17, AV.d (DV.bool b))] [])) :=
  (show LB tab spL lG6 L (n+4) h62 c6l2 (S62 who a b t i) k =
 (cond (decide ((↑i : Int) < (↑t.length : Int)))
 (cond (b)
 (k .nrm (St.of [(3, (.d (.int .i64 who))), (16, (.d (.bool a))), (17, (.d (.bool true))), (19, (.d (.sla false 1 t))), (21, (.d (.int .i64 (IntKind.i64.wrap ((↑i : Int) + (1 : Int))))))] [(83, .none)]))
 (lookK (t[(↑i : Int).toNat]?)
 fun e2 =>
 (cond (okRow [DV.int .i64 0] e2)
 (k .nrm (St.of [(3, (.d (.int .i64 who))), (16, (.d (.bool a))), (17, (.d (.bool ((cellA e2 0).toI == who)))), (19, (.d (.sla false 1 t))), (21, (.d (.int .i64 (IntKind.i64.wrap ((↑i : Int) + (1 : Int))))))] [(83, .none)]))
 none)))
 (k (.ex 4) (St.of [(16, (.d (.bool a))), (17, (.d (.bool b)))] []))) from by kernel_rfl).trans (by first | rfl | (simp only [decide_true, decide_false, eq_self, and_true, true_and, and_self, cond_true, cond_false, Nat.le_refl, Int.le_refl, Option.getD_some, Option.getD_none, Int.toNat_natCast, List.take_length, List.drop_zero, Nat.zero_add, List.nil_append, List.all_nil, List.append_nil, Bool.true_and, Bool.and_true, rowsA_sla, rowsA_sl, rowsA_nil, minus_zero, nat_le_cast, nat_nonneg, Option.isSome_some, Option.isSome_none, Bool.false_eq_true, false_and, and_false, if_true, if_false, implies_true, Int.toNat_zero, Bool.not_false, Bool.not_true, bne_self_eq_false]; done) | (simp only [decide_true, decide_false, eq_self, and_true, true_and, and_self, cond_true, cond_false, Nat.le_refl, Int.le_refl, Option.getD_some, Option.getD_none, Int.toNat_natCast, List.take_length, List.drop_zero, Nat.zero_add, List.nil_append, List.all_nil, List.append_nil, Bool.true_and, Bool.and_true, rowsA_sla, rowsA_sl, rowsA_nil, minus_zero, nat_le_cast, nat_nonneg, Option.isSome_some, Option.isSome_none, Bool.false_eq_true, false_and, and_false, if_true, if_false, implies_true, Int.toNat_zero, Bool.not_false, Bool.not_true, bne_self_eq_false]; rfl))
theorem t6 (n : Nat) (h l d : List (List DV)) (w who : Int) : FK tab spL lG6 20 (n+8) 6 [.sla false 1 h, .int .i64 w, .sla false 7 l, .int .i64 who, .sla false 1 d] =
  cond (bif bif bif decide ((l.length : Int) > (30 : Int)) then true else decide (who < (0 : Int)) then true else decide (who > (2 : Int)) then true else decide ((d.length : Int) > (30 : Int))) (some (.bool true))
    (need (someS.D [.sla false 1 h, .int .i64 w]) (need (rowS.D [.sla false 7 l])
      (need (LoopOk (LB tab spL lG6 20 (n+8) h60 c6l0) (S60 who d (bw h w) (rowL l) (rowL l) 0) (.ex 0, E60 who (bw h w) (rowL l) (dropN who d (rowL l) d.length)))
        (need (shoS.D [bkw h w, .sla false 7 (rowL l)]) (need (shoS.D [bkw h w, .sla false 7 (dropN who d (rowL l) d.length)])
          (need (LoopOk (LB tab spL lG6 20 (n+8) h61 c6l1) (S61 who false false (shW h w (rowL l)) (shW h w (dropN who d (rowL l) d.length)) 0) (.ex 2, St.of [(3, .d (.int .i64 who)), (16, .d (.bool (false || isW who (shW h w (rowL l))))), (17, .d (.bool false)), (19, .d (.sla false 1 (shW h w (dropN who d (rowL l) d.length))))] [(83, none)]))
            (need (LoopOk (LB tab spL lG6 20 (n+8) h62 c6l2) (S62 who (false || isW who (shW h w (rowL l))) false (shW h w (dropN who d (rowL l) d.length)) 0) (.ex 4, St.of [(16, .d (.bool (false || isW who (shW h w (rowL l))))), (17, .d (.bool (false || isW who (shW h w (dropN who d (rowL l) d.length)))))] []))
              (cond (bif !(false || isW who (shW h w (rowL l))) then true else (false || isW who (shW h w (dropN who d (rowL l) d.length)))) (need (trueS.D []) (some (.bool true))) (some (.bool false)))))))))) := by kernel_rfl
end Go.Proofs.Ythjcfiekdejdgaa
