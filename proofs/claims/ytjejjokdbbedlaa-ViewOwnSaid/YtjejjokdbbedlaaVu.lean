/- What is answered is new memory: the law's runs. No condition. -/
import Derived.Test.YtjejjokdbbedlaaVt
namespace Go.Proofs.Ytjejjokdbbedlaa
open Go Go.Proofs Go.RowKit Vm
set_option linter.unusedVariables false
set_option linter.unusedSimpArgs false
noncomputable def spU (p q d : Bool) : FuncId → Option FSpec := spAdd 7 rowS (spAdd 17 (fltO 29 p) (spAdd 18 (fltO 31 q) (spAdd 8 (mayO p) (spAdd 14 (hdO d) (spAdd 15 samP (spAdd 16 isPS (spAdd 10 (fltS 29) (spAdd 13 knoS noSp))))))))
def sv (s : Nat) (p : Bool) (n : Nat) : AV := cond p (.aref s 7 0 n) (.d .nilsl)
def sg (p : Bool) (A : List (List DV)) : Option Ob := cond p (some (.dat 27 7 A)) none
def h60X : Hint := ⟨60, [1, 7, 8, 9, 10, 11, 12, 13], [18, 19, 21, 24, 27, 30, 33], [], []⟩
def c6l0X : AC := (.seq (.seq (.reg [⟨(some 34), none, [], true, (.mv (.t 13))⟩, ⟨(some 35), none, [], true, (.mv (.t 7))⟩, ⟨(some 36), none, [], true, (.len (.t 35))⟩, ⟨(some 37), none, [], true, (.bin .lss (.t 34) (.t 36))⟩]) (.cond (.t 37) .skip (.exit (some ⟨61, [1, 7, 8], [18, 19, 21], [], []⟩) 0))) (.seq (.block 1 (.seq (.seq (.reg [⟨(some 40), none, [], true, (.mv (.t 13))⟩, ⟨(some 41), none, [], true, (.mv (.t 9))⟩, ⟨(some 42), none, [], true, (.len (.t 41))⟩, ⟨(some 43), none, [], true, (.bin .lss (.t 40) (.t 42))⟩]) (.cond (.t 43) (.reg [⟨(some 44), none, [], true, (.mv (.t 9))⟩, ⟨(some 45), none, [], true, (.mv (.t 13))⟩, ⟨(some 46), none, [], true, (.iaddr 7 (.t 44) (.t 45) [(.int .i64 0), (.int .i64 0), (.int .i64 0), (.int .i64 0), (.int .i64 0), (.int .i64 0), (.int .i64 0)])⟩, ⟨(some 47), none, [], true, (.faddr 0 (.t 46))⟩, ⟨none, none, [], true, (.store 1 (.t 47) (.k (.int .i64 (-1))))⟩]) .skip)) (.seq (.seq (.reg [⟨(some 48), none, [], true, (.mv (.t 13))⟩, ⟨(some 49), none, [], true, (.mv (.t 10))⟩, ⟨(some 50), none, [], true, (.len (.t 49))⟩, ⟨(some 51), none, [], true, (.bin .lss (.t 48) (.t 50))⟩]) (.cond (.t 51) (.reg [⟨(some 52), none, [], true, (.mv (.t 10))⟩, ⟨(some 53), none, [], true, (.mv (.t 13))⟩, ⟨(some 54), none, [], true, (.iaddr 7 (.t 52) (.t 53) [(.int .i64 0), (.int .i64 0), (.int .i64 0), (.int .i64 0), (.int .i64 0), (.int .i64 0), (.int .i64 0)])⟩, ⟨(some 55), none, [], true, (.faddr 0 (.t 54))⟩, ⟨none, none, [], true, (.store 1 (.t 55) (.k (.int .i64 (-1))))⟩]) .skip)) (.seq (.seq (.reg [⟨(some 56), none, [], true, (.mv (.t 13))⟩, ⟨(some 57), none, [], true, (.mv (.t 11))⟩, ⟨(some 58), none, [], true, (.len (.t 57))⟩, ⟨(some 59), none, [], true, (.bin .lss (.t 56) (.t 58))⟩]) (.cond (.t 59) (.reg [⟨(some 60), none, [], true, (.mv (.t 11))⟩, ⟨(some 61), none, [], true, (.mv (.t 13))⟩, ⟨(some 62), none, [], true, (.iaddr 7 (.t 60) (.t 61) [(.int .i64 0), (.int .i64 0), (.int .i64 0), (.int .i64 0), (.int .i64 0), (.int .i64 0), (.int .i64 0)])⟩, ⟨(some 63), none, [], true, (.faddr 0 (.t 62))⟩, ⟨none, none, [], true, (.store 1 (.t 63) (.k (.int .i64 (-1))))⟩]) .skip)) (.seq (.reg [⟨(some 64), none, [], true, (.mv (.t 13))⟩, ⟨(some 65), none, [], true, (.mv (.t 12))⟩, ⟨(some 66), none, [], true, (.len (.t 65))⟩, ⟨(some 67), none, [], true, (.bin .lss (.t 64) (.t 66))⟩]) (.cond (.t 67) (.reg [⟨(some 68), none, [], true, (.mv (.t 12))⟩, ⟨(some 69), none, [], true, (.mv (.t 13))⟩, ⟨(some 70), none, [], true, (.iaddr 7 (.t 68) (.t 69) [(.int .i64 0), (.int .i64 0), (.int .i64 0), (.int .i64 0), (.int .i64 0), (.int .i64 0), (.int .i64 0)])⟩, ⟨(some 71), none, [], true, (.faddr 0 (.t 70))⟩, ⟨none, none, [], true, (.store 1 (.t 71) (.k (.int .i64 (-1))))⟩]) .skip)))))) (.reg [⟨(some 38), none, [], true, (.mv (.t 13))⟩, ⟨(some 39), none, [], true, (.bin .add (.t 38) (.k (.int .i64 1)))⟩, ⟨(some 13), none, [], true, (.mv (.t 39))⟩])))
def c6X : AFn := ⟨(.seq (.reg [⟨(some 6), none, [], true, (.mv (.k (.bool false)))⟩]) (.seq (.seq (.reg [⟨(some 14), none, [], true, (.mv (.t 0))⟩, ⟨(some 15), none, [], true, (.len (.t 14))⟩, ⟨(some 16), none, [], true, (.bin .gtr (.t 15) (.k (.int .i64 40)))⟩]) (.cond (.t 16) (.seq (.reg [⟨(some 6), none, [], true, (.mv (.k (.bool true)))⟩]) (.ret none)) .skip)) (.seq (.reg [⟨(some 17), none, [], true, (.mv (.t 0))⟩, ⟨(some 18), none, [], true, (.call 7 [(.t 17)])⟩, ⟨(some 7), none, [], true, (.mv (.t 18))⟩]) (.seq (.reg [⟨(some 19), none, [], true, (.bslice 27 7 0 [(.int .i64 0), (.int .i64 0), (.int .i64 0), (.int .i64 0), (.int .i64 0), (.int .i64 0), (.int .i64 0)] [])⟩, ⟨(some 20), none, [], true, (.mv (.t 7))⟩, ⟨(some 21), none, [], true, (.append 27 7 56 (.t 19) (.t 20))⟩, ⟨(some 8), none, [], true, (.mv (.t 21))⟩]) (.seq (.reg [⟨(some 22), none, [], true, (.mv (.t 7))⟩, ⟨(some 23), none, [], true, (.mv (.t 1))⟩, ⟨(some 24), none, [], true, (.call 17 [(.t 22), (.t 23)])⟩, ⟨(some 25), none, [], true, (.mv (.t 7))⟩, ⟨(some 26), none, [], true, (.mv (.t 2))⟩, ⟨(some 27), none, [], true, (.call 18 [(.t 25), (.t 26)])⟩, ⟨(some 28), none, [], true, (.mv (.t 7))⟩, ⟨(some 29), none, [], true, (.mv (.t 1))⟩, ⟨(some 30), none, [], true, (.call 8 [(.t 28), (.t 29)])⟩, ⟨(some 31), none, [], true, (.mv (.t 7))⟩, ⟨(some 32), none, [], false, (.bslice 3 1 3 [(.int .i64 0)] [(0, (.k (.int .i64 9))), (1, (.k (.int .i64 9))), (2, (.k (.int .i64 9)))])⟩, ⟨(some 33), none, [], true, (.call 14 [(.t 31), (.t 32)])⟩, ⟨(some 9), none, [], true, (.mv (.t 24))⟩, ⟨(some 10), none, [], true, (.mv (.t 27))⟩, ⟨(some 11), none, [], true, (.mv (.t 30))⟩, ⟨(some 12), none, [], true, (.mv (.t 33))⟩]) (.seq (.seq (.reg [⟨(some 13), none, [], true, (.mv (.k (.int .i64 0)))⟩]) (.block 0 (.loop (some h60X) c6l0X))) (.seq (.reg [⟨(some 72), none, [], true, (.mv (.t 7))⟩, ⟨(some 73), none, [], true, (.mv (.t 8))⟩, ⟨(some 74), none, [], true, (.call 15 [(.t 72), (.t 73)])⟩, ⟨(some 75), none, [], true, (.mv (.t 74))⟩, ⟨(some 76), (some (75, true)), [], true, (.mv (.t 7))⟩, ⟨(some 77), (some (75, true)), [], false, (.call 16 [(.t 76)])⟩, ⟨(some 78), none, [], true, (.pick (.t 75) (.t 77) (.k (.bool false)))⟩, ⟨(some 79), none, [], true, (.mv (.t 78))⟩, ⟨(some 80), (some (79, true)), [], true, (.mv (.t 7))⟩, ⟨(some 81), (some (79, true)), [], true, (.mv (.t 1))⟩, ⟨(some 82), (some (79, true)), [], false, (.call 17 [(.t 80), (.t 81)])⟩, ⟨(some 83), (some (79, true)), [], true, (.mv (.t 7))⟩, ⟨(some 84), (some (79, true)), [], true, (.mv (.t 1))⟩, ⟨(some 85), (some (79, true)), [], false, (.call 10 [(.t 83), (.t 84)])⟩, ⟨(some 86), (some (79, true)), [], false, (.call 15 [(.t 82), (.t 85)])⟩, ⟨(some 87), none, [], true, (.pick (.t 79) (.t 86) (.k (.bool false)))⟩, ⟨(some 88), none, [], true, (.mv (.t 87))⟩, ⟨(some 89), (some (88, true)), [], false, (.call 13 [])⟩, ⟨(some 90), none, [], true, (.pick (.t 88) (.t 89) (.k (.bool false)))⟩, ⟨(some 6), none, [], true, (.mv (.t 90))⟩]) (.ret none)))))))), 91, [(.t 6)]⟩

theorem cf6X : cFn Try.prog Try.f6 = some c6X.erase := by kernel_rfl
def tabX (f : FuncId) : Option AFn := if f = 6 then some c6X else tab f
theorem tabX_ok : ∀ f fn', tabX f = some fn' → ∃ fn, Try.prog.funcs[f]? = some fn ∧ cFn Try.prog fn = some fn'.erase := by
  intro f fn' h
  unfold tabX at h
  by_cases h6 : f = 6
  · rw [if_pos h6] at h; cases h; subst h6; exact ⟨Try.f6, by kernel_rfl, cf6X⟩
  · rw [if_neg h6] at h; exact tab_ok f fn' h
def T60 (p q d : Bool) (t : Int) (r : List (List DV)) (o9 : Option Ob) (v : AV) (o : Option Ob) (na nb nc nd : Nat) (A B C D : List (List DV)) (i : Int) : St := St.of [(1, .d (.int .i64 t)), (7, .d (.sla false 7 r)), (8, v), (9, sv 24 p na), (10, sv 27 q nb), (11, sv 30 p nc), (12, sv 33 d nd), (13, .d (.int .i64 i))] [(18, none), (19, o9), (21, o), (24, sg p A), (27, sg q B), (30, sg p C), (33, sg d D)]
def m60 : LSpec := fun st => .one (.ex 0) (St.of [(1, st.env 1), (7, st.env 7), (8, st.env 8)] [(18, none), (19, st.seg 19), (21, st.seg 21)])
def lQ6 (k : Nat) : Option LSpec := if k = 60 then some m60 else none
theorem s60TTT (L n : Nat) (t : Int) (r : List (List DV)) (na nb nc nd : Nat) (A B C D : List (List DV)) (i : Nat) (k : Kont) : LB tabX (spU true true true) lQ6 L (n+4) h60X c6l0X (T60 true true true t r none (.aref 21 7 0 r.length) (some (.dat 27 7 r)) na nb nc nd A B C D i) k =
   (bif decide ((↑i : Int) < (↑r.length : Int)) then
 bif decide ((↑i : Int) < (↑na : Int)) then
 bif decide ((↑i : Int) < (↑na : Int)) then
 lookK A[i]? fun (e3 : List DV) =>
 bif decide ((1 : Nat) ≤ e3.length) then
 bif decide ((↑i : Int) < (↑nb : Int)) then
 bif decide ((↑i : Int) < (↑nb : Int)) then
 lookK B[i]? fun (e8 : List DV) =>
 bif decide ((1 : Nat) ≤ e8.length) then
 bif decide ((↑i : Int) < (↑nc : Int)) then
 bif decide ((↑i : Int) < (↑nc : Int)) then
 lookK C[i]? fun (e13 : List DV) =>
 bif decide ((1 : Nat) ≤ e13.length) then
 bif decide ((↑i : Int) < (↑nd : Int)) then
 bif decide ((↑i : Int) < (↑nd : Int)) then
 lookK D[i]? fun (e18 : List DV) =>
 bif decide ((1 : Nat) ≤ e18.length) then
 k Ex.nrm
 (St.of
 [(1, AV.d (DV.int .i64 t)), (7, AV.d (DV.sla false 7 r)),
 ((8 : Nat), AV.aref 21 7 0 r.length), (9, AV.aref 24 7 0 na),
 ((10 : Nat), AV.aref 27 7 0 nb), (11, AV.aref 30 7 0 nc),
 ((12 : Nat), AV.aref 33 7 0 nd),
 ((13 : Nat), AV.d (DV.int .i64 (IntKind.i64.wrap ((↑i : Int) + (1 : Int)))))]
 [(18, none), (19, none), (21, some (Ob.dat 27 7 r)),
 ((24 : Nat),
 some (Ob.dat 27 7 (A.set i (DV.int .i64 (-1 : Int) :: List.drop (1 : Nat) e3)))),
 ((27 : Nat),
 some (Ob.dat 27 7 (B.set i (DV.int .i64 (-1 : Int) :: List.drop (1 : Nat) e8)))),
 ((30 : Nat),
 some (Ob.dat 27 7 (C.set i (DV.int .i64 (-1 : Int) :: List.drop (1 : Nat) e13)))),
 ((33 : Nat),
 some (Ob.dat 27 7 (D.set i (DV.int .i64 (-1 : Int) :: List.drop (1 : Nat) e18))))])
 else none
 else none
 else
 k Ex.nrm
 (St.of
 [(1, AV.d (DV.int .i64 t)), (7, AV.d (DV.sla false 7 r)),
 ((8 : Nat), AV.aref 21 7 0 r.length), (9, AV.aref 24 7 0 na),
 ((10 : Nat), AV.aref 27 7 0 nb), (11, AV.aref 30 7 0 nc),
 ((12 : Nat), AV.aref 33 7 0 nd),
 ((13 : Nat), AV.d (DV.int .i64 (IntKind.i64.wrap ((↑i : Int) + (1 : Int)))))]
 [(18, none), (19, none), (21, some (Ob.dat 27 7 r)),
 ((24 : Nat), some (Ob.dat 27 7 (A.set i (DV.int .i64 (-1 : Int) :: List.drop (1 : Nat) e3)))),
 ((27 : Nat), some (Ob.dat 27 7 (B.set i (DV.int .i64 (-1 : Int) :: List.drop (1 : Nat) e8)))),
 ((30 : Nat), some (Ob.dat 27 7 (C.set i (DV.int .i64 (-1 : Int) :: List.drop (1 : Nat) e13)))),
 ((33 : Nat), some (Ob.dat 27 7 D))])
 else none
 else none
 else
 bif decide ((↑i : Int) < (↑nd : Int)) then
 bif decide ((↑i : Int) < (↑nd : Int)) then
 lookK D[i]? fun (e14 : List DV) =>
 bif decide ((1 : Nat) ≤ e14.length) then
 k Ex.nrm
 (St.of
 [(1, AV.d (DV.int .i64 t)), (7, AV.d (DV.sla false 7 r)),
 ((8 : Nat), AV.aref 21 7 0 r.length), (9, AV.aref 24 7 0 na),
 ((10 : Nat), AV.aref 27 7 0 nb), (11, AV.aref 30 7 0 nc),
 ((12 : Nat), AV.aref 33 7 0 nd),
 ((13 : Nat), AV.d (DV.int .i64 (IntKind.i64.wrap ((↑i : Int) + (1 : Int)))))]
 [(18, none), (19, none), (21, some (Ob.dat 27 7 r)),
 ((24 : Nat), some (Ob.dat 27 7 (A.set i (DV.int .i64 (-1 : Int) :: List.drop (1 : Nat) e3)))),
 ((27 : Nat), some (Ob.dat 27 7 (B.set i (DV.int .i64 (-1 : Int) :: List.drop (1 : Nat) e8)))),
 ((30 : Nat), some (Ob.dat 27 7 C)),
 ((33 : Nat), some (Ob.dat 27 7 (D.set i (DV.int .i64 (-1 : Int) :: List.drop (1 : Nat) e14))))])
 else none
 else none
 else
 k Ex.nrm
 (St.of
 [(1, AV.d (DV.int .i64 t)), (7, AV.d (DV.sla false 7 r)),
 ((8 : Nat), AV.aref 21 7 0 r.length), (9, AV.aref 24 7 0 na),
 ((10 : Nat), AV.aref 27 7 0 nb), (11, AV.aref 30 7 0 nc),
 ((12 : Nat), AV.aref 33 7 0 nd),
 ((13 : Nat), AV.d (DV.int .i64 (IntKind.i64.wrap ((↑i : Int) + (1 : Int)))))]
 [(18, none), (19, none), (21, some (Ob.dat 27 7 r)),
 ((24 : Nat), some (Ob.dat 27 7 (A.set i (DV.int .i64 (-1 : Int) :: List.drop (1 : Nat) e3)))),
 ((27 : Nat), some (Ob.dat 27 7 (B.set i (DV.int .i64 (-1 : Int) :: List.drop (1 : Nat) e8)))),
 ((30 : Nat), some (Ob.dat 27 7 C)), (33, some (Ob.dat 27 7 D))])
 else none
 else none
 else
 bif decide ((↑i : Int) < (↑nc : Int)) then
 bif decide ((↑i : Int) < (↑nc : Int)) then
 lookK C[i]? fun (e9 : List DV) =>
 bif decide ((1 : Nat) ≤ e9.length) then
 bif decide ((↑i : Int) < (↑nd : Int)) then
 bif decide ((↑i : Int) < (↑nd : Int)) then
 lookK D[i]? fun (e14 : List DV) =>
 bif decide ((1 : Nat) ≤ e14.length) then
 k Ex.nrm
 (St.of
 [(1, AV.d (DV.int .i64 t)), (7, AV.d (DV.sla false 7 r)),
 ((8 : Nat), AV.aref 21 7 0 r.length), (9, AV.aref 24 7 0 na),
 ((10 : Nat), AV.aref 27 7 0 nb), (11, AV.aref 30 7 0 nc),
 ((12 : Nat), AV.aref 33 7 0 nd),
 ((13 : Nat), AV.d (DV.int .i64 (IntKind.i64.wrap ((↑i : Int) + (1 : Int)))))]
 [(18, none), (19, none), (21, some (Ob.dat 27 7 r)),
 ((24 : Nat), some (Ob.dat 27 7 (A.set i (DV.int .i64 (-1 : Int) :: List.drop (1 : Nat) e3)))),
 ((27 : Nat), some (Ob.dat 27 7 B)),
 ((30 : Nat), some (Ob.dat 27 7 (C.set i (DV.int .i64 (-1 : Int) :: List.drop (1 : Nat) e9)))),
 ((33 : Nat), some (Ob.dat 27 7 (D.set i (DV.int .i64 (-1 : Int) :: List.drop (1 : Nat) e14))))])
 else none
 else none
 else
 k Ex.nrm
 (St.of
 [(1, AV.d (DV.int .i64 t)), (7, AV.d (DV.sla false 7 r)),
 ((8 : Nat), AV.aref 21 7 0 r.length), (9, AV.aref 24 7 0 na),
 ((10 : Nat), AV.aref 27 7 0 nb), (11, AV.aref 30 7 0 nc),
 ((12 : Nat), AV.aref 33 7 0 nd),
 ((13 : Nat), AV.d (DV.int .i64 (IntKind.i64.wrap ((↑i : Int) + (1 : Int)))))]
 [(18, none), (19, none), (21, some (Ob.dat 27 7 r)),
 ((24 : Nat), some (Ob.dat 27 7 (A.set i (DV.int .i64 (-1 : Int) :: List.drop (1 : Nat) e3)))),
 ((27 : Nat), some (Ob.dat 27 7 B)),
 ((30 : Nat), some (Ob.dat 27 7 (C.set i (DV.int .i64 (-1 : Int) :: List.drop (1 : Nat) e9)))),
 ((33 : Nat), some (Ob.dat 27 7 D))])
 else none
 else none
 else
 bif decide ((↑i : Int) < (↑nd : Int)) then
 bif decide ((↑i : Int) < (↑nd : Int)) then
 lookK D[i]? fun (e10 : List DV) =>
 bif decide ((1 : Nat) ≤ e10.length) then
 k Ex.nrm
 (St.of
 [(1, AV.d (DV.int .i64 t)), (7, AV.d (DV.sla false 7 r)),
 ((8 : Nat), AV.aref 21 7 0 r.length), (9, AV.aref 24 7 0 na),
 ((10 : Nat), AV.aref 27 7 0 nb), (11, AV.aref 30 7 0 nc),
 ((12 : Nat), AV.aref 33 7 0 nd),
 ((13 : Nat), AV.d (DV.int .i64 (IntKind.i64.wrap ((↑i : Int) + (1 : Int)))))]
 [(18, none), (19, none), (21, some (Ob.dat 27 7 r)),
 ((24 : Nat), some (Ob.dat 27 7 (A.set i (DV.int .i64 (-1 : Int) :: List.drop (1 : Nat) e3)))),
 ((27 : Nat), some (Ob.dat 27 7 B)), (30, some (Ob.dat 27 7 C)),
 ((33 : Nat), some (Ob.dat 27 7 (D.set i (DV.int .i64 (-1 : Int) :: List.drop (1 : Nat) e10))))])
 else none
 else none
 else
 k Ex.nrm
 (St.of
 [(1, AV.d (DV.int .i64 t)), (7, AV.d (DV.sla false 7 r)),
 ((8 : Nat), AV.aref 21 7 0 r.length), (9, AV.aref 24 7 0 na),
 ((10 : Nat), AV.aref 27 7 0 nb), (11, AV.aref 30 7 0 nc),
 ((12 : Nat), AV.aref 33 7 0 nd),
 ((13 : Nat), AV.d (DV.int .i64 (IntKind.i64.wrap ((↑i : Int) + (1 : Int)))))]
 [(18, none), (19, none), (21, some (Ob.dat 27 7 r)),
 ((24 : Nat), some (Ob.dat 27 7 (A.set i (DV.int .i64 (-1 : Int) :: List.drop (1 : Nat) e3)))),
 ((27 : Nat), some (Ob.dat 27 7 B)), (30, some (Ob.dat 27 7 C)),
 ((33 : Nat), some (Ob.dat 27 7 D))])
 else none
 else none
 else
 bif decide ((↑i : Int) < (↑nb : Int)) then
 bif decide ((↑i : Int) < (↑nb : Int)) then
 lookK B[i]? fun (e4 : List DV) =>
 bif decide ((1 : Nat) ≤ e4.length) then
 bif decide ((↑i : Int) < (↑nc : Int)) then
 bif decide ((↑i : Int) < (↑nc : Int)) then
 lookK C[i]? fun (e9 : List DV) =>
 bif decide ((1 : Nat) ≤ e9.length) then
 bif decide ((↑i : Int) < (↑nd : Int)) then
 bif decide ((↑i : Int) < (↑nd : Int)) then
 lookK D[i]? fun (e14 : List DV) =>
 bif decide ((1 : Nat) ≤ e14.length) then
 k Ex.nrm
 (St.of
 [(1, AV.d (DV.int .i64 t)), (7, AV.d (DV.sla false 7 r)),
 ((8 : Nat), AV.aref 21 7 0 r.length), (9, AV.aref 24 7 0 na),
 ((10 : Nat), AV.aref 27 7 0 nb), (11, AV.aref 30 7 0 nc),
 ((12 : Nat), AV.aref 33 7 0 nd),
 ((13 : Nat), AV.d (DV.int .i64 (IntKind.i64.wrap ((↑i : Int) + (1 : Int)))))]
 [(18, none), (19, none), (21, some (Ob.dat 27 7 r)),
 ((24 : Nat), some (Ob.dat 27 7 A)),
 ((27 : Nat), some (Ob.dat 27 7 (B.set i (DV.int .i64 (-1 : Int) :: List.drop (1 : Nat) e4)))),
 ((30 : Nat), some (Ob.dat 27 7 (C.set i (DV.int .i64 (-1 : Int) :: List.drop (1 : Nat) e9)))),
 ((33 : Nat), some (Ob.dat 27 7 (D.set i (DV.int .i64 (-1 : Int) :: List.drop (1 : Nat) e14))))])
 else none
 else none
 else
 k Ex.nrm
 (St.of
 [(1, AV.d (DV.int .i64 t)), (7, AV.d (DV.sla false 7 r)),
 ((8 : Nat), AV.aref 21 7 0 r.length), (9, AV.aref 24 7 0 na),
 ((10 : Nat), AV.aref 27 7 0 nb), (11, AV.aref 30 7 0 nc),
 ((12 : Nat), AV.aref 33 7 0 nd),
 ((13 : Nat), AV.d (DV.int .i64 (IntKind.i64.wrap ((↑i : Int) + (1 : Int)))))]
 [(18, none), (19, none), (21, some (Ob.dat 27 7 r)),
 ((24 : Nat), some (Ob.dat 27 7 A)),
 ((27 : Nat), some (Ob.dat 27 7 (B.set i (DV.int .i64 (-1 : Int) :: List.drop (1 : Nat) e4)))),
 ((30 : Nat), some (Ob.dat 27 7 (C.set i (DV.int .i64 (-1 : Int) :: List.drop (1 : Nat) e9)))),
 ((33 : Nat), some (Ob.dat 27 7 D))])
 else none
 else none
 else
 bif decide ((↑i : Int) < (↑nd : Int)) then
 bif decide ((↑i : Int) < (↑nd : Int)) then
 lookK D[i]? fun (e10 : List DV) =>
 bif decide ((1 : Nat) ≤ e10.length) then
 k Ex.nrm
 (St.of
 [(1, AV.d (DV.int .i64 t)), (7, AV.d (DV.sla false 7 r)),
 ((8 : Nat), AV.aref 21 7 0 r.length), (9, AV.aref 24 7 0 na),
 ((10 : Nat), AV.aref 27 7 0 nb), (11, AV.aref 30 7 0 nc),
 ((12 : Nat), AV.aref 33 7 0 nd),
 ((13 : Nat), AV.d (DV.int .i64 (IntKind.i64.wrap ((↑i : Int) + (1 : Int)))))]
 [(18, none), (19, none), (21, some (Ob.dat 27 7 r)),
 ((24 : Nat), some (Ob.dat 27 7 A)),
 ((27 : Nat), some (Ob.dat 27 7 (B.set i (DV.int .i64 (-1 : Int) :: List.drop (1 : Nat) e4)))),
 ((30 : Nat), some (Ob.dat 27 7 C)),
 ((33 : Nat), some (Ob.dat 27 7 (D.set i (DV.int .i64 (-1 : Int) :: List.drop (1 : Nat) e10))))])
 else none
 else none
 else
 k Ex.nrm
 (St.of
 [(1, AV.d (DV.int .i64 t)), (7, AV.d (DV.sla false 7 r)),
 ((8 : Nat), AV.aref 21 7 0 r.length), (9, AV.aref 24 7 0 na),
 ((10 : Nat), AV.aref 27 7 0 nb), (11, AV.aref 30 7 0 nc),
 ((12 : Nat), AV.aref 33 7 0 nd),
 ((13 : Nat), AV.d (DV.int .i64 (IntKind.i64.wrap ((↑i : Int) + (1 : Int)))))]
 [(18, none), (19, none), (21, some (Ob.dat 27 7 r)),
 ((24 : Nat), some (Ob.dat 27 7 A)),
 ((27 : Nat), some (Ob.dat 27 7 (B.set i (DV.int .i64 (-1 : Int) :: List.drop (1 : Nat) e4)))),
 ((30 : Nat), some (Ob.dat 27 7 C)), (33, some (Ob.dat 27 7 D))])
 else none
 else none
 else
 bif decide ((↑i : Int) < (↑nc : Int)) then
 bif decide ((↑i : Int) < (↑nc : Int)) then
 lookK C[i]? fun (e5 : List DV) =>
 bif decide ((1 : Nat) ≤ e5.length) then
 bif decide ((↑i : Int) < (↑nd : Int)) then
 bif decide ((↑i : Int) < (↑nd : Int)) then
 lookK D[i]? fun (e10 : List DV) =>
 bif decide ((1 : Nat) ≤ e10.length) then
 k Ex.nrm
 (St.of
 [(1, AV.d (DV.int .i64 t)), (7, AV.d (DV.sla false 7 r)),
 ((8 : Nat), AV.aref 21 7 0 r.length), (9, AV.aref 24 7 0 na),
 ((10 : Nat), AV.aref 27 7 0 nb), (11, AV.aref 30 7 0 nc),
 ((12 : Nat), AV.aref 33 7 0 nd),
 ((13 : Nat), AV.d (DV.int .i64 (IntKind.i64.wrap ((↑i : Int) + (1 : Int)))))]
 [(18, none), (19, none), (21, some (Ob.dat 27 7 r)),
 ((24 : Nat), some (Ob.dat 27 7 A)), (27, some (Ob.dat 27 7 B)),
 ((30 : Nat), some (Ob.dat 27 7 (C.set i (DV.int .i64 (-1 : Int) :: List.drop (1 : Nat) e5)))),
 ((33 : Nat), some (Ob.dat 27 7 (D.set i (DV.int .i64 (-1 : Int) :: List.drop (1 : Nat) e10))))])
 else none
 else none
 else
 k Ex.nrm
 (St.of
 [(1, AV.d (DV.int .i64 t)), (7, AV.d (DV.sla false 7 r)),
 ((8 : Nat), AV.aref 21 7 0 r.length), (9, AV.aref 24 7 0 na),
 ((10 : Nat), AV.aref 27 7 0 nb), (11, AV.aref 30 7 0 nc),
 ((12 : Nat), AV.aref 33 7 0 nd),
 ((13 : Nat), AV.d (DV.int .i64 (IntKind.i64.wrap ((↑i : Int) + (1 : Int)))))]
 [(18, none), (19, none), (21, some (Ob.dat 27 7 r)),
 ((24 : Nat), some (Ob.dat 27 7 A)), (27, some (Ob.dat 27 7 B)),
 ((30 : Nat), some (Ob.dat 27 7 (C.set i (DV.int .i64 (-1 : Int) :: List.drop (1 : Nat) e5)))),
 ((33 : Nat), some (Ob.dat 27 7 D))])
 else none
 else none
 else
 bif decide ((↑i : Int) < (↑nd : Int)) then
 bif decide ((↑i : Int) < (↑nd : Int)) then
 lookK D[i]? fun (e6 : List DV) =>
 bif decide ((1 : Nat) ≤ e6.length) then
 k Ex.nrm
 (St.of
 [(1, AV.d (DV.int .i64 t)), (7, AV.d (DV.sla false 7 r)),
 ((8 : Nat), AV.aref 21 7 0 r.length), (9, AV.aref 24 7 0 na),
 ((10 : Nat), AV.aref 27 7 0 nb), (11, AV.aref 30 7 0 nc),
 ((12 : Nat), AV.aref 33 7 0 nd),
 ((13 : Nat), AV.d (DV.int .i64 (IntKind.i64.wrap ((↑i : Int) + (1 : Int)))))]
 [(18, none), (19, none), (21, some (Ob.dat 27 7 r)),
 ((24 : Nat), some (Ob.dat 27 7 A)), (27, some (Ob.dat 27 7 B)),
 ((30 : Nat), some (Ob.dat 27 7 C)),
 ((33 : Nat), some (Ob.dat 27 7 (D.set i (DV.int .i64 (-1 : Int) :: List.drop (1 : Nat) e6))))])
 else none
 else none
 else
 k Ex.nrm
 (St.of
 [(1, AV.d (DV.int .i64 t)), (7, AV.d (DV.sla false 7 r)),
 ((8 : Nat), AV.aref 21 7 0 r.length), (9, AV.aref 24 7 0 na),
 ((10 : Nat), AV.aref 27 7 0 nb), (11, AV.aref 30 7 0 nc),
 ((12 : Nat), AV.aref 33 7 0 nd), (13, AV.d (DV.int .i64 (IntKind.i64.wrap ((↑i : Int) + (1 : Int)))))]
 [(18, none), (19, none), (21, some (Ob.dat 27 7 r)),
 ((24 : Nat), some (Ob.dat 27 7 A)), (27, some (Ob.dat 27 7 B)),
 ((30 : Nat), some (Ob.dat 27 7 C)), (33, some (Ob.dat 27 7 D))])
 else
 k (Ex.ex (0 : Nat))
 (St.of
 [(1, AV.d (DV.int .i64 t)), (7, AV.d (DV.sla false 7 r)), (8, AV.aref 21 7 0 r.length)]
 [(18, none), (19, none), (21, some (Ob.dat 27 7 r))])) :=
  (show LB tabX (spU true true true) lQ6 L (n+4) h60X c6l0X (T60 true true true t r none (.aref 21 7 0 r.length) (some (.dat 27 7 r)) na nb nc nd A B C D i) k =
 (cond (decide ((↑i : Int) < (↑r.length : Int)))
 (cond (decide ((↑i : Int) < (↑na : Int)))
 (cond (decide ((↑i : Int) < (↑na : Int)))
 (lookK (A[(0 : Nat) + (↑i : Int).toNat]?)
 fun e3 =>
 (cond (decide ((1 : Nat) ≤ e3.length))
 (cond (decide ((↑i : Int) < (↑nb : Int)))
 (cond (decide ((↑i : Int) < (↑nb : Int)))
 (lookK (B[(0 : Nat) + (↑i : Int).toNat]?)
 fun e8 =>
 (cond (decide ((1 : Nat) ≤ e8.length))
 (cond (decide ((↑i : Int) < (↑nc : Int)))
 (cond (decide ((↑i : Int) < (↑nc : Int)))
 (lookK (C[(0 : Nat) + (↑i : Int).toNat]?)
 fun e13 =>
 (cond (decide ((1 : Nat) ≤ e13.length))
 (cond (decide ((↑i : Int) < (↑nd : Int)))
 (cond (decide ((↑i : Int) < (↑nd : Int)))
 (lookK (D[(0 : Nat) + (↑i : Int).toNat]?)
 fun e18 =>
 (cond (decide ((1 : Nat) ≤ e18.length))
 (k .nrm (St.of [(1, (.d (.int .i64 t))), (7, (.d (.sla false 7 r))), (8, (.aref 21 7 0 (r.length))), (9, (.aref 24 7 0 na)), (10, (.aref 27 7 0 nb)), (11, (.aref 30 7 0 nc)), (12, (.aref 33 7 0 nd)), (13, (.d (.int .i64 (IntKind.i64.wrap ((↑i : Int) + (1 : Int))))))] [(18, .none), (19, .none), (21, (.some (.dat 27 7 r))), (24, (.some (.dat 27 7 (A.set ((0 : Nat) + (↑i : Int).toNat) (DV.int .i64 (-1 : Int) :: List.drop (1 : Nat) e3))))), (27, (.some (.dat 27 7 (B.set ((0 : Nat) + (↑i : Int).toNat) (DV.int .i64 (-1 : Int) :: List.drop (1 : Nat) e8))))), (30, (.some (.dat 27 7 (C.set ((0 : Nat) + (↑i : Int).toNat) (DV.int .i64 (-1 : Int) :: List.drop (1 : Nat) e13))))), (33, (.some (.dat 27 7 (D.set ((0 : Nat) + (↑i : Int).toNat) (DV.int .i64 (-1 : Int) :: List.drop (1 : Nat) e18)))))]))
 none))
 none)
 (k .nrm (St.of [(1, (.d (.int .i64 t))), (7, (.d (.sla false 7 r))), (8, (.aref 21 7 0 (r.length))), (9, (.aref 24 7 0 na)), (10, (.aref 27 7 0 nb)), (11, (.aref 30 7 0 nc)), (12, (.aref 33 7 0 nd)), (13, (.d (.int .i64 (IntKind.i64.wrap ((↑i : Int) + (1 : Int))))))] [(18, .none), (19, .none), (21, (.some (.dat 27 7 r))), (24, (.some (.dat 27 7 (A.set ((0 : Nat) + (↑i : Int).toNat) (DV.int .i64 (-1 : Int) :: List.drop (1 : Nat) e3))))), (27, (.some (.dat 27 7 (B.set ((0 : Nat) + (↑i : Int).toNat) (DV.int .i64 (-1 : Int) :: List.drop (1 : Nat) e8))))), (30, (.some (.dat 27 7 (C.set ((0 : Nat) + (↑i : Int).toNat) (DV.int .i64 (-1 : Int) :: List.drop (1 : Nat) e13))))), (33, (.some (.dat 27 7 D)))])))
 none))
 none)
 (cond (decide ((↑i : Int) < (↑nd : Int)))
 (cond (decide ((↑i : Int) < (↑nd : Int)))
 (lookK (D[(0 : Nat) + (↑i : Int).toNat]?)
 fun e14 =>
 (cond (decide ((1 : Nat) ≤ e14.length))
 (k .nrm (St.of [(1, (.d (.int .i64 t))), (7, (.d (.sla false 7 r))), (8, (.aref 21 7 0 (r.length))), (9, (.aref 24 7 0 na)), (10, (.aref 27 7 0 nb)), (11, (.aref 30 7 0 nc)), (12, (.aref 33 7 0 nd)), (13, (.d (.int .i64 (IntKind.i64.wrap ((↑i : Int) + (1 : Int))))))] [(18, .none), (19, .none), (21, (.some (.dat 27 7 r))), (24, (.some (.dat 27 7 (A.set ((0 : Nat) + (↑i : Int).toNat) (DV.int .i64 (-1 : Int) :: List.drop (1 : Nat) e3))))), (27, (.some (.dat 27 7 (B.set ((0 : Nat) + (↑i : Int).toNat) (DV.int .i64 (-1 : Int) :: List.drop (1 : Nat) e8))))), (30, (.some (.dat 27 7 C))), (33, (.some (.dat 27 7 (D.set ((0 : Nat) + (↑i : Int).toNat) (DV.int .i64 (-1 : Int) :: List.drop (1 : Nat) e14)))))]))
 none))
 none)
 (k .nrm (St.of [(1, (.d (.int .i64 t))), (7, (.d (.sla false 7 r))), (8, (.aref 21 7 0 (r.length))), (9, (.aref 24 7 0 na)), (10, (.aref 27 7 0 nb)), (11, (.aref 30 7 0 nc)), (12, (.aref 33 7 0 nd)), (13, (.d (.int .i64 (IntKind.i64.wrap ((↑i : Int) + (1 : Int))))))] [(18, .none), (19, .none), (21, (.some (.dat 27 7 r))), (24, (.some (.dat 27 7 (A.set ((0 : Nat) + (↑i : Int).toNat) (DV.int .i64 (-1 : Int) :: List.drop (1 : Nat) e3))))), (27, (.some (.dat 27 7 (B.set ((0 : Nat) + (↑i : Int).toNat) (DV.int .i64 (-1 : Int) :: List.drop (1 : Nat) e8))))), (30, (.some (.dat 27 7 C))), (33, (.some (.dat 27 7 D)))]))))
 none))
 none)
 (cond (decide ((↑i : Int) < (↑nc : Int)))
 (cond (decide ((↑i : Int) < (↑nc : Int)))
 (lookK (C[(0 : Nat) + (↑i : Int).toNat]?)
 fun e9 =>
 (cond (decide ((1 : Nat) ≤ e9.length))
 (cond (decide ((↑i : Int) < (↑nd : Int)))
 (cond (decide ((↑i : Int) < (↑nd : Int)))
 (lookK (D[(0 : Nat) + (↑i : Int).toNat]?)
 fun e14 =>
 (cond (decide ((1 : Nat) ≤ e14.length))
 (k .nrm (St.of [(1, (.d (.int .i64 t))), (7, (.d (.sla false 7 r))), (8, (.aref 21 7 0 (r.length))), (9, (.aref 24 7 0 na)), (10, (.aref 27 7 0 nb)), (11, (.aref 30 7 0 nc)), (12, (.aref 33 7 0 nd)), (13, (.d (.int .i64 (IntKind.i64.wrap ((↑i : Int) + (1 : Int))))))] [(18, .none), (19, .none), (21, (.some (.dat 27 7 r))), (24, (.some (.dat 27 7 (A.set ((0 : Nat) + (↑i : Int).toNat) (DV.int .i64 (-1 : Int) :: List.drop (1 : Nat) e3))))), (27, (.some (.dat 27 7 B))), (30, (.some (.dat 27 7 (C.set ((0 : Nat) + (↑i : Int).toNat) (DV.int .i64 (-1 : Int) :: List.drop (1 : Nat) e9))))), (33, (.some (.dat 27 7 (D.set ((0 : Nat) + (↑i : Int).toNat) (DV.int .i64 (-1 : Int) :: List.drop (1 : Nat) e14)))))]))
 none))
 none)
 (k .nrm (St.of [(1, (.d (.int .i64 t))), (7, (.d (.sla false 7 r))), (8, (.aref 21 7 0 (r.length))), (9, (.aref 24 7 0 na)), (10, (.aref 27 7 0 nb)), (11, (.aref 30 7 0 nc)), (12, (.aref 33 7 0 nd)), (13, (.d (.int .i64 (IntKind.i64.wrap ((↑i : Int) + (1 : Int))))))] [(18, .none), (19, .none), (21, (.some (.dat 27 7 r))), (24, (.some (.dat 27 7 (A.set ((0 : Nat) + (↑i : Int).toNat) (DV.int .i64 (-1 : Int) :: List.drop (1 : Nat) e3))))), (27, (.some (.dat 27 7 B))), (30, (.some (.dat 27 7 (C.set ((0 : Nat) + (↑i : Int).toNat) (DV.int .i64 (-1 : Int) :: List.drop (1 : Nat) e9))))), (33, (.some (.dat 27 7 D)))])))
 none))
 none)
 (cond (decide ((↑i : Int) < (↑nd : Int)))
 (cond (decide ((↑i : Int) < (↑nd : Int)))
 (lookK (D[(0 : Nat) + (↑i : Int).toNat]?)
 fun e10 =>
 (cond (decide ((1 : Nat) ≤ e10.length))
 (k .nrm (St.of [(1, (.d (.int .i64 t))), (7, (.d (.sla false 7 r))), (8, (.aref 21 7 0 (r.length))), (9, (.aref 24 7 0 na)), (10, (.aref 27 7 0 nb)), (11, (.aref 30 7 0 nc)), (12, (.aref 33 7 0 nd)), (13, (.d (.int .i64 (IntKind.i64.wrap ((↑i : Int) + (1 : Int))))))] [(18, .none), (19, .none), (21, (.some (.dat 27 7 r))), (24, (.some (.dat 27 7 (A.set ((0 : Nat) + (↑i : Int).toNat) (DV.int .i64 (-1 : Int) :: List.drop (1 : Nat) e3))))), (27, (.some (.dat 27 7 B))), (30, (.some (.dat 27 7 C))), (33, (.some (.dat 27 7 (D.set ((0 : Nat) + (↑i : Int).toNat) (DV.int .i64 (-1 : Int) :: List.drop (1 : Nat) e10)))))]))
 none))
 none)
 (k .nrm (St.of [(1, (.d (.int .i64 t))), (7, (.d (.sla false 7 r))), (8, (.aref 21 7 0 (r.length))), (9, (.aref 24 7 0 na)), (10, (.aref 27 7 0 nb)), (11, (.aref 30 7 0 nc)), (12, (.aref 33 7 0 nd)), (13, (.d (.int .i64 (IntKind.i64.wrap ((↑i : Int) + (1 : Int))))))] [(18, .none), (19, .none), (21, (.some (.dat 27 7 r))), (24, (.some (.dat 27 7 (A.set ((0 : Nat) + (↑i : Int).toNat) (DV.int .i64 (-1 : Int) :: List.drop (1 : Nat) e3))))), (27, (.some (.dat 27 7 B))), (30, (.some (.dat 27 7 C))), (33, (.some (.dat 27 7 D)))])))))
 none))
 none)
 (cond (decide ((↑i : Int) < (↑nb : Int)))
 (cond (decide ((↑i : Int) < (↑nb : Int)))
 (lookK (B[(0 : Nat) + (↑i : Int).toNat]?)
 fun e4 =>
 (cond (decide ((1 : Nat) ≤ e4.length))
 (cond (decide ((↑i : Int) < (↑nc : Int)))
 (cond (decide ((↑i : Int) < (↑nc : Int)))
 (lookK (C[(0 : Nat) + (↑i : Int).toNat]?)
 fun e9 =>
 (cond (decide ((1 : Nat) ≤ e9.length))
 (cond (decide ((↑i : Int) < (↑nd : Int)))
 (cond (decide ((↑i : Int) < (↑nd : Int)))
 (lookK (D[(0 : Nat) + (↑i : Int).toNat]?)
 fun e14 =>
 (cond (decide ((1 : Nat) ≤ e14.length))
 (k .nrm (St.of [(1, (.d (.int .i64 t))), (7, (.d (.sla false 7 r))), (8, (.aref 21 7 0 (r.length))), (9, (.aref 24 7 0 na)), (10, (.aref 27 7 0 nb)), (11, (.aref 30 7 0 nc)), (12, (.aref 33 7 0 nd)), (13, (.d (.int .i64 (IntKind.i64.wrap ((↑i : Int) + (1 : Int))))))] [(18, .none), (19, .none), (21, (.some (.dat 27 7 r))), (24, (.some (.dat 27 7 A))), (27, (.some (.dat 27 7 (B.set ((0 : Nat) + (↑i : Int).toNat) (DV.int .i64 (-1 : Int) :: List.drop (1 : Nat) e4))))), (30, (.some (.dat 27 7 (C.set ((0 : Nat) + (↑i : Int).toNat) (DV.int .i64 (-1 : Int) :: List.drop (1 : Nat) e9))))), (33, (.some (.dat 27 7 (D.set ((0 : Nat) + (↑i : Int).toNat) (DV.int .i64 (-1 : Int) :: List.drop (1 : Nat) e14)))))]))
 none))
 none)
 (k .nrm (St.of [(1, (.d (.int .i64 t))), (7, (.d (.sla false 7 r))), (8, (.aref 21 7 0 (r.length))), (9, (.aref 24 7 0 na)), (10, (.aref 27 7 0 nb)), (11, (.aref 30 7 0 nc)), (12, (.aref 33 7 0 nd)), (13, (.d (.int .i64 (IntKind.i64.wrap ((↑i : Int) + (1 : Int))))))] [(18, .none), (19, .none), (21, (.some (.dat 27 7 r))), (24, (.some (.dat 27 7 A))), (27, (.some (.dat 27 7 (B.set ((0 : Nat) + (↑i : Int).toNat) (DV.int .i64 (-1 : Int) :: List.drop (1 : Nat) e4))))), (30, (.some (.dat 27 7 (C.set ((0 : Nat) + (↑i : Int).toNat) (DV.int .i64 (-1 : Int) :: List.drop (1 : Nat) e9))))), (33, (.some (.dat 27 7 D)))])))
 none))
 none)
 (cond (decide ((↑i : Int) < (↑nd : Int)))
 (cond (decide ((↑i : Int) < (↑nd : Int)))
 (lookK (D[(0 : Nat) + (↑i : Int).toNat]?)
 fun e10 =>
 (cond (decide ((1 : Nat) ≤ e10.length))
 (k .nrm (St.of [(1, (.d (.int .i64 t))), (7, (.d (.sla false 7 r))), (8, (.aref 21 7 0 (r.length))), (9, (.aref 24 7 0 na)), (10, (.aref 27 7 0 nb)), (11, (.aref 30 7 0 nc)), (12, (.aref 33 7 0 nd)), (13, (.d (.int .i64 (IntKind.i64.wrap ((↑i : Int) + (1 : Int))))))] [(18, .none), (19, .none), (21, (.some (.dat 27 7 r))), (24, (.some (.dat 27 7 A))), (27, (.some (.dat 27 7 (B.set ((0 : Nat) + (↑i : Int).toNat) (DV.int .i64 (-1 : Int) :: List.drop (1 : Nat) e4))))), (30, (.some (.dat 27 7 C))), (33, (.some (.dat 27 7 (D.set ((0 : Nat) + (↑i : Int).toNat) (DV.int .i64 (-1 : Int) :: List.drop (1 : Nat) e10)))))]))
 none))
 none)
 (k .nrm (St.of [(1, (.d (.int .i64 t))), (7, (.d (.sla false 7 r))), (8, (.aref 21 7 0 (r.length))), (9, (.aref 24 7 0 na)), (10, (.aref 27 7 0 nb)), (11, (.aref 30 7 0 nc)), (12, (.aref 33 7 0 nd)), (13, (.d (.int .i64 (IntKind.i64.wrap ((↑i : Int) + (1 : Int))))))] [(18, .none), (19, .none), (21, (.some (.dat 27 7 r))), (24, (.some (.dat 27 7 A))), (27, (.some (.dat 27 7 (B.set ((0 : Nat) + (↑i : Int).toNat) (DV.int .i64 (-1 : Int) :: List.drop (1 : Nat) e4))))), (30, (.some (.dat 27 7 C))), (33, (.some (.dat 27 7 D)))]))))
 none))
 none)
 (cond (decide ((↑i : Int) < (↑nc : Int)))
 (cond (decide ((↑i : Int) < (↑nc : Int)))
 (lookK (C[(0 : Nat) + (↑i : Int).toNat]?)
 fun e5 =>
 (cond (decide ((1 : Nat) ≤ e5.length))
 (cond (decide ((↑i : Int) < (↑nd : Int)))
 (cond (decide ((↑i : Int) < (↑nd : Int)))
 (lookK (D[(0 : Nat) + (↑i : Int).toNat]?)
 fun e10 =>
 (cond (decide ((1 : Nat) ≤ e10.length))
 (k .nrm (St.of [(1, (.d (.int .i64 t))), (7, (.d (.sla false 7 r))), (8, (.aref 21 7 0 (r.length))), (9, (.aref 24 7 0 na)), (10, (.aref 27 7 0 nb)), (11, (.aref 30 7 0 nc)), (12, (.aref 33 7 0 nd)), (13, (.d (.int .i64 (IntKind.i64.wrap ((↑i : Int) + (1 : Int))))))] [(18, .none), (19, .none), (21, (.some (.dat 27 7 r))), (24, (.some (.dat 27 7 A))), (27, (.some (.dat 27 7 B))), (30, (.some (.dat 27 7 (C.set ((0 : Nat) + (↑i : Int).toNat) (DV.int .i64 (-1 : Int) :: List.drop (1 : Nat) e5))))), (33, (.some (.dat 27 7 (D.set ((0 : Nat) + (↑i : Int).toNat) (DV.int .i64 (-1 : Int) :: List.drop (1 : Nat) e10)))))]))
 none))
 none)
 (k .nrm (St.of [(1, (.d (.int .i64 t))), (7, (.d (.sla false 7 r))), (8, (.aref 21 7 0 (r.length))), (9, (.aref 24 7 0 na)), (10, (.aref 27 7 0 nb)), (11, (.aref 30 7 0 nc)), (12, (.aref 33 7 0 nd)), (13, (.d (.int .i64 (IntKind.i64.wrap ((↑i : Int) + (1 : Int))))))] [(18, .none), (19, .none), (21, (.some (.dat 27 7 r))), (24, (.some (.dat 27 7 A))), (27, (.some (.dat 27 7 B))), (30, (.some (.dat 27 7 (C.set ((0 : Nat) + (↑i : Int).toNat) (DV.int .i64 (-1 : Int) :: List.drop (1 : Nat) e5))))), (33, (.some (.dat 27 7 D)))])))
 none))
 none)
 (cond (decide ((↑i : Int) < (↑nd : Int)))
 (cond (decide ((↑i : Int) < (↑nd : Int)))
 (lookK (D[(0 : Nat) + (↑i : Int).toNat]?)
 fun e6 =>
 (cond (decide ((1 : Nat) ≤ e6.length))
 (k .nrm (St.of [(1, (.d (.int .i64 t))), (7, (.d (.sla false 7 r))), (8, (.aref 21 7 0 (r.length))), (9, (.aref 24 7 0 na)), (10, (.aref 27 7 0 nb)), (11, (.aref 30 7 0 nc)), (12, (.aref 33 7 0 nd)), (13, (.d (.int .i64 (IntKind.i64.wrap ((↑i : Int) + (1 : Int))))))] [(18, .none), (19, .none), (21, (.some (.dat 27 7 r))), (24, (.some (.dat 27 7 A))), (27, (.some (.dat 27 7 B))), (30, (.some (.dat 27 7 C))), (33, (.some (.dat 27 7 (D.set ((0 : Nat) + (↑i : Int).toNat) (DV.int .i64 (-1 : Int) :: List.drop (1 : Nat) e6)))))]))
 none))
 none)
 (k .nrm (St.of [(1, (.d (.int .i64 t))), (7, (.d (.sla false 7 r))), (8, (.aref 21 7 0 (r.length))), (9, (.aref 24 7 0 na)), (10, (.aref 27 7 0 nb)), (11, (.aref 30 7 0 nc)), (12, (.aref 33 7 0 nd)), (13, (.d (.int .i64 (IntKind.i64.wrap ((↑i : Int) + (1 : Int))))))] [(18, .none), (19, .none), (21, (.some (.dat 27 7 r))), (24, (.some (.dat 27 7 A))), (27, (.some (.dat 27 7 B))), (30, (.some (.dat 27 7 C))), (33, (.some (.dat 27 7 D)))]))))))
 (k (.ex 0) (St.of [(1, (.d (.int .i64 t))), (7, (.d (.sla false 7 r))), (8, (.aref 21 7 0 (r.length)))] [(18, .none), (19, .none), (21, (.some (.dat 27 7 r)))]))) from by kernel_rfl).trans (by first | rfl | (simp only [decide_true, decide_false, eq_self, and_true, true_and, and_self, cond_true, cond_false, Nat.le_refl, Int.le_refl, Option.getD_some, Option.getD_none, Int.toNat_natCast, List.take_length, List.drop_zero, Nat.zero_add, List.nil_append, List.all_nil, List.append_nil, Bool.true_and, Bool.and_true, rowsA_sla, rowsA_sl, rowsA_nil, minus_zero, nat_le_cast, nat_nonneg, Option.isSome_some, Option.isSome_none, Bool.false_eq_true, false_and, and_false, if_true, if_false, implies_true, Int.toNat_zero, Bool.not_false, Bool.not_true, bne_self_eq_false]; done) | (simp only [decide_true, decide_false, eq_self, and_true, true_and, and_self, cond_true, cond_false, Nat.le_refl, Int.le_refl, Option.getD_some, Option.getD_none, Int.toNat_natCast, List.take_length, List.drop_zero, Nat.zero_add, List.nil_append, List.all_nil, List.append_nil, Bool.true_and, Bool.and_true, rowsA_sla, rowsA_sl, rowsA_nil, minus_zero, nat_le_cast, nat_nonneg, Option.isSome_some, Option.isSome_none, Bool.false_eq_true, false_and, and_false, if_true, if_false, implies_true, Int.toNat_zero, Bool.not_false, Bool.not_true, bne_self_eq_false]; rfl))
theorem s60FTT (L n : Nat) (t : Int) (r : List (List DV)) (na nb nc nd : Nat) (A B C D : List (List DV)) (i : Nat) (k : Kont) : LB tabX (spU false true true) lQ6 L (n+4) h60X c6l0X (T60 false true true t r none (.aref 21 7 0 r.length) (some (.dat 27 7 r)) na nb nc nd A B C D i) k =
   (bif decide ((↑i : Int) < (↑r.length : Int)) then
 bif decide ((↑i : Int) < (↑nb : Int)) then
 bif decide ((↑i : Int) < (↑nb : Int)) then
 lookK B[i]? fun (e3 : List DV) =>
 bif decide ((1 : Nat) ≤ e3.length) then
 bif decide ((↑i : Int) < (↑nd : Int)) then
 bif decide ((↑i : Int) < (↑nd : Int)) then
 lookK D[i]? fun (e8 : List DV) =>
 bif decide ((1 : Nat) ≤ e8.length) then
 k Ex.nrm
 (St.of
 [(1, AV.d (DV.int .i64 t)), (7, AV.d (DV.sla false 7 r)),
 ((8 : Nat), AV.aref 21 7 0 r.length), (9, AV.d DV.nilsl),
 ((10 : Nat), AV.aref 27 7 0 nb), (11, AV.d DV.nilsl),
 ((12 : Nat), AV.aref 33 7 0 nd),
 ((13 : Nat), AV.d (DV.int .i64 (IntKind.i64.wrap ((↑i : Int) + (1 : Int)))))]
 [(18, none), (19, none), (21, some (Ob.dat 27 7 r)), (24, none),
 ((27 : Nat), some (Ob.dat 27 7 (B.set i (DV.int .i64 (-1 : Int) :: List.drop (1 : Nat) e3)))),
 ((30 : Nat), none),
 ((33 : Nat), some (Ob.dat 27 7 (D.set i (DV.int .i64 (-1 : Int) :: List.drop (1 : Nat) e8))))])
 else none
 else none
 else
 k Ex.nrm
 (St.of
 [(1, AV.d (DV.int .i64 t)), (7, AV.d (DV.sla false 7 r)),
 ((8 : Nat), AV.aref 21 7 0 r.length), (9, AV.d DV.nilsl),
 ((10 : Nat), AV.aref 27 7 0 nb), (11, AV.d DV.nilsl),
 ((12 : Nat), AV.aref 33 7 0 nd),
 ((13 : Nat), AV.d (DV.int .i64 (IntKind.i64.wrap ((↑i : Int) + (1 : Int)))))]
 [(18, none), (19, none), (21, some (Ob.dat 27 7 r)), (24, none),
 ((27 : Nat), some (Ob.dat 27 7 (B.set i (DV.int .i64 (-1 : Int) :: List.drop (1 : Nat) e3)))), (30, none),
 ((33 : Nat), some (Ob.dat 27 7 D))])
 else none
 else none
 else
 bif decide ((↑i : Int) < (↑nd : Int)) then
 bif decide ((↑i : Int) < (↑nd : Int)) then
 lookK D[i]? fun (e4 : List DV) =>
 bif decide ((1 : Nat) ≤ e4.length) then
 k Ex.nrm
 (St.of
 [(1, AV.d (DV.int .i64 t)), (7, AV.d (DV.sla false 7 r)),
 ((8 : Nat), AV.aref 21 7 0 r.length), (9, AV.d DV.nilsl),
 ((10 : Nat), AV.aref 27 7 0 nb), (11, AV.d DV.nilsl),
 ((12 : Nat), AV.aref 33 7 0 nd),
 ((13 : Nat), AV.d (DV.int .i64 (IntKind.i64.wrap ((↑i : Int) + (1 : Int)))))]
 [(18, none), (19, none), (21, some (Ob.dat 27 7 r)), (24, none),
 ((27 : Nat), some (Ob.dat 27 7 B)), (30, none),
 ((33 : Nat), some (Ob.dat 27 7 (D.set i (DV.int .i64 (-1 : Int) :: List.drop (1 : Nat) e4))))])
 else none
 else none
 else
 k Ex.nrm
 (St.of
 [(1, AV.d (DV.int .i64 t)), (7, AV.d (DV.sla false 7 r)),
 ((8 : Nat), AV.aref 21 7 0 r.length), (9, AV.d DV.nilsl), (10, AV.aref 27 7 0 nb),
 ((11 : Nat), AV.d DV.nilsl), (12, AV.aref 33 7 0 nd),
 ((13 : Nat), AV.d (DV.int .i64 (IntKind.i64.wrap ((↑i : Int) + (1 : Int)))))]
 [(18, none), (19, none), (21, some (Ob.dat 27 7 r)), (24, none),
 ((27 : Nat), some (Ob.dat 27 7 B)), (30, none), (33, some (Ob.dat 27 7 D))])
 else
 k (Ex.ex (0 : Nat))
 (St.of
 [(1, AV.d (DV.int .i64 t)), (7, AV.d (DV.sla false 7 r)), (8, AV.aref 21 7 0 r.length)]
 [(18, none), (19, none), (21, some (Ob.dat 27 7 r))])) :=
  (show LB tabX (spU false true true) lQ6 L (n+4) h60X c6l0X (T60 false true true t r none (.aref 21 7 0 r.length) (some (.dat 27 7 r)) na nb nc nd A B C D i) k =
 (cond (decide ((↑i : Int) < (↑r.length : Int)))
 (cond (decide ((↑i : Int) < (↑nb : Int)))
 (cond (decide ((↑i : Int) < (↑nb : Int)))
 (lookK (B[(0 : Nat) + (↑i : Int).toNat]?)
 fun e3 =>
 (cond (decide ((1 : Nat) ≤ e3.length))
 (cond (decide ((↑i : Int) < (↑nd : Int)))
 (cond (decide ((↑i : Int) < (↑nd : Int)))
 (lookK (D[(0 : Nat) + (↑i : Int).toNat]?)
 fun e8 =>
 (cond (decide ((1 : Nat) ≤ e8.length))
 (k .nrm (St.of [(1, (.d (.int .i64 t))), (7, (.d (.sla false 7 r))), (8, (.aref 21 7 0 (r.length))), (9, (.d .nilsl)), (10, (.aref 27 7 0 nb)), (11, (.d .nilsl)), (12, (.aref 33 7 0 nd)), (13, (.d (.int .i64 (IntKind.i64.wrap ((↑i : Int) + (1 : Int))))))] [(18, .none), (19, .none), (21, (.some (.dat 27 7 r))), (24, .none), (27, (.some (.dat 27 7 (B.set ((0 : Nat) + (↑i : Int).toNat) (DV.int .i64 (-1 : Int) :: List.drop (1 : Nat) e3))))), (30, .none), (33, (.some (.dat 27 7 (D.set ((0 : Nat) + (↑i : Int).toNat) (DV.int .i64 (-1 : Int) :: List.drop (1 : Nat) e8)))))]))
 none))
 none)
 (k .nrm (St.of [(1, (.d (.int .i64 t))), (7, (.d (.sla false 7 r))), (8, (.aref 21 7 0 (r.length))), (9, (.d .nilsl)), (10, (.aref 27 7 0 nb)), (11, (.d .nilsl)), (12, (.aref 33 7 0 nd)), (13, (.d (.int .i64 (IntKind.i64.wrap ((↑i : Int) + (1 : Int))))))] [(18, .none), (19, .none), (21, (.some (.dat 27 7 r))), (24, .none), (27, (.some (.dat 27 7 (B.set ((0 : Nat) + (↑i : Int).toNat) (DV.int .i64 (-1 : Int) :: List.drop (1 : Nat) e3))))), (30, .none), (33, (.some (.dat 27 7 D)))])))
 none))
 none)
 (cond (decide ((↑i : Int) < (↑nd : Int)))
 (cond (decide ((↑i : Int) < (↑nd : Int)))
 (lookK (D[(0 : Nat) + (↑i : Int).toNat]?)
 fun e4 =>
 (cond (decide ((1 : Nat) ≤ e4.length))
 (k .nrm (St.of [(1, (.d (.int .i64 t))), (7, (.d (.sla false 7 r))), (8, (.aref 21 7 0 (r.length))), (9, (.d .nilsl)), (10, (.aref 27 7 0 nb)), (11, (.d .nilsl)), (12, (.aref 33 7 0 nd)), (13, (.d (.int .i64 (IntKind.i64.wrap ((↑i : Int) + (1 : Int))))))] [(18, .none), (19, .none), (21, (.some (.dat 27 7 r))), (24, .none), (27, (.some (.dat 27 7 B))), (30, .none), (33, (.some (.dat 27 7 (D.set ((0 : Nat) + (↑i : Int).toNat) (DV.int .i64 (-1 : Int) :: List.drop (1 : Nat) e4)))))]))
 none))
 none)
 (k .nrm (St.of [(1, (.d (.int .i64 t))), (7, (.d (.sla false 7 r))), (8, (.aref 21 7 0 (r.length))), (9, (.d .nilsl)), (10, (.aref 27 7 0 nb)), (11, (.d .nilsl)), (12, (.aref 33 7 0 nd)), (13, (.d (.int .i64 (IntKind.i64.wrap ((↑i : Int) + (1 : Int))))))] [(18, .none), (19, .none), (21, (.some (.dat 27 7 r))), (24, .none), (27, (.some (.dat 27 7 B))), (30, .none), (33, (.some (.dat 27 7 D)))]))))
 (k (.ex 0) (St.of [(1, (.d (.int .i64 t))), (7, (.d (.sla false 7 r))), (8, (.aref 21 7 0 (r.length)))] [(18, .none), (19, .none), (21, (.some (.dat 27 7 r)))]))) from by kernel_rfl).trans (by first | rfl | (simp only [decide_true, decide_false, eq_self, and_true, true_and, and_self, cond_true, cond_false, Nat.le_refl, Int.le_refl, Option.getD_some, Option.getD_none, Int.toNat_natCast, List.take_length, List.drop_zero, Nat.zero_add, List.nil_append, List.all_nil, List.append_nil, Bool.true_and, Bool.and_true, rowsA_sla, rowsA_sl, rowsA_nil, minus_zero, nat_le_cast, nat_nonneg, Option.isSome_some, Option.isSome_none, Bool.false_eq_true, false_and, and_false, if_true, if_false, implies_true, Int.toNat_zero, Bool.not_false, Bool.not_true, bne_self_eq_false]; done) | (simp only [decide_true, decide_false, eq_self, and_true, true_and, and_self, cond_true, cond_false, Nat.le_refl, Int.le_refl, Option.getD_some, Option.getD_none, Int.toNat_natCast, List.take_length, List.drop_zero, Nat.zero_add, List.nil_append, List.all_nil, List.append_nil, Bool.true_and, Bool.and_true, rowsA_sla, rowsA_sl, rowsA_nil, minus_zero, nat_le_cast, nat_nonneg, Option.isSome_some, Option.isSome_none, Bool.false_eq_true, false_and, and_false, if_true, if_false, implies_true, Int.toNat_zero, Bool.not_false, Bool.not_true, bne_self_eq_false]; rfl))
theorem s60TFT (L n : Nat) (t : Int) (r : List (List DV)) (na nb nc nd : Nat) (A B C D : List (List DV)) (i : Nat) (k : Kont) : LB tabX (spU true false true) lQ6 L (n+4) h60X c6l0X (T60 true false true t r none (.aref 21 7 0 r.length) (some (.dat 27 7 r)) na nb nc nd A B C D i) k =
   (bif decide ((↑i : Int) < (↑r.length : Int)) then
 bif decide ((↑i : Int) < (↑na : Int)) then
 bif decide ((↑i : Int) < (↑na : Int)) then
 lookK A[i]? fun (e3 : List DV) =>
 bif decide ((1 : Nat) ≤ e3.length) then
 bif decide ((↑i : Int) < (↑nc : Int)) then
 bif decide ((↑i : Int) < (↑nc : Int)) then
 lookK C[i]? fun (e8 : List DV) =>
 bif decide ((1 : Nat) ≤ e8.length) then
 bif decide ((↑i : Int) < (↑nd : Int)) then
 bif decide ((↑i : Int) < (↑nd : Int)) then
 lookK D[i]? fun (e13 : List DV) =>
 bif decide ((1 : Nat) ≤ e13.length) then
 k Ex.nrm
 (St.of
 [(1, AV.d (DV.int .i64 t)), (7, AV.d (DV.sla false 7 r)),
 ((8 : Nat), AV.aref 21 7 0 r.length), (9, AV.aref 24 7 0 na),
 ((10 : Nat), AV.d DV.nilsl), (11, AV.aref 30 7 0 nc),
 ((12 : Nat), AV.aref 33 7 0 nd),
 ((13 : Nat), AV.d (DV.int .i64 (IntKind.i64.wrap ((↑i : Int) + (1 : Int)))))]
 [(18, none), (19, none), (21, some (Ob.dat 27 7 r)),
 ((24 : Nat), some (Ob.dat 27 7 (A.set i (DV.int .i64 (-1 : Int) :: List.drop (1 : Nat) e3)))),
 ((27 : Nat), none),
 ((30 : Nat), some (Ob.dat 27 7 (C.set i (DV.int .i64 (-1 : Int) :: List.drop (1 : Nat) e8)))),
 ((33 : Nat), some (Ob.dat 27 7 (D.set i (DV.int .i64 (-1 : Int) :: List.drop (1 : Nat) e13))))])
 else none
 else none
 else
 k Ex.nrm
 (St.of
 [(1, AV.d (DV.int .i64 t)), (7, AV.d (DV.sla false 7 r)),
 ((8 : Nat), AV.aref 21 7 0 r.length), (9, AV.aref 24 7 0 na),
 ((10 : Nat), AV.d DV.nilsl), (11, AV.aref 30 7 0 nc),
 ((12 : Nat), AV.aref 33 7 0 nd),
 ((13 : Nat), AV.d (DV.int .i64 (IntKind.i64.wrap ((↑i : Int) + (1 : Int)))))]
 [(18, none), (19, none), (21, some (Ob.dat 27 7 r)),
 ((24 : Nat), some (Ob.dat 27 7 (A.set i (DV.int .i64 (-1 : Int) :: List.drop (1 : Nat) e3)))),
 ((27 : Nat), none),
 ((30 : Nat), some (Ob.dat 27 7 (C.set i (DV.int .i64 (-1 : Int) :: List.drop (1 : Nat) e8)))),
 ((33 : Nat), some (Ob.dat 27 7 D))])
 else none
 else none
 else
 bif decide ((↑i : Int) < (↑nd : Int)) then
 bif decide ((↑i : Int) < (↑nd : Int)) then
 lookK D[i]? fun (e9 : List DV) =>
 bif decide ((1 : Nat) ≤ e9.length) then
 k Ex.nrm
 (St.of
 [(1, AV.d (DV.int .i64 t)), (7, AV.d (DV.sla false 7 r)),
 ((8 : Nat), AV.aref 21 7 0 r.length), (9, AV.aref 24 7 0 na),
 ((10 : Nat), AV.d DV.nilsl), (11, AV.aref 30 7 0 nc),
 ((12 : Nat), AV.aref 33 7 0 nd),
 ((13 : Nat), AV.d (DV.int .i64 (IntKind.i64.wrap ((↑i : Int) + (1 : Int)))))]
 [(18, none), (19, none), (21, some (Ob.dat 27 7 r)),
 ((24 : Nat), some (Ob.dat 27 7 (A.set i (DV.int .i64 (-1 : Int) :: List.drop (1 : Nat) e3)))),
 ((27 : Nat), none), (30, some (Ob.dat 27 7 C)),
 ((33 : Nat), some (Ob.dat 27 7 (D.set i (DV.int .i64 (-1 : Int) :: List.drop (1 : Nat) e9))))])
 else none
 else none
 else
 k Ex.nrm
 (St.of
 [(1, AV.d (DV.int .i64 t)), (7, AV.d (DV.sla false 7 r)),
 ((8 : Nat), AV.aref 21 7 0 r.length), (9, AV.aref 24 7 0 na),
 ((10 : Nat), AV.d DV.nilsl), (11, AV.aref 30 7 0 nc),
 ((12 : Nat), AV.aref 33 7 0 nd),
 ((13 : Nat), AV.d (DV.int .i64 (IntKind.i64.wrap ((↑i : Int) + (1 : Int)))))]
 [(18, none), (19, none), (21, some (Ob.dat 27 7 r)),
 ((24 : Nat), some (Ob.dat 27 7 (A.set i (DV.int .i64 (-1 : Int) :: List.drop (1 : Nat) e3)))),
 ((27 : Nat), none), (30, some (Ob.dat 27 7 C)), (33, some (Ob.dat 27 7 D))])
 else none
 else none
 else
 bif decide ((↑i : Int) < (↑nc : Int)) then
 bif decide ((↑i : Int) < (↑nc : Int)) then
 lookK C[i]? fun (e4 : List DV) =>
 bif decide ((1 : Nat) ≤ e4.length) then
 bif decide ((↑i : Int) < (↑nd : Int)) then
 bif decide ((↑i : Int) < (↑nd : Int)) then
 lookK D[i]? fun (e9 : List DV) =>
 bif decide ((1 : Nat) ≤ e9.length) then
 k Ex.nrm
 (St.of
 [(1, AV.d (DV.int .i64 t)), (7, AV.d (DV.sla false 7 r)),
 ((8 : Nat), AV.aref 21 7 0 r.length), (9, AV.aref 24 7 0 na),
 ((10 : Nat), AV.d DV.nilsl), (11, AV.aref 30 7 0 nc),
 ((12 : Nat), AV.aref 33 7 0 nd),
 ((13 : Nat), AV.d (DV.int .i64 (IntKind.i64.wrap ((↑i : Int) + (1 : Int)))))]
 [(18, none), (19, none), (21, some (Ob.dat 27 7 r)),
 ((24 : Nat), some (Ob.dat 27 7 A)), (27, none),
 ((30 : Nat), some (Ob.dat 27 7 (C.set i (DV.int .i64 (-1 : Int) :: List.drop (1 : Nat) e4)))),
 ((33 : Nat), some (Ob.dat 27 7 (D.set i (DV.int .i64 (-1 : Int) :: List.drop (1 : Nat) e9))))])
 else none
 else none
 else
 k Ex.nrm
 (St.of
 [(1, AV.d (DV.int .i64 t)), (7, AV.d (DV.sla false 7 r)),
 ((8 : Nat), AV.aref 21 7 0 r.length), (9, AV.aref 24 7 0 na),
 ((10 : Nat), AV.d DV.nilsl), (11, AV.aref 30 7 0 nc),
 ((12 : Nat), AV.aref 33 7 0 nd),
 ((13 : Nat), AV.d (DV.int .i64 (IntKind.i64.wrap ((↑i : Int) + (1 : Int)))))]
 [(18, none), (19, none), (21, some (Ob.dat 27 7 r)),
 ((24 : Nat), some (Ob.dat 27 7 A)), (27, none),
 ((30 : Nat), some (Ob.dat 27 7 (C.set i (DV.int .i64 (-1 : Int) :: List.drop (1 : Nat) e4)))),
 ((33 : Nat), some (Ob.dat 27 7 D))])
 else none
 else none
 else
 bif decide ((↑i : Int) < (↑nd : Int)) then
 bif decide ((↑i : Int) < (↑nd : Int)) then
 lookK D[i]? fun (e5 : List DV) =>
 bif decide ((1 : Nat) ≤ e5.length) then
 k Ex.nrm
 (St.of
 [(1, AV.d (DV.int .i64 t)), (7, AV.d (DV.sla false 7 r)),
 ((8 : Nat), AV.aref 21 7 0 r.length), (9, AV.aref 24 7 0 na),
 ((10 : Nat), AV.d DV.nilsl), (11, AV.aref 30 7 0 nc),
 ((12 : Nat), AV.aref 33 7 0 nd),
 ((13 : Nat), AV.d (DV.int .i64 (IntKind.i64.wrap ((↑i : Int) + (1 : Int)))))]
 [(18, none), (19, none), (21, some (Ob.dat 27 7 r)),
 ((24 : Nat), some (Ob.dat 27 7 A)), (27, none), (30, some (Ob.dat 27 7 C)),
 ((33 : Nat), some (Ob.dat 27 7 (D.set i (DV.int .i64 (-1 : Int) :: List.drop (1 : Nat) e5))))])
 else none
 else none
 else
 k Ex.nrm
 (St.of
 [(1, AV.d (DV.int .i64 t)), (7, AV.d (DV.sla false 7 r)),
 ((8 : Nat), AV.aref 21 7 0 r.length), (9, AV.aref 24 7 0 na),
 ((10 : Nat), AV.d DV.nilsl), (11, AV.aref 30 7 0 nc), (12, AV.aref 33 7 0 nd),
 ((13 : Nat), AV.d (DV.int .i64 (IntKind.i64.wrap ((↑i : Int) + (1 : Int)))))]
 [(18, none), (19, none), (21, some (Ob.dat 27 7 r)),
 ((24 : Nat), some (Ob.dat 27 7 A)), (27, none), (30, some (Ob.dat 27 7 C)),
 ((33 : Nat), some (Ob.dat 27 7 D))])
 else
 k (Ex.ex (0 : Nat))
 (St.of
 [(1, AV.d (DV.int .i64 t)), (7, AV.d (DV.sla false 7 r)), (8, AV.aref 21 7 0 r.length)]
 [(18, none), (19, none), (21, some (Ob.dat 27 7 r))])) :=
  (show LB tabX (spU true false true) lQ6 L (n+4) h60X c6l0X (T60 true false true t r none (.aref 21 7 0 r.length) (some (.dat 27 7 r)) na nb nc nd A B C D i) k =
 (cond (decide ((↑i : Int) < (↑r.length : Int)))
 (cond (decide ((↑i : Int) < (↑na : Int)))
 (cond (decide ((↑i : Int) < (↑na : Int)))
 (lookK (A[(0 : Nat) + (↑i : Int).toNat]?)
 fun e3 =>
 (cond (decide ((1 : Nat) ≤ e3.length))
 (cond (decide ((↑i : Int) < (↑nc : Int)))
 (cond (decide ((↑i : Int) < (↑nc : Int)))
 (lookK (C[(0 : Nat) + (↑i : Int).toNat]?)
 fun e8 =>
 (cond (decide ((1 : Nat) ≤ e8.length))
 (cond (decide ((↑i : Int) < (↑nd : Int)))
 (cond (decide ((↑i : Int) < (↑nd : Int)))
 (lookK (D[(0 : Nat) + (↑i : Int).toNat]?)
 fun e13 =>
 (cond (decide ((1 : Nat) ≤ e13.length))
 (k .nrm (St.of [(1, (.d (.int .i64 t))), (7, (.d (.sla false 7 r))), (8, (.aref 21 7 0 (r.length))), (9, (.aref 24 7 0 na)), (10, (.d .nilsl)), (11, (.aref 30 7 0 nc)), (12, (.aref 33 7 0 nd)), (13, (.d (.int .i64 (IntKind.i64.wrap ((↑i : Int) + (1 : Int))))))] [(18, .none), (19, .none), (21, (.some (.dat 27 7 r))), (24, (.some (.dat 27 7 (A.set ((0 : Nat) + (↑i : Int).toNat) (DV.int .i64 (-1 : Int) :: List.drop (1 : Nat) e3))))), (27, .none), (30, (.some (.dat 27 7 (C.set ((0 : Nat) + (↑i : Int).toNat) (DV.int .i64 (-1 : Int) :: List.drop (1 : Nat) e8))))), (33, (.some (.dat 27 7 (D.set ((0 : Nat) + (↑i : Int).toNat) (DV.int .i64 (-1 : Int) :: List.drop (1 : Nat) e13)))))]))
 none))
 none)
 (k .nrm (St.of [(1, (.d (.int .i64 t))), (7, (.d (.sla false 7 r))), (8, (.aref 21 7 0 (r.length))), (9, (.aref 24 7 0 na)), (10, (.d .nilsl)), (11, (.aref 30 7 0 nc)), (12, (.aref 33 7 0 nd)), (13, (.d (.int .i64 (IntKind.i64.wrap ((↑i : Int) + (1 : Int))))))] [(18, .none), (19, .none), (21, (.some (.dat 27 7 r))), (24, (.some (.dat 27 7 (A.set ((0 : Nat) + (↑i : Int).toNat) (DV.int .i64 (-1 : Int) :: List.drop (1 : Nat) e3))))), (27, .none), (30, (.some (.dat 27 7 (C.set ((0 : Nat) + (↑i : Int).toNat) (DV.int .i64 (-1 : Int) :: List.drop (1 : Nat) e8))))), (33, (.some (.dat 27 7 D)))])))
 none))
 none)
 (cond (decide ((↑i : Int) < (↑nd : Int)))
 (cond (decide ((↑i : Int) < (↑nd : Int)))
 (lookK (D[(0 : Nat) + (↑i : Int).toNat]?)
 fun e9 =>
 (cond (decide ((1 : Nat) ≤ e9.length))
 (k .nrm (St.of [(1, (.d (.int .i64 t))), (7, (.d (.sla false 7 r))), (8, (.aref 21 7 0 (r.length))), (9, (.aref 24 7 0 na)), (10, (.d .nilsl)), (11, (.aref 30 7 0 nc)), (12, (.aref 33 7 0 nd)), (13, (.d (.int .i64 (IntKind.i64.wrap ((↑i : Int) + (1 : Int))))))] [(18, .none), (19, .none), (21, (.some (.dat 27 7 r))), (24, (.some (.dat 27 7 (A.set ((0 : Nat) + (↑i : Int).toNat) (DV.int .i64 (-1 : Int) :: List.drop (1 : Nat) e3))))), (27, .none), (30, (.some (.dat 27 7 C))), (33, (.some (.dat 27 7 (D.set ((0 : Nat) + (↑i : Int).toNat) (DV.int .i64 (-1 : Int) :: List.drop (1 : Nat) e9)))))]))
 none))
 none)
 (k .nrm (St.of [(1, (.d (.int .i64 t))), (7, (.d (.sla false 7 r))), (8, (.aref 21 7 0 (r.length))), (9, (.aref 24 7 0 na)), (10, (.d .nilsl)), (11, (.aref 30 7 0 nc)), (12, (.aref 33 7 0 nd)), (13, (.d (.int .i64 (IntKind.i64.wrap ((↑i : Int) + (1 : Int))))))] [(18, .none), (19, .none), (21, (.some (.dat 27 7 r))), (24, (.some (.dat 27 7 (A.set ((0 : Nat) + (↑i : Int).toNat) (DV.int .i64 (-1 : Int) :: List.drop (1 : Nat) e3))))), (27, .none), (30, (.some (.dat 27 7 C))), (33, (.some (.dat 27 7 D)))]))))
 none))
 none)
 (cond (decide ((↑i : Int) < (↑nc : Int)))
 (cond (decide ((↑i : Int) < (↑nc : Int)))
 (lookK (C[(0 : Nat) + (↑i : Int).toNat]?)
 fun e4 =>
 (cond (decide ((1 : Nat) ≤ e4.length))
 (cond (decide ((↑i : Int) < (↑nd : Int)))
 (cond (decide ((↑i : Int) < (↑nd : Int)))
 (lookK (D[(0 : Nat) + (↑i : Int).toNat]?)
 fun e9 =>
 (cond (decide ((1 : Nat) ≤ e9.length))
 (k .nrm (St.of [(1, (.d (.int .i64 t))), (7, (.d (.sla false 7 r))), (8, (.aref 21 7 0 (r.length))), (9, (.aref 24 7 0 na)), (10, (.d .nilsl)), (11, (.aref 30 7 0 nc)), (12, (.aref 33 7 0 nd)), (13, (.d (.int .i64 (IntKind.i64.wrap ((↑i : Int) + (1 : Int))))))] [(18, .none), (19, .none), (21, (.some (.dat 27 7 r))), (24, (.some (.dat 27 7 A))), (27, .none), (30, (.some (.dat 27 7 (C.set ((0 : Nat) + (↑i : Int).toNat) (DV.int .i64 (-1 : Int) :: List.drop (1 : Nat) e4))))), (33, (.some (.dat 27 7 (D.set ((0 : Nat) + (↑i : Int).toNat) (DV.int .i64 (-1 : Int) :: List.drop (1 : Nat) e9)))))]))
 none))
 none)
 (k .nrm (St.of [(1, (.d (.int .i64 t))), (7, (.d (.sla false 7 r))), (8, (.aref 21 7 0 (r.length))), (9, (.aref 24 7 0 na)), (10, (.d .nilsl)), (11, (.aref 30 7 0 nc)), (12, (.aref 33 7 0 nd)), (13, (.d (.int .i64 (IntKind.i64.wrap ((↑i : Int) + (1 : Int))))))] [(18, .none), (19, .none), (21, (.some (.dat 27 7 r))), (24, (.some (.dat 27 7 A))), (27, .none), (30, (.some (.dat 27 7 (C.set ((0 : Nat) + (↑i : Int).toNat) (DV.int .i64 (-1 : Int) :: List.drop (1 : Nat) e4))))), (33, (.some (.dat 27 7 D)))])))
 none))
 none)
 (cond (decide ((↑i : Int) < (↑nd : Int)))
 (cond (decide ((↑i : Int) < (↑nd : Int)))
 (lookK (D[(0 : Nat) + (↑i : Int).toNat]?)
 fun e5 =>
 (cond (decide ((1 : Nat) ≤ e5.length))
 (k .nrm (St.of [(1, (.d (.int .i64 t))), (7, (.d (.sla false 7 r))), (8, (.aref 21 7 0 (r.length))), (9, (.aref 24 7 0 na)), (10, (.d .nilsl)), (11, (.aref 30 7 0 nc)), (12, (.aref 33 7 0 nd)), (13, (.d (.int .i64 (IntKind.i64.wrap ((↑i : Int) + (1 : Int))))))] [(18, .none), (19, .none), (21, (.some (.dat 27 7 r))), (24, (.some (.dat 27 7 A))), (27, .none), (30, (.some (.dat 27 7 C))), (33, (.some (.dat 27 7 (D.set ((0 : Nat) + (↑i : Int).toNat) (DV.int .i64 (-1 : Int) :: List.drop (1 : Nat) e5)))))]))
 none))
 none)
 (k .nrm (St.of [(1, (.d (.int .i64 t))), (7, (.d (.sla false 7 r))), (8, (.aref 21 7 0 (r.length))), (9, (.aref 24 7 0 na)), (10, (.d .nilsl)), (11, (.aref 30 7 0 nc)), (12, (.aref 33 7 0 nd)), (13, (.d (.int .i64 (IntKind.i64.wrap ((↑i : Int) + (1 : Int))))))] [(18, .none), (19, .none), (21, (.some (.dat 27 7 r))), (24, (.some (.dat 27 7 A))), (27, .none), (30, (.some (.dat 27 7 C))), (33, (.some (.dat 27 7 D)))])))))
 (k (.ex 0) (St.of [(1, (.d (.int .i64 t))), (7, (.d (.sla false 7 r))), (8, (.aref 21 7 0 (r.length)))] [(18, .none), (19, .none), (21, (.some (.dat 27 7 r)))]))) from by kernel_rfl).trans (by first | rfl | (simp only [decide_true, decide_false, eq_self, and_true, true_and, and_self, cond_true, cond_false, Nat.le_refl, Int.le_refl, Option.getD_some, Option.getD_none, Int.toNat_natCast, List.take_length, List.drop_zero, Nat.zero_add, List.nil_append, List.all_nil, List.append_nil, Bool.true_and, Bool.and_true, rowsA_sla, rowsA_sl, rowsA_nil, minus_zero, nat_le_cast, nat_nonneg, Option.isSome_some, Option.isSome_none, Bool.false_eq_true, false_and, and_false, if_true, if_false, implies_true, Int.toNat_zero, Bool.not_false, Bool.not_true, bne_self_eq_false]; done) | (simp only [decide_true, decide_false, eq_self, and_true, true_and, and_self, cond_true, cond_false, Nat.le_refl, Int.le_refl, Option.getD_some, Option.getD_none, Int.toNat_natCast, List.take_length, List.drop_zero, Nat.zero_add, List.nil_append, List.all_nil, List.append_nil, Bool.true_and, Bool.and_true, rowsA_sla, rowsA_sl, rowsA_nil, minus_zero, nat_le_cast, nat_nonneg, Option.isSome_some, Option.isSome_none, Bool.false_eq_true, false_and, and_false, if_true, if_false, implies_true, Int.toNat_zero, Bool.not_false, Bool.not_true, bne_self_eq_false]; rfl))
theorem s60FFT (L n : Nat) (t : Int) (r : List (List DV)) (na nb nc nd : Nat) (A B C D : List (List DV)) (i : Nat) (k : Kont) : LB tabX (spU false false true) lQ6 L (n+4) h60X c6l0X (T60 false false true t r none (.aref 21 7 0 r.length) (some (.dat 27 7 r)) na nb nc nd A B C D i) k =
   (bif decide ((↑i : Int) < (↑r.length : Int)) then
 bif decide ((↑i : Int) < (↑nd : Int)) then
 bif decide ((↑i : Int) < (↑nd : Int)) then
 lookK D[i]? fun (e3 : List DV) =>
 bif decide ((1 : Nat) ≤ e3.length) then
 k Ex.nrm
 (St.of
 [(1, AV.d (DV.int .i64 t)), (7, AV.d (DV.sla false 7 r)),
 ((8 : Nat), AV.aref 21 7 0 r.length), (9, AV.d DV.nilsl), (10, AV.d DV.nilsl),
 ((11 : Nat), AV.d DV.nilsl), (12, AV.aref 33 7 0 nd),
 ((13 : Nat), AV.d (DV.int .i64 (IntKind.i64.wrap ((↑i : Int) + (1 : Int)))))]
 [(18, none), (19, none), (21, some (Ob.dat 27 7 r)), (24, none), (27, none),
 ((30 : Nat), none), (33, some (Ob.dat 27 7 (D.set i (DV.int .i64 (-1 : Int) :: List.drop (1 : Nat) e3))))])
 else none
 else none
 else
 k Ex.nrm
 (St.of
 [(1, AV.d (DV.int .i64 t)), (7, AV.d (DV.sla false 7 r)),
 ((8 : Nat), AV.aref 21 7 0 r.length), (9, AV.d DV.nilsl), (10, AV.d DV.nilsl), (11, AV.d DV.nilsl),
 ((12 : Nat), AV.aref 33 7 0 nd), (13, AV.d (DV.int .i64 (IntKind.i64.wrap ((↑i : Int) + (1 : Int)))))]
 [(18, none), (19, none), (21, some (Ob.dat 27 7 r)), (24, none), (27, none),
 ((30 : Nat), none), (33, some (Ob.dat 27 7 D))])
 else
 k (Ex.ex (0 : Nat))
 (St.of
 [(1, AV.d (DV.int .i64 t)), (7, AV.d (DV.sla false 7 r)), (8, AV.aref 21 7 0 r.length)]
 [(18, none), (19, none), (21, some (Ob.dat 27 7 r))])) :=
  (show LB tabX (spU false false true) lQ6 L (n+4) h60X c6l0X (T60 false false true t r none (.aref 21 7 0 r.length) (some (.dat 27 7 r)) na nb nc nd A B C D i) k =
 (cond (decide ((↑i : Int) < (↑r.length : Int)))
 (cond (decide ((↑i : Int) < (↑nd : Int)))
 (cond (decide ((↑i : Int) < (↑nd : Int)))
 (lookK (D[(0 : Nat) + (↑i : Int).toNat]?)
 fun e3 =>
 (cond (decide ((1 : Nat) ≤ e3.length))
 (k .nrm (St.of [(1, (.d (.int .i64 t))), (7, (.d (.sla false 7 r))), (8, (.aref 21 7 0 (r.length))), (9, (.d .nilsl)), (10, (.d .nilsl)), (11, (.d .nilsl)), (12, (.aref 33 7 0 nd)), (13, (.d (.int .i64 (IntKind.i64.wrap ((↑i : Int) + (1 : Int))))))] [(18, .none), (19, .none), (21, (.some (.dat 27 7 r))), (24, .none), (27, .none), (30, .none), (33, (.some (.dat 27 7 (D.set ((0 : Nat) + (↑i : Int).toNat) (DV.int .i64 (-1 : Int) :: List.drop (1 : Nat) e3)))))]))
 none))
 none)
 (k .nrm (St.of [(1, (.d (.int .i64 t))), (7, (.d (.sla false 7 r))), (8, (.aref 21 7 0 (r.length))), (9, (.d .nilsl)), (10, (.d .nilsl)), (11, (.d .nilsl)), (12, (.aref 33 7 0 nd)), (13, (.d (.int .i64 (IntKind.i64.wrap ((↑i : Int) + (1 : Int))))))] [(18, .none), (19, .none), (21, (.some (.dat 27 7 r))), (24, .none), (27, .none), (30, .none), (33, (.some (.dat 27 7 D)))])))
 (k (.ex 0) (St.of [(1, (.d (.int .i64 t))), (7, (.d (.sla false 7 r))), (8, (.aref 21 7 0 (r.length)))] [(18, .none), (19, .none), (21, (.some (.dat 27 7 r)))]))) from by kernel_rfl).trans (by first | rfl | (simp only [decide_true, decide_false, eq_self, and_true, true_and, and_self, cond_true, cond_false, Nat.le_refl, Int.le_refl, Option.getD_some, Option.getD_none, Int.toNat_natCast, List.take_length, List.drop_zero, Nat.zero_add, List.nil_append, List.all_nil, List.append_nil, Bool.true_and, Bool.and_true, rowsA_sla, rowsA_sl, rowsA_nil, minus_zero, nat_le_cast, nat_nonneg, Option.isSome_some, Option.isSome_none, Bool.false_eq_true, false_and, and_false, if_true, if_false, implies_true, Int.toNat_zero, Bool.not_false, Bool.not_true, bne_self_eq_false]; done) | (simp only [decide_true, decide_false, eq_self, and_true, true_and, and_self, cond_true, cond_false, Nat.le_refl, Int.le_refl, Option.getD_some, Option.getD_none, Int.toNat_natCast, List.take_length, List.drop_zero, Nat.zero_add, List.nil_append, List.all_nil, List.append_nil, Bool.true_and, Bool.and_true, rowsA_sla, rowsA_sl, rowsA_nil, minus_zero, nat_le_cast, nat_nonneg, Option.isSome_some, Option.isSome_none, Bool.false_eq_true, false_and, and_false, if_true, if_false, implies_true, Int.toNat_zero, Bool.not_false, Bool.not_true, bne_self_eq_false]; rfl))
end Go.Proofs.Ytjejjokdbbedlaa
