/- What is answered is new memory: the law's run, and its loop. No condition. -/
import Derived.Test.YtjejjokdbbedlaaVu
namespace Go.Proofs.Ytjejjokdbbedlaa
open Go Go.Proofs Go.RowKit Vm
set_option linter.unusedVariables false
set_option linter.unusedSimpArgs false
noncomputable def f60 (p q d : Bool) (n : Nat) : St → Kont → Option DV := LB tabX (spU p q d) lQ6 20 (n+12) h60X c6l0X
noncomputable def aft2 (p : Bool) (F : List (List DV)) : Option DV := match p with
  | false => need (samP.D [.nilsl, .sla false 7 F]) (cond (sameP [] F) (need (knoS.D []) (some (.bool true))) (some (.bool false)))
  | true => cond (decide (0 + F.length ≤ F.length)) (need (samP.D [.sl .ro 7 (F.take F.length), .sla false 7 F]) (cond (sameP (F.take F.length) F) (need (knoS.D []) (some (.bool true))) (some (.bool false)))) none
noncomputable def aft (p : Bool) (t : Int) (r : List (List DV)) (x : DV) : Option DV :=
  need (samP.D [.sla false 7 r, x]) (cond (sameP r (rowsA x)) (need (isPS.D [.sla false 7 r]) (cond (isP r) (need ((fltO 29 p).D [.sla false 7 r, .int .i64 t]) (need ((fltS 29).D [.sla false 7 r, .int .i64 t]) (aft2 p (r.filter (clB 29 t))))) (some (.bool false)))) (some (.bool false)))
noncomputable def aftR (p : Bool) (t : Int) (r : List (List DV)) : Option DV := cond (decide (0 + r.length ≤ r.length)) (aft p t r (.sl .ro 7 (r.take r.length))) none
noncomputable def fin6 (p q d : Bool) (n : Nat) (t f : Int) (r : List (List DV)) (o9 : Option Ob) (v : AV) (o : Option Ob) (X : Option DV) : Option DV :=
  need ((fltO 29 p).D [.sla false 7 r, .int .i64 t]) (need ((fltO 31 q).D [.sla false 7 r, .int .i64 f]) (need ((mayO p).D [.sla false 7 r, .int .i64 t]) (need ((hdO d).D [.sla false 7 r, .sl .tight 1 K9])
    (need (LoopOk (f60 p q d n) (T60 p q d t r o9 v o (r.filter (clB 29 t)).length (r.filter (clB 31 f)).length (mayL r t).length (hd9 r).length (r.filter (clB 29 t)) (r.filter (clB 31 f)) (mayL r t) (hd9 r) 0) (.ex 0, St.of [(1, .d (.int .i64 t)), (7, .d (.sla false 7 r)), (8, v)] [(18, none), (19, o9), (21, o)]))
      X))))
def rawZ (r : List (List DV)) : Bool := decide ((27 : Nat) = 27 ∧ (7 : Nat) = 7 ∧ (7 : Nat) = 7 ∧ (0 : Nat) = 0 ∧ (0 : Nat) = ([] : List (List DV)).length ∧ (([] : List (List DV)) ++ r).length * 56 ≤ room ∧ (([] : List (List DV)) ++ r).length ≤ room)
theorem t6 (p q : Bool) (n : Nat) (l : List (List DV)) (t f : Int) : FK tabX (spU p q true) lQ6 20 (n+12) 6 [.sla false 7 l, .int .i64 t, .int .i64 f] =
  cond (decide ((l.length : Int) > (40 : Int))) (some (.bool true)) (need (rowS.D [.sla false 7 l])
    (cond (decide ((rowL l).length = 0)) (fin6 p q true n t f (rowL l) (some (.dat 27 7 [])) (.aref 19 7 0 0) none (aft p t (rowL l) (.sl .ro 7 [])))
      (cond ((rowL l).all fun (e : List DV) => e.length == 7 && e.all DV.one) (cond (rawZ (rowL l)) (fin6 p q true n t f (rowL l) none (.aref 21 7 0 (rowL l).length) (some (.dat 27 7 (rowL l))) (aftR p t (rowL l))) none) none))) := by
  cases p <;> cases q <;> kernel_rfl
theorem t6N (n : Nat) (t f : Int) : FK tabX (spU false false false) lQ6 20 (n+12) 6 [.sla false 7 [], .int .i64 t, .int .i64 f] =
  need (rowS.D [.sla false 7 []]) (fin6 false false false n t f [] (some (.dat 27 7 [])) (.aref 19 7 0 0) none (aft false t [] (.sl .ro 7 []))) := by kernel_rfl
theorem s60N (n : Nat) (t : Int) (na nb nc nd : Nat) (k : Kont) : f60 false false false n (T60 false false false t [] (some (.dat 27 7 [])) (.aref 19 7 0 0) none na nb nc nd [] [] [] [] 0) k = k (.ex 0) (St.of [(1, .d (.int .i64 t)), (7, .d (.sla false 7 [])), (8, .aref 19 7 0 0)] [(18, none), (19, some (.dat 27 7 [])), (21, none)]) := by kernel_rfl
end Go.Proofs.Ytjejjokdbbedlaa
