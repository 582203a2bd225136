/- What each function computes, in plain Lean. -/
import Derived.Test.YtkbaoeklchdioaaDoorAmE
set_option linter.unusedVariables false
set_option maxRecDepth 100000
namespace Go.AM
open Go
-- laws.szEntry
def m_laws_szEntry (a0 : (List UInt8 × (Int × (Int × (Int × (Int × (List UInt8 × Int))))))) (a1 : Int) : Option (Int × Unit) :=
  bif decide (IntKind.wrap IntKind.i64 (a1 - (↑(List.length a0.fst) : Int)) < (0 : Int)) then some ((-1 : Int), ())
  else
    bif
        decide
          (IntKind.wrap IntKind.i64
              (IntKind.wrap IntKind.i64 (a1 - (↑(List.length a0.fst) : Int)) -
                (↑(List.length a0.snd.snd.snd.snd.snd.fst) : Int)) <
            (0 : Int)) then
      some ((-1 : Int), ())
    else
      some
        (IntKind.wrap IntKind.i64
            (IntKind.wrap IntKind.i64 (a1 - (↑(List.length a0.fst) : Int)) -
              (↑(List.length a0.snd.snd.snd.snd.snd.fst) : Int)),
          ())
-- laws.szEntryS
def m_laws_szEntryS (a0 : List (List UInt8 × (Int × (Int × (Int × (Int × (List UInt8 × Int))))))) (a1 : Int) : Option (Int × Unit) :=
  bif decide (IntKind.wrap IntKind.i64 (a1 - (↑(List.length a0) : Int)) < (0 : Int)) then some ((-1 : Int), ())
  else
    joinC
      (loopC
        (List.length a0 + Int.toNat (IntKind.wrap IntKind.i64 (a1 - (↑(List.length a0) : Int))) + Int.toNat (0 : Int) +
          (300 : Nat))
        (fun (s : (List (List UInt8 × Int × Int × Int × Int × List UInt8 × Int) × Int × Int × Unit) × Unit)
            (k :
              (List (List UInt8 × Int × Int × Int × Int × List UInt8 × Int) × Int × Int × Unit) × Unit →
                Option ((Int × Unit) × Unit ⊕ Int × Unit)) =>
          bif decide (s.fst.snd.snd.fst < (↑(List.length s.fst.fst) : Int)) then
            if (0 : Int) ≤ s.fst.snd.snd.fst ∧ s.fst.snd.snd.fst < (↑(List.length s.fst.fst) : Int) then
              Option.bind
                (m_laws_szEntry
                  (List.getD s.fst.fst (Int.toNat s.fst.snd.snd.fst)
                    (nilOf UInt8, Int.ofNat (nat_lit 0), Int.ofNat (nat_lit 0), Int.ofNat (nat_lit 0),
                      Int.ofNat (nat_lit 0), nilOf UInt8, Int.ofNat (nat_lit 0)))
                  s.fst.snd.fst)
                fun (r : Int × Unit) =>
                bif decide (r.fst < (0 : Int)) then some (Sum.inr ((-1 : Int), ()))
                else k ((s.fst.fst, r.fst, IntKind.wrap IntKind.i64 (s.fst.snd.snd.fst + (1 : Int)), ()), ())
            else none
          else some (Sum.inl ((s.fst.snd.fst, ()), ())))
        ((a0, IntKind.wrap IntKind.i64 (a1 - (↑(List.length a0) : Int)), (0 : Int), ()), ()))
      fun (s : (Int × Unit) × Unit) => some s.fst
-- laws.toEntry
def m_laws_toEntry (a0 : (List UInt8 × (Int × (Int × (Int × (Int × (List UInt8 × Int))))))) : Option ((List UInt8 × (Int × (Int × (Int × (Int × (List UInt8 × Int)))))) × Unit) :=
  some (a0, ())
-- laws.toEntryS
def m_laws_toEntryS (a0 : List (List UInt8 × (Int × (Int × (Int × (Int × (List UInt8 × Int))))))) : Option (Unit × (List ((List UInt8 × (Int × (Int × (Int × (Int × (List UInt8 × Int))))))) × Unit)) :=
  if
      (0 : Int) ≤ (↑(List.length a0) : Int) ∧
        (↑(List.length a0) : Int) ≤ (↑(List.length a0) : Int) ∧
          (↑(72 : Nat) : Int) * (↑(List.length a0) : Int) ≤ (140737488355328 : Int) ∧
            (↑(List.length a0) : Int) < (2 : Int) ^ (62 : Nat) then
    Option.bind
      (loopC
        (List.length a0 + Int.toNat (0 : Int) +
            List.length
              (List.replicate (Int.toNat (↑(List.length a0) : Int))
                (nilOf UInt8, Int.ofNat (nat_lit 0), Int.ofNat (nat_lit 0), Int.ofNat (nat_lit 0),
                  Int.ofNat (nat_lit 0), nilOf UInt8, Int.ofNat (nat_lit 0))) +
          (300 : Nat))
        (fun
            (s :
              (List (List UInt8 × Int × Int × Int × Int × List UInt8 × Int) × Unit × Int × Unit) ×
                List (List UInt8 × Int × Int × Int × Int × List UInt8 × Int) × Unit)
            (k :
              (List (List UInt8 × Int × Int × Int × Int × List UInt8 × Int) × Unit × Int × Unit) ×
                  List (List UInt8 × Int × Int × Int × Int × List UInt8 × Int) × Unit →
                Option ((Unit × Unit) × List (List UInt8 × Int × Int × Int × Int × List UInt8 × Int) × Unit)) =>
          bif decide (s.fst.snd.snd.fst < (↑(List.length s.fst.fst) : Int)) then
            if (0 : Int) ≤ s.fst.snd.snd.fst ∧ s.fst.snd.snd.fst < (↑(List.length s.fst.fst) : Int) then
              Option.bind
                (m_laws_toEntry
                  (List.getD s.fst.fst (Int.toNat s.fst.snd.snd.fst)
                    (nilOf UInt8, Int.ofNat (nat_lit 0), Int.ofNat (nat_lit 0), Int.ofNat (nat_lit 0),
                      Int.ofNat (nat_lit 0), nilOf UInt8, Int.ofNat (nat_lit 0))))
                fun (r : (List UInt8 × Int × Int × Int × Int × List UInt8 × Int) × Unit) =>
                if (0 : Int) ≤ s.fst.snd.snd.fst ∧ s.fst.snd.snd.fst < (↑(List.length s.snd.fst) : Int) then
                  if Int.toNat s.fst.snd.snd.fst < List.length s.snd.fst then
                    k
                      ((s.fst.fst, (), IntKind.wrap IntKind.i64 (s.fst.snd.snd.fst + (1 : Int)), ()),
                        List.set s.snd.fst (Int.toNat s.fst.snd.snd.fst) r.fst, ())
                  else none
                else none
            else none
          else some (((), ()), s.snd))
        ((a0, (), (0 : Int), ()),
          List.replicate (Int.toNat (↑(List.length a0) : Int))
            (nilOf UInt8, Int.ofNat (nat_lit 0), Int.ofNat (nat_lit 0), Int.ofNat (nat_lit 0), Int.ofNat (nat_lit 0),
              nilOf UInt8, Int.ofNat (nat_lit 0)),
          ()))
      fun (s : (Unit × Unit) × List (List UInt8 × Int × Int × Int × Int × List UInt8 × Int) × Unit) =>
      some ((), s.snd)
  else none
-- spec.l02Names
def m_spec_l02Names (a0 : List UInt8) : Option (List (List UInt8) × Unit) :=
  Option.bind
    (loopC (List.length a0 + Int.toNat (0 : Int) + Int.toNat (0 : Int) + List.length (nilOf (List UInt8)) + (300 : Nat))
      (fun (s : (List UInt8 × Unit × Int × Int × Unit) × List (List UInt8) × Unit)
          (k :
            (List UInt8 × Unit × Int × Int × Unit) × List (List UInt8) × Unit →
              Option ((List UInt8 × Unit × Int × Unit) × List (List UInt8) × Unit)) =>
        bif decide (s.fst.snd.snd.snd.fst < (↑(List.length s.fst.fst) : Int)) then
          if (0 : Int) ≤ s.fst.snd.snd.snd.fst ∧ s.fst.snd.snd.snd.fst < (↑(List.length s.fst.fst) : Int) then
            Option.bind
              (bif
                  (↑(UInt8.toNat (List.getD s.fst.fst (Int.toNat s.fst.snd.snd.snd.fst) (0 : UInt8))) : Int) ==
                    (47 : Int) then
                if
                    (0 : Int) ≤ s.fst.snd.snd.fst ∧
                      s.fst.snd.snd.fst ≤ s.fst.snd.snd.snd.fst ∧
                        s.fst.snd.snd.snd.fst ≤ (↑(List.length s.fst.fst) : Int) then
                  if
                      (List.length s.snd.fst +
                            List.length
                              [List.drop (Int.toNat s.fst.snd.snd.fst)
                                  (List.take (Int.toNat s.fst.snd.snd.snd.fst) s.fst.fst)]) *
                          (16 : Nat) ≤
                        (140737488355328 : Nat) then
                    some
                      ((s.fst.fst, (), IntKind.wrap IntKind.i64 (s.fst.snd.snd.snd.fst + (1 : Int)), s.fst.snd.snd.snd),
                        s.snd.fst ++
                          [List.drop (Int.toNat s.fst.snd.snd.fst)
                              (List.take (Int.toNat s.fst.snd.snd.snd.fst) s.fst.fst)],
                        ())
                  else none
                else none
              else some ((s.fst.fst, (), s.fst.snd.snd), s.snd))
              fun (s : (List UInt8 × Unit × Int × Int × Unit) × List (List UInt8) × Unit) =>
              k
                ((s.fst.fst, (), s.fst.snd.snd.fst, IntKind.wrap IntKind.i64 (s.fst.snd.snd.snd.fst + (1 : Int)), ()),
                  s.snd)
          else none
        else some ((s.fst.fst, (), s.fst.snd.snd.fst, ()), s.snd))
      ((a0, (), (0 : Int), (0 : Int), ()), nilOf (List UInt8), ()))
    fun (s : (List UInt8 × Unit × Int × Unit) × List (List UInt8) × Unit) =>
    if
        (0 : Int) ≤ s.fst.snd.snd.fst ∧
          s.fst.snd.snd.fst ≤ (↑(List.length s.fst.fst) : Int) ∧
            (↑(List.length s.fst.fst) : Int) ≤ (↑(List.length s.fst.fst) : Int) then
      if
          (List.length s.snd.fst +
                List.length
                  [List.drop (Int.toNat s.fst.snd.snd.fst)
                      (List.take (Int.toNat (↑(List.length s.fst.fst) : Int)) s.fst.fst)]) *
              (16 : Nat) ≤
            (140737488355328 : Nat) then
        some
          (s.snd.fst ++
              [List.drop (Int.toNat s.fst.snd.snd.fst)
                  (List.take (Int.toNat (↑(List.length s.fst.fst) : Int)) s.fst.fst)],
            ())
      else none
    else none
-- spec.l01In
def m_spec_l01In (a0 : Int) (a1 : Int) (a2 : Int) : Option (Bool × Unit) :=
  Option.bind (bif decide (a0 ≥ a1) then some ((decide (a0 ≤ a2), ()), ()) else some ((false, ()), ()))
    fun (s : (Bool × PUnit) × PUnit) => some (s.fst.fst, ())
-- spec.NameOk
def m_spec_NameOk (a0 : List UInt8) : Option (Bool × Unit) :=
  Option.bind
    (Option.bind (m_spec_l01In (↑(List.length a0) : Int) (1 : Int) (20 : Int)) fun (r : Bool × Unit) =>
      bif !r.fst then some ((a0, true, ()), ())
      else
        bif a0 == [(46 : UInt8)] then some ((a0, true, ()), ())
        else some ((a0, a0 == [(46 : UInt8), (46 : UInt8)], ()), ()))
    fun (s : (List UInt8 × Bool × Unit) × Unit) =>
    bif s.fst.snd.fst then some (false, ())
    else
      joinC
        (loopC (List.length s.fst.fst + Int.toNat (0 : Int) + (300 : Nat))
          (fun (s : (List UInt8 × Int × Unit) × Unit)
              (k : (List UInt8 × Int × Unit) × Unit → Option (Unit × Unit ⊕ Bool × Unit)) =>
            bif decide (s.fst.snd.fst < (↑(List.length s.fst.fst) : Int)) then
              if (0 : Int) ≤ s.fst.snd.fst ∧ s.fst.snd.fst < (↑(List.length s.fst.fst) : Int) then
                Option.bind
                  (Option.bind
                    (m_spec_l01In
                      (IntKind.wrap IntKind.i64
                        (↑(UInt8.toNat (List.getD s.fst.fst (Int.toNat s.fst.snd.fst) (0 : UInt8))) : Int))
                      (97 : Int) (122 : Int))
                    fun (r : Bool × Unit) =>
                    bif !r.fst then
                      Option.bind
                        (m_spec_l01In
                          (IntKind.wrap IntKind.i64
                            (↑(UInt8.toNat (List.getD s.fst.fst (Int.toNat s.fst.snd.fst) (0 : UInt8))) : Int))
                          (65 : Int) (90 : Int))
                        fun (r : Bool × Unit) =>
                        bif !r.fst then
                          Option.bind
                            (m_spec_l01In
                              (IntKind.wrap IntKind.i64
                                (↑(UInt8.toNat (List.getD s.fst.fst (Int.toNat s.fst.snd.fst) (0 : UInt8))) : Int))
                              (48 : Int) (57 : Int))
                            fun (r : Bool × Unit) =>
                            bif !r.fst then
                              if (0 : Int) ≤ s.fst.snd.fst ∧ s.fst.snd.fst < (↑(List.length s.fst.fst) : Int) then
                                bif
                                    (↑(UInt8.toNat (List.getD s.fst.fst (Int.toNat s.fst.snd.fst) (0 : UInt8))) :
                                        Int) !=
                                      (46 : Int) then
                                  if (0 : Int) ≤ s.fst.snd.fst ∧ s.fst.snd.fst < (↑(List.length s.fst.fst) : Int) then
                                    bif
                                        (↑(UInt8.toNat (List.getD s.fst.fst (Int.toNat s.fst.snd.fst) (0 : UInt8))) :
                                            Int) !=
                                          (95 : Int) then
                                      if
                                          (0 : Int) ≤ s.fst.snd.fst ∧
                                            s.fst.snd.fst < (↑(List.length s.fst.fst) : Int) then
                                        some
                                          ((s.fst.fst, s.fst.snd.fst,
                                              (↑(UInt8.toNat
                                                      (List.getD s.fst.fst (Int.toNat s.fst.snd.fst) (0 : UInt8))) :
                                                  Int) !=
                                                (45 : Int),
                                              ()),
                                            ())
                                      else none
                                    else some ((s.fst.fst, s.fst.snd.fst, false, ()), ())
                                  else none
                                else some ((s.fst.fst, s.fst.snd.fst, false, ()), ())
                              else none
                            else some ((s.fst.fst, s.fst.snd.fst, false, ()), ())
                        else some ((s.fst.fst, s.fst.snd.fst, false, ()), ())
                    else some ((s.fst.fst, s.fst.snd.fst, false, ()), ()))
                  fun (s : (List UInt8 × Int × Bool × Unit) × Unit) =>
                  bif s.fst.snd.snd.fst then some (Sum.inr (false, ()))
                  else k ((s.fst.fst, IntKind.wrap IntKind.i64 (s.fst.snd.fst + (1 : Int)), ()), ())
              else none
            else some (Sum.inl ((), ())))
          ((s.fst.fst, (0 : Int), ()), ()))
        fun (s : Unit × Unit) => some (true, ())
-- spec.PathOk
def m_spec_PathOk (a0 : List UInt8) : Option (Bool × Unit) :=
  bif decide ((↑(List.length a0) : Int) > (200 : Int)) then some (false, ())
  else
    Option.bind (m_spec_l02Names a0) fun (r : List (List UInt8) × Unit) =>
      joinC
        (loopC (List.length r.fst + Int.toNat (0 : Int) + (300 : Nat))
          (fun (s : (List (List UInt8) × Int × Unit) × Unit)
              (k :
                (List (List UInt8) × Int × Unit) × Unit →
                  Option ((List (List UInt8) × Unit) × Unit ⊕ Bool × Unit)) =>
            bif decide (s.fst.snd.fst < (↑(List.length s.fst.fst) : Int)) then
              if (0 : Int) ≤ s.fst.snd.fst ∧ s.fst.snd.fst < (↑(List.length s.fst.fst) : Int) then
                Option.bind (m_spec_NameOk (List.getD s.fst.fst (Int.toNat s.fst.snd.fst) (nilOf UInt8)))
                  fun (r : Bool × Unit) =>
                  bif !r.fst then some (Sum.inr (false, ()))
                  else k ((s.fst.fst, IntKind.wrap IntKind.i64 (s.fst.snd.fst + (1 : Int)), ()), ())
              else none
            else some (Sum.inl ((s.fst.fst, ()), ())))
          ((r.fst, (0 : Int), ()), ()))
        fun (s : (List (List UInt8) × Unit) × Unit) =>
        some (decide ((↑(List.length s.fst.fst) : Int) ≤ (8 : Int)), ())
-- spec.NodeOk
def m_spec_NodeOk (a0 : (List UInt8 × (Int × (Int × (Int × (List UInt8 × (List UInt8 × Int))))))) : Option (Bool × Unit) :=
  Option.bind
    (Option.bind (m_spec_PathOk a0.fst) fun (r : Bool × Unit) =>
      bif !r.fst then
        some
          (((), true, ()),
            (a0.fst, a0.snd.fst, a0.snd.snd.fst, a0.snd.snd.snd.fst, a0.snd.snd.snd.snd.fst, a0.snd.snd.snd.snd.snd.fst,
              a0.snd.snd.snd.snd.snd.snd, ()),
            ())
      else
        Option.bind (m_spec_l01In a0.snd.snd.fst (0 : Int) (511 : Int)) fun (r : Bool × Unit) =>
          bif !r.fst then
            some
              (((), true, ()),
                (a0.fst, a0.snd.fst, a0.snd.snd.fst, a0.snd.snd.snd.fst, a0.snd.snd.snd.snd.fst,
                  a0.snd.snd.snd.snd.snd.fst, a0.snd.snd.snd.snd.snd.snd, ()),
                ())
          else
            Option.bind (m_spec_l01In a0.snd.snd.snd.fst (0 : Int) (1000000000 : Int)) fun (r : Bool × Unit) =>
              some
                (((), !r.fst, ()),
                  (a0.fst, a0.snd.fst, a0.snd.snd.fst, a0.snd.snd.snd.fst, a0.snd.snd.snd.snd.fst,
                    a0.snd.snd.snd.snd.snd.fst, a0.snd.snd.snd.snd.snd.snd, ()),
                  ()))
    fun (s : (Unit × Bool × Unit) × (List UInt8 × Int × Int × Int × List UInt8 × List UInt8 × Int × Unit) × Unit) =>
    bif s.fst.snd.fst then some (false, ())
    else
      bif s.snd.fst.snd.fst == (0 : Int) then
        Option.bind
          (bif s.snd.fst.snd.snd.snd.snd.fst == nilOf UInt8 then
            bif s.snd.fst.snd.snd.snd.snd.snd.fst == nilOf UInt8 then
              some ((s.snd.fst.snd.snd.snd.snd.snd.snd.fst == (0 : Int), ()), ())
            else some ((false, ()), ())
          else some ((false, ()), ()))
          fun (s : (Bool × Unit) × Unit) => some s.fst
      else
        bif s.snd.fst.snd.fst == (1 : Int) then
          Option.bind
            (bif decide ((↑(List.length s.snd.fst.snd.snd.snd.snd.fst) : Int) ≤ (20000 : Int)) then
              bif s.snd.fst.snd.snd.snd.snd.snd.fst == nilOf UInt8 then
                Option.bind (m_spec_l01In s.snd.fst.snd.snd.snd.snd.snd.snd.fst (0 : Int) (200 : Int))
                  fun (r : Bool × Unit) => some (r, ())
              else some ((false, ()), ())
            else some ((false, ()), ()))
            fun (s : (Bool × Unit) × Unit) => some s.fst
        else
          bif s.snd.fst.snd.fst == (2 : Int) then
            Option.bind
              (bif !s.snd.fst.snd.snd.snd.snd.fst == nilOf UInt8 then some (((), true, ()), s.snd)
              else
                bif s.snd.fst.snd.snd.fst != (0 : Int) then some (((), true, ()), s.snd)
                else
                  bif s.snd.fst.snd.snd.snd.snd.snd.snd.fst != (0 : Int) then some (((), true, ()), s.snd)
                  else
                    Option.bind
                      (m_spec_l01In (↑(List.length s.snd.fst.snd.snd.snd.snd.snd.fst) : Int) (1 : Int) (60 : Int))
                      fun (r : Bool × Unit) => some (((), !r.fst, ()), s.snd))
              fun
                (s :
                  (Unit × Bool × Unit) ×
                    (List UInt8 × Int × Int × Int × List UInt8 × List UInt8 × Int × Unit) × Unit) =>
              bif s.fst.snd.fst then some (false, ())
              else
                joinC
                  (loopC
                    (Int.toNat (0 : Int) + List.length s.snd.fst.fst + Int.toNat s.snd.fst.snd.fst +
                                Int.toNat s.snd.fst.snd.snd.fst +
                              Int.toNat s.snd.fst.snd.snd.snd.fst +
                            List.length s.snd.fst.snd.snd.snd.snd.fst +
                          List.length s.snd.fst.snd.snd.snd.snd.snd.fst +
                        Int.toNat s.snd.fst.snd.snd.snd.snd.snd.snd.fst +
                      (300 : Nat))
                    (fun
                        (s :
                          (Unit × Int × Unit) ×
                            (List UInt8 × Int × Int × Int × List UInt8 × List UInt8 × Int × Unit) × Unit)
                        (k :
                          (Unit × Int × Unit) ×
                              (List UInt8 × Int × Int × Int × List UInt8 × List UInt8 × Int × Unit) × Unit →
                            Option (Unit × Unit ⊕ Bool × Unit)) =>
                      bif decide (s.fst.snd.fst < (↑(List.length s.snd.fst.snd.snd.snd.snd.snd.fst) : Int)) then
                        if
                            (0 : Int) ≤ s.fst.snd.fst ∧
                              s.fst.snd.fst < (↑(List.length s.snd.fst.snd.snd.snd.snd.snd.fst) : Int) then
                          bif
                              (↑(UInt8.toNat
                                      (List.getD s.snd.fst.snd.snd.snd.snd.snd.fst (Int.toNat s.fst.snd.fst)
                                        (0 : UInt8))) :
                                  Int) ==
                                (10 : Int) then
                            some (Sum.inr (false, ()))
                          else k (((), IntKind.wrap IntKind.i64 (s.fst.snd.fst + (1 : Int)), ()), s.snd)
                        else none
                      else some (Sum.inl ((), ())))
                    (((), (0 : Int), ()), s.snd))
                  fun (s : Unit × Unit) => some (true, ())
          else some (false, ())
-- spec.EntriesOk
def m_spec_EntriesOk (a0 : List (List UInt8 × (Int × (Int × (Int × (Int × (List UInt8 × Int))))))) : Option (Bool × Unit) :=
  bif decide ((↑(List.length a0) : Int) > (200 : Int)) then some (false, ())
  else
    joinC
      (loopC (List.length a0 + Int.toNat (0 : Int) + (300 : Nat))
        (fun (s : (List (List UInt8 × Int × Int × Int × Int × List UInt8 × Int) × Int × Unit) × Unit)
            (k :
              (List (List UInt8 × Int × Int × Int × Int × List UInt8 × Int) × Int × Unit) × Unit →
                Option (Unit × Unit ⊕ Bool × Unit)) =>
          bif decide (s.fst.snd.fst < (↑(List.length s.fst.fst) : Int)) then
            if (0 : Int) ≤ s.fst.snd.fst ∧ s.fst.snd.fst < (↑(List.length s.fst.fst) : Int) then
              Option.bind
                (Option.bind
                  (m_spec_NodeOk
                    ((List.getD s.fst.fst (Int.toNat s.fst.snd.fst)
                          (nilOf UInt8, Int.ofNat (nat_lit 0), Int.ofNat (nat_lit 0), Int.ofNat (nat_lit 0),
                            Int.ofNat (nat_lit 0), nilOf UInt8, Int.ofNat (nat_lit 0))).fst,
                      (List.getD s.fst.fst (Int.toNat s.fst.snd.fst)
                            (nilOf UInt8, Int.ofNat (nat_lit 0), Int.ofNat (nat_lit 0), Int.ofNat (nat_lit 0),
                              Int.ofNat (nat_lit 0), nilOf UInt8, Int.ofNat (nat_lit 0))).snd.fst,
                      (List.getD s.fst.fst (Int.toNat s.fst.snd.fst)
                              (nilOf UInt8, Int.ofNat (nat_lit 0), Int.ofNat (nat_lit 0), Int.ofNat (nat_lit 0),
                                Int.ofNat (nat_lit 0), nilOf UInt8, Int.ofNat (nat_lit 0))).snd.snd.fst,
                      (List.getD s.fst.fst (Int.toNat s.fst.snd.fst)
                                (nilOf UInt8, Int.ofNat (nat_lit 0), Int.ofNat (nat_lit 0), Int.ofNat (nat_lit 0),
                                  Int.ofNat (nat_lit 0), nilOf UInt8, Int.ofNat (nat_lit 0))).snd.snd.snd.fst,
                      nilOf UInt8,
                      (List.getD s.fst.fst (Int.toNat s.fst.snd.fst)
                                  (nilOf UInt8, Int.ofNat (nat_lit 0), Int.ofNat (nat_lit 0), Int.ofNat (nat_lit 0),
                                    Int.ofNat (nat_lit 0), nilOf UInt8, Int.ofNat (nat_lit 0))).snd.snd.snd.snd.snd))
                  fun (r : Bool × Unit) =>
                  bif !r.fst then some ((s.fst.fst, s.fst.snd.fst, true, ()), ())
                  else
                    Option.bind
                      (m_spec_l01In
                        (List.getD s.fst.fst (Int.toNat s.fst.snd.fst)
                                    (nilOf UInt8, Int.ofNat (nat_lit 0), Int.ofNat (nat_lit 0), Int.ofNat (nat_lit 0),
                                      Int.ofNat (nat_lit 0), nilOf UInt8, Int.ofNat (nat_lit 0))).snd.snd.snd.snd.fst
                        (0 : Int) (20000 : Int))
                      fun (r : Bool × Unit) =>
                      bif !r.fst then some ((s.fst.fst, s.fst.snd.fst, true, ()), ())
                      else
                        bif
                            (List.getD s.fst.fst (Int.toNat s.fst.snd.fst)
                                    (nilOf UInt8, Int.ofNat (nat_lit 0), Int.ofNat (nat_lit 0), Int.ofNat (nat_lit 0),
                                      Int.ofNat (nat_lit 0), nilOf UInt8, Int.ofNat (nat_lit 0))).snd.fst !=
                              (1 : Int) then
                          bif
                              (List.getD s.fst.fst (Int.toNat s.fst.snd.fst)
                                            (nilOf UInt8, Int.ofNat (nat_lit 0), Int.ofNat (nat_lit 0),
                                              Int.ofNat (nat_lit 0), Int.ofNat (nat_lit 0), nilOf UInt8,
                                              Int.ofNat (nat_lit 0))).snd.snd.snd.snd.fst !=
                                (0 : Int) then
                            some ((s.fst.fst, s.fst.snd.fst, true, ()), ())
                          else
                            bif decide (s.fst.snd.fst > (0 : Int)) then
                              if
                                  (0 : Int) ≤ IntKind.wrap IntKind.i64 (s.fst.snd.fst - (1 : Int)) ∧
                                    IntKind.wrap IntKind.i64 (s.fst.snd.fst - (1 : Int)) <
                                      (↑(List.length s.fst.fst) : Int) then
                                some
                                  ((s.fst.fst, s.fst.snd.fst,
                                      !Op.bytesLess
                                          (List.getD s.fst.fst
                                              (Int.toNat (IntKind.wrap IntKind.i64 (s.fst.snd.fst - (1 : Int))))
                                              (nilOf UInt8, Int.ofNat (nat_lit 0), Int.ofNat (nat_lit 0),
                                                Int.ofNat (nat_lit 0), Int.ofNat (nat_lit 0), nilOf UInt8,
                                                Int.ofNat (nat_lit 0))).fst
                                          (List.getD s.fst.fst (Int.toNat s.fst.snd.fst)
                                              (nilOf UInt8, Int.ofNat (nat_lit 0), Int.ofNat (nat_lit 0),
                                                Int.ofNat (nat_lit 0), Int.ofNat (nat_lit 0), nilOf UInt8,
                                                Int.ofNat (nat_lit 0))).fst,
                                      ()),
                                    ())
                              else none
                            else some ((s.fst.fst, s.fst.snd.fst, false, ()), ())
                        else
                          bif decide (s.fst.snd.fst > (0 : Int)) then
                            if
                                (0 : Int) ≤ IntKind.wrap IntKind.i64 (s.fst.snd.fst - (1 : Int)) ∧
                                  IntKind.wrap IntKind.i64 (s.fst.snd.fst - (1 : Int)) <
                                    (↑(List.length s.fst.fst) : Int) then
                              some
                                ((s.fst.fst, s.fst.snd.fst,
                                    !Op.bytesLess
                                        (List.getD s.fst.fst
                                            (Int.toNat (IntKind.wrap IntKind.i64 (s.fst.snd.fst - (1 : Int))))
                                            (nilOf UInt8, Int.ofNat (nat_lit 0), Int.ofNat (nat_lit 0),
                                              Int.ofNat (nat_lit 0), Int.ofNat (nat_lit 0), nilOf UInt8,
                                              Int.ofNat (nat_lit 0))).fst
                                        (List.getD s.fst.fst (Int.toNat s.fst.snd.fst)
                                            (nilOf UInt8, Int.ofNat (nat_lit 0), Int.ofNat (nat_lit 0),
                                              Int.ofNat (nat_lit 0), Int.ofNat (nat_lit 0), nilOf UInt8,
                                              Int.ofNat (nat_lit 0))).fst,
                                    ()),
                                  ())
                            else none
                          else some ((s.fst.fst, s.fst.snd.fst, false, ()), ()))
                fun (s : (List (List UInt8 × Int × Int × Int × Int × List UInt8 × Int) × Int × Bool × Unit) × Unit) =>
                bif s.fst.snd.snd.fst then some (Sum.inr (false, ()))
                else k ((s.fst.fst, IntKind.wrap IntKind.i64 (s.fst.snd.fst + (1 : Int)), ()), ())
            else none
          else some (Sum.inl ((), ())))
        ((a0, (0 : Int), ()), ()))
      fun (s : Unit × Unit) => some (true, ())
-- spec.PutVar
def m_spec_PutVar (a0 : Int) : Option (Unit × (List (Int) × Unit)) :=
  bif decide (a0 < (0 : Int)) then some ((), nilOf Int, ())
  else
    Option.bind
      (loopC (Int.toNat a0 + List.length (nilOf Int) + (300 : Nat))
        (fun (s : (Int × Unit × Unit) × List Int × Unit)
            (k : (Int × Unit × Unit) × List Int × Unit → Option ((Int × Unit × Unit) × List Int × Unit)) =>
          bif decide (s.fst.fst ≥ (128 : Int)) then
            if (128 : Int) ≠ (0 : Int) then
              if
                  (List.length s.snd.fst +
                        List.length
                          [IntKind.wrap IntKind.u8
                              (IntKind.wrap IntKind.i64 ((128 : Int) + Int.tmod s.fst.fst (128 : Int)))]) *
                      (1 : Nat) ≤
                    (140737488355328 : Nat) then
                if (128 : Int) ≠ (0 : Int) then
                  k
                    ((IntKind.wrap IntKind.i64 (Int.tdiv s.fst.fst (128 : Int)), (), ()),
                      s.snd.fst ++
                        [IntKind.wrap IntKind.u8
                            (IntKind.wrap IntKind.i64 ((128 : Int) + Int.tmod s.fst.fst (128 : Int)))],
                      ())
                else none
              else none
            else none
          else some ((s.fst.fst, (), ()), s.snd))
        ((a0, (), ()), nilOf Int, ()))
      fun (s : (Int × Unit × Unit) × List Int × Unit) =>
      if
          (List.length s.snd.fst + List.length [IntKind.wrap IntKind.u8 s.fst.fst]) * (1 : Nat) ≤
            (140737488355328 : Nat) then
        some ((), s.snd.fst ++ [IntKind.wrap IntKind.u8 s.fst.fst], ())
      else none
-- spec.l12Common
def m_spec_l12Common (a0 : List UInt8) (a1 : List UInt8) : Option (Int × Unit) :=
  Option.bind
    (loopC (List.length a0 + List.length a1 + Int.toNat (0 : Int) + (300 : Nat))
      (fun (s : (List UInt8 × List UInt8 × Int × Unit) × Unit)
          (k : (List UInt8 × List UInt8 × Int × Unit) × Unit → Option ((Int × Unit) × Unit)) =>
        Option.bind
          (bif decide (s.fst.snd.snd.fst < (↑(List.length s.fst.fst) : Int)) then
            bif decide (s.fst.snd.snd.fst < (↑(List.length s.fst.snd.fst) : Int)) then
              if (0 : Int) ≤ s.fst.snd.snd.fst ∧ s.fst.snd.snd.fst < (↑(List.length s.fst.fst) : Int) then
                if (0 : Int) ≤ s.fst.snd.snd.fst ∧ s.fst.snd.snd.fst < (↑(List.length s.fst.snd.fst) : Int) then
                  some
                    ((s.fst.fst, s.fst.snd.fst, s.fst.snd.snd.fst,
                        (↑(UInt8.toNat (List.getD s.fst.fst (Int.toNat s.fst.snd.snd.fst) (0 : UInt8))) : Int) ==
                          (↑(UInt8.toNat (List.getD s.fst.snd.fst (Int.toNat s.fst.snd.snd.fst) (0 : UInt8))) : Int),
                        ()),
                      ())
                else none
              else none
            else some ((s.fst.fst, s.fst.snd.fst, s.fst.snd.snd.fst, false, ()), ())
          else some ((s.fst.fst, s.fst.snd.fst, s.fst.snd.snd.fst, false, ()), ()))
          fun (s : (List UInt8 × List UInt8 × Int × Bool × Unit) × Unit) =>
          bif s.fst.snd.snd.snd.fst then
            k ((s.fst.fst, s.fst.snd.fst, IntKind.wrap IntKind.i64 (s.fst.snd.snd.fst + (1 : Int)), ()), ())
          else some ((s.fst.snd.snd.fst, ()), ()))
      ((a0, a1, (0 : Int), ()), ()))
    fun (s : (Int × Unit) × Unit) => some s.fst
-- spec.PutText
def m_spec_PutText (a0 : List UInt8) : Option (List Int × Unit) :=
  bif decide ((↑(List.length a0) : Int) > (20000 : Int)) then some (nilOf Int, ())
  else
    Option.bind (m_spec_PutVar (↑(List.length a0) : Int)) fun (r : Unit × List Int × Unit) =>
      if
          (List.length r.snd.fst + List.length (List.map (fun (b : UInt8) => (↑(UInt8.toNat b) : Int)) a0)) *
              (1 : Nat) ≤
            (140737488355328 : Nat) then
        some (r.snd.fst ++ List.map (fun (b : UInt8) => (↑(UInt8.toNat b) : Int)) a0, ())
      else none
-- spec.PutEntries
def m_spec_PutEntries (a0 : List (List UInt8 × (Int × (Int × (Int × (Int × (List UInt8 × Int))))))) : Option (List Int × Unit) :=
  Option.bind (m_spec_EntriesOk a0) fun (r : Bool × Unit) =>
    bif !r.fst then some (nilOf Int, ())
    else
      Option.bind (m_spec_PutVar (↑(List.length a0) : Int)) fun (r : Unit × List Int × Unit) =>
        Option.bind
          (loopC
            (List.length a0 + Int.toNat (0 : Int) + List.length r.snd.fst + List.length (nilOf UInt8) +
                          Int.toNat (0 : Int) +
                        Int.toNat (0 : Int) +
                      Int.toNat (0 : Int) +
                    Int.toNat (0 : Int) +
                  List.length (nilOf UInt8) +
                Int.toNat (0 : Int) +
              (300 : Nat))
            (fun
                (s :
                  (List (List UInt8 × Int × Int × Int × Int × List UInt8 × Int) × Unit × Unit × Int × Unit) ×
                    List Int × (List UInt8 × Int × Int × Int × Int × List UInt8 × Int × Unit) × Unit)
                (k :
                  (List (List UInt8 × Int × Int × Int × Int × List UInt8 × Int) × Unit × Unit × Int × Unit) ×
                      List Int × (List UInt8 × Int × Int × Int × Int × List UInt8 × Int × Unit) × Unit →
                    Option ((Unit × Unit) × List Int × Unit)) =>
              bif decide (s.fst.snd.snd.snd.fst < (↑(List.length s.fst.fst) : Int)) then
                if (0 : Int) ≤ s.fst.snd.snd.snd.fst ∧ s.fst.snd.snd.snd.fst < (↑(List.length s.fst.fst) : Int) then
                  Option.bind
                    (m_spec_l12Common s.snd.snd.fst.fst
                      (List.getD s.fst.fst (Int.toNat s.fst.snd.snd.snd.fst)
                          (nilOf UInt8, Int.ofNat (nat_lit 0), Int.ofNat (nat_lit 0), Int.ofNat (nat_lit 0),
                            Int.ofNat (nat_lit 0), nilOf UInt8, Int.ofNat (nat_lit 0))).fst)
                    fun (r : Int × Unit) =>
                    Option.bind (m_spec_PutVar r.fst) fun (r_1 : Unit × List Int × Unit) =>
                      if (List.length s.snd.fst + List.length r_1.snd.fst) * (1 : Nat) ≤ (140737488355328 : Nat) then
                        if
                            (0 : Int) ≤ r.fst ∧
                              r.fst ≤
                                  (↑(List.length
                                        (List.getD s.fst.fst (Int.toNat s.fst.snd.snd.snd.fst)
                                            (nilOf UInt8, Int.ofNat (nat_lit 0), Int.ofNat (nat_lit 0),
                                              Int.ofNat (nat_lit 0), Int.ofNat (nat_lit 0), nilOf UInt8,
                                              Int.ofNat (nat_lit 0))).fst) :
                                    Int) ∧
                                (↑(List.length
                                        (List.getD s.fst.fst (Int.toNat s.fst.snd.snd.snd.fst)
                                            (nilOf UInt8, Int.ofNat (nat_lit 0), Int.ofNat (nat_lit 0),
                                              Int.ofNat (nat_lit 0), Int.ofNat (nat_lit 0), nilOf UInt8,
                                              Int.ofNat (nat_lit 0))).fst) :
                                    Int) ≤
                                  (↑(List.length
                                        (List.getD s.fst.fst (Int.toNat s.fst.snd.snd.snd.fst)
                                            (nilOf UInt8, Int.ofNat (nat_lit 0), Int.ofNat (nat_lit 0),
                                              Int.ofNat (nat_lit 0), Int.ofNat (nat_lit 0), nilOf UInt8,
                                              Int.ofNat (nat_lit 0))).fst) :
                                    Int) then
                          Option.bind
                            (m_spec_PutText
                              (List.drop (Int.toNat r.fst)
                                (List.take
                                  (Int.toNat
                                    (↑(List.length
                                          (List.getD s.fst.fst (Int.toNat s.fst.snd.snd.snd.fst)
                                              (nilOf UInt8, Int.ofNat (nat_lit 0), Int.ofNat (nat_lit 0),
                                                Int.ofNat (nat_lit 0), Int.ofNat (nat_lit 0), nilOf UInt8,
                                                Int.ofNat (nat_lit 0))).fst) :
                                      Int))
                                  (List.getD s.fst.fst (Int.toNat s.fst.snd.snd.snd.fst)
                                      (nilOf UInt8, Int.ofNat (nat_lit 0), Int.ofNat (nat_lit 0), Int.ofNat (nat_lit 0),
                                        Int.ofNat (nat_lit 0), nilOf UInt8, Int.ofNat (nat_lit 0))).fst)))
                            fun (r : List Int × Unit) =>
                            if
                                (List.length (s.snd.fst ++ r_1.snd.fst) + List.length r.fst) * (1 : Nat) ≤
                                  (140737488355328 : Nat) then
                              Option.bind
                                (bif decide (s.fst.snd.snd.snd.fst > (0 : Int)) then
                                  bif
                                      (List.getD s.fst.fst (Int.toNat s.fst.snd.snd.snd.fst)
                                                (nilOf UInt8, Int.ofNat (nat_lit 0), Int.ofNat (nat_lit 0),
                                                  Int.ofNat (nat_lit 0), Int.ofNat (nat_lit 0), nilOf UInt8,
                                                  Int.ofNat (nat_lit 0))).snd.snd.fst ==
                                        s.snd.snd.fst.snd.snd.fst then
                                    some
                                      ((s.fst.fst, (), (), s.fst.snd.snd.snd.fst, (),
                                          (List.getD s.fst.fst (Int.toNat s.fst.snd.snd.snd.fst)
                                                      (nilOf UInt8, Int.ofNat (nat_lit 0), Int.ofNat (nat_lit 0),
                                                        Int.ofNat (nat_lit 0), Int.ofNat (nat_lit 0), nilOf UInt8,
                                                        Int.ofNat (nat_lit 0))).snd.snd.snd.fst ==
                                            s.snd.snd.fst.snd.snd.snd.fst,
                                          ()),
                                        s.snd.fst ++ r_1.snd.fst ++ r.fst, s.snd.snd.fst,
                                        ((List.getD s.fst.fst (Int.toNat s.fst.snd.snd.snd.fst)
                                              (nilOf UInt8, Int.ofNat (nat_lit 0), Int.ofNat (nat_lit 0),
                                                Int.ofNat (nat_lit 0), Int.ofNat (nat_lit 0), nilOf UInt8,
                                                Int.ofNat (nat_lit 0))).fst,
                                          (List.getD s.fst.fst (Int.toNat s.fst.snd.snd.snd.fst)
                                                (nilOf UInt8, Int.ofNat (nat_lit 0), Int.ofNat (nat_lit 0),
                                                  Int.ofNat (nat_lit 0), Int.ofNat (nat_lit 0), nilOf UInt8,
                                                  Int.ofNat (nat_lit 0))).snd.fst,
                                          (List.getD s.fst.fst (Int.toNat s.fst.snd.snd.snd.fst)
                                                  (nilOf UInt8, Int.ofNat (nat_lit 0), Int.ofNat (nat_lit 0),
                                                    Int.ofNat (nat_lit 0), Int.ofNat (nat_lit 0), nilOf UInt8,
                                                    Int.ofNat (nat_lit 0))).snd.snd.fst,
                                          (List.getD s.fst.fst (Int.toNat s.fst.snd.snd.snd.fst)
                                                    (nilOf UInt8, Int.ofNat (nat_lit 0), Int.ofNat (nat_lit 0),
                                                      Int.ofNat (nat_lit 0), Int.ofNat (nat_lit 0), nilOf UInt8,
                                                      Int.ofNat (nat_lit 0))).snd.snd.snd.fst,
                                          (List.getD s.fst.fst (Int.toNat s.fst.snd.snd.snd.fst)
                                                      (nilOf UInt8, Int.ofNat (nat_lit 0), Int.ofNat (nat_lit 0),
                                                        Int.ofNat (nat_lit 0), Int.ofNat (nat_lit 0), nilOf UInt8,
                                                        Int.ofNat (nat_lit 0))).snd.snd.snd.snd.fst,
                                          (List.getD s.fst.fst (Int.toNat s.fst.snd.snd.snd.fst)
                                                        (nilOf UInt8, Int.ofNat (nat_lit 0), Int.ofNat (nat_lit 0),
                                                          Int.ofNat (nat_lit 0), Int.ofNat (nat_lit 0), nilOf UInt8,
                                                          Int.ofNat (nat_lit 0))).snd.snd.snd.snd.snd.fst,
                                          (List.getD s.fst.fst (Int.toNat s.fst.snd.snd.snd.fst)
                                                        (nilOf UInt8, Int.ofNat (nat_lit 0), Int.ofNat (nat_lit 0),
                                                          Int.ofNat (nat_lit 0), Int.ofNat (nat_lit 0), nilOf UInt8,
                                                          Int.ofNat (nat_lit 0))).snd.snd.snd.snd.snd.snd,
                                          ()),
                                        ())
                                  else
                                    some
                                      ((s.fst.fst, (), (), s.fst.snd.snd.snd.fst, (), false, ()),
                                        s.snd.fst ++ r_1.snd.fst ++ r.fst, s.snd.snd.fst,
                                        ((List.getD s.fst.fst (Int.toNat s.fst.snd.snd.snd.fst)
                                              (nilOf UInt8, Int.ofNat (nat_lit 0), Int.ofNat (nat_lit 0),
                                                Int.ofNat (nat_lit 0), Int.ofNat (nat_lit 0), nilOf UInt8,
                                                Int.ofNat (nat_lit 0))).fst,
                                          (List.getD s.fst.fst (Int.toNat s.fst.snd.snd.snd.fst)
                                                (nilOf UInt8, Int.ofNat (nat_lit 0), Int.ofNat (nat_lit 0),
                                                  Int.ofNat (nat_lit 0), Int.ofNat (nat_lit 0), nilOf UInt8,
                                                  Int.ofNat (nat_lit 0))).snd.fst,
                                          (List.getD s.fst.fst (Int.toNat s.fst.snd.snd.snd.fst)
                                                  (nilOf UInt8, Int.ofNat (nat_lit 0), Int.ofNat (nat_lit 0),
                                                    Int.ofNat (nat_lit 0), Int.ofNat (nat_lit 0), nilOf UInt8,
                                                    Int.ofNat (nat_lit 0))).snd.snd.fst,
                                          (List.getD s.fst.fst (Int.toNat s.fst.snd.snd.snd.fst)
                                                    (nilOf UInt8, Int.ofNat (nat_lit 0), Int.ofNat (nat_lit 0),
                                                      Int.ofNat (nat_lit 0), Int.ofNat (nat_lit 0), nilOf UInt8,
                                                      Int.ofNat (nat_lit 0))).snd.snd.snd.fst,
                                          (List.getD s.fst.fst (Int.toNat s.fst.snd.snd.snd.fst)
                                                      (nilOf UInt8, Int.ofNat (nat_lit 0), Int.ofNat (nat_lit 0),
                                                        Int.ofNat (nat_lit 0), Int.ofNat (nat_lit 0), nilOf UInt8,
                                                        Int.ofNat (nat_lit 0))).snd.snd.snd.snd.fst,
                                          (List.getD s.fst.fst (Int.toNat s.fst.snd.snd.snd.fst)
                                                        (nilOf UInt8, Int.ofNat (nat_lit 0), Int.ofNat (nat_lit 0),
                                                          Int.ofNat (nat_lit 0), Int.ofNat (nat_lit 0), nilOf UInt8,
                                                          Int.ofNat (nat_lit 0))).snd.snd.snd.snd.snd.fst,
                                          (List.getD s.fst.fst (Int.toNat s.fst.snd.snd.snd.fst)
                                                        (nilOf UInt8, Int.ofNat (nat_lit 0), Int.ofNat (nat_lit 0),
                                                          Int.ofNat (nat_lit 0), Int.ofNat (nat_lit 0), nilOf UInt8,
                                                          Int.ofNat (nat_lit 0))).snd.snd.snd.snd.snd.snd,
                                          ()),
                                        ())
                                else
                                  some
                                    ((s.fst.fst, (), (), s.fst.snd.snd.snd.fst, (), false, ()),
                                      s.snd.fst ++ r_1.snd.fst ++ r.fst, s.snd.snd.fst,
                                      ((List.getD s.fst.fst (Int.toNat s.fst.snd.snd.snd.fst)
                                            (nilOf UInt8, Int.ofNat (nat_lit 0), Int.ofNat (nat_lit 0),
                                              Int.ofNat (nat_lit 0), Int.ofNat (nat_lit 0), nilOf UInt8,
                                              Int.ofNat (nat_lit 0))).fst,
                                        (List.getD s.fst.fst (Int.toNat s.fst.snd.snd.snd.fst)
                                              (nilOf UInt8, Int.ofNat (nat_lit 0), Int.ofNat (nat_lit 0),
                                                Int.ofNat (nat_lit 0), Int.ofNat (nat_lit 0), nilOf UInt8,
                                                Int.ofNat (nat_lit 0))).snd.fst,
                                        (List.getD s.fst.fst (Int.toNat s.fst.snd.snd.snd.fst)
                                                (nilOf UInt8, Int.ofNat (nat_lit 0), Int.ofNat (nat_lit 0),
                                                  Int.ofNat (nat_lit 0), Int.ofNat (nat_lit 0), nilOf UInt8,
                                                  Int.ofNat (nat_lit 0))).snd.snd.fst,
                                        (List.getD s.fst.fst (Int.toNat s.fst.snd.snd.snd.fst)
                                                  (nilOf UInt8, Int.ofNat (nat_lit 0), Int.ofNat (nat_lit 0),
                                                    Int.ofNat (nat_lit 0), Int.ofNat (nat_lit 0), nilOf UInt8,
                                                    Int.ofNat (nat_lit 0))).snd.snd.snd.fst,
                                        (List.getD s.fst.fst (Int.toNat s.fst.snd.snd.snd.fst)
                                                    (nilOf UInt8, Int.ofNat (nat_lit 0), Int.ofNat (nat_lit 0),
                                                      Int.ofNat (nat_lit 0), Int.ofNat (nat_lit 0), nilOf UInt8,
                                                      Int.ofNat (nat_lit 0))).snd.snd.snd.snd.fst,
                                        (List.getD s.fst.fst (Int.toNat s.fst.snd.snd.snd.fst)
                                                      (nilOf UInt8, Int.ofNat (nat_lit 0), Int.ofNat (nat_lit 0),
                                                        Int.ofNat (nat_lit 0), Int.ofNat (nat_lit 0), nilOf UInt8,
                                                        Int.ofNat (nat_lit 0))).snd.snd.snd.snd.snd.fst,
                                        (List.getD s.fst.fst (Int.toNat s.fst.snd.snd.snd.fst)
                                                      (nilOf UInt8, Int.ofNat (nat_lit 0), Int.ofNat (nat_lit 0),
                                                        Int.ofNat (nat_lit 0), Int.ofNat (nat_lit 0), nilOf UInt8,
                                                        Int.ofNat (nat_lit 0))).snd.snd.snd.snd.snd.snd,
                                        ()),
                                      ()))
                                fun
                                  (s :
                                    (List (List UInt8 × Int × Int × Int × Int × List UInt8 × Int) ×
                                        Unit × Unit × Int × Unit × Bool × Unit) ×
                                      List Int ×
                                        (List UInt8 × Int × Int × Int × Int × List UInt8 × Int × Unit) ×
                                          (List UInt8 × Int × Int × Int × Int × List UInt8 × Int × Unit) × Unit) =>
                                Option.bind
                                  (bif s.fst.snd.snd.snd.snd.snd.fst then
                                    Option.bind
                                      (m_spec_PutVar (IntKind.wrap IntKind.i64 (s.snd.snd.snd.fst.snd.fst + (4 : Int))))
                                      fun (r : Unit × List Int × Unit) =>
                                      if
                                          (List.length s.snd.fst + List.length r.snd.fst) * (1 : Nat) ≤
                                            (140737488355328 : Nat) then
                                        some
                                          ((s.fst.fst, (), (), s.fst.snd.snd.snd.fst, (), ()), s.snd.fst ++ r.snd.fst,
                                            s.snd.snd)
                                      else none
                                  else
                                    Option.bind (m_spec_PutVar s.snd.snd.snd.fst.snd.fst)
                                      fun (r : Unit × List Int × Unit) =>
                                      if
                                          (List.length s.snd.fst + List.length r.snd.fst) * (1 : Nat) ≤
                                            (140737488355328 : Nat) then
                                        Option.bind (m_spec_PutVar s.snd.snd.snd.fst.snd.snd.fst)
                                          fun (r_2 : Unit × List Int × Unit) =>
                                          if
                                              (List.length (s.snd.fst ++ r.snd.fst) + List.length r_2.snd.fst) *
                                                  (1 : Nat) ≤
                                                (140737488355328 : Nat) then
                                            Option.bind (m_spec_PutVar s.snd.snd.snd.fst.snd.snd.snd.fst)
                                              fun (r_3 : Unit × List Int × Unit) =>
                                              if
                                                  (List.length (s.snd.fst ++ r.snd.fst ++ r_2.snd.fst) +
                                                        List.length r_3.snd.fst) *
                                                      (1 : Nat) ≤
                                                    (140737488355328 : Nat) then
                                                some
                                                  ((s.fst.fst, (), (), s.fst.snd.snd.snd.fst, (), ()),
                                                    s.snd.fst ++ r.snd.fst ++ r_2.snd.fst ++ r_3.snd.fst, s.snd.snd)
                                              else none
                                          else none
                                      else none)
                                  fun
                                    (s :
                                      (List (List UInt8 × Int × Int × Int × Int × List UInt8 × Int) ×
                                          Unit × Unit × Int × Unit × Unit) ×
                                        List Int ×
                                          (List UInt8 × Int × Int × Int × Int × List UInt8 × Int × Unit) ×
                                            (List UInt8 × Int × Int × Int × Int × List UInt8 × Int × Unit) × Unit) =>
                                  Option.bind
                                    (bif s.snd.snd.snd.fst.snd.fst == (1 : Int) then
                                      Option.bind (m_spec_PutVar s.snd.snd.snd.fst.snd.snd.snd.snd.fst)
                                        fun (r : Unit × List Int × Unit) =>
                                        if
                                            (List.length s.snd.fst + List.length r.snd.fst) * (1 : Nat) ≤
                                              (140737488355328 : Nat) then
                                          Option.bind (m_spec_PutVar s.snd.snd.snd.fst.snd.snd.snd.snd.snd.snd.fst)
                                            fun (r_2 : Unit × List Int × Unit) =>
                                            if
                                                (List.length (s.snd.fst ++ r.snd.fst) + List.length r_2.snd.fst) *
                                                    (1 : Nat) ≤
                                                  (140737488355328 : Nat) then
                                              some
                                                ((s.fst.fst, (), (), s.fst.snd.snd.snd.fst, (), ()),
                                                  s.snd.fst ++ r.snd.fst ++ r_2.snd.fst, s.snd.snd)
                                            else none
                                        else none
                                    else
                                      Option.bind
                                        (bif s.snd.snd.snd.fst.snd.fst == (2 : Int) then
                                          Option.bind (m_spec_PutText s.snd.snd.snd.fst.snd.snd.snd.snd.snd.fst)
                                            fun (r : List Int × Unit) =>
                                            if
                                                (List.length s.snd.fst + List.length r.fst) * (1 : Nat) ≤
                                                  (140737488355328 : Nat) then
                                              some
                                                ((s.fst.fst, (), (), s.fst.snd.snd.snd.fst, (), ()), s.snd.fst ++ r.fst,
                                                  s.snd.snd)
                                            else none
                                        else some ((s.fst.fst, (), (), s.fst.snd.snd.snd.fst, (), ()), s.snd))
                                        fun
                                          (s :
                                            (List (List UInt8 × Int × Int × Int × Int × List UInt8 × Int) ×
                                                Unit × Unit × Int × Unit × Unit) ×
                                              List Int ×
                                                (List UInt8 × Int × Int × Int × Int × List UInt8 × Int × Unit) ×
                                                  (List UInt8 × Int × Int × Int × Int × List UInt8 × Int × Unit) ×
                                                    Unit) =>
                                        some ((s.fst.fst, (), (), s.fst.snd.snd.snd.fst, (), ()), s.snd))
                                    fun
                                      (s :
                                        (List (List UInt8 × Int × Int × Int × Int × List UInt8 × Int) ×
                                            Unit × Unit × Int × Unit × Unit) ×
                                          List Int ×
                                            (List UInt8 × Int × Int × Int × Int × List UInt8 × Int × Unit) ×
                                              (List UInt8 × Int × Int × Int × Int × List UInt8 × Int × Unit) ×
                                                Unit) =>
                                    k
                                      ((s.fst.fst, (), (), IntKind.wrap IntKind.i64 (s.fst.snd.snd.snd.fst + (1 : Int)),
                                          ()),
                                        s.snd.fst, s.snd.snd.snd)
                            else none
                        else none
                      else none
                else none
              else some (((), ()), s.snd.fst, ()))
            ((a0, (), (), (0 : Int), ()), r.snd.fst,
              (nilOf UInt8, (0 : Int), (0 : Int), (0 : Int), (0 : Int), nilOf UInt8, (0 : Int), ()), ()))
          fun (s : (Unit × Unit) × List Int × Unit) => some s.snd
-- internal/bytealg.CountString
def m_bytealg_CountString (a0 : List UInt8) (a1 : Int) : Option (Int × Unit) := some ((Go.Lib.countByte a0 a1.toNat.toUInt8 : Nat), ())
-- strings.Count
def m_strings_Count (a0 : List UInt8) : Option (Int × Unit) :=
  if (0 : Int) ≤ (0 : Int) ∧ (0 : Int) < (↑(List.length [(47 : UInt8)]) : Int) then
    Option.bind
      (m_bytealg_CountString a0 (↑(UInt8.toNat (List.getD [(47 : UInt8)] (Int.toNat (0 : Int)) (0 : UInt8))) : Int))
      fun (r : Int × Unit) => some r
  else none
-- internal/bytealg.IndexByteString
def m_bytealg_IndexByteString (a0 : List UInt8) (a1 : Int) : Option (Int × Unit) := some (Go.Lib.indexByte a0 a1.toNat.toUInt8, ())
-- internal/stringslite.IndexByte
def m_stringslite_IndexByte (a0 : List UInt8) (a1 : Int) : Option (Int × Unit) :=
  Option.bind (m_bytealg_IndexByteString a0 a1) fun (r : Int × Unit) => some r
-- internal/stringslite.Index
def m_stringslite_Index (a0 : List UInt8) : Option (Int × Unit) :=
  bif [(47 : UInt8)] == a0 then some ((0 : Int), ())
  else
    if (0 : Int) ≤ (0 : Int) ∧ (0 : Int) < (↑(List.length [(47 : UInt8)]) : Int) then
      Option.bind
        (m_stringslite_IndexByte a0 (↑(UInt8.toNat (List.getD [(47 : UInt8)] (Int.toNat (0 : Int)) (0 : UInt8))) : Int))
        fun (r : Int × Unit) => some r
    else none
-- strings.Index
def m_strings_Index (a0 : List UInt8) : Option (Int × Unit) := Option.bind (m_stringslite_Index a0) fun (r : Int × Unit) => some r
-- strings.genSplit
def m_strings_genSplit (a0 : List UInt8) : Option (List (List UInt8) × Unit) :=
  Option.bind (m_strings_Count a0) fun (r : Int × Unit) =>
    if
        ((0 : Int) ≤
            if
                IntKind.wrap IntKind.i64 ((↑(List.length a0) : Int) + (1 : Int)) <
                  IntKind.wrap IntKind.i64 (r.fst + (1 : Int)) then
              IntKind.wrap IntKind.i64 ((↑(List.length a0) : Int) + (1 : Int))
            else IntKind.wrap IntKind.i64 (r.fst + (1 : Int))) ∧
          ((if
                  IntKind.wrap IntKind.i64 ((↑(List.length a0) : Int) + (1 : Int)) <
                    IntKind.wrap IntKind.i64 (r.fst + (1 : Int)) then
                IntKind.wrap IntKind.i64 ((↑(List.length a0) : Int) + (1 : Int))
              else IntKind.wrap IntKind.i64 (r.fst + (1 : Int))) ≤
              if
                  IntKind.wrap IntKind.i64 ((↑(List.length a0) : Int) + (1 : Int)) <
                    IntKind.wrap IntKind.i64 (r.fst + (1 : Int)) then
                IntKind.wrap IntKind.i64 ((↑(List.length a0) : Int) + (1 : Int))
              else IntKind.wrap IntKind.i64 (r.fst + (1 : Int))) ∧
            ((↑(16 : Nat) : Int) *
                  if
                      IntKind.wrap IntKind.i64 ((↑(List.length a0) : Int) + (1 : Int)) <
                        IntKind.wrap IntKind.i64 (r.fst + (1 : Int)) then
                    IntKind.wrap IntKind.i64 ((↑(List.length a0) : Int) + (1 : Int))
                  else IntKind.wrap IntKind.i64 (r.fst + (1 : Int))) ≤
                (140737488355328 : Int) ∧
              (if
                    IntKind.wrap IntKind.i64 ((↑(List.length a0) : Int) + (1 : Int)) <
                      IntKind.wrap IntKind.i64 (r.fst + (1 : Int)) then
                  IntKind.wrap IntKind.i64 ((↑(List.length a0) : Int) + (1 : Int))
                else IntKind.wrap IntKind.i64 (r.fst + (1 : Int))) <
                (2 : Int) ^ (62 : Nat) then
      Option.bind
        (loopC
          (List.length a0 +
                  Int.toNat
                    (IntKind.wrap IntKind.i64
                      ((if
                            IntKind.wrap IntKind.i64 ((↑(List.length a0) : Int) + (1 : Int)) <
                              IntKind.wrap IntKind.i64 (r.fst + (1 : Int)) then
                          IntKind.wrap IntKind.i64 ((↑(List.length a0) : Int) + (1 : Int))
                        else IntKind.wrap IntKind.i64 (r.fst + (1 : Int))) -
                        (1 : Int))) +
                Int.toNat (0 : Int) +
              List.length
                (List.replicate
                  (Int.toNat
                    (if
                        IntKind.wrap IntKind.i64 ((↑(List.length a0) : Int) + (1 : Int)) <
                          IntKind.wrap IntKind.i64 (r.fst + (1 : Int)) then
                      IntKind.wrap IntKind.i64 ((↑(List.length a0) : Int) + (1 : Int))
                    else IntKind.wrap IntKind.i64 (r.fst + (1 : Int))))
                  (nilOf UInt8)) +
            (300 : Nat))
          (fun (s : (List UInt8 × Unit × Unit × Int × Unit × Int × Unit) × List (List UInt8) × Unit)
              (k :
                (List UInt8 × Unit × Unit × Int × Unit × Int × Unit) × List (List UInt8) × Unit →
                  Option ((List UInt8 × Unit × Int × Unit) × List (List UInt8) × Unit)) =>
            bif decide (s.fst.snd.snd.snd.snd.snd.fst < s.fst.snd.snd.snd.fst) then
              Option.bind (m_strings_Index s.fst.fst) fun (r : Int × Unit) =>
                bif decide (r.fst < (0 : Int)) then some ((s.fst.fst, (), s.fst.snd.snd.snd.snd.snd), s.snd)
                else
                  if
                      (0 : Int) ≤ (0 : Int) ∧
                        (0 : Int) ≤ IntKind.wrap IntKind.i64 (r.fst + (0 : Int)) ∧
                          IntKind.wrap IntKind.i64 (r.fst + (0 : Int)) ≤ (↑(List.length s.fst.fst) : Int) then
                    if
                        (0 : Int) ≤ s.fst.snd.snd.snd.snd.snd.fst ∧
                          s.fst.snd.snd.snd.snd.snd.fst < (↑(List.length s.snd.fst) : Int) then
                      if Int.toNat s.fst.snd.snd.snd.snd.snd.fst < List.length s.snd.fst then
                        if
                            (0 : Int) ≤ IntKind.wrap IntKind.i64 (r.fst + (↑(List.length [(47 : UInt8)]) : Int)) ∧
                              IntKind.wrap IntKind.i64 (r.fst + (↑(List.length [(47 : UInt8)]) : Int)) ≤
                                  (↑(List.length s.fst.fst) : Int) ∧
                                (↑(List.length s.fst.fst) : Int) ≤ (↑(List.length s.fst.fst) : Int) then
                          k
                            ((List.drop
                                  (Int.toNat (IntKind.wrap IntKind.i64 (r.fst + (↑(List.length [(47 : UInt8)]) : Int))))
                                  (List.take (Int.toNat (↑(List.length s.fst.fst) : Int)) s.fst.fst),
                                (), (), s.fst.snd.snd.snd.fst, (),
                                IntKind.wrap IntKind.i64 (s.fst.snd.snd.snd.snd.snd.fst + (1 : Int)), ()),
                              List.set s.snd.fst (Int.toNat s.fst.snd.snd.snd.snd.snd.fst)
                                (List.drop (Int.toNat (0 : Int))
                                  (List.take (Int.toNat (IntKind.wrap IntKind.i64 (r.fst + (0 : Int)))) s.fst.fst)),
                              ())
                        else none
                      else none
                    else none
                  else none
            else some ((s.fst.fst, (), s.fst.snd.snd.snd.snd.snd), s.snd))
          ((a0, (), (),
              IntKind.wrap IntKind.i64
                ((if
                      IntKind.wrap IntKind.i64 ((↑(List.length a0) : Int) + (1 : Int)) <
                        IntKind.wrap IntKind.i64 (r.fst + (1 : Int)) then
                    IntKind.wrap IntKind.i64 ((↑(List.length a0) : Int) + (1 : Int))
                  else IntKind.wrap IntKind.i64 (r.fst + (1 : Int))) -
                  (1 : Int)),
              (), (0 : Int), ()),
            List.replicate
              (Int.toNat
                (if
                    IntKind.wrap IntKind.i64 ((↑(List.length a0) : Int) + (1 : Int)) <
                      IntKind.wrap IntKind.i64 (r.fst + (1 : Int)) then
                  IntKind.wrap IntKind.i64 ((↑(List.length a0) : Int) + (1 : Int))
                else IntKind.wrap IntKind.i64 (r.fst + (1 : Int))))
              (nilOf UInt8),
            ()))
        fun (s : (List UInt8 × Unit × Int × Unit) × List (List UInt8) × Unit) =>
        if (0 : Int) ≤ s.fst.snd.snd.fst ∧ s.fst.snd.snd.fst < (↑(List.length s.snd.fst) : Int) then
          if Int.toNat s.fst.snd.snd.fst < List.length s.snd.fst then
            if
                (0 : Int) ≤ (0 : Int) ∧
                  (0 : Int) ≤ IntKind.wrap IntKind.i64 (s.fst.snd.snd.fst + (1 : Int)) ∧
                    IntKind.wrap IntKind.i64 (s.fst.snd.snd.fst + (1 : Int)) ≤
                      (↑(List.length (List.set s.snd.fst (Int.toNat s.fst.snd.snd.fst) s.fst.fst)) : Int) then
              some
                (List.drop (Int.toNat (0 : Int))
                    (List.take (Int.toNat (IntKind.wrap IntKind.i64 (s.fst.snd.snd.fst + (1 : Int))))
                      (List.set s.snd.fst (Int.toNat s.fst.snd.snd.fst) s.fst.fst)),
                  ())
            else none
          else none
        else none
    else none
-- strings.Split
def m_strings_Split (a0 : List UInt8) : Option (List (List UInt8) × Unit) :=
  Option.bind (m_strings_genSplit a0) fun (r : List (List UInt8) × Unit) => some r
-- impl.within
def m_impl_within (a0 : Int) (a1 : Int) (a2 : Int) : Option (Bool × Unit) :=
  Option.bind (bif decide (a0 ≥ a1) then some ((decide (a0 ≤ a2), ()), ()) else some ((false, ()), ()))
    fun (s : (Bool × PUnit) × PUnit) => some (s.fst.fst, ())
-- impl.NameOk
def m_impl_NameOk (a0 : List UInt8) : Option (Bool × Unit) :=
  joinC
    (loopC (List.length a0 + Int.toNat (↑(List.length a0) : Int) + Int.toNat (0 : Int) + (300 : Nat))
      (fun (s : (List UInt8 × Int × Int × Unit) × Unit)
          (k : (List UInt8 × Int × Int × Unit) × Unit → Option ((List UInt8 × Unit) × Unit ⊕ Bool × Unit)) =>
        bif decide (s.fst.snd.snd.fst < s.fst.snd.fst) then
          if (0 : Int) ≤ s.fst.snd.snd.fst ∧ s.fst.snd.snd.fst < (↑(List.length s.fst.fst) : Int) then
            Option.bind
              (bif
                  decide
                    ((↑(UInt8.toNat (List.getD s.fst.fst (Int.toNat s.fst.snd.snd.fst) (0 : UInt8))) : Int) ≥
                      (97 : Int)) then
                bif
                    decide
                      ((↑(UInt8.toNat (List.getD s.fst.fst (Int.toNat s.fst.snd.snd.fst) (0 : UInt8))) : Int) ≤
                        (122 : Int)) then
                  some ((s.fst.fst, s.fst.snd.fst, s.fst.snd.snd.fst, !true, ()), ())
                else
                  bif
                      decide
                        ((↑(UInt8.toNat (List.getD s.fst.fst (Int.toNat s.fst.snd.snd.fst) (0 : UInt8))) : Int) ≥
                          (65 : Int)) then
                    bif
                        decide
                          ((↑(UInt8.toNat (List.getD s.fst.fst (Int.toNat s.fst.snd.snd.fst) (0 : UInt8))) : Int) ≤
                            (90 : Int)) then
                      some ((s.fst.fst, s.fst.snd.fst, s.fst.snd.snd.fst, !true, ()), ())
                    else
                      bif
                          decide
                            ((↑(UInt8.toNat (List.getD s.fst.fst (Int.toNat s.fst.snd.snd.fst) (0 : UInt8))) : Int) ≥
                              (48 : Int)) then
                        bif
                            decide
                              ((↑(UInt8.toNat (List.getD s.fst.fst (Int.toNat s.fst.snd.snd.fst) (0 : UInt8))) : Int) ≤
                                (57 : Int)) then
                          some ((s.fst.fst, s.fst.snd.fst, s.fst.snd.snd.fst, !true, ()), ())
                        else
                          bif
                              (↑(UInt8.toNat (List.getD s.fst.fst (Int.toNat s.fst.snd.snd.fst) (0 : UInt8))) : Int) ==
                                (46 : Int) then
                            some ((s.fst.fst, s.fst.snd.fst, s.fst.snd.snd.fst, !true, ()), ())
                          else
                            bif
                                (↑(UInt8.toNat (List.getD s.fst.fst (Int.toNat s.fst.snd.snd.fst) (0 : UInt8))) :
                                    Int) ==
                                  (95 : Int) then
                              some ((s.fst.fst, s.fst.snd.fst, s.fst.snd.snd.fst, !true, ()), ())
                            else
                              some
                                ((s.fst.fst, s.fst.snd.fst, s.fst.snd.snd.fst,
                                    !(↑(UInt8.toNat (List.getD s.fst.fst (Int.toNat s.fst.snd.snd.fst) (0 : UInt8))) :
                                          Int) ==
                                        (45 : Int),
                                    ()),
                                  ())
                      else
                        bif
                            (↑(UInt8.toNat (List.getD s.fst.fst (Int.toNat s.fst.snd.snd.fst) (0 : UInt8))) : Int) ==
                              (46 : Int) then
                          some ((s.fst.fst, s.fst.snd.fst, s.fst.snd.snd.fst, !true, ()), ())
                        else
                          bif
                              (↑(UInt8.toNat (List.getD s.fst.fst (Int.toNat s.fst.snd.snd.fst) (0 : UInt8))) : Int) ==
                                (95 : Int) then
                            some ((s.fst.fst, s.fst.snd.fst, s.fst.snd.snd.fst, !true, ()), ())
                          else
                            some
                              ((s.fst.fst, s.fst.snd.fst, s.fst.snd.snd.fst,
                                  !(↑(UInt8.toNat (List.getD s.fst.fst (Int.toNat s.fst.snd.snd.fst) (0 : UInt8))) :
                                        Int) ==
                                      (45 : Int),
                                  ()),
                                ())
                  else
                    bif
                        decide
                          ((↑(UInt8.toNat (List.getD s.fst.fst (Int.toNat s.fst.snd.snd.fst) (0 : UInt8))) : Int) ≥
                            (48 : Int)) then
                      bif
                          decide
                            ((↑(UInt8.toNat (List.getD s.fst.fst (Int.toNat s.fst.snd.snd.fst) (0 : UInt8))) : Int) ≤
                              (57 : Int)) then
                        some ((s.fst.fst, s.fst.snd.fst, s.fst.snd.snd.fst, !true, ()), ())
                      else
                        bif
                            (↑(UInt8.toNat (List.getD s.fst.fst (Int.toNat s.fst.snd.snd.fst) (0 : UInt8))) : Int) ==
                              (46 : Int) then
                          some ((s.fst.fst, s.fst.snd.fst, s.fst.snd.snd.fst, !true, ()), ())
                        else
                          bif
                              (↑(UInt8.toNat (List.getD s.fst.fst (Int.toNat s.fst.snd.snd.fst) (0 : UInt8))) : Int) ==
                                (95 : Int) then
                            some ((s.fst.fst, s.fst.snd.fst, s.fst.snd.snd.fst, !true, ()), ())
                          else
                            some
                              ((s.fst.fst, s.fst.snd.fst, s.fst.snd.snd.fst,
                                  !(↑(UInt8.toNat (List.getD s.fst.fst (Int.toNat s.fst.snd.snd.fst) (0 : UInt8))) :
                                        Int) ==
                                      (45 : Int),
                                  ()),
                                ())
                    else
                      bif
                          (↑(UInt8.toNat (List.getD s.fst.fst (Int.toNat s.fst.snd.snd.fst) (0 : UInt8))) : Int) ==
                            (46 : Int) then
                        some ((s.fst.fst, s.fst.snd.fst, s.fst.snd.snd.fst, !true, ()), ())
                      else
                        bif
                            (↑(UInt8.toNat (List.getD s.fst.fst (Int.toNat s.fst.snd.snd.fst) (0 : UInt8))) : Int) ==
                              (95 : Int) then
                          some ((s.fst.fst, s.fst.snd.fst, s.fst.snd.snd.fst, !true, ()), ())
                        else
                          some
                            ((s.fst.fst, s.fst.snd.fst, s.fst.snd.snd.fst,
                                !(↑(UInt8.toNat (List.getD s.fst.fst (Int.toNat s.fst.snd.snd.fst) (0 : UInt8))) :
                                      Int) ==
                                    (45 : Int),
                                ()),
                              ())
              else
                bif
                    decide
                      ((↑(UInt8.toNat (List.getD s.fst.fst (Int.toNat s.fst.snd.snd.fst) (0 : UInt8))) : Int) ≥
                        (65 : Int)) then
                  bif
                      decide
                        ((↑(UInt8.toNat (List.getD s.fst.fst (Int.toNat s.fst.snd.snd.fst) (0 : UInt8))) : Int) ≤
                          (90 : Int)) then
                    some ((s.fst.fst, s.fst.snd.fst, s.fst.snd.snd.fst, !true, ()), ())
                  else
                    bif
                        decide
                          ((↑(UInt8.toNat (List.getD s.fst.fst (Int.toNat s.fst.snd.snd.fst) (0 : UInt8))) : Int) ≥
                            (48 : Int)) then
                      bif
                          decide
                            ((↑(UInt8.toNat (List.getD s.fst.fst (Int.toNat s.fst.snd.snd.fst) (0 : UInt8))) : Int) ≤
                              (57 : Int)) then
                        some ((s.fst.fst, s.fst.snd.fst, s.fst.snd.snd.fst, !true, ()), ())
                      else
                        bif
                            (↑(UInt8.toNat (List.getD s.fst.fst (Int.toNat s.fst.snd.snd.fst) (0 : UInt8))) : Int) ==
                              (46 : Int) then
                          some ((s.fst.fst, s.fst.snd.fst, s.fst.snd.snd.fst, !true, ()), ())
                        else
                          bif
                              (↑(UInt8.toNat (List.getD s.fst.fst (Int.toNat s.fst.snd.snd.fst) (0 : UInt8))) : Int) ==
                                (95 : Int) then
                            some ((s.fst.fst, s.fst.snd.fst, s.fst.snd.snd.fst, !true, ()), ())
                          else
                            some
                              ((s.fst.fst, s.fst.snd.fst, s.fst.snd.snd.fst,
                                  !(↑(UInt8.toNat (List.getD s.fst.fst (Int.toNat s.fst.snd.snd.fst) (0 : UInt8))) :
                                        Int) ==
                                      (45 : Int),
                                  ()),
                                ())
                    else
                      bif
                          (↑(UInt8.toNat (List.getD s.fst.fst (Int.toNat s.fst.snd.snd.fst) (0 : UInt8))) : Int) ==
                            (46 : Int) then
                        some ((s.fst.fst, s.fst.snd.fst, s.fst.snd.snd.fst, !true, ()), ())
                      else
                        bif
                            (↑(UInt8.toNat (List.getD s.fst.fst (Int.toNat s.fst.snd.snd.fst) (0 : UInt8))) : Int) ==
                              (95 : Int) then
                          some ((s.fst.fst, s.fst.snd.fst, s.fst.snd.snd.fst, !true, ()), ())
                        else
                          some
                            ((s.fst.fst, s.fst.snd.fst, s.fst.snd.snd.fst,
                                !(↑(UInt8.toNat (List.getD s.fst.fst (Int.toNat s.fst.snd.snd.fst) (0 : UInt8))) :
                                      Int) ==
                                    (45 : Int),
                                ()),
                              ())
                else
                  bif
                      decide
                        ((↑(UInt8.toNat (List.getD s.fst.fst (Int.toNat s.fst.snd.snd.fst) (0 : UInt8))) : Int) ≥
                          (48 : Int)) then
                    bif
                        decide
                          ((↑(UInt8.toNat (List.getD s.fst.fst (Int.toNat s.fst.snd.snd.fst) (0 : UInt8))) : Int) ≤
                            (57 : Int)) then
                      some ((s.fst.fst, s.fst.snd.fst, s.fst.snd.snd.fst, !true, ()), ())
                    else
                      bif
                          (↑(UInt8.toNat (List.getD s.fst.fst (Int.toNat s.fst.snd.snd.fst) (0 : UInt8))) : Int) ==
                            (46 : Int) then
                        some ((s.fst.fst, s.fst.snd.fst, s.fst.snd.snd.fst, !true, ()), ())
                      else
                        bif
                            (↑(UInt8.toNat (List.getD s.fst.fst (Int.toNat s.fst.snd.snd.fst) (0 : UInt8))) : Int) ==
                              (95 : Int) then
                          some ((s.fst.fst, s.fst.snd.fst, s.fst.snd.snd.fst, !true, ()), ())
                        else
                          some
                            ((s.fst.fst, s.fst.snd.fst, s.fst.snd.snd.fst,
                                !(↑(UInt8.toNat (List.getD s.fst.fst (Int.toNat s.fst.snd.snd.fst) (0 : UInt8))) :
                                      Int) ==
                                    (45 : Int),
                                ()),
                              ())
                  else
                    bif
                        (↑(UInt8.toNat (List.getD s.fst.fst (Int.toNat s.fst.snd.snd.fst) (0 : UInt8))) : Int) ==
                          (46 : Int) then
                      some ((s.fst.fst, s.fst.snd.fst, s.fst.snd.snd.fst, !true, ()), ())
                    else
                      bif
                          (↑(UInt8.toNat (List.getD s.fst.fst (Int.toNat s.fst.snd.snd.fst) (0 : UInt8))) : Int) ==
                            (95 : Int) then
                        some ((s.fst.fst, s.fst.snd.fst, s.fst.snd.snd.fst, !true, ()), ())
                      else
                        some
                          ((s.fst.fst, s.fst.snd.fst, s.fst.snd.snd.fst,
                              !(↑(UInt8.toNat (List.getD s.fst.fst (Int.toNat s.fst.snd.snd.fst) (0 : UInt8))) : Int) ==
                                  (45 : Int),
                              ()),
                            ()))
              fun (s : (List UInt8 × Int × Int × Bool × Unit) × Unit) =>
              bif s.fst.snd.snd.snd.fst then some (Sum.inr (false, ()))
              else k ((s.fst.fst, s.fst.snd.fst, IntKind.wrap IntKind.i64 (s.fst.snd.snd.fst + (1 : Int)), ()), ())
          else none
        else some (Sum.inl ((s.fst.fst, ()), ())))
      ((a0, (↑(List.length a0) : Int), (0 : Int), ()), ()))
    fun (s : (List UInt8 × Unit) × Unit) =>
    Option.bind
      (Option.bind (m_impl_within (↑(List.length s.fst.fst) : Int) (1 : Int) (20 : Int)) fun (r : Bool × Unit) =>
        bif r.fst then
          bif !s.fst.fst == [(46 : UInt8)] then some ((!s.fst.fst == [(46 : UInt8), (46 : UInt8)], ()), ())
          else some ((false, ()), ())
        else some ((false, ()), ()))
      fun (s : (Bool × Unit) × Unit) => some s.fst
-- impl.Names
def m_impl_Names (a0 : List UInt8) : Option (List (List UInt8) × Unit) :=
  bif decide ((↑(List.length a0) : Int) > (168 : Int)) then some (nilOf (List UInt8), ())
  else
    Option.bind (m_strings_Split a0) fun (r : List (List UInt8) × Unit) =>
      bif decide ((↑(List.length r.fst) : Int) > (8 : Int)) then some (nilOf (List UInt8), ())
      else
        joinC
          (loopC
            (List.length r.fst + List.length r.fst + Int.toNat (↑(List.length r.fst) : Int) + Int.toNat (0 : Int) +
              (300 : Nat))
            (fun (s : (List (List UInt8) × List (List UInt8) × Int × Int × Unit) × Unit)
                (k :
                  (List (List UInt8) × List (List UInt8) × Int × Int × Unit) × Unit →
                    Option ((List (List UInt8) × Unit) × Unit ⊕ List (List UInt8) × Unit)) =>
              bif decide (s.fst.snd.snd.snd.fst < s.fst.snd.snd.fst) then
                if (0 : Int) ≤ s.fst.snd.snd.snd.fst ∧ s.fst.snd.snd.snd.fst < (↑(List.length s.fst.snd.fst) : Int) then
                  Option.bind (m_impl_NameOk (List.getD s.fst.snd.fst (Int.toNat s.fst.snd.snd.snd.fst) (nilOf UInt8)))
                    fun (r : Bool × Unit) =>
                    bif !r.fst then some (Sum.inr (nilOf (List UInt8), ()))
                    else
                      k
                        ((s.fst.fst, s.fst.snd.fst, s.fst.snd.snd.fst,
                            IntKind.wrap IntKind.i64 (s.fst.snd.snd.snd.fst + (1 : Int)), ()),
                          ())
                else none
              else some (Sum.inl ((s.fst.fst, ()), ())))
            ((r.fst, r.fst, (↑(List.length r.fst) : Int), (0 : Int), ()), ()))
          fun (s : (List (List UInt8) × Unit) × Unit) => some s.fst
-- impl.PathOk
def m_impl_PathOk (a0 : List UInt8) : Option (Bool × Unit) :=
  Option.bind (m_impl_Names a0) fun (r : List (List UInt8) × Unit) =>
    some (decide ((↑(List.length r.fst) : Int) > (0 : Int)), ())
-- internal/stringslite.Index
def m_stringslite_Index_2 (a0 : List UInt8) : Option (Int × Unit) :=
  bif [(10 : UInt8)] == a0 then some ((0 : Int), ())
  else
    if (0 : Int) ≤ (0 : Int) ∧ (0 : Int) < (↑(List.length [(10 : UInt8)]) : Int) then
      Option.bind
        (m_stringslite_IndexByte a0 (↑(UInt8.toNat (List.getD [(10 : UInt8)] (Int.toNat (0 : Int)) (0 : UInt8))) : Int))
        fun (r : Int × Unit) => some r
    else none
-- strings.Index
def m_strings_Index_2 (a0 : List UInt8) : Option (Int × Unit) := Option.bind (m_stringslite_Index_2 a0) fun (r : Int × Unit) => some r
-- strings.Contains
def m_strings_Contains (a0 : List UInt8) : Option (Bool × Unit) :=
  Option.bind (m_strings_Index_2 a0) fun (r : Int × Unit) => some (decide (r.fst ≥ (0 : Int)), ())
-- impl.NodeOk
def m_impl_NodeOk (a0 : (List UInt8 × (Int × (Int × (Int × (List UInt8 × (List UInt8 × Int))))))) : Option (Bool × Unit) :=
  Option.bind
    (Option.bind (m_impl_PathOk a0.fst) fun (r : Bool × Unit) =>
      bif !r.fst then
        some
          (((), true, ()),
            (a0.fst, a0.snd.fst, a0.snd.snd.fst, a0.snd.snd.snd.fst, a0.snd.snd.snd.snd.fst, a0.snd.snd.snd.snd.snd.fst,
              a0.snd.snd.snd.snd.snd.snd, ()),
            ())
      else
        Option.bind (m_impl_within a0.snd.snd.fst (0 : Int) (511 : Int)) fun (r : Bool × Unit) =>
          bif !r.fst then
            some
              (((), true, ()),
                (a0.fst, a0.snd.fst, a0.snd.snd.fst, a0.snd.snd.snd.fst, a0.snd.snd.snd.snd.fst,
                  a0.snd.snd.snd.snd.snd.fst, a0.snd.snd.snd.snd.snd.snd, ()),
                ())
          else
            Option.bind (m_impl_within a0.snd.snd.snd.fst (0 : Int) (1000000000 : Int)) fun (r : Bool × Unit) =>
              some
                (((), !r.fst, ()),
                  (a0.fst, a0.snd.fst, a0.snd.snd.fst, a0.snd.snd.snd.fst, a0.snd.snd.snd.snd.fst,
                    a0.snd.snd.snd.snd.snd.fst, a0.snd.snd.snd.snd.snd.snd, ()),
                  ()))
    fun (s : (Unit × Bool × Unit) × (List UInt8 × Int × Int × Int × List UInt8 × List UInt8 × Int × Unit) × Unit) =>
    bif s.fst.snd.fst then some (false, ())
    else
      bif s.snd.fst.snd.fst == (0 : Int) then
        Option.bind
          (bif s.snd.fst.snd.snd.snd.snd.fst == nilOf UInt8 then
            bif s.snd.fst.snd.snd.snd.snd.snd.fst == nilOf UInt8 then
              some ((s.snd.fst.snd.snd.snd.snd.snd.snd.fst == (0 : Int), ()), ())
            else some ((false, ()), ())
          else some ((false, ()), ()))
          fun (s : (Bool × Unit) × Unit) => some s.fst
      else
        bif s.snd.fst.snd.fst == (1 : Int) then
          Option.bind
            (bif decide ((↑(List.length s.snd.fst.snd.snd.snd.snd.fst) : Int) ≤ (20000 : Int)) then
              bif s.snd.fst.snd.snd.snd.snd.snd.fst == nilOf UInt8 then
                Option.bind (m_impl_within s.snd.fst.snd.snd.snd.snd.snd.snd.fst (0 : Int) (200 : Int))
                  fun (r : Bool × Unit) => some (r, ())
              else some ((false, ()), ())
            else some ((false, ()), ()))
            fun (s : (Bool × Unit) × Unit) => some s.fst
        else
          bif s.snd.fst.snd.fst == (2 : Int) then
            Option.bind
              (bif s.snd.fst.snd.snd.snd.snd.fst == nilOf UInt8 then
                bif s.snd.fst.snd.snd.fst == (0 : Int) then
                  bif s.snd.fst.snd.snd.snd.snd.snd.snd.fst == (0 : Int) then
                    Option.bind
                      (m_impl_within (↑(List.length s.snd.fst.snd.snd.snd.snd.snd.fst) : Int) (1 : Int) (60 : Int))
                      fun (r : Bool × Unit) =>
                      bif r.fst then
                        Option.bind (m_strings_Contains s.snd.fst.snd.snd.snd.snd.snd.fst) fun (r : Bool × Unit) =>
                          some ((!r.fst, ()), ())
                      else some ((false, ()), ())
                  else some ((false, ()), ())
                else some ((false, ()), ())
              else some ((false, ()), ()))
              fun (s : (Bool × Unit) × Unit) => some s.fst
          else some (false, ())
-- impl.isEntry
def m_impl_isEntry (a0 : (List UInt8 × (Int × (Int × (Int × (Int × (List UInt8 × Int))))))) : Option (Bool × Unit) :=
  Option.bind
    (Option.bind
      (m_impl_NodeOk (a0.fst, a0.snd.fst, a0.snd.snd.fst, a0.snd.snd.snd.fst, nilOf UInt8, a0.snd.snd.snd.snd.snd))
      fun (r : Bool × Unit) =>
      bif r.fst then
        Option.bind (m_impl_within a0.snd.snd.snd.snd.fst (0 : Int) (20000 : Int)) fun (r : Bool × Unit) =>
          bif r.fst then
            bif a0.snd.fst == (1 : Int) then some ((true, ()), ())
            else some ((a0.snd.snd.snd.snd.fst == (0 : Int), ()), ())
          else some ((false, ()), ())
      else some ((false, ()), ()))
    fun (s : (Bool × Unit) × Unit) => some s.fst
-- impl.EntriesOk
def m_impl_EntriesOk (a0 : List (List UInt8 × (Int × (Int × (Int × (Int × (List UInt8 × Int))))))) : Option (Bool × Unit) :=
  bif decide ((↑(List.length a0) : Int) > (200 : Int)) then some (false, ())
  else
    joinC
      (loopC (List.length a0 + List.length a0 + Int.toNat (↑(List.length a0) : Int) + Int.toNat (0 : Int) + (300 : Nat))
        (fun
            (s :
              (List (List UInt8 × Int × Int × Int × Int × List UInt8 × Int) ×
                  List (List UInt8 × Int × Int × Int × Int × List UInt8 × Int) × Int × Int × Unit) ×
                Unit)
            (k :
              (List (List UInt8 × Int × Int × Int × Int × List UInt8 × Int) ×
                    List (List UInt8 × Int × Int × Int × Int × List UInt8 × Int) × Int × Int × Unit) ×
                  Unit →
                Option (Unit × Unit ⊕ Bool × Unit)) =>
          bif decide (s.fst.snd.snd.snd.fst < s.fst.snd.snd.fst) then
            if (0 : Int) ≤ s.fst.snd.snd.snd.fst ∧ s.fst.snd.snd.snd.fst < (↑(List.length s.fst.snd.fst) : Int) then
              Option.bind
                (Option.bind
                  (m_impl_isEntry
                    (List.getD s.fst.snd.fst (Int.toNat s.fst.snd.snd.snd.fst)
                      (nilOf UInt8, Int.ofNat (nat_lit 0), Int.ofNat (nat_lit 0), Int.ofNat (nat_lit 0),
                        Int.ofNat (nat_lit 0), nilOf UInt8, Int.ofNat (nat_lit 0))))
                  fun (r : Bool × Unit) =>
                  bif !r.fst then
                    some ((s.fst.fst, s.fst.snd.fst, s.fst.snd.snd.fst, s.fst.snd.snd.snd.fst, true, ()), ())
                  else
                    bif decide (s.fst.snd.snd.snd.fst > (0 : Int)) then
                      if
                          (0 : Int) ≤ IntKind.wrap IntKind.i64 (s.fst.snd.snd.snd.fst - (1 : Int)) ∧
                            IntKind.wrap IntKind.i64 (s.fst.snd.snd.snd.fst - (1 : Int)) <
                              (↑(List.length s.fst.fst) : Int) then
                        some
                          ((s.fst.fst, s.fst.snd.fst, s.fst.snd.snd.fst, s.fst.snd.snd.snd.fst,
                              !Op.bytesLess
                                  (List.getD s.fst.fst
                                      (Int.toNat (IntKind.wrap IntKind.i64 (s.fst.snd.snd.snd.fst - (1 : Int))))
                                      (nilOf UInt8, Int.ofNat (nat_lit 0), Int.ofNat (nat_lit 0), Int.ofNat (nat_lit 0),
                                        Int.ofNat (nat_lit 0), nilOf UInt8, Int.ofNat (nat_lit 0))).fst
                                  (List.getD s.fst.snd.fst (Int.toNat s.fst.snd.snd.snd.fst)
                                      (nilOf UInt8, Int.ofNat (nat_lit 0), Int.ofNat (nat_lit 0), Int.ofNat (nat_lit 0),
                                        Int.ofNat (nat_lit 0), nilOf UInt8, Int.ofNat (nat_lit 0))).fst,
                              ()),
                            ())
                      else none
                    else some ((s.fst.fst, s.fst.snd.fst, s.fst.snd.snd.fst, s.fst.snd.snd.snd.fst, false, ()), ()))
                fun
                  (s :
                    (List (List UInt8 × Int × Int × Int × Int × List UInt8 × Int) ×
                        List (List UInt8 × Int × Int × Int × Int × List UInt8 × Int) × Int × Int × Bool × Unit) ×
                      Unit) =>
                bif s.fst.snd.snd.snd.snd.fst then some (Sum.inr (false, ()))
                else
                  k
                    ((s.fst.fst, s.fst.snd.fst, s.fst.snd.snd.fst,
                        IntKind.wrap IntKind.i64 (s.fst.snd.snd.snd.fst + (1 : Int)), ()),
                      ())
            else none
          else some (Sum.inl ((), ())))
        ((a0, a0, (↑(List.length a0) : Int), (0 : Int), ()), ()))
      fun (s : Unit × Unit) => some (true, ())
-- (*strings.Builder).copyCheck
def m_strings_Builder_copyCheck (s0 : Unit) (s1 : List Int) : Option (Unit × Unit × List Int × Unit) := some ((), s0, s1, ())
-- (*strings.Builder).WriteByte
def m_strings_Builder_WriteByte (a1 : Int) (s0 : Unit) (s1 : List Int) : Option (Unit × (Unit × List Int × Unit)) :=
  Option.bind (m_strings_Builder_copyCheck () s1) fun (r : Unit × Unit × List Int × Unit) =>
    if (List.length r.snd.snd.fst + List.length [a1]) * (1 : Nat) ≤ (140737488355328 : Nat) then
      some ((), (), r.snd.snd.fst ++ [a1], ())
    else none
-- (*strings.Builder).String
def m_strings_Builder_String (s0 : Unit) (s1 : List Int) : Option (List UInt8 × Unit × List Int × Unit) := if s1.length ≤ 140737488355328 then some (strOf s1, (), [], ()) else none
-- impl.varText
def m_impl_varText (a0 : Int) : Option (List UInt8 × Unit) :=
  Option.bind
    (loopC (Int.toNat a0 + List.length (nilOf Int) + (300 : Nat))
      (fun (s : (Int × Unit × Unit) × Unit × List Int × Unit)
          (k :
            (Int × Unit × Unit) × Unit × List Int × Unit →
              Option ((Int × Unit × Unit) × Unit × List Int × Unit)) =>
        bif decide (s.fst.fst > (127 : Int)) then
          Option.bind
            (m_strings_Builder_WriteByte
              (bitsOf BinOp.or IntKind.u8 (IntKind.wrap IntKind.u8 (bitsOf BinOp.and IntKind.i64 s.fst.fst (127 : Int)))
                (128 : Int))
              () s.snd.snd.fst)
            fun (r : Unit × Unit × List Int × Unit) =>
            if (0 : Int) ≤ (7 : Int) then
              k
                ((Int.fdiv s.fst.fst ((2 : Int) ^ min (Int.toNat (7 : Int)) (IntKind.bits IntKind.i64)), (), ()), (),
                  r.snd.snd)
            else none
        else some ((s.fst.fst, (), ()), (), s.snd.snd))
      ((a0, (), ()), (), nilOf Int, ()))
    fun (s : (Int × Unit × Unit) × Unit × List Int × Unit) =>
    Option.bind (m_strings_Builder_WriteByte (IntKind.wrap IntKind.u8 s.fst.fst) () s.snd.snd.fst)
      fun (r : Unit × Unit × List Int × Unit) =>
      Option.bind (m_strings_Builder_String () r.snd.snd.fst) fun (r : List UInt8 × Unit × List Int × Unit) =>
        some (r.fst, ())
-- (*strings.Builder).WriteString
def m_strings_Builder_WriteString (a1 : List UInt8) (s0 : Unit) (s1 : List Int) : Option ((Int × Unit × Unit) × (Unit × List Int × Unit)) :=
  Option.bind (m_strings_Builder_copyCheck () s1) fun (r : Unit × Unit × List Int × Unit) =>
    if
        (List.length r.snd.snd.fst + List.length (List.map (fun (b : UInt8) => (↑(UInt8.toNat b) : Int)) a1)) *
            (1 : Nat) ≤
          (140737488355328 : Nat) then
      some
        (((↑(List.length a1) : Int), (), ()), (),
          r.snd.snd.fst ++ List.map (fun (b : UInt8) => (↑(UInt8.toNat b) : Int)) a1, ())
    else none
-- impl.common
def m_impl_common (a0 : List UInt8) (a1 : List UInt8) : Option (Int × Unit) :=
  Option.bind
    (loopC (List.length a0 + List.length a1 + Int.toNat (0 : Int) + (300 : Nat))
      (fun (s : (List UInt8 × List UInt8 × Int × Unit) × Unit)
          (k : (List UInt8 × List UInt8 × Int × Unit) × Unit → Option ((Int × Unit) × Unit)) =>
        Option.bind
          (bif decide (s.fst.snd.snd.fst < (↑(List.length s.fst.fst) : Int)) then
            bif decide (s.fst.snd.snd.fst < (↑(List.length s.fst.snd.fst) : Int)) then
              if (0 : Int) ≤ s.fst.snd.snd.fst ∧ s.fst.snd.snd.fst < (↑(List.length s.fst.fst) : Int) then
                if (0 : Int) ≤ s.fst.snd.snd.fst ∧ s.fst.snd.snd.fst < (↑(List.length s.fst.snd.fst) : Int) then
                  some
                    ((s.fst.fst, s.fst.snd.fst, s.fst.snd.snd.fst,
                        (↑(UInt8.toNat (List.getD s.fst.fst (Int.toNat s.fst.snd.snd.fst) (0 : UInt8))) : Int) ==
                          (↑(UInt8.toNat (List.getD s.fst.snd.fst (Int.toNat s.fst.snd.snd.fst) (0 : UInt8))) : Int),
                        ()),
                      ())
                else none
              else none
            else some ((s.fst.fst, s.fst.snd.fst, s.fst.snd.snd.fst, false, ()), ())
          else some ((s.fst.fst, s.fst.snd.fst, s.fst.snd.snd.fst, false, ()), ()))
          fun (s : (List UInt8 × List UInt8 × Int × Bool × Unit) × Unit) =>
          bif s.fst.snd.snd.snd.fst then
            k ((s.fst.fst, s.fst.snd.fst, IntKind.wrap IntKind.i64 (s.fst.snd.snd.fst + (1 : Int)), ()), ())
          else some ((s.fst.snd.snd.fst, ()), ()))
      ((a0, a1, (0 : Int), ()), ()))
    fun (s : (Int × Unit) × Unit) => some s.fst
-- impl.putText
def m_impl_putText (a0 : List UInt8) : Option (List UInt8 × Unit) :=
  Option.bind (m_impl_varText (↑(List.length a0) : Int)) fun (r : List UInt8 × Unit) =>
    if List.length r.fst + List.length a0 < (2 : Nat) ^ (63 : Nat) then some (r.fst ++ a0, ()) else none
-- impl.entriesText
def m_impl_entriesText (a0 : List (List UInt8 × (Int × (Int × (Int × (Int × (List UInt8 × Int))))))) : Option (List UInt8 × Unit) :=
  Option.bind (m_impl_varText (↑(List.length a0) : Int)) fun (r : List UInt8 × Unit) =>
    Option.bind (m_strings_Builder_WriteString r.fst () (nilOf Int))
      fun (r : (Int × Unit × Unit) × Unit × List Int × Unit) =>
      Option.bind
        (loopC
          (List.length a0 + Int.toNat (↑(List.length a0) : Int) + Int.toNat (0 : Int) + List.length r.snd.snd.fst +
                          List.length (nilOf UInt8) +
                        Int.toNat (0 : Int) +
                      Int.toNat (0 : Int) +
                    Int.toNat (0 : Int) +
                  Int.toNat (0 : Int) +
                List.length (nilOf UInt8) +
              Int.toNat (0 : Int) +
            (300 : Nat))
          (fun
              (s :
                (Unit × Unit × List (List UInt8 × Int × Int × Int × Int × List UInt8 × Int) × Int × Int × Unit) ×
                  Unit × List Int × (List UInt8 × Int × Int × Int × Int × List UInt8 × Int × Unit) × Unit)
              (k :
                (Unit × Unit × List (List UInt8 × Int × Int × Int × Int × List UInt8 × Int) × Int × Int × Unit) ×
                    Unit × List Int × (List UInt8 × Int × Int × Int × Int × List UInt8 × Int × Unit) × Unit →
                  Option ((Unit × Unit) × Unit × List Int × Unit)) =>
            bif decide (s.fst.snd.snd.snd.snd.fst < s.fst.snd.snd.snd.fst) then
              if
                  (0 : Int) ≤ s.fst.snd.snd.snd.snd.fst ∧
                    s.fst.snd.snd.snd.snd.fst < (↑(List.length s.fst.snd.snd.fst) : Int) then
                Option.bind
                  (m_impl_common s.snd.snd.snd.fst.fst
                    (List.getD s.fst.snd.snd.fst (Int.toNat s.fst.snd.snd.snd.snd.fst)
                        (nilOf UInt8, Int.ofNat (nat_lit 0), Int.ofNat (nat_lit 0), Int.ofNat (nat_lit 0),
                          Int.ofNat (nat_lit 0), nilOf UInt8, Int.ofNat (nat_lit 0))).fst)
                  fun (r : Int × Unit) =>
                  Option.bind (m_impl_varText r.fst) fun (r_1 : List UInt8 × Unit) =>
                    if
                        (0 : Int) ≤ r.fst ∧
                          r.fst ≤
                              (↑(List.length
                                    (List.getD s.fst.snd.snd.fst (Int.toNat s.fst.snd.snd.snd.snd.fst)
                                        (nilOf UInt8, Int.ofNat (nat_lit 0), Int.ofNat (nat_lit 0),
                                          Int.ofNat (nat_lit 0), Int.ofNat (nat_lit 0), nilOf UInt8,
                                          Int.ofNat (nat_lit 0))).fst) :
                                Int) ∧
                            (↑(List.length
                                    (List.getD s.fst.snd.snd.fst (Int.toNat s.fst.snd.snd.snd.snd.fst)
                                        (nilOf UInt8, Int.ofNat (nat_lit 0), Int.ofNat (nat_lit 0),
                                          Int.ofNat (nat_lit 0), Int.ofNat (nat_lit 0), nilOf UInt8,
                                          Int.ofNat (nat_lit 0))).fst) :
                                Int) ≤
                              (↑(List.length
                                    (List.getD s.fst.snd.snd.fst (Int.toNat s.fst.snd.snd.snd.snd.fst)
                                        (nilOf UInt8, Int.ofNat (nat_lit 0), Int.ofNat (nat_lit 0),
                                          Int.ofNat (nat_lit 0), Int.ofNat (nat_lit 0), nilOf UInt8,
                                          Int.ofNat (nat_lit 0))).fst) :
                                Int) then
                      Option.bind
                        (m_impl_putText
                          (List.drop (Int.toNat r.fst)
                            (List.take
                              (Int.toNat
                                (↑(List.length
                                      (List.getD s.fst.snd.snd.fst (Int.toNat s.fst.snd.snd.snd.snd.fst)
                                          (nilOf UInt8, Int.ofNat (nat_lit 0), Int.ofNat (nat_lit 0),
                                            Int.ofNat (nat_lit 0), Int.ofNat (nat_lit 0), nilOf UInt8,
                                            Int.ofNat (nat_lit 0))).fst) :
                                  Int))
                              (List.getD s.fst.snd.snd.fst (Int.toNat s.fst.snd.snd.snd.snd.fst)
                                  (nilOf UInt8, Int.ofNat (nat_lit 0), Int.ofNat (nat_lit 0), Int.ofNat (nat_lit 0),
                                    Int.ofNat (nat_lit 0), nilOf UInt8, Int.ofNat (nat_lit 0))).fst)))
                        fun (r : List UInt8 × Unit) =>
                        if List.length r_1.fst + List.length r.fst < (2 : Nat) ^ (63 : Nat) then
                          Option.bind (m_strings_Builder_WriteString (r_1.fst ++ r.fst) () s.snd.snd.fst)
                            fun (r : (Int × Unit × Unit) × Unit × List Int × Unit) =>
                            Option.bind
                              (bif decide (s.fst.snd.snd.snd.snd.fst > (0 : Int)) then
                                bif
                                    (List.getD s.fst.snd.snd.fst (Int.toNat s.fst.snd.snd.snd.snd.fst)
                                              (nilOf UInt8, Int.ofNat (nat_lit 0), Int.ofNat (nat_lit 0),
                                                Int.ofNat (nat_lit 0), Int.ofNat (nat_lit 0), nilOf UInt8,
                                                Int.ofNat (nat_lit 0))).snd.snd.fst ==
                                      s.snd.snd.snd.fst.snd.snd.fst then
                                  some
                                    (((), (), (), s.fst.snd.snd.fst, s.fst.snd.snd.snd.fst, s.fst.snd.snd.snd.snd.fst,
                                        (List.getD s.fst.snd.snd.fst (Int.toNat s.fst.snd.snd.snd.snd.fst)
                                                    (nilOf UInt8, Int.ofNat (nat_lit 0), Int.ofNat (nat_lit 0),
                                                      Int.ofNat (nat_lit 0), Int.ofNat (nat_lit 0), nilOf UInt8,
                                                      Int.ofNat (nat_lit 0))).snd.snd.snd.fst ==
                                          s.snd.snd.snd.fst.snd.snd.snd.fst,
                                        ()),
                                      (), r.snd.snd.fst, s.snd.snd.snd.fst,
                                      ((List.getD s.fst.snd.snd.fst (Int.toNat s.fst.snd.snd.snd.snd.fst)
                                            (nilOf UInt8, Int.ofNat (nat_lit 0), Int.ofNat (nat_lit 0),
                                              Int.ofNat (nat_lit 0), Int.ofNat (nat_lit 0), nilOf UInt8,
                                              Int.ofNat (nat_lit 0))).fst,
                                        (List.getD s.fst.snd.snd.fst (Int.toNat s.fst.snd.snd.snd.snd.fst)
                                              (nilOf UInt8, Int.ofNat (nat_lit 0), Int.ofNat (nat_lit 0),
                                                Int.ofNat (nat_lit 0), Int.ofNat (nat_lit 0), nilOf UInt8,
                                                Int.ofNat (nat_lit 0))).snd.fst,
                                        (List.getD s.fst.snd.snd.fst (Int.toNat s.fst.snd.snd.snd.snd.fst)
                                                (nilOf UInt8, Int.ofNat (nat_lit 0), Int.ofNat (nat_lit 0),
                                                  Int.ofNat (nat_lit 0), Int.ofNat (nat_lit 0), nilOf UInt8,
                                                  Int.ofNat (nat_lit 0))).snd.snd.fst,
                                        (List.getD s.fst.snd.snd.fst (Int.toNat s.fst.snd.snd.snd.snd.fst)
                                                  (nilOf UInt8, Int.ofNat (nat_lit 0), Int.ofNat (nat_lit 0),
                                                    Int.ofNat (nat_lit 0), Int.ofNat (nat_lit 0), nilOf UInt8,
                                                    Int.ofNat (nat_lit 0))).snd.snd.snd.fst,
                                        (List.getD s.fst.snd.snd.fst (Int.toNat s.fst.snd.snd.snd.snd.fst)
                                                    (nilOf UInt8, Int.ofNat (nat_lit 0), Int.ofNat (nat_lit 0),
                                                      Int.ofNat (nat_lit 0), Int.ofNat (nat_lit 0), nilOf UInt8,
                                                      Int.ofNat (nat_lit 0))).snd.snd.snd.snd.fst,
                                        (List.getD s.fst.snd.snd.fst (Int.toNat s.fst.snd.snd.snd.snd.fst)
                                                      (nilOf UInt8, Int.ofNat (nat_lit 0), Int.ofNat (nat_lit 0),
                                                        Int.ofNat (nat_lit 0), Int.ofNat (nat_lit 0), nilOf UInt8,
                                                        Int.ofNat (nat_lit 0))).snd.snd.snd.snd.snd.fst,
                                        (List.getD s.fst.snd.snd.fst (Int.toNat s.fst.snd.snd.snd.snd.fst)
                                                      (nilOf UInt8, Int.ofNat (nat_lit 0), Int.ofNat (nat_lit 0),
                                                        Int.ofNat (nat_lit 0), Int.ofNat (nat_lit 0), nilOf UInt8,
                                                        Int.ofNat (nat_lit 0))).snd.snd.snd.snd.snd.snd,
                                        ()),
                                      ())
                                else
                                  some
                                    (((), (), (), s.fst.snd.snd.fst, s.fst.snd.snd.snd.fst, s.fst.snd.snd.snd.snd.fst,
                                        false, ()),
                                      (), r.snd.snd.fst, s.snd.snd.snd.fst,
                                      ((List.getD s.fst.snd.snd.fst (Int.toNat s.fst.snd.snd.snd.snd.fst)
                                            (nilOf UInt8, Int.ofNat (nat_lit 0), Int.ofNat (nat_lit 0),
                                              Int.ofNat (nat_lit 0), Int.ofNat (nat_lit 0), nilOf UInt8,
                                              Int.ofNat (nat_lit 0))).fst,
                                        (List.getD s.fst.snd.snd.fst (Int.toNat s.fst.snd.snd.snd.snd.fst)
                                              (nilOf UInt8, Int.ofNat (nat_lit 0), Int.ofNat (nat_lit 0),
                                                Int.ofNat (nat_lit 0), Int.ofNat (nat_lit 0), nilOf UInt8,
                                                Int.ofNat (nat_lit 0))).snd.fst,
                                        (List.getD s.fst.snd.snd.fst (Int.toNat s.fst.snd.snd.snd.snd.fst)
                                                (nilOf UInt8, Int.ofNat (nat_lit 0), Int.ofNat (nat_lit 0),
                                                  Int.ofNat (nat_lit 0), Int.ofNat (nat_lit 0), nilOf UInt8,
                                                  Int.ofNat (nat_lit 0))).snd.snd.fst,
                                        (List.getD s.fst.snd.snd.fst (Int.toNat s.fst.snd.snd.snd.snd.fst)
                                                  (nilOf UInt8, Int.ofNat (nat_lit 0), Int.ofNat (nat_lit 0),
                                                    Int.ofNat (nat_lit 0), Int.ofNat (nat_lit 0), nilOf UInt8,
                                                    Int.ofNat (nat_lit 0))).snd.snd.snd.fst,
                                        (List.getD s.fst.snd.snd.fst (Int.toNat s.fst.snd.snd.snd.snd.fst)
                                                    (nilOf UInt8, Int.ofNat (nat_lit 0), Int.ofNat (nat_lit 0),
                                                      Int.ofNat (nat_lit 0), Int.ofNat (nat_lit 0), nilOf UInt8,
                                                      Int.ofNat (nat_lit 0))).snd.snd.snd.snd.fst,
                                        (List.getD s.fst.snd.snd.fst (Int.toNat s.fst.snd.snd.snd.snd.fst)
                                                      (nilOf UInt8, Int.ofNat (nat_lit 0), Int.ofNat (nat_lit 0),
                                                        Int.ofNat (nat_lit 0), Int.ofNat (nat_lit 0), nilOf UInt8,
                                                        Int.ofNat (nat_lit 0))).snd.snd.snd.snd.snd.fst,
                                        (List.getD s.fst.snd.snd.fst (Int.toNat s.fst.snd.snd.snd.snd.fst)
                                                      (nilOf UInt8, Int.ofNat (nat_lit 0), Int.ofNat (nat_lit 0),
                                                        Int.ofNat (nat_lit 0), Int.ofNat (nat_lit 0), nilOf UInt8,
                                                        Int.ofNat (nat_lit 0))).snd.snd.snd.snd.snd.snd,
                                        ()),
                                      ())
                              else
                                some
                                  (((), (), (), s.fst.snd.snd.fst, s.fst.snd.snd.snd.fst, s.fst.snd.snd.snd.snd.fst,
                                      false, ()),
                                    (), r.snd.snd.fst, s.snd.snd.snd.fst,
                                    ((List.getD s.fst.snd.snd.fst (Int.toNat s.fst.snd.snd.snd.snd.fst)
                                          (nilOf UInt8, Int.ofNat (nat_lit 0), Int.ofNat (nat_lit 0),
                                            Int.ofNat (nat_lit 0), Int.ofNat (nat_lit 0), nilOf UInt8,
                                            Int.ofNat (nat_lit 0))).fst,
                                      (List.getD s.fst.snd.snd.fst (Int.toNat s.fst.snd.snd.snd.snd.fst)
                                            (nilOf UInt8, Int.ofNat (nat_lit 0), Int.ofNat (nat_lit 0),
                                              Int.ofNat (nat_lit 0), Int.ofNat (nat_lit 0), nilOf UInt8,
                                              Int.ofNat (nat_lit 0))).snd.fst,
                                      (List.getD s.fst.snd.snd.fst (Int.toNat s.fst.snd.snd.snd.snd.fst)
                                              (nilOf UInt8, Int.ofNat (nat_lit 0), Int.ofNat (nat_lit 0),
                                                Int.ofNat (nat_lit 0), Int.ofNat (nat_lit 0), nilOf UInt8,
                                                Int.ofNat (nat_lit 0))).snd.snd.fst,
                                      (List.getD s.fst.snd.snd.fst (Int.toNat s.fst.snd.snd.snd.snd.fst)
                                                (nilOf UInt8, Int.ofNat (nat_lit 0), Int.ofNat (nat_lit 0),
                                                  Int.ofNat (nat_lit 0), Int.ofNat (nat_lit 0), nilOf UInt8,
                                                  Int.ofNat (nat_lit 0))).snd.snd.snd.fst,
                                      (List.getD s.fst.snd.snd.fst (Int.toNat s.fst.snd.snd.snd.snd.fst)
                                                  (nilOf UInt8, Int.ofNat (nat_lit 0), Int.ofNat (nat_lit 0),
                                                    Int.ofNat (nat_lit 0), Int.ofNat (nat_lit 0), nilOf UInt8,
                                                    Int.ofNat (nat_lit 0))).snd.snd.snd.snd.fst,
                                      (List.getD s.fst.snd.snd.fst (Int.toNat s.fst.snd.snd.snd.snd.fst)
                                                    (nilOf UInt8, Int.ofNat (nat_lit 0), Int.ofNat (nat_lit 0),
                                                      Int.ofNat (nat_lit 0), Int.ofNat (nat_lit 0), nilOf UInt8,
                                                      Int.ofNat (nat_lit 0))).snd.snd.snd.snd.snd.fst,
                                      (List.getD s.fst.snd.snd.fst (Int.toNat s.fst.snd.snd.snd.snd.fst)
                                                    (nilOf UInt8, Int.ofNat (nat_lit 0), Int.ofNat (nat_lit 0),
                                                      Int.ofNat (nat_lit 0), Int.ofNat (nat_lit 0), nilOf UInt8,
                                                      Int.ofNat (nat_lit 0))).snd.snd.snd.snd.snd.snd,
                                      ()),
                                    ()))
                              fun
                                (s :
                                  (Unit ×
                                      Unit ×
                                        Unit ×
                                          List (List UInt8 × Int × Int × Int × Int × List UInt8 × Int) ×
                                            Int × Int × Bool × Unit) ×
                                    Unit ×
                                      List Int ×
                                        (List UInt8 × Int × Int × Int × Int × List UInt8 × Int × Unit) ×
                                          (List UInt8 × Int × Int × Int × Int × List UInt8 × Int × Unit) × Unit) =>
                              Option.bind
                                (bif s.fst.snd.snd.snd.snd.snd.snd.fst then
                                  Option.bind
                                    (m_impl_varText
                                      (IntKind.wrap IntKind.i64 (s.snd.snd.snd.snd.fst.snd.fst + (4 : Int))))
                                    fun (r : List UInt8 × Unit) =>
                                    Option.bind (m_strings_Builder_WriteString r.fst () s.snd.snd.fst)
                                      fun (r : (Int × Unit × Unit) × Unit × List Int × Unit) =>
                                      some
                                        (((), (), (), s.fst.snd.snd.snd.fst, s.fst.snd.snd.snd.snd.fst,
                                            s.fst.snd.snd.snd.snd.snd.fst, ()),
                                          (), r.snd.snd.fst, s.snd.snd.snd)
                                else
                                  Option.bind (m_impl_varText s.snd.snd.snd.snd.fst.snd.fst)
                                    fun (r : List UInt8 × Unit) =>
                                    Option.bind (m_impl_varText s.snd.snd.snd.snd.fst.snd.snd.fst)
                                      fun (r_2 : List UInt8 × Unit) =>
                                      if List.length r.fst + List.length r_2.fst < (2 : Nat) ^ (63 : Nat) then
                                        Option.bind (m_impl_varText s.snd.snd.snd.snd.fst.snd.snd.snd.fst)
                                          fun (r_3 : List UInt8 × Unit) =>
                                          if
                                              List.length (r.fst ++ r_2.fst) + List.length r_3.fst <
                                                (2 : Nat) ^ (63 : Nat) then
                                            Option.bind
                                              (m_strings_Builder_WriteString (r.fst ++ r_2.fst ++ r_3.fst) ()
                                                s.snd.snd.fst)
                                              fun (r : (Int × Unit × Unit) × Unit × List Int × Unit) =>
                                              some
                                                (((), (), (), s.fst.snd.snd.snd.fst, s.fst.snd.snd.snd.snd.fst,
                                                    s.fst.snd.snd.snd.snd.snd.fst, ()),
                                                  (), r.snd.snd.fst, s.snd.snd.snd)
                                          else none
                                      else none)
                                fun
                                  (s :
                                    (Unit ×
                                        Unit ×
                                          Unit ×
                                            List (List UInt8 × Int × Int × Int × Int × List UInt8 × Int) ×
                                              Int × Int × Unit) ×
                                      Unit ×
                                        List Int ×
                                          (List UInt8 × Int × Int × Int × Int × List UInt8 × Int × Unit) ×
                                            (List UInt8 × Int × Int × Int × Int × List UInt8 × Int × Unit) × Unit) =>
                                Option.bind
                                  (bif s.snd.snd.snd.snd.fst.snd.fst == (1 : Int) then
                                    Option.bind (m_impl_varText s.snd.snd.snd.snd.fst.snd.snd.snd.snd.fst)
                                      fun (r : List UInt8 × Unit) =>
                                      Option.bind (m_impl_varText s.snd.snd.snd.snd.fst.snd.snd.snd.snd.snd.snd.fst)
                                        fun (r_2 : List UInt8 × Unit) =>
                                        if List.length r.fst + List.length r_2.fst < (2 : Nat) ^ (63 : Nat) then
                                          Option.bind
                                            (m_strings_Builder_WriteString (r.fst ++ r_2.fst) () s.snd.snd.fst)
                                            fun (r : (Int × Unit × Unit) × Unit × List Int × Unit) =>
                                            some (((), (), (), s.fst.snd.snd.snd), (), r.snd.snd.fst, s.snd.snd.snd)
                                        else none
                                  else
                                    Option.bind
                                      (bif s.snd.snd.snd.snd.fst.snd.fst == (2 : Int) then
                                        Option.bind (m_impl_putText s.snd.snd.snd.snd.fst.snd.snd.snd.snd.snd.fst)
                                          fun (r : List UInt8 × Unit) =>
                                          Option.bind (m_strings_Builder_WriteString r.fst () s.snd.snd.fst)
                                            fun (r : (Int × Unit × Unit) × Unit × List Int × Unit) =>
                                            some (((), (), (), s.fst.snd.snd.snd), (), r.snd.snd.fst, s.snd.snd.snd)
                                      else some (((), (), (), s.fst.snd.snd.snd), (), s.snd.snd))
                                      fun
                                        (s :
                                          (Unit ×
                                              Unit ×
                                                Unit ×
                                                  List (List UInt8 × Int × Int × Int × Int × List UInt8 × Int) ×
                                                    Int × Int × Unit) ×
                                            Unit ×
                                              List Int ×
                                                (List UInt8 × Int × Int × Int × Int × List UInt8 × Int × Unit) ×
                                                  (List UInt8 × Int × Int × Int × Int × List UInt8 × Int × Unit) ×
                                                    Unit) =>
                                      some (((), (), (), s.fst.snd.snd.snd), (), s.snd.snd))
                                  fun
                                    (s :
                                      (Unit ×
                                          Unit ×
                                            Unit ×
                                              List (List UInt8 × Int × Int × Int × Int × List UInt8 × Int) ×
                                                Int × Int × Unit) ×
                                        Unit ×
                                          List Int ×
                                            (List UInt8 × Int × Int × Int × Int × List UInt8 × Int × Unit) ×
                                              (List UInt8 × Int × Int × Int × Int × List UInt8 × Int × Unit) ×
                                                Unit) =>
                                  k
                                    (((), (), s.fst.snd.snd.snd.fst, s.fst.snd.snd.snd.snd.fst,
                                        IntKind.wrap IntKind.i64 (s.fst.snd.snd.snd.snd.snd.fst + (1 : Int)), ()),
                                      (), s.snd.snd.fst, s.snd.snd.snd.snd)
                        else none
                    else none
              else none
            else some (((), ()), (), s.snd.snd.fst, ()))
          (((), (), a0, (↑(List.length a0) : Int), (0 : Int), ()), (), r.snd.snd.fst,
            (nilOf UInt8, (0 : Int), (0 : Int), (0 : Int), (0 : Int), nilOf UInt8, (0 : Int), ()), ()))
        fun (s : (Unit × Unit) × Unit × List Int × Unit) =>
        Option.bind (m_strings_Builder_String () s.snd.snd.fst) fun (r : List UInt8 × Unit × List Int × Unit) =>
          some (r.fst, ())
-- impl.PutEntries
def m_impl_PutEntries (a0 : List (List UInt8 × (Int × (Int × (Int × (Int × (List UInt8 × Int))))))) : Option (Unit × (List (Int) × Unit)) :=
  Option.bind (m_impl_EntriesOk a0) fun (r : Bool × Unit) =>
    bif !r.fst then some ((), nilOf Int, ())
    else
      Option.bind (m_impl_entriesText a0) fun (r : List UInt8 × Unit) =>
        some ((), List.map (fun (b : UInt8) => (↑(UInt8.toNat b) : Int)) r.fst, ())
-- laws.eqByteS
def m_laws_eqByteS (a0 : List Int) (a1 : List Int) : Option (Bool × Unit) :=
  bif (↑(List.length a0) : Int) != (↑(List.length a1) : Int) then some (false, ())
  else
    joinC
      (loopC (List.length a0 + List.length a1 + Int.toNat (0 : Int) + (300 : Nat))
        (fun (s : (List Int × List Int × Int × Unit) × Unit)
            (k : (List Int × List Int × Int × Unit) × Unit → Option (Unit × Unit ⊕ Bool × Unit)) =>
          bif decide (s.fst.snd.snd.fst < (↑(List.length s.fst.fst) : Int)) then
            if (0 : Int) ≤ s.fst.snd.snd.fst ∧ s.fst.snd.snd.fst < (↑(List.length s.fst.fst) : Int) then
              if (0 : Int) ≤ s.fst.snd.snd.fst ∧ s.fst.snd.snd.fst < (↑(List.length s.fst.snd.fst) : Int) then
                bif
                    List.getD s.fst.fst (Int.toNat s.fst.snd.snd.fst) (Int.ofNat (nat_lit 0)) !=
                      List.getD s.fst.snd.fst (Int.toNat s.fst.snd.snd.fst) (Int.ofNat (nat_lit 0)) then
                  some (Sum.inr (false, ()))
                else k ((s.fst.fst, s.fst.snd.fst, IntKind.wrap IntKind.i64 (s.fst.snd.snd.fst + (1 : Int)), ()), ())
              else none
            else none
          else some (Sum.inl ((), ())))
        ((a0, a1, (0 : Int), ()), ()))
      fun (s : Unit × Unit) => some (true, ())
-- laws.eqEntry
def m_laws_eqEntry (a0 : (List UInt8 × (Int × (Int × (Int × (Int × (List UInt8 × Int))))))) (a1 : (List UInt8 × (Int × (Int × (Int × (Int × (List UInt8 × Int))))))) : Option (Bool × Unit) :=
  bif !a0.fst == a1.fst then some (false, ())
  else
    bif a0.snd.fst != a1.snd.fst then some (false, ())
    else
      bif a0.snd.snd.fst != a1.snd.snd.fst then some (false, ())
      else
        bif a0.snd.snd.snd.fst != a1.snd.snd.snd.fst then some (false, ())
        else
          bif a0.snd.snd.snd.snd.fst != a1.snd.snd.snd.snd.fst then some (false, ())
          else
            bif !a0.snd.snd.snd.snd.snd.fst == a1.snd.snd.snd.snd.snd.fst then some (false, ())
            else bif a0.snd.snd.snd.snd.snd.snd != a1.snd.snd.snd.snd.snd.snd then some (false, ()) else some (true, ())
-- laws.eqEntryS
def m_laws_eqEntryS (a0 : List (List UInt8 × (Int × (Int × (Int × (Int × (List UInt8 × Int))))))) (a1 : List (List UInt8 × (Int × (Int × (Int × (Int × (List UInt8 × Int))))))) : Option (Bool × Unit) :=
  bif (↑(List.length a0) : Int) != (↑(List.length a1) : Int) then some (false, ())
  else
    joinC
      (loopC (List.length a0 + List.length a1 + Int.toNat (0 : Int) + (300 : Nat))
        (fun
            (s :
              (List (List UInt8 × Int × Int × Int × Int × List UInt8 × Int) ×
                  List (List UInt8 × Int × Int × Int × Int × List UInt8 × Int) × Int × Unit) ×
                Unit)
            (k :
              (List (List UInt8 × Int × Int × Int × Int × List UInt8 × Int) ×
                    List (List UInt8 × Int × Int × Int × Int × List UInt8 × Int) × Int × Unit) ×
                  Unit →
                Option (Unit × Unit ⊕ Bool × Unit)) =>
          bif decide (s.fst.snd.snd.fst < (↑(List.length s.fst.fst) : Int)) then
            if (0 : Int) ≤ s.fst.snd.snd.fst ∧ s.fst.snd.snd.fst < (↑(List.length s.fst.fst) : Int) then
              if (0 : Int) ≤ s.fst.snd.snd.fst ∧ s.fst.snd.snd.fst < (↑(List.length s.fst.snd.fst) : Int) then
                Option.bind
                  (m_laws_eqEntry
                    (List.getD s.fst.fst (Int.toNat s.fst.snd.snd.fst)
                      (nilOf UInt8, Int.ofNat (nat_lit 0), Int.ofNat (nat_lit 0), Int.ofNat (nat_lit 0),
                        Int.ofNat (nat_lit 0), nilOf UInt8, Int.ofNat (nat_lit 0)))
                    (List.getD s.fst.snd.fst (Int.toNat s.fst.snd.snd.fst)
                      (nilOf UInt8, Int.ofNat (nat_lit 0), Int.ofNat (nat_lit 0), Int.ofNat (nat_lit 0),
                        Int.ofNat (nat_lit 0), nilOf UInt8, Int.ofNat (nat_lit 0))))
                  fun (r : Bool × Unit) =>
                  bif !r.fst then some (Sum.inr (false, ()))
                  else k ((s.fst.fst, s.fst.snd.fst, IntKind.wrap IntKind.i64 (s.fst.snd.snd.fst + (1 : Int)), ()), ())
              else none
            else none
          else some (Sum.inl ((), ())))
        ((a0, a1, (0 : Int), ()), ()))
      fun (s : Unit × Unit) => some (true, ())
-- laws.markText
def m_laws_markText (a0 : Int) : Option (List UInt8 × Unit) :=
  bif decide (a0 ≤ (0 : Int)) then some ([(109 : UInt8), (48 : UInt8)], ())
  else
    Option.bind
      (loopC (Int.toNat a0 + List.length (nilOf UInt8) + (300 : Nat))
        (fun (s : (Int × List UInt8 × Unit) × Unit)
            (k : (Int × List UInt8 × Unit) × Unit → Option ((List UInt8 × Unit) × Unit)) =>
          bif decide (s.fst.fst > (0 : Int)) then
            if (10 : Int) ≠ (0 : Int) then
              if
                  List.length
                        (List.map (fun (n : Int) => UInt8.ofNat (Int.toNat n))
                          [IntKind.wrap IntKind.u8
                              (IntKind.wrap IntKind.i64 ((48 : Int) + Int.tmod s.fst.fst (10 : Int)))]) +
                      List.length s.fst.snd.fst <
                    (2 : Nat) ^ (63 : Nat) then
                if (10 : Int) ≠ (0 : Int) then
                  k
                    ((IntKind.wrap IntKind.i64 (Int.tdiv s.fst.fst (10 : Int)),
                        List.map (fun (n : Int) => UInt8.ofNat (Int.toNat n))
                            [IntKind.wrap IntKind.u8
                                (IntKind.wrap IntKind.i64 ((48 : Int) + Int.tmod s.fst.fst (10 : Int)))] ++
                          s.fst.snd.fst,
                        ()),
                      ())
                else none
              else none
            else none
          else some (s.fst.snd, ()))
        ((a0, nilOf UInt8, ()), ()))
      fun (s : (List UInt8 × Unit) × Unit) =>
      if List.length [(109 : UInt8)] + List.length s.fst.fst < (2 : Nat) ^ (63 : Nat) then
        some ([(109 : UInt8)] ++ s.fst.fst, ())
      else none
-- laws.markEntryS
def m_laws_markEntryS (a1 : Int) (s0 : List ((List UInt8 × (Int × (Int × (Int × (Int × (List UInt8 × Int)))))))) : Option (Int × (List ((List UInt8 × (Int × (Int × (Int × (Int × (List UInt8 × Int))))))) × Unit)) :=
  Option.bind
    (loopC (Int.toNat a1 + Int.toNat (0 : Int) + List.length s0 + (300 : Nat))
      (fun (s : (Unit × Int × Int × Unit) × List (List UInt8 × Int × Int × Int × Int × List UInt8 × Int) × Unit)
          (k :
            (Unit × Int × Int × Unit) × List (List UInt8 × Int × Int × Int × Int × List UInt8 × Int) × Unit →
              Option ((Int × Unit) × List (List UInt8 × Int × Int × Int × Int × List UInt8 × Int) × Unit)) =>
        bif decide (s.fst.snd.snd.fst < (↑(List.length s.snd.fst) : Int)) then
          Option.bind
            (Option.bind (m_laws_markText s.fst.snd.fst) fun (r : List UInt8 × Unit) =>
              if (0 : Int) ≤ s.fst.snd.snd.fst ∧ s.fst.snd.snd.fst < (↑(List.length s.snd.fst) : Int) then
                if Int.toNat s.fst.snd.snd.fst < List.length s.snd.fst then
                  some
                    (((), s.fst.snd),
                      List.set s.snd.fst (Int.toNat s.fst.snd.snd.fst)
                        (r.fst,
                          (List.getD s.snd.fst (Int.toNat s.fst.snd.snd.fst)
                              (nilOf UInt8, Int.ofNat (nat_lit 0), Int.ofNat (nat_lit 0), Int.ofNat (nat_lit 0),
                                Int.ofNat (nat_lit 0), nilOf UInt8, Int.ofNat (nat_lit 0))).snd),
                      ())
                else none
              else none)
            fun
              (s :
                (Unit × Int × Int × Unit) × List (List UInt8 × Int × Int × Int × Int × List UInt8 × Int) × Unit) =>
            Option.bind
              (if (0 : Int) ≤ s.fst.snd.snd.fst ∧ s.fst.snd.snd.fst < (↑(List.length s.snd.fst) : Int) then
                if Int.toNat s.fst.snd.snd.fst < List.length s.snd.fst then
                  some
                    (((), IntKind.wrap IntKind.i64 (s.fst.snd.fst + (1 : Int)), s.fst.snd.snd),
                      List.set s.snd.fst (Int.toNat s.fst.snd.snd.fst)
                        ((List.getD s.snd.fst (Int.toNat s.fst.snd.snd.fst)
                              (nilOf UInt8, Int.ofNat (nat_lit 0), Int.ofNat (nat_lit 0), Int.ofNat (nat_lit 0),
                                Int.ofNat (nat_lit 0), nilOf UInt8, Int.ofNat (nat_lit 0))).fst,
                          IntKind.wrap IntKind.i64 (s.fst.snd.fst + (1 : Int)),
                          (List.getD s.snd.fst (Int.toNat s.fst.snd.snd.fst)
                                (nilOf UInt8, Int.ofNat (nat_lit 0), Int.ofNat (nat_lit 0), Int.ofNat (nat_lit 0),
                                  Int.ofNat (nat_lit 0), nilOf UInt8, Int.ofNat (nat_lit 0))).snd.snd),
                      ())
                else none
              else none)
              fun
                (s :
                  (Unit × Int × Int × Unit) × List (List UInt8 × Int × Int × Int × Int × List UInt8 × Int) × Unit) =>
              Option.bind
                (if (0 : Int) ≤ s.fst.snd.snd.fst ∧ s.fst.snd.snd.fst < (↑(List.length s.snd.fst) : Int) then
                  if Int.toNat s.fst.snd.snd.fst < List.length s.snd.fst then
                    some
                      (((), IntKind.wrap IntKind.i64 (s.fst.snd.fst + (1 : Int)), s.fst.snd.snd),
                        List.set s.snd.fst (Int.toNat s.fst.snd.snd.fst)
                          ((List.getD s.snd.fst (Int.toNat s.fst.snd.snd.fst)
                                (nilOf UInt8, Int.ofNat (nat_lit 0), Int.ofNat (nat_lit 0), Int.ofNat (nat_lit 0),
                                  Int.ofNat (nat_lit 0), nilOf UInt8, Int.ofNat (nat_lit 0))).fst,
                            (List.getD s.snd.fst (Int.toNat s.fst.snd.snd.fst)
                                  (nilOf UInt8, Int.ofNat (nat_lit 0), Int.ofNat (nat_lit 0), Int.ofNat (nat_lit 0),
                                    Int.ofNat (nat_lit 0), nilOf UInt8, Int.ofNat (nat_lit 0))).snd.fst,
                            IntKind.wrap IntKind.i64 (s.fst.snd.fst + (1 : Int)),
                            (List.getD s.snd.fst (Int.toNat s.fst.snd.snd.fst)
                                    (nilOf UInt8, Int.ofNat (nat_lit 0), Int.ofNat (nat_lit 0), Int.ofNat (nat_lit 0),
                                      Int.ofNat (nat_lit 0), nilOf UInt8, Int.ofNat (nat_lit 0))).snd.snd.snd),
                        ())
                  else none
                else none)
                fun
                  (s :
                    (Unit × Int × Int × Unit) ×
                      List (List UInt8 × Int × Int × Int × Int × List UInt8 × Int) × Unit) =>
                Option.bind
                  (if (0 : Int) ≤ s.fst.snd.snd.fst ∧ s.fst.snd.snd.fst < (↑(List.length s.snd.fst) : Int) then
                    if Int.toNat s.fst.snd.snd.fst < List.length s.snd.fst then
                      some
                        (((), IntKind.wrap IntKind.i64 (s.fst.snd.fst + (1 : Int)), s.fst.snd.snd),
                          List.set s.snd.fst (Int.toNat s.fst.snd.snd.fst)
                            ((List.getD s.snd.fst (Int.toNat s.fst.snd.snd.fst)
                                  (nilOf UInt8, Int.ofNat (nat_lit 0), Int.ofNat (nat_lit 0), Int.ofNat (nat_lit 0),
                                    Int.ofNat (nat_lit 0), nilOf UInt8, Int.ofNat (nat_lit 0))).fst,
                              (List.getD s.snd.fst (Int.toNat s.fst.snd.snd.fst)
                                    (nilOf UInt8, Int.ofNat (nat_lit 0), Int.ofNat (nat_lit 0), Int.ofNat (nat_lit 0),
                                      Int.ofNat (nat_lit 0), nilOf UInt8, Int.ofNat (nat_lit 0))).snd.fst,
                              (List.getD s.snd.fst (Int.toNat s.fst.snd.snd.fst)
                                      (nilOf UInt8, Int.ofNat (nat_lit 0), Int.ofNat (nat_lit 0), Int.ofNat (nat_lit 0),
                                        Int.ofNat (nat_lit 0), nilOf UInt8, Int.ofNat (nat_lit 0))).snd.snd.fst,
                              IntKind.wrap IntKind.i64 (s.fst.snd.fst + (1 : Int)),
                              (List.getD s.snd.fst (Int.toNat s.fst.snd.snd.fst)
                                        (nilOf UInt8, Int.ofNat (nat_lit 0), Int.ofNat (nat_lit 0),
                                          Int.ofNat (nat_lit 0), Int.ofNat (nat_lit 0), nilOf UInt8,
                                          Int.ofNat (nat_lit 0))).snd.snd.snd.snd),
                          ())
                    else none
                  else none)
                  fun
                    (s :
                      (Unit × Int × Int × Unit) ×
                        List (List UInt8 × Int × Int × Int × Int × List UInt8 × Int) × Unit) =>
                  Option.bind
                    (if (0 : Int) ≤ s.fst.snd.snd.fst ∧ s.fst.snd.snd.fst < (↑(List.length s.snd.fst) : Int) then
                      if Int.toNat s.fst.snd.snd.fst < List.length s.snd.fst then
                        some
                          (((), IntKind.wrap IntKind.i64 (s.fst.snd.fst + (1 : Int)), s.fst.snd.snd),
                            List.set s.snd.fst (Int.toNat s.fst.snd.snd.fst)
                              ((List.getD s.snd.fst (Int.toNat s.fst.snd.snd.fst)
                                    (nilOf UInt8, Int.ofNat (nat_lit 0), Int.ofNat (nat_lit 0), Int.ofNat (nat_lit 0),
                                      Int.ofNat (nat_lit 0), nilOf UInt8, Int.ofNat (nat_lit 0))).fst,
                                (List.getD s.snd.fst (Int.toNat s.fst.snd.snd.fst)
                                      (nilOf UInt8, Int.ofNat (nat_lit 0), Int.ofNat (nat_lit 0), Int.ofNat (nat_lit 0),
                                        Int.ofNat (nat_lit 0), nilOf UInt8, Int.ofNat (nat_lit 0))).snd.fst,
                                (List.getD s.snd.fst (Int.toNat s.fst.snd.snd.fst)
                                        (nilOf UInt8, Int.ofNat (nat_lit 0), Int.ofNat (nat_lit 0),
                                          Int.ofNat (nat_lit 0), Int.ofNat (nat_lit 0), nilOf UInt8,
                                          Int.ofNat (nat_lit 0))).snd.snd.fst,
                                (List.getD s.snd.fst (Int.toNat s.fst.snd.snd.fst)
                                          (nilOf UInt8, Int.ofNat (nat_lit 0), Int.ofNat (nat_lit 0),
                                            Int.ofNat (nat_lit 0), Int.ofNat (nat_lit 0), nilOf UInt8,
                                            Int.ofNat (nat_lit 0))).snd.snd.snd.fst,
                                IntKind.wrap IntKind.i64 (s.fst.snd.fst + (1 : Int)),
                                (List.getD s.snd.fst (Int.toNat s.fst.snd.snd.fst)
                                            (nilOf UInt8, Int.ofNat (nat_lit 0), Int.ofNat (nat_lit 0),
                                              Int.ofNat (nat_lit 0), Int.ofNat (nat_lit 0), nilOf UInt8,
                                              Int.ofNat (nat_lit 0))).snd.snd.snd.snd.snd),
                            ())
                      else none
                    else none)
                    fun
                      (s :
                        (Unit × Int × Int × Unit) ×
                          List (List UInt8 × Int × Int × Int × Int × List UInt8 × Int) × Unit) =>
                    Option.bind
                      (Option.bind (m_laws_markText (IntKind.wrap IntKind.i64 (s.fst.snd.fst + (1 : Int))))
                        fun (r : List UInt8 × Unit) =>
                        if (0 : Int) ≤ s.fst.snd.snd.fst ∧ s.fst.snd.snd.fst < (↑(List.length s.snd.fst) : Int) then
                          if Int.toNat s.fst.snd.snd.fst < List.length s.snd.fst then
                            some
                              (((), IntKind.wrap IntKind.i64 (s.fst.snd.fst + (1 : Int)), s.fst.snd.snd),
                                List.set s.snd.fst (Int.toNat s.fst.snd.snd.fst)
                                  ((List.getD s.snd.fst (Int.toNat s.fst.snd.snd.fst)
                                        (nilOf UInt8, Int.ofNat (nat_lit 0), Int.ofNat (nat_lit 0),
                                          Int.ofNat (nat_lit 0), Int.ofNat (nat_lit 0), nilOf UInt8,
                                          Int.ofNat (nat_lit 0))).fst,
                                    (List.getD s.snd.fst (Int.toNat s.fst.snd.snd.fst)
                                          (nilOf UInt8, Int.ofNat (nat_lit 0), Int.ofNat (nat_lit 0),
                                            Int.ofNat (nat_lit 0), Int.ofNat (nat_lit 0), nilOf UInt8,
                                            Int.ofNat (nat_lit 0))).snd.fst,
                                    (List.getD s.snd.fst (Int.toNat s.fst.snd.snd.fst)
                                            (nilOf UInt8, Int.ofNat (nat_lit 0), Int.ofNat (nat_lit 0),
                                              Int.ofNat (nat_lit 0), Int.ofNat (nat_lit 0), nilOf UInt8,
                                              Int.ofNat (nat_lit 0))).snd.snd.fst,
                                    (List.getD s.snd.fst (Int.toNat s.fst.snd.snd.fst)
                                              (nilOf UInt8, Int.ofNat (nat_lit 0), Int.ofNat (nat_lit 0),
                                                Int.ofNat (nat_lit 0), Int.ofNat (nat_lit 0), nilOf UInt8,
                                                Int.ofNat (nat_lit 0))).snd.snd.snd.fst,
                                    (List.getD s.snd.fst (Int.toNat s.fst.snd.snd.fst)
                                                (nilOf UInt8, Int.ofNat (nat_lit 0), Int.ofNat (nat_lit 0),
                                                  Int.ofNat (nat_lit 0), Int.ofNat (nat_lit 0), nilOf UInt8,
                                                  Int.ofNat (nat_lit 0))).snd.snd.snd.snd.fst,
                                    r.fst,
                                    (List.getD s.snd.fst (Int.toNat s.fst.snd.snd.fst)
                                                  (nilOf UInt8, Int.ofNat (nat_lit 0), Int.ofNat (nat_lit 0),
                                                    Int.ofNat (nat_lit 0), Int.ofNat (nat_lit 0), nilOf UInt8,
                                                    Int.ofNat (nat_lit 0))).snd.snd.snd.snd.snd.snd),
                                ())
                          else none
                        else none)
                      fun
                        (s :
                          (Unit × Int × Int × Unit) ×
                            List (List UInt8 × Int × Int × Int × Int × List UInt8 × Int) × Unit) =>
                      Option.bind
                        (if (0 : Int) ≤ s.fst.snd.snd.fst ∧ s.fst.snd.snd.fst < (↑(List.length s.snd.fst) : Int) then
                          if Int.toNat s.fst.snd.snd.fst < List.length s.snd.fst then
                            some
                              (((), IntKind.wrap IntKind.i64 (s.fst.snd.fst + (1 : Int)), s.fst.snd.snd),
                                List.set s.snd.fst (Int.toNat s.fst.snd.snd.fst)
                                  ((List.getD s.snd.fst (Int.toNat s.fst.snd.snd.fst)
                                        (nilOf UInt8, Int.ofNat (nat_lit 0), Int.ofNat (nat_lit 0),
                                          Int.ofNat (nat_lit 0), Int.ofNat (nat_lit 0), nilOf UInt8,
                                          Int.ofNat (nat_lit 0))).fst,
                                    (List.getD s.snd.fst (Int.toNat s.fst.snd.snd.fst)
                                          (nilOf UInt8, Int.ofNat (nat_lit 0), Int.ofNat (nat_lit 0),
                                            Int.ofNat (nat_lit 0), Int.ofNat (nat_lit 0), nilOf UInt8,
                                            Int.ofNat (nat_lit 0))).snd.fst,
                                    (List.getD s.snd.fst (Int.toNat s.fst.snd.snd.fst)
                                            (nilOf UInt8, Int.ofNat (nat_lit 0), Int.ofNat (nat_lit 0),
                                              Int.ofNat (nat_lit 0), Int.ofNat (nat_lit 0), nilOf UInt8,
                                              Int.ofNat (nat_lit 0))).snd.snd.fst,
                                    (List.getD s.snd.fst (Int.toNat s.fst.snd.snd.fst)
                                              (nilOf UInt8, Int.ofNat (nat_lit 0), Int.ofNat (nat_lit 0),
                                                Int.ofNat (nat_lit 0), Int.ofNat (nat_lit 0), nilOf UInt8,
                                                Int.ofNat (nat_lit 0))).snd.snd.snd.fst,
                                    (List.getD s.snd.fst (Int.toNat s.fst.snd.snd.fst)
                                                (nilOf UInt8, Int.ofNat (nat_lit 0), Int.ofNat (nat_lit 0),
                                                  Int.ofNat (nat_lit 0), Int.ofNat (nat_lit 0), nilOf UInt8,
                                                  Int.ofNat (nat_lit 0))).snd.snd.snd.snd.fst,
                                    (List.getD s.snd.fst (Int.toNat s.fst.snd.snd.fst)
                                                  (nilOf UInt8, Int.ofNat (nat_lit 0), Int.ofNat (nat_lit 0),
                                                    Int.ofNat (nat_lit 0), Int.ofNat (nat_lit 0), nilOf UInt8,
                                                    Int.ofNat (nat_lit 0))).snd.snd.snd.snd.snd.fst,
                                    IntKind.wrap IntKind.i64 (s.fst.snd.fst + (1 : Int))),
                                ())
                          else none
                        else none)
                        fun
                          (s :
                            (Unit × Int × Int × Unit) ×
                              List (List UInt8 × Int × Int × Int × Int × List UInt8 × Int) × Unit) =>
                        k
                          (((), IntKind.wrap IntKind.i64 (s.fst.snd.fst + (1 : Int)),
                              IntKind.wrap IntKind.i64 (s.fst.snd.snd.fst + (1 : Int)), ()),
                            s.snd)
        else some ((s.fst.snd.fst, ()), s.snd))
      (((), a1, (0 : Int), ()), s0, ()))
    fun (s : (Int × Unit) × List (List UInt8 × Int × Int × Int × Int × List UInt8 × Int) × Unit) =>
    some (s.fst.fst, s.snd)
-- laws.markByteS
def m_laws_markByteS (a1 : Int) (s0 : List (Int)) : Option (Int × (List (Int) × Unit)) :=
  Option.bind
    (loopC (Int.toNat a1 + Int.toNat (0 : Int) + List.length s0 + (300 : Nat))
      (fun (s : (Unit × Int × Int × Unit) × List Int × Unit)
          (k : (Unit × Int × Int × Unit) × List Int × Unit → Option ((Int × Unit) × List Int × Unit)) =>
        bif decide (s.fst.snd.snd.fst < (↑(List.length s.snd.fst) : Int)) then
          Option.bind
            (if (0 : Int) ≤ s.fst.snd.snd.fst ∧ s.fst.snd.snd.fst < (↑(List.length s.snd.fst) : Int) then
              if Int.toNat s.fst.snd.snd.fst < List.length s.snd.fst then
                some
                  (((), s.fst.snd),
                    List.set s.snd.fst (Int.toNat s.fst.snd.snd.fst) (IntKind.wrap IntKind.u8 s.fst.snd.fst), ())
              else none
            else none)
            fun (s : (Unit × Int × Int × Unit) × List Int × Unit) =>
            k
              (((), IntKind.wrap IntKind.i64 (s.fst.snd.fst + (1 : Int)),
                  IntKind.wrap IntKind.i64 (s.fst.snd.snd.fst + (1 : Int)), ()),
                s.snd)
        else some ((s.fst.snd.fst, ()), s.snd))
      (((), a1, (0 : Int), ()), s0, ()))
    fun (s : (Int × Unit) × List Int × Unit) => some (s.fst.fst, s.snd)
-- laws.heldByteS
def m_laws_heldByteS (a0 : List Int) (a1 : Int) : Option (Int × Unit) :=
  joinC
    (loopC (List.length a0 + Int.toNat a1 + Int.toNat (0 : Int) + (300 : Nat))
      (fun (s : (List Int × Int × Int × Unit) × Unit)
          (k : (List Int × Int × Int × Unit) × Unit → Option ((Int × Unit) × Unit ⊕ Int × Unit)) =>
        bif decide (s.fst.snd.snd.fst < (↑(List.length s.fst.fst) : Int)) then
          if (0 : Int) ≤ s.fst.snd.snd.fst ∧ s.fst.snd.snd.fst < (↑(List.length s.fst.fst) : Int) then
            bif
                List.getD s.fst.fst (Int.toNat s.fst.snd.snd.fst) (Int.ofNat (nat_lit 0)) !=
                  IntKind.wrap IntKind.u8 s.fst.snd.fst then
              some (Sum.inr ((-1 : Int), ()))
            else
              k
                ((s.fst.fst, IntKind.wrap IntKind.i64 (s.fst.snd.fst + (1 : Int)),
                    IntKind.wrap IntKind.i64 (s.fst.snd.snd.fst + (1 : Int)), ()),
                  ())
          else none
        else some (Sum.inl ((s.fst.snd.fst, ()), ())))
      ((a0, a1, (0 : Int), ()), ()))
    fun (s : (Int × Unit) × Unit) => some s.fst
-- laws.FnExactPutEntries
def m_laws_FnExactPutEntries (a0 : List (List UInt8 × (Int × (Int × (Int × (Int × (List UInt8 × Int))))))) : Option (Bool × Unit) :=
  Option.bind (m_laws_szEntryS a0 (1048576 : Int)) fun (r : Int × Unit) =>
    bif decide (r.fst < (0 : Int)) then some (true, ())
    else
      Option.bind (m_laws_toEntryS a0)
        fun (r : Unit × List (List UInt8 × Int × Int × Int × Int × List UInt8 × Int) × Unit) =>
        Option.bind (m_spec_PutEntries r.snd.fst) fun (r : List Int × Unit) =>
          Option.bind (m_laws_toEntryS a0)
            fun (r_1 : Unit × List (List UInt8 × Int × Int × Int × Int × List UInt8 × Int) × Unit) =>
            Option.bind (m_impl_PutEntries r_1.snd.fst) fun (r_2 : Unit × List Int × Unit) =>
              Option.bind (m_laws_eqByteS r_2.snd.fst r.fst) fun (r_3 : Bool × Unit) =>
                bif !r_3.fst then some (false, ())
                else
                  Option.bind (m_laws_toEntryS a0)
                    fun (r_4 : Unit × List (List UInt8 × Int × Int × Int × Int × List UInt8 × Int) × Unit) =>
                    Option.bind (m_laws_eqEntryS r_1.snd.fst r_4.snd.fst) fun (r_5 : Bool × Unit) =>
                      bif !r_5.fst then some (false, ())
                      else
                        Option.bind (m_laws_markEntryS (1 : Int) r_1.snd.fst)
                          fun (r_6 : Int × List (List UInt8 × Int × Int × Int × Int × List UInt8 × Int) × Unit) =>
                          Option.bind
                            (bif decide (r_6.fst < (0 : Int)) then some ((a0, r.fst, (), true, ()), r_2.snd)
                            else
                              Option.bind (m_laws_eqByteS r_2.snd.fst r.fst) fun (r_7 : Bool × Unit) =>
                                some ((a0, r.fst, (), !r_7.fst, ()), r_2.snd))
                            fun
                              (s :
                                (List (List UInt8 × Int × Int × Int × Int × List UInt8 × Int) ×
                                    List Int × Unit × Bool × Unit) ×
                                  List Int × Unit) =>
                            bif s.fst.snd.snd.snd.fst then some (false, ())
                            else
                              Option.bind (m_laws_markByteS (1 : Int) s.snd.fst) fun (r : Int × List Int × Unit) =>
                                Option.bind (m_laws_heldByteS r.snd.fst (1 : Int)) fun (r_7 : Int × Unit) =>
                                  bif decide (r_7.fst < (0 : Int)) then some (false, ())
                                  else
                                    bif r_7.fst != r.fst then some (false, ())
                                    else
                                      Option.bind (m_laws_toEntryS s.fst.fst)
                                        fun
                                          (r_8 :
                                            Unit ×
                                              List (List UInt8 × Int × Int × Int × Int × List UInt8 × Int) × Unit) =>
                                        Option.bind (m_impl_PutEntries r_8.snd.fst)
                                          fun (r_9 : Unit × List Int × Unit) =>
                                          Option.bind (m_laws_eqByteS r_9.snd.fst s.fst.snd.fst)
                                            fun (r_10 : Bool × Unit) =>
                                            bif !r_10.fst then some (false, ())
                                            else
                                              Option.bind (m_laws_heldByteS r.snd.fst (1 : Int))
                                                fun (r_11 : Int × Unit) =>
                                                bif decide (r_11.fst < (0 : Int)) then some (false, ())
                                                else bif r_11.fst != r.fst then some (false, ()) else some (true, ())
end Go.AM
