/- What each function computes, in plain Lean. -/
import Derived.Test.YtpgnbcemdkgjgaaAmE
set_option linter.unusedVariables false
set_option maxRecDepth 100000
namespace Go.AM
open Go
-- laws.szNode
def m_laws_szNode (a0 : (List UInt8 × (Int × (Int × (Int × (List UInt8 × (List UInt8 × Int))))))) (a1 : Int) : Option (Int × Unit) :=
  bif decide (IntKind.wrap IntKind.i64 (a1 - (↑(List.length a0.fst) : Int)) < (0 : Int)) then some ((-1 : Int), ())
  else
    bif
        decide
          (IntKind.wrap IntKind.i64
              (IntKind.wrap IntKind.i64 (a1 - (↑(List.length a0.fst) : Int)) -
                (↑(List.length a0.snd.snd.snd.snd.fst) : Int)) <
            (0 : Int)) then
      some ((-1 : Int), ())
    else
      bif
          decide
            (IntKind.wrap IntKind.i64
                (IntKind.wrap IntKind.i64
                    (IntKind.wrap IntKind.i64 (a1 - (↑(List.length a0.fst) : Int)) -
                      (↑(List.length a0.snd.snd.snd.snd.fst) : Int)) -
                  (↑(List.length a0.snd.snd.snd.snd.snd.fst) : Int)) <
              (0 : Int)) then
        some ((-1 : Int), ())
      else
        some
          (IntKind.wrap IntKind.i64
              (IntKind.wrap IntKind.i64
                  (IntKind.wrap IntKind.i64 (a1 - (↑(List.length a0.fst) : Int)) -
                    (↑(List.length a0.snd.snd.snd.snd.fst) : Int)) -
                (↑(List.length a0.snd.snd.snd.snd.snd.fst) : Int)),
            ())
-- laws.szOpts
def m_laws_szOpts (a0 : (Bool × (Bool × (Bool × (Bool × (Bool × (Bool × (Bool × (Bool × (Bool × (Bool × (Bool × (Bool × (Bool × (Int × (Bool × (List UInt8 × List UInt8))))))))))))))))) (a1 : Int) : Option (Int × Unit) :=
  bif
      decide
        (IntKind.wrap IntKind.i64
            (a1 - (↑(List.length a0.snd.snd.snd.snd.snd.snd.snd.snd.snd.snd.snd.snd.snd.snd.snd.fst) : Int)) <
          (0 : Int)) then
    some ((-1 : Int), ())
  else
    bif
        decide
          (IntKind.wrap IntKind.i64
              (IntKind.wrap IntKind.i64
                  (a1 - (↑(List.length a0.snd.snd.snd.snd.snd.snd.snd.snd.snd.snd.snd.snd.snd.snd.snd.fst) : Int)) -
                (↑(List.length a0.snd.snd.snd.snd.snd.snd.snd.snd.snd.snd.snd.snd.snd.snd.snd.snd) : Int)) <
            (0 : Int)) then
      some ((-1 : Int), ())
    else
      some
        (IntKind.wrap IntKind.i64
            (IntKind.wrap IntKind.i64
                (a1 - (↑(List.length a0.snd.snd.snd.snd.snd.snd.snd.snd.snd.snd.snd.snd.snd.snd.snd.fst) : Int)) -
              (↑(List.length a0.snd.snd.snd.snd.snd.snd.snd.snd.snd.snd.snd.snd.snd.snd.snd.snd) : Int)),
          ())
-- laws.toNode
def m_laws_toNode (a0 : (List UInt8 × (Int × (Int × (Int × (List UInt8 × (List UInt8 × Int))))))) : Option ((List UInt8 × (Int × (Int × (Int × (List UInt8 × (List UInt8 × Int)))))) × Unit) :=
  some (a0, ())
-- laws.toOpts
def m_laws_toOpts (a0 : (Bool × (Bool × (Bool × (Bool × (Bool × (Bool × (Bool × (Bool × (Bool × (Bool × (Bool × (Bool × (Bool × (Int × (Bool × (List UInt8 × List UInt8))))))))))))))))) : Option ((Bool × (Bool × (Bool × (Bool × (Bool × (Bool × (Bool × (Bool × (Bool × (Bool × (Bool × (Bool × (Bool × (Int × (Bool × (List UInt8 × List UInt8)))))))))))))))) × Unit) :=
  some (a0, ())
-- spec.Quick
def m_spec_Quick (a0 : (List UInt8 × (Int × (Int × (Int × (List UInt8 × (List UInt8 × Int))))))) (a1 : (List UInt8 × (Int × (Int × (Int × (List UInt8 × (List UInt8 × Int))))))) (a2 : (Bool × (Bool × (Bool × (Bool × (Bool × (Bool × (Bool × (Bool × (Bool × (Bool × (Bool × (Bool × (Bool × (Int × (Bool × (List UInt8 × List UInt8))))))))))))))))) : Option (Bool × Unit) :=
  Option.bind
    (bif a0.snd.fst != (1 : Int) then
      some
        (((), (), (), true, ()),
          (a0.fst, a0.snd.fst, a0.snd.snd.fst, a0.snd.snd.snd.fst, a0.snd.snd.snd.snd.fst, a0.snd.snd.snd.snd.snd.fst,
            a0.snd.snd.snd.snd.snd.snd, ()),
          (a1.fst, a1.snd.fst, a1.snd.snd.fst, a1.snd.snd.snd.fst, a1.snd.snd.snd.snd.fst, a1.snd.snd.snd.snd.snd.fst,
            a1.snd.snd.snd.snd.snd.snd, ()),
          (a2.fst, a2.snd.fst, a2.snd.snd.fst, a2.snd.snd.snd.fst, a2.snd.snd.snd.snd.fst, a2.snd.snd.snd.snd.snd.fst,
            a2.snd.snd.snd.snd.snd.snd.fst, a2.snd.snd.snd.snd.snd.snd.snd.fst, a2.snd.snd.snd.snd.snd.snd.snd.snd.fst,
            a2.snd.snd.snd.snd.snd.snd.snd.snd.snd.fst, a2.snd.snd.snd.snd.snd.snd.snd.snd.snd.snd.fst,
            a2.snd.snd.snd.snd.snd.snd.snd.snd.snd.snd.snd.fst, a2.snd.snd.snd.snd.snd.snd.snd.snd.snd.snd.snd.snd.fst,
            a2.snd.snd.snd.snd.snd.snd.snd.snd.snd.snd.snd.snd.snd.fst,
            a2.snd.snd.snd.snd.snd.snd.snd.snd.snd.snd.snd.snd.snd.snd.fst,
            a2.snd.snd.snd.snd.snd.snd.snd.snd.snd.snd.snd.snd.snd.snd.snd.fst,
            a2.snd.snd.snd.snd.snd.snd.snd.snd.snd.snd.snd.snd.snd.snd.snd.snd, ()),
          ())
    else
      bif a1.snd.fst != (1 : Int) then
        some
          (((), (), (), true, ()),
            (a0.fst, a0.snd.fst, a0.snd.snd.fst, a0.snd.snd.snd.fst, a0.snd.snd.snd.snd.fst, a0.snd.snd.snd.snd.snd.fst,
              a0.snd.snd.snd.snd.snd.snd, ()),
            (a1.fst, a1.snd.fst, a1.snd.snd.fst, a1.snd.snd.snd.fst, a1.snd.snd.snd.snd.fst, a1.snd.snd.snd.snd.snd.fst,
              a1.snd.snd.snd.snd.snd.snd, ()),
            (a2.fst, a2.snd.fst, a2.snd.snd.fst, a2.snd.snd.snd.fst, a2.snd.snd.snd.snd.fst, a2.snd.snd.snd.snd.snd.fst,
              a2.snd.snd.snd.snd.snd.snd.fst, a2.snd.snd.snd.snd.snd.snd.snd.fst,
              a2.snd.snd.snd.snd.snd.snd.snd.snd.fst, a2.snd.snd.snd.snd.snd.snd.snd.snd.snd.fst,
              a2.snd.snd.snd.snd.snd.snd.snd.snd.snd.snd.fst, a2.snd.snd.snd.snd.snd.snd.snd.snd.snd.snd.snd.fst,
              a2.snd.snd.snd.snd.snd.snd.snd.snd.snd.snd.snd.snd.fst,
              a2.snd.snd.snd.snd.snd.snd.snd.snd.snd.snd.snd.snd.snd.fst,
              a2.snd.snd.snd.snd.snd.snd.snd.snd.snd.snd.snd.snd.snd.snd.fst,
              a2.snd.snd.snd.snd.snd.snd.snd.snd.snd.snd.snd.snd.snd.snd.snd.fst,
              a2.snd.snd.snd.snd.snd.snd.snd.snd.snd.snd.snd.snd.snd.snd.snd.snd, ()),
            ())
      else
        some
          (((), (), (), (↑(List.length a0.snd.snd.snd.snd.fst) : Int) != (↑(List.length a1.snd.snd.snd.snd.fst) : Int),
              ()),
            (a0.fst, a0.snd.fst, a0.snd.snd.fst, a0.snd.snd.snd.fst, a0.snd.snd.snd.snd.fst, a0.snd.snd.snd.snd.snd.fst,
              a0.snd.snd.snd.snd.snd.snd, ()),
            (a1.fst, a1.snd.fst, a1.snd.snd.fst, a1.snd.snd.snd.fst, a1.snd.snd.snd.snd.fst, a1.snd.snd.snd.snd.snd.fst,
              a1.snd.snd.snd.snd.snd.snd, ()),
            (a2.fst, a2.snd.fst, a2.snd.snd.fst, a2.snd.snd.snd.fst, a2.snd.snd.snd.snd.fst, a2.snd.snd.snd.snd.snd.fst,
              a2.snd.snd.snd.snd.snd.snd.fst, a2.snd.snd.snd.snd.snd.snd.snd.fst,
              a2.snd.snd.snd.snd.snd.snd.snd.snd.fst, a2.snd.snd.snd.snd.snd.snd.snd.snd.snd.fst,
              a2.snd.snd.snd.snd.snd.snd.snd.snd.snd.snd.fst, a2.snd.snd.snd.snd.snd.snd.snd.snd.snd.snd.snd.fst,
              a2.snd.snd.snd.snd.snd.snd.snd.snd.snd.snd.snd.snd.fst,
              a2.snd.snd.snd.snd.snd.snd.snd.snd.snd.snd.snd.snd.snd.fst,
              a2.snd.snd.snd.snd.snd.snd.snd.snd.snd.snd.snd.snd.snd.snd.fst,
              a2.snd.snd.snd.snd.snd.snd.snd.snd.snd.snd.snd.snd.snd.snd.snd.fst,
              a2.snd.snd.snd.snd.snd.snd.snd.snd.snd.snd.snd.snd.snd.snd.snd.snd, ()),
            ()))
    fun
      (s :
        (Unit × Unit × Unit × Bool × Unit) ×
          (List UInt8 × Int × Int × Int × List UInt8 × List UInt8 × Int × Unit) ×
            (List UInt8 × Int × Int × Int × List UInt8 × List UInt8 × Int × Unit) ×
              (Bool ×
                  Bool ×
                    Bool ×
                      Bool ×
                        Bool ×
                          Bool ×
                            Bool ×
                              Bool × Bool × Bool × Bool × Bool × Bool × Int × Bool × List UInt8 × List UInt8 × Unit) ×
                Unit) =>
    bif s.fst.snd.snd.snd.fst then some (false, ())
    else
      bif s.snd.snd.snd.fst.snd.snd.snd.snd.snd.fst then
        some (s.snd.fst.snd.snd.snd.snd.fst == s.snd.snd.fst.snd.snd.snd.snd.fst, ())
      else
        bif s.snd.snd.snd.fst.snd.snd.snd.snd.snd.snd.fst then some (true, ())
        else some (s.snd.fst.snd.snd.snd.fst == s.snd.snd.fst.snd.snd.snd.fst, ())
-- impl.Quick
def m_impl_Quick (a0 : (List UInt8 × (Int × (Int × (Int × (List UInt8 × (List UInt8 × Int))))))) (a1 : (List UInt8 × (Int × (Int × (Int × (List UInt8 × (List UInt8 × Int))))))) (a2 : (Bool × (Bool × (Bool × (Bool × (Bool × (Bool × (Bool × (Bool × (Bool × (Bool × (Bool × (Bool × (Bool × (Int × (Bool × (List UInt8 × List UInt8))))))))))))))))) : Option (Bool × Unit) :=
  Option.bind
    (bif a0.snd.fst != (1 : Int) then
      some
        (((), (), (), true, ()),
          (a0.fst, a0.snd.fst, a0.snd.snd.fst, a0.snd.snd.snd.fst, a0.snd.snd.snd.snd.fst, a0.snd.snd.snd.snd.snd.fst,
            a0.snd.snd.snd.snd.snd.snd, ()),
          (a1.fst, a1.snd.fst, a1.snd.snd.fst, a1.snd.snd.snd.fst, a1.snd.snd.snd.snd.fst, a1.snd.snd.snd.snd.snd.fst,
            a1.snd.snd.snd.snd.snd.snd, ()),
          (a2.fst, a2.snd.fst, a2.snd.snd.fst, a2.snd.snd.snd.fst, a2.snd.snd.snd.snd.fst, a2.snd.snd.snd.snd.snd.fst,
            a2.snd.snd.snd.snd.snd.snd.fst, a2.snd.snd.snd.snd.snd.snd.snd.fst, a2.snd.snd.snd.snd.snd.snd.snd.snd.fst,
            a2.snd.snd.snd.snd.snd.snd.snd.snd.snd.fst, a2.snd.snd.snd.snd.snd.snd.snd.snd.snd.snd.fst,
            a2.snd.snd.snd.snd.snd.snd.snd.snd.snd.snd.snd.fst, a2.snd.snd.snd.snd.snd.snd.snd.snd.snd.snd.snd.snd.fst,
            a2.snd.snd.snd.snd.snd.snd.snd.snd.snd.snd.snd.snd.snd.fst,
            a2.snd.snd.snd.snd.snd.snd.snd.snd.snd.snd.snd.snd.snd.snd.fst,
            a2.snd.snd.snd.snd.snd.snd.snd.snd.snd.snd.snd.snd.snd.snd.snd.fst,
            a2.snd.snd.snd.snd.snd.snd.snd.snd.snd.snd.snd.snd.snd.snd.snd.snd, ()),
          ())
    else
      bif a1.snd.fst != (1 : Int) then
        some
          (((), (), (), true, ()),
            (a0.fst, a0.snd.fst, a0.snd.snd.fst, a0.snd.snd.snd.fst, a0.snd.snd.snd.snd.fst, a0.snd.snd.snd.snd.snd.fst,
              a0.snd.snd.snd.snd.snd.snd, ()),
            (a1.fst, a1.snd.fst, a1.snd.snd.fst, a1.snd.snd.snd.fst, a1.snd.snd.snd.snd.fst, a1.snd.snd.snd.snd.snd.fst,
              a1.snd.snd.snd.snd.snd.snd, ()),
            (a2.fst, a2.snd.fst, a2.snd.snd.fst, a2.snd.snd.snd.fst, a2.snd.snd.snd.snd.fst, a2.snd.snd.snd.snd.snd.fst,
              a2.snd.snd.snd.snd.snd.snd.fst, a2.snd.snd.snd.snd.snd.snd.snd.fst,
              a2.snd.snd.snd.snd.snd.snd.snd.snd.fst, a2.snd.snd.snd.snd.snd.snd.snd.snd.snd.fst,
              a2.snd.snd.snd.snd.snd.snd.snd.snd.snd.snd.fst, a2.snd.snd.snd.snd.snd.snd.snd.snd.snd.snd.snd.fst,
              a2.snd.snd.snd.snd.snd.snd.snd.snd.snd.snd.snd.snd.fst,
              a2.snd.snd.snd.snd.snd.snd.snd.snd.snd.snd.snd.snd.snd.fst,
              a2.snd.snd.snd.snd.snd.snd.snd.snd.snd.snd.snd.snd.snd.snd.fst,
              a2.snd.snd.snd.snd.snd.snd.snd.snd.snd.snd.snd.snd.snd.snd.snd.fst,
              a2.snd.snd.snd.snd.snd.snd.snd.snd.snd.snd.snd.snd.snd.snd.snd.snd, ()),
            ())
      else
        some
          (((), (), (), (↑(List.length a0.snd.snd.snd.snd.fst) : Int) != (↑(List.length a1.snd.snd.snd.snd.fst) : Int),
              ()),
            (a0.fst, a0.snd.fst, a0.snd.snd.fst, a0.snd.snd.snd.fst, a0.snd.snd.snd.snd.fst, a0.snd.snd.snd.snd.snd.fst,
              a0.snd.snd.snd.snd.snd.snd, ()),
            (a1.fst, a1.snd.fst, a1.snd.snd.fst, a1.snd.snd.snd.fst, a1.snd.snd.snd.snd.fst, a1.snd.snd.snd.snd.snd.fst,
              a1.snd.snd.snd.snd.snd.snd, ()),
            (a2.fst, a2.snd.fst, a2.snd.snd.fst, a2.snd.snd.snd.fst, a2.snd.snd.snd.snd.fst, a2.snd.snd.snd.snd.snd.fst,
              a2.snd.snd.snd.snd.snd.snd.fst, a2.snd.snd.snd.snd.snd.snd.snd.fst,
              a2.snd.snd.snd.snd.snd.snd.snd.snd.fst, a2.snd.snd.snd.snd.snd.snd.snd.snd.snd.fst,
              a2.snd.snd.snd.snd.snd.snd.snd.snd.snd.snd.fst, a2.snd.snd.snd.snd.snd.snd.snd.snd.snd.snd.snd.fst,
              a2.snd.snd.snd.snd.snd.snd.snd.snd.snd.snd.snd.snd.fst,
              a2.snd.snd.snd.snd.snd.snd.snd.snd.snd.snd.snd.snd.snd.fst,
              a2.snd.snd.snd.snd.snd.snd.snd.snd.snd.snd.snd.snd.snd.snd.fst,
              a2.snd.snd.snd.snd.snd.snd.snd.snd.snd.snd.snd.snd.snd.snd.snd.fst,
              a2.snd.snd.snd.snd.snd.snd.snd.snd.snd.snd.snd.snd.snd.snd.snd.snd, ()),
            ()))
    fun
      (s :
        (Unit × Unit × Unit × Bool × Unit) ×
          (List UInt8 × Int × Int × Int × List UInt8 × List UInt8 × Int × Unit) ×
            (List UInt8 × Int × Int × Int × List UInt8 × List UInt8 × Int × Unit) ×
              (Bool ×
                  Bool ×
                    Bool ×
                      Bool ×
                        Bool ×
                          Bool ×
                            Bool ×
                              Bool × Bool × Bool × Bool × Bool × Bool × Int × Bool × List UInt8 × List UInt8 × Unit) ×
                Unit) =>
    bif s.fst.snd.snd.snd.fst then some (false, ())
    else
      bif s.snd.snd.snd.fst.snd.snd.snd.snd.snd.fst then
        some (s.snd.fst.snd.snd.snd.snd.fst == s.snd.snd.fst.snd.snd.snd.snd.fst, ())
      else
        bif s.snd.snd.snd.fst.snd.snd.snd.snd.snd.snd.fst then some (true, ())
        else some (s.snd.fst.snd.snd.snd.fst == s.snd.snd.fst.snd.snd.snd.fst, ())
-- laws.FnExactQuick
def m_laws_FnExactQuick (a0 : (List UInt8 × (Int × (Int × (Int × (List UInt8 × (List UInt8 × Int))))))) (a1 : (List UInt8 × (Int × (Int × (Int × (List UInt8 × (List UInt8 × Int))))))) (a2 : (Bool × (Bool × (Bool × (Bool × (Bool × (Bool × (Bool × (Bool × (Bool × (Bool × (Bool × (Bool × (Bool × (Int × (Bool × (List UInt8 × List UInt8))))))))))))))))) : Option (Bool × Unit) :=
  Option.bind (m_laws_szNode a0 (1048576 : Int)) fun (r : Int × Unit) =>
    bif decide (r.fst < (0 : Int)) then some (true, ())
    else
      Option.bind (m_laws_szNode a1 r.fst) fun (r : Int × Unit) =>
        bif decide (r.fst < (0 : Int)) then some (true, ())
        else
          Option.bind (m_laws_szOpts a2 r.fst) fun (r : Int × Unit) =>
            bif decide (r.fst < (0 : Int)) then some (true, ())
            else
              Option.bind (m_laws_toNode a0)
                fun (r : (List UInt8 × Int × Int × Int × List UInt8 × List UInt8 × Int) × Unit) =>
                Option.bind (m_laws_toNode a1)
                  fun (r_1 : (List UInt8 × Int × Int × Int × List UInt8 × List UInt8 × Int) × Unit) =>
                  Option.bind (m_laws_toOpts a2)
                    fun
                      (r_2 :
                        (Bool ×
                            Bool ×
                              Bool ×
                                Bool ×
                                  Bool ×
                                    Bool ×
                                      Bool ×
                                        Bool ×
                                          Bool × Bool × Bool × Bool × Bool × Int × Bool × List UInt8 × List UInt8) ×
                          Unit) =>
                    Option.bind (m_spec_Quick r.fst r_1.fst r_2.fst) fun (r : Bool × Unit) =>
                      Option.bind (m_laws_toNode a0)
                        fun (r_3 : (List UInt8 × Int × Int × Int × List UInt8 × List UInt8 × Int) × Unit) =>
                        Option.bind (m_laws_toNode a1)
                          fun (r_4 : (List UInt8 × Int × Int × Int × List UInt8 × List UInt8 × Int) × Unit) =>
                          Option.bind (m_laws_toOpts a2)
                            fun
                              (r_5 :
                                (Bool ×
                                    Bool ×
                                      Bool ×
                                        Bool ×
                                          Bool ×
                                            Bool ×
                                              Bool ×
                                                Bool ×
                                                  Bool ×
                                                    Bool × Bool × Bool × Bool × Int × Bool × List UInt8 × List UInt8) ×
                                  Unit) =>
                            Option.bind (m_impl_Quick r_3.fst r_4.fst r_5.fst) fun (r_6 : Bool × Unit) =>
                              bif !r_6.fst == r.fst then some (false, ()) else some (true, ())
end Go.AM
