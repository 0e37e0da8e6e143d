/- PRED 5: the law of comparisons, its code. -/
import Derived.Test.YtjkkkldkimdajaaDoorP4
namespace Go.Proofs.YtjkkkldkimdajaaDoor
open Pw Go
set_option maxRecDepth 100000
set_option linter.unusedSimpArgs false

theorem order_vc (a b : Int) : (vcFun (mkF Tryd.prog (tblOf tbl2) (fun _ _ => none) 10) 20 7 [.int .i64 a, .int .i64 b] .nil 0 (isBool true)).sat = (
  VB (condS (1 : Int) a b && true)
    (VB (condS (2 : Int) a b && false)
      (VB (condS (3 : Int) a b && true)
        (VB (condS (4 : Int) a b && false)
          (VB (condS (5 : Int) a b && true)
            (VB (condS (6 : Int) a b && false)
              (((false && condS (4 : Int) a b == (condS (3 : Int) a b || condS (1 : Int) a b) && condS (6 : Int) a b == (condS (5 : Int) a b || condS (1 : Int) a b) && condS (2 : Int) a b == !condS (1 : Int) a b) ==
                  true) =
                true)
              (((false && condS (4 : Int) a b == (condS (3 : Int) a b || condS (1 : Int) a b) && condS (6 : Int) a b == (condS (5 : Int) a b || condS (1 : Int) a b) && condS (2 : Int) a b == !condS (1 : Int) a b) ==
                  true) =
                true))
            (VB (condS (6 : Int) a b && false)
              (((false && condS (4 : Int) a b == (condS (3 : Int) a b || condS (1 : Int) a b) && condS (6 : Int) a b == (condS (5 : Int) a b || condS (1 : Int) a b) && condS (2 : Int) a b == !condS (1 : Int) a b) ==
                  true) =
                true)
              (((false && condS (4 : Int) a b == (condS (3 : Int) a b || condS (1 : Int) a b) && condS (6 : Int) a b == (condS (5 : Int) a b || condS (1 : Int) a b) && condS (2 : Int) a b == !condS (1 : Int) a b) ==
                  true) =
                true)))
          (VB (condS (5 : Int) a b && true)
            (VB (condS (6 : Int) a b && false)
              (((false && condS (4 : Int) a b == (condS (3 : Int) a b || condS (1 : Int) a b) && condS (6 : Int) a b == (condS (5 : Int) a b || condS (1 : Int) a b) && condS (2 : Int) a b == !condS (1 : Int) a b) ==
                  true) =
                true)
              (((false && condS (4 : Int) a b == (condS (3 : Int) a b || condS (1 : Int) a b) && condS (6 : Int) a b == (condS (5 : Int) a b || condS (1 : Int) a b) && condS (2 : Int) a b == !condS (1 : Int) a b) ==
                  true) =
                true))
            (VB (condS (6 : Int) a b && false)
              (((false && condS (4 : Int) a b == (condS (3 : Int) a b || condS (1 : Int) a b) && condS (6 : Int) a b == (condS (5 : Int) a b || condS (1 : Int) a b) && condS (2 : Int) a b == !condS (1 : Int) a b) ==
                  true) =
                true)
              (((false && condS (4 : Int) a b == (condS (3 : Int) a b || condS (1 : Int) a b) && condS (6 : Int) a b == (condS (5 : Int) a b || condS (1 : Int) a b) && condS (2 : Int) a b == !condS (1 : Int) a b) ==
                  true) =
                true))))
        (VB (condS (4 : Int) a b && false)
          (VB (condS (5 : Int) a b && true)
            (VB (condS (6 : Int) a b && false)
              (((false && condS (4 : Int) a b == (condS (3 : Int) a b || condS (1 : Int) a b) && condS (6 : Int) a b == (condS (5 : Int) a b || condS (1 : Int) a b) && condS (2 : Int) a b == !condS (1 : Int) a b) ==
                  true) =
                true)
              (((false && condS (4 : Int) a b == (condS (3 : Int) a b || condS (1 : Int) a b) && condS (6 : Int) a b == (condS (5 : Int) a b || condS (1 : Int) a b) && condS (2 : Int) a b == !condS (1 : Int) a b) ==
                  true) =
                true))
            (VB (condS (6 : Int) a b && false)
              (((false && condS (4 : Int) a b == (condS (3 : Int) a b || condS (1 : Int) a b) && condS (6 : Int) a b == (condS (5 : Int) a b || condS (1 : Int) a b) && condS (2 : Int) a b == !condS (1 : Int) a b) ==
                  true) =
                true)
              (((false && condS (4 : Int) a b == (condS (3 : Int) a b || condS (1 : Int) a b) && condS (6 : Int) a b == (condS (5 : Int) a b || condS (1 : Int) a b) && condS (2 : Int) a b == !condS (1 : Int) a b) ==
                  true) =
                true)))
          (VB (condS (5 : Int) a b && true)
            (VB (condS (6 : Int) a b && false)
              (((false && condS (4 : Int) a b == (condS (3 : Int) a b || condS (1 : Int) a b) && condS (6 : Int) a b == (condS (5 : Int) a b || condS (1 : Int) a b) && condS (2 : Int) a b == !condS (1 : Int) a b) ==
                  true) =
                true)
              (((false && condS (4 : Int) a b == (condS (3 : Int) a b || condS (1 : Int) a b) && condS (6 : Int) a b == (condS (5 : Int) a b || condS (1 : Int) a b) && condS (2 : Int) a b == !condS (1 : Int) a b) ==
                  true) =
                true))
            (VB (condS (6 : Int) a b && false)
              (((false && condS (4 : Int) a b == (condS (3 : Int) a b || condS (1 : Int) a b) && condS (6 : Int) a b == (condS (5 : Int) a b || condS (1 : Int) a b) && condS (2 : Int) a b == !condS (1 : Int) a b) ==
                  true) =
                true)
              (((false && condS (4 : Int) a b == (condS (3 : Int) a b || condS (1 : Int) a b) && condS (6 : Int) a b == (condS (5 : Int) a b || condS (1 : Int) a b) && condS (2 : Int) a b == !condS (1 : Int) a b) ==
                  true) =
                true)))))
      (VB (condS (3 : Int) a b && true)
        (VB (condS (4 : Int) a b && false)
          (VB (condS (5 : Int) a b && true)
            (VB (condS (6 : Int) a b && false)
              (((false && condS (4 : Int) a b == (condS (3 : Int) a b || condS (1 : Int) a b) && condS (6 : Int) a b == (condS (5 : Int) a b || condS (1 : Int) a b) && condS (2 : Int) a b == !condS (1 : Int) a b) ==
                  true) =
                true)
              (((false && condS (4 : Int) a b == (condS (3 : Int) a b || condS (1 : Int) a b) && condS (6 : Int) a b == (condS (5 : Int) a b || condS (1 : Int) a b) && condS (2 : Int) a b == !condS (1 : Int) a b) ==
                  true) =
                true))
            (VB (condS (6 : Int) a b && false)
              (((false && condS (4 : Int) a b == (condS (3 : Int) a b || condS (1 : Int) a b) && condS (6 : Int) a b == (condS (5 : Int) a b || condS (1 : Int) a b) && condS (2 : Int) a b == !condS (1 : Int) a b) ==
                  true) =
                true)
              (((false && condS (4 : Int) a b == (condS (3 : Int) a b || condS (1 : Int) a b) && condS (6 : Int) a b == (condS (5 : Int) a b || condS (1 : Int) a b) && condS (2 : Int) a b == !condS (1 : Int) a b) ==
                  true) =
                true)))
          (VB (condS (5 : Int) a b && true)
            (VB (condS (6 : Int) a b && false)
              (((false && condS (4 : Int) a b == (condS (3 : Int) a b || condS (1 : Int) a b) && condS (6 : Int) a b == (condS (5 : Int) a b || condS (1 : Int) a b) && condS (2 : Int) a b == !condS (1 : Int) a b) ==
                  true) =
                true)
              (((false && condS (4 : Int) a b == (condS (3 : Int) a b || condS (1 : Int) a b) && condS (6 : Int) a b == (condS (5 : Int) a b || condS (1 : Int) a b) && condS (2 : Int) a b == !condS (1 : Int) a b) ==
                  true) =
                true))
            (VB (condS (6 : Int) a b && false)
              (((false && condS (4 : Int) a b == (condS (3 : Int) a b || condS (1 : Int) a b) && condS (6 : Int) a b == (condS (5 : Int) a b || condS (1 : Int) a b) && condS (2 : Int) a b == !condS (1 : Int) a b) ==
                  true) =
                true)
              (((false && condS (4 : Int) a b == (condS (3 : Int) a b || condS (1 : Int) a b) && condS (6 : Int) a b == (condS (5 : Int) a b || condS (1 : Int) a b) && condS (2 : Int) a b == !condS (1 : Int) a b) ==
                  true) =
                true))))
        (VB (condS (4 : Int) a b && false)
          (VB (condS (5 : Int) a b && true)
            (VB (condS (6 : Int) a b && false)
              (((false && condS (4 : Int) a b == (condS (3 : Int) a b || condS (1 : Int) a b) && condS (6 : Int) a b == (condS (5 : Int) a b || condS (1 : Int) a b) && condS (2 : Int) a b == !condS (1 : Int) a b) ==
                  true) =
                true)
              (((false && condS (4 : Int) a b == (condS (3 : Int) a b || condS (1 : Int) a b) && condS (6 : Int) a b == (condS (5 : Int) a b || condS (1 : Int) a b) && condS (2 : Int) a b == !condS (1 : Int) a b) ==
                  true) =
                true))
            (VB (condS (6 : Int) a b && false)
              (((false && condS (4 : Int) a b == (condS (3 : Int) a b || condS (1 : Int) a b) && condS (6 : Int) a b == (condS (5 : Int) a b || condS (1 : Int) a b) && condS (2 : Int) a b == !condS (1 : Int) a b) ==
                  true) =
                true)
              (((false && condS (4 : Int) a b == (condS (3 : Int) a b || condS (1 : Int) a b) && condS (6 : Int) a b == (condS (5 : Int) a b || condS (1 : Int) a b) && condS (2 : Int) a b == !condS (1 : Int) a b) ==
                  true) =
                true)))
          (VB (condS (5 : Int) a b && true)
            (VB (condS (6 : Int) a b && false)
              (((false && condS (4 : Int) a b == (condS (3 : Int) a b || condS (1 : Int) a b) && condS (6 : Int) a b == (condS (5 : Int) a b || condS (1 : Int) a b) && condS (2 : Int) a b == !condS (1 : Int) a b) ==
                  true) =
                true)
              (((false && condS (4 : Int) a b == (condS (3 : Int) a b || condS (1 : Int) a b) && condS (6 : Int) a b == (condS (5 : Int) a b || condS (1 : Int) a b) && condS (2 : Int) a b == !condS (1 : Int) a b) ==
                  true) =
                true))
            (VB (condS (6 : Int) a b && false)
              (((false && condS (4 : Int) a b == (condS (3 : Int) a b || condS (1 : Int) a b) && condS (6 : Int) a b == (condS (5 : Int) a b || condS (1 : Int) a b) && condS (2 : Int) a b == !condS (1 : Int) a b) ==
                  true) =
                true)
              (((true && condS (4 : Int) a b == (condS (3 : Int) a b || condS (1 : Int) a b) && condS (6 : Int) a b == (condS (5 : Int) a b || condS (1 : Int) a b) && condS (2 : Int) a b == !condS (1 : Int) a b) == true) =
                true))))))
    (VB (condS (2 : Int) a b && false)
      (VB (condS (3 : Int) a b && true)
        (VB (condS (4 : Int) a b && false)
          (VB (condS (5 : Int) a b && true)
            (VB (condS (6 : Int) a b && false)
              (((false && condS (4 : Int) a b == (condS (3 : Int) a b || condS (1 : Int) a b) && condS (6 : Int) a b == (condS (5 : Int) a b || condS (1 : Int) a b) && condS (2 : Int) a b == !condS (1 : Int) a b) ==
                  true) =
                true)
              (((false && condS (4 : Int) a b == (condS (3 : Int) a b || condS (1 : Int) a b) && condS (6 : Int) a b == (condS (5 : Int) a b || condS (1 : Int) a b) && condS (2 : Int) a b == !condS (1 : Int) a b) ==
                  true) =
                true))
            (VB (condS (6 : Int) a b && false)
              (((false && condS (4 : Int) a b == (condS (3 : Int) a b || condS (1 : Int) a b) && condS (6 : Int) a b == (condS (5 : Int) a b || condS (1 : Int) a b) && condS (2 : Int) a b == !condS (1 : Int) a b) ==
                  true) =
                true)
              (((false && condS (4 : Int) a b == (condS (3 : Int) a b || condS (1 : Int) a b) && condS (6 : Int) a b == (condS (5 : Int) a b || condS (1 : Int) a b) && condS (2 : Int) a b == !condS (1 : Int) a b) ==
                  true) =
                true)))
          (VB (condS (5 : Int) a b && true)
            (VB (condS (6 : Int) a b && false)
              (((false && condS (4 : Int) a b == (condS (3 : Int) a b || condS (1 : Int) a b) && condS (6 : Int) a b == (condS (5 : Int) a b || condS (1 : Int) a b) && condS (2 : Int) a b == !condS (1 : Int) a b) ==
                  true) =
                true)
              (((false && condS (4 : Int) a b == (condS (3 : Int) a b || condS (1 : Int) a b) && condS (6 : Int) a b == (condS (5 : Int) a b || condS (1 : Int) a b) && condS (2 : Int) a b == !condS (1 : Int) a b) ==
                  true) =
                true))
            (VB (condS (6 : Int) a b && false)
              (((false && condS (4 : Int) a b == (condS (3 : Int) a b || condS (1 : Int) a b) && condS (6 : Int) a b == (condS (5 : Int) a b || condS (1 : Int) a b) && condS (2 : Int) a b == !condS (1 : Int) a b) ==
                  true) =
                true)
              (((false && condS (4 : Int) a b == (condS (3 : Int) a b || condS (1 : Int) a b) && condS (6 : Int) a b == (condS (5 : Int) a b || condS (1 : Int) a b) && condS (2 : Int) a b == !condS (1 : Int) a b) ==
                  true) =
                true))))
        (VB (condS (4 : Int) a b && false)
          (VB (condS (5 : Int) a b && true)
            (VB (condS (6 : Int) a b && false)
              (((false && condS (4 : Int) a b == (condS (3 : Int) a b || condS (1 : Int) a b) && condS (6 : Int) a b == (condS (5 : Int) a b || condS (1 : Int) a b) && condS (2 : Int) a b == !condS (1 : Int) a b) ==
                  true) =
                true)
              (((false && condS (4 : Int) a b == (condS (3 : Int) a b || condS (1 : Int) a b) && condS (6 : Int) a b == (condS (5 : Int) a b || condS (1 : Int) a b) && condS (2 : Int) a b == !condS (1 : Int) a b) ==
                  true) =
                true))
            (VB (condS (6 : Int) a b && false)
              (((false && condS (4 : Int) a b == (condS (3 : Int) a b || condS (1 : Int) a b) && condS (6 : Int) a b == (condS (5 : Int) a b || condS (1 : Int) a b) && condS (2 : Int) a b == !condS (1 : Int) a b) ==
                  true) =
                true)
              (((false && condS (4 : Int) a b == (condS (3 : Int) a b || condS (1 : Int) a b) && condS (6 : Int) a b == (condS (5 : Int) a b || condS (1 : Int) a b) && condS (2 : Int) a b == !condS (1 : Int) a b) ==
                  true) =
                true)))
          (VB (condS (5 : Int) a b && true)
            (VB (condS (6 : Int) a b && false)
              (((false && condS (4 : Int) a b == (condS (3 : Int) a b || condS (1 : Int) a b) && condS (6 : Int) a b == (condS (5 : Int) a b || condS (1 : Int) a b) && condS (2 : Int) a b == !condS (1 : Int) a b) ==
                  true) =
                true)
              (((false && condS (4 : Int) a b == (condS (3 : Int) a b || condS (1 : Int) a b) && condS (6 : Int) a b == (condS (5 : Int) a b || condS (1 : Int) a b) && condS (2 : Int) a b == !condS (1 : Int) a b) ==
                  true) =
                true))
            (VB (condS (6 : Int) a b && false)
              (((false && condS (4 : Int) a b == (condS (3 : Int) a b || condS (1 : Int) a b) && condS (6 : Int) a b == (condS (5 : Int) a b || condS (1 : Int) a b) && condS (2 : Int) a b == !condS (1 : Int) a b) ==
                  true) =
                true)
              (((true && condS (4 : Int) a b == (condS (3 : Int) a b || condS (1 : Int) a b) && condS (6 : Int) a b == (condS (5 : Int) a b || condS (1 : Int) a b) && condS (2 : Int) a b == !condS (1 : Int) a b) == true) =
                true)))))
      (VB (condS (3 : Int) a b && true)
        (VB (condS (4 : Int) a b && false)
          (VB (condS (5 : Int) a b && true)
            (VB (condS (6 : Int) a b && false)
              (((false && condS (4 : Int) a b == (condS (3 : Int) a b || condS (1 : Int) a b) && condS (6 : Int) a b == (condS (5 : Int) a b || condS (1 : Int) a b) && condS (2 : Int) a b == !condS (1 : Int) a b) ==
                  true) =
                true)
              (((false && condS (4 : Int) a b == (condS (3 : Int) a b || condS (1 : Int) a b) && condS (6 : Int) a b == (condS (5 : Int) a b || condS (1 : Int) a b) && condS (2 : Int) a b == !condS (1 : Int) a b) ==
                  true) =
                true))
            (VB (condS (6 : Int) a b && false)
              (((false && condS (4 : Int) a b == (condS (3 : Int) a b || condS (1 : Int) a b) && condS (6 : Int) a b == (condS (5 : Int) a b || condS (1 : Int) a b) && condS (2 : Int) a b == !condS (1 : Int) a b) ==
                  true) =
                true)
              (((false && condS (4 : Int) a b == (condS (3 : Int) a b || condS (1 : Int) a b) && condS (6 : Int) a b == (condS (5 : Int) a b || condS (1 : Int) a b) && condS (2 : Int) a b == !condS (1 : Int) a b) ==
                  true) =
                true)))
          (VB (condS (5 : Int) a b && true)
            (VB (condS (6 : Int) a b && false)
              (((false && condS (4 : Int) a b == (condS (3 : Int) a b || condS (1 : Int) a b) && condS (6 : Int) a b == (condS (5 : Int) a b || condS (1 : Int) a b) && condS (2 : Int) a b == !condS (1 : Int) a b) ==
                  true) =
                true)
              (((false && condS (4 : Int) a b == (condS (3 : Int) a b || condS (1 : Int) a b) && condS (6 : Int) a b == (condS (5 : Int) a b || condS (1 : Int) a b) && condS (2 : Int) a b == !condS (1 : Int) a b) ==
                  true) =
                true))
            (VB (condS (6 : Int) a b && false)
              (((false && condS (4 : Int) a b == (condS (3 : Int) a b || condS (1 : Int) a b) && condS (6 : Int) a b == (condS (5 : Int) a b || condS (1 : Int) a b) && condS (2 : Int) a b == !condS (1 : Int) a b) ==
                  true) =
                true)
              (((true && condS (4 : Int) a b == (condS (3 : Int) a b || condS (1 : Int) a b) && condS (6 : Int) a b == (condS (5 : Int) a b || condS (1 : Int) a b) && condS (2 : Int) a b == !condS (1 : Int) a b) == true) =
                true))))
        (VB (condS (4 : Int) a b && false)
          (VB (condS (5 : Int) a b && true)
            (VB (condS (6 : Int) a b && false)
              (((false && condS (4 : Int) a b == (condS (3 : Int) a b || condS (1 : Int) a b) && condS (6 : Int) a b == (condS (5 : Int) a b || condS (1 : Int) a b) && condS (2 : Int) a b == !condS (1 : Int) a b) ==
                  true) =
                true)
              (((false && condS (4 : Int) a b == (condS (3 : Int) a b || condS (1 : Int) a b) && condS (6 : Int) a b == (condS (5 : Int) a b || condS (1 : Int) a b) && condS (2 : Int) a b == !condS (1 : Int) a b) ==
                  true) =
                true))
            (VB (condS (6 : Int) a b && false)
              (((false && condS (4 : Int) a b == (condS (3 : Int) a b || condS (1 : Int) a b) && condS (6 : Int) a b == (condS (5 : Int) a b || condS (1 : Int) a b) && condS (2 : Int) a b == !condS (1 : Int) a b) ==
                  true) =
                true)
              (((true && condS (4 : Int) a b == (condS (3 : Int) a b || condS (1 : Int) a b) && condS (6 : Int) a b == (condS (5 : Int) a b || condS (1 : Int) a b) && condS (2 : Int) a b == !condS (1 : Int) a b) == true) =
                true)))
          (VB (condS (5 : Int) a b && true)
            (VB (condS (6 : Int) a b && false)
              (((false && condS (4 : Int) a b == (condS (3 : Int) a b || condS (1 : Int) a b) && condS (6 : Int) a b == (condS (5 : Int) a b || condS (1 : Int) a b) && condS (2 : Int) a b == !condS (1 : Int) a b) ==
                  true) =
                true)
              (((true && condS (4 : Int) a b == (condS (3 : Int) a b || condS (1 : Int) a b) && condS (6 : Int) a b == (condS (5 : Int) a b || condS (1 : Int) a b) && condS (2 : Int) a b == !condS (1 : Int) a b) == true) =
                true))
            (VB (condS (6 : Int) a b && false)
              (((true && condS (4 : Int) a b == (condS (3 : Int) a b || condS (1 : Int) a b) && condS (6 : Int) a b == (condS (5 : Int) a b || condS (1 : Int) a b) && condS (2 : Int) a b == !condS (1 : Int) a b) == true) =
                true)
              (((false && condS (4 : Int) a b == (condS (3 : Int) a b || condS (1 : Int) a b) && condS (6 : Int) a b == (condS (5 : Int) a b || condS (1 : Int) a b) && condS (2 : Int) a b == !condS (1 : Int) a b) ==
                  true) =
                true))))))) := by
  kernel_rfl

end Go.Proofs.YtjkkkldkimdajaaDoor
