/- WIRE 9: the law of readers. -/
import Derived.Test.YtfgedkmopgkonaaW9a
namespace Go.Proofs.Ytfgedkmopgkonaa
open Pw Go
set_option maxRecDepth 100000

theorem reads_vc (s : List UInt8) (a e f n : Int) (w : List UInt8) (x y : Int) : (vcFun (mkE Try.prog (tblOf tbl2) fun _ _ => none) 20 4 [.agg [.str s, .int .i64 a, .int .i64 e, .int .i64 f], .agg [.int .i64 n, .str w, .int .i64 x, .int .i64 y]] .nil 0 (isBool true)).sat = (
  VB (decide ((↑s.length : Int) > 300) || decide ((↑w.length : Int) > 300)) ((true == true) = true)
    (NB (decide (s.length ≤ 9223372036854775807))
      (NB (decide (s.length ≤ 9223372036854775807))
        (VB
          (!((rdUint { s := s, at_ := a, err := e, fat := f } n).fst.s == (rdUint { s := s, at_ := a, err := e, fat := f } n).fst.s &&
                ((rdUint { s := s, at_ := a, err := e, fat := f } n).fst.at_ == (rdUint { s := s, at_ := a, err := e, fat := f } n).fst.at_ &&
                  ((rdUint { s := s, at_ := a, err := e, fat := f } n).fst.err == (rdUint { s := s, at_ := a, err := e, fat := f } n).fst.err &&
                    ((rdUint { s := s, at_ := a, err := e, fat := f } n).fst.fat == (rdUint { s := s, at_ := a, err := e, fat := f } n).fst.fat && true)))) ||
            (rdUint { s := s, at_ := a, err := e, fat := f } n).snd != (rdUint { s := s, at_ := a, err := e, fat := f } n).snd)
          ((false == true) = true)
          (NB (decide (s.length ≤ 9223372036854775807))
            (NB (decide (s.length ≤ 9223372036854775807))
              (VB
                (!((rdInt { s := s, at_ := a, err := e, fat := f }).fst.s == (rdInt { s := s, at_ := a, err := e, fat := f }).fst.s &&
                      ((rdInt { s := s, at_ := a, err := e, fat := f }).fst.at_ == (rdInt { s := s, at_ := a, err := e, fat := f }).fst.at_ &&
                        ((rdInt { s := s, at_ := a, err := e, fat := f }).fst.err == (rdInt { s := s, at_ := a, err := e, fat := f }).fst.err &&
                          ((rdInt { s := s, at_ := a, err := e, fat := f }).fst.fat == (rdInt { s := s, at_ := a, err := e, fat := f }).fst.fat && true)))) ||
                  (rdInt { s := s, at_ := a, err := e, fat := f }).snd != (rdInt { s := s, at_ := a, err := e, fat := f }).snd)
                ((false == true) = true)
                (NB (decide (s.length ≤ 9223372036854775807))
                  (NB (decide (s.length ≤ 9223372036854775807))
                    (VB
                      (!((rdBytes { s := s, at_ := a, err := e, fat := f } n).fst.s == (rdBytes { s := s, at_ := a, err := e, fat := f } n).fst.s &&
                            ((rdBytes { s := s, at_ := a, err := e, fat := f } n).fst.at_ == (rdBytes { s := s, at_ := a, err := e, fat := f } n).fst.at_ &&
                              ((rdBytes { s := s, at_ := a, err := e, fat := f } n).fst.err == (rdBytes { s := s, at_ := a, err := e, fat := f } n).fst.err &&
                                ((rdBytes { s := s, at_ := a, err := e, fat := f } n).fst.fat == (rdBytes { s := s, at_ := a, err := e, fat := f } n).fst.fat && true)))) ||
                        !(rdBytes { s := s, at_ := a, err := e, fat := f } n).snd == (rdBytes { s := s, at_ := a, err := e, fat := f } n).snd)
                      ((false == true) = true)
                      (NB (decide (s.length ≤ 9223372036854775807))
                        (NB (decide (s.length ≤ 9223372036854775807))
                          (VB
                            (!((rdSized { s := s, at_ := a, err := e, fat := f } n).fst.s == (rdSized { s := s, at_ := a, err := e, fat := f } n).fst.s &&
                                  ((rdSized { s := s, at_ := a, err := e, fat := f } n).fst.at_ == (rdSized { s := s, at_ := a, err := e, fat := f } n).fst.at_ &&
                                    ((rdSized { s := s, at_ := a, err := e, fat := f } n).fst.err == (rdSized { s := s, at_ := a, err := e, fat := f } n).fst.err &&
                                      ((rdSized { s := s, at_ := a, err := e, fat := f } n).fst.fat == (rdSized { s := s, at_ := a, err := e, fat := f } n).fst.fat && true)))) ||
                              !(rdSized { s := s, at_ := a, err := e, fat := f } n).snd == (rdSized { s := s, at_ := a, err := e, fat := f } n).snd)
                            ((false == true) = true)
                            (NB (decide (s.length ≤ 9223372036854775807 ∧ w.length ≤ 9223372036854775807))
                              (NB (decide (s.length ≤ 9223372036854775807 ∧ w.length ≤ 9223372036854775807))
                                (NB
                                  (impB
                                    (isW true
                                      ((rdWant { s := s, at_ := a, err := e, fat := f } w).s == (rdWant { s := s, at_ := a, err := e, fat := f } w).s &&
                                        ((rdWant { s := s, at_ := a, err := e, fat := f } w).at_ == (rdWant { s := s, at_ := a, err := e, fat := f } w).at_ &&
                                          ((rdWant { s := s, at_ := a, err := e, fat := f } w).err == (rdWant { s := s, at_ := a, err := e, fat := f } w).err &&
                                            ((rdWant { s := s, at_ := a, err := e, fat := f } w).fat == (rdWant { s := s, at_ := a, err := e, fat := f } w).fat && true)))))
                                    (decide (s.length ≤ 9223372036854775807)))
                                  (NB
                                    (impB
                                      (isW true
                                        ((rdWant { s := s, at_ := a, err := e, fat := f } w).s == (rdWant { s := s, at_ := a, err := e, fat := f } w).s &&
                                          ((rdWant { s := s, at_ := a, err := e, fat := f } w).at_ == (rdWant { s := s, at_ := a, err := e, fat := f } w).at_ &&
                                            ((rdWant { s := s, at_ := a, err := e, fat := f } w).err == (rdWant { s := s, at_ := a, err := e, fat := f } w).err &&
                                              ((rdWant { s := s, at_ := a, err := e, fat := f } w).fat == (rdWant { s := s, at_ := a, err := e, fat := f } w).fat && true)))))
                                      (decide (s.length ≤ 9223372036854775807)))
                                    (NB
                                      (impB
                                        (isW true
                                          ((rdWant { s := s, at_ := a, err := e, fat := f } w).s == (rdWant { s := s, at_ := a, err := e, fat := f } w).s &&
                                              ((rdWant { s := s, at_ := a, err := e, fat := f } w).at_ == (rdWant { s := s, at_ := a, err := e, fat := f } w).at_ &&
                                                ((rdWant { s := s, at_ := a, err := e, fat := f } w).err == (rdWant { s := s, at_ := a, err := e, fat := f } w).err &&
                                                  ((rdWant { s := s, at_ := a, err := e, fat := f } w).fat == (rdWant { s := s, at_ := a, err := e, fat := f } w).fat && true))) &&
                                            ((rdFailX { s := s, at_ := a, err := e, fat := f } x y).s == (rdFailX { s := s, at_ := a, err := e, fat := f } x y).s &&
                                              ((rdFailX { s := s, at_ := a, err := e, fat := f } x y).at_ == (rdFailX { s := s, at_ := a, err := e, fat := f } x y).at_ &&
                                                ((rdFailX { s := s, at_ := a, err := e, fat := f } x y).err == (rdFailX { s := s, at_ := a, err := e, fat := f } x y).err &&
                                                  ((rdFailX { s := s, at_ := a, err := e, fat := f } x y).fat == (rdFailX { s := s, at_ := a, err := e, fat := f } x y).fat && true))))))
                                        (decide (s.length ≤ 9223372036854775807)))
                                      (NB
                                        (impB
                                          (isW true
                                            ((rdWant { s := s, at_ := a, err := e, fat := f } w).s == (rdWant { s := s, at_ := a, err := e, fat := f } w).s &&
                                                ((rdWant { s := s, at_ := a, err := e, fat := f } w).at_ == (rdWant { s := s, at_ := a, err := e, fat := f } w).at_ &&
                                                  ((rdWant { s := s, at_ := a, err := e, fat := f } w).err == (rdWant { s := s, at_ := a, err := e, fat := f } w).err &&
                                                    ((rdWant { s := s, at_ := a, err := e, fat := f } w).fat == (rdWant { s := s, at_ := a, err := e, fat := f } w).fat && true))) &&
                                              ((rdFailX { s := s, at_ := a, err := e, fat := f } x y).s == (rdFailX { s := s, at_ := a, err := e, fat := f } x y).s &&
                                                ((rdFailX { s := s, at_ := a, err := e, fat := f } x y).at_ == (rdFailX { s := s, at_ := a, err := e, fat := f } x y).at_ &&
                                                  ((rdFailX { s := s, at_ := a, err := e, fat := f } x y).err == (rdFailX { s := s, at_ := a, err := e, fat := f } x y).err &&
                                                    ((rdFailX { s := s, at_ := a, err := e, fat := f } x y).fat == (rdFailX { s := s, at_ := a, err := e, fat := f } x y).fat && true))))))
                                          (decide (s.length ≤ 9223372036854775807)))
                                        ((((rdWant { s := s, at_ := a, err := e, fat := f } w).s == (rdWant { s := s, at_ := a, err := e, fat := f } w).s &&
                                                      ((rdWant { s := s, at_ := a, err := e, fat := f } w).at_ == (rdWant { s := s, at_ := a, err := e, fat := f } w).at_ &&
                                                        ((rdWant { s := s, at_ := a, err := e, fat := f } w).err == (rdWant { s := s, at_ := a, err := e, fat := f } w).err &&
                                                          ((rdWant { s := s, at_ := a, err := e, fat := f } w).fat == (rdWant { s := s, at_ := a, err := e, fat := f } w).fat && true))) &&
                                                    ((rdFailX { s := s, at_ := a, err := e, fat := f } x y).s == (rdFailX { s := s, at_ := a, err := e, fat := f } x y).s &&
                                                      ((rdFailX { s := s, at_ := a, err := e, fat := f } x y).at_ == (rdFailX { s := s, at_ := a, err := e, fat := f } x y).at_ &&
                                                        ((rdFailX { s := s, at_ := a, err := e, fat := f } x y).err == (rdFailX { s := s, at_ := a, err := e, fat := f } x y).err &&
                                                          ((rdFailX { s := s, at_ := a, err := e, fat := f } x y).fat == (rdFailX { s := s, at_ := a, err := e, fat := f } x y).fat && true)))) &&
                                                  ((rdEnd { s := s, at_ := a, err := e, fat := f }).err == (rdEnd { s := s, at_ := a, err := e, fat := f }).err &&
                                                    ((rdEnd { s := s, at_ := a, err := e, fat := f }).fat == (rdEnd { s := s, at_ := a, err := e, fat := f }).fat && true)) &&
                                                (s == s && (0 == 0 && (0 == 0 && (0 == 0 && true)))) &&
                                              true) ==
                                            true) =
                                          true)))))))))))))))))))) := by
  kernel_rfl

end Go.Proofs.Ytfgedkmopgkonaa
