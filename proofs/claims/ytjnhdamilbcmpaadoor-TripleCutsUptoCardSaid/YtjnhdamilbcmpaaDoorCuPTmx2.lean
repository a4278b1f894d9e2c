import Derived.Test.YtjnhdamilbcmpaaDoorCuPTmx0
import Derived.Test.YtjnhdamilbcmpaaDoorCuPTmx1
namespace Go.Proofs.YtjnhdamilbcmpaaDoor.PTm
open Go.RowKit Go.Proofs.YtjnhdamilbcmpaaDoorW.PrintWords Go.Proofs.YtjnhdamilbcmpaaDoorW.PrintLast Go.Proofs.YtjnhdamilbcmpaaDoorW.PrintMore
attribute [local go_sem] max2_int min2_int max_two min_two max_three min_three max_four min_four
set_option linter.unusedVariables false
set_option linter.unusedSimpArgs false
set_option maxHeartbeats 8000000
set_option maxRecDepth 100000
theorem eqA38 (d : Nat) (w : World) (x0 y0 : Int) (x1 y1 : ByteArray) (x2 y2 : ByteArray) (x3 y3 : Int) (x4 y4 : ByteArray) (x5 y5 : ByteArray) (x6 y6 : Int) (x7 y7 : ByteArray) (x8 y8 : ByteArray) :
  (Op.equalIn (d + 3) 38 (.agg #[.int .i64 x0, .string x1, .string x2, .int .i64 x3, .string x4, .string x5, .int .i64 x6, .string x7, .string x8]) (.agg #[.int .i64 y0, .string y1, .string y2, .int .i64 y3, .string y4, .string y5, .int .i64 y6, .string y7, .string y8])).run Tryd.prog w = .ok ((x0 == y0 && (x1.toList == y1.toList && (x2.toList == y2.toList))) && ((x3 == y3 && (x4.toList == y4.toList && (x5.toList == y5.toList))) && ((x6 == y6 && (x7.toList == y7.toList && (x8.toList == y8.toList)))))) w := by
 refine eqAr_of (m := 3) Tryd.underlying38 k1_ k1_ ?_
 refine eqi_cons (by go_simp) (by go_simp) (eqA36 (d + 0) w _ _ _ _ _ _) ?_
 refine eqi_cons (by go_simp) (by go_simp) (eqA36 (d + 0) w _ _ _ _ _ _) ?_
 exact eqi_last (by go_simp) (by go_simp) (eqA36 (d + 0) w _ _ _ _ _ _)
end Go.Proofs.YtjnhdamilbcmpaaDoor.PTm
