/- What the functions that UnrollBuilds calls compute, as models, and that they compute it: written by a program of mine. -/
import Derived.Test.YtnblafiefaalgaaProg
import Derived.Test.YtnblafiefaalgaaUnrollBuildsM1
set_option linter.all false
set_option maxRecDepth 100000
namespace Go.Proofs.Ytnblafiefaalgaa.unrollBuilds
open Go Go.Sl
def unroll_build_step_i2_b1 (c0 : Int) (i12 : Int) (x13 : (List (List (List Int)))) : Option (Flow (List (List (List Int))) (List (List (List Int)))) :=
(ck (0 ≤ w64 (c0 + (1 : Int)) ∧ w64 (c0 + (1 : Int)) = w64 (c0 + (1 : Int)) ∧ w64 (c0 + (1 : Int)) ≤ 4294967296)).bind fun _ =>
(idx x13 i12).bind fun v17 =>
some (.next (List.set x13 (Int.toNat i12) (List.replicate (Int.toNat (w64 (c0 + (1 : Int)))) ([] : List Int))))
@[reducible] def unroll_build_step_i2_s2 (c0 : Int) (c1 : Int) (c2 : (List (List (Int × (Int × Int))))) (c3 : (List Int)) (c4 : (List (List Int))) (c5 : (List (Int × (Int × Int)))) (c6 : (Option (List ((Int × (Int × Int)) × Int)))) (v : Int × (List (List (List Int)))) : Fr × LL := ([(0, .one (.ptr 1000 0)), (2, aI (List.length c3 : Int)), (3, aI c0), (4, .one (.slc 32)), (34, aI (List.length (List.replicate (Int.toNat (List.length c3 : Int)) ([] : List (List Int))) : Int)), (35, aI v.1)], [(1000, .cells [.slc 2001, .slc 2002, .dat tI c0, .dat tI c1, .dat (.slice (.slice t3)) c2, .dat (.slice tI) c3, .dat (.slice (.slice tI)) c4]), (32, .rows 1 (.slice (.slice tI)) v.2 []), (2001, .seq t3 c5), (2002, .map t3 tI c6)])
@[reducible] def unroll_build_step_i2_s3 (c0 : Int) (c1 : Int) (c2 : (List (List (Int × (Int × Int))))) (c3 : (List Int)) (c4 : (List (List Int))) (c5 : (List (Int × (Int × Int)))) (c6 : (Option (List ((Int × (Int × Int)) × Int)))) (v : (List (List (List Int)))) : Fr × LL := ([(0, .one (.ptr 1000 0)), (2, aI (List.length c3 : Int)), (3, aI c0), (4, .one (.slc 32))], [(1000, .cells [.slc 2001, .slc 2002, .dat tI c0, .dat tI c1, .dat (.slice (.slice t3)) c2, .dat (.slice tI) c3, .dat (.slice (.slice tI)) c4]), (32, .rows 1 (.slice (.slice tI)) v []), (2001, .seq t3 c5), (2002, .map t3 tI c6)])
def unroll_build_step_i2_g293 (v1554 : Int) (i2196 : Int) (x2197 : (Int × Int × (List (List (Int × (Int × Int)))) × (List Int) × (List (List Int)) × (List (List (List Int))) × (List Int) × (List (Int × (Int × Int))) × (Option (List ((Int × (Int × Int)) × Int))))) : Option (Int × Int × Int × (List (List (Int × (Int × Int)))) × (List Int) × (List (List Int)) × (List (Int × (Int × Int))) × (Option (List ((Int × (Int × Int)) × Int)))) :=
bif (i2196 == (0 : Int)) && (decide (v1554 ≥ (0 : Int))) then
((gate_Maker_Put_i5 (2 : Int) v1554 (0 : Int) x2197.1 x2197.2.1 x2197.2.2.1 x2197.2.2.2.1 x2197.2.2.2.2.1 x2197.2.2.2.2.2.2.2.1 x2197.2.2.2.2.2.2.2.2).bind fun r2244 =>
some (r2244.1, r2244.2.1, r2244.2.2.1, r2244.2.2.2.1, r2244.2.2.2.2.1, r2244.2.2.2.2.2.1, r2244.2.2.2.2.2.2.1, r2244.2.2.2.2.2.2.2))
else
(some (v1554, x2197.1, x2197.2.1, x2197.2.2.1, x2197.2.2.2.1, x2197.2.2.2.2.1, x2197.2.2.2.2.2.2.2.1, x2197.2.2.2.2.2.2.2.2))
def unroll_build_step_i2_g294 (x2197 : (Int × Int × (List (List (Int × (Int × Int)))) × (List Int) × (List (List Int)) × (List (List (List Int))) × (List Int) × (List (Int × (Int × Int))) × (Option (List ((Int × (Int × Int)) × Int))))) (v2199 : (Int × (Int × Int))) (v2253 : Int) : Option (List Int) :=
bif v2199.1 == (1 : Int) then
((ck ((List.length x2197.2.2.2.2.2.2.1 : Int) + 1 ≤ 4294967296)).bind fun _ =>
some (x2197.2.2.2.2.2.2.1 ++ [v2253]))
else
(some x2197.2.2.2.2.2.2.1)
@[reducible] def unroll_build_step_i2_s295 (c0 : Int) (c3 : (List Int)) (i1551 : Int) (x1552 : (Int × Int × (List (List (Int × (Int × Int)))) × (List Int) × (List (List Int)) × (List (List (List Int))) × (List Int) × (List (Int × (Int × Int))) × (Option (List ((Int × (Int × Int)) × Int))))) (v1554 : Int) (v1557 : (List Int)) (i2035 : Int) (x2036 : (Int × Int × (List (List (Int × (Int × Int)))) × (List Int) × (List (List Int)) × (List (List (List Int))) × (List Int) × (List Int) × (List (Int × (Int × Int))) × (Option (List ((Int × (Int × Int)) × Int))))) (v2038 : Int) (v2042 : (List (Int × (Int × Int)))) (i2196 : Int) (x2197 : (Int × Int × (List (List (Int × (Int × Int)))) × (List Int) × (List (List Int)) × (List (List (List Int))) × (List Int) × (List (Int × (Int × Int))) × (Option (List ((Int × (Int × Int)) × Int))))) (v2199 : (Int × (Int × Int))) (r2248 : (Int × Int × Int × (List (List (Int × (Int × Int)))) × (List Int) × (List (List Int)) × (List (Int × (Int × Int))) × (Option (List ((Int × (Int × Int)) × Int))))) (v2253 : Int) (v : (List Int)) : Fr × LL := ([(0, .one (.ptr 1000 0)), (2, aI (List.length c3 : Int)), (3, aI c0), (4, .one (.slc 32)), (6, .one (.slc 184)), (7, aI i1551), (8, aI v1554), (9, .one (.slc 117)), (10, .one (.slc 73)), (12, aI v2038), (14, .one (.ptr 14 0)), (16, aI v2253), (48, aD (.slice tI) c3), (49, aI (List.length c3 : Int)), (50, aI i1551), (63, aD (.slice tI) (sub v1557 (0 : Int) c0)), (64, aI (List.length (sub v1557 (0 : Int) c0) : Int)), (65, aI i2035), (81, aD (.slice t3) v2042), (82, aI (List.length v2042 : Int)), (83, aI i2196)], [(1000, .cells [.slc 2001, .slc 2002, .dat tI r2248.2.1, .dat tI r2248.2.2.1, .dat (.slice (.slice t3)) r2248.2.2.2.1, .dat (.slice tI) r2248.2.2.2.2.1, .dat (.slice (.slice tI)) r2248.2.2.2.2.2.1]), (32, .rows 1 (.slice (.slice tI)) x2197.2.2.2.2.2.1 []), (184, .seq tI x1552.2.2.2.2.2.2.1), (117, .seq tI v), (73, .seq tI (x2036.2.2.2.2.2.2.2.1 ++ [v2038])), (14, .one t3 v2199), (2001, .seq t3 r2248.2.2.2.2.2.2.1), (2002, .map t3 tI r2248.2.2.2.2.2.2.2)])
@[reducible] def unroll_build_step_i2_s296 (c0 : Int) (c3 : (List Int)) (i1551 : Int) (x1552 : (Int × Int × (List (List (Int × (Int × Int)))) × (List Int) × (List (List Int)) × (List (List (List Int))) × (List Int) × (List (Int × (Int × Int))) × (Option (List ((Int × (Int × Int)) × Int))))) (v1554 : Int) (v1557 : (List Int)) (i2035 : Int) (x2036 : (Int × Int × (List (List (Int × (Int × Int)))) × (List Int) × (List (List Int)) × (List (List (List Int))) × (List Int) × (List Int) × (List (Int × (Int × Int))) × (Option (List ((Int × (Int × Int)) × Int))))) (v2038 : Int) (v2042 : (List (Int × (Int × Int)))) (i2196 : Int) (x2197 : (Int × Int × (List (List (Int × (Int × Int)))) × (List Int) × (List (List Int)) × (List (List (List Int))) × (List Int) × (List (Int × (Int × Int))) × (Option (List ((Int × (Int × Int)) × Int))))) (v2199 : (Int × (Int × Int))) (r2248 : (Int × Int × Int × (List (List (Int × (Int × Int)))) × (List Int) × (List (List Int)) × (List (Int × (Int × Int))) × (Option (List ((Int × (Int × Int)) × Int))))) (v : Int) : Fr × LL := ([(0, .one (.ptr 1000 0)), (2, aI (List.length c3 : Int)), (3, aI c0), (4, .one (.slc 32)), (6, .one (.slc 184)), (7, aI i1551), (8, aI v1554), (9, .one (.slc 117)), (10, .one (.slc 73)), (12, aI v2038), (14, .one (.ptr 14 0)), (16, aI v), (48, aD (.slice tI) c3), (49, aI (List.length c3 : Int)), (50, aI i1551), (63, aD (.slice tI) (sub v1557 (0 : Int) c0)), (64, aI (List.length (sub v1557 (0 : Int) c0) : Int)), (65, aI i2035), (81, aD (.slice t3) v2042), (82, aI (List.length v2042 : Int)), (83, aI i2196)], [(1000, .cells [.slc 2001, .slc 2002, .dat tI r2248.2.1, .dat tI r2248.2.2.1, .dat (.slice (.slice t3)) r2248.2.2.2.1, .dat (.slice tI) r2248.2.2.2.2.1, .dat (.slice (.slice tI)) r2248.2.2.2.2.2.1]), (32, .rows 1 (.slice (.slice tI)) x2197.2.2.2.2.2.1 []), (184, .seq tI x1552.2.2.2.2.2.2.1), (117, .seq tI x2197.2.2.2.2.2.2.1), (73, .seq tI (x2036.2.2.2.2.2.2.2.1 ++ [v2038])), (14, .one t3 v2199), (2001, .seq t3 r2248.2.2.2.2.2.2.1), (2002, .map t3 tI r2248.2.2.2.2.2.2.2)])
@[reducible] def unroll_build_step_i2_s297 (c0 : Int) (c3 : (List Int)) (i1551 : Int) (x1552 : (Int × Int × (List (List (Int × (Int × Int)))) × (List Int) × (List (List Int)) × (List (List (List Int))) × (List Int) × (List (Int × (Int × Int))) × (Option (List ((Int × (Int × Int)) × Int))))) (v1554 : Int) (v1557 : (List Int)) (i2035 : Int) (x2036 : (Int × Int × (List (List (Int × (Int × Int)))) × (List Int) × (List (List Int)) × (List (List (List Int))) × (List Int) × (List Int) × (List (Int × (Int × Int))) × (Option (List ((Int × (Int × Int)) × Int))))) (v2038 : Int) (v2042 : (List (Int × (Int × Int)))) (i2196 : Int) (x2197 : (Int × Int × (List (List (Int × (Int × Int)))) × (List Int) × (List (List Int)) × (List (List (List Int))) × (List Int) × (List (Int × (Int × Int))) × (Option (List ((Int × (Int × Int)) × Int))))) (v2199 : (Int × (Int × Int))) (v : (Int × Int × Int × (List (List (Int × (Int × Int)))) × (List Int) × (List (List Int)) × (List (Int × (Int × Int))) × (Option (List ((Int × (Int × Int)) × Int))))) : Fr × LL := ([(0, .one (.ptr 1000 0)), (2, aI (List.length c3 : Int)), (3, aI c0), (4, .one (.slc 32)), (6, .one (.slc 184)), (7, aI i1551), (8, aI v1554), (9, .one (.slc 117)), (10, .one (.slc 73)), (12, aI v2038), (13, aI i2196), (14, .one (.ptr 14 0)), (15, aI v.1), (48, aD (.slice tI) c3), (49, aI (List.length c3 : Int)), (50, aI i1551), (63, aD (.slice tI) (sub v1557 (0 : Int) c0)), (64, aI (List.length (sub v1557 (0 : Int) c0) : Int)), (65, aI i2035), (81, aD (.slice t3) v2042), (82, aI (List.length v2042 : Int)), (83, aI i2196)], [(1000, .cells [.slc 2001, .slc 2002, .dat tI v.2.1, .dat tI v.2.2.1, .dat (.slice (.slice t3)) v.2.2.2.1, .dat (.slice tI) v.2.2.2.2.1, .dat (.slice (.slice tI)) v.2.2.2.2.2.1]), (32, .rows 1 (.slice (.slice tI)) x2197.2.2.2.2.2.1 []), (184, .seq tI x1552.2.2.2.2.2.2.1), (117, .seq tI x2197.2.2.2.2.2.2.1), (73, .seq tI (x2036.2.2.2.2.2.2.2.1 ++ [v2038])), (14, .one t3 v2199), (2001, .seq t3 v.2.2.2.2.2.2.1), (2002, .map t3 tI v.2.2.2.2.2.2.2)])
def unroll_build_step_i2_b298 (c3 : (List Int)) (i1551 : Int) (v1554 : Int) (v2038 : Int) (i2196 : Int) (v2199 : (Int × (Int × Int))) (x2197 : (Int × Int × (List (List (Int × (Int × Int)))) × (List Int) × (List (List Int)) × (List (List (List Int))) × (List Int) × (List (Int × (Int × Int))) × (Option (List ((Int × (Int × Int)) × Int))))) : Option (Flow (Int × Int × (List (List (Int × (Int × Int)))) × (List Int) × (List (List Int)) × (List (List (List Int))) × (List Int) × (List (Int × (Int × Int))) × (Option (List ((Int × (Int × Int)) × Int)))) (Int × Int × (List (List (Int × (Int × Int)))) × (List Int) × (List (List Int)) × (List (List (List Int))) × (List Int) × (List (Int × (Int × Int))) × (Option (List ((Int × (Int × Int)) × Int))))) :=
(unroll_build_step_i2_g293 v1554 i2196 x2197).bind fun v2246 =>
(unroll_build_both_i2 v2038 v2246.1 v2246.2.1 v2246.2.2.1 v2246.2.2.2.1 v2246.2.2.2.2.1 v2246.2.2.2.2.2.1 v2246.2.2.2.2.2.2.1 v2246.2.2.2.2.2.2.2).bind fun r2248 =>
(bif (decide (v1554 < (0 : Int))) && (i2196 == (0 : Int)) then
(some v2038)
else
(some r2248.1)).bind fun v2253 =>
(unroll_build_step_i2_g294 x2197 v2199 v2253).bind fun v2261 =>
(idx x2197.2.2.2.2.2.1 (imin (imax (w64 (i1551 + v2199.2.1)) (0 : Int)) (w64 ((List.length c3 : Int) - (1 : Int))))).bind fun v2265 =>
(idx v2265 v2199.2.2).bind fun v2269 =>
(ck ((List.length v2269 : Int) + 1 ≤ 4294967296)).bind fun _ =>
some (.next (r2248.2.1, r2248.2.2.1, r2248.2.2.2.1, r2248.2.2.2.2.1, r2248.2.2.2.2.2.1, List.set x2197.2.2.2.2.2.1 (Int.toNat (imin (imax (w64 (i1551 + v2199.2.1)) (0 : Int)) (w64 ((List.length c3 : Int) - (1 : Int))))) (List.set v2265 (Int.toNat v2199.2.2) (v2269 ++ [v2253])), v2261, r2248.2.2.2.2.2.2.1, r2248.2.2.2.2.2.2.2))
@[reducible] def unroll_build_step_i2_s299 (c0 : Int) (c3 : (List Int)) (i1551 : Int) (x1552 : (Int × Int × (List (List (Int × (Int × Int)))) × (List Int) × (List (List Int)) × (List (List (List Int))) × (List Int) × (List (Int × (Int × Int))) × (Option (List ((Int × (Int × Int)) × Int))))) (v1554 : Int) (v1557 : (List Int)) (i2035 : Int) (x2036 : (Int × Int × (List (List (Int × (Int × Int)))) × (List Int) × (List (List Int)) × (List (List (List Int))) × (List Int) × (List Int) × (List (Int × (Int × Int))) × (Option (List ((Int × (Int × Int)) × Int))))) (v2038 : Int) (v2042 : (List (Int × (Int × Int)))) (v : Int × (Int × Int × (List (List (Int × (Int × Int)))) × (List Int) × (List (List Int)) × (List (List (List Int))) × (List Int) × (List (Int × (Int × Int))) × (Option (List ((Int × (Int × Int)) × Int))))) : Fr × LL := ([(0, .one (.ptr 1000 0)), (2, aI (List.length c3 : Int)), (3, aI c0), (4, .one (.slc 32)), (6, .one (.slc 184)), (7, aI i1551), (8, aI v1554), (9, .one (.slc 117)), (10, .one (.slc 73)), (12, aI v2038), (48, aD (.slice tI) c3), (49, aI (List.length c3 : Int)), (50, aI i1551), (63, aD (.slice tI) (sub v1557 (0 : Int) c0)), (64, aI (List.length (sub v1557 (0 : Int) c0) : Int)), (65, aI i2035), (81, aD (.slice t3) v2042), (82, aI (List.length v2042 : Int)), (83, aI v.1)], [(1000, .cells [.slc 2001, .slc 2002, .dat tI v.2.1, .dat tI v.2.2.1, .dat (.slice (.slice t3)) v.2.2.2.1, .dat (.slice tI) v.2.2.2.2.1, .dat (.slice (.slice tI)) v.2.2.2.2.2.1]), (32, .rows 1 (.slice (.slice tI)) v.2.2.2.2.2.2.1 []), (184, .seq tI x1552.2.2.2.2.2.2.1), (117, .seq tI v.2.2.2.2.2.2.2.1), (73, .seq tI (x2036.2.2.2.2.2.2.2.1 ++ [v2038])), (2001, .seq t3 v.2.2.2.2.2.2.2.2.1), (2002, .map t3 tI v.2.2.2.2.2.2.2.2.2)])
@[reducible] def unroll_build_step_i2_s300 (c0 : Int) (c3 : (List Int)) (i1551 : Int) (x1552 : (Int × Int × (List (List (Int × (Int × Int)))) × (List Int) × (List (List Int)) × (List (List (List Int))) × (List Int) × (List (Int × (Int × Int))) × (Option (List ((Int × (Int × Int)) × Int))))) (v1554 : Int) (v1557 : (List Int)) (i2035 : Int) (x2036 : (Int × Int × (List (List (Int × (Int × Int)))) × (List Int) × (List (List Int)) × (List (List (List Int))) × (List Int) × (List Int) × (List (Int × (Int × Int))) × (Option (List ((Int × (Int × Int)) × Int))))) (v2038 : Int) (v : (Int × Int × (List (List (Int × (Int × Int)))) × (List Int) × (List (List Int)) × (List (List (List Int))) × (List Int) × (List (Int × (Int × Int))) × (Option (List ((Int × (Int × Int)) × Int))))) : Fr × LL := ([(0, .one (.ptr 1000 0)), (2, aI (List.length c3 : Int)), (3, aI c0), (4, .one (.slc 32)), (6, .one (.slc 184)), (7, aI i1551), (8, aI v1554), (9, .one (.slc 117)), (10, .one (.slc 73)), (48, aD (.slice tI) c3), (49, aI (List.length c3 : Int)), (50, aI i1551), (63, aD (.slice tI) (sub v1557 (0 : Int) c0)), (64, aI (List.length (sub v1557 (0 : Int) c0) : Int)), (65, aI i2035)], [(1000, .cells [.slc 2001, .slc 2002, .dat tI v.1, .dat tI v.2.1, .dat (.slice (.slice t3)) v.2.2.1, .dat (.slice tI) v.2.2.2.1, .dat (.slice (.slice tI)) v.2.2.2.2.1]), (32, .rows 1 (.slice (.slice tI)) v.2.2.2.2.2.1 []), (184, .seq tI x1552.2.2.2.2.2.2.1), (117, .seq tI v.2.2.2.2.2.2.1), (73, .seq tI (x2036.2.2.2.2.2.2.2.1 ++ [v2038])), (2001, .seq t3 v.2.2.2.2.2.2.2.1), (2002, .map t3 tI v.2.2.2.2.2.2.2.2)])
def unroll_build_step_i2_b301 (c3 : (List Int)) (i1551 : Int) (v1554 : Int) (i2035 : Int) (v2038 : Int) (x2036 : (Int × Int × (List (List (Int × (Int × Int)))) × (List Int) × (List (List Int)) × (List (List (List Int))) × (List Int) × (List Int) × (List (Int × (Int × Int))) × (Option (List ((Int × (Int × Int)) × Int))))) : Option (Flow (Int × Int × (List (List (Int × (Int × Int)))) × (List Int) × (List (List Int)) × (List (List (List Int))) × (List Int) × (List Int) × (List (Int × (Int × Int))) × (Option (List ((Int × (Int × Int)) × Int)))) (Int × Int × (List (List (Int × (Int × Int)))) × (List Int) × (List (List Int)) × (List (List (List Int))) × (List Int) × (List Int) × (List (Int × (Int × Int))) × (Option (List ((Int × (Int × Int)) × Int))))) :=
(ck ((List.length x2036.2.2.2.2.2.2.2.1 : Int) + 1 ≤ 4294967296)).bind fun _ =>
(idx x2036.2.2.1 i2035).bind fun v2042 =>
(forL (unroll_build_step_i2_b298 c3 i1551 v1554 v2038) (fun x2197 => (x2197.1, x2197.2.1, x2197.2.2.1, x2197.2.2.2.1, x2197.2.2.2.2.1, x2197.2.2.2.2.2.1, x2197.2.2.2.2.2.2.1, x2197.2.2.2.2.2.2.2.1, x2197.2.2.2.2.2.2.2.2)) v2042 0 (x2036.1, x2036.2.1, x2036.2.2.1, x2036.2.2.2.1, x2036.2.2.2.2.1, x2036.2.2.2.2.2.1, x2036.2.2.2.2.2.2.1, x2036.2.2.2.2.2.2.2.2.1, x2036.2.2.2.2.2.2.2.2.2)).bind fun v2273 =>
some (.next (v2273.1, v2273.2.1, v2273.2.2.1, v2273.2.2.2.1, v2273.2.2.2.2.1, v2273.2.2.2.2.2.1, v2273.2.2.2.2.2.2.1, x2036.2.2.2.2.2.2.2.1 ++ [v2038], v2273.2.2.2.2.2.2.2.1, v2273.2.2.2.2.2.2.2.2))
@[reducible] def unroll_build_step_i2_s302 (c0 : Int) (c3 : (List Int)) (i1551 : Int) (x1552 : (Int × Int × (List (List (Int × (Int × Int)))) × (List Int) × (List (List Int)) × (List (List (List Int))) × (List Int) × (List (Int × (Int × Int))) × (Option (List ((Int × (Int × Int)) × Int))))) (v1554 : Int) (v1557 : (List Int)) (v : Int × (Int × Int × (List (List (Int × (Int × Int)))) × (List Int) × (List (List Int)) × (List (List (List Int))) × (List Int) × (List Int) × (List (Int × (Int × Int))) × (Option (List ((Int × (Int × Int)) × Int))))) : Fr × LL := ([(0, .one (.ptr 1000 0)), (2, aI (List.length c3 : Int)), (3, aI c0), (4, .one (.slc 32)), (6, .one (.slc 184)), (7, aI i1551), (8, aI v1554), (9, .one (.slc 117)), (10, .one (.slc 73)), (48, aD (.slice tI) c3), (49, aI (List.length c3 : Int)), (50, aI i1551), (63, aD (.slice tI) (sub v1557 (0 : Int) c0)), (64, aI (List.length (sub v1557 (0 : Int) c0) : Int)), (65, aI v.1)], [(1000, .cells [.slc 2001, .slc 2002, .dat tI v.2.1, .dat tI v.2.2.1, .dat (.slice (.slice t3)) v.2.2.2.1, .dat (.slice tI) v.2.2.2.2.1, .dat (.slice (.slice tI)) v.2.2.2.2.2.1]), (32, .rows 1 (.slice (.slice tI)) v.2.2.2.2.2.2.1 []), (184, .seq tI x1552.2.2.2.2.2.2.1), (117, .seq tI v.2.2.2.2.2.2.2.1), (73, .seq tI v.2.2.2.2.2.2.2.2.1), (2001, .seq t3 v.2.2.2.2.2.2.2.2.2.1), (2002, .map t3 tI v.2.2.2.2.2.2.2.2.2.2)])
@[reducible] def unroll_build_step_i2_s303 (c0 : Int) (c3 : (List Int)) (i1551 : Int) (x1552 : (Int × Int × (List (List (Int × (Int × Int)))) × (List Int) × (List (List Int)) × (List (List (List Int))) × (List Int) × (List (Int × (Int × Int))) × (Option (List ((Int × (Int × Int)) × Int))))) (v1554 : Int) (v : (Int × Int × (List (List (Int × (Int × Int)))) × (List Int) × (List (List Int)) × (List (List (List Int))) × (List Int) × (List Int) × (List (Int × (Int × Int))) × (Option (List ((Int × (Int × Int)) × Int))))) : Fr × LL := ([(0, .one (.ptr 1000 0)), (2, aI (List.length c3 : Int)), (3, aI c0), (4, .one (.slc 32)), (6, .one (.slc 184)), (7, aI i1551), (8, aI v1554), (9, .one (.slc 117)), (10, .one (.slc 73)), (48, aD (.slice tI) c3), (49, aI (List.length c3 : Int)), (50, aI i1551)], [(1000, .cells [.slc 2001, .slc 2002, .dat tI v.1, .dat tI v.2.1, .dat (.slice (.slice t3)) v.2.2.1, .dat (.slice tI) v.2.2.2.1, .dat (.slice (.slice tI)) v.2.2.2.2.1]), (32, .rows 1 (.slice (.slice tI)) v.2.2.2.2.2.1 []), (184, .seq tI x1552.2.2.2.2.2.2.1), (117, .seq tI v.2.2.2.2.2.2.1), (73, .seq tI v.2.2.2.2.2.2.2.1), (2001, .seq t3 v.2.2.2.2.2.2.2.2.1), (2002, .map t3 tI v.2.2.2.2.2.2.2.2.2)])
def unroll_build_step_i2_b304 (c0 : Int) (c3 : (List Int)) (i1551 : Int) (v1554 : Int) (x1552 : (Int × Int × (List (List (Int × (Int × Int)))) × (List Int) × (List (List Int)) × (List (List (List Int))) × (List Int) × (List (Int × (Int × Int))) × (Option (List ((Int × (Int × Int)) × Int))))) : Option (Flow (Int × Int × (List (List (Int × (Int × Int)))) × (List Int) × (List (List Int)) × (List (List (List Int))) × (List Int) × (List (Int × (Int × Int))) × (Option (List ((Int × (Int × Int)) × Int)))) (Int × Int × (List (List (Int × (Int × Int)))) × (List Int) × (List (List Int)) × (List (List (List Int))) × (List Int) × (List (Int × (Int × Int))) × (Option (List ((Int × (Int × Int)) × Int))))) :=
(idx x1552.2.2.2.2.1 i1551).bind fun v1557 =>
(ck (0 ≤ (0 : Int) ∧ (0 : Int) ≤ c0 ∧ c0 ≤ (List.length v1557 : Int))).bind fun _ =>
(forL (unroll_build_step_i2_b301 c3 i1551 v1554) (fun x2036 => (x2036.1, x2036.2.1, x2036.2.2.1, x2036.2.2.2.1, x2036.2.2.2.2.1, x2036.2.2.2.2.2.1, x2036.2.2.2.2.2.2.1, x2036.2.2.2.2.2.2.2.1, x2036.2.2.2.2.2.2.2.2.1, x2036.2.2.2.2.2.2.2.2.2)) (sub v1557 (0 : Int) c0) 0 (x1552.1, x1552.2.1, x1552.2.2.1, x1552.2.2.2.1, x1552.2.2.2.2.1, x1552.2.2.2.2.2.1, [], [], x1552.2.2.2.2.2.2.2.1, x1552.2.2.2.2.2.2.2.2)).bind fun v2279 =>
(idx v2279.2.2.2.2.2.1 i1551).bind fun v2286 =>
(idx v2286 c0).bind fun v2290 =>
(idx v2279.2.2.2.2.1 i1551).bind fun v2304 =>
(idx v2304 c0).bind fun v2306 =>
(ck ((List.length v2290 : Int) + 1 ≤ 4294967296)).bind fun _ =>
(unroll_build_some_i2 v2279.1 v2279.2.1 v2279.2.2.1 v2279.2.2.2.1 v2279.2.2.2.2.1 v2279.2.2.2.2.2.2.2.1 v2279.2.2.2.2.2.2.2.2.1 v2279.2.2.2.2.2.2.2.2.2).bind fun r2309 =>
(unroll_build_keep_i2 v1554 r2309.1 r2309.2.1 r2309.2.2.1 r2309.2.2.2.1 r2309.2.2.2.2.1 r2309.2.2.2.2.2.1 r2309.2.2.2.2.2.2.2.1 r2309.2.2.2.2.2.2.2.2).bind fun r2311 =>
(ck ((List.length v2279.2.2.2.2.2.2.1 : Int) + 1 ≤ 4294967296)).bind fun _ =>
(unroll_build_some_i2 r2311.2.1 r2311.2.2.1 r2311.2.2.2.1 r2311.2.2.2.2.1 r2311.2.2.2.2.2.1 (v2279.2.2.2.2.2.2.1 ++ [r2311.1]) r2311.2.2.2.2.2.2.1 r2311.2.2.2.2.2.2.2).bind fun r2314 =>
(ck ((List.length x1552.2.2.2.2.2.2.1 : Int) + 1 ≤ 4294967296)).bind fun _ =>
some (.next (r2314.2.1, r2314.2.2.1, r2314.2.2.2.1, r2314.2.2.2.2.1, r2314.2.2.2.2.2.1, List.set v2279.2.2.2.2.2.1 (Int.toNat i1551) (List.set v2286 (Int.toNat c0) (v2290 ++ [v2306])), x1552.2.2.2.2.2.2.1 ++ [r2314.1], r2314.2.2.2.2.2.2.2.1, r2314.2.2.2.2.2.2.2.2))
@[reducible] def unroll_build_step_i2_s305 (c0 : Int) (c3 : (List Int)) (v : Int × (Int × Int × (List (List (Int × (Int × Int)))) × (List Int) × (List (List Int)) × (List (List (List Int))) × (List Int) × (List (Int × (Int × Int))) × (Option (List ((Int × (Int × Int)) × Int))))) : Fr × LL := ([(0, .one (.ptr 1000 0)), (2, aI (List.length c3 : Int)), (3, aI c0), (4, .one (.slc 32)), (6, .one (.slc 184)), (48, aD (.slice tI) c3), (49, aI (List.length c3 : Int)), (50, aI v.1)], [(1000, .cells [.slc 2001, .slc 2002, .dat tI v.2.1, .dat tI v.2.2.1, .dat (.slice (.slice t3)) v.2.2.2.1, .dat (.slice tI) v.2.2.2.2.1, .dat (.slice (.slice tI)) v.2.2.2.2.2.1]), (32, .rows 1 (.slice (.slice tI)) v.2.2.2.2.2.2.1 []), (184, .seq tI v.2.2.2.2.2.2.2.1), (2001, .seq t3 v.2.2.2.2.2.2.2.2.1), (2002, .map t3 tI v.2.2.2.2.2.2.2.2.2)])
@[reducible] def unroll_build_step_i2_s306 (c0 : Int) (c3 : (List Int)) (v : (Int × Int × (List (List (Int × (Int × Int)))) × (List Int) × (List (List Int)) × (List (List (List Int))) × (List Int) × (List (Int × (Int × Int))) × (Option (List ((Int × (Int × Int)) × Int))))) : Fr × LL := ([(0, .one (.ptr 1000 0)), (2, aI (List.length c3 : Int)), (3, aI c0), (4, .one (.slc 32)), (6, .one (.slc 184))], [(1000, .cells [.slc 2001, .slc 2002, .dat tI v.1, .dat tI v.2.1, .dat (.slice (.slice t3)) v.2.2.1, .dat (.slice tI) v.2.2.2.1, .dat (.slice (.slice tI)) v.2.2.2.2.1]), (32, .rows 1 (.slice (.slice tI)) v.2.2.2.2.2.1 []), (184, .seq tI v.2.2.2.2.2.2.1), (2001, .seq t3 v.2.2.2.2.2.2.2.1), (2002, .map t3 tI v.2.2.2.2.2.2.2.2)])
def unroll_build_step_i2_b313 (i2443 : Int) (i2481 : Int) (x2482 : (Int × Int × (List (List (Int × (Int × Int)))) × (List Int) × (List (List Int)) × (List (List (List Int))) × (List (List Int)) × (List (Int × (Int × Int))) × (Option (List ((Int × (Int × Int)) × Int))))) : Option (Flow (Int × Int × (List (List (Int × (Int × Int)))) × (List Int) × (List (List Int)) × (List (List (List Int))) × (List (List Int)) × (List (Int × (Int × Int))) × (Option (List ((Int × (Int × Int)) × Int)))) (Int × Int × (List (List (Int × (Int × Int)))) × (List Int) × (List (List Int)) × (List (List (List Int))) × (List (List Int)) × (List (Int × (Int × Int))) × (Option (List ((Int × (Int × Int)) × Int))))) :=
(idx x2482.2.2.2.2.2.2.1 i2443).bind fun v2487 =>
(idx x2482.2.2.2.2.2.1 i2443).bind fun v2491 =>
(idx v2491 i2481).bind fun v2495 =>
(unroll_build_some_i2 x2482.1 x2482.2.1 x2482.2.2.1 x2482.2.2.2.1 x2482.2.2.2.2.1 v2495 x2482.2.2.2.2.2.2.2.1 x2482.2.2.2.2.2.2.2.2).bind fun r2497 =>
(ck ((List.length v2487 : Int) + 1 ≤ 4294967296)).bind fun _ =>
some (.next (r2497.2.1, r2497.2.2.1, r2497.2.2.2.1, r2497.2.2.2.2.1, r2497.2.2.2.2.2.1, List.set x2482.2.2.2.2.2.1 (Int.toNat i2443) (List.set v2491 (Int.toNat i2481) r2497.2.2.2.2.2.2.1), List.set x2482.2.2.2.2.2.2.1 (Int.toNat i2443) (v2487 ++ [r2497.1]), r2497.2.2.2.2.2.2.2.1, r2497.2.2.2.2.2.2.2.2))
@[reducible] def unroll_build_step_i2_s314 (c0 : Int) (c3 : (List Int)) (v2318 : (Int × Int × (List (List (Int × (Int × Int)))) × (List Int) × (List (List Int)) × (List (List (List Int))) × (List Int) × (List (Int × (Int × Int))) × (Option (List ((Int × (Int × Int)) × Int))))) (i2443 : Int) (v : Int × (Int × Int × (List (List (Int × (Int × Int)))) × (List Int) × (List (List Int)) × (List (List (List Int))) × (List (List Int)) × (List (Int × (Int × Int))) × (Option (List ((Int × (Int × Int)) × Int))))) : Fr × LL := ([(0, .one (.ptr 1000 0)), (3, aI c0), (4, .one (.slc 32)), (6, .one (.slc 184)), (18, .one (.slc 187)), (19, aI i2443), (189, aI (List.length (List.replicate (Int.toNat (List.length c3 : Int)) ([] : List Int)) : Int)), (190, aI i2443), (194, aI (w64 (c0 + (1 : Int)))), (195, aI v.1)], [(1000, .cells [.slc 2001, .slc 2002, .dat tI v.2.1, .dat tI v.2.2.1, .dat (.slice (.slice t3)) v.2.2.2.1, .dat (.slice tI) v.2.2.2.2.1, .dat (.slice (.slice tI)) v.2.2.2.2.2.1]), (32, .rows 1 (.slice (.slice tI)) v.2.2.2.2.2.2.1 []), (184, .seq tI v2318.2.2.2.2.2.2.1), (187, .rows 0 (.slice tI) v.2.2.2.2.2.2.2.1 []), (2001, .seq t3 v.2.2.2.2.2.2.2.2.1), (2002, .map t3 tI v.2.2.2.2.2.2.2.2.2)])
@[reducible] def unroll_build_step_i2_s315 (c0 : Int) (c3 : (List Int)) (v2318 : (Int × Int × (List (List (Int × (Int × Int)))) × (List Int) × (List (List Int)) × (List (List (List Int))) × (List Int) × (List (Int × (Int × Int))) × (Option (List ((Int × (Int × Int)) × Int))))) (i2443 : Int) (v : (Int × Int × (List (List (Int × (Int × Int)))) × (List Int) × (List (List Int)) × (List (List (List Int))) × (List (List Int)) × (List (Int × (Int × Int))) × (Option (List ((Int × (Int × Int)) × Int))))) : Fr × LL := ([(0, .one (.ptr 1000 0)), (3, aI c0), (4, .one (.slc 32)), (6, .one (.slc 184)), (18, .one (.slc 187)), (189, aI (List.length (List.replicate (Int.toNat (List.length c3 : Int)) ([] : List Int)) : Int)), (190, aI i2443)], [(1000, .cells [.slc 2001, .slc 2002, .dat tI v.1, .dat tI v.2.1, .dat (.slice (.slice t3)) v.2.2.1, .dat (.slice tI) v.2.2.2.1, .dat (.slice (.slice tI)) v.2.2.2.2.1]), (32, .rows 1 (.slice (.slice tI)) v.2.2.2.2.2.1 []), (184, .seq tI v2318.2.2.2.2.2.2.1), (187, .rows 0 (.slice tI) v.2.2.2.2.2.2.1 []), (2001, .seq t3 v.2.2.2.2.2.2.2.1), (2002, .map t3 tI v.2.2.2.2.2.2.2.2)])
def unroll_build_step_i2_b316 (c0 : Int) (i2443 : Int) (x2444 : (Int × Int × (List (List (Int × (Int × Int)))) × (List Int) × (List (List Int)) × (List (List (List Int))) × (List (List Int)) × (List (Int × (Int × Int))) × (Option (List ((Int × (Int × Int)) × Int))))) : Option (Flow (Int × Int × (List (List (Int × (Int × Int)))) × (List Int) × (List (List Int)) × (List (List (List Int))) × (List (List Int)) × (List (Int × (Int × Int))) × (Option (List ((Int × (Int × Int)) × Int)))) (Int × Int × (List (List (Int × (Int × Int)))) × (List Int) × (List (List Int)) × (List (List Int)) × (List (Int × (Int × Int))) × (Option (List ((Int × (Int × Int)) × Int))))) :=
(forI (0 : Int) (w64 (c0 + (1 : Int))) (unroll_build_step_i2_b313 i2443) (fun x2482 => (x2482.1, x2482.2.1, x2482.2.2.1, x2482.2.2.2.1, x2482.2.2.2.2.1, x2482.2.2.2.2.2.1, x2482.2.2.2.2.2.2.1, x2482.2.2.2.2.2.2.2.1, x2482.2.2.2.2.2.2.2.2)) (x2444.1, x2444.2.1, x2444.2.2.1, x2444.2.2.2.1, x2444.2.2.2.2.1, x2444.2.2.2.2.2.1, x2444.2.2.2.2.2.2.1, x2444.2.2.2.2.2.2.2.1, x2444.2.2.2.2.2.2.2.2)).bind fun v2501 =>
some (.next (v2501.1, v2501.2.1, v2501.2.2.1, v2501.2.2.2.1, v2501.2.2.2.2.1, v2501.2.2.2.2.2.1, v2501.2.2.2.2.2.2.1, v2501.2.2.2.2.2.2.2.1, v2501.2.2.2.2.2.2.2.2))
@[reducible] def unroll_build_step_i2_s317 (c0 : Int) (c3 : (List Int)) (v2318 : (Int × Int × (List (List (Int × (Int × Int)))) × (List Int) × (List (List Int)) × (List (List (List Int))) × (List Int) × (List (Int × (Int × Int))) × (Option (List ((Int × (Int × Int)) × Int))))) (v : Int × (Int × Int × (List (List (Int × (Int × Int)))) × (List Int) × (List (List Int)) × (List (List (List Int))) × (List (List Int)) × (List (Int × (Int × Int))) × (Option (List ((Int × (Int × Int)) × Int))))) : Fr × LL := ([(0, .one (.ptr 1000 0)), (3, aI c0), (4, .one (.slc 32)), (6, .one (.slc 184)), (18, .one (.slc 187)), (189, aI (List.length (List.replicate (Int.toNat (List.length c3 : Int)) ([] : List Int)) : Int)), (190, aI v.1)], [(1000, .cells [.slc 2001, .slc 2002, .dat tI v.2.1, .dat tI v.2.2.1, .dat (.slice (.slice t3)) v.2.2.2.1, .dat (.slice tI) v.2.2.2.2.1, .dat (.slice (.slice tI)) v.2.2.2.2.2.1]), (32, .rows 1 (.slice (.slice tI)) v.2.2.2.2.2.2.1 []), (184, .seq tI v2318.2.2.2.2.2.2.1), (187, .rows 0 (.slice tI) v.2.2.2.2.2.2.2.1 []), (2001, .seq t3 v.2.2.2.2.2.2.2.2.1), (2002, .map t3 tI v.2.2.2.2.2.2.2.2.2)])
@[reducible] def unroll_build_step_i2_s318 (v2318 : (Int × Int × (List (List (Int × (Int × Int)))) × (List Int) × (List (List Int)) × (List (List (List Int))) × (List Int) × (List (Int × (Int × Int))) × (Option (List ((Int × (Int × Int)) × Int))))) (v : (Int × Int × (List (List (Int × (Int × Int)))) × (List Int) × (List (List Int)) × (List (List Int)) × (List (Int × (Int × Int))) × (Option (List ((Int × (Int × Int)) × Int))))) : Fr × LL := ([(0, .one (.ptr 1000 0)), (6, .one (.slc 184)), (18, .one (.slc 187))], [(1000, .cells [.slc 2001, .slc 2002, .dat tI v.1, .dat tI v.2.1, .dat (.slice (.slice t3)) v.2.2.1, .dat (.slice tI) v.2.2.2.1, .dat (.slice (.slice tI)) v.2.2.2.2.1]), (184, .seq tI v2318.2.2.2.2.2.2.1), (187, .rows 0 (.slice tI) v.2.2.2.2.2.1 []), (2001, .seq t3 v.2.2.2.2.2.2.1), (2002, .map t3 tI v.2.2.2.2.2.2.2)])
def unroll_build_step_i2 (c0 : Int) (c1 : Int) (c2 : (List (List (Int × (Int × Int))))) (c3 : (List Int)) (c4 : (List (List Int))) (c5 : (List (Int × (Int × Int)))) (c6 : (Option (List ((Int × (Int × Int)) × Int)))) : Option (Int × Int × (List (List (Int × (Int × Int)))) × (List Int) × (List (List Int)) × (List (Int × (Int × Int))) × (Option (List ((Int × (Int × Int)) × Int)))) :=
(ck (0 ≤ (List.length c3 : Int) ∧ (List.length c3 : Int) = (List.length c3 : Int) ∧ (List.length c3 : Int) ≤ 4294967296)).bind fun _ =>
(forI (0 : Int) (List.length (List.replicate (Int.toNat (List.length c3 : Int)) ([] : List (List Int))) : Int) (unroll_build_step_i2_b1 c0) (fun x13 => x13) (List.replicate (Int.toNat (List.length c3 : Int)) ([] : List (List Int)))).bind fun v20 =>
(forL (unroll_build_step_i2_b304 c0 c3) (fun x1552 => (x1552.1, x1552.2.1, x1552.2.2.1, x1552.2.2.2.1, x1552.2.2.2.2.1, x1552.2.2.2.2.2.1, x1552.2.2.2.2.2.2.1, x1552.2.2.2.2.2.2.2.1, x1552.2.2.2.2.2.2.2.2)) c3 0 (c0, c1, c2, c3, c4, v20, [], c5, c6)).bind fun v2318 =>
(forI (0 : Int) (List.length (List.replicate (Int.toNat (List.length c3 : Int)) ([] : List Int)) : Int) (unroll_build_step_i2_b316 c0) (fun x2444 => (x2444.1, x2444.2.1, x2444.2.2.1, x2444.2.2.2.1, x2444.2.2.2.2.1, x2444.2.2.2.2.2.2.1, x2444.2.2.2.2.2.2.2.1, x2444.2.2.2.2.2.2.2.2)) (v2318.1, v2318.2.1, v2318.2.2.1, v2318.2.2.2.1, v2318.2.2.2.2.1, v2318.2.2.2.2.2.1, List.replicate (Int.toNat (List.length c3 : Int)) ([] : List Int), v2318.2.2.2.2.2.2.2.1, v2318.2.2.2.2.2.2.2.2)).bind fun v2506 =>
some (v2506.1, v2506.2.1, v2506.2.2.1, v2318.2.2.2.2.2.2.1, v2506.2.2.2.2.2.1, v2506.2.2.2.2.2.2.1, v2506.2.2.2.2.2.2.2)
theorem unroll_build_step_i2_ok {c0 : Int} {c1 : Int} {c2 : (List (List (Int × (Int × Int))))} {c3 : (List Int)} {c4 : (List (List Int))} {c5 : (List (Int × (Int × Int)))} {c6 : (Option (List ((Int × (Int × Int)) × Int)))} {r : (Int × Int × (List (List (Int × (Int × Int)))) × (List Int) × (List (List Int)) × (List (Int × (Int × Int))) × (Option (List ((Int × (Int × Int)) × Int))))} (h : unroll_build_step_i2 c0 c1 c2 c3 c4 c5 c6 = some r) : FnC Try.prog 79 [.one (.ptr 1000 0)] [(1000, .cells [.slc 2001, .slc 2002, .dat tI c0, .dat tI c1, .dat (.slice (.slice t3)) c2, .dat (.slice tI) c3, .dat (.slice (.slice tI)) c4]), (2001, .seq t3 c5), (2002, .map t3 tI c6)] (.tup []) [(1000, .cells [.slc 2001, .slc 2002, .dat tI r.1, .dat tI r.2.1, .dat (.slice (.slice t3)) r.2.2.1, .dat (.slice tI) r.2.2.2.1, .dat (.slice (.slice tI)) r.2.2.2.2.1]), (2001, .seq t3 r.2.2.2.2.2.1), (2002, .map t3 tI r.2.2.2.2.2.2)] := by
 refine fnC_of_W (B := bodyOf Try.f79) (n := 226) Try.func79 (by kernel_rfl) (by kernel_rfl) (by kernel_rfl) (by kernel_rfl) (by kernel_rfl) ?_
 intro K
 refine W_seq (by kernel_rfl) ?_
 refine W_draw2 11 [] [] [0, 2, 3] [1000, 2001, 2002] (fr' := [(0, .one (.ptr 1000 0)), (2, aI (List.length c3 : Int)), (3, aI c0)]) (L' := [(1000, .cells [.slc 2001, .slc 2002, .dat tI c0, .dat tI c1, .dat (.slice (.slice t3)) c2, .dat (.slice tI) c3, .dat (.slice (.slice tI)) c4]), (2001, .seq t3 c5), (2002, .map t3 tI c6)]) (out := [(21, .one (.ptr 1000 0)), (22, .one (.ptr 1000 0)), (23, .one (.ptr 1000 5)), (24, aD (.slice tI) c3), (25, aI (List.length c3 : Int)), (26, .one (.ptr 1000 0)), (27, .one (.ptr 1000 0)), (28, .one (.ptr 1000 2)), (29, .one (.ptr 1000 2)), (30, aI c0), (2, aI (List.length c3 : Int))]) (obs := []) (obs2 := []) (calls := []) (by kernel_rfl) (by kernel_rfl) (by kernel_rfl) (by kernel_rfl) allP0 allC0 (by kernel_rfl) allP0 ?_
 refine seqQ_norm ?_
 refine W_seq (by kernel_rfl) ?_
 obtain ⟨_, h1, h⟩ := bind_of h
 replace h1 := ck_some h1
 refine W_run 3 [(3, .typed)] [0, 2, 3, 4] [1000, 32, 2001, 2002] (fr' := [(0, .one (.ptr 1000 0)), (2, aI (List.length c3 : Int)), (3, aI c0), (4, .one (.slc 32))]) (L' := [(1000, .cells [.slc 2001, .slc 2002, .dat tI c0, .dat tI c1, .dat (.slice (.slice t3)) c2, .dat (.slice tI) c3, .dat (.slice (.slice tI)) c4]), (32, .rows 1 (.slice (.slice tI)) (List.replicate (Int.toNat (List.length c3 : Int)) ([] : List (List Int))) []), (2001, .seq t3 c5), (2002, .map t3 tI c6)]) (obs := [0 ≤ (List.length c3 : Int) ∧ (List.length c3 : Int) = (List.length c3 : Int) ∧ SmallLen (List.length c3 : Int)]) (by kernel_rfl) (by kernel_rfl) (by kernel_rfl) (allP1 h1) ?_
 refine seqQ_norm ?_
 refine W_seq (by kernel_rfl) ?_
 refine srL [(0, .one (.ptr 1000 0)), (2, aI (List.length c3 : Int)), (3, aI c0), (4, .one (.slc 32)), (34, aI (List.length (List.replicate (Int.toNat (List.length c3 : Int)) ([] : List (List Int))) : Int)), (35, aI (0 : Int))] (by kernel_rfl) ?_
 refine W_block (id := 0) (by kernel_rfl) ?_
 obtain ⟨v20, h21, h⟩ := bind_of h
 obtain ⟨h22, h23⟩ := forI_iter h21
 refine W_weaken [0, 2, 3, 4, 34, 35] [1000, 32, 2001, 2002] (fr' := ((unroll_build_step_i2_s2 c0 c1 c2 c3 c4 c5 c6) ((0 : Int), List.replicate (Int.toNat (List.length c3 : Int)) ([] : List (List Int)))).1) (L' := ((unroll_build_step_i2_s2 c0 c1 c2 c3 c4 c5 c6) ((0 : Int), List.replicate (Int.toNat (List.length c3 : Int)) ([] : List (List Int)))).2) (by kernel_rfl) ?_
 refine W_cutK (W_loop (S := (unroll_build_step_i2_s2 c0 c1 c2 c3 c4 c5 c6)) (J := (exQ (.exit 0) (unroll_build_step_i2_s3 c0 c1 c2 c3 c4 c5 c6))) (by kernel_rfl) ?_ h22 _ v20 h23) ?_
 ·rintro ⟨i12, x13⟩ s h
  refine sr [(0, .one (.ptr 1000 0)), (2, aI (List.length c3 : Int)), (3, aI c0), (4, .one (.slc 32)), (34, aI (List.length (List.replicate (Int.toNat (List.length c3 : Int)) ([] : List (List Int))) : Int)), (35, aI i12), (36, aB (decide (i12 < (List.length (List.replicate (Int.toNat (List.length c3 : Int)) ([] : List (List Int))) : Int))))] [(1000, .cells [.slc 2001, .slc 2002, .dat tI c0, .dat tI c1, .dat (.slice (.slice t3)) c2, .dat (.slice tI) c3, .dat (.slice (.slice tI)) c4]), (32, .rows 1 (.slice (.slice tI)) x13 []), (2001, .seq t3 c5), (2002, .map t3 tI c6)] (by kernel_rfl) ?_
  refine W_seq (by kernel_rfl) ?_
  refine W_cond (o := .tmp 36) (b := decide (i12 < (List.length (List.replicate (Int.toNat (List.length c3 : Int)) ([] : List (List Int))) : Int))) (by kernel_rfl) (by kernel_rfl) (fun h15 => ?_) (fun h15 => ?_)
  ·replace h := stepI_true h15 h
   obtain ⟨_, h, rfl⟩ := h
   refine wkL [(0, .one (.ptr 1000 0)), (2, aI (List.length c3 : Int)), (3, aI c0), (4, .one (.slc 32)), (34, aI (List.length (List.replicate (Int.toNat (List.length c3 : Int)) ([] : List (List Int))) : Int)), (35, aI i12)] (by kernel_rfl) ?_
   refine seqQ_norm ?_
   refine W_seq (by kernel_rfl) ?_
   refine W_block (id := 1) (by kernel_rfl) ?_
   refine srL [(0, .one (.ptr 1000 0)), (2, aI (List.length c3 : Int)), (3, aI c0), (4, .one (.slc 32)), (5, aI i12), (34, aI (List.length (List.replicate (Int.toNat (List.length c3 : Int)) ([] : List (List Int))) : Int)), (35, aI i12)] (by kernel_rfl) ?_
   obtain ⟨_, h16, h⟩ := bind_of h
   replace h16 := ck_some h16
   obtain ⟨v17, h18, h⟩ := bind_of h
   refine W_region (by kernel_rfl) ?_
   refine woo 6 [(9, .typed)] [(0, .one (.ptr 1000 0)), (2, aI (List.length c3 : Int)), (3, aI c0), (4, .one (.slc 32)), (34, aI (List.length (List.replicate (Int.toNat (List.length c3 : Int)) ([] : List (List Int))) : Int)), (35, aI i12), (42, .one (.slc 42)), (43, .one (.eptr 32 1 i12 0))] [(32, .rows 1 (.slice (.slice tI)) x13 []), (42, .rows 0 (.slice tI) (List.replicate (Int.toNat (w64 (c0 + (1 : Int)))) ([] : List Int)) []), (1000, .cells [.slc 2001, .slc 2002, .dat tI c0, .dat tI c1, .dat (.slice (.slice t3)) c2, .dat (.slice tI) c3, .dat (.slice (.slice tI)) c4]), (2001, .seq t3 c5), (2002, .map t3 tI c6)] [0 ≤ w64 (c0 + (1 : Int)) ∧ w64 (c0 + (1 : Int)) = w64 (c0 + (1 : Int)) ∧ SmallLen (w64 (c0 + (1 : Int))), InR i12 (List.length x13)] (by kernel_rfl) (allP2 h16 (allP1 (InR.of h18))) ?_
   refine WO_take 32 900 i12 (.dat (.slice (.slice tI)) v17) (p := Idx x13 i12 v17 ∧ True) (by kernel_rfl) ⟨Idx.of h18, trivial⟩ ?_
   refine woo 7 [] [(0, .one (.ptr 1000 0)), (2, aI (List.length c3 : Int)), (3, aI c0), (4, .one (.slc 32)), (34, aI (List.length (List.replicate (Int.toNat (List.length c3 : Int)) ([] : List (List Int))) : Int)), (35, aI i12)] [(32, .rows 1 (.slice (.slice tI)) x13 [(i12, false, .slc 42), (i12, true, .slc 900)]), (42, .rows 0 (.slice tI) (List.replicate (Int.toNat (w64 (c0 + (1 : Int)))) ([] : List Int)) []), (900, .rows 0 (.slice tI) v17 []), (1000, .cells [.slc 2001, .slc 2002, .dat tI c0, .dat tI c1, .dat (.slice (.slice t3)) c2, .dat (.slice tI) c3, .dat (.slice (.slice tI)) c4]), (2001, .seq t3 c5), (2002, .map t3 tI c6)] [InR i12 (List.length x13)] (by kernel_rfl) (allP1 (InR.of h18)) ?_
   refine WO_give 32 i12 [true, true] (p := InR i12 (List.length x13) ∧ i12 = i12 ∧ i12 = i12) (by kernel_rfl) ⟨(InR.of h18), ⟨rfl, rfl⟩⟩ ?_
   refine wf [(0, .one (.ptr 1000 0)), (2, aI (List.length c3 : Int)), (3, aI c0), (4, .one (.slc 32)), (34, aI (List.length (List.replicate (Int.toNat (List.length c3 : Int)) ([] : List (List Int))) : Int)), (35, aI i12)] [(1000, .cells [.slc 2001, .slc 2002, .dat tI c0, .dat tI c1, .dat (.slice (.slice t3)) c2, .dat (.slice tI) c3, .dat (.slice (.slice tI)) c4]), (32, .rows 1 (.slice (.slice tI)) (List.set x13 (Int.toNat i12) (List.replicate (Int.toNat (w64 (c0 + (1 : Int)))) ([] : List Int))) []), (2001, .seq t3 c5), (2002, .map t3 tI c6)] (by kernel_rfl) ?_
   refine blockQ_norm ?_
   refine seqQ_norm ?_
   obtain rfl := Option.some.inj h
   refine swL [(0, .one (.ptr 1000 0)), (2, aI (List.length c3 : Int)), (3, aI c0), (4, .one (.slc 32)), (34, aI (List.length (List.replicate (Int.toNat (List.length c3 : Int)) ([] : List (List Int))) : Int)), (35, aI (w64 (i12 + (1 : Int))))] (by kernel_rfl) ?_
   exact round_next' (by kernel_rfl) (by kernel_rfl)
  ·obtain rfl := stepI_false h15 h
   refine wxL 0 [(0, .one (.ptr 1000 0)), (2, aI (List.length c3 : Int)), (3, aI c0), (4, .one (.slc 32))] (by kernel_rfl) ?_
   refine seqQ_exit ?_
   refine round_exit ?_
   exact exM (by kernel_rfl)
 ·intro e fr L hJ
  obtain ⟨rfl, rfl, rfl⟩ := hJ
  refine ltk [(0, .one (.ptr 1000 0)), (2, aI (List.length c3 : Int)), (3, aI c0), (4, .one (.slc 32))] [(1000, .cells [.slc 2001, .slc 2002, .dat tI c0, .dat tI c1, .dat (.slice (.slice t3)) c2, .dat (.slice tI) c3, .dat (.slice (.slice tI)) c4]), (32, .rows 1 (.slice (.slice tI)) v20 []), (2001, .seq t3 c5), (2002, .map t3 tI c6)] (by kernel_rfl) ?_
  refine blockQ_hit ?_
  refine seqQ_norm ?_
  refine sr [(0, .one (.ptr 1000 0)), (2, aI (List.length c3 : Int)), (3, aI c0), (4, .one (.slc 32)), (6, .one (.nilS))] [(1000, .cells [.slc 2001, .slc 2002, .dat tI c0, .dat tI c1, .dat (.slice (.slice t3)) c2, .dat (.slice tI) c3, .dat (.slice (.slice tI)) c4]), (32, .rows 1 (.slice (.slice tI)) v20 []), (2001, .seq t3 c5), (2002, .map t3 tI c6)] (by kernel_rfl) ?_
  refine W_seq (by kernel_rfl) ?_
  refine srL [(0, .one (.ptr 1000 0)), (2, aI (List.length c3 : Int)), (3, aI c0), (4, .one (.slc 32)), (6, .one (.nilS)), (48, aD (.slice tI) c3), (49, aI (List.length c3 : Int)), (50, aI (0 : Int))] (by kernel_rfl) ?_
  refine W_block (id := 2) (by kernel_rfl) ?_
  obtain ⟨v2318, h2319, h⟩ := bind_of h
  refine W_len (t := 48) (u := tI) (xs := c3) (by kernel_rfl) (fun h2322 => ?_)
  obtain ⟨h2320, h2321⟩ := forL_iter h2322 h2319
  refine W_mine 6 184 tI (by kernel_rfl) ?_
  refine W_weaken [0, 2, 3, 4, 6, 48, 49, 50] [1000, 32, 184, 2001, 2002] (fr' := ((unroll_build_step_i2_s305 c0 c3) ((0 : Int), (c0, c1, c2, c3, c4, v20, [], c5, c6))).1) (L' := ((unroll_build_step_i2_s305 c0 c3) ((0 : Int), (c0, c1, c2, c3, c4, v20, [], c5, c6))).2) (by kernel_rfl) ?_
  refine W_cutK (W_loop (S := (unroll_build_step_i2_s305 c0 c3)) (J := (exQ (.exit 2) (unroll_build_step_i2_s306 c0 c3))) (by kernel_rfl) ?_ h2320 _ v2318 h2321) ?_
  ·rintro ⟨i1551, x1552⟩ s h
   refine sr [(0, .one (.ptr 1000 0)), (2, aI (List.length c3 : Int)), (3, aI c0), (4, .one (.slc 32)), (6, .one (.slc 184)), (48, aD (.slice tI) c3), (49, aI (List.length c3 : Int)), (50, aI i1551), (51, aB (decide (i1551 < (List.length c3 : Int))))] [(1000, .cells [.slc 2001, .slc 2002, .dat tI x1552.1, .dat tI x1552.2.1, .dat (.slice (.slice t3)) x1552.2.2.1, .dat (.slice tI) x1552.2.2.2.1, .dat (.slice (.slice tI)) x1552.2.2.2.2.1]), (32, .rows 1 (.slice (.slice tI)) x1552.2.2.2.2.2.1 []), (184, .seq tI x1552.2.2.2.2.2.2.1), (2001, .seq t3 x1552.2.2.2.2.2.2.2.1), (2002, .map t3 tI x1552.2.2.2.2.2.2.2.2)] (by kernel_rfl) ?_
   refine W_seq (by kernel_rfl) ?_
   refine W_cond (o := .tmp 51) (b := decide (i1551 < (List.length c3 : Int))) (by kernel_rfl) (by kernel_rfl) (fun h1556 => ?_) (fun h1556 => ?_)
   ·replace h := stepL_true h1556 h
    obtain ⟨v1554, _, h1555, h, rfl⟩ := h
    refine wkL [(0, .one (.ptr 1000 0)), (2, aI (List.length c3 : Int)), (3, aI c0), (4, .one (.slc 32)), (6, .one (.slc 184)), (48, aD (.slice tI) c3), (49, aI (List.length c3 : Int)), (50, aI i1551)] (by kernel_rfl) ?_
    refine seqQ_norm ?_
    refine W_seq (by kernel_rfl) ?_
    refine W_block (id := 3) (by kernel_rfl) ?_
    refine sro [(3, .val (.dat tI v1554))] [(0, .one (.ptr 1000 0)), (2, aI (List.length c3 : Int)), (3, aI c0), (4, .one (.slc 32)), (6, .one (.slc 184)), (7, aI i1551), (8, aI v1554), (48, aD (.slice tI) c3), (49, aI (List.length c3 : Int)), (50, aI i1551)] [(1000, .cells [.slc 2001, .slc 2002, .dat tI x1552.1, .dat tI x1552.2.1, .dat (.slice (.slice t3)) x1552.2.2.1, .dat (.slice tI) x1552.2.2.2.1, .dat (.slice (.slice tI)) x1552.2.2.2.2.1]), (32, .rows 1 (.slice (.slice tI)) x1552.2.2.2.2.2.1 []), (184, .seq tI x1552.2.2.2.2.2.2.1), (2001, .seq t3 x1552.2.2.2.2.2.2.2.1), (2002, .map t3 tI x1552.2.2.2.2.2.2.2.2)] [Idx c3 i1551 v1554] (by kernel_rfl) (allP1 (Idx.of h1555)) ?_
    refine srL [(0, .one (.ptr 1000 0)), (2, aI (List.length c3 : Int)), (3, aI c0), (4, .one (.slc 32)), (6, .one (.slc 184)), (7, aI i1551), (8, aI v1554), (9, .one (.nilS)), (10, .one (.nilS)), (48, aD (.slice tI) c3), (49, aI (List.length c3 : Int)), (50, aI i1551)] (by kernel_rfl) ?_
    refine W_seq (by kernel_rfl) ?_
    refine W_seq (by kernel_rfl) ?_
    obtain ⟨v1557, h1558, h⟩ := bind_of h
    obtain ⟨_, h1559, h⟩ := bind_of h
    replace h1559 := ck_some h1559
    refine W_run 11 [(11, .val (.dat (.slice tI) v1557))] [0, 2, 3, 4, 6, 7, 8, 9, 10, 48, 49, 50, 63, 64, 65] [1000, 32, 184, 2001, 2002] (fr' := [(0, .one (.ptr 1000 0)), (2, aI (List.length c3 : Int)), (3, aI c0), (4, .one (.slc 32)), (6, .one (.slc 184)), (7, aI i1551), (8, aI v1554), (9, .one (.nilS)), (10, .one (.nilS)), (48, aD (.slice tI) c3), (49, aI (List.length c3 : Int)), (50, aI i1551), (63, aD (.slice tI) (sub v1557 (0 : Int) c0)), (64, aI (List.length (sub v1557 (0 : Int) c0) : Int)), (65, aI (0 : Int))]) (L' := [(1000, .cells [.slc 2001, .slc 2002, .dat tI x1552.1, .dat tI x1552.2.1, .dat (.slice (.slice t3)) x1552.2.2.1, .dat (.slice tI) x1552.2.2.2.1, .dat (.slice (.slice tI)) x1552.2.2.2.2.1]), (32, .rows 1 (.slice (.slice tI)) x1552.2.2.2.2.2.1 []), (184, .seq tI x1552.2.2.2.2.2.2.1), (2001, .seq t3 x1552.2.2.2.2.2.2.2.1), (2002, .map t3 tI x1552.2.2.2.2.2.2.2.2)]) (obs := [Idx x1552.2.2.2.2.1 i1551 v1557, Cuts (0 : Int) c0 (List.length v1557)]) (by kernel_rfl) (by kernel_rfl) (by kernel_rfl) (allP2 (Idx.of h1558) (allP1 h1559)) ?_
    refine seqQ_norm ?_
    refine W_block (id := 4) (by kernel_rfl) ?_
    obtain ⟨v2279, h2280, h⟩ := bind_of h
    refine W_len (t := 63) (u := tI) (xs := sub v1557 (0 : Int) c0) (by kernel_rfl) (fun h2283 => ?_)
    obtain ⟨h2281, h2282⟩ := forL_iter h2283 h2280
    refine W_mine 9 117 tI (by kernel_rfl) ?_
    refine W_mine 10 73 tI (by kernel_rfl) ?_
    refine W_weaken [0, 2, 3, 4, 6, 7, 8, 9, 10, 48, 49, 50, 63, 64, 65] [1000, 32, 184, 117, 73, 2001, 2002] (fr' := ((unroll_build_step_i2_s302 c0 c3 i1551 x1552 v1554 v1557) ((0 : Int), (x1552.1, x1552.2.1, x1552.2.2.1, x1552.2.2.2.1, x1552.2.2.2.2.1, x1552.2.2.2.2.2.1, [], [], x1552.2.2.2.2.2.2.2.1, x1552.2.2.2.2.2.2.2.2))).1) (L' := ((unroll_build_step_i2_s302 c0 c3 i1551 x1552 v1554 v1557) ((0 : Int), (x1552.1, x1552.2.1, x1552.2.2.1, x1552.2.2.2.1, x1552.2.2.2.2.1, x1552.2.2.2.2.2.1, [], [], x1552.2.2.2.2.2.2.2.1, x1552.2.2.2.2.2.2.2.2))).2) (by kernel_rfl) ?_
    refine W_cutK (W_loop (S := (unroll_build_step_i2_s302 c0 c3 i1551 x1552 v1554 v1557)) (J := (exQ (.exit 4) (unroll_build_step_i2_s303 c0 c3 i1551 x1552 v1554))) (by kernel_rfl) ?_ h2281 _ v2279 h2282) ?_
    ·rintro ⟨i2035, x2036⟩ s h
     refine sr [(0, .one (.ptr 1000 0)), (2, aI (List.length c3 : Int)), (3, aI c0), (4, .one (.slc 32)), (6, .one (.slc 184)), (7, aI i1551), (8, aI v1554), (9, .one (.slc 117)), (10, .one (.slc 73)), (48, aD (.slice tI) c3), (49, aI (List.length c3 : Int)), (50, aI i1551), (63, aD (.slice tI) (sub v1557 (0 : Int) c0)), (64, aI (List.length (sub v1557 (0 : Int) c0) : Int)), (65, aI i2035), (66, aB (decide (i2035 < (List.length (sub v1557 (0 : Int) c0) : Int))))] [(1000, .cells [.slc 2001, .slc 2002, .dat tI x2036.1, .dat tI x2036.2.1, .dat (.slice (.slice t3)) x2036.2.2.1, .dat (.slice tI) x2036.2.2.2.1, .dat (.slice (.slice tI)) x2036.2.2.2.2.1]), (32, .rows 1 (.slice (.slice tI)) x2036.2.2.2.2.2.1 []), (184, .seq tI x1552.2.2.2.2.2.2.1), (117, .seq tI x2036.2.2.2.2.2.2.1), (73, .seq tI x2036.2.2.2.2.2.2.2.1), (2001, .seq t3 x2036.2.2.2.2.2.2.2.2.1), (2002, .map t3 tI x2036.2.2.2.2.2.2.2.2.2)] (by kernel_rfl) ?_
     refine W_seq (by kernel_rfl) ?_
     refine W_cond (o := .tmp 66) (b := decide (i2035 < (List.length (sub v1557 (0 : Int) c0) : Int))) (by kernel_rfl) (by kernel_rfl) (fun h2040 => ?_) (fun h2040 => ?_)
     ·replace h := stepL_true h2040 h
      obtain ⟨v2038, _, h2039, h, rfl⟩ := h
      refine wkL [(0, .one (.ptr 1000 0)), (2, aI (List.length c3 : Int)), (3, aI c0), (4, .one (.slc 32)), (6, .one (.slc 184)), (7, aI i1551), (8, aI v1554), (9, .one (.slc 117)), (10, .one (.slc 73)), (48, aD (.slice tI) c3), (49, aI (List.length c3 : Int)), (50, aI i1551), (63, aD (.slice tI) (sub v1557 (0 : Int) c0)), (64, aI (List.length (sub v1557 (0 : Int) c0) : Int)), (65, aI i2035)] (by kernel_rfl) ?_
      refine seqQ_norm ?_
      refine W_seq (by kernel_rfl) ?_
      refine W_block (id := 5) (by kernel_rfl) ?_
      refine sro [(3, .val (.dat tI v2038))] [(0, .one (.ptr 1000 0)), (2, aI (List.length c3 : Int)), (3, aI c0), (4, .one (.slc 32)), (6, .one (.slc 184)), (7, aI i1551), (8, aI v1554), (9, .one (.slc 117)), (10, .one (.slc 73)), (11, aI i2035), (12, aI v2038), (48, aD (.slice tI) c3), (49, aI (List.length c3 : Int)), (50, aI i1551), (63, aD (.slice tI) (sub v1557 (0 : Int) c0)), (64, aI (List.length (sub v1557 (0 : Int) c0) : Int)), (65, aI i2035)] [(1000, .cells [.slc 2001, .slc 2002, .dat tI x2036.1, .dat tI x2036.2.1, .dat (.slice (.slice t3)) x2036.2.2.1, .dat (.slice tI) x2036.2.2.2.1, .dat (.slice (.slice tI)) x2036.2.2.2.2.1]), (32, .rows 1 (.slice (.slice tI)) x2036.2.2.2.2.2.1 []), (184, .seq tI x1552.2.2.2.2.2.2.1), (117, .seq tI x2036.2.2.2.2.2.2.1), (73, .seq tI x2036.2.2.2.2.2.2.2.1), (2001, .seq t3 x2036.2.2.2.2.2.2.2.2.1), (2002, .map t3 tI x2036.2.2.2.2.2.2.2.2.2)] [Idx (sub v1557 (0 : Int) c0) i2035 v2038] (by kernel_rfl) (allP1 (Idx.of h2039)) ?_
      refine W_seq (by kernel_rfl) ?_
      obtain ⟨_, h2041, h⟩ := bind_of h
      replace h2041 := ck_some h2041
      refine W_run 5 [] [0, 2, 3, 4, 6, 7, 8, 9, 10, 11, 12, 48, 49, 50, 63, 64, 65] [1000, 32, 184, 117, 73, 2001, 2002] (fr' := [(0, .one (.ptr 1000 0)), (2, aI (List.length c3 : Int)), (3, aI c0), (4, .one (.slc 32)), (6, .one (.slc 184)), (7, aI i1551), (8, aI v1554), (9, .one (.slc 117)), (10, .one (.slc 73)), (11, aI i2035), (12, aI v2038), (48, aD (.slice tI) c3), (49, aI (List.length c3 : Int)), (50, aI i1551), (63, aD (.slice tI) (sub v1557 (0 : Int) c0)), (64, aI (List.length (sub v1557 (0 : Int) c0) : Int)), (65, aI i2035)]) (L' := [(1000, .cells [.slc 2001, .slc 2002, .dat tI x2036.1, .dat tI x2036.2.1, .dat (.slice (.slice t3)) x2036.2.2.1, .dat (.slice tI) x2036.2.2.2.1, .dat (.slice (.slice tI)) x2036.2.2.2.2.1]), (32, .rows 1 (.slice (.slice tI)) x2036.2.2.2.2.2.1 []), (184, .seq tI x1552.2.2.2.2.2.2.1), (117, .seq tI x2036.2.2.2.2.2.2.1), (73, .seq tI (x2036.2.2.2.2.2.2.2.1 ++ [v2038])), (2001, .seq t3 x2036.2.2.2.2.2.2.2.2.1), (2002, .map t3 tI x2036.2.2.2.2.2.2.2.2.2)]) (obs := [SmallLen (List.length x2036.2.2.2.2.2.2.2.1 + List.length [v2038])]) (by kernel_rfl) (by kernel_rfl) (by kernel_rfl) (allP1 h2041) ?_
      refine seqQ_norm ?_
      refine W_seq (by kernel_rfl) ?_
      obtain ⟨v2042, h2043, h⟩ := bind_of h
      refine W_run 10 [(13, .val (.dat (.slice t3) v2042))] [0, 2, 3, 4, 6, 7, 8, 9, 10, 12, 48, 49, 50, 63, 64, 65, 81, 82, 83] [1000, 32, 184, 117, 73, 2001, 2002] (fr' := [(0, .one (.ptr 1000 0)), (2, aI (List.length c3 : Int)), (3, aI c0), (4, .one (.slc 32)), (6, .one (.slc 184)), (7, aI i1551), (8, aI v1554), (9, .one (.slc 117)), (10, .one (.slc 73)), (12, aI v2038), (48, aD (.slice tI) c3), (49, aI (List.length c3 : Int)), (50, aI i1551), (63, aD (.slice tI) (sub v1557 (0 : Int) c0)), (64, aI (List.length (sub v1557 (0 : Int) c0) : Int)), (65, aI i2035), (81, aD (.slice t3) v2042), (82, aI (List.length v2042 : Int)), (83, aI (0 : Int))]) (L' := [(1000, .cells [.slc 2001, .slc 2002, .dat tI x2036.1, .dat tI x2036.2.1, .dat (.slice (.slice t3)) x2036.2.2.1, .dat (.slice tI) x2036.2.2.2.1, .dat (.slice (.slice tI)) x2036.2.2.2.2.1]), (32, .rows 1 (.slice (.slice tI)) x2036.2.2.2.2.2.1 []), (184, .seq tI x1552.2.2.2.2.2.2.1), (117, .seq tI x2036.2.2.2.2.2.2.1), (73, .seq tI (x2036.2.2.2.2.2.2.2.1 ++ [v2038])), (2001, .seq t3 x2036.2.2.2.2.2.2.2.2.1), (2002, .map t3 tI x2036.2.2.2.2.2.2.2.2.2)]) (obs := [Idx x2036.2.2.1 i2035 v2042]) (by kernel_rfl) (by kernel_rfl) (by kernel_rfl) (allP1 (Idx.of h2043)) ?_
      refine seqQ_norm ?_
      refine W_block (id := 6) (by kernel_rfl) ?_
      obtain ⟨v2273, h2274, h⟩ := bind_of h
      refine W_len (t := 81) (u := t3) (xs := v2042) (by kernel_rfl) (fun h2277 => ?_)
      obtain ⟨h2275, h2276⟩ := forL_iter h2277 h2274
      refine W_weaken [0, 2, 3, 4, 6, 7, 8, 9, 10, 12, 48, 49, 50, 63, 64, 65, 81, 82, 83] [1000, 32, 184, 117, 73, 2001, 2002] (fr' := ((unroll_build_step_i2_s299 c0 c3 i1551 x1552 v1554 v1557 i2035 x2036 v2038 v2042) ((0 : Int), (x2036.1, x2036.2.1, x2036.2.2.1, x2036.2.2.2.1, x2036.2.2.2.2.1, x2036.2.2.2.2.2.1, x2036.2.2.2.2.2.2.1, x2036.2.2.2.2.2.2.2.2.1, x2036.2.2.2.2.2.2.2.2.2))).1) (L' := ((unroll_build_step_i2_s299 c0 c3 i1551 x1552 v1554 v1557 i2035 x2036 v2038 v2042) ((0 : Int), (x2036.1, x2036.2.1, x2036.2.2.1, x2036.2.2.2.1, x2036.2.2.2.2.1, x2036.2.2.2.2.2.1, x2036.2.2.2.2.2.2.1, x2036.2.2.2.2.2.2.2.2.1, x2036.2.2.2.2.2.2.2.2.2))).2) (by kernel_rfl) ?_
      refine W_cutK (W_loop (S := (unroll_build_step_i2_s299 c0 c3 i1551 x1552 v1554 v1557 i2035 x2036 v2038 v2042)) (J := (exQ (.exit 6) (unroll_build_step_i2_s300 c0 c3 i1551 x1552 v1554 v1557 i2035 x2036 v2038))) (by kernel_rfl) ?_ h2275 _ v2273 h2276) ?_
      ·rintro ⟨i2196, x2197⟩ s h
       refine sr [(0, .one (.ptr 1000 0)), (2, aI (List.length c3 : Int)), (3, aI c0), (4, .one (.slc 32)), (6, .one (.slc 184)), (7, aI i1551), (8, aI v1554), (9, .one (.slc 117)), (10, .one (.slc 73)), (12, aI v2038), (48, aD (.slice tI) c3), (49, aI (List.length c3 : Int)), (50, aI i1551), (63, aD (.slice tI) (sub v1557 (0 : Int) c0)), (64, aI (List.length (sub v1557 (0 : Int) c0) : Int)), (65, aI i2035), (81, aD (.slice t3) v2042), (82, aI (List.length v2042 : Int)), (83, aI i2196), (84, aB (decide (i2196 < (List.length v2042 : Int))))] [(1000, .cells [.slc 2001, .slc 2002, .dat tI x2197.1, .dat tI x2197.2.1, .dat (.slice (.slice t3)) x2197.2.2.1, .dat (.slice tI) x2197.2.2.2.1, .dat (.slice (.slice tI)) x2197.2.2.2.2.1]), (32, .rows 1 (.slice (.slice tI)) x2197.2.2.2.2.2.1 []), (184, .seq tI x1552.2.2.2.2.2.2.1), (117, .seq tI x2197.2.2.2.2.2.2.1), (73, .seq tI (x2036.2.2.2.2.2.2.2.1 ++ [v2038])), (2001, .seq t3 x2197.2.2.2.2.2.2.2.1), (2002, .map t3 tI x2197.2.2.2.2.2.2.2.2)] (by kernel_rfl) ?_
       refine W_seq (by kernel_rfl) ?_
       refine W_cond (o := .tmp 84) (b := decide (i2196 < (List.length v2042 : Int))) (by kernel_rfl) (by kernel_rfl) (fun h2201 => ?_) (fun h2201 => ?_)
       ·replace h := stepL_true h2201 h
        obtain ⟨v2199, _, h2200, h, rfl⟩ := h
        refine wkL [(0, .one (.ptr 1000 0)), (2, aI (List.length c3 : Int)), (3, aI c0), (4, .one (.slc 32)), (6, .one (.slc 184)), (7, aI i1551), (8, aI v1554), (9, .one (.slc 117)), (10, .one (.slc 73)), (12, aI v2038), (48, aD (.slice tI) c3), (49, aI (List.length c3 : Int)), (50, aI i1551), (63, aD (.slice tI) (sub v1557 (0 : Int) c0)), (64, aI (List.length (sub v1557 (0 : Int) c0) : Int)), (65, aI i2035), (81, aD (.slice t3) v2042), (82, aI (List.length v2042 : Int)), (83, aI i2196)] (by kernel_rfl) ?_
        refine seqQ_norm ?_
        refine W_seq (by kernel_rfl) ?_
        refine W_block (id := 7) (by kernel_rfl) ?_
        refine sro [(3, .val (.dat t3 v2199)), (7, .typed)] [(0, .one (.ptr 1000 0)), (2, aI (List.length c3 : Int)), (3, aI c0), (4, .one (.slc 32)), (6, .one (.slc 184)), (7, aI i1551), (8, aI v1554), (9, .one (.slc 117)), (10, .one (.slc 73)), (12, aI v2038), (13, aI i2196), (14, .one (.ptr 14 0)), (48, aD (.slice tI) c3), (49, aI (List.length c3 : Int)), (50, aI i1551), (63, aD (.slice tI) (sub v1557 (0 : Int) c0)), (64, aI (List.length (sub v1557 (0 : Int) c0) : Int)), (65, aI i2035), (81, aD (.slice t3) v2042), (82, aI (List.length v2042 : Int)), (83, aI i2196)] [(1000, .cells [.slc 2001, .slc 2002, .dat tI x2197.1, .dat tI x2197.2.1, .dat (.slice (.slice t3)) x2197.2.2.1, .dat (.slice tI) x2197.2.2.2.1, .dat (.slice (.slice tI)) x2197.2.2.2.2.1]), (32, .rows 1 (.slice (.slice tI)) x2197.2.2.2.2.2.1 []), (184, .seq tI x1552.2.2.2.2.2.2.1), (117, .seq tI x2197.2.2.2.2.2.2.1), (73, .seq tI (x2036.2.2.2.2.2.2.2.1 ++ [v2038])), (14, .one t3 v2199), (2001, .seq t3 x2197.2.2.2.2.2.2.2.1), (2002, .map t3 tI x2197.2.2.2.2.2.2.2.2)] [Idx v2042 i2196 v2199, True] (by kernel_rfl) (allP2 (Idx.of h2200) (allP1 trivial)) ?_
        refine srL [(0, .one (.ptr 1000 0)), (2, aI (List.length c3 : Int)), (3, aI c0), (4, .one (.slc 32)), (6, .one (.slc 184)), (7, aI i1551), (8, aI v1554), (9, .one (.slc 117)), (10, .one (.slc 73)), (12, aI v2038), (13, aI i2196), (14, .one (.ptr 14 0)), (15, aI v1554), (48, aD (.slice tI) c3), (49, aI (List.length c3 : Int)), (50, aI i1551), (63, aD (.slice tI) (sub v1557 (0 : Int) c0)), (64, aI (List.length (sub v1557 (0 : Int) c0) : Int)), (65, aI i2035), (81, aD (.slice t3) v2042), (82, aI (List.length v2042 : Int)), (83, aI i2196)] (by kernel_rfl) ?_
        refine W_seq (by kernel_rfl) ?_
        obtain ⟨v2246, h2247, h⟩ := bind_of h
        refine W_cutK (Q' := (exQ .normal (unroll_build_step_i2_s297 c0 c3 i1551 x1552 v1554 v1557 i2035 x2036 v2038 v2042 i2196 x2197 v2199)) v2246) ?_ ?_
        ·replace h := h2247
         refine sr [(0, .one (.ptr 1000 0)), (2, aI (List.length c3 : Int)), (3, aI c0), (4, .one (.slc 32)), (6, .one (.slc 184)), (7, aI i1551), (8, aI v1554), (9, .one (.slc 117)), (10, .one (.slc 73)), (12, aI v2038), (13, aI i2196), (14, .one (.ptr 14 0)), (15, aI v1554), (48, aD (.slice tI) c3), (49, aI (List.length c3 : Int)), (50, aI i1551), (63, aD (.slice tI) (sub v1557 (0 : Int) c0)), (64, aI (List.length (sub v1557 (0 : Int) c0) : Int)), (65, aI i2035), (81, aD (.slice t3) v2042), (82, aI (List.length v2042 : Int)), (83, aI i2196), (94, aB ((i2196 == (0 : Int)) && (decide (v1554 ≥ (0 : Int)))))] [(1000, .cells [.slc 2001, .slc 2002, .dat tI x2197.1, .dat tI x2197.2.1, .dat (.slice (.slice t3)) x2197.2.2.1, .dat (.slice tI) x2197.2.2.2.1, .dat (.slice (.slice tI)) x2197.2.2.2.2.1]), (32, .rows 1 (.slice (.slice tI)) x2197.2.2.2.2.2.1 []), (184, .seq tI x1552.2.2.2.2.2.2.1), (117, .seq tI x2197.2.2.2.2.2.2.1), (73, .seq tI (x2036.2.2.2.2.2.2.2.1 ++ [v2038])), (14, .one t3 v2199), (2001, .seq t3 x2197.2.2.2.2.2.2.2.1), (2002, .map t3 tI x2197.2.2.2.2.2.2.2.2)] (by kernel_rfl) ?_
         refine W_cond (o := .tmp 94) (b := (i2196 == (0 : Int)) && (decide (v1554 ≥ (0 : Int)))) (by kernel_rfl) (by kernel_rfl) (fun h2243 => ?_) (fun h2243 => ?_)
         ·replace h := ofT h2243 h
          refine W_region (by kernel_rfl) ?_
          refine wo 4 [(0, .one (.ptr 1000 0)), (2, aI (List.length c3 : Int)), (3, aI c0), (4, .one (.slc 32)), (6, .one (.slc 184)), (7, aI i1551), (8, aI v1554), (9, .one (.slc 117)), (10, .one (.slc 73)), (12, aI v2038), (13, aI i2196), (14, .one (.ptr 14 0)), (15, aI v1554), (48, aD (.slice tI) c3), (49, aI (List.length c3 : Int)), (50, aI i1551), (63, aD (.slice tI) (sub v1557 (0 : Int) c0)), (64, aI (List.length (sub v1557 (0 : Int) c0) : Int)), (65, aI i2035), (81, aD (.slice t3) v2042), (82, aI (List.length v2042 : Int)), (83, aI i2196), (97, .one (.ptr 1000 0)), (98, aI v1554)] [(14, .one t3 v2199), (32, .rows 1 (.slice (.slice tI)) x2197.2.2.2.2.2.1 []), (73, .seq tI (x2036.2.2.2.2.2.2.2.1 ++ [v2038])), (117, .seq tI x2197.2.2.2.2.2.2.1), (184, .seq tI x1552.2.2.2.2.2.2.1), (1000, .cells [.slc 2001, .slc 2002, .dat tI x2197.1, .dat tI x2197.2.1, .dat (.slice (.slice t3)) x2197.2.2.1, .dat (.slice tI) x2197.2.2.2.1, .dat (.slice (.slice tI)) x2197.2.2.2.2.1]), (2001, .seq t3 x2197.2.2.2.2.2.2.2.1), (2002, .map t3 tI x2197.2.2.2.2.2.2.2.2)] (by kernel_rfl) ?_
          obtain ⟨r2244, h2245, h⟩ := bind_of h
          refine WO_lend2 [(1000, 1000), (2001, 2001), (2002, 2002)] (us := [none, none, none, none]) (d := 99) (p := True) (j := 5) rfl ⟨by kernel_rfl, by kernel_rfl, by kernel_rfl⟩ trivial (gate_Maker_Put_i5_ok h2245) (by kernel_rfl) (by kernel_rfl) ?_
          refine wo 6 [(0, .one (.ptr 1000 0)), (2, aI (List.length c3 : Int)), (3, aI c0), (4, .one (.slc 32)), (6, .one (.slc 184)), (7, aI i1551), (8, aI v1554), (9, .one (.slc 117)), (10, .one (.slc 73)), (12, aI v2038), (13, aI i2196), (14, .one (.ptr 14 0)), (15, aI r2244.1), (48, aD (.slice tI) c3), (49, aI (List.length c3 : Int)), (50, aI i1551), (63, aD (.slice tI) (sub v1557 (0 : Int) c0)), (64, aI (List.length (sub v1557 (0 : Int) c0) : Int)), (65, aI i2035), (81, aD (.slice t3) v2042), (82, aI (List.length v2042 : Int)), (83, aI i2196)] [(14, .one t3 v2199), (32, .rows 1 (.slice (.slice tI)) x2197.2.2.2.2.2.1 []), (73, .seq tI (x2036.2.2.2.2.2.2.2.1 ++ [v2038])), (117, .seq tI x2197.2.2.2.2.2.2.1), (184, .seq tI x1552.2.2.2.2.2.2.1), (1000, .cells [.slc 2001, .slc 2002, .dat tI r2244.2.1, .dat tI r2244.2.2.1, .dat (.slice (.slice t3)) r2244.2.2.2.1, .dat (.slice tI) r2244.2.2.2.2.1, .dat (.slice (.slice tI)) r2244.2.2.2.2.2.1]), (2001, .seq t3 r2244.2.2.2.2.2.2.1), (2002, .map t3 tI r2244.2.2.2.2.2.2.2)] (by kernel_rfl) ?_
          obtain rfl := Option.some.inj h
          refine wf [(0, .one (.ptr 1000 0)), (2, aI (List.length c3 : Int)), (3, aI c0), (4, .one (.slc 32)), (6, .one (.slc 184)), (7, aI i1551), (8, aI v1554), (9, .one (.slc 117)), (10, .one (.slc 73)), (12, aI v2038), (13, aI i2196), (14, .one (.ptr 14 0)), (15, aI r2244.1), (48, aD (.slice tI) c3), (49, aI (List.length c3 : Int)), (50, aI i1551), (63, aD (.slice tI) (sub v1557 (0 : Int) c0)), (64, aI (List.length (sub v1557 (0 : Int) c0) : Int)), (65, aI i2035), (81, aD (.slice t3) v2042), (82, aI (List.length v2042 : Int)), (83, aI i2196)] [(1000, .cells [.slc 2001, .slc 2002, .dat tI r2244.2.1, .dat tI r2244.2.2.1, .dat (.slice (.slice t3)) r2244.2.2.2.1, .dat (.slice tI) r2244.2.2.2.2.1, .dat (.slice (.slice tI)) r2244.2.2.2.2.2.1]), (32, .rows 1 (.slice (.slice tI)) x2197.2.2.2.2.2.1 []), (184, .seq tI x1552.2.2.2.2.2.2.1), (117, .seq tI x2197.2.2.2.2.2.2.1), (73, .seq tI (x2036.2.2.2.2.2.2.2.1 ++ [v2038])), (14, .one t3 v2199), (2001, .seq t3 r2244.2.2.2.2.2.2.1), (2002, .map t3 tI r2244.2.2.2.2.2.2.2)] (by kernel_rfl) ?_
          exact exM (by kernel_rfl)
         ·replace h := ofF h2243 h
          obtain rfl := Option.some.inj h
          refine wkL [(0, .one (.ptr 1000 0)), (2, aI (List.length c3 : Int)), (3, aI c0), (4, .one (.slc 32)), (6, .one (.slc 184)), (7, aI i1551), (8, aI v1554), (9, .one (.slc 117)), (10, .one (.slc 73)), (12, aI v2038), (13, aI i2196), (14, .one (.ptr 14 0)), (15, aI v1554), (48, aD (.slice tI) c3), (49, aI (List.length c3 : Int)), (50, aI i1551), (63, aD (.slice tI) (sub v1557 (0 : Int) c0)), (64, aI (List.length (sub v1557 (0 : Int) c0) : Int)), (65, aI i2035), (81, aD (.slice t3) v2042), (82, aI (List.length v2042 : Int)), (83, aI i2196)] (by kernel_rfl) ?_
          exact exM (by kernel_rfl)
        ·intro e fr L hJ
         obtain ⟨rfl, rfl, rfl⟩ := hJ
         refine ltk [(0, .one (.ptr 1000 0)), (2, aI (List.length c3 : Int)), (3, aI c0), (4, .one (.slc 32)), (6, .one (.slc 184)), (7, aI i1551), (8, aI v1554), (9, .one (.slc 117)), (10, .one (.slc 73)), (12, aI v2038), (13, aI i2196), (14, .one (.ptr 14 0)), (15, aI v2246.1), (48, aD (.slice tI) c3), (49, aI (List.length c3 : Int)), (50, aI i1551), (63, aD (.slice tI) (sub v1557 (0 : Int) c0)), (64, aI (List.length (sub v1557 (0 : Int) c0) : Int)), (65, aI i2035), (81, aD (.slice t3) v2042), (82, aI (List.length v2042 : Int)), (83, aI i2196)] [(1000, .cells [.slc 2001, .slc 2002, .dat tI v2246.2.1, .dat tI v2246.2.2.1, .dat (.slice (.slice t3)) v2246.2.2.2.1, .dat (.slice tI) v2246.2.2.2.2.1, .dat (.slice (.slice tI)) v2246.2.2.2.2.2.1]), (32, .rows 1 (.slice (.slice tI)) x2197.2.2.2.2.2.1 []), (184, .seq tI x1552.2.2.2.2.2.2.1), (117, .seq tI x2197.2.2.2.2.2.2.1), (73, .seq tI (x2036.2.2.2.2.2.2.2.1 ++ [v2038])), (14, .one t3 v2199), (2001, .seq t3 v2246.2.2.2.2.2.2.1), (2002, .map t3 tI v2246.2.2.2.2.2.2.2)] (by kernel_rfl) ?_
         refine seqQ_norm ?_
         refine W_seq (by kernel_rfl) ?_
         refine W_region (by kernel_rfl) ?_
         refine wo 3 [(0, .one (.ptr 1000 0)), (2, aI (List.length c3 : Int)), (3, aI c0), (4, .one (.slc 32)), (6, .one (.slc 184)), (7, aI i1551), (8, aI v1554), (9, .one (.slc 117)), (10, .one (.slc 73)), (12, aI v2038), (13, aI i2196), (14, .one (.ptr 14 0)), (48, aD (.slice tI) c3), (49, aI (List.length c3 : Int)), (50, aI i1551), (63, aD (.slice tI) (sub v1557 (0 : Int) c0)), (64, aI (List.length (sub v1557 (0 : Int) c0) : Int)), (65, aI i2035), (81, aD (.slice t3) v2042), (82, aI (List.length v2042 : Int)), (83, aI i2196), (100, .one (.ptr 1000 0)), (101, aI v2038), (102, aI v2246.1)] [(14, .one t3 v2199), (32, .rows 1 (.slice (.slice tI)) x2197.2.2.2.2.2.1 []), (73, .seq tI (x2036.2.2.2.2.2.2.2.1 ++ [v2038])), (117, .seq tI x2197.2.2.2.2.2.2.1), (184, .seq tI x1552.2.2.2.2.2.2.1), (1000, .cells [.slc 2001, .slc 2002, .dat tI v2246.2.1, .dat tI v2246.2.2.1, .dat (.slice (.slice t3)) v2246.2.2.2.1, .dat (.slice tI) v2246.2.2.2.2.1, .dat (.slice (.slice tI)) v2246.2.2.2.2.2.1]), (2001, .seq t3 v2246.2.2.2.2.2.2.1), (2002, .map t3 tI v2246.2.2.2.2.2.2.2)] (by kernel_rfl) ?_
         obtain ⟨r2248, h2249, h⟩ := bind_of h
         refine WO_lend2 [(1000, 1000), (2001, 2001), (2002, 2002)] (us := [none, none, none]) (d := 103) (p := True) (j := 4) rfl ⟨by kernel_rfl, by kernel_rfl, by kernel_rfl⟩ trivial (unroll_build_both_i2_ok h2249) (by kernel_rfl) (by kernel_rfl) ?_
         refine wo 5 [(0, .one (.ptr 1000 0)), (2, aI (List.length c3 : Int)), (3, aI c0), (4, .one (.slc 32)), (6, .one (.slc 184)), (7, aI i1551), (8, aI v1554), (9, .one (.slc 117)), (10, .one (.slc 73)), (12, aI v2038), (13, aI i2196), (14, .one (.ptr 14 0)), (16, aI r2248.1), (48, aD (.slice tI) c3), (49, aI (List.length c3 : Int)), (50, aI i1551), (63, aD (.slice tI) (sub v1557 (0 : Int) c0)), (64, aI (List.length (sub v1557 (0 : Int) c0) : Int)), (65, aI i2035), (81, aD (.slice t3) v2042), (82, aI (List.length v2042 : Int)), (83, aI i2196)] [(14, .one t3 v2199), (32, .rows 1 (.slice (.slice tI)) x2197.2.2.2.2.2.1 []), (73, .seq tI (x2036.2.2.2.2.2.2.2.1 ++ [v2038])), (117, .seq tI x2197.2.2.2.2.2.2.1), (184, .seq tI x1552.2.2.2.2.2.2.1), (1000, .cells [.slc 2001, .slc 2002, .dat tI r2248.2.1, .dat tI r2248.2.2.1, .dat (.slice (.slice t3)) r2248.2.2.2.1, .dat (.slice tI) r2248.2.2.2.2.1, .dat (.slice (.slice tI)) r2248.2.2.2.2.2.1]), (2001, .seq t3 r2248.2.2.2.2.2.2.1), (2002, .map t3 tI r2248.2.2.2.2.2.2.2)] (by kernel_rfl) ?_
         refine wf [(0, .one (.ptr 1000 0)), (2, aI (List.length c3 : Int)), (3, aI c0), (4, .one (.slc 32)), (6, .one (.slc 184)), (7, aI i1551), (8, aI v1554), (9, .one (.slc 117)), (10, .one (.slc 73)), (12, aI v2038), (13, aI i2196), (14, .one (.ptr 14 0)), (16, aI r2248.1), (48, aD (.slice tI) c3), (49, aI (List.length c3 : Int)), (50, aI i1551), (63, aD (.slice tI) (sub v1557 (0 : Int) c0)), (64, aI (List.length (sub v1557 (0 : Int) c0) : Int)), (65, aI i2035), (81, aD (.slice t3) v2042), (82, aI (List.length v2042 : Int)), (83, aI i2196)] [(1000, .cells [.slc 2001, .slc 2002, .dat tI r2248.2.1, .dat tI r2248.2.2.1, .dat (.slice (.slice t3)) r2248.2.2.2.1, .dat (.slice tI) r2248.2.2.2.2.1, .dat (.slice (.slice tI)) r2248.2.2.2.2.2.1]), (32, .rows 1 (.slice (.slice tI)) x2197.2.2.2.2.2.1 []), (184, .seq tI x1552.2.2.2.2.2.2.1), (117, .seq tI x2197.2.2.2.2.2.2.1), (73, .seq tI (x2036.2.2.2.2.2.2.2.1 ++ [v2038])), (14, .one t3 v2199), (2001, .seq t3 r2248.2.2.2.2.2.2.1), (2002, .map t3 tI r2248.2.2.2.2.2.2.2)] (by kernel_rfl) ?_
         refine seqQ_norm ?_
         refine W_seq (by kernel_rfl) ?_
         obtain ⟨v2253, h2254, h⟩ := bind_of h
         refine W_cutK (Q' := (exQ .normal (unroll_build_step_i2_s296 c0 c3 i1551 x1552 v1554 v1557 i2035 x2036 v2038 v2042 i2196 x2197 v2199 r2248)) v2253) ?_ ?_
         ·replace h := h2254
          refine sr [(0, .one (.ptr 1000 0)), (2, aI (List.length c3 : Int)), (3, aI c0), (4, .one (.slc 32)), (6, .one (.slc 184)), (7, aI i1551), (8, aI v1554), (9, .one (.slc 117)), (10, .one (.slc 73)), (12, aI v2038), (14, .one (.ptr 14 0)), (16, aI r2248.1), (48, aD (.slice tI) c3), (49, aI (List.length c3 : Int)), (50, aI i1551), (63, aD (.slice tI) (sub v1557 (0 : Int) c0)), (64, aI (List.length (sub v1557 (0 : Int) c0) : Int)), (65, aI i2035), (81, aD (.slice t3) v2042), (82, aI (List.length v2042 : Int)), (83, aI i2196), (109, aB ((decide (v1554 < (0 : Int))) && (i2196 == (0 : Int))))] [(1000, .cells [.slc 2001, .slc 2002, .dat tI r2248.2.1, .dat tI r2248.2.2.1, .dat (.slice (.slice t3)) r2248.2.2.2.1, .dat (.slice tI) r2248.2.2.2.2.1, .dat (.slice (.slice tI)) r2248.2.2.2.2.2.1]), (32, .rows 1 (.slice (.slice tI)) x2197.2.2.2.2.2.1 []), (184, .seq tI x1552.2.2.2.2.2.2.1), (117, .seq tI x2197.2.2.2.2.2.2.1), (73, .seq tI (x2036.2.2.2.2.2.2.2.1 ++ [v2038])), (14, .one t3 v2199), (2001, .seq t3 r2248.2.2.2.2.2.2.1), (2002, .map t3 tI r2248.2.2.2.2.2.2.2)] (by kernel_rfl) ?_
          refine W_cond (o := .tmp 109) (b := (decide (v1554 < (0 : Int))) && (i2196 == (0 : Int))) (by kernel_rfl) (by kernel_rfl) (fun h2252 => ?_) (fun h2252 => ?_)
          ·replace h := ofT h2252 h
           obtain rfl := Option.some.inj h
           refine swL [(0, .one (.ptr 1000 0)), (2, aI (List.length c3 : Int)), (3, aI c0), (4, .one (.slc 32)), (6, .one (.slc 184)), (7, aI i1551), (8, aI v1554), (9, .one (.slc 117)), (10, .one (.slc 73)), (12, aI v2038), (14, .one (.ptr 14 0)), (16, aI v2038), (48, aD (.slice tI) c3), (49, aI (List.length c3 : Int)), (50, aI i1551), (63, aD (.slice tI) (sub v1557 (0 : Int) c0)), (64, aI (List.length (sub v1557 (0 : Int) c0) : Int)), (65, aI i2035), (81, aD (.slice t3) v2042), (82, aI (List.length v2042 : Int)), (83, aI i2196)] (by kernel_rfl) ?_
           exact exM (by kernel_rfl)
          ·replace h := ofF h2252 h
           obtain rfl := Option.some.inj h
           refine wkL [(0, .one (.ptr 1000 0)), (2, aI (List.length c3 : Int)), (3, aI c0), (4, .one (.slc 32)), (6, .one (.slc 184)), (7, aI i1551), (8, aI v1554), (9, .one (.slc 117)), (10, .one (.slc 73)), (12, aI v2038), (14, .one (.ptr 14 0)), (16, aI r2248.1), (48, aD (.slice tI) c3), (49, aI (List.length c3 : Int)), (50, aI i1551), (63, aD (.slice tI) (sub v1557 (0 : Int) c0)), (64, aI (List.length (sub v1557 (0 : Int) c0) : Int)), (65, aI i2035), (81, aD (.slice t3) v2042), (82, aI (List.length v2042 : Int)), (83, aI i2196)] (by kernel_rfl) ?_
           exact exM (by kernel_rfl)
         ·intro e fr L hJ
          obtain ⟨rfl, rfl, rfl⟩ := hJ
          refine ltk [(0, .one (.ptr 1000 0)), (2, aI (List.length c3 : Int)), (3, aI c0), (4, .one (.slc 32)), (6, .one (.slc 184)), (7, aI i1551), (8, aI v1554), (9, .one (.slc 117)), (10, .one (.slc 73)), (12, aI v2038), (14, .one (.ptr 14 0)), (16, aI v2253), (48, aD (.slice tI) c3), (49, aI (List.length c3 : Int)), (50, aI i1551), (63, aD (.slice tI) (sub v1557 (0 : Int) c0)), (64, aI (List.length (sub v1557 (0 : Int) c0) : Int)), (65, aI i2035), (81, aD (.slice t3) v2042), (82, aI (List.length v2042 : Int)), (83, aI i2196)] [(1000, .cells [.slc 2001, .slc 2002, .dat tI r2248.2.1, .dat tI r2248.2.2.1, .dat (.slice (.slice t3)) r2248.2.2.2.1, .dat (.slice tI) r2248.2.2.2.2.1, .dat (.slice (.slice tI)) r2248.2.2.2.2.2.1]), (32, .rows 1 (.slice (.slice tI)) x2197.2.2.2.2.2.1 []), (184, .seq tI x1552.2.2.2.2.2.2.1), (117, .seq tI x2197.2.2.2.2.2.2.1), (73, .seq tI (x2036.2.2.2.2.2.2.2.1 ++ [v2038])), (14, .one t3 v2199), (2001, .seq t3 r2248.2.2.2.2.2.2.1), (2002, .map t3 tI r2248.2.2.2.2.2.2.2)] (by kernel_rfl) ?_
          refine seqQ_norm ?_
          refine W_seq (by kernel_rfl) ?_
          obtain ⟨v2261, h2262, h⟩ := bind_of h
          refine W_cutK (Q' := (exQ .normal (unroll_build_step_i2_s295 c0 c3 i1551 x1552 v1554 v1557 i2035 x2036 v2038 v2042 i2196 x2197 v2199 r2248 v2253)) v2261) ?_ ?_
          ·replace h := h2262
           refine sr [(0, .one (.ptr 1000 0)), (2, aI (List.length c3 : Int)), (3, aI c0), (4, .one (.slc 32)), (6, .one (.slc 184)), (7, aI i1551), (8, aI v1554), (9, .one (.slc 117)), (10, .one (.slc 73)), (12, aI v2038), (14, .one (.ptr 14 0)), (16, aI v2253), (48, aD (.slice tI) c3), (49, aI (List.length c3 : Int)), (50, aI i1551), (63, aD (.slice tI) (sub v1557 (0 : Int) c0)), (64, aI (List.length (sub v1557 (0 : Int) c0) : Int)), (65, aI i2035), (81, aD (.slice t3) v2042), (82, aI (List.length v2042 : Int)), (83, aI i2196), (113, aB (v2199.1 == (1 : Int)))] [(1000, .cells [.slc 2001, .slc 2002, .dat tI r2248.2.1, .dat tI r2248.2.2.1, .dat (.slice (.slice t3)) r2248.2.2.2.1, .dat (.slice tI) r2248.2.2.2.2.1, .dat (.slice (.slice tI)) r2248.2.2.2.2.2.1]), (32, .rows 1 (.slice (.slice tI)) x2197.2.2.2.2.2.1 []), (184, .seq tI x1552.2.2.2.2.2.2.1), (117, .seq tI x2197.2.2.2.2.2.2.1), (73, .seq tI (x2036.2.2.2.2.2.2.2.1 ++ [v2038])), (14, .one t3 v2199), (2001, .seq t3 r2248.2.2.2.2.2.2.1), (2002, .map t3 tI r2248.2.2.2.2.2.2.2)] (by kernel_rfl) ?_
           refine W_cond (o := .tmp 113) (b := v2199.1 == (1 : Int)) (by kernel_rfl) (by kernel_rfl) (fun h2259 => ?_) (fun h2259 => ?_)
           ·replace h := ofT h2259 h
            obtain ⟨_, h2260, h⟩ := bind_of h
            replace h2260 := ck_some h2260
            obtain rfl := Option.some.inj h
            refine W_run 5 [] [0, 2, 3, 4, 6, 7, 8, 9, 10, 12, 14, 16, 48, 49, 50, 63, 64, 65, 81, 82, 83] [1000, 32, 184, 117, 73, 14, 2001, 2002] (fr' := [(0, .one (.ptr 1000 0)), (2, aI (List.length c3 : Int)), (3, aI c0), (4, .one (.slc 32)), (6, .one (.slc 184)), (7, aI i1551), (8, aI v1554), (9, .one (.slc 117)), (10, .one (.slc 73)), (12, aI v2038), (14, .one (.ptr 14 0)), (16, aI v2253), (48, aD (.slice tI) c3), (49, aI (List.length c3 : Int)), (50, aI i1551), (63, aD (.slice tI) (sub v1557 (0 : Int) c0)), (64, aI (List.length (sub v1557 (0 : Int) c0) : Int)), (65, aI i2035), (81, aD (.slice t3) v2042), (82, aI (List.length v2042 : Int)), (83, aI i2196)]) (L' := [(1000, .cells [.slc 2001, .slc 2002, .dat tI r2248.2.1, .dat tI r2248.2.2.1, .dat (.slice (.slice t3)) r2248.2.2.2.1, .dat (.slice tI) r2248.2.2.2.2.1, .dat (.slice (.slice tI)) r2248.2.2.2.2.2.1]), (32, .rows 1 (.slice (.slice tI)) x2197.2.2.2.2.2.1 []), (184, .seq tI x1552.2.2.2.2.2.2.1), (117, .seq tI (x2197.2.2.2.2.2.2.1 ++ [v2253])), (73, .seq tI (x2036.2.2.2.2.2.2.2.1 ++ [v2038])), (14, .one t3 v2199), (2001, .seq t3 r2248.2.2.2.2.2.2.1), (2002, .map t3 tI r2248.2.2.2.2.2.2.2)]) (obs := [SmallLen (List.length x2197.2.2.2.2.2.2.1 + List.length [v2253])]) (by kernel_rfl) (by kernel_rfl) (by kernel_rfl) (allP1 h2260) ?_
            exact exM (by kernel_rfl)
           ·replace h := ofF h2259 h
            obtain rfl := Option.some.inj h
            refine wkL [(0, .one (.ptr 1000 0)), (2, aI (List.length c3 : Int)), (3, aI c0), (4, .one (.slc 32)), (6, .one (.slc 184)), (7, aI i1551), (8, aI v1554), (9, .one (.slc 117)), (10, .one (.slc 73)), (12, aI v2038), (14, .one (.ptr 14 0)), (16, aI v2253), (48, aD (.slice tI) c3), (49, aI (List.length c3 : Int)), (50, aI i1551), (63, aD (.slice tI) (sub v1557 (0 : Int) c0)), (64, aI (List.length (sub v1557 (0 : Int) c0) : Int)), (65, aI i2035), (81, aD (.slice t3) v2042), (82, aI (List.length v2042 : Int)), (83, aI i2196)] (by kernel_rfl) ?_
            exact exM (by kernel_rfl)
          ·intro e fr L hJ
           obtain ⟨rfl, rfl, rfl⟩ := hJ
           refine ltk [(0, .one (.ptr 1000 0)), (2, aI (List.length c3 : Int)), (3, aI c0), (4, .one (.slc 32)), (6, .one (.slc 184)), (7, aI i1551), (8, aI v1554), (9, .one (.slc 117)), (10, .one (.slc 73)), (12, aI v2038), (14, .one (.ptr 14 0)), (16, aI v2253), (48, aD (.slice tI) c3), (49, aI (List.length c3 : Int)), (50, aI i1551), (63, aD (.slice tI) (sub v1557 (0 : Int) c0)), (64, aI (List.length (sub v1557 (0 : Int) c0) : Int)), (65, aI i2035), (81, aD (.slice t3) v2042), (82, aI (List.length v2042 : Int)), (83, aI i2196)] [(1000, .cells [.slc 2001, .slc 2002, .dat tI r2248.2.1, .dat tI r2248.2.2.1, .dat (.slice (.slice t3)) r2248.2.2.2.1, .dat (.slice tI) r2248.2.2.2.2.1, .dat (.slice (.slice tI)) r2248.2.2.2.2.2.1]), (32, .rows 1 (.slice (.slice tI)) x2197.2.2.2.2.2.1 []), (184, .seq tI x1552.2.2.2.2.2.2.1), (117, .seq tI v2261), (73, .seq tI (x2036.2.2.2.2.2.2.2.1 ++ [v2038])), (14, .one t3 v2199), (2001, .seq t3 r2248.2.2.2.2.2.2.1), (2002, .map t3 tI r2248.2.2.2.2.2.2.2)] (by kernel_rfl) ?_
           refine seqQ_norm ?_
           refine srL [(0, .one (.ptr 1000 0)), (2, aI (List.length c3 : Int)), (3, aI c0), (4, .one (.slc 32)), (6, .one (.slc 184)), (7, aI i1551), (8, aI v1554), (9, .one (.slc 117)), (10, .one (.slc 73)), (12, aI v2038), (14, .one (.ptr 14 0)), (16, aI v2253), (17, aI (imin (imax (w64 (i1551 + v2199.2.1)) (0 : Int)) (w64 ((List.length c3 : Int) - (1 : Int))))), (48, aD (.slice tI) c3), (49, aI (List.length c3 : Int)), (50, aI i1551), (63, aD (.slice tI) (sub v1557 (0 : Int) c0)), (64, aI (List.length (sub v1557 (0 : Int) c0) : Int)), (65, aI i2035), (81, aD (.slice t3) v2042), (82, aI (List.length v2042 : Int)), (83, aI i2196)] (by kernel_rfl) ?_
           obtain ⟨v2265, h2266, h⟩ := bind_of h
           refine W_take 32 900 (imin (imax (w64 (i1551 + v2199.2.1)) (0 : Int)) (w64 ((List.length c3 : Int) - (1 : Int)))) (.dat (.slice (.slice tI)) v2265) (p := Idx x2197.2.2.2.2.2.1 (imin (imax (w64 (i1551 + v2199.2.1)) (0 : Int)) (w64 ((List.length c3 : Int) - (1 : Int)))) v2265 ∧ True) (by kernel_rfl) ⟨Idx.of h2266, trivial⟩ ?_
           obtain ⟨v2269, h2270, h⟩ := bind_of h
           refine W_take 900 901 v2199.2.2 (.dat (.slice tI) v2269) (p := Idx v2265 v2199.2.2 v2269 ∧ True) (by kernel_rfl) ⟨Idx.of h2270, trivial⟩ ?_
           obtain ⟨_, h2271, h⟩ := bind_of h
           replace h2271 := ck_some h2271
           refine W_drawC5 17 [(16, [901], [(901, .seq tI (v2269 ++ [v2253]))])] [] [(16, .one (.slc 901))] [(7, .val (.slc 900)), (19, .val (.slc 900)), (27, .val (.slc 901))] [] [0, 2, 3, 4, 6, 7, 8, 9, 10, 12, 48, 49, 50, 63, 64, 65, 81, 82, 83, 129, 131, 142] [14, 32, 73, 117, 184, 900, 901, 1000, 2001, 2002] (out := [(126, .one (.slc 32)), (127, aI (imin (imax (w64 (i1551 + v2199.2.1)) (0 : Int)) (w64 ((List.length c3 : Int) - (1 : Int))))), (128, .one (.eptr 32 1 (imin (imax (w64 (i1551 + v2199.2.1)) (0 : Int)) (w64 ((List.length c3 : Int) - (1 : Int)))) 0)), (129, .one (.slc 900)), (130, .one (.ptr 14 2)), (131, aI v2199.2.2), (132, .one (.slc 32)), (133, aI (imin (imax (w64 (i1551 + v2199.2.1)) (0 : Int)) (w64 ((List.length c3 : Int) - (1 : Int))))), (134, .one (.eptr 32 1 (imin (imax (w64 (i1551 + v2199.2.1)) (0 : Int)) (w64 ((List.length c3 : Int) - (1 : Int)))) 0)), (135, .one (.slc 900)), (136, .one (.ptr 14 2)), (137, aI v2199.2.2), (138, .one (.eptr 900 1 v2199.2.2 0)), (139, .one (.slc 901)), (140, aI v2253), (141, aD (.slice tI) [v2253]), (142, .one (.slc 901))]) (obs := [InR (imin (imax (w64 (i1551 + v2199.2.1)) (0 : Int)) (w64 ((List.length c3 : Int) - (1 : Int)))) (List.length x2197.2.2.2.2.2.1), ((imin (imax (w64 (i1551 + v2199.2.1)) (0 : Int)) (w64 ((List.length c3 : Int) - (1 : Int)))) = (imin (imax (w64 (i1551 + v2199.2.1)) (0 : Int)) (w64 ((List.length c3 : Int) - (1 : Int))))) ∧ InR (imin (imax (w64 (i1551 + v2199.2.1)) (0 : Int)) (w64 ((List.length c3 : Int) - (1 : Int)))) (List.length x2197.2.2.2.2.2.1), InR (imin (imax (w64 (i1551 + v2199.2.1)) (0 : Int)) (w64 ((List.length c3 : Int) - (1 : Int)))) (List.length x2197.2.2.2.2.2.1), ((imin (imax (w64 (i1551 + v2199.2.1)) (0 : Int)) (w64 ((List.length c3 : Int) - (1 : Int)))) = (imin (imax (w64 (i1551 + v2199.2.1)) (0 : Int)) (w64 ((List.length c3 : Int) - (1 : Int))))) ∧ InR (imin (imax (w64 (i1551 + v2199.2.1)) (0 : Int)) (w64 ((List.length c3 : Int) - (1 : Int)))) (List.length x2197.2.2.2.2.2.1), InR v2199.2.2 (List.length v2265), ((.one (.eptr 900 1 v2199.2.2 0) : AV) = .one (.eptr 900 1 v2199.2.2 0)), InR v2199.2.2 (List.length v2265), (v2199.2.2 = v2199.2.2) ∧ InR v2199.2.2 (List.length v2265), True]) (calls := []) (fr' := [(0, .one (.ptr 1000 0)), (2, aI (List.length c3 : Int)), (3, aI c0), (4, .one (.slc 32)), (6, .one (.slc 184)), (7, aI i1551), (8, aI v1554), (9, .one (.slc 117)), (10, .one (.slc 73)), (12, aI v2038), (48, aD (.slice tI) c3), (49, aI (List.length c3 : Int)), (50, aI i1551), (63, aD (.slice tI) (sub v1557 (0 : Int) c0)), (64, aI (List.length (sub v1557 (0 : Int) c0) : Int)), (65, aI i2035), (81, aD (.slice t3) v2042), (82, aI (List.length v2042 : Int)), (83, aI i2196), (129, .one (.slc 900)), (131, aI v2199.2.2), (142, .one (.slc 901))]) (L' := [(14, .one t3 v2199), (32, .rows 1 (.slice (.slice tI)) x2197.2.2.2.2.2.1 [(imin (imax (w64 (i1551 + v2199.2.1)) (0 : Int)) (w64 ((List.length c3 : Int) - (1 : Int))), true, .slc 900)]), (73, .seq tI (x2036.2.2.2.2.2.2.2.1 ++ [v2038])), (117, .seq tI v2261), (184, .seq tI x1552.2.2.2.2.2.2.1), (900, .rows 0 (.slice tI) v2265 [(v2199.2.2, true, .any)]), (901, .seq tI (v2269 ++ [v2253])), (1000, .cells [.slc 2001, .slc 2002, .dat tI r2248.2.1, .dat tI r2248.2.2.1, .dat (.slice (.slice t3)) r2248.2.2.2.1, .dat (.slice tI) r2248.2.2.2.2.1, .dat (.slice (.slice tI)) r2248.2.2.2.2.2.1]), (2001, .seq t3 r2248.2.2.2.2.2.2.1), (2002, .map t3 tI r2248.2.2.2.2.2.2.2)]) (by kernel_rfl) (by kernel_rfl) (by kernel_rfl) (by kernel_rfl) (by kernel_rfl) (allP2 (InR.of h2266) (allP2 ⟨rfl, (InR.of h2266)⟩ (allP2 (InR.of h2266) (allP2 ⟨rfl, (InR.of h2266)⟩ (allP2 (InR.of h2270) (allP2 rfl (allP2 (InR.of h2270) (allP2 ⟨rfl, (InR.of h2270)⟩ (allP1 trivial))))))))) allD0 (chDo (ty := false) (d := 142) (nm := 901) (ob := .seq tI (v2269 ++ [v2253])) (av := .one (.slc 901)) (p := SmallLen (List.length v2269 + List.length [v2253])) (by kernel_rfl) h2271 (by kernel_rfl) chNil) mkNil (by kernel_rfl) ?_
           refine woo 19 [] [(0, .one (.ptr 1000 0)), (2, aI (List.length c3 : Int)), (3, aI c0), (4, .one (.slc 32)), (6, .one (.slc 184)), (7, aI i1551), (8, aI v1554), (9, .one (.slc 117)), (10, .one (.slc 73)), (12, aI v2038), (48, aD (.slice tI) c3), (49, aI (List.length c3 : Int)), (50, aI i1551), (63, aD (.slice tI) (sub v1557 (0 : Int) c0)), (64, aI (List.length (sub v1557 (0 : Int) c0) : Int)), (65, aI i2035), (81, aD (.slice t3) v2042), (82, aI (List.length v2042 : Int)), (83, aI i2196)] [(14, .one t3 v2199), (32, .rows 1 (.slice (.slice tI)) x2197.2.2.2.2.2.1 [(imin (imax (w64 (i1551 + v2199.2.1)) (0 : Int)) (w64 ((List.length c3 : Int) - (1 : Int))), true, .slc 900)]), (73, .seq tI (x2036.2.2.2.2.2.2.2.1 ++ [v2038])), (117, .seq tI v2261), (184, .seq tI x1552.2.2.2.2.2.2.1), (900, .rows 0 (.slice tI) v2265 [(v2199.2.2, false, .slc 901), (v2199.2.2, true, .any)]), (901, .seq tI (v2269 ++ [v2253])), (1000, .cells [.slc 2001, .slc 2002, .dat tI r2248.2.1, .dat tI r2248.2.2.1, .dat (.slice (.slice t3)) r2248.2.2.2.1, .dat (.slice tI) r2248.2.2.2.2.1, .dat (.slice (.slice tI)) r2248.2.2.2.2.2.1]), (2001, .seq t3 r2248.2.2.2.2.2.2.1), (2002, .map t3 tI r2248.2.2.2.2.2.2.2)] [InR v2199.2.2 (List.length v2265), InR v2199.2.2 (List.length v2265)] (by kernel_rfl) (allP2 (InR.of h2270) (allP1 (InR.of h2270))) ?_
           refine WO_give 900 v2199.2.2 [true, true] (p := InR v2199.2.2 (List.length v2265) ∧ v2199.2.2 = v2199.2.2 ∧ v2199.2.2 = v2199.2.2) (by kernel_rfl) ⟨(InR.of h2270), ⟨rfl, rfl⟩⟩ ?_
           refine WO_give 32 (imin (imax (w64 (i1551 + v2199.2.1)) (0 : Int)) (w64 ((List.length c3 : Int) - (1 : Int)))) [true] (p := InR (imin (imax (w64 (i1551 + v2199.2.1)) (0 : Int)) (w64 ((List.length c3 : Int) - (1 : Int)))) (List.length x2197.2.2.2.2.2.1) ∧ (imin (imax (w64 (i1551 + v2199.2.1)) (0 : Int)) (w64 ((List.length c3 : Int) - (1 : Int)))) = (imin (imax (w64 (i1551 + v2199.2.1)) (0 : Int)) (w64 ((List.length c3 : Int) - (1 : Int))))) (by kernel_rfl) ⟨(InR.of h2266), rfl⟩ ?_
           refine wf [(0, .one (.ptr 1000 0)), (2, aI (List.length c3 : Int)), (3, aI c0), (4, .one (.slc 32)), (6, .one (.slc 184)), (7, aI i1551), (8, aI v1554), (9, .one (.slc 117)), (10, .one (.slc 73)), (12, aI v2038), (48, aD (.slice tI) c3), (49, aI (List.length c3 : Int)), (50, aI i1551), (63, aD (.slice tI) (sub v1557 (0 : Int) c0)), (64, aI (List.length (sub v1557 (0 : Int) c0) : Int)), (65, aI i2035), (81, aD (.slice t3) v2042), (82, aI (List.length v2042 : Int)), (83, aI i2196)] [(1000, .cells [.slc 2001, .slc 2002, .dat tI r2248.2.1, .dat tI r2248.2.2.1, .dat (.slice (.slice t3)) r2248.2.2.2.1, .dat (.slice tI) r2248.2.2.2.2.1, .dat (.slice (.slice tI)) r2248.2.2.2.2.2.1]), (32, .rows 1 (.slice (.slice tI)) (List.set x2197.2.2.2.2.2.1 (Int.toNat (imin (imax (w64 (i1551 + v2199.2.1)) (0 : Int)) (w64 ((List.length c3 : Int) - (1 : Int))))) (List.set v2265 (Int.toNat v2199.2.2) (v2269 ++ [v2253]))) []), (184, .seq tI x1552.2.2.2.2.2.2.1), (117, .seq tI v2261), (73, .seq tI (x2036.2.2.2.2.2.2.2.1 ++ [v2038])), (2001, .seq t3 r2248.2.2.2.2.2.2.1), (2002, .map t3 tI r2248.2.2.2.2.2.2.2)] (by kernel_rfl) ?_
           refine ⟨rfl, ?_⟩
           refine blockQ_norm ?_
           refine seqQ_norm ?_
           obtain rfl := Option.some.inj h
           refine sw [(0, .one (.ptr 1000 0)), (2, aI (List.length c3 : Int)), (3, aI c0), (4, .one (.slc 32)), (6, .one (.slc 184)), (7, aI i1551), (8, aI v1554), (9, .one (.slc 117)), (10, .one (.slc 73)), (12, aI v2038), (48, aD (.slice tI) c3), (49, aI (List.length c3 : Int)), (50, aI i1551), (63, aD (.slice tI) (sub v1557 (0 : Int) c0)), (64, aI (List.length (sub v1557 (0 : Int) c0) : Int)), (65, aI i2035), (81, aD (.slice t3) v2042), (82, aI (List.length v2042 : Int)), (83, aI (w64 (i2196 + (1 : Int))))] [(1000, .cells [.slc 2001, .slc 2002, .dat tI r2248.2.1, .dat tI r2248.2.2.1, .dat (.slice (.slice t3)) r2248.2.2.2.1, .dat (.slice tI) r2248.2.2.2.2.1, .dat (.slice (.slice tI)) r2248.2.2.2.2.2.1]), (32, .rows 1 (.slice (.slice tI)) (List.set x2197.2.2.2.2.2.1 (Int.toNat (imin (imax (w64 (i1551 + v2199.2.1)) (0 : Int)) (w64 ((List.length c3 : Int) - (1 : Int))))) (List.set v2265 (Int.toNat v2199.2.2) (v2269 ++ [v2253]))) []), (184, .seq tI x1552.2.2.2.2.2.2.1), (117, .seq tI v2261), (73, .seq tI (x2036.2.2.2.2.2.2.2.1 ++ [v2038])), (2001, .seq t3 r2248.2.2.2.2.2.2.1), (2002, .map t3 tI r2248.2.2.2.2.2.2.2)] (by kernel_rfl) ?_
           exact round_next' (by kernel_rfl) (by kernel_rfl)
       ·obtain rfl := stepL_false h2201 h
        refine wxL 6 [(0, .one (.ptr 1000 0)), (2, aI (List.length c3 : Int)), (3, aI c0), (4, .one (.slc 32)), (6, .one (.slc 184)), (7, aI i1551), (8, aI v1554), (9, .one (.slc 117)), (10, .one (.slc 73)), (48, aD (.slice tI) c3), (49, aI (List.length c3 : Int)), (50, aI i1551), (63, aD (.slice tI) (sub v1557 (0 : Int) c0)), (64, aI (List.length (sub v1557 (0 : Int) c0) : Int)), (65, aI i2035)] (by kernel_rfl) ?_
        refine seqQ_exit ?_
        refine round_exit ?_
        exact exM (by kernel_rfl)
      ·intro e fr L hJ
       obtain ⟨rfl, rfl, rfl⟩ := hJ
       refine ltk [(0, .one (.ptr 1000 0)), (2, aI (List.length c3 : Int)), (3, aI c0), (4, .one (.slc 32)), (6, .one (.slc 184)), (7, aI i1551), (8, aI v1554), (9, .one (.slc 117)), (10, .one (.slc 73)), (48, aD (.slice tI) c3), (49, aI (List.length c3 : Int)), (50, aI i1551), (63, aD (.slice tI) (sub v1557 (0 : Int) c0)), (64, aI (List.length (sub v1557 (0 : Int) c0) : Int)), (65, aI i2035)] [(1000, .cells [.slc 2001, .slc 2002, .dat tI v2273.1, .dat tI v2273.2.1, .dat (.slice (.slice t3)) v2273.2.2.1, .dat (.slice tI) v2273.2.2.2.1, .dat (.slice (.slice tI)) v2273.2.2.2.2.1]), (32, .rows 1 (.slice (.slice tI)) v2273.2.2.2.2.2.1 []), (184, .seq tI x1552.2.2.2.2.2.2.1), (117, .seq tI v2273.2.2.2.2.2.2.1), (73, .seq tI (x2036.2.2.2.2.2.2.2.1 ++ [v2038])), (2001, .seq t3 v2273.2.2.2.2.2.2.2.1), (2002, .map t3 tI v2273.2.2.2.2.2.2.2.2)] (by kernel_rfl) ?_
       refine blockQ_hit ?_
       refine blockQ_norm ?_
       refine seqQ_norm ?_
       obtain rfl := Option.some.inj h
       refine sw [(0, .one (.ptr 1000 0)), (2, aI (List.length c3 : Int)), (3, aI c0), (4, .one (.slc 32)), (6, .one (.slc 184)), (7, aI i1551), (8, aI v1554), (9, .one (.slc 117)), (10, .one (.slc 73)), (48, aD (.slice tI) c3), (49, aI (List.length c3 : Int)), (50, aI i1551), (63, aD (.slice tI) (sub v1557 (0 : Int) c0)), (64, aI (List.length (sub v1557 (0 : Int) c0) : Int)), (65, aI (w64 (i2035 + (1 : Int))))] [(1000, .cells [.slc 2001, .slc 2002, .dat tI v2273.1, .dat tI v2273.2.1, .dat (.slice (.slice t3)) v2273.2.2.1, .dat (.slice tI) v2273.2.2.2.1, .dat (.slice (.slice tI)) v2273.2.2.2.2.1]), (32, .rows 1 (.slice (.slice tI)) v2273.2.2.2.2.2.1 []), (184, .seq tI x1552.2.2.2.2.2.2.1), (117, .seq tI v2273.2.2.2.2.2.2.1), (73, .seq tI (x2036.2.2.2.2.2.2.2.1 ++ [v2038])), (2001, .seq t3 v2273.2.2.2.2.2.2.2.1), (2002, .map t3 tI v2273.2.2.2.2.2.2.2.2)] (by kernel_rfl) ?_
       exact round_next' (by kernel_rfl) (by kernel_rfl)
     ·obtain rfl := stepL_false h2040 h
      refine wxL 4 [(0, .one (.ptr 1000 0)), (2, aI (List.length c3 : Int)), (3, aI c0), (4, .one (.slc 32)), (6, .one (.slc 184)), (7, aI i1551), (8, aI v1554), (9, .one (.slc 117)), (10, .one (.slc 73)), (48, aD (.slice tI) c3), (49, aI (List.length c3 : Int)), (50, aI i1551)] (by kernel_rfl) ?_
      refine seqQ_exit ?_
      refine round_exit ?_
      exact exM (by kernel_rfl)
    ·intro e fr L hJ
     obtain ⟨rfl, rfl, rfl⟩ := hJ
     refine ltk [(0, .one (.ptr 1000 0)), (2, aI (List.length c3 : Int)), (3, aI c0), (4, .one (.slc 32)), (6, .one (.slc 184)), (7, aI i1551), (8, aI v1554), (9, .one (.slc 117)), (10, .one (.slc 73)), (48, aD (.slice tI) c3), (49, aI (List.length c3 : Int)), (50, aI i1551)] [(1000, .cells [.slc 2001, .slc 2002, .dat tI v2279.1, .dat tI v2279.2.1, .dat (.slice (.slice t3)) v2279.2.2.1, .dat (.slice tI) v2279.2.2.2.1, .dat (.slice (.slice tI)) v2279.2.2.2.2.1]), (32, .rows 1 (.slice (.slice tI)) v2279.2.2.2.2.2.1 []), (184, .seq tI x1552.2.2.2.2.2.2.1), (117, .seq tI v2279.2.2.2.2.2.2.1), (73, .seq tI v2279.2.2.2.2.2.2.2.1), (2001, .seq t3 v2279.2.2.2.2.2.2.2.2.1), (2002, .map t3 tI v2279.2.2.2.2.2.2.2.2.2)] (by kernel_rfl) ?_
     refine blockQ_hit ?_
     refine seqQ_norm ?_
     refine W_seq (by kernel_rfl) ?_
     obtain ⟨v2286, h2287, h⟩ := bind_of h
     refine W_take 32 900 i1551 (.dat (.slice (.slice tI)) v2286) (p := Idx v2279.2.2.2.2.2.1 i1551 v2286 ∧ True) (by kernel_rfl) ⟨Idx.of h2287, trivial⟩ ?_
     obtain ⟨v2290, h2291, h⟩ := bind_of h
     refine W_take 900 901 c0 (.dat (.slice tI) v2290) (p := Idx v2286 c0 v2290 ∧ True) (by kernel_rfl) ⟨Idx.of h2291, trivial⟩ ?_
     obtain ⟨v2304, h2305, h⟩ := bind_of h
     obtain ⟨v2306, h2307, h⟩ := bind_of h
     obtain ⟨_, h2308, h⟩ := bind_of h
     replace h2308 := ck_some h2308
     refine W_drawC5 24 [(23, [901], [(901, .seq tI (v2290 ++ [v2306]))])] [] [(23, .one (.slc 901))] [(7, .val (.slc 900)), (17, .val (.slc 900)), (23, .val (.slc 901)), (35, .val (.dat (.slice tI) v2304)), (41, .val (.dat tI v2306))] [] [0, 2, 3, 4, 6, 8, 9, 10, 48, 49, 50, 149, 150, 169] [32, 73, 117, 184, 900, 901, 1000, 2001, 2002] (out := [(146, .one (.slc 32)), (147, aI i1551), (148, .one (.eptr 32 1 i1551 0)), (149, .one (.slc 900)), (150, aI c0), (151, .one (.slc 32)), (152, aI i1551), (153, .one (.eptr 32 1 i1551 0)), (154, .one (.slc 900)), (155, aI c0), (156, .one (.eptr 900 1 c0 0)), (157, .one (.slc 901)), (158, .one (.ptr 1000 0)), (159, .one (.ptr 1000 0)), (160, .one (.ptr 1000 6)), (161, aD (.slice (.slice tI)) v2279.2.2.2.2.1), (162, aI i1551), (163, .one (.dptr (.slice tI) v2304)), (164, aD (.slice tI) v2304), (165, aI c0), (166, .one (.dptr tI v2306)), (167, aI v2306), (168, aD (.slice tI) [v2306]), (169, .one (.slc 901))]) (obs := [InR i1551 (List.length v2279.2.2.2.2.2.1), (i1551 = i1551) ∧ InR i1551 (List.length v2279.2.2.2.2.2.1), InR i1551 (List.length v2279.2.2.2.2.2.1), (i1551 = i1551) ∧ InR i1551 (List.length v2279.2.2.2.2.2.1), InR c0 (List.length v2286), ((.one (.eptr 900 1 c0 0) : AV) = .one (.eptr 900 1 c0 0)), InR c0 (List.length v2286), (c0 = c0) ∧ InR c0 (List.length v2286), Idx v2279.2.2.2.2.1 i1551 v2304, Idx v2304 c0 v2306, True]) (calls := []) (fr' := [(0, .one (.ptr 1000 0)), (2, aI (List.length c3 : Int)), (3, aI c0), (4, .one (.slc 32)), (6, .one (.slc 184)), (8, aI v1554), (9, .one (.slc 117)), (10, .one (.slc 73)), (48, aD (.slice tI) c3), (49, aI (List.length c3 : Int)), (50, aI i1551), (149, .one (.slc 900)), (150, aI c0), (169, .one (.slc 901))]) (L' := [(32, .rows 1 (.slice (.slice tI)) v2279.2.2.2.2.2.1 [(i1551, true, .slc 900)]), (73, .seq tI v2279.2.2.2.2.2.2.2.1), (117, .seq tI v2279.2.2.2.2.2.2.1), (184, .seq tI x1552.2.2.2.2.2.2.1), (900, .rows 0 (.slice tI) v2286 [(c0, true, .any)]), (901, .seq tI (v2290 ++ [v2306])), (1000, .cells [.slc 2001, .slc 2002, .dat tI v2279.1, .dat tI v2279.2.1, .dat (.slice (.slice t3)) v2279.2.2.1, .dat (.slice tI) v2279.2.2.2.1, .dat (.slice (.slice tI)) v2279.2.2.2.2.1]), (2001, .seq t3 v2279.2.2.2.2.2.2.2.2.1), (2002, .map t3 tI v2279.2.2.2.2.2.2.2.2.2)]) (by kernel_rfl) (by kernel_rfl) (by kernel_rfl) (by kernel_rfl) (by kernel_rfl) (allP2 (InR.of h2287) (allP2 ⟨rfl, (InR.of h2287)⟩ (allP2 (InR.of h2287) (allP2 ⟨rfl, (InR.of h2287)⟩ (allP2 (InR.of h2291) (allP2 rfl (allP2 (InR.of h2291) (allP2 ⟨rfl, (InR.of h2291)⟩ (allP2 (Idx.of h2305) (allP2 (Idx.of h2307) (allP1 trivial))))))))))) allD0 (chDo (ty := false) (d := 169) (nm := 901) (ob := .seq tI (v2290 ++ [v2306])) (av := .one (.slc 901)) (p := SmallLen (List.length v2290 + List.length [v2306])) (by kernel_rfl) h2308 (by kernel_rfl) chNil) mkNil (by kernel_rfl) ?_
     refine woo 26 [] [(0, .one (.ptr 1000 0)), (2, aI (List.length c3 : Int)), (3, aI c0), (4, .one (.slc 32)), (6, .one (.slc 184)), (8, aI v1554), (9, .one (.slc 117)), (10, .one (.slc 73)), (48, aD (.slice tI) c3), (49, aI (List.length c3 : Int)), (50, aI i1551)] [(32, .rows 1 (.slice (.slice tI)) v2279.2.2.2.2.2.1 [(i1551, true, .slc 900)]), (73, .seq tI v2279.2.2.2.2.2.2.2.1), (117, .seq tI v2279.2.2.2.2.2.2.1), (184, .seq tI x1552.2.2.2.2.2.2.1), (900, .rows 0 (.slice tI) v2286 [(c0, false, .slc 901), (c0, true, .any)]), (901, .seq tI (v2290 ++ [v2306])), (1000, .cells [.slc 2001, .slc 2002, .dat tI v2279.1, .dat tI v2279.2.1, .dat (.slice (.slice t3)) v2279.2.2.1, .dat (.slice tI) v2279.2.2.2.1, .dat (.slice (.slice tI)) v2279.2.2.2.2.1]), (2001, .seq t3 v2279.2.2.2.2.2.2.2.2.1), (2002, .map t3 tI v2279.2.2.2.2.2.2.2.2.2)] [InR c0 (List.length v2286), InR c0 (List.length v2286)] (by kernel_rfl) (allP2 (InR.of h2291) (allP1 (InR.of h2291))) ?_
     refine WO_give 900 c0 [true, true] (p := InR c0 (List.length v2286) ∧ c0 = c0 ∧ c0 = c0) (by kernel_rfl) ⟨(InR.of h2291), ⟨rfl, rfl⟩⟩ ?_
     refine WO_give 32 i1551 [true] (p := InR i1551 (List.length v2279.2.2.2.2.2.1) ∧ i1551 = i1551) (by kernel_rfl) ⟨(InR.of h2287), rfl⟩ ?_
     refine wf [(0, .one (.ptr 1000 0)), (2, aI (List.length c3 : Int)), (3, aI c0), (4, .one (.slc 32)), (6, .one (.slc 184)), (8, aI v1554), (9, .one (.slc 117)), (10, .one (.slc 73)), (48, aD (.slice tI) c3), (49, aI (List.length c3 : Int)), (50, aI i1551)] [(1000, .cells [.slc 2001, .slc 2002, .dat tI v2279.1, .dat tI v2279.2.1, .dat (.slice (.slice t3)) v2279.2.2.1, .dat (.slice tI) v2279.2.2.2.1, .dat (.slice (.slice tI)) v2279.2.2.2.2.1]), (32, .rows 1 (.slice (.slice tI)) (List.set v2279.2.2.2.2.2.1 (Int.toNat i1551) (List.set v2286 (Int.toNat c0) (v2290 ++ [v2306]))) []), (184, .seq tI x1552.2.2.2.2.2.2.1), (117, .seq tI v2279.2.2.2.2.2.2.1), (73, .seq tI v2279.2.2.2.2.2.2.2.1), (2001, .seq t3 v2279.2.2.2.2.2.2.2.2.1), (2002, .map t3 tI v2279.2.2.2.2.2.2.2.2.2)] (by kernel_rfl) ?_
     refine ⟨rfl, ?_⟩
     refine seqQ_norm ?_
     refine W_region (by kernel_rfl) ?_
     refine wo 7 [(0, .one (.ptr 1000 0)), (2, aI (List.length c3 : Int)), (3, aI c0), (4, .one (.slc 32)), (6, .one (.slc 184)), (48, aD (.slice tI) c3), (49, aI (List.length c3 : Int)), (50, aI i1551), (171, .one (.slc 184)), (172, .one (.ptr 1000 0)), (173, .one (.slc 117)), (174, .one (.ptr 1000 0)), (175, aI v1554), (176, .one (.ptr 1000 0)), (177, .one (.slc 73))] [(32, .rows 1 (.slice (.slice tI)) (List.set v2279.2.2.2.2.2.1 (Int.toNat i1551) (List.set v2286 (Int.toNat c0) (v2290 ++ [v2306]))) []), (73, .seq tI v2279.2.2.2.2.2.2.2.1), (117, .seq tI v2279.2.2.2.2.2.2.1), (184, .seq tI x1552.2.2.2.2.2.2.1), (1000, .cells [.slc 2001, .slc 2002, .dat tI v2279.1, .dat tI v2279.2.1, .dat (.slice (.slice t3)) v2279.2.2.1, .dat (.slice tI) v2279.2.2.2.1, .dat (.slice (.slice tI)) v2279.2.2.2.2.1]), (2001, .seq t3 v2279.2.2.2.2.2.2.2.2.1), (2002, .map t3 tI v2279.2.2.2.2.2.2.2.2.2)] (by kernel_rfl) ?_
     obtain ⟨r2309, h2310, h⟩ := bind_of h
     refine WO_lend2 [(1000, 1000), (1001, 73), (2002, 2001), (2003, 2002)] (us := [none, none]) (d := 178) (p := True) (j := 8) rfl ⟨by kernel_rfl, by kernel_rfl, by kernel_rfl⟩ trivial (unroll_build_some_i2_ok h2310) (by kernel_rfl) (by kernel_rfl) ?_
     obtain ⟨r2311, h2312, h⟩ := bind_of h
     refine WO_lend2 [(1000, 1000), (2001, 2001), (2002, 2002)] (us := [none, none, none]) (d := 179) (p := True) (j := 9) rfl ⟨by kernel_rfl, by kernel_rfl, by kernel_rfl⟩ trivial (unroll_build_keep_i2_ok h2312) (by kernel_rfl) (by kernel_rfl) ?_
     obtain ⟨_, h2313, h⟩ := bind_of h
     replace h2313 := ck_some h2313
     refine woo 11 [] [(0, .one (.ptr 1000 0)), (2, aI (List.length c3 : Int)), (3, aI c0), (4, .one (.slc 32)), (6, .one (.slc 184)), (48, aD (.slice tI) c3), (49, aI (List.length c3 : Int)), (50, aI i1551), (171, .one (.slc 184)), (172, .one (.ptr 1000 0)), (181, .one (.slc 117))] [(32, .rows 1 (.slice (.slice tI)) (List.set v2279.2.2.2.2.2.1 (Int.toNat i1551) (List.set v2286 (Int.toNat c0) (v2290 ++ [v2306]))) []), (73, .seq tI r2309.2.2.2.2.2.2.1), (117, .seq tI (v2279.2.2.2.2.2.2.1 ++ [r2311.1])), (180, .seq tI [r2311.1]), (184, .seq tI x1552.2.2.2.2.2.2.1), (1000, .cells [.slc 2001, .slc 2002, .dat tI r2311.2.1, .dat tI r2311.2.2.1, .dat (.slice (.slice t3)) r2311.2.2.2.1, .dat (.slice tI) r2311.2.2.2.2.1, .dat (.slice (.slice tI)) r2311.2.2.2.2.2.1]), (2001, .seq t3 r2311.2.2.2.2.2.2.1), (2002, .map t3 tI r2311.2.2.2.2.2.2.2)] [SmallLen (List.length v2279.2.2.2.2.2.2.1 + List.length [r2311.1])] (by kernel_rfl) (allP1 h2313) ?_
     obtain ⟨r2314, h2315, h⟩ := bind_of h
     refine WO_lend2 [(1000, 1000), (1001, 117), (2002, 2001), (2003, 2002)] (us := [none, none]) (d := 182) (p := True) (j := 12) rfl ⟨by kernel_rfl, by kernel_rfl, by kernel_rfl⟩ trivial (unroll_build_some_i2_ok h2315) (by kernel_rfl) (by kernel_rfl) ?_
     obtain ⟨_, h2316, h⟩ := bind_of h
     replace h2316 := ck_some h2316
     refine woo 15 [] [(0, .one (.ptr 1000 0)), (2, aI (List.length c3 : Int)), (3, aI c0), (4, .one (.slc 32)), (6, .one (.slc 184)), (48, aD (.slice tI) c3), (49, aI (List.length c3 : Int)), (50, aI i1551)] [(32, .rows 1 (.slice (.slice tI)) (List.set v2279.2.2.2.2.2.1 (Int.toNat i1551) (List.set v2286 (Int.toNat c0) (v2290 ++ [v2306]))) []), (73, .seq tI r2309.2.2.2.2.2.2.1), (117, .seq tI r2314.2.2.2.2.2.2.1), (180, .seq tI [r2311.1]), (183, .seq tI [r2314.1]), (184, .seq tI (x1552.2.2.2.2.2.2.1 ++ [r2314.1])), (1000, .cells [.slc 2001, .slc 2002, .dat tI r2314.2.1, .dat tI r2314.2.2.1, .dat (.slice (.slice t3)) r2314.2.2.2.1, .dat (.slice tI) r2314.2.2.2.2.1, .dat (.slice (.slice tI)) r2314.2.2.2.2.2.1]), (2001, .seq t3 r2314.2.2.2.2.2.2.2.1), (2002, .map t3 tI r2314.2.2.2.2.2.2.2.2)] [SmallLen (List.length x1552.2.2.2.2.2.2.1 + List.length [r2314.1])] (by kernel_rfl) (allP1 h2316) ?_
     refine wf [(0, .one (.ptr 1000 0)), (2, aI (List.length c3 : Int)), (3, aI c0), (4, .one (.slc 32)), (6, .one (.slc 184)), (48, aD (.slice tI) c3), (49, aI (List.length c3 : Int)), (50, aI i1551)] [(1000, .cells [.slc 2001, .slc 2002, .dat tI r2314.2.1, .dat tI r2314.2.2.1, .dat (.slice (.slice t3)) r2314.2.2.2.1, .dat (.slice tI) r2314.2.2.2.2.1, .dat (.slice (.slice tI)) r2314.2.2.2.2.2.1]), (32, .rows 1 (.slice (.slice tI)) (List.set v2279.2.2.2.2.2.1 (Int.toNat i1551) (List.set v2286 (Int.toNat c0) (v2290 ++ [v2306]))) []), (184, .seq tI (x1552.2.2.2.2.2.2.1 ++ [r2314.1])), (2001, .seq t3 r2314.2.2.2.2.2.2.2.1), (2002, .map t3 tI r2314.2.2.2.2.2.2.2.2)] (by kernel_rfl) ?_
     refine blockQ_norm ?_
     refine seqQ_norm ?_
     obtain rfl := Option.some.inj h
     refine swL [(0, .one (.ptr 1000 0)), (2, aI (List.length c3 : Int)), (3, aI c0), (4, .one (.slc 32)), (6, .one (.slc 184)), (48, aD (.slice tI) c3), (49, aI (List.length c3 : Int)), (50, aI (w64 (i1551 + (1 : Int))))] (by kernel_rfl) ?_
     exact round_next' (by kernel_rfl) (by kernel_rfl)
   ·obtain rfl := stepL_false h1556 h
    refine wxL 2 [(0, .one (.ptr 1000 0)), (2, aI (List.length c3 : Int)), (3, aI c0), (4, .one (.slc 32)), (6, .one (.slc 184))] (by kernel_rfl) ?_
    refine seqQ_exit ?_
    refine round_exit ?_
    exact exM (by kernel_rfl)
  ·intro e fr L hJ
   obtain ⟨rfl, rfl, rfl⟩ := hJ
   refine ltk [(0, .one (.ptr 1000 0)), (2, aI (List.length c3 : Int)), (3, aI c0), (4, .one (.slc 32)), (6, .one (.slc 184))] [(1000, .cells [.slc 2001, .slc 2002, .dat tI v2318.1, .dat tI v2318.2.1, .dat (.slice (.slice t3)) v2318.2.2.1, .dat (.slice tI) v2318.2.2.2.1, .dat (.slice (.slice tI)) v2318.2.2.2.2.1]), (32, .rows 1 (.slice (.slice tI)) v2318.2.2.2.2.2.1 []), (184, .seq tI v2318.2.2.2.2.2.2.1), (2001, .seq t3 v2318.2.2.2.2.2.2.2.1), (2002, .map t3 tI v2318.2.2.2.2.2.2.2.2)] (by kernel_rfl) ?_
   refine blockQ_hit ?_
   refine seqQ_norm ?_
   refine sro [(3, .typed)] [(0, .one (.ptr 1000 0)), (3, aI c0), (4, .one (.slc 32)), (6, .one (.slc 184)), (18, .one (.slc 187))] [(1000, .cells [.slc 2001, .slc 2002, .dat tI v2318.1, .dat tI v2318.2.1, .dat (.slice (.slice t3)) v2318.2.2.1, .dat (.slice tI) v2318.2.2.2.1, .dat (.slice (.slice tI)) v2318.2.2.2.2.1]), (32, .rows 1 (.slice (.slice tI)) v2318.2.2.2.2.2.1 []), (184, .seq tI v2318.2.2.2.2.2.2.1), (187, .rows 0 (.slice tI) (List.replicate (Int.toNat (List.length c3 : Int)) ([] : List Int)) []), (2001, .seq t3 v2318.2.2.2.2.2.2.2.1), (2002, .map t3 tI v2318.2.2.2.2.2.2.2.2)] [0 ≤ (List.length c3 : Int) ∧ (List.length c3 : Int) = (List.length c3 : Int) ∧ SmallLen (List.length c3 : Int)] (by kernel_rfl) (allP1 h1) ?_
   refine W_seq (by kernel_rfl) ?_
   refine srL [(0, .one (.ptr 1000 0)), (3, aI c0), (4, .one (.slc 32)), (6, .one (.slc 184)), (18, .one (.slc 187)), (189, aI (List.length (List.replicate (Int.toNat (List.length c3 : Int)) ([] : List Int)) : Int)), (190, aI (0 : Int))] (by kernel_rfl) ?_
   refine W_block (id := 8) (by kernel_rfl) ?_
   obtain ⟨v2506, h2507, h⟩ := bind_of h
   obtain ⟨h2508, h2509⟩ := forI_iter h2507
   refine W_weaken [0, 3, 4, 6, 18, 189, 190] [1000, 32, 184, 187, 2001, 2002] (fr' := ((unroll_build_step_i2_s317 c0 c3 v2318) ((0 : Int), (v2318.1, v2318.2.1, v2318.2.2.1, v2318.2.2.2.1, v2318.2.2.2.2.1, v2318.2.2.2.2.2.1, List.replicate (Int.toNat (List.length c3 : Int)) ([] : List Int), v2318.2.2.2.2.2.2.2.1, v2318.2.2.2.2.2.2.2.2))).1) (L' := ((unroll_build_step_i2_s317 c0 c3 v2318) ((0 : Int), (v2318.1, v2318.2.1, v2318.2.2.1, v2318.2.2.2.1, v2318.2.2.2.2.1, v2318.2.2.2.2.2.1, List.replicate (Int.toNat (List.length c3 : Int)) ([] : List Int), v2318.2.2.2.2.2.2.2.1, v2318.2.2.2.2.2.2.2.2))).2) (by kernel_rfl) ?_
   refine W_cutK (W_loop (S := (unroll_build_step_i2_s317 c0 c3 v2318)) (J := (exQ (.exit 8) (unroll_build_step_i2_s318 v2318))) (by kernel_rfl) ?_ h2508 _ v2506 h2509) ?_
   ·rintro ⟨i2443, x2444⟩ s h
    refine sr [(0, .one (.ptr 1000 0)), (3, aI c0), (4, .one (.slc 32)), (6, .one (.slc 184)), (18, .one (.slc 187)), (189, aI (List.length (List.replicate (Int.toNat (List.length c3 : Int)) ([] : List Int)) : Int)), (190, aI i2443), (191, aB (decide (i2443 < (List.length (List.replicate (Int.toNat (List.length c3 : Int)) ([] : List Int)) : Int))))] [(1000, .cells [.slc 2001, .slc 2002, .dat tI x2444.1, .dat tI x2444.2.1, .dat (.slice (.slice t3)) x2444.2.2.1, .dat (.slice tI) x2444.2.2.2.1, .dat (.slice (.slice tI)) x2444.2.2.2.2.1]), (32, .rows 1 (.slice (.slice tI)) x2444.2.2.2.2.2.1 []), (184, .seq tI v2318.2.2.2.2.2.2.1), (187, .rows 0 (.slice tI) x2444.2.2.2.2.2.2.1 []), (2001, .seq t3 x2444.2.2.2.2.2.2.2.1), (2002, .map t3 tI x2444.2.2.2.2.2.2.2.2)] (by kernel_rfl) ?_
    refine W_seq (by kernel_rfl) ?_
    refine W_cond (o := .tmp 191) (b := decide (i2443 < (List.length (List.replicate (Int.toNat (List.length c3 : Int)) ([] : List Int)) : Int))) (by kernel_rfl) (by kernel_rfl) (fun h2446 => ?_) (fun h2446 => ?_)
    ·replace h := stepI_true h2446 h
     obtain ⟨_, h, rfl⟩ := h
     refine wkL [(0, .one (.ptr 1000 0)), (3, aI c0), (4, .one (.slc 32)), (6, .one (.slc 184)), (18, .one (.slc 187)), (189, aI (List.length (List.replicate (Int.toNat (List.length c3 : Int)) ([] : List Int)) : Int)), (190, aI i2443)] (by kernel_rfl) ?_
     refine seqQ_norm ?_
     refine W_seq (by kernel_rfl) ?_
     refine W_block (id := 9) (by kernel_rfl) ?_
     refine srL [(0, .one (.ptr 1000 0)), (3, aI c0), (4, .one (.slc 32)), (6, .one (.slc 184)), (18, .one (.slc 187)), (19, aI i2443), (189, aI (List.length (List.replicate (Int.toNat (List.length c3 : Int)) ([] : List Int)) : Int)), (190, aI i2443)] (by kernel_rfl) ?_
     refine srL [(0, .one (.ptr 1000 0)), (3, aI c0), (4, .one (.slc 32)), (6, .one (.slc 184)), (18, .one (.slc 187)), (19, aI i2443), (189, aI (List.length (List.replicate (Int.toNat (List.length c3 : Int)) ([] : List Int)) : Int)), (190, aI i2443), (194, aI (w64 (c0 + (1 : Int)))), (195, aI (0 : Int))] (by kernel_rfl) ?_
     refine W_block (id := 10) (by kernel_rfl) ?_
     obtain ⟨v2501, h2502, h⟩ := bind_of h
     obtain ⟨h2503, h2504⟩ := forI_iter h2502
     refine W_weaken [0, 3, 4, 6, 18, 19, 189, 190, 194, 195] [1000, 32, 184, 187, 2001, 2002] (fr' := ((unroll_build_step_i2_s314 c0 c3 v2318 i2443) ((0 : Int), (x2444.1, x2444.2.1, x2444.2.2.1, x2444.2.2.2.1, x2444.2.2.2.2.1, x2444.2.2.2.2.2.1, x2444.2.2.2.2.2.2.1, x2444.2.2.2.2.2.2.2.1, x2444.2.2.2.2.2.2.2.2))).1) (L' := ((unroll_build_step_i2_s314 c0 c3 v2318 i2443) ((0 : Int), (x2444.1, x2444.2.1, x2444.2.2.1, x2444.2.2.2.1, x2444.2.2.2.2.1, x2444.2.2.2.2.2.1, x2444.2.2.2.2.2.2.1, x2444.2.2.2.2.2.2.2.1, x2444.2.2.2.2.2.2.2.2))).2) (by kernel_rfl) ?_
     refine W_cutK (W_loop (S := (unroll_build_step_i2_s314 c0 c3 v2318 i2443)) (J := (exQ (.exit 10) (unroll_build_step_i2_s315 c0 c3 v2318 i2443))) (by kernel_rfl) ?_ h2503 _ v2501 h2504) ?_
     ·rintro ⟨i2481, x2482⟩ s h
      refine sr [(0, .one (.ptr 1000 0)), (3, aI c0), (4, .one (.slc 32)), (6, .one (.slc 184)), (18, .one (.slc 187)), (19, aI i2443), (189, aI (List.length (List.replicate (Int.toNat (List.length c3 : Int)) ([] : List Int)) : Int)), (190, aI i2443), (194, aI (w64 (c0 + (1 : Int)))), (195, aI i2481), (196, aB (decide (i2481 < (w64 (c0 + (1 : Int))))))] [(1000, .cells [.slc 2001, .slc 2002, .dat tI x2482.1, .dat tI x2482.2.1, .dat (.slice (.slice t3)) x2482.2.2.1, .dat (.slice tI) x2482.2.2.2.1, .dat (.slice (.slice tI)) x2482.2.2.2.2.1]), (32, .rows 1 (.slice (.slice tI)) x2482.2.2.2.2.2.1 []), (184, .seq tI v2318.2.2.2.2.2.2.1), (187, .rows 0 (.slice tI) x2482.2.2.2.2.2.2.1 []), (2001, .seq t3 x2482.2.2.2.2.2.2.2.1), (2002, .map t3 tI x2482.2.2.2.2.2.2.2.2)] (by kernel_rfl) ?_
      refine W_seq (by kernel_rfl) ?_
      refine W_cond (o := .tmp 196) (b := decide (i2481 < (w64 (c0 + (1 : Int))))) (by kernel_rfl) (by kernel_rfl) (fun h2484 => ?_) (fun h2484 => ?_)
      ·replace h := stepI_true h2484 h
       obtain ⟨_, h, rfl⟩ := h
       refine wkL [(0, .one (.ptr 1000 0)), (3, aI c0), (4, .one (.slc 32)), (6, .one (.slc 184)), (18, .one (.slc 187)), (19, aI i2443), (189, aI (List.length (List.replicate (Int.toNat (List.length c3 : Int)) ([] : List Int)) : Int)), (190, aI i2443), (194, aI (w64 (c0 + (1 : Int)))), (195, aI i2481)] (by kernel_rfl) ?_
       refine seqQ_norm ?_
       refine W_seq (by kernel_rfl) ?_
       refine W_block (id := 11) (by kernel_rfl) ?_
       refine srL [(0, .one (.ptr 1000 0)), (3, aI c0), (4, .one (.slc 32)), (6, .one (.slc 184)), (18, .one (.slc 187)), (19, aI i2443), (20, aI i2481), (189, aI (List.length (List.replicate (Int.toNat (List.length c3 : Int)) ([] : List Int)) : Int)), (190, aI i2443), (194, aI (w64 (c0 + (1 : Int)))), (195, aI i2481)] (by kernel_rfl) ?_
       obtain ⟨v2487, h2488, h⟩ := bind_of h
       refine W_take 187 900 i2443 (.dat (.slice tI) v2487) (p := Idx x2482.2.2.2.2.2.2.1 i2443 v2487 ∧ True) (by kernel_rfl) ⟨Idx.of h2488, trivial⟩ ?_
       obtain ⟨v2491, h2492, h⟩ := bind_of h
       refine W_take 32 901 i2443 (.dat (.slice (.slice tI)) v2491) (p := Idx x2482.2.2.2.2.2.1 i2443 v2491 ∧ True) (by kernel_rfl) ⟨Idx.of h2492, trivial⟩ ?_
       obtain ⟨v2495, h2496, h⟩ := bind_of h
       refine W_take 901 902 i2481 (.dat (.slice tI) v2495) (p := Idx v2491 i2481 v2495 ∧ True) (by kernel_rfl) ⟨Idx.of h2496, trivial⟩ ?_
       obtain ⟨r2497, h2498, h⟩ := bind_of h
       obtain ⟨_, h2499, h⟩ := bind_of h
       replace h2499 := ck_some h2499
       refine W_drawC5 17 [(14, [2001, 2002], [(1000, .cells [.slc 2001, .slc 2002, .dat tI r2497.2.1, .dat tI r2497.2.2.1, .dat (.slice (.slice t3)) r2497.2.2.2.1, .dat (.slice tI) r2497.2.2.2.2.1, .dat (.slice (.slice tI)) r2497.2.2.2.2.2.1]), (902, .seq tI r2497.2.2.2.2.2.2.1), (2001, .seq t3 r2497.2.2.2.2.2.2.2.1), (2002, .map t3 tI r2497.2.2.2.2.2.2.2.2)]), (16, [900], [(900, .seq tI (v2487 ++ [r2497.1]))])] [] [(14, aI r2497.1), (16, .one (.slc 900))] [(11, .val (.slc 900)), (21, .val (.slc 901)), (27, .val (.slc 902))] [] [0, 3, 4, 6, 18, 19, 189, 190, 194, 195, 198, 199, 214] [32, 184, 187, 900, 901, 902, 1000, 2001, 2002] (out := [(198, .one (.slc 187)), (199, aI i2443), (200, .one (.slc 187)), (201, aI i2443), (202, .one (.eptr 187 1 i2443 0)), (203, .one (.slc 900)), (204, .one (.ptr 1000 0)), (205, .one (.slc 32)), (206, aI i2443), (207, .one (.eptr 32 1 i2443 0)), (208, .one (.slc 901)), (209, aI i2481), (210, .one (.eptr 901 1 i2481 0)), (211, .one (.slc 902)), (212, aI r2497.1), (213, aD (.slice tI) [r2497.1]), (214, .one (.slc 900))]) (obs := [InR i2443 (List.length x2482.2.2.2.2.2.2.1), ((.one (.eptr 187 1 i2443 0) : AV) = .one (.eptr 187 1 i2443 0)), InR i2443 (List.length x2482.2.2.2.2.2.2.1), ((.one (.eptr 187 1 i2443 0) : AV) = .one (.eptr 187 1 i2443 0)), InR i2443 (List.length x2482.2.2.2.2.2.2.1), (i2443 = i2443) ∧ InR i2443 (List.length x2482.2.2.2.2.2.2.1), InR i2443 (List.length x2482.2.2.2.2.2.1), (i2443 = i2443) ∧ InR i2443 (List.length x2482.2.2.2.2.2.1), InR i2481 (List.length v2491), (i2481 = i2481) ∧ InR i2481 (List.length v2491), True]) (calls := []) (fr' := [(0, .one (.ptr 1000 0)), (3, aI c0), (4, .one (.slc 32)), (6, .one (.slc 184)), (18, .one (.slc 187)), (19, aI i2443), (189, aI (List.length (List.replicate (Int.toNat (List.length c3 : Int)) ([] : List Int)) : Int)), (190, aI i2443), (194, aI (w64 (c0 + (1 : Int)))), (195, aI i2481), (198, .one (.slc 187)), (199, aI i2443), (214, .one (.slc 900))]) (L' := [(32, .rows 1 (.slice (.slice tI)) x2482.2.2.2.2.2.1 [(i2443, true, .slc 901)]), (184, .seq tI v2318.2.2.2.2.2.2.1), (187, .rows 0 (.slice tI) x2482.2.2.2.2.2.2.1 [(i2443, true, .any)]), (900, .seq tI (v2487 ++ [r2497.1])), (901, .rows 0 (.slice tI) v2491 [(i2481, true, .slc 902)]), (902, .seq tI r2497.2.2.2.2.2.2.1), (1000, .cells [.slc 2001, .slc 2002, .dat tI r2497.2.1, .dat tI r2497.2.2.1, .dat (.slice (.slice t3)) r2497.2.2.2.1, .dat (.slice tI) r2497.2.2.2.2.1, .dat (.slice (.slice tI)) r2497.2.2.2.2.2.1]), (2001, .seq t3 r2497.2.2.2.2.2.2.2.1), (2002, .map t3 tI r2497.2.2.2.2.2.2.2.2)]) (by kernel_rfl) (by kernel_rfl) (by kernel_rfl) (by kernel_rfl) (by kernel_rfl) (allP2 (InR.of h2488) (allP2 rfl (allP2 (InR.of h2488) (allP2 rfl (allP2 (InR.of h2488) (allP2 ⟨rfl, (InR.of h2488)⟩ (allP2 (InR.of h2492) (allP2 ⟨rfl, (InR.of h2492)⟩ (allP2 (InR.of h2496) (allP2 ⟨rfl, (InR.of h2496)⟩ (allP1 trivial))))))))))) allD0 (chLend2 (us := [none, none]) (d := 212) (p := True) [(1000, 1000), (1001, 902), (2002, 2001), (2003, 2002)] ⟨by kernel_rfl, by kernel_rfl, by kernel_rfl⟩ trivial (unroll_build_some_i2_ok h2498) (by kernel_rfl) (by kernel_rfl) (by kernel_rfl) (by kernel_rfl) (by kernel_rfl) (chDo (ty := false) (d := 214) (nm := 900) (ob := .seq tI (v2487 ++ [r2497.1])) (av := .one (.slc 900)) (p := SmallLen (List.length v2487 + List.length [r2497.1])) (by kernel_rfl) h2499 (by kernel_rfl) chNil)) mkNil (by kernel_rfl) ?_
       refine woo 19 [] [(0, .one (.ptr 1000 0)), (3, aI c0), (4, .one (.slc 32)), (6, .one (.slc 184)), (18, .one (.slc 187)), (19, aI i2443), (189, aI (List.length (List.replicate (Int.toNat (List.length c3 : Int)) ([] : List Int)) : Int)), (190, aI i2443), (194, aI (w64 (c0 + (1 : Int)))), (195, aI i2481)] [(32, .rows 1 (.slice (.slice tI)) x2482.2.2.2.2.2.1 [(i2443, true, .slc 901)]), (184, .seq tI v2318.2.2.2.2.2.2.1), (187, .rows 0 (.slice tI) x2482.2.2.2.2.2.2.1 [(i2443, false, .slc 900), (i2443, true, .any)]), (900, .seq tI (v2487 ++ [r2497.1])), (901, .rows 0 (.slice tI) v2491 [(i2481, true, .slc 902)]), (902, .seq tI r2497.2.2.2.2.2.2.1), (1000, .cells [.slc 2001, .slc 2002, .dat tI r2497.2.1, .dat tI r2497.2.2.1, .dat (.slice (.slice t3)) r2497.2.2.2.1, .dat (.slice tI) r2497.2.2.2.2.1, .dat (.slice (.slice tI)) r2497.2.2.2.2.2.1]), (2001, .seq t3 r2497.2.2.2.2.2.2.2.1), (2002, .map t3 tI r2497.2.2.2.2.2.2.2.2)] [InR i2443 (List.length x2482.2.2.2.2.2.2.1), InR i2443 (List.length x2482.2.2.2.2.2.2.1)] (by kernel_rfl) (allP2 (InR.of h2488) (allP1 (InR.of h2488))) ?_
       refine WO_give 187 i2443 [true, true] (p := InR i2443 (List.length x2482.2.2.2.2.2.2.1) ∧ i2443 = i2443 ∧ i2443 = i2443) (by kernel_rfl) ⟨(InR.of h2488), ⟨rfl, rfl⟩⟩ ?_
       refine WO_give 901 i2481 [true] (p := InR i2481 (List.length v2491) ∧ i2481 = i2481) (by kernel_rfl) ⟨(InR.of h2496), rfl⟩ ?_
       refine WO_give 32 i2443 [true] (p := InR i2443 (List.length x2482.2.2.2.2.2.1) ∧ i2443 = i2443) (by kernel_rfl) ⟨(InR.of h2492), rfl⟩ ?_
       refine wf [(0, .one (.ptr 1000 0)), (3, aI c0), (4, .one (.slc 32)), (6, .one (.slc 184)), (18, .one (.slc 187)), (19, aI i2443), (189, aI (List.length (List.replicate (Int.toNat (List.length c3 : Int)) ([] : List Int)) : Int)), (190, aI i2443), (194, aI (w64 (c0 + (1 : Int)))), (195, aI i2481)] [(1000, .cells [.slc 2001, .slc 2002, .dat tI r2497.2.1, .dat tI r2497.2.2.1, .dat (.slice (.slice t3)) r2497.2.2.2.1, .dat (.slice tI) r2497.2.2.2.2.1, .dat (.slice (.slice tI)) r2497.2.2.2.2.2.1]), (32, .rows 1 (.slice (.slice tI)) (List.set x2482.2.2.2.2.2.1 (Int.toNat i2443) (List.set v2491 (Int.toNat i2481) r2497.2.2.2.2.2.2.1)) []), (184, .seq tI v2318.2.2.2.2.2.2.1), (187, .rows 0 (.slice tI) (List.set x2482.2.2.2.2.2.2.1 (Int.toNat i2443) (v2487 ++ [r2497.1])) []), (2001, .seq t3 r2497.2.2.2.2.2.2.2.1), (2002, .map t3 tI r2497.2.2.2.2.2.2.2.2)] (by kernel_rfl) ?_
       refine ⟨rfl, ?_⟩
       refine blockQ_norm ?_
       refine seqQ_norm ?_
       obtain rfl := Option.some.inj h
       refine sw [(0, .one (.ptr 1000 0)), (3, aI c0), (4, .one (.slc 32)), (6, .one (.slc 184)), (18, .one (.slc 187)), (19, aI i2443), (189, aI (List.length (List.replicate (Int.toNat (List.length c3 : Int)) ([] : List Int)) : Int)), (190, aI i2443), (194, aI (w64 (c0 + (1 : Int)))), (195, aI (w64 (i2481 + (1 : Int))))] [(1000, .cells [.slc 2001, .slc 2002, .dat tI r2497.2.1, .dat tI r2497.2.2.1, .dat (.slice (.slice t3)) r2497.2.2.2.1, .dat (.slice tI) r2497.2.2.2.2.1, .dat (.slice (.slice tI)) r2497.2.2.2.2.2.1]), (32, .rows 1 (.slice (.slice tI)) (List.set x2482.2.2.2.2.2.1 (Int.toNat i2443) (List.set v2491 (Int.toNat i2481) r2497.2.2.2.2.2.2.1)) []), (184, .seq tI v2318.2.2.2.2.2.2.1), (187, .rows 0 (.slice tI) (List.set x2482.2.2.2.2.2.2.1 (Int.toNat i2443) (v2487 ++ [r2497.1])) []), (2001, .seq t3 r2497.2.2.2.2.2.2.2.1), (2002, .map t3 tI r2497.2.2.2.2.2.2.2.2)] (by kernel_rfl) ?_
       exact round_next' (by kernel_rfl) (by kernel_rfl)
      ·obtain rfl := stepI_false h2484 h
       refine wxL 10 [(0, .one (.ptr 1000 0)), (3, aI c0), (4, .one (.slc 32)), (6, .one (.slc 184)), (18, .one (.slc 187)), (189, aI (List.length (List.replicate (Int.toNat (List.length c3 : Int)) ([] : List Int)) : Int)), (190, aI i2443)] (by kernel_rfl) ?_
       refine seqQ_exit ?_
       refine round_exit ?_
       exact exM (by kernel_rfl)
     ·intro e fr L hJ
      obtain ⟨rfl, rfl, rfl⟩ := hJ
      refine ltk [(0, .one (.ptr 1000 0)), (3, aI c0), (4, .one (.slc 32)), (6, .one (.slc 184)), (18, .one (.slc 187)), (189, aI (List.length (List.replicate (Int.toNat (List.length c3 : Int)) ([] : List Int)) : Int)), (190, aI i2443)] [(1000, .cells [.slc 2001, .slc 2002, .dat tI v2501.1, .dat tI v2501.2.1, .dat (.slice (.slice t3)) v2501.2.2.1, .dat (.slice tI) v2501.2.2.2.1, .dat (.slice (.slice tI)) v2501.2.2.2.2.1]), (32, .rows 1 (.slice (.slice tI)) v2501.2.2.2.2.2.1 []), (184, .seq tI v2318.2.2.2.2.2.2.1), (187, .rows 0 (.slice tI) v2501.2.2.2.2.2.2.1 []), (2001, .seq t3 v2501.2.2.2.2.2.2.2.1), (2002, .map t3 tI v2501.2.2.2.2.2.2.2.2)] (by kernel_rfl) ?_
      refine blockQ_hit ?_
      refine blockQ_norm ?_
      refine seqQ_norm ?_
      obtain rfl := Option.some.inj h
      refine sw [(0, .one (.ptr 1000 0)), (3, aI c0), (4, .one (.slc 32)), (6, .one (.slc 184)), (18, .one (.slc 187)), (189, aI (List.length (List.replicate (Int.toNat (List.length c3 : Int)) ([] : List Int)) : Int)), (190, aI (w64 (i2443 + (1 : Int))))] [(1000, .cells [.slc 2001, .slc 2002, .dat tI v2501.1, .dat tI v2501.2.1, .dat (.slice (.slice t3)) v2501.2.2.1, .dat (.slice tI) v2501.2.2.2.1, .dat (.slice (.slice tI)) v2501.2.2.2.2.1]), (32, .rows 1 (.slice (.slice tI)) v2501.2.2.2.2.2.1 []), (184, .seq tI v2318.2.2.2.2.2.2.1), (187, .rows 0 (.slice tI) v2501.2.2.2.2.2.2.1 []), (2001, .seq t3 v2501.2.2.2.2.2.2.2.1), (2002, .map t3 tI v2501.2.2.2.2.2.2.2.2)] (by kernel_rfl) ?_
      exact round_next' (by kernel_rfl) (by kernel_rfl)
    ·obtain rfl := stepI_false h2446 h
     refine wx 8 [(0, .one (.ptr 1000 0)), (6, .one (.slc 184)), (18, .one (.slc 187))] [(1000, .cells [.slc 2001, .slc 2002, .dat tI x2444.1, .dat tI x2444.2.1, .dat (.slice (.slice t3)) x2444.2.2.1, .dat (.slice tI) x2444.2.2.2.1, .dat (.slice (.slice tI)) x2444.2.2.2.2.1]), (184, .seq tI v2318.2.2.2.2.2.2.1), (187, .rows 0 (.slice tI) x2444.2.2.2.2.2.2.1 []), (2001, .seq t3 x2444.2.2.2.2.2.2.2.1), (2002, .map t3 tI x2444.2.2.2.2.2.2.2.2)] (by kernel_rfl) ?_
     refine seqQ_exit ?_
     refine round_exit ?_
     exact exM (by kernel_rfl)
   ·intro e fr L hJ
    obtain ⟨rfl, rfl, rfl⟩ := hJ
    refine ltk [(0, .one (.ptr 1000 0)), (6, .one (.slc 184)), (18, .one (.slc 187))] [(1000, .cells [.slc 2001, .slc 2002, .dat tI v2506.1, .dat tI v2506.2.1, .dat (.slice (.slice t3)) v2506.2.2.1, .dat (.slice tI) v2506.2.2.2.1, .dat (.slice (.slice tI)) v2506.2.2.2.2.1]), (184, .seq tI v2318.2.2.2.2.2.2.1), (187, .rows 0 (.slice tI) v2506.2.2.2.2.2.1 []), (2001, .seq t3 v2506.2.2.2.2.2.2.1), (2002, .map t3 tI v2506.2.2.2.2.2.2.2)] (by kernel_rfl) ?_
    refine blockQ_hit ?_
    refine seqQ_norm ?_
    refine W_region (by kernel_rfl) ?_
    refine woo 10 [] [] [(184, .seq tI v2318.2.2.2.2.2.2.1), (187, .rows 0 (.slice tI) v2506.2.2.2.2.2.1 []), (1000, .cells [.slc 2001, .slc 2002, .dat tI v2506.1, .dat tI v2506.2.1, .dat (.slice (.slice t3)) v2506.2.2.1, .slc 184, .slc 187]), (2001, .seq t3 v2506.2.2.2.2.2.2.1), (2002, .map t3 tI v2506.2.2.2.2.2.2.2)] [True, True] (by kernel_rfl) (allP2 trivial (allP1 trivial)) ?_
    obtain rfl := Option.some.inj h
    refine WO_frz 184 (by kernel_rfl) ?_
    refine WO_frzR 187 (by kernel_rfl) ?_
    refine wf [] [(1000, .cells [.slc 2001, .slc 2002, .dat tI v2506.1, .dat tI v2506.2.1, .dat (.slice (.slice t3)) v2506.2.2.1, .dat (.slice tI) v2318.2.2.2.2.2.2.1, .dat (.slice (.slice tI)) v2506.2.2.2.2.2.1]), (2001, .seq t3 v2506.2.2.2.2.2.2.1), (2002, .map t3 tI v2506.2.2.2.2.2.2.2)] (by kernel_rfl) ?_
    exact ⟨.inr rfl, by kernel_rfl, by kernel_rfl, by kernel_rfl⟩

def slices_Clone_LapiGateapiGate (a0 : (List (Int × (Int × Int)))) : Option (List (Int × (Int × Int))) :=
(ck ((0 : Int) + (List.length a0 : Int) ≤ 4294967296)).bind fun _ =>
some ([] ++ a0)
theorem slices_Clone_LapiGateapiGate_ok {a0 : (List (Int × (Int × Int)))} {r : (List (Int × (Int × Int)))} (h : slices_Clone_LapiGateapiGate a0 = some r) : FnC Try.prog 82 [aD (.slice t3) a0] [] (.one (.slc 5)) [(5, .seq t3 r)] := by
 refine fnC_of_W (B := bodyOf Try.f82) (n := 8) Try.func82 (by kernel_rfl) (by kernel_rfl) (by kernel_rfl) (by kernel_rfl) (by kernel_rfl) ?_
 intro K
 refine sr [(0, aD (.slice t3) a0)] [] (by kernel_rfl) ?_
 refine W_seq (by kernel_rfl) ?_
 refine W_seq (by kernel_rfl) ?_
 refine W_region (by kernel_rfl) ?_
 refine woL 1 [(0, aD (.slice t3) a0), (3, aD (.slice t3) a0)] (by kernel_rfl) ?_
 refine WO_nilcmp (u := t3) (xs := a0) (d := 4) (j := 2) rfl (by kernel_rfl) (by kernel_rfl) (fun h12 h10 => ?_)
 cases h12
 ·refine wf [(0, aD (.slice t3) a0), (4, aB false)] [] (by kernel_rfl) ?_
  refine seqQ_norm ?_
  refine W_cond (o := .tmp 4) (b := false) (by kernel_rfl) (by kernel_rfl) (fun h7 => by have := (rfl : false = false).symm.trans h7; cases this) (fun h7 => ?_)
  refine wkL [(0, aD (.slice t3) a0)] (by kernel_rfl) ?_
  refine seqQ_norm ?_
  refine W_seq (by kernel_rfl) ?_
  obtain ⟨_, h8, h⟩ := bind_of h
  replace h8 := ck_some h8
  refine W_run 4 [] [2] [5] (fr' := [(2, .one (.slc 5))]) (L' := [(5, .seq t3 ([] ++ a0))]) (obs := [SmallLen (List.length ([] : (List (Int × (Int × Int)))) + List.length a0)]) (by kernel_rfl) (by kernel_rfl) (by kernel_rfl) (allP1 h8) ?_
  refine seqQ_norm ?_
  obtain rfl := Option.some.inj h
  refine wtL [(2, .one (.slc 5))] (by kernel_rfl) ?_
  exact retM (by kernel_rfl)
 ·replace h10 := h10 rfl
  have h11 : (some [] : Option (List (Int × (Int × Int)))) = ((ck ((0 : Int) + (List.length a0 : Int) ≤ 4294967296)).bind fun _ => some ([] ++ a0)) := by rw [h10]; simp [ck]
  replace h := h11.trans h
  refine wf [(0, aD (.slice t3) a0), (4, aB true)] [] (by kernel_rfl) ?_
  refine seqQ_norm ?_
  refine W_cond (o := .tmp 4) (b := true) (by kernel_rfl) (by kernel_rfl) (fun h9 => ?_) (fun h9 => by have := (rfl : true = true).symm.trans h9; cases this)
  refine srL [(2, .one (.nilS))] (by kernel_rfl) ?_
  obtain rfl := Option.some.inj h
  refine W_mine 2 5 t3 (by kernel_rfl) ?_
  refine wt [(2, .one (.slc 5))] [(5, .seq t3 [])] (by kernel_rfl) ?_
  refine seqQ_ret ?_
  exact retM (by kernel_rfl)

def unroll_Build_b1 (a0 : (Int × (Int × (List (List (Int × (Int × Int))))))) (fuel : Nat) (i24 : Int) (x25 : (Int × Int × (List (List (Int × (Int × Int)))) × (List (Int × (Int × Int))) × (Option (List ((Int × (Int × Int)) × Int))) × (List Int) × (List (List Int)))) : Option (Flow (Int × Int × (List (List (Int × (Int × Int)))) × (List (Int × (Int × Int))) × (Option (List ((Int × (Int × Int)) × Int))) × (List Int) × (List (List Int))) (Int × Int × (List (List (Int × (Int × Int)))) × (List (Int × (Int × Int))) × (Option (List ((Int × (Int × Int)) × Int))) × (List Int) × (List (List Int)))) :=
(gate_Maker_Put_i3 (1 : Int) i24 (0 : Int) x25.1 x25.2.1 x25.2.2.1 x25.2.2.2.1 x25.2.2.2.2.1 x25.2.2.2.2.2.1 x25.2.2.2.2.2.2).bind fun r28 =>
(ck ((List.length r28.2.2.2.2.2.2.1 : Int) + 1 ≤ 4294967296)).bind fun _ =>
(slices_Repeat_Lintint fuel [(-1 : Int)] (w64 (a0.1 + (1 : Int)))).bind fun r31 =>
(ck ((List.length r28.2.2.2.2.2.2.2 : Int) + 1 ≤ 4294967296)).bind fun _ =>
some (.next (r28.2.1, r28.2.2.1, r28.2.2.2.1, r28.2.2.2.2.1, r28.2.2.2.2.2.1, r28.2.2.2.2.2.2.1 ++ [r28.1], List.set ((r28.2.2.2.2.2.2.2 : (List (List Int))) ++ [([] : List Int)]) (Int.toNat (List.length r28.2.2.2.2.2.2.2 : Int)) r31))
@[reducible] def unroll_Build_s2 (a0 : (Int × (Int × (List (List (Int × (Int × Int))))))) (a1 : Int) (a2 : Int) (v : Int × (Int × Int × (List (List (Int × (Int × Int)))) × (List (Int × (Int × Int))) × (Option (List ((Int × (Int × Int)) × Int))) × (List Int) × (List (List Int)))) : Fr × LL := ([(1, aI a1), (2, aI a2), (3, .one (.ptr 3 0)), (9, .one (.ptr 25 0)), (26, aI a1), (27, aI v.1)], [(25, .cells [.slc 998, .slc 997, .dat tI v.2.1, .dat tI v.2.2.1, .dat (.slice (.slice t3)) v.2.2.2.1, .slc 996, .slc 995]), (3, .one tM a0), (998, .seq t3 v.2.2.2.2.1), (997, .map t3 tI v.2.2.2.2.2.1), (996, .seq tI v.2.2.2.2.2.2.1), (995, .rows 0 (.slice tI) v.2.2.2.2.2.2.2 [])])
@[reducible] def unroll_Build_s3 (a0 : (Int × (Int × (List (List (Int × (Int × Int))))))) (a1 : Int) (a2 : Int) (v : (Int × Int × (List (List (Int × (Int × Int)))) × (List (Int × (Int × Int))) × (Option (List ((Int × (Int × Int)) × Int))) × (List Int) × (List (List Int)))) : Fr × LL := ([(1, aI a1), (2, aI a2), (3, .one (.ptr 3 0)), (9, .one (.ptr 25 0))], [(25, .cells [.slc 998, .slc 997, .dat tI v.1, .dat tI v.2.1, .dat (.slice (.slice t3)) v.2.2.1, .slc 996, .slc 995]), (3, .one tM a0), (998, .seq t3 v.2.2.2.1), (997, .map t3 tI v.2.2.2.2.1), (996, .seq tI v.2.2.2.2.2.1), (995, .rows 0 (.slice tI) v.2.2.2.2.2.2 [])])
def unroll_Build_b4 (i57 : Int) (x58 : (Int × Int × (List (List (Int × (Int × Int)))) × (List Int) × (List (List Int)) × (List (Int × (Int × Int))) × (Option (List ((Int × (Int × Int)) × Int))))) : Option (Flow (Int × Int × (List (List (Int × (Int × Int)))) × (List Int) × (List (List Int)) × (List (Int × (Int × Int))) × (Option (List ((Int × (Int × Int)) × Int)))) (Int × Int × (List (List (Int × (Int × Int)))) × (List Int) × (List (List Int)) × (List (Int × (Int × Int))) × (Option (List ((Int × (Int × Int)) × Int))))) :=
(unroll_build_step_i2 x58.1 x58.2.1 x58.2.2.1 x58.2.2.2.1 x58.2.2.2.2.1 x58.2.2.2.2.2.1 x58.2.2.2.2.2.2).bind fun r61 =>
some (.next (r61.1, r61.2.1, r61.2.2.1, r61.2.2.2.1, r61.2.2.2.2.1, r61.2.2.2.2.2.1, r61.2.2.2.2.2.2))
@[reducible] def unroll_Build_s5 (a0 : (Int × (Int × (List (List (Int × (Int × Int))))))) (a1 : Int) (a2 : Int) (r43 : (Int × Int × Int × (List (List (Int × (Int × Int)))) × (List (Int × (Int × Int))) × (Option (List ((Int × (Int × Int)) × Int))) × (List Int) × (List (List Int)))) (v : Int × (Int × Int × (List (List (Int × (Int × Int)))) × (List Int) × (List (List Int)) × (List (Int × (Int × Int))) × (Option (List ((Int × (Int × Int)) × Int))))) : Fr × LL := ([(1, aI a1), (3, .one (.ptr 3 0)), (9, .one (.ptr 25 0)), (12, aI r43.1), (81, aI a2), (82, aI v.1)], [(25, .cells [.slc 998, .slc 997, .dat tI v.2.1, .dat tI v.2.2.1, .dat (.slice (.slice t3)) v.2.2.2.1, .dat (.slice tI) v.2.2.2.2.1, .dat (.slice (.slice tI)) v.2.2.2.2.2.1]), (3, .one tM a0), (998, .seq t3 v.2.2.2.2.2.2.1), (997, .map t3 tI v.2.2.2.2.2.2.2)])
@[reducible] def unroll_Build_s6 (a0 : (Int × (Int × (List (List (Int × (Int × Int))))))) (a1 : Int) (r43 : (Int × Int × Int × (List (List (Int × (Int × Int)))) × (List (Int × (Int × Int))) × (Option (List ((Int × (Int × Int)) × Int))) × (List Int) × (List (List Int)))) (v : (Int × Int × (List (List (Int × (Int × Int)))) × (List Int) × (List (List Int)) × (List (Int × (Int × Int))) × (Option (List ((Int × (Int × Int)) × Int))))) : Fr × LL := ([(1, aI a1), (3, .one (.ptr 3 0)), (9, .one (.ptr 25 0)), (12, aI r43.1)], [(25, .cells [.slc 998, .slc 997, .dat tI v.1, .dat tI v.2.1, .dat (.slice (.slice t3)) v.2.2.1, .dat (.slice tI) v.2.2.2.1, .dat (.slice (.slice tI)) v.2.2.2.2.1]), (3, .one tM a0), (998, .seq t3 v.2.2.2.2.2.1), (997, .map t3 tI v.2.2.2.2.2.2)])
def unroll_Build_b7 (a0 : (Int × (Int × (List (List (Int × (Int × Int))))))) (i113 : Int) (x114 : (Int × Int × (List (List (Int × (Int × Int)))) × (List Int) × (List (List Int)) × (List Int) × (List (Int × (Int × Int))) × (Option (List ((Int × (Int × Int)) × Int))))) : Option (Flow (Int × Int × (List (List (Int × (Int × Int)))) × (List Int) × (List (List Int)) × (List Int) × (List (Int × (Int × Int))) × (Option (List ((Int × (Int × Int)) × Int)))) (Int × Int × (List (List (Int × (Int × Int)))) × (List Int) × (List (List Int)) × (List Int) × (List (Int × (Int × Int))) × (Option (List ((Int × (Int × Int)) × Int))))) :=
(idx x114.2.2.2.2.1 i113).bind fun v129 =>
(idx v129 a0.1).bind fun v131 =>
(idx x114.2.2.2.1 i113).bind fun v133 =>
(unroll_build_both_i2 v131 v133 x114.1 x114.2.1 x114.2.2.1 x114.2.2.2.1 x114.2.2.2.2.1 x114.2.2.2.2.2.2.1 x114.2.2.2.2.2.2.2).bind fun r135 =>
(ck ((List.length x114.2.2.2.2.2.1 : Int) + 1 ≤ 4294967296)).bind fun _ =>
some (.next (r135.2.1, r135.2.2.1, r135.2.2.2.1, r135.2.2.2.2.1, r135.2.2.2.2.2.1, x114.2.2.2.2.2.1 ++ [r135.1], r135.2.2.2.2.2.2.1, r135.2.2.2.2.2.2.2))
@[reducible] def unroll_Build_s8 (a0 : (Int × (Int × (List (List (Int × (Int × Int))))))) (a1 : Int) (r43 : (Int × Int × Int × (List (List (Int × (Int × Int)))) × (List (Int × (Int × Int))) × (Option (List ((Int × (Int × Int)) × Int))) × (List Int) × (List (List Int)))) (v : Int × (Int × Int × (List (List (Int × (Int × Int)))) × (List Int) × (List (List Int)) × (List Int) × (List (Int × (Int × Int))) × (Option (List ((Int × (Int × Int)) × Int))))) : Fr × LL := ([(3, .one (.ptr 3 0)), (9, .one (.ptr 25 0)), (12, aI r43.1), (13, .one (.slc 113)), (87, aI a1), (88, aI v.1)], [(25, .cells [.slc 998, .slc 997, .dat tI v.2.1, .dat tI v.2.2.1, .dat (.slice (.slice t3)) v.2.2.2.1, .dat (.slice tI) v.2.2.2.2.1, .dat (.slice (.slice tI)) v.2.2.2.2.2.1]), (3, .one tM a0), (113, .seq tI v.2.2.2.2.2.2.1), (998, .seq t3 v.2.2.2.2.2.2.2.1), (997, .map t3 tI v.2.2.2.2.2.2.2.2)])
@[reducible] def unroll_Build_s9 (r43 : (Int × Int × Int × (List (List (Int × (Int × Int)))) × (List (Int × (Int × Int))) × (Option (List ((Int × (Int × Int)) × Int))) × (List Int) × (List (List Int)))) (v : (Int × Int × (List (List (Int × (Int × Int)))) × (List Int) × (List (List Int)) × (List Int) × (List (Int × (Int × Int))) × (Option (List ((Int × (Int × Int)) × Int))))) : Fr × LL := ([(9, .one (.ptr 25 0)), (12, aI r43.1), (13, .one (.slc 113))], [(25, .cells [.slc 998, .slc 997, .dat tI v.1, .dat tI v.2.1, .dat (.slice (.slice t3)) v.2.2.1, .dat (.slice tI) v.2.2.2.1, .dat (.slice (.slice tI)) v.2.2.2.2.1]), (113, .seq tI v.2.2.2.2.2.1), (998, .seq t3 v.2.2.2.2.2.2.1), (997, .map t3 tI v.2.2.2.2.2.2.2)])
def unroll_Build_g10 (r43 : (Int × Int × Int × (List (List (Int × (Int × Int)))) × (List (Int × (Int × Int))) × (Option (List ((Int × (Int × Int)) × Int))) × (List Int) × (List (List Int)))) (r143 : (Int × Int × Int × (List (List (Int × (Int × Int)))) × (List Int) × (List (List Int)) × (List Int) × (List (Int × (Int × Int))) × (Option (List ((Int × (Int × Int)) × Int))))) : Option (Int × Int × Int × (List (List (Int × (Int × Int)))) × (List Int) × (List (List Int)) × (List (Int × (Int × Int))) × (Option (List ((Int × (Int × Int)) × Int)))) :=
bif decide (r143.1 < (0 : Int)) then
((gate_Maker_Put_i5 (2 : Int) r43.1 (0 : Int) r143.2.1 r143.2.2.1 r143.2.2.2.1 r143.2.2.2.2.1 r143.2.2.2.2.2.1 r143.2.2.2.2.2.2.2.1 r143.2.2.2.2.2.2.2.2).bind fun r152 =>
some (r152.1, r152.2.1, r152.2.2.1, r152.2.2.2.1, r152.2.2.2.2.1, r152.2.2.2.2.2.1, r152.2.2.2.2.2.2.1, r152.2.2.2.2.2.2.2))
else
(some (r143.1, r143.2.1, r143.2.2.1, r143.2.2.2.1, r143.2.2.2.2.1, r143.2.2.2.2.2.1, r143.2.2.2.2.2.2.2.1, r143.2.2.2.2.2.2.2.2))
@[reducible] def unroll_Build_s11 (v : (Int × Int × Int × (List (List (Int × (Int × Int)))) × (List Int) × (List (List Int)) × (List (Int × (Int × Int))) × (Option (List ((Int × (Int × Int)) × Int))))) : Fr × LL := ([(9, .one (.ptr 25 0)), (15, aI v.1)], [(25, .cells [.slc 998, .slc 997, .dat tI v.2.1, .dat tI v.2.2.1, .dat (.slice (.slice t3)) v.2.2.2.1, .dat (.slice tI) v.2.2.2.2.1, .dat (.slice (.slice tI)) v.2.2.2.2.2.1]), (998, .seq t3 v.2.2.2.2.2.2.1), (997, .map t3 tI v.2.2.2.2.2.2.2)])
def unroll_Build (fuel : Nat) (a0 : (Int × (Int × (List (List (Int × (Int × Int))))))) (a1 : Int) (a2 : Int) : Option ((List (Int × (Int × Int))) × Int) :=
(unroll_wrong a0 a1 a2).bind fun r1 =>
bif r1 != (0 : Int) then
(some ([], r1))
else
((forI (0 : Int) a1 (unroll_Build_b1 a0 fuel) (fun x25 => (x25.1, x25.2.1, x25.2.2.1, x25.2.2.2.1, x25.2.2.2.2.1, x25.2.2.2.2.2.1, x25.2.2.2.2.2.2)) (a0.1, a0.2.1, a0.2.2, [], (none : Option (List ((Int × (Int × Int)) × Int))), [], [])).bind fun v35 =>
(gate_Maker_Put_i3 (1 : Int) (0 : Int) (0 : Int) v35.1 v35.2.1 v35.2.2.1 v35.2.2.2.1 v35.2.2.2.2.1 v35.2.2.2.2.2.1 v35.2.2.2.2.2.2).bind fun r39 =>
(gate_Maker_Put_i3 (2 : Int) r39.1 (0 : Int) r39.2.1 r39.2.2.1 r39.2.2.2.1 r39.2.2.2.2.1 r39.2.2.2.2.2.1 r39.2.2.2.2.2.2.1 r39.2.2.2.2.2.2.2).bind fun r41 =>
(gate_Maker_Put_i3 (4 : Int) r39.1 r41.1 r41.2.1 r41.2.2.1 r41.2.2.2.1 r41.2.2.2.2.1 r41.2.2.2.2.2.1 r41.2.2.2.2.2.2.1 r41.2.2.2.2.2.2.2).bind fun r43 =>
(idx r43.2.2.2.2.2.2.2 (0 : Int)).bind fun v45 =>
(idx v45 (0 : Int)).bind fun v47 =>
(forI (0 : Int) a2 unroll_Build_b4 (fun x58 => (x58.1, x58.2.1, x58.2.2.1, x58.2.2.2.1, x58.2.2.2.2.1, x58.2.2.2.2.2.1, x58.2.2.2.2.2.2)) (r43.2.1, r43.2.2.1, r43.2.2.2.1, r43.2.2.2.2.2.2.1, List.set r43.2.2.2.2.2.2.2 (Int.toNat (0 : Int)) (List.set v45 (Int.toNat (0 : Int)) r43.1), r43.2.2.2.2.1, r43.2.2.2.2.2.1)).bind fun v64 =>
(forI (0 : Int) a1 (unroll_Build_b7 a0) (fun x114 => (x114.1, x114.2.1, x114.2.2.1, x114.2.2.2.1, x114.2.2.2.2.1, x114.2.2.2.2.2.1, x114.2.2.2.2.2.2.1, x114.2.2.2.2.2.2.2)) (v64.1, v64.2.1, v64.2.2.1, v64.2.2.2.1, v64.2.2.2.2.1, [], v64.2.2.2.2.2.1, v64.2.2.2.2.2.2)).bind fun v139 =>
(unroll_build_some_i2 v139.1 v139.2.1 v139.2.2.1 v139.2.2.2.1 v139.2.2.2.2.1 v139.2.2.2.2.2.1 v139.2.2.2.2.2.2.1 v139.2.2.2.2.2.2.2).bind fun r143 =>
(unroll_Build_g10 r43 r143).bind fun v154 =>
(ck (0 ≤ (0 : Int) ∧ (0 : Int) ≤ w64 (v154.1 + (1 : Int)) ∧ w64 (v154.1 + (1 : Int)) ≤ (List.length v154.2.2.2.2.2.2.1 : Int))).bind fun _ =>
(slices_Clone_LapiGateapiGate (sub v154.2.2.2.2.2.2.1 (0 : Int) (w64 (v154.1 + (1 : Int))))).bind fun r157 =>
some (r157, (0 : Int)))
theorem unroll_Build_ok {fuel : Nat} {a0 : (Int × (Int × (List (List (Int × (Int × Int))))))} {a1 : Int} {a2 : Int} {r : ((List (Int × (Int × Int))) × Int)} (h : unroll_Build fuel a0 a1 a2 = some r) : FnC Try.prog 46 [aD tM a0, aI a1, aI a2] [] (.tup [.dat (.slice t3) r.1, .dat tI r.2]) [] := by
 refine fnC_of_W (B := bodyOf Try.f46) (n := 134) Try.func46 (by kernel_rfl) (by kernel_rfl) (by kernel_rfl) (by kernel_rfl) (by kernel_rfl) ?_
 intro K
 refine sr [(1, aI a1), (2, aI a2), (3, .one (.ptr 3 0))] [(3, .one tM a0)] (by kernel_rfl) ?_
 refine W_seq (by kernel_rfl) ?_
 refine W_seq (by kernel_rfl) ?_
 refine W_region (by kernel_rfl) ?_
 refine woL 3 [(1, aI a1), (2, aI a2), (3, .one (.ptr 3 0)), (16, aD tM a0), (17, aI a1), (18, aI a2)] (by kernel_rfl) ?_
 obtain ⟨r1, h2, h⟩ := bind_of h
 refine WO_call0 (us := [none, none, none]) (d := 19) (p := True) (j := 4) rfl ⟨by kernel_rfl, by kernel_rfl, by kernel_rfl⟩ trivial (unroll_wrong_ok h2) (by kernel_rfl) ?_
 refine wo 5 [(1, aI a1), (2, aI a2), (3, .one (.ptr 3 0)), (8, aI r1)] [(3, .one tM a0)] (by kernel_rfl) ?_
 refine wfL [(1, aI a1), (2, aI a2), (3, .one (.ptr 3 0)), (8, aI r1)] (by kernel_rfl) ?_
 refine seqQ_norm ?_
 refine srL [(1, aI a1), (2, aI a2), (3, .one (.ptr 3 0)), (8, aI r1), (21, aB (r1 != (0 : Int)))] (by kernel_rfl) ?_
 refine W_cond (o := .tmp 21) (b := r1 != (0 : Int)) (by kernel_rfl) (by kernel_rfl) (fun h3 => ?_) (fun h3 => ?_)
 ·replace h := ofT h3 h
  refine sr [(6, .one (.nilS)), (7, aI r1)] [] (by kernel_rfl) ?_
  obtain rfl := Option.some.inj h
  refine W_cnv 6 (.slice t3) (by kernel_rfl) ?_
  refine wt [(6, aD (.slice t3) []), (7, aI r1)] [] (by kernel_rfl) ?_
  refine seqQ_ret ?_
  exact retM (by kernel_rfl)
 ·replace h := ofF h3 h
  refine wkL [(1, aI a1), (2, aI a2), (3, .one (.ptr 3 0))] (by kernel_rfl) ?_
  refine seqQ_norm ?_
  refine sr [(1, aI a1), (2, aI a2), (3, .one (.ptr 3 0)), (9, .one (.ptr 25 0))] [(3, .one tM a0), (25, .cells [.nilS, .nilM, .dat tI a0.1, .dat tI a0.2.1, .dat (.slice (.slice t3)) a0.2.2, .nilS, .nilS])] (by kernel_rfl) ?_
  refine W_seq (by kernel_rfl) ?_
  refine srL [(1, aI a1), (2, aI a2), (3, .one (.ptr 3 0)), (9, .one (.ptr 25 0)), (26, aI a1), (27, aI (0 : Int))] (by kernel_rfl) ?_
  refine W_block (id := 0) (by kernel_rfl) ?_
  refine W_cellown 25 0 998 t3 (by kernel_rfl) ?_
  refine W_cellownM 25 1 997 t3 tI (by kernel_rfl) ?_
  refine W_cellown 25 5 996 tI (by kernel_rfl) ?_
  refine W_cellownR 25 6 995 0 (.slice tI) (by kernel_rfl) ?_
  obtain ⟨v35, h36, h⟩ := bind_of h
  obtain ⟨h37, h38⟩ := forI_iter h36
  refine W_weaken [1, 2, 3, 9, 26, 27] [25, 3, 998, 997, 996, 995] (fr' := ((unroll_Build_s2 a0 a1 a2) ((0 : Int), (a0.1, a0.2.1, a0.2.2, [], (none : Option (List ((Int × (Int × Int)) × Int))), [], []))).1) (L' := ((unroll_Build_s2 a0 a1 a2) ((0 : Int), (a0.1, a0.2.1, a0.2.2, [], (none : Option (List ((Int × (Int × Int)) × Int))), [], []))).2) (by kernel_rfl) ?_
  refine W_cutK (W_loop (S := (unroll_Build_s2 a0 a1 a2)) (J := (exQ (.exit 0) (unroll_Build_s3 a0 a1 a2))) (by kernel_rfl) ?_ h37 _ v35 h38) ?_
  ·rintro ⟨i24, x25⟩ s h
   refine sr [(1, aI a1), (2, aI a2), (3, .one (.ptr 3 0)), (9, .one (.ptr 25 0)), (26, aI a1), (27, aI i24), (28, aB (decide (i24 < a1)))] [(3, .one tM a0), (25, .cells [.slc 998, .slc 997, .dat tI x25.1, .dat tI x25.2.1, .dat (.slice (.slice t3)) x25.2.2.1, .slc 996, .slc 995]), (995, .rows 0 (.slice tI) x25.2.2.2.2.2.2 []), (996, .seq tI x25.2.2.2.2.2.1), (997, .map t3 tI x25.2.2.2.2.1), (998, .seq t3 x25.2.2.2.1)] (by kernel_rfl) ?_
   refine W_seq (by kernel_rfl) ?_
   refine W_cond (o := .tmp 28) (b := decide (i24 < a1)) (by kernel_rfl) (by kernel_rfl) (fun h27 => ?_) (fun h27 => ?_)
   ·replace h := stepI_true h27 h
    obtain ⟨_, h, rfl⟩ := h
    refine wkL [(1, aI a1), (2, aI a2), (3, .one (.ptr 3 0)), (9, .one (.ptr 25 0)), (26, aI a1), (27, aI i24)] (by kernel_rfl) ?_
    refine seqQ_norm ?_
    refine W_seq (by kernel_rfl) ?_
    refine W_block (id := 1) (by kernel_rfl) ?_
    refine srL [(1, aI a1), (2, aI a2), (3, .one (.ptr 3 0)), (9, .one (.ptr 25 0)), (10, aI i24), (26, aI a1), (27, aI i24)] (by kernel_rfl) ?_
    refine W_seq (by kernel_rfl) ?_
    obtain ⟨r28, h29, h⟩ := bind_of h
    obtain ⟨_, h30, h⟩ := bind_of h
    replace h30 := ck_some h30
    refine W_drawC5 12 [(9, [998, 997], [(25, .cells [.slc 998, .slc 997, .dat tI r28.2.1, .dat tI r28.2.2.1, .dat (.slice (.slice t3)) r28.2.2.2.1, .slc 996, .slc 995]), (998, .seq t3 r28.2.2.2.2.1), (997, .map t3 tI r28.2.2.2.2.2.1), (996, .seq tI r28.2.2.2.2.2.2.1), (995, .rows 0 (.slice tI) r28.2.2.2.2.2.2.2 [])]), (11, [996], [(996, .seq tI (r28.2.2.2.2.2.2.1 ++ [r28.1]))])] [] [(9, aI r28.1), (11, .one (.slc 996))] [] [] [1, 2, 3, 9, 26, 27, 30, 41] [3, 25, 995, 996, 997, 998] (out := [(30, .one (.ptr 25 0)), (31, .one (.ptr 25 0)), (32, .one (.ptr 25 0)), (33, .one (.ptr 25 5)), (34, .one (.slc 996)), (35, .one (.ptr 25 0)), (36, .one (.ptr 25 0)), (37, .one (.ptr 25 0)), (38, aI i24), (39, aI r28.1), (40, aD (.slice tI) [r28.1]), (41, .one (.slc 996))]) (obs := [((.one (.slc 996) : AV) = .one (.slc 996)), True]) (calls := []) (fr' := [(1, aI a1), (2, aI a2), (3, .one (.ptr 3 0)), (9, .one (.ptr 25 0)), (26, aI a1), (27, aI i24), (30, .one (.ptr 25 0)), (41, .one (.slc 996))]) (L' := [(3, .one tM a0), (25, .cells [.slc 998, .slc 997, .dat tI r28.2.1, .dat tI r28.2.2.1, .dat (.slice (.slice t3)) r28.2.2.2.1, .any, .slc 995]), (995, .rows 0 (.slice tI) r28.2.2.2.2.2.2.2 []), (996, .seq tI (r28.2.2.2.2.2.2.1 ++ [r28.1])), (997, .map t3 tI r28.2.2.2.2.2.1), (998, .seq t3 r28.2.2.2.2.1)]) (by kernel_rfl) (by kernel_rfl) (by kernel_rfl) (by kernel_rfl) (by kernel_rfl) (allP2 rfl (allP1 trivial)) allD0 (chLend2 (us := [none, none, none, none]) (d := 39) (p := True) [(1000, 25), (2001, 998), (2002, 997), (1003, 996), (1004, 995)] ⟨by kernel_rfl, by kernel_rfl, by kernel_rfl⟩ trivial (gate_Maker_Put_i3_ok h29) (by kernel_rfl) (by kernel_rfl) (by kernel_rfl) (by kernel_rfl) (by kernel_rfl) (chDo (ty := false) (d := 41) (nm := 996) (ob := .seq tI (r28.2.2.2.2.2.2.1 ++ [r28.1])) (av := .one (.slc 996)) (p := SmallLen (List.length r28.2.2.2.2.2.2.1 + List.length [r28.1])) (by kernel_rfl) h30 (by kernel_rfl) chNil)) mkNil (by kernel_rfl) ?_
    refine woo 15 [] [(1, aI a1), (2, aI a2), (3, .one (.ptr 3 0)), (9, .one (.ptr 25 0)), (26, aI a1), (27, aI i24)] [(3, .one tM a0), (25, .cells [.slc 998, .slc 997, .dat tI r28.2.1, .dat tI r28.2.2.1, .dat (.slice (.slice t3)) r28.2.2.2.1, .slc 996, .slc 995]), (995, .rows 0 (.slice tI) r28.2.2.2.2.2.2.2 []), (996, .seq tI (r28.2.2.2.2.2.2.1 ++ [r28.1])), (997, .map t3 tI r28.2.2.2.2.2.1), (998, .seq t3 r28.2.2.2.2.1)] [True] (by kernel_rfl) (allP1 trivial) ?_
    refine wfL [(1, aI a1), (2, aI a2), (3, .one (.ptr 3 0)), (9, .one (.ptr 25 0)), (26, aI a1), (27, aI i24)] (by kernel_rfl) ?_
    refine ⟨rfl, ?_⟩
    refine seqQ_norm ?_
    obtain ⟨r31, h32, h⟩ := bind_of h
    obtain ⟨_, h33, h⟩ := bind_of h
    replace h33 := ck_some h33
    refine W_drawC5 12 [(9, [53], [(53, .seq tI r31)]), (10, [54], [(54, .rows 0 (.slice tI) [([] : List Int)] [((0 : Int), true, .slc 53)])]), (11, [995], [(995, .rows 0 (.slice tI) ((r28.2.2.2.2.2.2.2 : (List (List Int))) ++ [([] : List Int)]) [((List.length r28.2.2.2.2.2.2.2 : Int), true, .slc 53)])])] [] [(9, .one (.slc 53)), (10, .one (.slc 54)), (11, .one (.slc 995))] [] [] [1, 2, 3, 9, 26, 27, 44, 55] [3, 25, 53, 995, 996, 997, 998] (out := [(44, .one (.ptr 25 0)), (45, .one (.ptr 25 0)), (46, .one (.ptr 25 0)), (47, .one (.ptr 25 6)), (48, .one (.slc 995)), (49, aD (.slice tI) [(-1 : Int)]), (50, .one (.ptr 3 0)), (51, aI a0.1), (52, aI (w64 (a0.1 + (1 : Int)))), (53, .one (.slc 53)), (54, .one (.slc 54)), (55, .one (.slc 995))]) (obs := [True]) (calls := []) (fr' := [(1, aI a1), (2, aI a2), (3, .one (.ptr 3 0)), (9, .one (.ptr 25 0)), (26, aI a1), (27, aI i24), (44, .one (.ptr 25 0)), (55, .one (.slc 995))]) (L' := [(3, .one tM a0), (25, .cells [.slc 998, .slc 997, .dat tI r28.2.1, .dat tI r28.2.2.1, .dat (.slice (.slice t3)) r28.2.2.2.1, .slc 996, .any]), (53, .seq tI r31), (995, .rows 0 (.slice tI) ((r28.2.2.2.2.2.2.2 : (List (List Int))) ++ [([] : List Int)]) [((List.length r28.2.2.2.2.2.2.2 : Int), true, .slc 53)]), (996, .seq tI (r28.2.2.2.2.2.2.1 ++ [r28.1])), (997, .map t3 tI r28.2.2.2.2.2.1), (998, .seq t3 r28.2.2.2.2.1)]) (by kernel_rfl) (by kernel_rfl) (by kernel_rfl) (by kernel_rfl) (by kernel_rfl) (allP1 trivial) allD0 (chCall (us := [none, none]) (d := 53) (t := 53) (p := True) ⟨by kernel_rfl, by kernel_rfl, by kernel_rfl⟩ trivial (slices_Repeat_Lintint_ok h32) (by kernel_rfl) (by kernel_rfl) (chDo (ty := false) (d := 54) (nm := 54) (ob := .rows 0 (.slice tI) [([] : List Int)] [((0 : Int), true, .slc 53)]) (av := .one (.slc 54)) (p := True) (by kernel_rfl) trivial (by kernel_rfl) (chDo (ty := false) (d := 55) (nm := 995) (ob := .rows 0 (.slice tI) ((r28.2.2.2.2.2.2.2 : (List (List Int))) ++ [([] : List Int)]) [((List.length r28.2.2.2.2.2.2.2 : Int), true, .slc 53)]) (av := .one (.slc 995)) (p := SmallLen (List.length r28.2.2.2.2.2.2.2 + 1)) (by kernel_rfl) h33 (by kernel_rfl) chNil))) mkNil (by kernel_rfl) ?_
    refine woo 15 [] [(1, aI a1), (2, aI a2), (3, .one (.ptr 3 0)), (9, .one (.ptr 25 0)), (26, aI a1), (27, aI i24)] [(3, .one tM a0), (25, .cells [.slc 998, .slc 997, .dat tI r28.2.1, .dat tI r28.2.2.1, .dat (.slice (.slice t3)) r28.2.2.2.1, .slc 996, .slc 995]), (53, .seq tI r31), (995, .rows 0 (.slice tI) ((r28.2.2.2.2.2.2.2 : (List (List Int))) ++ [([] : List Int)]) [((List.length r28.2.2.2.2.2.2.2 : Int), true, .slc 53)]), (996, .seq tI (r28.2.2.2.2.2.2.1 ++ [r28.1])), (997, .map t3 tI r28.2.2.2.2.2.1), (998, .seq t3 r28.2.2.2.2.1)] [True] (by kernel_rfl) (allP1 trivial) ?_
    refine WO_give 995 (List.length r28.2.2.2.2.2.2.2 : Int) [true] (p := InR (List.length r28.2.2.2.2.2.2.2 : Int) (List.length ((r28.2.2.2.2.2.2.2 : (List (List Int))) ++ [([] : List Int)])) ∧ (List.length r28.2.2.2.2.2.2.2 : Int) = (List.length r28.2.2.2.2.2.2.2 : Int)) (by kernel_rfl) ⟨(InR.last r28.2.2.2.2.2.2.2 [([] : List Int)] (Nat.succ_pos _)), rfl⟩ ?_
    refine wf [(1, aI a1), (2, aI a2), (3, .one (.ptr 3 0)), (9, .one (.ptr 25 0)), (26, aI a1), (27, aI i24)] [(3, .one tM a0), (25, .cells [.slc 998, .slc 997, .dat tI r28.2.1, .dat tI r28.2.2.1, .dat (.slice (.slice t3)) r28.2.2.2.1, .slc 996, .slc 995]), (995, .rows 0 (.slice tI) (List.set ((r28.2.2.2.2.2.2.2 : (List (List Int))) ++ [([] : List Int)]) (Int.toNat (List.length r28.2.2.2.2.2.2.2 : Int)) r31) []), (996, .seq tI (r28.2.2.2.2.2.2.1 ++ [r28.1])), (997, .map t3 tI r28.2.2.2.2.2.1), (998, .seq t3 r28.2.2.2.2.1)] (by kernel_rfl) ?_
    refine ⟨rfl, ?_⟩
    refine blockQ_norm ?_
    refine seqQ_norm ?_
    obtain rfl := Option.some.inj h
    refine sw [(1, aI a1), (2, aI a2), (3, .one (.ptr 3 0)), (9, .one (.ptr 25 0)), (26, aI a1), (27, aI (w64 (i24 + (1 : Int))))] [(25, .cells [.slc 998, .slc 997, .dat tI r28.2.1, .dat tI r28.2.2.1, .dat (.slice (.slice t3)) r28.2.2.2.1, .slc 996, .slc 995]), (3, .one tM a0), (998, .seq t3 r28.2.2.2.2.1), (997, .map t3 tI r28.2.2.2.2.2.1), (996, .seq tI (r28.2.2.2.2.2.2.1 ++ [r28.1])), (995, .rows 0 (.slice tI) (List.set ((r28.2.2.2.2.2.2.2 : (List (List Int))) ++ [([] : List Int)]) (Int.toNat (List.length r28.2.2.2.2.2.2.2 : Int)) r31) [])] (by kernel_rfl) ?_
    exact round_next' (by kernel_rfl) (by kernel_rfl)
   ·obtain rfl := stepI_false h27 h
    refine wx 0 [(1, aI a1), (2, aI a2), (3, .one (.ptr 3 0)), (9, .one (.ptr 25 0))] [(25, .cells [.slc 998, .slc 997, .dat tI x25.1, .dat tI x25.2.1, .dat (.slice (.slice t3)) x25.2.2.1, .slc 996, .slc 995]), (3, .one tM a0), (998, .seq t3 x25.2.2.2.1), (997, .map t3 tI x25.2.2.2.2.1), (996, .seq tI x25.2.2.2.2.2.1), (995, .rows 0 (.slice tI) x25.2.2.2.2.2.2 [])] (by kernel_rfl) ?_
    refine seqQ_exit ?_
    refine round_exit ?_
    exact exM (by kernel_rfl)
  ·intro e fr L hJ
   obtain ⟨rfl, rfl, rfl⟩ := hJ
   refine ltk [(1, aI a1), (2, aI a2), (3, .one (.ptr 3 0)), (9, .one (.ptr 25 0))] [(3, .one tM a0), (25, .cells [.slc 998, .slc 997, .dat tI v35.1, .dat tI v35.2.1, .dat (.slice (.slice t3)) v35.2.2.1, .slc 996, .slc 995]), (995, .rows 0 (.slice tI) v35.2.2.2.2.2.2 []), (996, .seq tI v35.2.2.2.2.2.1), (997, .map t3 tI v35.2.2.2.2.1), (998, .seq t3 v35.2.2.2.1)] (by kernel_rfl) ?_
   refine blockQ_hit ?_
   refine seqQ_norm ?_
   refine W_seq (by kernel_rfl) ?_
   refine W_region (by kernel_rfl) ?_
   refine wo 3 [(1, aI a1), (2, aI a2), (3, .one (.ptr 3 0)), (9, .one (.ptr 25 0)), (61, .one (.ptr 25 0))] [(3, .one tM a0), (25, .cells [.slc 998, .slc 997, .dat tI v35.1, .dat tI v35.2.1, .dat (.slice (.slice t3)) v35.2.2.1, .slc 996, .slc 995]), (995, .rows 0 (.slice tI) v35.2.2.2.2.2.2 []), (996, .seq tI v35.2.2.2.2.2.1), (997, .map t3 tI v35.2.2.2.2.1), (998, .seq t3 v35.2.2.2.1)] (by kernel_rfl) ?_
   obtain ⟨r39, h40, h⟩ := bind_of h
   refine WO_lend2 [(1000, 25), (2001, 998), (2002, 997), (1003, 996), (1004, 995)] (us := [none, none, none, none]) (d := 62) (p := True) (j := 4) rfl ⟨by kernel_rfl, by kernel_rfl, by kernel_rfl⟩ trivial (gate_Maker_Put_i3_ok h40) (by kernel_rfl) (by kernel_rfl) ?_
   refine wo 5 [(1, aI a1), (2, aI a2), (3, .one (.ptr 3 0)), (9, .one (.ptr 25 0)), (11, aI r39.1)] [(3, .one tM a0), (25, .cells [.slc 998, .slc 997, .dat tI r39.2.1, .dat tI r39.2.2.1, .dat (.slice (.slice t3)) r39.2.2.2.1, .slc 996, .slc 995]), (995, .rows 0 (.slice tI) r39.2.2.2.2.2.2.2 []), (996, .seq tI r39.2.2.2.2.2.2.1), (997, .map t3 tI r39.2.2.2.2.2.1), (998, .seq t3 r39.2.2.2.2.1)] (by kernel_rfl) ?_
   refine wfL [(1, aI a1), (2, aI a2), (3, .one (.ptr 3 0)), (9, .one (.ptr 25 0)), (11, aI r39.1)] (by kernel_rfl) ?_
   refine seqQ_norm ?_
   refine W_seq (by kernel_rfl) ?_
   obtain ⟨r41, h42, h⟩ := bind_of h
   refine W_drawC5 9 [(8, [998, 997], [(25, .cells [.slc 998, .slc 997, .dat tI r41.2.1, .dat tI r41.2.2.1, .dat (.slice (.slice t3)) r41.2.2.2.1, .slc 996, .slc 995]), (998, .seq t3 r41.2.2.2.2.1), (997, .map t3 tI r41.2.2.2.2.2.1), (996, .seq tI r41.2.2.2.2.2.2.1), (995, .rows 0 (.slice tI) r41.2.2.2.2.2.2.2 [])])] [] [(8, aI r41.1)] [] [] [1, 2, 3, 9, 65, 66, 71] [3, 25, 995, 996, 997, 998] (out := [(63, .one (.ptr 25 0)), (64, .one (.ptr 25 0)), (65, .one (.ptr 25 0)), (66, aI r39.1), (67, .one (.ptr 25 0)), (68, .one (.ptr 25 0)), (69, .one (.ptr 25 0)), (70, aI r39.1), (71, aI r41.1)]) (obs := []) (calls := []) (fr' := [(1, aI a1), (2, aI a2), (3, .one (.ptr 3 0)), (9, .one (.ptr 25 0)), (65, .one (.ptr 25 0)), (66, aI r39.1), (71, aI r41.1)]) (L' := [(3, .one tM a0), (25, .cells [.slc 998, .slc 997, .dat tI r41.2.1, .dat tI r41.2.2.1, .dat (.slice (.slice t3)) r41.2.2.2.1, .slc 996, .slc 995]), (995, .rows 0 (.slice tI) r41.2.2.2.2.2.2.2 []), (996, .seq tI r41.2.2.2.2.2.2.1), (997, .map t3 tI r41.2.2.2.2.2.1), (998, .seq t3 r41.2.2.2.2.1)]) (by kernel_rfl) (by kernel_rfl) (by kernel_rfl) (by kernel_rfl) (by kernel_rfl) allP0 allD0 (chLend2 (us := [none, none, none, none]) (d := 71) (p := True) [(1000, 25), (2001, 998), (2002, 997), (1003, 996), (1004, 995)] ⟨by kernel_rfl, by kernel_rfl, by kernel_rfl⟩ trivial (gate_Maker_Put_i3_ok h42) (by kernel_rfl) (by kernel_rfl) (by kernel_rfl) (by kernel_rfl) (by kernel_rfl) chNil) mkNil (by kernel_rfl) ?_
   obtain ⟨r43, h44, h⟩ := bind_of h
   refine WO_lend2 [(1000, 25), (2001, 998), (2002, 997), (1003, 996), (1004, 995)] (us := [none, none, none, none]) (d := 72) (p := True) (j := 10) rfl ⟨by kernel_rfl, by kernel_rfl, by kernel_rfl⟩ trivial (gate_Maker_Put_i3_ok h44) (by kernel_rfl) (by kernel_rfl) ?_
   refine wo 11 [(1, aI a1), (2, aI a2), (3, .one (.ptr 3 0)), (9, .one (.ptr 25 0)), (12, aI r43.1)] [(3, .one tM a0), (25, .cells [.slc 998, .slc 997, .dat tI r43.2.1, .dat tI r43.2.2.1, .dat (.slice (.slice t3)) r43.2.2.2.1, .slc 996, .slc 995]), (995, .rows 0 (.slice tI) r43.2.2.2.2.2.2.2 []), (996, .seq tI r43.2.2.2.2.2.2.1), (997, .map t3 tI r43.2.2.2.2.2.1), (998, .seq t3 r43.2.2.2.2.1)] (by kernel_rfl) ?_
   refine wfL [(1, aI a1), (2, aI a2), (3, .one (.ptr 3 0)), (9, .one (.ptr 25 0)), (12, aI r43.1)] (by kernel_rfl) ?_
   refine ⟨rfl, ?_⟩
   refine seqQ_norm ?_
   refine W_seq (by kernel_rfl) ?_
   obtain ⟨v45, h46, h⟩ := bind_of h
   refine W_region (by kernel_rfl) ?_
   refine woo 5 [] [(1, aI a1), (2, aI a2), (3, .one (.ptr 3 0)), (9, .one (.ptr 25 0)), (12, aI r43.1), (77, .one (.eptr 995 1 (0 : Int) 0))] [(3, .one tM a0), (25, .cells [.slc 998, .slc 997, .dat tI r43.2.1, .dat tI r43.2.2.1, .dat (.slice (.slice t3)) r43.2.2.2.1, .slc 996, .slc 995]), (995, .rows 0 (.slice tI) r43.2.2.2.2.2.2.2 []), (996, .seq tI r43.2.2.2.2.2.2.1), (997, .map t3 tI r43.2.2.2.2.2.1), (998, .seq t3 r43.2.2.2.2.1)] [InR (0 : Int) (List.length r43.2.2.2.2.2.2.2)] (by kernel_rfl) (allP1 (InR.of h46)) ?_
   refine WO_take 995 900 (0 : Int) (.dat (.slice tI) v45) (p := Idx r43.2.2.2.2.2.2.2 (0 : Int) v45 ∧ True) (by kernel_rfl) ⟨Idx.of h46, trivial⟩ ?_
   obtain ⟨v47, h48, h⟩ := bind_of h
   refine woo 9 [(11, .val (.slc 900))] [(1, aI a1), (2, aI a2), (3, .one (.ptr 3 0)), (9, .one (.ptr 25 0)), (12, aI r43.1)] [(3, .one tM a0), (25, .cells [.slc 998, .slc 997, .dat tI r43.2.1, .dat tI r43.2.2.1, .dat (.slice (.slice t3)) r43.2.2.2.1, .slc 996, .slc 995]), (900, .seq tI (List.set v45 (Int.toNat (0 : Int)) r43.1)), (995, .rows 0 (.slice tI) r43.2.2.2.2.2.2.2 [((0 : Int), true, .slc 900)]), (996, .seq tI r43.2.2.2.2.2.2.1), (997, .map t3 tI r43.2.2.2.2.2.1), (998, .seq t3 r43.2.2.2.2.1)] [((0 : Int) = (0 : Int)) ∧ InR (0 : Int) (List.length r43.2.2.2.2.2.2.2), InR (0 : Int) (List.length v45), InR (0 : Int) (List.length v45)] (by kernel_rfl) (allP2 ⟨rfl, (InR.of h46)⟩ (allP2 (InR.of h48) (allP1 (InR.of h48)))) ?_
   refine WO_give 995 (0 : Int) [true] (p := InR (0 : Int) (List.length r43.2.2.2.2.2.2.2) ∧ (0 : Int) = (0 : Int)) (by kernel_rfl) ⟨(InR.of h46), rfl⟩ ?_
   refine wf [(1, aI a1), (2, aI a2), (3, .one (.ptr 3 0)), (9, .one (.ptr 25 0)), (12, aI r43.1)] [(3, .one tM a0), (25, .cells [.slc 998, .slc 997, .dat tI r43.2.1, .dat tI r43.2.2.1, .dat (.slice (.slice t3)) r43.2.2.2.1, .slc 996, .slc 995]), (995, .rows 0 (.slice tI) (List.set r43.2.2.2.2.2.2.2 (Int.toNat (0 : Int)) (List.set v45 (Int.toNat (0 : Int)) r43.1)) []), (996, .seq tI r43.2.2.2.2.2.2.1), (997, .map t3 tI r43.2.2.2.2.2.1), (998, .seq t3 r43.2.2.2.2.1)] (by kernel_rfl) ?_
   refine seqQ_norm ?_
   refine W_seq (by kernel_rfl) ?_
   refine srL [(1, aI a1), (3, .one (.ptr 3 0)), (9, .one (.ptr 25 0)), (12, aI r43.1), (81, aI a2), (82, aI (0 : Int))] (by kernel_rfl) ?_
   refine W_block (id := 2) (by kernel_rfl) ?_
   obtain ⟨v64, h65, h⟩ := bind_of h
   obtain ⟨h66, h67⟩ := forI_iter h65
   refine W_frz 996 (by kernel_rfl) ?_
   refine W_frzR 995 (by kernel_rfl) ?_
   refine W_weaken [1, 3, 9, 12, 81, 82] [25, 3, 998, 997] (fr' := ((unroll_Build_s5 a0 a1 a2 r43) ((0 : Int), (r43.2.1, r43.2.2.1, r43.2.2.2.1, r43.2.2.2.2.2.2.1, List.set r43.2.2.2.2.2.2.2 (Int.toNat (0 : Int)) (List.set v45 (Int.toNat (0 : Int)) r43.1), r43.2.2.2.2.1, r43.2.2.2.2.2.1))).1) (L' := ((unroll_Build_s5 a0 a1 a2 r43) ((0 : Int), (r43.2.1, r43.2.2.1, r43.2.2.2.1, r43.2.2.2.2.2.2.1, List.set r43.2.2.2.2.2.2.2 (Int.toNat (0 : Int)) (List.set v45 (Int.toNat (0 : Int)) r43.1), r43.2.2.2.2.1, r43.2.2.2.2.2.1))).2) (by kernel_rfl) ?_
   refine W_cutK (W_loop (S := (unroll_Build_s5 a0 a1 a2 r43)) (J := (exQ (.exit 2) (unroll_Build_s6 a0 a1 r43))) (by kernel_rfl) ?_ h66 _ v64 h67) ?_
   ·rintro ⟨i57, x58⟩ s h
    refine sr [(1, aI a1), (3, .one (.ptr 3 0)), (9, .one (.ptr 25 0)), (12, aI r43.1), (81, aI a2), (82, aI i57), (83, aB (decide (i57 < a2)))] [(3, .one tM a0), (25, .cells [.slc 998, .slc 997, .dat tI x58.1, .dat tI x58.2.1, .dat (.slice (.slice t3)) x58.2.2.1, .dat (.slice tI) x58.2.2.2.1, .dat (.slice (.slice tI)) x58.2.2.2.2.1]), (997, .map t3 tI x58.2.2.2.2.2.2), (998, .seq t3 x58.2.2.2.2.2.1)] (by kernel_rfl) ?_
    refine W_seq (by kernel_rfl) ?_
    refine W_cond (o := .tmp 83) (b := decide (i57 < a2)) (by kernel_rfl) (by kernel_rfl) (fun h60 => ?_) (fun h60 => ?_)
    ·replace h := stepI_true h60 h
     obtain ⟨_, h, rfl⟩ := h
     refine wkL [(1, aI a1), (3, .one (.ptr 3 0)), (9, .one (.ptr 25 0)), (12, aI r43.1), (81, aI a2), (82, aI i57)] (by kernel_rfl) ?_
     refine seqQ_norm ?_
     refine W_seq (by kernel_rfl) ?_
     refine W_block (id := 3) (by kernel_rfl) ?_
     refine W_region (by kernel_rfl) ?_
     refine woL 1 [(1, aI a1), (3, .one (.ptr 3 0)), (9, .one (.ptr 25 0)), (12, aI r43.1), (81, aI a2), (82, aI i57), (84, .one (.ptr 25 0))] (by kernel_rfl) ?_
     obtain ⟨r61, h62, h⟩ := bind_of h
     refine WO_lend2 [(1000, 25), (2001, 998), (2002, 997)] (us := [none]) (d := 85) (p := True) (j := 2) rfl ⟨by kernel_rfl, by kernel_rfl, by kernel_rfl⟩ trivial (unroll_build_step_i2_ok h62) (by kernel_rfl) (by kernel_rfl) ?_
     refine wf [(1, aI a1), (3, .one (.ptr 3 0)), (9, .one (.ptr 25 0)), (12, aI r43.1), (81, aI a2), (82, aI i57)] [(3, .one tM a0), (25, .cells [.slc 998, .slc 997, .dat tI r61.1, .dat tI r61.2.1, .dat (.slice (.slice t3)) r61.2.2.1, .dat (.slice tI) r61.2.2.2.1, .dat (.slice (.slice tI)) r61.2.2.2.2.1]), (997, .map t3 tI r61.2.2.2.2.2.2), (998, .seq t3 r61.2.2.2.2.2.1)] (by kernel_rfl) ?_
     refine blockQ_norm ?_
     refine seqQ_norm ?_
     obtain rfl := Option.some.inj h
     refine sw [(1, aI a1), (3, .one (.ptr 3 0)), (9, .one (.ptr 25 0)), (12, aI r43.1), (81, aI a2), (82, aI (w64 (i57 + (1 : Int))))] [(25, .cells [.slc 998, .slc 997, .dat tI r61.1, .dat tI r61.2.1, .dat (.slice (.slice t3)) r61.2.2.1, .dat (.slice tI) r61.2.2.2.1, .dat (.slice (.slice tI)) r61.2.2.2.2.1]), (3, .one tM a0), (998, .seq t3 r61.2.2.2.2.2.1), (997, .map t3 tI r61.2.2.2.2.2.2)] (by kernel_rfl) ?_
     exact round_next' (by kernel_rfl) (by kernel_rfl)
    ·obtain rfl := stepI_false h60 h
     refine wx 2 [(1, aI a1), (3, .one (.ptr 3 0)), (9, .one (.ptr 25 0)), (12, aI r43.1)] [(25, .cells [.slc 998, .slc 997, .dat tI x58.1, .dat tI x58.2.1, .dat (.slice (.slice t3)) x58.2.2.1, .dat (.slice tI) x58.2.2.2.1, .dat (.slice (.slice tI)) x58.2.2.2.2.1]), (3, .one tM a0), (998, .seq t3 x58.2.2.2.2.2.1), (997, .map t3 tI x58.2.2.2.2.2.2)] (by kernel_rfl) ?_
     refine seqQ_exit ?_
     refine round_exit ?_
     exact exM (by kernel_rfl)
   ·intro e fr L hJ
    obtain ⟨rfl, rfl, rfl⟩ := hJ
    refine ltk [(1, aI a1), (3, .one (.ptr 3 0)), (9, .one (.ptr 25 0)), (12, aI r43.1)] [(3, .one tM a0), (25, .cells [.slc 998, .slc 997, .dat tI v64.1, .dat tI v64.2.1, .dat (.slice (.slice t3)) v64.2.2.1, .dat (.slice tI) v64.2.2.2.1, .dat (.slice (.slice tI)) v64.2.2.2.2.1]), (997, .map t3 tI v64.2.2.2.2.2.2), (998, .seq t3 v64.2.2.2.2.2.1)] (by kernel_rfl) ?_
    refine blockQ_hit ?_
    refine seqQ_norm ?_
    refine sr [(1, aI a1), (3, .one (.ptr 3 0)), (9, .one (.ptr 25 0)), (12, aI r43.1), (13, .one (.nilS))] [(3, .one tM a0), (25, .cells [.slc 998, .slc 997, .dat tI v64.1, .dat tI v64.2.1, .dat (.slice (.slice t3)) v64.2.2.1, .dat (.slice tI) v64.2.2.2.1, .dat (.slice (.slice tI)) v64.2.2.2.2.1]), (997, .map t3 tI v64.2.2.2.2.2.2), (998, .seq t3 v64.2.2.2.2.2.1)] (by kernel_rfl) ?_
    refine W_seq (by kernel_rfl) ?_
    refine srL [(3, .one (.ptr 3 0)), (9, .one (.ptr 25 0)), (12, aI r43.1), (13, .one (.nilS)), (87, aI a1), (88, aI (0 : Int))] (by kernel_rfl) ?_
    refine W_block (id := 4) (by kernel_rfl) ?_
    obtain ⟨v139, h140, h⟩ := bind_of h
    obtain ⟨h141, h142⟩ := forI_iter h140
    refine W_mine 13 113 tI (by kernel_rfl) ?_
    refine W_weaken [3, 9, 12, 13, 87, 88] [25, 3, 113, 998, 997] (fr' := ((unroll_Build_s8 a0 a1 r43) ((0 : Int), (v64.1, v64.2.1, v64.2.2.1, v64.2.2.2.1, v64.2.2.2.2.1, [], v64.2.2.2.2.2.1, v64.2.2.2.2.2.2))).1) (L' := ((unroll_Build_s8 a0 a1 r43) ((0 : Int), (v64.1, v64.2.1, v64.2.2.1, v64.2.2.2.1, v64.2.2.2.2.1, [], v64.2.2.2.2.2.1, v64.2.2.2.2.2.2))).2) (by kernel_rfl) ?_
    refine W_cutK (W_loop (S := (unroll_Build_s8 a0 a1 r43)) (J := (exQ (.exit 4) (unroll_Build_s9 r43))) (by kernel_rfl) ?_ h141 _ v139 h142) ?_
    ·rintro ⟨i113, x114⟩ s h
     refine sr [(3, .one (.ptr 3 0)), (9, .one (.ptr 25 0)), (12, aI r43.1), (13, .one (.slc 113)), (87, aI a1), (88, aI i113), (89, aB (decide (i113 < a1)))] [(3, .one tM a0), (25, .cells [.slc 998, .slc 997, .dat tI x114.1, .dat tI x114.2.1, .dat (.slice (.slice t3)) x114.2.2.1, .dat (.slice tI) x114.2.2.2.1, .dat (.slice (.slice tI)) x114.2.2.2.2.1]), (113, .seq tI x114.2.2.2.2.2.1), (997, .map t3 tI x114.2.2.2.2.2.2.2), (998, .seq t3 x114.2.2.2.2.2.2.1)] (by kernel_rfl) ?_
     refine W_seq (by kernel_rfl) ?_
     refine W_cond (o := .tmp 89) (b := decide (i113 < a1)) (by kernel_rfl) (by kernel_rfl) (fun h116 => ?_) (fun h116 => ?_)
     ·replace h := stepI_true h116 h
      obtain ⟨_, h, rfl⟩ := h
      refine wkL [(3, .one (.ptr 3 0)), (9, .one (.ptr 25 0)), (12, aI r43.1), (13, .one (.slc 113)), (87, aI a1), (88, aI i113)] (by kernel_rfl) ?_
      refine seqQ_norm ?_
      refine W_seq (by kernel_rfl) ?_
      refine W_block (id := 5) (by kernel_rfl) ?_
      refine srL [(3, .one (.ptr 3 0)), (9, .one (.ptr 25 0)), (12, aI r43.1), (13, .one (.slc 113)), (14, aI i113), (87, aI a1), (88, aI i113)] (by kernel_rfl) ?_
      obtain ⟨v129, h130, h⟩ := bind_of h
      obtain ⟨v131, h132, h⟩ := bind_of h
      obtain ⟨v133, h134, h⟩ := bind_of h
      refine W_drawT5 20 [0] [(15, .val (.dat (.slice tI) v129)), (23, .val (.dat tI v131)), (37, .val (.dat tI v133))] [] [3, 9, 12, 13, 87, 88, 91, 92, 103, 110] [3, 25, 113, 997, 998] (out := [(91, .one (.slc 113)), (92, .one (.ptr 25 0)), (93, .one (.ptr 25 0)), (94, .one (.ptr 25 0)), (95, .one (.ptr 25 6)), (96, aD (.slice (.slice tI)) x114.2.2.2.2.1), (97, aI i113), (98, .one (.dptr (.slice tI) v129)), (99, aD (.slice tI) v129), (100, .one (.ptr 3 0)), (101, aI a0.1), (102, .one (.dptr tI v131)), (103, aI v131), (104, .one (.ptr 25 0)), (105, .one (.ptr 25 0)), (106, .one (.ptr 25 5)), (107, aD (.slice tI) x114.2.2.2.1), (108, aI i113), (109, .one (.dptr tI v133)), (110, aI v133)]) (obs := [Idx x114.2.2.2.2.1 i113 v129, Idx v129 a0.1 v131, Idx x114.2.2.2.1 i113 v133]) (calls := []) (fr' := [(3, .one (.ptr 3 0)), (9, .one (.ptr 25 0)), (12, aI r43.1), (13, .one (.slc 113)), (87, aI a1), (88, aI i113), (91, .one (.slc 113)), (92, .one (.ptr 25 0)), (103, aI v131), (110, aI v133)]) (L' := [(3, .one tM a0), (25, .cells [.slc 998, .slc 997, .dat tI x114.1, .dat tI x114.2.1, .dat (.slice (.slice t3)) x114.2.2.1, .dat (.slice tI) x114.2.2.2.1, .dat (.slice (.slice tI)) x114.2.2.2.2.1]), (113, .seq tI x114.2.2.2.2.2.1), (997, .map t3 tI x114.2.2.2.2.2.2.2), (998, .seq t3 x114.2.2.2.2.2.2.1)]) (by kernel_rfl) (by kernel_rfl) (by kernel_rfl) (by kernel_rfl) (allP2 (Idx.of h130) (allP2 (Idx.of h132) (allP1 (Idx.of h134)))) allD0 (by kernel_rfl) ?_
      obtain ⟨r135, h136, h⟩ := bind_of h
      refine WO_lend2 [(1000, 25), (2001, 998), (2002, 997)] (us := [none, none, none]) (d := 111) (p := True) (j := 21) rfl ⟨by kernel_rfl, by kernel_rfl, by kernel_rfl⟩ trivial (unroll_build_both_i2_ok h136) (by kernel_rfl) (by kernel_rfl) ?_
      obtain ⟨_, h137, h⟩ := bind_of h
      replace h137 := ck_some h137
      refine woo 24 [] [(3, .one (.ptr 3 0)), (9, .one (.ptr 25 0)), (12, aI r43.1), (13, .one (.slc 113)), (87, aI a1), (88, aI i113)] [(3, .one tM a0), (25, .cells [.slc 998, .slc 997, .dat tI r135.2.1, .dat tI r135.2.2.1, .dat (.slice (.slice t3)) r135.2.2.2.1, .dat (.slice tI) r135.2.2.2.2.1, .dat (.slice (.slice tI)) r135.2.2.2.2.2.1]), (112, .seq tI [r135.1]), (113, .seq tI (x114.2.2.2.2.2.1 ++ [r135.1])), (997, .map t3 tI r135.2.2.2.2.2.2.2), (998, .seq t3 r135.2.2.2.2.2.2.1)] [SmallLen (List.length x114.2.2.2.2.2.1 + List.length [r135.1])] (by kernel_rfl) (allP1 h137) ?_
      refine wf [(3, .one (.ptr 3 0)), (9, .one (.ptr 25 0)), (12, aI r43.1), (13, .one (.slc 113)), (87, aI a1), (88, aI i113)] [(3, .one tM a0), (25, .cells [.slc 998, .slc 997, .dat tI r135.2.1, .dat tI r135.2.2.1, .dat (.slice (.slice t3)) r135.2.2.2.1, .dat (.slice tI) r135.2.2.2.2.1, .dat (.slice (.slice tI)) r135.2.2.2.2.2.1]), (113, .seq tI (x114.2.2.2.2.2.1 ++ [r135.1])), (997, .map t3 tI r135.2.2.2.2.2.2.2), (998, .seq t3 r135.2.2.2.2.2.2.1)] (by kernel_rfl) ?_
      refine ⟨rfl, ?_⟩
      refine blockQ_norm ?_
      refine seqQ_norm ?_
      obtain rfl := Option.some.inj h
      refine sw [(3, .one (.ptr 3 0)), (9, .one (.ptr 25 0)), (12, aI r43.1), (13, .one (.slc 113)), (87, aI a1), (88, aI (w64 (i113 + (1 : Int))))] [(25, .cells [.slc 998, .slc 997, .dat tI r135.2.1, .dat tI r135.2.2.1, .dat (.slice (.slice t3)) r135.2.2.2.1, .dat (.slice tI) r135.2.2.2.2.1, .dat (.slice (.slice tI)) r135.2.2.2.2.2.1]), (3, .one tM a0), (113, .seq tI (x114.2.2.2.2.2.1 ++ [r135.1])), (998, .seq t3 r135.2.2.2.2.2.2.1), (997, .map t3 tI r135.2.2.2.2.2.2.2)] (by kernel_rfl) ?_
      exact round_next' (by kernel_rfl) (by kernel_rfl)
     ·obtain rfl := stepI_false h116 h
      refine wx 4 [(9, .one (.ptr 25 0)), (12, aI r43.1), (13, .one (.slc 113))] [(25, .cells [.slc 998, .slc 997, .dat tI x114.1, .dat tI x114.2.1, .dat (.slice (.slice t3)) x114.2.2.1, .dat (.slice tI) x114.2.2.2.1, .dat (.slice (.slice tI)) x114.2.2.2.2.1]), (113, .seq tI x114.2.2.2.2.2.1), (998, .seq t3 x114.2.2.2.2.2.2.1), (997, .map t3 tI x114.2.2.2.2.2.2.2)] (by kernel_rfl) ?_
      refine seqQ_exit ?_
      refine round_exit ?_
      exact exM (by kernel_rfl)
    ·intro e fr L hJ
     obtain ⟨rfl, rfl, rfl⟩ := hJ
     refine ltk [(9, .one (.ptr 25 0)), (12, aI r43.1), (13, .one (.slc 113))] [(25, .cells [.slc 998, .slc 997, .dat tI v139.1, .dat tI v139.2.1, .dat (.slice (.slice t3)) v139.2.2.1, .dat (.slice tI) v139.2.2.2.1, .dat (.slice (.slice tI)) v139.2.2.2.2.1]), (113, .seq tI v139.2.2.2.2.2.1), (997, .map t3 tI v139.2.2.2.2.2.2.2), (998, .seq t3 v139.2.2.2.2.2.2.1)] (by kernel_rfl) ?_
     refine blockQ_hit ?_
     refine seqQ_norm ?_
     refine W_seq (by kernel_rfl) ?_
     refine W_region (by kernel_rfl) ?_
     refine wo 2 [(9, .one (.ptr 25 0)), (12, aI r43.1), (115, .one (.ptr 25 0)), (116, .one (.slc 113))] [(25, .cells [.slc 998, .slc 997, .dat tI v139.1, .dat tI v139.2.1, .dat (.slice (.slice t3)) v139.2.2.1, .dat (.slice tI) v139.2.2.2.1, .dat (.slice (.slice tI)) v139.2.2.2.2.1]), (113, .seq tI v139.2.2.2.2.2.1), (997, .map t3 tI v139.2.2.2.2.2.2.2), (998, .seq t3 v139.2.2.2.2.2.2.1)] (by kernel_rfl) ?_
     obtain ⟨r143, h144, h⟩ := bind_of h
     refine WO_lend2 [(1000, 25), (1001, 113), (2002, 998), (2003, 997)] (us := [none, none]) (d := 117) (p := True) (j := 3) rfl ⟨by kernel_rfl, by kernel_rfl, by kernel_rfl⟩ trivial (unroll_build_some_i2_ok h144) (by kernel_rfl) (by kernel_rfl) ?_
     refine wo 4 [(9, .one (.ptr 25 0)), (12, aI r43.1), (15, aI r143.1)] [(25, .cells [.slc 998, .slc 997, .dat tI r143.2.1, .dat tI r143.2.2.1, .dat (.slice (.slice t3)) r143.2.2.2.1, .dat (.slice tI) r143.2.2.2.2.1, .dat (.slice (.slice tI)) r143.2.2.2.2.2.1]), (113, .seq tI r143.2.2.2.2.2.2.1), (997, .map t3 tI r143.2.2.2.2.2.2.2.2), (998, .seq t3 r143.2.2.2.2.2.2.2.1)] (by kernel_rfl) ?_
     refine wf [(9, .one (.ptr 25 0)), (12, aI r43.1), (15, aI r143.1)] [(25, .cells [.slc 998, .slc 997, .dat tI r143.2.1, .dat tI r143.2.2.1, .dat (.slice (.slice t3)) r143.2.2.2.1, .dat (.slice tI) r143.2.2.2.2.1, .dat (.slice (.slice tI)) r143.2.2.2.2.2.1]), (997, .map t3 tI r143.2.2.2.2.2.2.2.2), (998, .seq t3 r143.2.2.2.2.2.2.2.1)] (by kernel_rfl) ?_
     refine seqQ_norm ?_
     refine W_seq (by kernel_rfl) ?_
     obtain ⟨v154, h155, h⟩ := bind_of h
     refine W_cutK (Q' := (exQ .normal unroll_Build_s11) v154) ?_ ?_
     ·replace h := h155
      refine sr [(9, .one (.ptr 25 0)), (12, aI r43.1), (15, aI r143.1), (119, aB (decide (r143.1 < (0 : Int))))] [(25, .cells [.slc 998, .slc 997, .dat tI r143.2.1, .dat tI r143.2.2.1, .dat (.slice (.slice t3)) r143.2.2.2.1, .dat (.slice tI) r143.2.2.2.2.1, .dat (.slice (.slice tI)) r143.2.2.2.2.2.1]), (997, .map t3 tI r143.2.2.2.2.2.2.2.2), (998, .seq t3 r143.2.2.2.2.2.2.2.1)] (by kernel_rfl) ?_
      refine W_cond (o := .tmp 119) (b := decide (r143.1 < (0 : Int))) (by kernel_rfl) (by kernel_rfl) (fun h151 => ?_) (fun h151 => ?_)
      ·replace h := ofT h151 h
       refine W_region (by kernel_rfl) ?_
       refine woL 4 [(9, .one (.ptr 25 0)), (15, aI r143.1), (122, .one (.ptr 25 0)), (123, aI r43.1)] (by kernel_rfl) ?_
       obtain ⟨r152, h153, h⟩ := bind_of h
       refine WO_lend2 [(1000, 25), (2001, 998), (2002, 997)] (us := [none, none, none, none]) (d := 124) (p := True) (j := 5) rfl ⟨by kernel_rfl, by kernel_rfl, by kernel_rfl⟩ trivial (gate_Maker_Put_i5_ok h153) (by kernel_rfl) (by kernel_rfl) ?_
       refine wo 6 [(9, .one (.ptr 25 0)), (15, aI r152.1)] [(25, .cells [.slc 998, .slc 997, .dat tI r152.2.1, .dat tI r152.2.2.1, .dat (.slice (.slice t3)) r152.2.2.2.1, .dat (.slice tI) r152.2.2.2.2.1, .dat (.slice (.slice tI)) r152.2.2.2.2.2.1]), (997, .map t3 tI r152.2.2.2.2.2.2.2), (998, .seq t3 r152.2.2.2.2.2.2.1)] (by kernel_rfl) ?_
       obtain rfl := Option.some.inj h
       refine wf [(9, .one (.ptr 25 0)), (15, aI r152.1)] [(25, .cells [.slc 998, .slc 997, .dat tI r152.2.1, .dat tI r152.2.2.1, .dat (.slice (.slice t3)) r152.2.2.2.1, .dat (.slice tI) r152.2.2.2.2.1, .dat (.slice (.slice tI)) r152.2.2.2.2.2.1]), (998, .seq t3 r152.2.2.2.2.2.2.1), (997, .map t3 tI r152.2.2.2.2.2.2.2)] (by kernel_rfl) ?_
       exact exM (by kernel_rfl)
      ·replace h := ofF h151 h
       obtain rfl := Option.some.inj h
       refine wk [(9, .one (.ptr 25 0)), (15, aI r143.1)] [(25, .cells [.slc 998, .slc 997, .dat tI r143.2.1, .dat tI r143.2.2.1, .dat (.slice (.slice t3)) r143.2.2.2.1, .dat (.slice tI) r143.2.2.2.2.1, .dat (.slice (.slice tI)) r143.2.2.2.2.2.1]), (998, .seq t3 r143.2.2.2.2.2.2.2.1), (997, .map t3 tI r143.2.2.2.2.2.2.2.2)] (by kernel_rfl) ?_
       exact exM (by kernel_rfl)
     ·intro e fr L hJ
      obtain ⟨rfl, rfl, rfl⟩ := hJ
      refine ltk [(9, .one (.ptr 25 0)), (15, aI v154.1)] [(25, .cells [.slc 998, .slc 997, .dat tI v154.2.1, .dat tI v154.2.2.1, .dat (.slice (.slice t3)) v154.2.2.2.1, .dat (.slice tI) v154.2.2.2.2.1, .dat (.slice (.slice tI)) v154.2.2.2.2.2.1]), (997, .map t3 tI v154.2.2.2.2.2.2.2), (998, .seq t3 v154.2.2.2.2.2.2.1)] (by kernel_rfl) ?_
      refine seqQ_norm ?_
      refine W_seq (by kernel_rfl) ?_
      refine W_region (by kernel_rfl) ?_
      refine woL 7 [(129, .one (.slc 998)), (131, aI (w64 (v154.1 + (1 : Int))))] (by kernel_rfl) ?_
      refine WO_frz 998 (by kernel_rfl) ?_
      obtain ⟨_, h156, h⟩ := bind_of h
      replace h156 := ck_some h156
      refine woo 8 [] [(132, aD (.slice t3) (sub v154.2.2.2.2.2.2.1 (0 : Int) (w64 (v154.1 + (1 : Int)))))] [(25, .cells [.dat (.slice t3) v154.2.2.2.2.2.2.1, .slc 997, .dat tI v154.2.1, .dat tI v154.2.2.1, .dat (.slice (.slice t3)) v154.2.2.2.1, .dat (.slice tI) v154.2.2.2.2.1, .dat (.slice (.slice tI)) v154.2.2.2.2.2.1]), (997, .map t3 tI v154.2.2.2.2.2.2.2)] [Cuts (0 : Int) (w64 (v154.1 + (1 : Int))) (List.length v154.2.2.2.2.2.2.1)] (by kernel_rfl) (allP1 h156) ?_
      obtain ⟨r157, h158, h⟩ := bind_of h
      refine WO_call1 (us := [none]) (d := 133) (t := 133) (p := True) (j := 9) rfl ⟨by kernel_rfl, by kernel_rfl, by kernel_rfl⟩ trivial (slices_Clone_LapiGateapiGate_ok h158) (by kernel_rfl) ?_
      refine wo 11 [(6, .one (.slc 133)), (7, aI (0 : Int))] [(25, .cells [.dat (.slice t3) v154.2.2.2.2.2.2.1, .slc 997, .dat tI v154.2.1, .dat tI v154.2.2.1, .dat (.slice (.slice t3)) v154.2.2.2.1, .dat (.slice tI) v154.2.2.2.2.1, .dat (.slice (.slice tI)) v154.2.2.2.2.2.1]), (133, .seq t3 r157), (997, .map t3 tI v154.2.2.2.2.2.2.2)] (by kernel_rfl) ?_
      refine wf [(6, .one (.slc 133)), (7, aI (0 : Int))] [(133, .seq t3 r157)] (by kernel_rfl) ?_
      refine seqQ_norm ?_
      obtain rfl := Option.some.inj h
      refine W_frz 133 (by kernel_rfl) ?_
      refine wt [(6, aD (.slice t3) r157), (7, aI (0 : Int))] [] (by kernel_rfl) ?_
      exact retM (by kernel_rfl)

def ref_Within (a0 : Int) (a1 : Int) (a2 : Int) : Option Bool :=
some ((decide (a0 ≤ a1)) && (decide (a1 ≤ a2)))
theorem ref_Within_ok {a0 : Int} {a1 : Int} {a2 : Int} {r : Bool} (h : ref_Within a0 a1 a2 = some r) : FnC Try.prog 16 [aI a0, aI a1, aI a2] [] (aB r) [] := by
 refine fnC_of_W (B := bodyOf Try.f16) (n := 15) Try.func16 (by kernel_rfl) (by kernel_rfl) (by kernel_rfl) (by kernel_rfl) (by kernel_rfl) ?_
 intro K
 refine sr [(0, aI a0), (1, aI a1), (2, aI a2)] [] (by kernel_rfl) ?_
 refine srL [(6, aB ((decide (a0 ≤ a1)) && (decide (a1 ≤ a2))))] (by kernel_rfl) ?_
 obtain rfl := Option.some.inj h
 refine wtL [(6, aB ((decide (a0 ≤ a1)) && (decide (a1 ≤ a2))))] (by kernel_rfl) ?_
 exact retM (by kernel_rfl)

def ref_Inside_b1 (a0 : Int) (i11 : Int) (v14 : Int) (x12 : Unit) : Option (Flow Unit (Esc Bool Unit)) :=
bif (decide (v14 < (0 : Int))) || (decide (v14 ≥ a0)) then
(some (.done (.ret false)))
else
(some (.next ()))
@[reducible] def ref_Inside_s2 (a0 : Int) (a1 : (List Int)) (v : Int × Unit) : Fr × LL := ([(0, aI a0), (7, aD (.slice tI) a1), (8, aI (List.length a1 : Int)), (9, aI v.1)], [])
@[reducible] def ref_Inside_s3 (v : Bool) : Fr × LL := ([(4, aB v)], [])
@[reducible] def ref_Inside_s4 (v : Unit) : Fr × LL := ([], [])
def ref_Inside (a0 : Int) (a1 : (List Int)) : Option Bool :=
(forL (ref_Inside_b1 a0) (fun x12 => (.brk ())) a1 0 ()).bind fun v19 =>
match v19 with
| .ret v24 =>
(some v24)
| .brk v25 =>
(some true)
theorem ref_Inside_ok {a0 : Int} {a1 : (List Int)} {r : Bool} (h : ref_Inside a0 a1 = some r) : FnC Try.prog 51 [aI a0, aD (.slice tI) a1] [] (aB r) [] := by
 refine fnC_of_W (B := bodyOf Try.f51) (n := 21) Try.func51 (by kernel_rfl) (by kernel_rfl) (by kernel_rfl) (by kernel_rfl) (by kernel_rfl) ?_
 intro K
 refine sr [(0, aI a0), (1, aD (.slice tI) a1)] [] (by kernel_rfl) ?_
 refine W_seq (by kernel_rfl) ?_
 refine srL [(0, aI a0), (7, aD (.slice tI) a1), (8, aI (List.length a1 : Int)), (9, aI (0 : Int))] (by kernel_rfl) ?_
 refine W_block (id := 0) (by kernel_rfl) ?_
 obtain ⟨v19, h20, h⟩ := bind_of h
 refine W_len (t := 7) (u := tI) (xs := a1) (by kernel_rfl) (fun h23 => ?_)
 obtain ⟨h21, h22⟩ := forL_iter h23 h20
 refine W_weaken [0, 7, 8, 9] [] (fr' := ((ref_Inside_s2 a0 a1) ((0 : Int), ())).1) (L' := ((ref_Inside_s2 a0 a1) ((0 : Int), ())).2) (by kernel_rfl) ?_
 refine W_cutK (W_loop (S := (ref_Inside_s2 a0 a1)) (J := (escQ (exQ .ret ref_Inside_s3) (exQ (.exit 0) ref_Inside_s4))) (by kernel_rfl) ?_ h21 _ v19 h22) ?_
 ·rintro ⟨i11, x12⟩ s h
  refine sr [(0, aI a0), (7, aD (.slice tI) a1), (8, aI (List.length a1 : Int)), (9, aI i11), (10, aB (decide (i11 < (List.length a1 : Int))))] [] (by kernel_rfl) ?_
  refine W_seq (by kernel_rfl) ?_
  refine W_cond (o := .tmp 10) (b := decide (i11 < (List.length a1 : Int))) (by kernel_rfl) (by kernel_rfl) (fun h16 => ?_) (fun h16 => ?_)
  ·replace h := stepL_true h16 h
   obtain ⟨v14, _, h15, h, rfl⟩ := h
   refine wkL [(0, aI a0), (7, aD (.slice tI) a1), (8, aI (List.length a1 : Int)), (9, aI i11)] (by kernel_rfl) ?_
   refine seqQ_norm ?_
   refine W_seq (by kernel_rfl) ?_
   refine W_block (id := 1) (by kernel_rfl) ?_
   refine sro [(1, .val (.dat tI v14))] [(0, aI a0), (6, aI v14), (7, aD (.slice tI) a1), (8, aI (List.length a1 : Int)), (9, aI i11)] [] [Idx a1 i11 v14] (by kernel_rfl) (allP1 (Idx.of h15)) ?_
   refine srL [(0, aI a0), (7, aD (.slice tI) a1), (8, aI (List.length a1 : Int)), (9, aI i11), (19, aB ((decide (v14 < (0 : Int))) || (decide (v14 ≥ a0))))] (by kernel_rfl) ?_
   refine W_cond (o := .tmp 19) (b := (decide (v14 < (0 : Int))) || (decide (v14 ≥ a0))) (by kernel_rfl) (by kernel_rfl) (fun h17 => ?_) (fun h17 => ?_)
   ·replace h := ofT h17 h
    refine srL [(4, aB false)] (by kernel_rfl) ?_
    obtain rfl := Option.some.inj h
    refine wtL [(4, aB false)] (by kernel_rfl) ?_
    refine blockQ_ret ?_
    refine seqQ_ret ?_
    refine round_ret ?_
    refine escQ_ret ?_
    exact exM (by kernel_rfl)
   ·replace h := ofF h17 h
    refine wkL [(0, aI a0), (7, aD (.slice tI) a1), (8, aI (List.length a1 : Int)), (9, aI i11)] (by kernel_rfl) ?_
    refine blockQ_norm ?_
    refine seqQ_norm ?_
    obtain rfl := Option.some.inj h
    refine swL [(0, aI a0), (7, aD (.slice tI) a1), (8, aI (List.length a1 : Int)), (9, aI (w64 (i11 + (1 : Int))))] (by kernel_rfl) ?_
    exact round_next' (by kernel_rfl) (by kernel_rfl)
  ·obtain rfl := stepL_false h16 h
   refine wxL 0 [] (by kernel_rfl) ?_
   refine seqQ_exit ?_
   refine round_exit ?_
   refine escQ_brk ?_
   exact exM (by kernel_rfl)
 ·intro e fr L hJ
  rcases v19 with v24 | v25
  ·obtain ⟨rfl, rfl, rfl⟩ := hJ
   obtain rfl := Option.some.inj h
   refine ltk [(4, aB v24)] [] (by kernel_rfl) ?_
   refine blockQ_ret ?_
   refine seqQ_ret ?_
   exact retM (by kernel_rfl)
  ·obtain ⟨rfl, rfl, rfl⟩ := hJ
   refine ltk [] [] (by kernel_rfl) ?_
   refine blockQ_hit ?_
   refine seqQ_norm ?_
   refine sr [(4, aB true)] [] (by kernel_rfl) ?_
   obtain rfl := Option.some.inj h
   refine wtL [(4, aB true)] (by kernel_rfl) ?_
   exact retM (by kernel_rfl)
end Go.Proofs.Ytnblafiefaalgaa.unrollBuilds
