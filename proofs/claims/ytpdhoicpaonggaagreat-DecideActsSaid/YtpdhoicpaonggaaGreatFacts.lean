import Derived.Test.YtpdhoicpaonggaaGreatM15
import Derived.Test.YtpdhoicpaonggaaGreatProg
import Derived.KernelRfl
namespace Go.Proofs.YtpdhoicpaonggaaGreat
open Go Go.M
theorem sz3 : szOf Tryz.prog 3 = some 1 := by kernel_rfl
theorem by3 : M.bytesOf Tryz.prog 3 = some 8 := by kernel_rfl
theorem ze3 : zeroOf Tryz.prog 3 = some (.int .i64 0) := by kernel_rfl
theorem ag3 : aggT Tryz.prog 3 = some false := by kernel_rfl
theorem sz4 : szOf Tryz.prog 4 = some 1 := by kernel_rfl
theorem by4 : M.bytesOf Tryz.prog 4 = some 1 := by kernel_rfl
theorem ze4 : zeroOf Tryz.prog 4 = some (.bool false) := by kernel_rfl
theorem ag4 : aggT Tryz.prog 4 = some false := by kernel_rfl
theorem sz5 : szOf Tryz.prog 5 = some 1 := by kernel_rfl
theorem by5 : M.bytesOf Tryz.prog 5 = some 1 := by kernel_rfl
theorem ze5 : zeroOf Tryz.prog 5 = some (.int .u8 0) := by kernel_rfl
theorem ag5 : aggT Tryz.prog 5 = some false := by kernel_rfl
theorem sz9 : szOf Tryz.prog 9 = some 1 := by kernel_rfl
theorem by9 : M.bytesOf Tryz.prog 9 = some 16 := by kernel_rfl
theorem ze9 : zeroOf Tryz.prog 9 = some (.string ByteArray.empty) := by kernel_rfl
theorem ag9 : aggT Tryz.prog 9 = some false := by kernel_rfl
theorem sz22 : szOf Tryz.prog 22 = some 1 := by kernel_rfl
theorem by22 : M.bytesOf Tryz.prog 22 = some 24 := by kernel_rfl
theorem ze22 : zeroOf Tryz.prog 22 = some (.slice none 0 0) := by kernel_rfl
theorem ag22 : aggT Tryz.prog 22 = some false := by kernel_rfl
theorem sz23 : szOf Tryz.prog 23 = some 1 := by kernel_rfl
theorem by23 : M.bytesOf Tryz.prog 23 = some 24 := by kernel_rfl
theorem ze23 : zeroOf Tryz.prog 23 = some (.slice none 0 0) := by kernel_rfl
theorem ag23 : aggT Tryz.prog 23 = some false := by kernel_rfl
theorem sz24 : szOf Tryz.prog 24 = some 4 := by kernel_rfl
theorem by24 : M.bytesOf Tryz.prog 24 = some 64 := by kernel_rfl
theorem ze24 : zeroOf Tryz.prog 24 = some (.agg #[.int .i64 0, .int .i64 0, .slice none 0 0, .slice none 0 0]) := by kernel_rfl
theorem ag24 : aggT Tryz.prog 24 = some true := by kernel_rfl
theorem fo24_0 : fieldOf Tryz.prog 24 0 = some (0, 1, 3) := by kernel_rfl
theorem fo24_1 : fieldOf Tryz.prog 24 1 = some (1, 1, 3) := by kernel_rfl
theorem fo24_2 : fieldOf Tryz.prog 24 2 = some (2, 1, 22) := by kernel_rfl
theorem fo24_3 : fieldOf Tryz.prog 24 3 = some (3, 1, 23) := by kernel_rfl
theorem pl24 : places Tryz.prog 24 = some (#[(0, 1), (1, 1), (2, 1), (3, 1)][·]?) := by kernel_rfl
theorem sz25 : szOf Tryz.prog 25 = some 4 := by kernel_rfl
theorem by25 : M.bytesOf Tryz.prog 25 = some 64 := by kernel_rfl
theorem ze25 : zeroOf Tryz.prog 25 = some (.agg #[.int .i64 0, .int .i64 0, .slice none 0 0, .slice none 0 0]) := by kernel_rfl
theorem ag25 : aggT Tryz.prog 25 = some true := by kernel_rfl
theorem fo25_0 : fieldOf Tryz.prog 25 0 = some (0, 1, 3) := by kernel_rfl
theorem fo25_1 : fieldOf Tryz.prog 25 1 = some (1, 1, 3) := by kernel_rfl
theorem fo25_2 : fieldOf Tryz.prog 25 2 = some (2, 1, 22) := by kernel_rfl
theorem fo25_3 : fieldOf Tryz.prog 25 3 = some (3, 1, 23) := by kernel_rfl
theorem pl25 : places Tryz.prog 25 = some (#[(0, 1), (1, 1), (2, 1), (3, 1)][·]?) := by kernel_rfl
theorem sz26 : szOf Tryz.prog 26 = some 1 := by kernel_rfl
theorem by26 : M.bytesOf Tryz.prog 26 = some 24 := by kernel_rfl
theorem ze26 : zeroOf Tryz.prog 26 = some (.slice none 0 0) := by kernel_rfl
theorem ag26 : aggT Tryz.prog 26 = some false := by kernel_rfl
theorem sz27 : szOf Tryz.prog 27 = some 1 := by kernel_rfl
theorem by27 : M.bytesOf Tryz.prog 27 = some 24 := by kernel_rfl
theorem ze27 : zeroOf Tryz.prog 27 = some (.slice none 0 0) := by kernel_rfl
theorem ag27 : aggT Tryz.prog 27 = some false := by kernel_rfl
theorem sz28 : szOf Tryz.prog 28 = some 2 := by kernel_rfl
theorem by28 : M.bytesOf Tryz.prog 28 = some 16 := by kernel_rfl
theorem ze28 : zeroOf Tryz.prog 28 = some (.agg #[.int .i64 0, .int .i64 0]) := by kernel_rfl
theorem ag28 : aggT Tryz.prog 28 = some true := by kernel_rfl
theorem fo28_0 : fieldOf Tryz.prog 28 0 = some (0, 1, 3) := by kernel_rfl
theorem fo28_1 : fieldOf Tryz.prog 28 1 = some (1, 1, 3) := by kernel_rfl
theorem pl28 : places Tryz.prog 28 = some (#[(0, 1), (1, 1)][·]?) := by kernel_rfl
theorem sz29 : szOf Tryz.prog 29 = some 2 := by kernel_rfl
theorem by29 : M.bytesOf Tryz.prog 29 = some 16 := by kernel_rfl
theorem ze29 : zeroOf Tryz.prog 29 = some (.agg #[.int .i64 0, .int .i64 0]) := by kernel_rfl
theorem ag29 : aggT Tryz.prog 29 = some true := by kernel_rfl
theorem fo29_0 : fieldOf Tryz.prog 29 0 = some (0, 1, 3) := by kernel_rfl
theorem fo29_1 : fieldOf Tryz.prog 29 1 = some (1, 1, 3) := by kernel_rfl
theorem pl29 : places Tryz.prog 29 = some (#[(0, 1), (1, 1)][·]?) := by kernel_rfl
theorem sz30 : szOf Tryz.prog 30 = some 2 := by kernel_rfl
theorem by30 : M.bytesOf Tryz.prog 30 = some 16 := by kernel_rfl
theorem ze30 : zeroOf Tryz.prog 30 = some (.agg #[.int .i64 0, .int .i64 0]) := by kernel_rfl
theorem ag30 : aggT Tryz.prog 30 = some true := by kernel_rfl
theorem fo30_0 : fieldOf Tryz.prog 30 0 = some (0, 1, 3) := by kernel_rfl
theorem fo30_1 : fieldOf Tryz.prog 30 1 = some (1, 1, 3) := by kernel_rfl
theorem pl30 : places Tryz.prog 30 = some (#[(0, 1), (1, 1)][·]?) := by kernel_rfl
theorem sz31 : szOf Tryz.prog 31 = some 2 := by kernel_rfl
theorem by31 : M.bytesOf Tryz.prog 31 = some 16 := by kernel_rfl
theorem ze31 : zeroOf Tryz.prog 31 = some (.agg #[.int .i64 0, .int .i64 0]) := by kernel_rfl
theorem ag31 : aggT Tryz.prog 31 = some true := by kernel_rfl
theorem fo31_0 : fieldOf Tryz.prog 31 0 = some (0, 1, 3) := by kernel_rfl
theorem fo31_1 : fieldOf Tryz.prog 31 1 = some (1, 1, 3) := by kernel_rfl
theorem pl31 : places Tryz.prog 31 = some (#[(0, 1), (1, 1)][·]?) := by kernel_rfl
theorem sz32 : szOf Tryz.prog 32 = some 1 := by kernel_rfl
theorem by32 : M.bytesOf Tryz.prog 32 = some 24 := by kernel_rfl
theorem ze32 : zeroOf Tryz.prog 32 = some (.slice none 0 0) := by kernel_rfl
theorem ag32 : aggT Tryz.prog 32 = some false := by kernel_rfl
theorem sz33 : szOf Tryz.prog 33 = some 11 := by kernel_rfl
theorem by33 : M.bytesOf Tryz.prog 33 = some 104 := by kernel_rfl
theorem ze33 : zeroOf Tryz.prog 33 = some (.agg #[.int .i64 0, .int .i64 0, .int .i64 0, .int .i64 0, .int .i64 0, .int .i64 0, .int .i64 0, .int .i64 0, .int .i64 0, .slice none 0 0, .int .i64 0]) := by kernel_rfl
theorem ag33 : aggT Tryz.prog 33 = some true := by kernel_rfl
theorem fo33_0 : fieldOf Tryz.prog 33 0 = some (0, 1, 3) := by kernel_rfl
theorem fo33_1 : fieldOf Tryz.prog 33 1 = some (1, 1, 3) := by kernel_rfl
theorem fo33_2 : fieldOf Tryz.prog 33 2 = some (2, 2, 29) := by kernel_rfl
theorem fo33_3 : fieldOf Tryz.prog 33 3 = some (4, 2, 31) := by kernel_rfl
theorem fo33_4 : fieldOf Tryz.prog 33 4 = some (6, 1, 3) := by kernel_rfl
theorem fo33_5 : fieldOf Tryz.prog 33 5 = some (7, 2, 31) := by kernel_rfl
theorem fo33_6 : fieldOf Tryz.prog 33 6 = some (9, 1, 32) := by kernel_rfl
theorem fo33_7 : fieldOf Tryz.prog 33 7 = some (10, 1, 3) := by kernel_rfl
theorem pl33 : places Tryz.prog 33 = some (#[(0, 1), (1, 1), (2, 2), (4, 2), (6, 1), (7, 2), (9, 1), (10, 1)][·]?) := by kernel_rfl
theorem sz34 : szOf Tryz.prog 34 = some 11 := by kernel_rfl
theorem by34 : M.bytesOf Tryz.prog 34 = some 104 := by kernel_rfl
theorem ze34 : zeroOf Tryz.prog 34 = some (.agg #[.int .i64 0, .int .i64 0, .int .i64 0, .int .i64 0, .int .i64 0, .int .i64 0, .int .i64 0, .int .i64 0, .int .i64 0, .slice none 0 0, .int .i64 0]) := by kernel_rfl
theorem ag34 : aggT Tryz.prog 34 = some true := by kernel_rfl
theorem fo34_0 : fieldOf Tryz.prog 34 0 = some (0, 1, 3) := by kernel_rfl
theorem fo34_1 : fieldOf Tryz.prog 34 1 = some (1, 1, 3) := by kernel_rfl
theorem fo34_2 : fieldOf Tryz.prog 34 2 = some (2, 2, 29) := by kernel_rfl
theorem fo34_3 : fieldOf Tryz.prog 34 3 = some (4, 2, 31) := by kernel_rfl
theorem fo34_4 : fieldOf Tryz.prog 34 4 = some (6, 1, 3) := by kernel_rfl
theorem fo34_5 : fieldOf Tryz.prog 34 5 = some (7, 2, 31) := by kernel_rfl
theorem fo34_6 : fieldOf Tryz.prog 34 6 = some (9, 1, 32) := by kernel_rfl
theorem fo34_7 : fieldOf Tryz.prog 34 7 = some (10, 1, 3) := by kernel_rfl
theorem pl34 : places Tryz.prog 34 = some (#[(0, 1), (1, 1), (2, 2), (4, 2), (6, 1), (7, 2), (9, 1), (10, 1)][·]?) := by kernel_rfl
theorem sz35 : szOf Tryz.prog 35 = some 13 := by kernel_rfl
theorem by35 : M.bytesOf Tryz.prog 35 = some 152 := by kernel_rfl
theorem ze35 : zeroOf Tryz.prog 35 = some (.agg #[.slice none 0 0, .slice none 0 0, .int .i64 0, .int .i64 0, .int .i64 0, .int .i64 0, .int .i64 0, .int .i64 0, .int .i64 0, .int .i64 0, .int .i64 0, .slice none 0 0, .int .i64 0]) := by kernel_rfl
theorem ag35 : aggT Tryz.prog 35 = some true := by kernel_rfl
theorem fo35_0 : fieldOf Tryz.prog 35 0 = some (0, 1, 26) := by kernel_rfl
theorem fo35_1 : fieldOf Tryz.prog 35 1 = some (1, 1, 27) := by kernel_rfl
theorem fo35_2 : fieldOf Tryz.prog 35 2 = some (2, 11, 34) := by kernel_rfl
theorem pl35 : places Tryz.prog 35 = some (#[(0, 1), (1, 1), (2, 11)][·]?) := by kernel_rfl
theorem sz36 : szOf Tryz.prog 36 = some 13 := by kernel_rfl
theorem by36 : M.bytesOf Tryz.prog 36 = some 152 := by kernel_rfl
theorem ze36 : zeroOf Tryz.prog 36 = some (.agg #[.slice none 0 0, .slice none 0 0, .int .i64 0, .int .i64 0, .int .i64 0, .int .i64 0, .int .i64 0, .int .i64 0, .int .i64 0, .int .i64 0, .int .i64 0, .slice none 0 0, .int .i64 0]) := by kernel_rfl
theorem ag36 : aggT Tryz.prog 36 = some true := by kernel_rfl
theorem fo36_0 : fieldOf Tryz.prog 36 0 = some (0, 1, 26) := by kernel_rfl
theorem fo36_1 : fieldOf Tryz.prog 36 1 = some (1, 1, 27) := by kernel_rfl
theorem fo36_2 : fieldOf Tryz.prog 36 2 = some (2, 11, 34) := by kernel_rfl
theorem pl36 : places Tryz.prog 36 = some (#[(0, 1), (1, 1), (2, 11)][·]?) := by kernel_rfl
theorem sz38 : szOf Tryz.prog 38 = some 1 := by kernel_rfl
theorem by38 : M.bytesOf Tryz.prog 38 = some 8 := by kernel_rfl
theorem ze38 : zeroOf Tryz.prog 38 = some (.pointer none) := by kernel_rfl
theorem ag38 : aggT Tryz.prog 38 = some false := by kernel_rfl
theorem sz39 : szOf Tryz.prog 39 = some 1 := by kernel_rfl
theorem by39 : M.bytesOf Tryz.prog 39 = some 8 := by kernel_rfl
theorem ze39 : zeroOf Tryz.prog 39 = some (.pointer none) := by kernel_rfl
theorem ag39 : aggT Tryz.prog 39 = some false := by kernel_rfl
theorem sz42 : szOf Tryz.prog 42 = some 1 := by kernel_rfl
theorem by42 : M.bytesOf Tryz.prog 42 = some 8 := by kernel_rfl
theorem ze42 : zeroOf Tryz.prog 42 = some (.pointer none) := by kernel_rfl
theorem ag42 : aggT Tryz.prog 42 = some false := by kernel_rfl
theorem sz43 : szOf Tryz.prog 43 = some 1 := by kernel_rfl
theorem by43 : M.bytesOf Tryz.prog 43 = some 8 := by kernel_rfl
theorem ze43 : zeroOf Tryz.prog 43 = some (.pointer none) := by kernel_rfl
theorem ag43 : aggT Tryz.prog 43 = some false := by kernel_rfl
theorem sz44 : szOf Tryz.prog 44 = some 1 := by kernel_rfl
theorem by44 : M.bytesOf Tryz.prog 44 = some 8 := by kernel_rfl
theorem ze44 : zeroOf Tryz.prog 44 = some (.pointer none) := by kernel_rfl
theorem ag44 : aggT Tryz.prog 44 = some false := by kernel_rfl
theorem sz47 : szOf Tryz.prog 47 = some 1 := by kernel_rfl
theorem by47 : M.bytesOf Tryz.prog 47 = some 8 := by kernel_rfl
theorem ze47 : zeroOf Tryz.prog 47 = some (.int .i64 0) := by kernel_rfl
theorem ag47 : aggT Tryz.prog 47 = some false := by kernel_rfl
theorem sz49 : szOf Tryz.prog 49 = some 4 := by kernel_rfl
theorem by49 : M.bytesOf Tryz.prog 49 = some 32 := by kernel_rfl
theorem ze49 : zeroOf Tryz.prog 49 = some (.agg #[.int .i64 0, .int .i64 0, .int .i64 0, .bool false]) := by kernel_rfl
theorem ag49 : aggT Tryz.prog 49 = some true := by kernel_rfl
theorem fo49_0 : fieldOf Tryz.prog 49 0 = some (0, 1, 3) := by kernel_rfl
theorem fo49_1 : fieldOf Tryz.prog 49 1 = some (1, 2, 31) := by kernel_rfl
theorem fo49_2 : fieldOf Tryz.prog 49 2 = some (3, 1, 4) := by kernel_rfl
theorem pl49 : places Tryz.prog 49 = some (#[(0, 1), (1, 2), (3, 1)][·]?) := by kernel_rfl
theorem sz50 : szOf Tryz.prog 50 = some 4 := by kernel_rfl
theorem by50 : M.bytesOf Tryz.prog 50 = some 32 := by kernel_rfl
theorem ze50 : zeroOf Tryz.prog 50 = some (.agg #[.int .i64 0, .int .i64 0, .int .i64 0, .bool false]) := by kernel_rfl
theorem ag50 : aggT Tryz.prog 50 = some true := by kernel_rfl
theorem fo50_0 : fieldOf Tryz.prog 50 0 = some (0, 1, 3) := by kernel_rfl
theorem fo50_1 : fieldOf Tryz.prog 50 1 = some (1, 2, 31) := by kernel_rfl
theorem fo50_2 : fieldOf Tryz.prog 50 2 = some (3, 1, 4) := by kernel_rfl
theorem pl50 : places Tryz.prog 50 = some (#[(0, 1), (1, 2), (3, 1)][·]?) := by kernel_rfl
theorem sz52 : szOf Tryz.prog 52 = some 3 := by kernel_rfl
theorem by52 : M.bytesOf Tryz.prog 52 = some 24 := by kernel_rfl
theorem ze52 : zeroOf Tryz.prog 52 = some (.agg #[.int .i64 0, .int .i64 0, .int .i64 0]) := by kernel_rfl
theorem ag52 : aggT Tryz.prog 52 = some true := by kernel_rfl
theorem fo52_0 : fieldOf Tryz.prog 52 0 = some (0, 1, 3) := by kernel_rfl
theorem fo52_1 : fieldOf Tryz.prog 52 1 = some (1, 2, 31) := by kernel_rfl
theorem pl52 : places Tryz.prog 52 = some (#[(0, 1), (1, 2)][·]?) := by kernel_rfl
theorem sz53 : szOf Tryz.prog 53 = some 3 := by kernel_rfl
theorem by53 : M.bytesOf Tryz.prog 53 = some 24 := by kernel_rfl
theorem ze53 : zeroOf Tryz.prog 53 = some (.agg #[.int .i64 0, .int .i64 0, .int .i64 0]) := by kernel_rfl
theorem ag53 : aggT Tryz.prog 53 = some true := by kernel_rfl
theorem fo53_0 : fieldOf Tryz.prog 53 0 = some (0, 1, 3) := by kernel_rfl
theorem fo53_1 : fieldOf Tryz.prog 53 1 = some (1, 2, 31) := by kernel_rfl
theorem pl53 : places Tryz.prog 53 = some (#[(0, 1), (1, 2)][·]?) := by kernel_rfl
theorem sz57 : szOf Tryz.prog 57 = some 1 := by kernel_rfl
theorem by57 : M.bytesOf Tryz.prog 57 = some 24 := by kernel_rfl
theorem ze57 : zeroOf Tryz.prog 57 = some (.slice none 0 0) := by kernel_rfl
theorem ag57 : aggT Tryz.prog 57 = some false := by kernel_rfl
theorem sz58 : szOf Tryz.prog 58 = some 3 := by kernel_rfl
theorem by58 : M.bytesOf Tryz.prog 58 = some 40 := by kernel_rfl
theorem ze58 : zeroOf Tryz.prog 58 = some (.agg #[.int .i64 0, .int .i64 0, .slice none 0 0]) := by kernel_rfl
theorem ag58 : aggT Tryz.prog 58 = some true := by kernel_rfl
theorem fo58_0 : fieldOf Tryz.prog 58 0 = some (0, 1, 3) := by kernel_rfl
theorem fo58_1 : fieldOf Tryz.prog 58 1 = some (1, 1, 3) := by kernel_rfl
theorem fo58_2 : fieldOf Tryz.prog 58 2 = some (2, 1, 57) := by kernel_rfl
theorem pl58 : places Tryz.prog 58 = some (#[(0, 1), (1, 1), (2, 1)][·]?) := by kernel_rfl
theorem sz59 : szOf Tryz.prog 59 = some 3 := by kernel_rfl
theorem by59 : M.bytesOf Tryz.prog 59 = some 40 := by kernel_rfl
theorem ze59 : zeroOf Tryz.prog 59 = some (.agg #[.int .i64 0, .int .i64 0, .slice none 0 0]) := by kernel_rfl
theorem ag59 : aggT Tryz.prog 59 = some true := by kernel_rfl
theorem fo59_0 : fieldOf Tryz.prog 59 0 = some (0, 1, 3) := by kernel_rfl
theorem fo59_1 : fieldOf Tryz.prog 59 1 = some (1, 1, 3) := by kernel_rfl
theorem fo59_2 : fieldOf Tryz.prog 59 2 = some (2, 1, 57) := by kernel_rfl
theorem pl59 : places Tryz.prog 59 = some (#[(0, 1), (1, 1), (2, 1)][·]?) := by kernel_rfl
theorem sz61 : szOf Tryz.prog 61 = some 1 := by kernel_rfl
theorem by61 : M.bytesOf Tryz.prog 61 = some 8 := by kernel_rfl
theorem ze61 : zeroOf Tryz.prog 61 = some (.nilFunc) := by kernel_rfl
theorem ag61 : aggT Tryz.prog 61 = some false := by kernel_rfl
theorem sz62 : szOf Tryz.prog 62 = some 1 := by kernel_rfl
theorem by62 : M.bytesOf Tryz.prog 62 = some 8 := by kernel_rfl
theorem ze62 : zeroOf Tryz.prog 62 = some (.nilFunc) := by kernel_rfl
theorem ag62 : aggT Tryz.prog 62 = some false := by kernel_rfl
theorem sz64 : szOf Tryz.prog 64 = some 1 := by kernel_rfl
theorem by64 : M.bytesOf Tryz.prog 64 = some 8 := by kernel_rfl
theorem ze64 : zeroOf Tryz.prog 64 = some (.pointer none) := by kernel_rfl
theorem ag64 : aggT Tryz.prog 64 = some false := by kernel_rfl
theorem sz65 : szOf Tryz.prog 65 = some 1 := by kernel_rfl
theorem by65 : M.bytesOf Tryz.prog 65 = some 24 := by kernel_rfl
theorem ze65 : zeroOf Tryz.prog 65 = some (.slice none 0 0) := by kernel_rfl
theorem ag65 : aggT Tryz.prog 65 = some false := by kernel_rfl
theorem sz66 : szOf Tryz.prog 66 = some 2 := by kernel_rfl
theorem by66 : M.bytesOf Tryz.prog 66 = some 32 := by kernel_rfl
theorem ze66 : zeroOf Tryz.prog 66 = some (.agg #[.pointer none, .slice none 0 0]) := by kernel_rfl
theorem ag66 : aggT Tryz.prog 66 = some true := by kernel_rfl
theorem fo66_0 : fieldOf Tryz.prog 66 0 = some (0, 1, 64) := by kernel_rfl
theorem fo66_1 : fieldOf Tryz.prog 66 1 = some (1, 1, 65) := by kernel_rfl
theorem pl66 : places Tryz.prog 66 = some (#[(0, 1), (1, 1)][·]?) := by kernel_rfl
theorem sz67 : szOf Tryz.prog 67 = some 2 := by kernel_rfl
theorem by67 : M.bytesOf Tryz.prog 67 = some 32 := by kernel_rfl
theorem ze67 : zeroOf Tryz.prog 67 = some (.agg #[.pointer none, .slice none 0 0]) := by kernel_rfl
theorem ag67 : aggT Tryz.prog 67 = some true := by kernel_rfl
theorem fo67_0 : fieldOf Tryz.prog 67 0 = some (0, 1, 64) := by kernel_rfl
theorem fo67_1 : fieldOf Tryz.prog 67 1 = some (1, 1, 65) := by kernel_rfl
theorem pl67 : places Tryz.prog 67 = some (#[(0, 1), (1, 1)][·]?) := by kernel_rfl
theorem sz68 : szOf Tryz.prog 68 = some 3 := by kernel_rfl
theorem by68 : M.bytesOf Tryz.prog 68 = some 24 := by kernel_rfl
theorem ze68 : zeroOf Tryz.prog 68 = some (.agg #[.int .i64 0, .int .i64 0, .int .i64 0]) := by kernel_rfl
theorem ag68 : aggT Tryz.prog 68 = some true := by kernel_rfl
theorem fo68_0 : fieldOf Tryz.prog 68 0 = some (0, 1, 3) := by kernel_rfl
theorem fo68_1 : fieldOf Tryz.prog 68 1 = some (1, 2, 31) := by kernel_rfl
theorem pl68 : places Tryz.prog 68 = some (#[(0, 1), (1, 2)][·]?) := by kernel_rfl
theorem sz69 : szOf Tryz.prog 69 = some 3 := by kernel_rfl
theorem by69 : M.bytesOf Tryz.prog 69 = some 24 := by kernel_rfl
theorem ze69 : zeroOf Tryz.prog 69 = some (.agg #[.int .i64 0, .int .i64 0, .int .i64 0]) := by kernel_rfl
theorem ag69 : aggT Tryz.prog 69 = some true := by kernel_rfl
theorem fo69_0 : fieldOf Tryz.prog 69 0 = some (0, 1, 3) := by kernel_rfl
theorem fo69_1 : fieldOf Tryz.prog 69 1 = some (1, 2, 31) := by kernel_rfl
theorem pl69 : places Tryz.prog 69 = some (#[(0, 1), (1, 2)][·]?) := by kernel_rfl
theorem sz74 : szOf Tryz.prog 74 = some 4 := by kernel_rfl
theorem by74 : M.bytesOf Tryz.prog 74 = some 32 := by kernel_rfl
theorem ze74 : zeroOf Tryz.prog 74 = some (.agg #[.int .i64 0, .int .i64 0, .int .i64 0, .int .i64 0]) := by kernel_rfl
theorem ag74 : aggT Tryz.prog 74 = some true := by kernel_rfl
theorem fo74_0 : fieldOf Tryz.prog 74 0 = some (0, 2, 31) := by kernel_rfl
theorem fo74_1 : fieldOf Tryz.prog 74 1 = some (2, 1, 3) := by kernel_rfl
theorem fo74_2 : fieldOf Tryz.prog 74 2 = some (3, 1, 3) := by kernel_rfl
theorem pl74 : places Tryz.prog 74 = some (#[(0, 2), (2, 1), (3, 1)][·]?) := by kernel_rfl
theorem sz75 : szOf Tryz.prog 75 = some 4 := by kernel_rfl
theorem by75 : M.bytesOf Tryz.prog 75 = some 32 := by kernel_rfl
theorem ze75 : zeroOf Tryz.prog 75 = some (.agg #[.int .i64 0, .int .i64 0, .int .i64 0, .int .i64 0]) := by kernel_rfl
theorem ag75 : aggT Tryz.prog 75 = some true := by kernel_rfl
theorem fo75_0 : fieldOf Tryz.prog 75 0 = some (0, 2, 31) := by kernel_rfl
theorem fo75_1 : fieldOf Tryz.prog 75 1 = some (2, 1, 3) := by kernel_rfl
theorem fo75_2 : fieldOf Tryz.prog 75 2 = some (3, 1, 3) := by kernel_rfl
theorem pl75 : places Tryz.prog 75 = some (#[(0, 2), (2, 1), (3, 1)][·]?) := by kernel_rfl
theorem sz76 : szOf Tryz.prog 76 = some 5 := by kernel_rfl
theorem by76 : M.bytesOf Tryz.prog 76 = some 40 := by kernel_rfl
theorem ze76 : zeroOf Tryz.prog 76 = some (.agg #[.int .i64 0, .int .i64 0, .int .i64 0, .int .i64 0, .int .i64 0]) := by kernel_rfl
theorem ag76 : aggT Tryz.prog 76 = some true := by kernel_rfl
theorem fo76_0 : fieldOf Tryz.prog 76 0 = some (0, 1, 3) := by kernel_rfl
theorem fo76_1 : fieldOf Tryz.prog 76 1 = some (1, 4, 75) := by kernel_rfl
theorem pl76 : places Tryz.prog 76 = some (#[(0, 1), (1, 4)][·]?) := by kernel_rfl
theorem sz77 : szOf Tryz.prog 77 = some 5 := by kernel_rfl
theorem by77 : M.bytesOf Tryz.prog 77 = some 40 := by kernel_rfl
theorem ze77 : zeroOf Tryz.prog 77 = some (.agg #[.int .i64 0, .int .i64 0, .int .i64 0, .int .i64 0, .int .i64 0]) := by kernel_rfl
theorem ag77 : aggT Tryz.prog 77 = some true := by kernel_rfl
theorem fo77_0 : fieldOf Tryz.prog 77 0 = some (0, 1, 3) := by kernel_rfl
theorem fo77_1 : fieldOf Tryz.prog 77 1 = some (1, 4, 75) := by kernel_rfl
theorem pl77 : places Tryz.prog 77 = some (#[(0, 1), (1, 4)][·]?) := by kernel_rfl
theorem sz82 : szOf Tryz.prog 82 = some 1 := by kernel_rfl
theorem by82 : M.bytesOf Tryz.prog 82 = some 24 := by kernel_rfl
theorem ze82 : zeroOf Tryz.prog 82 = some (.slice none 0 0) := by kernel_rfl
theorem ag82 : aggT Tryz.prog 82 = some false := by kernel_rfl
theorem sz83 : szOf Tryz.prog 83 = some 1 := by kernel_rfl
theorem by83 : M.bytesOf Tryz.prog 83 = some 24 := by kernel_rfl
theorem ze83 : zeroOf Tryz.prog 83 = some (.agg #[.slice none 0 0]) := by kernel_rfl
theorem ag83 : aggT Tryz.prog 83 = some true := by kernel_rfl
theorem fo83_0 : fieldOf Tryz.prog 83 0 = some (0, 1, 82) := by kernel_rfl
theorem pl83 : places Tryz.prog 83 = some (#[(0, 1)][·]?) := by kernel_rfl
theorem sz84 : szOf Tryz.prog 84 = some 1 := by kernel_rfl
theorem by84 : M.bytesOf Tryz.prog 84 = some 24 := by kernel_rfl
theorem ze84 : zeroOf Tryz.prog 84 = some (.agg #[.slice none 0 0]) := by kernel_rfl
theorem ag84 : aggT Tryz.prog 84 = some true := by kernel_rfl
theorem fo84_0 : fieldOf Tryz.prog 84 0 = some (0, 1, 82) := by kernel_rfl
theorem pl84 : places Tryz.prog 84 = some (#[(0, 1)][·]?) := by kernel_rfl
theorem sz89 : szOf Tryz.prog 89 = some 1 := by kernel_rfl
theorem by89 : M.bytesOf Tryz.prog 89 = some 8 := by kernel_rfl
theorem ze89 : zeroOf Tryz.prog 89 = some (.map none) := by kernel_rfl
theorem ag89 : aggT Tryz.prog 89 = some false := by kernel_rfl
theorem sz90 : szOf Tryz.prog 90 = some 1 := by kernel_rfl
theorem by90 : M.bytesOf Tryz.prog 90 = some 8 := by kernel_rfl
theorem ze90 : zeroOf Tryz.prog 90 = some (.map none) := by kernel_rfl
theorem ag90 : aggT Tryz.prog 90 = some false := by kernel_rfl
theorem sz91 : szOf Tryz.prog 91 = some 3 := by kernel_rfl
theorem by91 : M.bytesOf Tryz.prog 91 = some 24 := by kernel_rfl
theorem ze91 : zeroOf Tryz.prog 91 = some (.agg #[.pointer none, .map none, .map none]) := by kernel_rfl
theorem ag91 : aggT Tryz.prog 91 = some true := by kernel_rfl
theorem fo91_0 : fieldOf Tryz.prog 91 0 = some (0, 1, 42) := by kernel_rfl
theorem fo91_1 : fieldOf Tryz.prog 91 1 = some (1, 1, 89) := by kernel_rfl
theorem fo91_2 : fieldOf Tryz.prog 91 2 = some (2, 1, 90) := by kernel_rfl
theorem pl91 : places Tryz.prog 91 = some (#[(0, 1), (1, 1), (2, 1)][·]?) := by kernel_rfl
theorem sz92 : szOf Tryz.prog 92 = some 3 := by kernel_rfl
theorem by92 : M.bytesOf Tryz.prog 92 = some 24 := by kernel_rfl
theorem ze92 : zeroOf Tryz.prog 92 = some (.agg #[.pointer none, .map none, .map none]) := by kernel_rfl
theorem ag92 : aggT Tryz.prog 92 = some true := by kernel_rfl
theorem fo92_0 : fieldOf Tryz.prog 92 0 = some (0, 1, 42) := by kernel_rfl
theorem fo92_1 : fieldOf Tryz.prog 92 1 = some (1, 1, 89) := by kernel_rfl
theorem fo92_2 : fieldOf Tryz.prog 92 2 = some (2, 1, 90) := by kernel_rfl
theorem pl92 : places Tryz.prog 92 = some (#[(0, 1), (1, 1), (2, 1)][·]?) := by kernel_rfl
theorem sz94 : szOf Tryz.prog 94 = some 1 := by kernel_rfl
theorem by94 : M.bytesOf Tryz.prog 94 = some 8 := by kernel_rfl
theorem ze94 : zeroOf Tryz.prog 94 = some (.nilFunc) := by kernel_rfl
theorem ag94 : aggT Tryz.prog 94 = some false := by kernel_rfl
theorem sz95 : szOf Tryz.prog 95 = some 1 := by kernel_rfl
theorem by95 : M.bytesOf Tryz.prog 95 = some 8 := by kernel_rfl
theorem ze95 : zeroOf Tryz.prog 95 = some (.nilFunc) := by kernel_rfl
theorem ag95 : aggT Tryz.prog 95 = some false := by kernel_rfl
theorem sz103 : szOf Tryz.prog 103 = some 1 := by kernel_rfl
theorem by103 : M.bytesOf Tryz.prog 103 = some 8 := by kernel_rfl
theorem ze103 : zeroOf Tryz.prog 103 = some (.nilFunc) := by kernel_rfl
theorem ag103 : aggT Tryz.prog 103 = some false := by kernel_rfl
theorem sz104 : szOf Tryz.prog 104 = some 1 := by kernel_rfl
theorem by104 : M.bytesOf Tryz.prog 104 = some 24 := by kernel_rfl
theorem ze104 : zeroOf Tryz.prog 104 = some (.slice none 0 0) := by kernel_rfl
theorem ag104 : aggT Tryz.prog 104 = some false := by kernel_rfl
theorem sz106 : szOf Tryz.prog 106 = some 1 := by kernel_rfl
theorem by106 : M.bytesOf Tryz.prog 106 = some 8 := by kernel_rfl
theorem ze106 : zeroOf Tryz.prog 106 = some (.nilFunc) := by kernel_rfl
theorem ag106 : aggT Tryz.prog 106 = some false := by kernel_rfl
theorem sz107 : szOf Tryz.prog 107 = some 1 := by kernel_rfl
theorem by107 : M.bytesOf Tryz.prog 107 = some 8 := by kernel_rfl
theorem ze107 : zeroOf Tryz.prog 107 = some (.nilFunc) := by kernel_rfl
theorem ag107 : aggT Tryz.prog 107 = some false := by kernel_rfl
theorem sz110 : szOf Tryz.prog 110 = some 1 := by kernel_rfl
theorem by110 : M.bytesOf Tryz.prog 110 = some 8 := by kernel_rfl
theorem ze110 : zeroOf Tryz.prog 110 = some (.map none) := by kernel_rfl
theorem ag110 : aggT Tryz.prog 110 = some false := by kernel_rfl
theorem sz111 : szOf Tryz.prog 111 = some 1 := by kernel_rfl
theorem by111 : M.bytesOf Tryz.prog 111 = some 24 := by kernel_rfl
theorem ze111 : zeroOf Tryz.prog 111 = some (.slice none 0 0) := by kernel_rfl
theorem ag111 : aggT Tryz.prog 111 = some false := by kernel_rfl
theorem sz112 : szOf Tryz.prog 112 = some 6 := by kernel_rfl
theorem by112 : M.bytesOf Tryz.prog 112 = some 80 := by kernel_rfl
theorem ze112 : zeroOf Tryz.prog 112 = some (.agg #[.int .i64 0, .int .i64 0, .slice none 0 0, .map none, .map none, .slice none 0 0]) := by kernel_rfl
theorem ag112 : aggT Tryz.prog 112 = some true := by kernel_rfl
theorem fo112_0 : fieldOf Tryz.prog 112 0 = some (0, 1, 3) := by kernel_rfl
theorem fo112_1 : fieldOf Tryz.prog 112 1 = some (1, 1, 3) := by kernel_rfl
theorem fo112_2 : fieldOf Tryz.prog 112 2 = some (2, 1, 22) := by kernel_rfl
theorem fo112_3 : fieldOf Tryz.prog 112 3 = some (3, 1, 110) := by kernel_rfl
theorem fo112_4 : fieldOf Tryz.prog 112 4 = some (4, 1, 90) := by kernel_rfl
theorem fo112_5 : fieldOf Tryz.prog 112 5 = some (5, 1, 111) := by kernel_rfl
theorem pl112 : places Tryz.prog 112 = some (#[(0, 1), (1, 1), (2, 1), (3, 1), (4, 1), (5, 1)][·]?) := by kernel_rfl
theorem sz113 : szOf Tryz.prog 113 = some 6 := by kernel_rfl
theorem by113 : M.bytesOf Tryz.prog 113 = some 80 := by kernel_rfl
theorem ze113 : zeroOf Tryz.prog 113 = some (.agg #[.int .i64 0, .int .i64 0, .slice none 0 0, .map none, .map none, .slice none 0 0]) := by kernel_rfl
theorem ag113 : aggT Tryz.prog 113 = some true := by kernel_rfl
theorem fo113_0 : fieldOf Tryz.prog 113 0 = some (0, 1, 3) := by kernel_rfl
theorem fo113_1 : fieldOf Tryz.prog 113 1 = some (1, 1, 3) := by kernel_rfl
theorem fo113_2 : fieldOf Tryz.prog 113 2 = some (2, 1, 22) := by kernel_rfl
theorem fo113_3 : fieldOf Tryz.prog 113 3 = some (3, 1, 110) := by kernel_rfl
theorem fo113_4 : fieldOf Tryz.prog 113 4 = some (4, 1, 90) := by kernel_rfl
theorem fo113_5 : fieldOf Tryz.prog 113 5 = some (5, 1, 111) := by kernel_rfl
theorem pl113 : places Tryz.prog 113 = some (#[(0, 1), (1, 1), (2, 1), (3, 1), (4, 1), (5, 1)][·]?) := by kernel_rfl
theorem sz114 : szOf Tryz.prog 114 = some 5 := by kernel_rfl
theorem by114 : M.bytesOf Tryz.prog 114 = some 40 := by kernel_rfl
theorem ze114 : zeroOf Tryz.prog 114 = some (.agg #[.int .i64 0, .int .i64 0, .int .i64 0, .int .i64 0, .int .i64 0]) := by kernel_rfl
theorem ag114 : aggT Tryz.prog 114 = some true := by kernel_rfl
theorem fo114_0 : fieldOf Tryz.prog 114 0 = some (0, 1, 3) := by kernel_rfl
theorem fo114_1 : fieldOf Tryz.prog 114 1 = some (1, 4, 75) := by kernel_rfl
theorem pl114 : places Tryz.prog 114 = some (#[(0, 1), (1, 4)][·]?) := by kernel_rfl
theorem sz115 : szOf Tryz.prog 115 = some 5 := by kernel_rfl
theorem by115 : M.bytesOf Tryz.prog 115 = some 40 := by kernel_rfl
theorem ze115 : zeroOf Tryz.prog 115 = some (.agg #[.int .i64 0, .int .i64 0, .int .i64 0, .int .i64 0, .int .i64 0]) := by kernel_rfl
theorem ag115 : aggT Tryz.prog 115 = some true := by kernel_rfl
theorem fo115_0 : fieldOf Tryz.prog 115 0 = some (0, 1, 3) := by kernel_rfl
theorem fo115_1 : fieldOf Tryz.prog 115 1 = some (1, 4, 75) := by kernel_rfl
theorem pl115 : places Tryz.prog 115 = some (#[(0, 1), (1, 4)][·]?) := by kernel_rfl
theorem sz124 : szOf Tryz.prog 124 = some 5 := by kernel_rfl
theorem by124 : M.bytesOf Tryz.prog 124 = some 88 := by kernel_rfl
theorem ze124 : zeroOf Tryz.prog 124 = some (.agg #[.int .i64 0, .int .i64 0, .slice none 0 0, .slice none 0 0, .slice none 0 0]) := by kernel_rfl
theorem ag124 : aggT Tryz.prog 124 = some true := by kernel_rfl
theorem fo124_0 : fieldOf Tryz.prog 124 0 = some (0, 1, 3) := by kernel_rfl
theorem fo124_1 : fieldOf Tryz.prog 124 1 = some (1, 1, 3) := by kernel_rfl
theorem fo124_2 : fieldOf Tryz.prog 124 2 = some (2, 1, 22) := by kernel_rfl
theorem fo124_3 : fieldOf Tryz.prog 124 3 = some (3, 1, 23) := by kernel_rfl
theorem fo124_4 : fieldOf Tryz.prog 124 4 = some (4, 1, 111) := by kernel_rfl
theorem pl124 : places Tryz.prog 124 = some (#[(0, 1), (1, 1), (2, 1), (3, 1), (4, 1)][·]?) := by kernel_rfl
theorem sz125 : szOf Tryz.prog 125 = some 5 := by kernel_rfl
theorem by125 : M.bytesOf Tryz.prog 125 = some 88 := by kernel_rfl
theorem ze125 : zeroOf Tryz.prog 125 = some (.agg #[.int .i64 0, .int .i64 0, .slice none 0 0, .slice none 0 0, .slice none 0 0]) := by kernel_rfl
theorem ag125 : aggT Tryz.prog 125 = some true := by kernel_rfl
theorem fo125_0 : fieldOf Tryz.prog 125 0 = some (0, 1, 3) := by kernel_rfl
theorem fo125_1 : fieldOf Tryz.prog 125 1 = some (1, 1, 3) := by kernel_rfl
theorem fo125_2 : fieldOf Tryz.prog 125 2 = some (2, 1, 22) := by kernel_rfl
theorem fo125_3 : fieldOf Tryz.prog 125 3 = some (3, 1, 23) := by kernel_rfl
theorem fo125_4 : fieldOf Tryz.prog 125 4 = some (4, 1, 111) := by kernel_rfl
theorem pl125 : places Tryz.prog 125 = some (#[(0, 1), (1, 1), (2, 1), (3, 1), (4, 1)][·]?) := by kernel_rfl
theorem sz126 : szOf Tryz.prog 126 = some 2 := by kernel_rfl
theorem by126 : M.bytesOf Tryz.prog 126 = some 16 := by kernel_rfl
theorem ze126 : zeroOf Tryz.prog 126 = some (.agg #[.map none, .map none]) := by kernel_rfl
theorem ag126 : aggT Tryz.prog 126 = some true := by kernel_rfl
theorem fo126_0 : fieldOf Tryz.prog 126 0 = some (0, 1, 110) := by kernel_rfl
theorem fo126_1 : fieldOf Tryz.prog 126 1 = some (1, 1, 90) := by kernel_rfl
theorem pl126 : places Tryz.prog 126 = some (#[(0, 1), (1, 1)][·]?) := by kernel_rfl
theorem sz127 : szOf Tryz.prog 127 = some 2 := by kernel_rfl
theorem by127 : M.bytesOf Tryz.prog 127 = some 16 := by kernel_rfl
theorem ze127 : zeroOf Tryz.prog 127 = some (.agg #[.map none, .map none]) := by kernel_rfl
theorem ag127 : aggT Tryz.prog 127 = some true := by kernel_rfl
theorem fo127_0 : fieldOf Tryz.prog 127 0 = some (0, 1, 110) := by kernel_rfl
theorem fo127_1 : fieldOf Tryz.prog 127 1 = some (1, 1, 90) := by kernel_rfl
theorem pl127 : places Tryz.prog 127 = some (#[(0, 1), (1, 1)][·]?) := by kernel_rfl
theorem sz130 : szOf Tryz.prog 130 = some 1 := by kernel_rfl
theorem by130 : M.bytesOf Tryz.prog 130 = some 8 := by kernel_rfl
theorem ze130 : zeroOf Tryz.prog 130 = some (.nilFunc) := by kernel_rfl
theorem ag130 : aggT Tryz.prog 130 = some false := by kernel_rfl
theorem sz134 : szOf Tryz.prog 134 = some 5 := by kernel_rfl
theorem by134 : M.bytesOf Tryz.prog 134 = some 40 := by kernel_rfl
theorem ze134 : zeroOf Tryz.prog 134 = some (.agg #[.int .i64 0, .int .i64 0, .int .i64 0, .int .i64 0, .int .i64 0]) := by kernel_rfl
theorem ag134 : aggT Tryz.prog 134 = some true := by kernel_rfl
theorem fo134_0 : fieldOf Tryz.prog 134 0 = some (0, 1, 3) := by kernel_rfl
theorem fo134_1 : fieldOf Tryz.prog 134 1 = some (1, 4, 75) := by kernel_rfl
theorem pl134 : places Tryz.prog 134 = some (#[(0, 1), (1, 4)][·]?) := by kernel_rfl
theorem sz137 : szOf Tryz.prog 137 = some 1 := by kernel_rfl
theorem by137 : M.bytesOf Tryz.prog 137 = some 8 := by kernel_rfl
theorem ze137 : zeroOf Tryz.prog 137 = some (.nilFunc) := by kernel_rfl
theorem ag137 : aggT Tryz.prog 137 = some false := by kernel_rfl
theorem sz141 : szOf Tryz.prog 141 = some 1 := by kernel_rfl
theorem by141 : M.bytesOf Tryz.prog 141 = some 8 := by kernel_rfl
theorem ze141 : zeroOf Tryz.prog 141 = some (.nilFunc) := by kernel_rfl
theorem ag141 : aggT Tryz.prog 141 = some false := by kernel_rfl
theorem sz151 : szOf Tryz.prog 151 = some 3 := by kernel_rfl
theorem by151 : M.bytesOf Tryz.prog 151 = some 24 := by kernel_rfl
theorem ze151 : zeroOf Tryz.prog 151 = some (.agg #[.nilFunc, .nilFunc, .nilFunc]) := by kernel_rfl
theorem ag151 : aggT Tryz.prog 151 = some true := by kernel_rfl
theorem pl151 : places Tryz.prog 151 = some (fun i => some (i * 1, 1)) := by kernel_rfl
theorem sz152 : szOf Tryz.prog 152 = some 3 := by kernel_rfl
theorem by152 : M.bytesOf Tryz.prog 152 = some 24 := by kernel_rfl
theorem ze152 : zeroOf Tryz.prog 152 = some (.agg #[.nilFunc, .nilFunc, .nilFunc]) := by kernel_rfl
theorem ag152 : aggT Tryz.prog 152 = some true := by kernel_rfl
theorem fo152_0 : fieldOf Tryz.prog 152 0 = some (0, 3, 151) := by kernel_rfl
theorem pl152 : places Tryz.prog 152 = some (#[(0, 3)][·]?) := by kernel_rfl
theorem sz153 : szOf Tryz.prog 153 = some 3 := by kernel_rfl
theorem by153 : M.bytesOf Tryz.prog 153 = some 24 := by kernel_rfl
theorem ze153 : zeroOf Tryz.prog 153 = some (.agg #[.nilFunc, .nilFunc, .nilFunc]) := by kernel_rfl
theorem ag153 : aggT Tryz.prog 153 = some true := by kernel_rfl
theorem fo153_0 : fieldOf Tryz.prog 153 0 = some (0, 3, 151) := by kernel_rfl
theorem pl153 : places Tryz.prog 153 = some (#[(0, 3)][·]?) := by kernel_rfl
theorem sz166 : szOf Tryz.prog 166 = some 1 := by kernel_rfl
theorem by166 : M.bytesOf Tryz.prog 166 = some 8 := by kernel_rfl
theorem ze166 : zeroOf Tryz.prog 166 = some (.int .u64 0) := by kernel_rfl
theorem ag166 : aggT Tryz.prog 166 = some false := by kernel_rfl
theorem sz174 : szOf Tryz.prog 174 = some 1 := by kernel_rfl
theorem by174 : M.bytesOf Tryz.prog 174 = some 8 := by kernel_rfl
theorem ze174 : zeroOf Tryz.prog 174 = some (.int .i64 0) := by kernel_rfl
theorem ag174 : aggT Tryz.prog 174 = some false := by kernel_rfl
theorem sz181 : szOf Tryz.prog 181 = some 1 := by kernel_rfl
theorem by181 : M.bytesOf Tryz.prog 181 = some 4 := by kernel_rfl
theorem ze181 : zeroOf Tryz.prog 181 = some (.int .u32 0) := by kernel_rfl
theorem ag181 : aggT Tryz.prog 181 = some false := by kernel_rfl
theorem sz183 : szOf Tryz.prog 183 = some 1 := by kernel_rfl
theorem by183 : M.bytesOf Tryz.prog 183 = some 8 := by kernel_rfl
theorem ze183 : zeroOf Tryz.prog 183 = some (.int .u64 0) := by kernel_rfl
theorem ag183 : aggT Tryz.prog 183 = some false := by kernel_rfl
theorem sz184 : szOf Tryz.prog 184 = some 4 := by kernel_rfl
theorem by184 : M.bytesOf Tryz.prog 184 = some 32 := by kernel_rfl
theorem ze184 : zeroOf Tryz.prog 184 = some (.agg #[.int .i64 0, .int .i64 0, .int .i64 0, .int .i64 0]) := by kernel_rfl
theorem ag184 : aggT Tryz.prog 184 = some true := by kernel_rfl
theorem pl184 : places Tryz.prog 184 = some (fun i => some (i * 1, 1)) := by kernel_rfl
theorem sz185 : szOf Tryz.prog 185 = some 1 := by kernel_rfl
theorem by185 : M.bytesOf Tryz.prog 185 = some 8 := by kernel_rfl
theorem ze185 : zeroOf Tryz.prog 185 = some (.int .u64 0) := by kernel_rfl
theorem ag185 : aggT Tryz.prog 185 = some false := by kernel_rfl
theorem sz189 : szOf Tryz.prog 189 = some 1 := by kernel_rfl
theorem by189 : M.bytesOf Tryz.prog 189 = some 8 := by kernel_rfl
theorem ze189 : zeroOf Tryz.prog 189 = some (.pointer none) := by kernel_rfl
theorem ag189 : aggT Tryz.prog 189 = some false := by kernel_rfl
theorem sz191 : szOf Tryz.prog 191 = some 1 := by kernel_rfl
theorem by191 : M.bytesOf Tryz.prog 191 = some 8 := by kernel_rfl
theorem ze191 : zeroOf Tryz.prog 191 = some (.pointer none) := by kernel_rfl
theorem ag191 : aggT Tryz.prog 191 = some false := by kernel_rfl
theorem cv3 (st : List Ob) (s : TypeId) (j : IntKind) (n : Int) (h : (Tryz.prog.underlying s).isSome = true) : aconvert Tryz.prog st s 3 (.sc (.int j n)) = some (.sc (.int .i64 (IntKind.wrap .i64 n))) := aconv_i Tryz.underlying3 h
theorem cv5 (st : List Ob) (s : TypeId) (j : IntKind) (n : Int) (h : (Tryz.prog.underlying s).isSome = true) : aconvert Tryz.prog st s 5 (.sc (.int j n)) = some (.sc (.int .u8 (IntKind.wrap .u8 n))) := aconv_i Tryz.underlying5 h
theorem cv9 (st : List Ob) (s : TypeId) (b : ByteArray) (h : (Tryz.prog.underlying s).isSome = true) : aconvert Tryz.prog st s 9 (.sc (.string b)) = some (.sc (.string b)) := aconv_s Tryz.underlying9 h
theorem cv47 (st : List Ob) (s : TypeId) (j : IntKind) (n : Int) (h : (Tryz.prog.underlying s).isSome = true) : aconvert Tryz.prog st s 47 (.sc (.int j n)) = some (.sc (.int .i64 (IntKind.wrap .i64 n))) := aconv_i Tryz.underlying47 h
theorem cv166 (st : List Ob) (s : TypeId) (j : IntKind) (n : Int) (h : (Tryz.prog.underlying s).isSome = true) : aconvert Tryz.prog st s 166 (.sc (.int j n)) = some (.sc (.int .u64 (IntKind.wrap .u64 n))) := aconv_i Tryz.underlying166 h
theorem cv174 (st : List Ob) (s : TypeId) (j : IntKind) (n : Int) (h : (Tryz.prog.underlying s).isSome = true) : aconvert Tryz.prog st s 174 (.sc (.int j n)) = some (.sc (.int .i64 (IntKind.wrap .i64 n))) := aconv_i Tryz.underlying174 h
theorem cv181 (st : List Ob) (s : TypeId) (j : IntKind) (n : Int) (h : (Tryz.prog.underlying s).isSome = true) : aconvert Tryz.prog st s 181 (.sc (.int j n)) = some (.sc (.int .u32 (IntKind.wrap .u32 n))) := aconv_i Tryz.underlying181 h
theorem cv183 (st : List Ob) (s : TypeId) (j : IntKind) (n : Int) (h : (Tryz.prog.underlying s).isSome = true) : aconvert Tryz.prog st s 183 (.sc (.int j n)) = some (.sc (.int .u64 (IntKind.wrap .u64 n))) := aconv_i Tryz.underlying183 h
theorem cv185 (st : List Ob) (s : TypeId) (j : IntKind) (n : Int) (h : (Tryz.prog.underlying s).isSome = true) : aconvert Tryz.prog st s 185 (.sc (.int j n)) = some (.sc (.int .u64 (IntKind.wrap .u64 n))) := aconv_i Tryz.underlying185 h
theorem pe38 (x y : Operand) : pureRun Tryz.prog (do eqGuard .eql 38 x y (.pointer none) (.pointer none); binOp .eql 38 (.pointer none) (.pointer none)) = some (.bool true) := pr_eqnil Tryz.underlying38 x y
theorem pn38 (x y : Operand) : pureRun Tryz.prog (do eqGuard .neq 38 x y (.pointer none) (.pointer none); binOp .neq 38 (.pointer none) (.pointer none)) = some (.bool false) := pr_nenil Tryz.underlying38 x y
theorem pe39 (x y : Operand) : pureRun Tryz.prog (do eqGuard .eql 39 x y (.pointer none) (.pointer none); binOp .eql 39 (.pointer none) (.pointer none)) = some (.bool true) := pr_eqnil Tryz.underlying39 x y
theorem pn39 (x y : Operand) : pureRun Tryz.prog (do eqGuard .neq 39 x y (.pointer none) (.pointer none); binOp .neq 39 (.pointer none) (.pointer none)) = some (.bool false) := pr_nenil Tryz.underlying39 x y
theorem pe42 (x y : Operand) : pureRun Tryz.prog (do eqGuard .eql 42 x y (.pointer none) (.pointer none); binOp .eql 42 (.pointer none) (.pointer none)) = some (.bool true) := pr_eqnil Tryz.underlying42 x y
theorem pn42 (x y : Operand) : pureRun Tryz.prog (do eqGuard .neq 42 x y (.pointer none) (.pointer none); binOp .neq 42 (.pointer none) (.pointer none)) = some (.bool false) := pr_nenil Tryz.underlying42 x y
theorem pe43 (x y : Operand) : pureRun Tryz.prog (do eqGuard .eql 43 x y (.pointer none) (.pointer none); binOp .eql 43 (.pointer none) (.pointer none)) = some (.bool true) := pr_eqnil Tryz.underlying43 x y
theorem pn43 (x y : Operand) : pureRun Tryz.prog (do eqGuard .neq 43 x y (.pointer none) (.pointer none); binOp .neq 43 (.pointer none) (.pointer none)) = some (.bool false) := pr_nenil Tryz.underlying43 x y
theorem pe44 (x y : Operand) : pureRun Tryz.prog (do eqGuard .eql 44 x y (.pointer none) (.pointer none); binOp .eql 44 (.pointer none) (.pointer none)) = some (.bool true) := pr_eqnil Tryz.underlying44 x y
theorem pn44 (x y : Operand) : pureRun Tryz.prog (do eqGuard .neq 44 x y (.pointer none) (.pointer none); binOp .neq 44 (.pointer none) (.pointer none)) = some (.bool false) := pr_nenil Tryz.underlying44 x y
theorem pe64 (x y : Operand) : pureRun Tryz.prog (do eqGuard .eql 64 x y (.pointer none) (.pointer none); binOp .eql 64 (.pointer none) (.pointer none)) = some (.bool true) := pr_eqnil Tryz.underlying64 x y
theorem pn64 (x y : Operand) : pureRun Tryz.prog (do eqGuard .neq 64 x y (.pointer none) (.pointer none); binOp .neq 64 (.pointer none) (.pointer none)) = some (.bool false) := pr_nenil Tryz.underlying64 x y
theorem pe189 (x y : Operand) : pureRun Tryz.prog (do eqGuard .eql 189 x y (.pointer none) (.pointer none); binOp .eql 189 (.pointer none) (.pointer none)) = some (.bool true) := pr_eqnil Tryz.underlying189 x y
theorem pn189 (x y : Operand) : pureRun Tryz.prog (do eqGuard .neq 189 x y (.pointer none) (.pointer none); binOp .neq 189 (.pointer none) (.pointer none)) = some (.bool false) := pr_nenil Tryz.underlying189 x y
theorem pe191 (x y : Operand) : pureRun Tryz.prog (do eqGuard .eql 191 x y (.pointer none) (.pointer none); binOp .eql 191 (.pointer none) (.pointer none)) = some (.bool true) := pr_eqnil Tryz.underlying191 x y
theorem pn191 (x y : Operand) : pureRun Tryz.prog (do eqGuard .neq 191 x y (.pointer none) (.pointer none); binOp .neq 191 (.pointer none) (.pointer none)) = some (.bool false) := pr_nenil Tryz.underlying191 x y
theorem pe89 (x y : Operand) : pureRun Tryz.prog (do eqGuard .eql 89 x y (.map none) (.map none); binOp .eql 89 (.map none) (.map none)) = some (.bool true) := pr_eqnilm Tryz.underlying89 x y
theorem pn89 (x y : Operand) : pureRun Tryz.prog (do eqGuard .neq 89 x y (.map none) (.map none); binOp .neq 89 (.map none) (.map none)) = some (.bool false) := pr_nenilm Tryz.underlying89 x y
theorem pe90 (x y : Operand) : pureRun Tryz.prog (do eqGuard .eql 90 x y (.map none) (.map none); binOp .eql 90 (.map none) (.map none)) = some (.bool true) := pr_eqnilm Tryz.underlying90 x y
theorem pn90 (x y : Operand) : pureRun Tryz.prog (do eqGuard .neq 90 x y (.map none) (.map none); binOp .neq 90 (.map none) (.map none)) = some (.bool false) := pr_nenilm Tryz.underlying90 x y
theorem pe110 (x y : Operand) : pureRun Tryz.prog (do eqGuard .eql 110 x y (.map none) (.map none); binOp .eql 110 (.map none) (.map none)) = some (.bool true) := pr_eqnilm Tryz.underlying110 x y
theorem pn110 (x y : Operand) : pureRun Tryz.prog (do eqGuard .neq 110 x y (.map none) (.map none); binOp .neq 110 (.map none) (.map none)) = some (.bool false) := pr_nenilm Tryz.underlying110 x y
theorem fsz : Tryz.prog.funcs.size = 163 := by kernel_rfl
theorem noGor : ∀ (f : FuncId) (fn : Func), Tryz.prog.funcs[f]? = some fn → (fn.name == "runtime.NumGoroutine") = false := fun f fn h => by
  have : (Tryz.prog.funcs.all fun fn => !(fn.name == "runtime.NumGoroutine")) = true := by kernel_rfl
  have := (Array.all_eq_true_iff_forall_mem.1 this) fn (Array.mem_of_getElem? h)
  simpa using this
theorem follows : Tryz.prog.follows .mixedOrders = true := by kernel_rfl
end Go.Proofs.YtpdhoicpaonggaaGreat
