import Derived.Test.YtpecbeachfikmaaM15
import Derived.Test.YtpecbeachfikmaaProg
import Derived.KernelRfl
namespace Go.Proofs.Ytpecbeachfikmaa
open Go Go.M
theorem sz3 : szOf Try.prog 3 = some 1 := by kernel_rfl
theorem by3 : M.bytesOf Try.prog 3 = some 8 := by kernel_rfl
theorem ze3 : zeroOf Try.prog 3 = some (.int .i64 0) := by kernel_rfl
theorem ag3 : aggT Try.prog 3 = some false := by kernel_rfl
theorem sz4 : szOf Try.prog 4 = some 1 := by kernel_rfl
theorem by4 : M.bytesOf Try.prog 4 = some 1 := by kernel_rfl
theorem ze4 : zeroOf Try.prog 4 = some (.bool false) := by kernel_rfl
theorem ag4 : aggT Try.prog 4 = some false := by kernel_rfl
theorem sz5 : szOf Try.prog 5 = some 1 := by kernel_rfl
theorem by5 : M.bytesOf Try.prog 5 = some 1 := by kernel_rfl
theorem ze5 : zeroOf Try.prog 5 = some (.int .u8 0) := by kernel_rfl
theorem ag5 : aggT Try.prog 5 = some false := by kernel_rfl
theorem sz22 : szOf Try.prog 22 = some 1 := by kernel_rfl
theorem by22 : M.bytesOf Try.prog 22 = some 24 := by kernel_rfl
theorem ze22 : zeroOf Try.prog 22 = some (.slice none 0 0) := by kernel_rfl
theorem ag22 : aggT Try.prog 22 = some false := by kernel_rfl
theorem sz23 : szOf Try.prog 23 = some 1 := by kernel_rfl
theorem by23 : M.bytesOf Try.prog 23 = some 24 := by kernel_rfl
theorem ze23 : zeroOf Try.prog 23 = some (.slice none 0 0) := by kernel_rfl
theorem ag23 : aggT Try.prog 23 = some false := by kernel_rfl
theorem sz24 : szOf Try.prog 24 = some 4 := by kernel_rfl
theorem by24 : M.bytesOf Try.prog 24 = some 64 := by kernel_rfl
theorem ze24 : zeroOf Try.prog 24 = some (.agg #[.int .i64 0, .int .i64 0, .slice none 0 0, .slice none 0 0]) := by kernel_rfl
theorem ag24 : aggT Try.prog 24 = some true := by kernel_rfl
theorem fo24_0 : fieldOf Try.prog 24 0 = some (0, 1, 3) := by kernel_rfl
theorem fo24_1 : fieldOf Try.prog 24 1 = some (1, 1, 3) := by kernel_rfl
theorem fo24_2 : fieldOf Try.prog 24 2 = some (2, 1, 22) := by kernel_rfl
theorem fo24_3 : fieldOf Try.prog 24 3 = some (3, 1, 23) := by kernel_rfl
theorem pl24 : places Try.prog 24 = some (#[(0, 1), (1, 1), (2, 1), (3, 1)][·]?) := by kernel_rfl
theorem sz25 : szOf Try.prog 25 = some 4 := by kernel_rfl
theorem by25 : M.bytesOf Try.prog 25 = some 64 := by kernel_rfl
theorem ze25 : zeroOf Try.prog 25 = some (.agg #[.int .i64 0, .int .i64 0, .slice none 0 0, .slice none 0 0]) := by kernel_rfl
theorem ag25 : aggT Try.prog 25 = some true := by kernel_rfl
theorem fo25_0 : fieldOf Try.prog 25 0 = some (0, 1, 3) := by kernel_rfl
theorem fo25_1 : fieldOf Try.prog 25 1 = some (1, 1, 3) := by kernel_rfl
theorem fo25_2 : fieldOf Try.prog 25 2 = some (2, 1, 22) := by kernel_rfl
theorem fo25_3 : fieldOf Try.prog 25 3 = some (3, 1, 23) := by kernel_rfl
theorem pl25 : places Try.prog 25 = some (#[(0, 1), (1, 1), (2, 1), (3, 1)][·]?) := by kernel_rfl
theorem sz26 : szOf Try.prog 26 = some 1 := by kernel_rfl
theorem by26 : M.bytesOf Try.prog 26 = some 24 := by kernel_rfl
theorem ze26 : zeroOf Try.prog 26 = some (.slice none 0 0) := by kernel_rfl
theorem ag26 : aggT Try.prog 26 = some false := by kernel_rfl
theorem sz27 : szOf Try.prog 27 = some 1 := by kernel_rfl
theorem by27 : M.bytesOf Try.prog 27 = some 24 := by kernel_rfl
theorem ze27 : zeroOf Try.prog 27 = some (.slice none 0 0) := by kernel_rfl
theorem ag27 : aggT Try.prog 27 = some false := by kernel_rfl
theorem sz28 : szOf Try.prog 28 = some 2 := by kernel_rfl
theorem by28 : M.bytesOf Try.prog 28 = some 16 := by kernel_rfl
theorem ze28 : zeroOf Try.prog 28 = some (.agg #[.int .i64 0, .int .i64 0]) := by kernel_rfl
theorem ag28 : aggT Try.prog 28 = some true := by kernel_rfl
theorem fo28_0 : fieldOf Try.prog 28 0 = some (0, 1, 3) := by kernel_rfl
theorem fo28_1 : fieldOf Try.prog 28 1 = some (1, 1, 3) := by kernel_rfl
theorem pl28 : places Try.prog 28 = some (#[(0, 1), (1, 1)][·]?) := by kernel_rfl
theorem sz29 : szOf Try.prog 29 = some 2 := by kernel_rfl
theorem by29 : M.bytesOf Try.prog 29 = some 16 := by kernel_rfl
theorem ze29 : zeroOf Try.prog 29 = some (.agg #[.int .i64 0, .int .i64 0]) := by kernel_rfl
theorem ag29 : aggT Try.prog 29 = some true := by kernel_rfl
theorem fo29_0 : fieldOf Try.prog 29 0 = some (0, 1, 3) := by kernel_rfl
theorem fo29_1 : fieldOf Try.prog 29 1 = some (1, 1, 3) := by kernel_rfl
theorem pl29 : places Try.prog 29 = some (#[(0, 1), (1, 1)][·]?) := by kernel_rfl
theorem sz30 : szOf Try.prog 30 = some 2 := by kernel_rfl
theorem by30 : M.bytesOf Try.prog 30 = some 16 := by kernel_rfl
theorem ze30 : zeroOf Try.prog 30 = some (.agg #[.int .i64 0, .int .i64 0]) := by kernel_rfl
theorem ag30 : aggT Try.prog 30 = some true := by kernel_rfl
theorem fo30_0 : fieldOf Try.prog 30 0 = some (0, 1, 3) := by kernel_rfl
theorem fo30_1 : fieldOf Try.prog 30 1 = some (1, 1, 3) := by kernel_rfl
theorem pl30 : places Try.prog 30 = some (#[(0, 1), (1, 1)][·]?) := by kernel_rfl
theorem sz31 : szOf Try.prog 31 = some 2 := by kernel_rfl
theorem by31 : M.bytesOf Try.prog 31 = some 16 := by kernel_rfl
theorem ze31 : zeroOf Try.prog 31 = some (.agg #[.int .i64 0, .int .i64 0]) := by kernel_rfl
theorem ag31 : aggT Try.prog 31 = some true := by kernel_rfl
theorem fo31_0 : fieldOf Try.prog 31 0 = some (0, 1, 3) := by kernel_rfl
theorem fo31_1 : fieldOf Try.prog 31 1 = some (1, 1, 3) := by kernel_rfl
theorem pl31 : places Try.prog 31 = some (#[(0, 1), (1, 1)][·]?) := by kernel_rfl
theorem sz32 : szOf Try.prog 32 = some 1 := by kernel_rfl
theorem by32 : M.bytesOf Try.prog 32 = some 24 := by kernel_rfl
theorem ze32 : zeroOf Try.prog 32 = some (.slice none 0 0) := by kernel_rfl
theorem ag32 : aggT Try.prog 32 = some false := by kernel_rfl
theorem sz33 : szOf Try.prog 33 = some 11 := by kernel_rfl
theorem by33 : M.bytesOf Try.prog 33 = some 104 := by kernel_rfl
theorem ze33 : zeroOf Try.prog 33 = some (.agg #[.int .i64 0, .int .i64 0, .int .i64 0, .int .i64 0, .int .i64 0, .int .i64 0, .int .i64 0, .int .i64 0, .int .i64 0, .slice none 0 0, .int .i64 0]) := by kernel_rfl
theorem ag33 : aggT Try.prog 33 = some true := by kernel_rfl
theorem fo33_0 : fieldOf Try.prog 33 0 = some (0, 1, 3) := by kernel_rfl
theorem fo33_1 : fieldOf Try.prog 33 1 = some (1, 1, 3) := by kernel_rfl
theorem fo33_2 : fieldOf Try.prog 33 2 = some (2, 2, 29) := by kernel_rfl
theorem fo33_3 : fieldOf Try.prog 33 3 = some (4, 2, 31) := by kernel_rfl
theorem fo33_4 : fieldOf Try.prog 33 4 = some (6, 1, 3) := by kernel_rfl
theorem fo33_5 : fieldOf Try.prog 33 5 = some (7, 2, 31) := by kernel_rfl
theorem fo33_6 : fieldOf Try.prog 33 6 = some (9, 1, 32) := by kernel_rfl
theorem fo33_7 : fieldOf Try.prog 33 7 = some (10, 1, 3) := by kernel_rfl
theorem pl33 : places Try.prog 33 = some (#[(0, 1), (1, 1), (2, 2), (4, 2), (6, 1), (7, 2), (9, 1), (10, 1)][·]?) := by kernel_rfl
theorem sz34 : szOf Try.prog 34 = some 11 := by kernel_rfl
theorem by34 : M.bytesOf Try.prog 34 = some 104 := by kernel_rfl
theorem ze34 : zeroOf Try.prog 34 = some (.agg #[.int .i64 0, .int .i64 0, .int .i64 0, .int .i64 0, .int .i64 0, .int .i64 0, .int .i64 0, .int .i64 0, .int .i64 0, .slice none 0 0, .int .i64 0]) := by kernel_rfl
theorem ag34 : aggT Try.prog 34 = some true := by kernel_rfl
theorem fo34_0 : fieldOf Try.prog 34 0 = some (0, 1, 3) := by kernel_rfl
theorem fo34_1 : fieldOf Try.prog 34 1 = some (1, 1, 3) := by kernel_rfl
theorem fo34_2 : fieldOf Try.prog 34 2 = some (2, 2, 29) := by kernel_rfl
theorem fo34_3 : fieldOf Try.prog 34 3 = some (4, 2, 31) := by kernel_rfl
theorem fo34_4 : fieldOf Try.prog 34 4 = some (6, 1, 3) := by kernel_rfl
theorem fo34_5 : fieldOf Try.prog 34 5 = some (7, 2, 31) := by kernel_rfl
theorem fo34_6 : fieldOf Try.prog 34 6 = some (9, 1, 32) := by kernel_rfl
theorem fo34_7 : fieldOf Try.prog 34 7 = some (10, 1, 3) := by kernel_rfl
theorem pl34 : places Try.prog 34 = some (#[(0, 1), (1, 1), (2, 2), (4, 2), (6, 1), (7, 2), (9, 1), (10, 1)][·]?) := by kernel_rfl
theorem sz35 : szOf Try.prog 35 = some 13 := by kernel_rfl
theorem by35 : M.bytesOf Try.prog 35 = some 152 := by kernel_rfl
theorem ze35 : zeroOf Try.prog 35 = some (.agg #[.slice none 0 0, .slice none 0 0, .int .i64 0, .int .i64 0, .int .i64 0, .int .i64 0, .int .i64 0, .int .i64 0, .int .i64 0, .int .i64 0, .int .i64 0, .slice none 0 0, .int .i64 0]) := by kernel_rfl
theorem ag35 : aggT Try.prog 35 = some true := by kernel_rfl
theorem fo35_0 : fieldOf Try.prog 35 0 = some (0, 1, 26) := by kernel_rfl
theorem fo35_1 : fieldOf Try.prog 35 1 = some (1, 1, 27) := by kernel_rfl
theorem fo35_2 : fieldOf Try.prog 35 2 = some (2, 11, 34) := by kernel_rfl
theorem pl35 : places Try.prog 35 = some (#[(0, 1), (1, 1), (2, 11)][·]?) := by kernel_rfl
theorem sz36 : szOf Try.prog 36 = some 13 := by kernel_rfl
theorem by36 : M.bytesOf Try.prog 36 = some 152 := by kernel_rfl
theorem ze36 : zeroOf Try.prog 36 = some (.agg #[.slice none 0 0, .slice none 0 0, .int .i64 0, .int .i64 0, .int .i64 0, .int .i64 0, .int .i64 0, .int .i64 0, .int .i64 0, .int .i64 0, .int .i64 0, .slice none 0 0, .int .i64 0]) := by kernel_rfl
theorem ag36 : aggT Try.prog 36 = some true := by kernel_rfl
theorem fo36_0 : fieldOf Try.prog 36 0 = some (0, 1, 26) := by kernel_rfl
theorem fo36_1 : fieldOf Try.prog 36 1 = some (1, 1, 27) := by kernel_rfl
theorem fo36_2 : fieldOf Try.prog 36 2 = some (2, 11, 34) := by kernel_rfl
theorem pl36 : places Try.prog 36 = some (#[(0, 1), (1, 1), (2, 11)][·]?) := by kernel_rfl
theorem sz37 : szOf Try.prog 37 = some 1 := by kernel_rfl
theorem by37 : M.bytesOf Try.prog 37 = some 8 := by kernel_rfl
theorem ze37 : zeroOf Try.prog 37 = some (.pointer none) := by kernel_rfl
theorem ag37 : aggT Try.prog 37 = some false := by kernel_rfl
theorem sz38 : szOf Try.prog 38 = some 1 := by kernel_rfl
theorem by38 : M.bytesOf Try.prog 38 = some 8 := by kernel_rfl
theorem ze38 : zeroOf Try.prog 38 = some (.pointer none) := by kernel_rfl
theorem ag38 : aggT Try.prog 38 = some false := by kernel_rfl
theorem sz42 : szOf Try.prog 42 = some 1 := by kernel_rfl
theorem by42 : M.bytesOf Try.prog 42 = some 8 := by kernel_rfl
theorem ze42 : zeroOf Try.prog 42 = some (.pointer none) := by kernel_rfl
theorem ag42 : aggT Try.prog 42 = some false := by kernel_rfl
theorem sz43 : szOf Try.prog 43 = some 1 := by kernel_rfl
theorem by43 : M.bytesOf Try.prog 43 = some 8 := by kernel_rfl
theorem ze43 : zeroOf Try.prog 43 = some (.pointer none) := by kernel_rfl
theorem ag43 : aggT Try.prog 43 = some false := by kernel_rfl
theorem sz44 : szOf Try.prog 44 = some 1 := by kernel_rfl
theorem by44 : M.bytesOf Try.prog 44 = some 8 := by kernel_rfl
theorem ze44 : zeroOf Try.prog 44 = some (.pointer none) := by kernel_rfl
theorem ag44 : aggT Try.prog 44 = some false := by kernel_rfl
theorem sz47 : szOf Try.prog 47 = some 1 := by kernel_rfl
theorem by47 : M.bytesOf Try.prog 47 = some 24 := by kernel_rfl
theorem ze47 : zeroOf Try.prog 47 = some (.slice none 0 0) := by kernel_rfl
theorem ag47 : aggT Try.prog 47 = some false := by kernel_rfl
theorem sz48 : szOf Try.prog 48 = some 3 := by kernel_rfl
theorem by48 : M.bytesOf Try.prog 48 = some 40 := by kernel_rfl
theorem ze48 : zeroOf Try.prog 48 = some (.agg #[.int .i64 0, .int .i64 0, .slice none 0 0]) := by kernel_rfl
theorem ag48 : aggT Try.prog 48 = some true := by kernel_rfl
theorem fo48_0 : fieldOf Try.prog 48 0 = some (0, 1, 3) := by kernel_rfl
theorem fo48_1 : fieldOf Try.prog 48 1 = some (1, 1, 3) := by kernel_rfl
theorem fo48_2 : fieldOf Try.prog 48 2 = some (2, 1, 47) := by kernel_rfl
theorem pl48 : places Try.prog 48 = some (#[(0, 1), (1, 1), (2, 1)][·]?) := by kernel_rfl
theorem sz49 : szOf Try.prog 49 = some 3 := by kernel_rfl
theorem by49 : M.bytesOf Try.prog 49 = some 40 := by kernel_rfl
theorem ze49 : zeroOf Try.prog 49 = some (.agg #[.int .i64 0, .int .i64 0, .slice none 0 0]) := by kernel_rfl
theorem ag49 : aggT Try.prog 49 = some true := by kernel_rfl
theorem fo49_0 : fieldOf Try.prog 49 0 = some (0, 1, 3) := by kernel_rfl
theorem fo49_1 : fieldOf Try.prog 49 1 = some (1, 1, 3) := by kernel_rfl
theorem fo49_2 : fieldOf Try.prog 49 2 = some (2, 1, 47) := by kernel_rfl
theorem pl49 : places Try.prog 49 = some (#[(0, 1), (1, 1), (2, 1)][·]?) := by kernel_rfl
theorem sz51 : szOf Try.prog 51 = some 3 := by kernel_rfl
theorem by51 : M.bytesOf Try.prog 51 = some 24 := by kernel_rfl
theorem ze51 : zeroOf Try.prog 51 = some (.agg #[.int .i64 0, .int .i64 0, .int .i64 0]) := by kernel_rfl
theorem ag51 : aggT Try.prog 51 = some true := by kernel_rfl
theorem fo51_0 : fieldOf Try.prog 51 0 = some (0, 1, 3) := by kernel_rfl
theorem fo51_1 : fieldOf Try.prog 51 1 = some (1, 2, 31) := by kernel_rfl
theorem pl51 : places Try.prog 51 = some (#[(0, 1), (1, 2)][·]?) := by kernel_rfl
theorem sz52 : szOf Try.prog 52 = some 3 := by kernel_rfl
theorem by52 : M.bytesOf Try.prog 52 = some 24 := by kernel_rfl
theorem ze52 : zeroOf Try.prog 52 = some (.agg #[.int .i64 0, .int .i64 0, .int .i64 0]) := by kernel_rfl
theorem ag52 : aggT Try.prog 52 = some true := by kernel_rfl
theorem fo52_0 : fieldOf Try.prog 52 0 = some (0, 1, 3) := by kernel_rfl
theorem fo52_1 : fieldOf Try.prog 52 1 = some (1, 2, 31) := by kernel_rfl
theorem pl52 : places Try.prog 52 = some (#[(0, 1), (1, 2)][·]?) := by kernel_rfl
theorem sz57 : szOf Try.prog 57 = some 1 := by kernel_rfl
theorem by57 : M.bytesOf Try.prog 57 = some 8 := by kernel_rfl
theorem ze57 : zeroOf Try.prog 57 = some (.int .i64 0) := by kernel_rfl
theorem ag57 : aggT Try.prog 57 = some false := by kernel_rfl
theorem sz60 : szOf Try.prog 60 = some 4 := by kernel_rfl
theorem by60 : M.bytesOf Try.prog 60 = some 32 := by kernel_rfl
theorem ze60 : zeroOf Try.prog 60 = some (.agg #[.int .i64 0, .int .i64 0, .int .i64 0, .bool false]) := by kernel_rfl
theorem ag60 : aggT Try.prog 60 = some true := by kernel_rfl
theorem fo60_0 : fieldOf Try.prog 60 0 = some (0, 1, 3) := by kernel_rfl
theorem fo60_1 : fieldOf Try.prog 60 1 = some (1, 2, 31) := by kernel_rfl
theorem fo60_2 : fieldOf Try.prog 60 2 = some (3, 1, 4) := by kernel_rfl
theorem pl60 : places Try.prog 60 = some (#[(0, 1), (1, 2), (3, 1)][·]?) := by kernel_rfl
theorem sz61 : szOf Try.prog 61 = some 4 := by kernel_rfl
theorem by61 : M.bytesOf Try.prog 61 = some 32 := by kernel_rfl
theorem ze61 : zeroOf Try.prog 61 = some (.agg #[.int .i64 0, .int .i64 0, .int .i64 0, .bool false]) := by kernel_rfl
theorem ag61 : aggT Try.prog 61 = some true := by kernel_rfl
theorem fo61_0 : fieldOf Try.prog 61 0 = some (0, 1, 3) := by kernel_rfl
theorem fo61_1 : fieldOf Try.prog 61 1 = some (1, 2, 31) := by kernel_rfl
theorem fo61_2 : fieldOf Try.prog 61 2 = some (3, 1, 4) := by kernel_rfl
theorem pl61 : places Try.prog 61 = some (#[(0, 1), (1, 2), (3, 1)][·]?) := by kernel_rfl
theorem sz65 : szOf Try.prog 65 = some 1 := by kernel_rfl
theorem by65 : M.bytesOf Try.prog 65 = some 8 := by kernel_rfl
theorem ze65 : zeroOf Try.prog 65 = some (.pointer none) := by kernel_rfl
theorem ag65 : aggT Try.prog 65 = some false := by kernel_rfl
theorem sz66 : szOf Try.prog 66 = some 1 := by kernel_rfl
theorem by66 : M.bytesOf Try.prog 66 = some 24 := by kernel_rfl
theorem ze66 : zeroOf Try.prog 66 = some (.slice none 0 0) := by kernel_rfl
theorem ag66 : aggT Try.prog 66 = some false := by kernel_rfl
theorem sz67 : szOf Try.prog 67 = some 2 := by kernel_rfl
theorem by67 : M.bytesOf Try.prog 67 = some 32 := by kernel_rfl
theorem ze67 : zeroOf Try.prog 67 = some (.agg #[.pointer none, .slice none 0 0]) := by kernel_rfl
theorem ag67 : aggT Try.prog 67 = some true := by kernel_rfl
theorem fo67_0 : fieldOf Try.prog 67 0 = some (0, 1, 65) := by kernel_rfl
theorem fo67_1 : fieldOf Try.prog 67 1 = some (1, 1, 66) := by kernel_rfl
theorem pl67 : places Try.prog 67 = some (#[(0, 1), (1, 1)][·]?) := by kernel_rfl
theorem sz68 : szOf Try.prog 68 = some 2 := by kernel_rfl
theorem by68 : M.bytesOf Try.prog 68 = some 32 := by kernel_rfl
theorem ze68 : zeroOf Try.prog 68 = some (.agg #[.pointer none, .slice none 0 0]) := by kernel_rfl
theorem ag68 : aggT Try.prog 68 = some true := by kernel_rfl
theorem fo68_0 : fieldOf Try.prog 68 0 = some (0, 1, 65) := by kernel_rfl
theorem fo68_1 : fieldOf Try.prog 68 1 = some (1, 1, 66) := by kernel_rfl
theorem pl68 : places Try.prog 68 = some (#[(0, 1), (1, 1)][·]?) := by kernel_rfl
theorem sz70 : szOf Try.prog 70 = some 1 := by kernel_rfl
theorem by70 : M.bytesOf Try.prog 70 = some 24 := by kernel_rfl
theorem ze70 : zeroOf Try.prog 70 = some (.slice none 0 0) := by kernel_rfl
theorem ag70 : aggT Try.prog 70 = some false := by kernel_rfl
theorem sz77 : szOf Try.prog 77 = some 4 := by kernel_rfl
theorem by77 : M.bytesOf Try.prog 77 = some 32 := by kernel_rfl
theorem ze77 : zeroOf Try.prog 77 = some (.agg #[.int .i64 0, .int .i64 0, .int .i64 0, .int .i64 0]) := by kernel_rfl
theorem ag77 : aggT Try.prog 77 = some true := by kernel_rfl
theorem fo77_0 : fieldOf Try.prog 77 0 = some (0, 2, 31) := by kernel_rfl
theorem fo77_1 : fieldOf Try.prog 77 1 = some (2, 1, 3) := by kernel_rfl
theorem fo77_2 : fieldOf Try.prog 77 2 = some (3, 1, 3) := by kernel_rfl
theorem pl77 : places Try.prog 77 = some (#[(0, 2), (2, 1), (3, 1)][·]?) := by kernel_rfl
theorem sz78 : szOf Try.prog 78 = some 4 := by kernel_rfl
theorem by78 : M.bytesOf Try.prog 78 = some 32 := by kernel_rfl
theorem ze78 : zeroOf Try.prog 78 = some (.agg #[.int .i64 0, .int .i64 0, .int .i64 0, .int .i64 0]) := by kernel_rfl
theorem ag78 : aggT Try.prog 78 = some true := by kernel_rfl
theorem fo78_0 : fieldOf Try.prog 78 0 = some (0, 2, 31) := by kernel_rfl
theorem fo78_1 : fieldOf Try.prog 78 1 = some (2, 1, 3) := by kernel_rfl
theorem fo78_2 : fieldOf Try.prog 78 2 = some (3, 1, 3) := by kernel_rfl
theorem pl78 : places Try.prog 78 = some (#[(0, 2), (2, 1), (3, 1)][·]?) := by kernel_rfl
theorem sz90 : szOf Try.prog 90 = some 5 := by kernel_rfl
theorem by90 : M.bytesOf Try.prog 90 = some 40 := by kernel_rfl
theorem ze90 : zeroOf Try.prog 90 = some (.agg #[.int .i64 0, .int .i64 0, .int .i64 0, .int .i64 0, .int .i64 0]) := by kernel_rfl
theorem ag90 : aggT Try.prog 90 = some true := by kernel_rfl
theorem fo90_0 : fieldOf Try.prog 90 0 = some (0, 1, 3) := by kernel_rfl
theorem fo90_1 : fieldOf Try.prog 90 1 = some (1, 4, 78) := by kernel_rfl
theorem pl90 : places Try.prog 90 = some (#[(0, 1), (1, 4)][·]?) := by kernel_rfl
theorem sz91 : szOf Try.prog 91 = some 5 := by kernel_rfl
theorem by91 : M.bytesOf Try.prog 91 = some 40 := by kernel_rfl
theorem ze91 : zeroOf Try.prog 91 = some (.agg #[.int .i64 0, .int .i64 0, .int .i64 0, .int .i64 0, .int .i64 0]) := by kernel_rfl
theorem ag91 : aggT Try.prog 91 = some true := by kernel_rfl
theorem fo91_0 : fieldOf Try.prog 91 0 = some (0, 1, 3) := by kernel_rfl
theorem fo91_1 : fieldOf Try.prog 91 1 = some (1, 4, 78) := by kernel_rfl
theorem pl91 : places Try.prog 91 = some (#[(0, 1), (1, 4)][·]?) := by kernel_rfl
theorem sz93 : szOf Try.prog 93 = some 1 := by kernel_rfl
theorem by93 : M.bytesOf Try.prog 93 = some 24 := by kernel_rfl
theorem ze93 : zeroOf Try.prog 93 = some (.slice none 0 0) := by kernel_rfl
theorem ag93 : aggT Try.prog 93 = some false := by kernel_rfl
theorem sz94 : szOf Try.prog 94 = some 1 := by kernel_rfl
theorem by94 : M.bytesOf Try.prog 94 = some 24 := by kernel_rfl
theorem ze94 : zeroOf Try.prog 94 = some (.agg #[.slice none 0 0]) := by kernel_rfl
theorem ag94 : aggT Try.prog 94 = some true := by kernel_rfl
theorem fo94_0 : fieldOf Try.prog 94 0 = some (0, 1, 93) := by kernel_rfl
theorem pl94 : places Try.prog 94 = some (#[(0, 1)][·]?) := by kernel_rfl
theorem sz95 : szOf Try.prog 95 = some 1 := by kernel_rfl
theorem by95 : M.bytesOf Try.prog 95 = some 24 := by kernel_rfl
theorem ze95 : zeroOf Try.prog 95 = some (.agg #[.slice none 0 0]) := by kernel_rfl
theorem ag95 : aggT Try.prog 95 = some true := by kernel_rfl
theorem fo95_0 : fieldOf Try.prog 95 0 = some (0, 1, 93) := by kernel_rfl
theorem pl95 : places Try.prog 95 = some (#[(0, 1)][·]?) := by kernel_rfl
theorem sz104 : szOf Try.prog 104 = some 1 := by kernel_rfl
theorem by104 : M.bytesOf Try.prog 104 = some 8 := by kernel_rfl
theorem ze104 : zeroOf Try.prog 104 = some (.nilFunc) := by kernel_rfl
theorem ag104 : aggT Try.prog 104 = some false := by kernel_rfl
theorem sz105 : szOf Try.prog 105 = some 1 := by kernel_rfl
theorem by105 : M.bytesOf Try.prog 105 = some 8 := by kernel_rfl
theorem ze105 : zeroOf Try.prog 105 = some (.nilFunc) := by kernel_rfl
theorem ag105 : aggT Try.prog 105 = some false := by kernel_rfl
theorem sz107 : szOf Try.prog 107 = some 1 := by kernel_rfl
theorem by107 : M.bytesOf Try.prog 107 = some 8 := by kernel_rfl
theorem ze107 : zeroOf Try.prog 107 = some (.nilFunc) := by kernel_rfl
theorem ag107 : aggT Try.prog 107 = some false := by kernel_rfl
theorem sz111 : szOf Try.prog 111 = some 1 := by kernel_rfl
theorem by111 : M.bytesOf Try.prog 111 = some 8 := by kernel_rfl
theorem ze111 : zeroOf Try.prog 111 = some (.map none) := by kernel_rfl
theorem ag111 : aggT Try.prog 111 = some false := by kernel_rfl
theorem sz112 : szOf Try.prog 112 = some 1 := by kernel_rfl
theorem by112 : M.bytesOf Try.prog 112 = some 8 := by kernel_rfl
theorem ze112 : zeroOf Try.prog 112 = some (.map none) := by kernel_rfl
theorem ag112 : aggT Try.prog 112 = some false := by kernel_rfl
theorem sz113 : szOf Try.prog 113 = some 3 := by kernel_rfl
theorem by113 : M.bytesOf Try.prog 113 = some 24 := by kernel_rfl
theorem ze113 : zeroOf Try.prog 113 = some (.agg #[.pointer none, .map none, .map none]) := by kernel_rfl
theorem ag113 : aggT Try.prog 113 = some true := by kernel_rfl
theorem fo113_0 : fieldOf Try.prog 113 0 = some (0, 1, 42) := by kernel_rfl
theorem fo113_1 : fieldOf Try.prog 113 1 = some (1, 1, 111) := by kernel_rfl
theorem fo113_2 : fieldOf Try.prog 113 2 = some (2, 1, 112) := by kernel_rfl
theorem pl113 : places Try.prog 113 = some (#[(0, 1), (1, 1), (2, 1)][·]?) := by kernel_rfl
theorem sz114 : szOf Try.prog 114 = some 3 := by kernel_rfl
theorem by114 : M.bytesOf Try.prog 114 = some 24 := by kernel_rfl
theorem ze114 : zeroOf Try.prog 114 = some (.agg #[.pointer none, .map none, .map none]) := by kernel_rfl
theorem ag114 : aggT Try.prog 114 = some true := by kernel_rfl
theorem fo114_0 : fieldOf Try.prog 114 0 = some (0, 1, 42) := by kernel_rfl
theorem fo114_1 : fieldOf Try.prog 114 1 = some (1, 1, 111) := by kernel_rfl
theorem fo114_2 : fieldOf Try.prog 114 2 = some (2, 1, 112) := by kernel_rfl
theorem pl114 : places Try.prog 114 = some (#[(0, 1), (1, 1), (2, 1)][·]?) := by kernel_rfl
theorem sz116 : szOf Try.prog 116 = some 1 := by kernel_rfl
theorem by116 : M.bytesOf Try.prog 116 = some 8 := by kernel_rfl
theorem ze116 : zeroOf Try.prog 116 = some (.nilFunc) := by kernel_rfl
theorem ag116 : aggT Try.prog 116 = some false := by kernel_rfl
theorem sz117 : szOf Try.prog 117 = some 1 := by kernel_rfl
theorem by117 : M.bytesOf Try.prog 117 = some 8 := by kernel_rfl
theorem ze117 : zeroOf Try.prog 117 = some (.nilFunc) := by kernel_rfl
theorem ag117 : aggT Try.prog 117 = some false := by kernel_rfl
theorem sz122 : szOf Try.prog 122 = some 3 := by kernel_rfl
theorem by122 : M.bytesOf Try.prog 122 = some 24 := by kernel_rfl
theorem ze122 : zeroOf Try.prog 122 = some (.agg #[.int .i64 0, .int .i64 0, .int .i64 0]) := by kernel_rfl
theorem ag122 : aggT Try.prog 122 = some true := by kernel_rfl
theorem fo122_0 : fieldOf Try.prog 122 0 = some (0, 1, 3) := by kernel_rfl
theorem fo122_1 : fieldOf Try.prog 122 1 = some (1, 2, 31) := by kernel_rfl
theorem pl122 : places Try.prog 122 = some (#[(0, 1), (1, 2)][·]?) := by kernel_rfl
theorem sz123 : szOf Try.prog 123 = some 3 := by kernel_rfl
theorem by123 : M.bytesOf Try.prog 123 = some 24 := by kernel_rfl
theorem ze123 : zeroOf Try.prog 123 = some (.agg #[.int .i64 0, .int .i64 0, .int .i64 0]) := by kernel_rfl
theorem ag123 : aggT Try.prog 123 = some true := by kernel_rfl
theorem fo123_0 : fieldOf Try.prog 123 0 = some (0, 1, 3) := by kernel_rfl
theorem fo123_1 : fieldOf Try.prog 123 1 = some (1, 2, 31) := by kernel_rfl
theorem pl123 : places Try.prog 123 = some (#[(0, 1), (1, 2)][·]?) := by kernel_rfl
theorem sz124 : szOf Try.prog 124 = some 1 := by kernel_rfl
theorem by124 : M.bytesOf Try.prog 124 = some 8 := by kernel_rfl
theorem ze124 : zeroOf Try.prog 124 = some (.nilFunc) := by kernel_rfl
theorem ag124 : aggT Try.prog 124 = some false := by kernel_rfl
theorem sz137 : szOf Try.prog 137 = some 1 := by kernel_rfl
theorem by137 : M.bytesOf Try.prog 137 = some 8 := by kernel_rfl
theorem ze137 : zeroOf Try.prog 137 = some (.map none) := by kernel_rfl
theorem ag137 : aggT Try.prog 137 = some false := by kernel_rfl
theorem sz138 : szOf Try.prog 138 = some 6 := by kernel_rfl
theorem by138 : M.bytesOf Try.prog 138 = some 80 := by kernel_rfl
theorem ze138 : zeroOf Try.prog 138 = some (.agg #[.int .i64 0, .int .i64 0, .slice none 0 0, .map none, .map none, .slice none 0 0]) := by kernel_rfl
theorem ag138 : aggT Try.prog 138 = some true := by kernel_rfl
theorem fo138_0 : fieldOf Try.prog 138 0 = some (0, 1, 3) := by kernel_rfl
theorem fo138_1 : fieldOf Try.prog 138 1 = some (1, 1, 3) := by kernel_rfl
theorem fo138_2 : fieldOf Try.prog 138 2 = some (2, 1, 22) := by kernel_rfl
theorem fo138_3 : fieldOf Try.prog 138 3 = some (3, 1, 137) := by kernel_rfl
theorem fo138_4 : fieldOf Try.prog 138 4 = some (4, 1, 112) := by kernel_rfl
theorem fo138_5 : fieldOf Try.prog 138 5 = some (5, 1, 70) := by kernel_rfl
theorem pl138 : places Try.prog 138 = some (#[(0, 1), (1, 1), (2, 1), (3, 1), (4, 1), (5, 1)][·]?) := by kernel_rfl
theorem sz139 : szOf Try.prog 139 = some 6 := by kernel_rfl
theorem by139 : M.bytesOf Try.prog 139 = some 80 := by kernel_rfl
theorem ze139 : zeroOf Try.prog 139 = some (.agg #[.int .i64 0, .int .i64 0, .slice none 0 0, .map none, .map none, .slice none 0 0]) := by kernel_rfl
theorem ag139 : aggT Try.prog 139 = some true := by kernel_rfl
theorem fo139_0 : fieldOf Try.prog 139 0 = some (0, 1, 3) := by kernel_rfl
theorem fo139_1 : fieldOf Try.prog 139 1 = some (1, 1, 3) := by kernel_rfl
theorem fo139_2 : fieldOf Try.prog 139 2 = some (2, 1, 22) := by kernel_rfl
theorem fo139_3 : fieldOf Try.prog 139 3 = some (3, 1, 137) := by kernel_rfl
theorem fo139_4 : fieldOf Try.prog 139 4 = some (4, 1, 112) := by kernel_rfl
theorem fo139_5 : fieldOf Try.prog 139 5 = some (5, 1, 70) := by kernel_rfl
theorem pl139 : places Try.prog 139 = some (#[(0, 1), (1, 1), (2, 1), (3, 1), (4, 1), (5, 1)][·]?) := by kernel_rfl
theorem sz140 : szOf Try.prog 140 = some 5 := by kernel_rfl
theorem by140 : M.bytesOf Try.prog 140 = some 40 := by kernel_rfl
theorem ze140 : zeroOf Try.prog 140 = some (.agg #[.int .i64 0, .int .i64 0, .int .i64 0, .int .i64 0, .int .i64 0]) := by kernel_rfl
theorem ag140 : aggT Try.prog 140 = some true := by kernel_rfl
theorem fo140_0 : fieldOf Try.prog 140 0 = some (0, 1, 3) := by kernel_rfl
theorem fo140_1 : fieldOf Try.prog 140 1 = some (1, 4, 78) := by kernel_rfl
theorem pl140 : places Try.prog 140 = some (#[(0, 1), (1, 4)][·]?) := by kernel_rfl
theorem sz141 : szOf Try.prog 141 = some 5 := by kernel_rfl
theorem by141 : M.bytesOf Try.prog 141 = some 40 := by kernel_rfl
theorem ze141 : zeroOf Try.prog 141 = some (.agg #[.int .i64 0, .int .i64 0, .int .i64 0, .int .i64 0, .int .i64 0]) := by kernel_rfl
theorem ag141 : aggT Try.prog 141 = some true := by kernel_rfl
theorem fo141_0 : fieldOf Try.prog 141 0 = some (0, 1, 3) := by kernel_rfl
theorem fo141_1 : fieldOf Try.prog 141 1 = some (1, 4, 78) := by kernel_rfl
theorem pl141 : places Try.prog 141 = some (#[(0, 1), (1, 4)][·]?) := by kernel_rfl
theorem sz144 : szOf Try.prog 144 = some 5 := by kernel_rfl
theorem by144 : M.bytesOf Try.prog 144 = some 88 := by kernel_rfl
theorem ze144 : zeroOf Try.prog 144 = some (.agg #[.int .i64 0, .int .i64 0, .slice none 0 0, .slice none 0 0, .slice none 0 0]) := by kernel_rfl
theorem ag144 : aggT Try.prog 144 = some true := by kernel_rfl
theorem fo144_0 : fieldOf Try.prog 144 0 = some (0, 1, 3) := by kernel_rfl
theorem fo144_1 : fieldOf Try.prog 144 1 = some (1, 1, 3) := by kernel_rfl
theorem fo144_2 : fieldOf Try.prog 144 2 = some (2, 1, 22) := by kernel_rfl
theorem fo144_3 : fieldOf Try.prog 144 3 = some (3, 1, 23) := by kernel_rfl
theorem fo144_4 : fieldOf Try.prog 144 4 = some (4, 1, 70) := by kernel_rfl
theorem pl144 : places Try.prog 144 = some (#[(0, 1), (1, 1), (2, 1), (3, 1), (4, 1)][·]?) := by kernel_rfl
theorem sz145 : szOf Try.prog 145 = some 5 := by kernel_rfl
theorem by145 : M.bytesOf Try.prog 145 = some 88 := by kernel_rfl
theorem ze145 : zeroOf Try.prog 145 = some (.agg #[.int .i64 0, .int .i64 0, .slice none 0 0, .slice none 0 0, .slice none 0 0]) := by kernel_rfl
theorem ag145 : aggT Try.prog 145 = some true := by kernel_rfl
theorem fo145_0 : fieldOf Try.prog 145 0 = some (0, 1, 3) := by kernel_rfl
theorem fo145_1 : fieldOf Try.prog 145 1 = some (1, 1, 3) := by kernel_rfl
theorem fo145_2 : fieldOf Try.prog 145 2 = some (2, 1, 22) := by kernel_rfl
theorem fo145_3 : fieldOf Try.prog 145 3 = some (3, 1, 23) := by kernel_rfl
theorem fo145_4 : fieldOf Try.prog 145 4 = some (4, 1, 70) := by kernel_rfl
theorem pl145 : places Try.prog 145 = some (#[(0, 1), (1, 1), (2, 1), (3, 1), (4, 1)][·]?) := by kernel_rfl
theorem sz146 : szOf Try.prog 146 = some 2 := by kernel_rfl
theorem by146 : M.bytesOf Try.prog 146 = some 16 := by kernel_rfl
theorem ze146 : zeroOf Try.prog 146 = some (.agg #[.map none, .map none]) := by kernel_rfl
theorem ag146 : aggT Try.prog 146 = some true := by kernel_rfl
theorem fo146_0 : fieldOf Try.prog 146 0 = some (0, 1, 137) := by kernel_rfl
theorem fo146_1 : fieldOf Try.prog 146 1 = some (1, 1, 112) := by kernel_rfl
theorem pl146 : places Try.prog 146 = some (#[(0, 1), (1, 1)][·]?) := by kernel_rfl
theorem sz147 : szOf Try.prog 147 = some 2 := by kernel_rfl
theorem by147 : M.bytesOf Try.prog 147 = some 16 := by kernel_rfl
theorem ze147 : zeroOf Try.prog 147 = some (.agg #[.map none, .map none]) := by kernel_rfl
theorem ag147 : aggT Try.prog 147 = some true := by kernel_rfl
theorem fo147_0 : fieldOf Try.prog 147 0 = some (0, 1, 137) := by kernel_rfl
theorem fo147_1 : fieldOf Try.prog 147 1 = some (1, 1, 112) := by kernel_rfl
theorem pl147 : places Try.prog 147 = some (#[(0, 1), (1, 1)][·]?) := by kernel_rfl
theorem sz149 : szOf Try.prog 149 = some 1 := by kernel_rfl
theorem by149 : M.bytesOf Try.prog 149 = some 8 := by kernel_rfl
theorem ze149 : zeroOf Try.prog 149 = some (.nilFunc) := by kernel_rfl
theorem ag149 : aggT Try.prog 149 = some false := by kernel_rfl
theorem sz153 : szOf Try.prog 153 = some 5 := by kernel_rfl
theorem by153 : M.bytesOf Try.prog 153 = some 40 := by kernel_rfl
theorem ze153 : zeroOf Try.prog 153 = some (.agg #[.int .i64 0, .int .i64 0, .int .i64 0, .int .i64 0, .int .i64 0]) := by kernel_rfl
theorem ag153 : aggT Try.prog 153 = some true := by kernel_rfl
theorem fo153_0 : fieldOf Try.prog 153 0 = some (0, 1, 3) := by kernel_rfl
theorem fo153_1 : fieldOf Try.prog 153 1 = some (1, 4, 78) := by kernel_rfl
theorem pl153 : places Try.prog 153 = some (#[(0, 1), (1, 4)][·]?) := by kernel_rfl
theorem sz158 : szOf Try.prog 158 = some 3 := by kernel_rfl
theorem by158 : M.bytesOf Try.prog 158 = some 24 := by kernel_rfl
theorem ze158 : zeroOf Try.prog 158 = some (.agg #[.nilFunc, .nilFunc, .nilFunc]) := by kernel_rfl
theorem ag158 : aggT Try.prog 158 = some true := by kernel_rfl
theorem pl158 : places Try.prog 158 = some (fun i => some (i * 1, 1)) := by kernel_rfl
theorem sz159 : szOf Try.prog 159 = some 3 := by kernel_rfl
theorem by159 : M.bytesOf Try.prog 159 = some 24 := by kernel_rfl
theorem ze159 : zeroOf Try.prog 159 = some (.agg #[.nilFunc, .nilFunc, .nilFunc]) := by kernel_rfl
theorem ag159 : aggT Try.prog 159 = some true := by kernel_rfl
theorem fo159_0 : fieldOf Try.prog 159 0 = some (0, 3, 158) := by kernel_rfl
theorem pl159 : places Try.prog 159 = some (#[(0, 3)][·]?) := by kernel_rfl
theorem sz160 : szOf Try.prog 160 = some 3 := by kernel_rfl
theorem by160 : M.bytesOf Try.prog 160 = some 24 := by kernel_rfl
theorem ze160 : zeroOf Try.prog 160 = some (.agg #[.nilFunc, .nilFunc, .nilFunc]) := by kernel_rfl
theorem ag160 : aggT Try.prog 160 = some true := by kernel_rfl
theorem fo160_0 : fieldOf Try.prog 160 0 = some (0, 3, 158) := by kernel_rfl
theorem pl160 : places Try.prog 160 = some (#[(0, 3)][·]?) := by kernel_rfl
theorem sz163 : szOf Try.prog 163 = some 1 := by kernel_rfl
theorem by163 : M.bytesOf Try.prog 163 = some 8 := by kernel_rfl
theorem ze163 : zeroOf Try.prog 163 = some (.nilFunc) := by kernel_rfl
theorem ag163 : aggT Try.prog 163 = some false := by kernel_rfl
theorem sz195 : szOf Try.prog 195 = some 4 := by kernel_rfl
theorem by195 : M.bytesOf Try.prog 195 = some 32 := by kernel_rfl
theorem ze195 : zeroOf Try.prog 195 = some (.agg #[.int .i64 0, .int .i64 0, .int .i64 0, .int .i64 0]) := by kernel_rfl
theorem ag195 : aggT Try.prog 195 = some true := by kernel_rfl
theorem pl195 : places Try.prog 195 = some (fun i => some (i * 1, 1)) := by kernel_rfl
theorem cv3 (st : List Ob) (s : TypeId) (j : IntKind) (n : Int) (h : (Try.prog.underlying s).isSome = true) : aconvert Try.prog st s 3 (.sc (.int j n)) = some (.sc (.int .i64 (IntKind.wrap .i64 n))) := aconv_i Try.underlying3 h
theorem cv5 (st : List Ob) (s : TypeId) (j : IntKind) (n : Int) (h : (Try.prog.underlying s).isSome = true) : aconvert Try.prog st s 5 (.sc (.int j n)) = some (.sc (.int .u8 (IntKind.wrap .u8 n))) := aconv_i Try.underlying5 h
theorem cv57 (st : List Ob) (s : TypeId) (j : IntKind) (n : Int) (h : (Try.prog.underlying s).isSome = true) : aconvert Try.prog st s 57 (.sc (.int j n)) = some (.sc (.int .i64 (IntKind.wrap .i64 n))) := aconv_i Try.underlying57 h
theorem pe37 (x y : Operand) : pureRun Try.prog (do eqGuard .eql 37 x y (.pointer none) (.pointer none); binOp .eql 37 (.pointer none) (.pointer none)) = some (.bool true) := pr_eqnil Try.underlying37 x y
theorem pn37 (x y : Operand) : pureRun Try.prog (do eqGuard .neq 37 x y (.pointer none) (.pointer none); binOp .neq 37 (.pointer none) (.pointer none)) = some (.bool false) := pr_nenil Try.underlying37 x y
theorem pe38 (x y : Operand) : pureRun Try.prog (do eqGuard .eql 38 x y (.pointer none) (.pointer none); binOp .eql 38 (.pointer none) (.pointer none)) = some (.bool true) := pr_eqnil Try.underlying38 x y
theorem pn38 (x y : Operand) : pureRun Try.prog (do eqGuard .neq 38 x y (.pointer none) (.pointer none); binOp .neq 38 (.pointer none) (.pointer none)) = some (.bool false) := pr_nenil Try.underlying38 x y
theorem pe42 (x y : Operand) : pureRun Try.prog (do eqGuard .eql 42 x y (.pointer none) (.pointer none); binOp .eql 42 (.pointer none) (.pointer none)) = some (.bool true) := pr_eqnil Try.underlying42 x y
theorem pn42 (x y : Operand) : pureRun Try.prog (do eqGuard .neq 42 x y (.pointer none) (.pointer none); binOp .neq 42 (.pointer none) (.pointer none)) = some (.bool false) := pr_nenil Try.underlying42 x y
theorem pe43 (x y : Operand) : pureRun Try.prog (do eqGuard .eql 43 x y (.pointer none) (.pointer none); binOp .eql 43 (.pointer none) (.pointer none)) = some (.bool true) := pr_eqnil Try.underlying43 x y
theorem pn43 (x y : Operand) : pureRun Try.prog (do eqGuard .neq 43 x y (.pointer none) (.pointer none); binOp .neq 43 (.pointer none) (.pointer none)) = some (.bool false) := pr_nenil Try.underlying43 x y
theorem pe44 (x y : Operand) : pureRun Try.prog (do eqGuard .eql 44 x y (.pointer none) (.pointer none); binOp .eql 44 (.pointer none) (.pointer none)) = some (.bool true) := pr_eqnil Try.underlying44 x y
theorem pn44 (x y : Operand) : pureRun Try.prog (do eqGuard .neq 44 x y (.pointer none) (.pointer none); binOp .neq 44 (.pointer none) (.pointer none)) = some (.bool false) := pr_nenil Try.underlying44 x y
theorem pe65 (x y : Operand) : pureRun Try.prog (do eqGuard .eql 65 x y (.pointer none) (.pointer none); binOp .eql 65 (.pointer none) (.pointer none)) = some (.bool true) := pr_eqnil Try.underlying65 x y
theorem pn65 (x y : Operand) : pureRun Try.prog (do eqGuard .neq 65 x y (.pointer none) (.pointer none); binOp .neq 65 (.pointer none) (.pointer none)) = some (.bool false) := pr_nenil Try.underlying65 x y
theorem pe111 (x y : Operand) : pureRun Try.prog (do eqGuard .eql 111 x y (.map none) (.map none); binOp .eql 111 (.map none) (.map none)) = some (.bool true) := pr_eqnilm Try.underlying111 x y
theorem pn111 (x y : Operand) : pureRun Try.prog (do eqGuard .neq 111 x y (.map none) (.map none); binOp .neq 111 (.map none) (.map none)) = some (.bool false) := pr_nenilm Try.underlying111 x y
theorem pe112 (x y : Operand) : pureRun Try.prog (do eqGuard .eql 112 x y (.map none) (.map none); binOp .eql 112 (.map none) (.map none)) = some (.bool true) := pr_eqnilm Try.underlying112 x y
theorem pn112 (x y : Operand) : pureRun Try.prog (do eqGuard .neq 112 x y (.map none) (.map none); binOp .neq 112 (.map none) (.map none)) = some (.bool false) := pr_nenilm Try.underlying112 x y
theorem pe137 (x y : Operand) : pureRun Try.prog (do eqGuard .eql 137 x y (.map none) (.map none); binOp .eql 137 (.map none) (.map none)) = some (.bool true) := pr_eqnilm Try.underlying137 x y
theorem pn137 (x y : Operand) : pureRun Try.prog (do eqGuard .neq 137 x y (.map none) (.map none); binOp .neq 137 (.map none) (.map none)) = some (.bool false) := pr_nenilm Try.underlying137 x y
theorem fsz : Try.prog.funcs.size = 166 := by kernel_rfl
theorem noGor : ∀ (f : FuncId) (fn : Func), Try.prog.funcs[f]? = some fn → (fn.name == "runtime.NumGoroutine") = false := fun f fn h => by
  have : (Try.prog.funcs.all fun fn => !(fn.name == "runtime.NumGoroutine")) = true := by kernel_rfl
  have := (Array.all_eq_true_iff_forall_mem.1 this) fn (Array.mem_of_getElem? h)
  simpa using this
theorem follows : Try.prog.follows .mixedOrders = true := by kernel_rfl
end Go.Proofs.Ytpecbeachfikmaa
