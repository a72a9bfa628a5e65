import Derived.Test.YtndjhaeeldegfaaM15
import Derived.Test.YtndjhaeeldegfaaProg
import Derived.KernelRfl
namespace Go.Proofs.Ytndjhaeeldegfaa
open Go Go.M
theorem sz1 : szOf Try.prog 1 = some 1 := by kernel_rfl
theorem by1 : M.bytesOf Try.prog 1 = some 8 := by kernel_rfl
theorem ze1 : zeroOf Try.prog 1 = some (.nilFunc) := by kernel_rfl
theorem ag1 : aggT Try.prog 1 = some false := by kernel_rfl
theorem sz2 : szOf Try.prog 2 = some 1 := by kernel_rfl
theorem by2 : M.bytesOf Try.prog 2 = some 8 := by kernel_rfl
theorem ze2 : zeroOf Try.prog 2 = some (.int .i64 0) := by kernel_rfl
theorem ag2 : aggT Try.prog 2 = some false := by kernel_rfl
theorem sz3 : szOf Try.prog 3 = some 1 := by kernel_rfl
theorem by3 : M.bytesOf Try.prog 3 = some 8 := by kernel_rfl
theorem ze3 : zeroOf Try.prog 3 = some (.int .i64 0) := by kernel_rfl
theorem ag3 : aggT Try.prog 3 = some false := by kernel_rfl
theorem sz4 : szOf Try.prog 4 = some 1 := by kernel_rfl
theorem by4 : M.bytesOf Try.prog 4 = some 1 := by kernel_rfl
theorem ze4 : zeroOf Try.prog 4 = some (.bool false) := by kernel_rfl
theorem ag4 : aggT Try.prog 4 = some false := by kernel_rfl
theorem sz5 : szOf Try.prog 5 = some 1 := by kernel_rfl
theorem by5 : M.bytesOf Try.prog 5 = some 1 := by kernel_rfl
theorem ze5 : zeroOf Try.prog 5 = some (.int .u8 0) := by kernel_rfl
theorem ag5 : aggT Try.prog 5 = some false := by kernel_rfl
theorem sz7 : szOf Try.prog 7 = some 4 := by kernel_rfl
theorem by7 : M.bytesOf Try.prog 7 = some 24 := by kernel_rfl
theorem ze7 : zeroOf Try.prog 7 = some (.agg #[.int .i64 0, .int .i64 0, .bool false, .int .u8 0]) := by kernel_rfl
theorem ag7 : aggT Try.prog 7 = some true := by kernel_rfl
theorem fo7_0 : fieldOf Try.prog 7 0 = some (0, 1, 2) := by kernel_rfl
theorem fo7_1 : fieldOf Try.prog 7 1 = some (1, 1, 3) := by kernel_rfl
theorem fo7_2 : fieldOf Try.prog 7 2 = some (2, 1, 4) := by kernel_rfl
theorem fo7_3 : fieldOf Try.prog 7 3 = some (3, 1, 6) := by kernel_rfl
theorem pl7 : places Try.prog 7 = some (#[(0, 1), (1, 1), (2, 1), (3, 1)][·]?) := by kernel_rfl
theorem sz9 : szOf Try.prog 9 = some 1 := by kernel_rfl
theorem by9 : M.bytesOf Try.prog 9 = some 16 := by kernel_rfl
theorem ze9 : zeroOf Try.prog 9 = some (.string ByteArray.empty) := by kernel_rfl
theorem ag9 : aggT Try.prog 9 = some false := by kernel_rfl
theorem sz12 : szOf Try.prog 12 = some 1 := by kernel_rfl
theorem by12 : M.bytesOf Try.prog 12 = some 8 := by kernel_rfl
theorem ze12 : zeroOf Try.prog 12 = some (.int .u64 0) := by kernel_rfl
theorem ag12 : aggT Try.prog 12 = some false := by kernel_rfl
theorem sz13 : szOf Try.prog 13 = some 2 := by kernel_rfl
theorem by13 : M.bytesOf Try.prog 13 = some 24 := by kernel_rfl
theorem ze13 : zeroOf Try.prog 13 = some (.agg #[.string ByteArray.empty, .int .u64 0]) := by kernel_rfl
theorem ag13 : aggT Try.prog 13 = some true := by kernel_rfl
theorem fo13_0 : fieldOf Try.prog 13 0 = some (0, 1, 9) := by kernel_rfl
theorem fo13_1 : fieldOf Try.prog 13 1 = some (1, 1, 12) := by kernel_rfl
theorem pl13 : places Try.prog 13 = some (#[(0, 1), (1, 1)][·]?) := by kernel_rfl
theorem sz15 : szOf Try.prog 15 = some 1 := by kernel_rfl
theorem by15 : M.bytesOf Try.prog 15 = some 8 := by kernel_rfl
theorem ze15 : zeroOf Try.prog 15 = some (.pointer none) := by kernel_rfl
theorem ag15 : aggT Try.prog 15 = some false := by kernel_rfl
theorem sz16 : szOf Try.prog 16 = some 1 := by kernel_rfl
theorem by16 : M.bytesOf Try.prog 16 = some 8 := by kernel_rfl
theorem ze16 : zeroOf Try.prog 16 = some (.pointer none) := by kernel_rfl
theorem ag16 : aggT Try.prog 16 = some false := by kernel_rfl
theorem sz17 : szOf Try.prog 17 = some 1 := by kernel_rfl
theorem by17 : M.bytesOf Try.prog 17 = some 8 := by kernel_rfl
theorem ze17 : zeroOf Try.prog 17 = some (.pointer none) := by kernel_rfl
theorem ag17 : aggT Try.prog 17 = some false := by kernel_rfl
theorem sz18 : szOf Try.prog 18 = some 1 := by kernel_rfl
theorem by18 : M.bytesOf Try.prog 18 = some 8 := by kernel_rfl
theorem ze18 : zeroOf Try.prog 18 = some (.agg #[.pointer none]) := by kernel_rfl
theorem ag18 : aggT Try.prog 18 = some true := by kernel_rfl
theorem fo18_0 : fieldOf Try.prog 18 0 = some (0, 1, 17) := by kernel_rfl
theorem pl18 : places Try.prog 18 = some (#[(0, 1)][·]?) := by kernel_rfl
theorem sz21 : szOf Try.prog 21 = some 1 := by kernel_rfl
theorem by21 : M.bytesOf Try.prog 21 = some 4 := by kernel_rfl
theorem ze21 : zeroOf Try.prog 21 = some (.int .i32 0) := by kernel_rfl
theorem ag21 : aggT Try.prog 21 = some false := by kernel_rfl
theorem sz22 : szOf Try.prog 22 = some 1 := by kernel_rfl
theorem by22 : M.bytesOf Try.prog 22 = some 24 := by kernel_rfl
theorem ze22 : zeroOf Try.prog 22 = some (.slice none 0 0) := by kernel_rfl
theorem ag22 : aggT Try.prog 22 = some false := by kernel_rfl
theorem sz23 : szOf Try.prog 23 = some 2 := by kernel_rfl
theorem by23 : M.bytesOf Try.prog 23 = some 16 := by kernel_rfl
theorem ze23 : zeroOf Try.prog 23 = some (.agg #[.int .i64 0, .int .i64 0]) := by kernel_rfl
theorem ag23 : aggT Try.prog 23 = some true := by kernel_rfl
theorem fo23_0 : fieldOf Try.prog 23 0 = some (0, 1, 3) := by kernel_rfl
theorem fo23_1 : fieldOf Try.prog 23 1 = some (1, 1, 3) := by kernel_rfl
theorem pl23 : places Try.prog 23 = some (#[(0, 1), (1, 1)][·]?) := by kernel_rfl
theorem sz24 : szOf Try.prog 24 = some 2 := by kernel_rfl
theorem by24 : M.bytesOf Try.prog 24 = some 16 := by kernel_rfl
theorem ze24 : zeroOf Try.prog 24 = some (.agg #[.int .i64 0, .int .i64 0]) := by kernel_rfl
theorem ag24 : aggT Try.prog 24 = some true := by kernel_rfl
theorem fo24_0 : fieldOf Try.prog 24 0 = some (0, 1, 3) := by kernel_rfl
theorem fo24_1 : fieldOf Try.prog 24 1 = some (1, 1, 3) := by kernel_rfl
theorem pl24 : places Try.prog 24 = some (#[(0, 1), (1, 1)][·]?) := by kernel_rfl
theorem sz25 : szOf Try.prog 25 = some 2 := by kernel_rfl
theorem by25 : M.bytesOf Try.prog 25 = some 16 := by kernel_rfl
theorem ze25 : zeroOf Try.prog 25 = some (.agg #[.int .i64 0, .int .i64 0]) := by kernel_rfl
theorem ag25 : aggT Try.prog 25 = some true := by kernel_rfl
theorem fo25_0 : fieldOf Try.prog 25 0 = some (0, 1, 3) := by kernel_rfl
theorem fo25_1 : fieldOf Try.prog 25 1 = some (1, 1, 3) := by kernel_rfl
theorem pl25 : places Try.prog 25 = some (#[(0, 1), (1, 1)][·]?) := by kernel_rfl
theorem sz26 : szOf Try.prog 26 = some 2 := by kernel_rfl
theorem by26 : M.bytesOf Try.prog 26 = some 16 := by kernel_rfl
theorem ze26 : zeroOf Try.prog 26 = some (.agg #[.int .i64 0, .int .i64 0]) := by kernel_rfl
theorem ag26 : aggT Try.prog 26 = some true := by kernel_rfl
theorem fo26_0 : fieldOf Try.prog 26 0 = some (0, 1, 3) := by kernel_rfl
theorem fo26_1 : fieldOf Try.prog 26 1 = some (1, 1, 3) := by kernel_rfl
theorem pl26 : places Try.prog 26 = some (#[(0, 1), (1, 1)][·]?) := by kernel_rfl
theorem sz27 : szOf Try.prog 27 = some 12 := by kernel_rfl
theorem by27 : M.bytesOf Try.prog 27 = some 112 := by kernel_rfl
theorem ze27 : zeroOf Try.prog 27 = some (.agg #[.int .i64 0, .int .i64 0, .int .i64 0, .int .i64 0, .slice none 0 0, .int .i64 0, .int .i64 0, .int .i64 0, .int .i64 0, .int .i64 0, .int .i64 0, .int .i64 0]) := by kernel_rfl
theorem ag27 : aggT Try.prog 27 = some true := by kernel_rfl
theorem fo27_0 : fieldOf Try.prog 27 0 = some (0, 1, 3) := by kernel_rfl
theorem fo27_1 : fieldOf Try.prog 27 1 = some (1, 1, 3) := by kernel_rfl
theorem fo27_2 : fieldOf Try.prog 27 2 = some (2, 1, 3) := by kernel_rfl
theorem fo27_3 : fieldOf Try.prog 27 3 = some (3, 1, 3) := by kernel_rfl
theorem fo27_4 : fieldOf Try.prog 27 4 = some (4, 1, 22) := by kernel_rfl
theorem fo27_5 : fieldOf Try.prog 27 5 = some (5, 2, 24) := by kernel_rfl
theorem fo27_6 : fieldOf Try.prog 27 6 = some (7, 1, 3) := by kernel_rfl
theorem fo27_7 : fieldOf Try.prog 27 7 = some (8, 1, 3) := by kernel_rfl
theorem fo27_8 : fieldOf Try.prog 27 8 = some (9, 1, 3) := by kernel_rfl
theorem fo27_9 : fieldOf Try.prog 27 9 = some (10, 2, 26) := by kernel_rfl
theorem pl27 : places Try.prog 27 = some (#[(0, 1), (1, 1), (2, 1), (3, 1), (4, 1), (5, 2), (7, 1), (8, 1), (9, 1), (10, 2)][·]?) := by kernel_rfl
theorem sz28 : szOf Try.prog 28 = some 12 := by kernel_rfl
theorem by28 : M.bytesOf Try.prog 28 = some 112 := by kernel_rfl
theorem ze28 : zeroOf Try.prog 28 = some (.agg #[.int .i64 0, .int .i64 0, .int .i64 0, .int .i64 0, .slice none 0 0, .int .i64 0, .int .i64 0, .int .i64 0, .int .i64 0, .int .i64 0, .int .i64 0, .int .i64 0]) := by kernel_rfl
theorem ag28 : aggT Try.prog 28 = some true := by kernel_rfl
theorem fo28_0 : fieldOf Try.prog 28 0 = some (0, 1, 3) := by kernel_rfl
theorem fo28_1 : fieldOf Try.prog 28 1 = some (1, 1, 3) := by kernel_rfl
theorem fo28_2 : fieldOf Try.prog 28 2 = some (2, 1, 3) := by kernel_rfl
theorem fo28_3 : fieldOf Try.prog 28 3 = some (3, 1, 3) := by kernel_rfl
theorem fo28_4 : fieldOf Try.prog 28 4 = some (4, 1, 22) := by kernel_rfl
theorem fo28_5 : fieldOf Try.prog 28 5 = some (5, 2, 24) := by kernel_rfl
theorem fo28_6 : fieldOf Try.prog 28 6 = some (7, 1, 3) := by kernel_rfl
theorem fo28_7 : fieldOf Try.prog 28 7 = some (8, 1, 3) := by kernel_rfl
theorem fo28_8 : fieldOf Try.prog 28 8 = some (9, 1, 3) := by kernel_rfl
theorem fo28_9 : fieldOf Try.prog 28 9 = some (10, 2, 26) := by kernel_rfl
theorem pl28 : places Try.prog 28 = some (#[(0, 1), (1, 1), (2, 1), (3, 1), (4, 1), (5, 2), (7, 1), (8, 1), (9, 1), (10, 2)][·]?) := by kernel_rfl
theorem sz29 : szOf Try.prog 29 = some 1 := by kernel_rfl
theorem by29 : M.bytesOf Try.prog 29 = some 8 := by kernel_rfl
theorem ze29 : zeroOf Try.prog 29 = some (.pointer none) := by kernel_rfl
theorem ag29 : aggT Try.prog 29 = some false := by kernel_rfl
theorem sz30 : szOf Try.prog 30 = some 1 := by kernel_rfl
theorem by30 : M.bytesOf Try.prog 30 = some 8 := by kernel_rfl
theorem ze30 : zeroOf Try.prog 30 = some (.nilFunc) := by kernel_rfl
theorem ag30 : aggT Try.prog 30 = some false := by kernel_rfl
theorem sz31 : szOf Try.prog 31 = some 1 := by kernel_rfl
theorem by31 : M.bytesOf Try.prog 31 = some 8 := by kernel_rfl
theorem ze31 : zeroOf Try.prog 31 = some (.int .i64 0) := by kernel_rfl
theorem ag31 : aggT Try.prog 31 = some false := by kernel_rfl
theorem sz32 : szOf Try.prog 32 = some 1 := by kernel_rfl
theorem by32 : M.bytesOf Try.prog 32 = some 8 := by kernel_rfl
theorem ze32 : zeroOf Try.prog 32 = some (.nilFunc) := by kernel_rfl
theorem ag32 : aggT Try.prog 32 = some false := by kernel_rfl
theorem sz33 : szOf Try.prog 33 = some 1 := by kernel_rfl
theorem by33 : M.bytesOf Try.prog 33 = some 24 := by kernel_rfl
theorem ze33 : zeroOf Try.prog 33 = some (.slice none 0 0) := by kernel_rfl
theorem ag33 : aggT Try.prog 33 = some false := by kernel_rfl
theorem sz34 : szOf Try.prog 34 = some 1 := by kernel_rfl
theorem by34 : M.bytesOf Try.prog 34 = some 8 := by kernel_rfl
theorem ze34 : zeroOf Try.prog 34 = some (.nilFunc) := by kernel_rfl
theorem ag34 : aggT Try.prog 34 = some false := by kernel_rfl
theorem sz35 : szOf Try.prog 35 = some 1 := by kernel_rfl
theorem by35 : M.bytesOf Try.prog 35 = some 8 := by kernel_rfl
theorem ze35 : zeroOf Try.prog 35 = some (.nilFunc) := by kernel_rfl
theorem ag35 : aggT Try.prog 35 = some false := by kernel_rfl
theorem sz36 : szOf Try.prog 36 = some 1 := by kernel_rfl
theorem by36 : M.bytesOf Try.prog 36 = some 8 := by kernel_rfl
theorem ze36 : zeroOf Try.prog 36 = some (.nilFunc) := by kernel_rfl
theorem ag36 : aggT Try.prog 36 = some false := by kernel_rfl
theorem sz37 : szOf Try.prog 37 = some 1 := by kernel_rfl
theorem by37 : M.bytesOf Try.prog 37 = some 8 := by kernel_rfl
theorem ze37 : zeroOf Try.prog 37 = some (.nilFunc) := by kernel_rfl
theorem ag37 : aggT Try.prog 37 = some false := by kernel_rfl
theorem sz38 : szOf Try.prog 38 = some 1 := by kernel_rfl
theorem by38 : M.bytesOf Try.prog 38 = some 8 := by kernel_rfl
theorem ze38 : zeroOf Try.prog 38 = some (.map none) := by kernel_rfl
theorem ag38 : aggT Try.prog 38 = some false := by kernel_rfl
theorem sz39 : szOf Try.prog 39 = some 3 := by kernel_rfl
theorem by39 : M.bytesOf Try.prog 39 = some 24 := by kernel_rfl
theorem ze39 : zeroOf Try.prog 39 = some (.agg #[.int .i64 0, .int .i64 0, .int .i64 0]) := by kernel_rfl
theorem ag39 : aggT Try.prog 39 = some true := by kernel_rfl
theorem fo39_0 : fieldOf Try.prog 39 0 = some (0, 1, 3) := by kernel_rfl
theorem fo39_1 : fieldOf Try.prog 39 1 = some (1, 1, 3) := by kernel_rfl
theorem fo39_2 : fieldOf Try.prog 39 2 = some (2, 1, 3) := by kernel_rfl
theorem pl39 : places Try.prog 39 = some (#[(0, 1), (1, 1), (2, 1)][·]?) := by kernel_rfl
theorem sz40 : szOf Try.prog 40 = some 3 := by kernel_rfl
theorem by40 : M.bytesOf Try.prog 40 = some 24 := by kernel_rfl
theorem ze40 : zeroOf Try.prog 40 = some (.agg #[.int .i64 0, .int .i64 0, .int .i64 0]) := by kernel_rfl
theorem ag40 : aggT Try.prog 40 = some true := by kernel_rfl
theorem fo40_0 : fieldOf Try.prog 40 0 = some (0, 1, 3) := by kernel_rfl
theorem fo40_1 : fieldOf Try.prog 40 1 = some (1, 1, 3) := by kernel_rfl
theorem fo40_2 : fieldOf Try.prog 40 2 = some (2, 1, 3) := by kernel_rfl
theorem pl40 : places Try.prog 40 = some (#[(0, 1), (1, 1), (2, 1)][·]?) := by kernel_rfl
theorem sz41 : szOf Try.prog 41 = some 1 := by kernel_rfl
theorem by41 : M.bytesOf Try.prog 41 = some 8 := by kernel_rfl
theorem ze41 : zeroOf Try.prog 41 = some (.nilFunc) := by kernel_rfl
theorem ag41 : aggT Try.prog 41 = some false := by kernel_rfl
theorem sz42 : szOf Try.prog 42 = some 1 := by kernel_rfl
theorem by42 : M.bytesOf Try.prog 42 = some 8 := by kernel_rfl
theorem ze42 : zeroOf Try.prog 42 = some (.nilFunc) := by kernel_rfl
theorem ag42 : aggT Try.prog 42 = some false := by kernel_rfl
theorem sz43 : szOf Try.prog 43 = some 1 := by kernel_rfl
theorem by43 : M.bytesOf Try.prog 43 = some 8 := by kernel_rfl
theorem ze43 : zeroOf Try.prog 43 = some (.nilFunc) := by kernel_rfl
theorem ag43 : aggT Try.prog 43 = some false := by kernel_rfl
theorem sz44 : szOf Try.prog 44 = some 1 := by kernel_rfl
theorem by44 : M.bytesOf Try.prog 44 = some 8 := by kernel_rfl
theorem ze44 : zeroOf Try.prog 44 = some (.nilFunc) := by kernel_rfl
theorem ag44 : aggT Try.prog 44 = some false := by kernel_rfl
theorem sz45 : szOf Try.prog 45 = some 1 := by kernel_rfl
theorem by45 : M.bytesOf Try.prog 45 = some 8 := by kernel_rfl
theorem ze45 : zeroOf Try.prog 45 = some (.nilFunc) := by kernel_rfl
theorem ag45 : aggT Try.prog 45 = some false := by kernel_rfl
theorem sz46 : szOf Try.prog 46 = some 1 := by kernel_rfl
theorem by46 : M.bytesOf Try.prog 46 = some 2 := by kernel_rfl
theorem ze46 : zeroOf Try.prog 46 = some (.int .u16 0) := by kernel_rfl
theorem ag46 : aggT Try.prog 46 = some false := by kernel_rfl
theorem sz47 : szOf Try.prog 47 = some 1 := by kernel_rfl
theorem by47 : M.bytesOf Try.prog 47 = some 8 := by kernel_rfl
theorem ze47 : zeroOf Try.prog 47 = some (.nilFunc) := by kernel_rfl
theorem ag47 : aggT Try.prog 47 = some false := by kernel_rfl
theorem sz48 : szOf Try.prog 48 = some 1 := by kernel_rfl
theorem by48 : M.bytesOf Try.prog 48 = some 8 := by kernel_rfl
theorem ze48 : zeroOf Try.prog 48 = some (.nilFunc) := by kernel_rfl
theorem ag48 : aggT Try.prog 48 = some false := by kernel_rfl
theorem sz49 : szOf Try.prog 49 = some 1 := by kernel_rfl
theorem by49 : M.bytesOf Try.prog 49 = some 24 := by kernel_rfl
theorem ze49 : zeroOf Try.prog 49 = some (.slice none 0 0) := by kernel_rfl
theorem ag49 : aggT Try.prog 49 = some false := by kernel_rfl
theorem sz50 : szOf Try.prog 50 = some 1 := by kernel_rfl
theorem by50 : M.bytesOf Try.prog 50 = some 8 := by kernel_rfl
theorem ze50 : zeroOf Try.prog 50 = some (.pointer none) := by kernel_rfl
theorem ag50 : aggT Try.prog 50 = some false := by kernel_rfl
theorem sz51 : szOf Try.prog 51 = some 2 := by kernel_rfl
theorem by51 : M.bytesOf Try.prog 51 = some 32 := by kernel_rfl
theorem ze51 : zeroOf Try.prog 51 = some (.agg #[.int .i64 0, .slice none 0 0]) := by kernel_rfl
theorem ag51 : aggT Try.prog 51 = some true := by kernel_rfl
theorem fo51_0 : fieldOf Try.prog 51 0 = some (0, 1, 3) := by kernel_rfl
theorem fo51_1 : fieldOf Try.prog 51 1 = some (1, 1, 33) := by kernel_rfl
theorem pl51 : places Try.prog 51 = some (#[(0, 1), (1, 1)][·]?) := by kernel_rfl
theorem sz52 : szOf Try.prog 52 = some 2 := by kernel_rfl
theorem by52 : M.bytesOf Try.prog 52 = some 32 := by kernel_rfl
theorem ze52 : zeroOf Try.prog 52 = some (.agg #[.int .i64 0, .slice none 0 0]) := by kernel_rfl
theorem ag52 : aggT Try.prog 52 = some true := by kernel_rfl
theorem fo52_0 : fieldOf Try.prog 52 0 = some (0, 1, 3) := by kernel_rfl
theorem fo52_1 : fieldOf Try.prog 52 1 = some (1, 1, 33) := by kernel_rfl
theorem pl52 : places Try.prog 52 = some (#[(0, 1), (1, 1)][·]?) := by kernel_rfl
theorem sz53 : szOf Try.prog 53 = some 14 := by kernel_rfl
theorem by53 : M.bytesOf Try.prog 53 = some 128 := by kernel_rfl
theorem ze53 : zeroOf Try.prog 53 = some (.agg #[.bool false, .int .i64 0, .int .i64 0, .int .i64 0, .int .i64 0, .int .i64 0, .slice none 0 0, .int .i64 0, .int .i64 0, .int .i64 0, .int .i64 0, .int .i64 0, .int .i64 0, .int .i64 0]) := by kernel_rfl
theorem ag53 : aggT Try.prog 53 = some true := by kernel_rfl
theorem fo53_0 : fieldOf Try.prog 53 0 = some (0, 1, 4) := by kernel_rfl
theorem fo53_1 : fieldOf Try.prog 53 1 = some (1, 1, 3) := by kernel_rfl
theorem fo53_2 : fieldOf Try.prog 53 2 = some (2, 12, 28) := by kernel_rfl
theorem pl53 : places Try.prog 53 = some (#[(0, 1), (1, 1), (2, 12)][·]?) := by kernel_rfl
theorem sz54 : szOf Try.prog 54 = some 14 := by kernel_rfl
theorem by54 : M.bytesOf Try.prog 54 = some 128 := by kernel_rfl
theorem ze54 : zeroOf Try.prog 54 = some (.agg #[.bool false, .int .i64 0, .int .i64 0, .int .i64 0, .int .i64 0, .int .i64 0, .slice none 0 0, .int .i64 0, .int .i64 0, .int .i64 0, .int .i64 0, .int .i64 0, .int .i64 0, .int .i64 0]) := by kernel_rfl
theorem ag54 : aggT Try.prog 54 = some true := by kernel_rfl
theorem fo54_0 : fieldOf Try.prog 54 0 = some (0, 1, 4) := by kernel_rfl
theorem fo54_1 : fieldOf Try.prog 54 1 = some (1, 1, 3) := by kernel_rfl
theorem fo54_2 : fieldOf Try.prog 54 2 = some (2, 12, 28) := by kernel_rfl
theorem pl54 : places Try.prog 54 = some (#[(0, 1), (1, 1), (2, 12)][·]?) := by kernel_rfl
theorem sz55 : szOf Try.prog 55 = some 1 := by kernel_rfl
theorem by55 : M.bytesOf Try.prog 55 = some 8 := by kernel_rfl
theorem ze55 : zeroOf Try.prog 55 = some (.nilFunc) := by kernel_rfl
theorem ag55 : aggT Try.prog 55 = some false := by kernel_rfl
theorem sz56 : szOf Try.prog 56 = some 1 := by kernel_rfl
theorem by56 : M.bytesOf Try.prog 56 = some 8 := by kernel_rfl
theorem ze56 : zeroOf Try.prog 56 = some (.nilFunc) := by kernel_rfl
theorem ag56 : aggT Try.prog 56 = some false := by kernel_rfl
theorem sz57 : szOf Try.prog 57 = some 1 := by kernel_rfl
theorem by57 : M.bytesOf Try.prog 57 = some 8 := by kernel_rfl
theorem ze57 : zeroOf Try.prog 57 = some (.nilFunc) := by kernel_rfl
theorem ag57 : aggT Try.prog 57 = some false := by kernel_rfl
theorem sz58 : szOf Try.prog 58 = some 1 := by kernel_rfl
theorem by58 : M.bytesOf Try.prog 58 = some 8 := by kernel_rfl
theorem ze58 : zeroOf Try.prog 58 = some (.nilFunc) := by kernel_rfl
theorem ag58 : aggT Try.prog 58 = some false := by kernel_rfl
theorem sz59 : szOf Try.prog 59 = some 1 := by kernel_rfl
theorem by59 : M.bytesOf Try.prog 59 = some 8 := by kernel_rfl
theorem ze59 : zeroOf Try.prog 59 = some (.map none) := by kernel_rfl
theorem ag59 : aggT Try.prog 59 = some false := by kernel_rfl
theorem sz60 : szOf Try.prog 60 = some 2 := by kernel_rfl
theorem by60 : M.bytesOf Try.prog 60 = some 16 := by kernel_rfl
theorem ze60 : zeroOf Try.prog 60 = some (.agg #[.int .i64 0, .map none]) := by kernel_rfl
theorem ag60 : aggT Try.prog 60 = some true := by kernel_rfl
theorem fo60_0 : fieldOf Try.prog 60 0 = some (0, 1, 3) := by kernel_rfl
theorem fo60_1 : fieldOf Try.prog 60 1 = some (1, 1, 59) := by kernel_rfl
theorem pl60 : places Try.prog 60 = some (#[(0, 1), (1, 1)][·]?) := by kernel_rfl
theorem sz61 : szOf Try.prog 61 = some 2 := by kernel_rfl
theorem by61 : M.bytesOf Try.prog 61 = some 16 := by kernel_rfl
theorem ze61 : zeroOf Try.prog 61 = some (.agg #[.int .i64 0, .map none]) := by kernel_rfl
theorem ag61 : aggT Try.prog 61 = some true := by kernel_rfl
theorem fo61_0 : fieldOf Try.prog 61 0 = some (0, 1, 3) := by kernel_rfl
theorem fo61_1 : fieldOf Try.prog 61 1 = some (1, 1, 59) := by kernel_rfl
theorem pl61 : places Try.prog 61 = some (#[(0, 1), (1, 1)][·]?) := by kernel_rfl
theorem sz62 : szOf Try.prog 62 = some 1 := by kernel_rfl
theorem by62 : M.bytesOf Try.prog 62 = some 24 := by kernel_rfl
theorem ze62 : zeroOf Try.prog 62 = some (.slice none 0 0) := by kernel_rfl
theorem ag62 : aggT Try.prog 62 = some false := by kernel_rfl
theorem sz63 : szOf Try.prog 63 = some 1 := by kernel_rfl
theorem by63 : M.bytesOf Try.prog 63 = some 24 := by kernel_rfl
theorem ze63 : zeroOf Try.prog 63 = some (.slice none 0 0) := by kernel_rfl
theorem ag63 : aggT Try.prog 63 = some false := by kernel_rfl
theorem sz64 : szOf Try.prog 64 = some 4 := by kernel_rfl
theorem by64 : M.bytesOf Try.prog 64 = some 64 := by kernel_rfl
theorem ze64 : zeroOf Try.prog 64 = some (.agg #[.int .i64 0, .int .i64 0, .slice none 0 0, .slice none 0 0]) := by kernel_rfl
theorem ag64 : aggT Try.prog 64 = some true := by kernel_rfl
theorem fo64_0 : fieldOf Try.prog 64 0 = some (0, 1, 3) := by kernel_rfl
theorem fo64_1 : fieldOf Try.prog 64 1 = some (1, 1, 3) := by kernel_rfl
theorem fo64_2 : fieldOf Try.prog 64 2 = some (2, 1, 62) := by kernel_rfl
theorem fo64_3 : fieldOf Try.prog 64 3 = some (3, 1, 63) := by kernel_rfl
theorem pl64 : places Try.prog 64 = some (#[(0, 1), (1, 1), (2, 1), (3, 1)][·]?) := by kernel_rfl
theorem sz65 : szOf Try.prog 65 = some 4 := by kernel_rfl
theorem by65 : M.bytesOf Try.prog 65 = some 64 := by kernel_rfl
theorem ze65 : zeroOf Try.prog 65 = some (.agg #[.int .i64 0, .int .i64 0, .slice none 0 0, .slice none 0 0]) := by kernel_rfl
theorem ag65 : aggT Try.prog 65 = some true := by kernel_rfl
theorem fo65_0 : fieldOf Try.prog 65 0 = some (0, 1, 3) := by kernel_rfl
theorem fo65_1 : fieldOf Try.prog 65 1 = some (1, 1, 3) := by kernel_rfl
theorem fo65_2 : fieldOf Try.prog 65 2 = some (2, 1, 62) := by kernel_rfl
theorem fo65_3 : fieldOf Try.prog 65 3 = some (3, 1, 63) := by kernel_rfl
theorem pl65 : places Try.prog 65 = some (#[(0, 1), (1, 1), (2, 1), (3, 1)][·]?) := by kernel_rfl
theorem sz66 : szOf Try.prog 66 = some 1 := by kernel_rfl
theorem by66 : M.bytesOf Try.prog 66 = some 24 := by kernel_rfl
theorem ze66 : zeroOf Try.prog 66 = some (.slice none 0 0) := by kernel_rfl
theorem ag66 : aggT Try.prog 66 = some false := by kernel_rfl
theorem sz67 : szOf Try.prog 67 = some 4 := by kernel_rfl
theorem by67 : M.bytesOf Try.prog 67 = some 32 := by kernel_rfl
theorem ze67 : zeroOf Try.prog 67 = some (.agg #[.int .i64 0, .int .i64 0, .int .i64 0, .int .i64 0]) := by kernel_rfl
theorem ag67 : aggT Try.prog 67 = some true := by kernel_rfl
theorem pl67 : places Try.prog 67 = some (fun i => some (i * 1, 1)) := by kernel_rfl
theorem sz68 : szOf Try.prog 68 = some 1 := by kernel_rfl
theorem by68 : M.bytesOf Try.prog 68 = some 8 := by kernel_rfl
theorem ze68 : zeroOf Try.prog 68 = some (.pointer none) := by kernel_rfl
theorem ag68 : aggT Try.prog 68 = some false := by kernel_rfl
theorem sz69 : szOf Try.prog 69 = some 1 := by kernel_rfl
theorem by69 : M.bytesOf Try.prog 69 = some 8 := by kernel_rfl
theorem ze69 : zeroOf Try.prog 69 = some (.pointer none) := by kernel_rfl
theorem ag69 : aggT Try.prog 69 = some false := by kernel_rfl
theorem sz70 : szOf Try.prog 70 = some 2 := by kernel_rfl
theorem by70 : M.bytesOf Try.prog 70 = some 16 := by kernel_rfl
theorem ze70 : zeroOf Try.prog 70 = some (.agg #[.pointer none, .pointer none]) := by kernel_rfl
theorem ag70 : aggT Try.prog 70 = some true := by kernel_rfl
theorem fo70_0 : fieldOf Try.prog 70 0 = some (0, 1, 68) := by kernel_rfl
theorem fo70_1 : fieldOf Try.prog 70 1 = some (1, 1, 69) := by kernel_rfl
theorem pl70 : places Try.prog 70 = some (#[(0, 1), (1, 1)][·]?) := by kernel_rfl
theorem sz71 : szOf Try.prog 71 = some 2 := by kernel_rfl
theorem by71 : M.bytesOf Try.prog 71 = some 16 := by kernel_rfl
theorem ze71 : zeroOf Try.prog 71 = some (.agg #[.pointer none, .pointer none]) := by kernel_rfl
theorem ag71 : aggT Try.prog 71 = some true := by kernel_rfl
theorem fo71_0 : fieldOf Try.prog 71 0 = some (0, 1, 68) := by kernel_rfl
theorem fo71_1 : fieldOf Try.prog 71 1 = some (1, 1, 69) := by kernel_rfl
theorem pl71 : places Try.prog 71 = some (#[(0, 1), (1, 1)][·]?) := by kernel_rfl
theorem sz73 : szOf Try.prog 73 = some 1 := by kernel_rfl
theorem by73 : M.bytesOf Try.prog 73 = some 8 := by kernel_rfl
theorem ze73 : zeroOf Try.prog 73 = some (.nilFunc) := by kernel_rfl
theorem ag73 : aggT Try.prog 73 = some false := by kernel_rfl
theorem sz75 : szOf Try.prog 75 = some 1 := by kernel_rfl
theorem by75 : M.bytesOf Try.prog 75 = some 8 := by kernel_rfl
theorem ze75 : zeroOf Try.prog 75 = some (.nilFunc) := by kernel_rfl
theorem ag75 : aggT Try.prog 75 = some false := by kernel_rfl
theorem sz76 : szOf Try.prog 76 = some 1 := by kernel_rfl
theorem by76 : M.bytesOf Try.prog 76 = some 8 := by kernel_rfl
theorem ze76 : zeroOf Try.prog 76 = some (.nilFunc) := by kernel_rfl
theorem ag76 : aggT Try.prog 76 = some false := by kernel_rfl
theorem sz77 : szOf Try.prog 77 = some 4 := by kernel_rfl
theorem by77 : M.bytesOf Try.prog 77 = some 32 := by kernel_rfl
theorem ze77 : zeroOf Try.prog 77 = some (.agg #[.int .i64 0, .int .i64 0, .int .i64 0, .int .i64 0]) := by kernel_rfl
theorem ag77 : aggT Try.prog 77 = some true := by kernel_rfl
theorem fo77_0 : fieldOf Try.prog 77 0 = some (0, 2, 24) := by kernel_rfl
theorem fo77_1 : fieldOf Try.prog 77 1 = some (2, 1, 3) := by kernel_rfl
theorem fo77_2 : fieldOf Try.prog 77 2 = some (3, 1, 3) := by kernel_rfl
theorem pl77 : places Try.prog 77 = some (#[(0, 2), (2, 1), (3, 1)][·]?) := by kernel_rfl
theorem sz78 : szOf Try.prog 78 = some 4 := by kernel_rfl
theorem by78 : M.bytesOf Try.prog 78 = some 32 := by kernel_rfl
theorem ze78 : zeroOf Try.prog 78 = some (.agg #[.int .i64 0, .int .i64 0, .int .i64 0, .int .i64 0]) := by kernel_rfl
theorem ag78 : aggT Try.prog 78 = some true := by kernel_rfl
theorem fo78_0 : fieldOf Try.prog 78 0 = some (0, 2, 24) := by kernel_rfl
theorem fo78_1 : fieldOf Try.prog 78 1 = some (2, 1, 3) := by kernel_rfl
theorem fo78_2 : fieldOf Try.prog 78 2 = some (3, 1, 3) := by kernel_rfl
theorem pl78 : places Try.prog 78 = some (#[(0, 2), (2, 1), (3, 1)][·]?) := by kernel_rfl
theorem sz80 : szOf Try.prog 80 = some 1 := by kernel_rfl
theorem by80 : M.bytesOf Try.prog 80 = some 8 := by kernel_rfl
theorem ze80 : zeroOf Try.prog 80 = some (.nilFunc) := by kernel_rfl
theorem ag80 : aggT Try.prog 80 = some false := by kernel_rfl
theorem sz81 : szOf Try.prog 81 = some 1 := by kernel_rfl
theorem by81 : M.bytesOf Try.prog 81 = some 8 := by kernel_rfl
theorem ze81 : zeroOf Try.prog 81 = some (.nilFunc) := by kernel_rfl
theorem ag81 : aggT Try.prog 81 = some false := by kernel_rfl
theorem sz82 : szOf Try.prog 82 = some 1 := by kernel_rfl
theorem by82 : M.bytesOf Try.prog 82 = some 8 := by kernel_rfl
theorem ze82 : zeroOf Try.prog 82 = some (.nilFunc) := by kernel_rfl
theorem ag82 : aggT Try.prog 82 = some false := by kernel_rfl
theorem sz83 : szOf Try.prog 83 = some 1 := by kernel_rfl
theorem by83 : M.bytesOf Try.prog 83 = some 24 := by kernel_rfl
theorem ze83 : zeroOf Try.prog 83 = some (.slice none 0 0) := by kernel_rfl
theorem ag83 : aggT Try.prog 83 = some false := by kernel_rfl
theorem sz84 : szOf Try.prog 84 = some 1 := by kernel_rfl
theorem by84 : M.bytesOf Try.prog 84 = some 8 := by kernel_rfl
theorem ze84 : zeroOf Try.prog 84 = some (.nilFunc) := by kernel_rfl
theorem ag84 : aggT Try.prog 84 = some false := by kernel_rfl
theorem sz85 : szOf Try.prog 85 = some 1 := by kernel_rfl
theorem by85 : M.bytesOf Try.prog 85 = some 8 := by kernel_rfl
theorem ze85 : zeroOf Try.prog 85 = some (.nilFunc) := by kernel_rfl
theorem ag85 : aggT Try.prog 85 = some false := by kernel_rfl
theorem sz86 : szOf Try.prog 86 = some 1 := by kernel_rfl
theorem by86 : M.bytesOf Try.prog 86 = some 8 := by kernel_rfl
theorem ze86 : zeroOf Try.prog 86 = some (.nilFunc) := by kernel_rfl
theorem ag86 : aggT Try.prog 86 = some false := by kernel_rfl
theorem sz87 : szOf Try.prog 87 = some 1 := by kernel_rfl
theorem by87 : M.bytesOf Try.prog 87 = some 8 := by kernel_rfl
theorem ze87 : zeroOf Try.prog 87 = some (.nilFunc) := by kernel_rfl
theorem ag87 : aggT Try.prog 87 = some false := by kernel_rfl
theorem sz88 : szOf Try.prog 88 = some 1 := by kernel_rfl
theorem by88 : M.bytesOf Try.prog 88 = some 8 := by kernel_rfl
theorem ze88 : zeroOf Try.prog 88 = some (.nilFunc) := by kernel_rfl
theorem ag88 : aggT Try.prog 88 = some false := by kernel_rfl
theorem sz89 : szOf Try.prog 89 = some 5 := by kernel_rfl
theorem by89 : M.bytesOf Try.prog 89 = some 40 := by kernel_rfl
theorem ze89 : zeroOf Try.prog 89 = some (.agg #[.int .i64 0, .int .i64 0, .int .i64 0, .int .i64 0, .int .i64 0]) := by kernel_rfl
theorem ag89 : aggT Try.prog 89 = some true := by kernel_rfl
theorem fo89_0 : fieldOf Try.prog 89 0 = some (0, 1, 3) := by kernel_rfl
theorem fo89_1 : fieldOf Try.prog 89 1 = some (1, 4, 78) := by kernel_rfl
theorem pl89 : places Try.prog 89 = some (#[(0, 1), (1, 4)][·]?) := by kernel_rfl
theorem sz90 : szOf Try.prog 90 = some 5 := by kernel_rfl
theorem by90 : M.bytesOf Try.prog 90 = some 40 := by kernel_rfl
theorem ze90 : zeroOf Try.prog 90 = some (.agg #[.int .i64 0, .int .i64 0, .int .i64 0, .int .i64 0, .int .i64 0]) := by kernel_rfl
theorem ag90 : aggT Try.prog 90 = some true := by kernel_rfl
theorem fo90_0 : fieldOf Try.prog 90 0 = some (0, 1, 3) := by kernel_rfl
theorem fo90_1 : fieldOf Try.prog 90 1 = some (1, 4, 78) := by kernel_rfl
theorem pl90 : places Try.prog 90 = some (#[(0, 1), (1, 4)][·]?) := by kernel_rfl
theorem sz91 : szOf Try.prog 91 = some 1 := by kernel_rfl
theorem by91 : M.bytesOf Try.prog 91 = some 8 := by kernel_rfl
theorem ze91 : zeroOf Try.prog 91 = some (.nilFunc) := by kernel_rfl
theorem ag91 : aggT Try.prog 91 = some false := by kernel_rfl
theorem sz92 : szOf Try.prog 92 = some 1 := by kernel_rfl
theorem by92 : M.bytesOf Try.prog 92 = some 8 := by kernel_rfl
theorem ze92 : zeroOf Try.prog 92 = some (.nilFunc) := by kernel_rfl
theorem ag92 : aggT Try.prog 92 = some false := by kernel_rfl
theorem sz94 : szOf Try.prog 94 = some 1 := by kernel_rfl
theorem by94 : M.bytesOf Try.prog 94 = some 8 := by kernel_rfl
theorem ze94 : zeroOf Try.prog 94 = some (.nilFunc) := by kernel_rfl
theorem ag94 : aggT Try.prog 94 = some false := by kernel_rfl
theorem sz96 : szOf Try.prog 96 = some 1 := by kernel_rfl
theorem by96 : M.bytesOf Try.prog 96 = some 8 := by kernel_rfl
theorem ze96 : zeroOf Try.prog 96 = some (.nilFunc) := by kernel_rfl
theorem ag96 : aggT Try.prog 96 = some false := by kernel_rfl
theorem sz97 : szOf Try.prog 97 = some 1 := by kernel_rfl
theorem by97 : M.bytesOf Try.prog 97 = some 8 := by kernel_rfl
theorem ze97 : zeroOf Try.prog 97 = some (.nilFunc) := by kernel_rfl
theorem ag97 : aggT Try.prog 97 = some false := by kernel_rfl
theorem sz98 : szOf Try.prog 98 = some 1 := by kernel_rfl
theorem by98 : M.bytesOf Try.prog 98 = some 8 := by kernel_rfl
theorem ze98 : zeroOf Try.prog 98 = some (.nilFunc) := by kernel_rfl
theorem ag98 : aggT Try.prog 98 = some false := by kernel_rfl
theorem sz99 : szOf Try.prog 99 = some 1 := by kernel_rfl
theorem by99 : M.bytesOf Try.prog 99 = some 8 := by kernel_rfl
theorem ze99 : zeroOf Try.prog 99 = some (.nilFunc) := by kernel_rfl
theorem ag99 : aggT Try.prog 99 = some false := by kernel_rfl
theorem sz100 : szOf Try.prog 100 = some 6 := by kernel_rfl
theorem by100 : M.bytesOf Try.prog 100 = some 48 := by kernel_rfl
theorem ze100 : zeroOf Try.prog 100 = some (.agg #[.bool false, .int .i64 0, .int .i64 0, .int .i64 0, .int .i64 0, .int .i64 0]) := by kernel_rfl
theorem ag100 : aggT Try.prog 100 = some true := by kernel_rfl
theorem fo100_0 : fieldOf Try.prog 100 0 = some (0, 1, 4) := by kernel_rfl
theorem fo100_1 : fieldOf Try.prog 100 1 = some (1, 5, 90) := by kernel_rfl
theorem pl100 : places Try.prog 100 = some (#[(0, 1), (1, 5)][·]?) := by kernel_rfl
theorem sz101 : szOf Try.prog 101 = some 6 := by kernel_rfl
theorem by101 : M.bytesOf Try.prog 101 = some 48 := by kernel_rfl
theorem ze101 : zeroOf Try.prog 101 = some (.agg #[.bool false, .int .i64 0, .int .i64 0, .int .i64 0, .int .i64 0, .int .i64 0]) := by kernel_rfl
theorem ag101 : aggT Try.prog 101 = some true := by kernel_rfl
theorem fo101_0 : fieldOf Try.prog 101 0 = some (0, 1, 4) := by kernel_rfl
theorem fo101_1 : fieldOf Try.prog 101 1 = some (1, 5, 90) := by kernel_rfl
theorem pl101 : places Try.prog 101 = some (#[(0, 1), (1, 5)][·]?) := by kernel_rfl
theorem sz102 : szOf Try.prog 102 = some 1 := by kernel_rfl
theorem by102 : M.bytesOf Try.prog 102 = some 8 := by kernel_rfl
theorem ze102 : zeroOf Try.prog 102 = some (.nilFunc) := by kernel_rfl
theorem ag102 : aggT Try.prog 102 = some false := by kernel_rfl
theorem sz103 : szOf Try.prog 103 = some 1 := by kernel_rfl
theorem by103 : M.bytesOf Try.prog 103 = some 8 := by kernel_rfl
theorem ze103 : zeroOf Try.prog 103 = some (.nilFunc) := by kernel_rfl
theorem ag103 : aggT Try.prog 103 = some false := by kernel_rfl
theorem sz104 : szOf Try.prog 104 = some 1 := by kernel_rfl
theorem by104 : M.bytesOf Try.prog 104 = some 8 := by kernel_rfl
theorem ze104 : zeroOf Try.prog 104 = some (.map none) := by kernel_rfl
theorem ag104 : aggT Try.prog 104 = some false := by kernel_rfl
theorem sz105 : szOf Try.prog 105 = some 1 := by kernel_rfl
theorem by105 : M.bytesOf Try.prog 105 = some 8 := by kernel_rfl
theorem ze105 : zeroOf Try.prog 105 = some (.map none) := by kernel_rfl
theorem ag105 : aggT Try.prog 105 = some false := by kernel_rfl
theorem sz106 : szOf Try.prog 106 = some 6 := by kernel_rfl
theorem by106 : M.bytesOf Try.prog 106 = some 80 := by kernel_rfl
theorem ze106 : zeroOf Try.prog 106 = some (.agg #[.int .i64 0, .int .i64 0, .slice none 0 0, .map none, .map none, .slice none 0 0]) := by kernel_rfl
theorem ag106 : aggT Try.prog 106 = some true := by kernel_rfl
theorem fo106_0 : fieldOf Try.prog 106 0 = some (0, 1, 3) := by kernel_rfl
theorem fo106_1 : fieldOf Try.prog 106 1 = some (1, 1, 3) := by kernel_rfl
theorem fo106_2 : fieldOf Try.prog 106 2 = some (2, 1, 62) := by kernel_rfl
theorem fo106_3 : fieldOf Try.prog 106 3 = some (3, 1, 104) := by kernel_rfl
theorem fo106_4 : fieldOf Try.prog 106 4 = some (4, 1, 105) := by kernel_rfl
theorem fo106_5 : fieldOf Try.prog 106 5 = some (5, 1, 83) := by kernel_rfl
theorem pl106 : places Try.prog 106 = some (#[(0, 1), (1, 1), (2, 1), (3, 1), (4, 1), (5, 1)][·]?) := by kernel_rfl
theorem sz107 : szOf Try.prog 107 = some 6 := by kernel_rfl
theorem by107 : M.bytesOf Try.prog 107 = some 80 := by kernel_rfl
theorem ze107 : zeroOf Try.prog 107 = some (.agg #[.int .i64 0, .int .i64 0, .slice none 0 0, .map none, .map none, .slice none 0 0]) := by kernel_rfl
theorem ag107 : aggT Try.prog 107 = some true := by kernel_rfl
theorem fo107_0 : fieldOf Try.prog 107 0 = some (0, 1, 3) := by kernel_rfl
theorem fo107_1 : fieldOf Try.prog 107 1 = some (1, 1, 3) := by kernel_rfl
theorem fo107_2 : fieldOf Try.prog 107 2 = some (2, 1, 62) := by kernel_rfl
theorem fo107_3 : fieldOf Try.prog 107 3 = some (3, 1, 104) := by kernel_rfl
theorem fo107_4 : fieldOf Try.prog 107 4 = some (4, 1, 105) := by kernel_rfl
theorem fo107_5 : fieldOf Try.prog 107 5 = some (5, 1, 83) := by kernel_rfl
theorem pl107 : places Try.prog 107 = some (#[(0, 1), (1, 1), (2, 1), (3, 1), (4, 1), (5, 1)][·]?) := by kernel_rfl
theorem sz108 : szOf Try.prog 108 = some 1 := by kernel_rfl
theorem by108 : M.bytesOf Try.prog 108 = some 8 := by kernel_rfl
theorem ze108 : zeroOf Try.prog 108 = some (.nilFunc) := by kernel_rfl
theorem ag108 : aggT Try.prog 108 = some false := by kernel_rfl
theorem sz109 : szOf Try.prog 109 = some 1 := by kernel_rfl
theorem by109 : M.bytesOf Try.prog 109 = some 8 := by kernel_rfl
theorem ze109 : zeroOf Try.prog 109 = some (.nilFunc) := by kernel_rfl
theorem ag109 : aggT Try.prog 109 = some false := by kernel_rfl
theorem sz110 : szOf Try.prog 110 = some 1 := by kernel_rfl
theorem by110 : M.bytesOf Try.prog 110 = some 8 := by kernel_rfl
theorem ze110 : zeroOf Try.prog 110 = some (.nilFunc) := by kernel_rfl
theorem ag110 : aggT Try.prog 110 = some false := by kernel_rfl
theorem sz111 : szOf Try.prog 111 = some 1 := by kernel_rfl
theorem by111 : M.bytesOf Try.prog 111 = some 8 := by kernel_rfl
theorem ze111 : zeroOf Try.prog 111 = some (.nilFunc) := by kernel_rfl
theorem ag111 : aggT Try.prog 111 = some false := by kernel_rfl
theorem sz112 : szOf Try.prog 112 = some 1 := by kernel_rfl
theorem by112 : M.bytesOf Try.prog 112 = some 8 := by kernel_rfl
theorem ze112 : zeroOf Try.prog 112 = some (.nilFunc) := by kernel_rfl
theorem ag112 : aggT Try.prog 112 = some false := by kernel_rfl
theorem sz114 : szOf Try.prog 114 = some 1 := by kernel_rfl
theorem by114 : M.bytesOf Try.prog 114 = some 8 := by kernel_rfl
theorem ze114 : zeroOf Try.prog 114 = some (.nilFunc) := by kernel_rfl
theorem ag114 : aggT Try.prog 114 = some false := by kernel_rfl
theorem sz115 : szOf Try.prog 115 = some 1 := by kernel_rfl
theorem by115 : M.bytesOf Try.prog 115 = some 24 := by kernel_rfl
theorem ze115 : zeroOf Try.prog 115 = some (.slice none 0 0) := by kernel_rfl
theorem ag115 : aggT Try.prog 115 = some false := by kernel_rfl
theorem sz116 : szOf Try.prog 116 = some 1 := by kernel_rfl
theorem by116 : M.bytesOf Try.prog 116 = some 8 := by kernel_rfl
theorem ze116 : zeroOf Try.prog 116 = some (.nilFunc) := by kernel_rfl
theorem ag116 : aggT Try.prog 116 = some false := by kernel_rfl
theorem sz117 : szOf Try.prog 117 = some 1 := by kernel_rfl
theorem by117 : M.bytesOf Try.prog 117 = some 8 := by kernel_rfl
theorem ze117 : zeroOf Try.prog 117 = some (.nilFunc) := by kernel_rfl
theorem ag117 : aggT Try.prog 117 = some false := by kernel_rfl
theorem sz118 : szOf Try.prog 118 = some 1 := by kernel_rfl
theorem by118 : M.bytesOf Try.prog 118 = some 8 := by kernel_rfl
theorem ze118 : zeroOf Try.prog 118 = some (.nilFunc) := by kernel_rfl
theorem ag118 : aggT Try.prog 118 = some false := by kernel_rfl
theorem sz119 : szOf Try.prog 119 = some 1 := by kernel_rfl
theorem by119 : M.bytesOf Try.prog 119 = some 8 := by kernel_rfl
theorem ze119 : zeroOf Try.prog 119 = some (.nilFunc) := by kernel_rfl
theorem ag119 : aggT Try.prog 119 = some false := by kernel_rfl
theorem sz120 : szOf Try.prog 120 = some 1 := by kernel_rfl
theorem by120 : M.bytesOf Try.prog 120 = some 8 := by kernel_rfl
theorem ze120 : zeroOf Try.prog 120 = some (.nilFunc) := by kernel_rfl
theorem ag120 : aggT Try.prog 120 = some false := by kernel_rfl
theorem sz121 : szOf Try.prog 121 = some 1 := by kernel_rfl
theorem by121 : M.bytesOf Try.prog 121 = some 8 := by kernel_rfl
theorem ze121 : zeroOf Try.prog 121 = some (.nilFunc) := by kernel_rfl
theorem ag121 : aggT Try.prog 121 = some false := by kernel_rfl
theorem sz122 : szOf Try.prog 122 = some 1 := by kernel_rfl
theorem by122 : M.bytesOf Try.prog 122 = some 8 := by kernel_rfl
theorem ze122 : zeroOf Try.prog 122 = some (.nilFunc) := by kernel_rfl
theorem ag122 : aggT Try.prog 122 = some false := by kernel_rfl
theorem sz123 : szOf Try.prog 123 = some 1 := by kernel_rfl
theorem by123 : M.bytesOf Try.prog 123 = some 8 := by kernel_rfl
theorem ze123 : zeroOf Try.prog 123 = some (.nilFunc) := by kernel_rfl
theorem ag123 : aggT Try.prog 123 = some false := by kernel_rfl
theorem sz124 : szOf Try.prog 124 = some 1 := by kernel_rfl
theorem by124 : M.bytesOf Try.prog 124 = some 8 := by kernel_rfl
theorem ze124 : zeroOf Try.prog 124 = some (.nilFunc) := by kernel_rfl
theorem ag124 : aggT Try.prog 124 = some false := by kernel_rfl
theorem sz126 : szOf Try.prog 126 = some 1 := by kernel_rfl
theorem by126 : M.bytesOf Try.prog 126 = some 8 := by kernel_rfl
theorem ze126 : zeroOf Try.prog 126 = some (.nilFunc) := by kernel_rfl
theorem ag126 : aggT Try.prog 126 = some false := by kernel_rfl
theorem sz127 : szOf Try.prog 127 = some 1 := by kernel_rfl
theorem by127 : M.bytesOf Try.prog 127 = some 8 := by kernel_rfl
theorem ze127 : zeroOf Try.prog 127 = some (.nilFunc) := by kernel_rfl
theorem ag127 : aggT Try.prog 127 = some false := by kernel_rfl
theorem sz128 : szOf Try.prog 128 = some 1 := by kernel_rfl
theorem by128 : M.bytesOf Try.prog 128 = some 8 := by kernel_rfl
theorem ze128 : zeroOf Try.prog 128 = some (.nilFunc) := by kernel_rfl
theorem ag128 : aggT Try.prog 128 = some false := by kernel_rfl
theorem sz129 : szOf Try.prog 129 = some 1 := by kernel_rfl
theorem by129 : M.bytesOf Try.prog 129 = some 8 := by kernel_rfl
theorem ze129 : zeroOf Try.prog 129 = some (.nilFunc) := by kernel_rfl
theorem ag129 : aggT Try.prog 129 = some false := by kernel_rfl
theorem sz130 : szOf Try.prog 130 = some 5 := by kernel_rfl
theorem by130 : M.bytesOf Try.prog 130 = some 88 := by kernel_rfl
theorem ze130 : zeroOf Try.prog 130 = some (.agg #[.int .i64 0, .int .i64 0, .slice none 0 0, .slice none 0 0, .slice none 0 0]) := by kernel_rfl
theorem ag130 : aggT Try.prog 130 = some true := by kernel_rfl
theorem fo130_0 : fieldOf Try.prog 130 0 = some (0, 1, 3) := by kernel_rfl
theorem fo130_1 : fieldOf Try.prog 130 1 = some (1, 1, 3) := by kernel_rfl
theorem fo130_2 : fieldOf Try.prog 130 2 = some (2, 1, 62) := by kernel_rfl
theorem fo130_3 : fieldOf Try.prog 130 3 = some (3, 1, 63) := by kernel_rfl
theorem fo130_4 : fieldOf Try.prog 130 4 = some (4, 1, 83) := by kernel_rfl
theorem pl130 : places Try.prog 130 = some (#[(0, 1), (1, 1), (2, 1), (3, 1), (4, 1)][·]?) := by kernel_rfl
theorem sz131 : szOf Try.prog 131 = some 5 := by kernel_rfl
theorem by131 : M.bytesOf Try.prog 131 = some 88 := by kernel_rfl
theorem ze131 : zeroOf Try.prog 131 = some (.agg #[.int .i64 0, .int .i64 0, .slice none 0 0, .slice none 0 0, .slice none 0 0]) := by kernel_rfl
theorem ag131 : aggT Try.prog 131 = some true := by kernel_rfl
theorem fo131_0 : fieldOf Try.prog 131 0 = some (0, 1, 3) := by kernel_rfl
theorem fo131_1 : fieldOf Try.prog 131 1 = some (1, 1, 3) := by kernel_rfl
theorem fo131_2 : fieldOf Try.prog 131 2 = some (2, 1, 62) := by kernel_rfl
theorem fo131_3 : fieldOf Try.prog 131 3 = some (3, 1, 63) := by kernel_rfl
theorem fo131_4 : fieldOf Try.prog 131 4 = some (4, 1, 83) := by kernel_rfl
theorem pl131 : places Try.prog 131 = some (#[(0, 1), (1, 1), (2, 1), (3, 1), (4, 1)][·]?) := by kernel_rfl
theorem sz132 : szOf Try.prog 132 = some 1 := by kernel_rfl
theorem by132 : M.bytesOf Try.prog 132 = some 8 := by kernel_rfl
theorem ze132 : zeroOf Try.prog 132 = some (.nilFunc) := by kernel_rfl
theorem ag132 : aggT Try.prog 132 = some false := by kernel_rfl
theorem sz133 : szOf Try.prog 133 = some 1 := by kernel_rfl
theorem by133 : M.bytesOf Try.prog 133 = some 8 := by kernel_rfl
theorem ze133 : zeroOf Try.prog 133 = some (.nilFunc) := by kernel_rfl
theorem ag133 : aggT Try.prog 133 = some false := by kernel_rfl
theorem sz134 : szOf Try.prog 134 = some 1 := by kernel_rfl
theorem by134 : M.bytesOf Try.prog 134 = some 8 := by kernel_rfl
theorem ze134 : zeroOf Try.prog 134 = some (.nilFunc) := by kernel_rfl
theorem ag134 : aggT Try.prog 134 = some false := by kernel_rfl
theorem sz135 : szOf Try.prog 135 = some 1 := by kernel_rfl
theorem by135 : M.bytesOf Try.prog 135 = some 8 := by kernel_rfl
theorem ze135 : zeroOf Try.prog 135 = some (.nilFunc) := by kernel_rfl
theorem ag135 : aggT Try.prog 135 = some false := by kernel_rfl
theorem sz136 : szOf Try.prog 136 = some 1 := by kernel_rfl
theorem by136 : M.bytesOf Try.prog 136 = some 8 := by kernel_rfl
theorem ze136 : zeroOf Try.prog 136 = some (.nilFunc) := by kernel_rfl
theorem ag136 : aggT Try.prog 136 = some false := by kernel_rfl
theorem sz137 : szOf Try.prog 137 = some 1 := by kernel_rfl
theorem by137 : M.bytesOf Try.prog 137 = some 8 := by kernel_rfl
theorem ze137 : zeroOf Try.prog 137 = some (.nilFunc) := by kernel_rfl
theorem ag137 : aggT Try.prog 137 = some false := by kernel_rfl
theorem sz138 : szOf Try.prog 138 = some 1 := by kernel_rfl
theorem by138 : M.bytesOf Try.prog 138 = some 8 := by kernel_rfl
theorem ze138 : zeroOf Try.prog 138 = some (.nilFunc) := by kernel_rfl
theorem ag138 : aggT Try.prog 138 = some false := by kernel_rfl
theorem sz139 : szOf Try.prog 139 = some 1 := by kernel_rfl
theorem by139 : M.bytesOf Try.prog 139 = some 8 := by kernel_rfl
theorem ze139 : zeroOf Try.prog 139 = some (.nilFunc) := by kernel_rfl
theorem ag139 : aggT Try.prog 139 = some false := by kernel_rfl
theorem sz140 : szOf Try.prog 140 = some 1 := by kernel_rfl
theorem by140 : M.bytesOf Try.prog 140 = some 8 := by kernel_rfl
theorem ze140 : zeroOf Try.prog 140 = some (.nilFunc) := by kernel_rfl
theorem ag140 : aggT Try.prog 140 = some false := by kernel_rfl
theorem sz141 : szOf Try.prog 141 = some 1 := by kernel_rfl
theorem by141 : M.bytesOf Try.prog 141 = some 8 := by kernel_rfl
theorem ze141 : zeroOf Try.prog 141 = some (.nilFunc) := by kernel_rfl
theorem ag141 : aggT Try.prog 141 = some false := by kernel_rfl
theorem sz142 : szOf Try.prog 142 = some 1 := by kernel_rfl
theorem by142 : M.bytesOf Try.prog 142 = some 8 := by kernel_rfl
theorem ze142 : zeroOf Try.prog 142 = some (.nilFunc) := by kernel_rfl
theorem ag142 : aggT Try.prog 142 = some false := by kernel_rfl
theorem sz143 : szOf Try.prog 143 = some 1 := by kernel_rfl
theorem by143 : M.bytesOf Try.prog 143 = some 8 := by kernel_rfl
theorem ze143 : zeroOf Try.prog 143 = some (.nilFunc) := by kernel_rfl
theorem ag143 : aggT Try.prog 143 = some false := by kernel_rfl
theorem sz144 : szOf Try.prog 144 = some 1 := by kernel_rfl
theorem by144 : M.bytesOf Try.prog 144 = some 8 := by kernel_rfl
theorem ze144 : zeroOf Try.prog 144 = some (.nilFunc) := by kernel_rfl
theorem ag144 : aggT Try.prog 144 = some false := by kernel_rfl
theorem sz145 : szOf Try.prog 145 = some 1 := by kernel_rfl
theorem by145 : M.bytesOf Try.prog 145 = some 8 := by kernel_rfl
theorem ze145 : zeroOf Try.prog 145 = some (.nilFunc) := by kernel_rfl
theorem ag145 : aggT Try.prog 145 = some false := by kernel_rfl
theorem sz146 : szOf Try.prog 146 = some 1 := by kernel_rfl
theorem by146 : M.bytesOf Try.prog 146 = some 8 := by kernel_rfl
theorem ze146 : zeroOf Try.prog 146 = some (.nilFunc) := by kernel_rfl
theorem ag146 : aggT Try.prog 146 = some false := by kernel_rfl
theorem sz147 : szOf Try.prog 147 = some 1 := by kernel_rfl
theorem by147 : M.bytesOf Try.prog 147 = some 8 := by kernel_rfl
theorem ze147 : zeroOf Try.prog 147 = some (.nilFunc) := by kernel_rfl
theorem ag147 : aggT Try.prog 147 = some false := by kernel_rfl
theorem sz148 : szOf Try.prog 148 = some 1 := by kernel_rfl
theorem by148 : M.bytesOf Try.prog 148 = some 8 := by kernel_rfl
theorem ze148 : zeroOf Try.prog 148 = some (.nilFunc) := by kernel_rfl
theorem ag148 : aggT Try.prog 148 = some false := by kernel_rfl
theorem sz149 : szOf Try.prog 149 = some 1 := by kernel_rfl
theorem by149 : M.bytesOf Try.prog 149 = some 8 := by kernel_rfl
theorem ze149 : zeroOf Try.prog 149 = some (.nilFunc) := by kernel_rfl
theorem ag149 : aggT Try.prog 149 = some false := by kernel_rfl
theorem sz150 : szOf Try.prog 150 = some 1 := by kernel_rfl
theorem by150 : M.bytesOf Try.prog 150 = some 8 := by kernel_rfl
theorem ze150 : zeroOf Try.prog 150 = some (.nilFunc) := by kernel_rfl
theorem ag150 : aggT Try.prog 150 = some false := by kernel_rfl
theorem sz151 : szOf Try.prog 151 = some 1 := by kernel_rfl
theorem by151 : M.bytesOf Try.prog 151 = some 8 := by kernel_rfl
theorem ze151 : zeroOf Try.prog 151 = some (.nilFunc) := by kernel_rfl
theorem ag151 : aggT Try.prog 151 = some false := by kernel_rfl
theorem sz152 : szOf Try.prog 152 = some 1 := by kernel_rfl
theorem by152 : M.bytesOf Try.prog 152 = some 8 := by kernel_rfl
theorem ze152 : zeroOf Try.prog 152 = some (.nilFunc) := by kernel_rfl
theorem ag152 : aggT Try.prog 152 = some false := by kernel_rfl
theorem sz153 : szOf Try.prog 153 = some 1 := by kernel_rfl
theorem by153 : M.bytesOf Try.prog 153 = some 8 := by kernel_rfl
theorem ze153 : zeroOf Try.prog 153 = some (.nilFunc) := by kernel_rfl
theorem ag153 : aggT Try.prog 153 = some false := by kernel_rfl
theorem sz154 : szOf Try.prog 154 = some 1 := by kernel_rfl
theorem by154 : M.bytesOf Try.prog 154 = some 8 := by kernel_rfl
theorem ze154 : zeroOf Try.prog 154 = some (.nilFunc) := by kernel_rfl
theorem ag154 : aggT Try.prog 154 = some false := by kernel_rfl
theorem sz155 : szOf Try.prog 155 = some 1 := by kernel_rfl
theorem by155 : M.bytesOf Try.prog 155 = some 8 := by kernel_rfl
theorem ze155 : zeroOf Try.prog 155 = some (.nilFunc) := by kernel_rfl
theorem ag155 : aggT Try.prog 155 = some false := by kernel_rfl
theorem sz156 : szOf Try.prog 156 = some 1 := by kernel_rfl
theorem by156 : M.bytesOf Try.prog 156 = some 8 := by kernel_rfl
theorem ze156 : zeroOf Try.prog 156 = some (.nilFunc) := by kernel_rfl
theorem ag156 : aggT Try.prog 156 = some false := by kernel_rfl
theorem sz157 : szOf Try.prog 157 = some 1 := by kernel_rfl
theorem by157 : M.bytesOf Try.prog 157 = some 8 := by kernel_rfl
theorem ze157 : zeroOf Try.prog 157 = some (.nilFunc) := by kernel_rfl
theorem ag157 : aggT Try.prog 157 = some false := by kernel_rfl
theorem sz158 : szOf Try.prog 158 = some 1 := by kernel_rfl
theorem by158 : M.bytesOf Try.prog 158 = some 8 := by kernel_rfl
theorem ze158 : zeroOf Try.prog 158 = some (.nilFunc) := by kernel_rfl
theorem ag158 : aggT Try.prog 158 = some false := by kernel_rfl
theorem sz159 : szOf Try.prog 159 = some 1 := by kernel_rfl
theorem by159 : M.bytesOf Try.prog 159 = some 8 := by kernel_rfl
theorem ze159 : zeroOf Try.prog 159 = some (.nilFunc) := by kernel_rfl
theorem ag159 : aggT Try.prog 159 = some false := by kernel_rfl
theorem sz160 : szOf Try.prog 160 = some 1 := by kernel_rfl
theorem by160 : M.bytesOf Try.prog 160 = some 8 := by kernel_rfl
theorem ze160 : zeroOf Try.prog 160 = some (.nilFunc) := by kernel_rfl
theorem ag160 : aggT Try.prog 160 = some false := by kernel_rfl
theorem sz161 : szOf Try.prog 161 = some 1 := by kernel_rfl
theorem by161 : M.bytesOf Try.prog 161 = some 8 := by kernel_rfl
theorem ze161 : zeroOf Try.prog 161 = some (.nilFunc) := by kernel_rfl
theorem ag161 : aggT Try.prog 161 = some false := by kernel_rfl
theorem sz162 : szOf Try.prog 162 = some 1 := by kernel_rfl
theorem by162 : M.bytesOf Try.prog 162 = some 8 := by kernel_rfl
theorem ze162 : zeroOf Try.prog 162 = some (.nilFunc) := by kernel_rfl
theorem ag162 : aggT Try.prog 162 = some false := by kernel_rfl
theorem sz163 : szOf Try.prog 163 = some 1 := by kernel_rfl
theorem by163 : M.bytesOf Try.prog 163 = some 8 := by kernel_rfl
theorem ze163 : zeroOf Try.prog 163 = some (.nilFunc) := by kernel_rfl
theorem ag163 : aggT Try.prog 163 = some false := by kernel_rfl
theorem sz164 : szOf Try.prog 164 = some 1 := by kernel_rfl
theorem by164 : M.bytesOf Try.prog 164 = some 8 := by kernel_rfl
theorem ze164 : zeroOf Try.prog 164 = some (.int .u64 0) := by kernel_rfl
theorem ag164 : aggT Try.prog 164 = some false := by kernel_rfl
theorem sz165 : szOf Try.prog 165 = some 1 := by kernel_rfl
theorem by165 : M.bytesOf Try.prog 165 = some 8 := by kernel_rfl
theorem ze165 : zeroOf Try.prog 165 = some (.nilFunc) := by kernel_rfl
theorem ag165 : aggT Try.prog 165 = some false := by kernel_rfl
theorem sz166 : szOf Try.prog 166 = some 1 := by kernel_rfl
theorem by166 : M.bytesOf Try.prog 166 = some 8 := by kernel_rfl
theorem ze166 : zeroOf Try.prog 166 = some (.nilFunc) := by kernel_rfl
theorem ag166 : aggT Try.prog 166 = some false := by kernel_rfl
theorem sz167 : szOf Try.prog 167 = some 1 := by kernel_rfl
theorem by167 : M.bytesOf Try.prog 167 = some 8 := by kernel_rfl
theorem ze167 : zeroOf Try.prog 167 = some (.nilFunc) := by kernel_rfl
theorem ag167 : aggT Try.prog 167 = some false := by kernel_rfl
theorem sz168 : szOf Try.prog 168 = some 1 := by kernel_rfl
theorem by168 : M.bytesOf Try.prog 168 = some 8 := by kernel_rfl
theorem ze168 : zeroOf Try.prog 168 = some (.nilFunc) := by kernel_rfl
theorem ag168 : aggT Try.prog 168 = some false := by kernel_rfl
theorem sz169 : szOf Try.prog 169 = some 1 := by kernel_rfl
theorem by169 : M.bytesOf Try.prog 169 = some 8 := by kernel_rfl
theorem ze169 : zeroOf Try.prog 169 = some (.nilFunc) := by kernel_rfl
theorem ag169 : aggT Try.prog 169 = some false := by kernel_rfl
theorem sz170 : szOf Try.prog 170 = some 1 := by kernel_rfl
theorem by170 : M.bytesOf Try.prog 170 = some 8 := by kernel_rfl
theorem ze170 : zeroOf Try.prog 170 = some (.int .i64 0) := by kernel_rfl
theorem ag170 : aggT Try.prog 170 = some false := by kernel_rfl
theorem sz172 : szOf Try.prog 172 = some 1 := by kernel_rfl
theorem by172 : M.bytesOf Try.prog 172 = some 8 := by kernel_rfl
theorem ze172 : zeroOf Try.prog 172 = some (.nilFunc) := by kernel_rfl
theorem ag172 : aggT Try.prog 172 = some false := by kernel_rfl
theorem sz173 : szOf Try.prog 173 = some 1 := by kernel_rfl
theorem by173 : M.bytesOf Try.prog 173 = some 8 := by kernel_rfl
theorem ze173 : zeroOf Try.prog 173 = some (.nilFunc) := by kernel_rfl
theorem ag173 : aggT Try.prog 173 = some false := by kernel_rfl
theorem sz174 : szOf Try.prog 174 = some 1 := by kernel_rfl
theorem by174 : M.bytesOf Try.prog 174 = some 8 := by kernel_rfl
theorem ze174 : zeroOf Try.prog 174 = some (.nilFunc) := by kernel_rfl
theorem ag174 : aggT Try.prog 174 = some false := by kernel_rfl
theorem sz175 : szOf Try.prog 175 = some 1 := by kernel_rfl
theorem by175 : M.bytesOf Try.prog 175 = some 8 := by kernel_rfl
theorem ze175 : zeroOf Try.prog 175 = some (.nilFunc) := by kernel_rfl
theorem ag175 : aggT Try.prog 175 = some false := by kernel_rfl
theorem sz176 : szOf Try.prog 176 = some 1 := by kernel_rfl
theorem by176 : M.bytesOf Try.prog 176 = some 8 := by kernel_rfl
theorem ze176 : zeroOf Try.prog 176 = some (.nilFunc) := by kernel_rfl
theorem ag176 : aggT Try.prog 176 = some false := by kernel_rfl
theorem sz177 : szOf Try.prog 177 = some 1 := by kernel_rfl
theorem by177 : M.bytesOf Try.prog 177 = some 4 := by kernel_rfl
theorem ze177 : zeroOf Try.prog 177 = some (.int .u32 0) := by kernel_rfl
theorem ag177 : aggT Try.prog 177 = some false := by kernel_rfl
theorem sz178 : szOf Try.prog 178 = some 1 := by kernel_rfl
theorem by178 : M.bytesOf Try.prog 178 = some 8 := by kernel_rfl
theorem ze178 : zeroOf Try.prog 178 = some (.nilFunc) := by kernel_rfl
theorem ag178 : aggT Try.prog 178 = some false := by kernel_rfl
theorem sz179 : szOf Try.prog 179 = some 1 := by kernel_rfl
theorem by179 : M.bytesOf Try.prog 179 = some 8 := by kernel_rfl
theorem ze179 : zeroOf Try.prog 179 = some (.int .u64 0) := by kernel_rfl
theorem ag179 : aggT Try.prog 179 = some false := by kernel_rfl
theorem sz180 : szOf Try.prog 180 = some 1 := by kernel_rfl
theorem by180 : M.bytesOf Try.prog 180 = some 8 := by kernel_rfl
theorem ze180 : zeroOf Try.prog 180 = some (.nilFunc) := by kernel_rfl
theorem ag180 : aggT Try.prog 180 = some false := by kernel_rfl
theorem sz181 : szOf Try.prog 181 = some 1 := by kernel_rfl
theorem by181 : M.bytesOf Try.prog 181 = some 8 := by kernel_rfl
theorem ze181 : zeroOf Try.prog 181 = some (.nilFunc) := by kernel_rfl
theorem ag181 : aggT Try.prog 181 = some false := by kernel_rfl
theorem sz182 : szOf Try.prog 182 = some 1 := by kernel_rfl
theorem by182 : M.bytesOf Try.prog 182 = some 8 := by kernel_rfl
theorem ze182 : zeroOf Try.prog 182 = some (.nilFunc) := by kernel_rfl
theorem ag182 : aggT Try.prog 182 = some false := by kernel_rfl
theorem sz183 : szOf Try.prog 183 = some 1 := by kernel_rfl
theorem by183 : M.bytesOf Try.prog 183 = some 8 := by kernel_rfl
theorem ze183 : zeroOf Try.prog 183 = some (.nilFunc) := by kernel_rfl
theorem ag183 : aggT Try.prog 183 = some false := by kernel_rfl
theorem sz184 : szOf Try.prog 184 = some 1 := by kernel_rfl
theorem by184 : M.bytesOf Try.prog 184 = some 8 := by kernel_rfl
theorem ze184 : zeroOf Try.prog 184 = some (.nilFunc) := by kernel_rfl
theorem ag184 : aggT Try.prog 184 = some false := by kernel_rfl
theorem sz185 : szOf Try.prog 185 = some 1 := by kernel_rfl
theorem by185 : M.bytesOf Try.prog 185 = some 8 := by kernel_rfl
theorem ze185 : zeroOf Try.prog 185 = some (.nilFunc) := by kernel_rfl
theorem ag185 : aggT Try.prog 185 = some false := by kernel_rfl
theorem sz186 : szOf Try.prog 186 = some 1 := by kernel_rfl
theorem by186 : M.bytesOf Try.prog 186 = some 8 := by kernel_rfl
theorem ze186 : zeroOf Try.prog 186 = some (.int .u64 0) := by kernel_rfl
theorem ag186 : aggT Try.prog 186 = some false := by kernel_rfl
theorem sz187 : szOf Try.prog 187 = some 1 := by kernel_rfl
theorem by187 : M.bytesOf Try.prog 187 = some 8 := by kernel_rfl
theorem ze187 : zeroOf Try.prog 187 = some (.nilFunc) := by kernel_rfl
theorem ag187 : aggT Try.prog 187 = some false := by kernel_rfl
theorem sz188 : szOf Try.prog 188 = some 1 := by kernel_rfl
theorem by188 : M.bytesOf Try.prog 188 = some 8 := by kernel_rfl
theorem ze188 : zeroOf Try.prog 188 = some (.nilFunc) := by kernel_rfl
theorem ag188 : aggT Try.prog 188 = some false := by kernel_rfl
theorem sz189 : szOf Try.prog 189 = some 1 := by kernel_rfl
theorem by189 : M.bytesOf Try.prog 189 = some 8 := by kernel_rfl
theorem ze189 : zeroOf Try.prog 189 = some (.nilFunc) := by kernel_rfl
theorem ag189 : aggT Try.prog 189 = some false := by kernel_rfl
theorem sz190 : szOf Try.prog 190 = some 1 := by kernel_rfl
theorem by190 : M.bytesOf Try.prog 190 = some 8 := by kernel_rfl
theorem ze190 : zeroOf Try.prog 190 = some (.pointer none) := by kernel_rfl
theorem ag190 : aggT Try.prog 190 = some false := by kernel_rfl
theorem sz191 : szOf Try.prog 191 = some 1 := by kernel_rfl
theorem by191 : M.bytesOf Try.prog 191 = some 8 := by kernel_rfl
theorem ze191 : zeroOf Try.prog 191 = some (.nilFunc) := by kernel_rfl
theorem ag191 : aggT Try.prog 191 = some false := by kernel_rfl
theorem sz192 : szOf Try.prog 192 = some 1 := by kernel_rfl
theorem by192 : M.bytesOf Try.prog 192 = some 8 := by kernel_rfl
theorem ze192 : zeroOf Try.prog 192 = some (.nilFunc) := by kernel_rfl
theorem ag192 : aggT Try.prog 192 = some false := by kernel_rfl
theorem sz193 : szOf Try.prog 193 = some 1 := by kernel_rfl
theorem by193 : M.bytesOf Try.prog 193 = some 8 := by kernel_rfl
theorem ze193 : zeroOf Try.prog 193 = some (.nilFunc) := by kernel_rfl
theorem ag193 : aggT Try.prog 193 = some false := by kernel_rfl
theorem sz194 : szOf Try.prog 194 = some 1 := by kernel_rfl
theorem by194 : M.bytesOf Try.prog 194 = some 8 := by kernel_rfl
theorem ze194 : zeroOf Try.prog 194 = some (.pointer none) := by kernel_rfl
theorem ag194 : aggT Try.prog 194 = some false := by kernel_rfl
theorem sz196 : szOf Try.prog 196 = some 1 := by kernel_rfl
theorem by196 : M.bytesOf Try.prog 196 = some 8 := by kernel_rfl
theorem ze196 : zeroOf Try.prog 196 = some (.nilFunc) := by kernel_rfl
theorem ag196 : aggT Try.prog 196 = some false := by kernel_rfl
theorem sz197 : szOf Try.prog 197 = some 1 := by kernel_rfl
theorem by197 : M.bytesOf Try.prog 197 = some 8 := by kernel_rfl
theorem ze197 : zeroOf Try.prog 197 = some (.nilFunc) := by kernel_rfl
theorem ag197 : aggT Try.prog 197 = some false := by kernel_rfl
theorem sz198 : szOf Try.prog 198 = some 1 := by kernel_rfl
theorem by198 : M.bytesOf Try.prog 198 = some 8 := by kernel_rfl
theorem ze198 : zeroOf Try.prog 198 = some (.nilFunc) := by kernel_rfl
theorem ag198 : aggT Try.prog 198 = some false := by kernel_rfl
theorem sz199 : szOf Try.prog 199 = some 4 := by kernel_rfl
theorem by199 : M.bytesOf Try.prog 199 = some 40 := by kernel_rfl
theorem ze199 : zeroOf Try.prog 199 = some (.agg #[.pointer none, .pointer none, .pointer none, .string ByteArray.empty]) := by kernel_rfl
theorem ag199 : aggT Try.prog 199 = some true := by kernel_rfl
theorem fo199_0 : fieldOf Try.prog 199 0 = some (0, 1, 17) := by kernel_rfl
theorem fo199_1 : fieldOf Try.prog 199 1 = some (1, 1, 17) := by kernel_rfl
theorem fo199_2 : fieldOf Try.prog 199 2 = some (2, 1, 17) := by kernel_rfl
theorem fo199_3 : fieldOf Try.prog 199 3 = some (3, 1, 9) := by kernel_rfl
theorem pl199 : places Try.prog 199 = some (#[(0, 1), (1, 1), (2, 1), (3, 1)][·]?) := by kernel_rfl
theorem sz201 : szOf Try.prog 201 = some 0 := by kernel_rfl
theorem by201 : M.bytesOf Try.prog 201 = some 0 := by kernel_rfl
theorem ze201 : zeroOf Try.prog 201 = some (.agg #[]) := by kernel_rfl
theorem ag201 : aggT Try.prog 201 = some true := by kernel_rfl
theorem pl201 : places Try.prog 201 = some (fun i => some (i * 1, 1)) := by kernel_rfl
theorem sz202 : szOf Try.prog 202 = some 0 := by kernel_rfl
theorem by202 : M.bytesOf Try.prog 202 = some 0 := by kernel_rfl
theorem ze202 : zeroOf Try.prog 202 = some (.agg #[]) := by kernel_rfl
theorem ag202 : aggT Try.prog 202 = some true := by kernel_rfl
theorem fo202_0 : fieldOf Try.prog 202 0 = some (0, 0, 201) := by kernel_rfl
theorem pl202 : places Try.prog 202 = some (#[(0, 0)][·]?) := by kernel_rfl
theorem sz206 : szOf Try.prog 206 = some 1 := by kernel_rfl
theorem by206 : M.bytesOf Try.prog 206 = some 8 := by kernel_rfl
theorem ze206 : zeroOf Try.prog 206 = some (.nilFunc) := by kernel_rfl
theorem ag206 : aggT Try.prog 206 = some false := by kernel_rfl
theorem sz207 : szOf Try.prog 207 = some 1 := by kernel_rfl
theorem by207 : M.bytesOf Try.prog 207 = some 8 := by kernel_rfl
theorem ze207 : zeroOf Try.prog 207 = some (.pointer none) := by kernel_rfl
theorem ag207 : aggT Try.prog 207 = some false := by kernel_rfl
theorem sz210 : szOf Try.prog 210 = some 11 := by kernel_rfl
theorem by210 : M.bytesOf Try.prog 210 = some 48 := by kernel_rfl
theorem ze210 : zeroOf Try.prog 210 = some (.agg #[.int .u64 0, .int .u64 0, .int .u32 0, .int .u8 0, .int .u8 0, .int .u8 0, .int .u8 0, .nilFunc, .pointer none, .int .i32 0, .int .i32 0]) := by kernel_rfl
theorem ag210 : aggT Try.prog 210 = some true := by kernel_rfl
theorem fo210_0 : fieldOf Try.prog 210 0 = some (0, 1, 12) := by kernel_rfl
theorem fo210_1 : fieldOf Try.prog 210 1 = some (1, 1, 12) := by kernel_rfl
theorem fo210_2 : fieldOf Try.prog 210 2 = some (2, 1, 177) := by kernel_rfl
theorem fo210_3 : fieldOf Try.prog 210 3 = some (3, 1, 204) := by kernel_rfl
theorem fo210_4 : fieldOf Try.prog 210 4 = some (4, 1, 5) := by kernel_rfl
theorem fo210_5 : fieldOf Try.prog 210 5 = some (5, 1, 5) := by kernel_rfl
theorem fo210_6 : fieldOf Try.prog 210 6 = some (6, 1, 205) := by kernel_rfl
theorem fo210_7 : fieldOf Try.prog 210 7 = some (7, 1, 206) := by kernel_rfl
theorem fo210_8 : fieldOf Try.prog 210 8 = some (8, 1, 207) := by kernel_rfl
theorem fo210_9 : fieldOf Try.prog 210 9 = some (9, 1, 208) := by kernel_rfl
theorem fo210_10 : fieldOf Try.prog 210 10 = some (10, 1, 209) := by kernel_rfl
theorem pl210 : places Try.prog 210 = some (#[(0, 1), (1, 1), (2, 1), (3, 1), (4, 1), (5, 1), (6, 1), (7, 1), (8, 1), (9, 1), (10, 1)][·]?) := by kernel_rfl
theorem cv2 (st : List Ob) (s : TypeId) (j : IntKind) (n : Int) (h : (Try.prog.underlying s).isSome = true) : aconvert Try.prog st s 2 (.sc (.int j n)) = some (.sc (.int .i64 (IntKind.wrap .i64 n))) := aconv_i Try.underlying2 h
theorem cv3 (st : List Ob) (s : TypeId) (j : IntKind) (n : Int) (h : (Try.prog.underlying s).isSome = true) : aconvert Try.prog st s 3 (.sc (.int j n)) = some (.sc (.int .i64 (IntKind.wrap .i64 n))) := aconv_i Try.underlying3 h
theorem cv5 (st : List Ob) (s : TypeId) (j : IntKind) (n : Int) (h : (Try.prog.underlying s).isSome = true) : aconvert Try.prog st s 5 (.sc (.int j n)) = some (.sc (.int .u8 (IntKind.wrap .u8 n))) := aconv_i Try.underlying5 h
theorem cv9 (st : List Ob) (s : TypeId) (b : ByteArray) (h : (Try.prog.underlying s).isSome = true) : aconvert Try.prog st s 9 (.sc (.string b)) = some (.sc (.string b)) := aconv_s Try.underlying9 h
theorem cv12 (st : List Ob) (s : TypeId) (j : IntKind) (n : Int) (h : (Try.prog.underlying s).isSome = true) : aconvert Try.prog st s 12 (.sc (.int j n)) = some (.sc (.int .u64 (IntKind.wrap .u64 n))) := aconv_i Try.underlying12 h
theorem cv21 (st : List Ob) (s : TypeId) (j : IntKind) (n : Int) (h : (Try.prog.underlying s).isSome = true) : aconvert Try.prog st s 21 (.sc (.int j n)) = some (.sc (.int .i32 (IntKind.wrap .i32 n))) := aconv_i Try.underlying21 h
theorem cv31 (st : List Ob) (s : TypeId) (j : IntKind) (n : Int) (h : (Try.prog.underlying s).isSome = true) : aconvert Try.prog st s 31 (.sc (.int j n)) = some (.sc (.int .i64 (IntKind.wrap .i64 n))) := aconv_i Try.underlying31 h
theorem cv46 (st : List Ob) (s : TypeId) (j : IntKind) (n : Int) (h : (Try.prog.underlying s).isSome = true) : aconvert Try.prog st s 46 (.sc (.int j n)) = some (.sc (.int .u16 (IntKind.wrap .u16 n))) := aconv_i Try.underlying46 h
theorem cv164 (st : List Ob) (s : TypeId) (j : IntKind) (n : Int) (h : (Try.prog.underlying s).isSome = true) : aconvert Try.prog st s 164 (.sc (.int j n)) = some (.sc (.int .u64 (IntKind.wrap .u64 n))) := aconv_i Try.underlying164 h
theorem cv170 (st : List Ob) (s : TypeId) (j : IntKind) (n : Int) (h : (Try.prog.underlying s).isSome = true) : aconvert Try.prog st s 170 (.sc (.int j n)) = some (.sc (.int .i64 (IntKind.wrap .i64 n))) := aconv_i Try.underlying170 h
theorem cv177 (st : List Ob) (s : TypeId) (j : IntKind) (n : Int) (h : (Try.prog.underlying s).isSome = true) : aconvert Try.prog st s 177 (.sc (.int j n)) = some (.sc (.int .u32 (IntKind.wrap .u32 n))) := aconv_i Try.underlying177 h
theorem cv179 (st : List Ob) (s : TypeId) (j : IntKind) (n : Int) (h : (Try.prog.underlying s).isSome = true) : aconvert Try.prog st s 179 (.sc (.int j n)) = some (.sc (.int .u64 (IntKind.wrap .u64 n))) := aconv_i Try.underlying179 h
theorem cv186 (st : List Ob) (s : TypeId) (j : IntKind) (n : Int) (h : (Try.prog.underlying s).isSome = true) : aconvert Try.prog st s 186 (.sc (.int j n)) = some (.sc (.int .u64 (IntKind.wrap .u64 n))) := aconv_i Try.underlying186 h
theorem pe15 (x y : Operand) : pureRun Try.prog (do eqGuard .eql 15 x y (.pointer none) (.pointer none); binOp .eql 15 (.pointer none) (.pointer none)) = some (.bool true) := pr_eqnil Try.underlying15 x y
theorem pn15 (x y : Operand) : pureRun Try.prog (do eqGuard .neq 15 x y (.pointer none) (.pointer none); binOp .neq 15 (.pointer none) (.pointer none)) = some (.bool false) := pr_nenil Try.underlying15 x y
theorem pe16 (x y : Operand) : pureRun Try.prog (do eqGuard .eql 16 x y (.pointer none) (.pointer none); binOp .eql 16 (.pointer none) (.pointer none)) = some (.bool true) := pr_eqnil Try.underlying16 x y
theorem pn16 (x y : Operand) : pureRun Try.prog (do eqGuard .neq 16 x y (.pointer none) (.pointer none); binOp .neq 16 (.pointer none) (.pointer none)) = some (.bool false) := pr_nenil Try.underlying16 x y
theorem pe17 (x y : Operand) : pureRun Try.prog (do eqGuard .eql 17 x y (.pointer none) (.pointer none); binOp .eql 17 (.pointer none) (.pointer none)) = some (.bool true) := pr_eqnil Try.underlying17 x y
theorem pn17 (x y : Operand) : pureRun Try.prog (do eqGuard .neq 17 x y (.pointer none) (.pointer none); binOp .neq 17 (.pointer none) (.pointer none)) = some (.bool false) := pr_nenil Try.underlying17 x y
theorem pe29 (x y : Operand) : pureRun Try.prog (do eqGuard .eql 29 x y (.pointer none) (.pointer none); binOp .eql 29 (.pointer none) (.pointer none)) = some (.bool true) := pr_eqnil Try.underlying29 x y
theorem pn29 (x y : Operand) : pureRun Try.prog (do eqGuard .neq 29 x y (.pointer none) (.pointer none); binOp .neq 29 (.pointer none) (.pointer none)) = some (.bool false) := pr_nenil Try.underlying29 x y
theorem pe50 (x y : Operand) : pureRun Try.prog (do eqGuard .eql 50 x y (.pointer none) (.pointer none); binOp .eql 50 (.pointer none) (.pointer none)) = some (.bool true) := pr_eqnil Try.underlying50 x y
theorem pn50 (x y : Operand) : pureRun Try.prog (do eqGuard .neq 50 x y (.pointer none) (.pointer none); binOp .neq 50 (.pointer none) (.pointer none)) = some (.bool false) := pr_nenil Try.underlying50 x y
theorem pe68 (x y : Operand) : pureRun Try.prog (do eqGuard .eql 68 x y (.pointer none) (.pointer none); binOp .eql 68 (.pointer none) (.pointer none)) = some (.bool true) := pr_eqnil Try.underlying68 x y
theorem pn68 (x y : Operand) : pureRun Try.prog (do eqGuard .neq 68 x y (.pointer none) (.pointer none); binOp .neq 68 (.pointer none) (.pointer none)) = some (.bool false) := pr_nenil Try.underlying68 x y
theorem pe69 (x y : Operand) : pureRun Try.prog (do eqGuard .eql 69 x y (.pointer none) (.pointer none); binOp .eql 69 (.pointer none) (.pointer none)) = some (.bool true) := pr_eqnil Try.underlying69 x y
theorem pn69 (x y : Operand) : pureRun Try.prog (do eqGuard .neq 69 x y (.pointer none) (.pointer none); binOp .neq 69 (.pointer none) (.pointer none)) = some (.bool false) := pr_nenil Try.underlying69 x y
theorem pe190 (x y : Operand) : pureRun Try.prog (do eqGuard .eql 190 x y (.pointer none) (.pointer none); binOp .eql 190 (.pointer none) (.pointer none)) = some (.bool true) := pr_eqnil Try.underlying190 x y
theorem pn190 (x y : Operand) : pureRun Try.prog (do eqGuard .neq 190 x y (.pointer none) (.pointer none); binOp .neq 190 (.pointer none) (.pointer none)) = some (.bool false) := pr_nenil Try.underlying190 x y
theorem pe194 (x y : Operand) : pureRun Try.prog (do eqGuard .eql 194 x y (.pointer none) (.pointer none); binOp .eql 194 (.pointer none) (.pointer none)) = some (.bool true) := pr_eqnil Try.underlying194 x y
theorem pn194 (x y : Operand) : pureRun Try.prog (do eqGuard .neq 194 x y (.pointer none) (.pointer none); binOp .neq 194 (.pointer none) (.pointer none)) = some (.bool false) := pr_nenil Try.underlying194 x y
theorem pe207 (x y : Operand) : pureRun Try.prog (do eqGuard .eql 207 x y (.pointer none) (.pointer none); binOp .eql 207 (.pointer none) (.pointer none)) = some (.bool true) := pr_eqnil Try.underlying207 x y
theorem pn207 (x y : Operand) : pureRun Try.prog (do eqGuard .neq 207 x y (.pointer none) (.pointer none); binOp .neq 207 (.pointer none) (.pointer none)) = some (.bool false) := pr_nenil Try.underlying207 x y
theorem pe38 (x y : Operand) : pureRun Try.prog (do eqGuard .eql 38 x y (.map none) (.map none); binOp .eql 38 (.map none) (.map none)) = some (.bool true) := pr_eqnilm Try.underlying38 x y
theorem pn38 (x y : Operand) : pureRun Try.prog (do eqGuard .neq 38 x y (.map none) (.map none); binOp .neq 38 (.map none) (.map none)) = some (.bool false) := pr_nenilm Try.underlying38 x y
theorem pe59 (x y : Operand) : pureRun Try.prog (do eqGuard .eql 59 x y (.map none) (.map none); binOp .eql 59 (.map none) (.map none)) = some (.bool true) := pr_eqnilm Try.underlying59 x y
theorem pn59 (x y : Operand) : pureRun Try.prog (do eqGuard .neq 59 x y (.map none) (.map none); binOp .neq 59 (.map none) (.map none)) = some (.bool false) := pr_nenilm Try.underlying59 x y
theorem pe104 (x y : Operand) : pureRun Try.prog (do eqGuard .eql 104 x y (.map none) (.map none); binOp .eql 104 (.map none) (.map none)) = some (.bool true) := pr_eqnilm Try.underlying104 x y
theorem pn104 (x y : Operand) : pureRun Try.prog (do eqGuard .neq 104 x y (.map none) (.map none); binOp .neq 104 (.map none) (.map none)) = some (.bool false) := pr_nenilm Try.underlying104 x y
theorem pe105 (x y : Operand) : pureRun Try.prog (do eqGuard .eql 105 x y (.map none) (.map none); binOp .eql 105 (.map none) (.map none)) = some (.bool true) := pr_eqnilm Try.underlying105 x y
theorem pn105 (x y : Operand) : pureRun Try.prog (do eqGuard .neq 105 x y (.map none) (.map none); binOp .neq 105 (.map none) (.map none)) = some (.bool false) := pr_nenilm Try.underlying105 x y
theorem fsz : Try.prog.funcs.size = 160 := by kernel_rfl
theorem noGor : ∀ (f : FuncId) (fn : Func), Try.prog.funcs[f]? = some fn → (fn.name == "runtime.NumGoroutine") = false := fun f fn h => by
  have : (Try.prog.funcs.all fun fn => !(fn.name == "runtime.NumGoroutine")) = true := by kernel_rfl
  have := (Array.all_eq_true_iff_forall_mem.1 this) fn (Array.mem_of_getElem? h)
  simpa using this
theorem follows : Try.prog.follows .mixedOrders = true := by kernel_rfl
end Go.Proofs.Ytndjhaeeldegfaa
