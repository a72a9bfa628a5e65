import Derived.Test.YtfndpnmdjblokaaM15
import Derived.Test.YtfndpnmdjblokaaProg
import Derived.KernelRfl
namespace Go.Proofs.Ytfndpnmdjblokaa
open Go Go.M
theorem sz1 : szOf Try.prog 1 = some 1 := by kernel_rfl
theorem by1 : M.bytesOf Try.prog 1 = some 8 := by kernel_rfl
theorem ze1 : zeroOf Try.prog 1 = some (.nilFunc) := by kernel_rfl
theorem ag1 : aggT Try.prog 1 = some false := by kernel_rfl
theorem sz2 : szOf Try.prog 2 = some 1 := by kernel_rfl
theorem by2 : M.bytesOf Try.prog 2 = some 8 := by kernel_rfl
theorem ze2 : zeroOf Try.prog 2 = some (.int .i64 0) := by kernel_rfl
theorem ag2 : aggT Try.prog 2 = some false := by kernel_rfl
theorem sz3 : szOf Try.prog 3 = some 1 := by kernel_rfl
theorem by3 : M.bytesOf Try.prog 3 = some 8 := by kernel_rfl
theorem ze3 : zeroOf Try.prog 3 = some (.int .i64 0) := by kernel_rfl
theorem ag3 : aggT Try.prog 3 = some false := by kernel_rfl
theorem sz4 : szOf Try.prog 4 = some 1 := by kernel_rfl
theorem by4 : M.bytesOf Try.prog 4 = some 1 := by kernel_rfl
theorem ze4 : zeroOf Try.prog 4 = some (.bool false) := by kernel_rfl
theorem ag4 : aggT Try.prog 4 = some false := by kernel_rfl
theorem sz5 : szOf Try.prog 5 = some 1 := by kernel_rfl
theorem by5 : M.bytesOf Try.prog 5 = some 1 := by kernel_rfl
theorem ze5 : zeroOf Try.prog 5 = some (.int .u8 0) := by kernel_rfl
theorem ag5 : aggT Try.prog 5 = some false := by kernel_rfl
theorem sz7 : szOf Try.prog 7 = some 4 := by kernel_rfl
theorem by7 : M.bytesOf Try.prog 7 = some 24 := by kernel_rfl
theorem ze7 : zeroOf Try.prog 7 = some (.agg #[.int .i64 0, .int .i64 0, .bool false, .int .u8 0]) := by kernel_rfl
theorem ag7 : aggT Try.prog 7 = some true := by kernel_rfl
theorem fo7_0 : fieldOf Try.prog 7 0 = some (0, 1, 2) := by kernel_rfl
theorem fo7_1 : fieldOf Try.prog 7 1 = some (1, 1, 3) := by kernel_rfl
theorem fo7_2 : fieldOf Try.prog 7 2 = some (2, 1, 4) := by kernel_rfl
theorem fo7_3 : fieldOf Try.prog 7 3 = some (3, 1, 6) := by kernel_rfl
theorem pl7 : places Try.prog 7 = some (#[(0, 1), (1, 1), (2, 1), (3, 1)][·]?) := by kernel_rfl
theorem sz9 : szOf Try.prog 9 = some 1 := by kernel_rfl
theorem by9 : M.bytesOf Try.prog 9 = some 16 := by kernel_rfl
theorem ze9 : zeroOf Try.prog 9 = some (.string ByteArray.empty) := by kernel_rfl
theorem ag9 : aggT Try.prog 9 = some false := by kernel_rfl
theorem sz12 : szOf Try.prog 12 = some 1 := by kernel_rfl
theorem by12 : M.bytesOf Try.prog 12 = some 8 := by kernel_rfl
theorem ze12 : zeroOf Try.prog 12 = some (.int .u64 0) := by kernel_rfl
theorem ag12 : aggT Try.prog 12 = some false := by kernel_rfl
theorem sz13 : szOf Try.prog 13 = some 2 := by kernel_rfl
theorem by13 : M.bytesOf Try.prog 13 = some 24 := by kernel_rfl
theorem ze13 : zeroOf Try.prog 13 = some (.agg #[.string ByteArray.empty, .int .u64 0]) := by kernel_rfl
theorem ag13 : aggT Try.prog 13 = some true := by kernel_rfl
theorem fo13_0 : fieldOf Try.prog 13 0 = some (0, 1, 9) := by kernel_rfl
theorem fo13_1 : fieldOf Try.prog 13 1 = some (1, 1, 12) := by kernel_rfl
theorem pl13 : places Try.prog 13 = some (#[(0, 1), (1, 1)][·]?) := by kernel_rfl
theorem sz15 : szOf Try.prog 15 = some 1 := by kernel_rfl
theorem by15 : M.bytesOf Try.prog 15 = some 8 := by kernel_rfl
theorem ze15 : zeroOf Try.prog 15 = some (.pointer none) := by kernel_rfl
theorem ag15 : aggT Try.prog 15 = some false := by kernel_rfl
theorem sz16 : szOf Try.prog 16 = some 1 := by kernel_rfl
theorem by16 : M.bytesOf Try.prog 16 = some 8 := by kernel_rfl
theorem ze16 : zeroOf Try.prog 16 = some (.pointer none) := by kernel_rfl
theorem ag16 : aggT Try.prog 16 = some false := by kernel_rfl
theorem sz17 : szOf Try.prog 17 = some 1 := by kernel_rfl
theorem by17 : M.bytesOf Try.prog 17 = some 8 := by kernel_rfl
theorem ze17 : zeroOf Try.prog 17 = some (.pointer none) := by kernel_rfl
theorem ag17 : aggT Try.prog 17 = some false := by kernel_rfl
theorem sz18 : szOf Try.prog 18 = some 1 := by kernel_rfl
theorem by18 : M.bytesOf Try.prog 18 = some 8 := by kernel_rfl
theorem ze18 : zeroOf Try.prog 18 = some (.agg #[.pointer none]) := by kernel_rfl
theorem ag18 : aggT Try.prog 18 = some true := by kernel_rfl
theorem fo18_0 : fieldOf Try.prog 18 0 = some (0, 1, 17) := by kernel_rfl
theorem pl18 : places Try.prog 18 = some (#[(0, 1)][·]?) := by kernel_rfl
theorem sz21 : szOf Try.prog 21 = some 1 := by kernel_rfl
theorem by21 : M.bytesOf Try.prog 21 = some 4 := by kernel_rfl
theorem ze21 : zeroOf Try.prog 21 = some (.int .i32 0) := by kernel_rfl
theorem ag21 : aggT Try.prog 21 = some false := by kernel_rfl
theorem sz22 : szOf Try.prog 22 = some 1 := by kernel_rfl
theorem by22 : M.bytesOf Try.prog 22 = some 24 := by kernel_rfl
theorem ze22 : zeroOf Try.prog 22 = some (.slice none 0 0) := by kernel_rfl
theorem ag22 : aggT Try.prog 22 = some false := by kernel_rfl
theorem sz23 : szOf Try.prog 23 = some 1 := by kernel_rfl
theorem by23 : M.bytesOf Try.prog 23 = some 24 := by kernel_rfl
theorem ze23 : zeroOf Try.prog 23 = some (.slice none 0 0) := by kernel_rfl
theorem ag23 : aggT Try.prog 23 = some false := by kernel_rfl
theorem sz25 : szOf Try.prog 25 = some 1 := by kernel_rfl
theorem by25 : M.bytesOf Try.prog 25 = some 8 := by kernel_rfl
theorem ze25 : zeroOf Try.prog 25 = some (.nilFunc) := by kernel_rfl
theorem ag25 : aggT Try.prog 25 = some false := by kernel_rfl
theorem sz26 : szOf Try.prog 26 = some 1 := by kernel_rfl
theorem by26 : M.bytesOf Try.prog 26 = some 8 := by kernel_rfl
theorem ze26 : zeroOf Try.prog 26 = some (.int .u64 0) := by kernel_rfl
theorem ag26 : aggT Try.prog 26 = some false := by kernel_rfl
theorem sz27 : szOf Try.prog 27 = some 4 := by kernel_rfl
theorem by27 : M.bytesOf Try.prog 27 = some 48 := by kernel_rfl
theorem ze27 : zeroOf Try.prog 27 = some (.agg #[.int .i64 0, .int .u64 0, .slice none 0 0, .int .i64 0]) := by kernel_rfl
theorem ag27 : aggT Try.prog 27 = some true := by kernel_rfl
theorem fo27_0 : fieldOf Try.prog 27 0 = some (0, 1, 3) := by kernel_rfl
theorem fo27_1 : fieldOf Try.prog 27 1 = some (1, 1, 26) := by kernel_rfl
theorem fo27_2 : fieldOf Try.prog 27 2 = some (2, 1, 22) := by kernel_rfl
theorem fo27_3 : fieldOf Try.prog 27 3 = some (3, 1, 3) := by kernel_rfl
theorem pl27 : places Try.prog 27 = some (#[(0, 1), (1, 1), (2, 1), (3, 1)][·]?) := by kernel_rfl
theorem sz28 : szOf Try.prog 28 = some 4 := by kernel_rfl
theorem by28 : M.bytesOf Try.prog 28 = some 48 := by kernel_rfl
theorem ze28 : zeroOf Try.prog 28 = some (.agg #[.int .i64 0, .int .u64 0, .slice none 0 0, .int .i64 0]) := by kernel_rfl
theorem ag28 : aggT Try.prog 28 = some true := by kernel_rfl
theorem fo28_0 : fieldOf Try.prog 28 0 = some (0, 1, 3) := by kernel_rfl
theorem fo28_1 : fieldOf Try.prog 28 1 = some (1, 1, 26) := by kernel_rfl
theorem fo28_2 : fieldOf Try.prog 28 2 = some (2, 1, 22) := by kernel_rfl
theorem fo28_3 : fieldOf Try.prog 28 3 = some (3, 1, 3) := by kernel_rfl
theorem pl28 : places Try.prog 28 = some (#[(0, 1), (1, 1), (2, 1), (3, 1)][·]?) := by kernel_rfl
theorem sz29 : szOf Try.prog 29 = some 1 := by kernel_rfl
theorem by29 : M.bytesOf Try.prog 29 = some 8 := by kernel_rfl
theorem ze29 : zeroOf Try.prog 29 = some (.nilFunc) := by kernel_rfl
theorem ag29 : aggT Try.prog 29 = some false := by kernel_rfl
theorem sz30 : szOf Try.prog 30 = some 1 := by kernel_rfl
theorem by30 : M.bytesOf Try.prog 30 = some 8 := by kernel_rfl
theorem ze30 : zeroOf Try.prog 30 = some (.nilFunc) := by kernel_rfl
theorem ag30 : aggT Try.prog 30 = some false := by kernel_rfl
theorem sz31 : szOf Try.prog 31 = some 1 := by kernel_rfl
theorem by31 : M.bytesOf Try.prog 31 = some 8 := by kernel_rfl
theorem ze31 : zeroOf Try.prog 31 = some (.nilFunc) := by kernel_rfl
theorem ag31 : aggT Try.prog 31 = some false := by kernel_rfl
theorem sz32 : szOf Try.prog 32 = some 1 := by kernel_rfl
theorem by32 : M.bytesOf Try.prog 32 = some 8 := by kernel_rfl
theorem ze32 : zeroOf Try.prog 32 = some (.pointer none) := by kernel_rfl
theorem ag32 : aggT Try.prog 32 = some false := by kernel_rfl
theorem sz33 : szOf Try.prog 33 = some 1 := by kernel_rfl
theorem by33 : M.bytesOf Try.prog 33 = some 8 := by kernel_rfl
theorem ze33 : zeroOf Try.prog 33 = some (.nilFunc) := by kernel_rfl
theorem ag33 : aggT Try.prog 33 = some false := by kernel_rfl
theorem sz34 : szOf Try.prog 34 = some 1 := by kernel_rfl
theorem by34 : M.bytesOf Try.prog 34 = some 8 := by kernel_rfl
theorem ze34 : zeroOf Try.prog 34 = some (.nilFunc) := by kernel_rfl
theorem ag34 : aggT Try.prog 34 = some false := by kernel_rfl
theorem sz35 : szOf Try.prog 35 = some 1 := by kernel_rfl
theorem by35 : M.bytesOf Try.prog 35 = some 8 := by kernel_rfl
theorem ze35 : zeroOf Try.prog 35 = some (.nilFunc) := by kernel_rfl
theorem ag35 : aggT Try.prog 35 = some false := by kernel_rfl
theorem sz36 : szOf Try.prog 36 = some 1 := by kernel_rfl
theorem by36 : M.bytesOf Try.prog 36 = some 8 := by kernel_rfl
theorem ze36 : zeroOf Try.prog 36 = some (.int .i64 0) := by kernel_rfl
theorem ag36 : aggT Try.prog 36 = some false := by kernel_rfl
theorem sz37 : szOf Try.prog 37 = some 1 := by kernel_rfl
theorem by37 : M.bytesOf Try.prog 37 = some 8 := by kernel_rfl
theorem ze37 : zeroOf Try.prog 37 = some (.nilFunc) := by kernel_rfl
theorem ag37 : aggT Try.prog 37 = some false := by kernel_rfl
theorem sz38 : szOf Try.prog 38 = some 1 := by kernel_rfl
theorem by38 : M.bytesOf Try.prog 38 = some 8 := by kernel_rfl
theorem ze38 : zeroOf Try.prog 38 = some (.nilFunc) := by kernel_rfl
theorem ag38 : aggT Try.prog 38 = some false := by kernel_rfl
theorem sz39 : szOf Try.prog 39 = some 1 := by kernel_rfl
theorem by39 : M.bytesOf Try.prog 39 = some 8 := by kernel_rfl
theorem ze39 : zeroOf Try.prog 39 = some (.nilFunc) := by kernel_rfl
theorem ag39 : aggT Try.prog 39 = some false := by kernel_rfl
theorem sz40 : szOf Try.prog 40 = some 1 := by kernel_rfl
theorem by40 : M.bytesOf Try.prog 40 = some 8 := by kernel_rfl
theorem ze40 : zeroOf Try.prog 40 = some (.nilFunc) := by kernel_rfl
theorem ag40 : aggT Try.prog 40 = some false := by kernel_rfl
theorem sz41 : szOf Try.prog 41 = some 1 := by kernel_rfl
theorem by41 : M.bytesOf Try.prog 41 = some 8 := by kernel_rfl
theorem ze41 : zeroOf Try.prog 41 = some (.nilFunc) := by kernel_rfl
theorem ag41 : aggT Try.prog 41 = some false := by kernel_rfl
theorem sz42 : szOf Try.prog 42 = some 1 := by kernel_rfl
theorem by42 : M.bytesOf Try.prog 42 = some 4 := by kernel_rfl
theorem ze42 : zeroOf Try.prog 42 = some (.int .u32 0) := by kernel_rfl
theorem ag42 : aggT Try.prog 42 = some false := by kernel_rfl
theorem sz43 : szOf Try.prog 43 = some 1 := by kernel_rfl
theorem by43 : M.bytesOf Try.prog 43 = some 8 := by kernel_rfl
theorem ze43 : zeroOf Try.prog 43 = some (.nilFunc) := by kernel_rfl
theorem ag43 : aggT Try.prog 43 = some false := by kernel_rfl
theorem sz44 : szOf Try.prog 44 = some 1 := by kernel_rfl
theorem by44 : M.bytesOf Try.prog 44 = some 8 := by kernel_rfl
theorem ze44 : zeroOf Try.prog 44 = some (.nilFunc) := by kernel_rfl
theorem ag44 : aggT Try.prog 44 = some false := by kernel_rfl
theorem sz45 : szOf Try.prog 45 = some 1 := by kernel_rfl
theorem by45 : M.bytesOf Try.prog 45 = some 8 := by kernel_rfl
theorem ze45 : zeroOf Try.prog 45 = some (.nilFunc) := by kernel_rfl
theorem ag45 : aggT Try.prog 45 = some false := by kernel_rfl
theorem sz46 : szOf Try.prog 46 = some 1 := by kernel_rfl
theorem by46 : M.bytesOf Try.prog 46 = some 8 := by kernel_rfl
theorem ze46 : zeroOf Try.prog 46 = some (.nilFunc) := by kernel_rfl
theorem ag46 : aggT Try.prog 46 = some false := by kernel_rfl
theorem sz47 : szOf Try.prog 47 = some 1 := by kernel_rfl
theorem by47 : M.bytesOf Try.prog 47 = some 8 := by kernel_rfl
theorem ze47 : zeroOf Try.prog 47 = some (.nilFunc) := by kernel_rfl
theorem ag47 : aggT Try.prog 47 = some false := by kernel_rfl
theorem sz48 : szOf Try.prog 48 = some 1 := by kernel_rfl
theorem by48 : M.bytesOf Try.prog 48 = some 8 := by kernel_rfl
theorem ze48 : zeroOf Try.prog 48 = some (.nilFunc) := by kernel_rfl
theorem ag48 : aggT Try.prog 48 = some false := by kernel_rfl
theorem sz49 : szOf Try.prog 49 = some 1 := by kernel_rfl
theorem by49 : M.bytesOf Try.prog 49 = some 8 := by kernel_rfl
theorem ze49 : zeroOf Try.prog 49 = some (.pointer none) := by kernel_rfl
theorem ag49 : aggT Try.prog 49 = some false := by kernel_rfl
theorem sz50 : szOf Try.prog 50 = some 3 := by kernel_rfl
theorem by50 : M.bytesOf Try.prog 50 = some 40 := by kernel_rfl
theorem ze50 : zeroOf Try.prog 50 = some (.agg #[.slice none 0 0, .int .i64 0, .int .i64 0]) := by kernel_rfl
theorem ag50 : aggT Try.prog 50 = some true := by kernel_rfl
theorem fo50_0 : fieldOf Try.prog 50 0 = some (0, 1, 22) := by kernel_rfl
theorem fo50_1 : fieldOf Try.prog 50 1 = some (1, 1, 3) := by kernel_rfl
theorem fo50_2 : fieldOf Try.prog 50 2 = some (2, 1, 36) := by kernel_rfl
theorem pl50 : places Try.prog 50 = some (#[(0, 1), (1, 1), (2, 1)][·]?) := by kernel_rfl
theorem sz51 : szOf Try.prog 51 = some 3 := by kernel_rfl
theorem by51 : M.bytesOf Try.prog 51 = some 40 := by kernel_rfl
theorem ze51 : zeroOf Try.prog 51 = some (.agg #[.slice none 0 0, .int .i64 0, .int .i64 0]) := by kernel_rfl
theorem ag51 : aggT Try.prog 51 = some true := by kernel_rfl
theorem fo51_0 : fieldOf Try.prog 51 0 = some (0, 1, 22) := by kernel_rfl
theorem fo51_1 : fieldOf Try.prog 51 1 = some (1, 1, 3) := by kernel_rfl
theorem fo51_2 : fieldOf Try.prog 51 2 = some (2, 1, 36) := by kernel_rfl
theorem pl51 : places Try.prog 51 = some (#[(0, 1), (1, 1), (2, 1)][·]?) := by kernel_rfl
theorem sz52 : szOf Try.prog 52 = some 1 := by kernel_rfl
theorem by52 : M.bytesOf Try.prog 52 = some 8 := by kernel_rfl
theorem ze52 : zeroOf Try.prog 52 = some (.nilFunc) := by kernel_rfl
theorem ag52 : aggT Try.prog 52 = some false := by kernel_rfl
theorem sz53 : szOf Try.prog 53 = some 1 := by kernel_rfl
theorem by53 : M.bytesOf Try.prog 53 = some 24 := by kernel_rfl
theorem ze53 : zeroOf Try.prog 53 = some (.slice none 0 0) := by kernel_rfl
theorem ag53 : aggT Try.prog 53 = some false := by kernel_rfl
theorem sz54 : szOf Try.prog 54 = some 2 := by kernel_rfl
theorem by54 : M.bytesOf Try.prog 54 = some 16 := by kernel_rfl
theorem ze54 : zeroOf Try.prog 54 = some (.agg #[.int .i64 0, .int .i64 0]) := by kernel_rfl
theorem ag54 : aggT Try.prog 54 = some true := by kernel_rfl
theorem fo54_0 : fieldOf Try.prog 54 0 = some (0, 1, 3) := by kernel_rfl
theorem fo54_1 : fieldOf Try.prog 54 1 = some (1, 1, 3) := by kernel_rfl
theorem pl54 : places Try.prog 54 = some (#[(0, 1), (1, 1)][·]?) := by kernel_rfl
theorem sz55 : szOf Try.prog 55 = some 2 := by kernel_rfl
theorem by55 : M.bytesOf Try.prog 55 = some 16 := by kernel_rfl
theorem ze55 : zeroOf Try.prog 55 = some (.agg #[.int .i64 0, .int .i64 0]) := by kernel_rfl
theorem ag55 : aggT Try.prog 55 = some true := by kernel_rfl
theorem fo55_0 : fieldOf Try.prog 55 0 = some (0, 1, 3) := by kernel_rfl
theorem fo55_1 : fieldOf Try.prog 55 1 = some (1, 1, 3) := by kernel_rfl
theorem pl55 : places Try.prog 55 = some (#[(0, 1), (1, 1)][·]?) := by kernel_rfl
theorem sz56 : szOf Try.prog 56 = some 2 := by kernel_rfl
theorem by56 : M.bytesOf Try.prog 56 = some 16 := by kernel_rfl
theorem ze56 : zeroOf Try.prog 56 = some (.agg #[.int .i64 0, .int .i64 0]) := by kernel_rfl
theorem ag56 : aggT Try.prog 56 = some true := by kernel_rfl
theorem fo56_0 : fieldOf Try.prog 56 0 = some (0, 1, 3) := by kernel_rfl
theorem fo56_1 : fieldOf Try.prog 56 1 = some (1, 1, 3) := by kernel_rfl
theorem pl56 : places Try.prog 56 = some (#[(0, 1), (1, 1)][·]?) := by kernel_rfl
theorem sz57 : szOf Try.prog 57 = some 2 := by kernel_rfl
theorem by57 : M.bytesOf Try.prog 57 = some 16 := by kernel_rfl
theorem ze57 : zeroOf Try.prog 57 = some (.agg #[.int .i64 0, .int .i64 0]) := by kernel_rfl
theorem ag57 : aggT Try.prog 57 = some true := by kernel_rfl
theorem fo57_0 : fieldOf Try.prog 57 0 = some (0, 1, 3) := by kernel_rfl
theorem fo57_1 : fieldOf Try.prog 57 1 = some (1, 1, 3) := by kernel_rfl
theorem pl57 : places Try.prog 57 = some (#[(0, 1), (1, 1)][·]?) := by kernel_rfl
theorem sz58 : szOf Try.prog 58 = some 12 := by kernel_rfl
theorem by58 : M.bytesOf Try.prog 58 = some 112 := by kernel_rfl
theorem ze58 : zeroOf Try.prog 58 = some (.agg #[.int .i64 0, .int .i64 0, .int .i64 0, .int .i64 0, .slice none 0 0, .int .i64 0, .int .i64 0, .int .i64 0, .int .i64 0, .int .i64 0, .int .i64 0, .int .i64 0]) := by kernel_rfl
theorem ag58 : aggT Try.prog 58 = some true := by kernel_rfl
theorem fo58_0 : fieldOf Try.prog 58 0 = some (0, 1, 3) := by kernel_rfl
theorem fo58_1 : fieldOf Try.prog 58 1 = some (1, 1, 3) := by kernel_rfl
theorem fo58_2 : fieldOf Try.prog 58 2 = some (2, 1, 3) := by kernel_rfl
theorem fo58_3 : fieldOf Try.prog 58 3 = some (3, 1, 3) := by kernel_rfl
theorem fo58_4 : fieldOf Try.prog 58 4 = some (4, 1, 53) := by kernel_rfl
theorem fo58_5 : fieldOf Try.prog 58 5 = some (5, 2, 55) := by kernel_rfl
theorem fo58_6 : fieldOf Try.prog 58 6 = some (7, 1, 3) := by kernel_rfl
theorem fo58_7 : fieldOf Try.prog 58 7 = some (8, 1, 3) := by kernel_rfl
theorem fo58_8 : fieldOf Try.prog 58 8 = some (9, 1, 3) := by kernel_rfl
theorem fo58_9 : fieldOf Try.prog 58 9 = some (10, 2, 57) := by kernel_rfl
theorem pl58 : places Try.prog 58 = some (#[(0, 1), (1, 1), (2, 1), (3, 1), (4, 1), (5, 2), (7, 1), (8, 1), (9, 1), (10, 2)][·]?) := by kernel_rfl
theorem sz59 : szOf Try.prog 59 = some 12 := by kernel_rfl
theorem by59 : M.bytesOf Try.prog 59 = some 112 := by kernel_rfl
theorem ze59 : zeroOf Try.prog 59 = some (.agg #[.int .i64 0, .int .i64 0, .int .i64 0, .int .i64 0, .slice none 0 0, .int .i64 0, .int .i64 0, .int .i64 0, .int .i64 0, .int .i64 0, .int .i64 0, .int .i64 0]) := by kernel_rfl
theorem ag59 : aggT Try.prog 59 = some true := by kernel_rfl
theorem fo59_0 : fieldOf Try.prog 59 0 = some (0, 1, 3) := by kernel_rfl
theorem fo59_1 : fieldOf Try.prog 59 1 = some (1, 1, 3) := by kernel_rfl
theorem fo59_2 : fieldOf Try.prog 59 2 = some (2, 1, 3) := by kernel_rfl
theorem fo59_3 : fieldOf Try.prog 59 3 = some (3, 1, 3) := by kernel_rfl
theorem fo59_4 : fieldOf Try.prog 59 4 = some (4, 1, 53) := by kernel_rfl
theorem fo59_5 : fieldOf Try.prog 59 5 = some (5, 2, 55) := by kernel_rfl
theorem fo59_6 : fieldOf Try.prog 59 6 = some (7, 1, 3) := by kernel_rfl
theorem fo59_7 : fieldOf Try.prog 59 7 = some (8, 1, 3) := by kernel_rfl
theorem fo59_8 : fieldOf Try.prog 59 8 = some (9, 1, 3) := by kernel_rfl
theorem fo59_9 : fieldOf Try.prog 59 9 = some (10, 2, 57) := by kernel_rfl
theorem pl59 : places Try.prog 59 = some (#[(0, 1), (1, 1), (2, 1), (3, 1), (4, 1), (5, 2), (7, 1), (8, 1), (9, 1), (10, 2)][·]?) := by kernel_rfl
theorem sz60 : szOf Try.prog 60 = some 1 := by kernel_rfl
theorem by60 : M.bytesOf Try.prog 60 = some 8 := by kernel_rfl
theorem ze60 : zeroOf Try.prog 60 = some (.nilFunc) := by kernel_rfl
theorem ag60 : aggT Try.prog 60 = some false := by kernel_rfl
theorem sz61 : szOf Try.prog 61 = some 1 := by kernel_rfl
theorem by61 : M.bytesOf Try.prog 61 = some 8 := by kernel_rfl
theorem ze61 : zeroOf Try.prog 61 = some (.nilFunc) := by kernel_rfl
theorem ag61 : aggT Try.prog 61 = some false := by kernel_rfl
theorem sz62 : szOf Try.prog 62 = some 1 := by kernel_rfl
theorem by62 : M.bytesOf Try.prog 62 = some 8 := by kernel_rfl
theorem ze62 : zeroOf Try.prog 62 = some (.nilFunc) := by kernel_rfl
theorem ag62 : aggT Try.prog 62 = some false := by kernel_rfl
theorem sz63 : szOf Try.prog 63 = some 3 := by kernel_rfl
theorem by63 : M.bytesOf Try.prog 63 = some 24 := by kernel_rfl
theorem ze63 : zeroOf Try.prog 63 = some (.agg #[.int .i64 0, .int .i64 0, .int .i64 0]) := by kernel_rfl
theorem ag63 : aggT Try.prog 63 = some true := by kernel_rfl
theorem fo63_0 : fieldOf Try.prog 63 0 = some (0, 1, 3) := by kernel_rfl
theorem fo63_1 : fieldOf Try.prog 63 1 = some (1, 1, 3) := by kernel_rfl
theorem fo63_2 : fieldOf Try.prog 63 2 = some (2, 1, 3) := by kernel_rfl
theorem pl63 : places Try.prog 63 = some (#[(0, 1), (1, 1), (2, 1)][·]?) := by kernel_rfl
theorem sz64 : szOf Try.prog 64 = some 3 := by kernel_rfl
theorem by64 : M.bytesOf Try.prog 64 = some 24 := by kernel_rfl
theorem ze64 : zeroOf Try.prog 64 = some (.agg #[.int .i64 0, .int .i64 0, .int .i64 0]) := by kernel_rfl
theorem ag64 : aggT Try.prog 64 = some true := by kernel_rfl
theorem fo64_0 : fieldOf Try.prog 64 0 = some (0, 1, 3) := by kernel_rfl
theorem fo64_1 : fieldOf Try.prog 64 1 = some (1, 1, 3) := by kernel_rfl
theorem fo64_2 : fieldOf Try.prog 64 2 = some (2, 1, 3) := by kernel_rfl
theorem pl64 : places Try.prog 64 = some (#[(0, 1), (1, 1), (2, 1)][·]?) := by kernel_rfl
theorem sz65 : szOf Try.prog 65 = some 1 := by kernel_rfl
theorem by65 : M.bytesOf Try.prog 65 = some 8 := by kernel_rfl
theorem ze65 : zeroOf Try.prog 65 = some (.nilFunc) := by kernel_rfl
theorem ag65 : aggT Try.prog 65 = some false := by kernel_rfl
theorem sz67 : szOf Try.prog 67 = some 1 := by kernel_rfl
theorem by67 : M.bytesOf Try.prog 67 = some 8 := by kernel_rfl
theorem ze67 : zeroOf Try.prog 67 = some (.nilFunc) := by kernel_rfl
theorem ag67 : aggT Try.prog 67 = some false := by kernel_rfl
theorem sz68 : szOf Try.prog 68 = some 1 := by kernel_rfl
theorem by68 : M.bytesOf Try.prog 68 = some 8 := by kernel_rfl
theorem ze68 : zeroOf Try.prog 68 = some (.nilFunc) := by kernel_rfl
theorem ag68 : aggT Try.prog 68 = some false := by kernel_rfl
theorem sz69 : szOf Try.prog 69 = some 1 := by kernel_rfl
theorem by69 : M.bytesOf Try.prog 69 = some 8 := by kernel_rfl
theorem ze69 : zeroOf Try.prog 69 = some (.nilFunc) := by kernel_rfl
theorem ag69 : aggT Try.prog 69 = some false := by kernel_rfl
theorem sz70 : szOf Try.prog 70 = some 1 := by kernel_rfl
theorem by70 : M.bytesOf Try.prog 70 = some 8 := by kernel_rfl
theorem ze70 : zeroOf Try.prog 70 = some (.nilFunc) := by kernel_rfl
theorem ag70 : aggT Try.prog 70 = some false := by kernel_rfl
theorem sz72 : szOf Try.prog 72 = some 1 := by kernel_rfl
theorem by72 : M.bytesOf Try.prog 72 = some 8 := by kernel_rfl
theorem ze72 : zeroOf Try.prog 72 = some (.nilFunc) := by kernel_rfl
theorem ag72 : aggT Try.prog 72 = some false := by kernel_rfl
theorem sz73 : szOf Try.prog 73 = some 1 := by kernel_rfl
theorem by73 : M.bytesOf Try.prog 73 = some 24 := by kernel_rfl
theorem ze73 : zeroOf Try.prog 73 = some (.slice none 0 0) := by kernel_rfl
theorem ag73 : aggT Try.prog 73 = some false := by kernel_rfl
theorem sz75 : szOf Try.prog 75 = some 1 := by kernel_rfl
theorem by75 : M.bytesOf Try.prog 75 = some 8 := by kernel_rfl
theorem ze75 : zeroOf Try.prog 75 = some (.nilFunc) := by kernel_rfl
theorem ag75 : aggT Try.prog 75 = some false := by kernel_rfl
theorem sz76 : szOf Try.prog 76 = some 1 := by kernel_rfl
theorem by76 : M.bytesOf Try.prog 76 = some 8 := by kernel_rfl
theorem ze76 : zeroOf Try.prog 76 = some (.nilFunc) := by kernel_rfl
theorem ag76 : aggT Try.prog 76 = some false := by kernel_rfl
theorem sz77 : szOf Try.prog 77 = some 1 := by kernel_rfl
theorem by77 : M.bytesOf Try.prog 77 = some 8 := by kernel_rfl
theorem ze77 : zeroOf Try.prog 77 = some (.nilFunc) := by kernel_rfl
theorem ag77 : aggT Try.prog 77 = some false := by kernel_rfl
theorem sz78 : szOf Try.prog 78 = some 1 := by kernel_rfl
theorem by78 : M.bytesOf Try.prog 78 = some 8 := by kernel_rfl
theorem ze78 : zeroOf Try.prog 78 = some (.nilFunc) := by kernel_rfl
theorem ag78 : aggT Try.prog 78 = some false := by kernel_rfl
theorem sz79 : szOf Try.prog 79 = some 1 := by kernel_rfl
theorem by79 : M.bytesOf Try.prog 79 = some 8 := by kernel_rfl
theorem ze79 : zeroOf Try.prog 79 = some (.nilFunc) := by kernel_rfl
theorem ag79 : aggT Try.prog 79 = some false := by kernel_rfl
theorem sz80 : szOf Try.prog 80 = some 1 := by kernel_rfl
theorem by80 : M.bytesOf Try.prog 80 = some 8 := by kernel_rfl
theorem ze80 : zeroOf Try.prog 80 = some (.nilFunc) := by kernel_rfl
theorem ag80 : aggT Try.prog 80 = some false := by kernel_rfl
theorem sz81 : szOf Try.prog 81 = some 1 := by kernel_rfl
theorem by81 : M.bytesOf Try.prog 81 = some 8 := by kernel_rfl
theorem ze81 : zeroOf Try.prog 81 = some (.nilFunc) := by kernel_rfl
theorem ag81 : aggT Try.prog 81 = some false := by kernel_rfl
theorem sz82 : szOf Try.prog 82 = some 1 := by kernel_rfl
theorem by82 : M.bytesOf Try.prog 82 = some 8 := by kernel_rfl
theorem ze82 : zeroOf Try.prog 82 = some (.nilFunc) := by kernel_rfl
theorem ag82 : aggT Try.prog 82 = some false := by kernel_rfl
theorem sz83 : szOf Try.prog 83 = some 3 := by kernel_rfl
theorem by83 : M.bytesOf Try.prog 83 = some 40 := by kernel_rfl
theorem ze83 : zeroOf Try.prog 83 = some (.agg #[.slice none 0 0, .int .i64 0, .int .i64 0]) := by kernel_rfl
theorem ag83 : aggT Try.prog 83 = some true := by kernel_rfl
theorem fo83_0 : fieldOf Try.prog 83 0 = some (0, 1, 22) := by kernel_rfl
theorem fo83_1 : fieldOf Try.prog 83 1 = some (1, 1, 3) := by kernel_rfl
theorem fo83_2 : fieldOf Try.prog 83 2 = some (2, 1, 36) := by kernel_rfl
theorem pl83 : places Try.prog 83 = some (#[(0, 1), (1, 1), (2, 1)][·]?) := by kernel_rfl
theorem sz84 : szOf Try.prog 84 = some 3 := by kernel_rfl
theorem by84 : M.bytesOf Try.prog 84 = some 40 := by kernel_rfl
theorem ze84 : zeroOf Try.prog 84 = some (.agg #[.slice none 0 0, .int .i64 0, .int .i64 0]) := by kernel_rfl
theorem ag84 : aggT Try.prog 84 = some true := by kernel_rfl
theorem fo84_0 : fieldOf Try.prog 84 0 = some (0, 1, 22) := by kernel_rfl
theorem fo84_1 : fieldOf Try.prog 84 1 = some (1, 1, 3) := by kernel_rfl
theorem fo84_2 : fieldOf Try.prog 84 2 = some (2, 1, 36) := by kernel_rfl
theorem pl84 : places Try.prog 84 = some (#[(0, 1), (1, 1), (2, 1)][·]?) := by kernel_rfl
theorem sz86 : szOf Try.prog 86 = some 1 := by kernel_rfl
theorem by86 : M.bytesOf Try.prog 86 = some 8 := by kernel_rfl
theorem ze86 : zeroOf Try.prog 86 = some (.nilFunc) := by kernel_rfl
theorem ag86 : aggT Try.prog 86 = some false := by kernel_rfl
theorem sz87 : szOf Try.prog 87 = some 1 := by kernel_rfl
theorem by87 : M.bytesOf Try.prog 87 = some 8 := by kernel_rfl
theorem ze87 : zeroOf Try.prog 87 = some (.nilFunc) := by kernel_rfl
theorem ag87 : aggT Try.prog 87 = some false := by kernel_rfl
theorem sz88 : szOf Try.prog 88 = some 1 := by kernel_rfl
theorem by88 : M.bytesOf Try.prog 88 = some 8 := by kernel_rfl
theorem ze88 : zeroOf Try.prog 88 = some (.int .u64 0) := by kernel_rfl
theorem ag88 : aggT Try.prog 88 = some false := by kernel_rfl
theorem sz89 : szOf Try.prog 89 = some 1 := by kernel_rfl
theorem by89 : M.bytesOf Try.prog 89 = some 8 := by kernel_rfl
theorem ze89 : zeroOf Try.prog 89 = some (.nilFunc) := by kernel_rfl
theorem ag89 : aggT Try.prog 89 = some false := by kernel_rfl
theorem sz91 : szOf Try.prog 91 = some 1 := by kernel_rfl
theorem by91 : M.bytesOf Try.prog 91 = some 8 := by kernel_rfl
theorem ze91 : zeroOf Try.prog 91 = some (.nilFunc) := by kernel_rfl
theorem ag91 : aggT Try.prog 91 = some false := by kernel_rfl
theorem sz92 : szOf Try.prog 92 = some 1 := by kernel_rfl
theorem by92 : M.bytesOf Try.prog 92 = some 8 := by kernel_rfl
theorem ze92 : zeroOf Try.prog 92 = some (.nilFunc) := by kernel_rfl
theorem ag92 : aggT Try.prog 92 = some false := by kernel_rfl
theorem sz93 : szOf Try.prog 93 = some 1 := by kernel_rfl
theorem by93 : M.bytesOf Try.prog 93 = some 8 := by kernel_rfl
theorem ze93 : zeroOf Try.prog 93 = some (.nilFunc) := by kernel_rfl
theorem ag93 : aggT Try.prog 93 = some false := by kernel_rfl
theorem sz94 : szOf Try.prog 94 = some 1 := by kernel_rfl
theorem by94 : M.bytesOf Try.prog 94 = some 8 := by kernel_rfl
theorem ze94 : zeroOf Try.prog 94 = some (.nilFunc) := by kernel_rfl
theorem ag94 : aggT Try.prog 94 = some false := by kernel_rfl
theorem sz95 : szOf Try.prog 95 = some 1 := by kernel_rfl
theorem by95 : M.bytesOf Try.prog 95 = some 8 := by kernel_rfl
theorem ze95 : zeroOf Try.prog 95 = some (.nilFunc) := by kernel_rfl
theorem ag95 : aggT Try.prog 95 = some false := by kernel_rfl
theorem sz96 : szOf Try.prog 96 = some 1 := by kernel_rfl
theorem by96 : M.bytesOf Try.prog 96 = some 8 := by kernel_rfl
theorem ze96 : zeroOf Try.prog 96 = some (.nilFunc) := by kernel_rfl
theorem ag96 : aggT Try.prog 96 = some false := by kernel_rfl
theorem sz97 : szOf Try.prog 97 = some 1 := by kernel_rfl
theorem by97 : M.bytesOf Try.prog 97 = some 8 := by kernel_rfl
theorem ze97 : zeroOf Try.prog 97 = some (.nilFunc) := by kernel_rfl
theorem ag97 : aggT Try.prog 97 = some false := by kernel_rfl
theorem sz98 : szOf Try.prog 98 = some 5 := by kernel_rfl
theorem by98 : M.bytesOf Try.prog 98 = some 5 := by kernel_rfl
theorem ze98 : zeroOf Try.prog 98 = some (.agg #[.bool false, .bool false, .bool false, .bool false, .bool false]) := by kernel_rfl
theorem ag98 : aggT Try.prog 98 = some true := by kernel_rfl
theorem fo98_0 : fieldOf Try.prog 98 0 = some (0, 1, 4) := by kernel_rfl
theorem fo98_1 : fieldOf Try.prog 98 1 = some (1, 1, 4) := by kernel_rfl
theorem fo98_2 : fieldOf Try.prog 98 2 = some (2, 1, 4) := by kernel_rfl
theorem fo98_3 : fieldOf Try.prog 98 3 = some (3, 1, 4) := by kernel_rfl
theorem fo98_4 : fieldOf Try.prog 98 4 = some (4, 1, 4) := by kernel_rfl
theorem pl98 : places Try.prog 98 = some (#[(0, 1), (1, 1), (2, 1), (3, 1), (4, 1)][·]?) := by kernel_rfl
theorem sz99 : szOf Try.prog 99 = some 5 := by kernel_rfl
theorem by99 : M.bytesOf Try.prog 99 = some 5 := by kernel_rfl
theorem ze99 : zeroOf Try.prog 99 = some (.agg #[.bool false, .bool false, .bool false, .bool false, .bool false]) := by kernel_rfl
theorem ag99 : aggT Try.prog 99 = some true := by kernel_rfl
theorem fo99_0 : fieldOf Try.prog 99 0 = some (0, 1, 4) := by kernel_rfl
theorem fo99_1 : fieldOf Try.prog 99 1 = some (1, 1, 4) := by kernel_rfl
theorem fo99_2 : fieldOf Try.prog 99 2 = some (2, 1, 4) := by kernel_rfl
theorem fo99_3 : fieldOf Try.prog 99 3 = some (3, 1, 4) := by kernel_rfl
theorem fo99_4 : fieldOf Try.prog 99 4 = some (4, 1, 4) := by kernel_rfl
theorem pl99 : places Try.prog 99 = some (#[(0, 1), (1, 1), (2, 1), (3, 1), (4, 1)][·]?) := by kernel_rfl
theorem sz101 : szOf Try.prog 101 = some 1 := by kernel_rfl
theorem by101 : M.bytesOf Try.prog 101 = some 8 := by kernel_rfl
theorem ze101 : zeroOf Try.prog 101 = some (.nilFunc) := by kernel_rfl
theorem ag101 : aggT Try.prog 101 = some false := by kernel_rfl
theorem sz102 : szOf Try.prog 102 = some 1 := by kernel_rfl
theorem by102 : M.bytesOf Try.prog 102 = some 8 := by kernel_rfl
theorem ze102 : zeroOf Try.prog 102 = some (.nilFunc) := by kernel_rfl
theorem ag102 : aggT Try.prog 102 = some false := by kernel_rfl
theorem sz103 : szOf Try.prog 103 = some 1 := by kernel_rfl
theorem by103 : M.bytesOf Try.prog 103 = some 8 := by kernel_rfl
theorem ze103 : zeroOf Try.prog 103 = some (.nilFunc) := by kernel_rfl
theorem ag103 : aggT Try.prog 103 = some false := by kernel_rfl
theorem sz104 : szOf Try.prog 104 = some 1 := by kernel_rfl
theorem by104 : M.bytesOf Try.prog 104 = some 8 := by kernel_rfl
theorem ze104 : zeroOf Try.prog 104 = some (.nilFunc) := by kernel_rfl
theorem ag104 : aggT Try.prog 104 = some false := by kernel_rfl
theorem sz105 : szOf Try.prog 105 = some 1 := by kernel_rfl
theorem by105 : M.bytesOf Try.prog 105 = some 8 := by kernel_rfl
theorem ze105 : zeroOf Try.prog 105 = some (.nilFunc) := by kernel_rfl
theorem ag105 : aggT Try.prog 105 = some false := by kernel_rfl
theorem sz106 : szOf Try.prog 106 = some 1 := by kernel_rfl
theorem by106 : M.bytesOf Try.prog 106 = some 8 := by kernel_rfl
theorem ze106 : zeroOf Try.prog 106 = some (.nilFunc) := by kernel_rfl
theorem ag106 : aggT Try.prog 106 = some false := by kernel_rfl
theorem sz107 : szOf Try.prog 107 = some 1 := by kernel_rfl
theorem by107 : M.bytesOf Try.prog 107 = some 8 := by kernel_rfl
theorem ze107 : zeroOf Try.prog 107 = some (.nilFunc) := by kernel_rfl
theorem ag107 : aggT Try.prog 107 = some false := by kernel_rfl
theorem sz108 : szOf Try.prog 108 = some 1 := by kernel_rfl
theorem by108 : M.bytesOf Try.prog 108 = some 8 := by kernel_rfl
theorem ze108 : zeroOf Try.prog 108 = some (.nilFunc) := by kernel_rfl
theorem ag108 : aggT Try.prog 108 = some false := by kernel_rfl
theorem sz109 : szOf Try.prog 109 = some 1 := by kernel_rfl
theorem by109 : M.bytesOf Try.prog 109 = some 8 := by kernel_rfl
theorem ze109 : zeroOf Try.prog 109 = some (.nilFunc) := by kernel_rfl
theorem ag109 : aggT Try.prog 109 = some false := by kernel_rfl
theorem sz110 : szOf Try.prog 110 = some 1 := by kernel_rfl
theorem by110 : M.bytesOf Try.prog 110 = some 8 := by kernel_rfl
theorem ze110 : zeroOf Try.prog 110 = some (.nilFunc) := by kernel_rfl
theorem ag110 : aggT Try.prog 110 = some false := by kernel_rfl
theorem sz111 : szOf Try.prog 111 = some 1 := by kernel_rfl
theorem by111 : M.bytesOf Try.prog 111 = some 8 := by kernel_rfl
theorem ze111 : zeroOf Try.prog 111 = some (.nilFunc) := by kernel_rfl
theorem ag111 : aggT Try.prog 111 = some false := by kernel_rfl
theorem sz112 : szOf Try.prog 112 = some 1 := by kernel_rfl
theorem by112 : M.bytesOf Try.prog 112 = some 8 := by kernel_rfl
theorem ze112 : zeroOf Try.prog 112 = some (.nilFunc) := by kernel_rfl
theorem ag112 : aggT Try.prog 112 = some false := by kernel_rfl
theorem sz113 : szOf Try.prog 113 = some 1 := by kernel_rfl
theorem by113 : M.bytesOf Try.prog 113 = some 8 := by kernel_rfl
theorem ze113 : zeroOf Try.prog 113 = some (.nilFunc) := by kernel_rfl
theorem ag113 : aggT Try.prog 113 = some false := by kernel_rfl
theorem sz114 : szOf Try.prog 114 = some 1 := by kernel_rfl
theorem by114 : M.bytesOf Try.prog 114 = some 8 := by kernel_rfl
theorem ze114 : zeroOf Try.prog 114 = some (.nilFunc) := by kernel_rfl
theorem ag114 : aggT Try.prog 114 = some false := by kernel_rfl
theorem sz115 : szOf Try.prog 115 = some 1 := by kernel_rfl
theorem by115 : M.bytesOf Try.prog 115 = some 8 := by kernel_rfl
theorem ze115 : zeroOf Try.prog 115 = some (.nilFunc) := by kernel_rfl
theorem ag115 : aggT Try.prog 115 = some false := by kernel_rfl
theorem sz117 : szOf Try.prog 117 = some 1 := by kernel_rfl
theorem by117 : M.bytesOf Try.prog 117 = some 8 := by kernel_rfl
theorem ze117 : zeroOf Try.prog 117 = some (.nilFunc) := by kernel_rfl
theorem ag117 : aggT Try.prog 117 = some false := by kernel_rfl
theorem sz118 : szOf Try.prog 118 = some 1 := by kernel_rfl
theorem by118 : M.bytesOf Try.prog 118 = some 8 := by kernel_rfl
theorem ze118 : zeroOf Try.prog 118 = some (.nilFunc) := by kernel_rfl
theorem ag118 : aggT Try.prog 118 = some false := by kernel_rfl
theorem sz119 : szOf Try.prog 119 = some 30 := by kernel_rfl
theorem by119 : M.bytesOf Try.prog 119 = some 30 := by kernel_rfl
theorem ze119 : zeroOf Try.prog 119 = some (.agg #[.bool false, .bool false, .bool false, .bool false, .bool false, .bool false, .bool false, .bool false, .bool false, .bool false, .bool false, .bool false, .bool false, .bool false, .bool false, .bool false, .bool false, .bool false, .bool false, .bool false, .bool false, .bool false, .bool false, .bool false, .bool false, .bool false, .bool false, .bool false, .bool false, .bool false]) := by kernel_rfl
theorem ag119 : aggT Try.prog 119 = some true := by kernel_rfl
theorem pl119 : places Try.prog 119 = some (fun i => some (i * 5, 5)) := by kernel_rfl
theorem sz120 : szOf Try.prog 120 = some 1 := by kernel_rfl
theorem by120 : M.bytesOf Try.prog 120 = some 8 := by kernel_rfl
theorem ze120 : zeroOf Try.prog 120 = some (.nilFunc) := by kernel_rfl
theorem ag120 : aggT Try.prog 120 = some false := by kernel_rfl
theorem sz121 : szOf Try.prog 121 = some 3 := by kernel_rfl
theorem by121 : M.bytesOf Try.prog 121 = some 3 := by kernel_rfl
theorem ze121 : zeroOf Try.prog 121 = some (.agg #[.bool false, .bool false, .bool false]) := by kernel_rfl
theorem ag121 : aggT Try.prog 121 = some true := by kernel_rfl
theorem fo121_0 : fieldOf Try.prog 121 0 = some (0, 1, 4) := by kernel_rfl
theorem fo121_1 : fieldOf Try.prog 121 1 = some (1, 1, 4) := by kernel_rfl
theorem fo121_2 : fieldOf Try.prog 121 2 = some (2, 1, 4) := by kernel_rfl
theorem pl121 : places Try.prog 121 = some (#[(0, 1), (1, 1), (2, 1)][·]?) := by kernel_rfl
theorem sz122 : szOf Try.prog 122 = some 1 := by kernel_rfl
theorem by122 : M.bytesOf Try.prog 122 = some 8 := by kernel_rfl
theorem ze122 : zeroOf Try.prog 122 = some (.nilFunc) := by kernel_rfl
theorem ag122 : aggT Try.prog 122 = some false := by kernel_rfl
theorem sz123 : szOf Try.prog 123 = some 4 := by kernel_rfl
theorem by123 : M.bytesOf Try.prog 123 = some 32 := by kernel_rfl
theorem ze123 : zeroOf Try.prog 123 = some (.agg #[.int .i64 0, .int .i64 0, .int .i64 0, .int .i64 0]) := by kernel_rfl
theorem ag123 : aggT Try.prog 123 = some true := by kernel_rfl
theorem fo123_0 : fieldOf Try.prog 123 0 = some (0, 2, 55) := by kernel_rfl
theorem fo123_1 : fieldOf Try.prog 123 1 = some (2, 1, 3) := by kernel_rfl
theorem fo123_2 : fieldOf Try.prog 123 2 = some (3, 1, 3) := by kernel_rfl
theorem pl123 : places Try.prog 123 = some (#[(0, 2), (2, 1), (3, 1)][·]?) := by kernel_rfl
theorem sz124 : szOf Try.prog 124 = some 4 := by kernel_rfl
theorem by124 : M.bytesOf Try.prog 124 = some 32 := by kernel_rfl
theorem ze124 : zeroOf Try.prog 124 = some (.agg #[.int .i64 0, .int .i64 0, .int .i64 0, .int .i64 0]) := by kernel_rfl
theorem ag124 : aggT Try.prog 124 = some true := by kernel_rfl
theorem fo124_0 : fieldOf Try.prog 124 0 = some (0, 2, 55) := by kernel_rfl
theorem fo124_1 : fieldOf Try.prog 124 1 = some (2, 1, 3) := by kernel_rfl
theorem fo124_2 : fieldOf Try.prog 124 2 = some (3, 1, 3) := by kernel_rfl
theorem pl124 : places Try.prog 124 = some (#[(0, 2), (2, 1), (3, 1)][·]?) := by kernel_rfl
theorem sz125 : szOf Try.prog 125 = some 15 := by kernel_rfl
theorem by125 : M.bytesOf Try.prog 125 = some 15 := by kernel_rfl
theorem ze125 : zeroOf Try.prog 125 = some (.agg #[.bool false, .bool false, .bool false, .bool false, .bool false, .bool false, .bool false, .bool false, .bool false, .bool false, .bool false, .bool false, .bool false, .bool false, .bool false]) := by kernel_rfl
theorem ag125 : aggT Try.prog 125 = some true := by kernel_rfl
theorem pl125 : places Try.prog 125 = some (fun i => some (i * 3, 3)) := by kernel_rfl
theorem sz126 : szOf Try.prog 126 = some 1 := by kernel_rfl
theorem by126 : M.bytesOf Try.prog 126 = some 8 := by kernel_rfl
theorem ze126 : zeroOf Try.prog 126 = some (.nilFunc) := by kernel_rfl
theorem ag126 : aggT Try.prog 126 = some false := by kernel_rfl
theorem sz127 : szOf Try.prog 127 = some 1 := by kernel_rfl
theorem by127 : M.bytesOf Try.prog 127 = some 8 := by kernel_rfl
theorem ze127 : zeroOf Try.prog 127 = some (.nilFunc) := by kernel_rfl
theorem ag127 : aggT Try.prog 127 = some false := by kernel_rfl
theorem sz128 : szOf Try.prog 128 = some 1 := by kernel_rfl
theorem by128 : M.bytesOf Try.prog 128 = some 8 := by kernel_rfl
theorem ze128 : zeroOf Try.prog 128 = some (.nilFunc) := by kernel_rfl
theorem ag128 : aggT Try.prog 128 = some false := by kernel_rfl
theorem sz129 : szOf Try.prog 129 = some 1 := by kernel_rfl
theorem by129 : M.bytesOf Try.prog 129 = some 8 := by kernel_rfl
theorem ze129 : zeroOf Try.prog 129 = some (.nilFunc) := by kernel_rfl
theorem ag129 : aggT Try.prog 129 = some false := by kernel_rfl
theorem sz130 : szOf Try.prog 130 = some 1 := by kernel_rfl
theorem by130 : M.bytesOf Try.prog 130 = some 8 := by kernel_rfl
theorem ze130 : zeroOf Try.prog 130 = some (.nilFunc) := by kernel_rfl
theorem ag130 : aggT Try.prog 130 = some false := by kernel_rfl
theorem sz131 : szOf Try.prog 131 = some 4 := by kernel_rfl
theorem by131 : M.bytesOf Try.prog 131 = some 40 := by kernel_rfl
theorem ze131 : zeroOf Try.prog 131 = some (.agg #[.pointer none, .pointer none, .pointer none, .string ByteArray.empty]) := by kernel_rfl
theorem ag131 : aggT Try.prog 131 = some true := by kernel_rfl
theorem fo131_0 : fieldOf Try.prog 131 0 = some (0, 1, 17) := by kernel_rfl
theorem fo131_1 : fieldOf Try.prog 131 1 = some (1, 1, 17) := by kernel_rfl
theorem fo131_2 : fieldOf Try.prog 131 2 = some (2, 1, 17) := by kernel_rfl
theorem fo131_3 : fieldOf Try.prog 131 3 = some (3, 1, 9) := by kernel_rfl
theorem pl131 : places Try.prog 131 = some (#[(0, 1), (1, 1), (2, 1), (3, 1)][·]?) := by kernel_rfl
theorem sz133 : szOf Try.prog 133 = some 0 := by kernel_rfl
theorem by133 : M.bytesOf Try.prog 133 = some 0 := by kernel_rfl
theorem ze133 : zeroOf Try.prog 133 = some (.agg #[]) := by kernel_rfl
theorem ag133 : aggT Try.prog 133 = some true := by kernel_rfl
theorem pl133 : places Try.prog 133 = some (fun i => some (i * 1, 1)) := by kernel_rfl
theorem sz134 : szOf Try.prog 134 = some 0 := by kernel_rfl
theorem by134 : M.bytesOf Try.prog 134 = some 0 := by kernel_rfl
theorem ze134 : zeroOf Try.prog 134 = some (.agg #[]) := by kernel_rfl
theorem ag134 : aggT Try.prog 134 = some true := by kernel_rfl
theorem fo134_0 : fieldOf Try.prog 134 0 = some (0, 0, 133) := by kernel_rfl
theorem pl134 : places Try.prog 134 = some (#[(0, 0)][·]?) := by kernel_rfl
theorem sz138 : szOf Try.prog 138 = some 1 := by kernel_rfl
theorem by138 : M.bytesOf Try.prog 138 = some 8 := by kernel_rfl
theorem ze138 : zeroOf Try.prog 138 = some (.nilFunc) := by kernel_rfl
theorem ag138 : aggT Try.prog 138 = some false := by kernel_rfl
theorem sz139 : szOf Try.prog 139 = some 1 := by kernel_rfl
theorem by139 : M.bytesOf Try.prog 139 = some 8 := by kernel_rfl
theorem ze139 : zeroOf Try.prog 139 = some (.pointer none) := by kernel_rfl
theorem ag139 : aggT Try.prog 139 = some false := by kernel_rfl
theorem sz142 : szOf Try.prog 142 = some 11 := by kernel_rfl
theorem by142 : M.bytesOf Try.prog 142 = some 48 := by kernel_rfl
theorem ze142 : zeroOf Try.prog 142 = some (.agg #[.int .u64 0, .int .u64 0, .int .u32 0, .int .u8 0, .int .u8 0, .int .u8 0, .int .u8 0, .nilFunc, .pointer none, .int .i32 0, .int .i32 0]) := by kernel_rfl
theorem ag142 : aggT Try.prog 142 = some true := by kernel_rfl
theorem fo142_0 : fieldOf Try.prog 142 0 = some (0, 1, 12) := by kernel_rfl
theorem fo142_1 : fieldOf Try.prog 142 1 = some (1, 1, 12) := by kernel_rfl
theorem fo142_2 : fieldOf Try.prog 142 2 = some (2, 1, 42) := by kernel_rfl
theorem fo142_3 : fieldOf Try.prog 142 3 = some (3, 1, 136) := by kernel_rfl
theorem fo142_4 : fieldOf Try.prog 142 4 = some (4, 1, 5) := by kernel_rfl
theorem fo142_5 : fieldOf Try.prog 142 5 = some (5, 1, 5) := by kernel_rfl
theorem fo142_6 : fieldOf Try.prog 142 6 = some (6, 1, 137) := by kernel_rfl
theorem fo142_7 : fieldOf Try.prog 142 7 = some (7, 1, 138) := by kernel_rfl
theorem fo142_8 : fieldOf Try.prog 142 8 = some (8, 1, 139) := by kernel_rfl
theorem fo142_9 : fieldOf Try.prog 142 9 = some (9, 1, 140) := by kernel_rfl
theorem fo142_10 : fieldOf Try.prog 142 10 = some (10, 1, 141) := by kernel_rfl
theorem pl142 : places Try.prog 142 = some (#[(0, 1), (1, 1), (2, 1), (3, 1), (4, 1), (5, 1), (6, 1), (7, 1), (8, 1), (9, 1), (10, 1)][·]?) := by kernel_rfl
theorem cv2 (st : List Ob) (s : TypeId) (j : IntKind) (n : Int) (h : (Try.prog.underlying s).isSome = true) : aconvert Try.prog st s 2 (.sc (.int j n)) = some (.sc (.int .i64 (IntKind.wrap .i64 n))) := aconv_i Try.underlying2 h
theorem cv3 (st : List Ob) (s : TypeId) (j : IntKind) (n : Int) (h : (Try.prog.underlying s).isSome = true) : aconvert Try.prog st s 3 (.sc (.int j n)) = some (.sc (.int .i64 (IntKind.wrap .i64 n))) := aconv_i Try.underlying3 h
theorem cv5 (st : List Ob) (s : TypeId) (j : IntKind) (n : Int) (h : (Try.prog.underlying s).isSome = true) : aconvert Try.prog st s 5 (.sc (.int j n)) = some (.sc (.int .u8 (IntKind.wrap .u8 n))) := aconv_i Try.underlying5 h
theorem cv9 (st : List Ob) (s : TypeId) (b : ByteArray) (h : (Try.prog.underlying s).isSome = true) : aconvert Try.prog st s 9 (.sc (.string b)) = some (.sc (.string b)) := aconv_s Try.underlying9 h
theorem cv12 (st : List Ob) (s : TypeId) (j : IntKind) (n : Int) (h : (Try.prog.underlying s).isSome = true) : aconvert Try.prog st s 12 (.sc (.int j n)) = some (.sc (.int .u64 (IntKind.wrap .u64 n))) := aconv_i Try.underlying12 h
theorem cv21 (st : List Ob) (s : TypeId) (j : IntKind) (n : Int) (h : (Try.prog.underlying s).isSome = true) : aconvert Try.prog st s 21 (.sc (.int j n)) = some (.sc (.int .i32 (IntKind.wrap .i32 n))) := aconv_i Try.underlying21 h
theorem cv26 (st : List Ob) (s : TypeId) (j : IntKind) (n : Int) (h : (Try.prog.underlying s).isSome = true) : aconvert Try.prog st s 26 (.sc (.int j n)) = some (.sc (.int .u64 (IntKind.wrap .u64 n))) := aconv_i Try.underlying26 h
theorem cv36 (st : List Ob) (s : TypeId) (j : IntKind) (n : Int) (h : (Try.prog.underlying s).isSome = true) : aconvert Try.prog st s 36 (.sc (.int j n)) = some (.sc (.int .i64 (IntKind.wrap .i64 n))) := aconv_i Try.underlying36 h
theorem cv42 (st : List Ob) (s : TypeId) (j : IntKind) (n : Int) (h : (Try.prog.underlying s).isSome = true) : aconvert Try.prog st s 42 (.sc (.int j n)) = some (.sc (.int .u32 (IntKind.wrap .u32 n))) := aconv_i Try.underlying42 h
theorem cv88 (st : List Ob) (s : TypeId) (j : IntKind) (n : Int) (h : (Try.prog.underlying s).isSome = true) : aconvert Try.prog st s 88 (.sc (.int j n)) = some (.sc (.int .u64 (IntKind.wrap .u64 n))) := aconv_i Try.underlying88 h
theorem pe15 (x y : Operand) : pureRun Try.prog (do eqGuard .eql 15 x y (.pointer none) (.pointer none); binOp .eql 15 (.pointer none) (.pointer none)) = some (.bool true) := pr_eqnil Try.underlying15 x y
theorem pn15 (x y : Operand) : pureRun Try.prog (do eqGuard .neq 15 x y (.pointer none) (.pointer none); binOp .neq 15 (.pointer none) (.pointer none)) = some (.bool false) := pr_nenil Try.underlying15 x y
theorem pe16 (x y : Operand) : pureRun Try.prog (do eqGuard .eql 16 x y (.pointer none) (.pointer none); binOp .eql 16 (.pointer none) (.pointer none)) = some (.bool true) := pr_eqnil Try.underlying16 x y
theorem pn16 (x y : Operand) : pureRun Try.prog (do eqGuard .neq 16 x y (.pointer none) (.pointer none); binOp .neq 16 (.pointer none) (.pointer none)) = some (.bool false) := pr_nenil Try.underlying16 x y
theorem pe17 (x y : Operand) : pureRun Try.prog (do eqGuard .eql 17 x y (.pointer none) (.pointer none); binOp .eql 17 (.pointer none) (.pointer none)) = some (.bool true) := pr_eqnil Try.underlying17 x y
theorem pn17 (x y : Operand) : pureRun Try.prog (do eqGuard .neq 17 x y (.pointer none) (.pointer none); binOp .neq 17 (.pointer none) (.pointer none)) = some (.bool false) := pr_nenil Try.underlying17 x y
theorem pe32 (x y : Operand) : pureRun Try.prog (do eqGuard .eql 32 x y (.pointer none) (.pointer none); binOp .eql 32 (.pointer none) (.pointer none)) = some (.bool true) := pr_eqnil Try.underlying32 x y
theorem pn32 (x y : Operand) : pureRun Try.prog (do eqGuard .neq 32 x y (.pointer none) (.pointer none); binOp .neq 32 (.pointer none) (.pointer none)) = some (.bool false) := pr_nenil Try.underlying32 x y
theorem pe49 (x y : Operand) : pureRun Try.prog (do eqGuard .eql 49 x y (.pointer none) (.pointer none); binOp .eql 49 (.pointer none) (.pointer none)) = some (.bool true) := pr_eqnil Try.underlying49 x y
theorem pn49 (x y : Operand) : pureRun Try.prog (do eqGuard .neq 49 x y (.pointer none) (.pointer none); binOp .neq 49 (.pointer none) (.pointer none)) = some (.bool false) := pr_nenil Try.underlying49 x y
theorem pe139 (x y : Operand) : pureRun Try.prog (do eqGuard .eql 139 x y (.pointer none) (.pointer none); binOp .eql 139 (.pointer none) (.pointer none)) = some (.bool true) := pr_eqnil Try.underlying139 x y
theorem pn139 (x y : Operand) : pureRun Try.prog (do eqGuard .neq 139 x y (.pointer none) (.pointer none); binOp .neq 139 (.pointer none) (.pointer none)) = some (.bool false) := pr_nenil Try.underlying139 x y
theorem noGor : ∀ (f : FuncId) (fn : Func), Try.prog.funcs[f]? = some fn → (fn.name == "runtime.NumGoroutine") = false := fun f fn h => by
  have : (Try.prog.funcs.all fun fn => !(fn.name == "runtime.NumGoroutine")) = true := by kernel_rfl
  have := (Array.all_eq_true_iff_forall_mem.1 this) fn (Array.mem_of_getElem? h)
  simpa using this
theorem follows : Try.prog.follows .mixedOrders = true := by kernel_rfl
end Go.Proofs.Ytfndpnmdjblokaa
