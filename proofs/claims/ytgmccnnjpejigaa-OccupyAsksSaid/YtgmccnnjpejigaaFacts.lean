import Derived.Test.YtgmccnnjpejigaaM15
import Derived.Test.YtgmccnnjpejigaaProg
import Derived.KernelRfl
namespace Go.Proofs.Ytgmccnnjpejigaa
open Go Go.M
theorem sz1 : szOf Try.prog 1 = some 1 := by kernel_rfl
theorem by1 : M.bytesOf Try.prog 1 = some 8 := by kernel_rfl
theorem ze1 : zeroOf Try.prog 1 = some (.nilFunc) := by kernel_rfl
theorem ag1 : aggT Try.prog 1 = some false := by kernel_rfl
theorem sz2 : szOf Try.prog 2 = some 1 := by kernel_rfl
theorem by2 : M.bytesOf Try.prog 2 = some 8 := by kernel_rfl
theorem ze2 : zeroOf Try.prog 2 = some (.int .i64 0) := by kernel_rfl
theorem ag2 : aggT Try.prog 2 = some false := by kernel_rfl
theorem sz3 : szOf Try.prog 3 = some 1 := by kernel_rfl
theorem by3 : M.bytesOf Try.prog 3 = some 8 := by kernel_rfl
theorem ze3 : zeroOf Try.prog 3 = some (.int .i64 0) := by kernel_rfl
theorem ag3 : aggT Try.prog 3 = some false := by kernel_rfl
theorem sz4 : szOf Try.prog 4 = some 1 := by kernel_rfl
theorem by4 : M.bytesOf Try.prog 4 = some 1 := by kernel_rfl
theorem ze4 : zeroOf Try.prog 4 = some (.bool false) := by kernel_rfl
theorem ag4 : aggT Try.prog 4 = some false := by kernel_rfl
theorem sz5 : szOf Try.prog 5 = some 1 := by kernel_rfl
theorem by5 : M.bytesOf Try.prog 5 = some 1 := by kernel_rfl
theorem ze5 : zeroOf Try.prog 5 = some (.int .u8 0) := by kernel_rfl
theorem ag5 : aggT Try.prog 5 = some false := by kernel_rfl
theorem sz7 : szOf Try.prog 7 = some 4 := by kernel_rfl
theorem by7 : M.bytesOf Try.prog 7 = some 24 := by kernel_rfl
theorem ze7 : zeroOf Try.prog 7 = some (.agg #[.int .i64 0, .int .i64 0, .bool false, .int .u8 0]) := by kernel_rfl
theorem ag7 : aggT Try.prog 7 = some true := by kernel_rfl
theorem fo7_0 : fieldOf Try.prog 7 0 = some (0, 1, 2) := by kernel_rfl
theorem fo7_1 : fieldOf Try.prog 7 1 = some (1, 1, 3) := by kernel_rfl
theorem fo7_2 : fieldOf Try.prog 7 2 = some (2, 1, 4) := by kernel_rfl
theorem fo7_3 : fieldOf Try.prog 7 3 = some (3, 1, 6) := by kernel_rfl
theorem pl7 : places Try.prog 7 = some (#[(0, 1), (1, 1), (2, 1), (3, 1)][·]?) := by kernel_rfl
theorem sz9 : szOf Try.prog 9 = some 1 := by kernel_rfl
theorem by9 : M.bytesOf Try.prog 9 = some 16 := by kernel_rfl
theorem ze9 : zeroOf Try.prog 9 = some (.string ByteArray.empty) := by kernel_rfl
theorem ag9 : aggT Try.prog 9 = some false := by kernel_rfl
theorem sz12 : szOf Try.prog 12 = some 1 := by kernel_rfl
theorem by12 : M.bytesOf Try.prog 12 = some 8 := by kernel_rfl
theorem ze12 : zeroOf Try.prog 12 = some (.int .u64 0) := by kernel_rfl
theorem ag12 : aggT Try.prog 12 = some false := by kernel_rfl
theorem sz13 : szOf Try.prog 13 = some 2 := by kernel_rfl
theorem by13 : M.bytesOf Try.prog 13 = some 24 := by kernel_rfl
theorem ze13 : zeroOf Try.prog 13 = some (.agg #[.string ByteArray.empty, .int .u64 0]) := by kernel_rfl
theorem ag13 : aggT Try.prog 13 = some true := by kernel_rfl
theorem fo13_0 : fieldOf Try.prog 13 0 = some (0, 1, 9) := by kernel_rfl
theorem fo13_1 : fieldOf Try.prog 13 1 = some (1, 1, 12) := by kernel_rfl
theorem pl13 : places Try.prog 13 = some (#[(0, 1), (1, 1)][·]?) := by kernel_rfl
theorem sz15 : szOf Try.prog 15 = some 1 := by kernel_rfl
theorem by15 : M.bytesOf Try.prog 15 = some 8 := by kernel_rfl
theorem ze15 : zeroOf Try.prog 15 = some (.pointer none) := by kernel_rfl
theorem ag15 : aggT Try.prog 15 = some false := by kernel_rfl
theorem sz16 : szOf Try.prog 16 = some 1 := by kernel_rfl
theorem by16 : M.bytesOf Try.prog 16 = some 8 := by kernel_rfl
theorem ze16 : zeroOf Try.prog 16 = some (.pointer none) := by kernel_rfl
theorem ag16 : aggT Try.prog 16 = some false := by kernel_rfl
theorem sz17 : szOf Try.prog 17 = some 1 := by kernel_rfl
theorem by17 : M.bytesOf Try.prog 17 = some 8 := by kernel_rfl
theorem ze17 : zeroOf Try.prog 17 = some (.pointer none) := by kernel_rfl
theorem ag17 : aggT Try.prog 17 = some false := by kernel_rfl
theorem sz18 : szOf Try.prog 18 = some 1 := by kernel_rfl
theorem by18 : M.bytesOf Try.prog 18 = some 8 := by kernel_rfl
theorem ze18 : zeroOf Try.prog 18 = some (.agg #[.pointer none]) := by kernel_rfl
theorem ag18 : aggT Try.prog 18 = some true := by kernel_rfl
theorem fo18_0 : fieldOf Try.prog 18 0 = some (0, 1, 17) := by kernel_rfl
theorem pl18 : places Try.prog 18 = some (#[(0, 1)][·]?) := by kernel_rfl
theorem sz21 : szOf Try.prog 21 = some 1 := by kernel_rfl
theorem by21 : M.bytesOf Try.prog 21 = some 4 := by kernel_rfl
theorem ze21 : zeroOf Try.prog 21 = some (.int .i32 0) := by kernel_rfl
theorem ag21 : aggT Try.prog 21 = some false := by kernel_rfl
theorem sz22 : szOf Try.prog 22 = some 1 := by kernel_rfl
theorem by22 : M.bytesOf Try.prog 22 = some 24 := by kernel_rfl
theorem ze22 : zeroOf Try.prog 22 = some (.slice none 0 0) := by kernel_rfl
theorem ag22 : aggT Try.prog 22 = some false := by kernel_rfl
theorem sz23 : szOf Try.prog 23 = some 1 := by kernel_rfl
theorem by23 : M.bytesOf Try.prog 23 = some 8 := by kernel_rfl
theorem ze23 : zeroOf Try.prog 23 = some (.nilFunc) := by kernel_rfl
theorem ag23 : aggT Try.prog 23 = some false := by kernel_rfl
theorem sz24 : szOf Try.prog 24 = some 1 := by kernel_rfl
theorem by24 : M.bytesOf Try.prog 24 = some 8 := by kernel_rfl
theorem ze24 : zeroOf Try.prog 24 = some (.pointer none) := by kernel_rfl
theorem ag24 : aggT Try.prog 24 = some false := by kernel_rfl
theorem sz25 : szOf Try.prog 25 = some 1 := by kernel_rfl
theorem by25 : M.bytesOf Try.prog 25 = some 8 := by kernel_rfl
theorem ze25 : zeroOf Try.prog 25 = some (.nilFunc) := by kernel_rfl
theorem ag25 : aggT Try.prog 25 = some false := by kernel_rfl
theorem sz26 : szOf Try.prog 26 = some 1 := by kernel_rfl
theorem by26 : M.bytesOf Try.prog 26 = some 8 := by kernel_rfl
theorem ze26 : zeroOf Try.prog 26 = some (.pointer none) := by kernel_rfl
theorem ag26 : aggT Try.prog 26 = some false := by kernel_rfl
theorem sz27 : szOf Try.prog 27 = some 1 := by kernel_rfl
theorem by27 : M.bytesOf Try.prog 27 = some 24 := by kernel_rfl
theorem ze27 : zeroOf Try.prog 27 = some (.slice none 0 0) := by kernel_rfl
theorem ag27 : aggT Try.prog 27 = some false := by kernel_rfl
theorem sz28 : szOf Try.prog 28 = some 1 := by kernel_rfl
theorem by28 : M.bytesOf Try.prog 28 = some 24 := by kernel_rfl
theorem ze28 : zeroOf Try.prog 28 = some (.agg #[.slice none 0 0]) := by kernel_rfl
theorem ag28 : aggT Try.prog 28 = some true := by kernel_rfl
theorem fo28_0 : fieldOf Try.prog 28 0 = some (0, 1, 27) := by kernel_rfl
theorem pl28 : places Try.prog 28 = some (#[(0, 1)][·]?) := by kernel_rfl
theorem sz29 : szOf Try.prog 29 = some 1 := by kernel_rfl
theorem by29 : M.bytesOf Try.prog 29 = some 24 := by kernel_rfl
theorem ze29 : zeroOf Try.prog 29 = some (.agg #[.slice none 0 0]) := by kernel_rfl
theorem ag29 : aggT Try.prog 29 = some true := by kernel_rfl
theorem fo29_0 : fieldOf Try.prog 29 0 = some (0, 1, 27) := by kernel_rfl
theorem pl29 : places Try.prog 29 = some (#[(0, 1)][·]?) := by kernel_rfl
theorem sz30 : szOf Try.prog 30 = some 1 := by kernel_rfl
theorem by30 : M.bytesOf Try.prog 30 = some 8 := by kernel_rfl
theorem ze30 : zeroOf Try.prog 30 = some (.nilFunc) := by kernel_rfl
theorem ag30 : aggT Try.prog 30 = some false := by kernel_rfl
theorem sz31 : szOf Try.prog 31 = some 2 := by kernel_rfl
theorem by31 : M.bytesOf Try.prog 31 = some 16 := by kernel_rfl
theorem ze31 : zeroOf Try.prog 31 = some (.agg #[.int .i64 0, .int .i64 0]) := by kernel_rfl
theorem ag31 : aggT Try.prog 31 = some true := by kernel_rfl
theorem fo31_0 : fieldOf Try.prog 31 0 = some (0, 1, 3) := by kernel_rfl
theorem fo31_1 : fieldOf Try.prog 31 1 = some (1, 1, 3) := by kernel_rfl
theorem pl31 : places Try.prog 31 = some (#[(0, 1), (1, 1)][·]?) := by kernel_rfl
theorem sz32 : szOf Try.prog 32 = some 2 := by kernel_rfl
theorem by32 : M.bytesOf Try.prog 32 = some 16 := by kernel_rfl
theorem ze32 : zeroOf Try.prog 32 = some (.agg #[.int .i64 0, .int .i64 0]) := by kernel_rfl
theorem ag32 : aggT Try.prog 32 = some true := by kernel_rfl
theorem fo32_0 : fieldOf Try.prog 32 0 = some (0, 1, 3) := by kernel_rfl
theorem fo32_1 : fieldOf Try.prog 32 1 = some (1, 1, 3) := by kernel_rfl
theorem pl32 : places Try.prog 32 = some (#[(0, 1), (1, 1)][·]?) := by kernel_rfl
theorem sz33 : szOf Try.prog 33 = some 4 := by kernel_rfl
theorem by33 : M.bytesOf Try.prog 33 = some 32 := by kernel_rfl
theorem ze33 : zeroOf Try.prog 33 = some (.agg #[.int .i64 0, .int .i64 0, .int .i64 0, .int .i64 0]) := by kernel_rfl
theorem ag33 : aggT Try.prog 33 = some true := by kernel_rfl
theorem fo33_0 : fieldOf Try.prog 33 0 = some (0, 2, 32) := by kernel_rfl
theorem fo33_1 : fieldOf Try.prog 33 1 = some (2, 1, 3) := by kernel_rfl
theorem fo33_2 : fieldOf Try.prog 33 2 = some (3, 1, 3) := by kernel_rfl
theorem pl33 : places Try.prog 33 = some (#[(0, 2), (2, 1), (3, 1)][·]?) := by kernel_rfl
theorem sz34 : szOf Try.prog 34 = some 4 := by kernel_rfl
theorem by34 : M.bytesOf Try.prog 34 = some 32 := by kernel_rfl
theorem ze34 : zeroOf Try.prog 34 = some (.agg #[.int .i64 0, .int .i64 0, .int .i64 0, .int .i64 0]) := by kernel_rfl
theorem ag34 : aggT Try.prog 34 = some true := by kernel_rfl
theorem fo34_0 : fieldOf Try.prog 34 0 = some (0, 2, 32) := by kernel_rfl
theorem fo34_1 : fieldOf Try.prog 34 1 = some (2, 1, 3) := by kernel_rfl
theorem fo34_2 : fieldOf Try.prog 34 2 = some (3, 1, 3) := by kernel_rfl
theorem pl34 : places Try.prog 34 = some (#[(0, 2), (2, 1), (3, 1)][·]?) := by kernel_rfl
theorem sz35 : szOf Try.prog 35 = some 6 := by kernel_rfl
theorem by35 : M.bytesOf Try.prog 35 = some 48 := by kernel_rfl
theorem ze35 : zeroOf Try.prog 35 = some (.agg #[.int .i64 0, .int .i64 0, .int .i64 0, .int .i64 0, .int .i64 0, .int .i64 0]) := by kernel_rfl
theorem ag35 : aggT Try.prog 35 = some true := by kernel_rfl
theorem fo35_0 : fieldOf Try.prog 35 0 = some (0, 1, 3) := by kernel_rfl
theorem fo35_1 : fieldOf Try.prog 35 1 = some (1, 1, 3) := by kernel_rfl
theorem fo35_2 : fieldOf Try.prog 35 2 = some (2, 4, 34) := by kernel_rfl
theorem pl35 : places Try.prog 35 = some (#[(0, 1), (1, 1), (2, 4)][·]?) := by kernel_rfl
theorem sz36 : szOf Try.prog 36 = some 6 := by kernel_rfl
theorem by36 : M.bytesOf Try.prog 36 = some 48 := by kernel_rfl
theorem ze36 : zeroOf Try.prog 36 = some (.agg #[.int .i64 0, .int .i64 0, .int .i64 0, .int .i64 0, .int .i64 0, .int .i64 0]) := by kernel_rfl
theorem ag36 : aggT Try.prog 36 = some true := by kernel_rfl
theorem fo36_0 : fieldOf Try.prog 36 0 = some (0, 1, 3) := by kernel_rfl
theorem fo36_1 : fieldOf Try.prog 36 1 = some (1, 1, 3) := by kernel_rfl
theorem fo36_2 : fieldOf Try.prog 36 2 = some (2, 4, 34) := by kernel_rfl
theorem pl36 : places Try.prog 36 = some (#[(0, 1), (1, 1), (2, 4)][·]?) := by kernel_rfl
theorem sz37 : szOf Try.prog 37 = some 1 := by kernel_rfl
theorem by37 : M.bytesOf Try.prog 37 = some 8 := by kernel_rfl
theorem ze37 : zeroOf Try.prog 37 = some (.nilFunc) := by kernel_rfl
theorem ag37 : aggT Try.prog 37 = some false := by kernel_rfl
theorem sz38 : szOf Try.prog 38 = some 1 := by kernel_rfl
theorem by38 : M.bytesOf Try.prog 38 = some 8 := by kernel_rfl
theorem ze38 : zeroOf Try.prog 38 = some (.nilFunc) := by kernel_rfl
theorem ag38 : aggT Try.prog 38 = some false := by kernel_rfl
theorem sz39 : szOf Try.prog 39 = some 1 := by kernel_rfl
theorem by39 : M.bytesOf Try.prog 39 = some 8 := by kernel_rfl
theorem ze39 : zeroOf Try.prog 39 = some (.int .i64 0) := by kernel_rfl
theorem ag39 : aggT Try.prog 39 = some false := by kernel_rfl
theorem sz40 : szOf Try.prog 40 = some 1 := by kernel_rfl
theorem by40 : M.bytesOf Try.prog 40 = some 8 := by kernel_rfl
theorem ze40 : zeroOf Try.prog 40 = some (.nilFunc) := by kernel_rfl
theorem ag40 : aggT Try.prog 40 = some false := by kernel_rfl
theorem sz41 : szOf Try.prog 41 = some 1 := by kernel_rfl
theorem by41 : M.bytesOf Try.prog 41 = some 8 := by kernel_rfl
theorem ze41 : zeroOf Try.prog 41 = some (.nilFunc) := by kernel_rfl
theorem ag41 : aggT Try.prog 41 = some false := by kernel_rfl
theorem sz42 : szOf Try.prog 42 = some 1 := by kernel_rfl
theorem by42 : M.bytesOf Try.prog 42 = some 8 := by kernel_rfl
theorem ze42 : zeroOf Try.prog 42 = some (.nilFunc) := by kernel_rfl
theorem ag42 : aggT Try.prog 42 = some false := by kernel_rfl
theorem sz43 : szOf Try.prog 43 = some 1 := by kernel_rfl
theorem by43 : M.bytesOf Try.prog 43 = some 8 := by kernel_rfl
theorem ze43 : zeroOf Try.prog 43 = some (.nilFunc) := by kernel_rfl
theorem ag43 : aggT Try.prog 43 = some false := by kernel_rfl
theorem sz44 : szOf Try.prog 44 = some 1 := by kernel_rfl
theorem by44 : M.bytesOf Try.prog 44 = some 8 := by kernel_rfl
theorem ze44 : zeroOf Try.prog 44 = some (.nilFunc) := by kernel_rfl
theorem ag44 : aggT Try.prog 44 = some false := by kernel_rfl
theorem sz45 : szOf Try.prog 45 = some 1 := by kernel_rfl
theorem by45 : M.bytesOf Try.prog 45 = some 8 := by kernel_rfl
theorem ze45 : zeroOf Try.prog 45 = some (.nilFunc) := by kernel_rfl
theorem ag45 : aggT Try.prog 45 = some false := by kernel_rfl
theorem sz46 : szOf Try.prog 46 = some 1 := by kernel_rfl
theorem by46 : M.bytesOf Try.prog 46 = some 8 := by kernel_rfl
theorem ze46 : zeroOf Try.prog 46 = some (.nilFunc) := by kernel_rfl
theorem ag46 : aggT Try.prog 46 = some false := by kernel_rfl
theorem sz47 : szOf Try.prog 47 = some 5 := by kernel_rfl
theorem by47 : M.bytesOf Try.prog 47 = some 40 := by kernel_rfl
theorem ze47 : zeroOf Try.prog 47 = some (.agg #[.int .i64 0, .int .i64 0, .int .i64 0, .int .i64 0, .int .i64 0]) := by kernel_rfl
theorem ag47 : aggT Try.prog 47 = some true := by kernel_rfl
theorem fo47_0 : fieldOf Try.prog 47 0 = some (0, 1, 3) := by kernel_rfl
theorem fo47_1 : fieldOf Try.prog 47 1 = some (1, 4, 34) := by kernel_rfl
theorem pl47 : places Try.prog 47 = some (#[(0, 1), (1, 4)][·]?) := by kernel_rfl
theorem sz48 : szOf Try.prog 48 = some 5 := by kernel_rfl
theorem by48 : M.bytesOf Try.prog 48 = some 40 := by kernel_rfl
theorem ze48 : zeroOf Try.prog 48 = some (.agg #[.int .i64 0, .int .i64 0, .int .i64 0, .int .i64 0, .int .i64 0]) := by kernel_rfl
theorem ag48 : aggT Try.prog 48 = some true := by kernel_rfl
theorem fo48_0 : fieldOf Try.prog 48 0 = some (0, 1, 3) := by kernel_rfl
theorem fo48_1 : fieldOf Try.prog 48 1 = some (1, 4, 34) := by kernel_rfl
theorem pl48 : places Try.prog 48 = some (#[(0, 1), (1, 4)][·]?) := by kernel_rfl
theorem sz50 : szOf Try.prog 50 = some 1 := by kernel_rfl
theorem by50 : M.bytesOf Try.prog 50 = some 8 := by kernel_rfl
theorem ze50 : zeroOf Try.prog 50 = some (.nilFunc) := by kernel_rfl
theorem ag50 : aggT Try.prog 50 = some false := by kernel_rfl
theorem sz51 : szOf Try.prog 51 = some 1 := by kernel_rfl
theorem by51 : M.bytesOf Try.prog 51 = some 8 := by kernel_rfl
theorem ze51 : zeroOf Try.prog 51 = some (.nilFunc) := by kernel_rfl
theorem ag51 : aggT Try.prog 51 = some false := by kernel_rfl
theorem sz53 : szOf Try.prog 53 = some 1 := by kernel_rfl
theorem by53 : M.bytesOf Try.prog 53 = some 8 := by kernel_rfl
theorem ze53 : zeroOf Try.prog 53 = some (.nilFunc) := by kernel_rfl
theorem ag53 : aggT Try.prog 53 = some false := by kernel_rfl
theorem sz54 : szOf Try.prog 54 = some 1 := by kernel_rfl
theorem by54 : M.bytesOf Try.prog 54 = some 8 := by kernel_rfl
theorem ze54 : zeroOf Try.prog 54 = some (.nilFunc) := by kernel_rfl
theorem ag54 : aggT Try.prog 54 = some false := by kernel_rfl
theorem sz55 : szOf Try.prog 55 = some 1 := by kernel_rfl
theorem by55 : M.bytesOf Try.prog 55 = some 24 := by kernel_rfl
theorem ze55 : zeroOf Try.prog 55 = some (.slice none 0 0) := by kernel_rfl
theorem ag55 : aggT Try.prog 55 = some false := by kernel_rfl
theorem sz56 : szOf Try.prog 56 = some 1 := by kernel_rfl
theorem by56 : M.bytesOf Try.prog 56 = some 8 := by kernel_rfl
theorem ze56 : zeroOf Try.prog 56 = some (.nilFunc) := by kernel_rfl
theorem ag56 : aggT Try.prog 56 = some false := by kernel_rfl
theorem sz57 : szOf Try.prog 57 = some 1 := by kernel_rfl
theorem by57 : M.bytesOf Try.prog 57 = some 8 := by kernel_rfl
theorem ze57 : zeroOf Try.prog 57 = some (.nilFunc) := by kernel_rfl
theorem ag57 : aggT Try.prog 57 = some false := by kernel_rfl
theorem sz58 : szOf Try.prog 58 = some 1 := by kernel_rfl
theorem by58 : M.bytesOf Try.prog 58 = some 8 := by kernel_rfl
theorem ze58 : zeroOf Try.prog 58 = some (.nilFunc) := by kernel_rfl
theorem ag58 : aggT Try.prog 58 = some false := by kernel_rfl
theorem sz59 : szOf Try.prog 59 = some 1 := by kernel_rfl
theorem by59 : M.bytesOf Try.prog 59 = some 8 := by kernel_rfl
theorem ze59 : zeroOf Try.prog 59 = some (.map none) := by kernel_rfl
theorem ag59 : aggT Try.prog 59 = some false := by kernel_rfl
theorem sz60 : szOf Try.prog 60 = some 1 := by kernel_rfl
theorem by60 : M.bytesOf Try.prog 60 = some 8 := by kernel_rfl
theorem ze60 : zeroOf Try.prog 60 = some (.map none) := by kernel_rfl
theorem ag60 : aggT Try.prog 60 = some false := by kernel_rfl
theorem sz61 : szOf Try.prog 61 = some 2 := by kernel_rfl
theorem by61 : M.bytesOf Try.prog 61 = some 16 := by kernel_rfl
theorem ze61 : zeroOf Try.prog 61 = some (.agg #[.map none, .map none]) := by kernel_rfl
theorem ag61 : aggT Try.prog 61 = some true := by kernel_rfl
theorem fo61_0 : fieldOf Try.prog 61 0 = some (0, 1, 59) := by kernel_rfl
theorem fo61_1 : fieldOf Try.prog 61 1 = some (1, 1, 60) := by kernel_rfl
theorem pl61 : places Try.prog 61 = some (#[(0, 1), (1, 1)][·]?) := by kernel_rfl
theorem sz62 : szOf Try.prog 62 = some 2 := by kernel_rfl
theorem by62 : M.bytesOf Try.prog 62 = some 16 := by kernel_rfl
theorem ze62 : zeroOf Try.prog 62 = some (.agg #[.map none, .map none]) := by kernel_rfl
theorem ag62 : aggT Try.prog 62 = some true := by kernel_rfl
theorem fo62_0 : fieldOf Try.prog 62 0 = some (0, 1, 59) := by kernel_rfl
theorem fo62_1 : fieldOf Try.prog 62 1 = some (1, 1, 60) := by kernel_rfl
theorem pl62 : places Try.prog 62 = some (#[(0, 1), (1, 1)][·]?) := by kernel_rfl
theorem sz63 : szOf Try.prog 63 = some 1 := by kernel_rfl
theorem by63 : M.bytesOf Try.prog 63 = some 8 := by kernel_rfl
theorem ze63 : zeroOf Try.prog 63 = some (.nilFunc) := by kernel_rfl
theorem ag63 : aggT Try.prog 63 = some false := by kernel_rfl
theorem sz64 : szOf Try.prog 64 = some 1 := by kernel_rfl
theorem by64 : M.bytesOf Try.prog 64 = some 8 := by kernel_rfl
theorem ze64 : zeroOf Try.prog 64 = some (.nilFunc) := by kernel_rfl
theorem ag64 : aggT Try.prog 64 = some false := by kernel_rfl
theorem sz65 : szOf Try.prog 65 = some 1 := by kernel_rfl
theorem by65 : M.bytesOf Try.prog 65 = some 8 := by kernel_rfl
theorem ze65 : zeroOf Try.prog 65 = some (.nilFunc) := by kernel_rfl
theorem ag65 : aggT Try.prog 65 = some false := by kernel_rfl
theorem sz66 : szOf Try.prog 66 = some 1 := by kernel_rfl
theorem by66 : M.bytesOf Try.prog 66 = some 24 := by kernel_rfl
theorem ze66 : zeroOf Try.prog 66 = some (.slice none 0 0) := by kernel_rfl
theorem ag66 : aggT Try.prog 66 = some false := by kernel_rfl
theorem sz68 : szOf Try.prog 68 = some 1 := by kernel_rfl
theorem by68 : M.bytesOf Try.prog 68 = some 8 := by kernel_rfl
theorem ze68 : zeroOf Try.prog 68 = some (.nilFunc) := by kernel_rfl
theorem ag68 : aggT Try.prog 68 = some false := by kernel_rfl
theorem sz69 : szOf Try.prog 69 = some 1 := by kernel_rfl
theorem by69 : M.bytesOf Try.prog 69 = some 8 := by kernel_rfl
theorem ze69 : zeroOf Try.prog 69 = some (.nilFunc) := by kernel_rfl
theorem ag69 : aggT Try.prog 69 = some false := by kernel_rfl
theorem sz70 : szOf Try.prog 70 = some 1 := by kernel_rfl
theorem by70 : M.bytesOf Try.prog 70 = some 8 := by kernel_rfl
theorem ze70 : zeroOf Try.prog 70 = some (.nilFunc) := by kernel_rfl
theorem ag70 : aggT Try.prog 70 = some false := by kernel_rfl
theorem sz72 : szOf Try.prog 72 = some 1 := by kernel_rfl
theorem by72 : M.bytesOf Try.prog 72 = some 8 := by kernel_rfl
theorem ze72 : zeroOf Try.prog 72 = some (.nilFunc) := by kernel_rfl
theorem ag72 : aggT Try.prog 72 = some false := by kernel_rfl
theorem sz73 : szOf Try.prog 73 = some 1 := by kernel_rfl
theorem by73 : M.bytesOf Try.prog 73 = some 8 := by kernel_rfl
theorem ze73 : zeroOf Try.prog 73 = some (.nilFunc) := by kernel_rfl
theorem ag73 : aggT Try.prog 73 = some false := by kernel_rfl
theorem sz74 : szOf Try.prog 74 = some 1 := by kernel_rfl
theorem by74 : M.bytesOf Try.prog 74 = some 8 := by kernel_rfl
theorem ze74 : zeroOf Try.prog 74 = some (.nilFunc) := by kernel_rfl
theorem ag74 : aggT Try.prog 74 = some false := by kernel_rfl
theorem sz75 : szOf Try.prog 75 = some 1 := by kernel_rfl
theorem by75 : M.bytesOf Try.prog 75 = some 24 := by kernel_rfl
theorem ze75 : zeroOf Try.prog 75 = some (.slice none 0 0) := by kernel_rfl
theorem ag75 : aggT Try.prog 75 = some false := by kernel_rfl
theorem sz76 : szOf Try.prog 76 = some 1 := by kernel_rfl
theorem by76 : M.bytesOf Try.prog 76 = some 24 := by kernel_rfl
theorem ze76 : zeroOf Try.prog 76 = some (.slice none 0 0) := by kernel_rfl
theorem ag76 : aggT Try.prog 76 = some false := by kernel_rfl
theorem sz77 : szOf Try.prog 77 = some 1 := by kernel_rfl
theorem by77 : M.bytesOf Try.prog 77 = some 8 := by kernel_rfl
theorem ze77 : zeroOf Try.prog 77 = some (.pointer none) := by kernel_rfl
theorem ag77 : aggT Try.prog 77 = some false := by kernel_rfl
theorem sz78 : szOf Try.prog 78 = some 1 := by kernel_rfl
theorem by78 : M.bytesOf Try.prog 78 = some 8 := by kernel_rfl
theorem ze78 : zeroOf Try.prog 78 = some (.pointer none) := by kernel_rfl
theorem ag78 : aggT Try.prog 78 = some false := by kernel_rfl
theorem sz80 : szOf Try.prog 80 = some 1 := by kernel_rfl
theorem by80 : M.bytesOf Try.prog 80 = some 8 := by kernel_rfl
theorem ze80 : zeroOf Try.prog 80 = some (.nilFunc) := by kernel_rfl
theorem ag80 : aggT Try.prog 80 = some false := by kernel_rfl
theorem sz81 : szOf Try.prog 81 = some 4 := by kernel_rfl
theorem by81 : M.bytesOf Try.prog 81 = some 32 := by kernel_rfl
theorem ze81 : zeroOf Try.prog 81 = some (.agg #[.int .i64 0, .int .i64 0, .int .i64 0, .bool false]) := by kernel_rfl
theorem ag81 : aggT Try.prog 81 = some true := by kernel_rfl
theorem fo81_0 : fieldOf Try.prog 81 0 = some (0, 1, 3) := by kernel_rfl
theorem fo81_1 : fieldOf Try.prog 81 1 = some (1, 2, 32) := by kernel_rfl
theorem fo81_2 : fieldOf Try.prog 81 2 = some (3, 1, 4) := by kernel_rfl
theorem pl81 : places Try.prog 81 = some (#[(0, 1), (1, 2), (3, 1)][·]?) := by kernel_rfl
theorem sz82 : szOf Try.prog 82 = some 4 := by kernel_rfl
theorem by82 : M.bytesOf Try.prog 82 = some 32 := by kernel_rfl
theorem ze82 : zeroOf Try.prog 82 = some (.agg #[.int .i64 0, .int .i64 0, .int .i64 0, .bool false]) := by kernel_rfl
theorem ag82 : aggT Try.prog 82 = some true := by kernel_rfl
theorem fo82_0 : fieldOf Try.prog 82 0 = some (0, 1, 3) := by kernel_rfl
theorem fo82_1 : fieldOf Try.prog 82 1 = some (1, 2, 32) := by kernel_rfl
theorem fo82_2 : fieldOf Try.prog 82 2 = some (3, 1, 4) := by kernel_rfl
theorem pl82 : places Try.prog 82 = some (#[(0, 1), (1, 2), (3, 1)][·]?) := by kernel_rfl
theorem sz83 : szOf Try.prog 83 = some 1 := by kernel_rfl
theorem by83 : M.bytesOf Try.prog 83 = some 24 := by kernel_rfl
theorem ze83 : zeroOf Try.prog 83 = some (.slice none 0 0) := by kernel_rfl
theorem ag83 : aggT Try.prog 83 = some false := by kernel_rfl
theorem sz84 : szOf Try.prog 84 = some 2 := by kernel_rfl
theorem by84 : M.bytesOf Try.prog 84 = some 32 := by kernel_rfl
theorem ze84 : zeroOf Try.prog 84 = some (.agg #[.pointer none, .slice none 0 0]) := by kernel_rfl
theorem ag84 : aggT Try.prog 84 = some true := by kernel_rfl
theorem fo84_0 : fieldOf Try.prog 84 0 = some (0, 1, 26) := by kernel_rfl
theorem fo84_1 : fieldOf Try.prog 84 1 = some (1, 1, 83) := by kernel_rfl
theorem pl84 : places Try.prog 84 = some (#[(0, 1), (1, 1)][·]?) := by kernel_rfl
theorem sz85 : szOf Try.prog 85 = some 2 := by kernel_rfl
theorem by85 : M.bytesOf Try.prog 85 = some 32 := by kernel_rfl
theorem ze85 : zeroOf Try.prog 85 = some (.agg #[.pointer none, .slice none 0 0]) := by kernel_rfl
theorem ag85 : aggT Try.prog 85 = some true := by kernel_rfl
theorem fo85_0 : fieldOf Try.prog 85 0 = some (0, 1, 26) := by kernel_rfl
theorem fo85_1 : fieldOf Try.prog 85 1 = some (1, 1, 83) := by kernel_rfl
theorem pl85 : places Try.prog 85 = some (#[(0, 1), (1, 1)][·]?) := by kernel_rfl
theorem sz86 : szOf Try.prog 86 = some 1 := by kernel_rfl
theorem by86 : M.bytesOf Try.prog 86 = some 8 := by kernel_rfl
theorem ze86 : zeroOf Try.prog 86 = some (.nilFunc) := by kernel_rfl
theorem ag86 : aggT Try.prog 86 = some false := by kernel_rfl
theorem sz87 : szOf Try.prog 87 = some 1 := by kernel_rfl
theorem by87 : M.bytesOf Try.prog 87 = some 8 := by kernel_rfl
theorem ze87 : zeroOf Try.prog 87 = some (.nilFunc) := by kernel_rfl
theorem ag87 : aggT Try.prog 87 = some false := by kernel_rfl
theorem sz88 : szOf Try.prog 88 = some 1 := by kernel_rfl
theorem by88 : M.bytesOf Try.prog 88 = some 8 := by kernel_rfl
theorem ze88 : zeroOf Try.prog 88 = some (.nilFunc) := by kernel_rfl
theorem ag88 : aggT Try.prog 88 = some false := by kernel_rfl
theorem sz89 : szOf Try.prog 89 = some 1 := by kernel_rfl
theorem by89 : M.bytesOf Try.prog 89 = some 8 := by kernel_rfl
theorem ze89 : zeroOf Try.prog 89 = some (.map none) := by kernel_rfl
theorem ag89 : aggT Try.prog 89 = some false := by kernel_rfl
theorem sz90 : szOf Try.prog 90 = some 3 := by kernel_rfl
theorem by90 : M.bytesOf Try.prog 90 = some 24 := by kernel_rfl
theorem ze90 : zeroOf Try.prog 90 = some (.agg #[.pointer none, .map none, .map none]) := by kernel_rfl
theorem ag90 : aggT Try.prog 90 = some true := by kernel_rfl
theorem fo90_0 : fieldOf Try.prog 90 0 = some (0, 1, 24) := by kernel_rfl
theorem fo90_1 : fieldOf Try.prog 90 1 = some (1, 1, 89) := by kernel_rfl
theorem fo90_2 : fieldOf Try.prog 90 2 = some (2, 1, 60) := by kernel_rfl
theorem pl90 : places Try.prog 90 = some (#[(0, 1), (1, 1), (2, 1)][·]?) := by kernel_rfl
theorem sz91 : szOf Try.prog 91 = some 3 := by kernel_rfl
theorem by91 : M.bytesOf Try.prog 91 = some 24 := by kernel_rfl
theorem ze91 : zeroOf Try.prog 91 = some (.agg #[.pointer none, .map none, .map none]) := by kernel_rfl
theorem ag91 : aggT Try.prog 91 = some true := by kernel_rfl
theorem fo91_0 : fieldOf Try.prog 91 0 = some (0, 1, 24) := by kernel_rfl
theorem fo91_1 : fieldOf Try.prog 91 1 = some (1, 1, 89) := by kernel_rfl
theorem fo91_2 : fieldOf Try.prog 91 2 = some (2, 1, 60) := by kernel_rfl
theorem pl91 : places Try.prog 91 = some (#[(0, 1), (1, 1), (2, 1)][·]?) := by kernel_rfl
theorem sz92 : szOf Try.prog 92 = some 1 := by kernel_rfl
theorem by92 : M.bytesOf Try.prog 92 = some 8 := by kernel_rfl
theorem ze92 : zeroOf Try.prog 92 = some (.nilFunc) := by kernel_rfl
theorem ag92 : aggT Try.prog 92 = some false := by kernel_rfl
theorem sz93 : szOf Try.prog 93 = some 1 := by kernel_rfl
theorem by93 : M.bytesOf Try.prog 93 = some 8 := by kernel_rfl
theorem ze93 : zeroOf Try.prog 93 = some (.nilFunc) := by kernel_rfl
theorem ag93 : aggT Try.prog 93 = some false := by kernel_rfl
theorem sz94 : szOf Try.prog 94 = some 1 := by kernel_rfl
theorem by94 : M.bytesOf Try.prog 94 = some 8 := by kernel_rfl
theorem ze94 : zeroOf Try.prog 94 = some (.nilFunc) := by kernel_rfl
theorem ag94 : aggT Try.prog 94 = some false := by kernel_rfl
theorem sz95 : szOf Try.prog 95 = some 1 := by kernel_rfl
theorem by95 : M.bytesOf Try.prog 95 = some 8 := by kernel_rfl
theorem ze95 : zeroOf Try.prog 95 = some (.nilFunc) := by kernel_rfl
theorem ag95 : aggT Try.prog 95 = some false := by kernel_rfl
theorem sz96 : szOf Try.prog 96 = some 1 := by kernel_rfl
theorem by96 : M.bytesOf Try.prog 96 = some 8 := by kernel_rfl
theorem ze96 : zeroOf Try.prog 96 = some (.nilFunc) := by kernel_rfl
theorem ag96 : aggT Try.prog 96 = some false := by kernel_rfl
theorem sz97 : szOf Try.prog 97 = some 1 := by kernel_rfl
theorem by97 : M.bytesOf Try.prog 97 = some 8 := by kernel_rfl
theorem ze97 : zeroOf Try.prog 97 = some (.nilFunc) := by kernel_rfl
theorem ag97 : aggT Try.prog 97 = some false := by kernel_rfl
theorem sz98 : szOf Try.prog 98 = some 3 := by kernel_rfl
theorem by98 : M.bytesOf Try.prog 98 = some 24 := by kernel_rfl
theorem ze98 : zeroOf Try.prog 98 = some (.agg #[.int .i64 0, .int .i64 0, .int .i64 0]) := by kernel_rfl
theorem ag98 : aggT Try.prog 98 = some true := by kernel_rfl
theorem fo98_0 : fieldOf Try.prog 98 0 = some (0, 1, 3) := by kernel_rfl
theorem fo98_1 : fieldOf Try.prog 98 1 = some (1, 2, 32) := by kernel_rfl
theorem pl98 : places Try.prog 98 = some (#[(0, 1), (1, 2)][·]?) := by kernel_rfl
theorem sz99 : szOf Try.prog 99 = some 3 := by kernel_rfl
theorem by99 : M.bytesOf Try.prog 99 = some 24 := by kernel_rfl
theorem ze99 : zeroOf Try.prog 99 = some (.agg #[.int .i64 0, .int .i64 0, .int .i64 0]) := by kernel_rfl
theorem ag99 : aggT Try.prog 99 = some true := by kernel_rfl
theorem fo99_0 : fieldOf Try.prog 99 0 = some (0, 1, 3) := by kernel_rfl
theorem fo99_1 : fieldOf Try.prog 99 1 = some (1, 2, 32) := by kernel_rfl
theorem pl99 : places Try.prog 99 = some (#[(0, 1), (1, 2)][·]?) := by kernel_rfl
theorem sz100 : szOf Try.prog 100 = some 1 := by kernel_rfl
theorem by100 : M.bytesOf Try.prog 100 = some 24 := by kernel_rfl
theorem ze100 : zeroOf Try.prog 100 = some (.slice none 0 0) := by kernel_rfl
theorem ag100 : aggT Try.prog 100 = some false := by kernel_rfl
theorem sz101 : szOf Try.prog 101 = some 1 := by kernel_rfl
theorem by101 : M.bytesOf Try.prog 101 = some 8 := by kernel_rfl
theorem ze101 : zeroOf Try.prog 101 = some (.nilFunc) := by kernel_rfl
theorem ag101 : aggT Try.prog 101 = some false := by kernel_rfl
theorem sz102 : szOf Try.prog 102 = some 1 := by kernel_rfl
theorem by102 : M.bytesOf Try.prog 102 = some 8 := by kernel_rfl
theorem ze102 : zeroOf Try.prog 102 = some (.nilFunc) := by kernel_rfl
theorem ag102 : aggT Try.prog 102 = some false := by kernel_rfl
theorem sz103 : szOf Try.prog 103 = some 1 := by kernel_rfl
theorem by103 : M.bytesOf Try.prog 103 = some 8 := by kernel_rfl
theorem ze103 : zeroOf Try.prog 103 = some (.nilFunc) := by kernel_rfl
theorem ag103 : aggT Try.prog 103 = some false := by kernel_rfl
theorem sz104 : szOf Try.prog 104 = some 1 := by kernel_rfl
theorem by104 : M.bytesOf Try.prog 104 = some 8 := by kernel_rfl
theorem ze104 : zeroOf Try.prog 104 = some (.nilFunc) := by kernel_rfl
theorem ag104 : aggT Try.prog 104 = some false := by kernel_rfl
theorem sz105 : szOf Try.prog 105 = some 1 := by kernel_rfl
theorem by105 : M.bytesOf Try.prog 105 = some 8 := by kernel_rfl
theorem ze105 : zeroOf Try.prog 105 = some (.nilFunc) := by kernel_rfl
theorem ag105 : aggT Try.prog 105 = some false := by kernel_rfl
theorem sz106 : szOf Try.prog 106 = some 1 := by kernel_rfl
theorem by106 : M.bytesOf Try.prog 106 = some 8 := by kernel_rfl
theorem ze106 : zeroOf Try.prog 106 = some (.nilFunc) := by kernel_rfl
theorem ag106 : aggT Try.prog 106 = some false := by kernel_rfl
theorem sz107 : szOf Try.prog 107 = some 1 := by kernel_rfl
theorem by107 : M.bytesOf Try.prog 107 = some 8 := by kernel_rfl
theorem ze107 : zeroOf Try.prog 107 = some (.nilFunc) := by kernel_rfl
theorem ag107 : aggT Try.prog 107 = some false := by kernel_rfl
theorem sz108 : szOf Try.prog 108 = some 1 := by kernel_rfl
theorem by108 : M.bytesOf Try.prog 108 = some 8 := by kernel_rfl
theorem ze108 : zeroOf Try.prog 108 = some (.nilFunc) := by kernel_rfl
theorem ag108 : aggT Try.prog 108 = some false := by kernel_rfl
theorem sz109 : szOf Try.prog 109 = some 1 := by kernel_rfl
theorem by109 : M.bytesOf Try.prog 109 = some 8 := by kernel_rfl
theorem ze109 : zeroOf Try.prog 109 = some (.nilFunc) := by kernel_rfl
theorem ag109 : aggT Try.prog 109 = some false := by kernel_rfl
theorem sz110 : szOf Try.prog 110 = some 1 := by kernel_rfl
theorem by110 : M.bytesOf Try.prog 110 = some 8 := by kernel_rfl
theorem ze110 : zeroOf Try.prog 110 = some (.nilFunc) := by kernel_rfl
theorem ag110 : aggT Try.prog 110 = some false := by kernel_rfl
theorem sz111 : szOf Try.prog 111 = some 1 := by kernel_rfl
theorem by111 : M.bytesOf Try.prog 111 = some 8 := by kernel_rfl
theorem ze111 : zeroOf Try.prog 111 = some (.nilFunc) := by kernel_rfl
theorem ag111 : aggT Try.prog 111 = some false := by kernel_rfl
theorem sz112 : szOf Try.prog 112 = some 1 := by kernel_rfl
theorem by112 : M.bytesOf Try.prog 112 = some 8 := by kernel_rfl
theorem ze112 : zeroOf Try.prog 112 = some (.nilFunc) := by kernel_rfl
theorem ag112 : aggT Try.prog 112 = some false := by kernel_rfl
theorem sz113 : szOf Try.prog 113 = some 1 := by kernel_rfl
theorem by113 : M.bytesOf Try.prog 113 = some 8 := by kernel_rfl
theorem ze113 : zeroOf Try.prog 113 = some (.nilFunc) := by kernel_rfl
theorem ag113 : aggT Try.prog 113 = some false := by kernel_rfl
theorem sz114 : szOf Try.prog 114 = some 1 := by kernel_rfl
theorem by114 : M.bytesOf Try.prog 114 = some 8 := by kernel_rfl
theorem ze114 : zeroOf Try.prog 114 = some (.nilFunc) := by kernel_rfl
theorem ag114 : aggT Try.prog 114 = some false := by kernel_rfl
theorem sz115 : szOf Try.prog 115 = some 1 := by kernel_rfl
theorem by115 : M.bytesOf Try.prog 115 = some 8 := by kernel_rfl
theorem ze115 : zeroOf Try.prog 115 = some (.nilFunc) := by kernel_rfl
theorem ag115 : aggT Try.prog 115 = some false := by kernel_rfl
theorem sz116 : szOf Try.prog 116 = some 1 := by kernel_rfl
theorem by116 : M.bytesOf Try.prog 116 = some 8 := by kernel_rfl
theorem ze116 : zeroOf Try.prog 116 = some (.nilFunc) := by kernel_rfl
theorem ag116 : aggT Try.prog 116 = some false := by kernel_rfl
theorem sz117 : szOf Try.prog 117 = some 1 := by kernel_rfl
theorem by117 : M.bytesOf Try.prog 117 = some 24 := by kernel_rfl
theorem ze117 : zeroOf Try.prog 117 = some (.slice none 0 0) := by kernel_rfl
theorem ag117 : aggT Try.prog 117 = some false := by kernel_rfl
theorem sz118 : szOf Try.prog 118 = some 1 := by kernel_rfl
theorem by118 : M.bytesOf Try.prog 118 = some 8 := by kernel_rfl
theorem ze118 : zeroOf Try.prog 118 = some (.nilFunc) := by kernel_rfl
theorem ag118 : aggT Try.prog 118 = some false := by kernel_rfl
theorem sz119 : szOf Try.prog 119 = some 3 := by kernel_rfl
theorem by119 : M.bytesOf Try.prog 119 = some 24 := by kernel_rfl
theorem ze119 : zeroOf Try.prog 119 = some (.agg #[.int .i64 0, .int .i64 0, .int .i64 0]) := by kernel_rfl
theorem ag119 : aggT Try.prog 119 = some true := by kernel_rfl
theorem fo119_0 : fieldOf Try.prog 119 0 = some (0, 1, 3) := by kernel_rfl
theorem fo119_1 : fieldOf Try.prog 119 1 = some (1, 1, 3) := by kernel_rfl
theorem fo119_2 : fieldOf Try.prog 119 2 = some (2, 1, 3) := by kernel_rfl
theorem pl119 : places Try.prog 119 = some (#[(0, 1), (1, 1), (2, 1)][·]?) := by kernel_rfl
theorem sz120 : szOf Try.prog 120 = some 3 := by kernel_rfl
theorem by120 : M.bytesOf Try.prog 120 = some 24 := by kernel_rfl
theorem ze120 : zeroOf Try.prog 120 = some (.agg #[.int .i64 0, .int .i64 0, .int .i64 0]) := by kernel_rfl
theorem ag120 : aggT Try.prog 120 = some true := by kernel_rfl
theorem fo120_0 : fieldOf Try.prog 120 0 = some (0, 1, 3) := by kernel_rfl
theorem fo120_1 : fieldOf Try.prog 120 1 = some (1, 1, 3) := by kernel_rfl
theorem fo120_2 : fieldOf Try.prog 120 2 = some (2, 1, 3) := by kernel_rfl
theorem pl120 : places Try.prog 120 = some (#[(0, 1), (1, 1), (2, 1)][·]?) := by kernel_rfl
theorem sz121 : szOf Try.prog 121 = some 1 := by kernel_rfl
theorem by121 : M.bytesOf Try.prog 121 = some 8 := by kernel_rfl
theorem ze121 : zeroOf Try.prog 121 = some (.nilFunc) := by kernel_rfl
theorem ag121 : aggT Try.prog 121 = some false := by kernel_rfl
theorem sz122 : szOf Try.prog 122 = some 1 := by kernel_rfl
theorem by122 : M.bytesOf Try.prog 122 = some 8 := by kernel_rfl
theorem ze122 : zeroOf Try.prog 122 = some (.nilFunc) := by kernel_rfl
theorem ag122 : aggT Try.prog 122 = some false := by kernel_rfl
theorem sz123 : szOf Try.prog 123 = some 1 := by kernel_rfl
theorem by123 : M.bytesOf Try.prog 123 = some 8 := by kernel_rfl
theorem ze123 : zeroOf Try.prog 123 = some (.nilFunc) := by kernel_rfl
theorem ag123 : aggT Try.prog 123 = some false := by kernel_rfl
theorem sz124 : szOf Try.prog 124 = some 1 := by kernel_rfl
theorem by124 : M.bytesOf Try.prog 124 = some 8 := by kernel_rfl
theorem ze124 : zeroOf Try.prog 124 = some (.map none) := by kernel_rfl
theorem ag124 : aggT Try.prog 124 = some false := by kernel_rfl
theorem sz125 : szOf Try.prog 125 = some 1 := by kernel_rfl
theorem by125 : M.bytesOf Try.prog 125 = some 24 := by kernel_rfl
theorem ze125 : zeroOf Try.prog 125 = some (.slice none 0 0) := by kernel_rfl
theorem ag125 : aggT Try.prog 125 = some false := by kernel_rfl
theorem sz126 : szOf Try.prog 126 = some 1 := by kernel_rfl
theorem by126 : M.bytesOf Try.prog 126 = some 8 := by kernel_rfl
theorem ze126 : zeroOf Try.prog 126 = some (.nilFunc) := by kernel_rfl
theorem ag126 : aggT Try.prog 126 = some false := by kernel_rfl
theorem sz127 : szOf Try.prog 127 = some 1 := by kernel_rfl
theorem by127 : M.bytesOf Try.prog 127 = some 8 := by kernel_rfl
theorem ze127 : zeroOf Try.prog 127 = some (.nilFunc) := by kernel_rfl
theorem ag127 : aggT Try.prog 127 = some false := by kernel_rfl
theorem sz128 : szOf Try.prog 128 = some 1 := by kernel_rfl
theorem by128 : M.bytesOf Try.prog 128 = some 8 := by kernel_rfl
theorem ze128 : zeroOf Try.prog 128 = some (.nilFunc) := by kernel_rfl
theorem ag128 : aggT Try.prog 128 = some false := by kernel_rfl
theorem sz129 : szOf Try.prog 129 = some 1 := by kernel_rfl
theorem by129 : M.bytesOf Try.prog 129 = some 8 := by kernel_rfl
theorem ze129 : zeroOf Try.prog 129 = some (.nilFunc) := by kernel_rfl
theorem ag129 : aggT Try.prog 129 = some false := by kernel_rfl
theorem sz130 : szOf Try.prog 130 = some 5 := by kernel_rfl
theorem by130 : M.bytesOf Try.prog 130 = some 40 := by kernel_rfl
theorem ze130 : zeroOf Try.prog 130 = some (.agg #[.int .i64 0, .int .i64 0, .int .i64 0, .int .i64 0, .int .i64 0]) := by kernel_rfl
theorem ag130 : aggT Try.prog 130 = some true := by kernel_rfl
theorem fo130_0 : fieldOf Try.prog 130 0 = some (0, 1, 3) := by kernel_rfl
theorem fo130_1 : fieldOf Try.prog 130 1 = some (1, 4, 34) := by kernel_rfl
theorem pl130 : places Try.prog 130 = some (#[(0, 1), (1, 4)][·]?) := by kernel_rfl
theorem sz131 : szOf Try.prog 131 = some 1 := by kernel_rfl
theorem by131 : M.bytesOf Try.prog 131 = some 8 := by kernel_rfl
theorem ze131 : zeroOf Try.prog 131 = some (.nilFunc) := by kernel_rfl
theorem ag131 : aggT Try.prog 131 = some false := by kernel_rfl
theorem sz132 : szOf Try.prog 132 = some 1 := by kernel_rfl
theorem by132 : M.bytesOf Try.prog 132 = some 8 := by kernel_rfl
theorem ze132 : zeroOf Try.prog 132 = some (.nilFunc) := by kernel_rfl
theorem ag132 : aggT Try.prog 132 = some false := by kernel_rfl
theorem sz133 : szOf Try.prog 133 = some 1 := by kernel_rfl
theorem by133 : M.bytesOf Try.prog 133 = some 8 := by kernel_rfl
theorem ze133 : zeroOf Try.prog 133 = some (.nilFunc) := by kernel_rfl
theorem ag133 : aggT Try.prog 133 = some false := by kernel_rfl
theorem sz134 : szOf Try.prog 134 = some 1 := by kernel_rfl
theorem by134 : M.bytesOf Try.prog 134 = some 8 := by kernel_rfl
theorem ze134 : zeroOf Try.prog 134 = some (.nilFunc) := by kernel_rfl
theorem ag134 : aggT Try.prog 134 = some false := by kernel_rfl
theorem sz135 : szOf Try.prog 135 = some 1 := by kernel_rfl
theorem by135 : M.bytesOf Try.prog 135 = some 8 := by kernel_rfl
theorem ze135 : zeroOf Try.prog 135 = some (.nilFunc) := by kernel_rfl
theorem ag135 : aggT Try.prog 135 = some false := by kernel_rfl
theorem sz136 : szOf Try.prog 136 = some 1 := by kernel_rfl
theorem by136 : M.bytesOf Try.prog 136 = some 8 := by kernel_rfl
theorem ze136 : zeroOf Try.prog 136 = some (.nilFunc) := by kernel_rfl
theorem ag136 : aggT Try.prog 136 = some false := by kernel_rfl
theorem sz138 : szOf Try.prog 138 = some 1 := by kernel_rfl
theorem by138 : M.bytesOf Try.prog 138 = some 8 := by kernel_rfl
theorem ze138 : zeroOf Try.prog 138 = some (.nilFunc) := by kernel_rfl
theorem ag138 : aggT Try.prog 138 = some false := by kernel_rfl
theorem sz139 : szOf Try.prog 139 = some 1 := by kernel_rfl
theorem by139 : M.bytesOf Try.prog 139 = some 8 := by kernel_rfl
theorem ze139 : zeroOf Try.prog 139 = some (.nilFunc) := by kernel_rfl
theorem ag139 : aggT Try.prog 139 = some false := by kernel_rfl
theorem sz140 : szOf Try.prog 140 = some 1 := by kernel_rfl
theorem by140 : M.bytesOf Try.prog 140 = some 8 := by kernel_rfl
theorem ze140 : zeroOf Try.prog 140 = some (.nilFunc) := by kernel_rfl
theorem ag140 : aggT Try.prog 140 = some false := by kernel_rfl
theorem sz141 : szOf Try.prog 141 = some 1 := by kernel_rfl
theorem by141 : M.bytesOf Try.prog 141 = some 8 := by kernel_rfl
theorem ze141 : zeroOf Try.prog 141 = some (.nilFunc) := by kernel_rfl
theorem ag141 : aggT Try.prog 141 = some false := by kernel_rfl
theorem sz143 : szOf Try.prog 143 = some 1 := by kernel_rfl
theorem by143 : M.bytesOf Try.prog 143 = some 8 := by kernel_rfl
theorem ze143 : zeroOf Try.prog 143 = some (.nilFunc) := by kernel_rfl
theorem ag143 : aggT Try.prog 143 = some false := by kernel_rfl
theorem sz144 : szOf Try.prog 144 = some 1 := by kernel_rfl
theorem by144 : M.bytesOf Try.prog 144 = some 8 := by kernel_rfl
theorem ze144 : zeroOf Try.prog 144 = some (.nilFunc) := by kernel_rfl
theorem ag144 : aggT Try.prog 144 = some false := by kernel_rfl
theorem sz145 : szOf Try.prog 145 = some 1 := by kernel_rfl
theorem by145 : M.bytesOf Try.prog 145 = some 8 := by kernel_rfl
theorem ze145 : zeroOf Try.prog 145 = some (.nilFunc) := by kernel_rfl
theorem ag145 : aggT Try.prog 145 = some false := by kernel_rfl
theorem sz146 : szOf Try.prog 146 = some 1 := by kernel_rfl
theorem by146 : M.bytesOf Try.prog 146 = some 8 := by kernel_rfl
theorem ze146 : zeroOf Try.prog 146 = some (.int .u64 0) := by kernel_rfl
theorem ag146 : aggT Try.prog 146 = some false := by kernel_rfl
theorem sz147 : szOf Try.prog 147 = some 1 := by kernel_rfl
theorem by147 : M.bytesOf Try.prog 147 = some 8 := by kernel_rfl
theorem ze147 : zeroOf Try.prog 147 = some (.nilFunc) := by kernel_rfl
theorem ag147 : aggT Try.prog 147 = some false := by kernel_rfl
theorem sz148 : szOf Try.prog 148 = some 1 := by kernel_rfl
theorem by148 : M.bytesOf Try.prog 148 = some 8 := by kernel_rfl
theorem ze148 : zeroOf Try.prog 148 = some (.nilFunc) := by kernel_rfl
theorem ag148 : aggT Try.prog 148 = some false := by kernel_rfl
theorem sz150 : szOf Try.prog 150 = some 1 := by kernel_rfl
theorem by150 : M.bytesOf Try.prog 150 = some 8 := by kernel_rfl
theorem ze150 : zeroOf Try.prog 150 = some (.nilFunc) := by kernel_rfl
theorem ag150 : aggT Try.prog 150 = some false := by kernel_rfl
theorem sz151 : szOf Try.prog 151 = some 1 := by kernel_rfl
theorem by151 : M.bytesOf Try.prog 151 = some 8 := by kernel_rfl
theorem ze151 : zeroOf Try.prog 151 = some (.nilFunc) := by kernel_rfl
theorem ag151 : aggT Try.prog 151 = some false := by kernel_rfl
theorem sz152 : szOf Try.prog 152 = some 1 := by kernel_rfl
theorem by152 : M.bytesOf Try.prog 152 = some 8 := by kernel_rfl
theorem ze152 : zeroOf Try.prog 152 = some (.nilFunc) := by kernel_rfl
theorem ag152 : aggT Try.prog 152 = some false := by kernel_rfl
theorem sz153 : szOf Try.prog 153 = some 1 := by kernel_rfl
theorem by153 : M.bytesOf Try.prog 153 = some 8 := by kernel_rfl
theorem ze153 : zeroOf Try.prog 153 = some (.nilFunc) := by kernel_rfl
theorem ag153 : aggT Try.prog 153 = some false := by kernel_rfl
theorem sz154 : szOf Try.prog 154 = some 1 := by kernel_rfl
theorem by154 : M.bytesOf Try.prog 154 = some 8 := by kernel_rfl
theorem ze154 : zeroOf Try.prog 154 = some (.nilFunc) := by kernel_rfl
theorem ag154 : aggT Try.prog 154 = some false := by kernel_rfl
theorem sz155 : szOf Try.prog 155 = some 1 := by kernel_rfl
theorem by155 : M.bytesOf Try.prog 155 = some 8 := by kernel_rfl
theorem ze155 : zeroOf Try.prog 155 = some (.int .u64 0) := by kernel_rfl
theorem ag155 : aggT Try.prog 155 = some false := by kernel_rfl
theorem sz156 : szOf Try.prog 156 = some 1 := by kernel_rfl
theorem by156 : M.bytesOf Try.prog 156 = some 8 := by kernel_rfl
theorem ze156 : zeroOf Try.prog 156 = some (.nilFunc) := by kernel_rfl
theorem ag156 : aggT Try.prog 156 = some false := by kernel_rfl
theorem sz158 : szOf Try.prog 158 = some 1 := by kernel_rfl
theorem by158 : M.bytesOf Try.prog 158 = some 8 := by kernel_rfl
theorem ze158 : zeroOf Try.prog 158 = some (.nilFunc) := by kernel_rfl
theorem ag158 : aggT Try.prog 158 = some false := by kernel_rfl
theorem sz159 : szOf Try.prog 159 = some 1 := by kernel_rfl
theorem by159 : M.bytesOf Try.prog 159 = some 8 := by kernel_rfl
theorem ze159 : zeroOf Try.prog 159 = some (.nilFunc) := by kernel_rfl
theorem ag159 : aggT Try.prog 159 = some false := by kernel_rfl
theorem sz160 : szOf Try.prog 160 = some 1 := by kernel_rfl
theorem by160 : M.bytesOf Try.prog 160 = some 8 := by kernel_rfl
theorem ze160 : zeroOf Try.prog 160 = some (.nilFunc) := by kernel_rfl
theorem ag160 : aggT Try.prog 160 = some false := by kernel_rfl
theorem sz161 : szOf Try.prog 161 = some 1 := by kernel_rfl
theorem by161 : M.bytesOf Try.prog 161 = some 8 := by kernel_rfl
theorem ze161 : zeroOf Try.prog 161 = some (.nilFunc) := by kernel_rfl
theorem ag161 : aggT Try.prog 161 = some false := by kernel_rfl
theorem sz162 : szOf Try.prog 162 = some 1 := by kernel_rfl
theorem by162 : M.bytesOf Try.prog 162 = some 8 := by kernel_rfl
theorem ze162 : zeroOf Try.prog 162 = some (.int .i64 0) := by kernel_rfl
theorem ag162 : aggT Try.prog 162 = some false := by kernel_rfl
theorem sz164 : szOf Try.prog 164 = some 1 := by kernel_rfl
theorem by164 : M.bytesOf Try.prog 164 = some 8 := by kernel_rfl
theorem ze164 : zeroOf Try.prog 164 = some (.nilFunc) := by kernel_rfl
theorem ag164 : aggT Try.prog 164 = some false := by kernel_rfl
theorem sz165 : szOf Try.prog 165 = some 1 := by kernel_rfl
theorem by165 : M.bytesOf Try.prog 165 = some 8 := by kernel_rfl
theorem ze165 : zeroOf Try.prog 165 = some (.nilFunc) := by kernel_rfl
theorem ag165 : aggT Try.prog 165 = some false := by kernel_rfl
theorem sz166 : szOf Try.prog 166 = some 1 := by kernel_rfl
theorem by166 : M.bytesOf Try.prog 166 = some 8 := by kernel_rfl
theorem ze166 : zeroOf Try.prog 166 = some (.nilFunc) := by kernel_rfl
theorem ag166 : aggT Try.prog 166 = some false := by kernel_rfl
theorem sz167 : szOf Try.prog 167 = some 1 := by kernel_rfl
theorem by167 : M.bytesOf Try.prog 167 = some 8 := by kernel_rfl
theorem ze167 : zeroOf Try.prog 167 = some (.nilFunc) := by kernel_rfl
theorem ag167 : aggT Try.prog 167 = some false := by kernel_rfl
theorem sz168 : szOf Try.prog 168 = some 1 := by kernel_rfl
theorem by168 : M.bytesOf Try.prog 168 = some 8 := by kernel_rfl
theorem ze168 : zeroOf Try.prog 168 = some (.nilFunc) := by kernel_rfl
theorem ag168 : aggT Try.prog 168 = some false := by kernel_rfl
theorem sz169 : szOf Try.prog 169 = some 1 := by kernel_rfl
theorem by169 : M.bytesOf Try.prog 169 = some 4 := by kernel_rfl
theorem ze169 : zeroOf Try.prog 169 = some (.int .u32 0) := by kernel_rfl
theorem ag169 : aggT Try.prog 169 = some false := by kernel_rfl
theorem sz170 : szOf Try.prog 170 = some 1 := by kernel_rfl
theorem by170 : M.bytesOf Try.prog 170 = some 8 := by kernel_rfl
theorem ze170 : zeroOf Try.prog 170 = some (.nilFunc) := by kernel_rfl
theorem ag170 : aggT Try.prog 170 = some false := by kernel_rfl
theorem sz172 : szOf Try.prog 172 = some 1 := by kernel_rfl
theorem by172 : M.bytesOf Try.prog 172 = some 8 := by kernel_rfl
theorem ze172 : zeroOf Try.prog 172 = some (.nilFunc) := by kernel_rfl
theorem ag172 : aggT Try.prog 172 = some false := by kernel_rfl
theorem sz173 : szOf Try.prog 173 = some 1 := by kernel_rfl
theorem by173 : M.bytesOf Try.prog 173 = some 8 := by kernel_rfl
theorem ze173 : zeroOf Try.prog 173 = some (.nilFunc) := by kernel_rfl
theorem ag173 : aggT Try.prog 173 = some false := by kernel_rfl
theorem sz174 : szOf Try.prog 174 = some 1 := by kernel_rfl
theorem by174 : M.bytesOf Try.prog 174 = some 8 := by kernel_rfl
theorem ze174 : zeroOf Try.prog 174 = some (.nilFunc) := by kernel_rfl
theorem ag174 : aggT Try.prog 174 = some false := by kernel_rfl
theorem sz175 : szOf Try.prog 175 = some 1 := by kernel_rfl
theorem by175 : M.bytesOf Try.prog 175 = some 8 := by kernel_rfl
theorem ze175 : zeroOf Try.prog 175 = some (.nilFunc) := by kernel_rfl
theorem ag175 : aggT Try.prog 175 = some false := by kernel_rfl
theorem sz176 : szOf Try.prog 176 = some 1 := by kernel_rfl
theorem by176 : M.bytesOf Try.prog 176 = some 8 := by kernel_rfl
theorem ze176 : zeroOf Try.prog 176 = some (.nilFunc) := by kernel_rfl
theorem ag176 : aggT Try.prog 176 = some false := by kernel_rfl
theorem sz177 : szOf Try.prog 177 = some 1 := by kernel_rfl
theorem by177 : M.bytesOf Try.prog 177 = some 8 := by kernel_rfl
theorem ze177 : zeroOf Try.prog 177 = some (.nilFunc) := by kernel_rfl
theorem ag177 : aggT Try.prog 177 = some false := by kernel_rfl
theorem sz178 : szOf Try.prog 178 = some 1 := by kernel_rfl
theorem by178 : M.bytesOf Try.prog 178 = some 8 := by kernel_rfl
theorem ze178 : zeroOf Try.prog 178 = some (.nilFunc) := by kernel_rfl
theorem ag178 : aggT Try.prog 178 = some false := by kernel_rfl
theorem sz179 : szOf Try.prog 179 = some 1 := by kernel_rfl
theorem by179 : M.bytesOf Try.prog 179 = some 8 := by kernel_rfl
theorem ze179 : zeroOf Try.prog 179 = some (.int .u64 0) := by kernel_rfl
theorem ag179 : aggT Try.prog 179 = some false := by kernel_rfl
theorem sz180 : szOf Try.prog 180 = some 1 := by kernel_rfl
theorem by180 : M.bytesOf Try.prog 180 = some 8 := by kernel_rfl
theorem ze180 : zeroOf Try.prog 180 = some (.nilFunc) := by kernel_rfl
theorem ag180 : aggT Try.prog 180 = some false := by kernel_rfl
theorem sz181 : szOf Try.prog 181 = some 1 := by kernel_rfl
theorem by181 : M.bytesOf Try.prog 181 = some 8 := by kernel_rfl
theorem ze181 : zeroOf Try.prog 181 = some (.nilFunc) := by kernel_rfl
theorem ag181 : aggT Try.prog 181 = some false := by kernel_rfl
theorem sz182 : szOf Try.prog 182 = some 1 := by kernel_rfl
theorem by182 : M.bytesOf Try.prog 182 = some 8 := by kernel_rfl
theorem ze182 : zeroOf Try.prog 182 = some (.nilFunc) := by kernel_rfl
theorem ag182 : aggT Try.prog 182 = some false := by kernel_rfl
theorem sz183 : szOf Try.prog 183 = some 1 := by kernel_rfl
theorem by183 : M.bytesOf Try.prog 183 = some 8 := by kernel_rfl
theorem ze183 : zeroOf Try.prog 183 = some (.pointer none) := by kernel_rfl
theorem ag183 : aggT Try.prog 183 = some false := by kernel_rfl
theorem sz184 : szOf Try.prog 184 = some 1 := by kernel_rfl
theorem by184 : M.bytesOf Try.prog 184 = some 8 := by kernel_rfl
theorem ze184 : zeroOf Try.prog 184 = some (.nilFunc) := by kernel_rfl
theorem ag184 : aggT Try.prog 184 = some false := by kernel_rfl
theorem sz185 : szOf Try.prog 185 = some 1 := by kernel_rfl
theorem by185 : M.bytesOf Try.prog 185 = some 8 := by kernel_rfl
theorem ze185 : zeroOf Try.prog 185 = some (.nilFunc) := by kernel_rfl
theorem ag185 : aggT Try.prog 185 = some false := by kernel_rfl
theorem sz186 : szOf Try.prog 186 = some 1 := by kernel_rfl
theorem by186 : M.bytesOf Try.prog 186 = some 8 := by kernel_rfl
theorem ze186 : zeroOf Try.prog 186 = some (.nilFunc) := by kernel_rfl
theorem ag186 : aggT Try.prog 186 = some false := by kernel_rfl
theorem sz187 : szOf Try.prog 187 = some 1 := by kernel_rfl
theorem by187 : M.bytesOf Try.prog 187 = some 8 := by kernel_rfl
theorem ze187 : zeroOf Try.prog 187 = some (.pointer none) := by kernel_rfl
theorem ag187 : aggT Try.prog 187 = some false := by kernel_rfl
theorem sz189 : szOf Try.prog 189 = some 1 := by kernel_rfl
theorem by189 : M.bytesOf Try.prog 189 = some 8 := by kernel_rfl
theorem ze189 : zeroOf Try.prog 189 = some (.nilFunc) := by kernel_rfl
theorem ag189 : aggT Try.prog 189 = some false := by kernel_rfl
theorem sz190 : szOf Try.prog 190 = some 1 := by kernel_rfl
theorem by190 : M.bytesOf Try.prog 190 = some 8 := by kernel_rfl
theorem ze190 : zeroOf Try.prog 190 = some (.nilFunc) := by kernel_rfl
theorem ag190 : aggT Try.prog 190 = some false := by kernel_rfl
theorem sz191 : szOf Try.prog 191 = some 1 := by kernel_rfl
theorem by191 : M.bytesOf Try.prog 191 = some 8 := by kernel_rfl
theorem ze191 : zeroOf Try.prog 191 = some (.nilFunc) := by kernel_rfl
theorem ag191 : aggT Try.prog 191 = some false := by kernel_rfl
theorem sz192 : szOf Try.prog 192 = some 4 := by kernel_rfl
theorem by192 : M.bytesOf Try.prog 192 = some 40 := by kernel_rfl
theorem ze192 : zeroOf Try.prog 192 = some (.agg #[.pointer none, .pointer none, .pointer none, .string ByteArray.empty]) := by kernel_rfl
theorem ag192 : aggT Try.prog 192 = some true := by kernel_rfl
theorem fo192_0 : fieldOf Try.prog 192 0 = some (0, 1, 17) := by kernel_rfl
theorem fo192_1 : fieldOf Try.prog 192 1 = some (1, 1, 17) := by kernel_rfl
theorem fo192_2 : fieldOf Try.prog 192 2 = some (2, 1, 17) := by kernel_rfl
theorem fo192_3 : fieldOf Try.prog 192 3 = some (3, 1, 9) := by kernel_rfl
theorem pl192 : places Try.prog 192 = some (#[(0, 1), (1, 1), (2, 1), (3, 1)][·]?) := by kernel_rfl
theorem sz194 : szOf Try.prog 194 = some 0 := by kernel_rfl
theorem by194 : M.bytesOf Try.prog 194 = some 0 := by kernel_rfl
theorem ze194 : zeroOf Try.prog 194 = some (.agg #[]) := by kernel_rfl
theorem ag194 : aggT Try.prog 194 = some true := by kernel_rfl
theorem pl194 : places Try.prog 194 = some (fun i => some (i * 1, 1)) := by kernel_rfl
theorem sz195 : szOf Try.prog 195 = some 0 := by kernel_rfl
theorem by195 : M.bytesOf Try.prog 195 = some 0 := by kernel_rfl
theorem ze195 : zeroOf Try.prog 195 = some (.agg #[]) := by kernel_rfl
theorem ag195 : aggT Try.prog 195 = some true := by kernel_rfl
theorem fo195_0 : fieldOf Try.prog 195 0 = some (0, 0, 194) := by kernel_rfl
theorem pl195 : places Try.prog 195 = some (#[(0, 0)][·]?) := by kernel_rfl
theorem sz199 : szOf Try.prog 199 = some 1 := by kernel_rfl
theorem by199 : M.bytesOf Try.prog 199 = some 8 := by kernel_rfl
theorem ze199 : zeroOf Try.prog 199 = some (.nilFunc) := by kernel_rfl
theorem ag199 : aggT Try.prog 199 = some false := by kernel_rfl
theorem sz200 : szOf Try.prog 200 = some 1 := by kernel_rfl
theorem by200 : M.bytesOf Try.prog 200 = some 8 := by kernel_rfl
theorem ze200 : zeroOf Try.prog 200 = some (.pointer none) := by kernel_rfl
theorem ag200 : aggT Try.prog 200 = some false := by kernel_rfl
theorem sz203 : szOf Try.prog 203 = some 11 := by kernel_rfl
theorem by203 : M.bytesOf Try.prog 203 = some 48 := by kernel_rfl
theorem ze203 : zeroOf Try.prog 203 = some (.agg #[.int .u64 0, .int .u64 0, .int .u32 0, .int .u8 0, .int .u8 0, .int .u8 0, .int .u8 0, .nilFunc, .pointer none, .int .i32 0, .int .i32 0]) := by kernel_rfl
theorem ag203 : aggT Try.prog 203 = some true := by kernel_rfl
theorem fo203_0 : fieldOf Try.prog 203 0 = some (0, 1, 12) := by kernel_rfl
theorem fo203_1 : fieldOf Try.prog 203 1 = some (1, 1, 12) := by kernel_rfl
theorem fo203_2 : fieldOf Try.prog 203 2 = some (2, 1, 169) := by kernel_rfl
theorem fo203_3 : fieldOf Try.prog 203 3 = some (3, 1, 197) := by kernel_rfl
theorem fo203_4 : fieldOf Try.prog 203 4 = some (4, 1, 5) := by kernel_rfl
theorem fo203_5 : fieldOf Try.prog 203 5 = some (5, 1, 5) := by kernel_rfl
theorem fo203_6 : fieldOf Try.prog 203 6 = some (6, 1, 198) := by kernel_rfl
theorem fo203_7 : fieldOf Try.prog 203 7 = some (7, 1, 199) := by kernel_rfl
theorem fo203_8 : fieldOf Try.prog 203 8 = some (8, 1, 200) := by kernel_rfl
theorem fo203_9 : fieldOf Try.prog 203 9 = some (9, 1, 201) := by kernel_rfl
theorem fo203_10 : fieldOf Try.prog 203 10 = some (10, 1, 202) := by kernel_rfl
theorem pl203 : places Try.prog 203 = some (#[(0, 1), (1, 1), (2, 1), (3, 1), (4, 1), (5, 1), (6, 1), (7, 1), (8, 1), (9, 1), (10, 1)][·]?) := by kernel_rfl
theorem cv2 (st : List Ob) (s : TypeId) (j : IntKind) (n : Int) (h : (Try.prog.underlying s).isSome = true) : aconvert Try.prog st s 2 (.sc (.int j n)) = some (.sc (.int .i64 (IntKind.wrap .i64 n))) := aconv_i Try.underlying2 h
theorem cv3 (st : List Ob) (s : TypeId) (j : IntKind) (n : Int) (h : (Try.prog.underlying s).isSome = true) : aconvert Try.prog st s 3 (.sc (.int j n)) = some (.sc (.int .i64 (IntKind.wrap .i64 n))) := aconv_i Try.underlying3 h
theorem cv5 (st : List Ob) (s : TypeId) (j : IntKind) (n : Int) (h : (Try.prog.underlying s).isSome = true) : aconvert Try.prog st s 5 (.sc (.int j n)) = some (.sc (.int .u8 (IntKind.wrap .u8 n))) := aconv_i Try.underlying5 h
theorem cv9 (st : List Ob) (s : TypeId) (b : ByteArray) (h : (Try.prog.underlying s).isSome = true) : aconvert Try.prog st s 9 (.sc (.string b)) = some (.sc (.string b)) := aconv_s Try.underlying9 h
theorem cv12 (st : List Ob) (s : TypeId) (j : IntKind) (n : Int) (h : (Try.prog.underlying s).isSome = true) : aconvert Try.prog st s 12 (.sc (.int j n)) = some (.sc (.int .u64 (IntKind.wrap .u64 n))) := aconv_i Try.underlying12 h
theorem cv21 (st : List Ob) (s : TypeId) (j : IntKind) (n : Int) (h : (Try.prog.underlying s).isSome = true) : aconvert Try.prog st s 21 (.sc (.int j n)) = some (.sc (.int .i32 (IntKind.wrap .i32 n))) := aconv_i Try.underlying21 h
theorem cv39 (st : List Ob) (s : TypeId) (j : IntKind) (n : Int) (h : (Try.prog.underlying s).isSome = true) : aconvert Try.prog st s 39 (.sc (.int j n)) = some (.sc (.int .i64 (IntKind.wrap .i64 n))) := aconv_i Try.underlying39 h
theorem cv146 (st : List Ob) (s : TypeId) (j : IntKind) (n : Int) (h : (Try.prog.underlying s).isSome = true) : aconvert Try.prog st s 146 (.sc (.int j n)) = some (.sc (.int .u64 (IntKind.wrap .u64 n))) := aconv_i Try.underlying146 h
theorem cv155 (st : List Ob) (s : TypeId) (j : IntKind) (n : Int) (h : (Try.prog.underlying s).isSome = true) : aconvert Try.prog st s 155 (.sc (.int j n)) = some (.sc (.int .u64 (IntKind.wrap .u64 n))) := aconv_i Try.underlying155 h
theorem cv162 (st : List Ob) (s : TypeId) (j : IntKind) (n : Int) (h : (Try.prog.underlying s).isSome = true) : aconvert Try.prog st s 162 (.sc (.int j n)) = some (.sc (.int .i64 (IntKind.wrap .i64 n))) := aconv_i Try.underlying162 h
theorem cv169 (st : List Ob) (s : TypeId) (j : IntKind) (n : Int) (h : (Try.prog.underlying s).isSome = true) : aconvert Try.prog st s 169 (.sc (.int j n)) = some (.sc (.int .u32 (IntKind.wrap .u32 n))) := aconv_i Try.underlying169 h
theorem cv179 (st : List Ob) (s : TypeId) (j : IntKind) (n : Int) (h : (Try.prog.underlying s).isSome = true) : aconvert Try.prog st s 179 (.sc (.int j n)) = some (.sc (.int .u64 (IntKind.wrap .u64 n))) := aconv_i Try.underlying179 h
theorem pe15 (x y : Operand) : pureRun Try.prog (do eqGuard .eql 15 x y (.pointer none) (.pointer none); binOp .eql 15 (.pointer none) (.pointer none)) = some (.bool true) := pr_eqnil Try.underlying15 x y
theorem pn15 (x y : Operand) : pureRun Try.prog (do eqGuard .neq 15 x y (.pointer none) (.pointer none); binOp .neq 15 (.pointer none) (.pointer none)) = some (.bool false) := pr_nenil Try.underlying15 x y
theorem pe16 (x y : Operand) : pureRun Try.prog (do eqGuard .eql 16 x y (.pointer none) (.pointer none); binOp .eql 16 (.pointer none) (.pointer none)) = some (.bool true) := pr_eqnil Try.underlying16 x y
theorem pn16 (x y : Operand) : pureRun Try.prog (do eqGuard .neq 16 x y (.pointer none) (.pointer none); binOp .neq 16 (.pointer none) (.pointer none)) = some (.bool false) := pr_nenil Try.underlying16 x y
theorem pe17 (x y : Operand) : pureRun Try.prog (do eqGuard .eql 17 x y (.pointer none) (.pointer none); binOp .eql 17 (.pointer none) (.pointer none)) = some (.bool true) := pr_eqnil Try.underlying17 x y
theorem pn17 (x y : Operand) : pureRun Try.prog (do eqGuard .neq 17 x y (.pointer none) (.pointer none); binOp .neq 17 (.pointer none) (.pointer none)) = some (.bool false) := pr_nenil Try.underlying17 x y
theorem pe24 (x y : Operand) : pureRun Try.prog (do eqGuard .eql 24 x y (.pointer none) (.pointer none); binOp .eql 24 (.pointer none) (.pointer none)) = some (.bool true) := pr_eqnil Try.underlying24 x y
theorem pn24 (x y : Operand) : pureRun Try.prog (do eqGuard .neq 24 x y (.pointer none) (.pointer none); binOp .neq 24 (.pointer none) (.pointer none)) = some (.bool false) := pr_nenil Try.underlying24 x y
theorem pe26 (x y : Operand) : pureRun Try.prog (do eqGuard .eql 26 x y (.pointer none) (.pointer none); binOp .eql 26 (.pointer none) (.pointer none)) = some (.bool true) := pr_eqnil Try.underlying26 x y
theorem pn26 (x y : Operand) : pureRun Try.prog (do eqGuard .neq 26 x y (.pointer none) (.pointer none); binOp .neq 26 (.pointer none) (.pointer none)) = some (.bool false) := pr_nenil Try.underlying26 x y
theorem pe77 (x y : Operand) : pureRun Try.prog (do eqGuard .eql 77 x y (.pointer none) (.pointer none); binOp .eql 77 (.pointer none) (.pointer none)) = some (.bool true) := pr_eqnil Try.underlying77 x y
theorem pn77 (x y : Operand) : pureRun Try.prog (do eqGuard .neq 77 x y (.pointer none) (.pointer none); binOp .neq 77 (.pointer none) (.pointer none)) = some (.bool false) := pr_nenil Try.underlying77 x y
theorem pe78 (x y : Operand) : pureRun Try.prog (do eqGuard .eql 78 x y (.pointer none) (.pointer none); binOp .eql 78 (.pointer none) (.pointer none)) = some (.bool true) := pr_eqnil Try.underlying78 x y
theorem pn78 (x y : Operand) : pureRun Try.prog (do eqGuard .neq 78 x y (.pointer none) (.pointer none); binOp .neq 78 (.pointer none) (.pointer none)) = some (.bool false) := pr_nenil Try.underlying78 x y
theorem pe183 (x y : Operand) : pureRun Try.prog (do eqGuard .eql 183 x y (.pointer none) (.pointer none); binOp .eql 183 (.pointer none) (.pointer none)) = some (.bool true) := pr_eqnil Try.underlying183 x y
theorem pn183 (x y : Operand) : pureRun Try.prog (do eqGuard .neq 183 x y (.pointer none) (.pointer none); binOp .neq 183 (.pointer none) (.pointer none)) = some (.bool false) := pr_nenil Try.underlying183 x y
theorem pe187 (x y : Operand) : pureRun Try.prog (do eqGuard .eql 187 x y (.pointer none) (.pointer none); binOp .eql 187 (.pointer none) (.pointer none)) = some (.bool true) := pr_eqnil Try.underlying187 x y
theorem pn187 (x y : Operand) : pureRun Try.prog (do eqGuard .neq 187 x y (.pointer none) (.pointer none); binOp .neq 187 (.pointer none) (.pointer none)) = some (.bool false) := pr_nenil Try.underlying187 x y
theorem pe200 (x y : Operand) : pureRun Try.prog (do eqGuard .eql 200 x y (.pointer none) (.pointer none); binOp .eql 200 (.pointer none) (.pointer none)) = some (.bool true) := pr_eqnil Try.underlying200 x y
theorem pn200 (x y : Operand) : pureRun Try.prog (do eqGuard .neq 200 x y (.pointer none) (.pointer none); binOp .neq 200 (.pointer none) (.pointer none)) = some (.bool false) := pr_nenil Try.underlying200 x y
theorem pe59 (x y : Operand) : pureRun Try.prog (do eqGuard .eql 59 x y (.map none) (.map none); binOp .eql 59 (.map none) (.map none)) = some (.bool true) := pr_eqnilm Try.underlying59 x y
theorem pn59 (x y : Operand) : pureRun Try.prog (do eqGuard .neq 59 x y (.map none) (.map none); binOp .neq 59 (.map none) (.map none)) = some (.bool false) := pr_nenilm Try.underlying59 x y
theorem pe60 (x y : Operand) : pureRun Try.prog (do eqGuard .eql 60 x y (.map none) (.map none); binOp .eql 60 (.map none) (.map none)) = some (.bool true) := pr_eqnilm Try.underlying60 x y
theorem pn60 (x y : Operand) : pureRun Try.prog (do eqGuard .neq 60 x y (.map none) (.map none); binOp .neq 60 (.map none) (.map none)) = some (.bool false) := pr_nenilm Try.underlying60 x y
theorem pe89 (x y : Operand) : pureRun Try.prog (do eqGuard .eql 89 x y (.map none) (.map none); binOp .eql 89 (.map none) (.map none)) = some (.bool true) := pr_eqnilm Try.underlying89 x y
theorem pn89 (x y : Operand) : pureRun Try.prog (do eqGuard .neq 89 x y (.map none) (.map none); binOp .neq 89 (.map none) (.map none)) = some (.bool false) := pr_nenilm Try.underlying89 x y
theorem pe124 (x y : Operand) : pureRun Try.prog (do eqGuard .eql 124 x y (.map none) (.map none); binOp .eql 124 (.map none) (.map none)) = some (.bool true) := pr_eqnilm Try.underlying124 x y
theorem pn124 (x y : Operand) : pureRun Try.prog (do eqGuard .neq 124 x y (.map none) (.map none); binOp .neq 124 (.map none) (.map none)) = some (.bool false) := pr_nenilm Try.underlying124 x y
theorem fsz : Try.prog.funcs.size = 164 := by kernel_rfl
theorem noGor : ∀ (f : FuncId) (fn : Func), Try.prog.funcs[f]? = some fn → (fn.name == "runtime.NumGoroutine") = false := fun f fn h => by
  have : (Try.prog.funcs.all fun fn => !(fn.name == "runtime.NumGoroutine")) = true := by kernel_rfl
  have := (Array.all_eq_true_iff_forall_mem.1 this) fn (Array.mem_of_getElem? h)
  simpa using this
theorem follows : Try.prog.follows .mixedOrders = true := by kernel_rfl
end Go.Proofs.Ytgmccnnjpejigaa
