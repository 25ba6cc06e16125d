/- Own work: texts of the proof of a law (GEnv, Hm1, HpA, Hm2, Hm3, Hm4, Hm5, Hm6, Hs0, Gw1, Hs1, Gw2, GwR, Hm7, Hm8, Hm9, Hm10, Hm11, Hm12). No condition. -/
import Derived.Test.YtbdcjkcmpcdipaaGreatPart11
import Derived.Test.YtbdcjkcmpcdipaaGreatProg
import Derived.KernelRfl
namespace Go.Proofs
open Go Go.Sx
def Tryz.E:Go.Sx.Env:=[
 {},
 ⟨true,1,8,.other,(some [.lit .nilFunc]),false⟩,
 ⟨true,1,8,(.int .i64),(some [.int .i64 0]),false⟩,
 ⟨true,1,8,(.int .i64),(some [.int .i64 0]),false⟩,
 ⟨true,1,1,.bool,(some [.prop False inferInstance]),false⟩,
 ⟨true,1,1,(.int .u8),(some [.int .u8 0]),false⟩,
 {},
 {},
 {},
 ⟨true,1,16,.str,(some [.lit (.string ByteArray.empty)]),false⟩,
 {},
 {},
 ⟨true,1,8,(.int .u64),(some [.int .u64 0]),false⟩,
 {},
 {},
 {},
 {},
 {},
 {},
 {},
 {},
 ⟨true,1,4,(.int .i32),(some [.int .i32 0]),false⟩,
 ⟨true,1,24,(.slice 48),(some [.lit (.slice none 0 0)]),false⟩,
 ⟨true,2,32,(.struct [(0,1,3),(1,1,22)]),(some [.int .i64 0,.lit (.slice none 0 0)]),true⟩,
 ⟨true,2,32,(.struct [(0,1,3),(1,1,22)]),(some [.int .i64 0,.lit (.slice none 0 0)]),true⟩,
 ⟨true,1,8,.other,(some [.lit .nilFunc]),false⟩,
 ⟨true,1,8,.other,(some [.lit .nilFunc]),false⟩,
 ⟨true,1,8,.other,(some [.lit .nilFunc]),false⟩,
 ⟨true,1,8,(.int .i64),(some [.int .i64 0]),false⟩,
 ⟨true,1,8,.other,(some [.lit .nilFunc]),false⟩,
 {},
 ⟨true,1,8,.other,(some [.lit .nilFunc]),false⟩,
 {},
 ⟨true,1,8,.other,(some [.lit .nilFunc]),false⟩,
 {},
 ⟨true,1,8,.other,(some [.lit .nilFunc]),false⟩,
 ⟨true,1,8,.other,(some [.lit .nilFunc]),false⟩,
 ⟨true,1,8,.other,(some [.lit .nilFunc]),false⟩,
 ⟨true,1,24,(.slice 3),(some [.lit (.slice none 0 0)]),false⟩,
 ⟨true,1,24,(.slice 38),(some [.lit (.slice none 0 0)]),false⟩,
 ⟨true,2,48,(.struct [(0,1,38),(1,1,39)]),(some [.lit (.slice none 0 0),.lit (.slice none 0 0)]),true⟩,
 ⟨true,2,48,(.struct [(0,1,38),(1,1,39)]),(some [.lit (.slice none 0 0),.lit (.slice none 0 0)]),true⟩,
 ⟨true,1,8,.other,(some [.lit .nilFunc]),false⟩,
 {},
 ⟨true,1,8,.other,(some [.lit .nilFunc]),false⟩,
 ⟨true,1,8,.other,(some [.lit .nilFunc]),false⟩,
 ⟨true,1,8,.other,(some [.lit .nilFunc]),false⟩,
 ⟨true,5,40,(.struct [(0,1,3),(1,1,3),(2,1,3),(3,1,3),(4,1,3)]),(some [.int .i64 0,.int .i64 0,.int .i64 0,.int .i64 0,.int .i64 0]),true⟩,
 ⟨true,5,40,(.struct [(0,1,3),(1,1,3),(2,1,3),(3,1,3),(4,1,3)]),(some [.int .i64 0,.int .i64 0,.int .i64 0,.int .i64 0,.int .i64 0]),true⟩,
 ⟨true,1,8,.other,(some [.lit .nilFunc]),false⟩,
 ⟨true,1,8,.other,(some [.lit .nilFunc]),false⟩,
 ⟨true,1,8,.other,(some [.lit .nilFunc]),false⟩,
 {},
 ⟨true,1,8,.other,(some [.lit .nilFunc]),false⟩,
 ⟨true,1,24,(.slice 100),(some [.lit (.slice none 0 0)]),false⟩,
 ⟨true,2,32,(.struct [(0,1,3),(1,1,54)]),(some [.int .i64 0,.lit (.slice none 0 0)]),true⟩,
 ⟨true,2,32,(.struct [(0,1,3),(1,1,54)]),(some [.int .i64 0,.lit (.slice none 0 0)]),true⟩,
 {},
 ⟨true,1,8,.other,(some [.lit .nilFunc]),false⟩,
 ⟨true,1,8,.other,(some [.lit .nilFunc]),false⟩,
 {},
 ⟨true,1,8,.other,(some [.lit .nilFunc]),false⟩,
 ⟨true,1,8,.other,(some [.lit .nilFunc]),false⟩,
 ⟨true,1,8,(.map 3 3),(some [.lit (.map none)]),false⟩,
 ⟨true,1,8,.other,(some [.lit .nilFunc]),false⟩,
 ⟨true,1,8,.other,(some [.lit .nilFunc]),false⟩,
 ⟨true,1,8,.other,(some [.lit .nilFunc]),false⟩,
 ⟨true,1,8,.other,(some [.lit .nilFunc]),false⟩,
 ⟨true,1,8,.other,(some [.lit .nilFunc]),false⟩,
 ⟨true,1,24,(.slice 85),(some [.lit (.slice none 0 0)]),false⟩,
 ⟨true,1,8,.other,(some [.lit .nilFunc]),false⟩,
 ⟨true,1,24,(.slice 77),(some [.lit (.slice none 0 0)]),false⟩,
 ⟨true,1,8,.other,(some [.lit .nilFunc]),false⟩,
 ⟨true,1,8,.other,(some [.lit .nilFunc]),false⟩,
 ⟨true,1,8,.other,(some [.lit .nilFunc]),false⟩,
 ⟨true,1,8,.other,(some [.lit .nilFunc]),false⟩,
 ⟨true,5,104,(.struct [(0,1,38),(1,2,56),(3,1,38),(4,1,38)]),(some [.lit (.slice none 0 0),.int .i64 0,.lit (.slice none 0 0),.lit (.slice none 0 0),.lit (.slice none 0 0)]),true⟩,
 ⟨true,5,104,(.struct [(0,1,38),(1,2,56),(3,1,38),(4,1,38)]),(some [.lit (.slice none 0 0),.int .i64 0,.lit (.slice none 0 0),.lit (.slice none 0 0),.lit (.slice none 0 0)]),true⟩,
 ⟨true,1,8,.other,(some [.lit .nilFunc]),false⟩,
 ⟨true,1,8,.other,(some [.lit .nilFunc]),false⟩,
 ⟨true,1,8,.other,(some [.lit .nilFunc]),false⟩,
 ⟨true,1,8,.other,(some [.lit .nilFunc]),false⟩,
 ⟨true,1,8,.other,(some [.lit .nilFunc]),false⟩,
 ⟨true,1,8,.other,(some [.lit .nilFunc]),false⟩,
 ⟨true,1,8,.other,(some [.lit .nilFunc]),false⟩,
 ⟨true,1,8,.ptr,(some [.lit (.pointer none)]),false⟩,
 ⟨true,1,8,.other,(some [.lit .nilFunc]),false⟩,
 ⟨true,1,8,.other,(some [.lit .nilFunc]),false⟩,
 ⟨true,1,8,.other,(some [.lit .nilFunc]),false⟩,
 ⟨true,6,48,(.array 6 3),(some [.int .i64 0,.int .i64 0,.int .i64 0,.int .i64 0,.int .i64 0,.int .i64 0]),true⟩,
 ⟨true,6,48,(.array 6 3),(some [.int .i64 0,.int .i64 0,.int .i64 0,.int .i64 0,.int .i64 0,.int .i64 0]),true⟩,
 ⟨true,11,120,(.struct [(0,1,3),(1,1,38),(2,6,90),(8,1,85),(9,1,3),(10,1,38)]),(some [.int .i64 0,.lit (.slice none 0 0),.int .i64 0,.int .i64 0,.int .i64 0,.int .i64 0,.int .i64 0,.int .i64 0,.lit (.pointer none),.int .i64 0,.lit (.slice none 0 0)]),true⟩,
 ⟨true,11,120,(.struct [(0,1,3),(1,1,38),(2,6,90),(8,1,85),(9,1,3),(10,1,38)]),(some [.int .i64 0,.lit (.slice none 0 0),.int .i64 0,.int .i64 0,.int .i64 0,.int .i64 0,.int .i64 0,.int .i64 0,.lit (.pointer none),.int .i64 0,.lit (.slice none 0 0)]),true⟩,
 ⟨true,1,8,.other,(some [.lit .nilFunc]),false⟩,
 ⟨true,1,8,.other,(some [.lit .nilFunc]),false⟩,
 ⟨true,1,8,.other,(some [.lit .nilFunc]),false⟩,
 ⟨true,1,8,.other,(some [.lit .nilFunc]),false⟩,
 ⟨true,1,8,.other,(some [.lit .nilFunc]),false⟩,
 ⟨true,1,8,.other,(some [.lit .nilFunc]),false⟩,
 ⟨true,2,16,(.struct [(0,1,3),(1,1,3)]),(some [.int .i64 0,.int .i64 0]),true⟩,
 ⟨true,2,16,(.struct [(0,1,3),(1,1,3)]),(some [.int .i64 0,.int .i64 0]),true⟩,
 ⟨true,1,8,.ptr,(some [.lit (.pointer none)]),false⟩,
 ⟨true,1,24,(.slice 191),(some [.lit (.slice none 0 0)]),false⟩,
 ⟨true,2,32,(.struct [(0,1,101),(1,1,102)]),(some [.lit (.pointer none),.lit (.slice none 0 0)]),true⟩,
 ⟨true,2,32,(.struct [(0,1,101),(1,1,102)]),(some [.lit (.pointer none),.lit (.slice none 0 0)]),true⟩,
 ⟨true,6,48,(.array 6 3),(some [.int .i64 0,.int .i64 0,.int .i64 0,.int .i64 0,.int .i64 0,.int .i64 0]),true⟩,
 ⟨true,9,88,(.struct [(0,2,104),(2,6,105),(8,1,4)]),(some [.lit (.pointer none),.lit (.slice none 0 0),.int .i64 0,.int .i64 0,.int .i64 0,.int .i64 0,.int .i64 0,.int .i64 0,.prop False inferInstance]),true⟩,
 ⟨true,9,88,(.struct [(0,2,104),(2,6,105),(8,1,4)]),(some [.lit (.pointer none),.lit (.slice none 0 0),.int .i64 0,.int .i64 0,.int .i64 0,.int .i64 0,.int .i64 0,.int .i64 0,.prop False inferInstance]),true⟩,
 {},
 ⟨true,1,8,.other,(some [.lit .nilFunc]),false⟩,
 ⟨true,1,8,.other,(some [.lit .nilFunc]),false⟩,
 ⟨true,10,80,(.array 10 3),(some [.int .i64 0,.int .i64 0,.int .i64 0,.int .i64 0,.int .i64 0,.int .i64 0,.int .i64 0,.int .i64 0,.int .i64 0,.int .i64 0]),true⟩,
 ⟨true,18,144,(.struct [(0,1,3),(1,1,3),(2,10,111),(12,6,90)]),(some [.int .i64 0,.int .i64 0,.int .i64 0,.int .i64 0,.int .i64 0,.int .i64 0,.int .i64 0,.int .i64 0,.int .i64 0,.int .i64 0,.int .i64 0,.int .i64 0,.int .i64 0,.int .i64 0,.int .i64 0,.int .i64 0,.int .i64 0,.int .i64 0]),true⟩,
 ⟨true,18,144,(.struct [(0,1,3),(1,1,3),(2,10,111),(12,6,90)]),(some [.int .i64 0,.int .i64 0,.int .i64 0,.int .i64 0,.int .i64 0,.int .i64 0,.int .i64 0,.int .i64 0,.int .i64 0,.int .i64 0,.int .i64 0,.int .i64 0,.int .i64 0,.int .i64 0,.int .i64 0,.int .i64 0,.int .i64 0,.int .i64 0]),true⟩,
 ⟨true,1,8,.other,(some [.lit .nilFunc]),false⟩,
 ⟨true,1,8,(.map 113 3),(some [.lit (.map none)]),false⟩,
 ⟨true,1,8,.other,(some [.lit .nilFunc]),false⟩,
 ⟨true,1,8,.other,(some [.lit .nilFunc]),false⟩,
 ⟨true,1,8,(.int .u64),(some [.int .u64 0]),false⟩,
 ⟨true,1,8,.other,(some [.lit .nilFunc]),false⟩,
 ⟨true,1,8,.other,(some [.lit .nilFunc]),false⟩,
 ⟨true,1,8,.other,(some [.lit .nilFunc]),false⟩,
 ⟨true,1,8,.other,(some [.lit .nilFunc]),false⟩,
 ⟨true,1,8,.other,(some [.lit .nilFunc]),false⟩,
 ⟨true,1,8,.other,(some [.lit .nilFunc]),false⟩,
 ⟨true,1,8,.other,(some [.lit .nilFunc]),false⟩,
 ⟨true,1,8,.other,(some [.lit .nilFunc]),false⟩,
 ⟨true,1,8,.other,(some [.lit .nilFunc]),false⟩,
 ⟨true,66,528,(.array 11 90),(some [.int .i64 0,.int .i64 0,.int .i64 0,.int .i64 0,.int .i64 0,.int .i64 0,.int .i64 0,.int .i64 0,.int .i64 0,.int .i64 0,.int .i64 0,.int .i64 0,.int .i64 0,.int .i64 0,.int .i64 0,.int .i64 0,.int .i64 0,.int .i64 0,.int .i64 0,.int .i64 0,.int .i64 0,.int .i64 0,.int .i64 0,.int .i64 0,.int .i64 0,.int .i64 0,.int .i64 0,.int .i64 0,.int .i64 0,.int .i64 0,.int .i64 0,.int .i64 0,.int .i64 0,.int .i64 0,.int .i64 0,.int .i64 0,.int .i64 0,.int .i64 0,.int .i64 0,.int .i64 0,.int .i64 0,.int .i64 0,.int .i64 0,.int .i64 0,.int .i64 0,.int .i64 0,.int .i64 0,.int .i64 0,.int .i64 0,.int .i64 0,.int .i64 0,.int .i64 0,.int .i64 0,.int .i64 0,.int .i64 0,.int .i64 0,.int .i64 0,.int .i64 0,.int .i64 0,.int .i64 0,.int .i64 0,.int .i64 0,.int .i64 0,.int .i64 0,.int .i64 0,.int .i64 0]),true⟩,
 ⟨true,73,584,(.struct [(0,6,90),(6,1,3),(7,66,128)]),(some [.int .i64 0,.int .i64 0,.int .i64 0,.int .i64 0,.int .i64 0,.int .i64 0,.int .i64 0,.int .i64 0,.int .i64 0,.int .i64 0,.int .i64 0,.int .i64 0,.int .i64 0,.int .i64 0,.int .i64 0,.int .i64 0,.int .i64 0,.int .i64 0,.int .i64 0,.int .i64 0,.int .i64 0,.int .i64 0,.int .i64 0,.int .i64 0,.int .i64 0,.int .i64 0,.int .i64 0,.int .i64 0,.int .i64 0,.int .i64 0,.int .i64 0,.int .i64 0,.int .i64 0,.int .i64 0,.int .i64 0,.int .i64 0,.int .i64 0,.int .i64 0,.int .i64 0,.int .i64 0,.int .i64 0,.int .i64 0,.int .i64 0,.int .i64 0,.int .i64 0,.int .i64 0,.int .i64 0,.int .i64 0,.int .i64 0,.int .i64 0,.int .i64 0,.int .i64 0,.int .i64 0,.int .i64 0,.int .i64 0,.int .i64 0,.int .i64 0,.int .i64 0,.int .i64 0,.int .i64 0,.int .i64 0,.int .i64 0,.int .i64 0,.int .i64 0,.int .i64 0,.int .i64 0,.int .i64 0,.int .i64 0,.int .i64 0,.int .i64 0,.int .i64 0,.int .i64 0,.int .i64 0]),true⟩,
 ⟨true,73,584,(.struct [(0,6,90),(6,1,3),(7,66,128)]),(some [.int .i64 0,.int .i64 0,.int .i64 0,.int .i64 0,.int .i64 0,.int .i64 0,.int .i64 0,.int .i64 0,.int .i64 0,.int .i64 0,.int .i64 0,.int .i64 0,.int .i64 0,.int .i64 0,.int .i64 0,.int .i64 0,.int .i64 0,.int .i64 0,.int .i64 0,.int .i64 0,.int .i64 0,.int .i64 0,.int .i64 0,.int .i64 0,.int .i64 0,.int .i64 0,.int .i64 0,.int .i64 0,.int .i64 0,.int .i64 0,.int .i64 0,.int .i64 0,.int .i64 0,.int .i64 0,.int .i64 0,.int .i64 0,.int .i64 0,.int .i64 0,.int .i64 0,.int .i64 0,.int .i64 0,.int .i64 0,.int .i64 0,.int .i64 0,.int .i64 0,.int .i64 0,.int .i64 0,.int .i64 0,.int .i64 0,.int .i64 0,.int .i64 0,.int .i64 0,.int .i64 0,.int .i64 0,.int .i64 0,.int .i64 0,.int .i64 0,.int .i64 0,.int .i64 0,.int .i64 0,.int .i64 0,.int .i64 0,.int .i64 0,.int .i64 0,.int .i64 0,.int .i64 0,.int .i64 0,.int .i64 0,.int .i64 0,.int .i64 0,.int .i64 0,.int .i64 0,.int .i64 0]),true⟩,
 ⟨true,1,8,(.map 130 3),(some [.lit (.map none)]),false⟩,
 ⟨true,1,8,.other,(some [.lit .nilFunc]),false⟩,
 ⟨true,1,8,.other,(some [.lit .nilFunc]),false⟩,
 ⟨true,1,8,(.map 90 3),(some [.lit (.map none)]),false⟩,
 ⟨true,1,8,(.map 3 130),(some [.lit (.map none)]),false⟩,
 ⟨true,1,8,.other,(some [.lit .nilFunc]),false⟩,
 ⟨true,1,8,.other,(some [.lit .nilFunc]),false⟩,
 ⟨true,1,8,.other,(some [.lit .nilFunc]),false⟩,
 ⟨true,1,24,(.slice 142),(some [.lit (.slice none 0 0)]),false⟩,
 ⟨true,1,8,.other,(some [.lit .nilFunc]),false⟩,
 ⟨true,3,56,(.struct [(0,1,38),(1,1,39),(2,1,3)]),(some [.lit (.slice none 0 0),.lit (.slice none 0 0),.int .i64 0]),true⟩,
 ⟨true,3,56,(.struct [(0,1,38),(1,1,39),(2,1,3)]),(some [.lit (.slice none 0 0),.lit (.slice none 0 0),.int .i64 0]),true⟩,
 {},
 ⟨true,1,8,.other,(some [.lit .nilFunc]),false⟩,
 ⟨true,1,8,.other,(some [.lit .nilFunc]),false⟩,
 ⟨true,1,24,(.slice 107),(some [.lit (.slice none 0 0)]),false⟩,
 ⟨true,1,8,.other,(some [.lit .nilFunc]),false⟩,
 ⟨true,1,8,.other,(some [.lit .nilFunc]),false⟩,
 ⟨true,1,8,.other,(some [.lit .nilFunc]),false⟩,
 ⟨true,1,8,.other,(some [.lit .nilFunc]),false⟩,
 ⟨true,1,8,(.int .i64),(some [.int .i64 0]),false⟩,
 {},
 ⟨true,1,8,.other,(some [.lit .nilFunc]),false⟩,
 ⟨true,1,8,.other,(some [.lit .nilFunc]),false⟩,
 ⟨true,1,8,.other,(some [.lit .nilFunc]),false⟩,
 {},
 ⟨true,1,8,.other,(some [.lit .nilFunc]),false⟩,
 ⟨true,1,8,.other,(some [.lit .nilFunc]),false⟩,
 ⟨true,1,4,(.int .u32),(some [.int .u32 0]),false⟩,
 ⟨true,1,8,.other,(some [.lit .nilFunc]),false⟩,
 ⟨true,1,8,(.int .u64),(some [.int .u64 0]),false⟩,
 ⟨true,1,8,.other,(some [.lit .nilFunc]),false⟩,
 ⟨true,1,8,.other,(some [.lit .nilFunc]),false⟩,
 ⟨true,1,24,(.slice 130),(some [.lit (.slice none 0 0)]),false⟩,
 ⟨true,1,8,.other,(some [.lit .nilFunc]),false⟩,
 ⟨true,1,8,.other,(some [.lit .nilFunc]),false⟩,
 ⟨true,1,8,.other,(some [.lit .nilFunc]),false⟩,
 ⟨true,1,8,.other,(some [.lit .nilFunc]),false⟩,
 ⟨true,1,8,.other,(some [.lit .nilFunc]),false⟩,
 ⟨true,1,8,.other,(some [.lit .nilFunc]),false⟩,
 ⟨true,1,8,.other,(some [.lit .nilFunc]),false⟩,
 ⟨true,1,8,.other,(some [.lit .nilFunc]),false⟩,
 ⟨true,1,8,.other,(some [.lit .nilFunc]),false⟩,
 ⟨true,1,8,.other,(some [.lit .nilFunc]),false⟩,
 ⟨true,1,24,(.slice 104),(some [.lit (.slice none 0 0)]),false⟩,
 ⟨true,1,8,.other,(some [.lit .nilFunc]),false⟩,
 ⟨true,1,8,(.map 181 3),(some [.lit (.map none)]),false⟩,
 ⟨true,1,8,.other,(some [.lit .nilFunc]),false⟩,
 ⟨true,102,816,(.array 17 105),(some [.int .i64 0,.int .i64 0,.int .i64 0,.int .i64 0,.int .i64 0,.int .i64 0,.int .i64 0,.int .i64 0,.int .i64 0,.int .i64 0,.int .i64 0,.int .i64 0,.int .i64 0,.int .i64 0,.int .i64 0,.int .i64 0,.int .i64 0,.int .i64 0,.int .i64 0,.int .i64 0,.int .i64 0,.int .i64 0,.int .i64 0,.int .i64 0,.int .i64 0,.int .i64 0,.int .i64 0,.int .i64 0,.int .i64 0,.int .i64 0,.int .i64 0,.int .i64 0,.int .i64 0,.int .i64 0,.int .i64 0,.int .i64 0,.int .i64 0,.int .i64 0,.int .i64 0,.int .i64 0,.int .i64 0,.int .i64 0,.int .i64 0,.int .i64 0,.int .i64 0,.int .i64 0,.int .i64 0,.int .i64 0,.int .i64 0,.int .i64 0,.int .i64 0,.int .i64 0,.int .i64 0,.int .i64 0,.int .i64 0,.int .i64 0,.int .i64 0,.int .i64 0,.int .i64 0,.int .i64 0,.int .i64 0,.int .i64 0,.int .i64 0,.int .i64 0,.int .i64 0,.int .i64 0,.int .i64 0,.int .i64 0,.int .i64 0,.int .i64 0,.int .i64 0,.int .i64 0,.int .i64 0,.int .i64 0,.int .i64 0,.int .i64 0,.int .i64 0,.int .i64 0,.int .i64 0,.int .i64 0,.int .i64 0,.int .i64 0,.int .i64 0,.int .i64 0,.int .i64 0,.int .i64 0,.int .i64 0,.int .i64 0,.int .i64 0,.int .i64 0,.int .i64 0,.int .i64 0,.int .i64 0,.int .i64 0,.int .i64 0,.int .i64 0,.int .i64 0,.int .i64 0,.int .i64 0,.int .i64 0,.int .i64 0,.int .i64 0]),true⟩,
 ⟨true,109,872,(.struct [(0,6,105),(6,1,3),(7,102,179)]),(some [.int .i64 0,.int .i64 0,.int .i64 0,.int .i64 0,.int .i64 0,.int .i64 0,.int .i64 0,.int .i64 0,.int .i64 0,.int .i64 0,.int .i64 0,.int .i64 0,.int .i64 0,.int .i64 0,.int .i64 0,.int .i64 0,.int .i64 0,.int .i64 0,.int .i64 0,.int .i64 0,.int .i64 0,.int .i64 0,.int .i64 0,.int .i64 0,.int .i64 0,.int .i64 0,.int .i64 0,.int .i64 0,.int .i64 0,.int .i64 0,.int .i64 0,.int .i64 0,.int .i64 0,.int .i64 0,.int .i64 0,.int .i64 0,.int .i64 0,.int .i64 0,.int .i64 0,.int .i64 0,.int .i64 0,.int .i64 0,.int .i64 0,.int .i64 0,.int .i64 0,.int .i64 0,.int .i64 0,.int .i64 0,.int .i64 0,.int .i64 0,.int .i64 0,.int .i64 0,.int .i64 0,.int .i64 0,.int .i64 0,.int .i64 0,.int .i64 0,.int .i64 0,.int .i64 0,.int .i64 0,.int .i64 0,.int .i64 0,.int .i64 0,.int .i64 0,.int .i64 0,.int .i64 0,.int .i64 0,.int .i64 0,.int .i64 0,.int .i64 0,.int .i64 0,.int .i64 0,.int .i64 0,.int .i64 0,.int .i64 0,.int .i64 0,.int .i64 0,.int .i64 0,.int .i64 0,.int .i64 0,.int .i64 0,.int .i64 0,.int .i64 0,.int .i64 0,.int .i64 0,.int .i64 0,.int .i64 0,.int .i64 0,.int .i64 0,.int .i64 0,.int .i64 0,.int .i64 0,.int .i64 0,.int .i64 0,.int .i64 0,.int .i64 0,.int .i64 0,.int .i64 0,.int .i64 0,.int .i64 0,.int .i64 0,.int .i64 0,.int .i64 0,.int .i64 0,.int .i64 0,.int .i64 0,.int .i64 0,.int .i64 0,.int .i64 0]),true⟩,
 ⟨true,109,872,(.struct [(0,6,105),(6,1,3),(7,102,179)]),(some [.int .i64 0,.int .i64 0,.int .i64 0,.int .i64 0,.int .i64 0,.int .i64 0,.int .i64 0,.int .i64 0,.int .i64 0,.int .i64 0,.int .i64 0,.int .i64 0,.int .i64 0,.int .i64 0,.int .i64 0,.int .i64 0,.int .i64 0,.int .i64 0,.int .i64 0,.int .i64 0,.int .i64 0,.int .i64 0,.int .i64 0,.int .i64 0,.int .i64 0,.int .i64 0,.int .i64 0,.int .i64 0,.int .i64 0,.int .i64 0,.int .i64 0,.int .i64 0,.int .i64 0,.int .i64 0,.int .i64 0,.int .i64 0,.int .i64 0,.int .i64 0,.int .i64 0,.int .i64 0,.int .i64 0,.int .i64 0,.int .i64 0,.int .i64 0,.int .i64 0,.int .i64 0,.int .i64 0,.int .i64 0,.int .i64 0,.int .i64 0,.int .i64 0,.int .i64 0,.int .i64 0,.int .i64 0,.int .i64 0,.int .i64 0,.int .i64 0,.int .i64 0,.int .i64 0,.int .i64 0,.int .i64 0,.int .i64 0,.int .i64 0,.int .i64 0,.int .i64 0,.int .i64 0,.int .i64 0,.int .i64 0,.int .i64 0,.int .i64 0,.int .i64 0,.int .i64 0,.int .i64 0,.int .i64 0,.int .i64 0,.int .i64 0,.int .i64 0,.int .i64 0,.int .i64 0,.int .i64 0,.int .i64 0,.int .i64 0,.int .i64 0,.int .i64 0,.int .i64 0,.int .i64 0,.int .i64 0,.int .i64 0,.int .i64 0,.int .i64 0,.int .i64 0,.int .i64 0,.int .i64 0,.int .i64 0,.int .i64 0,.int .i64 0,.int .i64 0,.int .i64 0,.int .i64 0,.int .i64 0,.int .i64 0,.int .i64 0,.int .i64 0,.int .i64 0,.int .i64 0,.int .i64 0,.int .i64 0,.int .i64 0,.int .i64 0]),true⟩,
 ⟨true,1,8,.other,(some [.lit .nilFunc]),false⟩,
 ⟨true,1,8,(.map 105 3),(some [.lit (.map none)]),false⟩,
 ⟨true,1,8,.other,(some [.lit .nilFunc]),false⟩,
 ⟨true,1,24,(.slice 105),(some [.lit (.slice none 0 0)]),false⟩,
 ⟨true,8,80,(.struct [(0,6,105),(6,1,185),(7,1,3)]),(some [.int .i64 0,.int .i64 0,.int .i64 0,.int .i64 0,.int .i64 0,.int .i64 0,.lit (.slice none 0 0),.int .i64 0]),true⟩,
 ⟨true,8,80,(.struct [(0,6,105),(6,1,185),(7,1,3)]),(some [.int .i64 0,.int .i64 0,.int .i64 0,.int .i64 0,.int .i64 0,.int .i64 0,.lit (.slice none 0 0),.int .i64 0]),true⟩,
 ⟨true,1,8,.other,(some [.lit .nilFunc]),false⟩,
 ⟨true,1,8,.other,(some [.lit .nilFunc]),false⟩,
 ⟨true,2,16,(.struct [(0,1,3),(1,1,3)]),(some [.int .i64 0,.int .i64 0]),true⟩,
 ⟨true,2,16,(.struct [(0,1,3),(1,1,3)]),(some [.int .i64 0,.int .i64 0]),true⟩,
 ⟨true,1,8,(.int .u64),(some [.int .u64 0]),false⟩,
 ⟨true,1,8,.other,(some [.lit .nilFunc]),false⟩,
 ⟨true,1,8,.other,(some [.lit .nilFunc]),false⟩,
 ⟨true,1,8,.other,(some [.lit .nilFunc]),false⟩,
 ⟨true,1,8,.ptr,(some [.lit (.pointer none)]),false⟩,
 ⟨true,1,8,.other,(some [.lit .nilFunc]),false⟩,
 ⟨true,1,8,.other,(some [.lit .nilFunc]),false⟩,
 ⟨true,1,8,.other,(some [.lit .nilFunc]),false⟩,
 ⟨true,1,8,.other,(some [.lit .nilFunc]),false⟩,
 ⟨true,1,8,.other,(some [.lit .nilFunc]),false⟩,
 ⟨true,1,8,.other,(some [.lit .nilFunc]),false⟩,
 ⟨true,1,8,.ptr,(some [.lit (.pointer none)]),false⟩,
 ⟨true,1,8,.other,(some [.lit .nilFunc]),false⟩,
 ⟨true,1,8,.other,(some [.lit .nilFunc]),false⟩,
 ⟨true,1,8,.other,(some [.lit .nilFunc]),false⟩,
 ⟨true,1,8,.other,(some [.lit .nilFunc]),false⟩,
 ⟨true,1,8,.other,(some [.lit .nilFunc]),false⟩,
 ⟨true,1,8,.other,(some [.lit .nilFunc]),false⟩,
 ⟨true,1,8,.other,(some [.lit .nilFunc]),false⟩,
 ⟨true,1,8,.other,(some [.lit .nilFunc]),false⟩,
 ⟨true,1,8,.other,(some [.lit .nilFunc]),false⟩,
 ⟨true,1,8,.other,(some [.lit .nilFunc]),false⟩,
 ⟨true,1,8,.other,(some [.lit .nilFunc]),false⟩,
 ⟨true,1,8,.other,(some [.lit .nilFunc]),false⟩,
 ⟨true,1,8,.ptr,(some [.lit (.pointer none)]),false⟩,
 ⟨true,1,8,.other,(some [.lit .nilFunc]),false⟩,
 ⟨true,1,8,.other,(some [.lit .nilFunc]),false⟩,
 ⟨true,1,8,.other,(some [.lit .nilFunc]),false⟩,
 ⟨true,1,8,.ptr,(some [.lit (.pointer none)]),false⟩,
 {},
 ⟨true,1,8,.other,(some [.lit .nilFunc]),false⟩,
 ⟨true,1,8,.other,(some [.lit .nilFunc]),false⟩,
 ⟨true,1,8,.other,(some [.lit .nilFunc]),false⟩,
 ⟨true,1,8,.other,(some [.lit .nilFunc]),false⟩,
 ⟨true,1,8,.other,(some [.lit .nilFunc]),false⟩,
 ⟨true,1,8,.other,(some [.lit .nilFunc]),false⟩,
 ⟨true,1,8,.other,(some [.lit .nilFunc]),false⟩,
 ⟨true,1,8,.other,(some [.lit .nilFunc]),false⟩,
 ⟨true,1,8,.other,(some [.lit .nilFunc]),false⟩,
 ⟨true,1,8,.other,(some [.lit .nilFunc]),false⟩,
 ⟨true,1,8,.other,(some [.lit .nilFunc]),false⟩,
 {},
 {},
 {},
 {},
 {},
 ⟨true,1,8,.other,(some [.lit .nilFunc]),false⟩,
 {},
 {},
 {},
 ⟨true,1,8,.ptr,(some [.lit (.pointer none)]),false⟩,
 {},
 {},
 {},
 {},
 {}]
def Tryz.mask (t:Nat):Bool:=List.elem t [1,2,3,4,5,9,12,21,22,23,24,25,26,27,28,29,31,33,35,36,37,38,39,40,41,42,44,45,46,47,48,49,50,51,53,54,55,56,58,59,61,62,63,64,65,66,67,68,69,70,71,72,73,74,75,76,77,78,79,80,81,82,83,84,85,86,87,88,89,90,91,92,93,94,95,96,97,98,99,100,101,102,103,104,105,106,107,109,110,111,112,113,114,115,116,117,118,119,120,121,122,123,124,125,126,127,128,129,130,131,132,133,134,135,136,137,138,139,140,141,142,144,145,146,147,148,149,150,151,153,154,155,157,158,159,160,161,162,163,164,165,166,167,168,169,170,171,172,173,174,175,176,177,178,179,180,181,182,183,184,185,186,187,188,189,190,191,192,193,194,195,196,197,198,199,200,201,202,203,204,205,206,207,208,209,210,211,212,213,214,215,216,217,218,219,220,222,223,224,225,226,227,228,229,230,231,232,238,242]
theorem Tryz.E_eq:Tryz.E=(List.range 248).map (fun t=>bif Tryz.mask t then Go.Sx.tiOf Tryz.prog t else {}):=by kernel_rfl
theorem Tryz.E_ok:Go.Sx.ProgOk Tryz.E Tryz.prog:=⟨Go.Sx.envOk_of Tryz.E_eq,by kernel_rfl⟩
end Go.Proofs
namespace Go.Proofs
open Go Go.Sx
set_option maxRecDepth 100000
set_option maxHeartbeats 4000000
namespace Ho
structure Cmd where
 k:Int
 b:Int
 v:Int
 f:Int
 t:Int
deriving DecidableEq
structure Hist where
 n:Int
 l:List Cmd
def c0:Cmd:=⟨0,0,0,0,0⟩
namespace Cmd
def Ok (n:Int) (c:Cmd):Prop:=
 ((c.k=1∨c.k=2)∧(0≤c.b∧c.b≤n-1)∧(0≤c.v∧c.v≤99)∨c.k=10∧(0≤c.b∧c.b≤n-1)∧(-1≤c.v∧c.v≤99)∧(c.t=-1→c.v=0)∨(c.k=3∨c.k=4∨c.k=9)∧c.b=0∧c.v=0)∧
 (0≤c.f∧c.f≤999)∧(c.k=9∧c.t=c.f∨c.k≠9∧(c.t=-1∨c.f<c.t∧c.t≤999))
def ts (c:Cmd):List Int:=if 0≤c.t∧c.k≠9 then [c.f,c.t] else [c.f]
def Bad (i k:Nat) (c o:Cmd):Prop:=c.f=o.f∨c.f=o.t∨(c.t≠-1∧c.t=o.t)∨¬(k<i↔o.f<c.f)∨(c.k=9∧o.f<c.f∧c.f<o.t)
end Cmd
namespace Hist
def at' (h:Hist) (i:Nat):Cmd:=h.l.getD i c0
structure Ok (h:Hist):Prop where
 n:1≤h.n∧h.n≤6
 len:h.l.length≤10
 cmd:∀i,i<h.l.length→(h.at' i).Ok h.n
 two:∀i,i<h.l.length→∀k,k<h.l.length→k≠i→¬Cmd.Bad i k (h.at' i) (h.at' k)
def ts (l:List Cmd):List Int:=l.flatMap Cmd.ts
structure OkP (h:Hist):Prop where
 n:1≤h.n∧h.n≤6
 len:h.l.length≤10
 cmd:∀i,i<h.l.length→(h.at' i).Ok h.n∧∀k,k<i→(h.at' k).f<(h.at' i).f
 times:(ts h.l).Nodup
 over:∀i,i<h.l.length→(h.at' i).k=9→∀k,k<h.l.length→¬((h.at' k).f<(h.at' i).f∧(h.at' i).f<(h.at' k).t)
theorem nodup_flatMap {α β:Type} (g:α→List β) (d:α):∀l:List α,(l.flatMap g).Nodup↔(∀i,i<l.length→(g (l.getD i d)).Nodup)∧∀i k,i<k→k<l.length→∀x,x∈g (l.getD i d)→x∉g (l.getD k d)
 |[]=>by simp
 |a :: l=>by
  rw[List.flatMap_cons,a2N,nodup_flatMap g d l]
  constructor
  ·rintro⟨h1,⟨h2,h3⟩,h4⟩
   refine⟨fun i hi=>?_,fun i k hik hk x hx hx2=>?_⟩
   ·cases i with
    |zero=>simpa using h1
    |succ i=>simpa using h2 i (by simpa using hi)
   ·cases k with
    |zero=>omega
    |succ k=>
     have hk:k<l.length:=by simpa using hk
     have hx2:x∈g (l.getD k d):=by simpa using hx2
     cases i with
     |zero=>
      refine h4 x (by simpa using hx) x (List.mem_flatMap.2 ⟨l.getD k d,?_,hx2⟩) rfl
      rw[a0A,a0D hk]
      exact a1F hk
     |succ i=>exact h3 i k (by omega) hk x (by simpa using hx) hx2
  ·rintro⟨h1,h2⟩
   refine⟨by simpa using h1 0 (by simp),⟨fun i hi=>by simpa using h1 (i+1) (by simpa using hi),fun i k hik hk x hx=>by simpa using h2 (i+1) (k+1) (by omega) (by simpa using hk) x (by simpa using hx)⟩,?_⟩
   rintro x hx y hy rfl
   obtain⟨c,hc,hy⟩:=List.mem_flatMap.1 hy
   obtain⟨k,hk,rfl⟩:=a1G hc
   refine h2 0 (k+1) (by omega) (by simpa using hk) x (by simpa using hx) ?_
   simpa [List.getD_eq_getElem?_getD,hk] using hy
theorem okP_iff (h:Hist):h.OkP↔h.Ok:=by
 constructor
 ·intro g
  refine⟨g.n,g.len,fun i hi=>(g.cmd i hi).1,fun i hi k hk hne hbad=>?_⟩
  obtain⟨t1,t2⟩:=(nodup_flatMap Cmd.ts c0 h.l).1 g.times
  have hi1:=(g.cmd i hi).1
  have hk1:=(g.cmd k hk).1
  have dis:∀x,x∈(h.at' i).ts→x∉(h.at' k).ts:=by
   intro x hx hx2
   rcases Nat.lt_or_gt_of_ne hne with g1|g1
   ·exact t2 k i g1 hi x hx2 hx
   ·exact t2 i k g1 hk x hx hx2
  have asc:(k<i↔(h.at' k).f<(h.at' i).f):=by
   constructor
   ·exact fun g1=>(g.cmd i hi).2 k g1
   ·intro g1
    rcases Nat.lt_or_gt_of_ne hne with g2|g2
    ·exact g2
    ·have:=(g.cmd k hk).2 i g2;omega
  have hov:=fun h9=>g.over i hi h9 k hk
  generalize h.at' i=c at *
  generalize h.at' k=o at *
  unfold Cmd.Ok at hi1 hk1
  unfold Cmd.Bad at hbad
  have d1:=dis c.f (by unfold Cmd.ts;split<;>simp)
  have d2:=dis c.t
  unfold Cmd.ts at d1 d2
  have e1:c.f≠o.f:=fun e=>d1 (by split<;>simp[e])
  have e2:c.f=o.t→False:=fun e=>by
   by_cases h9:o.k=9
   ·omega
   ·exact d1 (by rw[if_pos ⟨by omega,h9⟩];simp[e])
  have e3:c.t≠-1→c.t=o.t→False:=fun e0 e=>by
   by_cases h9:c.k=9
   ·refine e2 ?_
    rcases hi1.2.2 with g|g
    ·rw[←g.2];exact e
    ·exact absurd h9 g.1
   ·by_cases h8:o.k=9
    ·refine d2 (by rw[if_pos ⟨by omega,h9⟩];simp) ?_
     rw[if_neg (fun g=>g.2 h8)]
     have e4:o.t=o.f:=by
      rcases hk1.2.2 with g|g
      ·exact g.2
      ·exact absurd h8 g.1
     simp[e,e4]
    ·refine d2 (by rw[if_pos ⟨by omega,h9⟩];simp) ?_
     rw[if_pos ⟨by omega,h8⟩]
     simp[e]
  rcases hbad with q|q|q|q|q
  ·exact e1 q
  ·exact e2 q
  ·exact e3 q.1 q.2
  ·exact q asc
  ·exact hov q.1 q.2
 ·intro g
  have asc:∀i,i<h.l.length→∀k,k<i→(h.at' k).f<(h.at' i).f:=fun i hi k hk=>by
   have:=g.two i hi k (by omega) (by omega)
   unfold Cmd.Bad at this
   simp only[not_or,a0T] at this
   exact this.2.2.2.1.1 hk
  refine⟨g.n,g.len,fun i hi=>⟨g.cmd i hi,asc i hi⟩,(nodup_flatMap Cmd.ts c0 h.l).2 ⟨fun i hi=>?_,fun i k hik hk x hx hx2=>?_⟩,fun i hi h9 k hk hbad=>?_⟩
  ·have:=g.cmd i hi
   change (Cmd.ts (h.at' i)).Nodup
   generalize h.at' i=c at *
   unfold Cmd.Ok at this
   unfold Cmd.ts
   split
   ·simp;omega
   ·simp
  ·have h1:=g.two i (by omega) k hk (by omega)
   have h2:=g.two k hk i (by omega) (by omega)
   have hi1:=g.cmd i (by omega)
   have hk1:=g.cmd k hk
   change x∈Cmd.ts (h.at' i) at hx
   change x∈Cmd.ts (h.at' k) at hx2
   generalize h.at' i=c at *
   generalize h.at' k=o at *
   unfold Cmd.Ok at hi1 hk1
   unfold Cmd.Bad at h1 h2
   simp only[not_or,not_and] at h1 h2
   unfold Cmd.ts at hx hx2
   split at hx<;>split at hx2<;>simp at hx hx2<;>rename_i q1 q2<;>omega
  ·by_cases e:k=i
   ·subst e;omega
   ·have:=g.two i hi k hk e
    unfold Cmd.Bad at this
    simp only[not_or] at this
    exact this.2.2.2.2 ⟨h9,hbad⟩
end Hist
end Ho
end Go.Proofs
set_option maxRecDepth 100000
set_option maxHeartbeats 40000000
namespace Go.Proofs
open Go Go.Sx
structure C6 where
 a0:Int
 a1:Int
 a2:Int
 a3:Int
 a4:Int
 a5:Int
deriving DecidableEq
namespace C6
def all (n:Int):C6:=⟨n,n,n,n,n,n⟩
def get (c:C6):Nat→Int
 |0=>c.a0
 |1=>c.a1
 |2=>c.a2
 |3=>c.a3
 |4=>c.a4
 |5=>c.a5
 |_=>0
def set (c:C6):Nat→Int→C6
 |0,x=>{c with a0:=x}
 |1,x=>{c with a1:=x}
 |2,x=>{c with a2:=x}
 |3,x=>{c with a3:=x}
 |4,x=>{c with a4:=x}
 |5,x=>{c with a5:=x}
 |_,_=>c
def c (m:C6):List V:=[.int .i64 m.a0,.int .i64 m.a1,.int .i64 m.a2,.int .i64 m.a3,.int .i64 m.a4,.int .i64 m.a5]
@[ext] theorem ext' {x y : C6} (h : ∀ b, b < 6 → x.get b = y.get b) : x = y := by
 cases x;cases y
 have h0:=h 0 (by omega)
 have h1:=h 1 (by omega)
 have h2:=h 2 (by omega)
 have h3:=h 3 (by omega)
 have h4:=h 4 (by omega)
 have h5:=h 5 (by omega)
 simp only[get] at h0 h1 h2 h3 h4 h5
 simp[*]
theorem get_set {x:C6} {b j:Nat} {n:Int} (hb:b<6) (hj:j<6):(x.set b n).get j=if j=b then n else x.get j:=by
 have hb':b=0∨b=1∨b=2∨b=3∨b=4∨b=5:=by omega
 have hj':j=0∨j=1∨j=2∨j=3∨j=4∨j=5:=by omega
 rcases hb' with rfl|rfl|rfl|rfl|rfl|rfl<;>rcases hj' with rfl|rfl|rfl|rfl|rfl|rfl<;>simp[get,set]
theorem get_all {n:Int} {b:Nat} (hb:b<6):(all n).get b=n:=by
 have hb':b=0∨b=1∨b=2∨b=3∨b=4∨b=5:=by omega
 rcases hb' with rfl|rfl|rfl|rfl|rfl|rfl<;>rfl
end C6
structure PS where
 M:C6
 E:List C6
 W:Int
namespace PS
def ep (s:PS) (e:Nat):C6:=s.E.getD e (C6.all (-3))
def begin:PS:=⟨C6.all (-1),[C6.all (-3)],0⟩
def wr (s:PS) (e b:Nat):PS:=if(s.ep e).get b=-3 then s else⟨s.M.set b ((s.ep e).get b),s.E.set e ((s.ep e).set b (-3)),s.W+1⟩
def wrB (s:PS) (e:Nat):Nat→PS
 |0=>s
 |b+1=>(s.wrB e b).wr e b
def wrE (s:PS):Nat→PS
 |0=>s
 |e+1=>(s.wrE e).wrB e 6
def put (s:PS) (b:Nat) (n:Int):PS:=⟨s.M,s.E.set (s.E.length-1) ((s.ep (s.E.length-1)).set b n),s.W⟩
def tidy (s:PS):PS:=⟨s.M,(s.E.dropLast.filter (fun c=>c≠C6.all (-3)))++[s.ep (s.E.length-1)],s.W⟩
def order (s:PS) (n:Int) (o:Int×Int):PS:=
 if o.1=1 then(s.put o.2.toNat n).tidy
 else if o.1=2 then((((s.put o.2.toNat n).wrE (s.E.length-1))).wr (s.E.length-1) o.2.toNat).tidy
 else if o.1=3 then(⟨s.M,s.E++[C6.all (-3)],s.W⟩:PS).tidy
 else if o.1=4 then(s.wrE s.E.length).tidy
 else s.tidy
def first (s:PS):Option Nat:=s.E.findIdx? (fun c=>c≠C6.all (-3))
end PS
end Go.Proofs
namespace Go.Proofs
open Go Go.Sx
def oC (o:Int×Int):List V:=[.int .i64 o.1,.int .i64 o.2]
def oV (o:Int×Int):V:=.agg [.int .i64 o.1,.int .i64 o.2]
structure Cache where
 n:Int
 l:List (Int×Int)
namespace Cache
def c (x:Cache):List V:=[.int .i64 x.n,.sl 2 x.l.length (a0u oC (0,0) x.l)]
def v (x:Cache):V:=.agg [.int .i64 x.n,.sl 2 x.l.length (a0u oC (0,0) x.l)]
def OkO (n:Int) (o:Int×Int):Prop:=(o.1=1∨o.1=2)∧(0≤o.2∧o.2≤n-1)∨(o.1=3∨o.1=4)∧o.2=0
structure Ok (x:Cache):Prop where
 n:1≤x.n∧x.n≤6
 len:x.l.length≤16
 ord:∀o∈x.l,OkO x.n o
end Cache
open Classical in
noncomputable def Cache.chk (x:Cache):Int:=if x.Ok then 0 else 80
end Go.Proofs
namespace Go.Proofs
open Go Go.Sx
theorem six {b:Nat} (h:b<6):b=0∨b=1∨b=2∨b=3∨b=4∨b=5:=by omega
def fillC (n:Int) (i:Nat):C6:=⟨if 0<i then n else 0,if 1<i then n else 0,if 2<i then n else 0,if 3<i then n else 0,if 4<i then n else 0,if 5<i then n else 0⟩
end Go.Proofs
namespace Go.Proofs
open Go Go.Sx
def eR (E:List C6):Nat→List V:=a0u C6.c (C6.all (-3)) E
def stCs (s:PS) (id:Nat):List V:=[.int .i64 s.M.a0,.int .i64 s.M.a1,.int .i64 s.M.a2,.int .i64 s.M.a3,.int .i64 s.M.a4,.int .i64 s.M.a5,.osl id s.E.length,.int .i64 s.W]
def stI (s:PS):V:=.iptr [.int .i64 s.M.a0,.int .i64 s.M.a1,.int .i64 s.M.a2,.int .i64 s.M.a3,.int .i64 s.M.a4,.int .i64 s.M.a5,.sl 6 s.E.length (eR s.E),.int .i64 s.W]
structure PS.Sm (s:PS):Prop where
 ne:0<s.E.length
 len:s.E.length≤1000000
 W:0≤s.W∧s.W≤1000000000
theorem eR_set {E:List C6} {e b:Nat} (he:e<E.length) (hb:b<6) (x:Int):(fun j=>spliceP (j=e) (eR E j) b [.int .i64 x])=eR (E.set e ((E.getD e (C6.all (-3))).set b x)):=by
 funext j
 unfold eR a0u
 by_cases hj:j=e
 ·subst hj
  rw[a2u rfl]
  simp only[a0A,a0H,if_true,he,a2Z,a0D]
  rcases six hb with rfl|rfl|rfl|rfl|rfl|rfl<;>rfl
 ·rw[a2a hj]
  simp only[a0A,a0H,if_neg (Ne.symm hj)]
theorem PS.wr_pos {s:PS} {e b:Nat} (h:(s.ep e).get b≠-3):s.wr e b=⟨s.M.set b ((s.ep e).get b),s.E.set e ((s.ep e).set b (-3)),s.W+1⟩:=if_neg h
theorem PS.wr_neg {s:PS} {e b:Nat} (h:(s.ep e).get b=-3):s.wr e b=s:=if_pos h
theorem PS.Sm.wr {s:PS} (h:s.Sm) {e b:Nat} (hW:s.W+1≤1000000000):(s.wr e b).Sm:=by
 unfold PS.wr
 split
 ·exact h
 ·obtain⟨h1,h2,h3⟩:=h
  exact⟨by simpa using h1,by simpa using h2,by dsimp only;omega⟩
theorem PS.wr_len (s:PS) (e b:Nat):(s.wr e b).E.length=s.E.length:=by
 unfold PS.wr
 split<;>simp
theorem PS.wr_W (s:PS) (e b:Nat):s.W≤(s.wr e b).W∧(s.wr e b).W≤s.W+1:=by
 unfold PS.wr
 split
 ·omega
 ·dsimp only;omega
theorem PS.wrB_len (s:PS) (e:Nat):∀b,(s.wrB e b).E.length=s.E.length
 |0=>rfl
 |b+1=>by rw[PS.wrB,PS.wr_len,PS.wrB_len s e b]
theorem PS.wrE_len (s:PS):∀e,(s.wrE e).E.length=s.E.length
 |0=>rfl
 |e+1=>by rw[PS.wrE,PS.wrB_len,PS.wrE_len s e]
theorem PS.wrB_W (s:PS) (e:Nat):∀b:Nat,s.W≤(s.wrB e b).W∧(s.wrB e b).W≤s.W+b
 |0=>by simp[PS.wrB]
 |b+1=>by
  have h1:=PS.wr_W (s.wrB e b) e b
  have h2:=PS.wrB_W s e b
  rw[PS.wrB]
  omega
theorem PS.wrE_W (s:PS):∀e:Nat,s.W≤(s.wrE e).W∧(s.wrE e).W≤s.W+6*e
 |0=>by simp[PS.wrE]
 |e+1=>by
  have h1:=PS.wrB_W (s.wrE e) e 6
  have h2:=PS.wrE_W s e
  rw[PS.wrE]
  omega
end Go.Proofs
namespace Go.Proofs
open Go Go.Sx
theorem C6.ext_iff' {x y:C6}:x=y↔x.a0=y.a0∧x.a1=y.a1∧x.a2=y.a2∧x.a3=y.a3∧x.a4=y.a4∧x.a5=y.a5:=by
 cases x;cases y;simp
def isN (x:C6):Bool:=decide (x=C6.all (-3))
def isS (x:C6):Bool:=!isN x
theorem isN_iff {x:C6}:isN x=true↔x=C6.all (-3):=by simp[isN]
theorem a3j {x:C6}:isS x=true↔x≠C6.all (-3):=by simp[isS,isN]
def idxC (p:C6→Bool) (E:List C6):Int:=match E.findIdx? p with
 |some i=>i
 |none=>-1
theorem idxC_some {p:C6→Bool} {E:List C6} {i:Nat} (h:i<E.length) (hp:p (E.getD i (C6.all (-3)))=true) (hn:∀j,j<i→p (E.getD j (C6.all (-3)))=false):idxC p E=i:=by
 have:E.findIdx? p=some i:=by
  rw[List.findIdx?_eq_some_iff_getElem]
  refine⟨h,by simpa [List.getD_eq_getElem?_getD,h] using hp,fun j hj=>?_⟩
  have:=hn j hj
  simpa [List.getD_eq_getElem?_getD,show j<E.length by omega] using this
 simp[idxC,this]
theorem idxC_none {p:C6→Bool} {E:List C6} (hn:∀j,j<E.length→p (E.getD j (C6.all (-3)))=false):idxC p E=-1:=by
 have:E.findIdx? p=none:=by
  rw[List.findIdx?_eq_none_iff]
  intro x hx
  obtain⟨j,hj,rfl⟩:=List.mem_iff_getElem.1 hx
  have:=hn j hj
  simpa [List.getD_eq_getElem?_getD,hj] using this
 simp[idxC,this]
theorem eR_all {G:List C6} {e:Nat} (he:e<G.length) (x:C6):(fun j=>spliceP (j=e) (eR G j) 0 x.c)=eR (G.set e x):=by
 funext j
 unfold eR a0u
 by_cases hj:j=e
 ·subst hj
  rw[a2u rfl]
  simp only[a0A,a0H,if_true,he,a2Z,a0D]
  rfl
 ·rw[a2a hj]
  simp only[a0A,a0H,if_neg (Ne.symm hj)]
def leftC (p:C6→Bool) (E:List C6) (m:Nat):List C6:=(E.take m).filter (fun x=>!p x)
theorem leftC_succ {p:C6→Bool} {E:List C6} {j:Nat} (h:j<E.length):leftC p E (j+1)=if p (E.getD j (C6.all (-3)))=true then leftC p E j else leftC p E j++[E.getD j (C6.all (-3))]:=by
 unfold leftC
 rw[a1H h,a2J]
 have:E.getD j (C6.all (-3))=E[j]:=by simp[a0A,h]
 rw[this]
 cases hp:p E[j]<;>simp[hp]
theorem leftC_le (p:C6→Bool) (E:List C6) (m:Nat):(leftC p E m).length≤m:=by
 have h1:=List.length_filter_le (fun x=>!p x) (E.take m)
 have h2:(E.take m).length≤m:=by simp;omega
 unfold leftC
 omega
theorem idxC_spec (p:C6→Bool) (E:List C6):(idxC p E=-1∧∀j,j<E.length→p (E.getD j (C6.all (-3)))=false)∨∃i:Nat,idxC p E=i∧i<E.length∧p (E.getD i (C6.all (-3)))=true∧∀j,j<i→p (E.getD j (C6.all (-3)))=false:=by
 unfold idxC
 cases h:E.findIdx? p with
 |none=>
  refine .inl ⟨rfl,fun j hj=>?_⟩
  rw[List.findIdx?_eq_none_iff] at h
  have:=h E[j] (a1F hj)
  simpa [List.getD_eq_getElem?_getD,hj] using this
 |some i=>
  rw[List.findIdx?_eq_some_iff_getElem] at h
  obtain⟨h1,h2,h3⟩:=h
  refine .inr ⟨i,rfl,h1,by simpa [List.getD_eq_getElem?_getD,h1] using h2,fun j hj=>?_⟩
  have:=h3 j hj
  simpa [List.getD_eq_getElem?_getD,show j<E.length by omega] using this
theorem take_getD {α:Type} {l:List α} {d:α} {m i:Nat} (h:i<m):(l.take m).getD i d=l.getD i d:=by
 simp[a0A,h]
theorem leftC_none {p:C6→Bool} {E:List C6} {m:Nat} (hm:m≤E.length) (h:∀j,j<m→p (E.getD j (C6.all (-3)))=false):leftC p E m=E.take m:=by
 unfold leftC
 rw[List.filter_eq_self]
 intro x hx
 obtain⟨j,hj,rfl⟩:=List.mem_iff_getElem.1 hx
 simp only[a0V] at hj
 have:=h j (by omega)
 simp only[List.getElem_take]
 simpa [List.getD_eq_getElem?_getD,show j<E.length by omega] using this
def clearC (G:List C6) (a b:Nat):List C6:=(List.range G.length).map (fun k=>if a≤k∧k<a+b then C6.all 0 else G.getD k (C6.all (-3)))
theorem clearC_getD {G:List C6} {a b k:Nat} (h:k<G.length):(clearC G a b).getD k (C6.all (-3))=if a≤k∧k<a+b then C6.all 0 else G.getD k (C6.all (-3)):=by
 unfold clearC
 simp[a0A,h]
theorem eR_snoc {F G:List C6} {x:C6} (hg:∀i,i<F.length→G.getD i (C6.all (-3))=F.getD i (C6.all (-3))):∀i,i<F.length+1→appF F.length (eR G) (fun _=>x.c) i=eR (F++[x]) i:=by
 intro i hi
 unfold appF eR a0u
 by_cases h:i<F.length
 ·rw[if_pos h,hg i h]
  simp only[a0A,a0E h]
 ·rw[if_neg h]
  obtain rfl:i=F.length:=by omega
  simp
theorem tidy_E (s:PS):s.tidy.E=leftC isN s.E (s.E.length-1)++[s.ep (s.E.length-1)]:=by
 unfold PS.tidy leftC
 simp only[List.dropLast_eq_take]
 congr 1
 apply List.filter_congr
 intro x _
 simp[isN]
end Go.Proofs
namespace Go.Proofs
open Go Go.Sx
theorem tidy_len (s:PS):s.tidy.E.length≤s.E.length-1+1∧0<s.tidy.E.length:=by
 have:=leftC_le isN s.E (s.E.length-1)
 rw[tidy_E]
 simp
 omega
theorem PS.Sm.put {s:PS} (h:s.Sm) (b:Nat) (n:Int):(s.put b n).Sm:=⟨by unfold PS.put;simpa using h.ne,by unfold PS.put;simpa using h.len,h.W⟩
end Go.Proofs
namespace Go.Proofs
open Go Go.Sx
def PS.can (s:PS) (b:Nat):Prop:=0≤idxC isS s.E∧(s.ep (idxC isS s.E).toNat).get b≠-3
instance (s:PS) (b:Nat):Decidable (s.can b):=inferInstanceAs (Decidable (_∧_))
def cntC (x:C6):Nat→Int
 |0=>0
 |b+1=>cntC x b+if x.get b=-3 then 0 else 1
def cntE (E:List C6):Nat→Int
 |0=>0
 |e+1=>cntE E e+cntC (E.getD e (C6.all (-3))) 6
theorem cntC_pos {x:C6} {b:Nat} (h:x.get b≠-3):cntC x (b+1)=cntC x b+1:=by show cntC x b+(if _ then _ else _)=_;rw[if_neg h]
theorem cntC_neg {x:C6} {b:Nat} (h:x.get b=-3):cntC x (b+1)=cntC x b:=by show cntC x b+(if _ then _ else _)=_;rw[if_pos h];omega
theorem cntC_le (x:C6):∀b:Nat,0≤cntC x b∧cntC x b≤b
 |0=>by simp[cntC]
 |b+1=>by have:=cntC_le x b;unfold cntC;split<;>omega
def PS.drain (s:PS) (b:Nat):PS:=(s.wr (idxC isS s.E).toNat b).tidy
end Go.Proofs
namespace Go.Proofs
open Go Go.Sx
noncomputable def iteI (p:Prop) (a:Int):Int:=@ite _ p (Classical.propDecidable p) a 0
noncomputable def shE (E:List C6) (K:Nat):Nat→Nat→List V
 |0,_=>[]
 |r+1,i=>.int .i64 (iteI (i<K) (E.getD i (C6.all (-3))).a0) :: .int .i64 (iteI (i<K) (E.getD i (C6.all (-3))).a1) :: .int .i64 (iteI (i<K) (E.getD i (C6.all (-3))).a2) ::
   .int .i64 (iteI (i<K) (E.getD i (C6.all (-3))).a3) :: .int .i64 (iteI (i<K) (E.getD i (C6.all (-3))).a4) :: .int .i64 (iteI (i<K) (E.getD i (C6.all (-3))).a5) :: shE E K r (i+1)
noncomputable def shC (s:PS):List V:=.int .i64 s.M.a0 :: .int .i64 s.M.a1 :: .int .i64 s.M.a2 :: .int .i64 s.M.a3 :: .int .i64 s.M.a4 :: .int .i64 s.M.a5 :: .int .i64 s.E.length :: shE s.E (min s.E.length 17) 17 0
end Go.Proofs
namespace Go.Proofs
open Go Go.Sx
def drV (D:List (Int×Int)):V:=.sl 2 D.length (a0u oC (0,0) D)
structure Trip where
 s:PS
 D:List (Int×Int)
def trC (t:Trip):List V:=[stI t.s,drV t.D]
def trV (t:Trip):V:=.agg [stI t.s,drV t.D]
def Trip.with (t:Trip) (d:Int×Int):Trip:=⟨t.s.drain d.2.toNat,t.D++[d]⟩
theorem sl0_lit {I:Nat→Prop} {w:World} {sz:Nat} {f:Nat→List V} {v:Value} (h:Den I [] w (.sl sz 0 f) v):∃a cap,v=.slice a 0 cap:=by
 rcases h with⟨_,a,cap,rfl⟩|⟨b,o,cap,rfl,_⟩
 ·exact⟨a,cap,rfl⟩
 ·exact⟨_,cap,rfl⟩
end Go.Proofs
namespace Go.Proofs
open Go Go.Sx
namespace PS
theorem put_len (s:PS) (b:Nat) (n:Int):(s.put b n).E.length=s.E.length:=by simp[put]
def run (l:List (Int×Int)):Nat→PS
 |0=>begin
 |k+1=>(run l k).order k (l.getD k (0,0))
end PS
theorem Cache.Ok.blk {x:Cache} (h:x.Ok) {k:Nat} (hk:k<x.l.length):(x.l.getD k (0,0)).1=1∨(x.l.getD k (0,0)).1=2→0≤(x.l.getD k (0,0)).2∧(x.l.getD k (0,0)).2<6:=by
 have e:x.l.getD k (0,0)=x.l[k]:=by simp[a0A,hk]
 rw[e]
 intro hp
 have h1:=h.ord x.l[k] (a1F hk)
 have h2:=h.n
 unfold Cache.OkO at h1
 omega
end Go.Proofs
namespace Go.Proofs
open Go Go.Sx
inductive Rch (x:Cache):Nat→PS→List (Int×Int)→Prop
 |begin:Rch x 0 PS.begin []
 |drain {k:Nat} {s:PS} {D:List (Int×Int)} {b:Nat}:Rch x k s D→(b:Int)<x.n→s.can b→Rch x k (s.drain b) (D++[((k:Int),(b:Int))])
 |order {k:Nat} {s:PS} {D:List (Int×Int)}:Rch x k s D→k<x.l.length→Rch x (k+1) (s.order k (x.l.getD k (0,0))) D
noncomputable def shIE (E:List C6) (K:Nat):Nat→Nat→List Int
 |0,_=>[]
 |r+1,i=>iteI (i<K) (E.getD i (C6.all (-3))).a0 :: iteI (i<K) (E.getD i (C6.all (-3))).a1 :: iteI (i<K) (E.getD i (C6.all (-3))).a2 ::
   iteI (i<K) (E.getD i (C6.all (-3))).a3 :: iteI (i<K) (E.getD i (C6.all (-3))).a4 :: iteI (i<K) (E.getD i (C6.all (-3))).a5 :: shIE E K r (i+1)
noncomputable def shI (s:PS):List Int:=s.M.a0 :: s.M.a1 :: s.M.a2 :: s.M.a3 :: s.M.a4 :: s.M.a5 :: (s.E.length:Int) :: shIE s.E (min s.E.length 17) 17 0
def K109:List IntKind:=List.replicate 109 .i64
def shF (f:Nat→Int):List Int:=[f 0,f 1,f 2,f 3,f 4,f 5,f 6,f 7,f 8,f 9,f 10,f 11,f 12,f 13,f 14,f 15,f 16,f 17,f 18,f 19,f 20,f 21,f 22,f 23,f 24,f 25,f 26,f 27,f 28,f 29,f 30,f 31,f 32,f 33,f 34,f 35,f 36,f 37,f 38,f 39,f 40,f 41,f 42,f 43,f 44,f 45,f 46,f 47,f 48,f 49,f 50,f 51,f 52,f 53,f 54,f 55,f 56,f 57,f 58,f 59,f 60,f 61,f 62,f 63,f 64,f 65,f 66,f 67,f 68,f 69,f 70,f 71,f 72,f 73,f 74,f 75,f 76,f 77,f 78,f 79,f 80,f 81,f 82,f 83,f 84,f 85,f 86,f 87,f 88,f 89,f 90,f 91,f 92,f 93,f 94,f 95,f 96,f 97,f 98,f 99,f 100,f 101,f 102,f 103,f 104,f 105,f 106,f 107,f 108]
def shFV (f:Nat→Int):List V:=[.int .i64 (f 0),.int .i64 (f 1),.int .i64 (f 2),.int .i64 (f 3),.int .i64 (f 4),.int .i64 (f 5),.int .i64 (f 6),.int .i64 (f 7),.int .i64 (f 8),.int .i64 (f 9),.int .i64 (f 10),.int .i64 (f 11),.int .i64 (f 12),.int .i64 (f 13),.int .i64 (f 14),.int .i64 (f 15),.int .i64 (f 16),.int .i64 (f 17),.int .i64 (f 18),.int .i64 (f 19),.int .i64 (f 20),.int .i64 (f 21),.int .i64 (f 22),.int .i64 (f 23),.int .i64 (f 24),.int .i64 (f 25),.int .i64 (f 26),.int .i64 (f 27),.int .i64 (f 28),.int .i64 (f 29),.int .i64 (f 30),.int .i64 (f 31),.int .i64 (f 32),.int .i64 (f 33),.int .i64 (f 34),.int .i64 (f 35),.int .i64 (f 36),.int .i64 (f 37),.int .i64 (f 38),.int .i64 (f 39),.int .i64 (f 40),.int .i64 (f 41),.int .i64 (f 42),.int .i64 (f 43),.int .i64 (f 44),.int .i64 (f 45),.int .i64 (f 46),.int .i64 (f 47),.int .i64 (f 48),.int .i64 (f 49),.int .i64 (f 50),.int .i64 (f 51),.int .i64 (f 52),.int .i64 (f 53),.int .i64 (f 54),.int .i64 (f 55),.int .i64 (f 56),.int .i64 (f 57),.int .i64 (f 58),.int .i64 (f 59),.int .i64 (f 60),.int .i64 (f 61),.int .i64 (f 62),.int .i64 (f 63),.int .i64 (f 64),.int .i64 (f 65),.int .i64 (f 66),.int .i64 (f 67),.int .i64 (f 68),.int .i64 (f 69),.int .i64 (f 70),.int .i64 (f 71),.int .i64 (f 72),.int .i64 (f 73),.int .i64 (f 74),.int .i64 (f 75),.int .i64 (f 76),.int .i64 (f 77),.int .i64 (f 78),.int .i64 (f 79),.int .i64 (f 80),.int .i64 (f 81),.int .i64 (f 82),.int .i64 (f 83),.int .i64 (f 84),.int .i64 (f 85),.int .i64 (f 86),.int .i64 (f 87),.int .i64 (f 88),.int .i64 (f 89),.int .i64 (f 90),.int .i64 (f 91),.int .i64 (f 92),.int .i64 (f 93),.int .i64 (f 94),.int .i64 (f 95),.int .i64 (f 96),.int .i64 (f 97),.int .i64 (f 98),.int .i64 (f 99),.int .i64 (f 100),.int .i64 (f 101),.int .i64 (f 102),.int .i64 (f 103),.int .i64 (f 104),.int .i64 (f 105),.int .i64 (f 106),.int .i64 (f 107),.int .i64 (f 108)]
noncomputable def shf (s:PS) (i:Nat):Int:=(shI s).getD i 0
noncomputable def Trip.sh (t:Trip):List Int:=shF (shf t.s)
def Trip.none:Trip:=⟨PS.begin,[]⟩
structure Trip.Good (x:Cache) (k:Nat) (t:Trip):Prop where
 r:Rch x k t.s t.D
 sm:t.s.Sm
 len:t.s.E.length≤17
 W:t.s.W≤1000
 D:t.D.length≤1000
noncomputable def cntV (dom:List Int→Prop) (c:List Int→Int) (k:List Int):Int:=@ite _ (dom k) (Classical.propDecidable _) (c k) 0
noncomputable def cntUp (dom:List Int→Prop) (c:List Int→Int) (k:List Int) (k':List Int):Int:=@ite _ (k'=k) (Classical.propDecidable _) (cntV dom c k+1) (c k')
theorem a3c (dom:List Int→Prop) (c:List Int→Int) (k k':List Int) (h:a0p dom k k') :
  valPut (valEnt dom (fun k=>[.int .i64 (c k)]) [.int .i64 0]) k [.int .i64 (cntV dom c k+1)] k'=[.int .i64 (cntUp dom c k k')]:=by
 unfold valPut valEnt mrgL cntUp
 by_cases hk:k'=k
 ·subst hk
  simp[pickDL,pickD]
 ·have hd:dom k':=h.resolve_left hk
  simp[pickDL,pickD,hk,hd]
theorem cntV_again (dom:List Int→Prop) (c:List Int→Int) (k:List Int):V.int .i64 (@ite _ (a0p dom k k) (Classical.propDecidable _) (cntV dom c k) 0)=V.int .i64 (cntV dom c k):=by
 rw[if_pos (show a0p dom k k from .inl rfl)]
theorem cnt_new {dom:List Int→Prop} {c:List Int→Int} {k:List Int} (h:∀k,dom k→1≤c k) :
  (@ite _ (a0p dom k k) (Classical.propDecidable _) (@ite _ (k=k) (Classical.propDecidable _) (cntV dom c k+1) (cntV dom c k)) 0=1)↔¬dom k:=by
 rw[if_pos (show a0p dom k k from .inl rfl),if_pos rfl]
 unfold cntV
 split
 ·rename_i hk
  have:=h k hk
  exact⟨fun e=>by omega,fun e=>absurd hk e⟩
 ·rename_i hk
  exact⟨fun _=>hk,fun _=>by omega⟩
theorem cntUp_le {dom:List Int→Prop} {c:List Int→Int} {k:List Int} {n:Nat} (h:∀k,dom k→1≤c k∧c k≤n):∀k',a0p dom k k'→1≤cntUp dom c k k'∧cntUp dom c k k'≤(n+1:Nat):=by
 intro k' hk'
 unfold cntUp cntV
 split
 ·split
  ·rename_i h2;have:=h k h2;omega
  ·omega
 ·rename_i hne
  have:=h k' (hk'.resolve_left hne)
  omega
end Go.Proofs
namespace Go.Proofs
open Go Go.Sx
noncomputable def shS (s:PS):List Int:=shF (shf s)
structure Closed (x:Cache) (k:Nat) (l l':List Trip):Prop where
 pre:l <+: l'
 good:∀t∈l',t.Good x k
 nd:(l'.map Trip.sh).Nodup
 all:∀t∈l',∀b:Nat,(b:Int)<x.n→t.s.can b→∃t'∈l',t'.sh=shS (t.s.drain b)
structure Closed' (x:Cache) (k:Nat) (l l':List Trip) (i:Nat):Prop where
 pre:l <+: l'
 good:∀t∈l',t.Good x k
 nd:(l'.map Trip.sh).Nodup
 le:i≤l'.length
 all:∀j (h:j<l'.length),j<i→∀b:Nat,(b:Int)<x.n→l'[j].s.can b→∃t'∈l',t'.sh=shS (l'[j].s.drain b)
theorem Closed'.start {x:Cache} {k:Nat} {l:List Trip} (hl:∀t∈l,t.Good x k) (hnd:(l.map Trip.sh).Nodup):Closed' x k l l 0:=
 ⟨List.prefix_rfl,hl,hnd,by omega,fun j _ h=>by omega⟩
theorem seen_snoc {l:List Trip} {i:Nat} (hi:i<l.length) (key:List Int):(key=(l.getD i Trip.none).sh∨∃t∈l.take i,t.sh=key)↔∃t∈l.take (i+1),t.sh=key:=by
 have e:l.getD i Trip.none=l[i]:=by simp[a0A,hi]
 have e2:=a1H hi
 rw[e]
 constructor
 ·rintro(rfl|⟨t,h,rfl⟩)
  ·exact⟨l[i],e2▸List.mem_append_right _ (a0L.2 rfl),rfl⟩
  ·exact⟨t,e2▸a1I _ h,rfl⟩
 ·rintro⟨t,h,rfl⟩
  rw[e2] at h
  rcases a0M.1 h with h|h
  ·exact .inr ⟨t,h,rfl⟩
  ·exact .inl (by rw[a0L.1 h])
structure Inner (x:Cache) (k:Nat) (l l1 l2:List Trip) (i b:Nat):Prop where
 cl:Closed' x k l l2 i
 pre:l1 <+: l2
 lt:i<l2.length
 at':∀b':Nat,b'<b→(b':Int)<x.n→(l2.getD i Trip.none).s.can b'→∃t'∈l2,t'.sh=shS ((l2.getD i Trip.none).s.drain b')
theorem Inner.start {x:Cache} {k:Nat} {l l1:List Trip} {i:Nat} (h:Closed' x k l l1 i) (hi:i<l1.length):Inner x k l l1 l1 i 0:=
 ⟨h,List.prefix_rfl,hi,fun b' hb=>by omega⟩
theorem Inner.skip {x:Cache} {k:Nat} {l l1 l2:List Trip} {i b:Nat} (h:Inner x k l l1 l2 i b) (hc:¬(l2.getD i Trip.none).s.can b):Inner x k l l1 l2 i (b+1):=
 ⟨h.cl,h.pre,h.lt,fun b' hb hn hcan=>by
  rcases a0J (show b'≤b by omega) with h1|rfl
  ·exact h.at' b' h1 hn hcan
  ·exact absurd hcan hc⟩
theorem getD_at {l:List Trip} {i:Nat} (h:i<l.length):l.getD i Trip.none=l[i]:=by simp[a0A,h]
theorem Inner.done {x:Cache} {k:Nat} {l l1 l2:List Trip} {i:Nat} (h:Inner x k l l1 l2 i x.n.toNat) (hx:x.Ok):Closed' x k l l2 (i+1):=
 ⟨h.cl.pre,h.cl.good,h.cl.nd,h.lt,fun j hj hji b hb hcan=>by
  rcases a0J (show j≤i by omega) with h1|rfl
  ·exact h.cl.all j hj h1 b hb hcan
  ·rw[←getD_at hj] at hcan ⊢
   have:=hx.n
   exact h.at' b (by omega) hb hcan⟩
theorem Closed'.end' {x:Cache} {k:Nat} {l l1:List Trip} (h:Closed' x k l l1 l1.length):Closed x k l l1:=
 ⟨h.pre,h.good,h.nd,fun t ht b hb hc=>by
  obtain⟨j,hj,rfl⟩:=a1G ht
  exact h.all j hj hj b hb hc⟩
theorem Inner.old {x:Cache} {k:Nat} {l l1 l2:List Trip} {i b:Nat} (h:Inner x k l l1 l2 i b) (hd:∃t'∈l2,t'.sh=shS ((l2.getD i Trip.none).s.drain b)):Inner x k l l1 l2 i (b+1):=
 ⟨h.cl,h.pre,h.lt,fun b' hb hn hcan=>by
  rcases a0J (show b'≤b by omega) with h1|rfl
  ·exact h.at' b' h1 hn hcan
  ·exact hd⟩
theorem Inner.add {x:Cache} {k:Nat} {l l1 l2:List Trip} {i b:Nat} (h:Inner x k l l1 l2 i b) {t:Trip} (ht:t.Good x k) (hs:t.sh=shS ((l2.getD i Trip.none).s.drain b)) (hn:¬∃t'∈l2,t'.sh=t.sh):Inner x k l l1 (l2++[t]) i (b+1):=by
 have hlt:=h.lt
 have e:(l2++[t]).getD i Trip.none=l2.getD i Trip.none:=by simp only[a0A];rw[a0E hlt]
 refine⟨⟨h.cl.pre.trans (List.prefix_append _ _),fun t' ht'=>?_,?_,by simp;omega,fun j hj hji b' hb' hcan=>?_⟩,h.pre.trans (List.prefix_append _ _),by simp;omega,fun b' hb hn' hcan=>?_⟩
 ·rcases a0M.1 ht' with h1|h1
  ·exact h.cl.good t' h1
  ·rw[a0L.1 h1];exact ht
 ·rw[a1L,a2N]
  refine⟨h.cl.nd,by simp,fun a ha c hc=>?_⟩
  simp only[a1Q,a3G,a0L] at hc
  subst hc
  intro hac
  obtain⟨t',ht',rfl⟩:=a1C.1 ha
  exact hn ⟨t',ht',hac⟩
 ·have hjl:j<l2.length:=by omega
  have e2:(l2++[t])[j]=l2[j]:=List.getElem_append_left hjl
  rw[e2] at hcan ⊢
  obtain⟨t',h1,h2⟩:=h.cl.all j hjl hji b' hb' hcan
  exact⟨t',a1I _ h1,h2⟩
 ·rw[e] at hcan ⊢
  rcases a0J (show b'≤b by omega) with h1|rfl
  ·obtain⟨t',h3,h4⟩:=h.at' b' h1 hn' hcan
   exact⟨t',a1I _ h3,h4⟩
  ·exact⟨t,by simp,hs⟩
theorem dom_snoc {dom:List Int→Prop} {l:List Trip} (h:∀k,dom k↔∃t∈l,t.sh=k) (t:Trip):∀k,a0p dom t.sh k↔∃t'∈l++[t],t'.sh=k:=by
 intro k
 unfold a0p
 rw[h]
 constructor
 ·rintro(rfl|⟨t',h1,rfl⟩)
  ·exact⟨t,by simp,rfl⟩
  ·exact⟨t',a1I _ h1,rfl⟩
 ·rintro⟨t',h1,rfl⟩
  rcases a0M.1 h1 with h1|h1
  ·exact .inr ⟨t',h1,rfl⟩
  ·exact .inl (by rw[a0L.1 h1])
theorem dom_same {dom:List Int→Prop} {l:List Trip} (h:∀k,dom k↔∃t∈l,t.sh=k) {key:List Int} (hk:dom key):∀k,a0p dom key k↔∃t'∈l,t'.sh=k:=by
 intro k
 unfold a0p
 rw[←h]
 exact⟨fun g=>g.elim (fun e=>e▸hk) id,.inr⟩
end Go.Proofs
namespace Go.Proofs
open Go Go.Sx
structure Img where
 t:Trip
 h:C6
 torn:Bool
def imC (i:Img):List V:=[stI i.t.s,drV i.t.D,.int .i64 i.h.a0,.int .i64 i.h.a1,.int .i64 i.h.a2,.int .i64 i.h.a3,.int .i64 i.h.a4,.int .i64 i.h.a5,.prop (i.torn=true) inferInstance]
def Img.none:Img:=⟨Trip.none,C6.all 0,false⟩
def keyH (h:C6):List Int:=[h.a0,h.a1,h.a2,h.a3,h.a4,h.a5]
def K6:List IntKind:=List.replicate 6 .i64
theorem keyH_inj {a b:C6} (h:keyH a=keyH b):a=b:=by
 cases a;cases b
 simp only[keyH,List.cons.injEq] at h
 simp[h]
open Classical in
noncomputable def addI (L:List Img) (dom:List Int→Prop) (i:Img):List Img:=if dom (keyH i.h) then L else L++[i]
end Go.Proofs
namespace Go.Proofs
open Go Go.Sx
def PS.same (s s':PS):Prop:=s.M=s'.M∧s.E=s'.E
namespace PS.same
theorem wr {s s':PS} (h:s.same s') (e b:Nat):(s.wr e b).same (s'.wr e b):=by
 obtain⟨M,E,W⟩:=s
 obtain⟨M',E',W'⟩:=s'
 obtain⟨h1,h2⟩:=h
 dsimp only at h1 h2
 subst h1 h2
 unfold PS.wr PS.ep
 dsimp only
 split
 ·exact⟨rfl,rfl⟩
 ·exact⟨rfl,rfl⟩
theorem wrB {s s':PS} (h:s.same s') (e:Nat):∀b,(s.wrB e b).same (s'.wrB e b)
 |0=>h
 |b+1=>(wrB h e b).wr e b
theorem wrE {s s':PS} (h:s.same s'):∀e,(s.wrE e).same (s'.wrE e)
 |0=>h
 |e+1=>(wrE h e).wrB e 6
theorem put {s s':PS} (h:s.same s') (b:Nat) (n:Int):(s.put b n).same (s'.put b n):=by
 obtain⟨h1,h2⟩:=h
 unfold PS.put PS.ep
 rw[h2]
 exact⟨h1,rfl⟩
theorem tidy {s s':PS} (h:s.same s'):s.tidy.same s'.tidy:=by
 obtain⟨h1,h2⟩:=h
 unfold PS.tidy PS.ep
 rw[h2]
 exact⟨h1,rfl⟩
theorem len {s s':PS} (h:s.same s'):s.E.length=s'.E.length:=by rw[h.2]
theorem order {s s':PS} (h:s.same s') (n:Int) (o:Int×Int):(s.order n o).same (s'.order n o):=by
 unfold PS.order
 rw[h.len]
 split
 ·exact(h.put _ _).tidy
 split
 ·exact(((h.put _ _).wrE _).wr _ _).tidy
 split
 ·exact tidy ⟨h.1,by show s.E++_=s'.E++_;rw[h.2]⟩
 split
 ·exact(h.wrE _).tidy
 ·exact h.tidy
theorem can {s s':PS} (h:s.same s') {b:Nat}:s.can b↔s'.can b:=by
 unfold PS.can PS.ep
 rw[h.2]
theorem drain {s s':PS} (h:s.same s') (b:Nat):(s.drain b).same (s'.drain b):=by
 unfold PS.drain
 rw[h.2]
 exact(h.wr _ _).tidy
theorem symm {s s':PS} (h:s.same s'):s'.same s:=⟨h.1.symm,h.2.symm⟩
theorem trans {s s' s'':PS} (h:s.same s') (g:s'.same s''):s.same s'':=⟨h.1.trans g.1,h.2.trans g.2⟩
theorem shS {s s':PS} (h:s.same s'):Go.Proofs.shS s=Go.Proofs.shS s':=by
 show shI s=shI s'
 unfold shI
 rw[h.1,h.2]
end PS.same
theorem shIE_inj {E E':List C6} {K:Nat}:∀(r i:Nat),shIE E K r i=shIE E' K r i→∀j,i≤j→j<i+r→j<K→E.getD j (C6.all (-3))=E'.getD j (C6.all (-3))
 |0,i,_,j,h1,h2,_=>by omega
 |r+1,i,h,j,h1,h2,h3=>by
  simp only[shIE,List.cons.injEq] at h
  obtain⟨a0,a1,a2,a3,a4,a5,h⟩:=h
  rcases a0J h1 with h4|rfl
  ·exact shIE_inj r (i+1) h j h4 (by omega) h3
  ·unfold iteI at a0 a1 a2 a3 a4 a5
   rw[if_pos h3,if_pos h3] at a0 a1 a2 a3 a4 a5
   generalize E.getD i (C6.all (-3))=c at *
   generalize E'.getD i (C6.all (-3))=c' at *
   cases c;cases c'
   simp_all
theorem shS_inj {s s':PS} (h1:s.E.length≤17) (h:shS s=shS s'):s.same s':=by
 have h:shI s=shI s':=h
 unfold shI at h
 simp only[List.cons.injEq] at h
 obtain⟨a0,a1,a2,a3,a4,a5,al,h⟩:=h
 have al:s.E.length=s'.E.length:=by omega
 refine⟨?_,?_⟩
 ·obtain⟨M,_,_⟩:=s
  obtain⟨M',_,_⟩:=s'
  cases M;cases M'
  simp_all
 ·rw[←al] at h
  have key:=shIE_inj 17 0 h
  refine a1U al fun j g1 g2=>?_
  have:=key j (a2A _) (by omega) (by omega)
  simpa [List.getD_eq_getElem?_getD,g1,g2] using this
def Cover (x:Cache) (k:Nat) (l:List Trip):Prop:=∀s D,Rch x k s D→∃t∈l,t.s.same s
theorem cover_of {x:Cache} {k:Nat} {l l':List Trip} (hc:Closed x k l l')
  (he:∀s D,Rch x k s D→(k=0∧s=PS.begin)∨(∃k' s' D',k=k'+1∧Rch x k' s' D'∧k'<x.l.length∧s=s'.order k' (x.l.getD k' (0,0)))→∃t∈l,t.s.same s):Cover x k l':=by
 intro s D h
 induction h with
 |begin=>
  obtain⟨t,h1,h2⟩:=he _ _ .begin (.inl ⟨rfl,rfl⟩)
  exact⟨t,hc.pre.subset h1,h2⟩
 |@drain k s D b hr hb hcan ih=>
  obtain⟨t,h1,h2⟩:=ih hc he
  obtain⟨t',h3,h4⟩:=hc.all t h1 b hb (h2.can.2 hcan)
  have hg:=hc.good t' h3
  exact⟨t',h3,(shS_inj hg.len h4).trans (h2.drain b)⟩
 |@order k s D hr hk ih=>
  obtain⟨t,h1,h2⟩:=he _ _ (.order hr hk) (.inr ⟨k,s,D,rfl,hr,hk,rfl⟩)
  exact⟨t,hc.pre.subset h1,h2⟩
end Go.Proofs
namespace Go.Proofs
open Go Go.Sx
structure NextOk (x:Cache) (k:Nat) (l nx:List Trip) (j:Nat):Prop where
 good:∀t∈nx,t.Good x (k+1)
 nd:(nx.map Trip.sh).Nodup
 all:∀i,i<j→∃t∈nx,t.sh=shS ((l.getD i Trip.none).s.order k (x.l.getD k (0,0)))
structure Entry (x:Cache) (k:Nat) (l:List Trip):Prop where
 good:∀t∈l,t.Good x k
 nd:(l.map Trip.sh).Nodup
 ne:0<l.length
 all:∀l',Closed x k l l'→Cover x k l'
def FitT (f:Nat→List V) (l:List Trip):Prop:=∀i,i<l.length→∀(I:Nat→Prop) (w:World) (vs:List Value),DenL I [] w (f i) vs→DenL I [] w (a0u trC Trip.none l i) vs
theorem FitT.own (l:List Trip):FitT (a0u trC Trip.none l) l:=fun _ _ _ _ _ h=>h
theorem FitT.begin:FitT (fun _=>[stI PS.begin,.lit (.slice none 0 0)]) [⟨PS.begin,[]⟩]:=by
 intro i hi I w vs h
 obtain rfl:i=0:=by simp at hi;omega
 obtain⟨v,r,rfl,h1,v2,r2,rfl,h2,rfl⟩:=h
 exact⟨v,_,rfl,h1,v2,_,rfl,.inl ⟨rfl,none,0,h2⟩,rfl⟩
theorem NextOk.start {x:Cache} {k:Nat} {l:List Trip}:NextOk x k l [] 0:=⟨by simp,by simp,fun i hi=>by omega⟩
theorem NextOk.add {x:Cache} {k:Nat} {l nx:List Trip} {i:Nat} (h:NextOk x k l nx i) {t:Trip} (ht:t.Good x (k+1)) (hs:t.sh=shS ((l.getD i Trip.none).s.order k (x.l.getD k (0,0)))) (hn:¬∃t'∈nx,t'.sh=t.sh):NextOk x k l (nx++[t]) (i+1):=by
 refine⟨fun t' ht'=>?_,?_,fun j hj=>?_⟩
 ·rcases a0M.1 ht' with h1|h1
  ·exact h.good t' h1
  ·rw[a0L.1 h1];exact ht
 ·rw[a1L,a2N]
  refine⟨h.nd,by simp,fun a ha c hc=>?_⟩
  simp only[a1Q,a3G,a0L] at hc
  subst hc
  intro hac
  obtain⟨t',ht',rfl⟩:=a1C.1 ha
  exact hn ⟨t',ht',hac⟩
 ·rcases a0J (show j≤i by omega) with h1|rfl
  ·obtain⟨t',h3,h4⟩:=h.all j h1
   exact⟨t',a1I _ h3,h4⟩
  ·exact⟨t,by simp,hs⟩
theorem NextOk.old {x:Cache} {k:Nat} {l nx:List Trip} {i:Nat} (h:NextOk x k l nx i) (hs:∃t'∈nx,t'.sh=shS ((l.getD i Trip.none).s.order k (x.l.getD k (0,0)))):NextOk x k l nx (i+1):=
 ⟨h.good,h.nd,fun j hj=>by
  rcases a0J (show j≤i by omega) with h1|rfl
  ·exact h.all j h1
  ·exact hs⟩
theorem NextOk.entry {x:Cache} {k:Nat} {l' nx:List Trip} (h:NextOk x k l' nx l'.length) (hk:k<x.l.length) (hpos:0<l'.length) (hcov:Cover x k l'):Entry x (k+1) nx:=by
 refine⟨h.good,h.nd,?_,fun l'' hc=>cover_of hc ?_⟩
 ·obtain⟨t,h1,_⟩:=h.all 0 (by
   have:=hcov
   have hne:0<l'.length:=hpos
   exact hne)
  exact a3P h1
 ·rintro s D hr (⟨h0,_⟩|⟨k',s',D',h0,hr',hk',rfl⟩)
  ·omega
  ·obtain rfl:k'=k:=by omega
   obtain⟨t,h1,h2⟩:=hcov s' D' hr'
   obtain⟨i,hi,rfl⟩:=a1G h1
   obtain⟨t2,h3,h4⟩:=h.all i hi
   rw[getD_at hi] at h4
   exact⟨t2,h3,(shS_inj (h.good t2 h3).len h4).trans (h2.order _ _)⟩
def ImgOk (x:Cache) (im:Img):Prop:=
 (im.torn=false∧Rch x x.l.length im.t.s im.t.D∧im.h=im.t.s.M)∨
 (im.torn=true∧∃(s:PS) (D:List (Int×Int)) (b:Nat),Rch x x.l.length s D∧(b:Int)<x.n∧s.can b∧im.h=s.M.set b (-2)∧im.t=⟨s.drain b,D++[((x.l.length:Int),(b:Int))]⟩)
structure ImgsOk (x:Cache) (L:List Img) (dom:List Int→Prop):Prop where
 ok:∀im∈L,ImgOk x im
 dom:∀k,dom k↔∃im∈L,keyH im.h=k
def HasI (x:Cache) (L:List Img) (s:PS) (b:Nat):Prop:=(∃im∈L,im.h=s.M)∧∀b':Nat,b'<b→(b':Int)<x.n→s.can b'→∃im∈L,im.h=s.M.set b' (-2)
def Done (x:Cache) (l:List Trip) (L:List Img) (i:Nat):Prop:=∀j,j<i→HasI x L (l.getD j Trip.none).s 6
theorem ImgsOk.nil (x:Cache):ImgsOk x [] (fun _=>False):=⟨by simp,by simp⟩
theorem Done.zero (x:Cache) (l:List Trip):Done x l [] 0:=fun j hj=>by omega
structure Imgs (x:Cache) (L:List Img):Prop where
 ok:∀im∈L,ImgOk x im
 all:∀s D,Rch x x.l.length s D→HasI x L s 6
 len:L.length≤458752
theorem HasI.sub {x:Cache} {L L':List Img} {s:PS} {b:Nat} (h:HasI x L s b) (hs:∀im∈L,im∈L'):HasI x L' s b:=
 ⟨h.1.imp fun _ g=>⟨hs _ g.1,g.2⟩,fun b' h1 h2 h3=>(h.2 b' h1 h2 h3).imp fun _ g=>⟨hs _ g.1,g.2⟩⟩
theorem Done.sub {x:Cache} {l:List Trip} {L L':List Img} {i:Nat} (h:Done x l L i) (hs:∀im∈L,im∈L'):Done x l L' i:=fun j hj=>(h j hj).sub hs
theorem Done.step {x:Cache} {l:List Trip} {L:List Img} {i:Nat} (h:Done x l L i) (hi:HasI x L (l.getD i Trip.none).s 6):Done x l L (i+1):=fun j hj=>by
 rcases a0J (show j≤i by omega) with h1|rfl
 ·exact h j h1
 ·exact hi
theorem HasI.full {x:Cache} {L:List Img} {s:PS} (h:HasI x L s x.n.toNat) (hx:x.Ok):HasI x L s 6:=⟨h.1,fun b' _ h2 h3=>h.2 b' (by have:=hx.n;omega) h2 h3⟩
theorem HasI.skip {x:Cache} {L:List Img} {s:PS} {b:Nat} (h:HasI x L s b) (hc:¬s.can b):HasI x L s (b+1):=⟨h.1,fun b' h1 h2 h3=>by
 rcases a0J (show b'≤b by omega) with h4|rfl
 ·exact h.2 b' h4 h2 h3
 ·exact absurd h3 hc⟩
theorem HasI.add {x:Cache} {L:List Img} {s:PS} {b:Nat} (h:HasI x L s b) (hc:∃im∈L,im.h=s.M.set b (-2)):HasI x L s (b+1):=⟨h.1,fun b' h1 h2 h3=>by
 rcases a0J (show b'≤b by omega) with h4|rfl
 ·exact h.2 b' h4 h2 h3
 ·exact hc⟩
theorem ImgsOk.add {x:Cache} {L:List Img} {dom:List Int→Prop} (h:ImgsOk x L dom) {im:Img} (hi:ImgOk x im) :
  ImgsOk x (addI L dom im) (a0p dom (keyH im.h))∧(∀y∈L,y∈addI L dom im)∧(∃y∈addI L dom im,y.h=im.h)∧(addI L dom im).length≤L.length+1:=by
 unfold addI
 split
 ·rename_i hd
  refine⟨⟨h.ok,fun k=>?_⟩,fun y hy=>hy,?_,by omega⟩
  ·unfold a0p
   rw[←h.dom]
   exact⟨fun g=>g.elim (fun e=>e▸hd) id,.inr⟩
  ·obtain⟨y,h1,h2⟩:=(h.dom _).1 hd
   exact⟨y,h1,keyH_inj h2⟩
 ·refine⟨⟨fun y hy=>?_,fun k=>?_⟩,fun y hy=>a1I _ hy,⟨im,by simp,rfl⟩,by simp⟩
  ·rcases a0M.1 hy with h1|h1
   ·exact h.ok y h1
   ·rw[a0L.1 h1];exact hi
  ·unfold a0p
   rw[h.dom]
   constructor
   ·rintro(rfl|⟨y,h1,rfl⟩)
    ·exact⟨im,by simp,rfl⟩
    ·exact⟨y,a1I _ h1,rfl⟩
   ·rintro⟨y,h1,rfl⟩
    rcases a0M.1 h1 with h1|h1
    ·exact .inr ⟨y,h1,rfl⟩
    ·exact .inl (by rw[a0L.1 h1])
theorem ImgsOk.imgs {x:Cache} {L:List Img} {dom:List Int→Prop} {l:List Trip} (h:ImgsOk x L dom) (hd:Done x l L l.length) (hc:Cover x x.l.length l) (hl:L.length≤458752):Imgs x L:=by
 refine⟨h.ok,fun s D hr=>?_,hl⟩
 obtain⟨t,h1,h2⟩:=hc s D hr
 obtain⟨i,hi,rfl⟩:=a1G h1
 have h3:=hd i hi
 rw[getD_at hi] at h3
 obtain⟨h4,h5⟩:=h3
 rw[h2.1] at h4 h5
 exact⟨h4,fun b' g1 g2 g3=>h5 b' g1 g2 (h2.can.2 g3)⟩
end Go.Proofs
namespace Go.Proofs
open Go Go.Sx
end Go.Proofs
namespace Go.Proofs
open Go Go.Sx
def intC (n:Int):List V:=[.int .i64 n]
def swapAt:Nat→List Int→List Int
 |0,x :: y :: l=>y :: x :: l
 |k+1,x :: l=>x :: swapAt k l
 |_,l=>l
theorem byteAt_le (s:ByteArray) (i:Nat):0≤byteAt s i∧byteAt s i≤255:=by
 unfold byteAt
 cases s[i]? with
 |none=>simp
 |some b=>
  simp only[Option.map_some,a2Z]
  have:=b.toNat_lt
  omega
end Go.Proofs
namespace Go.Proofs
open Go Go.Sx
abbrev NO:C6:=C6.all (-3)
namespace C6
def overB (M c:C6):Nat→C6
 |0=>M
 |b+1=>if c.get b=-3 then overB M c b else(overB M c b).set b (c.get b)
def clrB (c:C6):Nat→C6
 |0=>c
 |b+1=>(clrB c b).set b (-3)
theorem clrB_get (c:C6):∀(b j:Nat),b≤6→j<6→(clrB c b).get j=if j<b then -3 else c.get j
 |0,j,_,_=>by simp[clrB]
 |b+1,j,hb,hj=>by
  simp only[clrB]
  rw[get_set (by omega) hj,clrB_get c b j (by omega) hj]
  by_cases h1:j=b
  ·rw[if_pos h1,if_pos (by omega)]
  ·rw[if_neg h1]
   by_cases h2:j<b
   ·rw[if_pos h2,if_pos (by omega)]
   ·rw[if_neg h2,if_neg (by omega)]
theorem clrB_all (c:C6):clrB c 6=NO:=by
 refine ext' fun b hb=>?_
 rw[clrB_get c 6 b (by omega) hb,if_pos hb,get_all hb]
theorem overB_get (M c:C6):∀(b j:Nat),b≤6→j<6→(overB M c b).get j=if j<b∧c.get j≠-3 then c.get j else M.get j
 |0,j,_,_=>by simp[overB]
 |b+1,j,hb,hj=>by
  simp only[overB]
  by_cases h0:c.get b=-3
  ·rw[if_pos h0,overB_get M c b j (by omega) hj]
   by_cases h1:j=b
   ·subst h1;simp[h0]
   ·by_cases h2:j<b
    ·simp[h2,show j<b+1 by omega]
    ·simp[h2,show ¬j<b+1 by omega]
  ·rw[if_neg h0,get_set (by omega) hj,overB_get M c b j (by omega) hj]
   by_cases h1:j=b
   ·subst h1;rw[if_pos rfl,if_pos ⟨by omega,h0⟩]
   ·rw[if_neg h1]
    by_cases h2:j<b
    ·simp[h2,show j<b+1 by omega]
    ·simp[h2,show ¬j<b+1 by omega]
theorem overB_no (M:C6) (b:Nat) (hb:b≤6):overB M NO b=M:=by
 refine ext' fun j hj=>?_
 rw[overB_get M _ b j hb hj,if_neg (fun h=>h.2 (get_all hj))]
theorem set_self {c:C6} {b:Nat} {n:Int} (hb:b<6) (h:c.get b=n):c.set b n=c:=by
 refine ext' fun j hj=>?_
 rw[get_set hb hj]
 split
 ·rename_i h1;rw[h1,h]
 ·rfl
end C6
theorem cntC_no (b:Nat) (hb:b≤6):cntC NO b=0:=by
 induction b with
 |zero=>rfl
 |succ b ih=>rw[cntC_neg (C6.get_all (by omega)),ih (by omega)]
def cntL:List C6→Int
 |[]=>0
 |c :: l=>cntC c 6+cntL l
theorem a2j:∀l m:List C6,cntL (l++m)=cntL l+cntL m
 |[],m=>by simp[cntL]
 |c :: l,m=>by simp only[List.cons_append,cntL,a2j l m];omega
theorem cntL_nonneg:∀l:List C6,0≤cntL l
 |[]=>by simp[cntL]
 |c :: l=>by have:=cntL_nonneg l;have:=cntC_le c 6;simp only[cntL];omega
theorem cntL_filter:∀l:List C6,cntL (l.filter isS)=cntL l
 |[]=>rfl
 |c :: l=>by
  rw[List.filter_cons]
  split
  ·simp only[cntL,cntL_filter l]
  ·rename_i h
   have:c=NO:=a0T.1 (fun hh=>h (a3j.2 hh))
   subst this
   simp only[cntL,cntL_filter l,cntC_no 6 (by omega)]
   omega
def apM (M:C6) (l:List C6):C6:=l.foldl (fun M c=>C6.overB M c 6) M
theorem apM_filter (l:List C6):∀M,apM M (l.filter isS)=apM M l:=by
 induction l with
 |nil=>intro M;rfl
 |cons c l ih=>
  intro M
  rw[List.filter_cons]
  split
  ·exact ih _
  ·rename_i h
   have:c=NO:=a0T.1 (fun hh=>h (a3j.2 hh))
   subst this
   rw[ih]
   show _=apM (C6.overB M NO 6) l
   rw[C6.overB_no M 6 (by omega)]
namespace PS
theorem wr_at (M:C6) (pre:List C6) (c:C6) (post:List C6) (W:Int) (b:Nat) :
  (⟨M,pre++c :: post,W⟩:PS).wr pre.length b=if c.get b=-3 then⟨M,pre++c :: post,W⟩ else⟨M.set b (c.get b),pre++c.set b (-3) :: post,W+1⟩:=by
 have e:(pre++c :: post).getD pre.length NO=c:=by simp[a0A]
 unfold wr ep
 dsimp only
 rw[e]
 split
 ·rfl
 ·simp
theorem wrB_at (M:C6) (pre:List C6) (c:C6) (post:List C6) (W:Int):∀b:Nat,b≤6→
  (⟨M,pre++c :: post,W⟩:PS).wrB pre.length b=⟨C6.overB M c b,pre++C6.clrB c b :: post,W+cntC c b⟩
 |0,_=>by simp[wrB,C6.overB,C6.clrB,cntC]
 |b+1,hb=>by
  simp only[wrB]
  rw[wrB_at M pre c post W b (by omega),wr_at]
  have hg:(C6.clrB c b).get b=c.get b:=by rw[C6.clrB_get c b b (by omega) (by omega),if_neg (by omega)]
  rw[hg]
  by_cases h:c.get b=-3
  ·rw[if_pos h]
   simp only[C6.overB,C6.clrB,if_pos h,cntC_neg h]
   rw[C6.set_self (by omega) (by rw[hg,h])]
  ·rw[if_neg h]
   simp only[C6.overB,C6.clrB,if_neg h,cntC_pos h]
   congr 1
   omega
theorem wrE_at (_post:List C6):∀(n:Nat) (l:List C6),l.length=n→∀(M:C6) (post:List C6) (W:Int),(⟨M,l++post,W⟩:PS).wrE n=⟨apM M l,List.replicate n NO++post,W+cntL l⟩
 |0,l,hl,M,post,W=>by
  have:l=[]:=List.length_eq_zero_iff.1 hl
  subst this
  simp[wrE,apM,cntL]
 |n+1,l,hl,M,post,W=>by
  obtain⟨l',c,rfl⟩:∃l' c,l=l'++[c]:=by
   have hne:l≠[]:=by intro h;subst h;simp at hl
   exact⟨l.dropLast,l.getLast hne,(List.dropLast_concat_getLast hne).symm⟩
  have hl':l'.length=n:=by simpa using hl
  simp only[wrE]
  rw[a2D,List.singleton_append,wrE_at post n l' hl' M (c :: post) W]
  have hr:(List.replicate n NO).length=n:=List.length_replicate
  have:=wrB_at (apM M l') (List.replicate n NO) c post (W+cntL l') 6 (by omega)
  rw[hr] at this
  rw[this,C6.clrB_all]
  have e1:apM M (l'++[c])=C6.overB (apM M l') c 6:=by simp[apM]
  have e2:List.replicate (n+1) NO++post=List.replicate n NO++NO :: post:=by
   rw[List.replicate_succ']
   simp
  rw[e1,e2,a2j]
  simp only[cntL]
  congr 1
  omega
theorem tidy_at (M:C6) (l:List C6) (z:C6) (W:Int):(⟨M,l++[z],W⟩:PS).tidy=⟨M,l.filter isS++[z],W⟩:=by
 unfold tidy ep
 have e:(l++[z]).getD ((l++[z]).length-1) NO=z:=by simp[a0A]
 dsimp only
 rw[e,List.dropLast_concat]
 congr 2
 apply List.filter_congr
 intro c _
 unfold isS isN
 simp
def orderU (s:PS) (n:Int) (o:Int×Int):PS:=
 if o.1=1 then s.put o.2.toNat n
 else if o.1=2 then((s.put o.2.toNat n).wrE (s.E.length-1)).wr (s.E.length-1) o.2.toNat
 else if o.1=3 then⟨s.M,s.E++[NO],s.W⟩
 else if o.1=4 then s.wrE s.E.length
 else s
def drainU (s:PS) (b:Nat):PS:=s.wr (idxC isS s.E).toNat b
theorem put_at (M:C6) (l:List C6) (z:C6) (W:Int) (b:Nat) (n:Int):(⟨M,l++[z],W⟩:PS).put b n=⟨M,l++[z.set b n],W⟩:=by
 unfold put ep
 have e:(l++[z]).getD ((l++[z]).length-1) NO=z:=by simp[a0A]
 dsimp only
 rw[e]
 congr 1
 simp
theorem force_at (M:C6) (l:List C6) (z:C6) (W:Int) (b:Nat):((⟨M,l++[z],W⟩:PS).wrE l.length).wr l.length b =
  if z.get b=-3 then⟨apM M l,List.replicate l.length NO++[z],W+cntL l⟩ else⟨(apM M l).set b (z.get b),List.replicate l.length NO++[z.set b (-3)],W+cntL l+1⟩:=by
 rw[wrE_at [] l.length l rfl M [z] W]
 have:=wr_at (apM M l) (List.replicate l.length NO) z [] (W+cntL l) b
 rw[List.length_replicate] at this
 exact this
theorem flush_at (M:C6) (l:List C6) (z:C6) (W:Int):(⟨M,l++[z],W⟩:PS).wrE (l.length+1)=⟨apM M (l++[z]),List.replicate l.length NO++[NO],W+cntL (l++[z])⟩:=by
 have:=wrE_at [] (l.length+1) (l++[z]) (by simp) M [] W
 rw[List.append_nil] at this
 rw[this,List.append_nil,List.replicate_succ']
theorem filter_no (n:Nat):(List.replicate n NO).filter isS=[]:=by
 rw[List.filter_eq_nil_iff]
 intro c hc
 rw[List.eq_of_mem_replicate hc]
 decide
theorem order_tidy (M:C6) (l:List C6) (z:C6) (W:Int) (n:Int) (o:Int×Int):((⟨M,l++[z],W⟩:PS).orderU n o).tidy=(⟨M,l.filter isS++[z],W⟩:PS).order n o:=by
 have hlen:∀(l:List C6) (z:C6),(l++[z]).length-1=l.length:=by intro l z;simp
 have hlen':∀(l:List C6) (z:C6),(l++[z]).length=l.length+1:=by intro l z;simp
 unfold orderU order
 split
 ·rw[put_at,put_at,tidy_at,tidy_at,List.filter_filter];simp
 split
 ·dsimp only
  rw[hlen,hlen,put_at,put_at,force_at,force_at,apM_filter,cntL_filter]
  split
  ·rw[tidy_at,tidy_at,filter_no,filter_no]
  ·rw[tidy_at,tidy_at,filter_no,filter_no]
 split
 ·have e1:l.filter isS++[z]++[NO]=(l.filter isS++[z])++[NO]:=rfl
  rw[tidy_at,tidy_at,a2J,a2J,List.filter_filter]
  simp
 split
 ·dsimp only
  rw[hlen',hlen',flush_at,flush_at,tidy_at,tidy_at,filter_no,filter_no]
  unfold apM
  rw[List.foldl_append,List.foldl_append]
  have:=apM_filter l M
  unfold apM at this
  rw[this,a2j,a2j,cntL_filter]
 ·rw[tidy_at,tidy_at,List.filter_filter];simp
theorem nil_or (l:List C6):l=[]∨∃p y,l=p++[y]:=by
 by_cases h:l=[]
 ·exact .inl h
 ·exact .inr ⟨l.dropLast,l.getLast h,(List.dropLast_concat_getLast h).symm⟩
theorem split_last (E:List C6) (h:0<E.length):∃l z,E=l++[z]:=by
 have hne:E≠[]:=by intro e;subst e;simp at h
 exact⟨E.dropLast,E.getLast hne,(List.dropLast_concat_getLast hne).symm⟩
theorem first_at {E:List C6} (h:0≤idxC isS E):∃pre c post,E=pre++c :: post∧(∀x∈pre,x=NO)∧c≠NO∧(idxC isS E).toNat=pre.length:=by
 rcases idxC_spec isS E with⟨h1,_⟩|⟨i,h1,h2,h3,h4⟩
 ·omega
 ·have e:E.getD i (C6.all (-3))=E[i]:=by simp[a0A,h2]
  refine⟨E.take i,E[i],E.drop (i+1),?_,fun x hx=>?_,?_,?_⟩
  ·rw[←a2R h2,a2I]
  ·obtain⟨j,hj,rfl⟩:=a1G hx
   simp only[a0V] at hj
   have:=h4 j (by omega)
   rw[List.getElem_take]
   have e2:E.getD j (C6.all (-3))=E[j]:=by simp[a0A,show j<E.length by omega]
   rw[e2] at this
   exact a0T.1 (fun hn=>by rw[a3j.2 hn] at this;cases this)
  ·rw[e] at h3;exact a3j.1 h3
  ·rw[h1];simp;omega
theorem idx_at {pre:List C6} {c:C6} {post:List C6} (h1:∀x∈pre,x=NO) (h2:c≠NO):idxC isS (pre++c :: post)=pre.length:=by
 refine idxC_some (by simp) ?_ fun j hj=>?_
 ·have e:(pre++c :: post).getD pre.length NO=c:=by simp[a0A]
  rw[e];exact a3j.2 h2
 ·have e:(pre++c :: post).getD j NO=pre[j]:=by simp[a0A,a0E hj,hj]
  rw[e,h1 _ (a1F hj)]
  decide
theorem can_at {M:C6} {pre:List C6} {c:C6} {post:List C6} {W:Int} (h1:∀x∈pre,x=NO) (h2:c≠NO) (b:Nat):(⟨M,pre++c :: post,W⟩:PS).can b↔c.get b≠-3:=by
 unfold can ep
 dsimp only
 rw[idx_at h1 h2]
 have e:(pre++c :: post).getD pre.length NO=c:=by simp[a0A]
 simp only[a1N]
 rw[show(C6.all (-3))=NO from rfl,e]
 exact⟨fun h=>h.2,fun h=>⟨by omega,h⟩⟩
theorem drainU_at {M:C6} {pre:List C6} {c:C6} {post:List C6} {W:Int} (h1:∀x∈pre,x=NO) (h2:c≠NO) {b:Nat} (h3:c.get b≠-3) :
  (⟨M,pre++c :: post,W⟩:PS).drainU b=⟨M.set b (c.get b),pre++c.set b (-3) :: post,W+1⟩:=by
 unfold drainU
 dsimp only
 rw[idx_at h1 h2,a1N,wr_at,if_neg h3]
theorem filter_pre {pre:List C6} (h:∀x∈pre,x=NO):pre.filter isS=[]:=by
 rw[List.filter_eq_nil_iff]
 intro c hc
 rw[h c hc]
 decide
theorem can_tidy (s:PS) (h:0<s.E.length) (b:Nat):s.tidy.can b↔s.can b:=by
 obtain⟨M,E,W⟩:=s
 obtain⟨l,z,rfl⟩:=split_last E h
 rw[tidy_at]
 by_cases hz:0≤idxC isS (l++[z])
 ·obtain⟨pre,c,post,e,h1,h2,_⟩:=first_at hz
  rw[show(⟨M,l++[z],W⟩:PS)=⟨M,pre++c :: post,W⟩ by rw[e],can_at h1 h2]
  rcases nil_or post with rfl|⟨post',y,rfl⟩
  ·have e2:=List.append_inj' e rfl
   obtain⟨rfl,e3⟩:=e2
   cases e3
   rw[filter_pre h1]
   exact can_at (pre:=[]) (post:=[]) (by simp) h2 b
  ·have e':l++[z]=(pre++c :: post')++[y]:=by rw[e];simp
   have e2:=List.append_inj' e' rfl
   obtain⟨rfl,e3⟩:=e2
   cases e3
   rw[a2J,filter_pre h1,List.filter_cons_of_pos (a3j.2 h2)]
   exact can_at (pre:=[]) (post:=List.filter isS post'++[z]) (by simp) h2 b
 ·have hz':idxC isS (l++[z])=-1:=by
   rcases idxC_spec isS (l++[z]) with⟨h1,_⟩|⟨i,h1,_⟩
   ·exact h1
   ·omega
  have hall:∀x∈l++[z],x=NO:=by
   rcases idxC_spec isS (l++[z]) with⟨_,h2⟩|⟨i,h1,_⟩
   ·intro x hx
    obtain⟨j,hj,rfl⟩:=a1G hx
    have:=h2 j hj
    rw[show(l++[z]).getD j (C6.all (-3))=(l++[z])[j] by rw[a0A,a0D hj];rfl] at this
    exact a0T.1 (fun hn=>by rw[a3j.2 hn] at this;cases this)
   ·omega
  have hl:l.filter isS=[]:=filter_pre fun x hx=>hall x (by simp[hx])
  rw[hl]
  have hzn:z=NO:=hall z (by simp)
  have e1:idxC isS ([]++[z])=-1:=by
   subst hzn
   exact idxC_none (fun j hj=>by(have:j=0:=by simp at hj;omega);subst this;decide)
  unfold can
  dsimp only
  rw[e1,hz']
  exact⟨fun h=>absurd h.1 (by omega),fun h=>absurd h.1 (by omega)⟩
theorem drain_tidy (s:PS) (h:0<s.E.length) {b:Nat} (hc:s.can b):(s.drainU b).tidy=s.tidy.drain b:=by
 obtain⟨M,E,W⟩:=s
 obtain⟨l,z,rfl⟩:=split_last E h
 have hz:0≤idxC isS (l++[z]):=hc.1
 obtain⟨pre,c,post,e,h1,h2,_⟩:=first_at hz
 have hcb:c.get b≠-3:=by
  rw[show(⟨M,l++[z],W⟩:PS)=⟨M,pre++c :: post,W⟩ by rw[e],can_at h1 h2] at hc
  exact hc
 rw[tidy_at]
 rw[show(⟨M,l++[z],W⟩:PS)=⟨M,pre++c :: post,W⟩ by rw[e],drainU_at h1 h2 hcb]
 have dr:∀s:PS,s.drain b=(s.drainU b).tidy:=fun _=>rfl
 rw[dr]
 rcases nil_or post with rfl|⟨post',y,rfl⟩
 ·have e2:=List.append_inj' e rfl
  obtain⟨rfl,e3⟩:=e2
  cases e3
  rw[filter_pre h1,drainU_at (pre:=[]) (post:=[]) (by simp) h2 hcb,tidy_at,filter_pre h1]
  have:=tidy_at (M.set b (z.get b)) [] (z.set b (-3)) (W+1)
  exact this.symm
 ·have e':l++[z]=(pre++c :: post')++[y]:=by rw[e];simp
  have e2:=List.append_inj' e' rfl
  obtain⟨rfl,e3⟩:=e2
  cases e3
  rw[a2J,filter_pre h1,List.filter_cons_of_pos (a3j.2 h2),List.nil_append]
  have q1:=drainU_at (M:=M) (W:=W) (pre:=[]) (post:=List.filter isS post'++[z]) (by simp) h2 hcb
  rw[show(c :: List.filter isS post')++[z]=[]++c :: (List.filter isS post'++[z]) by simp,q1]
  have q2:=tidy_at (M.set b (c.get b)) (pre++c.set b (-3) :: post') z (W+1)
  have q3:=tidy_at (M.set b (c.get b)) (c.set b (-3) :: List.filter isS post') z (W+1)
  rw[show pre++c.set b (-3) :: (post'++[z])=(pre++c.set b (-3) :: post')++[z] by simp]
  rw[q2,show []++c.set b (-3) :: (List.filter isS post'++[z])=(c.set b (-3) :: List.filter isS post')++[z] by simp,q3]
  rw[a2J,filter_pre h1,List.nil_append,List.filter_cons,List.filter_cons,List.filter_filter]
  simp
end PS
end Go.Proofs
namespace Go.Proofs
open Go Go.Sx
inductive RchU (x:Cache):Nat→PS→List (Int×Int)→Prop
 |begin:RchU x 0 PS.begin []
 |drain {k:Nat} {u:PS} {D:List (Int×Int)} {b:Nat}:RchU x k u D→(b:Int)<x.n→u.can b→RchU x k (u.drainU b) (D++[((k:Int),(b:Int))])
 |order {k:Nat} {u:PS} {D:List (Int×Int)}:RchU x k u D→k<x.l.length→RchU x (k+1) (u.orderU k (x.l.getD k (0,0))) D
def nb (x:Cache):Nat→Nat
 |0=>0
 |k+1=>nb x k+if(x.l.getD k (0,0)).1=3 then 1 else 0
theorem nb_le (x:Cache):∀k,nb x k≤k
 |0=>by simp[nb]
 |k+1=>by have:=nb_le x k;simp only[nb];split<;>omega
def putQ (x:Cache) (q b:Nat):Prop:=((x.l.getD q (0,0)).1=1∨(x.l.getD q (0,0)).1=2)∧(x.l.getD q (0,0)).2=b
def CP (x:Cache) (K e b:Nat) (v:Int):Prop:=v=-3∨∃q:Nat,q<K∧v=q∧putQ x q b∧nb x q=e
def MP (x:Cache) (K b:Nat) (v:Int):Prop:=v=-1∨∃q:Nat,q<K∧v=q∧putQ x q b
structure InvC (x:Cache) (K:Nat) (u:PS):Prop where
 cell:∀e b,b<6→CP x K e b ((u.ep e).get b)
 med:∀b,b<6→MP x K b (u.M.get b)
theorem InvC.mono {x:Cache} {K K':Nat} {u:PS} (h:InvC x K u) (hk:K≤K'):InvC x K' u:=
 ⟨fun e b hb=>(h.cell e b hb).imp id fun⟨q,h1,h2⟩=>⟨q,by omega,h2⟩,fun b hb=>(h.med b hb).imp id fun⟨q,h1,h2⟩=>⟨q,by omega,h2⟩⟩
theorem ep_set {E:List C6} {e e':Nat} {c:C6}:(E.set e c).getD e' NO=if e'=e∧e<E.length then c else E.getD e' NO:=by
 simp only[a0A,a0H]
 by_cases h:e=e'
 ·subst h
  by_cases h2:e<E.length
  ·simp[h2]
  ·simp[h2]
 ·rw[if_neg h,if_neg (fun g=>h g.1.symm)]
theorem InvC.wr {x:Cache} {K:Nat} {u:PS} (h:InvC x K u) (e b:Nat) (hb:b<6):InvC x K (u.wr e b):=by
 by_cases hc:(u.ep e).get b=-3
 ·rw[PS.wr_neg hc];exact h
 ·rw[PS.wr_pos hc]
  refine⟨fun e' b' hb'=>?_,fun b' hb'=>?_⟩
  ·show CP x K e' b' (((u.E.set e _).getD e' NO).get b')
   rw[ep_set]
   split
   ·rename_i he
    rw[C6.get_set hb hb']
    split
    ·exact .inl rfl
    ·rw[he.1]
     exact h.cell e b' hb'
   ·exact h.cell e' b' hb'
  ·show MP x K b' ((u.M.set b _).get b')
   rw[C6.get_set hb hb']
   split
   ·rename_i hbb
    subst hbb
    rcases h.cell e b' hb with h1|⟨q,h1,h2,h3,_⟩
    ·exact absurd h1 hc
    ·exact .inr ⟨q,h1,h2,h3⟩
   ·exact h.med b' hb'
theorem InvC.wrB {x:Cache} {K:Nat} {u:PS} (h:InvC x K u) (e:Nat):∀b,b≤6→InvC x K (u.wrB e b)
 |0,_=>h
 |b+1,hb=>(InvC.wrB h e b (by omega)).wr e b (by omega)
theorem InvC.wrE {x:Cache} {K:Nat} {u:PS} (h:InvC x K u):∀e,InvC x K (u.wrE e)
 |0=>h
 |e+1=>(InvC.wrE h e).wrB e 6 (by omega)
theorem InvC.put {x:Cache} {k:Nat} {u:PS} (h:InvC x k u) (hl:u.E.length=nb x k+1) {b:Nat} (hb:b<6) (hp:putQ x k b):InvC x (k+1) (u.put b k):=by
 have h:=h.mono (Nat.le_succ k)
 refine⟨fun e' b' hb'=>?_,h.med⟩
 show CP x (k+1) e' b' (((u.E.set (u.E.length-1) _).getD e' NO).get b')
 rw[ep_set]
 split
 ·rename_i he
  rw[C6.get_set hb hb']
  split
  ·rename_i hbb
   subst hbb
   exact .inr ⟨k,by omega,rfl,hp,by omega⟩
  ·rw[he.1]
   exact h.cell _ b' hb'
 ·exact h.cell e' b' hb'
def oneE (n:Int):Int:=if n=-3 then 0 else 1
theorem one_le (n:Int):0≤oneE n∧oneE n≤1:=by unfold oneE;split<;>omega
theorem one_no:oneE (-3)=0:=rfl
theorem one_pos {n:Int} (h:n≠-3):oneE n=1:=if_neg h
theorem cntC_succ (c:C6) (b:Nat):cntC c (b+1)=cntC c b+oneE (c.get b):=rfl
theorem cntC_set0 {c:C6} {b:Nat} (hb:b<6) (n:Int):∀j,j≤b→cntC (c.set b n) j=cntC c j
 |0,_=>rfl
 |j+1,hj=>by rw[cntC_succ,cntC_succ,cntC_set0 hb n j (by omega),C6.get_set hb (by omega),if_neg (by omega)]
theorem cntC_set {c:C6} {b:Nat} (hb:b<6) (n:Int):∀j,b<j→j≤6→cntC (c.set b n) j=cntC c j+oneE n-oneE (c.get b)
 |0,h,_=>by omega
 |j+1,h,hj=>by
  rw[cntC_succ,cntC_succ,C6.get_set hb (by omega)]
  by_cases h1:j=b
  ·subst h1
   rw[if_pos rfl,cntC_set0 hb n j (by omega)]
   omega
  ·rw[if_neg h1,cntC_set hb n j (by omega) (by omega)]
   omega
theorem cntL_set {E:List C6} {e:Nat} (he:e<E.length) (c:C6):cntL (E.set e c)=cntL E+cntC c 6-cntC (E.getD e NO) 6:=by
 have h1:E=E.take e++E[e] :: E.drop (e+1):=by rw[←a2R he,a2I]
 have h2:E.set e c=E.take e++c :: E.drop (e+1):=by rw[List.set_eq_take_append_cons_drop,if_pos he]
 have h3:E.getD e NO=E[e]:=by simp[a0A,he]
 rw[h2,h3]
 have h4:=congrArg cntL h1
 rw[a2j] at h4 ⊢
 simp only[cntL] at h4 ⊢
 omega
theorem cntL_set' {E:List C6} {e:Nat} (he:e<E.length) (c:C6):cntL (E.set e c)=cntL E+cntC c 6-cntC (E.getD e (C6.all (-3))) 6:=cntL_set he c
def PS.tot (u:PS):Int:=u.W+cntL u.E
theorem PS.tot_wr (u:PS) (e b:Nat) (hb:b<6):(u.wr e b).tot=u.tot:=by
 by_cases hc:(u.ep e).get b=-3
 ·rw[PS.wr_neg hc]
 ·rw[PS.wr_pos hc]
  have he:e<u.E.length:=by
   refine a1E fun hn=>hc ?_
   unfold PS.ep
   rw[a0A,a0P (by omega)]
   exact C6.get_all hb
  unfold PS.tot
  dsimp only
  rw[cntL_set' he,cntC_set hb _ 6 hb (by omega)]
  unfold PS.ep at hc ⊢
  rw[one_no,one_pos hc]
  omega
theorem PS.tot_wrB (u:PS) (e:Nat):∀b,b≤6→(u.wrB e b).tot=u.tot
 |0,_=>rfl
 |b+1,hb=>by simp only[PS.wrB];rw[PS.tot_wr _ _ _ (by omega),PS.tot_wrB u e b (by omega)]
theorem PS.tot_wrE (u:PS):∀e,(u.wrE e).tot=u.tot
 |0=>rfl
 |e+1=>by simp only[PS.wrE];rw[PS.tot_wrB _ _ _ (by omega),PS.tot_wrE u e]
theorem PS.tot_put (u:PS) (h:0<u.E.length) (b:Nat) (hb:b<6) (n:Int):u.tot≤(u.put b n).tot+1∧(u.put b n).tot≤u.tot+1:=by
 unfold PS.tot PS.put
 dsimp only
 rw[cntL_set' (by omega),cntC_set hb _ 6 hb (by omega)]
 unfold PS.ep
 have h1:=one_le n
 have h2:=one_le ((u.E.getD (u.E.length-1) (C6.all (-3))).get b)
 omega
structure InvU (x:Cache) (k:Nat) (u:PS) (D:List (Int×Int)):Prop where
 inv:InvC x k u
 len:u.E.length=nb x k+1
 tot:u.tot≤k
 D:(D.length:Int)≤u.W
theorem PS.orderU_len (u:PS) (n:Int) (o:Int×Int):(u.orderU n o).E.length=u.E.length+if o.1=3 then 1 else 0:=by
 unfold PS.orderU
 split
 ·rename_i h;rw[PS.put_len,if_neg (by omega)];rfl
 split
 ·rename_i h;rw[PS.wr_len,PS.wrE_len,PS.put_len,if_neg (by omega)];rfl
 split
 ·rename_i h;simp
 split
 ·rw[PS.wrE_len];rfl
 ·rfl
theorem PS.wr_Wle (u:PS) (e b:Nat):u.W≤(u.wr e b).W:=(PS.wr_W u e b).1
theorem RchU.inv {x:Cache} (hx:x.Ok) {k:Nat} {u:PS} {D:List (Int×Int)} (h:RchU x k u D):InvU x k u D:=by
 induction h with
 |begin=>
  refine⟨⟨fun e b hb=>.inl ?_,fun b hb=>.inl (C6.get_all hb)⟩,rfl,by decide,by decide⟩
  unfold PS.ep PS.begin
  cases e with
  |zero=>exact C6.get_all hb
  |succ e=>exact C6.get_all hb
 |@drain k u D b hr hb hcan ih=>
  have hb6:b<6:=by have:=hx.n;omega
  refine⟨ih.inv.wr _ _ hb6,by unfold PS.drainU;rw[PS.wr_len];exact ih.len,by unfold PS.drainU;rw[PS.tot_wr _ _ _ hb6];exact ih.tot,?_⟩
  have hW:(u.drainU b).W=u.W+1:=by unfold PS.drainU;rw[PS.wr_pos hcan.2]
  have:=ih.D
  rw[hW]
  simp
  omega
 |@order k u D hr hk ih=>
  have hblk:=hx.blk hk
  have hlen:(u.orderU k (x.l.getD k (0,0))).E.length=nb x (k+1)+1:=by rw[PS.orderU_len,ih.len];simp only[nb];omega
  have hpos:0<u.E.length:=by rw[ih.len];omega
  have ho:(x.l.getD k (0,0)).1=1∨(x.l.getD k (0,0)).1=2→putQ x k (x.l.getD k (0,0)).2.toNat:=fun g=>⟨g,by have:=hblk g;omega⟩
  have hWt:=ih.tot
  have hD:=ih.D
  refine⟨?_,hlen,?_,?_⟩
  ·unfold PS.orderU
   split
   ·rename_i h1;exact ih.inv.put ih.len (by have:=hblk (.inl h1);omega) (ho (.inl h1))
   split
   ·rename_i h1
    have hb6:(x.l.getD k (0,0)).2.toNat<6:=by have:=hblk (.inr h1);omega
    exact((ih.inv.put ih.len hb6 (ho (.inr h1))).wrE _).wr _ _ hb6
   split
   ·have:=ih.inv.mono (Nat.le_succ k)
    refine⟨fun e b hb=>?_,this.med⟩
    show CP x (k+1) e b (((u.E++[NO]).getD e NO).get b)
    rcases a1B e u.E.length with g|g
    ·have e1:(u.E++[NO]).getD e NO=u.E.getD e NO:=by simp only[a0A,a0E g]
     rw[e1]
     exact this.cell e b hb
    ·left
     have e1:(u.E++[NO]).getD e NO=NO:=by
      simp only[a0A,a0R g]
      cases e-u.E.length<;>simp
     rw[e1]
     exact C6.get_all hb
   split
   ·exact(ih.inv.mono (Nat.le_succ k)).wrE _
   ·exact ih.inv.mono (Nat.le_succ k)
  ·unfold PS.orderU
   split
   ·rename_i h1
    have:=(PS.tot_put u hpos (x.l.getD k (0,0)).2.toNat (by have:=hblk (.inl h1);omega) k).2
    omega
   split
   ·rename_i h1
    have hb6:(x.l.getD k (0,0)).2.toNat<6:=by have:=hblk (.inr h1);omega
    rw[PS.tot_wr _ _ _ hb6,PS.tot_wrE]
    have:=(PS.tot_put u hpos (x.l.getD k (0,0)).2.toNat hb6 k).2
    omega
   split
   ·show u.W+cntL (u.E++[NO])≤_
    rw[a2j]
    simp only[cntL,cntC_no 6 (by omega)]
    unfold PS.tot at hWt
    omega
   split
   ·rw[PS.tot_wrE];omega
   ·omega
  ·refine Int.le_trans hD ?_
   unfold PS.orderU
   split
   ·exact Int.le_refl _
   split
   ·exact Int.le_trans (PS.wrE_W (u.put (x.l.getD k (0,0)).2.toNat k) (u.E.length-1)).1 (PS.wr_Wle _ _ _)
   split
   ·exact Int.le_refl _
   split
   ·exact(PS.wrE_W u u.E.length).1
   ·exact Int.le_refl _
theorem begin_tidy:PS.begin.tidy=PS.begin:=PS.tidy_at (C6.all (-1)) [] NO 0
theorem PS.orderU_tidy (u:PS) (h:0<u.E.length) (n:Int) (o:Int×Int):(u.orderU n o).tidy=u.tidy.order n o:=by
 obtain⟨M,E,W⟩:=u
 obtain⟨l,z,rfl⟩:=PS.split_last E h
 rw[PS.order_tidy,PS.tidy_at]
theorem rch_u {x:Cache} (hx:x.Ok) {k:Nat} {s:PS} {D:List (Int×Int)} (h:Rch x k s D):∃u,RchU x k u D∧s=u.tidy:=by
 induction h with
 |begin=>exact⟨_,.begin,begin_tidy.symm⟩
 |@drain k s D b hr hb hcan ih=>
  obtain⟨u,h1,rfl⟩:=ih
  have hl:0<u.E.length:=by rw[(h1.inv hx).len];omega
  have hc:=(PS.can_tidy u hl b).1 hcan
  exact⟨_,.drain h1 hb hc,(PS.drain_tidy u hl hc).symm⟩
 |@order k s D hr hk ih=>
  obtain⟨u,h1,rfl⟩:=ih
  have hl:0<u.E.length:=by rw[(h1.inv hx).len];omega
  exact⟨_,.order h1 hk,(PS.orderU_tidy u hl _ _).symm⟩
theorem u_rch {x:Cache} (hx:x.Ok) {k:Nat} {u:PS} {D:List (Int×Int)} (h:RchU x k u D):Rch x k u.tidy D:=by
 induction h with
 |begin=>rw[begin_tidy];exact .begin
 |@drain k u D b hr hb hcan ih=>
  have hl:0<u.E.length:=by rw[(hr.inv hx).len];omega
  rw[PS.drain_tidy u hl hcan]
  exact .drain ih hb ((PS.can_tidy u hl b).2 hcan)
 |@order k u D hr hk ih=>
  have hl:0<u.E.length:=by rw[(hr.inv hx).len];omega
  rw[PS.orderU_tidy u hl]
  exact .order ih hk
theorem RchU.le {x:Cache} {k:Nat} {u:PS} {D:List (Int×Int)} (h:RchU x k u D):k≤x.l.length:=by
 induction h with
 |begin=>omega
 |drain _ _ _ ih=>exact ih
 |order _ hk _=>omega
theorem rch_good {x:Cache} (hx:x.Ok) (k:Nat) (s:PS) (D:List (Int×Int)) (h:Rch x k s D):(⟨s,D⟩:Trip).Good x k:=by
 obtain⟨u,h1,rfl⟩:=rch_u hx h
 have hi:=h1.inv hx
 have hk:=h1.le
 have h16:=hx.len
 have ht:=PS.tot_wrE u 0
 have hl:=tidy_len u
 have hnb:=nb_le x k
 have hle:=hi.len
 have htot:=hi.tot
 have hD:=hi.D
 unfold PS.tot at htot
 have hcn:=cntL_nonneg u.E
 refine⟨h,⟨hl.2,by dsimp only;omega,?_⟩,by dsimp only;omega,?_,by dsimp only;omega⟩
 ·show 0≤u.W∧u.W≤_;omega
 ·show u.W≤_;omega
end Go.Proofs
namespace Go.Proofs
open Go Go.Sx
def bitQ (x:Cache) (u:PS) (q:Nat):Nat:=if(u.ep (nb x q)).get (x.l.getD q (0,0)).2.toNat=q then 1 else 0
def medQ (u:PS) (b:Nat):Nat:=(u.M.get b+1).toNat
def codeU (x:Cache) (u:PS):Nat:=
 medQ u 0+8*medQ u 1+64*medQ u 2+512*bitQ x u 0+1024*bitQ x u 1+2048*bitQ x u 2+4096*bitQ x u 3+8192*bitQ x u 4+16384*bitQ x u 5+32768*bitQ x u 6
theorem a2c (x:Cache) (u:PS) (q:Nat):bitQ x u q≤1:=by unfold bitQ;split<;>omega
theorem medQ_le {x:Cache} (hx7:x.l.length≤7) {k:Nat} (hk:k≤x.l.length) {u:PS} (h:InvC x k u) {b:Nat} (hb:b<6):medQ u b≤7∧u.M.get b=(medQ u b:Int)-1:=by
 unfold medQ
 rcases h.med b hb with h1|⟨q,h1,h2,_⟩<;>omega
theorem med_hi {x:Cache} (hx:x.Ok) (hx3:x.n≤3) {k:Nat} (hk:k≤x.l.length) {u:PS} (h:InvC x k u) {b:Nat} (hb:b<6) (h3:3≤b):u.M.get b=-1:=by
 rcases h.med b hb with h1|⟨q,h1,_,h2,h4⟩
 ·exact h1
 ·have hq:q<x.l.length:=by omega
  have e:x.l.getD q (0,0)=x.l[q]:=by simp[a0A,hq]
  have:=hx.ord x.l[q] (a1F hq)
  rw[e] at h2 h4
  unfold Cache.OkO at this
  omega
theorem code_inj {x:Cache} (hx:x.Ok) (hx3:x.n≤3) (hx7:x.l.length≤7) {k:Nat} (hk:k≤x.l.length) {u v:PS} {D D':List (Int×Int)} (hu:InvU x k u D) (hv:InvU x k v D') (h:codeU x u=codeU x v):u.same v:=by
 have m0:=medQ_le hx7 hk hu.inv (b:=0) (by omega)
 have m1:=medQ_le hx7 hk hu.inv (b:=1) (by omega)
 have m2:=medQ_le hx7 hk hu.inv (b:=2) (by omega)
 have n0:=medQ_le hx7 hk hv.inv (b:=0) (by omega)
 have n1:=medQ_le hx7 hk hv.inv (b:=1) (by omega)
 have n2:=medQ_le hx7 hk hv.inv (b:=2) (by omega)
 have key:medQ u 0=medQ v 0∧medQ u 1=medQ v 1∧medQ u 2=medQ v 2∧∀q,q<7→bitQ x u q=bitQ x v q:=by
  have b0:=a2c x u 0;have b1:=a2c x u 1;have b2:=a2c x u 2;have b3:=a2c x u 3;have b4:=a2c x u 4;have b5:=a2c x u 5;have b6:=a2c x u 6
  have c0:=a2c x v 0;have c1:=a2c x v 1;have c2:=a2c x v 2;have c3:=a2c x v 3;have c4:=a2c x v 4;have c5:=a2c x v 5;have c6:=a2c x v 6
  unfold codeU at h
  have a0:medQ u 0=medQ v 0:=by omega
  have a1:medQ u 1=medQ v 1:=by omega
  have a2:medQ u 2=medQ v 2:=by omega
  have d0:bitQ x u 0=bitQ x v 0:=by omega
  have d1:bitQ x u 1=bitQ x v 1:=by omega
  have d2:bitQ x u 2=bitQ x v 2:=by omega
  have d3:bitQ x u 3=bitQ x v 3:=by omega
  have d4:bitQ x u 4=bitQ x v 4:=by omega
  have d5:bitQ x u 5=bitQ x v 5:=by omega
  have d6:bitQ x u 6=bitQ x v 6:=by omega
  refine⟨a0,a1,a2,fun q hq=>?_⟩
  have:q=0∨q=1∨q=2∨q=3∨q=4∨q=5∨q=6:=by omega
  rcases this with rfl|rfl|rfl|rfl|rfl|rfl|rfl<;>assumption
 obtain⟨k0,k1,k2,kq⟩:=key
 have cellEq:∀(u v:PS),InvC x k u→(∀q,q<7→bitQ x u q=bitQ x v q)→∀e b,b<6→(u.ep e).get b≠-3→(v.ep e).get b=(u.ep e).get b:=by
  intro u v hi hq e b hb hne
  rcases hi.cell e b hb with h1|⟨q,h1,h2,⟨_,h3⟩,h4⟩
  ·exact absurd h1 hne
  ·have h5:=hq q (by omega)
   unfold bitQ at h5
   rw[h4,h3,a1N,if_pos h2] at h5
   split at h5
   ·rename_i h6;rw[h6,h2]
   ·cases h5
 refine⟨C6.ext' fun b hb=>?_,a1U (by rw[hu.len,hv.len]) fun e g1 g2=>C6.ext' fun b hb=>?_⟩
 ·have:b=0∨b=1∨b=2∨3≤b:=by omega
  rcases this with rfl|rfl|rfl|h3
  ·rw[m0.2,n0.2,k0]
  ·rw[m1.2,n1.2,k1]
  ·rw[m2.2,n2.2,k2]
  ·rw[med_hi hx hx3 hk hu.inv hb h3,med_hi hx hx3 hk hv.inv hb h3]
 ·have e1:u.ep e=u.E[e]:=by unfold PS.ep;simp[List.getD_eq_getElem?_getD,g1]
  have e2:v.ep e=v.E[e]:=by unfold PS.ep;simp[List.getD_eq_getElem?_getD,g2]
  rw[←e1,←e2]
  by_cases h1:(u.ep e).get b=-3
  ·by_cases h2:(v.ep e).get b=-3
   ·rw[h1,h2]
   ·exact cellEq v u hv.inv (fun q hq=>(kq q hq).symm) e b hb h2
  ·exact(cellEq u v hu.inv kq e b hb h1).symm
theorem code_lt {x:Cache} (hx7:x.l.length≤7) {k:Nat} (hk:k≤x.l.length) {u:PS} (h:InvC x k u):codeU x u<65536:=by
 have m0:=medQ_le hx7 hk h (b:=0) (by omega)
 have m1:=medQ_le hx7 hk h (b:=1) (by omega)
 have m2:=medQ_le hx7 hk h (b:=2) (by omega)
 have b0:=a2c x u 0;have b1:=a2c x u 1;have b2:=a2c x u 2;have b3:=a2c x u 3;have b4:=a2c x u 4;have b5:=a2c x u 5;have b6:=a2c x u 6
 unfold codeU
 omega
open Classical in
noncomputable def uOf (x:Cache) (k:Nat) (t:Trip):PS:=if h:∃u,RchU x k u t.D∧t.s=u.tidy then h.choose else PS.begin
theorem uOf_spec {x:Cache} (hx:x.Ok) {k:Nat} {t:Trip} (h:t.Good x k):RchU x k (uOf x k t) t.D∧t.s=(uOf x k t).tidy:=by
 have he:∃u,RchU x k u t.D∧t.s=u.tidy:=rch_u hx h.r
 unfold uOf
 rw[dif_pos he]
 exact he.choose_spec
theorem rch_cap {x:Cache} (hx:x.Ok) (hx3:x.n≤3) (hx7:x.l.length≤7) (k:Nat) (l:List Trip) (hl:∀t∈l,t.Good x k) (hn:(l.map Trip.sh).Nodup):l.length≤65536:=by
 have h1:(l.map fun t=>codeU x (uOf x k t)).Nodup:=by
  rw[List.Nodup,a1P] at hn ⊢
  refine a3H ?_ hn
  intro a b ha hb hne hc
  have ga:=uOf_spec hx (hl a ha)
  have gb:=uOf_spec hx (hl b hb)
  have hs:=code_inj hx hx3 hx7 ga.1.le (ga.1.inv hx) (gb.1.inv hx) hc
  refine hne ?_
  show shS a.s=shS b.s
  rw[ga.2,gb.2]
  exact hs.tidy.shS
 have:=a1p (m:=List.range 65536) h1 (fun c hc=>by
  obtain⟨t,ht,rfl⟩:=a1C.1 hc
  have g:=uOf_spec hx (hl t ht)
  exact a1D.2 (code_lt hx7 g.1.le (g.1.inv hx).inv))
 simpa using this
end Go.Proofs
namespace Go.Proofs
open Go Go.Sx
structure Cache.Small (x:Cache):Prop where
 ok:x.Ok
 n:x.n≤3
 l:x.l.length≤7
def PosI (x:Cache) (h:C6):Prop:=∃im,ImgOk x im∧im.h=h
theorem Imgs.pos {x:Cache} (hx:x.Ok) {L:List Img} (h:Imgs x L) (c:C6):(∃im∈L,im.h=c)↔PosI x c:=by
 constructor
 ·rintro⟨im,h1,rfl⟩
  exact⟨im,h.ok im h1,rfl⟩
 ·rintro⟨im,h1,rfl⟩
  rcases h1 with⟨_,h2,h3⟩|⟨_,s,D,b,h2,h3,h4,h5,_⟩
  ·rw[h3];exact(h.all _ _ h2).1
  ·rw[h5];exact(h.all _ _ h2).2 b (by have:=hx.n;omega) h3 h4
def PosV (x:Cache) (b:Nat) (n:Int):Prop:=∃c,PosI x c∧c.get b=n
end Go.Proofs
namespace Go.Proofs
open Go Go.Sx
def okAt (x:Cache) (b:Nat) (n:Int):Prop:=n=-1∨n=-2∨(0≤n∧n≤x.l.length-1)∧((x.l.getD n.toNat (0,0)).1=1∨(x.l.getD n.toNat (0,0)).1=2)∧(x.l.getD n.toNat (0,0)).2=b
def IsImg (x:Cache) (l:List Int):Prop:=(l.length:Int)=x.n∧∀b,b<l.length→okAt x b (l.getD b 0)
def Eqs (c:C6) (l:List Int):Prop:=∀b,b<l.length→c.get b=l.getD b 0
def zI:V:=.agg [.lit (.pointer none),.lit (.slice none 0 0),.int .i64 0,.int .i64 0,.int .i64 0,.int .i64 0,.int .i64 0,.int .i64 0,.prop False inferInstance]
inductive Found (x:Cache) (l:List Int):V→Prop
 |chk:x.chk≠0→Found x l (.tup [zI,.kb false,.int .i64 x.chk])
 |img:x.chk=0→¬IsImg x l→Found x l (.tup [zI,.kb false,.int .i64 81])
 |none:x.chk=0→IsImg x l→(¬∃c,PosI x c∧Eqs c l)→Found x l (.tup [zI,.kb false,.int .i64 0])
 |some (im:Img):x.chk=0→IsImg x l→ImgOk x im→Eqs im.h l→Found x l (.tup [.agg (imC im),.kb true,.int .i64 0])
end Go.Proofs
namespace Go.Proofs
open Go Go.Sx
def IsPos (x:Cache) (l:List Int):Prop:=∃c,PosI x c∧Eqs c l
inductive PosR (x:Cache) (l:List Int):V→Prop
 |chk:x.chk≠0→PosR x l (.tup [.prop False inferInstance,.int .i64 x.chk])
 |img:x.chk=0→¬IsImg x l→PosR x l (.tup [.prop False inferInstance,.int .i64 81])
 |pos:x.chk=0→IsImg x l→PosR x l (.tup [.prop (IsPos x l) (Classical.propDecidable _),.int .i64 0])
theorem ImgOk.pos {x:Cache} {im:Img} (h:ImgOk x im):PosI x im.h:=⟨im,h,rfl⟩
inductive ShowR (x:Cache) (l:List Int):V→Prop
 |chk:x.chk≠0→ShowR x l (.tup [.lit (.slice none 0 0),.prop False inferInstance,.int .i64 x.chk])
 |img:x.chk=0→¬IsImg x l→ShowR x l (.tup [.lit (.slice none 0 0),.prop False inferInstance,.int .i64 81])
 |no:x.chk=0→IsImg x l→¬IsPos x l→ShowR x l (.tup [.lit (.slice none 0 0),.prop False inferInstance,.int .i64 3])
 |yes (im:Img):x.chk=0→IsImg x l→ImgOk x im→Eqs im.h l→ShowR x l (.tup [drV im.t.D,.prop (im.torn=true) inferInstance,.int .i64 0])
end Go.Proofs
namespace Go.Proofs
open Go Go.Sx
end Go.Proofs
namespace Go.Proofs
open Go Go.Sx
theorem Cache.at {x:Cache} {i:Nat} (h:i<x.l.length):x.l.getD i (0,0)∈x.l:=by
 have e:x.l.getD i (0,0)=x.l[i]:=by simp[a0A,h]
 rw[e]
 exact a1F h
end Go.Proofs
namespace Go.Proofs
open Go Go.Sx
namespace PS
theorem ep_lt {u:PS} {e b:Nat} (hb:b<6) (h:(u.ep e).get b≠-3):e<u.E.length:=by
 refine a1E fun hn=>h ?_
 unfold PS.ep
 rw[a0A,a0P (by omega)]
 exact C6.get_all hb
theorem ep_ne {u:PS} {e b:Nat} (hb:b<6) (h:(u.ep e).get b≠-3):u.ep e≠NO:=by
 intro h2
 rw[h2] at h
 exact h (C6.get_all hb)
theorem wr_ep (u:PS) {e b:Nat} (h:(u.ep e).get b≠-3) (hb:b<6) (e':Nat):(u.wr e b).ep e'=if e'=e then(u.ep e).set b (-3) else u.ep e':=by
 have hl:=ep_lt hb h
 rw[wr_pos h]
 show(u.E.set e _).getD e' NO=_
 rw[ep_set]
 by_cases h2:e'=e
 ·rw[if_pos ⟨h2,hl⟩,if_pos h2]
 ·rw[if_neg (fun g=>h2 g.1),if_neg h2];rfl
theorem wr_other (u:PS) (e b:Nat) (hb:b<6) {e':Nat} (h:e'≠e):(u.wr e b).ep e'=u.ep e':=by
 by_cases hc:(u.ep e).get b=-3
 ·rw[wr_neg hc]
 ·rw[wr_ep u hc hb,if_neg h]
theorem idx_of {u:PS} {e b:Nat} (hb:b<6) (h:(u.ep e).get b≠-3) (h2:∀e',e'<e→u.ep e'=NO):idxC isS u.E=e:=by
 refine idxC_some (ep_lt hb h) (a3j.2 (ep_ne hb h)) fun j hj=>?_
 have:=h2 j hj
 unfold PS.ep at this
 rw[this]
 decide
theorem can_of {u:PS} {e b:Nat} (hb:b<6) (h:(u.ep e).get b≠-3) (h2:∀e',e'<e→u.ep e'=NO):u.can b:=by
 unfold can
 rw[idx_of hb h h2,a1N]
 exact⟨by omega,h⟩
theorem drain_spec {u:PS} {b:Nat} (hb:b<6) (h:u.can b):∃e,(u.ep e).get b≠-3∧(∀e',e'<e→u.ep e'=NO)∧(u.drainU b).M=u.M.set b ((u.ep e).get b)∧
  ∀e',(u.drainU b).ep e'=if e'=e then(u.ep e).set b (-3) else u.ep e':=by
 refine⟨(idxC isS u.E).toNat,h.2,fun e' he=>?_,?_,fun e'=>wr_ep u h.2 hb e'⟩
 ·obtain⟨pre,c,post,e,h1,h2,h3⟩:=first_at h.1
  rw[h3] at he
  have e2:u.ep e'=pre[e']:=by unfold ep;rw[e];simp[List.getD_eq_getElem?_getD,List.getElem?_append_left he,he]
  rw[e2,h1 _ (a1F he)]
 ·unfold drainU
  rw[wr_pos h.2]
end PS
inductive Dr:PS→PS→Prop
 |refl (u:PS):Dr u u
 |step {u v:PS} {b:Nat}:Dr u v→b<6→v.can b→Dr u (v.drainU b)
theorem Dr.trans {u v w:PS} (h:Dr u v) (h2:Dr v w):Dr u w:=by
 induction h2 with
 |refl=>exact h
 |step _ hb hc ih=>exact ih.step hb hc
theorem Dr.wr {u:PS} {e b:Nat} (hb:b<6) (h2:∀e',e'<e→u.ep e'=NO):Dr u (u.wr e b):=by
 by_cases hc:(u.ep e).get b=-3
 ·rw[PS.wr_neg hc];exact .refl _
 ·have h3:=Dr.step (.refl u) hb (PS.can_of hb hc h2)
  have h4:u.drainU b=u.wr e b:=by unfold PS.drainU;rw[PS.idx_of hb hc h2,Int.toNat_natCast]
  rwa [h4] at h3
theorem Dr.wrB {u:PS} {e:Nat} (h2:∀e',e'<e→u.ep e'=NO):∀b,b≤6→Dr u (u.wrB e b)∧∀e',e'<e→(u.wrB e b).ep e'=NO
 |0,_=>⟨.refl _,h2⟩
 |b+1,hb=>by
  obtain⟨h3,h4⟩:=Dr.wrB h2 b (by omega)
  exact⟨h3.trans (Dr.wr (by omega) h4),fun e' he=>by rw[show u.wrB e (b+1)=(u.wrB e b).wr e b from rfl,PS.wr_other _ _ _ (by omega) (by omega)];exact h4 e' he⟩
theorem wrE_no (u:PS) (n:Nat) (hn:n≤u.E.length) {e:Nat} (he:e<n):(u.wrE n).ep e=NO:=by
 obtain⟨M,E,W⟩:=u
 have h:=PS.wrE_at [] n (E.take n) (by rw[a0V];exact Nat.min_eq_left hn) M (E.drop n) W
 rw[a2I] at h
 rw[h]
 unfold PS.ep
 simp[a0A,a0E,he]
theorem Dr.wrE (u:PS):∀n,n≤u.E.length→Dr u (u.wrE n)
 |0,_=>.refl _
 |n+1,hn=>(Dr.wrE u n (by omega)).trans (Dr.wrB (fun _ he=>wrE_no u n (by omega) he) 6 (by omega)).1
def PS.base (s:PS) (n:Int) (o:Int×Int):PS:=
 if o.1=1∨o.1=2 then s.put o.2.toNat n else if o.1=3 then⟨s.M,s.E++[NO],s.W⟩ else s
theorem Dr.order (u:PS) (h:0<u.E.length) (n:Int) (o:Int×Int) (ho:o.1=2→o.2.toNat<6):Dr (u.base n o) (u.orderU n o):=by
 unfold PS.base PS.orderU
 by_cases h1:o.1=1
 ·rw[if_pos (.inl h1),if_pos h1];exact .refl _
 by_cases h2:o.1=2
 ·rw[if_pos (.inr h2),if_neg h1,if_pos h2]
  have hl:=PS.put_len u o.2.toNat n
  exact(Dr.wrE _ _ (by omega)).trans (Dr.wr (ho h2) fun e he=>wrE_no _ _ (by omega) he)
 rw[if_neg (by omega),if_neg h1,if_neg h2]
 by_cases h3:o.1=3
 ·rw[if_pos h3,if_pos h3];exact .refl _
 rw[if_neg h3,if_neg h3]
 split
 ·exact Dr.wrE _ _ (by omega)
 ·exact .refl _
theorem nb_mono (x:Cache) {i j:Nat} (h:i≤j):nb x i≤nb x j:=by
 induction h with
 |refl=>omega
 |step _ ih=>simp only[nb];omega
structure InvB (x:Cache) (k j:Nat) (u:PS):Prop where
 ord:∀b,b<6→∀q:Nat,u.M.get b=q→∀e,e<nb x q→u.ep e=NO
 lt:∀e b,b<6→(u.ep e).get b≠-3→u.M.get b<(u.ep e).get b
 kept:∀q:Nat,q<k→∀b,b<6→putQ x q b→(q:Int)≤u.M.get b∨(q:Int)≤(u.ep (nb x q)).get b
 fl:∀i:Nat,i<j→(x.l.getD i (0,0)).1=4→∀q:Nat,q<i→∀b,b<6→putQ x q b→(q:Int)≤u.M.get b
 fo:∀i:Nat,i<j→(x.l.getD i (0,0)).1=2→∀b,b<6→putQ x i b→(i:Int)≤u.M.get b
theorem InvB.drain {x:Cache} {k j:Nat} {u:PS} (hi:InvC x k u) (h:InvB x k j u) {b:Nat} (hb:b<6) (hc:u.can b):InvB x k j (u.drainU b):=by
 obtain⟨e,h1,h2,h3,h4⟩:=PS.drain_spec hb hc
 obtain⟨q0,hq0,hv,hp,hn⟩:=(hi.cell e b hb).resolve_left h1
 have hlt:=h.lt e b hb h1
 have hle:∀b',b'<6→u.M.get b'≤(u.drainU b).M.get b':=by
  intro b' hb'
  rw[h3,C6.get_set hb hb']
  split
  ·rename_i g;subst g;omega
  ·exact Int.le_refl _
 refine⟨fun b' hb' q hq e' he'=>?_,fun e' b' hb' hne=>?_,fun q hq b' hb' hpq=>?_,fun i h5 h6 q hq b' hb' hpq=>Int.le_trans (h.fl i h5 h6 q hq b' hb' hpq) (hle b' hb'),fun i h5 h6 b' hb' hpq=>Int.le_trans (h.fo i h5 h6 b' hb' hpq) (hle b' hb')⟩
 ·rw[h3,C6.get_set hb hb'] at hq
  rw[h4]
  by_cases hbb:b'=b
  ·rw[if_pos hbb,hv] at hq
   have:q=q0:=by omega
   subst this
   rw[if_neg (by omega)]
   exact h2 e' (by omega)
  ·rw[if_neg hbb] at hq
   have h5:=h.ord b' hb' q hq
   have h6:¬e<nb x q:=fun g=>PS.ep_ne hb h1 (h5 e g)
   rw[if_neg (by omega)]
   exact h5 e' he'
 ·rw[h4] at hne ⊢
  rw[h3,C6.get_set hb hb']
  by_cases he:e'=e
  ·subst he
   rw[if_pos rfl,C6.get_set hb hb'] at hne ⊢
   by_cases hbb:b'=b
   ·rw[if_pos hbb] at hne;exact absurd rfl hne
   ·rw[if_neg hbb] at hne
    rw[if_neg hbb,if_neg hbb]
    exact h.lt e' b' hb' hne
  ·rw[if_neg he] at hne ⊢
   by_cases hbb:b'=b
   ·subst hbb
    rw[if_pos rfl]
    obtain⟨q',hq',hv',_,hn'⟩:=(hi.cell e' b' hb').resolve_left hne
    have h6:¬e'<e:=fun g=>PS.ep_ne hb' hne (h2 e' g)
    have h7:¬q'≤q0:=fun g=>by have:=nb_mono x g;omega
    omega
   ·rw[if_neg hbb]
    exact h.lt e' b' hb' hne
 ·rcases h.kept q hq b' hb' hpq with g|g
  ·exact .inl (Int.le_trans g (hle b' hb'))
  ·by_cases hbb:nb x q=e∧b'=b
   ·obtain⟨g1,g2⟩:=hbb
    subst g2
    left
    rw[h3,C6.get_set hb hb',if_pos rfl]
    rw[g1] at g
    exact g
   ·right
    rw[h4]
    split
    ·rename_i g1
     rw[C6.get_set hb hb',if_neg (fun g2=>hbb ⟨g1,g2⟩)]
     rw[g1] at g
     exact g
    ·exact g
theorem InvB.base {x:Cache} (hx:x.Ok) {k:Nat} {u:PS} (hk:k<x.l.length) (hl:u.E.length=nb x k+1) (hi:InvC x k u) (h:InvB x k k u) :
  InvC x (k+1) (u.base k (x.l.getD k (0,0)))∧InvB x (k+1) k (u.base k (x.l.getD k (0,0))):=by
 have hblk:=hx.blk hk
 unfold PS.base
 split
 ·rename_i hkd
  obtain⟨hb0,hb1⟩:=hblk hkd
  have hput:putQ x k (x.l.getD k (0,0)).2.toNat:=⟨hkd,by omega⟩
  have hu:∀b',putQ x k b'→b'=(x.l.getD k (0,0)).2.toNat:=fun b' g=>by have:=g.2;omega
  have hb:(x.l.getD k (0,0)).2.toNat<6:=by omega
  generalize (x.l.getD k (0,0)).2.toNat=b at *
  have hep:∀e',(u.put b k).ep e'=if e'=nb x k then(u.ep (nb x k)).set b k else u.ep e':=by
   intro e'
   show(u.E.set (u.E.length-1) ((u.E.getD (u.E.length-1) NO).set b k)).getD e' NO=_
   rw[ep_set,show u.E.length-1=nb x k by omega]
   by_cases g:e'=nb x k
   ·rw[if_pos ⟨g,by omega⟩,if_pos g];rfl
   ·rw[if_neg (fun g2=>g g2.1),if_neg g];rfl
  refine⟨hi.put hl hb hput,fun b' hb' q hq e he=>?_,fun e' b' hb' hne=>?_,fun q hq b' hb' hpq=>?_,h.fl,h.fo⟩
  ·have hq:u.M.get b'=q:=hq
   have hqk:q<k:=by rcases hi.med b' hb' with g|⟨q',g1,g2,_⟩<;>omega
   have:=nb_mono x (show q≤k by omega)
   rw[hep,if_neg (by omega)]
   exact h.ord b' hb' q hq e he
  ·show u.M.get b'<_
   rw[hep] at hne ⊢
   split at hne
   ·rename_i g
    rw[if_pos g]
    rw[C6.get_set hb hb'] at hne ⊢
    split at hne
    ·rename_i g2
     rw[if_pos g2]
     rcases hi.med b' hb' with g|⟨q',g1,g2,_⟩<;>omega
    ·rename_i g2
     rw[if_neg g2]
     exact h.lt _ b' hb' hne
   ·rename_i g
    rw[if_neg g]
    exact h.lt _ b' hb' hne
  ·rcases a0J (show q≤k by omega) with g|rfl
   ·rcases h.kept q g b' hb' hpq with g2|g2
    ·exact .inl g2
    ·right
     rw[hep]
     split
     ·rename_i g3
      rw[C6.get_set hb hb']
      rw[g3] at g2
      split
      ·omega
      ·exact g2
     ·exact g2
   ·right
    rw[hep,if_pos rfl,C6.get_set hb hb',if_pos (hu b' hpq)]
    omega
 ·rename_i hkd
  have hnp:∀b,¬putQ x k b:=fun b g=>hkd g.1
  have key:InvC x (k+1) u∧InvB x (k+1) k u:=by
   refine⟨hi.mono (Nat.le_succ k),h.ord,h.lt,fun q hq b hb hpq=>?_,h.fl,h.fo⟩
   rcases a0J (show q≤k by omega) with g|rfl
   ·exact h.kept q g b hb hpq
   ·exact absurd hpq (hnp b)
  split
  ·have he:∀e,(⟨u.M,u.E++[NO],u.W⟩:PS).ep e=u.ep e:=by
    intro e
    show(u.E++[NO]).getD e NO=u.E.getD e NO
    rcases a1B e u.E.length with g|g
    ·simp only[a0A,a0E g]
    ·simp only[a0A,a0R g,a0P g]
     cases e-u.E.length<;>simp
   obtain⟨a1,a2⟩:=key
   refine⟨⟨fun e b hb=>by rw[he];exact a1.cell e b hb,a1.med⟩,fun b hb q hq e he'=>by rw[he];exact a2.ord b hb q hq e he',fun e b hb hne=>by rw[he] at hne ⊢;exact a2.lt e b hb hne,fun q hq b hb hpq=>by rw[he];exact a2.kept q hq b hb hpq,a2.fl,a2.fo⟩
  ·exact key
theorem order4_no (u:PS) (n:Int) (o:Int×Int) (h:o.1=4) (e:Nat):(u.orderU n o).ep e=NO:=by
 unfold PS.orderU
 rw[if_neg (by omega),if_neg (by omega),if_neg (by omega),if_pos h]
 by_cases he:e<u.E.length
 ·exact wrE_no u _ (a0U _) he
 ·have hl:=PS.wrE_len u u.E.length
  unfold PS.ep
  rw[a0A,a0P (by omega)]
  rfl
theorem order2_M (u:PS) (hl:0<u.E.length) (n:Int) (hn:0≤n) (o:Int×Int) (h:o.1=2) (hb:o.2.toNat<6):(u.orderU n o).M.get o.2.toNat=n:=by
 unfold PS.orderU
 rw[if_neg (by omega),if_pos h]
 obtain⟨M,E,W⟩:=u
 obtain⟨l,z,rfl⟩:=PS.split_last E hl
 dsimp only
 rw[show(l++[z]).length-1=l.length by simp,PS.put_at,PS.force_at]
 have e:(z.set o.2.toNat n).get o.2.toNat=n:=by rw[C6.get_set hb hb,if_pos rfl]
 rw[e,if_neg (by omega)]
 show((apM M l).set _ _).get _=_
 rw[C6.get_set hb hb,if_pos rfl]
end Go.Proofs
namespace Go.Proofs
open Go Go.Sx
end Go.Proofs
namespace Go.Proofs
open Go Go.Sx
end Go.Proofs
namespace Go.Proofs
open Go Go.Sx
end Go.Proofs
namespace Go.Proofs
open Go Go.Sx
namespace PS
end PS
end Go.Proofs
namespace Go.Proofs
open Go Go.Sx
theorem PosI.u {x:Cache} (hx:x.Ok) {h:C6} (hp:PosI x h):∃u D,RchU x x.l.length u D∧(h=u.M∨∃b:Nat,(b:Int)<x.n∧u.can b∧h=u.M.set b (-2)):=by
 obtain⟨im,h1,rfl⟩:=hp
 rcases h1 with⟨_,h2,h3⟩|⟨_,s,D,b,h2,h3,h4,h5,_⟩
 ·obtain⟨u,g1,g2⟩:=rch_u hx h2
  exact⟨u,_,g1,.inl (by rw[h3,g2];rfl)⟩
 ·obtain⟨u,g1,g2⟩:=rch_u hx h2
  subst g2
  have hl:0<u.E.length:=by rw[(g1.inv hx).len];omega
  exact⟨u,D,g1,.inr ⟨b,h3,(PS.can_tidy u hl b).1 h4,h5⟩⟩
theorem PosI.holds {x:Cache} (hx:x.Ok) {h:C6} (hp:PosI x h) {b:Nat} (hb:b<6):h.get b=-2∨MP x x.l.length b (h.get b):=by
 obtain⟨u,D,h1,rfl|⟨b0,h2,h3,rfl⟩⟩:=hp.u hx
 ·exact .inr ((h1.inv hx).inv.med b hb)
 ·have hb0:b0<6:=by have:=hx.n;omega
  rw[C6.get_set hb0 hb]
  split
  ·exact .inl rfl
  ·exact .inr ((h1.inv hx).inv.med b hb)
theorem MP.ge {x:Cache} {K b:Nat} {v:Int} (h:MP x K b v):-1≤v:=by rcases h with h|⟨q,_,h,_⟩<;>omega
theorem PosI.torn {x:Cache} (hx:x.Ok) {h:C6} (hp:PosI x h):(∀b,b<6→h.get b≠-2)∨∃b0:Nat,(b0:Int)<x.n∧∀b,b<6→(h.get b=-2↔b=b0):=by
 obtain⟨u,D,h1,rfl|⟨b0,h2,h3,rfl⟩⟩:=hp.u hx
 ·exact .inl fun b hb=>by have:=((h1.inv hx).inv.med b hb).ge;omega
 ·have hb0:b0<6:=by have:=hx.n;omega
  refine .inr ⟨b0,h2,fun b hb=>?_⟩
  rw[C6.get_set hb0 hb]
  split
  ·rename_i g;exact⟨fun _=>g,fun _=>rfl⟩
  ·rename_i g
   have:=((h1.inv hx).inv.med b hb).ge
   exact⟨fun g2=>by omega,fun g2=>absurd g2 g⟩
end Go.Proofs
namespace Go.Proofs
open Go Go.Sx
end Go.Proofs
namespace Go.Proofs
open Go Go.Sx
def iF (F:Nat→Int) (b:Nat):List V:=[.int .i64 (F b)]
def ex:Cache:=⟨3,[(1,0),(1,1),(3,0),(1,0),(2,2),(1,1)]⟩
end Go.Proofs
namespace Go.Proofs
open Go Go.Sx
def rI (v:Int):Int:=if v=-3 then -1 else v
structure RS where
 M:Nat→Int
 E:List (Nat→Int)
 W:Int
namespace RS
def ep (s:RS) (e:Nat):Nat→Int:=s.E.getD e (fun _=>-1)
def medF (s:RS):Nat→List V:=fun b=>[.int .i64 (s.M b)]
def epF (n:Nat) (s:RS):Nat→List V:=fun e=>[.sl 1 n (fun b=>[.int .i64 (s.ep e b)])]
def c (n:Nat) (s:RS):List V:=[.sl 1 n s.medF,.sl 1 s.E.length (s.epF n),.int .i64 s.W]
def v (n:Nat) (s:RS):V:=.agg (s.c n)
end RS
def RS.begin:RS:=⟨fun _=>-1,[fun _=>-1],0⟩
namespace RS
def wr (s:RS) (e b:Nat):RS:=if s.ep e b=-1 then s else⟨fun b'=>if b'=b then s.ep e b else s.M b',s.E.set e (fun b'=>if b'=b then -1 else s.ep e b'),s.W+1⟩
theorem wr_pos {s:RS} {e b:Nat} (h:s.ep e b≠-1):s.wr e b=⟨fun b'=>if b'=b then s.ep e b else s.M b',s.E.set e (fun b'=>if b'=b then -1 else s.ep e b'),s.W+1⟩:=if_neg h
theorem wr_neg {s:RS} {e b:Nat} (h:s.ep e b=-1):s.wr e b=s:=if_pos h
theorem ep_set {E:List (Nat→Int)} {e e':Nat} {f:Nat→Int} (he:e<E.length):(E.set e f).getD e' (fun _=>-1)=if e'=e then f else E.getD e' (fun _=>-1):=by
 simp only[a0A,a0H]
 by_cases h:e=e'
 ·subst h;simp[he]
 ·rw[if_neg h,if_neg (fun g=>h g.symm)]
theorem ep_wr {s:RS} {e b:Nat} (he:e<s.E.length) (e' j:Nat):(⟨fun b'=>if b'=b then s.ep e b else s.M b',s.E.set e (fun b'=>if b'=b then -1 else s.ep e b'),s.W+1⟩:RS).ep e' j=if e'=e∧j=b then -1 else s.ep e' j:=by
 show((s.E.set e _).getD e' (fun _=>-1)) j=_
 rw[ep_set he]
 by_cases h:e'=e
 ·subst h
  rw[if_pos rfl]
  by_cases h2:j=b
  ·simp[h2]
  ·simp[h2]
 ·rw[if_neg h,if_neg (fun g=>h g.1)];rfl
end RS
end Go.Proofs
namespace Go.Proofs
open Go Go.Sx
namespace RS
def wrB (s:RS) (e:Nat):Nat→RS
 |0=>s
 |b+1=>(s.wrB e b).wr e b
def wrE (n:Nat) (s:RS):Nat→RS
 |0=>s
 |e+1=>(s.wrE n e).wrB e n
theorem wr_len (s:RS) (e b:Nat):(s.wr e b).E.length=s.E.length:=by unfold wr;split<;>simp
theorem wr_W (s:RS) (e b:Nat):s.W≤(s.wr e b).W∧(s.wr e b).W≤s.W+1:=by
 unfold wr
 split
 ·omega
 ·exact⟨by show s.W≤s.W+1;omega,Int.le_refl _⟩
theorem wrB_len (s:RS) (e:Nat):∀b,(s.wrB e b).E.length=s.E.length
 |0=>rfl
 |b+1=>by simp only[wrB];rw[wr_len,wrB_len s e b]
theorem wrB_W (s:RS) (e:Nat):∀b:Nat,s.W≤(s.wrB e b).W∧(s.wrB e b).W≤s.W+b
 |0=>by simp[wrB]
 |b+1=>by have:=wrB_W s e b;have:=wr_W (s.wrB e b) e b;simp only[wrB];omega
theorem wrE_len (n:Nat) (s:RS):∀e,(s.wrE n e).E.length=s.E.length
 |0=>rfl
 |e+1=>by simp only[wrE];rw[wrB_len,wrE_len n s e]
theorem wrE_W (n:Nat) (s:RS):∀e:Nat,s.W≤(s.wrE n e).W∧(s.wrE n e).W≤s.W+e*n
 |0=>by simp[wrE]
 |e+1=>by
  have:=wrE_W n s e;have:=wrB_W (s.wrE n e) e n
  simp only[wrE]
  have:((e+1:Nat):Int)*n=e*n+n:=by rw[Int.natCast_add,Int.add_mul];simp
  omega
def setE (s:RS) (e b:Nat) (v:Int):RS:=⟨s.M,s.E.set e (fun b'=>if b'=b then v else s.ep e b'),s.W⟩
def order (n:Nat) (s:RS) (k:Int) (o:Int×Int):RS:=
 if o.1=1 then s.setE (s.E.length-1) o.2.toNat k
 else if o.1=2 then((s.setE (s.E.length-1) o.2.toNat k).wrE n (s.E.length-1)).wr (s.E.length-1) o.2.toNat
 else if o.1=3 then⟨s.M,s.E++[fun _=>-1],s.W⟩
 else if o.1=4 then s.wrE n s.E.length
 else s
theorem ep_setE {s:RS} {e b:Nat} {v:Int} (he:e<s.E.length) (e' j:Nat):(s.setE e b v).ep e' j=if e'=e∧j=b then v else s.ep e' j:=by
 show((s.E.set e _).getD e' (fun _=>-1)) j=_
 rw[ep_set he]
 by_cases h:e'=e
 ·subst h
  rw[if_pos rfl]
  by_cases h2:j=b
  ·simp[h2]
  ·simp[h2]
 ·rw[if_neg h,if_neg (fun g=>h g.1)];rfl
theorem ep_snoc {s:RS} {e j:Nat}:(⟨s.M,s.E++[fun _=>-1],s.W⟩:RS).ep e j=if e<s.E.length then s.ep e j else -1:=by
 show((s.E++[fun _=>-1]).getD e (fun _=>-1)) j=_
 split
 ·rename_i h
  simp only[a0A,a0E h]
  rfl
 ·rename_i h
  simp only[a0A,a0R (Nat.le_of_not_lt h)]
  cases e-s.E.length<;>simp
end RS
end Go.Proofs
namespace Go.Proofs
open Go Go.Sx
def noRow (n:Nat) (f:Nat→Int):Prop:=∀b,b<n→f b=-1
def RS.IsFirst (n:Nat) (s:RS) (e:Nat):Prop:=e<s.E.length∧¬noRow n (s.ep e)∧∀i,i<e→noRow n (s.ep i)
def cntF (f:Nat→Int):Nat→Int
 |0=>0
 |b+1=>cntF f b+if f b=-1 then 0 else 1
def cntFE (n:Nat) (s:RS):Nat→Int
 |0=>0
 |e+1=>cntFE n s e+cntF (s.ep e) n
def RS.entries (n:Nat) (s:RS):Int:=cntFE n s s.E.length
end Go.Proofs
namespace Go.Proofs
open Go Go.Sx
inductive DrR (n:Nat) (s:RS) (z:Int):V→Prop
 |yes (e:Nat):0≤z→z<n→s.IsFirst n e→s.ep e z.toNat≠-1→DrR n s z (.tup [(s.wr e z.toNat).v n,.prop True inferInstance])
 |no:(0≤z→z<n→∀e,s.IsFirst n e→s.ep e z.toNat=-1)→DrR n s z (.tup [s.v n,.prop False inferInstance])
theorem IsFirst.uniq {n:Nat} {s:RS} {e e':Nat} (h:s.IsFirst n e) (h':s.IsFirst n e'):e=e':=by
 rcases Nat.lt_trichotomy e e' with g|g|g
 ·exact absurd (h'.2.2 e g) h.2.1
 ·exact g
 ·exact absurd (h.2.2 e' g) h'.2.1
end Go.Proofs
namespace Go.Proofs
open Go Go.Sx
structure Sim (n:Nat) (r:RS) (u:PS):Prop where
 len:r.E.length=u.E.length
 W:r.W=u.W
 M:∀b,b<n→r.M b=u.M.get b
 ep:∀e b,b<n→r.ep e b=rI ((u.ep e).get b)
 hi:∀e b,n≤b→b<6→(u.ep e).get b=-3
 nn:∀e b,b<6→(u.ep e).get b=-3∨0≤(u.ep e).get b
theorem rI_no:rI (-3)=-1:=rfl
theorem rI_some {v:Int} (h:v≠-3):rI v=v:=if_neg h
namespace Sim
variable {n:Nat} {r:RS} {u:PS}
theorem none_iff (h:Sim n r u) {e b:Nat} (hb:b<n) (hn:n≤6):r.ep e b=-1↔(u.ep e).get b=-3:=by
 rw[h.ep e b hb]
 rcases h.nn e b (by omega) with g|g
 ·rw[g,rI_no];simp
 ·rw[rI_some (by omega)];omega
theorem wr (h:Sim n r u) (hn:n≤6) {e b:Nat} (hb:b<n):Sim n (r.wr e b) (u.wr e b):=by
 have hb6:b<6:=by omega
 by_cases hc:(u.ep e).get b=-3
 ·rw[PS.wr_neg hc,RS.wr_neg ((h.none_iff hb hn).2 hc)]
  exact h
 ·have hr:r.ep e b≠-1:=fun g=>hc ((h.none_iff hb hn).1 g)
  have hl:=PS.ep_lt hb6 hc
  have hep:=PS.wr_ep u hc hb6
  have hrep:=RS.ep_wr (s:=r) (e:=e) (b:=b) (by rw[h.len];exact hl)
  have hv:r.ep e b=(u.ep e).get b:=by rw[h.ep e b hb,rI_some hc]
  rw[PS.wr_pos hc] at hep ⊢
  rw[RS.wr_pos hr]
  refine⟨by simp[h.len],by show r.W+1=u.W+1;rw[h.W],fun b' hb'=>?_,fun e' b' hb'=>?_,fun e' b' h1 h2=>?_,fun e' b' hb'=>?_⟩
  ·show(if b'=b then r.ep e b else r.M b')=(u.M.set b _).get b'
   rw[C6.get_set hb6 (by omega),hv,h.M b' hb']
  ·rw[hrep,hep]
   by_cases g:e'=e
   ·subst g
    rw[if_pos rfl,C6.get_set hb6 (by omega)]
    by_cases g2:b'=b
    ·rw[if_pos ⟨rfl,g2⟩,if_pos g2,rI_no]
    ·rw[if_neg (fun k=>g2 k.2),if_neg g2];exact h.ep e' b' hb'
   ·rw[if_neg (fun k=>g k.1),if_neg g];exact h.ep e' b' hb'
  ·rw[hep]
   split
   ·rw[C6.get_set hb6 h2,if_neg (by omega)];exact h.hi e b' h1 h2
   ·exact h.hi e' b' h1 h2
  ·rw[hep]
   split
   ·rw[C6.get_set hb6 hb']
    split
    ·exact .inl rfl
    ·exact h.nn e b' hb'
   ·exact h.nn e' b' hb'
theorem wrB (h:Sim n r u) (hn:n≤6) (e:Nat):∀b,b≤n→Sim n (r.wrB e b) (u.wrB e b)
 |0,_=>h
 |b+1,hb=>(wrB h hn e b (by omega)).wr hn (by omega)
theorem wrB_hi (h:Sim n r u) (hn:n≤6) (e:Nat):∀m,n+m≤6→u.wrB e (n+m)=u.wrB e n
 |0,_=>rfl
 |m+1,hm=>by
  have ih:=wrB_hi h hn e m (by omega)
  show(u.wrB e (n+m)).wr e (n+m)=_
  rw[ih]
  exact PS.wr_neg ((wrB h hn e n (a0U n)).hi e (n+m) (by omega) (by omega))
theorem wrB6 (h:Sim n r u) (hn:n≤6) (e:Nat):Sim n (r.wrB e n) (u.wrB e 6):=by
 have:=wrB_hi h hn e (6-n) (by omega)
 rw[show n+(6-n)=6 by omega] at this
 rw[this]
 exact wrB h hn e n (a0U n)
theorem wrE (h:Sim n r u) (hn:n≤6):∀e,Sim n (r.wrE n e) (u.wrE e)
 |0=>h
 |e+1=>(wrE h hn e).wrB6 hn e
theorem put (h:Sim n r u) (hn:n≤6) (hl:0<u.E.length) {b:Nat} (hb:b<n) {k:Int} (hk:0≤k):Sim n (r.setE (r.E.length-1) b k) (u.put b k):=by
 have hrep:=RS.ep_setE (s:=r) (e:=r.E.length-1) (b:=b) (v:=k) (by rw[h.len];omega)
 have hep:∀e',(u.put b k).ep e'=if e'=u.E.length-1 then(u.ep (u.E.length-1)).set b k else u.ep e':=by
  intro e'
  show(u.E.set (u.E.length-1) ((u.E.getD (u.E.length-1) NO).set b k)).getD e' NO=_
  rw[Go.Proofs.ep_set]
  by_cases g:e'=u.E.length-1
  ·rw[if_pos ⟨g,by omega⟩,if_pos g];rfl
  ·rw[if_neg (fun g2=>g g2.1),if_neg g];rfl
 refine⟨by show(r.E.set _ _).length=(u.E.set _ _).length;simp[h.len],h.W,h.M,fun e' b' hb'=>?_,fun e' b' h1 h2=>?_,fun e' b' hb'=>?_⟩
 ·rw[hrep,hep,h.len]
  by_cases g:e'=u.E.length-1
  ·rw[if_pos g,C6.get_set (by omega) (by omega)]
   by_cases g2:b'=b
   ·rw[if_pos ⟨g,g2⟩,if_pos g2,rI_some (by omega)]
   ·rw[if_neg (fun k=>g2 k.2),if_neg g2,←g];exact h.ep e' b' hb'
  ·rw[if_neg (fun k=>g k.1),if_neg g];exact h.ep e' b' hb'
 ·rw[hep]
  split
  ·rw[C6.get_set (by omega) h2,if_neg (by omega)];exact h.hi _ b' h1 h2
  ·exact h.hi e' b' h1 h2
 ·rw[hep]
  split
  ·rw[C6.get_set (by omega) hb']
   split
   ·exact .inr hk
   ·exact h.nn _ b' hb'
  ·exact h.nn e' b' hb'
theorem order (h:Sim n r u) (hn:n≤6) (hl:0<u.E.length) {k:Int} (hk:0≤k) {o:Int×Int} (ho:o.1=1∨o.1=2→0≤o.2∧o.2<n):Sim n (r.order n k o) (u.orderU k o):=by
 unfold RS.order PS.orderU
 by_cases h1:o.1=1
 ·rw[if_pos h1,if_pos h1]
  have:=ho (.inl h1)
  exact h.put hn hl (by omega) hk
 rw[if_neg h1,if_neg h1]
 by_cases h2:o.1=2
 ·rw[if_pos h2,if_pos h2]
  have:=ho (.inr h2)
  have h3:=h.put hn hl (show o.2.toNat<n by omega) hk
  have e:r.E.length=u.E.length:=h.len
  rw[e] at h3 ⊢
  exact(h3.wrE hn (u.E.length-1)).wr hn (by omega)
 rw[if_neg h2,if_neg h2]
 by_cases h3:o.1=3
 ·rw[if_pos h3,if_pos h3]
  have he:∀e,(⟨u.M,u.E++[NO],u.W⟩:PS).ep e=u.ep e:=by
   intro e
   show(u.E++[NO]).getD e NO=u.E.getD e NO
   rcases a1B e u.E.length with g|g
   ·simp only[a0A,a0E g]
   ·simp only[a0A,a0R g,a0P g]
    cases e-u.E.length<;>simp
  refine⟨by simp[h.len],h.W,h.M,fun e b hb=>?_,fun e b h1 h2=>by rw[he];exact h.hi e b h1 h2,fun e b hb=>by rw[he];exact h.nn e b hb⟩
  rw[RS.ep_snoc,he]
  split
  ·exact h.ep e b hb
  ·rename_i g
   have:u.ep e=NO:=by unfold PS.ep;rw[List.getD_eq_getElem?_getD,List.getElem?_eq_none (by have:=h.len;omega)];rfl
   rw[this,C6.get_all (by omega),rI_no]
 rw[if_neg h3,if_neg h3]
 by_cases h4:o.1=4
 ·rw[if_pos h4,if_pos h4]
  have e:r.E.length=u.E.length:=h.len
  rw[e]
  exact h.wrE hn _
 ·rw[if_neg h4,if_neg h4]
  exact h
theorem noRow_iff (h:Sim n r u) (hn:n≤6) (e:Nat):noRow n (r.ep e)↔u.ep e=NO:=by
 constructor
 ·intro g
  refine C6.ext' fun b hb=>?_
  rw[C6.get_all hb]
  by_cases hbn:b<n
  ·exact(h.none_iff hbn hn).1 (g b hbn)
  ·exact h.hi e b (by omega) hb
 ·intro g b hb
  rw[h.none_iff hb hn,g]
  exact C6.get_all (by omega)
theorem first (h:Sim n r u) (hn:n≤6) {e:Nat}:RS.IsFirst n r e→idxC isS u.E=e:=by
 rintro⟨h1,h2,h3⟩
 refine idxC_some (by rw[←h.len];exact h1) (a3j.2 fun g=>h2 ((h.noRow_iff hn e).2 g)) fun j hj=>?_
 have:=(h.noRow_iff hn j).1 (h3 j hj)
 unfold PS.ep at this
 rw[this]
 decide
theorem can_iff (h:Sim n r u) (hn:n≤6) {e b:Nat} (he:RS.IsFirst n r e) (hb:b<n):u.can b↔r.ep e b≠-1:=by
 have h1:=h.first hn he
 unfold PS.can
 rw[h1,a1N]
 exact⟨fun g k=>g.2 ((h.none_iff hb hn).1 k),fun g=>⟨by omega,fun k=>g ((h.none_iff hb hn).2 k)⟩⟩
theorem drain (h:Sim n r u) (hn:n≤6) {e b:Nat} (he:RS.IsFirst n r e) (hb:b<n):Sim n (r.wr e b) (u.drainU b):=by
 have h1:=h.first hn he
 unfold PS.drainU
 rw[h1,a1N]
 exact h.wr hn hb
theorem cnt (h:Sim n r u) (hn:n≤6) (e:Nat):cntF (r.ep e) n=cntC (u.ep e) 6:=by
 have h1:∀b,b≤n→cntF (r.ep e) b=cntC (u.ep e) b:=by
  intro b
  induction b with
  |zero=>intro _;rfl
  |succ b ih=>
   intro hb
   show cntF (r.ep e) b+(if _ then _ else _)=cntC (u.ep e) b+(if _ then _ else _)
   rw[ih (by omega)]
   by_cases g:(u.ep e).get b=-3
   ·rw[if_pos ((h.none_iff (by omega) hn).2 g),if_pos g]
   ·rw[if_neg (fun k=>g ((h.none_iff (by omega) hn).1 k)),if_neg g]
 have h2:∀m,n+m≤6→cntC (u.ep e) (n+m)=cntC (u.ep e) n:=by
  intro m
  induction m with
  |zero=>intro _;rfl
  |succ m ih=>
   intro hm
   rw[show n+(m+1)=n+m+1 by omega,cntC_neg (h.hi e (n+m) (by omega) (by omega)),ih (by omega)]
 rw[h1 n (a0U n)]
 have:=h2 (6-n) (by omega)
 rw[show n+(6-n)=6 by omega] at this
 exact this.symm
end Sim
theorem cntE_take (E:List C6):∀k,k≤E.length→cntE E k=cntL (E.take k)
 |0,_=>by simp[cntE,cntL]
 |k+1,hk=>by
  have e:E.getD k NO=E[k]:=by simp[a0A,show k<E.length by omega]
  rw[a1H (by omega),a2j]
  show cntE E k+cntC (E.getD k NO) 6=_
  rw[cntE_take E k (by omega),e]
  simp[cntL]
theorem cntE_all (E:List C6):cntE E E.length=cntL E:=by rw[cntE_take E _ (a0U _),a3B]
theorem Sim.entries {n:Nat} {r:RS} {u:PS} (h:Sim n r u) (hn:n≤6):r.entries n=cntL u.E:=by
 have h1:∀k,cntFE n r k=cntE u.E k:=by
  intro k
  induction k with
  |zero=>rfl
  |succ k ih=>
   show cntFE n r k+cntF (r.ep k) n=cntE u.E k+cntC (u.E.getD k NO) 6
   rw[ih,h.cnt hn k]
   rfl
 unfold RS.entries
 rw[h1,h.len,cntE_all]
theorem Sim.begin {n:Nat} (hn:n≤6):Sim n RS.begin PS.begin:=by
 have he:∀e,PS.begin.ep e=NO:=fun e=>by
  cases e with
  |zero=>rfl
  |succ e=>rfl
 refine⟨rfl,rfl,fun b hb=>(C6.get_all (by omega)).symm,fun e b hb=>?_,fun e b _ hb=>by rw[he];exact C6.get_all hb,fun e b hb=>.inl (by rw[he];exact C6.get_all hb)⟩
 rw[he,C6.get_all (by omega),rI_no]
 unfold RS.begin RS.ep
 cases e with
 |zero=>rfl
 |succ e=>rfl
def runU (l:List (Int×Int)):Nat→PS
 |0=>PS.begin
 |k+1=>(runU l k).orderU k (l.getD k (0,0))
theorem runU_rch (x:Cache):∀k,k≤x.l.length→RchU x k (runU x.l k) []
 |0,_=>.begin
 |k+1,h=>(runU_rch x k (by omega)).order (by omega)
end Go.Proofs
namespace Go.Proofs
open Go Go.Sx
structure Lazy (u v:PS):Prop where
 len:u.E.length=v.E.length
 sub:∀e b,b<6→(u.ep e).get b≠-3→(v.ep e).get b≠-3
 tot:v.tot≤u.tot
theorem PS.wr_get (u:PS) {e b:Nat} (hb:b<6) {e' b':Nat} (hb':b'<6):((u.wr e b).ep e').get b'=if e'=e∧b'=b then -3 else(u.ep e').get b':=by
 by_cases hc:(u.ep e).get b=-3
 ·rw[PS.wr_neg hc]
  split
  ·rename_i h;rw[h.1,h.2,hc]
  ·rfl
 ·rw[PS.wr_ep u hc hb]
  by_cases h:e'=e
  ·subst h
   rw[if_pos rfl,C6.get_set hb hb']
   by_cases h2:b'=b
   ·rw[if_pos h2,if_pos ⟨rfl,h2⟩]
   ·rw[if_neg h2,if_neg (fun g=>h2 g.2)]
  ·rw[if_neg h,if_neg (fun g=>h g.1)]
theorem PS.put_get (u:PS) (hl:0<u.E.length) {b:Nat} (hb:b<6) (k:Int) {e' b':Nat} (hb':b'<6):((u.put b k).ep e').get b'=if e'=u.E.length-1∧b'=b then k else(u.ep e').get b':=by
 have hep:(u.put b k).ep e'=if e'=u.E.length-1 then(u.ep (u.E.length-1)).set b k else u.ep e':=by
  show(u.E.set (u.E.length-1) ((u.E.getD (u.E.length-1) NO).set b k)).getD e' NO=_
  rw[ep_set]
  by_cases g:e'=u.E.length-1
  ·rw[if_pos ⟨g,by omega⟩,if_pos g];rfl
  ·rw[if_neg (fun g2=>g g2.1),if_neg g];rfl
 rw[hep]
 by_cases h:e'=u.E.length-1
 ·rw[if_pos h,C6.get_set hb hb']
  by_cases h2:b'=b
  ·rw[if_pos h2,if_pos ⟨h,h2⟩]
  ·rw[if_neg h2,if_neg (fun g=>h2 g.2),h]
 ·rw[if_neg h,if_neg (fun g=>h g.1)]
namespace Lazy
variable {u v:PS}
theorem wr (h:Lazy u v) {e b:Nat} (hb:b<6):Lazy (u.wr e b) (v.wr e b):=by
 refine⟨by rw[PS.wr_len,PS.wr_len,h.len],fun e' b' hb' hne=>?_,by rw[PS.tot_wr _ _ _ hb,PS.tot_wr _ _ _ hb];exact h.tot⟩
 rw[PS.wr_get _ hb hb'] at hne ⊢
 split at hne
 ·exact absurd rfl hne
 ·rename_i g
  rw[if_neg g]
  exact h.sub e' b' hb' hne
theorem wrB (h:Lazy u v) (e:Nat):∀b,b≤6→Lazy (u.wrB e b) (v.wrB e b)
 |0,_=>h
 |b+1,hb=>(wrB h e b (by omega)).wr (by omega)
theorem wrE (h:Lazy u v):∀e,Lazy (u.wrE e) (v.wrE e)
 |0=>h
 |e+1=>(wrE h e).wrB e 6 (by omega)
theorem drain (h:Lazy u v) {b:Nat} (hb:b<6):Lazy (u.drainU b) v:=by
 unfold PS.drainU
 refine⟨by rw[PS.wr_len];exact h.len,fun e' b' hb' hne=>?_,by rw[PS.tot_wr _ _ _ hb];exact h.tot⟩
 rw[PS.wr_get _ hb hb'] at hne
 split at hne
 ·exact absurd rfl hne
 ·exact h.sub e' b' hb' hne
theorem put (h:Lazy u v) (hl:0<u.E.length) {b:Nat} (hb:b<6) {k:Int} (hk:k≠-3):Lazy (u.put b k) (v.put b k):=by
 have hlv:0<v.E.length:=by rw[←h.len];exact hl
 refine⟨by rw[PS.put_len,PS.put_len,h.len],fun e' b' hb' hne=>?_,?_⟩
 ·rw[PS.put_get _ hl hb k hb'] at hne
  rw[PS.put_get _ hlv hb k hb',←h.len]
  split at hne
  ·rename_i g;rw[if_pos g];exact hk
  ·rename_i g;rw[if_neg g];exact h.sub e' b' hb' hne
 ·have ht:=h.tot
  have hs:=h.sub (u.E.length-1) b hb
  have key:∀w:PS,0<w.E.length→(w.put b k).tot=w.tot+1-oneE ((w.ep (w.E.length-1)).get b):=by
   intro w hw
   unfold PS.tot PS.put
   dsimp only
   rw[cntL_set' (by omega),cntC_set hb _ 6 hb (by omega),one_pos hk]
   unfold PS.ep
   omega
  rw[key u hl,key v hlv,←h.len]
  have h1:oneE ((u.ep (u.E.length-1)).get b)≤oneE ((v.ep (u.E.length-1)).get b):=by
   by_cases g:(u.ep (u.E.length-1)).get b=-3
   ·rw[g,one_no];exact(one_le _).1
   ·rw[one_pos g,one_pos (hs g)];exact Int.le_refl _
  omega
theorem order (h:Lazy u v) (hl:0<u.E.length) {k:Int} (hk:0≤k) {o:Int×Int} (ho:o.1=1∨o.1=2→o.2.toNat<6):Lazy (u.orderU k o) (v.orderU k o):=by
 unfold PS.orderU
 by_cases h1:o.1=1
 ·rw[if_pos h1,if_pos h1]
  exact h.put hl (ho (.inl h1)) (by omega)
 rw[if_neg h1,if_neg h1]
 by_cases h2:o.1=2
 ·rw[if_pos h2,if_pos h2,←h.len]
  exact((h.put hl (ho (.inr h2)) (by omega)).wrE _).wr (ho (.inr h2))
 rw[if_neg h2,if_neg h2]
 by_cases h3:o.1=3
 ·rw[if_pos h3,if_pos h3]
  have he:∀(u:PS) e,(⟨u.M,u.E++[NO],u.W⟩:PS).ep e=u.ep e:=by
   intro u e
   show(u.E++[NO]).getD e NO=u.E.getD e NO
   rcases a1B e u.E.length with g|g
   ·simp only[a0A,a0E g]
   ·simp only[a0A,a0R g,a0P g]
    cases e-u.E.length<;>simp
  refine⟨by simp[h.len],fun e b hb hne=>?_,?_⟩
  ·rw[he] at hne ⊢
   exact h.sub e b hb hne
  ·have ht:=h.tot
   unfold PS.tot at ht ⊢
   dsimp only
   rw[a2j,a2j]
   simp only[cntL,cntC_no 6 (by omega)]
   omega
 rw[if_neg h3,if_neg h3]
 by_cases h4:o.1=4
 ·rw[if_pos h4,if_pos h4,←h.len]
  exact h.wrE _
 ·rw[if_neg h4,if_neg h4]
  exact h
theorem cntC_mono {c d:C6} (h:∀b,b<6→c.get b≠-3→d.get b≠-3):∀b,b≤6→cntC c b≤cntC d b
 |0,_=>by simp[cntC]
 |b+1,hb=>by
  have ih:=cntC_mono h b (by omega)
  rw[cntC_succ,cntC_succ]
  have h1:oneE (c.get b)≤oneE (d.get b):=by
   by_cases g:c.get b=-3
   ·rw[g,one_no];exact(one_le _).1
   ·rw[one_pos g,one_pos (h b (by omega) g)];exact Int.le_refl _
  omega
theorem cnt (h:Lazy u v):cntL u.E≤cntL v.E:=by
 have key:∀k,cntE u.E k≤cntE v.E k:=by
  intro k
  induction k with
  |zero=>simp[cntE]
  |succ k ih=>
   have:=cntC_mono (h.sub k) 6 (by omega)
   show cntE u.E k+cntC (u.ep k) 6≤cntE v.E k+cntC (v.ep k) 6
   omega
 have:=key u.E.length
 rw[cntE_all] at this
 rw[h.len,cntE_all] at this
 exact this
end Lazy
end Go.Proofs
namespace Go.Proofs
open Go Go.Sx
def canR (n:Nat) (s:RS) (z:Int):Prop:=0≤z∧z<n∧∃e,s.IsFirst n e∧s.ep e z.toNat≠-1
open Classical in
noncomputable def drS (n:Nat) (s:RS) (z:Int):RS:=if h:canR n s z then s.wr (Classical.choose h.2.2) z.toNat else s
theorem drS_yes {n:Nat} {s:RS} {z:Int} {e:Nat} (h:0≤z∧z<n) (he:s.IsFirst n e) (hne:s.ep e z.toNat≠-1):drS n s z=s.wr e z.toNat∧canR n s z:=by
 have hc:canR n s z:=⟨h.1,h.2,e,he,hne⟩
 unfold drS
 rw[dif_pos hc,IsFirst.uniq (Classical.choose_spec hc.2.2).1 he]
 exact⟨rfl,hc⟩
theorem drS_no {n:Nat} {s:RS} {z:Int} (h:¬canR n s z):drS n s z=s:=dif_neg h
namespace Sim
variable {n:Nat} {r:RS} {u:PS}
theorem canR_iff (h:Sim n r u) (hn:n≤6) {z:Int}:canR n r z↔0≤z∧z<n∧u.can z.toNat:=by
 constructor
 ·rintro⟨h1,h2,e,he,hne⟩
  exact⟨h1,h2,(h.can_iff hn he (by omega)).2 hne⟩
 ·rintro⟨h1,h2,h3⟩
  refine⟨h1,h2,?_⟩
  have hl:=PS.ep_lt (u:=u) (e:=(idxC isS u.E).toNat) (b:=z.toNat) (by omega) h3.2
  have hi:(idxC isS u.E)=((idxC isS u.E).toNat:Int):=by have:=h3.1;omega
  obtain⟨e,_,hno,_,_⟩:=PS.drain_spec (show z.toNat<6 by omega) h3
  have he:RS.IsFirst n r (idxC isS u.E).toNat:=by
   refine⟨by rw[h.len];exact hl,fun g=>?_,fun j hj=>?_⟩
   ·have:=(h.noRow_iff hn _).1 g
    have h4:=h3.2
    rw[this] at h4
    exact h4 (C6.get_all (by omega))
   ·rw[h.noRow_iff hn]
    rcases idxC_spec isS u.E with⟨g1,_⟩|⟨i,g1,g2,g3,g4⟩
    ·omega
    ·have:=g4 j (by omega)
     exact a0T.1 (fun k=>by
      have k2:isS (u.E.getD j (C6.all (-3)))=true:=a3j.2 k
      rw[this] at k2
      cases k2)
  exact⟨_,he,(h.can_iff hn he (by omega)).1 h3⟩
theorem drain' (h:Sim n r u) (hn:n≤6) {z:Int} (hc:canR n r z):Sim n (drS n r z) (u.drainU z.toNat):=by
 obtain⟨h1,h2,e,he,hne⟩:=hc
 rw[(drS_yes ⟨h1,h2⟩ he hne).1]
 exact h.drain hn he (by omega)
end Sim
end Go.Proofs
namespace Go.Proofs
open Go Go.Sx
def RS.same (n:Nat) (a c:RS):Prop:=(∀b,b<n→a.M b=c.M b)∧a.E.length=c.E.length∧∀e,e<a.E.length→∀b,b<n→a.ep e b=c.ep e b
noncomputable def addR (n:Nat) (L:List RS) (s:RS):List RS:=@ite _ (∃t∈L,RS.same n t s) (Classical.propDecidable _) L (L++[s])
noncomputable def addM (n:Nat) (L:List (Nat→Int)) (f:Nat→Int):List (Nat→Int):=@ite _ (∃g∈L,∀b,b<n→g b=f b) (Classical.propDecidable _) L (L++[f])
def mC (n:Nat) (f:Nat→Int):List V:=[.sl 1 n (iF f)]
end Go.Proofs
namespace Go.Proofs
open Go Go.Sx
def RS.run (n:Nat) (l:List (Int×Int)):Nat→RS
 |0=>RS.begin
 |k+1=>(RS.run n l k).order n k (l.getD k (0,0))
theorem Cache.Ok.blkn {x:Cache} (hx:x.Ok) {n:Nat} (hn:x.n=n) {k:Nat} (hk:k<x.l.length):(x.l.getD k (0,0)).1=1∨(x.l.getD k (0,0)).1=2→0≤(x.l.getD k (0,0)).2∧(x.l.getD k (0,0)).2<n:=by
 intro g
 have:=hx.ord _ (show x.l.getD k (0,0)∈x.l by
  rw[show x.l.getD k (0,0)=x.l[k] by simp[a0A,hk]]
  exact a1F hk)
 unfold Cache.OkO at this
 omega
theorem Sim.run {x:Cache} (hx:x.Ok) {n:Nat} (hn:x.n=n):∀k,k≤x.l.length→Sim n (RS.run n x.l k) (runU x.l k)
 |0,_=>Sim.begin (by have:=hx.n;omega)
 |k+1,hk=>by
  have hl:0<(runU x.l k).E.length:=by rw[((runU_rch x k (by omega)).inv hx).len];omega
  exact(Sim.run hx hn k (by omega)).order (by have:=hx.n;omega) hl (by omega) (hx.blkn hn (by omega))
theorem Sim.bnd {x:Cache} (hx:x.Ok) {n:Nat} (hn:x.n=n) {k:Nat} {r:RS} {u:PS} {D:List (Int×Int)} (hs:Sim n r u) (h2:RchU x k u D):0≤r.W∧r.W≤k∧0<r.E.length∧r.E.length≤k+1∧0≤r.entries n∧r.entries n≤k:=by
 have hi:=h2.inv hx
 have h3:=cntL_nonneg u.E
 have h1:=hi.tot
 have h4:=hi.len
 have h5:=nb_le x k
 have h6:=hi.D
 have h7:=hs.W
 have h8:=hs.len
 have h9:=hs.entries (by have:=hx.n;omega)
 unfold PS.tot at h1
 omega
end Go.Proofs
namespace Go.Proofs
open Go Go.Sx
namespace PS.same
theorem orderU {s s':PS} (h:s.same s') (n:Int) (o:Int×Int):(s.orderU n o).same (s'.orderU n o):=by
 unfold PS.orderU
 rw[h.len]
 split
 ·exact h.put _ _
 split
 ·exact((h.put _ _).wrE _).wr _ _
 split
 ·exact⟨h.1,by show s.E++_=s'.E++_;rw[h.2]⟩
 split
 ·exact h.wrE _
 ·exact h
theorem drainU {s s':PS} (h:s.same s') (b:Nat):(s.drainU b).same (s'.drainU b):=by
 unfold PS.drainU
 rw[h.2]
 exact h.wr _ _
end PS.same
theorem rI_inj {a b:Int} (ha:a=-3∨0≤a) (hb:b=-3∨0≤b) (h:rI a=rI b):a=b:=by unfold rI at h;split at h<;>split at h<;>omega
theorem Sim.same_iff {x:Cache} (hx:x.Ok) {n:Nat} (hn:x.n=n) {k:Nat} (hk:k≤x.l.length) {r r':RS} {u u':PS} (h:Sim n r u) (h':Sim n r' u') (hi:InvC x k u) (hi':InvC x k u'):RS.same n r r'↔u.same u':=by
 have hn6:=hx.n
 have hi3:∀{u:PS},InvC x k u→∀b,n≤b→b<6→u.M.get b=-1:=fun hi b h1 h2=>by
  rcases hi.med b h2 with g|⟨q,g1,_,g2,g4⟩
  ·exact g
  ·have:=hx.blkn hn (show q<x.l.length by omega) g2
   omega
 constructor
 ·rintro⟨h1,h2,h3⟩
  refine⟨C6.ext' fun b hb=>?_,a1U (by rw[←h.len,←h'.len,h2]) fun e g1 g2=>C6.ext' fun b hb=>?_⟩
  ·by_cases hbn:b<n
   ·rw[←h.M b hbn,←h'.M b hbn,h1 b hbn]
   ·rw[hi3 hi b (by omega) hb,hi3 hi' b (by omega) hb]
  ·have e1:u.ep e=u.E[e]:=by unfold PS.ep;simp[List.getD_eq_getElem?_getD,g1]
   have e2:u'.ep e=u'.E[e]:=by unfold PS.ep;simp[List.getD_eq_getElem?_getD,g2]
   rw[←e1,←e2]
   by_cases hbn:b<n
   ·have:=h3 e (by rw[h.len];exact g1) b hbn
    rw[h.ep e b hbn,h'.ep e b hbn] at this
    exact rI_inj (h.nn e b hb) (h'.nn e b hb) this
   ·rw[h.hi e b (by omega) hb,h'.hi e b (by omega) hb]
 ·rintro⟨h1,h2⟩
  refine⟨fun b hb=>by rw[h.M b hb,h'.M b hb,h1],by rw[h.len,h'.len,h2],fun e _ b hb=>?_⟩
  have:u.ep e=u'.ep e:=by unfold PS.ep;rw[h2]
  rw[h.ep e b hb,h'.ep e b hb,this]
def GdR (x:Cache) (n k:Nat) (r:RS):Prop:=∃u D,RchU x k u D∧Sim n r u
namespace GdR
variable {x:Cache} {n k:Nat} {r:RS}
theorem bnd (hx:x.Ok) (hn:x.n=n) (h:GdR x n k r):0≤r.W∧r.W≤k∧0<r.E.length∧r.E.length≤k+1:=by
 obtain⟨u,D,h1,h2⟩:=h
 have:=h2.bnd hx hn h1
 omega
theorem begin (hx:x.Ok) (hn:x.n=n):GdR x n 0 RS.begin:=⟨_,_,.begin,Sim.begin (by have:=hx.n;omega)⟩
theorem drain (hx:x.Ok) (hn:x.n=n) (h:GdR x n k r) {b:Nat} (hc:canR n r b):GdR x n k (drS n r b):=by
 have hn6:=hx.n
 obtain⟨u,D,h1,h2⟩:=h
 have hc2:=(h2.canR_iff (by omega)).1 hc
 exact⟨_,_,h1.drain (b:=b) (by omega) hc2.2.2,h2.drain' (by omega) hc⟩
theorem order (hx:x.Ok) (hn:x.n=n) (h:GdR x n k r) (hk:k<x.l.length):GdR x n (k+1) (r.order n k (x.l.getD k (0,0))):=by
 have hn6:=hx.n
 obtain⟨u,D,h1,h2⟩:=h
 exact⟨_,_,h1.order hk,h2.order (by omega) (by rw[(h1.inv hx).len];omega) (by omega) (hx.blkn hn hk)⟩
end GdR
theorem capR {x:Cache} (hx:x.Small) {n:Nat} (hn:x.n=n) (k:Nat) (L:List RS) (hL:∀r∈L,GdR x n k r) (hnd:L.Pairwise fun a c=>¬RS.same n a c):L.length≤65536:=by
 classical
 let uO:RS→PS:=fun r=>if h:GdR x n k r then h.choose else PS.begin
 have hu:∀r∈L,(∃D,RchU x k (uO r) D)∧Sim n r (uO r):=fun r hr=>by
  have hg:=hL r hr
  show(∃D,RchU x k (if h:GdR x n k r then h.choose else PS.begin) D)∧Sim n r (if h:GdR x n k r then h.choose else PS.begin)
  rw[dif_pos hg]
  obtain⟨D,h1,h2⟩:=hg.choose_spec
  exact⟨⟨D,h1⟩,h2⟩
 have h1:(L.map fun r=>codeU x (uO r)).Nodup:=by
  rw[List.Nodup,a1P]
  refine a3H ?_ hnd
  intro a b ha hb hne hc
  obtain⟨⟨D,ga⟩,sa⟩:=hu a ha
  obtain⟨⟨D',gb⟩,sb⟩:=hu b hb
  have hs:=code_inj hx.ok hx.n hx.l ga.le (ga.inv hx.ok) (gb.inv hx.ok) hc
  exact hne ((Sim.same_iff hx.ok hn ga.le sa sb (ga.inv hx.ok).inv (gb.inv hx.ok).inv).2 hs)
 have:=a1p (m:=List.range 65536) h1 (fun c hc=>by
  obtain⟨r,hr,rfl⟩:=a1C.1 hc
  obtain⟨⟨D,ga⟩,_⟩:=hu r hr
  exact a1D.2 (code_lt hx.l ga.le (ga.inv hx.ok).inv))
 simpa using this
structure LstR (x:Cache) (n k:Nat) (L:List RS):Prop where
 good:∀r∈L,GdR x n k r
 nd:L.Pairwise fun a c=>¬RS.same n a c
theorem LstR.nil (x:Cache) (n k:Nat):LstR x n k []:=⟨by simp,by simp⟩
theorem mem_addR {n:Nat} {L:List RS} {s t:RS}:t∈addR n L s→t∈L∨t=s:=by
 unfold addR
 split
 ·exact .inl
 ·intro h;rcases a0M.1 h with h|h
  ·exact .inl h
  ·exact .inr (by simpa using h)
theorem addR_pre (n:Nat) (L:List RS) (s:RS):L <+: addR n L s:=by
 unfold addR
 split
 ·exact List.prefix_rfl
 ·exact List.prefix_append _ _
theorem RS.same_rfl (n:Nat) (s:RS):RS.same n s s:=⟨fun _ _=>rfl,rfl,fun _ _ _ _=>rfl⟩
theorem addR_has (n:Nat) (L:List RS) (s:RS):∃t∈addR n L s,RS.same n t s:=by
 unfold addR
 split
 ·assumption
 ·exact⟨s,by simp,RS.same_rfl n s⟩
theorem LstR.add {x:Cache} {n k:Nat} {L:List RS} (h:LstR x n k L) {s:RS} (hs:GdR x n k s):LstR x n k (addR n L s):=by
 refine⟨fun t ht=>(mem_addR ht).elim (h.good t) fun e=>e▸hs,?_⟩
 unfold addR
 split
 ·exact h.nd
 ·rename_i hno
  rw[List.pairwise_append]
  refine⟨h.nd,by simp,fun a ha c hc=>?_⟩
  simp only[a0L] at hc
  subst hc
  exact fun g=>hno ⟨a,ha,g⟩
theorem getR {L:List RS} {i:Nat} (h:i<L.length):L.getD i RS.begin=L[i]:=by simp[a0A,h]
theorem getR_mem {L:List RS} {i:Nat} (h:i<L.length):L.getD i RS.begin∈L:=by rw[getR h];exact a1F h
theorem getR_pre {L L':List RS} (hp:L <+: L') {i:Nat} (h:i<L.length):L'.getD i RS.begin=L.getD i RS.begin:=by
 obtain⟨t,rfl⟩:=hp
 simp only[a0A]
 rw[a0E h]
structure ClR (x:Cache) (n k:Nat) (L0 L:List RS) (i b:Nat):Prop where
 pre:L0 <+: L
 ok:LstR x n k L
 le:i≤L.length
 lt:0<b→i<L.length
 all:∀j,j<L.length→∀b',(j<i∧b'<n∨j=i∧b'<b)→canR n (L.getD j RS.begin) (b':Nat)→∃t∈L,RS.same n t (drS n (L.getD j RS.begin) (b':Nat))
namespace ClR
variable {x:Cache} {n k:Nat} {L0 L:List RS} {i b:Nat}
theorem start (h:LstR x n k L0):ClR x n k L0 L0 0 0:=⟨List.prefix_rfl,h,by omega,by omega,fun j _ b' h=>by omega⟩
theorem skip (h:ClR x n k L0 L i b) (hi:i<L.length) (hc:¬canR n (L.getD i RS.begin) (b:Nat)):ClR x n k L0 L i (b+1):=
 ⟨h.pre,h.ok,h.le,fun _=>hi,fun j hj b' hb hcan=>by
  rcases a1B j i with h1|h1
  ·exact h.all j hj b' (.inl ⟨h1,by omega⟩) hcan
  ·obtain rfl:j=i:=by omega
   rcases a0J (show b'≤b by omega) with h2|rfl
   ·exact h.all j hj b' (.inr ⟨rfl,h2⟩) hcan
   ·exact absurd hcan hc⟩
theorem add (hx:x.Ok) (hn:x.n=n) (h:ClR x n k L0 L i b) (hi:i<L.length) (hc:canR n (L.getD i RS.begin) (b:Nat)):ClR x n k L0 (addR n L (drS n (L.getD i RS.begin) (b:Nat))) i (b+1):=by
 have hp:=addR_pre n L (drS n (L.getD i RS.begin) (b:Nat))
 have hl:=hp.length_le
 have hh:=addR_has n L (drS n (L.getD i RS.begin) (b:Nat))
 have hok:=h.ok.add ((h.ok.good _ (getR_mem hi)).drain hx hn hc)
 have hold:∀j,j<L.length→∀b',(j<i∧b'<n∨j=i∧b'<b)→canR n (L.getD j RS.begin) (b':Nat)→∃t∈addR n L (drS n (L.getD i RS.begin) (b:Nat)),RS.same n t (drS n (L.getD j RS.begin) (b':Nat)):=fun j hj b' hb hcan=>by
  obtain⟨t,h1,h2⟩:=h.all j hj b' hb hcan
  exact⟨t,hp.subset h1,h2⟩
 refine⟨h.pre.trans hp,hok,by have:=h.le;omega,fun _=>by omega,fun j hj b' hb hcan=>?_⟩
 have hji:j<L.length:=by omega
 rw[getR_pre hp hji] at hcan ⊢
 rcases a1B j i with h1|h1
 ·exact hold j hji b' (.inl ⟨h1,by omega⟩) hcan
 ·obtain rfl:j=i:=by omega
  rcases a0J (show b'≤b by omega) with h2|rfl
  ·exact hold j hji b' (.inr ⟨rfl,h2⟩) hcan
  ·exact hh
theorem next (h:ClR x n k L0 L i n) (hi:i<L.length):ClR x n k L0 L (i+1) 0:=
 ⟨h.pre,h.ok,by omega,by omega,fun j hj b' hb hcan=>by
  rcases a0J (show j≤i by omega) with h1|rfl
  ·exact h.all j hj b' (.inl ⟨h1,by omega⟩) hcan
  ·exact h.all j hj b' (.inr ⟨rfl,by omega⟩) hcan⟩
end ClR
def Stands (x:Cache) (n k:Nat) (r:RS) (u:PS):Prop:=∃u' D',RchU x k u' D'∧Sim n r u'∧u'.same u
def CoverR (x:Cache) (n k:Nat) (L:List RS):Prop:=∀u D,RchU x k u D→∃r∈L,Stands x n k r u
structure EntR (x:Cache) (n k:Nat) (L:List RS):Prop where
 ok:LstR x n k L
 ne:0<L.length
 all:∀L',ClR x n k L L' L'.length 0→CoverR x n k L'
theorem cover_ofR {x:Cache} (hx:x.Ok) {n:Nat} (hn:x.n=n) {k:Nat} {L L':List RS} (hc:ClR x n k L L' L'.length 0)
  (he:∀u D,RchU x k u D→(k=0∧u=PS.begin)∨(∃k' u' D',k=k'+1∧RchU x k' u' D'∧k'<x.l.length∧u=u'.orderU k' (x.l.getD k' (0,0)))→∃r∈L,Stands x n k r u):CoverR x n k L':=by
 have hn6:=hx.n
 intro u D h
 induction h with
 |begin=>
  obtain⟨t,h1,h2⟩:=he _ _ .begin (.inl ⟨rfl,rfl⟩)
  exact⟨t,hc.pre.subset h1,h2⟩
 |@drain k u D b hr hb hcan ih=>
  obtain⟨r,h1,u',D',h2,h3,h4⟩:=ih hc he
  obtain⟨i,hi,rfl⟩:=a1G h1
  have hcan':=h4.can.2 hcan
  have hcr:canR n L'[i] (b:Nat):=(h3.canR_iff (by omega)).2 ⟨by omega,by omega,hcan'⟩
  rw[←getR hi] at hcr h3
  obtain⟨t,h5,h6⟩:=hc.all i hi b (.inl ⟨hi,by omega⟩) hcr
  obtain⟨v,Dv,h7,h8⟩:=hc.ok.good t h5
  have h9:Sim n (drS n (L'.getD i RS.begin) (b:Nat)) (u'.drainU b):=h3.drain' (by omega) hcr
  have h10:=h2.drain (b:=b) hb hcan'
  have h11:=(Sim.same_iff hx hn h7.le h8 h9 (h7.inv hx).inv (h10.inv hx).inv).1 h6
  exact⟨t,h5,v,Dv,h7,h8,h11.trans (h4.drainU b)⟩
 |@order k u D hr hk ih=>
  obtain⟨t,h1,h2⟩:=he _ _ (.order hr hk) (.inr ⟨k,u,D,rfl,hr,hk,rfl⟩)
  exact⟨t,hc.pre.subset h1,h2⟩
theorem EntR.begin {x:Cache} (hx:x.Ok) {n:Nat} (hn:x.n=n):EntR x n 0 [RS.begin]:=by
 refine⟨⟨fun r hr=>by rw[a0L.1 hr];exact GdR.begin hx hn,by simp⟩,by simp,fun L' hc=>cover_ofR hx hn hc ?_⟩
 rintro u D hr (⟨_,rfl⟩|⟨k',u',D',h0,_⟩)
 ·exact⟨RS.begin,by simp,_,_,hr,Sim.begin (by have:=hx.n;omega),rfl,rfl⟩
 ·omega
structure NxR (x:Cache) (n k:Nat) (L N:List RS) (j:Nat):Prop where
 ok:LstR x n (k+1) N
 all:∀i,i<j→∃t∈N,RS.same n t ((L.getD i RS.begin).order n k (x.l.getD k (0,0)))
namespace NxR
variable {x:Cache} {n k:Nat} {L N:List RS} {j:Nat}
theorem start:NxR x n k L [] 0:=⟨LstR.nil _ _ _,fun i hi=>by omega⟩
theorem add (hx:x.Ok) (hn:x.n=n) (h:NxR x n k L N j) (hj:GdR x n k (L.getD j RS.begin)) (hk:k<x.l.length):NxR x n k L (addR n N ((L.getD j RS.begin).order n k (x.l.getD k (0,0)))) (j+1):=by
 refine⟨h.ok.add (hj.order hx hn hk),fun i hi=>?_⟩
 rcases a0J (show i≤j by omega) with h1|rfl
 ·obtain⟨t,h2,h3⟩:=h.all i h1
  exact⟨t,(addR_pre _ _ _).subset h2,h3⟩
 ·exact addR_has _ _ _
theorem entry (hx:x.Ok) (hn:x.n=n) (h:NxR x n k L N L.length) (hL:LstR x n k L) (hk:k<x.l.length) (hpos:0<L.length) (hcov:CoverR x n k L):EntR x n (k+1) N:=by
 have hn6:=hx.n
 refine⟨h.ok,?_,fun L'' hc=>cover_ofR hx hn hc ?_⟩
 ·obtain⟨t,h1,_⟩:=h.all 0 hpos
  exact a3P h1
 ·rintro u D hr (⟨h0,_⟩|⟨k',u',D',h0,hr',hk',rfl⟩)
  ·omega
  ·obtain rfl:k'=k:=by omega
   obtain⟨r,h1,v,Dv,h2,h3,h4⟩:=hcov u' D' hr'
   obtain⟨i,hi,rfl⟩:=a1G h1
   obtain⟨t,h5,h6⟩:=h.all i hi
   rw[←getR hi] at h3
   obtain⟨w,Dw,h7,h8⟩:=h.ok.good t h5
   have h9:Sim n ((L.getD i RS.begin).order n k' (x.l.getD k' (0,0))) (v.orderU k' (x.l.getD k' (0,0))):=h3.order (by omega) (by rw[(h2.inv hx).len];omega) (by omega) (hx.blkn hn hk)
   have h10:=h2.order hk
   have h11:=(Sim.same_iff hx hn h7.le h8 h9 (h7.inv hx).inv (h10.inv hx).inv).1 h6
   exact⟨t,h5,w,Dw,h7,h8,h11.trans (h4.orderU _ _)⟩
end NxR
end Go.Proofs
namespace Go.Proofs
open Go Go.Sx
end Go.Proofs
namespace Go.Proofs
open Go Go.Sx
end Go.Proofs
namespace Go.Proofs
open Go Go.Sx
theorem posI_u {x:Cache} (hx:x.Ok) {u:PS} {D:List (Int×Int)} (h:RchU x x.l.length u D):PosI x u.M:=
 ⟨⟨⟨u.tidy,D⟩,u.M,false⟩,.inl ⟨rfl,u_rch hx h,rfl⟩,rfl⟩
theorem posI_torn {x:Cache} (hx:x.Ok) {u:PS} {D:List (Int×Int)} (h:RchU x x.l.length u D) {b:Nat} (hb:(b:Int)<x.n) (hc:u.can b):PosI x (u.M.set b (-2)):=by
 have hl:0<u.E.length:=by rw[(h.inv hx).len];omega
 exact⟨⟨⟨u.tidy.drain b,D++[((x.l.length:Int),(b:Int))]⟩,u.M.set b (-2),true⟩,.inr ⟨rfl,u.tidy,D,b,u_rch hx h,hb,(PS.can_tidy u hl b).2 hc,rfl,rfl⟩,rfl⟩
def Fits (n:Nat) (f:Nat→Int) (c:C6):Prop:=∀b,b<n→f b=c.get b
def tornF (f:Nat→Int) (b:Nat):Nat→Int:=fun j=>if j=b then -2 else f j
structure ImgsR (x:Cache) (n:Nat) (L:List (Nat→Int)):Prop where
 sound:∀f∈L,∃c,PosI x c∧Fits n f c
 cov:∀c,PosI x c→∃f∈L,Fits n f c
 len:L.length≤600000
theorem mem_addM {n:Nat} {L:List (Nat→Int)} {s t:Nat→Int}:t∈addM n L s→t∈L∨t=s:=by
 unfold addM
 split
 ·exact .inl
 ·intro h;rcases a0M.1 h with h|h
  ·exact .inl h
  ·exact .inr (by simpa using h)
theorem addM_sub (n:Nat) (L:List (Nat→Int)) (s:Nat→Int):∀f∈L,f∈addM n L s:=by
 unfold addM
 split
 ·exact fun f h=>h
 ·exact fun f h=>a1I _ h
theorem addM_has (n:Nat) (L:List (Nat→Int)) (s:Nat→Int):∃t∈addM n L s,∀b,b<n→t b=s b:=by
 unfold addM
 split
 ·assumption
 ·exact⟨s,by simp,fun _ _=>rfl⟩
theorem addM_len (n:Nat) (L:List (Nat→Int)) (s:Nat→Int):(addM n L s).length≤L.length+1:=by
 unfold addM
 split<;>simp
def HasR (n:Nat) (r:RS) (Ms:List (Nat→Int)) (t:Nat):Prop:=
 (0<t→∃f∈Ms,∀b,b<n→f b=r.M b)∧∀b:Nat,b+1<t→canR n r b→∃f∈Ms,∀j,j<n→f j=tornF r.M b j
theorem HasR.sub {n:Nat} {r:RS} {Ms Ms':List (Nat→Int)} {t:Nat} (h:HasR n r Ms t) (hs:∀f∈Ms,f∈Ms'):HasR n r Ms' t:=
 ⟨fun g=>(h.1 g).imp fun _ k=>⟨hs _ k.1,k.2⟩,fun b g c=>(h.2 b g c).imp fun _ k=>⟨hs _ k.1,k.2⟩⟩
structure MgR (x:Cache) (n:Nat) (L:List RS) (Ms:List (Nat→Int)) (k t:Nat):Prop where
 sound:∀f∈Ms,∃c,PosI x c∧Fits n f c
 len:Ms.length≤k*(n+1)+t
 old:∀i,i<k→HasR n (L.getD i RS.begin) Ms (n+1)
 cur:HasR n (L.getD k RS.begin) Ms t
namespace MgR
variable {x:Cache} {n:Nat} {L:List RS} {Ms:List (Nat→Int)} {k t:Nat}
theorem start:MgR x n L [] 0 0:=⟨by simp,by simp,fun i h=>by omega,fun h=>by omega,fun b h=>by omega⟩
theorem med (hx:x.Ok) (h:MgR x n L Ms k 0) (hg:GdR x n x.l.length (L.getD k RS.begin)):MgR x n L (addM n Ms (L.getD k RS.begin).M) k 1:=by
 have hs:=addM_sub n Ms (L.getD k RS.begin).M
 refine⟨fun f hf=>?_,?_,fun i hi=>(h.old i hi).sub hs,fun _=>addM_has _ _ _,fun b hb=>by omega⟩
 ·rcases mem_addM hf with hf|rfl
  ·exact h.sound f hf
  ·obtain⟨u,D,h1,h2⟩:=hg
   exact⟨u.M,posI_u hx h1,fun b hb=>h2.M b hb⟩
 ·have:=h.len
  have:=addM_len n Ms (L.getD k RS.begin).M
  omega
theorem skip {b:Nat} (h:MgR x n L Ms k (b+1)) (hc:¬canR n (L.getD k RS.begin) b):MgR x n L Ms k (b+1+1):=by
 refine⟨h.sound,by have:=h.len;omega,h.old,fun _=>h.cur.1 (by omega),fun b' hb' hc'=>?_⟩
 rcases a0J (show b'≤b by omega) with g|rfl
 ·exact h.cur.2 b' (by omega) hc'
 ·exact absurd hc' hc
theorem torn {b:Nat} (hx:x.Ok) (hn:x.n=n) (h:MgR x n L Ms k (b+1)) (hg:GdR x n x.l.length (L.getD k RS.begin)) (hc:canR n (L.getD k RS.begin) b):MgR x n L (addM n Ms (tornF (L.getD k RS.begin).M b)) k (b+1+1):=by
 have hn6:=hx.n
 have hs:=addM_sub n Ms (tornF (L.getD k RS.begin).M b)
 have hc':=h.cur.sub hs
 refine⟨fun f hf=>?_,?_,fun i hi=>(h.old i hi).sub hs,fun _=>hc'.1 (by omega),fun b' hb' hcan=>?_⟩
 ·rcases mem_addM hf with hf|rfl
  ·exact h.sound f hf
  ·obtain⟨u,D,h1,h2⟩:=hg
   have hcu:=(h2.canR_iff (by omega)).1 hc
   refine⟨u.M.set b (-2),posI_torn hx h1 (by omega) hcu.2.2,fun j hj=>?_⟩
   rw[C6.get_set (by omega) (by omega)]
   unfold tornF
   by_cases e:j=b
   ·subst e;simp
   ·rw[if_neg e,if_neg (by omega)]
    exact h2.M j hj
 ·have:=h.len
  have:=addM_len n Ms (tornF (L.getD k RS.begin).M b)
  omega
 ·rcases a0J (show b'≤b by omega) with g|rfl
  ·exact hc'.2 b' (by omega) hcan
  ·exact addM_has _ _ _
theorem next (h:MgR x n L Ms k (n+1)):MgR x n L Ms (k+1) 0:=by
 refine⟨h.sound,?_,fun i hi=>?_,fun g=>by omega,fun b g=>by omega⟩
 ·have:=h.len
  have e:(k+1)*(n+1)=k*(n+1)+(n+1):=Nat.succ_mul _ _
  omega
 ·rcases a0J (show i≤k by omega) with g|rfl
  ·exact h.old i g
  ·exact h.cur
theorem len4 (h:MgR x n L Ms k t) (hn:n≤3):Ms.length≤k*4+t:=by
 have:=h.len
 have h2:k*(n+1)≤k*4:=a3E _ (by omega)
 omega
theorem fin (hx:x.Small) (hn:x.n=n) (h:MgR x n L Ms L.length 0) (hcov:CoverR x n x.l.length L) (hcap:L.length≤65536):ImgsR x n Ms:=by
 have hn6:=hx.ok.n
 have hn3:=hx.n
 refine⟨h.sound,fun c hp=>?_,by have:=h.len4 (by omega);omega⟩
 obtain⟨u,D,h1,h2⟩:=hp.u hx.ok
 obtain⟨r,hr,u',D',g1,g2,g3⟩:=hcov u D h1
 obtain⟨i,hi,rfl⟩:=a1G hr
 have ho:=h.old i hi
 rw[getR hi] at ho
 rcases h2 with rfl|⟨b,hb,hc,rfl⟩
 ·obtain⟨f,f1,f2⟩:=ho.1 (by omega)
  exact⟨f,f1,fun j hj=>by rw[f2 j hj,g2.M j hj,g3.1]⟩
 ·have hcr:canR n L[i] (b:Nat):=(g2.canR_iff (by omega)).2 ⟨by omega,by omega,g3.can.2 hc⟩
  obtain⟨f,f1,f2⟩:=ho.2 b (by omega) hcr
  refine⟨f,f1,fun j hj=>?_⟩
  rw[f2 j hj,C6.get_set (by omega) (by omega)]
  unfold tornF
  by_cases e:j=b
  ·subst e;simp
  ·rw[if_neg e,if_neg (by omega),g2.M j hj,g3.1]
end MgR
namespace ImgsR
variable {x:Cache} {n:Nat} {L:List (Nat→Int)}
theorem val (h:ImgsR x n L) {b:Nat} (hb:b<n) (v:Int):PosV x b v↔∃i,i<L.length∧L.getD i (fun _=>0) b=v:=by
 constructor
 ·rintro⟨c,h1,rfl⟩
  obtain⟨f,f1,f2⟩:=h.cov c h1
  obtain⟨i,hi,rfl⟩:=a1G f1
  refine⟨i,hi,?_⟩
  rw[show L.getD i (fun _=>0)=L[i] by simp[a0A,hi]]
  exact f2 b hb
 ·rintro⟨i,hi,rfl⟩
  rw[show L.getD i (fun _=>0)=L[i] by simp[a0A,hi]]
  obtain⟨c,h1,h2⟩:=h.sound _ (a1F hi)
  exact⟨c,h1,(h2 b hb).symm⟩
theorem pos (h:ImgsR x n L) {l:List Int} (hl:l.length=n):(addM n L (fun b=>l.getD b 0)).length=L.length↔IsPos x l:=by
 have e:(addM n L (fun b=>l.getD b 0)).length=L.length↔∃g∈L,∀b,b<n→g b=l.getD b 0:=by
  unfold addM
  split
  ·rename_i g;exact⟨fun _=>g,fun _=>rfl⟩
  ·rename_i g
   exact⟨fun k=>by simp at k,fun k=>absurd k g⟩
 rw[e]
 constructor
 ·rintro⟨g,h1,h2⟩
  obtain⟨c,h3,h4⟩:=h.sound g h1
  exact⟨c,h3,fun b hb=>by rw[←h4 b (by omega),h2 b (by omega)]⟩
 ·rintro⟨c,h1,h2⟩
  obtain⟨f,f1,f2⟩:=h.cov c h1
  exact⟨f,f1,fun b hb=>by rw[f2 b hb,h2 b (by omega)]⟩
end ImgsR
end Go.Proofs
namespace Go.Proofs
open Go Go.Sx
end Go.Proofs
namespace Go.Proofs
open Go Go.Sx
set_option maxRecDepth 100000
set_option maxHeartbeats 4000000
namespace Ho
namespace Cmd
abbrev Puts (c:Cmd):Prop:=c.k=1∨c.k=2
def isO (c:Cmd):Bool:=!(c.k == 10 || c.k == 4 && c.t == -1)
def o (c:Cmd):Int×Int:=(if c.k=2∧c.t=-1 then 1 else c.k,c.b)
end Cmd
structure St where
 D:Nat
 O:List Nat
 K:List Int
def num (O:List Nat) (v:Int):Int:=if v<0 then v else(O.getD v.toNat 0:Nat)
namespace Hist
variable (h:Hist)
def nn:Nat:=h.n.toNat
def cache (O:List Nat):Cache:=⟨h.n,O.map fun i=>(h.at' i).o⟩
def Img (O:List Nat) (im:List Int):Prop:=im.length=h.nn∧∃c,PosI (h.cache O) c∧∀b,b<h.nn→im.getD b 0=num O (c.get b)
def resO (b z:Int) (O:List Nat):Int:=O.foldl (fun a i=>if(h.at' i).Puts∧(h.at' i).b=b then(h.at' i).v else a) z
def res (s:St) (b:Nat):Int:=h.resO b (s.K.getD b 0) s.O
def keep1 (k v:Int):Int:=if v=-1 then k else if v=-2 then -1 else(h.at' v.toNat).v
def keep (K im:List Int):List Int:=(List.range h.nn).map fun b=>h.keep1 (K.getD b 0) (im.getD b 0)
def May (D i:Nat):Prop:=D.testBit i=false∧∀j,j<h.l.length→(D.testBit j=false→(h.at' j).t≠-1→¬(h.at' j).t<(h.at' i).f)∧(D.testBit j=true→(h.at' j).k=9→¬(h.at' i).f<(h.at' j).f)
def Fit (s:St) (i:Nat):Prop:=(h.at' i).k=10→(h.at' i).t≠-1∧h.res s (h.at' i).b.toNat=(h.at' i).v
def doO (s:St) (i:Nat):St:=⟨s.D ||| 1 <<< i,if(h.at' i).isO then s.O++[i] else s.O,s.K⟩
def fall (s:St) (i:Nat) (im:List Int):St:=⟨s.D ||| 1 <<< i,[],h.keep s.K im⟩
def st0:St:=⟨0,[],List.replicate h.nn 0⟩
inductive Step:St→St→Prop
 |cmd {s:St} {i:Nat}:i<h.l.length→h.May s.D i→(h.at' i).k≠9→h.Fit s i→Step s (h.doO s i)
 |fall {s:St} {i:Nat} {im:List Int}:i<h.l.length→h.May s.D i→(h.at' i).k=9→h.Img s.O im→Step s (h.fall s i im)
inductive Rea:St→Prop
 |begin:Rea h.st0
 |step {s s':St}:Rea s→h.Step s s'→Rea s'
def Whole (s:St):Prop:=∀i,i<h.l.length→(h.at' i).t≠-1→s.D.testBit i=true
def End (s:St):Prop:=h.Rea s∧h.Whole s
def Legal:Prop:=∃s,h.End s
def cut (time:Int) (c:Cmd):Cmd:=if time<c.t then {c with t:=-1,v:=if c.k=10 then 0 else c.v} else c
def upto (time:Int):Hist:=⟨h.n,(h.l.filter fun c=>decide (c.f≤time)).map (cut time)⟩
end Hist
structure Inv (h:Hist) (s:St):Prop where
 D:s.D<2 ^ h.l.length
 nd:s.O.Nodup
 O:∀i∈s.O,i<h.l.length∧s.D.testBit i=true∧(h.at' i).isO=true∧(h.at' i).k≠9
 len:s.K.length=h.nn
 K:∀b,b<h.nn→-1≤s.K.getD b 0∧s.K.getD b 0≤99
namespace Hist
variable {h:Hist}
theorem Ok.nn (g:h.Ok):(h.nn:Int)=h.n∧1≤h.nn∧h.nn≤6:=by
 have:=g.n
 unfold Hist.nn
 omega
theorem bit_lt {D i n:Nat} (hD:D<2 ^ n) (hi:i<n):D ||| 1 <<< i<2 ^ n:=by
 refine Nat.or_lt_two_pow hD ?_
 rw[Nat.one_shiftLeft]
 exact Nat.pow_lt_pow_right (by omega) hi
theorem bit_or (D i j:Nat):(D ||| 1 <<< i).testBit j=(D.testBit j || decide (i=j)):=by
 rw[Nat.testBit_or,Nat.one_shiftLeft,Nat.testBit_two_pow]
theorem Ok.cache (g:h.Ok) {s:St} (hi:Inv h s):(h.cache s.O).Ok:=by
 have hl:s.O.length≤h.l.length:=by
  have:=a1O hi.nd (l₂:=List.range h.l.length) (fun i hi'=>a1D.2 (hi.O i hi').1)
  simpa using this
 have hlen:=g.len
 refine⟨g.n,by unfold Hist.cache;simp;omega,?_⟩
 intro o ho
 unfold Hist.cache at ho
 obtain⟨i,hi',rfl⟩:=a1C.1 ho
 obtain⟨h1,_,h3,h4⟩:=hi.O i hi'
 have hc:=g.cmd i h1
 generalize h.at' i=c at *
 unfold Cmd.Ok at hc
 unfold Cmd.isO at h3
 simp only[a3F,Bool.or_eq_false_iff,Bool.and_eq_false_iff,beq_eq_false_iff_ne] at h3
 unfold Cache.OkO Cmd.o Hist.cache
 dsimp only
 split<;>omega
end Hist
end Ho
end Go.Proofs
namespace Go.Proofs
open Go Go.Sx
set_option maxRecDepth 100000
set_option maxHeartbeats 4000000
namespace Ho
namespace Hist
variable {h:Hist}
theorem Ok.small (g:h.Ok) (hn:h.n≤2) (hl:h.l.length≤6) {s:St} (hi:Inv h s):(h.cache s.O).Small:=by
 have hl2:s.O.length≤h.l.length:=by
  have:=a1O hi.nd (l₂:=List.range h.l.length) (fun i hi'=>a1D.2 (hi.O i hi').1)
  simpa using this
 refine⟨g.cache hi,by unfold Hist.cache;dsimp only;omega,by unfold Hist.cache;simp;omega⟩
theorem keep_len (K im:List Int):(h.keep K im).length=h.nn:=by simp[Hist.keep]
theorem keep_at {K im:List Int} {b:Nat} (hb:b<h.nn):(h.keep K im).getD b 0=h.keep1 (K.getD b 0) (im.getD b 0):=by
 simp[Hist.keep,a0A,hb]
theorem Img.at (g:h.Ok) {s:St} (hi:Inv h s) {im:List Int} (hm:h.Img s.O im) {b:Nat} (hb:b<h.nn):im.getD b 0=-1∨im.getD b 0=-2∨∃i:Nat,im.getD b 0=i∧i∈s.O∧(h.at' i).Puts∧(h.at' i).b=b:=by
 obtain⟨_,c,hc,he⟩:=hm
 have hnn:=g.nn
 rw[he b hb]
 rcases hc.holds (g.cache hi) (show b<6 by omega) with e|e|⟨q,h1,h2,h3,h4⟩
 ·rw[e];exact .inr (.inl rfl)
 ·rw[e];exact .inl rfl
 ·rw[h2]
  refine .inr (.inr ⟨s.O.getD q 0,?_,?_,?_⟩)
  ·unfold num
   rw[if_neg (by omega)]
   simp
  ·have h1:q<s.O.length:=by simpa [Hist.cache] using h1
   rw[a0A,a0D h1]
   exact a1F h1
  ·have h1:q<s.O.length:=by simpa [Hist.cache] using h1
   have e1:(h.cache s.O).l.getD q (0,0)=(h.at' (s.O.getD q 0)).o:=by
    unfold Hist.cache
    simp[a0A,h1]
   rw[e1] at h3 h4
   generalize h.at' (s.O.getD q 0)=c' at *
   unfold Cmd.o at h3 h4
   dsimp only at h3 h4
   refine⟨?_,h4⟩
   unfold Cmd.Puts
   split at h3<;>omega
theorem Ok.val (g:h.Ok) {i:Nat} (hi:i<h.l.length):-1≤(h.at' i).v∧(h.at' i).v≤99:=by
 have:=g.cmd i hi
 unfold Cmd.Ok at this
 omega
theorem Inv.begin (g:h.Ok):Inv h h.st0:=by
 have hnn:=g.nn
 refine⟨Nat.two_pow_pos _,List.nodup_nil,fun i hi=>by simp[st0] at hi,by simp[st0],fun b hb=>?_⟩
 simp[st0,a0A,hb]
theorem Inv.step (g:h.Ok) {s s':St} (hi:Inv h s) (hs:h.Step s s'):Inv h s':=by
 cases hs with
 |@cmd i h1 h2 h3 h4=>
  refine⟨bit_lt hi.D h1,?_,?_,hi.len,hi.K⟩
  ·unfold doO
   dsimp only
   split
   ·rw[a2N]
    refine⟨hi.nd,by simp,?_⟩
    rintro a ha b hb rfl
    simp at hb
    subst hb
    have h5:=h2.1
    rw[(hi.O _ ha).2.1] at h5
    cases h5
   ·exact hi.nd
  ·intro j hj
   unfold doO at hj ⊢
   dsimp only at hj ⊢
   rw[bit_or]
   split at hj
   ·rename_i hO
    rcases a0M.1 hj with hj|hj
    ·obtain⟨a1,a2,a3,a4⟩:=hi.O j hj
     exact⟨a1,by rw[a2];rfl,a3,a4⟩
    ·simp at hj
     subst hj
     exact⟨h1,by simp,hO,h3⟩
   ·obtain⟨a1,a2,a3,a4⟩:=hi.O j hj
    exact⟨a1,by rw[a2];rfl,a3,a4⟩
 |@fall i im h1 h2 h3 h4=>
  refine⟨bit_lt hi.D h1,List.nodup_nil,fun j hj=>by simp[Hist.fall] at hj,keep_len _ _,fun b hb=>?_⟩
  unfold Hist.fall
  dsimp only
  rw[keep_at hb]
  have hk:=hi.K b hb
  unfold keep1
  rcases Img.at g hi h4 hb with e|e|⟨q,e,hq,_⟩
  ·rw[e,if_pos rfl];exact hk
  ·rw[e,if_neg (by omega),if_pos rfl];omega
  ·rw[e,if_neg (by omega),if_neg (by omega)]
   exact g.val (hi.O q hq).1
theorem Rea.inv (g:h.Ok) {s:St} (hr:h.Rea s):Inv h s:=by
 induction hr with
 |begin=>exact Inv.begin g
 |step _ hs ih=>exact Inv.step g ih hs
theorem resO_range (g:h.Ok) {b z:Int} (hz:-1≤z∧z≤99):∀O:List Nat,(∀i∈O,i<h.l.length)→-1≤h.resO b z O∧h.resO b z O≤99:=by
 intro O
 unfold resO
 induction O generalizing z with
 |nil=>intro _;exact hz
 |cons i O ih=>
  intro hO
  rw[List.foldl_cons]
  refine ih ?_ (fun j hj=>hO j (a1X _ hj))
  split
  ·exact g.val (hO i (a2U ..))
  ·exact hz
theorem resO_snoc (b z:Int) (O:List Nat) (i:Nat):h.resO b z (O++[i])=if(h.at' i).Puts∧(h.at' i).b=b then(h.at' i).v else h.resO b z O:=by
 unfold resO
 rw[List.foldl_append]
 rfl
theorem Ok.asc (g:h.Ok) {i k:Nat} (hi:i<h.l.length) (hk:k<h.l.length):(h.at' k).f<(h.at' i).f↔k<i:=by
 by_cases e:k=i
 ·subst e;omega
 ·have:=g.two i hi k hk e
  unfold Cmd.Bad at this
  simp only[not_or,a0T] at this
  exact this.2.2.2.1.symm
theorem Ok.upto_take (g:h.Ok) (time:Int):∃m,m≤h.l.length∧(∀i,i<m→(h.at' i).f≤time)∧(∀i,m≤i→i<h.l.length→time<(h.at' i).f)∧h.upto time=⟨h.n,(h.l.take m).map (cut time)⟩:=by
 have key:∀l:List Cmd,(∀i k,k<i→i<l.length→(l.getD k c0).f<(l.getD i c0).f)→∃m,m≤l.length∧(∀i,i<m→(l.getD i c0).f≤time)∧(∀i,m≤i→i<l.length→time<(l.getD i c0).f)∧l.filter (fun c=>decide (c.f≤time))=l.take m:=by
  intro l
  induction l with
  |nil=>intro _;exact⟨0,by simp,by simp,by simp,rfl⟩
  |cons a l ih=>
   intro ha
   by_cases hf:a.f≤time
   ·obtain⟨m,m1,m2,m3,m4⟩:=ih (fun i k hk hi=>by simpa using ha (i+1) (k+1) (by omega) (by simpa using hi))
    refine⟨m+1,by simpa using m1,fun i hi=>?_,fun i h1 h2=>?_,?_⟩
    ·cases i with
     |zero=>simpa using hf
     |succ i=>simpa using m2 i (by omega)
    ·cases i with
     |zero=>omega
     |succ i=>simpa using m3 i (by omega) (by simpa using h2)
    ·rw[List.filter_cons,if_pos (by simpa using hf),m4,List.take_succ_cons]
   ·have hall:∀i,i<(a :: l).length→time<((a :: l).getD i c0).f:=by
     intro i hi
     cases i with
     |zero=>simp;omega
     |succ i=>
      have:=ha (i+1) 0 (by omega) hi
      simp at this ⊢
      omega
    refine⟨0,by omega,fun i hi=>by omega,fun i _ h2=>hall i h2,?_⟩
    rw[List.take_zero,List.filter_eq_nil_iff]
    intro c hc
    obtain⟨i,hi,rfl⟩:=a1G hc
    have:=hall i hi
    rw[a0A,a0D hi] at this
    simp at this ⊢
    omega
 obtain⟨m,m1,m2,m3,m4⟩:=key h.l (fun i k hk hi=>(g.asc hi (by omega)).2 hk)
 exact⟨m,m1,m2,m3,by unfold Hist.upto;rw[m4]⟩
end Hist
end Ho
end Go.Proofs
namespace Go.Proofs
open Go Go.Sx
set_option maxRecDepth 100000
set_option maxHeartbeats 4000000
namespace Ho
namespace Hist
variable {h:Hist}
theorem cut_ok {n time:Int} {c:Cmd} (hc:c.Ok n) (hf:c.f≤time):(cut time c).Ok n:=by
 unfold cut
 split
 ·unfold Cmd.Ok at *
  dsimp only
  split<;>omega
 ·exact hc
theorem cut_k (time:Int) (c:Cmd):(cut time c).k=c.k∧(cut time c).b=c.b∧(cut time c).f=c.f:=by
 unfold cut
 split<;>exact⟨rfl,rfl,rfl⟩
theorem cut_t (time:Int) (c:Cmd):(cut time c).t=if time<c.t then -1 else c.t:=by
 unfold cut
 split<;>rfl
theorem cut_v (time:Int) (c:Cmd) (hc:c.k≠10):(cut time c).v=c.v:=by
 unfold cut
 split
 ·rfl
 ·rfl
theorem cut_same {time:Int} {c:Cmd} (h:¬time<c.t):cut time c=c:=by
 unfold cut
 rw[if_neg h]
theorem at_take {m:Nat} (hm:m≤h.l.length) (time:Int) {i:Nat} (hi:i<m):(⟨h.n,(h.l.take m).map (cut time)⟩:Hist).at' i=cut time (h.at' i):=by
 unfold Hist.at'
 dsimp only
 have h1:i<h.l.length:=by omega
 simp[a0A,hi,h1]
theorem Ok.upto (g:h.Ok) (time:Int):(h.upto time).Ok:=by
 obtain⟨m,m1,m2,m3,m4⟩:=g.upto_take time
 rw[m4]
 have hlen:=g.len
 refine⟨g.n,by simp;omega,fun i hi=>?_,fun i hi k hk hne=>?_⟩
 ·have hi:i<m:=by simp at hi;omega
  rw[at_take m1 time hi]
  exact cut_ok (g.cmd i (by omega)) (m2 i hi)
 ·have hi:i<m:=by simp at hi;omega
  have hk:k<m:=by simp at hk;omega
  rw[at_take m1 time hi,at_take m1 time hk]
  have h2:=g.two i (by omega) k (by omega) hne
  have c1:=g.cmd i (by omega)
  have c2:=g.cmd k (by omega)
  have f1:=m2 i hi
  have f2:=m2 k hk
  change (h.at' i).f≤time at f1
  change (h.at' k).f≤time at f2
  generalize h.at' i=c at *
  generalize h.at' k=o at *
  unfold Cmd.Bad at *
  rw[(cut_k time c).1,(cut_k time c).2.2,(cut_k time o).2.2,cut_t,cut_t]
  unfold Cmd.Ok at c1 c2
  simp only[not_or,not_and,a0T] at h2 ⊢
  refine⟨h2.1,?_,?_,h2.2.2.2.1,?_⟩
  ·split<;>omega
  ·split<;>split<;>omega
  ·intro a b
   have:=h2.2.2.2.2 a b
   split<;>omega
end Hist
end Ho
end Go.Proofs
namespace Go.Proofs
open Go Go.Sx
set_option maxRecDepth 100000
set_option maxHeartbeats 4000000
def C6.ren (f:Int→Int) (c:C6):C6:=⟨f c.a0,f c.a1,f c.a2,f c.a3,f c.a4,f c.a5⟩
theorem C6.ren_get (f:Int→Int) (c:C6) {b:Nat} (hb:b<6):(c.ren f).get b=f (c.get b):=by
 have hb':b=0∨b=1∨b=2∨b=3∨b=4∨b=5:=by omega
 rcases hb' with rfl|rfl|rfl|rfl|rfl|rfl<;>rfl
theorem C6.ren_set (f:Int→Int) (c:C6) (b:Nat) (n:Int):(c.set b n).ren f=(c.ren f).set b (f n):=by
 rcases b with _|_|_|_|_|_|b<;>rfl
theorem C6.ren_all (f:Int→Int) (n:Int):(C6.all n).ren f=C6.all (f n):=rfl
structure Ren (f:Int→Int):Prop where
 gone:∀v,f v=-3↔v=-3
 old:f (-1)=-1
 torn:f (-2)=-2
namespace Ren
variable {f:Int→Int}
theorem three (h:Ren f):f (-3)=-3:=(h.gone _).2 rfl
theorem no (h:Ren f):NO.ren f=NO:=by unfold NO;rw[C6.ren_all,h.three]
theorem no_iff (h:Ren f) {c:C6}:c.ren f=NO↔c=NO:=by
 constructor
 ·intro e
  refine C6.ext' fun b hb=>?_
  have:(c.ren f).get b=NO.get b:=by rw[e]
  rw[C6.ren_get f c hb,C6.get_all hb,h.gone] at this
  rw[this,C6.get_all hb]
 ·rintro rfl;exact h.no
end Ren
namespace PS
def ren (f:Int→Int) (u:PS):PS:=⟨u.M.ren f,u.E.map (C6.ren f),u.W⟩
variable {f:Int→Int}
theorem ren_len (u:PS):(u.ren f).E.length=u.E.length:=by simp[ren]
theorem ren_ep (h:Ren f) (u:PS) (e:Nat):(u.ren f).ep e=(u.ep e).ren f:=by
 unfold ren ep
 simp only[a0A,a2G]
 cases u.E[e]? with
 |none=>exact h.no.symm
 |some c=>rfl
theorem ren_wr (h:Ren f) (u:PS) {e b:Nat} (hb:b<6):(u.wr e b).ren f=(u.ren f).wr e b:=by
 unfold wr
 rw[ren_ep h,C6.ren_get f _ hb]
 by_cases hc:(u.ep e).get b=-3
 ·rw[if_pos hc,if_pos ((h.gone _).2 hc)]
 ·rw[if_neg hc,if_neg (fun g=>hc ((h.gone _).1 g))]
  unfold ren
  simp only[C6.ren_set,List.map_set,h.three]
theorem ren_wrB (h:Ren f) (u:PS) (e:Nat):∀b,b≤6→(u.wrB e b).ren f=(u.ren f).wrB e b
 |0,_=>rfl
 |b+1,hb=>by
  show((u.wrB e b).wr e b).ren f=((u.ren f).wrB e b).wr e b
  rw[ren_wr h _ (by omega),ren_wrB h u e b (by omega)]
theorem ren_wrE (h:Ren f) (u:PS):∀e,(u.wrE e).ren f=(u.ren f).wrE e
 |0=>rfl
 |e+1=>by
  show((u.wrE e).wrB e 6).ren f=((u.ren f).wrE e).wrB e 6
  rw[ren_wrB h _ _ 6 (by omega),ren_wrE h u e]
theorem ren_put (h:Ren f) (u:PS) (b:Nat) (n:Int):(u.put b n).ren f=(u.ren f).put b (f n):=by
 unfold put
 rw[ren_ep h,ren_len]
 unfold ren
 simp only[List.map_set,C6.ren_set]
theorem ren_orderU (h:Ren f) (u:PS) (n:Int) {o:Int×Int} (ho:o.1=2→o.2.toNat<6):(u.orderU n o).ren f=(u.ren f).orderU (f n) o:=by
 unfold orderU
 by_cases h1:o.1=1
 ·rw[if_pos h1,if_pos h1,ren_put h]
 rw[if_neg h1,if_neg h1]
 by_cases h2:o.1=2
 ·rw[if_pos h2,if_pos h2,ren_wr h _ (ho h2),ren_wrE h,ren_put h,ren_len]
 rw[if_neg h2,if_neg h2]
 by_cases h3:o.1=3
 ·rw[if_pos h3,if_pos h3]
  unfold ren
  simp only[a1L,a1Q,a3G,h.no]
 rw[if_neg h3,if_neg h3]
 by_cases h4:o.1=4
 ·rw[if_pos h4,if_pos h4,ren_wrE h,ren_len]
 rw[if_neg h4,if_neg h4]
theorem ren_idx (h:Ren f) (u:PS):idxC isS (u.ren f).E=idxC isS u.E:=by
 have e:(isS ∘ C6.ren f)=isS:=by
  funext c
  show isS (c.ren f)=isS c
  rw[Bool.eq_iff_iff,a3j,a3j]
  exact not_congr h.no_iff
 unfold idxC ren
 rw[List.findIdx?_map,e]
theorem ren_can (h:Ren f) (u:PS) {b:Nat} (hb:b<6):(u.ren f).can b↔u.can b:=by
 unfold can
 rw[ren_idx h,ren_ep h,C6.ren_get f _ hb]
 exact and_congr_right fun _=>not_congr (h.gone _)
theorem ren_drainU (h:Ren f) (u:PS) {b:Nat} (hb:b<6):(u.drainU b).ren f=(u.ren f).drainU b:=by
 unfold drainU
 rw[ren_idx h,ren_wr h _ hb]
theorem ren_begin (h:Ren f):PS.begin.ren f=PS.begin:=by
 unfold PS.begin ren
 simp only[C6.ren_all,a1Q,a3G,h.old,h.three]
end PS
namespace Ho
theorem num_ren (O:List Nat):Ren (num O):=by
 refine⟨fun v=>?_,rfl,rfl⟩
 unfold num
 split<;>omega
inductive RchN (h:Hist):List Nat→PS→Prop
 |begin:RchN h [] PS.begin
 |drain {O:List Nat} {u:PS} {b:Nat}:RchN h O u→b<h.nn→u.can b→RchN h O (u.drainU b)
 |order {O:List Nat} {u:PS} {i:Nat}:RchN h O u→RchN h (O++[i]) (u.orderU i (h.at' i).o)
theorem rchU_ext {x y:Cache} (hn:x.n=y.n) {m:Nat} (hm:m≤y.l.length) (he:∀k,k<m→x.l.getD k (0,0)=y.l.getD k (0,0)) {k:Nat} {u:PS} {D:List (Int×Int)} (h:RchU x k u D):k≤m→RchU y k u D:=by
 induction h with
 |begin=>exact fun _=>.begin
 |drain _ hb hc ih=>exact fun hk=>.drain (ih hk) (by rw[←hn];exact hb) hc
 |@order k _ _ _ hlt ih=>
  intro hk
  rw[he k (by omega)]
  exact .order (ih (by omega)) (by omega)
end Ho
end Go.Proofs
namespace Go.Proofs
open Go Go.Sx
set_option maxRecDepth 100000
set_option maxHeartbeats 4000000
namespace Ho
def PN (h:Hist) (O:List Nat) (k:Nat) (u:PS):Prop:=∃u0 D,RchU (h.cache O) k u0 D∧u=u0.ren (num O)
section
variable {h:Hist} {O:List Nat}
theorem a3m:(h.cache O).l.length=O.length:=by simp[Hist.cache]
theorem cache_at {k:Nat} (hk:k<O.length):(h.cache O).l.getD k (0,0)=(h.at' (O.getD k 0)).o:=by
 simp[Hist.cache,a0A,hk]
theorem num_nat {k:Nat}:num O (k:Int)=(O.getD k 0:Nat):=by
 unfold num
 rw[if_neg (by omega)]
 simp
theorem blk6 (hx:(h.cache O).Ok) {k:Nat} (hk:k<O.length):(h.at' (O.getD k 0)).o.1=1∨(h.at' (O.getD k 0)).o.1=2→0≤(h.at' (O.getD k 0)).o.2∧(h.at' (O.getD k 0)).o.2<h.n:=by
 intro h1
 have h2:=hx.ord ((h.at' (O.getD k 0)).o) (by
  unfold Hist.cache
  refine a1C.2 ⟨O.getD k 0,?_,rfl⟩
  rw[a0A,a0D hk]
  exact a1F hk)
 unfold Cache.OkO at h2
 change _∧(0≤_∧_≤h.n-1)∨_ at h2
 omega
namespace PN
theorem begin:PN h O 0 PS.begin:=⟨PS.begin,[],.begin,(PS.ren_begin (num_ren O)).symm⟩
theorem drain {k:Nat} {u:PS} {b:Nat} (hk:PN h O k u) (hb:(b:Int)<h.n) (hb6:b<6) (hc:u.can b):PN h O k (u.drainU b):=by
 obtain⟨u0,D,h1,rfl⟩:=hk
 rw[PS.ren_can (num_ren O) _ hb6] at hc
 exact⟨_,_,.drain h1 hb hc,(PS.ren_drainU (num_ren O) _ hb6).symm⟩
theorem order (hx:(h.cache O).Ok) {k:Nat} {u:PS} (hk:PN h O k u) (hl:k<O.length):PN h O (k+1) (u.orderU (O.getD k 0:Nat) (h.at' (O.getD k 0)).o):=by
 obtain⟨u0,D,h1,rfl⟩:=hk
 have hb:=blk6 hx hl
 have hn:=hx.n
 change 1≤h.n∧h.n≤6 at hn
 refine⟨_,_,.order h1 (by rwa [a3m]),?_⟩
 rw[cache_at hl,PS.ren_orderU (num_ren O) _ _ (fun g=>by have:=hb (.inr g);omega),num_nat]
theorem rec' (hx:(h.cache O).Ok) {P:Nat→PS→Prop} (h0:P 0 PS.begin) (hd:∀k u (b:Nat),PN h O k u→P k u→(b:Int)<h.n→u.can b→P k (u.drainU b))
  (ho:∀k u,PN h O k u→P k u→k<O.length→P (k+1) (u.orderU (O.getD k 0:Nat) (h.at' (O.getD k 0)).o)):∀k u,PN h O k u→P k u:=by
 rintro k _ ⟨u0,D,h1,rfl⟩
 have hn:=hx.n
 change 1≤h.n∧h.n≤6 at hn
 induction h1 with
 |begin=>rw[PS.ren_begin (num_ren O)];exact h0
 |@drain k u D b h1 hb hc ih=>
  have hb':(b:Int)<h.n:=hb
  rw[PS.ren_drainU (num_ren O) _ (by omega)]
  exact hd _ _ _ ⟨_,_,h1,rfl⟩ ih hb ((PS.ren_can (num_ren O) _ (by omega)).2 hc)
 |@order k u D h1 hk ih=>
  rw[a3m] at hk
  have hb:=blk6 hx hk
  rw[cache_at hk,PS.ren_orderU (num_ren O) _ _ (fun g=>by have:=hb (.inr g);omega),num_nat]
  exact ho _ _ ⟨_,_,h1,rfl⟩ ih hk
theorem le {k:Nat} {u:PS} (hk:PN h O k u):k≤O.length:=by
 obtain⟨u0,D,h1,rfl⟩:=hk
 have:=h1.le
 rwa [a3m] at this
theorem len (hx:(h.cache O).Ok) {k:Nat} {u:PS} (hk:PN h O k u):0<u.E.length∧u.E.length≤k+1:=by
 obtain⟨u0,D,h1,rfl⟩:=hk
 have h2:=(h1.inv hx).len
 have h3:=nb_le (h.cache O) k
 rw[PS.ren_len]
 omega
theorem med (hx:(h.cache O).Ok) {k:Nat} {u:PS} (hk:PN h O k u) {b:Nat} (hb:b<6):u.M.get b=-1∨∃q,q<k∧u.M.get b=(O.getD q 0:Nat)∧(h.at' (O.getD q 0)).Puts∧(h.at' (O.getD q 0)).b=b:=by
 have hle:=hk.le
 obtain⟨u0,D,h1,rfl⟩:=hk
 have e:(u0.ren (num O)).M.get b=num O (u0.M.get b):=C6.ren_get _ _ hb
 rw[e]
 rcases(h1.inv hx).inv.med b hb with g|⟨q,h2,h3,h4,h5⟩
 ·rw[g];exact .inl rfl
 ·rw[h3,num_nat]
  refine .inr ⟨q,h2,rfl,?_⟩
  rw[cache_at (by omega)] at h4 h5
  generalize h.at' (O.getD q 0)=c at *
  unfold Cmd.o at h4 h5
  dsimp only at h4 h5
  refine⟨?_,h5⟩
  unfold Cmd.Puts
  split at h4<;>omega
theorem cell (hx:(h.cache O).Ok) {k:Nat} {u:PS} (hk:PN h O k u) {e b:Nat} (hb:b<6):(u.ep e).get b=-3∨∃q,q<k∧(u.ep e).get b=(O.getD q 0:Nat)∧(h.at' (O.getD q 0)).Puts∧(h.at' (O.getD q 0)).b=b:=by
 have hle:=hk.le
 obtain⟨u0,D,h1,rfl⟩:=hk
 have e:((u0.ren (num O)).ep e).get b=num O ((u0.ep e).get b):=by rw[PS.ren_ep (num_ren O),C6.ren_get _ _ hb]
 rw[e]
 rcases(h1.inv hx).inv.cell _ b hb with g|⟨q,h2,h3,⟨h4,h5⟩,_⟩
 ·rw[g];exact .inl rfl
 ·rw[h3,num_nat]
  refine .inr ⟨q,h2,rfl,?_⟩
  rw[cache_at (by omega)] at h4 h5
  generalize h.at' (O.getD q 0)=c at *
  unfold Cmd.o at h4 h5
  dsimp only at h4 h5
  refine⟨?_,h5⟩
  unfold Cmd.Puts
  split at h4<;>omega
theorem hi (g:h.Ok) (hO:∀i∈O,i<h.l.length) (hx:(h.cache O).Ok) {k:Nat} {u:PS} (hk:PN h O k u) {b:Nat} (hb:b<6) (hn:h.n≤b):u.M.get b=-1∧∀e,(u.ep e).get b=-3:=by
 have key:∀q,q<k→¬((h.at' (O.getD q 0)).Puts∧(h.at' (O.getD q 0)).b=b):=by
  rintro q hq ⟨h1,h2⟩
  have hql:q<O.length:=a0Y hq hk.le
  have:=g.cmd _ (hO (O.getD q 0) (by
   rw[a0A,a0D hql]
   exact a1F hql))
  generalize h.at' (O.getD q 0)=c at *
  unfold Cmd.Ok at this
  unfold Cmd.Puts at h1
  omega
 refine⟨?_,fun e=>?_⟩
 ·rcases hk.med hx hb with h1|⟨q,h1,_,h2⟩
  ·exact h1
  ·exact absurd h2 (key q h1)
 ·rcases hk.cell hx hb with h1|⟨q,h1,_,h2⟩
  ·exact h1
  ·exact absurd h2 (key q h1)
theorem can_n (g:h.Ok) (hO:∀i∈O,i<h.l.length) (hx:(h.cache O).Ok) {k:Nat} {u:PS} (hk:PN h O k u) {b:Nat} (hb:b<6) (hc:u.can b):(b:Int)<h.n:=by
 rcases Int.lt_or_le b h.n with h1|h1
 ·exact h1
 ·exact absurd ((hk.hi g hO hx hb h1).2 _) hc.2
theorem cap (hx:(h.cache O).Small) {k:Nat} (L:List PS) (hL:∀u∈L,PN h O k u) (hnd:L.Pairwise fun a c=>¬a.same c):L.length≤65536:=by
 classical
 let uO:PS→PS:=fun r=>if h:PN h O k r then h.choose else PS.begin
 have hu:∀r∈L,(∃D,RchU (h.cache O) k (uO r) D)∧r=(uO r).ren (num O):=fun r hr=>by
  have hg:=hL r hr
  show(∃D,RchU _ k (if h:PN h O k r then h.choose else PS.begin) D)∧r=(if h:PN h O k r then h.choose else PS.begin).ren _
  rw[dif_pos hg]
  obtain⟨D,h1,h2⟩:=hg.choose_spec
  exact⟨⟨D,h1⟩,h2⟩
 have h1:(L.map fun r=>codeU (h.cache O) (uO r)).Nodup:=by
  rw[List.Nodup,a1P]
  refine a3H ?_ hnd
  intro a b ha hb hne hc
  obtain⟨⟨D,ga⟩,sa⟩:=hu a ha
  obtain⟨⟨D',gb⟩,sb⟩:=hu b hb
  have hs:=code_inj hx.ok hx.n hx.l ga.le (ga.inv hx.ok) (gb.inv hx.ok) hc
  refine hne ?_
  rw[sa,sb]
  exact⟨by unfold PS.ren;dsimp only;rw[hs.1],by unfold PS.ren;dsimp only;rw[hs.2]⟩
 have:=a1p (m:=List.range 65536) h1 (fun c hc=>by
  obtain⟨r,hr,rfl⟩:=a1C.1 hc
  obtain⟨⟨D,ga⟩,_⟩:=hu r hr
  exact a1D.2 (code_lt hx.l ga.le (ga.inv hx.ok).inv))
 simpa using this
end PN
def PosN (h:Hist) (O:List Nat) (c:C6):Prop:=∃u,PN h O O.length u∧(c=u.M∨∃b:Nat,b<6∧(b:Int)<h.n∧u.can b∧c=u.M.set b (-2))
theorem posN_iff (hx:(h.cache O).Ok) (c:C6):PosN h O c↔∃c0,PosI (h.cache O) c0∧c=c0.ren (num O):=by
 have hn:=hx.n
 change 1≤h.n∧h.n≤6 at hn
 constructor
 ·rintro⟨_,⟨u0,D,h1,rfl⟩,h2⟩
  rw[←a3m (h:=h)] at h1
  rcases h2 with rfl|⟨b,h6,hb,hc,rfl⟩
  ·exact⟨u0.M,posI_u hx h1,rfl⟩
  ·rw[PS.ren_can (num_ren O) _ h6] at hc
   refine⟨u0.M.set b (-2),posI_torn hx h1 hb hc,?_⟩
   rw[C6.ren_set]
   rfl
 ·rintro⟨c0,hp,rfl⟩
  obtain⟨u,D,h1,h2⟩:=hp.u hx
  rw[a3m] at h1
  refine⟨u.ren (num O),⟨u,D,h1,rfl⟩,?_⟩
  rcases h2 with rfl|⟨b,hb,hc,rfl⟩
  ·exact .inl rfl
  ·have hb':(b:Int)<h.n:=hb
   refine .inr ⟨b,by omega,hb,(PS.ren_can (num_ren O) _ (by omega)).2 hc,?_⟩
   rw[C6.ren_set]
   rfl
def C6.first (c:C6) (n:Nat):List Int:=(List.range n).map c.get
theorem img_iff (hx:(h.cache O).Ok) (im:List Int):h.Img O im↔∃c,PosN h O c∧im=C6.first c h.nn:=by
 have hn:=hx.n
 change 1≤h.n∧h.n≤6 at hn
 have hnn:h.nn≤6:=by unfold Hist.nn;omega
 constructor
 ·rintro⟨hl,c,hp,he⟩
  refine⟨c.ren (num O),(posN_iff hx _).2 ⟨c,hp,rfl⟩,?_⟩
  refine a1U (by simp[C6.first,hl]) fun b h1 h2=>?_
  have:=he b (by omega)
  rw[a0A,a0D h1] at this
  simp only[C6.first,List.getElem_map,List.getElem_range]
  rw[C6.ren_get _ _ (by omega)]
  exact this
 ·rintro⟨c,hp,rfl⟩
  obtain⟨c0,h1,rfl⟩:=(posN_iff hx _).1 hp
  refine⟨by simp[C6.first],c0,h1,fun b hb=>?_⟩
  rw[←C6.ren_get (num O) c0 (show b<6 by omega)]
  simp[C6.first,a0A,hb]
end
end Ho
end Go.Proofs
namespace Go.Proofs
open Go Go.Sx
set_option maxRecDepth 100000
set_option maxHeartbeats 4000000
namespace Ho
def K73:List IntKind:=List.replicate 73 .i64
def skF (f:Nat→Int):List Int:=[f 0,f 1,f 2,f 3,f 4,f 5,f 6,f 7,f 8,f 9,f 10,f 11,f 12,f 13,f 14,f 15,f 16,f 17,f 18,f 19,f 20,f 21,f 22,f 23,f 24,f 25,f 26,f 27,f 28,f 29,f 30,f 31,f 32,f 33,f 34,f 35,f 36,f 37,f 38,f 39,f 40,f 41,f 42,f 43,f 44,f 45,f 46,f 47,f 48,f 49,f 50,f 51,f 52,f 53,f 54,f 55,f 56,f 57,f 58,f 59,f 60,f 61,f 62,f 63,f 64,f 65,f 66,f 67,f 68,f 69,f 70,f 71,f 72]
def skV (f:Nat→Int):List V:=[.int .i64 (f 0),.int .i64 (f 1),.int .i64 (f 2),.int .i64 (f 3),.int .i64 (f 4),.int .i64 (f 5),.int .i64 (f 6),.int .i64 (f 7),.int .i64 (f 8),.int .i64 (f 9),.int .i64 (f 10),.int .i64 (f 11),.int .i64 (f 12),.int .i64 (f 13),.int .i64 (f 14),.int .i64 (f 15),.int .i64 (f 16),.int .i64 (f 17),.int .i64 (f 18),.int .i64 (f 19),.int .i64 (f 20),.int .i64 (f 21),.int .i64 (f 22),.int .i64 (f 23),.int .i64 (f 24),.int .i64 (f 25),.int .i64 (f 26),.int .i64 (f 27),.int .i64 (f 28),.int .i64 (f 29),.int .i64 (f 30),.int .i64 (f 31),.int .i64 (f 32),.int .i64 (f 33),.int .i64 (f 34),.int .i64 (f 35),.int .i64 (f 36),.int .i64 (f 37),.int .i64 (f 38),.int .i64 (f 39),.int .i64 (f 40),.int .i64 (f 41),.int .i64 (f 42),.int .i64 (f 43),.int .i64 (f 44),.int .i64 (f 45),.int .i64 (f 46),.int .i64 (f 47),.int .i64 (f 48),.int .i64 (f 49),.int .i64 (f 50),.int .i64 (f 51),.int .i64 (f 52),.int .i64 (f 53),.int .i64 (f 54),.int .i64 (f 55),.int .i64 (f 56),.int .i64 (f 57),.int .i64 (f 58),.int .i64 (f 59),.int .i64 (f 60),.int .i64 (f 61),.int .i64 (f 62),.int .i64 (f 63),.int .i64 (f 64),.int .i64 (f 65),.int .i64 (f 66),.int .i64 (f 67),.int .i64 (f 68),.int .i64 (f 69),.int .i64 (f 70),.int .i64 (f 71),.int .i64 (f 72)]
theorem skF_congr {f g:Nat→Int} (h:∀i,i<73→f i=g i):skF f=skF g:=by
 unfold skF
 rw[h 0 (by omega),h 1 (by omega),h 2 (by omega),h 3 (by omega),h 4 (by omega),h 5 (by omega),h 6 (by omega),h 7 (by omega),h 8 (by omega),h 9 (by omega),h 10 (by omega),h 11 (by omega),h 12 (by omega),h 13 (by omega),h 14 (by omega),h 15 (by omega),h 16 (by omega),h 17 (by omega),h 18 (by omega),h 19 (by omega),h 20 (by omega),h 21 (by omega),h 22 (by omega),h 23 (by omega),h 24 (by omega),h 25 (by omega),h 26 (by omega),h 27 (by omega),h 28 (by omega),h 29 (by omega),h 30 (by omega),h 31 (by omega),h 32 (by omega),h 33 (by omega),h 34 (by omega),h 35 (by omega),h 36 (by omega),h 37 (by omega),h 38 (by omega),h 39 (by omega),h 40 (by omega),h 41 (by omega),h 42 (by omega),h 43 (by omega),h 44 (by omega),h 45 (by omega),h 46 (by omega),h 47 (by omega),h 48 (by omega),h 49 (by omega),h 50 (by omega),h 51 (by omega),h 52 (by omega),h 53 (by omega),h 54 (by omega),h 55 (by omega),h 56 (by omega),h 57 (by omega),h 58 (by omega),h 59 (by omega),h 60 (by omega),h 61 (by omega),h 62 (by omega),h 63 (by omega),h 64 (by omega),h 65 (by omega),h 66 (by omega),h 67 (by omega),h 68 (by omega),h 69 (by omega),h 70 (by omega),h 71 (by omega),h 72 (by omega)]
theorem skV_congr {f g:Nat→Int} (h:∀i,i<73→f i=g i):skV f=skV g:=by
 unfold skV
 rw[h 0 (by omega),h 1 (by omega),h 2 (by omega),h 3 (by omega),h 4 (by omega),h 5 (by omega),h 6 (by omega),h 7 (by omega),h 8 (by omega),h 9 (by omega),h 10 (by omega),h 11 (by omega),h 12 (by omega),h 13 (by omega),h 14 (by omega),h 15 (by omega),h 16 (by omega),h 17 (by omega),h 18 (by omega),h 19 (by omega),h 20 (by omega),h 21 (by omega),h 22 (by omega),h 23 (by omega),h 24 (by omega),h 25 (by omega),h 26 (by omega),h 27 (by omega),h 28 (by omega),h 29 (by omega),h 30 (by omega),h 31 (by omega),h 32 (by omega),h 33 (by omega),h 34 (by omega),h 35 (by omega),h 36 (by omega),h 37 (by omega),h 38 (by omega),h 39 (by omega),h 40 (by omega),h 41 (by omega),h 42 (by omega),h 43 (by omega),h 44 (by omega),h 45 (by omega),h 46 (by omega),h 47 (by omega),h 48 (by omega),h 49 (by omega),h 50 (by omega),h 51 (by omega),h 52 (by omega),h 53 (by omega),h 54 (by omega),h 55 (by omega),h 56 (by omega),h 57 (by omega),h 58 (by omega),h 59 (by omega),h 60 (by omega),h 61 (by omega),h 62 (by omega),h 63 (by omega),h 64 (by omega),h 65 (by omega),h 66 (by omega),h 67 (by omega),h 68 (by omega),h 69 (by omega),h 70 (by omega),h 71 (by omega),h 72 (by omega)]
theorem skF_map (f:Nat→Int):skF f=(List.range 73).map f:=rfl
theorem skF_getD (f:Nat→Int) {i:Nat} (hi:i<73):(skF f).getD i 0=f i:=by
 rw[skF_map]
 simp[a0A,hi]
noncomputable def skI (u:PS) (i:Nat):Int:=
 iteI (i<6) (u.M.get i)+(iteI (i=6) u.E.length+iteI (7≤i∧(i-7) / 6<u.E.length) ((u.ep ((i-7) / 6)).get ((i-7) % 6)))
theorem iteI_pos {p:Prop} {a:Int} (h:p):iteI p a=a:=if_pos h
theorem iteI_neg {p:Prop} {a:Int} (h:¬p):iteI p a=0:=if_neg h
theorem skI_med (u:PS) {i:Nat} (h:i<6):skI u i=u.M.get i:=by
 unfold skI
 rw[iteI_pos h,iteI_neg (by omega),iteI_neg (by omega)]
 omega
theorem skI_len (u:PS):skI u 6=u.E.length:=by
 unfold skI
 rw[iteI_neg (by omega),iteI_pos rfl,iteI_neg (by omega)]
 omega
theorem skI_ep (u:PS) {e b:Nat} (he:e<u.E.length) (hb:b<6):skI u (7+6*e+b)=(u.ep e).get b:=by
 have h1:(7+6*e+b-7) / 6=e:=by omega
 have h2:(7+6*e+b-7) % 6=b:=by omega
 unfold skI
 rw[h1,h2,iteI_neg (by omega),iteI_neg (by omega),iteI_pos ⟨by omega,he⟩]
 omega
theorem skI_out (u:PS) {e b:Nat} (he:u.E.length≤e) (hb:b<6):skI u (7+6*e+b)=0:=by
 have h1:(7+6*e+b-7) / 6=e:=by omega
 unfold skI
 rw[h1,iteI_neg (by omega),iteI_neg (by omega),iteI_neg (by omega)]
 omega
theorem place {i:Nat} (h:i<73):i<6∨i=6∨∃e b,e<11∧b<6∧i=7+6*e+b:=by
 by_cases h1:i<6
 ·exact .inl h1
 ·by_cases h2:i=6
  ·exact .inr (.inl h2)
  ·exact .inr (.inr ⟨(i-7) / 6,(i-7) % 6,by omega,by omega,by omega⟩)
theorem skI_ext {f:Nat→Int} {u:PS} (h1:∀b,b<6→f b=u.M.get b) (h2:f 6=u.E.length) (h3:∀e b,e<11→b<6→f (7+6*e+b)=if e<u.E.length then(u.ep e).get b else 0):∀i,i<73→f i=skI u i:=by
 intro i hi
 rcases place hi with h|rfl|⟨e,b,he,hb,rfl⟩
 ·rw[h1 i h,skI_med u h]
 ·rw[h2,skI_len]
 ·rw[h3 e b he hb]
  split
  ·rename_i h;rw[skI_ep u h hb]
  ·rename_i h;rw[skI_out u (by omega) hb]
noncomputable def skK (u:PS):List Int:=skF (skI u)
theorem skK_inj {u v:PS} (hu:u.E.length≤11) (_hv:v.E.length≤11) (h:skK u=skK v):u.same v:=by
 have hi:∀i,i<73→skI u i=skI v i:=fun i hi=>by
  have:(skK u).getD i 0=(skK v).getD i 0:=by rw[h]
  unfold skK at this
  rwa [skF_getD _ hi,skF_getD _ hi] at this
 have hl:u.E.length=v.E.length:=by
  have:=hi 6 (by omega)
  rw[skI_len,skI_len] at this
  omega
 refine⟨C6.ext' fun b hb=>?_,a1U hl fun e g1 g2=>C6.ext' fun b hb=>?_⟩
 ·have:=hi b (by omega)
  rwa [skI_med u hb,skI_med v hb] at this
 ·have:=hi (7+6*e+b) (by omega)
  rw[skI_ep u g1 hb,skI_ep v g2 hb] at this
  have e1:u.ep e=u.E[e]:=by unfold PS.ep;simp[List.getD_eq_getElem?_getD,g1]
  have e2:v.ep e=v.E[e]:=by unfold PS.ep;simp[List.getD_eq_getElem?_getD,g2]
  rwa [e1,e2] at this
theorem same_skI {u v:PS} (h:u.same v):skI u=skI v:=by
 funext i
 unfold skI PS.ep
 rw[h.1,h.2]
theorem same_skK {u v:PS} (h:u.same v):skK u=skK v:=by unfold skK;rw[same_skI h]
noncomputable def wrF (f:Nat→Int) (e b:Nat) (i:Nat):Int:=
 @ite _ (f (7+6*e+b)=-3) (Classical.propDecidable _) (f i) (if i=b then f (7+6*e+b) else if i=7+6*e+b then -3 else f i)
theorem wrF_gone {f:Nat→Int} {e b:Nat} (h:f (7+6*e+b)=-3):wrF f e b=f:=by
 funext i
 unfold wrF
 rw[if_pos h]
theorem wrF_there {f:Nat→Int} {e b:Nat} (h:f (7+6*e+b)≠-3):wrF f e b=fun i=>if i=b then f (7+6*e+b) else if i=7+6*e+b then -3 else f i:=by
 funext i
 unfold wrF
 rw[if_neg h]
theorem skI_wr (u:PS) {e b:Nat} (he:e<u.E.length) (hb:b<6):∀i,i<73→wrF (skI u) e b i=skI (u.wr e b) i:=by
 have h0:=skI_ep u he hb
 by_cases hc:(u.ep e).get b=-3
 ·rw[wrF_gone (h0.trans hc),PS.wr_neg hc]
  intros;rfl
 ·rw[wrF_there (by rw[h0];exact hc),PS.wr_pos hc]
  refine skI_ext (fun b' hb'=>?_) ?_ (fun e' b' he' hb'=>?_)
  ·dsimp only
   rw[C6.get_set hb hb',h0,skI_med u hb']
   split
   ·rfl
   ·rw[if_neg (by omega)]
  ·dsimp only
   rw[if_neg (by omega),if_neg (by omega),skI_len]
   simp
  ·dsimp only
   rw[if_neg (by omega)]
   have hep:(⟨u.M.set b ((u.ep e).get b),u.E.set e ((u.ep e).set b (-3)),u.W+1⟩:PS).ep e'=if e'=e then(u.ep e).set b (-3) else u.ep e':=by
    unfold PS.ep
    dsimp only
    simp only[a0A,a0H]
    by_cases hh:e=e'
    ·subst hh
     simp[he]
    ·rw[if_neg hh,if_neg (fun g=>hh g.symm)]
   rw[hep]
   simp only[List.length_set]
   by_cases hee:e'=e
   ·subst hee
    rw[if_pos rfl,if_pos he,C6.get_set hb hb']
    by_cases hbb:b'=b
    ·subst hbb;rw[if_pos rfl,if_pos rfl]
    ·rw[if_neg (by omega),if_neg hbb,skI_ep u he hb']
   ·rw[if_neg (by omega),if_neg hee]
    split
    ·rename_i h;rw[skI_ep u h hb']
    ·rename_i h;rw[skI_out u (by omega) hb']
def Cmd.c (c:Cmd):List V:=[.int .i64 c.k,.int .i64 c.b,.int .i64 c.v,.int .i64 c.f,.int .i64 c.t]
def Cmd.w (c:Cmd):V:=.agg [.int .i64 c.k,.int .i64 c.b,.int .i64 c.v,.int .i64 c.f,.int .i64 c.t]
def Hist.c (h:Hist):List V:=[.int .i64 h.n,.sl 5 h.l.length (a0u Cmd.c c0 h.l)]
def Hist.w (h:Hist):V:=.agg [.int .i64 h.n,.sl 5 h.l.length (a0u Cmd.c c0 h.l)]
open Classical in
noncomputable def Hist.chk (h:Hist):Int:=if h.Ok then 0 else 170
theorem within28 (n x y:Int):a0q Tryz.prog 34 false [.int .i64 n,.int .i64 x,.int .i64 y] (·=.prop (x≤n∧n≤y) inferInstance):=by
 refine a0c Tryz.E_ok Tryz.func34 rfl (by kernel_rfl) ?_
 refine x1 ?_;(all_goals(try(refine⟨_,rfl,?_⟩;exact xc3)))
theorem puts48 (c:Cmd):a0q Tryz.prog 68 false [c.w] (·=.prop c.Puts inferInstance):=by
 refine a0c Tryz.E_ok Tryz.func68 rfl (by kernel_rfl) ?_
 refine x1 ?_;(all_goals(try(refine⟨_,rfl,?_⟩;exact xc3)))
theorem a1n (c:Cmd):a0q Tryz.prog 36 false [c.w] (·=.prop (c.t<0) inferInstance):=by
 refine a0c Tryz.E_ok Tryz.func36 rfl (by kernel_rfl) ?_
 refine x1 ?_;(all_goals(try(refine⟨_,rfl,?_⟩;exact xc3)))
theorem right38 (h:Hist) (hn:-1000≤h.n∧h.n≤1000) (c:Cmd):a0q Tryz.prog 35 false [h.w,c.w] (·=.prop (c.Ok h.n) (Classical.propDecidable _)):=by
 refine a0c Tryz.E_ok Tryz.func35 rfl (by kernel_rfl) ?_
 refine x1 ?_;(repeat' ((first|(refine a0d (within28 _ _ _) rfl ?_;rintro _ rfl)|(refine a0f (within28 _ _ _) rfl ?_)|(refine a0l (fun _=>within28 _ _ _) rfl ?_)|(refine a0d (puts48 c) rfl ?_;rintro _ rfl)|(refine a0f (puts48 c) rfl ?_)|(refine a0l (fun _=>puts48 c) rfl ?_)|(refine a0d (a1n c) rfl ?_;rintro _ rfl)|(refine a0f (a1n c) rfl ?_)|(refine a0l (fun _=>a1n c) rfl ?_));(repeat' ((conv=>whnf);first|(with_reducible first|apply spl|apply spl'|refine iJ ?_)<;>intro hc<;>try(exfalso;omega)|refine vcq ?_|fail));all_goals((try conv=>whnf);try exact trivial)));(all_goals(try(refine⟨_,rfl,?_⟩;refine x1 ?_)))
 all_goals exact⟨by unfold Cmd.Ok;(try simp only[Cmd.Puts] at *);omega,trivial⟩
theorem plain_of {g : FuncId} {fn : Func} (hf : Tryz.prog.funcs[g]? = some fn) (h1 : (fn.name == "runtime.NumGoroutine") = false) (h2 : fn.body.isNone = false) : Plain Tryz.prog g := ⟨fn, hf, h1, h2⟩
def TellC (p:Cmd→Prop):(Nat→Prop)→World→Value→Prop:=
 FnD Tryz.prog (fun c:Cmd=>[c.w]) (fun c r=>r=.prop (p c) (Classical.propDecidable _))
theorem over39 (f c:Cmd):a0q Tryz.prog 37 false [c.w,.iptr f.c] (·=.prop (c.f<f.f∧f.f<c.t) (Classical.propDecidable _)):=by
 refine a0c Tryz.E_ok Tryz.func37 rfl (by kernel_rfl) ?_
 refine x1 ?_;(all_goals(try(refine⟨_,rfl,?_⟩;exact xc3)))
theorem index57 (p:Cmd→Prop) (l:List Cmd) (hl:l.length≤1000000):a0q Tryz.prog 69 false [.sl 5 l.length (a0u Cmd.c c0 l),.sem (TellC p)] (fun r=>∃k:Int,r=.int .i64 k∧(0≤k↔∃s∈l,p s)):=by
 refine a0c Tryz.E_ok Tryz.func69 rfl (by kernel_rfl) ?_
 refine x1 ?_
 refine⟨Nat,fun i=>i≤l.length∧∀j s,j<i→l[j]? = some s→¬p s,fun i=>l.length-i,fun i=>[(8,.int .i64 i)],fun _=>[],fun _=>[],0,⟨⟨by omega,fun j s h=>by omega⟩,none,?_⟩,?_⟩
 ·exact xc3
 ·rintro i ⟨hi,hp⟩
  refine x7 (fun hc=>?_) (fun hc=>?_)
  ·refine scall_fn (l.getD (i:Int).toNat c0) rfl rfl ?_
   rintro _ rfl
   have hi:i<l.length:=by omega
   have hq:l.getD (i:Int).toNat c0=l[i]:=by simp[a0A,hi]
   refine x7 (fun hc=>?_) (fun hc=>?_)
   ·refine⟨_,⟨i,rfl,⟨fun _=>⟨l[i],a1F hi,by rw[hq] at hc;exact hc⟩,fun _=>by omega⟩⟩,?_⟩
    exact xc3
   ·refine⟨i+1,⟨⟨by omega,fun j s hj hs=>?_⟩,by dsimp only;omega⟩,none,?_⟩
    ·rcases a0J (show j≤i by omega) with h1|rfl
     ·exact hp j s h1 hs
     ·rw[a0D hi] at hs
      cases hs
      rw[hq] at hc
      exact hc
    ·exact xc3
  ·refine⟨_,⟨-1,rfl,⟨fun h=>by omega,fun⟨s,h1,h2⟩=>?_⟩⟩,?_⟩
   ·obtain⟨j,h3,h4⟩:=a1G h1
    exact absurd h2 (hp j s (by omega) (by rw[a0D h3,h4]))
   ·exact xc3
theorem contains40 (p:Cmd→Prop) (l:List Cmd) (hl:l.length≤1000000):a0q Tryz.prog 38 false [.sl 5 l.length (a0u Cmd.c c0 l),.sem (TellC p)] (·=.prop (∃s∈l,p s) (Classical.propDecidable _)):=by
 refine a0c Tryz.E_ok Tryz.func38 rfl (by kernel_rfl) ?_
 refine x1 ?_
 refine a0d (index57 p l hl) rfl ?_
 rintro _ ⟨k,rfl,hk⟩
 refine x1 ?_
 refine⟨_,rfl,?_⟩
 exact xc3
structure CM (T:List Int) (dom:List Int→Prop) (c:List Int→Int):Prop where
 dom:∀k,dom k↔∃x∈T,k=[x]
 cnt:∀x∈T,c [x]=T.count x
theorem CM.nil:CM [] (fun _=>False) (fun _=>0):=⟨by simp,by simp⟩
theorem CM.le {T:List Int} {dom:List Int→Prop} {c:List Int→Int} (h:CM T dom c) (x:Int):cntV dom c [x]=T.count x:=by
 unfold cntV
 split
 ·rename_i hd
  obtain⟨y,hy,e⟩:=(h.dom _).1 hd
  cases e
  exact h.cnt x hy
 ·rename_i hd
  have:x∉T:=fun g=>hd ((h.dom _).2 ⟨x,g,rfl⟩)
  rw[List.count_eq_zero.2 this]
  rfl
theorem CM.up {T:List Int} {dom:List Int→Prop} {c:List Int→Int} (h:CM T dom c) (x:Int):CM (T++[x]) (a0p dom [x]) (cntUp dom c [x]):=by
 refine⟨fun k=>?_,fun y hy=>?_⟩
 ·unfold a0p
  rw[h.dom]
  constructor
  ·rintro(rfl|⟨y,hy,rfl⟩)
   ·exact⟨x,by simp,rfl⟩
   ·exact⟨y,by simp[hy],rfl⟩
  ·rintro⟨y,hy,rfl⟩
   rcases a0M.1 hy with g|g
   ·exact .inr ⟨y,g,rfl⟩
   ·left;rw[a0L.1 g]
 ·rw[List.count_append]
  unfold cntUp
  by_cases e:y=x
  ·subst e
   rw[if_pos rfl,h.le]
   simp
  ·rw[if_neg (fun g=>e (by simpa using g))]
   have hy:y∈T:=by
    rcases a0M.1 hy with g|g
    ·exact g
    ·exact absurd (a0L.1 g) e
   rw[h.cnt y hy]
   have:List.count y [x]=0:=by rw[List.count_eq_zero];simpa using e
   omega
theorem valPut_cnt (dom:List Int→Prop) (c:List Int→Int) (k:List Int) :
  valPut (fun k=>[V.int .i64 (c k)]) k [V.int .i64 ((@ite _ (dom k) (Classical.propDecidable _) (c k) 0)+1)]=fun k'=>[V.int .i64 (cntUp dom c k k')]:=by
 funext k'
 unfold valPut mrgL cntUp cntV
 by_cases hk:k'=k
 ·subst hk
  simp[pickDL,pickD]
 ·simp[pickDL,pickD,hk]
theorem ts_snoc (l:List Cmd) (c:Cmd):Hist.ts (l++[c])=Hist.ts l++c.ts:=by simp[Hist.ts]
theorem ts_take {h:Hist} {i:Nat} (hi:i<h.l.length):Hist.ts (h.l.take (i+1))=Hist.ts (h.l.take i)++(h.at' i).ts:=by
 rw[a1H hi,ts_snoc]
 simp[Hist.at',a0A,hi]
theorem ts_len (l:List Cmd):(Hist.ts l).length≤2*l.length:=by
 induction l with
 |nil=>simp[Hist.ts]
 |cons c l ih=>
  unfold Hist.ts at ih ⊢
  rw[List.flatMap_cons,a0F,a0I]
  have:c.ts.length≤2:=by unfold Cmd.ts;split<;>simp
  omega
theorem count_le_len (T:List Int) (x:Int):T.count x≤T.length:=List.count_le_length
def lastF (h:Hist):Nat→Int
 |0=>-1
 |i+1=>(h.at' i).f
theorem nodup_counts {T:List Int}:T.Nodup↔∀x,T.count x≤1:=List.nodup_iff_count
theorem Check22 (h:Hist) (hl:h.l.length≤1000000):a0q Tryz.prog 12 false [h.w] (·=.int .i64 h.chk):=by
 have hbad:∀{x:Prop},(x→¬h.Ok)→x→170=h.chk:=fun f g=>by unfold Hist.chk;rw[if_neg (f g)]
 refine a0c Tryz.E_ok Tryz.func12 rfl (by kernel_rfl) ?_
 refine x1 ?_;(repeat' ((first|(refine a0d (within28 _ _ _) rfl ?_;rintro _ rfl)|(refine a0f (within28 _ _ _) rfl ?_)|(refine a0l (fun _=>within28 _ _ _) rfl ?_));refine x7 (fun hc=>?_) (fun hc=>?_)));(all_goals(try(refine⟨_,rfl,?_⟩;refine x1 ?_)))
 ·exact⟨hbad (fun hb h=>by have:=h.n;have:=h.len;omega) hc,trivial⟩
 ·have hn:1≤h.n∧h.n≤6:=by omega
  have hle:h.l.length≤10:=by omega
  intro g0
  refine x1 ?_
  refine⟨Nat×(List Int→Prop)×(List Int→Int)×Nat×MG,fun q=>q.1≤h.l.length∧CM (Hist.ts (h.l.take q.1)) q.2.1 q.2.2.1∧(∀i,i<q.1→(h.at' i).Ok h.n∧∀k,k<i→(h.at' k).f<(h.at' i).f),fun q=>h.l.length-q.1,fun q=>[(26,.int .i64 (q.1:Nat)),(4,.int .i64 (lastF h q.1))],
   fun q=>[(1,.map [.i64] false false q.2.1 (fun k=>[.int .i64 (q.2.2.1 k)]) q.2.2.2.1 q.2.2.2.2)],fun _=>[],(0,(fun _=>False),(fun _=>0),0,g0),⟨⟨by dsimp only;omega,by simpa [Hist.ts] using CM.nil,fun i hi=>by dsimp only at hi;omega⟩,some [some 0,some 1],?_⟩,?_⟩
  ·exact xc3
  ·rintro⟨i,dom,c,m,g⟩ ⟨h1,h2,h3⟩
   dsimp only at h1 h2 h3
   have hti:((i:Nat):Int).toNat=i:=by omega
   refine x7 (fun hc=>?_) (fun hc=>?_)
   ·have hi:i<h.l.length:=by dsimp only at hc;omega
    rw[hti]
    refine a0d (right38 h (by omega) (h.at' i)) rfl ?_
    rintro _ rfl
    refine x7 (fun hc=>?_) (fun hc=>?_)
    ·have hnok:¬h.Ok:=fun h0=>by
      rcases hc with hb|hb
      ·exact hb (h0.cmd i hi)
      ·change (h.at' i).f≤lastF h i at hb
       have h4:=h0.cmd i hi
       unfold Cmd.Ok at h4
       cases i with
       |zero=>simp only[lastF] at hb;omega
       |succ i=>
        have:=(((Hist.okP_iff h).2 h0).cmd (i+1) hi).2 i (by omega)
        simp only[lastF] at hb
        omega
     refine⟨_,congrArg _ (hbad (fun g=>g) hnok),?_⟩
     exact xc3
    ·have hci:(h.at' i).Ok h.n∧lastF h i<(h.at' i).f:=by
      change ¬(_∨(h.at' i).f≤lastF h i) at hc
      simp only[not_or,a0T] at hc
      exact⟨hc.1,by omega⟩
     clear hc
     have hT:=ts_len (h.l.take i)
     rw[a0V] at hT
     have h5:∀j,j<i+1→(h.at' j).Ok h.n∧∀k,k<j→(h.at' k).f<(h.at' j).f:=by
      intro j hj
      rcases a0J (show j≤i by omega) with hj|rfl
      ·exact h3 j hj
      ·refine⟨hci.1,fun k hk=>?_⟩
       cases j with
       |zero=>omega
       |succ j=>
        have h6:=hci.2
        simp only[lastF] at h6
        rcases a0J (show k≤j by omega) with hk|rfl
        ·have:=(h3 j (by omega)).2 k hk;omega
        ·exact h6
     have hq:inR .i64 (cntV dom c [(h.at' i).f]+1):=by
      rw[h2.le]
      have:=count_le_len (Hist.ts (h.l.take i)) (h.at' i).f
      show(-9223372036854775808:Int)≤_∧_≤(9223372036854775807:Int)
      omega
     refine And.intro hq ?_
     refine x1 ?_
     intro g1
     refine x1 ?_
     dsimp only
     have h6:=h2.up (h.l.getD i c0).f
     rw[valPut_cnt dom c [(h.l.getD i c0).f]]
     have hq2:inR .i64 (cntV (a0p dom [(h.l.getD i c0).f]) (cntUp dom c [(h.l.getD i c0).f]) [(h.l.getD i c0).t]+1):=by
      rw[h6.le]
      have:=count_le_len (Hist.ts (h.l.take i)++[(h.l.getD i c0).f]) (h.l.getD i c0).t
      rw[a0F] at this
      show(-9223372036854775808:Int)≤_∧_≤(9223372036854775807:Int)
      simp only[a0I,a1S] at this
      omega
     generalize cntUp dom c [(h.l.getD i c0).f]=c1 at *
     generalize a0p dom [(h.l.getD i c0).f]=dom1 at *
     refine a0d (a1n (h.at' i)) rfl ?_
     rintro _ rfl
     refine x7 (fun hc=>?_) (fun hc=>?_)
     ·refine And.intro hq2 ?_
      refine x1 ?_
      intro g2
      refine x1 ?_
      rw[valPut_cnt dom1 c1 [(h.l.getD i c0).t]]
      have h7:=h6.up (h.l.getD i c0).t
      refine⟨(i+1,a0p dom1 [(h.l.getD i c0).t],cntUp dom1 c1 [(h.l.getD i c0).t],nPut dom1 (nPut dom m [(h.l.getD i c0).f]) [(h.l.getD i c0).t],g2),⟨⟨by dsimp only;omega,?_,h5⟩,by dsimp only;omega⟩,some [some 0,some 1],?_⟩
      ·dsimp only
       rw[ts_take hi]
       have e:(h.at' i).ts=[(h.l.getD i c0).f,(h.l.getD i c0).t]:=by
        unfold Cmd.ts
        rw[if_pos ⟨Int.not_lt.1 hc.1,hc.2⟩]
        rfl
       rw[e,List.append_cons]
       exact h7
      ·exact xc3
     ·refine⟨(i+1,dom1,c1,nPut dom m [(h.l.getD i c0).f],g1),⟨⟨by dsimp only;omega,?_,h5⟩,by dsimp only;omega⟩,some [some 0,some 1],?_⟩
      ·dsimp only
       rw[ts_take hi]
       have e:(h.at' i).ts=[(h.l.getD i c0).f]:=by
        unfold Cmd.ts
        rw[if_neg (fun g=>hc ⟨Int.not_lt.2 g.1,g.2⟩)]
        rfl
       rw[e]
       exact h6
      ·exact xc3
   ·obtain rfl:i=h.l.length:=by dsimp only at hc;omega
    rw[a3B] at h2
    refine⟨List (List Int),fun q=>q.Nodup∧∀k∈q,k.length=1∧dom k∧c k≤1,fun q=>m-q.length,fun _=>[],fun q=>[(2,.iter 1 g (fun k=>dom k∧k.length=1) q)],fun _=>[],[],⟨⟨by simp,by simp⟩,some [some 0,some 1,some 2],?_⟩,?_⟩
    ·exact xc3
    ·rintro q ⟨hnd,hq⟩
     refine x1 ?_
     refine⟨fun k hk hd=>⟨hd,hk⟩,fun k hk hd hnk hcn=>?_,fun hall=>?_⟩
     ·obtain⟨x,hx,rfl⟩:=(h2.dom k).1 hd
      have hcx:=h2.cnt x hx
      refine x1 ?_
      refine And.intro ⟨rfl,hd,hk⟩ ?_
      refine x7 (fun hc=>?_) (fun hc=>?_)
      ·refine⟨_,congrArg _ (hbad (fun(hb:1<c [x]) h0=>?_) hc),?_⟩
       ·have:=nodup_counts.1 ((Hist.okP_iff h).2 h0).times x
        omega
       ·exact xc3
      ·have hle1:c [x]≤1:=Int.not_lt.1 hc
       have hlen:=Counted.le (l:=[x] :: q) hcn (a2B.2 ⟨hnk,hnd⟩) (fun k hk=>by
        rcases a0O.1 hk with rfl|hk
        ·exact⟨rfl,hd⟩
        ·exact⟨(hq k hk).1,(hq k hk).2.1⟩)
       dsimp only at hlen
       rw[a0I] at hlen
       refine⟨[x] :: q,⟨⟨List.nodup_cons.2 ⟨hnk,hnd⟩,fun k hk=>?_⟩,by dsimp only;rw[List.length_cons];omega⟩,some [some 0,some 1,some 2],?_⟩
       ·rcases a0O.1 hk with rfl|hk
        ·exact⟨rfl,hd,hle1⟩
        ·exact hq k hk
       ·exact xc3
     ·have hnd2:(Hist.ts h.l).Nodup:=nodup_counts.2 fun x=>by
       by_cases hx:x∈Hist.ts h.l
       ·have h5:=hall [x] rfl ((h2.dom _).2 ⟨x,hx,rfl⟩)
        have h6:=(hq _ h5).2.2
        rw[h2.cnt x hx] at h6
        omega
       ·rw[List.count_eq_zero.2 hx];omega
      refine x1 ?_
      refine⟨Nat,fun i=>i≤h.l.length∧∀j,j<i→(h.at' j).k=9→¬∃s∈h.l,(s.f<(h.at' j).f∧(h.at' j).f<s.t),fun i=>h.l.length-i,fun i=>[(72,.int .i64 (i:Nat))],fun _=>[],fun _=>[],0,⟨⟨by omega,fun j hj=>by omega⟩,some [some 0,some 1,some 2],?_⟩,?_⟩
      ·exact xc3
      ·rintro i ⟨hi,h4⟩
       have hti:((i:Nat):Int).toNat=i:=by omega
       refine x24 (fun hc hc=>?_) (fun hc hc=>?_) (fun hc=>?_)
       ·have hi:i<h.l.length:=by omega
        rw[hti] at hc ⊢
        have hk9:(h.at' i).k=9:=hc
        refine callee_view (contains40 (fun c=>c.f<(h.at' i).f∧(h.at' i).f<c.t) h.l hl) ?_
        refine x1 ?_
        refine⟨semOb_fn (a':=[]) (b':=[.iptr (h.at' i).c]) (fun c=>over39 (h.at' i) c) (plain_of Tryz.func37 (by kernel_rfl) (by kernel_rfl)) ?_,?_⟩
        ·exact xc3
        ·rintro _ rfl
         refine x7 (fun hc=>?_) (fun hc=>?_)
         ·refine⟨_,congrArg _ (hbad (fun(hb:∃s∈h.l,s.f<(h.at' i).f∧(h.at' i).f<s.t) h0=>?_) (by assumption)),?_⟩
          ·obtain⟨s,h5,h6⟩:=hb
           obtain⟨k,hk,rfl⟩:=a1G h5
           refine((Hist.okP_iff h).2 h0).over i hi hk9 k hk ?_
           have e:h.at' k=h.l[k]:=by simp[Hist.at',a0A,hk]
           rw[e]
           exact h6
          ·exact xc3
         ·refine⟨i+1,⟨⟨by omega,fun j hj h9=>?_⟩,by dsimp only;omega⟩,some [some 0,some 1,some 2],?_⟩
          ·rcases a0J (show j≤i by omega) with hj|rfl
           ·exact h4 j hj h9
           ·assumption
          ·exact xc3
       ·have hi:i<h.l.length:=by omega
        rw[hti] at hc
        refine⟨i+1,⟨⟨by omega,fun j hj h9=>?_⟩,by dsimp only;omega⟩,some [some 0,some 1,some 2],?_⟩
        ·rcases a0J (show j≤i by omega) with hj|rfl
         ·exact h4 j hj h9
         ·exact absurd h9 hc
        ·exact xc3
       ·obtain rfl:i=h.l.length:=by omega
        have hok:h.Ok:=(Hist.okP_iff h).1 ⟨hn,hle,h3,hnd2,fun i hi h9 k hk hb=>h4 i hi h9 ⟨h.at' k,by
         have e:h.at' k=h.l[k]:=by simp[Hist.at',a0A,hk]
         rw[e]
         exact a1F hk,hb⟩⟩
        refine⟨_,rfl,?_⟩
        have e:h.chk=0:=if_pos hok
        rw[e]
        exact xc3
end Ho
end Go.Proofs
namespace Go.Proofs
open Go Go.Sx
set_option maxRecDepth 100000
set_option maxHeartbeats 40000000
namespace Ho
theorem rwithin (n x y:Int):a0q Tryz.prog 39 false [.int .i64 n,.int .i64 x,.int .i64 y] (·=.prop (x≤n∧n≤y) inferInstance):=by
 refine a0c Tryz.E_ok Tryz.func39 rfl (by kernel_rfl) ?_
 refine x1 ?_;(all_goals(try(refine⟨_,rfl,?_⟩;exact xc3)))
 all_goals exact⟨by omega,trivial⟩
theorem ropen (c:Cmd):a0q Tryz.prog 41 false [c.w] (·=.prop (c.t=-1) inferInstance):=by
 refine a0c Tryz.E_ok Tryz.func41 rfl (by kernel_rfl) ?_
 refine x1 ?_;(all_goals(try(refine⟨_,rfl,?_⟩;exact xc3)))
theorem rputs (c:Cmd):a0q Tryz.prog 76 false [c.w] (·=.prop c.Puts inferInstance):=by
 refine a0c Tryz.E_ok Tryz.func76 rfl (by kernel_rfl) ?_
 refine x1 ?_;(all_goals(try(refine⟨_,rfl,?_⟩;exact xc3)))
theorem rcommand (n:Int) (hn:-1000≤n∧n≤1000) (c:Cmd):a0q Tryz.prog 40 false [.int .i64 n,c.w] (·=.prop (c.Ok n) (Classical.propDecidable _)):=by
 refine a0c Tryz.E_ok Tryz.func40 rfl (by kernel_rfl) ?_
 (repeat' ((conv=>whnf);first|(with_reducible first|apply spl|apply spl'|refine iJ ?_)<;>intro hc<;>try(exfalso;omega)|refine vcq ?_|fail));all_goals((try conv=>whnf);try exact trivial);(repeat' ((first|(refine a0d (rwithin _ _ _) rfl ?_;rintro _ rfl)|(refine a0f (rwithin _ _ _) rfl ?_)|(refine a0l (fun _=>rwithin _ _ _) rfl ?_)|(refine a0d (ropen c) rfl ?_;rintro _ rfl)|(refine a0f (ropen c) rfl ?_)|(refine a0l (fun _=>ropen c) rfl ?_));(repeat' ((conv=>whnf);first|(with_reducible first|apply spl|apply spl'|refine iJ ?_)<;>intro hc<;>try(exfalso;omega)|refine vcq ?_|fail));all_goals((try conv=>whnf);try exact trivial)));(all_goals(try(refine⟨_,rfl,?_⟩;refine x1 ?_)))
 all_goals exact⟨by unfold Cmd.Ok;omega,trivial⟩
theorem rcheck (h:Hist) (hl:h.l.length≤1000000):a0q Tryz.prog 13 false [h.w] (·=.int .i64 h.chk):=by
 have hbad:∀{x:Prop},(x→¬h.Ok)→x→170=h.chk:=fun f g=>by unfold Hist.chk;rw[if_neg (f g)]
 refine a0c Tryz.E_ok Tryz.func13 rfl (by kernel_rfl) ?_
 refine x1 ?_;(repeat' ((first|(refine a0d (rwithin _ _ _) rfl ?_;rintro _ rfl)|(refine a0f (rwithin _ _ _) rfl ?_)|(refine a0l (fun _=>rwithin _ _ _) rfl ?_));refine x7 (fun hc=>?_) (fun hc=>?_)));(all_goals(try(refine⟨_,rfl,?_⟩;refine x1 ?_)))
 ·exact⟨hbad (fun hb h=>by have:=h.n;have:=h.len;omega) hc,trivial⟩
 ·have hn:1≤h.n∧h.n≤6:=by omega
  have hle:h.l.length≤10:=by omega
  clear hc
  refine⟨Nat,fun i=>i≤h.l.length∧∀i',i'<i→(h.at' i').Ok h.n∧∀k,k<h.l.length→k≠i'→¬Cmd.Bad i' k (h.at' i') (h.at' k),fun i=>h.l.length-i,fun i=>[(3,.int .i64 (i:Nat))],fun _=>[],fun _=>[],0,⟨⟨by omega,fun i hi=>by omega⟩,some [some 0],?_⟩,?_⟩
  ·exact xc3
  ·rintro i ⟨hi,hI⟩
   have hti:((i:Nat):Int).toNat=i:=by omega
   refine x7 (fun hc=>?_) (fun hc=>?_)
   ·have hil:i<h.l.length:=by omega
    have e0:h.l.getD ((i:Nat):Int).toNat c0=h.at' i:=by rw[hti];rfl
    refine a0d (rcommand h.n (by omega) (h.at' i)) rfl ?_
    rintro _ rfl
    refine x7 (fun hc=>?_) (fun hc=>?_)
    ·refine⟨_,rfl,?_⟩
     exact⟨hbad (fun hb g=>hb (g.cmd i hil)) hc,trivial⟩
    ·have hci:(h.at' i).Ok h.n:=a0T.1 hc
     clear hc
     refine⟨Nat,fun k=>k≤h.l.length∧∀k',k'<k→k'≠i→¬Cmd.Bad i k' (h.at' i) (h.at' k'),fun k=>h.l.length-k,fun k=>[(5,.int .i64 (k:Nat))],fun _=>[],fun _=>[],0,⟨⟨by omega,fun i hi=>by omega⟩,some [some 0,some 1],?_⟩,?_⟩
     ·exact xc3
     ·rintro k ⟨hk,hK⟩
      have htk:((k:Nat):Int).toNat=k:=by omega
      have e1:h.l.getD ((k:Nat):Int).toNat c0=h.at' k:=by rw[htk];rfl
      have hB:k<h.l.length→k≠i→h.Ok→¬Cmd.Bad i k (h.at' i) (h.at' k):=fun a b g=>g.two i hil k a b
      (repeat' ((conv=>whnf);first|(with_reducible first|apply spl|apply spl'|refine iJ ?_)<;>intro hc<;>try(exfalso;omega)|refine vcq ?_|fail));all_goals((try conv=>whnf);try exact trivial);(repeat' ((first|(refine a0d (ropen (h.at' i)) rfl ?_;rintro _ rfl)|(refine a0f (ropen (h.at' i)) rfl ?_)|(refine a0l (fun _=>ropen (h.at' i)) rfl ?_));refine x24 (fun hc=>?_) (fun hc hc=>?_) (fun hc hc=>?_)))
      all_goals try rw[e0,e1] at *
      ·refine⟨k+1,⟨⟨by omega,fun k' hk' hne=>?_⟩,by dsimp only;omega⟩,some [some 0,some 1],?_⟩
       ·rcases a0J (show k'≤k by omega) with q|rfl
        ·exact hK k' q hne
        ·omega
       ·exact xc3
      ·refine⟨_,rfl,?_⟩
       exact⟨hbad (fun hb g=>hB (by omega) (by omega) g (by unfold Cmd.Bad;omega)) hc,trivial⟩
      ·refine⟨_,rfl,?_⟩
       exact⟨hbad (fun hb g=>hB (by omega) (by omega) g (by unfold Cmd.Bad;omega)) hc,trivial⟩
      ·refine⟨k+1,⟨⟨by omega,fun k' hk' hne=>?_⟩,by dsimp only;omega⟩,some [some 0,some 1],?_⟩
       ·rcases a0J (show k'≤k by omega) with q|rfl
        ·exact hK k' q hne
        ·unfold Cmd.Bad;omega
       ·exact xc3
      ·refine⟨_,rfl,?_⟩
       exact⟨hbad (fun hb g=>hB (by omega) (by omega) g (by unfold Cmd.Bad;omega)) hc,trivial⟩
      ·obtain rfl:k=h.l.length:=by omega
       refine⟨i+1,⟨⟨hil,fun i' hi'=>?_⟩,by dsimp only;omega⟩,some [some 0],?_⟩
       ·rcases a0J (show i'≤i by omega) with q|rfl
        ·exact hI i' q
        ·exact⟨hci,hK⟩
       ·exact xc3
   ·obtain rfl:i=h.l.length:=by omega
    refine⟨_,rfl,?_⟩
    have hok:h.Ok:=⟨hn,hle,fun i hi=>(hI i hi).1,fun i hi=>(hI i hi).2⟩
    refine⟨by unfold Hist.chk;rw[if_pos hok],trivial⟩
end Ho
end Go.Proofs
namespace Go.Proofs
open Go Go.Sx
set_option maxRecDepth 100000
set_option maxHeartbeats 4000000
namespace Ho
section
variable {h:Hist}
theorem num_app {O:List Nat} {i:Nat} {v:Int} (hv:v<O.length):num (O++[i]) v=num O v:=by
 unfold num
 split
 ·rfl
 ·have:v.toNat<O.length:=by omega
  simp[a0A,a0E this]
theorem cache_ok_pre {O:List Nat} {i:Nat} (hx:(h.cache (O++[i])).Ok):(h.cache O).Ok:=by
 have h1:=hx.len
 have h2:=hx.ord
 refine⟨hx.n,?_,fun o ho=>h2 o ?_⟩
 ·rw[a3m] at h1 ⊢
  rw[a0F] at h1
  omega
 ·unfold Hist.cache at ho ⊢
  dsimp only at ho ⊢
  rw[a1L]
  exact a1I _ ho
theorem C6.ren_eq {f g:Int→Int} {c:C6} (h:∀b,b<6→f (c.get b)=g (c.get b)):c.ren f=c.ren g:=
 C6.ext' fun b hb=>by rw[C6.ren_get _ _ hb,C6.ren_get _ _ hb,h b hb]
theorem ren_app {O:List Nat} {i k:Nat} {u:PS} {D:List (Int×Int)} (hx:(h.cache O).Ok) (h1:RchU (h.cache O) k u D):u.ren (num (O++[i]))=u.ren (num O):=by
 have hk:=h1.le
 rw[a3m] at hk
 have hi:=(h1.inv hx).inv
 unfold PS.ren
 rw[PS.mk.injEq]
 refine⟨C6.ren_eq fun b hb=>?_,List.map_congr_left fun c hc=>C6.ren_eq fun b hb=>?_,rfl⟩
 ·refine num_app ?_
  rcases hi.med b hb with g|⟨q,g1,g2,_⟩<;>omega
 ·refine num_app ?_
  obtain⟨e,he,rfl⟩:=a1G hc
  have e1:u.ep e=u.E[e]:=by unfold PS.ep;simp[List.getD_eq_getElem?_getD,he]
  rcases hi.cell e b hb with g|⟨q,g1,g2,_⟩
  ·rw[e1] at g;omega
  ·rw[e1] at g2;omega
theorem PN.app {O:List Nat} {i k:Nat} {u:PS} (hx:(h.cache O).Ok) (hk:PN h O k u):PN h (O++[i]) k u:=by
 have hle:=hk.le
 obtain⟨u0,D,h1,rfl⟩:=hk
 refine⟨u0,D,rchU_ext (x:=h.cache O) (y:=h.cache (O++[i])) rfl (m:=O.length) (by rw[a3m,a0F];omega) (fun k hk=>?_) h1 hle,(ren_app hx h1).symm⟩
 rw[cache_at hk,cache_at (by rw[a0F];omega)]
 simp[a0A,a0E hk]
theorem RchN.pn {O:List Nat} {u:PS} (r:RchN h O u):(h.cache O).Ok→PN h O O.length u:=by
 induction r with
 |begin=>intro _;exact PN.begin
 |@drain O u b r hb hc ih=>
  intro hx
  have hn:=hx.n
  change 1≤h.n∧h.n≤6 at hn
  unfold Hist.nn at hb
  exact(ih hx).drain (by omega) (by omega) hc
 |@order O u i r ih=>
  intro hx
  have hx0:=cache_ok_pre hx
  have h1:=(ih hx0).app (i:=i) hx0
  have h2:=h1.order hx (by rw[a0F];exact Nat.lt_succ_self _)
  have e:(O++[i]).getD O.length 0=i:=by simp[a0A]
  rw[e] at h2
  rwa [a0F]
theorem PN.rch {O:List Nat} (hx:(h.cache O).Ok):∀(k:Nat) (u:PS),PN h O k u→RchN h (O.take k) u:=by
 have hn:=hx.n
 change 1≤h.n∧h.n≤6 at hn
 refine PN.rec' hx ?_ (fun k u b _ ih hb hc=>?_) (fun k u _ ih hk=>?_)
 ·rw[List.take_zero];exact .begin
 ·exact .drain ih (by unfold Hist.nn;omega) hc
 ·have e:O.take (k+1)=O.take k++[O.getD k 0]:=by
   rw[a1H hk]
   simp[a0A,hk]
  rw[e]
  exact .order ih
theorem rchN_iff {O:List Nat} (hx:(h.cache O).Ok) (u:PS):RchN h O u↔PN h O O.length u:=
 ⟨fun r=>r.pn hx,fun p=>by have:=PN.rch hx _ _ p;rwa [a3B] at this⟩
theorem RchN.dr (g:h.Ok) {O:List Nat} (hO:∀i∈O,i<h.l.length) (hx:(h.cache O).Ok) {u v:PS} (d:Dr u v):RchN h O u→RchN h O v:=by
 have hn:=hx.n
 change 1≤h.n∧h.n≤6 at hn
 induction d with
 |refl=>exact id
 |step _ hb hc ih=>
  intro r
  have r2:=ih r
  have:=(r2.pn hx).can_n g hO hx hb hc
  exact .drain r2 (by unfold Hist.nn;omega) hc
end
end Ho
end Go.Proofs
namespace Go.Proofs
open Go Go.Sx
set_option maxRecDepth 100000
set_option maxHeartbeats 4000000
namespace Ho
theorem cache_ok_of {h:Hist} (g:h.Ok) {O:List Nat} (hO:∀i∈O,i<h.l.length∧(h.at' i).isO=true∧(h.at' i).k≠9) (hl:O.length≤16):(h.cache O).Ok:=by
 refine⟨g.n,by unfold Hist.cache;simpa using hl,?_⟩
 intro o ho
 unfold Hist.cache at ho
 obtain⟨i,hi',rfl⟩:=a1C.1 ho
 obtain⟨h1,h3,h4⟩:=hO i hi'
 have hc:=g.cmd i h1
 generalize h.at' i=c at *
 unfold Cmd.Ok at hc
 unfold Cmd.isO at h3
 simp only[a3F,Bool.or_eq_false_iff,Bool.and_eq_false_iff,beq_eq_false_iff_ne] at h3
 unfold Cache.OkO Cmd.o Hist.cache
 dsimp only
 split<;>omega
structure Pre (h k:Hist) (time:Int) (m:Nat):Prop where
 g:h.Ok
 gk:k.Ok
 ht:0≤time
 hm:m≤h.l.length
 lo:∀i,i<m→(h.at' i).f≤time
 hi:∀i,m≤i→i<h.l.length→time<(h.at' i).f
 n:k.n=h.n
 len:k.l.length=m
 at':∀i,i<m→k.at' i=Hist.cut time (h.at' i)
theorem Hist.Ok.pre {h:Hist} (g:h.Ok) {time:Int} (ht:0≤time):∃m,Pre h (h.upto time) time m:=by
 obtain⟨m,m1,m2,m3,m4⟩:=g.upto_take time
 have gk:=g.upto time
 refine⟨m,g,gk,ht,m1,m2,m3,by rw[m4],by rw[m4];simp;omega,fun i hi=>?_⟩
 rw[m4]
 exact Hist.at_take m1 time hi
namespace Pre
variable {h k:Hist} {time:Int} {m:Nat}
def filt (k:Hist) (O:List Nat):List Nat:=O.filter fun i=>(k.at' i).isO
theorem filt_snoc_yes {O:List Nat} {i:Nat} (h:(k.at' i).isO=true):filt k (O++[i])=filt k O++[i]:=by
 unfold filt
 rw[a2J]
 simp[h]
theorem filt_snoc_no {O:List Nat} {i:Nat} (h:(k.at' i).isO=false):filt k (O++[i])=filt k O:=by
 unfold filt
 rw[a2J]
 simp[h]
theorem filt_ok (p:Pre h k time m) {O:List Nat} (hO:∀i∈O,i<m∧(h.at' i).isO=true∧(h.at' i).k≠9) (hl:O.length≤16):(∀i∈filt k O,i<k.l.length)∧(k.cache (filt k O)).Ok:=by
 have key:∀i∈filt k O,i<k.l.length∧(k.at' i).isO=true∧(k.at' i).k≠9:=by
  intro i hi
  unfold filt at hi
  rw[a3R] at hi
  obtain⟨h1,h2,h3⟩:=hO i hi.1
  refine⟨by rw[p.len];exact h1,hi.2,?_⟩
  rw[p.at' i h1,(Hist.cut_k _ _).1]
  exact h3
 exact⟨fun i hi=>(key i hi).1,cache_ok_of p.gk key (a2X (List.length_filter_le ..) hl)⟩
theorem isO_ne {c:Cmd} (h:c.isO=true):c.k≠10∧¬(c.k=4∧c.t=-1):=by
 unfold Cmd.isO at h
 simp only[a3F,Bool.or_eq_false_iff,Bool.and_eq_false_iff,beq_eq_false_iff_ne] at h
 omega
theorem isO_of {c:Cmd} (h:c.k≠10) (h2:¬(c.k=4∧c.t=-1)):c.isO=true:=by
 unfold Cmd.isO
 simp only[a3F,Bool.or_eq_false_iff,Bool.and_eq_false_iff,beq_eq_false_iff_ne]
 omega
theorem isO_no {c:Cmd} (h:c.k=10∨c.k=4∧c.t=-1):c.isO=false:=by
 cases e:c.isO with
 |false=>rfl
 |true=>have:=isO_ne e;omega
theorem shelf (p:Pre h k time m) {O:List Nat} {u:PS} (r:RchN h O u):(∀i∈O,i<m∧(h.at' i).isO=true∧(h.at' i).k≠9)→O.length≤16→RchN k (filt k O) u:=by
 induction r with
 |begin=>intro _ _;exact .begin
 |@drain O u b r hb hc ih=>
  intro hO hl
  exact .drain (ih hO hl) (by unfold Hist.nn at hb ⊢;rw[p.n];exact hb) hc
 |@order O u i r ih=>
  intro hO hl
  rw[a0F] at hl
  have hO0:∀i∈O,i<m∧(h.at' i).isO=true∧(h.at' i).k≠9:=fun j hj=>hO j (a1I _ hj)
  obtain⟨him,hio,hi9⟩:=hO i (by simp)
  have r0:=ih hO0 (by omega)
  obtain⟨f1,f2⟩:=p.filt_ok hO0 (by omega)
  obtain⟨f3,f4⟩:=p.filt_ok hO (by rw[a0F];omega)
  have hlen:=((r.pn (cache_ok_of p.g (fun j hj=>⟨a0Y (hO0 j hj).1 p.hm,(hO0 j hj).2⟩) (by omega)))).len (cache_ok_of p.g (fun j hj=>⟨a0Y (hO0 j hj).1 p.hm,(hO0 j hj).2⟩) (by omega))
  have hci:=p.g.cmd i (a0Y him p.hm)
  have hn:=p.g.n
  have eat:=p.at' i him
  have ek:=Hist.cut_k time (h.at' i)
  have et:=Hist.cut_t time (h.at' i)
  obtain⟨g1,g2⟩:=isO_ne hio
  have ht0:=p.ht
  by_cases ht:time<(h.at' i).t
  ·rw[if_pos ht] at et
   have hd:Dr (u.base i (h.at' i).o) (u.orderU i (h.at' i).o):=Dr.order u hlen.1 i _ (by
    intro g
    unfold Cmd.o at g ⊢
    unfold Cmd.Ok at hci
    dsimp only at g ⊢
    split at g<;>omega)
   by_cases h4:(h.at' i).k=4
   ·have hno:(k.at' i).isO=false:=isO_no (.inr ⟨by rw[eat,ek.1,h4],by rw[eat,et]⟩)
    rw[filt_snoc_no hno]
    have hb:u.base i (h.at' i).o=u:=by
     have e:(h.at' i).o=(4,(h.at' i).b):=by unfold Cmd.o;rw[if_neg (by omega),h4]
     rw[e];rfl
    rw[hb] at hd
    exact RchN.dr p.gk f1 f2 hd r0
   ·have hyes:(k.at' i).isO=true:=isO_of (by rw[eat,ek.1];exact g1) (by rw[eat,ek.1];omega)
    rw[filt_snoc_yes hyes] at f3 f4 ⊢
    have r1:RchN k (filt k O++[i]) (u.orderU i (k.at' i).o):=.order r0
    have ho:(k.at' i).o=(if(h.at' i).k=2 then 1 else(h.at' i).k,(h.at' i).b):=by
     rw[eat]
     unfold Cmd.o
     rw[ek.1,ek.2.1,et]
     simp
    by_cases h2:(h.at' i).k=2
    ·have hb:u.base i (h.at' i).o=u.orderU i (k.at' i).o:=by
      have e:(h.at' i).o=(2,(h.at' i).b):=by unfold Cmd.o;rw[if_neg (by omega),h2]
      rw[e,ho,if_pos h2]
      rfl
     rw[hb] at hd
     exact RchN.dr p.gk f3 f4 hd r1
    ·have e:(h.at' i).o=(k.at' i).o:=by
      rw[ho,if_neg h2]
      unfold Cmd.o
      rw[if_neg (by omega)]
     rw[e]
     exact r1
  ·have e:k.at' i=h.at' i:=by rw[eat];exact Hist.cut_same ht
   rw[filt_snoc_yes (by rw[e];exact hio),←e]
   exact .order r0
theorem img (p:Pre h k time m) {O:List Nat} (hO:∀i∈O,i<m∧(h.at' i).isO=true∧(h.at' i).k≠9) (hl:O.length≤16) {im:List Int} (hi:h.Img O im):k.Img (filt k O) im:=by
 have hx:=cache_ok_of p.g (fun j hj=>⟨a0Y (hO j hj).1 p.hm,(hO j hj).2⟩) hl
 obtain⟨f1,f2⟩:=p.filt_ok hO hl
 rw[img_iff hx] at hi
 rw[img_iff f2]
 obtain⟨c,⟨u,h1,h2⟩,rfl⟩:=hi
 have hnn:k.nn=h.nn:=by unfold Hist.nn;rw[p.n]
 refine⟨c,⟨u,(rchN_iff f2 u).1 (p.shelf ((rchN_iff hx u).2 h1) hO hl),?_⟩,by rw[hnn]⟩
 rcases h2 with h2|⟨b,h6,hb,hc⟩
 ·exact .inl h2
 ·exact .inr ⟨b,h6,by rw[p.n];exact hb,hc⟩
end Pre
end Ho
end Go.Proofs
namespace Go.Proofs
open Go Go.Sx
set_option maxRecDepth 100000
set_option maxHeartbeats 4000000
namespace Ho
theorem snoc_ind {α:Type} {P:List α→Prop} (h0:P []) (hs:∀l a,P l→P (l++[a])):∀l,P l:=by
 intro l
 have key:∀r:List α,P r.reverse:=by
  intro r
  induction r with
  |nil=>exact h0
  |cons a r ih=>rw[List.reverse_cons];exact hs _ _ ih
 simpa using key l.reverse
namespace Pre
variable {h k:Hist} {time:Int} {m:Nat}
def cutGet (h:Hist) (time:Int) (i:Nat):Prop:=(h.at' i).k=10∧time<(h.at' i).t
structure Cut (h k:Hist) (time:Int) (m:Nat) (s s':St):Prop where
 lo:∀i,s.D.testBit i=true→i<m
 D1:∀i,s'.D.testBit i=true→s.D.testBit i=true
 D2:∀i,s.D.testBit i=true→¬cutGet h time i→s'.D.testBit i=true
 O:s'.O=filt k s.O
 K:s'.K=s.K
theorem keep_same (p:Pre h k time m) {K im:List Int} {O:List Nat} (hO:∀i∈O,i<m) (hat:∀b,b<h.nn→im.getD b 0=-1∨im.getD b 0=-2∨∃i:Nat,im.getD b 0=i∧i∈O∧(h.at' i).Puts∧(h.at' i).b=b):k.keep K im=h.keep K im:=by
 have hnn:k.nn=h.nn:=by unfold Hist.nn;rw[p.n]
 unfold Hist.keep
 rw[hnn]
 refine List.map_congr_left fun b hb=>?_
 rw[a1D] at hb
 unfold Hist.keep1
 rcases hat b hb with e|e|⟨i,e,hi,hp,_⟩
 ·rw[e];rfl
 ·rw[e];rfl
 ·rw[e,if_neg (by omega),if_neg (by omega),if_neg (by omega),if_neg (by omega),a1N,p.at' i (hO i hi)]
  refine Hist.cut_v _ _ ?_
  unfold Cmd.Puts at hp
  omega
theorem res_same (p:Pre h k time m) (b z:Int):∀O:List Nat,(∀i∈O,i<m∧(h.at' i).isO=true∧(h.at' i).k≠9)→k.resO b z (filt k O)=h.resO b z O:=by
 refine snoc_ind (fun _=>rfl) fun O i ih=>?_
 ·intro hO
  have ih:=ih (fun j hj=>hO j (a1I _ hj))
  obtain⟨him,hio,hi9⟩:=hO i (by simp)
  have eat:=p.at' i him
  have ek:=Hist.cut_k time (h.at' i)
  have g1:=isO_ne hio
  rw[Hist.resO_snoc]
  cases e:(k.at' i).isO with
  |true=>
   rw[filt_snoc_yes e,Hist.resO_snoc,ih]
   have e1:(k.at' i).Puts↔(h.at' i).Puts:=by unfold Cmd.Puts;rw[eat,ek.1]
   have e2:(k.at' i).b=(h.at' i).b:=by rw[eat,ek.2.1]
   have e3:(k.at' i).v=(h.at' i).v:=by rw[eat];exact Hist.cut_v _ _ g1.1
   simp only[e1,e2,e3]
  |false=>
   rw[filt_snoc_no e,ih,if_neg]
   rintro⟨hp,_⟩
   have:(k.at' i).isO=true:=isO_of (by rw[eat,ek.1];exact g1.1) (by rw[eat,ek.1];unfold Cmd.Puts at hp;omega)
   rw[e] at this
   cases this
theorem whole_of (p:Pre h k time m) {s s':St} (c:Cut h k time m s s') (hw:∀j,j<m→(h.at' j).t≠-1→(h.at' j).t≤time→s.D.testBit j=true):k.Whole s':=by
 intro j hj ht
 rw[p.len] at hj
 rw[p.at' j hj,Hist.cut_t] at ht
 by_cases hc:time<(h.at' j).t
 ·rw[if_pos hc] at ht;exact absurd rfl ht
 ·rw[if_neg hc] at ht
  exact c.D2 j (hw j hj ht (by omega)) (fun g=>hc g.2)
theorem may (p:Pre h k time m) {s s':St} (c:Cut h k time m s s') {i:Nat} (hi:i<m) (hm:h.May s.D i):k.May s'.D i:=by
 refine⟨?_,fun j hj=>?_⟩
 ·cases e:s'.D.testBit i with
  |false=>rfl
  |true=>have:=c.D1 i e;rw[hm.1] at this;cases this
 ·rw[p.len] at hj
  obtain⟨h1,h2⟩:=hm.2 j (a0Y hj p.hm)
  have ei:=Hist.cut_k time (h.at' i)
  have ej:=Hist.cut_k time (h.at' j)
  rw[p.at' i hi,p.at' j hj,ei.2.2,ej.2.2,ej.1,Hist.cut_t]
  refine⟨fun g1 g2=>?_,fun g1 g2=>h2 (c.D1 j g1) g2⟩
  by_cases hc:time<(h.at' j).t
  ·rw[if_pos hc] at g2;exact absurd rfl g2
  ·rw[if_neg hc] at g2 ⊢
   refine h1 ?_ g2
   cases e:s.D.testBit j with
   |false=>rfl
   |true=>have:=c.D2 j e (fun g=>hc g.2);rw[g1] at this;cases this
theorem run (p:Pre h k time m) {s:St} (r:h.Rea s):(∃s',k.Rea s'∧Cut h k time m s s')∨∃s',k.Rea s'∧k.Whole s':=by
 have hnn:k.nn=h.nn:=by unfold Hist.nn;rw[p.n]
 induction r with
 |begin=>
  refine .inl ⟨k.st0,.begin,fun i hi=>?_,fun i hi=>hi,fun i hi _=>hi,rfl,?_⟩
  ·simp[Hist.st0] at hi
  ·unfold Hist.st0;rw[hnn]
 |@step s s2 r hs ih=>
  have inv:=Hist.Rea.inv p.g r
  have hOl:s.O.length≤16:=by
   have:=a1O inv.nd (l₂:=List.range h.l.length) (fun i hi'=>a1D.2 (inv.O i hi').1)
   have h10:=p.g.len
   rw[List.length_range] at this
   omega
  refine ih.elim (fun ih=>?_) .inr
  obtain⟨s',hr',c⟩:=ih
  have hO:∀i∈s.O,i<m∧(h.at' i).isO=true∧(h.at' i).k≠9:=fun i hi=>⟨c.lo i (inv.O i hi).2.1,(inv.O i hi).2.2⟩
  have late:∀i,i<h.l.length→h.May s.D i→m≤i→∃s',k.Rea s'∧k.Whole s':=by
   intro i hi hm hmi
   refine⟨s',hr',p.whole_of c fun j hj ht1 ht2=>?_⟩
   have h1:=(hm.2 j (a0Y hj p.hm)).1
   have h2:=p.hi i hmi hi
   cases e:s.D.testBit j with
   |true=>rfl
   |false=>exact absurd (by omega) (h1 e ht1)
  cases hs with
  |@cmd i h1 h2 h3 h4=>
   refine(a1B i m).elim (fun him=>?_) (fun him=>.inr (late i h1 h2 him))
   left
   have eat:=p.at' i him
   have ek:=Hist.cut_k time (h.at' i)
   by_cases hcg:cutGet h time i
   ·refine⟨s',hr',fun j hj=>?_,fun j hj=>?_,fun j hj hn=>?_,?_,c.K⟩
    ·unfold Hist.doO at hj
     dsimp only at hj
     rw[Hist.bit_or] at hj
     by_cases e:i=j
     ·omega
     ·exact c.lo j (by simpa [e] using hj)
    ·unfold Hist.doO
     dsimp only
     rw[Hist.bit_or,c.D1 j hj]
     rfl
    ·unfold Hist.doO at hj
     dsimp only at hj
     rw[Hist.bit_or] at hj
     by_cases e:i=j
     ·exact absurd (e▸hcg) hn
     ·exact c.D2 j (by simpa [e] using hj) hn
    ·unfold Hist.doO
     dsimp only
     rw[if_neg (by rw[isO_no (.inl hcg.1)];simp)]
     exact c.O
   ·refine⟨k.doO s' i,.step hr' (.cmd (by rw[p.len];exact him) (p.may c him h2) (by rw[eat,ek.1];exact h3) ?_),fun j hj=>?_,fun j hj=>?_,fun j hj hn=>?_,?_,c.K⟩
    ·intro hk
     rw[eat,ek.1] at hk
     have hnc:¬time<(h.at' i).t:=fun g=>hcg ⟨hk,g⟩
     obtain⟨g1,g2⟩:=h4 hk
     rw[eat,Hist.cut_same hnc]
     refine⟨g1,?_⟩
     rw[←g2]
     unfold Hist.res
     rw[c.K,c.O]
     exact p.res_same _ _ s.O hO
    ·unfold Hist.doO at hj
     dsimp only at hj
     rw[Hist.bit_or] at hj
     by_cases e:i=j
     ·omega
     ·exact c.lo j (by simpa [e] using hj)
    ·unfold Hist.doO at hj ⊢
     dsimp only at hj ⊢
     rw[Hist.bit_or] at hj ⊢
     by_cases e:i=j
     ·simp[e]
     ·rw[c.D1 j (by simpa [e] using hj)];rfl
    ·unfold Hist.doO at hj ⊢
     dsimp only at hj ⊢
     rw[Hist.bit_or] at hj ⊢
     by_cases e:i=j
     ·simp[e]
     ·rw[c.D2 j (by simpa [e] using hj) hn];rfl
    ·unfold Hist.doO
     dsimp only
     rw[c.O]
     cases eh:(h.at' i).isO with
     |true=>
      rw[if_pos rfl]
      cases e:(k.at' i).isO with
      |true=>rw[filt_snoc_yes e];simp
      |false=>rw[filt_snoc_no e];simp
     |false=>
      refine(if_neg ?_).trans (congrArg (filt k) (if_neg (by simp)).symm)
      intro e
      have g1:=isO_ne e
      rw[eat,ek.1,Hist.cut_t] at g1
      have:(h.at' i).isO=true:=isO_of g1.1 (fun g=>g1.2 ⟨g.1,by split<;>omega⟩)
      rw[eh] at this
      cases this
  |@fall i im h1 h2 h3 h4=>
   refine(a1B i m).elim (fun him=>?_) (fun him=>.inr (late i h1 h2 him))
   left
   have eat:=p.at' i him
   have ek:=Hist.cut_k time (h.at' i)
   have hat:=fun b hb=>Hist.Img.at p.g inv h4 (b:=b) hb
   refine⟨k.fall s' i im,.step hr' (.fall (by rw[p.len];exact him) (p.may c him h2) (by rw[eat,ek.1];exact h3) (by rw[c.O];exact p.img hO hOl h4)),fun j hj=>?_,fun j hj=>?_,fun j hj hn=>?_,rfl,?_⟩
   ·unfold Hist.fall at hj
    dsimp only at hj
    rw[Hist.bit_or] at hj
    by_cases e:i=j
    ·omega
    ·exact c.lo j (by simpa [e] using hj)
   ·unfold Hist.fall at hj ⊢
    dsimp only at hj ⊢
    rw[Hist.bit_or] at hj ⊢
    by_cases e:i=j
    ·simp[e]
    ·rw[c.D1 j (by simpa [e] using hj)];rfl
   ·unfold Hist.fall at hj ⊢
    dsimp only at hj ⊢
    rw[Hist.bit_or] at hj ⊢
    by_cases e:i=j
    ·simp[e]
    ·rw[c.D2 j (by simpa [e] using hj) hn];rfl
   ·unfold Hist.fall
    dsimp only
    rw[c.K]
    exact p.keep_same (fun j hj=>(hO j hj).1) hat
end Pre
end Ho
end Go.Proofs
namespace Go.Proofs
open Go Go.Sx
set_option maxRecDepth 100000
set_option maxHeartbeats 4000000
namespace Ho
structure Agr (h k:Hist):Prop where
 n:k.n=h.n
 at':∀i,i<h.l.length→k.at' i=h.at' i
structure Ext (h k:Hist):Prop extends Agr h k where
 len:h.l.length≤k.l.length
 op:∀i,h.l.length≤i→i<k.l.length→(k.at' i).t=-1
namespace Agr
variable {h k:Hist}
theorem nn (e:Agr h k):k.nn=h.nn:=by unfold Hist.nn;rw[e.n]
theorem cache (e:Agr h k) {O:List Nat} (hO:∀i∈O,i<h.l.length):k.cache O=h.cache O:=by
 unfold Hist.cache
 rw[e.n,List.map_congr_left fun i hi=>by rw[e.at' i (hO i hi)]]
theorem img (e:Agr h k) {O:List Nat} (hO:∀i∈O,i<h.l.length) (im:List Int):k.Img O im↔h.Img O im:=by
 unfold Hist.Img
 rw[e.nn,e.cache hO]
theorem resO (e:Agr h k) (b z:Int):∀O:List Nat,(∀i∈O,i<h.l.length)→k.resO b z O=h.resO b z O:=by
 refine snoc_ind (fun _=>rfl) fun O i ih hO=>?_
 rw[Hist.resO_snoc,Hist.resO_snoc,e.at' i (hO i (by simp)),ih (fun j hj=>hO j (a1I _ hj))]
theorem keep (e:Agr h k) {K im:List Int} {O:List Nat} (hO:∀i∈O,i<h.l.length) (hat:∀b,b<h.nn→im.getD b 0=-1∨im.getD b 0=-2∨∃i:Nat,im.getD b 0=i∧i∈O∧(h.at' i).Puts∧(h.at' i).b=b):k.keep K im=h.keep K im:=by
 unfold Hist.keep
 rw[e.nn]
 refine List.map_congr_left fun b hb=>?_
 rw[a1D] at hb
 unfold Hist.keep1
 rcases hat b hb with g|g|⟨i,g,hi,hp,_⟩
 ·rw[g];rfl
 ·rw[g];rfl
 ·rw[g,if_neg (by omega),if_neg (by omega),if_neg (by omega),if_neg (by omega),a1N,e.at' i (hO i hi)]
end Agr
namespace Ext
variable {h k:Hist}
theorem bit {s:St} (inv:Inv h s) {i:Nat} (hi:h.l.length≤i):s.D.testBit i=false:=by
 refine Nat.testBit_lt_two_pow (a0Y inv.D ?_)
 exact a3L (by omega) hi
theorem may (e:Ext h k) {s:St} (inv:Inv h s) {i:Nat} (hi:i<h.l.length) (hm:h.May s.D i):k.May s.D i:=by
 refine⟨hm.1,fun j hj=>?_⟩
 rcases a1B j h.l.length with g|g
 ·rw[e.at' i hi,e.at' j g]
  exact hm.2 j g
 ·exact⟨fun _ h2=>absurd (e.op j g hj) h2,fun h1=>by rw[bit inv g] at h1;cases h1⟩
theorem rea (e:Ext h k) (g:h.Ok) {s:St} (r:h.Rea s):k.Rea s:=by
 induction r with
 |begin=>
  have:h.st0=k.st0:=by unfold Hist.st0;rw[e.nn]
  rw[this];exact .begin
 |@step s s2 r hs ih=>
  have inv:=Hist.Rea.inv g r
  refine .step ih ?_
  cases hs with
  |@cmd i h1 h2 h3 h4=>
   have ei:=e.at' i h1
   have:h.doO s i=k.doO s i:=by unfold Hist.doO;rw[ei]
   rw[this]
   refine .cmd (a0Y h1 e.len) (e.may inv h1 h2) (by rw[ei];exact h3) ?_
   intro hk
   rw[ei] at hk ⊢
   obtain⟨g1,g2⟩:=h4 hk
   refine⟨g1,?_⟩
   rw[←g2]
   exact e.resO _ _ s.O fun j hj=>(inv.O j hj).1
  |@fall i im h1 h2 h3 h4=>
   have ei:=e.at' i h1
   have hO:∀j∈s.O,j<h.l.length:=fun j hj=>(inv.O j hj).1
   have:h.fall s i im=k.fall s i im:=by
    unfold Hist.fall
    rw[e.keep hO fun b hb=>Hist.Img.at g inv h4 hb]
   rw[this]
   exact .fall (a0Y h1 e.len) (e.may inv h1 h2) (by rw[ei];exact h3) ((e.img hO im).2 h4)
theorem whole (e:Ext h k) {s:St} (w:h.Whole s):k.Whole s:=by
 intro i hi ht
 rcases a1B i h.l.length with g|g
 ·rw[e.at' i g] at ht;exact w i g ht
 ·exact absurd (e.op i g hi) ht
theorem ends (e:Ext h k) (g:h.Ok) {s:St} (hs:h.End s):k.End s:=⟨e.rea g hs.1,e.whole hs.2⟩
theorem legal (e:Ext h k) (g:h.Ok) (hl:h.Legal):k.Legal:=hl.imp fun _ hs=>e.ends g hs
theorem res (e:Ext h k) (g:h.Ok) {s:St} (r:h.Rea s) (b:Nat):k.res s b=h.res s b:=e.resO _ _ s.O fun j hj=>((Hist.Rea.inv g r).O j hj).1
end Ext
theorem legal_open {h:Hist} (ho:∀i,i<h.l.length→(h.at' i).t=-1):h.Legal:=⟨h.st0,.begin,fun i hi ht=>absurd (ho i hi) ht⟩
namespace Hist
variable {h:Hist}
theorem Ok.ext_last (g:h.Ok) {t1:Int} (h1:0≤t1) (hno:∀i,i<h.l.length→(h.at' i).t≤t1):Ext (h.upto t1) h:=by
 obtain⟨m1,p1⟩:=g.pre h1
 refine⟨⟨p1.n.symm,fun i hi=>?_⟩,by rw[p1.len];exact p1.hm,fun i h3 h4=>?_⟩
 ·rw[p1.len] at hi
  rw[p1.at' i hi]
  exact(cut_same (by have:=hno i (by have:=p1.hm;omega);omega)).symm
 ·rw[p1.len] at h3
  have h5:=p1.hi i h3 h4
  have h6:=hno i h4
  have hc:=g.cmd i h4
  generalize h.at' i=c at *
  unfold Cmd.Ok at hc
  omega
def isLie (h:Hist) (n:Int):Prop:=(h.Legal∧n=-1)∨(¬h.Legal∧∃i:Nat,i<h.l.length∧n=i∧(h.at' i).t≠-1∧¬(h.upto (h.at' i).t).Legal∧∀j,j<h.l.length→(h.at' j).t≠-1→(h.at' j).t<(h.at' i).t→(h.upto (h.at' j).t).Legal)
theorem Ok.ended (g:h.Ok) {i:Nat} (hi:i<h.l.length) (ht:(h.at' i).t≠-1):0≤(h.at' i).t∧(h.at' i).t≤999:=by
 have hc:=g.cmd i hi
 generalize h.at' i=c at *
 unfold Cmd.Ok at hc
 omega
theorem last_end (P:Nat→Prop) (n:Nat) (t:Nat→Int):(∀i,i<n→¬P i)∨∃i,i<n∧P i∧∀j,j<n→P j→t j≤t i:=by
 classical
 induction n with
 |zero=>exact .inl fun i hi=>by omega
 |succ n ih=>
  by_cases hp:P n
  ·right
   rcases ih with g|⟨i,h1,h2,h3⟩
   ·refine⟨n,by omega,hp,fun j hj hpj=>?_⟩
    rcases a0J (show j≤n by omega) with q|rfl
    ·exact absurd hpj (g j q)
    ·omega
   ·by_cases hle:t i≤t n
    ·refine⟨n,by omega,hp,fun j hj hpj=>?_⟩
     rcases a0J (show j≤n by omega) with q|rfl
     ·have:=h3 j q hpj;omega
     ·omega
    ·refine⟨i,by omega,h2,fun j hj hpj=>?_⟩
     rcases a0J (show j≤n by omega) with q|rfl
     ·exact h3 j q hpj
     ·omega
  ·rcases ih with g|⟨i,h1,h2,h3⟩
   ·left
    intro i hi
    rcases a0J (show i≤n by omega) with q|rfl
    ·exact g i q
    ·exact hp
   ·right
    refine⟨i,by omega,h2,fun j hj hpj=>?_⟩
    rcases a0J (show j≤n by omega) with q|rfl
    ·exact h3 j q hpj
    ·exact absurd hpj hp
theorem Ok.legal_of_ends (g:h.Ok) (hall:∀i,i<h.l.length→(h.at' i).t≠-1→(h.upto (h.at' i).t).Legal):h.Legal:=by
 rcases last_end (fun i=>(h.at' i).t≠-1) h.l.length (fun i=>(h.at' i).t) with q|⟨i,h1,h2,h3⟩
 ·exact legal_open fun i hi=>a0T.1 (q i hi)
 ·have h0:=g.ended h1 h2
  have e:=g.ext_last (t1:=(h.at' i).t) h0.1 fun j hj=>by
   by_cases hj1:(h.at' j).t=-1
   ·omega
   ·exact h3 j hj hj1
  exact e.legal (g.upto _) (hall i h1 h2)
end Hist
end Ho
end Go.Proofs
namespace Go.Proofs
open Go Go.Sx
set_option maxRecDepth 100000
set_option maxHeartbeats 4000000
namespace Ho
structure Add (h k:Hist) (c:Cmd):Prop extends Agr h k where
 g:h.Ok
 len:k.l.length=h.l.length+1
 last:k.at' h.l.length=c
 tm:∀i,i<h.l.length→(h.at' i).f<c.f∧(h.at' i).t<c.f
namespace Add
variable {h k:Hist} {c:Cmd}
theorem bit_hi {s:St} (inv:Inv h s):s.D.testBit h.l.length=false:=Ext.bit inv (a0U _)
theorem up (a:Add h k c) (hc:c.t=-1∨c.f≤c.t) {s s2:St} (r:h.Rea s) (hs:h.Step s s2):k.Step s s2:=by
 have inv:=Hist.Rea.inv a.g r
 have may:∀i,i<h.l.length→h.May s.D i→k.May s.D i:=by
  intro i hi hm
  refine⟨hm.1,fun j hj=>?_⟩
  rw[a.at' i hi]
  rcases a1B j h.l.length with g|g
  ·rw[a.at' j g]
   exact hm.2 j g
  ·obtain rfl:j=h.l.length:=by rw[a.len] at hj;omega
   rw[a.last]
   have:=a.tm i hi
   refine⟨fun _ h2=>by omega,fun h1=>?_⟩
   rw[bit_hi inv] at h1
   cases h1
 cases hs with
 |@cmd i h1 h2 h3 h4=>
  have ei:=a.at' i h1
  have:h.doO s i=k.doO s i:=by unfold Hist.doO;rw[ei]
  rw[this]
  refine .cmd (by rw[a.len];omega) (may i h1 h2) (by rw[ei];exact h3) ?_
  intro hk
  rw[ei] at hk ⊢
  obtain⟨g1,g2⟩:=h4 hk
  refine⟨g1,?_⟩
  rw[←g2]
  exact a.resO _ _ s.O fun j hj=>(inv.O j hj).1
 |@fall i im h1 h2 h3 h4=>
  have ei:=a.at' i h1
  have hO:∀j∈s.O,j<h.l.length:=fun j hj=>(inv.O j hj).1
  have:h.fall s i im=k.fall s i im:=by
   unfold Hist.fall
   rw[a.keep hO fun b hb=>Hist.Img.at a.g inv h4 hb]
  rw[this]
  exact .fall (by rw[a.len];omega) (may i h1 h2) (by rw[ei];exact h3) ((a.img hO im).2 h4)
theorem rea (a:Add h k c) (hc:c.t=-1∨c.f≤c.t) {s:St} (r:h.Rea s):k.Rea s:=by
 induction r with
 |begin=>
  have:h.st0=k.st0:=by unfold Hist.st0;rw[a.nn]
  rw[this];exact .begin
 |step r hs ih=>exact .step ih (a.up hc r hs)
theorem may_last (a:Add h k c) (hc:c.t=-1∨c.f≤c.t) {s:St} (e:h.End s):k.May s.D h.l.length:=by
 have inv:=Hist.Rea.inv a.g e.1
 refine⟨bit_hi inv,fun j hj=>?_⟩
 rw[a.last]
 rcases a1B j h.l.length with g|g
 ·rw[a.at' j g]
  have:=a.tm j g
  refine⟨fun h1 h2 _=>?_,fun _ _ h3=>by omega⟩
  have:=e.2 j g h2
  rw[h1] at this
  cases this
 ·obtain rfl:j=h.l.length:=by rw[a.len] at hj;omega
  rw[a.last]
  exact⟨fun _ h2 h3=>by omega,fun h1=>by rw[bit_hi inv] at h1;cases h1⟩
theorem down (a:Add h k c) {s:St} (r:k.Rea s):(s.D.testBit h.l.length=false∧h.Rea s)∨∃s0 s1,h.End s0∧k.May s0.D h.l.length∧k.Step s0 s1∧s1.D.testBit h.l.length=true∧(s1=k.doO s0 h.l.length∧c.k≠9∧k.Fit s0 h.l.length∨∃im,s1=k.fall s0 h.l.length im∧c.k=9∧k.Img s0.O im)∧(c.k=9→s=s1):=by
 induction r with
 |begin=>
  refine .inl ⟨by simp[Hist.st0],?_⟩
  have:h.st0=k.st0:=by unfold Hist.st0;rw[a.nn]
  rw[←this];exact .begin
 |@step s s2 r hs ih=>
  rcases ih with⟨hb,hr⟩|⟨s0,s1,q1,q2,q3,q4,q5,q6⟩
  ·have inv:=Hist.Rea.inv a.g hr
   have hO:∀j∈s.O,j<h.l.length:=fun j hj=>(inv.O j hj).1
   have may:∀i,i<h.l.length→k.May s.D i→h.May s.D i:=by
    intro i hi hm
    refine⟨hm.1,fun j hj=>?_⟩
    have:=hm.2 j (by rw[a.len];omega)
    rwa [a.at' i hi,a.at' j hj] at this
   have whole:k.May s.D h.l.length→h.Whole s:=by
    intro hm j hj ht
    have h1:=(hm.2 j (by rw[a.len];omega)).1
    rw[a.at' j hj,a.last] at h1
    have:=a.tm j hj
    cases e:s.D.testBit j with
    |true=>rfl
    |false=>exact absurd this.2 (h1 e ht)
   cases hs with
   |@cmd i h1 h2 h3 h4=>
    rcases a1B i h.l.length with hi|hi
    ·left
     have ei:=a.at' i hi
     have e:k.doO s i=h.doO s i:=by unfold Hist.doO;rw[ei]
     rw[e]
     refine⟨?_,.step hr (.cmd hi (may i hi h2) (by rw[←ei];exact h3) ?_)⟩
     ·unfold Hist.doO
      dsimp only
      rw[Hist.bit_or,hb]
      simp;omega
     ·intro hk
      rw[←ei] at hk
      obtain⟨g1,g2⟩:=h4 hk
      rw[ei] at g1 g2
      refine⟨g1,?_⟩
      rw[←g2]
      exact(a.resO _ _ s.O hO).symm
    ·obtain rfl:i=h.l.length:=by rw[a.len] at h1;omega
     right
     refine⟨s,_,⟨hr,whole h2⟩,h2,.cmd h1 h2 h3 h4,?_,.inl ⟨rfl,by rw[←a.last];exact h3,h4⟩,fun hk=>absurd (a.last▸hk) h3⟩
     unfold Hist.doO
     dsimp only
     rw[Hist.bit_or]
     simp
   |@fall i im h1 h2 h3 h4=>
    rcases a1B i h.l.length with hi|hi
    ·left
     have ei:=a.at' i hi
     have h4':=(a.img hO im).1 h4
     have e:k.fall s i im=h.fall s i im:=by
      unfold Hist.fall
      rw[a.keep hO fun b hb=>Hist.Img.at a.g inv h4' hb]
     rw[e]
     refine⟨?_,.step hr (.fall hi (may i hi h2) (by rw[←ei];exact h3) h4')⟩
     unfold Hist.fall
     dsimp only
     rw[Hist.bit_or,hb]
     simp;omega
    ·obtain rfl:i=h.l.length:=by rw[a.len] at h1;omega
     right
     refine⟨s,_,⟨hr,whole h2⟩,h2,.fall h1 h2 h3 h4,?_,.inr ⟨im,rfl,by rw[←a.last];exact h3,h4⟩,fun _=>rfl⟩
     unfold Hist.fall
     dsimp only
     rw[Hist.bit_or]
     simp
  ·right
   refine⟨s0,s1,q1,q2,q3,q4,q5,fun h9=>?_⟩
   exfalso
   have hs1:=q6 h9
   subst hs1
   -- behind the fall nothing can be done
   have hno:∀i,i<k.l.length→¬k.May s.D i:=by
    intro i hi hm
    have h2:=(hm.2 h.l.length (by rw[a.len];omega)).2 q4 (by rw[a.last];exact h9)
    rcases a1B i h.l.length with g|g
    ·rw[a.last,a.at' i g] at h2
     exact h2 (a.tm i g).1
    ·obtain rfl:i=h.l.length:=by rw[a.len] at hi;omega
     rw[hm.1] at q4
     cases q4
   cases hs with
   |cmd h1 h2=>exact hno _ h1 h2
   |fall h1 h2=>exact hno _ h1 h2
theorem get_legal (a:Add h k c) (hk:c.k=10) (ht:c.t≠-1) (hf:c.f≤c.t):k.Legal↔∃s,h.End s∧h.res s c.b.toNat=c.v:=by
 constructor
 ·rintro⟨s,r,w⟩
  have hw:=w h.l.length (by rw[a.len];omega) (by rw[a.last];exact ht)
  rcases a.down r with⟨hb,_⟩|⟨s0,s1,q1,q2,q3,q4,q5,q6⟩
  ·rw[hb] at hw;cases hw
  ·rcases q5 with⟨_,_,hfit⟩|⟨_,_,h9,_⟩
   ·refine⟨s0,q1,?_⟩
    have inv:=Hist.Rea.inv a.g q1.1
    have:=(hfit (by rw[a.last];exact hk)).2
    rw[a.last] at this
    rw[←this]
    exact(a.resO _ _ s0.O fun j hj=>(inv.O j hj).1).symm
   ·omega
 ·rintro⟨s,e,hr⟩
  have inv:=Hist.Rea.inv a.g e.1
  refine⟨k.doO s h.l.length,.step (a.rea (.inr hf) e.1) (.cmd (by rw[a.len];omega) (a.may_last (.inr hf) e) (by rw[a.last];omega) ?_),?_⟩
  ·intro _
   rw[a.last]
   refine⟨ht,?_⟩
   rw[←hr]
   exact a.resO _ _ s.O fun j hj=>(inv.O j hj).1
  ·intro j hj hjt
   unfold Hist.doO
   dsimp only
   rw[Hist.bit_or]
   rcases a1B j h.l.length with g|g
   ·rw[a.at' j g] at hjt
    rw[e.2 j g hjt]
    rfl
   ·obtain rfl:j=h.l.length:=by rw[a.len] at hj;omega
    simp
theorem fall_end (a:Add h k c) (hk:c.k=9) (ht:c.t≠-1) (hf:c.f≤c.t) (s:St):k.End s↔∃s0 im,h.End s0∧h.Img s0.O im∧s=⟨s0.D ||| 1 <<< h.l.length,[],h.keep s0.K im⟩:=by
 have hkeep:∀s0 im,h.End s0→h.Img s0.O im→k.keep s0.K im=h.keep s0.K im:=fun s0 im e hi=>by
  have inv:=Hist.Rea.inv a.g e.1
  exact a.keep (fun j hj=>(inv.O j hj).1) fun b hb=>Hist.Img.at a.g inv hi hb
 constructor
 ·rintro⟨r,w⟩
  have hw:=w h.l.length (by rw[a.len];omega) (by rw[a.last];exact ht)
  rcases a.down r with⟨hb,_⟩|⟨s0,s1,q1,q2,q3,q4,q5,q6⟩
  ·rw[hb] at hw;cases hw
  ·rcases q5 with⟨_,h9,_⟩|⟨im,rfl,_,hi⟩
   ·exact absurd hk h9
   ·have inv:=Hist.Rea.inv a.g q1.1
    have hi:=(a.img (fun j hj=>(inv.O j hj).1) im).1 hi
    refine⟨s0,im,q1,hi,?_⟩
    rw[q6 hk]
    unfold Hist.fall
    rw[hkeep s0 im q1 hi]
 ·rintro⟨s0,im,e,hi,rfl⟩
  have inv:=Hist.Rea.inv a.g e.1
  have hfl:(⟨s0.D ||| 1 <<< h.l.length,[],h.keep s0.K im⟩:St)=k.fall s0 h.l.length im:=by
   unfold Hist.fall
   rw[hkeep s0 im e hi]
  rw[hfl]
  refine⟨.step (a.rea (.inr hf) e.1) (.fall (by rw[a.len];omega) (a.may_last (.inr hf) e) (by rw[a.last];exact hk) ((a.img (fun j hj=>(inv.O j hj).1) im).2 hi)),?_⟩
  intro j hj hjt
  unfold Hist.fall
  dsimp only
  rw[Hist.bit_or]
  rcases a1B j h.l.length with g|g
  ·rw[a.at' j g] at hjt
   rw[e.2 j g hjt]
   rfl
  ·obtain rfl:j=h.l.length:=by rw[a.len] at hj;omega
   simp
end Add
namespace Hist
def rd (h:Hist) (b:Nat) (v:Int):Prop:=∃s,h.End s∧h.res s b=v
def fl (h:Hist) (b:Nat) (v:Int):Prop:=∃s im,h.End s∧h.Img s.O im∧h.keep1 (s.K.getD b 0) (im.getD b 0)=v
end Hist
theorem Add.next_fall {h h1 k:Hist} {c d:Cmd} (a:Add h h1 c) (hk:c.k=9) (ht:c.t≠-1) (hf:c.f≤c.t) (a2:Add h1 k d) (hk2:d.k=10) (ht2:d.t≠-1) (hf2:d.f≤d.t) (hb:d.b.toNat<h.nn):k.Legal↔h.fl d.b.toNat d.v:=by
 rw[a2.get_legal hk2 ht2 hf2]
 constructor
 ·rintro⟨s,e,hr⟩
  obtain⟨s0,im,e0,hi,rfl⟩:=(a.fall_end hk ht hf s).1 e
  refine⟨s0,im,e0,hi,?_⟩
  rw[←hr]
  show _=(h.keep s0.K im).getD d.b.toNat 0
  rw[Hist.keep_at hb]
 ·rintro⟨s0,im,e0,hi,hv⟩
  refine⟨_,(a.fall_end hk ht hf _).2 ⟨s0,im,e0,hi,rfl⟩,?_⟩
  show(h.keep s0.K im).getD d.b.toNat 0=_
  rw[Hist.keep_at hb,hv]
end Ho
end Go.Proofs
namespace Go.Proofs
open Go Go.Sx
set_option maxRecDepth 100000
set_option maxHeartbeats 4000000
namespace Ho
def QB (l:Int) (b:Nat) (u:PS):Prop:=u.M.get b=l∧∀e,(u.ep e).get b=-3
def PB (l:Int) (b:Nat) (u:PS):Prop:=(∃e,(u.ep e).get b=l∧∀e',e<e'→(u.ep e').get b=-3)∨QB l b u
theorem NO_get {b:Nat} (hb:b<6):NO.get b=-3:=C6.get_all hb
theorem ep_out {u:PS} {e:Nat} (h:u.E.length≤e):u.ep e=NO:=by
 unfold PS.ep
 rw[a0A,a0P h]
 rfl
theorem QB.drain {l:Int} {b b':Nat} (hb:b<6) (hb':b'<6) {u:PS} (hc:u.can b') (h:QB l b u):QB l b (u.drainU b'):=by
 obtain⟨e0,h1,_,h3,h4⟩:=PS.drain_spec hb' hc
 have hne:b≠b':=fun q=>h1 (q▸h.2 e0)
 refine⟨by rw[h3,C6.get_set hb' hb,if_neg hne];exact h.1,fun e=>?_⟩
 rw[h4]
 split
 ·rw[C6.get_set hb' hb,if_neg hne];exact h.2 e0
 ·exact h.2 e
theorem PB.drain {l:Int} {b b':Nat} (_hl:0≤l) (hb:b<6) (hb':b'<6) {u:PS} (hc:u.can b') (h:PB l b u):PB l b (u.drainU b'):=by
 rcases h with⟨e,g1,g2⟩|h
 ·obtain⟨e0,h1,h2,h3,h4⟩:=PS.drain_spec hb' hc
  by_cases hne:b=b'
  ·subst hne
   by_cases he:e0=e
   ·subst he
    right
    refine⟨by rw[h3,C6.get_set hb hb,if_pos rfl];exact g1,fun e'=>?_⟩
    rw[h4]
    split
    ·rw[C6.get_set hb hb,if_pos rfl]
    ·rename_i hh
     rcases Nat.lt_or_gt_of_ne hh with q|q
     ·rw[h2 e' q];exact NO_get hb
     ·exact g2 e' q
   ·left
    refine⟨e,by rw[h4,if_neg (fun q=>he q.symm)];exact g1,fun e' he'=>?_⟩
    rw[h4]
    split
    ·rw[C6.get_set hb hb,if_pos rfl]
    ·exact g2 e' he'
  ·left
   have key:∀e',((u.drainU b').ep e').get b=(u.ep e').get b:=fun e'=>by
    rw[h4]
    split
    ·rename_i q;rw[C6.get_set hb' hb,if_neg hne,q]
    ·rfl
   exact⟨e,by rw[key];exact g1,fun e' he'=>by rw[key];exact g2 e' he'⟩
 ·exact .inr (h.drain hb hb' hc)
theorem QB.dr {l:Int} {b:Nat} (hb:b<6) {u v:PS} (d:Dr u v) (h:QB l b u):QB l b v:=by
 induction d with
 |refl=>exact h
 |step _ hb' hc ih=>exact ih.drain hb hb' hc
theorem PB.dr {l:Int} {b:Nat} (hl:0≤l) (hb:b<6) {u v:PS} (d:Dr u v) (h:PB l b u):PB l b v:=by
 induction d with
 |refl=>exact h
 |step _ hb' hc ih=>exact ih.drain hl hb hb' hc
theorem base_other {b:Nat} (hb:b<6) {u:PS} (hl:0<u.E.length) {n:Int} {o:Int×Int} (ho:o.1=1∨o.1=2→o.2.toNat<6∧o.2.toNat≠b):(u.base n o).M.get b=u.M.get b∧∀e,((u.base n o).ep e).get b=(u.ep e).get b:=by
 unfold PS.base
 split
 ·rename_i h
  obtain⟨h1,h2⟩:=ho h
  refine⟨rfl,fun e=>?_⟩
  rw[PS.put_get u hl h1 n hb,if_neg (fun q=>h2 q.2.symm)]
 ·split
  ·refine⟨rfl,fun e=>?_⟩
   unfold PS.ep
   dsimp only
   by_cases he:e<u.E.length
   ·simp[a0A,a0E he]
   ·rw[a0A,a0R (by omega),a0A,a0P (show u.E.length≤e by omega)]
    by_cases h0:e-u.E.length=0
    ·rw[h0];rfl
    ·rw[a0P (by simp;omega)]
  ·exact⟨rfl,fun _=>rfl⟩
theorem PB.other {l:Int} {b:Nat} (hl0:0≤l) (hb:b<6) {u:PS} (hl:0<u.E.length) {n:Int} {o:Int×Int} (ho:o.1=1∨o.1=2→o.2.toNat<6∧o.2.toNat≠b) (h:PB l b u):PB l b (u.orderU n o):=by
 obtain⟨g1,g2⟩:=base_other (n:=n) hb hl ho
 refine PB.dr hl0 hb (Dr.order u hl n o fun q=>(ho (.inr q)).1) ?_
 rcases h with⟨e,h1,h2⟩|⟨h1,h2⟩
 ·exact .inl ⟨e,by rw[g2];exact h1,fun e' he=>by rw[g2];exact h2 e' he⟩
 ·exact .inr ⟨by rw[g1];exact h1,fun e=>by rw[g2];exact h2 e⟩
theorem QB.other {l:Int} {b:Nat} (hb:b<6) {u:PS} (hl:0<u.E.length) {n:Int} {o:Int×Int} (ho:o.1=1∨o.1=2→o.2.toNat<6∧o.2.toNat≠b) (h:QB l b u):QB l b (u.orderU n o):=by
 obtain⟨g1,g2⟩:=base_other (n:=n) hb hl ho
 refine QB.dr hb (Dr.order u hl n o fun q=>(ho (.inr q)).1) ?_
 exact⟨by rw[g1];exact h.1,fun e=>by rw[g2];exact h.2 e⟩
theorem PB.puts {b:Nat} (hb:b<6) {u:PS} (hl:0<u.E.length) {n:Int} (hn:0≤n) {o:Int×Int} (h1:o.1=1∨o.1=2) (h2:o.2.toNat=b):PB n b (u.orderU n o):=by
 refine PB.dr hn hb (Dr.order u hl n o fun _=>by omega) (.inl ⟨u.E.length-1,?_,fun e' he=>?_⟩)
 ·unfold PS.base
  rw[if_pos h1,PS.put_get u hl (by omega) n hb,if_pos ⟨rfl,h2.symm⟩]
 ·unfold PS.base
  rw[if_pos h1,PS.put_get u hl (by omega) n hb,if_neg (by omega),ep_out (by omega)]
  exact NO_get hb
theorem PB.flush {l:Int} {b:Nat} (hl0:0≤l) (hb:b<6) {u:PS} (hl:0<u.E.length) {n:Int} {o:Int×Int} (ho:o.1=4) (h:PB l b u):QB l b (u.orderU n o):=by
 rcases PB.other (n:=n) (o:=o) hl0 hb hl (fun q=>by omega) h with⟨e,h1,_⟩|h
 ·rw[order4_no u n o ho e,NO_get hb] at h1;omega
 ·exact h
theorem QB.force {b:Nat} (hb:b<6) {u:PS} (hl:0<u.E.length) {n:Int} (hn:0≤n) {o:Int×Int} (h1:o.1=2) (h2:o.2.toNat=b):QB n b (u.orderU n o):=by
 refine⟨h2▸order2_M u hl n hn o h1 (by omega),fun e=>?_⟩
 unfold PS.orderU
 rw[if_neg (by omega),if_pos h1,h2]
 have hlen:((u.put b n).wrE (u.E.length-1)).E.length=u.E.length:=by rw[PS.wrE_len,PS.put_len]
 generalize hw:(u.put b n).wrE (u.E.length-1)=w at *
 rcases Nat.lt_trichotomy e (u.E.length-1) with q|q|q
 ·rw[PS.wr_other _ _ _ hb (by omega),←hw,wrE_no _ _ (by rw[PS.put_len];omega) q]
  exact NO_get hb
 ·rw[q]
  by_cases hc:(w.ep (u.E.length-1)).get b=-3
  ·rw[PS.wr_neg hc];exact hc
  ·rw[PS.wr_ep _ hc hb,if_pos rfl,C6.get_set hb hb,if_pos rfl]
 ·rw[ep_out (by rw[PS.wr_len];omega)]
  exact NO_get hb
end Ho
end Go.Proofs
