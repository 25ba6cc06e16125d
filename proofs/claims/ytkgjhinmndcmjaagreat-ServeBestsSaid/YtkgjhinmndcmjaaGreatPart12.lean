/- Own work: texts of the proof of a law (WEnv, Wc1, Wr1, SzCfz, Wr2, Wc2, Wr3, Wr4, Wr5, WsM, WsC, WsI, WqN, WqM, WqA, WqT, WqQ, WsQ). No condition. -/
import Derived.Test.YtkgjhinmndcmjaaGreatPart11
import Derived.Test.YtkgjhinmndcmjaaGreatProg
import Derived.KernelRfl
namespace Go.Proofs
open Go Go.Sx
def Tryz.E:Go.Sx.Env:=[
 {},
 ⟨true,1,8,.other,(some [.lit .nilFunc]),false⟩,
 ⟨true,1,8,(.int .i64),(some [.int .i64 0]),false⟩,
 ⟨true,1,8,(.int .i64),(some [.int .i64 0]),false⟩,
 ⟨true,1,1,.bool,(some [.prop False inferInstance]),false⟩,
 ⟨true,1,1,(.int .u8),(some [.int .u8 0]),false⟩,
 {},
 {},
 {},
 ⟨true,1,16,.str,(some [.lit (.string ByteArray.empty)]),false⟩,
 {},
 {},
 ⟨true,1,8,(.int .u64),(some [.int .u64 0]),false⟩,
 {},
 {},
 {},
 {},
 {},
 {},
 {},
 {},
 ⟨true,1,4,(.int .i32),(some [.int .i32 0]),false⟩,
 ⟨true,1,24,(.slice 76),(some [.lit (.slice none 0 0)]),false⟩,
 ⟨true,2,32,(.struct [(0,1,3),(1,1,22)]),(some [.int .i64 0,.lit (.slice none 0 0)]),true⟩,
 ⟨true,2,32,(.struct [(0,1,3),(1,1,22)]),(some [.int .i64 0,.lit (.slice none 0 0)]),true⟩,
 ⟨true,1,24,(.slice 162),(some [.lit (.slice none 0 0)]),false⟩,
 ⟨true,2,16,(.struct [(0,1,3),(1,1,3)]),(some [.int .i64 0,.int .i64 0]),true⟩,
 ⟨true,2,16,(.struct [(0,1,3),(1,1,3)]),(some [.int .i64 0,.int .i64 0]),true⟩,
 ⟨true,9,88,(.struct [(0,1,3),(1,1,3),(2,1,25),(3,1,3),(4,1,3),(5,2,27),(7,2,27)]),(some [.int .i64 0,.int .i64 0,.lit (.slice none 0 0),.int .i64 0,.int .i64 0,.int .i64 0,.int .i64 0,.int .i64 0,.int .i64 0]),true⟩,
 ⟨true,9,88,(.struct [(0,1,3),(1,1,3),(2,1,25),(3,1,3),(4,1,3),(5,2,27),(7,2,27)]),(some [.int .i64 0,.int .i64 0,.lit (.slice none 0 0),.int .i64 0,.int .i64 0,.int .i64 0,.int .i64 0,.int .i64 0,.int .i64 0]),true⟩,
 ⟨true,1,24,(.slice 27),(some [.lit (.slice none 0 0)]),false⟩,
 ⟨true,1,24,(.slice 3),(some [.lit (.slice none 0 0)]),false⟩,
 ⟨true,14,176,(.struct [(0,2,24),(2,9,29),(11,1,30),(12,1,3),(13,1,31)]),(some [.int .i64 0,.lit (.slice none 0 0),.int .i64 0,.int .i64 0,.lit (.slice none 0 0),.int .i64 0,.int .i64 0,.int .i64 0,.int .i64 0,.int .i64 0,.int .i64 0,.lit (.slice none 0 0),.int .i64 0,.lit (.slice none 0 0)]),true⟩,
 ⟨true,14,176,(.struct [(0,2,24),(2,9,29),(11,1,30),(12,1,3),(13,1,31)]),(some [.int .i64 0,.lit (.slice none 0 0),.int .i64 0,.int .i64 0,.lit (.slice none 0 0),.int .i64 0,.int .i64 0,.int .i64 0,.int .i64 0,.int .i64 0,.int .i64 0,.lit (.slice none 0 0),.int .i64 0,.lit (.slice none 0 0)]),true⟩,
 ⟨true,2,32,(.struct [(0,1,31),(1,1,3)]),(some [.lit (.slice none 0 0),.int .i64 0]),true⟩,
 ⟨true,2,32,(.struct [(0,1,31),(1,1,3)]),(some [.lit (.slice none 0 0),.int .i64 0]),true⟩,
 ⟨true,1,8,.other,(some [.lit .nilFunc]),false⟩,
 ⟨true,1,8,.other,(some [.lit .nilFunc]),false⟩,
 ⟨true,1,8,.other,(some [.lit .nilFunc]),false⟩,
 ⟨true,1,8,(.int .i64),(some [.int .i64 0]),false⟩,
 {},
 ⟨true,1,8,.other,(some [.lit .nilFunc]),false⟩,
 ⟨true,1,8,.other,(some [.lit .nilFunc]),false⟩,
 {},
 ⟨true,1,8,.other,(some [.lit .nilFunc]),false⟩,
 ⟨true,1,8,.other,(some [.lit .nilFunc]),false⟩,
 ⟨true,1,8,.other,(some [.lit .nilFunc]),false⟩,
 ⟨true,1,8,.other,(some [.lit .nilFunc]),false⟩,
 ⟨true,1,8,.other,(some [.lit .nilFunc]),false⟩,
 {},
 ⟨true,1,8,.other,(some [.lit .nilFunc]),false⟩,
 ⟨true,1,8,.other,(some [.lit .nilFunc]),false⟩,
 ⟨true,1,8,.other,(some [.lit .nilFunc]),false⟩,
 ⟨true,3,56,(.struct [(0,1,31),(1,1,31),(2,1,3)]),(some [.lit (.slice none 0 0),.lit (.slice none 0 0),.int .i64 0]),true⟩,
 ⟨true,3,56,(.struct [(0,1,31),(1,1,31),(2,1,3)]),(some [.lit (.slice none 0 0),.lit (.slice none 0 0),.int .i64 0]),true⟩,
 ⟨true,1,24,(.slice 59),(some [.lit (.slice none 0 0)]),false⟩,
 {},
 ⟨true,1,8,.other,(some [.lit .nilFunc]),false⟩,
 ⟨true,3,24,(.struct [(0,1,3),(1,1,3),(2,1,3)]),(some [.int .i64 0,.int .i64 0,.int .i64 0]),true⟩,
 ⟨true,3,24,(.struct [(0,1,3),(1,1,3),(2,1,3)]),(some [.int .i64 0,.int .i64 0,.int .i64 0]),true⟩,
 ⟨true,1,24,(.slice 66),(some [.lit (.slice none 0 0)]),false⟩,
 ⟨true,13,152,(.struct [(0,9,29),(9,1,3),(10,1,3),(11,1,30),(12,1,60)]),(some [.int .i64 0,.int .i64 0,.lit (.slice none 0 0),.int .i64 0,.int .i64 0,.int .i64 0,.int .i64 0,.int .i64 0,.int .i64 0,.int .i64 0,.int .i64 0,.lit (.slice none 0 0),.lit (.slice none 0 0)]),true⟩,
 ⟨true,13,152,(.struct [(0,9,29),(9,1,3),(10,1,3),(11,1,30),(12,1,60)]),(some [.int .i64 0,.int .i64 0,.lit (.slice none 0 0),.int .i64 0,.int .i64 0,.int .i64 0,.int .i64 0,.int .i64 0,.int .i64 0,.int .i64 0,.int .i64 0,.lit (.slice none 0 0),.lit (.slice none 0 0)]),true⟩,
 ⟨true,1,8,.other,(some [.lit .nilFunc]),false⟩,
 ⟨true,1,8,.other,(some [.lit .nilFunc]),false⟩,
 ⟨true,5,40,(.struct [(0,1,3),(1,1,3),(2,1,3),(3,1,3),(4,1,4)]),(some [.int .i64 0,.int .i64 0,.int .i64 0,.int .i64 0,.prop False inferInstance]),true⟩,
 ⟨true,5,40,(.struct [(0,1,3),(1,1,3),(2,1,3),(3,1,3),(4,1,4)]),(some [.int .i64 0,.int .i64 0,.int .i64 0,.int .i64 0,.prop False inferInstance]),true⟩,
 ⟨true,1,8,.other,(some [.lit .nilFunc]),false⟩,
 ⟨true,1,8,.other,(some [.lit .nilFunc]),false⟩,
 {},
 ⟨true,1,8,.other,(some [.lit .nilFunc]),false⟩,
 ⟨true,1,8,.other,(some [.lit .nilFunc]),false⟩,
 ⟨true,1,8,.other,(some [.lit .nilFunc]),false⟩,
 ⟨true,1,8,.other,(some [.lit .nilFunc]),false⟩,
 ⟨true,2,16,(.struct [(0,1,3),(1,1,3)]),(some [.int .i64 0,.int .i64 0]),true⟩,
 ⟨true,2,16,(.struct [(0,1,3),(1,1,3)]),(some [.int .i64 0,.int .i64 0]),true⟩,
 ⟨true,2,16,(.struct [(0,1,3),(1,1,3)]),(some [.int .i64 0,.int .i64 0]),true⟩,
 ⟨true,1,8,.other,(some [.lit .nilFunc]),false⟩,
 ⟨true,1,8,.other,(some [.lit .nilFunc]),false⟩,
 ⟨true,1,8,.other,(some [.lit .nilFunc]),false⟩,
 {},
 ⟨true,1,8,.other,(some [.lit .nilFunc]),false⟩,
 ⟨true,1,8,.other,(some [.lit .nilFunc]),false⟩,
 {},
 ⟨true,1,8,.other,(some [.lit .nilFunc]),false⟩,
 ⟨true,1,8,.other,(some [.lit .nilFunc]),false⟩,
 ⟨true,1,8,.other,(some [.lit .nilFunc]),false⟩,
 ⟨true,1,8,.other,(some [.lit .nilFunc]),false⟩,
 ⟨true,1,8,.other,(some [.lit .nilFunc]),false⟩,
 ⟨true,1,8,.other,(some [.lit (.pointer none)]),false⟩,
 {},
 ⟨true,1,8,.other,(some [.lit .nilFunc]),false⟩,
 ⟨true,1,8,.other,(some [.lit .nilFunc]),false⟩,
 ⟨true,1,8,.other,(some [.lit .nilFunc]),false⟩,
 ⟨true,1,24,(.slice 31),(some [.lit (.slice none 0 0)]),false⟩,
 ⟨true,1,8,.other,(some [.lit .nilFunc]),false⟩,
 ⟨true,1,8,.other,(some [.lit .nilFunc]),false⟩,
 ⟨true,1,8,.other,(some [.lit .nilFunc]),false⟩,
 ⟨true,1,8,.other,(some [.lit .nilFunc]),false⟩,
 ⟨true,1,8,.other,(some [.lit .nilFunc]),false⟩,
 {},
 ⟨true,1,8,.other,(some [.lit .nilFunc]),false⟩,
 ⟨true,1,8,.other,(some [.lit .nilFunc]),false⟩,
 ⟨true,1,8,.other,(some [.lit .nilFunc]),false⟩,
 ⟨true,1,8,.other,(some [.lit .nilFunc]),false⟩,
 ⟨true,1,8,.other,(some [.lit .nilFunc]),false⟩,
 ⟨true,16,224,(.struct [(0,14,33),(14,1,55),(15,1,31)]),(some [.int .i64 0,.lit (.slice none 0 0),.int .i64 0,.int .i64 0,.lit (.slice none 0 0),.int .i64 0,.int .i64 0,.int .i64 0,.int .i64 0,.int .i64 0,.int .i64 0,.lit (.slice none 0 0),.int .i64 0,.lit (.slice none 0 0),.lit (.slice none 0 0),.lit (.slice none 0 0)]),true⟩,
 ⟨true,16,224,(.struct [(0,14,33),(14,1,55),(15,1,31)]),(some [.int .i64 0,.lit (.slice none 0 0),.int .i64 0,.int .i64 0,.lit (.slice none 0 0),.int .i64 0,.int .i64 0,.int .i64 0,.int .i64 0,.int .i64 0,.int .i64 0,.lit (.slice none 0 0),.int .i64 0,.lit (.slice none 0 0),.lit (.slice none 0 0),.lit (.slice none 0 0)]),true⟩,
 ⟨true,13,152,(.struct [(0,13,62)]),(some [.int .i64 0,.int .i64 0,.lit (.slice none 0 0),.int .i64 0,.int .i64 0,.int .i64 0,.int .i64 0,.int .i64 0,.int .i64 0,.int .i64 0,.int .i64 0,.lit (.slice none 0 0),.lit (.slice none 0 0)]),true⟩,
 ⟨true,13,152,(.struct [(0,13,62)]),(some [.int .i64 0,.int .i64 0,.lit (.slice none 0 0),.int .i64 0,.int .i64 0,.int .i64 0,.int .i64 0,.int .i64 0,.int .i64 0,.int .i64 0,.int .i64 0,.lit (.slice none 0 0),.lit (.slice none 0 0)]),true⟩,
 {},
 ⟨true,1,8,.other,(some [.lit .nilFunc]),false⟩,
 ⟨true,1,8,.other,(some [.lit .nilFunc]),false⟩,
 ⟨true,1,8,.other,(some [.lit .nilFunc]),false⟩,
 ⟨true,3,24,(.struct [(0,1,3),(1,1,3),(2,1,3)]),(some [.int .i64 0,.int .i64 0,.int .i64 0]),true⟩,
 ⟨true,3,24,(.struct [(0,1,3),(1,1,3),(2,1,3)]),(some [.int .i64 0,.int .i64 0,.int .i64 0]),true⟩,
 ⟨true,1,24,(.slice 115),(some [.lit (.slice none 0 0)]),false⟩,
 ⟨true,1,8,.other,(some [.lit .nilFunc]),false⟩,
 ⟨true,1,8,.other,(some [.lit .nilFunc]),false⟩,
 ⟨true,1,8,.other,(some [.lit .nilFunc]),false⟩,
 ⟨true,1,8,.other,(some [.lit .nilFunc]),false⟩,
 ⟨true,1,8,.other,(some [.lit .nilFunc]),false⟩,
 {},
 ⟨true,1,8,.other,(some [.lit .nilFunc]),false⟩,
 ⟨true,1,8,.other,(some [.lit .nilFunc]),false⟩,
 ⟨true,3,56,(.struct [(0,1,31),(1,1,94),(2,1,3)]),(some [.lit (.slice none 0 0),.lit (.slice none 0 0),.int .i64 0]),true⟩,
 ⟨true,3,56,(.struct [(0,1,31),(1,1,94),(2,1,3)]),(some [.lit (.slice none 0 0),.lit (.slice none 0 0),.int .i64 0]),true⟩,
 ⟨true,1,8,.other,(some [.lit .nilFunc]),false⟩,
 {},
 ⟨true,1,8,.other,(some [.lit .nilFunc]),false⟩,
 ⟨true,1,8,.other,(some [.lit .nilFunc]),false⟩,
 ⟨true,1,8,.other,(some [.lit .nilFunc]),false⟩,
 ⟨true,1,8,.other,(some [.lit .nilFunc]),false⟩,
 ⟨true,1,8,.other,(some [.lit .nilFunc]),false⟩,
 ⟨true,1,8,.other,(some [.lit .nilFunc]),false⟩,
 ⟨true,1,8,.other,(some [.lit (.pointer none)]),false⟩,
 ⟨true,1,24,(.slice 221),(some [.lit (.slice none 0 0)]),false⟩,
 ⟨true,2,32,(.struct [(0,1,135),(1,1,136)]),(some [.lit (.pointer none),.lit (.slice none 0 0)]),true⟩,
 ⟨true,2,32,(.struct [(0,1,135),(1,1,136)]),(some [.lit (.pointer none),.lit (.slice none 0 0)]),true⟩,
 ⟨true,6,48,(.array 6 3),(some [.int .i64 0,.int .i64 0,.int .i64 0,.int .i64 0,.int .i64 0,.int .i64 0]),true⟩,
 ⟨true,6,48,(.array 6 3),(some [.int .i64 0,.int .i64 0,.int .i64 0,.int .i64 0,.int .i64 0,.int .i64 0]),true⟩,
 ⟨true,9,88,(.struct [(0,2,138),(2,6,140),(8,1,4)]),(some [.lit (.pointer none),.lit (.slice none 0 0),.int .i64 0,.int .i64 0,.int .i64 0,.int .i64 0,.int .i64 0,.int .i64 0,.prop False inferInstance]),true⟩,
 ⟨true,9,88,(.struct [(0,2,138),(2,6,140),(8,1,4)]),(some [.lit (.pointer none),.lit (.slice none 0 0),.int .i64 0,.int .i64 0,.int .i64 0,.int .i64 0,.int .i64 0,.int .i64 0,.prop False inferInstance]),true⟩,
 {},
 ⟨true,1,8,.other,(some [.lit .nilFunc]),false⟩,
 ⟨true,1,8,.other,(some [.lit .nilFunc]),false⟩,
 ⟨true,1,8,.other,(some [.lit .nilFunc]),false⟩,
 ⟨true,1,8,.other,(some [.lit .nilFunc]),false⟩,
 ⟨true,1,8,.other,(some [.lit .nilFunc]),false⟩,
 ⟨true,1,8,.other,(some [.lit .nilFunc]),false⟩,
 ⟨true,1,8,.other,(some [.lit .nilFunc]),false⟩,
 ⟨true,1,8,.other,(some [.lit .nilFunc]),false⟩,
 ⟨true,1,8,.other,(some [.lit .nilFunc]),false⟩,
 ⟨true,1,8,.other,(some [.lit .nilFunc]),false⟩,
 ⟨true,1,8,.other,(some [.lit .nilFunc]),false⟩,
 ⟨true,1,8,.other,(some [.lit .nilFunc]),false⟩,
 ⟨true,1,8,.other,(some [.lit .nilFunc]),false⟩,
 ⟨true,2,16,(.struct [(0,1,3),(1,1,3)]),(some [.int .i64 0,.int .i64 0]),true⟩,
 ⟨true,2,16,(.struct [(0,1,3),(1,1,3)]),(some [.int .i64 0,.int .i64 0]),true⟩,
 ⟨true,1,8,.other,(some [.lit .nilFunc]),false⟩,
 ⟨true,1,8,.other,(some [.lit .nilFunc]),false⟩,
 ⟨true,2,16,(.struct [(0,1,3),(1,1,3)]),(some [.int .i64 0,.int .i64 0]),true⟩,
 ⟨true,2,16,(.struct [(0,1,3),(1,1,3)]),(some [.int .i64 0,.int .i64 0]),true⟩,
 ⟨true,1,8,.other,(some [.lit .nilFunc]),false⟩,
 ⟨true,1,8,.other,(some [.lit .nilFunc]),false⟩,
 {},
 ⟨true,1,8,.other,(some [.lit .nilFunc]),false⟩,
 ⟨true,1,8,.other,(some [.lit .nilFunc]),false⟩,
 ⟨true,1,8,.other,(some [.lit .nilFunc]),false⟩,
 ⟨true,1,8,.other,(some [.lit .nilFunc]),false⟩,
 ⟨true,1,8,.other,(some [.lit .nilFunc]),false⟩,
 ⟨true,1,8,.other,(some [.lit .nilFunc]),false⟩,
 {},
 ⟨true,1,8,.other,(some [.lit .nilFunc]),false⟩,
 ⟨true,1,8,.other,(some [.lit .nilFunc]),false⟩,
 ⟨true,1,8,.other,(some [.lit .nilFunc]),false⟩,
 ⟨true,1,24,(.slice 142),(some [.lit (.slice none 0 0)]),false⟩,
 ⟨true,1,8,.other,(some [.lit .nilFunc]),false⟩,
 ⟨true,1,8,.other,(some [.lit .nilFunc]),false⟩,
 ⟨true,1,8,.other,(some [.lit .nilFunc]),false⟩,
 {},
 ⟨true,1,8,.other,(some [.lit .nilFunc]),false⟩,
 ⟨true,1,8,(.map 3 3),(some [.lit (.map none)]),false⟩,
 ⟨true,1,8,(.int .u64),(some [.int .u64 0]),false⟩,
 {},
 ⟨true,1,8,.other,(some [.lit .nilFunc]),false⟩,
 ⟨true,1,8,.other,(some [.lit .nilFunc]),false⟩,
 ⟨true,1,8,.other,(some [.lit .nilFunc]),false⟩,
 ⟨true,1,8,.other,(some [.lit .nilFunc]),false⟩,
 ⟨true,1,8,.other,(some [.lit .nilFunc]),false⟩,
 ⟨true,1,8,.other,(some [.lit .nilFunc]),false⟩,
 ⟨true,1,8,.other,(some [.lit .nilFunc]),false⟩,
 ⟨true,1,8,.other,(some [.lit .nilFunc]),false⟩,
 ⟨true,1,8,.other,(some [.lit .nilFunc]),false⟩,
 ⟨true,1,8,.other,(some [.lit .nilFunc]),false⟩,
 ⟨true,1,8,.other,(some [.lit .nilFunc]),false⟩,
 ⟨true,1,8,.other,(some [.lit .nilFunc]),false⟩,
 ⟨true,1,8,.other,(some [.lit .nilFunc]),false⟩,
 {},
 ⟨true,1,8,.other,(some [.lit .nilFunc]),false⟩,
 ⟨true,1,8,.other,(some [.lit .nilFunc]),false⟩,
 ⟨true,1,8,.other,(some [.lit .nilFunc]),false⟩,
 ⟨true,1,8,.other,(some [.lit .nilFunc]),false⟩,
 ⟨true,1,8,.other,(some [.lit .nilFunc]),false⟩,
 ⟨true,1,8,.other,(some [.lit .nilFunc]),false⟩,
 ⟨true,1,8,.other,(some [.lit .nilFunc]),false⟩,
 ⟨true,1,24,(.slice 138),(some [.lit (.slice none 0 0)]),false⟩,
 ⟨true,1,8,.other,(some [.lit .nilFunc]),false⟩,
 ⟨true,1,8,(.map 212 3),(some [.lit (.map none)]),false⟩,
 ⟨true,1,8,.other,(some [.lit .nilFunc]),false⟩,
 ⟨true,102,816,(.array 17 140),(some [.int .i64 0,.int .i64 0,.int .i64 0,.int .i64 0,.int .i64 0,.int .i64 0,.int .i64 0,.int .i64 0,.int .i64 0,.int .i64 0,.int .i64 0,.int .i64 0,.int .i64 0,.int .i64 0,.int .i64 0,.int .i64 0,.int .i64 0,.int .i64 0,.int .i64 0,.int .i64 0,.int .i64 0,.int .i64 0,.int .i64 0,.int .i64 0,.int .i64 0,.int .i64 0,.int .i64 0,.int .i64 0,.int .i64 0,.int .i64 0,.int .i64 0,.int .i64 0,.int .i64 0,.int .i64 0,.int .i64 0,.int .i64 0,.int .i64 0,.int .i64 0,.int .i64 0,.int .i64 0,.int .i64 0,.int .i64 0,.int .i64 0,.int .i64 0,.int .i64 0,.int .i64 0,.int .i64 0,.int .i64 0,.int .i64 0,.int .i64 0,.int .i64 0,.int .i64 0,.int .i64 0,.int .i64 0,.int .i64 0,.int .i64 0,.int .i64 0,.int .i64 0,.int .i64 0,.int .i64 0,.int .i64 0,.int .i64 0,.int .i64 0,.int .i64 0,.int .i64 0,.int .i64 0,.int .i64 0,.int .i64 0,.int .i64 0,.int .i64 0,.int .i64 0,.int .i64 0,.int .i64 0,.int .i64 0,.int .i64 0,.int .i64 0,.int .i64 0,.int .i64 0,.int .i64 0,.int .i64 0,.int .i64 0,.int .i64 0,.int .i64 0,.int .i64 0,.int .i64 0,.int .i64 0,.int .i64 0,.int .i64 0,.int .i64 0,.int .i64 0,.int .i64 0,.int .i64 0,.int .i64 0,.int .i64 0,.int .i64 0,.int .i64 0,.int .i64 0,.int .i64 0,.int .i64 0,.int .i64 0,.int .i64 0,.int .i64 0]),true⟩,
 ⟨true,109,872,(.struct [(0,6,140),(6,1,3),(7,102,210)]),(some [.int .i64 0,.int .i64 0,.int .i64 0,.int .i64 0,.int .i64 0,.int .i64 0,.int .i64 0,.int .i64 0,.int .i64 0,.int .i64 0,.int .i64 0,.int .i64 0,.int .i64 0,.int .i64 0,.int .i64 0,.int .i64 0,.int .i64 0,.int .i64 0,.int .i64 0,.int .i64 0,.int .i64 0,.int .i64 0,.int .i64 0,.int .i64 0,.int .i64 0,.int .i64 0,.int .i64 0,.int .i64 0,.int .i64 0,.int .i64 0,.int .i64 0,.int .i64 0,.int .i64 0,.int .i64 0,.int .i64 0,.int .i64 0,.int .i64 0,.int .i64 0,.int .i64 0,.int .i64 0,.int .i64 0,.int .i64 0,.int .i64 0,.int .i64 0,.int .i64 0,.int .i64 0,.int .i64 0,.int .i64 0,.int .i64 0,.int .i64 0,.int .i64 0,.int .i64 0,.int .i64 0,.int .i64 0,.int .i64 0,.int .i64 0,.int .i64 0,.int .i64 0,.int .i64 0,.int .i64 0,.int .i64 0,.int .i64 0,.int .i64 0,.int .i64 0,.int .i64 0,.int .i64 0,.int .i64 0,.int .i64 0,.int .i64 0,.int .i64 0,.int .i64 0,.int .i64 0,.int .i64 0,.int .i64 0,.int .i64 0,.int .i64 0,.int .i64 0,.int .i64 0,.int .i64 0,.int .i64 0,.int .i64 0,.int .i64 0,.int .i64 0,.int .i64 0,.int .i64 0,.int .i64 0,.int .i64 0,.int .i64 0,.int .i64 0,.int .i64 0,.int .i64 0,.int .i64 0,.int .i64 0,.int .i64 0,.int .i64 0,.int .i64 0,.int .i64 0,.int .i64 0,.int .i64 0,.int .i64 0,.int .i64 0,.int .i64 0,.int .i64 0,.int .i64 0,.int .i64 0,.int .i64 0,.int .i64 0,.int .i64 0,.int .i64 0]),true⟩,
 ⟨true,109,872,(.struct [(0,6,140),(6,1,3),(7,102,210)]),(some [.int .i64 0,.int .i64 0,.int .i64 0,.int .i64 0,.int .i64 0,.int .i64 0,.int .i64 0,.int .i64 0,.int .i64 0,.int .i64 0,.int .i64 0,.int .i64 0,.int .i64 0,.int .i64 0,.int .i64 0,.int .i64 0,.int .i64 0,.int .i64 0,.int .i64 0,.int .i64 0,.int .i64 0,.int .i64 0,.int .i64 0,.int .i64 0,.int .i64 0,.int .i64 0,.int .i64 0,.int .i64 0,.int .i64 0,.int .i64 0,.int .i64 0,.int .i64 0,.int .i64 0,.int .i64 0,.int .i64 0,.int .i64 0,.int .i64 0,.int .i64 0,.int .i64 0,.int .i64 0,.int .i64 0,.int .i64 0,.int .i64 0,.int .i64 0,.int .i64 0,.int .i64 0,.int .i64 0,.int .i64 0,.int .i64 0,.int .i64 0,.int .i64 0,.int .i64 0,.int .i64 0,.int .i64 0,.int .i64 0,.int .i64 0,.int .i64 0,.int .i64 0,.int .i64 0,.int .i64 0,.int .i64 0,.int .i64 0,.int .i64 0,.int .i64 0,.int .i64 0,.int .i64 0,.int .i64 0,.int .i64 0,.int .i64 0,.int .i64 0,.int .i64 0,.int .i64 0,.int .i64 0,.int .i64 0,.int .i64 0,.int .i64 0,.int .i64 0,.int .i64 0,.int .i64 0,.int .i64 0,.int .i64 0,.int .i64 0,.int .i64 0,.int .i64 0,.int .i64 0,.int .i64 0,.int .i64 0,.int .i64 0,.int .i64 0,.int .i64 0,.int .i64 0,.int .i64 0,.int .i64 0,.int .i64 0,.int .i64 0,.int .i64 0,.int .i64 0,.int .i64 0,.int .i64 0,.int .i64 0,.int .i64 0,.int .i64 0,.int .i64 0,.int .i64 0,.int .i64 0,.int .i64 0,.int .i64 0,.int .i64 0,.int .i64 0]),true⟩,
 ⟨true,1,8,.other,(some [.lit .nilFunc]),false⟩,
 ⟨true,1,8,(.map 140 3),(some [.lit (.map none)]),false⟩,
 ⟨true,1,8,.other,(some [.lit .nilFunc]),false⟩,
 ⟨true,1,24,(.slice 140),(some [.lit (.slice none 0 0)]),false⟩,
 ⟨true,8,80,(.struct [(0,6,140),(6,1,216),(7,1,3)]),(some [.int .i64 0,.int .i64 0,.int .i64 0,.int .i64 0,.int .i64 0,.int .i64 0,.lit (.slice none 0 0),.int .i64 0]),true⟩,
 ⟨true,8,80,(.struct [(0,6,140),(6,1,216),(7,1,3)]),(some [.int .i64 0,.int .i64 0,.int .i64 0,.int .i64 0,.int .i64 0,.int .i64 0,.lit (.slice none 0 0),.int .i64 0]),true⟩,
 ⟨true,1,8,.other,(some [.lit .nilFunc]),false⟩,
 ⟨true,2,16,(.struct [(0,1,3),(1,1,3)]),(some [.int .i64 0,.int .i64 0]),true⟩,
 ⟨true,2,16,(.struct [(0,1,3),(1,1,3)]),(some [.int .i64 0,.int .i64 0]),true⟩,
 ⟨true,9,88,(.struct [(0,9,29)]),(some [.int .i64 0,.int .i64 0,.lit (.slice none 0 0),.int .i64 0,.int .i64 0,.int .i64 0,.int .i64 0,.int .i64 0,.int .i64 0]),true⟩,
 ⟨true,9,88,(.struct [(0,9,29)]),(some [.int .i64 0,.int .i64 0,.lit (.slice none 0 0),.int .i64 0,.int .i64 0,.int .i64 0,.int .i64 0,.int .i64 0,.int .i64 0]),true⟩,
 {},
 ⟨true,1,8,.other,(some [.lit .nilFunc]),false⟩,
 ⟨true,1,8,.other,(some [.lit .nilFunc]),false⟩,
 ⟨true,1,4,(.int .u32),(some [.int .u32 0]),false⟩,
 {},
 ⟨true,1,8,.other,(some [.lit .nilFunc]),false⟩,
 ⟨true,1,8,(.int .u64),(some [.int .u64 0]),false⟩,
 {},
 ⟨true,1,8,.other,(some [.lit .nilFunc]),false⟩,
 ⟨true,1,8,.other,(some [.lit .nilFunc]),false⟩,
 ⟨true,1,8,.other,(some [.lit .nilFunc]),false⟩,
 ⟨true,1,8,.other,(some [.lit .nilFunc]),false⟩,
 ⟨true,1,8,.other,(some [.lit .nilFunc]),false⟩,
 ⟨true,1,8,.other,(some [.lit .nilFunc]),false⟩,
 ⟨true,1,8,.other,(some [.lit .nilFunc]),false⟩,
 ⟨true,5,40,(.struct [(0,1,3),(1,1,3),(2,1,3),(3,1,3),(4,1,3)]),(some [.int .i64 0,.int .i64 0,.int .i64 0,.int .i64 0,.int .i64 0]),true⟩,
 ⟨true,5,40,(.struct [(0,1,3),(1,1,3),(2,1,3),(3,1,3),(4,1,3)]),(some [.int .i64 0,.int .i64 0,.int .i64 0,.int .i64 0,.int .i64 0]),true⟩,
 {},
 ⟨true,1,8,.other,(some [.lit .nilFunc]),false⟩,
 ⟨true,1,8,.other,(some [.lit .nilFunc]),false⟩,
 ⟨true,1,8,.other,(some [.lit .nilFunc]),false⟩,
 ⟨true,1,8,.other,(some [.lit .nilFunc]),false⟩,
 ⟨true,1,8,.other,(some [.lit .nilFunc]),false⟩,
 ⟨true,1,8,.other,(some [.lit (.pointer none)]),false⟩,
 ⟨true,1,8,.other,(some [.lit .nilFunc]),false⟩,
 ⟨true,1,8,.other,(some [.lit .nilFunc]),false⟩,
 ⟨true,1,8,.other,(some [.lit .nilFunc]),false⟩,
 ⟨true,1,8,.other,(some [.lit .nilFunc]),false⟩,
 ⟨true,1,8,.other,(some [.lit .nilFunc]),false⟩,
 ⟨true,1,8,.other,(some [.lit .nilFunc]),false⟩,
 ⟨true,1,8,.other,(some [.lit .nilFunc]),false⟩,
 ⟨true,1,8,.other,(some [.lit .nilFunc]),false⟩,
 ⟨true,1,8,(.int .i64),(some [.int .i64 0]),false⟩,
 {},
 ⟨true,1,8,.other,(some [.lit .nilFunc]),false⟩,
 ⟨true,1,8,.other,(some [.lit .nilFunc]),false⟩,
 ⟨true,1,8,.other,(some [.lit .nilFunc]),false⟩,
 ⟨true,1,8,.other,(some [.lit .nilFunc]),false⟩,
 ⟨true,1,8,.other,(some [.lit .nilFunc]),false⟩,
 ⟨true,1,8,.other,(some [.lit .nilFunc]),false⟩,
 ⟨true,2,16,(.array 2 3),(some [.int .i64 0,.int .i64 0]),true⟩,
 {},
 ⟨true,1,8,.other,(some [.lit .nilFunc]),false⟩,
 ⟨true,3,24,(.struct [(0,2,27),(2,1,3)]),(some [.int .i64 0,.int .i64 0,.int .i64 0]),true⟩,
 ⟨true,3,24,(.struct [(0,2,27),(2,1,3)]),(some [.int .i64 0,.int .i64 0,.int .i64 0]),true⟩,
 ⟨true,6,48,(.array 2 268),(some [.int .i64 0,.int .i64 0,.int .i64 0,.int .i64 0,.int .i64 0,.int .i64 0]),true⟩,
 ⟨true,1,8,.other,(some [.lit .nilFunc]),false⟩,
 ⟨true,1,8,.other,(some [.lit .nilFunc]),false⟩,
 ⟨true,1,8,.other,(some [.lit .nilFunc]),false⟩,
 ⟨true,1,8,.other,(some [.lit .nilFunc]),false⟩,
 ⟨true,1,8,.other,(some [.lit .nilFunc]),false⟩,
 ⟨true,1,8,.other,(some [.lit .nilFunc]),false⟩,
 ⟨true,1,8,.other,(some [.lit .nilFunc]),false⟩,
 ⟨true,1,8,.other,(some [.lit .nilFunc]),false⟩,
 ⟨true,1,8,(.int .u64),(some [.int .u64 0]),false⟩,
 ⟨true,1,8,.other,(some [.lit .nilFunc]),false⟩,
 ⟨true,1,8,.other,(some [.lit .nilFunc]),false⟩,
 ⟨true,1,8,.other,(some [.lit .nilFunc]),false⟩,
 ⟨true,1,8,.other,(some [.lit (.pointer none)]),false⟩,
 ⟨true,1,8,.other,(some [.lit .nilFunc]),false⟩,
 ⟨true,1,8,.other,(some [.lit (.pointer none)]),false⟩,
 ⟨true,1,8,.other,(some [.lit .nilFunc]),false⟩,
 ⟨true,1,8,.other,(some [.lit .nilFunc]),false⟩,
 {},
 {},
 {},
 {},
 {},
 {},
 {},
 {},
 ⟨true,1,8,.other,(some [.lit (.pointer none)]),false⟩,
 {},
 {},
 {},
 {},
 ⟨true,1,8,.other,(some [.lit .nilFunc]),false⟩,
 {},
 ⟨true,1,8,.other,(some [.lit .nilFunc]),false⟩,
 ⟨true,2,48,(.struct [(0,1,31),(1,1,31)]),(some [.lit (.slice none 0 0),.lit (.slice none 0 0)]),true⟩,
 ⟨true,2,48,(.struct [(0,1,31),(1,1,31)]),(some [.lit (.slice none 0 0),.lit (.slice none 0 0)]),true⟩]
def Tryz.mask (t:Nat):Bool:=List.elem t [1,2,3,4,5,9,12,21,22,23,24,25,26,27,28,29,30,31,32,33,34,35,36,37,38,39,41,42,44,45,46,47,48,50,51,52,53,54,55,57,58,59,60,61,62,63,64,65,66,67,68,70,71,72,73,74,75,76,77,78,79,81,82,84,85,86,87,88,89,91,92,93,94,95,96,97,98,99,101,102,103,104,105,106,107,108,109,111,112,113,114,115,116,117,118,119,120,121,123,124,125,126,127,129,130,131,132,133,134,135,136,137,138,139,140,141,142,144,145,146,147,148,149,150,151,152,153,154,155,156,157,158,159,160,161,162,163,164,166,167,168,169,170,171,173,174,175,176,177,178,179,181,182,183,185,186,187,188,189,190,191,192,193,194,195,196,197,199,200,201,202,203,204,205,206,207,208,209,210,211,212,213,214,215,216,217,218,219,220,221,222,223,225,226,227,229,230,232,233,234,235,236,237,238,239,240,242,243,244,245,246,247,248,249,250,251,252,253,254,255,256,258,259,260,261,262,263,264,266,267,268,269,270,271,272,273,274,275,276,277,278,279,280,281,282,283,284,285,286,295,300,302,303,304]
theorem Tryz.E_eq:Tryz.E=(List.range 305).map (fun t=>bif Tryz.mask t then Go.Sx.tiOf Tryz.prog t else {}):=by kernel_rfl
theorem Tryz.E_ok:Go.Sx.ProgOk Tryz.E Tryz.prog:=⟨Go.Sx.envOk_of Tryz.E_eq,by kernel_rfl⟩
end Go.Proofs
namespace Go.Proofs.Ca
open Go Go.Sx
set_option maxRecDepth 100000
set_option maxHeartbeats 4000000
def oC (o:Int×Int):List V:=[.int .i64 o.1,.int .i64 o.2]
def oV (o:Int×Int):V:=.agg [.int .i64 o.1,.int .i64 o.2]
structure Cache where
 n:Int
 l:List (Int×Int)
namespace Cache
def c (x:Cache):List V:=[.int .i64 x.n,.sl 2 x.l.length (a0e oC (0,0) x.l)]
def v (x:Cache):V:=.agg [.int .i64 x.n,.sl 2 x.l.length (a0e oC (0,0) x.l)]
def OkO (n:Int) (o:Int×Int):Prop:=(o.1=1∨o.1=2)∧(0≤o.2∧o.2≤n-1)∨(o.1=3∨o.1=4)∧o.2=0
structure Ok (x:Cache):Prop where
 n:1≤x.n∧x.n≤6
 len:x.l.length≤16
 ord:∀o∈x.l,OkO x.n o
end Cache
open Classical in
noncomputable def Cache.chk (x:Cache):Int:=if x.Ok then 0 else 80
theorem within51 (n x y:Int):a0h Tryz.prog 113 false [.int .i64 n,.int .i64 x,.int .i64 y] (·=.prop (x≤n∧n≤y) inferInstance):=by
 refine a0a Tryz.E_ok Tryz.func113 rfl (by kernel_rfl) ?_
 (repeat' ((conv=>whnf);first|(with_reducible first|apply spl|apply spl'|refine iJ ?_)<;>intro hc<;>try(exfalso;omega)|refine vcq ?_|fail));all_goals((try conv=>whnf);try exact trivial);(all_goals(try(refine⟨_,rfl,?_⟩;(repeat' ((conv=>whnf);first|(with_reducible first|apply spl|apply spl'|refine iJ ?_)<;>intro hc<;>try(exfalso;omega)|refine vcq ?_|fail));all_goals((try conv=>whnf);try exact trivial))))
theorem puts62 (o:Int×Int):a0h Tryz.prog 112 false [oV o] (·=.prop (o.1=1∨o.1=2) inferInstance):=by
 refine a0a Tryz.E_ok Tryz.func112 rfl (by kernel_rfl) ?_
 (repeat' ((conv=>whnf);first|(with_reducible first|apply spl|apply spl'|refine iJ ?_)<;>intro hc<;>try(exfalso;omega)|refine vcq ?_|fail));all_goals((try conv=>whnf);try exact trivial);(all_goals(try(refine⟨_,rfl,?_⟩;(repeat' ((conv=>whnf);first|(with_reducible first|apply spl|apply spl'|refine iJ ?_)<;>intro hc<;>try(exfalso;omega)|refine vcq ?_|fail));all_goals((try conv=>whnf);try exact trivial))))
theorem check64 (n:Int) (hn:-1000≤n∧n≤1000) (m:Nat) (f:Nat→List V) (o:Int×Int):a0h Tryz.prog 111 false [oV o,.iptr [.int .i64 n,.sl 2 m f]] (·=.prop (Cache.OkO n o) (Classical.propDecidable _)):=by
 refine a0a Tryz.E_ok Tryz.func111 rfl (by kernel_rfl) ?_
 (repeat' ((conv=>whnf);first|(with_reducible first|apply spl|apply spl'|refine iJ ?_)<;>intro hc<;>try(exfalso;omega)|refine vcq ?_|fail));all_goals((try conv=>whnf);try exact trivial);(repeat' ((first|(refine a0b (puts62 o) rfl ?_;rintro _ rfl)|(refine a0c (puts62 o) rfl ?_)|(refine a0g (fun _=>puts62 o) rfl ?_)|(refine a0b (within51 _ _ _) rfl ?_;rintro _ rfl)|(refine a0c (within51 _ _ _) rfl ?_)|(refine a0g (fun _=>within51 _ _ _) rfl ?_));(repeat' ((conv=>whnf);first|(with_reducible first|apply spl|apply spl'|refine iJ ?_)<;>intro hc<;>try(exfalso;omega)|refine vcq ?_|fail));all_goals((try conv=>whnf);try exact trivial)));(all_goals(try(refine⟨_,rfl,?_⟩;(repeat' ((conv=>whnf);first|(with_reducible first|apply spl|apply spl'|refine iJ ?_)<;>intro hc<;>try(exfalso;omega)|refine vcq ?_|fail));all_goals((try conv=>whnf);try exact trivial))))
 ·exact⟨by unfold Cache.OkO;omega,trivial⟩
 ·exact⟨by unfold Cache.OkO;omega,trivial⟩
theorem plain_of {g : FuncId} {fn : Func} (hf : Tryz.prog.funcs[g]? = some fn) (h1 : (fn.name == "runtime.NumGoroutine") = false) (h2 : fn.body.isNone = false) : Plain Tryz.prog g := ⟨fn, hf, h1, h2⟩
def TellO (p:Int×Int→Prop):(Nat→Prop)→World→Value→Prop:=
 FnD Tryz.prog (fun o:Int×Int=>[oV o]) (fun o r=>r=.prop (p o) (Classical.propDecidable _))
theorem check66 (p:Int×Int→Prop) (o:Int×Int):a0h Tryz.prog 115 false [oV o,.iptr [.sem (TellO p)]] (·=.prop (¬p o) (Classical.propDecidable _)):=by
 refine a0a Tryz.E_ok Tryz.func115 rfl (by kernel_rfl) ?_
 (repeat' ((conv=>whnf);first|(with_reducible first|apply spl|apply spl'|refine iJ ?_)<;>intro hc<;>try(exfalso;omega)|refine vcq ?_|fail));all_goals(try conv=>whnf);try exact trivial
 refine scall_fn o rfl rfl ?_
 rintro _ rfl
 (repeat' ((conv=>whnf);first|(with_reducible first|apply spl|apply spl'|refine iJ ?_)<;>intro hc<;>try(exfalso;omega)|refine vcq ?_|fail));all_goals(try conv=>whnf);try exact trivial
 refine⟨_,rfl,?_⟩
 (repeat' ((conv=>whnf);first|(with_reducible first|apply spl|apply spl'|refine iJ ?_)<;>intro hc<;>try(exfalso;omega)|refine vcq ?_|fail));all_goals(try conv=>whnf);try exact trivial
theorem index85 (p:Int×Int→Prop) (l:List (Int×Int)) (hl:l.length≤1000000):a0h Tryz.prog 150 false [.sl 2 l.length (a0e oC (0,0) l),.sem (TellO p)] (fun r=>∃k:Int,r=.int .i64 k∧(0≤k↔∃s∈l,p s)):=by
 refine a0a Tryz.E_ok Tryz.func150 rfl (by kernel_rfl) ?_
 (repeat' ((conv=>whnf);first|(with_reducible first|apply spl|apply spl'|refine iJ ?_)<;>intro hc<;>try(exfalso;omega)|refine vcq ?_|fail));all_goals(try conv=>whnf);try exact trivial
 refine⟨Nat,fun i=>i≤l.length∧∀j s,j<i→l[j]? = some s→¬p s,fun i=>l.length-i,fun i=>[(8,.int .i64 i)],fun _=>[],fun _=>[],0,⟨⟨by omega,fun j s h=>by omega⟩,none,?_⟩,?_⟩
 ·(repeat' ((conv=>whnf);first|(with_reducible first|apply spl|apply spl'|refine iJ ?_)<;>intro hc<;>try(exfalso;omega)|refine vcq ?_|fail));all_goals(try conv=>whnf);try exact trivial
 ·rintro i ⟨hi,hp⟩
  (repeat' ((conv=>whnf);first|(with_reducible first|apply spl|apply spl'|refine iJ ?_)<;>intro hc<;>try(exfalso;omega)|refine vcq ?_|fail));all_goals(try conv=>whnf);try exact trivial
  ·refine scall_fn (l.getD (i:Int).toNat (0,0)) rfl rfl ?_
   rintro _ rfl
   have hi:i<l.length:=by omega
   have hq:l.getD (i:Int).toNat (0,0)=l[i]:=by simp[List.getD_eq_getElem?_getD,hi]
   (repeat' ((conv=>whnf);first|(with_reducible first|apply spl|apply spl'|refine iJ ?_)<;>intro hc<;>try(exfalso;omega)|refine vcq ?_|fail));all_goals(try conv=>whnf);try exact trivial
   ·refine⟨_,⟨i,rfl,⟨fun _=>⟨l[i],List.getElem_mem hi,by rw[hq] at hc;exact hc⟩,fun _=>by omega⟩⟩,?_⟩
    (repeat' ((conv=>whnf);first|(with_reducible first|apply spl|apply spl'|refine iJ ?_)<;>intro hc<;>try(exfalso;omega)|refine vcq ?_|fail));all_goals(try conv=>whnf);try exact trivial
   ·refine⟨i+1,⟨⟨by omega,fun j s hj hs=>?_⟩,by dsimp only;omega⟩,none,?_⟩
    ·rcases Nat.lt_or_eq_of_le (show j≤i by omega) with h1|rfl
     ·exact hp j s h1 hs
     ·rw[List.getElem?_eq_getElem hi] at hs
      cases hs
      rw[hq] at hc
      exact hc
    ·(repeat' ((conv=>whnf);first|(with_reducible first|apply spl|apply spl'|refine iJ ?_)<;>intro hc<;>try(exfalso;omega)|refine vcq ?_|fail));all_goals(try conv=>whnf);try exact trivial
  ·refine⟨_,⟨-1,rfl,⟨fun h=>by omega,fun⟨s,h1,h2⟩=>?_⟩⟩,?_⟩
   ·obtain⟨j,h3,h4⟩:=List.getElem_of_mem h1
    exact absurd h2 (hp j s (by omega) (by rw[List.getElem?_eq_getElem h3,h4]))
   ·(repeat' ((conv=>whnf);first|(with_reducible first|apply spl|apply spl'|refine iJ ?_)<;>intro hc<;>try(exfalso;omega)|refine vcq ?_|fail));all_goals(try conv=>whnf);try exact trivial
theorem contains65 (p:Int×Int→Prop) (l:List (Int×Int)) (hl:l.length≤1000000):a0h Tryz.prog 114 false [.sl 2 l.length (a0e oC (0,0) l),.sem (TellO p)] (·=.prop (∃s∈l,p s) (Classical.propDecidable _)):=by
 refine a0a Tryz.E_ok Tryz.func114 rfl (by kernel_rfl) ?_
 (repeat' ((conv=>whnf);first|(with_reducible first|apply spl|apply spl'|refine iJ ?_)<;>intro hc<;>try(exfalso;omega)|refine vcq ?_|fail));all_goals(try conv=>whnf);try exact trivial
 refine a0b (index85 p l hl) rfl ?_
 rintro _ ⟨k,rfl,hk⟩
 (repeat' ((conv=>whnf);first|(with_reducible first|apply spl|apply spl'|refine iJ ?_)<;>intro hc<;>try(exfalso;omega)|refine vcq ?_|fail));all_goals(try conv=>whnf);try exact trivial
 refine⟨_,rfl,?_⟩
 (repeat' ((conv=>whnf);first|(with_reducible first|apply spl|apply spl'|refine iJ ?_)<;>intro hc<;>try(exfalso;omega)|refine vcq ?_|fail));all_goals(try conv=>whnf);try exact trivial
theorem check36 (x:Cache) (hl:x.l.length≤1000000):a0h Tryz.prog 75 false [x.v] (·=.int .i64 x.chk):=by
 refine a0a Tryz.E_ok Tryz.func75 rfl (by kernel_rfl) ?_
 (repeat' ((conv=>whnf);first|(with_reducible first|apply spl|apply spl'|refine iJ ?_)<;>intro hc<;>try(exfalso;omega)|refine vcq ?_|fail));all_goals((try conv=>whnf);try exact trivial);(repeat' ((first|(refine a0b (within51 _ _ _) rfl ?_;rintro _ rfl)|(refine a0c (within51 _ _ _) rfl ?_)|(refine a0g (fun _=>within51 _ _ _) rfl ?_));(repeat' ((conv=>whnf);first|(with_reducible first|apply spl|apply spl'|refine iJ ?_)<;>intro hc<;>try(exfalso;omega)|refine vcq ?_|fail));all_goals((try conv=>whnf);try exact trivial)));(all_goals(try(refine⟨_,rfl,?_⟩;(repeat' ((conv=>whnf);first|(with_reducible first|apply spl|apply spl'|refine iJ ?_)<;>intro hc<;>try(exfalso;omega)|refine vcq ?_|fail));all_goals((try conv=>whnf);try exact trivial))))
 ·refine a2a (contains65 (fun o=>¬Cache.OkO x.n o) x.l hl) ?_
  (repeat' ((conv=>whnf);first|(with_reducible first|apply spl|apply spl'|refine iJ ?_)<;>intro hc<;>try(exfalso;omega)|refine vcq ?_|fail));all_goals(try conv=>whnf);try exact trivial
  refine⟨semOb_fn (a':=[]) (b':=[.iptr [.sem (TellO (Cache.OkO x.n))]]) (fun i=>check66 (Cache.OkO x.n) i) (plain_of Tryz.func115 (by kernel_rfl) (by kernel_rfl)) ?_,?_⟩
  ·(repeat' ((conv=>whnf);first|(with_reducible first|apply spl|apply spl'|refine iJ ?_)<;>intro hc<;>try(exfalso;omega)|refine vcq ?_|fail));all_goals(try conv=>whnf);try exact trivial
   refine⟨semOb_fn (a':=[]) (b':=[.iptr [.int .i64 x.n,.sl 2 x.l.length (a0e oC (0,0) x.l)]]) (fun i=>check64 x.n (by omega) _ _ i) (plain_of Tryz.func111 (by kernel_rfl) (by kernel_rfl)) ?_,?_⟩
   ·(repeat' ((conv=>whnf);first|(with_reducible first|apply spl|apply spl'|refine iJ ?_)<;>intro hc<;>try(exfalso;omega)|refine vcq ?_|fail));all_goals(try conv=>whnf);try exact trivial
   ·(repeat' ((conv=>whnf);first|(with_reducible first|apply spl|apply spl'|refine iJ ?_)<;>intro hc<;>try(exfalso;omega)|refine vcq ?_|fail));all_goals(try conv=>whnf);try exact trivial
  ·rintro _ rfl
   (repeat' ((conv=>whnf);first|(with_reducible first|apply spl|apply spl'|refine iJ ?_)<;>intro hc<;>try(exfalso;omega)|refine vcq ?_|fail));all_goals(try conv=>whnf);try exact trivial
   ·refine⟨_,rfl,?_⟩
    (repeat' ((conv=>whnf);first|(with_reducible first|apply spl|apply spl'|refine iJ ?_)<;>intro hc<;>try(exfalso;omega)|refine vcq ?_|fail));all_goals(try conv=>whnf);try exact trivial
    refine⟨?_,trivial⟩
    unfold Cache.chk
    rw[if_neg]
    rintro⟨_,_,h3⟩
    obtain⟨o,h4,h5⟩:=hc
    exact h5 (h3 o h4)
   ·refine⟨_,rfl,?_⟩
    (repeat' ((conv=>whnf);first|(with_reducible first|apply spl|apply spl'|refine iJ ?_)<;>intro hc<;>try(exfalso;omega)|refine vcq ?_|fail));all_goals(try conv=>whnf);try exact trivial
    refine⟨?_,trivial⟩
    unfold Cache.chk
    rw[if_pos]
    exact⟨by omega,by omega,fun o ho=>Classical.byContradiction fun h=>hc ⟨o,ho,h⟩⟩
 ·refine⟨?_,trivial⟩
  unfold Cache.chk
  rw[if_neg]
  rintro⟨h1,h2,_⟩
  omega
end Go.Proofs.Ca
namespace Go.Proofs.Ca
open Go Go.Sx
set_option maxRecDepth 100000
set_option maxHeartbeats 40000000
structure RS where
 M:Nat→Int
 E:List (Nat→Int)
 W:Int
namespace RS
def ep (s:RS) (e:Nat):Nat→Int:=s.E.getD e (fun _=>-1)
def medF (s:RS):Nat→List V:=fun b=>[.int .i64 (s.M b)]
def epF (n:Nat) (s:RS):Nat→List V:=fun e=>[.sl 1 n (fun b=>[.int .i64 (s.ep e b)])]
def c (n:Nat) (s:RS):List V:=[.sl 1 n s.medF,.sl 1 s.E.length (s.epF n),.int .i64 s.W]
def v (n:Nat) (s:RS):V:=.agg (s.c n)
end RS
theorem old45 (x:Cache) (n:Nat) (hn:x.n=n) (hn6:n≤1000000):NewC Tryz.prog 145 [x.v] (fun r H=>r=.osl 0 n∧H=[.row 3 1 n (fun _=>[.int .i64 (-1)]) true]):=by
 refine newC_ent Tryz.E_ok Tryz.func145 rfl (by kernel_rfl) ?_
 rw[show x.v=.agg [.int .i64 n,.sl 2 x.l.length (a0e oC (0,0) x.l)] from by unfold Cache.v;rw[hn]]
 (repeat' ((conv=>whnf);first|(with_reducible first|apply spl|apply spl'|refine iJ ?_)<;>intro hc<;>try(exfalso;omega)|refine vcq ?_|refine dr 6 ?_|refine dr 2008 ?_|refine dr 508040603052006 ?_));all_goals(try conv=>whnf);try exact trivial
 refine⟨Nat,fun i=>i≤n,fun i=>n-i,fun i=>[(4,.int .i64 (i:Nat)),(3,.osl 1 i)],fun _=>[],fun i=>[.row 3 1 i (fun _=>[.int .i64 (-1)]) true],0,⟨by omega,some [some 0,none],?_⟩,?_⟩
 ·(repeat' ((conv=>whnf);first|(with_reducible first|apply spl|apply spl'|refine iJ ?_)<;>intro hc<;>try(exfalso;omega)|refine vcq ?_|refine dr 6 ?_|refine dr 2008 ?_|refine dr 508040603052006 ?_));all_goals(try conv=>whnf);try exact trivial
 ·intro i hi
  have hi:i≤n:=hi
  (repeat' ((conv=>whnf);first|(with_reducible first|apply spl|apply spl'|refine iJ ?_)<;>intro hc<;>try(exfalso;omega)|refine vcq ?_|refine dr 6 ?_|refine dr 2008 ?_|refine dr 508040603052006 ?_));all_goals(try conv=>whnf);try exact trivial
  ·refine⟨i+1,⟨by omega,by dsimp only;omega⟩,some [some 0,some 3],?_⟩
   (repeat' ((conv=>whnf);first|(with_reducible first|apply spl|apply spl'|refine iJ ?_)<;>intro hc<;>try(exfalso;omega)|refine vcq ?_|refine dr 6 ?_|refine dr 2008 ?_|refine dr 508040603052006 ?_));all_goals(try conv=>whnf);try exact trivial
   refine⟨appF_one rfl,?_⟩
   (repeat' ((conv=>whnf);first|(with_reducible first|apply spl|apply spl'|refine iJ ?_)<;>intro hc<;>try(exfalso;omega)|refine vcq ?_|refine dr 6 ?_|refine dr 2008 ?_|refine dr 508040603052006 ?_));all_goals(try conv=>whnf);try exact trivial
  ·obtain rfl:i=n:=by omega
   refine⟨_,_,⟨rfl,rfl⟩,some [some 1],?_⟩
   (repeat' ((conv=>whnf);first|(with_reducible first|apply spl|apply spl'|refine iJ ?_)<;>intro hc<;>try(exfalso;omega)|refine vcq ?_|refine dr 6 ?_|refine dr 2008 ?_|refine dr 508040603052006 ?_));all_goals(try conv=>whnf);try exact trivial
theorem old45p (x:Cache) (n:Nat) (hn:x.n=n) (hn6:n≤1000000):a0h Tryz.prog 145 false [x.v] (·=.sl 1 n (fun _=>[.int .i64 (-1)])):=by
 refine(old45 x n hn hn6).pure ?_
 rintro _ _ ⟨rfl,rfl⟩
 refine⟨_,rfl,?_⟩
 (repeat' ((conv=>whnf);first|(with_reducible first|apply spl|apply spl'|refine iJ ?_)<;>intro hc<;>try(exfalso;omega)|refine vcq ?_|refine dr 6 ?_|refine dr 2008 ?_|refine dr 508040603052006 ?_));all_goals(try conv=>whnf);try exact trivial
def RS.begin:RS:=⟨fun _=>-1,[fun _=>-1],0⟩
theorem begin16 (x:Cache) (n:Nat) (hn:x.n=n) (hn6:n≤1000000):a0h Tryz.prog 105 true [x.v] (·=RS.begin.v n):=by
 refine a0a Tryz.E_ok Tryz.func105 rfl (by kernel_rfl) ?_
 (repeat' ((conv=>whnf);first|(with_reducible first|apply spl|apply spl'|refine iJ ?_)<;>intro hc<;>try(exfalso;omega)|refine vcq ?_|refine dr 6 ?_));all_goals(try conv=>whnf);try exact trivial
 refine a0c (old45p x n hn hn6) rfl ?_
 (repeat' ((conv=>whnf);first|(with_reducible first|apply spl|apply spl'|refine iJ ?_)<;>intro hc<;>try(exfalso;omega)|refine vcq ?_|refine dr 6 ?_));all_goals(try conv=>whnf);try exact trivial
 refine a0c (old45p x n hn hn6) rfl ?_
 (repeat' ((conv=>whnf);first|(with_reducible first|apply spl|apply spl'|refine iJ ?_)<;>intro hc<;>try(exfalso;omega)|refine vcq ?_|refine dr 6 ?_));all_goals(try conv=>whnf);try exact trivial
 refine⟨_,rfl,?_⟩
 (repeat' ((conv=>whnf);first|(with_reducible first|apply spl|apply spl'|refine iJ ?_)<;>intro hc<;>try(exfalso;omega)|refine vcq ?_|refine dr 6 ?_|refine dr 2008 ?_|refine dr 508040603052006 ?_));all_goals(try conv=>whnf);try exact trivial
 refine⟨fun i hi=>by(obtain rfl:i=0:=by omega);rfl,.inl rfl,?_⟩
 (repeat' ((conv=>whnf);first|(with_reducible first|apply spl|apply spl'|refine iJ ?_)<;>intro hc<;>try(exfalso;omega)|refine vcq ?_|refine dr 6 ?_|refine dr 2008 ?_|refine dr 508040603052006 ?_));all_goals(try conv=>whnf);try exact trivial
def RS.h (n:Nat) (s:RS) (β:Nat→Option Nat×Nat):List O:=[.row 3 1 n s.medF false,.grid 31 3 1 s.E.length (fun _=>n) (fun e b=>[.int .i64 (s.ep e b)]) β none true]
theorem copied49 (n:Nat) (hn:1≤n∧n≤1000) (s:RS) (hE:s.E.length≤1000):NewC Tryz.prog 146 [s.v n] (fun r H=>∃β,r=.agg [.osl 0 n,.osl 1 s.E.length,.int .i64 s.W]∧H=s.h n β):=by
 refine newC_ent Tryz.E_ok Tryz.func146 rfl (by kernel_rfl) ?_
 (repeat' ((conv=>whnf);first|(with_reducible first|apply spl|apply spl'|refine iJ ?_)<;>intro hc<;>try(exfalso;omega)|refine vcq ?_|refine dr 508040603052006 ?_));all_goals(try conv=>whnf);try exact trivial
 refine⟨Nat×(Nat→Option Nat×Nat),fun q=>q.1≤s.E.length,fun q=>s.E.length-q.1,fun q=>[(4,.int .i64 (q.1:Nat)),(5,.any),(8,.any)],fun q=>[(3,.cells 126 [.osl 4 n,.osl 5 q.1,.int .i64 s.W]),(4,.row 3 1 n s.medF false)],fun q=>[.grid 31 3 1 q.1 (fun _=>n) (fun e b=>[.int .i64 (s.ep e b)]) q.2 none true],(0,fun _=>(none,0)),⟨by dsimp only;omega,some [some 0,some 1,some 2,some 3,some 4,none],?_⟩,?_⟩
 ·(repeat' ((conv=>whnf);first|(with_reducible first|apply spl|apply spl'|refine iJ ?_)<;>intro hc<;>try(exfalso;omega)|refine vcq ?_|refine dr 6 ?_|refine dr 2008 ?_|refine dr 508040603052006 ?_));all_goals(try conv=>whnf);try exact trivial
 ·rintro⟨i,β⟩ hi
  dsimp only at hi
  (repeat' ((conv=>whnf);first|(with_reducible first|apply spl|apply spl'|refine iJ ?_)<;>intro hc<;>try(exfalso;omega)|refine vcq ?_|refine dr 2008 ?_));all_goals(try conv=>whnf);try exact trivial
  ·intro β1
   (repeat' ((conv=>whnf);first|(with_reducible first|apply spl|apply spl'|refine iJ ?_)<;>intro hc<;>try(exfalso;omega)|refine vcq ?_|refine dr 2008 ?_));all_goals(try conv=>whnf);try exact trivial
   refine⟨⟨rfl,rfl,rfl,rfl,by omega,by dsimp only;omega⟩,fun β2=>?_⟩
   (repeat' ((conv=>whnf);first|(with_reducible first|apply spl|apply spl'|refine iJ ?_)<;>intro hc<;>try(exfalso;omega)|refine vcq ?_|refine dr 2008 ?_));all_goals(try conv=>whnf);try exact trivial
   have hi1:i<s.E.length:=by dsimp only at hc;omega
   refine⟨(i+1,β2),⟨by dsimp only;omega,by dsimp only;omega⟩,some [some 0,some 1,some 2,some 3,some 4,some 9],?_⟩
   (repeat' ((conv=>whnf);first|(with_reducible first|apply spl|apply spl'|refine iJ ?_)<;>intro hc<;>try(exfalso;omega)|refine vcq ?_|refine dr 6 ?_|refine dr 2008 ?_|refine dr 508040603052006 ?_));all_goals(try conv=>whnf);try exact trivial
   refine⟨fun e he=>⟨?_,rfl,fun j _=>?_⟩,?_⟩
   ·dsimp only
    split
    ·rfl
    ·omega
   ·dsimp only
    split
    ·rfl
    ·rename_i hlt
     have he':e<i+1:=he
     obtain rfl:e=i:=by omega
     unfold appF
     rw[if_neg (by omega)]
     rfl
   (repeat' ((conv=>whnf);first|(with_reducible first|apply spl|apply spl'|refine iJ ?_)<;>intro hc<;>try(exfalso;omega)|refine vcq ?_|refine dr 6 ?_|refine dr 2008 ?_|refine dr 508040603052006 ?_));all_goals(try conv=>whnf);try exact trivial
  ·have hi:i=s.E.length:=by dsimp only at hc;omega
   subst hi
   refine⟨_,_,⟨β,rfl,rfl⟩,some [some 4,some 5],?_⟩
   (repeat' ((conv=>whnf);first|(with_reducible first|apply spl|apply spl'|refine iJ ?_)<;>intro hc<;>try(exfalso;omega)|refine vcq ?_|refine dr 6 ?_|refine dr 2008 ?_|refine dr 508040603052006 ?_));all_goals(try conv=>whnf);try exact trivial
   exact⟨fun _ _=>⟨rfl,rfl,fun _ _=>rfl⟩,trivial⟩
namespace RS
def wr (s:RS) (e b:Nat):RS:=if s.ep e b=-1 then s else⟨fun b'=>if b'=b then s.ep e b else s.M b',s.E.set e (fun b'=>if b'=b then -1 else s.ep e b'),s.W+1⟩
theorem wr_pos {s:RS} {e b:Nat} (h:s.ep e b≠-1):s.wr e b=⟨fun b'=>if b'=b then s.ep e b else s.M b',s.E.set e (fun b'=>if b'=b then -1 else s.ep e b'),s.W+1⟩:=if_neg h
theorem wr_neg {s:RS} {e b:Nat} (h:s.ep e b=-1):s.wr e b=s:=if_pos h
theorem ep_set {E:List (Nat→Int)} {e e':Nat} {f:Nat→Int} (he:e<E.length):(E.set e f).getD e' (fun _=>-1)=if e'=e then f else E.getD e' (fun _=>-1):=by
 simp only[List.getD_eq_getElem?_getD,List.getElem?_set]
 by_cases h:e=e'
 ·subst h;simp[he]
 ·rw[if_neg h,if_neg (fun g=>h g.symm)]
theorem ep_wr {s:RS} {e b:Nat} (he:e<s.E.length) (e' j:Nat):(⟨fun b'=>if b'=b then s.ep e b else s.M b',s.E.set e (fun b'=>if b'=b then -1 else s.ep e b'),s.W+1⟩:RS).ep e' j=if e'=e∧j=b then -1 else s.ep e' j:=by
 show((s.E.set e _).getD e' (fun _=>-1)) j=_
 rw[ep_set he]
 by_cases h:e'=e
 ·subst h
  rw[if_pos rfl]
  by_cases h2:j=b
  ·simp[h2]
  ·simp[h2]
 ·rw[if_neg h,if_neg (fun g=>h g.1)];rfl
end RS
theorem write48 (n:Nat) (hn:1≤n∧n≤1000) (s:RS) (hE:s.E.length≤1000) (hW:0≤s.W∧s.W≤1000000) (e b:Nat) (he:e<s.E.length) (hb:b<n):a0h Tryz.prog 108 true [s.v n,.int .i64 e,.int .i64 b] (·=(s.wr e b).v n):=by
 refine a0a Tryz.E_ok Tryz.func108 rfl (by kernel_rfl) ?_
 (repeat' ((conv=>whnf);first|(with_reducible first|apply spl|apply spl'|refine iJ ?_)<;>intro hc<;>try(exfalso;omega)|refine vcq ?_|refine dr 6 ?_|refine dr 2008 ?_|refine dr 508040603052006 ?_));all_goals(try conv=>whnf);try exact trivial
 refine callee_new (copied49 n hn s hE) rfl ?_
 rintro _ _ ⟨β,rfl,rfl⟩
 (repeat' ((conv=>whnf);first|(with_reducible first|apply spl|apply spl'|refine iJ ?_)<;>intro hc<;>try(exfalso;omega)|refine vcq ?_|refine dr 6 ?_|refine dr 2008 ?_|refine dr 508040603052006 ?_));all_goals(try conv=>whnf);try exact trivial
 (repeat' ((first|(refine And.intro ⟨by omega,rfl⟩ ?_)|(refine And.intro ⟨by omega,rfl,rfl,by dsimp only;omega⟩ ?_));(repeat' ((conv=>whnf);first|(with_reducible first|apply spl|apply spl'|refine iJ ?_)<;>intro hc<;>try(exfalso;omega)|refine vcq ?_|refine dr 6 ?_|refine dr 2008 ?_|refine dr 508040603052006 ?_));all_goals((try conv=>whnf);try exact trivial)))
 ·rw[Int.toNat_natCast,Int.toNat_natCast] at hc
  refine⟨_,rfl,?_⟩
  rw[RS.wr_pos hc]
  have hep:=RS.ep_wr (s:=s) (e:=e) (b:=b) he
  unfold RS.v RS.c
  (repeat' ((conv=>whnf);first|(with_reducible first|apply spl|apply spl'|refine iJ ?_)<;>intro hc<;>try(exfalso;omega)|refine vcq ?_|refine dr 6 ?_|refine dr 2008 ?_|refine dr 508040603052006 ?_));all_goals(try conv=>whnf);try exact trivial
  refine⟨fun i _=>?_,.inl rfl,?_⟩
  ·show a2o (i=b) [V.int .i64 (s.M i)] 0 [V.int .i64 (s.ep e b)]=[V.int .i64 (if i=b then s.ep e b else s.M i)]
   by_cases h:i=b
   ·rw[a0v h,if_pos h];rfl
   ·rw[a0t h,if_neg h]
  (repeat' ((conv=>whnf);first|(with_reducible first|apply spl|apply spl'|refine iJ ?_)<;>intro hc<;>try(exfalso;omega)|refine vcq ?_|refine dr 6 ?_|refine dr 2008 ?_|refine dr 508040603052006 ?_));all_goals(try conv=>whnf);try exact trivial
  refine⟨by simp,rfl,fun e' he'=>⟨_,rfl,fun j _=>?_⟩,.inl rfl,?_⟩
  ·show a2o (e'=e∧j=b) [V.int .i64 (s.ep e' j)] 0 [V.int .i64 (-1)]=[V.int .i64 (RS.ep _ e' j)]
   rw[hep]
   by_cases h:e'=e∧j=b
   ·rw[a0v h,if_pos h];rfl
   ·rw[a0t h,if_neg h]
  (repeat' ((conv=>whnf);first|(with_reducible first|apply spl|apply spl'|refine iJ ?_)<;>intro hc<;>try(exfalso;omega)|refine vcq ?_|refine dr 6 ?_|refine dr 2008 ?_|refine dr 508040603052006 ?_));all_goals(try conv=>whnf);try exact trivial
 ·rw[Int.toNat_natCast,Int.toNat_natCast] at hc
  refine⟨_,rfl,?_⟩
  rw[RS.wr_neg (Classical.not_not.1 hc)]
  (repeat' ((conv=>whnf);first|(with_reducible first|apply spl|apply spl'|refine iJ ?_)<;>intro hc<;>try(exfalso;omega)|refine vcq ?_|refine dr 6 ?_|refine dr 2008 ?_|refine dr 508040603052006 ?_));all_goals(try conv=>whnf);try exact trivial
  refine⟨fun e' _=>⟨_,rfl,fun j _=>rfl⟩,.inl rfl,?_⟩
  (repeat' ((conv=>whnf);first|(with_reducible first|apply spl|apply spl'|refine iJ ?_)<;>intro hc<;>try(exfalso;omega)|refine vcq ?_|refine dr 6 ?_|refine dr 2008 ?_|refine dr 508040603052006 ?_));all_goals(try conv=>whnf);try exact trivial
end Go.Proofs.Ca
namespace Go.Sx
open Go
variable {P:Program}
theorem callee_frz {g:FuncId} {keep:Bool} {args args':List V} {R0:V→Prop} {H:List O} {K:V→List O→Prop} {ps:List Prop} {ids:List Nat} (h:a0h P g keep args' R0)
  (hf:frzL (frzV 8 H) args=some (ps,ids,args')) (hp:∀p∈ps,p) (hk:∀ret,R0 ret→K ret (goneAt ids H)):Callee P g args H K:=by
 unfold Callee
 refine⟨h.1,fun I η w vals hS hd=>?_⟩
 obtain⟨s1,m1,st1⟩:=hS.freeze ids
 have hd':DenL (frzI I η H ids) [] w args' vals:=
  frzL_sound (C:=fun id=>∀e o b,η[id]? = some e→H[id]? = some o→o.has e b→frzI I η H ids b) (fun v v' ps ids x=>frzV_sound hS.obj (fun b hb=>.inl hb) 8 v v' ps ids x) args args' ps ids vals hf hp
   (fun id hid e o b he ho hb=>.inr ⟨id,hid,e,o,he,ho,hb⟩) hd
 refine(h.2 _ w vals s1.ilt hd').mono ?_
 rintro e w' ⟨ret,v,rfl,hr,hden,hpr⟩
 obtain⟨s2,m2,st2⟩:=s1.pres hpr
 refine⟨grow (frzI I η H ids) w w',η,goneAt ids H,ret,v,rfl,hk ret hr,s2,?_,m1.trans m2,st1.trans st2⟩
 refine Den.mono ⟨fun _ _ he _=>by simp at he,fun b hb=>?_,fun _ _=>rfl⟩ _ _ hden
 rcases hb with hb|hb
 ·exact .inl hb.2
 ·exact .inr hb
end Go.Sx
namespace Go.Proofs.Ca
open Go Go.Sx
set_option maxRecDepth 100000
set_option maxHeartbeats 40000000
namespace RS
def wrB (s:RS) (e:Nat):Nat→RS
 |0=>s
 |b+1=>(s.wrB e b).wr e b
def wrE (n:Nat) (s:RS):Nat→RS
 |0=>s
 |e+1=>(s.wrE n e).wrB e n
theorem wr_len (s:RS) (e b:Nat):(s.wr e b).E.length=s.E.length:=by unfold wr;split<;>simp
theorem wr_W (s:RS) (e b:Nat):s.W≤(s.wr e b).W∧(s.wr e b).W≤s.W+1:=by
 unfold wr
 split
 ·omega
 ·exact⟨by show s.W≤s.W+1;omega,Int.le_refl _⟩
theorem wrB_len (s:RS) (e:Nat):∀b,(s.wrB e b).E.length=s.E.length
 |0=>rfl
 |b+1=>by simp only[wrB];rw[wr_len,wrB_len s e b]
theorem wrB_W (s:RS) (e:Nat):∀b:Nat,s.W≤(s.wrB e b).W∧(s.wrB e b).W≤s.W+b
 |0=>by simp[wrB]
 |b+1=>by have:=wrB_W s e b;have:=wr_W (s.wrB e b) e b;simp only[wrB];omega
theorem wrE_len (n:Nat) (s:RS):∀e,(s.wrE n e).E.length=s.E.length
 |0=>rfl
 |e+1=>by simp only[wrE];rw[wrB_len,wrE_len n s e]
theorem wrE_W (n:Nat) (s:RS):∀e:Nat,s.W≤(s.wrE n e).W∧(s.wrE n e).W≤s.W+e*n
 |0=>by simp[wrE]
 |e+1=>by
  have:=wrE_W n s e;have:=wrB_W (s.wrE n e) e n
  simp only[wrE]
  have:((e+1:Nat):Int)*n=e*n+n:=by rw[Int.natCast_add,Int.add_mul];simp
  omega
end RS
theorem writeAll50 (n:Nat) (hn:1≤n∧n≤1000) (s:RS) (hE:s.E.length≤100) (hW:0≤s.W∧s.W≤10000) (e:Nat) (he:e≤s.E.length):a0h Tryz.prog 147 true [s.v n,.int .i64 e] (·=(s.wrE n e).v n):=by
 refine a0a Tryz.E_ok Tryz.func147 rfl (by kernel_rfl) ?_
 (repeat' ((conv=>whnf);first|(with_reducible first|apply spl|apply spl'|refine iJ ?_)<;>intro hc<;>try(exfalso;omega)|refine vcq ?_|refine dr 406030502042005 ?_|refine dr 9 ?_));all_goals(try conv=>whnf);try exact trivial
 refine⟨Nat,fun i=>i≤e,fun i=>e-i,fun i=>[(5,.int .i64 (i:Nat))],fun i=>[(0,.cells 126 ((s.wrE n i).c n))],fun _=>[],0,⟨by omega,some [some 0,some 1],?_⟩,?_⟩
 ·(repeat' ((conv=>whnf);first|(with_reducible first|apply spl|apply spl'|refine iJ ?_)<;>intro hc<;>try(exfalso;omega)|refine vcq ?_|refine dr 406030502042005 ?_|refine dr 9 ?_));all_goals(try conv=>whnf);try exact trivial
 ·intro i hi
  have hi:i≤e:=hi
  have hwl:=RS.wrE_len n s i
  have hww:=RS.wrE_W n s i
  have hin:(i:Int)*n≤100*1000:=by
   have:i*n≤100*1000:=Nat.mul_le_mul (by omega) hn.2
   exact_mod_cast this
  (repeat' ((conv=>whnf);first|(with_reducible first|apply spl|apply spl'|refine iJ ?_)<;>intro hc<;>try(exfalso;omega)|refine vcq ?_|refine dr 406030502042005 ?_|refine dr 9 ?_));all_goals(try conv=>whnf);try exact trivial
  ·have hi1:i<e:=by omega
   refine⟨Nat,fun b=>b≤n,fun b=>n-b,fun b=>[(6,.int .i64 (b:Nat))],fun b=>[(0,.cells 126 (((s.wrE n i).wrB i b).c n))],fun _=>[],0,⟨by omega,some [some 0,some 1],?_⟩,?_⟩
   ·(repeat' ((conv=>whnf);first|(with_reducible first|apply spl|apply spl'|refine iJ ?_)<;>intro hc<;>try(exfalso;omega)|refine vcq ?_|refine dr 406030502042005 ?_|refine dr 9 ?_));all_goals(try conv=>whnf);try exact trivial
   ·intro b hb
    have hb:b≤n:=hb
    have hbl:=RS.wrB_len (s.wrE n i) i b
    have hbw:=RS.wrB_W (s.wrE n i) i b
    (repeat' ((conv=>whnf);first|(with_reducible first|apply spl|apply spl'|refine iJ ?_)<;>intro hc<;>try(exfalso;omega)|refine vcq ?_|refine dr 406030502042005 ?_|refine dr 9 ?_));all_goals(try conv=>whnf);try exact trivial
    ·refine a0b (write48 n hn ((s.wrE n i).wrB i b) (by omega) (by omega) i b (by omega) (by omega)) rfl ?_
     rintro _ rfl
     (repeat' ((conv=>whnf);first|(with_reducible first|apply spl|apply spl'|refine iJ ?_)<;>intro hc<;>try(exfalso;omega)|refine vcq ?_|refine dr 406030502042005 ?_|refine dr 9 ?_));all_goals(try conv=>whnf);try exact trivial
     refine⟨b+1,⟨by omega,by dsimp only;omega⟩,some [some 0,some 1],?_⟩
     (repeat' ((conv=>whnf);first|(with_reducible first|apply spl|apply spl'|refine iJ ?_)<;>intro hc<;>try(exfalso;omega)|refine vcq ?_|refine dr 406030502042005 ?_|refine dr 9 ?_));all_goals(try conv=>whnf);try exact trivial
    ·obtain rfl:b=n:=by omega
     refine⟨i+1,⟨by omega,by dsimp only;omega⟩,some [some 0,some 1],?_⟩
     (repeat' ((conv=>whnf);first|(with_reducible first|apply spl|apply spl'|refine iJ ?_)<;>intro hc<;>try(exfalso;omega)|refine vcq ?_|refine dr 406030502042005 ?_|refine dr 9 ?_));all_goals(try conv=>whnf);try exact trivial
  ·obtain rfl:i=e:=by omega
   refine⟨_,rfl,?_⟩
   (repeat' ((conv=>whnf);first|(with_reducible first|apply spl|apply spl'|refine iJ ?_)<;>intro hc<;>try(exfalso;omega)|refine vcq ?_|refine dr 406030502042005 ?_|refine dr 9 ?_));all_goals(try conv=>whnf);try exact trivial
namespace RS
def setE (s:RS) (e b:Nat) (v:Int):RS:=⟨s.M,s.E.set e (fun b'=>if b'=b then v else s.ep e b'),s.W⟩
def order (n:Nat) (s:RS) (k:Int) (o:Int×Int):RS:=
 if o.1=1 then s.setE (s.E.length-1) o.2.toNat k
 else if o.1=2 then((s.setE (s.E.length-1) o.2.toNat k).wrE n (s.E.length-1)).wr (s.E.length-1) o.2.toNat
 else if o.1=3 then⟨s.M,s.E++[fun _=>-1],s.W⟩
 else if o.1=4 then s.wrE n s.E.length
 else s
theorem ep_setE {s:RS} {e b:Nat} {v:Int} (he:e<s.E.length) (e' j:Nat):(s.setE e b v).ep e' j=if e'=e∧j=b then v else s.ep e' j:=by
 show((s.E.set e _).getD e' (fun _=>-1)) j=_
 rw[ep_set he]
 by_cases h:e'=e
 ·subst h
  rw[if_pos rfl]
  by_cases h2:j=b
  ·simp[h2]
  ·simp[h2]
 ·rw[if_neg h,if_neg (fun g=>h g.1)];rfl
theorem ep_snoc {s:RS} {e j:Nat}:(⟨s.M,s.E++[fun _=>-1],s.W⟩:RS).ep e j=if e<s.E.length then s.ep e j else -1:=by
 show((s.E++[fun _=>-1]).getD e (fun _=>-1)) j=_
 split
 ·rename_i h
  simp only[List.getD_eq_getElem?_getD,List.getElem?_append_left h]
  rfl
 ·rename_i h
  simp only[List.getD_eq_getElem?_getD,List.getElem?_append_right (Nat.le_of_not_lt h)]
  cases e-s.E.length<;>simp
end RS
theorem do18 (n:Nat) (hn:1≤n∧n≤1000) (s:RS) (hE:0<s.E.length∧s.E.length≤100) (hW:0≤s.W∧s.W≤10000) (k:Int) (o:Int×Int) (ho:o.1=1∨o.1=2→0≤o.2∧o.2<n):a0h Tryz.prog 106 true [s.v n,oV o,.int .i64 k] (·=(s.order n k o).v n):=by
 have hn1:((s.E.length:Int)-1).toNat=s.E.length-1:=by omega
 refine a0a Tryz.E_ok Tryz.func106 rfl (by kernel_rfl) ?_
 by_cases c1:o.1=1
 ·obtain⟨b,hb,e⟩:∃b:Nat,b<n∧o.2=b:=⟨o.2.toNat,by have:=ho (.inl c1);omega,by have:=ho (.inl c1);omega⟩
  obtain⟨o1,o2⟩:=o
  dsimp only at c1 e
  subst c1 e
  have ho':s.order n k (1,(b:Int))=s.setE (s.E.length-1) b k:=rfl
  rw[ho']
  have hep:=RS.ep_setE (s:=s) (e:=s.E.length-1) (b:=b) (v:=k) (by omega)
  (repeat' ((conv=>whnf);first|(with_reducible first|apply spl|apply spl'|refine iJ ?_)<;>intro hc<;>try(exfalso;omega)|refine vcq ?_|refine dr 406030502042005 ?_|refine dr 9 ?_));all_goals(try conv=>whnf);try exact trivial
  refine callee_new (copied49 n hn s (by omega)) rfl ?_
  rintro _ _ ⟨β,rfl,rfl⟩
  (repeat' ((conv=>whnf);first|(with_reducible first|apply spl|apply spl'|refine iJ ?_)<;>intro hc<;>try(exfalso;omega)|refine vcq ?_|refine dr 9 ?_));all_goals(try conv=>whnf);try exact trivial
  (repeat' ((first|(refine And.intro ⟨by omega,rfl⟩ ?_)|(refine And.intro ⟨by omega,rfl,rfl,by dsimp only;omega⟩ ?_));(repeat' ((conv=>whnf);first|(with_reducible first|apply spl|apply spl'|refine iJ ?_)<;>intro hc<;>try(exfalso;omega)|refine vcq ?_|refine dr 9 ?_));all_goals((try conv=>whnf);try exact trivial)))
  refine⟨_,rfl,?_⟩
  (repeat' ((conv=>whnf);first|(with_reducible first|apply spl|apply spl'|refine iJ ?_)<;>intro hc<;>try(exfalso;omega)|refine vcq ?_|refine dr 406030502042005 ?_|refine dr 9 ?_));all_goals(try conv=>whnf);try exact trivial
  refine⟨by simp[RS.setE],rfl,fun e' he'=>⟨_,rfl,fun j _=>?_⟩,.inl rfl,?_⟩
  ·show a2o (e'=((s.E.length:Int)-1).toNat∧j=b) [V.int .i64 (s.ep e' j)] 0 [V.int .i64 k]=[V.int .i64 (RS.ep _ e' j)]
   rw[hep,hn1]
   by_cases h:e'=s.E.length-1∧j=b
   ·rw[a0v h,if_pos h];rfl
   ·rw[a0t h,if_neg h]
  (repeat' ((conv=>whnf);first|(with_reducible first|apply spl|apply spl'|refine iJ ?_)<;>intro hc<;>try(exfalso;omega)|refine vcq ?_|refine dr 406030502042005 ?_|refine dr 9 ?_));all_goals(try conv=>whnf);try exact trivial
 by_cases c2:o.1=2
 ·obtain⟨b,hb,e⟩:∃b:Nat,b<n∧o.2=b:=⟨o.2.toNat,by have:=ho (.inr c2);omega,by have:=ho (.inr c2);omega⟩
  obtain⟨o1,o2⟩:=o
  dsimp only at c1 c2 e
  subst c2 e
  have ho':s.order n k (2,(b:Int))=((s.setE (s.E.length-1) b k).wrE n (s.E.length-1)).wr (s.E.length-1) b:=rfl
  rw[ho']
  have hep:=RS.ep_setE (s:=s) (e:=s.E.length-1) (b:=b) (v:=k) (by omega)
  have hl2:(s.setE (s.E.length-1) b k).E.length=s.E.length:=by simp[RS.setE]
  have hwa:=writeAll50 n hn (s.setE (s.E.length-1) b k) (by omega) hW (s.E.length-1) (by omega)
  have hwl:=RS.wrE_len n (s.setE (s.E.length-1) b k) (s.E.length-1)
  have hww:=RS.wrE_W n (s.setE (s.E.length-1) b k) (s.E.length-1)
  have hin:((s.E.length-1:Nat):Int)*n≤100*1000:=by
   have:(s.E.length-1)*n≤100*1000:=Nat.mul_le_mul (by omega) hn.2
   exact_mod_cast this
  have hW2:(s.setE (s.E.length-1) b k).W=s.W:=rfl
  have hw:=write48 n hn ((s.setE (s.E.length-1) b k).wrE n (s.E.length-1)) (by omega) (by omega) (s.E.length-1) b (by omega) hb
  have hc1:((s.E.length:Int)-1)=((s.E.length-1:Nat):Int):=by omega
  rw[←hc1] at hwa hw
  (repeat' ((conv=>whnf);first|(with_reducible first|apply spl|apply spl'|refine iJ ?_)<;>intro hc<;>try(exfalso;omega)|refine vcq ?_|refine dr 406030502042005 ?_|refine dr 9 ?_));all_goals(try conv=>whnf);try exact trivial
  refine callee_new (copied49 n hn s (by omega)) rfl ?_
  rintro _ _ ⟨β,rfl,rfl⟩
  (repeat' ((conv=>whnf);first|(with_reducible first|apply spl|apply spl'|refine iJ ?_)<;>intro hc<;>try(exfalso;omega)|refine vcq ?_|refine dr 9 ?_|refine dr 406030502042005 ?_));all_goals(try conv=>whnf);try exact trivial
  (repeat' ((first|(refine And.intro ⟨by omega,rfl⟩ ?_)|(refine And.intro ⟨by omega,rfl,rfl,by dsimp only;omega⟩ ?_));(repeat' ((conv=>whnf);first|(with_reducible first|apply spl|apply spl'|refine iJ ?_)<;>intro hc<;>try(exfalso;omega)|refine vcq ?_|refine dr 9 ?_|refine dr 406030502042005 ?_));all_goals((try conv=>whnf);try exact trivial)))
  ·refine callee_frz (a0h.view hwa ?_) rfl ?_ ?_
   ·(repeat' ((conv=>whnf);first|(with_reducible first|apply spl|apply spl'|refine iJ ?_)<;>intro hc<;>try(exfalso;omega)|refine vcq ?_|refine dr 406030502042005 ?_|refine dr 9 ?_));all_goals(try conv=>whnf);try exact trivial
    refine⟨fun e' he'=>?_,?_⟩
    ·show [V.sl 1 n fun j=>a2o (e'=((s.E.length:Int)-1).toNat∧j=b) [V.int .i64 (s.ep e' j)] 0 [V.int .i64 k]]=[V.sl 1 n fun j=>[V.int .i64 (RS.ep _ e' j)]]
     congr 2
     funext j
     rw[hep,hn1]
     by_cases h:e'=s.E.length-1∧j=b
     ·rw[a0v h,if_pos h];rfl
     ·rw[a0t h,if_neg h]
    (repeat' ((conv=>whnf);first|(with_reducible first|apply spl|apply spl'|refine iJ ?_)<;>intro hc<;>try(exfalso;omega)|refine vcq ?_|refine dr 406030502042005 ?_|refine dr 9 ?_));all_goals(try conv=>whnf);try exact trivial
   ·simp[app]
   ·rintro _ rfl
    (repeat' ((conv=>whnf);first|(with_reducible first|apply spl|apply spl'|refine iJ ?_)<;>intro hc<;>try(exfalso;omega)|refine vcq ?_|refine dr 9 ?_|refine dr 406030502042005 ?_));all_goals(try conv=>whnf);try exact trivial
    refine a0b hw rfl ?_
    rintro _ rfl
    (repeat' ((conv=>whnf);first|(with_reducible first|apply spl|apply spl'|refine iJ ?_)<;>intro hc<;>try(exfalso;omega)|refine vcq ?_|refine dr 9 ?_|refine dr 406030502042005 ?_));all_goals(try conv=>whnf);try exact trivial
    refine⟨_,rfl,?_⟩
    (repeat' ((conv=>whnf);first|(with_reducible first|apply spl|apply spl'|refine iJ ?_)<;>intro hc<;>try(exfalso;omega)|refine vcq ?_|refine dr 406030502042005 ?_|refine dr 9 ?_));all_goals(try conv=>whnf);try exact trivial
 by_cases c3:o.1=3
 ·have ho':s.order n k o=⟨s.M,s.E++[fun _=>-1],s.W⟩:=by unfold RS.order;rw[if_neg c1,if_neg c2,if_pos c3]
  rw[ho']
  have hep:=fun e j=>RS.ep_snoc (s:=s) (e:=e) (j:=j)
  (repeat' ((conv=>whnf);first|(with_reducible first|apply spl|apply spl'|refine iJ ?_)<;>intro hc<;>try(exfalso;omega)|refine vcq ?_|refine dr 406030502042005 ?_|refine dr 9 ?_));all_goals(try conv=>whnf);try exact trivial
  refine callee_new (copied49 n hn s (by omega)) rfl ?_
  rintro _ _ ⟨β,rfl,rfl⟩
  (repeat' ((conv=>whnf);first|(with_reducible first|apply spl|apply spl'|refine iJ ?_)<;>intro hc<;>try(exfalso;omega)|refine vcq ?_|refine dr 406030502042005 ?_|refine dr 9 ?_));all_goals(try conv=>whnf);try exact trivial
  refine⟨Nat,fun i=>i≤n,fun i=>n-i,fun i=>[(9,.int .i64 (i:Nat)),(8,.osl 5 i)],fun _=>[],fun i=>[.row 3 1 i (fun _=>[.int .i64 (-1)]) true],0,⟨by omega,some [some 0,some 1,some 2,some 3,some 4,none],?_⟩,?_⟩
  ·(repeat' ((conv=>whnf);first|(with_reducible first|apply spl|apply spl'|refine iJ ?_)<;>intro hc<;>try(exfalso;omega)|refine vcq ?_|refine dr 406030502042005 ?_|refine dr 9 ?_));all_goals(try conv=>whnf);try exact trivial
   refine⟨fun _ _=>⟨rfl,rfl,fun _ _=>rfl⟩,?_⟩
   (repeat' ((conv=>whnf);first|(with_reducible first|apply spl|apply spl'|refine iJ ?_)<;>intro hc<;>try(exfalso;omega)|refine vcq ?_|refine dr 406030502042005 ?_|refine dr 9 ?_));all_goals(try conv=>whnf);try exact trivial
  ·intro i hi
   have hi:i≤n:=hi
   (repeat' ((conv=>whnf);first|(with_reducible first|apply spl|apply spl'|refine iJ ?_)<;>intro hc<;>try(exfalso;omega)|refine vcq ?_|refine dr 406030502042005 ?_|refine dr 9 ?_));all_goals(try conv=>whnf);try exact trivial
   ·refine⟨i+1,⟨by omega,by dsimp only;omega⟩,some [some 0,some 1,some 2,some 3,some 4,some 7],?_⟩
    (repeat' ((conv=>whnf);first|(with_reducible first|apply spl|apply spl'|refine iJ ?_)<;>intro hc<;>try(exfalso;omega)|refine vcq ?_|refine dr 406030502042005 ?_|refine dr 9 ?_));all_goals(try conv=>whnf);try exact trivial
    refine⟨fun _ _=>⟨rfl,rfl,fun _ _=>rfl⟩,?_⟩
    (repeat' ((conv=>whnf);first|(with_reducible first|apply spl|apply spl'|refine iJ ?_)<;>intro hc<;>try(exfalso;omega)|refine vcq ?_|refine dr 406030502042005 ?_|refine dr 9 ?_));all_goals(try conv=>whnf);try exact trivial
    refine⟨appF_one rfl,?_⟩
    (repeat' ((conv=>whnf);first|(with_reducible first|apply spl|apply spl'|refine iJ ?_)<;>intro hc<;>try(exfalso;omega)|refine vcq ?_|refine dr 406030502042005 ?_|refine dr 9 ?_));all_goals(try conv=>whnf);try exact trivial
   ·have hin:i=n:=by omega
    subst hin
    intro β1
    (repeat' ((conv=>whnf);first|(with_reducible first|apply spl|apply spl'|refine iJ ?_)<;>intro hc<;>try(exfalso;omega)|refine vcq ?_|refine dr 406030502042005 ?_|refine dr 9 ?_));all_goals(try conv=>whnf);try exact trivial
    refine⟨⟨rfl,rfl,rfl,rfl,by omega,by omega⟩,fun β2=>?_⟩
    (repeat' ((conv=>whnf);first|(with_reducible first|apply spl|apply spl'|refine iJ ?_)<;>intro hc<;>try(exfalso;omega)|refine vcq ?_|refine dr 406030502042005 ?_|refine dr 9 ?_));all_goals(try conv=>whnf);try exact trivial
    refine⟨_,rfl,?_⟩
    (repeat' ((conv=>whnf);first|(with_reducible first|apply spl|apply spl'|refine iJ ?_)<;>intro hc<;>try(exfalso;omega)|refine vcq ?_|refine dr 406030502042005 ?_|refine dr 9 ?_));all_goals(try conv=>whnf);try exact trivial
    refine⟨by simp,rfl,fun e' _=>⟨fun j=>[.int .i64 ((⟨s.M,s.E++[fun _=>-1],s.W⟩:RS).ep e' j)],?_,fun j _=>?_⟩,.inl rfl,?_⟩
    ·show [V.sl 1 i _]=[V.sl 1 (if e'<s.E.length then i else i) _]
     rw[ite_self]
    ·dsimp only
     rw[hep]
     by_cases h:e'<s.E.length
     ·rw[if_pos h,if_pos h]
     ·rw[if_neg h,if_neg h]
    (repeat' ((conv=>whnf);first|(with_reducible first|apply spl|apply spl'|refine iJ ?_)<;>intro hc<;>try(exfalso;omega)|refine vcq ?_|refine dr 406030502042005 ?_|refine dr 9 ?_));all_goals(try conv=>whnf);try exact trivial
 by_cases c4:o.1=4
 ·have ho':s.order n k o=s.wrE n s.E.length:=by unfold RS.order;rw[if_neg c1,if_neg c2,if_neg c3,if_pos c4]
  rw[ho']
  have hwa:=writeAll50 n hn s (by omega) hW s.E.length (by omega)
  have hc1:((s.E.length:Int)-1)+1=(s.E.length:Int):=by omega
  rw[←hc1] at hwa
  (repeat' ((conv=>whnf);first|(with_reducible first|apply spl|apply spl'|refine iJ ?_)<;>intro hc<;>try(exfalso;omega)|refine vcq ?_|refine dr 406030502042005 ?_|refine dr 9 ?_));all_goals(try conv=>whnf);try exact trivial
  refine callee_new (copied49 n hn s (by omega)) rfl ?_
  rintro _ _ ⟨β,rfl,rfl⟩
  (repeat' ((conv=>whnf);first|(with_reducible first|apply spl|apply spl'|refine iJ ?_)<;>intro hc<;>try(exfalso;omega)|refine vcq ?_|refine dr 406030502042005 ?_|refine dr 9 ?_));all_goals(try conv=>whnf);try exact trivial
  refine callee_frz (a0h.view hwa ?_) rfl ?_ ?_
  ·(repeat' ((conv=>whnf);first|(with_reducible first|apply spl|apply spl'|refine iJ ?_)<;>intro hc<;>try(exfalso;omega)|refine vcq ?_|refine dr 406030502042005 ?_|refine dr 9 ?_));all_goals(try conv=>whnf);try exact trivial
  ·simp[app]
  ·rintro _ rfl
   (repeat' ((conv=>whnf);first|(with_reducible first|apply spl|apply spl'|refine iJ ?_)<;>intro hc<;>try(exfalso;omega)|refine vcq ?_|refine dr 406030502042005 ?_|refine dr 9 ?_));all_goals(try conv=>whnf);try exact trivial
   refine⟨_,rfl,?_⟩
   (repeat' ((conv=>whnf);first|(with_reducible first|apply spl|apply spl'|refine iJ ?_)<;>intro hc<;>try(exfalso;omega)|refine vcq ?_|refine dr 406030502042005 ?_|refine dr 9 ?_));all_goals(try conv=>whnf);try exact trivial
 ·have ho':s.order n k o=s:=by unfold RS.order;rw[if_neg c1,if_neg c2,if_neg c3,if_neg c4]
  rw[ho']
  (repeat' ((conv=>whnf);first|(with_reducible first|apply spl|apply spl'|refine iJ ?_)<;>intro hc<;>try(exfalso;omega)|refine vcq ?_|refine dr 406030502042005 ?_|refine dr 9 ?_));all_goals(try conv=>whnf);try exact trivial
  refine callee_new (copied49 n hn s (by omega)) rfl ?_
  rintro _ _ ⟨β,rfl,rfl⟩
  (repeat' ((conv=>whnf);first|(with_reducible first|apply spl|apply spl'|refine iJ ?_)<;>intro hc<;>try(exfalso;omega)|refine vcq ?_|refine dr 406030502042005 ?_|refine dr 9 ?_));all_goals(try conv=>whnf);try exact trivial
  refine⟨_,rfl,?_⟩
  (repeat' ((conv=>whnf);first|(with_reducible first|apply spl|apply spl'|refine iJ ?_)<;>intro hc<;>try(exfalso;omega)|refine vcq ?_|refine dr 406030502042005 ?_|refine dr 9 ?_));all_goals(try conv=>whnf);try exact trivial
  refine⟨fun e' _=>⟨_,rfl,fun j _=>rfl⟩,.inl rfl,?_⟩
  (repeat' ((conv=>whnf);first|(with_reducible first|apply spl|apply spl'|refine iJ ?_)<;>intro hc<;>try(exfalso;omega)|refine vcq ?_|refine dr 406030502042005 ?_|refine dr 9 ?_));all_goals(try conv=>whnf);try exact trivial
end Go.Proofs.Ca
namespace Go.Proofs.Ca
open Go Go.Sx
set_option maxRecDepth 100000
set_option maxHeartbeats 40000000
theorem within47 (n x y:Int):a0h Tryz.prog 77 false [.int .i64 n,.int .i64 x,.int .i64 y] (·=.prop (x≤n∧n≤y) inferInstance):=by
 refine a0a Tryz.E_ok Tryz.func77 rfl (by kernel_rfl) ?_
 (repeat' ((conv=>whnf);first|(with_reducible first|apply spl|apply spl'|refine iJ ?_)<;>intro hc<;>try(exfalso;omega)|refine vcq ?_|fail));all_goals((try conv=>whnf);try exact trivial);(all_goals(try(refine⟨_,rfl,?_⟩;(repeat' ((conv=>whnf);first|(with_reducible first|apply spl|apply spl'|refine iJ ?_)<;>intro hc<;>try(exfalso;omega)|refine vcq ?_|fail));all_goals((try conv=>whnf);try exact trivial))))
theorem puts35 (o:Int×Int):a0h Tryz.prog 78 false [oV o] (·=.prop (o.1=1∨o.1=2) inferInstance):=by
 refine a0a Tryz.E_ok Tryz.func78 rfl (by kernel_rfl) ?_
 (repeat' ((conv=>whnf);first|(with_reducible first|apply spl|apply spl'|refine iJ ?_)<;>intro hc<;>try(exfalso;omega)|refine vcq ?_|fail));all_goals((try conv=>whnf);try exact trivial);(all_goals(try(refine⟨_,rfl,?_⟩;(repeat' ((conv=>whnf);first|(with_reducible first|apply spl|apply spl'|refine iJ ?_)<;>intro hc<;>try(exfalso;omega)|refine vcq ?_|fail));all_goals((try conv=>whnf);try exact trivial))))
end Go.Proofs.Ca
namespace Go.Proofs.Ca
open Go Go.Sx
set_option maxRecDepth 100000
set_option maxHeartbeats 40000000
def noRow (n:Nat) (f:Nat→Int):Prop:=∀b,b<n→f b=-1
def RS.IsFirst (n:Nat) (s:RS) (e:Nat):Prop:=e<s.E.length∧¬noRow n (s.ep e)∧∀i,i<e→noRow n (s.ep i)
theorem first46 (n:Nat) (hn:1≤n∧n≤1000) (s:RS) (hE:s.E.length≤100):a0h Tryz.prog 107 false [s.v n] (fun r=>(∃e:Nat,s.IsFirst n e∧r=.tup [.int .i64 e,.kb true])∨((∀i,i<s.E.length→noRow n (s.ep i))∧r=.tup [.int .i64 0,.kb false])):=by
 refine a0a Tryz.E_ok Tryz.func107 rfl (by kernel_rfl) ?_
 (repeat' ((conv=>whnf);first|(with_reducible first|apply spl|apply spl'|refine iJ ?_)<;>intro hc<;>try(exfalso;omega)|refine vcq ?_|fail));all_goals(try conv=>whnf);try exact trivial
 refine⟨Nat,fun i=>i≤s.E.length∧∀j,j<i→noRow n (s.ep j),fun i=>s.E.length-i,fun i=>[(4,.int .i64 (i:Nat)),(2,.any),(3,.any)],fun _=>[],fun _=>[],0,⟨⟨by omega,fun j hj=>by omega⟩,some [some 0],?_⟩,?_⟩
 ·(repeat' ((conv=>whnf);first|(with_reducible first|apply spl|apply spl'|refine iJ ?_)<;>intro hc<;>try(exfalso;omega)|refine vcq ?_|fail));all_goals(try conv=>whnf);try exact trivial
 ·rintro i ⟨h1,h2⟩
  have hti:(i:Int).toNat=i:=Int.toNat_natCast i
  (repeat' ((conv=>whnf);first|(with_reducible first|apply spl|apply spl'|refine iJ ?_)<;>intro hc<;>try(exfalso;omega)|refine vcq ?_|fail));all_goals(try conv=>whnf);try exact trivial
  ·have hi:i<s.E.length:=by omega
   refine⟨Nat,fun b=>b≤n∧∀j,j<b→s.ep i j=-1,fun b=>n-b,fun b=>[(5,.int .i64 (b:Nat)),(2,.any),(3,.any)],fun _=>[],fun _=>[],0,⟨⟨by omega,fun j hj=>by omega⟩,some [some 0],?_⟩,?_⟩
   ·(repeat' ((conv=>whnf);first|(with_reducible first|apply spl|apply spl'|refine iJ ?_)<;>intro hc<;>try(exfalso;omega)|refine vcq ?_|fail));all_goals(try conv=>whnf);try exact trivial
   ·rintro b ⟨h3,h4⟩
    have htb:(b:Int).toNat=b:=Int.toNat_natCast b
    (repeat' ((conv=>whnf);first|(with_reducible first|apply spl|apply spl'|refine iJ ?_)<;>intro hc<;>try(exfalso;omega)|refine vcq ?_|fail));all_goals(try conv=>whnf);try exact trivial
    ·rw[hti,htb] at hc
     refine⟨_,.inl ⟨i,⟨hi,fun h=>hc (h b (by omega)),h2⟩,rfl⟩,?_⟩
     (repeat' ((conv=>whnf);first|(with_reducible first|apply spl|apply spl'|refine iJ ?_)<;>intro hc<;>try(exfalso;omega)|refine vcq ?_|fail));all_goals(try conv=>whnf);try exact trivial
    ·rw[hti,htb] at hc
     refine⟨b+1,⟨⟨by omega,fun j hj=>?_⟩,by dsimp only;omega⟩,some [some 0],?_⟩
     ·rcases Nat.lt_or_eq_of_le (show j≤b by omega) with g|rfl
      ·exact h4 j g
      ·exact Classical.not_not.1 hc
     ·(repeat' ((conv=>whnf);first|(with_reducible first|apply spl|apply spl'|refine iJ ?_)<;>intro hc<;>try(exfalso;omega)|refine vcq ?_|fail));all_goals(try conv=>whnf);try exact trivial
    ·refine⟨i+1,⟨⟨by omega,fun j hj=>?_⟩,by dsimp only;omega⟩,some [some 0],?_⟩
     ·rcases Nat.lt_or_eq_of_le (show j≤i by omega) with g|rfl
      ·exact h2 j g
      ·exact fun b' hb'=>h4 b' (by omega)
     ·(repeat' ((conv=>whnf);first|(with_reducible first|apply spl|apply spl'|refine iJ ?_)<;>intro hc<;>try(exfalso;omega)|refine vcq ?_|fail));all_goals(try conv=>whnf);try exact trivial
  ·refine⟨_,.inr ⟨fun j hj=>h2 j (by omega),rfl⟩,?_⟩
   (repeat' ((conv=>whnf);first|(with_reducible first|apply spl|apply spl'|refine iJ ?_)<;>intro hc<;>try(exfalso;omega)|refine vcq ?_|fail));all_goals(try conv=>whnf);try exact trivial
end Go.Proofs.Ca
namespace Go.Proofs.Ca
open Go Go.Sx
set_option maxRecDepth 100000
set_option maxHeartbeats 40000000
inductive DrR (n:Nat) (s:RS) (z:Int):V→Prop
 |yes (e:Nat):0≤z→z<n→s.IsFirst n e→s.ep e z.toNat≠-1→DrR n s z (.tup [(s.wr e z.toNat).v n,.prop True inferInstance])
 |no:(0≤z→z<n→∀e,s.IsFirst n e→s.ep e z.toNat=-1)→DrR n s z (.tup [s.v n,.prop False inferInstance])
theorem IsFirst.uniq {n:Nat} {s:RS} {e e':Nat} (h:s.IsFirst n e) (h':s.IsFirst n e'):e=e':=by
 rcases Nat.lt_trichotomy e e' with g|g|g
 ·exact absurd (h'.2.2 e g) h.2.1
 ·exact g
 ·exact absurd (h.2.2 e' g) h'.2.1
end Go.Proofs.Ca
namespace Go.Proofs.Ca
open Go Go.Sx
set_option maxRecDepth 100000
set_option maxHeartbeats 40000000
def canR (n:Nat) (s:RS) (z:Int):Prop:=0≤z∧z<n∧∃e,s.IsFirst n e∧s.ep e z.toNat≠-1
open Classical in
noncomputable def drS (n:Nat) (s:RS) (z:Int):RS:=if h:canR n s z then s.wr (Classical.choose h.2.2) z.toNat else s
theorem drS_yes {n:Nat} {s:RS} {z:Int} {e:Nat} (h:0≤z∧z<n) (he:s.IsFirst n e) (hne:s.ep e z.toNat≠-1):drS n s z=s.wr e z.toNat∧canR n s z:=by
 have hc:canR n s z:=⟨h.1,h.2,e,he,hne⟩
 unfold drS
 rw[dif_pos hc,IsFirst.uniq (Classical.choose_spec hc.2.2).1 he]
 exact⟨rfl,hc⟩
theorem drS_no {n:Nat} {s:RS} {z:Int} (h:¬canR n s z):drS n s z=s:=dif_neg h
theorem Drained17d (n:Nat) (hn:1≤n∧n≤1000) (s:RS) (hE:s.E.length≤100) (hW:0≤s.W∧s.W≤1000000) (z:Int):a0h Tryz.prog 70 true [s.v n,.int .i64 z] (·=.tup [(drS n s z).v n,.prop (canR n s z) (Classical.propDecidable _)]):=by
 refine a0a Tryz.E_ok Tryz.func70 rfl (by kernel_rfl) ?_
 (repeat' ((conv=>whnf);first|(with_reducible first|apply spl|apply spl'|refine iJ ?_)<;>intro hc<;>try(exfalso;omega)|refine vcq ?_|fail));all_goals(try conv=>whnf);try exact trivial
 refine a0b (first46 n hn s hE) rfl ?_
 rintro _ (⟨e,he,rfl⟩|⟨h,rfl⟩)
 ·have hel:=he.1
  have hte:(e:Int).toNat=e:=Int.toNat_natCast e
  (repeat' ((conv=>whnf);first|(with_reducible first|apply spl|apply spl'|refine iJ ?_)<;>intro hc<;>try(exfalso;omega)|refine vcq ?_|fail));all_goals((try conv=>whnf);try exact trivial);(repeat' ((first|(refine a0b (within47 _ _ _) rfl ?_;rintro _ rfl)|(refine a0c (within47 _ _ _) rfl ?_)|(refine a0g (fun _=>within47 _ _ _) rfl ?_));(repeat' ((conv=>whnf);first|(with_reducible first|apply spl|apply spl'|refine iJ ?_)<;>intro hc<;>try(exfalso;omega)|refine vcq ?_|fail));all_goals((try conv=>whnf);try exact trivial)))
  ·have hno:¬canR n s z:=by
    rintro⟨h1,h2,e',he',hne⟩
    obtain rfl:=IsFirst.uniq he he'
    rw[hte] at hc
    rcases hc with hc|hc
    ·omega
    ·exact hne hc
   rw[drS_no hno]
   refine⟨_,rfl,?_⟩
   (repeat' ((conv=>whnf);first|(with_reducible first|apply spl|apply spl'|refine iJ ?_)<;>intro hc<;>try(exfalso;omega)|refine vcq ?_|fail));all_goals(try conv=>whnf);try exact trivial
  ·have hz:0≤z∧z<n:=by omega
   obtain⟨b,rfl⟩:∃b:Nat,z=b:=⟨z.toNat,by omega⟩
   have htb:(b:Int).toNat=b:=Int.toNat_natCast b
   rw[hte] at hc
   have hy:=drS_yes hz he (fun g=>hc (.inr g))
   rw[htb] at hy
   rw[hy.1]
   have hcan:=hy.2
   refine a0b (write48 n hn s (by omega) hW e b hel (by omega)) rfl ?_
   rintro _ rfl
   (repeat' ((conv=>whnf);first|(with_reducible first|apply spl|apply spl'|refine iJ ?_)<;>intro hc<;>try(exfalso;omega)|refine vcq ?_|fail));all_goals(try conv=>whnf);try exact trivial
   refine⟨_,rfl,?_⟩
   (repeat' ((conv=>whnf);first|(with_reducible first|apply spl|apply spl'|refine iJ ?_)<;>intro hc<;>try(exfalso;omega)|refine vcq ?_|fail));all_goals(try conv=>whnf);try exact trivial
 ·have hno:¬canR n s z:=by
   rintro⟨_,_,e,he,_⟩
   exact he.2.1 (h e he.1)
  rw[drS_no hno]
  (repeat' ((conv=>whnf);first|(with_reducible first|apply spl|apply spl'|refine iJ ?_)<;>intro hc<;>try(exfalso;omega)|refine vcq ?_|fail));all_goals(try conv=>whnf);try exact trivial
  refine⟨_,rfl,?_⟩
  (repeat' ((conv=>whnf);first|(with_reducible first|apply spl|apply spl'|refine iJ ?_)<;>intro hc<;>try(exfalso;omega)|refine vcq ?_|fail));all_goals(try conv=>whnf);try exact trivial
end Go.Proofs.Ca
namespace Go.Proofs.Ca
open Go Go.Sx
set_option maxRecDepth 100000
set_option maxHeartbeats 4000000
abbrev Wt:=Nat×Nat×Int
def entB (f:Nat→Int) (e:Nat):Nat→List Wt
 |0=>[]
 |b+1=>entB f e b++(if f b=-1 then [] else [(e,b,f b)])
def entE (n:Nat) (F:Nat→Nat→Int):Nat→List Wt
 |0=>[]
 |e+1=>entE n F e++entB (F e) e n
def RS.ents (n:Nat) (s:RS):List Wt:=entE n s.ep s.E.length
def ltK (w w':Wt):Prop:=w.1<w'.1∨w.1=w'.1∧w.2.1<w'.2.1
theorem ltK_irrefl (w:Wt):¬ltK w w:=by unfold ltK;omega
theorem ltK_trans {a b c:Wt} (h:ltK a b) (k:ltK b c):ltK a c:=by unfold ltK at *;omega
theorem ltK_asymm {a b:Wt} (h:ltK a b):¬ltK b a:=fun k=>ltK_irrefl a (ltK_trans h k)
theorem mem_entB {f:Nat→Int} {e:Nat} {w:Wt}:∀{k:Nat},w∈entB f e k↔w.1=e∧w.2.1<k∧f w.2.1≠-1∧w.2.2=f w.2.1
 |0=>by simp[entB]
 |k+1=>by
  unfold entB
  rw[List.mem_append,mem_entB]
  by_cases h:f k=-1
  ·rw[if_pos h]
   simp only[List.not_mem_nil,or_false]
   constructor
   ·rintro⟨h1,h2,h3,h4⟩;exact⟨h1,by omega,h3,h4⟩
   ·rintro⟨h1,h2,h3,h4⟩
    refine⟨h1,?_,h3,h4⟩
    rcases Nat.lt_or_eq_of_le (Nat.le_of_lt_succ h2) with g|g
    ·exact g
    ·rw[g] at h3;exact absurd h h3
  ·rw[if_neg h,List.mem_singleton]
   constructor
   ·rintro(⟨h1,h2,h3,h4⟩|rfl)
    ·exact⟨h1,by omega,h3,h4⟩
    ·exact⟨rfl,Nat.lt_succ_self k,h,rfl⟩
   ·rintro⟨h1,h2,h3,h4⟩
    rcases Nat.lt_or_eq_of_le (Nat.le_of_lt_succ h2) with g|g
    ·exact .inl ⟨h1,g,h3,h4⟩
    ·right
     obtain⟨a,b,c⟩:=w
     simp only at h1 g h4
     subst h1 g
     rw[h4]
theorem mem_entE {n:Nat} {F:Nat→Nat→Int} {w:Wt}:∀{m:Nat},w∈entE n F m↔w.1<m∧w.2.1<n∧F w.1 w.2.1≠-1∧w.2.2=F w.1 w.2.1
 |0=>by simp[entE]
 |m+1=>by
  unfold entE
  rw[List.mem_append,mem_entE,mem_entB]
  constructor
  ·rintro(⟨h1,h2⟩|⟨h1,h2⟩)
   ·exact⟨by omega,h2⟩
   ·rw[h1];exact⟨by omega,h2⟩
  ·rintro⟨h1,h2⟩
   rcases Nat.lt_or_eq_of_le (Nat.le_of_lt_succ h1) with g|g
   ·exact .inl ⟨g,h2⟩
   ·rw[g] at h2;exact .inr ⟨g,h2⟩
theorem entB_sorted {f:Nat→Int} {e:Nat}:∀(k:Nat),(entB f e k).Pairwise ltK
 |0=>.nil
 |k+1=>by
  unfold entB
  rw[List.pairwise_append]
  refine⟨entB_sorted k,by split<;>simp,fun w hw w' hw'=>?_⟩
  split at hw'
  ·simp at hw'
  ·rw[List.mem_singleton] at hw'
   subst hw'
   have:=mem_entB.1 hw
   unfold ltK
   dsimp only
   omega
theorem entE_sorted {n:Nat} {F:Nat→Nat→Int}:∀(m:Nat),(entE n F m).Pairwise ltK
 |0=>.nil
 |m+1=>by
  unfold entE
  rw[List.pairwise_append]
  refine⟨entE_sorted m,entB_sorted n,fun w hw w' hw'=>?_⟩
  have:=mem_entE.1 hw
  have:=mem_entB.1 hw'
  unfold ltK
  omega
theorem sorted_ext:∀{l m:List Wt},l.Pairwise ltK→m.Pairwise ltK→(∀w,w∈l↔w∈m)→l=m
 |[],[],_,_,_=>rfl
 |[],y :: m,_,_,h=>absurd ((h y).2 List.mem_cons_self) List.not_mem_nil
 |x :: l,[],_,_,h=>absurd ((h x).1 List.mem_cons_self) List.not_mem_nil
 |x :: l,y :: m,hl,hm,h=>by
  have p1:=List.pairwise_cons.1 hl
  have p2:=List.pairwise_cons.1 hm
  have e:x=y:=by
   rcases List.mem_cons.1 ((h x).1 List.mem_cons_self) with g|g
   ·exact g
   ·rcases List.mem_cons.1 ((h y).2 List.mem_cons_self) with g2|g2
    ·exact g2.symm
    ·exact absurd (p2.1 x g) (ltK_asymm (p1.1 y g2))
  subst e
  rw[sorted_ext p1.2 p2.2 fun w=>?_]
  constructor
  ·intro hw
   rcases List.mem_cons.1 ((h w).1 (List.mem_cons_of_mem _ hw)) with g|g
   ·subst g;exact absurd (p1.1 w hw) (ltK_irrefl w)
   ·exact g
  ·intro hw
   rcases List.mem_cons.1 ((h w).2 (List.mem_cons_of_mem _ hw)) with g|g
   ·subst g;exact absurd (p2.1 w hw) (ltK_irrefl w)
   ·exact g
def putM (M:Nat→Int) (w:Wt):Nat→Int:=fun b=>if b=w.2.1 then w.2.2 else M b
namespace RS
theorem ents_sorted (n:Nat) (s:RS):(s.ents n).Pairwise ltK:=entE_sorted _
theorem mem_ents {n:Nat} {s:RS} {w:Wt}:w∈s.ents n↔w.1<s.E.length∧w.2.1<n∧s.ep w.1 w.2.1≠-1∧w.2.2=s.ep w.1 w.2.1:=mem_entE
theorem ents_len (n:Nat) (s:RS):(s.ents n).length≤s.E.length*n:=by
 have hB:∀(f:Nat→Int) e k,(entB f e k).length≤k:=fun f e k=>by
  induction k with
  |zero=>exact Nat.le_refl _
  |succ k ih=>
   unfold entB
   rw[List.length_append]
   split
   ·exact Nat.le_succ_of_le ih
   ·exact Nat.succ_le_succ ih
 have hE:∀m,(entE n s.ep m).length≤m*n:=fun m=>by
  induction m with
  |zero=>simp[entE]
  |succ m ih=>
   unfold entE
   rw[List.length_append,Nat.add_mul]
   have:=hB (s.ep m) m n
   omega
 exact hE _
theorem wrB_at (s:RS) (e:Nat) (he:e<s.E.length):∀k,(∀e' j,(s.wrB e k).ep e' j=if e'=e∧j<k then -1 else s.ep e' j)∧(s.wrB e k).M=(entB (s.ep e) e k).foldl putM s.M
 |0=>⟨fun e' j=>by rw[if_neg (by omega)];rfl,rfl⟩
 |k+1=>by
  obtain⟨h1,h2⟩:=wrB_at s e he k
  have hl:=wrB_len s e k
  have hk:(s.wrB e k).ep e k=s.ep e k:=by rw[h1,if_neg (by omega)]
  unfold wrB entB
  by_cases h:s.ep e k=-1
  ·rw[wr_neg (hk.trans h),if_pos h,List.append_nil]
   refine⟨fun e' j=>?_,h2⟩
   rw[h1]
   by_cases g:e'=e∧j<k
   ·rw[if_pos g,if_pos ⟨g.1,by omega⟩]
   ·rw[if_neg g]
    by_cases g2:e'=e∧j<k+1
    ·have ej:j=k:=by omega
     rw[if_pos g2,g2.1,ej,h]
    ·rw[if_neg g2]
  ·have hne:(s.wrB e k).ep e k≠-1:=by rw[hk];exact h
   rw[wr_pos hne,if_neg h,List.foldl_append]
   refine⟨fun e' j=>?_,?_⟩
   ·rw[ep_wr (by omega),h1]
    by_cases g:e'=e∧j=k
    ·rw[if_pos g,if_pos ⟨g.1,by omega⟩]
    ·rw[if_neg g]
     by_cases g2:e'=e∧j<k
     ·rw[if_pos g2,if_pos ⟨g2.1,by omega⟩]
     ·rw[if_neg g2,if_neg (by omega)]
   ·show(fun b'=>if b'=k then(s.wrB e k).ep e k else(s.wrB e k).M b')=putM _ _
    rw[hk,h2]
    rfl
theorem wrE_at (n:Nat) (s:RS):∀e,e≤s.E.length→(∀e' j,(s.wrE n e).ep e' j=if e'<e∧j<n then -1 else s.ep e' j)∧(s.wrE n e).M=(entE n s.ep e).foldl putM s.M
 |0,_=>⟨fun e' j=>by rw[if_neg (by omega)];rfl,rfl⟩
 |e+1,he=>by
  obtain⟨h1,h2⟩:=wrE_at n s e (by omega)
  have hl:=wrE_len n s e
  obtain⟨g1,g2⟩:=wrB_at (s.wrE n e) e (by omega) n
  unfold wrE entE
  have hee:(s.wrE n e).ep e=s.ep e:=funext fun j=>by rw[h1,if_neg (by omega)]
  refine⟨fun e' j=>?_,?_⟩
  ·rw[g1,h1]
   by_cases g:e'=e∧j<n
   ·rw[if_pos g,if_pos (by omega)]
   ·rw[if_neg g]
    by_cases g2:e'<e∧j<n
    ·rw[if_pos g2,if_pos (by omega)]
    ·rw[if_neg g2,if_neg (by omega)]
  ·rw[g2,hee,h2,List.foldl_append]
theorem ents_wrE {n:Nat} {s:RS} {e:Nat} (he:e≤s.E.length):(s.wrE n e).ents n=(s.ents n).filter (fun w=>!decide (w.1<e))∧(s.wrE n e).M=((s.ents n).filter (fun w=>decide (w.1<e))).foldl putM s.M:=by
 obtain⟨h1,h2⟩:=wrE_at n s e he
 have hl:=wrE_len n s e
 refine⟨sorted_ext (ents_sorted _ _) ((ents_sorted _ _).filter _) fun w=>?_,?_⟩
 ·rw[List.mem_filter,mem_ents,mem_ents,hl,h1]
  by_cases g:w.1<e∧w.2.1<n
  ·rw[if_pos g]
   simp[g.1]
  ·rw[if_neg g]
   simp only[Bool.not_eq_true',decide_eq_false_iff_not]
   constructor
   ·rintro⟨k1,k2,k3⟩;exact⟨⟨k1,k2,k3⟩,by omega⟩
   ·rintro⟨⟨k1,k2,k3⟩,_⟩;exact⟨k1,k2,k3⟩
 ·rw[h2]
  congr 1
  refine sorted_ext (entE_sorted _) ((ents_sorted _ _).filter _) fun w=>?_
  rw[List.mem_filter,mem_ents,mem_entE]
  simp only[decide_eq_true_eq]
  constructor
  ·rintro⟨k1,k2⟩;exact⟨⟨by omega,k2⟩,k1⟩
  ·rintro⟨⟨_,k2⟩,k1⟩;exact⟨k1,k2⟩
theorem ents_put {n:Nat} {s:RS} {e b:Nat} {k:Int} (he:e<s.E.length) (hb:b<n) (hk:k≠-1) {w:Wt}:w∈(s.setE e b k).ents n↔(w∈s.ents n∧¬(w.1=e∧w.2.1=b))∨w=(e,b,k):=by
 have hl:(s.setE e b k).E.length=s.E.length:=by simp[setE]
 rw[mem_ents,mem_ents,hl,ep_setE he]
 by_cases g:w.1=e∧w.2.1=b
 ·rw[if_pos g]
  obtain⟨a,c,d⟩:=w
  simp only at g
  obtain⟨rfl,rfl⟩:=g
  simp only[Prod.mk.injEq,true_and]
  constructor
  ·rintro⟨_,_,_,k4⟩;exact .inr k4
  ·rintro(⟨_,k4⟩|rfl)
   ·exact absurd trivial k4
   ·exact⟨he,hb,hk,rfl⟩
 ·rw[if_neg g]
  constructor
  ·intro k1;exact .inl ⟨k1,g⟩
  ·rintro(⟨k1,_⟩|rfl)
   ·exact k1
   ·exact absurd ⟨rfl,rfl⟩ g
theorem ents_snoc {n:Nat} {s:RS}:(⟨s.M,s.E++[fun _=>-1],s.W⟩:RS).ents n=s.ents n:=by
 refine sorted_ext (ents_sorted _ _) (ents_sorted _ _) fun w=>?_
 rw[mem_ents,mem_ents,ep_snoc]
 have hl:(⟨s.M,s.E++[fun _=>-1],s.W⟩:RS).E.length=s.E.length+1:=by simp
 rw[hl]
 by_cases g:w.1<s.E.length
 ·rw[if_pos g]
  constructor
  ·rintro⟨_,k⟩;exact⟨g,k⟩
  ·rintro⟨_,k⟩;exact⟨by omega,k⟩
 ·rw[if_neg g]
  constructor
  ·rintro⟨_,_,k,_⟩;exact absurd rfl k
  ·rintro⟨k,_⟩;exact absurd k g
theorem ents_force {n:Nat} {s:RS} {b:Nat} (he:0<s.E.length) (hb:b<n) (hk:s.ep (s.E.length-1) b≠-1) :
  ((s.wrE n (s.E.length-1)).wr (s.E.length-1) b).ents n=(s.ents n).filter (fun w=>!decide (w.1<s.E.length-1∨w.2.1=b))∧
  ((s.wrE n (s.E.length-1)).wr (s.E.length-1) b).M=((s.ents n).filter (fun w=>decide (w.1<s.E.length-1∨w.2.1=b))).foldl putM s.M:=by
 obtain⟨h1,h2⟩:=wrE_at n s (s.E.length-1) (by omega)
 have hl:=wrE_len n s (s.E.length-1)
 have hne:(s.wrE n (s.E.length-1)).ep (s.E.length-1) b=s.ep (s.E.length-1) b:=by rw[h1,if_neg (by omega)]
 have hlw:((s.wrE n (s.E.length-1)).wr (s.E.length-1) b).E.length=s.E.length:=by rw[wr_len,hl]
 have hwp:=wr_pos (s:=s.wrE n (s.E.length-1)) (e:=s.E.length-1) (b:=b) (by rw[hne];exact hk)
 have hep:∀e' j,((s.wrE n (s.E.length-1)).wr (s.E.length-1) b).ep e' j=if e'=s.E.length-1∧j=b then -1 else if e'<s.E.length-1∧j<n then -1 else s.ep e' j:=fun e' j=>by
  rw[hwp,ep_wr (by omega),h1]
 refine⟨sorted_ext (ents_sorted _ _) ((ents_sorted _ _).filter _) fun w=>?_,?_⟩
 ·rw[List.mem_filter,mem_ents,mem_ents,hlw,hep]
  simp only[Bool.not_eq_true',decide_eq_false_iff_not]
  by_cases g:w.1=s.E.length-1∧w.2.1=b
  ·rw[if_pos g]
   constructor
   ·rintro⟨_,_,k,_⟩;exact absurd rfl k
   ·rintro⟨_,k⟩;exact absurd (.inr g.2) k
  ·rw[if_neg g]
   by_cases g2:w.1<s.E.length-1∧w.2.1<n
   ·rw[if_pos g2]
    constructor
    ·rintro⟨_,_,k,_⟩;exact absurd rfl k
    ·rintro⟨_,k⟩;exact absurd (.inl g2.1) k
   ·rw[if_neg g2]
    constructor
    ·rintro⟨k1,k2,k3⟩
     refine⟨⟨k1,k2,k3⟩,fun k4=>?_⟩
     rcases k4 with k4|k4
     ·exact g2 ⟨k4,k2⟩
     ·by_cases k5:w.1<s.E.length-1
      ·exact g2 ⟨k5,k2⟩
      ·exact g ⟨by omega,k4⟩
    ·rintro⟨⟨k1,k2,k3⟩,_⟩;exact⟨k1,k2,k3⟩
 ·rw[hwp]
  show(fun b'=>if b'=b then(s.wrE n (s.E.length-1)).ep (s.E.length-1) b else(s.wrE n (s.E.length-1)).M b')=_
  rw[hne,h2]
  have e:(s.ents n).filter (fun w=>decide (w.1<s.E.length-1∨w.2.1=b))=entE n s.ep (s.E.length-1)++[(s.E.length-1,b,s.ep (s.E.length-1) b)]:=by
   refine sorted_ext ((ents_sorted _ _).filter _) ?_ fun w=>?_
   ·rw[List.pairwise_append]
    refine⟨entE_sorted _,by simp,fun w hw w' hw'=>?_⟩
    rw[List.mem_singleton] at hw'
    subst hw'
    exact .inl (mem_entE.1 hw).1
   ·rw[List.mem_filter,List.mem_append,List.mem_singleton,mem_ents,mem_entE]
    simp only[decide_eq_true_eq]
    constructor
    ·rintro⟨⟨k1,k2,k3,k4⟩,k5⟩
     by_cases k6:w.1<s.E.length-1
     ·exact .inl ⟨k6,k2,k3,k4⟩
     ·right
      have k7:w.1=s.E.length-1:=by omega
      have k8:w.2.1=b:=k5.resolve_left k6
      obtain⟨x,y,z⟩:=w
      simp only at k4 k7 k8
      subst k7 k8
      rw[k4]
    ·rintro(⟨k1,k2,k3,k4⟩|rfl)
     ·exact⟨⟨by omega,k2,k3,k4⟩,.inl k1⟩
     ·exact⟨⟨by dsimp only;omega,hb,hk,rfl⟩,.inr rfl⟩
  rw[e,List.foldl_append]
  rfl
def run (n:Nat) (l:List (Int×Int)):Nat→RS
 |0=>RS.begin
 |k+1=>(run n l k).order n k (l.getD k (0,0))
theorem order_len (n:Nat) (s:RS) (k:Int) (o:Int×Int):s.E.length≤(s.order n k o).E.length∧(s.order n k o).E.length≤s.E.length+1:=by
 unfold order
 split
 ·simp[setE]
 ·split
  ·rw[wr_len,wrE_len];simp[setE]
  ·split
   ·simp
   ·split
    ·rw[wrE_len];omega
    ·omega
theorem run_len (n:Nat) (l:List (Int×Int)):∀k,0<(run n l k).E.length∧(run n l k).E.length≤k+1
 |0=>⟨by show 0<1;omega,by show 1≤1;omega⟩
 |k+1=>by
  have h:=run_len n l k
  have g:=order_len n (run n l k) k (l.getD k (0,0))
  show 0<((run n l k).order n k (l.getD k (0,0))).E.length∧((run n l k).order n k (l.getD k (0,0))).E.length≤_
  omega
theorem order_ents {n:Nat} {s:RS} (he:0<s.E.length) {k:Nat} {o:Int×Int} (ho:o.1=1∨o.1=2→0≤o.2∧o.2<n) :
  (o.1=1→(s.order n k o)=s.setE (s.E.length-1) o.2.toNat k)∧
  (o.1=2→(s.order n k o).ents n=((s.setE (s.E.length-1) o.2.toNat k).ents n).filter (fun w=>!decide (w.1<s.E.length-1∨w.2.1=o.2.toNat))∧(s.order n k o).M=(((s.setE (s.E.length-1) o.2.toNat k).ents n).filter (fun w=>decide (w.1<s.E.length-1∨w.2.1=o.2.toNat))).foldl putM s.M∧(s.order n k o).E.length=s.E.length)∧
  (o.1=3→(s.order n k o).ents n=s.ents n∧(s.order n k o).M=s.M∧(s.order n k o).E.length=s.E.length+1)∧
  (o.1=4→(s.order n k o).ents n=[]∧(s.order n k o).M=(s.ents n).foldl putM s.M∧(s.order n k o).E.length=s.E.length):=by
 refine⟨fun h=>?_,fun h=>?_,fun h=>?_,fun h=>?_⟩
 ·unfold order;rw[if_pos h]
 ·have hb:=ho (.inr h)
  have hl:(s.setE (s.E.length-1) o.2.toNat k).E.length=s.E.length:=by simp[setE]
  have h2:¬o.1=1:=by omega
  have hf:=ents_force (n:=n) (s:=s.setE (s.E.length-1) o.2.toNat k) (b:=o.2.toNat) (by omega) (by omega) (by rw[hl,ep_setE (by omega),if_pos ⟨rfl,rfl⟩];omega)
  rw[hl] at hf
  unfold order
  rw[if_neg h2,if_pos h]
  exact⟨hf.1,hf.2,by rw[wr_len,wrE_len,hl]⟩
 ·unfold order
  rw[if_neg (by omega),if_neg (by omega),if_pos h]
  exact⟨ents_snoc,rfl,by simp⟩
 ·unfold order
  rw[if_neg (by omega),if_neg (by omega),if_neg (by omega),if_pos h]
  obtain⟨h1,h2⟩:=ents_wrE (n:=n) (s:=s) (Nat.le_refl _)
  have hall:∀w∈s.ents n,w.1<s.E.length:=fun w hw=>(mem_ents.1 hw).1
  refine⟨?_,?_,wrE_len _ _ _⟩
  ·rw[h1,List.filter_eq_nil_iff]
   intro w hw
   simp[hall w hw]
  ·rw[h2,List.filter_eq_self.2 fun w hw=>by simp[hall w hw]]
end RS
theorem put_list {n:Nat} {s:RS} {b:Nat} {k:Int} (he:0<s.E.length) (hb:b<n) (hk:k≠-1) {a c:List Wt} {m:List Wt} (hW:s.ents n=a++m++c) (ha:∀w∈a,ltK w (s.E.length-1,b,k)) (hm:∀w∈m,w.1=s.E.length-1∧w.2.1=b) (hc:∀w∈c,ltK (s.E.length-1,b,k) w) :
  (s.setE (s.E.length-1) b k).ents n=a++(s.E.length-1,b,k) :: c:=by
 have hs:=RS.ents_sorted n s
 rw[hW,List.pairwise_append,List.pairwise_append] at hs
 obtain⟨⟨s1,s2,s3⟩,s4,s5⟩:=hs
 refine sorted_ext (RS.ents_sorted _ _) ?_ fun w=>?_
 ·rw[List.pairwise_append,List.pairwise_cons]
  refine⟨s1,⟨hc,s4⟩,fun x hx y hy=>?_⟩
  rcases List.mem_cons.1 hy with g|g
  ·subst g;exact ha x hx
  ·exact s5 x (List.mem_append_left _ hx) y g
 ·rw[RS.ents_put (by omega) hb hk,hW,List.mem_append,List.mem_append,List.mem_append,List.mem_cons]
  constructor
  ·rintro(⟨(h1|h1)|h1,h2⟩|h1)
   ·exact .inl h1
   ·exact absurd (hm w h1) h2
   ·exact .inr (.inr h1)
   ·exact .inr (.inl h1)
  ·rintro(h1|h1|h1)
   ·exact .inl ⟨.inl (.inl h1),fun g=>by have:=ha w h1;unfold ltK at this;dsimp only at this;omega⟩
   ·exact .inr h1
   ·exact .inl ⟨.inr h1,fun g=>by have:=hc w h1;unfold ltK at this;dsimp only at this;omega⟩
end Go.Proofs.Ca
namespace Go.Proofs.Ca
open Go Go.Sx
set_option maxRecDepth 100000
set_option maxHeartbeats 4000000
def epW (W:List Wt) (i:Nat):Nat:=(W.getD i (0,0,0)).1
structure IsCrs (W:List Wt) (o:List Nat):Prop where
 len:o.length=W.length
 nd:o.Nodup
 lt:∀x∈o,x<W.length
 asc:o.Pairwise (fun x y=>epW W x≤epW W y)
def okR (W:List Wt) (o:List Nat) (n:Nat):Prop:=∀x∈o,x≠n∧epW W x≤epW W n
def okP (W:List Wt) (o:List Nat) (n:Nat):Prop:=n∉o∧∀i,i<W.length→i∉o→epW W n≤epW W i
open Classical in
noncomputable def crs (ok:List Nat→Nat→Prop) (N:Nat):Nat→List Nat→List (List Nat)
 |0,o=>[o]
 |m+1,o=>(List.range N).flatMap fun n=>if ok o n then crs ok N m (o++[n]) else []
structure Pre (W:List Wt) (o:List Nat):Prop where
 nd:o.Nodup
 lt:∀x∈o,x<W.length
 low:∀x∈o,∀i,i<W.length→i∉o→epW W x≤epW W i
 asc:o.Pairwise (fun x y=>epW W x≤epW W y)
theorem Pre.nil (W:List Wt):Pre W []:=⟨List.nodup_nil,by simp,by simp,by simp⟩
theorem Pre.len {W:List Wt} {o:List Nat} (h:Pre W o):o.length≤W.length:=by
 have:=a1p (m:=List.range W.length) h.nd fun x hx=>List.mem_range.2 (h.lt x hx)
 rwa [List.length_range] at this
theorem Pre.snoc {W:List Wt} {o:List Nat} (h:Pre W o) {n:Nat} (hn:n<W.length) (hk:okP W o n):Pre W (o++[n]):=by
 refine⟨?_,fun x hx=>?_,fun x hx i hi hio=>?_,?_⟩
 ·rw[List.nodup_append]
  refine⟨h.nd,by simp,fun x hx y hy e=>?_⟩
  rw[List.mem_singleton] at hy
  subst hy e
  exact hk.1 hx
 ·rcases List.mem_append.1 hx with g|g
  ·exact h.lt x g
  ·rw[List.mem_singleton] at g;subst g;exact hn
 ·have hio':i∉o:=fun g=>hio (List.mem_append_left _ g)
  rcases List.mem_append.1 hx with g|g
  ·exact h.low x g i hi hio'
  ·rw[List.mem_singleton] at g;subst g;exact hk.2 i hi hio'
 ·rw[List.pairwise_append]
  refine⟨h.asc,by simp,fun x hx y hy=>?_⟩
  rw[List.mem_singleton] at hy
  subst hy
  exact h.low x hx y hn hk.1
theorem okP_okR {W:List Wt} {o:List Nat} (h:Pre W o) {n:Nat} (hn:n<W.length) (hk:okP W o n):okR W o n:=
 fun x hx=>⟨fun e=>hk.1 (e▸hx),h.low x hx n hn hk.1⟩
theorem crs_dead {W:List Wt} {f:Nat} (hf:f<W.length):∀(m:Nat) (o:List Nat),o.length+m=W.length→f∉o→(∃x∈o,epW W f<epW W x)→o.Nodup→(∀x∈o,x<W.length)→crs (okR W) W.length m o=[]
 |0,o,hl,hfo,_,hnd,hlt=>by
  exfalso
  have:=a1p (l:=f :: o) (m:=List.range W.length) (List.nodup_cons.2 ⟨hfo,hnd⟩) fun x hx=>by
   rcases List.mem_cons.1 hx with g|g
   ·subst g;exact List.mem_range.2 hf
   ·exact List.mem_range.2 (hlt x g)
  rw[List.length_range,List.length_cons] at this
  omega
 |m+1,o,hl,hfo,⟨x,hx,hlx⟩,hnd,hlt=>by
  unfold crs
  rw[List.flatMap_eq_nil_iff]
  intro n hn
  have hn:=List.mem_range.1 hn
  split
  ·rename_i hk
   have hnf:n≠f:=fun e=>by subst e;have:=(hk x hx).2;omega
   refine crs_dead hf m (o++[n]) (by simp;omega) ?_ ⟨x,List.mem_append_left _ hx,hlx⟩ ?_ ?_
   ·rw[List.mem_append,List.mem_singleton]
    rintro(g|g)
    ·exact hfo g
    ·exact hnf g.symm
   ·rw[List.nodup_append]
    refine⟨hnd,by simp,fun y hy z hz e=>?_⟩
    rw[List.mem_singleton] at hz
    subst hz e
    exact(hk y hy).1 rfl
   ·intro y hy
    rcases List.mem_append.1 hy with g|g
    ·exact hlt y g
    ·rw[List.mem_singleton] at g;subst g;exact hn
  ·rfl
theorem flatMap_same {α β:Type} {f g:α→List β}:∀{l:List α},(∀x∈l,f x=g x)→l.flatMap f=l.flatMap g
 |[],_=>rfl
 |x :: l,h=>by rw[List.flatMap_cons,List.flatMap_cons,h x List.mem_cons_self,flatMap_same fun y hy=>h y (List.mem_cons_of_mem _ hy)]
theorem crs_eq {W:List Wt}:∀(m:Nat) (o:List Nat),o.length+m=W.length→Pre W o→crs (okR W) W.length m o=crs (okP W) W.length m o
 |0,_,_,_=>rfl
 |m+1,o,hl,hp=>by
  unfold crs
  refine flatMap_same fun n hn=>?_
  have hn:=List.mem_range.1 hn
  by_cases hk:okP W o n
  ·rw[if_pos (okP_okR hp hn hk),if_pos hk]
   exact crs_eq m _ (by simp;omega) (hp.snoc hn hk)
  ·rw[if_neg hk]
   split
   ·rename_i hr
    have hno:n∉o:=fun g=>(hr n g).1 rfl
    obtain⟨i,hi,hio,hlt⟩:∃i,i<W.length∧i∉o∧epW W i<epW W n:=Classical.byContradiction fun g=>hk ⟨hno,fun i hi hio=>Classical.byContradiction fun g2=>g ⟨i,hi,hio,by omega⟩⟩
    refine crs_dead hi m (o++[n]) (by simp;omega) ?_ ⟨n,List.mem_append_right _ (by simp),hlt⟩ ?_ ?_
    ·rw[List.mem_append,List.mem_singleton]
     rintro(g|g)
     ·exact hio g
     ·subst g;omega
    ·rw[List.nodup_append]
     refine⟨hp.nd,by simp,fun y hy z hz e=>?_⟩
     rw[List.mem_singleton] at hz
     subst hz e
     exact hno hy
    ·intro y hy
     rcases List.mem_append.1 hy with g|g
     ·exact hp.lt y g
     ·rw[List.mem_singleton] at g;subst g;exact hn
   ·rfl
noncomputable def allCrs (W:List Wt):List (List Nat):=crs (okP W) W.length W.length []
theorem mem_crs {W:List Wt}:∀(m:Nat) (o:List Nat),o.length+m=W.length→Pre W o→∀c,c∈crs (okP W) W.length m o↔o <+: c∧IsCrs W c
 |0,o,hl,hp,c=>by
  unfold crs
  rw[List.mem_singleton]
  constructor
  ·rintro rfl
   exact⟨List.prefix_rfl,⟨by omega,hp.nd,hp.lt,hp.asc⟩⟩
  ·rintro⟨⟨t,rfl⟩,h⟩
   have:=h.len
   rw[List.length_append] at this
   have:t=[]:=List.length_eq_zero_iff.1 (by omega)
   subst this
   simp
 |m+1,o,hl,hp,c=>by
  unfold crs
  rw[List.mem_flatMap]
  constructor
  ·rintro⟨n,hn,h⟩
   have hn:=List.mem_range.1 hn
   split at h
   ·rename_i hk
    have:=(mem_crs m (o++[n]) (by simp;omega) (hp.snoc hn hk) c).1 h
    exact⟨(List.prefix_append o [n]).trans this.1,this.2⟩
   ·simp at h
  ·rintro⟨⟨t,rfl⟩,h⟩
   cases t with
   |nil=>
    have:=h.len
    simp at this
    omega
   |cons n t=>
    have hn:n<W.length:=h.lt n (by simp)
    have hnd:=h.nd
    have hasc:=h.asc
    rw[List.nodup_append] at hnd
    rw[List.pairwise_append] at hasc
    have hno:n∉o:=fun g=>hnd.2.2 n g n (by simp) rfl
    have hk:okP W o n:=by
     refine⟨hno,fun i hi hio=>?_⟩
     have hic:i∈o++n :: t:=by
      refine Classical.byContradiction fun g=>?_
      have:=a1p (l:=i :: (o++n :: t)) (m:=List.range W.length) (List.nodup_cons.2 ⟨g,h.nd⟩) fun x hx=>by
       rcases List.mem_cons.1 hx with g|g
       ·subst g;exact List.mem_range.2 hi
       ·exact List.mem_range.2 (h.lt x g)
      rw[List.length_range,List.length_cons,h.len] at this
      omega
     rcases List.mem_append.1 hic with g|g
     ·exact absurd g hio
     ·rcases List.mem_cons.1 g with g|g
      ·rw[g];exact Nat.le_refl _
      ·exact(List.pairwise_cons.1 hasc.2.1).1 i g
    refine⟨n,List.mem_range.2 hn,?_⟩
    rw[if_pos hk]
    refine(mem_crs m (o++[n]) (by simp;omega) (hp.snoc hn hk) _).2 ⟨⟨t,by simp⟩,h⟩
theorem mem_allCrs {W:List Wt} {c:List Nat}:c∈allCrs W↔IsCrs W c:=by
 unfold allCrs
 rw[mem_crs _ _ (by simp) (Pre.nil W)]
 exact⟨fun h=>h.2,fun h=>⟨List.nil_prefix,h⟩⟩
theorem range_crs {n:Nat} {s:RS}:IsCrs (s.ents n) (List.range (s.ents n).length):=by
 refine⟨by simp,List.nodup_range,fun x hx=>List.mem_range.1 hx,?_⟩
 have hs:=RS.ents_sorted n s
 rw[List.pairwise_iff_getElem] at hs ⊢
 intro i j hi hj hij
 rw[List.length_range] at hi hj
 have:=hs i j hi hj hij
 simp only[List.getElem_range]
 unfold epW
 rw[List.getD_eq_getElem?_getD,List.getElem?_eq_getElem hi,List.getD_eq_getElem?_getD,List.getElem?_eq_getElem hj]
 unfold ltK at this
 show(s.ents n)[i].1≤(s.ents n)[j].1
 omega
theorem allCrs_ne (n:Nat) (s:RS):allCrs (s.ents n)≠[]:=List.ne_nil_of_mem (mem_allCrs.2 range_crs)
/-! ### the medium behind the first entries of a course -/
def entC (W:List Wt) (o:List Nat) (k:Nat):Wt:=W.getD (o.getD k 0) (0,0,0)
def medC (W:List Wt) (M:Nat→Int) (o:List Nat):Nat→Nat→Int
 |0=>M
 |k+1=>putM (medC W M o k) (entC W o k)
noncomputable def drC (n:Nat) (W:List Wt) (s:RS) (o:List Nat):Nat→RS
 |0=>s
 |k+1=>drS n (drC n W s o k) ((entC W o k).2.1:Nat)
theorem IsCrs.perm {W:List Wt} {o:List Nat} (h:IsCrs W o) {i:Nat} (hi:i<W.length):i∈o:=by
 refine Classical.byContradiction fun g=>?_
 have:=a1p (l:=i :: o) (m:=List.range W.length) (List.nodup_cons.2 ⟨g,h.nd⟩) fun x hx=>by
  rcases List.mem_cons.1 hx with g|g
  ·subst g;exact List.mem_range.2 hi
  ·exact List.mem_range.2 (h.lt x g)
 rw[List.length_range,List.length_cons,h.len] at this
 omega
theorem IsCrs.getD_lt {W:List Wt} {o:List Nat} (h:IsCrs W o) {k:Nat} (hk:k<W.length):o.getD k 0<W.length:=by
 have hk':k<o.length:=by rw[h.len];exact hk
 rw[List.getD_eq_getElem?_getD,List.getElem?_eq_getElem hk']
 exact h.lt _ (List.getElem_mem hk')
theorem entC_mem {W:List Wt} {o:List Nat} (h:IsCrs W o) {k:Nat} (hk:k<W.length):entC W o k∈W:=by
 have:=h.getD_lt hk
 unfold entC
 rw[List.getD_eq_getElem?_getD,List.getElem?_eq_getElem this]
 exact List.getElem_mem this
theorem key_inj {W:List Wt} (hs:W.Pairwise ltK) {i j:Nat} (hi:i<W.length) (hj:j<W.length) (h1:(W.getD i (0,0,0)).1=(W.getD j (0,0,0)).1) (h2:(W.getD i (0,0,0)).2.1=(W.getD j (0,0,0)).2.1):i=j:=by
 rw[List.pairwise_iff_getElem] at hs
 rw[List.getD_eq_getElem?_getD,List.getElem?_eq_getElem hi,List.getD_eq_getElem?_getD,List.getElem?_eq_getElem hj] at h1 h2
 simp only[Option.getD_some] at h1 h2
 rcases Nat.lt_trichotomy i j with g|g|g
 ·have:=hs i j hi hj g;unfold ltK at this;omega
 ·exact g
 ·have:=hs j i hj hi g;unfold ltK at this;omega
theorem drC_at {n:Nat} {s:RS} {o:List Nat} (h:IsCrs (s.ents n) o):∀k,k≤(s.ents n).length→
  (drC n (s.ents n) s o k).E.length=s.E.length∧(drC n (s.ents n) s o k).M=medC (s.ents n) s.M o k∧(s.W≤(drC n (s.ents n) s o k).W∧(drC n (s.ents n) s o k).W≤s.W+k)∧
  (∀e j,(drC n (s.ents n) s o k).ep e j=@ite _ (∃i,i<k∧(entC (s.ents n) o i).1=e∧(entC (s.ents n) o i).2.1=j) (Classical.propDecidable _) (-1) (s.ep e j))
 |0,_=>⟨rfl,rfl,⟨Int.le_refl _,by simp[drC]⟩,fun e j=>by rw[if_neg (by rintro⟨i,hi,_⟩;omega)];rfl⟩
 |k+1,hk=>by
  obtain⟨h1,h2,h3,h4⟩:=drC_at h k (by omega)
  have hmem:=RS.mem_ents.1 (entC_mem h (show k<(s.ents n).length by omega))
  have hkl:=h.getD_lt (show k<(s.ents n).length by omega)
  -- it is still there
  have hnot:¬∃i,i<k∧(entC (s.ents n) o i).1=(entC (s.ents n) o k).1∧(entC (s.ents n) o i).2.1=(entC (s.ents n) o k).2.1:=by
   rintro⟨i,hi,g1,g2⟩
   have:=key_inj (RS.ents_sorted n s) (h.getD_lt (show i<(s.ents n).length by omega)) hkl g1 g2
   have hnd:=h.nd
   rw[List.Nodup,List.pairwise_iff_getElem] at hnd
   have hil:i<o.length:=by rw[h.len];omega
   have hkl':k<o.length:=by rw[h.len];omega
   refine hnd i k hil hkl' hi ?_
   rw[List.getD_eq_getElem?_getD,List.getElem?_eq_getElem hil,List.getD_eq_getElem?_getD,List.getElem?_eq_getElem hkl'] at this
   simpa using this
  have hep:(drC n (s.ents n) s o k).ep (entC (s.ents n) o k).1 (entC (s.ents n) o k).2.1≠-1:=by rw[h4,if_neg hnot];exact hmem.2.2.1
  -- the epochs before it are empty
  have hfirst:(drC n (s.ents n) s o k).IsFirst n (entC (s.ents n) o k).1:=by
   refine⟨by rw[h1];exact hmem.1,fun g=>hep (g _ hmem.2.1),fun e he b hb=>?_⟩
   rw[h4]
   by_cases hn:s.ep e b=-1
   ·split
    ·rfl
    ·exact hn
   ·have hw:(e,b,s.ep e b)∈s.ents n:=RS.mem_ents.2 ⟨Nat.lt_trans he hmem.1,hb,hn,rfl⟩
    obtain⟨q,hq,hqe⟩:=List.getElem_of_mem hw
    obtain⟨i,hi,hie⟩:=List.getElem_of_mem (h.perm hq)
    have hoi:o.getD i 0=q:=by rw[List.getD_eq_getElem?_getD,List.getElem?_eq_getElem hi];exact hie
    have hent:entC (s.ents n) o i=(e,b,s.ep e b):=by
     unfold entC
     rw[hoi,List.getD_eq_getElem?_getD,List.getElem?_eq_getElem hq]
     exact hqe
    rw[if_pos]
    refine⟨i,?_,by rw[hent],by rw[hent]⟩
    refine Classical.byContradiction fun hik=>?_
    have hasc:=h.asc
    rw[List.pairwise_iff_getElem] at hasc
    have hkl':k<o.length:=by rw[h.len];omega
    have e2:epW (s.ents n) (o.getD i 0)=e:=by
     have:epW (s.ents n) (o.getD i 0)=(entC (s.ents n) o i).1:=rfl
     rw[this,hent]
    have e3:epW (s.ents n) (o.getD k 0)=(entC (s.ents n) o k).1:=rfl
    rcases Nat.lt_or_eq_of_le (show k≤i by omega) with g|g
    ·have:=hasc k i hkl' hi g
     rw[show o[k]=o.getD k 0 by rw[List.getD_eq_getElem?_getD,List.getElem?_eq_getElem hkl'];rfl,show o[i]=o.getD i 0 by rw[List.getD_eq_getElem?_getD,List.getElem?_eq_getElem hi];rfl,e2,e3] at this
     omega
    ·subst g
     omega
  have hd:=drS_yes (n:=n) (s:=drC n (s.ents n) s o k) (z:=((entC (s.ents n) o k).2.1:Nat)) (e:=(entC (s.ents n) o k).1) ⟨by omega,by exact_mod_cast hmem.2.1⟩ hfirst (by rw[Int.toNat_natCast];exact hep)
  rw[Int.toNat_natCast] at hd
  have hw:=RS.wr_pos hep
  unfold drC medC
  rw[hd.1]
  refine⟨by rw[RS.wr_len,h1],?_,?_,fun e j=>?_⟩
  ·rw[hw]
   show(fun b'=>if b'=(entC (s.ents n) o k).2.1 then(drC n (s.ents n) s o k).ep (entC (s.ents n) o k).1 (entC (s.ents n) o k).2.1 else(drC n (s.ents n) s o k).M b')=_
   rw[h4,if_neg hnot,h2,←hmem.2.2.2]
   rfl
  ·have:=RS.wr_W (drC n (s.ents n) s o k) (entC (s.ents n) o k).1 (entC (s.ents n) o k).2.1
   constructor
   ·omega
   ·rw[Int.natCast_add];omega
  ·rw[hw,RS.ep_wr (by rw[h1];exact hmem.1),h4]
   by_cases g:e=(entC (s.ents n) o k).1∧j=(entC (s.ents n) o k).2.1
   ·rw[if_pos g,if_pos ⟨k,Nat.lt_succ_self k,g.1.symm,g.2.symm⟩]
   ·rw[if_neg g]
    by_cases g2:∃i,i<k∧(entC (s.ents n) o i).1=e∧(entC (s.ents n) o i).2.1=j
    ·rw[if_pos g2,if_pos (let⟨i,a,b⟩:=g2;⟨i,by omega,b⟩)]
    ·rw[if_neg g2,if_neg]
     rintro⟨i,a,b,c⟩
     rcases Nat.lt_or_eq_of_le (Nat.le_of_lt_succ a) with g3|g3
     ·exact g2 ⟨i,g3,b,c⟩
     ·subst g3;exact g ⟨b.symm,c.symm⟩
end Go.Proofs.Ca
namespace Go.Proofs.Ca
open Go Go.Sx
set_option maxRecDepth 100000
set_option maxHeartbeats 4000000
structure Asc (n:Nat) (s:RS) (k:Int):Prop where
 top:∀e j,j<n→s.ep e j≠-1→0≤s.ep e j∧s.ep e j<k
 med:∀j,j<n→-1≤s.M j∧s.M j<k
 up:∀e e' j,e<e'→j<n→s.ep e j≠-1→s.ep e' j≠-1→s.ep e j<s.ep e' j
 old:∀e j,j<n→s.ep e j≠-1→s.M j<s.ep e j
namespace Asc
theorem begin (n:Nat):Asc n RS.begin 0:=by
 have h:∀e j,RS.begin.ep e j=-1:=fun e j=>by
  show(([fun _=>-1]:List (Nat→Int)).getD e (fun _=>-1)) j=-1
  rcases e with _|e<;>simp
 exact⟨fun e j _ g=>absurd (h e j) g,fun j _=>⟨by show(-1:Int)≤-1;omega,by show(-1:Int)<0;omega⟩,fun e e' j _ _ g=>absurd (h e j) g,fun e j _ g=>absurd (h e j) g⟩
theorem mono {n:Nat} {s:RS} {k k':Int} (h:Asc n s k) (hk:k≤k'):Asc n s k':=
 ⟨fun e j hj g=>by have:=h.top e j hj g;omega,fun j hj=>by have:=h.med j hj;omega,h.up,h.old⟩
theorem fold_med {n:Nat} {s:RS} {k:Int} (h:Asc n s k):∀(V:List Wt),V.Pairwise ltK→(∀w∈V,w∈s.ents n)→∀(M:Nat→Int),(∀j,j<n→-1≤M j∧M j<k∧∀w∈V,w.2.1=j→M j<w.2.2)→
  ∀j,j<n→(M j≤V.foldl putM M j∧V.foldl putM M j<k)∧((V.foldl putM M j=M j∧∀w∈V,w.2.1≠j)∨∃w∈V,w.2.1=j∧V.foldl putM M j=w.2.2∧∀w'∈V,w'.2.1=j→w'.2.2≤w.2.2)
 |[],_,_,M,hM,j,hj=>⟨⟨Int.le_refl _,(hM j hj).2.1⟩,.inl ⟨rfl,by simp⟩⟩
 |v :: V,hp,hV,M,hM,j,hj=>by
  have hp':=List.pairwise_cons.1 hp
  have hv:=RS.mem_ents.1 (hV v List.mem_cons_self)
  have hvt:=h.top v.1 v.2.1 hv.2.1 hv.2.2.1
  have hM':∀i,i<n→-1≤putM M v i∧putM M v i<k∧∀w∈V,w.2.1=i→putM M v i<w.2.2:=fun i hi=>by
   unfold putM
   by_cases g:i=v.2.1
   ·rw[if_pos g,hv.2.2.2]
    refine⟨by omega,hvt.2,fun w hw hwi=>?_⟩
    have hw2:=RS.mem_ents.1 (hV w (List.mem_cons_of_mem _ hw))
    have hlt:=hp'.1 w hw
    rw[hw2.2.2.2]
    have hj':w.2.1=v.2.1:=hwi.trans g
    have he:v.1<w.1:=by unfold ltK at hlt;omega
    have:=h.up v.1 w.1 v.2.1 he hv.2.1 hv.2.2.1 (by rw[←hj'];exact hw2.2.2.1)
    rw[hj']
    exact this
   ·rw[if_neg g]
    have:=hM i hi
    exact⟨this.1,this.2.1,fun w hw hwi=>this.2.2 w (List.mem_cons_of_mem _ hw) hwi⟩
  obtain⟨⟨g1,g2⟩,g3⟩:=fold_med h V hp'.2 (fun w hw=>hV w (List.mem_cons_of_mem _ hw)) (putM M v) hM' j hj
  have e:(v :: V).foldl putM M=V.foldl putM (putM M v):=rfl
  rw[e]
  have hle:M j≤putM M v j:=by
   unfold putM
   split
   ·rename_i g
    have:=(hM j hj).2.2 v List.mem_cons_self g.symm
    omega
   ·exact Int.le_refl _
  refine⟨⟨Int.le_trans hle g1,g2⟩,?_⟩
  rcases g3 with⟨g4,g5⟩|⟨w,hw,hwj,g4,g5⟩
  ·by_cases g:j=v.2.1
   ·right
    refine⟨v,List.mem_cons_self,g.symm,by rw[g4];unfold putM;rw[if_pos g],fun w' hw' hj'=>?_⟩
    rcases List.mem_cons.1 hw' with g6|g6
    ·rw[g6];exact Int.le_refl _
    ·exact absurd hj' (g5 w' g6)
   ·left
    refine⟨by rw[g4];unfold putM;rw[if_neg g],fun w hw=>?_⟩
    rcases List.mem_cons.1 hw with g6|g6
    ·subst g6;exact fun e=>g e.symm
    ·exact g5 w g6
  ·right
   refine⟨w,List.mem_cons_of_mem _ hw,hwj,g4,fun w' hw' hj'=>?_⟩
   rcases List.mem_cons.1 hw' with g6|g6
   ·subst g6
    have:=(hM' w'.2.1 hv.2.1).2.2 w hw (hwj.trans hj'.symm)
    unfold putM at this
    rw[if_pos rfl] at this
    omega
   ·exact g5 w' g6 hj'
theorem write {n:Nat} {s s':RS} {k:Int} (h:Asc n s k) (p:Wt→Prop) [DecidablePred p] (he:s'.ents n=(s.ents n).filter fun w=>!decide (p w))
  (hM:∀j,j<n→s'.M j=((s.ents n).filter fun w=>decide (p w)).foldl putM s.M j) (hlow:∀e e' j,e<e'→j<n→s.ep e j≠-1→s.ep e' j≠-1→p (e',j,s.ep e' j)→p (e,j,s.ep e j)):Asc n s' k:=by
 have hin:∀e j,s'.ep e j≠-1→e<s'.E.length:=fun e j g=>Classical.byContradiction fun g2=>g (by
  show(s'.E.getD e (fun _=>-1)) j=-1
  rw[List.getD_eq_getElem?_getD,List.getElem?_eq_none (by omega)]
  rfl)
 have hne:∀e j,j<n→s'.ep e j≠-1→s'.ep e j=s.ep e j∧¬p (e,j,s.ep e j)∧s.ep e j≠-1:=fun e j hj g=>by
  have h1:(e,j,s'.ep e j)∈s'.ents n:=RS.mem_ents.2 ⟨hin e j g,hj,g,rfl⟩
  rw[he,List.mem_filter] at h1
  obtain⟨h2,h3⟩:=h1
  have h2:=RS.mem_ents.1 h2
  simp only[Bool.not_eq_true',decide_eq_false_iff_not] at h3
  have e1:s'.ep e j=s.ep e j:=h2.2.2.2
  rw[e1] at h3
  exact⟨e1,h3,h2.2.2.1⟩
 have hf:=fold_med h ((s.ents n).filter fun w=>decide (p w)) ((RS.ents_sorted n s).filter _) (fun w hw=>(List.mem_filter.1 hw).1) s.M fun j hj=>⟨(h.med j hj).1,(h.med j hj).2,fun w hw hwj=>by
  have:=RS.mem_ents.1 (List.mem_filter.1 hw).1
  rw[this.2.2.2,←hwj]
  exact h.old w.1 w.2.1 this.2.1 this.2.2.1⟩
 refine⟨fun e j hj g=>?_,fun j hj=>?_,fun e e' j hee hj g g'=>?_,fun e j hj g=>?_⟩
 ·obtain⟨g1,_,g3⟩:=hne e j hj g
  rw[g1]
  exact h.top e j hj g3
 ·rw[hM j hj]
  have:=(hf j hj).1
  have:=h.med j hj
  omega
 ·obtain⟨g1,_,g3⟩:=hne e j hj g
  obtain⟨k1,_,k3⟩:=hne e' j hj g'
  rw[g1,k1]
  exact h.up e e' j hee hj g3 k3
 ·obtain⟨g1,g2,g3⟩:=hne e j hj g
  rw[g1,hM j hj]
  rcases(hf j hj).2 with⟨k1,_⟩|⟨w,hw,hwj,k1,_⟩
  ·rw[k1];exact h.old e j hj g3
  ·rw[k1]
   obtain⟨k2,k3⟩:=List.mem_filter.1 hw
   have k2:=RS.mem_ents.1 k2
   simp only[decide_eq_true_eq] at k3
   obtain⟨a,b,c⟩:=w
   simp only at hwj k2 k3 ⊢
   subst hwj
   rw[k2.2.2.2]
   rcases Nat.lt_trichotomy a e with q|q|q
   ·exact h.up a e b q hj k2.2.2.1 g3
   ·subst q
    rw[k2.2.2.2] at k3
    exact absurd k3 g2
   ·rw[k2.2.2.2] at k3
    exact absurd (hlow e a b q hj g3 k2.2.2.1 k3) g2
theorem order {n:Nat} {s:RS} {k:Nat} (h:Asc n s k) (he:0<s.E.length) {o:Int×Int} (ho:o.1=1∨o.1=2→0≤o.2∧o.2<n):Asc n (s.order n k o) ((k:Int)+1):=by
 obtain⟨h1,h2,h3,h4⟩:=RS.order_ents (n:=n) (s:=s) he (k:=k) ho
 have hput:o.1=1∨o.1=2→Asc n (s.setE (s.E.length-1) o.2.toNat k) ((k:Int)+1):=fun g=>by
  have hb:=ho g
  have hep:=RS.ep_setE (s:=s) (e:=s.E.length-1) (b:=o.2.toNat) (v:=(k:Int)) (by omega)
  have hout:∀e j,s.ep e j≠-1→e≤s.E.length-1:=fun e j g=>Classical.byContradiction fun g2=>g (by
   show(s.E.getD e (fun _=>-1)) j=-1
   rw[List.getD_eq_getElem?_getD,List.getElem?_eq_none (by omega)]
   rfl)
  refine⟨fun e j hj g=>?_,fun j hj=>?_,fun e e' j hee hj g g'=>?_,fun e j hj g=>?_⟩
  ·rw[hep] at g ⊢
   split
   ·omega
   ·rename_i g2
    rw[if_neg g2] at g
    have:=h.top e j hj g
    omega
  ·have:=h.med j hj
   show -1≤s.M j∧s.M j<_
   omega
  ·rw[hep] at g g' ⊢
   rw[hep]
   by_cases q:e=s.E.length-1∧j=o.2.toNat
   ·exfalso
    rw[if_neg (by omega)] at g'
    have:=hout e' j g'
    omega
   ·rw[if_neg q] at g ⊢
    by_cases q2:e'=s.E.length-1∧j=o.2.toNat
    ·rw[if_pos q2]
     exact(h.top e j hj g).2
    ·rw[if_neg q2] at g' ⊢
     exact h.up e e' j hee hj g g'
  ·rw[hep] at g ⊢
   show s.M j<_
   split
   ·exact(h.med j hj).2
   ·rename_i q
    rw[if_neg q] at g
    exact h.old e j hj g
 by_cases c1:o.1=1
 ·rw[h1 c1];exact hput (.inl c1)
 by_cases c2:o.1=2
 ·obtain⟨g1,g2,g3⟩:=h2 c2
  have hl:(s.setE (s.E.length-1) o.2.toNat k).E.length=s.E.length:=by simp[RS.setE]
  refine write (hput (.inr c2)) (fun w=>w.1<s.E.length-1∨w.2.1=o.2.toNat) g1 (fun j _=>by rw[g2];rfl) fun e e' j hee _ _ _ hp=>?_
  rcases hp with hp|hp
  ·left;dsimp only at hp ⊢;omega
  ·exact .inr hp
 by_cases c3:o.1=3
 ·obtain⟨g1,g2,g3⟩:=h3 c3
  refine write (h.mono (by omega)) (fun _=>False) (by rw[g1,List.filter_eq_self.2 fun _ _=>by simp]) (fun j _=>by rw[g2,List.filter_eq_nil_iff.2 fun _ _=>by simp];rfl) fun e e' j _ _ _ _ hp=>hp
 by_cases c4:o.1=4
 ·obtain⟨g1,g2,g3⟩:=h4 c4
  refine write (h.mono (by omega)) (fun _=>True) (by rw[g1];exact(List.filter_eq_nil_iff.2 fun _ _=>by simp).symm) (fun j _=>by rw[g2,List.filter_eq_self.2 fun _ _=>by simp]) fun e e' j _ _ _ _ hp=>hp
 ·have:s.order n k o=s:=by unfold RS.order;rw[if_neg c1,if_neg c2,if_neg c3,if_neg c4]
  rw[this]
  exact h.mono (by omega)
theorem run {n:Nat} {l:List (Int×Int)} (hl:∀o∈l,o.1=1∨o.1=2→0≤o.2∧o.2<n):∀k,k≤l.length→Asc n (RS.run n l k) k
 |0,_=>begin n
 |k+1,hk=>by
  have h:=run hl k (by omega)
  have e:l.getD k (0,0)=l[k]:=by rw[List.getD_eq_getElem?_getD,List.getElem?_eq_getElem (by omega)];rfl
  have:=order h (RS.run_len n l k).1 (o:=l.getD k (0,0)) (by rw[e];exact hl _ (List.getElem_mem (by omega)))
  rw[show((k+1:Nat):Int)=(k:Int)+1 by omega]
  exact this
end Asc
theorem medC_up {n:Nat} {s:RS} {k:Int} (h:Asc n s k) {o:List Nat} (ho:IsCrs (s.ents n) o):∀i,i<(s.ents n).length→∀j,j<n→medC (s.ents n) s.M o i j≤medC (s.ents n) s.M o (i+1) j:=by
 -- what stands in a block behind the first i is older than what comes
 have hlt:∀i,i≤(s.ents n).length→∀j,j<n→∀q,i≤q→q<(s.ents n).length→(entC (s.ents n) o q).2.1=j→medC (s.ents n) s.M o i j<(entC (s.ents n) o q).2.2:=by
  intro i
  induction i with
  |zero=>
   intro _ j hj q _ hq hqj
   have:=RS.mem_ents.1 (entC_mem ho hq)
   show s.M j<_
   rw[this.2.2.2,←hqj]
   exact h.old _ _ this.2.1 this.2.2.1
  |succ i ih=>
   intro hi j hj q hiq hq hqj
   show putM _ (entC (s.ents n) o i) j<_
   unfold putM
   split
   ·rename_i hji
    have hm:=RS.mem_ents.1 (entC_mem ho (show i<(s.ents n).length by omega))
    have hq2:=RS.mem_ents.1 (entC_mem ho hq)
    rw[hm.2.2.2,hq2.2.2.2,hqj,←hji]
    have hasc:=ho.asc
    rw[List.pairwise_iff_getElem] at hasc
    have hio:i<o.length:=by rw[ho.len];omega
    have hqo:q<o.length:=by rw[ho.len];omega
    have hle:=hasc i q hio hqo (by omega)
    have e1:epW (s.ents n) o[i]=(entC (s.ents n) o i).1:=by unfold epW entC;rw[List.getD_eq_getElem?_getD (l:=o),List.getElem?_eq_getElem hio];rfl
    have e2:epW (s.ents n) o[q]=(entC (s.ents n) o q).1:=by unfold epW entC;rw[List.getD_eq_getElem?_getD (l:=o),List.getElem?_eq_getElem hqo];rfl
    rw[e1,e2] at hle
    have hne:(entC (s.ents n) o i).1≠(entC (s.ents n) o q).1:=fun g=>by
     have:=key_inj (RS.ents_sorted n s) (ho.getD_lt (show i<(s.ents n).length by omega)) (ho.getD_lt hq) g (hji.symm.trans hqj.symm)
     have hnd:=ho.nd
     rw[List.Nodup,List.pairwise_iff_getElem] at hnd
     refine hnd i q hio hqo (by omega) ?_
     rw[List.getD_eq_getElem?_getD,List.getElem?_eq_getElem hio,List.getD_eq_getElem?_getD,List.getElem?_eq_getElem hqo] at this
     simpa using this
    refine h.up _ _ j (by omega) hj ?_ ?_
    ·have:=hm.2.2.1;rw[←hji] at this;exact this
    ·have:=hq2.2.2.1;rw[hqj] at this;exact this
   ·exact ih (by omega) j hj q (by omega) hq hqj
 intro i hi j hj
 show _≤putM _ (entC (s.ents n) o i) j
 unfold putM
 split
 ·rename_i hji
  exact Int.le_of_lt (hlt i (by omega) j hj i (Nat.le_refl _) hi hji.symm)
 ·exact Int.le_refl _
theorem medC_le {n:Nat} {s:RS} {k:Int} (h:Asc n s k) {o:List Nat} (ho:IsCrs (s.ents n) o) {i:Nat}:∀{q:Nat},i≤q→q≤(s.ents n).length→∀j,j<n→medC (s.ents n) s.M o i j≤medC (s.ents n) s.M o q j
 |0,hiq,_,j,_=>by rw[Nat.le_zero.1 hiq];exact Int.le_refl _
 |q+1,hiq,hq,j,hj=>by
  rcases Nat.lt_or_eq_of_le hiq with g|g
  ·exact Int.le_trans (medC_le h ho (Nat.le_of_lt_succ g) (by omega) j hj) (medC_up h ho q (by omega) j hj)
  ·rw[g];exact Int.le_refl _
end Go.Proofs.Ca
namespace Go.Proofs
set_option maxHeartbeats 1000000
def loc (H:Nat):List Nat→Nat→Nat×Nat×Nat
 |[],_=>(0,0,0)
 |s :: S,n=>if n<H*s then(0,n / s,n % s) else let p:=loc H S (n-H*s);(p.1+1,p.2)
def fstS (H:Nat) (S:List Nat) (c h:Nat):Nat:=H*(S.take c).sum+h*S.getD c 0
def AtS (H:Nat) (S:List Nat) (n c h s:Nat):Prop:=c<S.length∧h<H∧s<S.getD c 0∧n=fstS H S c h+s
theorem loc_of {H:Nat}:∀{S:List Nat} {n c h s:Nat},AtS H S n c h s→loc H S n=(c,h,s)
 |[],n,c,h,s,⟨h1,_⟩=>by simp at h1
 |a :: S,n,0,h,s,⟨h1,h2,h3,h4⟩=>by
  simp only[fstS,List.take_zero,List.sum_nil,Nat.mul_zero,Nat.zero_add,List.getD_cons_zero] at h3 h4
  have hlt:n<H*a:=by
   have:(h+1)*a≤H*a:=Nat.mul_le_mul_right _ h2
   rw[Nat.succ_mul] at this
   omega
  have e1:n / a=h:=by
   rw[h4,Nat.mul_comm,Nat.mul_add_div (by omega),Nat.div_eq_of_lt h3,Nat.add_zero]
  have e2:n % a=s:=by
   rw[h4,Nat.mul_comm,Nat.mul_add_mod,Nat.mod_eq_of_lt h3]
  unfold loc
  rw[if_pos hlt,e1,e2]
 |a :: S,n,c+1,h,s,⟨h1,h2,h3,h4⟩=>by
  simp only[fstS,List.take_succ_cons,List.sum_cons,List.getD_cons_succ,Nat.mul_add] at h3 h4
  have hr:AtS H S (n-H*a) c h s:=⟨by simpa using h1,h2,h3,by unfold fstS;omega⟩
  have ih:=loc_of hr
  unfold loc
  rw[if_neg (by omega)]
  simp only[ih]
theorem at_loc {H:Nat}:∀{S:List Nat} {n:Nat},n<H*S.sum→AtS H S n (loc H S n).1 (loc H S n).2.1 (loc H S n).2.2
 |[],n,h=>by simp at h
 |a :: S,n,h=>by
  unfold loc
  by_cases hlt:n<H*a
  ·rw[if_pos hlt]
   have ha:0<a:=by
    rcases Nat.eq_zero_or_pos a with e|e
    ·subst e;simp at hlt
    ·exact e
   refine⟨by simp,?_,?_,?_⟩
   ·exact Nat.div_lt_of_lt_mul (by rw[Nat.mul_comm];exact hlt)
   ·exact Nat.mod_lt _ ha
   ·simp only[fstS,List.take_zero,List.sum_nil,Nat.mul_zero,Nat.zero_add,List.getD_cons_zero]
    rw[Nat.mul_comm]
    exact(Nat.div_add_mod n a).symm
  ·rw[if_neg hlt]
   simp only[List.sum_cons,Nat.mul_add] at h
   obtain⟨h1,h2,h3,h4⟩:=at_loc (H:=H) (S:=S) (n:=n-H*a) (by omega)
   refine⟨by simpa using h1,h2,by simpa using h3,?_⟩
   simp only[fstS,List.take_succ_cons,List.sum_cons,List.getD_cons_succ,Nat.mul_add]
   unfold fstS at h4
   omega
theorem a2q (H:Nat) (S:List Nat) (c h:Nat):fstS H S c (h+1)=fstS H S c h+S.getD c 0:=by
 unfold fstS
 rw[Nat.succ_mul]
 omega
theorem fstS_cyl (H:Nat) (S:List Nat) (c:Nat) (hc:c<S.length):fstS H S (c+1) 0=fstS H S c H:=by
 unfold fstS
 rw[List.take_succ_eq_append_getElem hc,List.sum_append,Nat.mul_add,Nat.zero_mul,Nat.add_zero]
 simp[List.getD_eq_getElem?_getD,hc]
theorem fstS_zero (H:Nat) (S:List Nat):fstS H S 0 0=0:=by simp[fstS]
theorem fstS_all (H:Nat) (S:List Nat):fstS H S S.length 0=H*S.sum:=by simp[fstS]
theorem at_prev {H:Nat} {S:List Nat} {n c h s:Nat} (h1:AtS H S (n+1) c h s) (hpos:∀a∈S,0<a) :
  AtS H S n c h (s-1)∧0<s∨s=0∧0<h∧AtS H S n c (h-1) (S.getD c 0-1)∨s=0∧h=0∧0<c∧AtS H S n (c-1) (H-1) (S.getD (c-1) 0-1):=by
 obtain⟨h2,h3,h4,h5⟩:=h1
 have hp:∀c,c<S.length→0<S.getD c 0:=fun c hc=>by
  rw[show S.getD c 0=S[c] by simp[List.getD_eq_getElem?_getD,hc]]
  exact hpos _ (List.getElem_mem hc)
 rcases Nat.eq_zero_or_pos s with rfl|hs
 ·rcases Nat.eq_zero_or_pos h with rfl|hh
  ·rcases Nat.eq_zero_or_pos c with rfl|hc
   ·rw[fstS_zero] at h5;omega
   ·have hp1:=hp (c-1) (by omega)
    have e:=fstS_cyl H S (c-1) (by omega)
    rw[show c-1+1=c by omega] at e
    have e2:=a2q H S (c-1) (H-1)
    rw[show H-1+1=H by omega] at e2
    exact .inr (.inr ⟨rfl,rfl,hc,by omega,by omega,by omega,by omega⟩)
  ·have hp1:=hp c h2
   have e:=a2q H S c (h-1)
   rw[show h-1+1=h by omega] at e
   exact .inr (.inl ⟨rfl,hh,h2,by omega,by omega,by omega⟩)
 ·exact .inl ⟨⟨h2,h3,by omega,by omega⟩,hs⟩
def kindS (H:Nat) (S:List Nat) (n:Nat):Nat:=
 if(loc H S n).1≠(loc H S (n-1)).1 then 2 else if(loc H S n).2.1≠(loc H S (n-1)).2.1 then 1 else 0
theorem kindS_at {H:Nat} {S:List Nat} {n c h s:Nat} (h1:AtS H S n c h s) (hn:0<n) (hpos:∀a∈S,0<a) :
  kindS H S n=if 0<s then 0 else if 0<h then 1 else 2:=by
 obtain⟨m,rfl⟩:∃m,n=m+1:=⟨n-1,by omega⟩
 unfold kindS
 rw[loc_of h1,Nat.add_sub_cancel]
 rcases at_prev h1 hpos with⟨g,hs⟩|⟨hs,hh,g⟩|⟨hs,hh,hc,g⟩
 ·rw[loc_of g];simp[hs]
 ·rw[loc_of g]
  have e:h≠h-1:=by omega
  simp[hs,hh,e]
 ·rw[loc_of g]
  have e:c≠c-1:=by omega
  simp[hs,hh,e]
theorem gap_eq {T skew ticks:Int} (h2:skew<T) (h3:0≤ticks) (m:Nat) (h4:ticks≤skew+m*T) (h5:∀j:Nat,j<m→skew+j*T<ticks) :
  ticks+((skew-ticks) % T+T) % T=skew+m*T:=by
 have e:((skew-ticks) % T+T) % T=(skew-ticks) % T:=by
  rw[Int.add_emod_right,Int.emod_emod_of_dvd _ (Int.dvd_refl T)]
 rw[e]
 have e2:(skew-ticks) % T=(skew+m*T-ticks) % T:=by
  rw[show skew+m*T-ticks=(skew-ticks)+m*T by omega,Int.add_mul_emod_self_right]
 rw[e2,Int.emod_eq_of_lt (by omega)]
 ·omega
 ·rcases m with _|m
  ·simp;omega
  ·have:=h5 m (by omega)
   rw[show((m+1:Nat):Int)*T=m*T+T by push_cast;rw[Int.add_mul,Int.one_mul]]
   omega
end Go.Proofs
namespace Go.Proofs
open Go Go.Sx
set_option maxHeartbeats 1000000
def sumR (f:Nat→Int) (a:Nat):Nat→Int
 |0=>0
 |k+1=>sumR f a k+f (a+k)
theorem sumR_add (f:Nat→Int) (a k:Nat):∀m,sumR f a (k+m)=sumR f a k+sumR f (a+k) m
 |0=>by simp[sumR]
 |m+1=>by
  show sumR f a (k+m)+f (a+(k+m))=sumR f a k+(sumR f (a+k) m+f (a+k+m))
  rw[sumR_add f a k m,Nat.add_assoc]
  omega
theorem sumR_const (f:Nat→Int) (v:Int) (a:Nat):∀m,(∀i,i<m→f (a+i)=v)→sumR f a m=m*v
 |0,_=>by simp[sumR]
 |m+1,h=>by
  show sumR f a m+f (a+m)=_
  rw[sumR_const f v a m (fun i hi=>h i (by omega)),h m (by omega)]
  push_cast
  rw[Int.add_mul,Int.one_mul]
theorem sumR_le {f g:Nat→Int} {a:Nat}:∀m,(∀i,f (a+i)≤g (a+i))→sumR f a m≤sumR g a m
 |0,_=>Int.le_refl _
 |m+1,h=>by
  show sumR f a m+f (a+m)≤sumR g a m+g (a+m)
  have:=sumR_le m h
  have:=h m
  omega
theorem sumR_lin (f g h:Nat→Int) (x y:Int) (a:Nat) (e:∀i,h i=x*f i+y*g i):∀m,sumR h a m=x*sumR f a m+y*sumR g a m
 |0=>by simp[sumR]
 |m+1=>by
  show sumR h a m+h (a+m)=x*(sumR f a m+f (a+m))+y*(sumR g a m+g (a+m))
  rw[sumR_lin f g h x y a e m,e,Int.mul_add,Int.mul_add]
  omega
def isK (H:Nat) (S:List Nat) (k n:Nat):Int:=if kindS H S n=k then 1 else 0
def durS (H:Nat) (S:List Nat) (T:Int) (n:Nat):Int:=T / (S.getD (loc H S n).1 0:Nat)
theorem durS_at {H:Nat} {S:List Nat} {T:Int} {n c h s:Nat} (h1:AtS H S n c h s):durS H S T n=T / (S.getD c 0:Nat):=by
 unfold durS
 rw[loc_of h1]
def partA (fr ct F:Nat):Nat:=min (fr+ct) F-fr
def a2e (fr ct F:Nat):Nat:=min F (fr+ct-1)-fr
theorem in_track {H:Nat} {S:List Nat} {c h i:Nat} (hc:c<S.length) (hh:h<H) (h1:fstS H S c h≤i) (h2:i<fstS H S c h+S.getD c 0):AtS H S i c h (i-fstS H S c h):=
 ⟨hc,hh,by omega,by omega⟩
theorem run_none {fr ct F s:Nat} (hct:1≤ct) (h:¬(max fr F:Nat)<min (fr+ct) (F+s)):partA fr ct (F+s)=partA fr ct F∧a2e fr ct (F+s)=a2e fr ct F:=by
 unfold partA a2e
 omega
theorem run_some {H:Nat} {S:List Nat} {T:Int} {fr ct c h:Nat} (hpos:∀a∈S,0<a) (hc:c<S.length) (hh:h<H) (hct:1≤ct) (hall:fr+ct≤H*S.sum)
  (hov:(max fr (fstS H S c h):Nat)<min (fr+ct) (fstS H S c h+S.getD c 0)) :
  sumR (durS H S T) fr (partA fr ct (fstS H S c h+S.getD c 0))=sumR (durS H S T) fr (partA fr ct (fstS H S c h))+((min (fr+ct) (fstS H S c h+S.getD c 0)-max fr (fstS H S c h):Nat):Int)*(T / (S.getD c 0:Nat))∧
  ∀k,0<k→sumR (isK H S k) (fr+1) (a2e fr ct (fstS H S c h+S.getD c 0))=sumR (isK H S k) (fr+1) (a2e fr ct (fstS H S c h)) +
   if fstS H S c h+S.getD c 0<fr+ct then(if k=(if h+1=H then 2 else 1) then 1 else 0) else 0:=by
 generalize hF:fstS H S c h=F at *
 generalize hs:S.getD c 0=s at *
 have hs0:0<s:=by
  rw[←hs,show S.getD c 0=S[c] by simp[List.getD_eq_getElem?_getD,hc]]
  exact hpos _ (List.getElem_mem hc)
 have hat:∀i,F≤i→i<F+s→AtS H S i c h (i-F):=fun i h1 h2=>by
  have:=in_track (i:=i) hc hh (by omega) (by omega)
  rwa [hF] at this
 constructor
 ·have e:partA fr ct (F+s)=partA fr ct F+(min (fr+ct) (F+s)-max fr F):=by unfold partA;omega
  rw[e,sumR_add,sumR_const (durS H S T) (T / (s:Nat)) (fr+partA fr ct F)]
  intro i hi
  rw[durS_at (hat _ (by unfold partA;omega) (by unfold partA;omega)),hs]
 ·intro k hk
  have h0:∀i,F<i→i<F+s→isK H S k i=0:=fun i h1 h2=>by
   have e:kindS H S i=0:=by rw[kindS_at (hat i (by omega) h2) (by omega) hpos,if_pos (by omega)]
   unfold isK
   rw[e,if_neg (by omega)]
  by_cases hlt:F+s<fr+ct
  ·rw[if_pos hlt]
   have e:a2e fr ct (F+s)=a2e fr ct F+(a2e fr ct (F+s)-a2e fr ct F-1)+1:=by unfold a2e;omega
   have e2:fr+1+(a2e fr ct F+(a2e fr ct (F+s)-a2e fr ct F-1))=F+s:=by unfold a2e;omega
   rw[e]
   show sumR _ _ (a2e fr ct F+(a2e fr ct (F+s)-a2e fr ct F-1))+isK H S k (fr+1+(a2e fr ct F+(a2e fr ct (F+s)-a2e fr ct F-1)))=_
   rw[sumR_add,sumR_const (isK H S k) 0 (fr+1+a2e fr ct F) _ (fun i hi=>h0 _ (by unfold a2e;omega) (by unfold a2e at hi ⊢;omega)),e2]
   have hk2:isK H S k (F+s)=if k=(if h+1=H then 2 else 1) then 1 else 0:=by
    unfold isK
    by_cases hl:h+1=H
    ·have hcs:c+1<S.length:=by
      rcases Nat.lt_or_ge (c+1) S.length with g|g
      ·exact g
      ·exfalso
       have h3:=fstS_cyl H S c hc
       have h4:=a2q H S c h
       rw[hl,←h3,show c+1=S.length by omega,fstS_all] at h4
       omega
     have hat2:AtS H S (F+s) (c+1) 0 0:=by
      refine⟨hcs,by omega,?_,?_⟩
      ·rw[show S.getD (c+1) 0=S[c+1] by simp[List.getD_eq_getElem?_getD,hcs]]
       exact hpos _ (List.getElem_mem hcs)
      ·have h3:=fstS_cyl H S c hc
       have h4:=a2q H S c h
       rw[hl,←h3] at h4
       omega
     rw[kindS_at hat2 (by omega) hpos]
     simp only[Nat.lt_irrefl,if_false,if_pos hl]
     by_cases e3:k=2
     ·simp[e3]
     ·rw[if_neg e3,if_neg (fun g=>e3 g.symm)]
    ·have hat2:AtS H S (F+s) c (h+1) 0:=by
      refine⟨hc,by omega,by omega,?_⟩
      have h4:=a2q H S c h
      omega
     rw[kindS_at hat2 (by omega) hpos]
     simp only[Nat.lt_irrefl,if_false,if_neg hl,Nat.succ_pos,if_true]
     by_cases e3:k=1
     ·simp[e3]
     ·rw[if_neg e3,if_neg (fun g=>e3 g.symm)]
   rw[hk2]
   simp
  ·rw[if_neg hlt]
   have e:a2e fr ct (F+s)=a2e fr ct F+(a2e fr ct (F+s)-a2e fr ct F):=by unfold a2e;omega
   rw[e,sumR_add,sumR_const (isK H S k) 0 (fr+1+a2e fr ct F) _ (fun i hi=>h0 _ (by unfold a2e;omega) (by unfold a2e at hi ⊢;omega))]
   simp
def cntGt (l:List Nat) (m:Nat):Nat:=(l.filter fun b=>decide (m<b)).length
def FitsQ (n p:Nat) (od:Nat→Prop) (before:List Nat) (r:Nat):Prop:=∀m,m<n→m<r→m∉before→1+cntGt before m≤p∧¬od m∧¬od r
def AllP (n p:Nat) (od:Nat→Prop) (o:List Nat):Prop:=∀i,i<o.length→FitsQ n p od (o.take i) (o.getD i 0)
structure IsOrd (n:Nat) (o:List Nat):Prop where
 len:o.length=n
 nd:o.Nodup
 lt:∀x∈o,x<n
theorem a0r {o:List Nat} {i:Nat} (h:i<o.length):o.getD i 0=o[i]:=by simp[List.getD_eq_getElem?_getD,h]
theorem IsOrd.inj {n:Nat} {o:List Nat} (h:IsOrd n o) {i k:Nat} (hi:i<o.length) (hk:k<o.length) (e:o.getD i 0=o.getD k 0):i=k:=by
 rw[a0r hi,a0r hk] at e
 have hp:=List.pairwise_iff_getElem.1 h.nd
 rcases Nat.lt_trichotomy i k with g|g|g
 ·exact absurd e (hp i k hi hk g)
 ·exact g
 ·exact absurd e.symm (hp k i hk hi g)
theorem IsOrd.mem {n:Nat} {o:List Nat} (h:IsOrd n o) {m:Nat} (hm:m<n):∃i,i<o.length∧o.getD i 0=m:=by
 have hmo:m∈o:=Classical.byContradiction fun g=>by
  have:=a1p (m:=List.range n) (List.nodup_cons.2 ⟨g,h.nd⟩) (fun x hx=>by
   rcases List.mem_cons.1 hx with rfl|hx
   ·exact List.mem_range.2 hm
   ·exact List.mem_range.2 (h.lt x hx))
  simp[h.len] at this
  omega
 obtain⟨i,hi,e⟩:=List.getElem_of_mem hmo
 exact⟨i,hi,by rw[a0r hi,e]⟩
open Classical in
noncomputable def dfsQ (n p:Nat) (od:Nat→Prop):Nat→List Nat→List (List Nat)
 |0,b=>[b]
 |m+1,b=>(List.range n).flatMap fun k=>if k∈b then [] else if FitsQ n p od b k then dfsQ n p od m (b++[k]) else []
noncomputable def allQ (n p:Nat) (od:Nat→Prop):List (List Nat):=dfsQ n p od n []
structure Dk where
 H:Int
 T:Int
 Z:List (Int×Int)
 hk:Int
 ck:Int
 hs:Int×Int
 cs:Int×Int
namespace Dk
def SpanOk (s:Int×Int):Prop:=0≤s.1∧s.1≤s.2∧s.2≤2000
structure Ok (d:Dk):Prop where
 h:1≤d.H∧d.H≤4
 t:1≤d.T∧d.T≤1000
 z:1≤d.Z.length∧d.Z.length≤4
 hk:0≤d.hk∧d.hk≤d.T-1
 ck:0≤d.ck∧d.ck≤d.T-1
 hs:SpanOk d.hs
 cs:SpanOk d.cs
 zone:∀z∈d.Z,(1≤z.1∧z.1≤20)∧(1≤z.2∧z.2≤16)∧d.T % z.2=0
def S (d:Dk):List Nat:=d.Z.flatMap fun z=>List.replicate z.1.toNat z.2.toNat
def cnt (d:Dk):Nat:=d.H.toNat*d.S.sum
def off (d:Dk) (c h:Nat):Int:=(c*d.ck+(c*(d.H-1)+h)*d.hk) % d.T
def ang (d:Dk) (n:Nat):Int:=
 let p:=loc d.H.toNat d.S n
 (d.off p.1 p.2.1+p.2.2*(d.T / (d.S.getD p.1 0:Nat))) % d.T
def gapOf (d:Dk) (skew ticks:Int):Int:=ticks+((skew-ticks) % d.T+d.T) % d.T
def gapK (d:Dk) (hi:Bool) (k:Nat):Int:=
 if k=1 then d.gapOf d.hk (if hi then d.hs.2 else d.hs.1) else if k=2 then d.gapOf d.ck (if hi then d.cs.2 else d.cs.1) else 0
def run (d:Dk) (hi:Bool) (fr ct:Nat):Int:=
 sumR (durS d.H.toNat d.S d.T) fr ct+sumR (fun i=>d.gapK hi (kindS d.H.toNat d.S i)) (fr+1) (ct-1)
def Spre (d:Dk) (i k:Nat):List Nat:=(d.Z.take i).flatMap (fun z=>List.replicate z.1.toNat z.2.toNat)++List.replicate k (d.Z.getD i (0,0)).2.toNat
theorem Spre_zero (d:Dk):d.Spre 0 0=[]:=by simp[Spre]
theorem Spre_all (d:Dk):d.Spre d.Z.length 0=d.S:=by simp[Spre,S]
theorem Spre_succ (d:Dk) (i k:Nat):d.Spre i (k+1)=d.Spre i k++[(d.Z.getD i (0,0)).2.toNat]:=by
 unfold Spre
 rw[List.replicate_succ',List.append_assoc]
theorem Spre_zone (d:Dk) (i:Nat) (hi:i<d.Z.length):d.Spre (i+1) 0=d.Spre i (d.Z.getD i (0,0)).1.toNat:=by
 unfold Spre
 rw[List.take_succ_eq_append_getElem hi,List.flatMap_append]
 simp[List.getD_eq_getElem?_getD,hi]
theorem Spre_prefix (d:Dk) (i k:Nat) (hi:i<d.Z.length) (hk:k≤(d.Z.getD i (0,0)).1.toNat):d.Spre i k <+: d.S:=by
 have e:d.S=d.Spre i k++(List.replicate ((d.Z.getD i (0,0)).1.toNat-k) (d.Z.getD i (0,0)).2.toNat++(d.Z.drop (i+1)).flatMap (fun z=>List.replicate z.1.toNat z.2.toNat)):=by
  unfold S Spre
  conv=>lhs;rw[←List.take_append_drop i d.Z]
  rw[List.flatMap_append,List.append_assoc,List.drop_eq_getElem_cons hi,List.flatMap_cons]
  rw[←List.append_assoc (List.replicate k _),List.replicate_append_replicate]
  rw[show d.Z[i]=d.Z.getD i (0,0) by simp[List.getD_eq_getElem?_getD,hi]]
  rw[show k+((d.Z.getD i (0,0)).1.toNat-k)=(d.Z.getD i (0,0)).1.toNat by omega]
 rw[e]
 exact List.prefix_append _ _
theorem Spre_get (d:Dk) (i k:Nat) (hi:i<d.Z.length) (hk:k<(d.Z.getD i (0,0)).1.toNat):(d.Spre i k).length<d.S.length∧d.S.getD (d.Spre i k).length 0=(d.Z.getD i (0,0)).2.toNat∧d.S.take (d.Spre i k).length=d.Spre i k:=by
 obtain⟨t,ht⟩:=d.Spre_prefix i (k+1) hi hk
 rw[Spre_succ,List.append_assoc] at ht
 rw[←ht]
 refine⟨by simp,?_,by simp⟩
 simp[List.getD_eq_getElem?_getD]
theorem zone_at {d:Dk} (hd:d.Ok) {i:Nat} (hi:i<d.Z.length):(1≤(d.Z.getD i (0,0)).1∧(d.Z.getD i (0,0)).1≤20)∧(1≤(d.Z.getD i (0,0)).2∧(d.Z.getD i (0,0)).2≤16)∧d.T % (d.Z.getD i (0,0)).2=0:=by
 rw[show d.Z.getD i (0,0)=d.Z[i] by simp[List.getD_eq_getElem?_getD,hi]]
 exact hd.zone _ (List.getElem_mem hi)
theorem S_pos {d:Dk} (hd:d.Ok):∀a∈d.S,0<a∧a≤16:=by
 intro a ha
 unfold S at ha
 obtain⟨z,hz,ha⟩:=List.mem_flatMap.1 ha
 have:=hd.zone z hz
 rw[(List.mem_replicate.1 ha).2]
 omega
theorem Sl_aux:∀(Z:List (Int×Int)),(∀z∈Z,z.1≤20∧z.2≤16)→(Z.flatMap fun z=>List.replicate z.1.toNat z.2.toNat).length≤20*Z.length∧(Z.flatMap fun z=>List.replicate z.1.toNat z.2.toNat).sum≤320*Z.length
 |[],_=>by simp
 |z :: Z,h=>by
  have ih:=Sl_aux Z (fun z hz=>h z (List.mem_cons_of_mem _ hz))
  have hz:=h z List.mem_cons_self
  simp only[List.flatMap_cons,List.length_append,List.length_replicate,List.sum_append,List.sum_replicate_nat,List.length_cons]
  have:z.1.toNat*z.2.toNat≤20*16:=Nat.mul_le_mul (by omega) (by omega)
  omega
theorem S_len {d:Dk} (hd:d.Ok):d.S.length≤80∧d.S.sum≤1280:=by
 have:=Sl_aux d.Z (fun z hz=>by have:=hd.zone z hz;omega)
 have:=hd.z
 unfold S
 omega
theorem cnt_le {d:Dk} (hd:d.Ok):d.cnt≤5120:=by
 have:=(S_len hd).2
 have h:=hd.h
 have:d.cnt≤4*1280:=Nat.mul_le_mul (by omega) this
 omega
end Dk
def nextT (T a t:Int):Int:=t+((a-t) % T+T) % T
theorem nextT_eq {T:Int} (a t:Int):nextT T a t=t+(a-t) % T:=by
 unfold nextT
 rw[Int.add_emod_right,Int.emod_emod_of_dvd _ (Int.dvd_refl T)]
theorem nextT_bnd {T:Int} (hT:0<T) (a t:Int):t≤nextT T a t∧nextT T a t<t+T:=by
 rw[nextT_eq]
 have:=Int.emod_nonneg (a-t) (show T≠0 by omega)
 have:=Int.emod_lt_of_pos (a-t) hT
 omega
theorem nextT_mono {T:Int} (hT:0<T) (a:Int) {t u:Int} (h:t≤u):nextT T a t≤nextT T a u:=by
 have h1:=nextT_bnd hT a t
 have h2:=nextT_bnd hT a u
 have e1:nextT T a t=a-T*((a-t) / T):=by rw[nextT_eq];have:=Int.mul_ediv_add_emod (a-t) T;omega
 have e2:nextT T a u=a-T*((a-u) / T):=by rw[nextT_eq];have:=Int.mul_ediv_add_emod (a-u) T;omega
 rcases Int.lt_or_le (nextT T a u) (nextT T a t) with g|g
 ·exfalso
  have h3:T*((a-t) / T)<T*((a-u) / T):=by omega
  have h4:(a-t) / T<(a-u) / T:=Int.lt_of_mul_lt_mul_left h3 (by omega)
  have h5:T*((a-t) / T+1)≤T*((a-u) / T):=Int.mul_le_mul_of_nonneg_left (by omega) (by omega)
  rw[Int.mul_add,Int.mul_one] at h5
  omega
 ·exact g
theorem tmod_fix {T x:Int} (hT:0<T):(x.tmod T+T).tmod T=(x % T+T) % T:=by
 have h1:0≤x.tmod T+T:=by
  have:=Int.lt_tmod_of_pos x hT
  omega
 rw[Int.tmod_eq_emod_of_nonneg h1,Int.add_emod_right,Int.add_emod_right,Int.emod_emod_of_dvd _ (Int.dvd_refl T)]
 have e:=Int.mul_tdiv_add_tmod x T
 conv=>rhs;rw[←e]
 rw[Int.add_comm,Int.add_mul_emod_self_left]
structure Rq where
 fr:Int
 ct:Int
 t0:Int
 du:Int
 od:Bool
def Rq.none:Rq:=⟨0,0,0,0,false⟩
structure Qu where
 d:Dk
 cyl:Int
 pas:Int
 sk:List (Int×Int)
 rq:List Rq
namespace Qu
def RqOk (q:Qu) (r:Rq):Prop:=(0≤r.fr∧r.fr≤q.d.cnt-1)∧(1≤r.ct∧r.ct≤q.d.cnt-r.fr)∧(0≤r.t0∧r.t0≤10000)∧-1≤r.du∧r.du≤100000
structure Ok (q:Qu):Prop where
 d:q.d.Ok
 cyl:0≤q.cyl∧q.cyl≤q.d.S.length-1
 skl:q.sk.length=q.d.S.length
 rql:q.rq.length≤6
 pas:0≤q.pas∧q.pas≤6
 sk:∀s∈q.sk,0≤s.1∧s.1≤s.2∧s.2≤5000
 rq:∀r∈q.rq,q.RqOk r
 asc:∀i,i+1<q.rq.length→(q.rq.getD i Rq.none).t0≤(q.rq.getD (i+1) Rq.none).t0
structure Small (q:Qu):Prop where
 ok:q.Ok
 cnt:q.d.cnt≤200
 t:q.d.T≤120
 rql:q.rq.length≤4
def req (q:Qu) (r:Nat):Rq:=q.rq.getD r Rq.none
def cy (q:Qu) (n:Int):Nat:=(loc q.d.H.toNat q.d.S n.toNat).1
def sek (q:Qu) (a b:Nat):Int×Int:=q.sk.getD (max (a-b) (b-a)) (0,0)
def pick (hi:Bool) (s:Int×Int):Int:=if hi then s.2 else s.1
def srv (q:Qu) (r:Nat) (t sk rn:Int):Int:=nextT q.d.T (q.d.ang (q.req r).fr.toNat) (max t (q.req r).t0+sk)+rn
def rn (q:Qu) (hi:Bool) (r:Nat):Int:=q.d.run hi (q.req r).fr.toNat (q.req r).ct.toNat
def stQ (q:Qu) (hi:Bool) (o:List Nat):Nat→Nat×Int
 |0=>(q.cyl.toNat,0)
 |k+1=>(q.cy ((q.req (o.getD k 0)).fr+(q.req (o.getD k 0)).ct-1),
   q.srv (o.getD k 0) (stQ q hi o k).2 (pick hi (q.sek (stQ q hi o k).1 (q.cy (q.req (o.getD k 0)).fr))) (q.rn hi (o.getD k 0)))
def endOf (q:Qu) (hi:Bool) (o:List Nat) (r:Nat):Int:=if r∈o then(q.stQ hi o (o.idxOf r+1)).2 else 0
theorem stQ_cyl (q:Qu) (o:List Nat):∀k,(q.stQ true o k).1=(q.stQ false o k).1
 |0=>rfl
 |_+1=>rfl
end Qu
namespace Dk
theorem gap_mono (d:Dk) (hT:0<d.T) (s:Int) {a b:Int} (h:a≤b):d.gapOf s a≤d.gapOf s b:=nextT_mono hT s h
theorem gap_bnd (d:Dk) (hT:0<d.T) (s a:Int):a≤d.gapOf s a∧d.gapOf s a<a+d.T:=nextT_bnd hT s a
theorem gapK_le {d:Dk} (hd:d.Ok) (k:Nat):0≤d.gapK false k∧d.gapK false k≤d.gapK true k∧d.gapK true k≤3000:=by
 have ht:=hd.t
 have h1:=hd.hs
 have h2:=hd.cs
 unfold SpanOk at h1 h2
 have hT:0<d.T:=by omega
 unfold gapK
 split
 ·have:=d.gap_mono hT d.hk h1.2.1
  have:=d.gap_bnd hT d.hk d.hs.1
  have:=d.gap_bnd hT d.hk d.hs.2
  simp only[if_true,Bool.false_eq_true,if_false]
  omega
 ·split
  ·have:=d.gap_mono hT d.ck h2.2.1
   have:=d.gap_bnd hT d.ck d.cs.1
   have:=d.gap_bnd hT d.ck d.cs.2
   simp only[if_true,Bool.false_eq_true,if_false]
   omega
  ·omega
theorem sumR_bnd (f:Nat→Int) (v:Int) (a:Nat) (h:∀i,0≤f i∧f i≤v):∀m:Nat,0≤sumR f a m∧sumR f a m≤m*v
 |0=>by simp[sumR]
 |m+1=>by
  have ih:=sumR_bnd f v a h m
  have:=h (a+m)
  show 0≤sumR f a m+f (a+m)∧sumR f a m+f (a+m)≤_
  push_cast
  rw[Int.add_mul,Int.one_mul]
  omega
theorem dur_bnd {d:Dk} (hd:d.Ok) (n:Nat):0≤durS d.H.toNat d.S d.T n∧durS d.H.toNat d.S d.T n≤1000:=by
 have ht:=hd.t
 unfold durS
 refine⟨Int.ediv_nonneg (by omega) (by omega),?_⟩
 exact Int.le_trans (Int.ediv_le_self _ (by omega)) (by omega)
theorem run_bnd {d:Dk} (hd:d.Ok) (fr ct:Nat) (hct:ct≤6000):0≤d.run false fr ct∧d.run false fr ct≤d.run true fr ct∧d.run true fr ct≤24000000:=by
 have h1:=sumR_bnd _ 1000 fr (dur_bnd hd) ct
 have h2:=sumR_bnd (fun i=>d.gapK false (kindS d.H.toNat d.S i)) 3000 (fr+1) (fun i=>by have:=gapK_le hd (kindS d.H.toNat d.S i);omega) (ct-1)
 have h3:=sumR_bnd (fun i=>d.gapK true (kindS d.H.toNat d.S i)) 3000 (fr+1) (fun i=>by have:=gapK_le hd (kindS d.H.toNat d.S i);omega) (ct-1)
 have h4:=sumR_le (f:=fun i=>d.gapK false (kindS d.H.toNat d.S i)) (g:=fun i=>d.gapK true (kindS d.H.toNat d.S i)) (a:=fr+1) (ct-1) (fun i=>(gapK_le hd _).2.1)
 unfold run
 have e:((ct-1:Nat):Int)≤6000:=by omega
 have e2:(ct:Int)≤6000:=by omega
 omega
end Dk
namespace Qu
theorem req_mem {q:Qu} {r:Nat} (h:r<q.rq.length):q.req r∈q.rq:=by
 unfold req
 rw[show q.rq.getD r Rq.none=q.rq[r] by simp[List.getD_eq_getElem?_getD,h]]
 exact List.getElem_mem h
theorem cy_lt {q:Qu} {n:Int} (h:0≤n) (h2:n<q.d.cnt):q.cy n<q.d.S.length:=by
 have:n.toNat<q.d.H.toNat*q.d.S.sum:=by show n.toNat<q.d.cnt;omega
 exact(at_loc this).1
theorem sek_bnd {q:Qu} (hq:q.Ok) (a b:Nat):0≤(q.sek a b).1∧(q.sek a b).1≤(q.sek a b).2∧(q.sek a b).2≤5000:=by
 unfold sek
 by_cases h:max (a-b) (b-a)<q.sk.length
 ·rw[show q.sk.getD (max (a-b) (b-a)) (0,0)=q.sk[max (a-b) (b-a)] by simp[List.getD_eq_getElem?_getD,h]]
  exact hq.sk _ (List.getElem_mem h)
 ·rw[show q.sk.getD (max (a-b) (b-a)) (0,0)=(0,0) by simp[List.getD_eq_getElem?_getD];rw[List.getElem?_eq_none (by omega)];simp]
  simp
theorem srv_mono {q:Qu} (hq:q.Ok) (r:Nat) {t t' s s' n n':Int} (h1:t≤t') (h2:s≤s') (h3:n≤n'):q.srv r t s n≤q.srv r t' s' n':=by
 have hT:0<q.d.T:=by have:=hq.d.t;omega
 have:=nextT_mono hT (q.d.ang (q.req r).fr.toNat) (show max t (q.req r).t0+s≤max t' (q.req r).t0+s' by omega)
 unfold srv
 omega
theorem srv_bnd {q:Qu} (hq:q.Ok) {r:Nat} (hr:r<q.rq.length) {t s n:Int} (ht:0≤t) (hs:0≤s) (hs2:s≤5000) (hn:0≤n) (hn2:n≤24000000):t≤q.srv r t s n∧q.srv r t s n≤t+30000000:=by
 have hT:=hq.d.t
 have:=nextT_bnd (show 0<q.d.T by omega) (q.d.ang (q.req r).fr.toNat) (max t (q.req r).t0+s)
 have hr:=hq.rq _ (req_mem hr)
 unfold RqOk at hr
 unfold srv
 omega
theorem rn_bnd {q:Qu} (hq:q.Ok) {r:Nat} (hr:r<q.rq.length):0≤q.rn false r∧q.rn false r≤q.rn true r∧q.rn true r≤24000000:=by
 have hr:=hq.rq _ (req_mem hr)
 have:=q.d.cnt_le hq.d
 unfold RqOk at hr
 exact Dk.run_bnd hq.d _ _ (by omega)
theorem rn_bndB {q:Qu} (hq:q.Ok) {r:Nat} (hr:r<q.rq.length) (hi:Bool):0≤q.rn hi r∧q.rn hi r≤24000000:=by
 have:=rn_bnd hq hr
 cases hi<;>omega
theorem pick_bnd {q:Qu} (hq:q.Ok) (hi:Bool) (a b:Nat):0≤pick hi (q.sek a b)∧pick hi (q.sek a b)≤5000:=by
 have:=sek_bnd hq a b
 unfold pick
 cases hi<;>simp<;>omega
theorem stQ_bnd {q:Qu} (hq:q.Ok) (hi:Bool) {o:List Nat} (ho:∀x∈o,x<q.rq.length):∀k,k≤o.length→(q.stQ hi o k).1<q.d.S.length∧0≤(q.stQ hi o k).2∧(q.stQ hi o k).2≤k*30000000
 |0,_=>by
  have:=hq.cyl
  unfold stQ
  refine⟨by dsimp only;omega,by simp,by simp⟩
 |k+1,hk=>by
  have ih:=stQ_bnd hq hi ho k (by omega)
  have hr:o.getD k 0<q.rq.length:=by rw[a0r (by omega)];exact ho _ (List.getElem_mem _)
  have hok:=hq.rq _ (req_mem hr)
  have hrn:=rn_bndB hq hr hi
  unfold RqOk at hok
  unfold stQ
  have hp:=pick_bnd hq hi (q.stQ hi o k).1 (q.cy (q.req (o.getD k 0)).fr)
  have:=srv_bnd hq hr ih.2.1 hp.1 hp.2 hrn.1 hrn.2
  refine⟨cy_lt (by omega) (by omega),by dsimp only;omega,?_⟩
  dsimp only
  push_cast
  rw[Int.add_mul]
  omega
end Qu
end Go.Proofs
namespace Go.Proofs
open Go Go.Sx
set_option maxRecDepth 100000
set_option maxHeartbeats 4000000
structure Sv where
 x:Ca.Cache
 d:Dk
 sk:List (Int×Int)
 cyl:Int
 sec:List Int
theorem Qu.stQ_step {q:Qu} (hq:q.Ok) (hi:Bool) {o:List Nat} (ho:∀x∈o,x<q.rq.length) {k:Nat} (hk:k<o.length):(q.stQ hi o k).2≤(q.stQ hi o (k+1)).2:=by
 have ih:=Qu.stQ_bnd hq hi ho k (by omega)
 have hr:o.getD k 0<q.rq.length:=by rw[a0r hk];exact ho _ (List.getElem_mem hk)
 have hrn:=Qu.rn_bndB hq hr hi
 have hp:=Qu.pick_bnd hq hi (q.stQ hi o k).1 (q.cy (q.req (o.getD k 0)).fr)
 have:=Qu.srv_bnd hq hr ih.2.1 hp.1 hp.2 hrn.1 hrn.2
 show _≤q.srv (o.getD k 0) (q.stQ hi o k).2 _ _
 exact this.1
theorem Qu.stQ_up {q:Qu} (hq:q.Ok) (hi:Bool) {o:List Nat} (ho:∀x∈o,x<q.rq.length) {j:Nat}:∀{k:Nat},j≤k→k≤o.length→(q.stQ hi o j).2≤(q.stQ hi o k).2
 |0,h,_=>by rw[Nat.le_zero.1 h];exact Int.le_refl _
 |k+1,h,hk=>by
  rcases Nat.lt_or_eq_of_le h with g|g
  ·exact Int.le_trans (Qu.stQ_up hq hi ho (Nat.le_of_lt_succ g) (by omega)) (Qu.stQ_step hq hi ho hk)
  ·rw[g];exact Int.le_refl _
namespace Sv
def rqW (s:Sv) (w:Ca.Wt):Rq:=⟨s.sec.getD w.2.1 0,1,0,-1,false⟩
def qu (s:Sv) (V:List Ca.Wt):Qu:=⟨s.d,s.cyl,0,s.sk,V.map s.rqW⟩
def n (s:Sv):Nat:=s.x.n.toNat
def st (s:Sv):Ca.RS:=Ca.RS.run s.n s.x.l s.x.l.length
def W (s:Sv):List Ca.Wt:=s.st.ents s.n
structure SOk (s:Sv):Prop where
 len:s.sec.length=s.n
 rng:∀i,i<s.sec.length→0≤s.sec.getD i 0∧s.sec.getD i 0≤(s.d.cnt:Int)-1
 nd:∀i,i<s.sec.length→∀k,k<i→s.sec.getD k 0≠s.sec.getD i 0
 q:(s.qu []).Ok
structure Ok (s:Sv):Prop where
 d:s.d.Ok
 x:s.x.Ok
 so:s.SOk
 few:s.W.length≤6
theorem qu_ok {s:Sv} (h:s.SOk) {V:List Ca.Wt} (hV:V.length≤6) (hb:∀w∈V,w.2.1<s.n):(s.qu V).Ok:=by
 have hq:=h.q
 refine⟨hq.d,hq.cyl,hq.skl,?_,hq.pas,hq.sk,fun r hr=>?_,fun i hi=>?_⟩
 ·show(V.map s.rqW).length≤6
  rw[List.length_map];exact hV
 ·obtain⟨w,hw,rfl⟩:=List.mem_map.1 hr
  have hw2:=hb w hw
  rw[←h.len] at hw2
  have:=h.rng w.2.1 hw2
  unfold Qu.RqOk rqW
  dsimp only
  refine⟨this,⟨Int.le_refl _,?_⟩,⟨Int.le_refl _,by omega⟩,Int.le_refl _,by omega⟩
  show(1:Int)≤s.d.cnt-s.sec.getD w.2.1 0
  omega
 ·have hi:i+1<(V.map s.rqW).length:=hi
  rw[List.length_map] at hi
  have e:∀j,j<V.length→((V.map s.rqW).getD j Rq.none).t0=0:=fun j hj=>by
   rw[List.getD_eq_getElem?_getD,List.getElem?_map,List.getElem?_eq_getElem hj]
   rfl
  show((V.map s.rqW).getD i Rq.none).t0≤((V.map s.rqW).getD (i+1) Rq.none).t0
  rw[e i (by omega),e (i+1) hi]
  exact Int.le_refl _
theorem W_blk {s:Sv} {w:Ca.Wt} (h:w∈s.W):w.2.1<s.n:=(Ca.RS.mem_ents.1 h).2.1
def pick (V:List Ca.Wt) (o:List Nat):List Ca.Wt:=o.map fun i=>V.getD i (0,0,0)
theorem pick_req {s:Sv} {V:List Ca.Wt} {o:List Nat} (ho:∀x∈o,x<V.length) {k:Nat} (hk:k<o.length):(s.qu (pick V o)).req k=(s.qu V).req (o.getD k 0):=by
 have hlt:o.getD k 0<V.length:=by rw[a0r hk];exact ho _ (List.getElem_mem hk)
 unfold Qu.req qu pick
 dsimp only
 rw[List.map_map,List.getD_eq_getElem?_getD,List.getElem?_map,List.getElem?_eq_getElem hk,List.getD_eq_getElem?_getD,List.getElem?_map,List.getElem?_eq_getElem hlt]
 simp only[Option.map_some,Option.getD_some,Function.comp]
 have e1:V.getD o[k] (0,0,0)=V.getD (o.getD k 0) (0,0,0):=by rw[a0r hk]
 have e2:V.getD (o.getD k 0) (0,0,0)=V[o.getD k 0]:=by rw[List.getD_eq_getElem?_getD (l:=V),List.getElem?_eq_getElem hlt];rfl
 rw[e1,e2]
theorem stQ_pick {s:Sv} (hi:Bool) {V:List Ca.Wt} {o:List Nat} (ho:∀x∈o,x<V.length):∀k,k≤o.length→(s.qu (pick V o)).stQ hi (List.range o.length) k=(s.qu V).stQ hi o k
 |0,_=>rfl
 |k+1,hk=>by
  have ih:=stQ_pick (s:=s) hi ho k (by omega)
  have hr:=pick_req (s:=s) ho (show k<o.length by omega)
  have hrg:(List.range o.length).getD k 0=k:=by
   rw[List.getD_eq_getElem?_getD,List.getElem?_eq_getElem (by rw[List.length_range];omega)]
   simp
  unfold Qu.stQ Qu.srv Qu.rn
  rw[hrg,ih,hr]
  rfl
def endW (s:Sv) (hi:Bool) (o:List Nat) (k:Nat):Int:=((s.qu s.W).stQ hi o (k+1)).2
theorem quW_ok {s:Sv} (h:s.Ok):(s.qu s.W).Ok:=qu_ok h.so h.few fun _ hw=>W_blk hw
theorem qu_len (s:Sv) (V:List Ca.Wt):(s.qu V).rq.length=V.length:=by
 show(V.map s.rqW).length=_
 rw[List.length_map]
theorem crs_lt {s:Sv} {o:List Nat} (h:Ca.IsCrs s.W o):∀x∈o,x<(s.qu s.W).rq.length:=fun x hx=>by
 rw[qu_len]
 exact h.lt x hx
theorem endW_up {s:Sv} (h:s.Ok) (hi:Bool) {o:List Nat} (ho:Ca.IsCrs s.W o) {j k:Nat} (hjk:j≤k) (hk:k<s.W.length):s.endW hi o j≤s.endW hi o k:=
 Qu.stQ_up (quW_ok h) hi (crs_lt ho) (by omega) (by rw[ho.len];omega)
/-! ### how many are on the medium -/
def cntK (f:Nat→Int) (t:Int):Nat→Nat
 |0=>0
 |k+1=>if f k≤t then cntK f t k+1 else cntK f t k
def lastK (f:Nat→Int) (t:Int):Nat→Nat
 |0=>0
 |k+1=>if f k≤t then k+1 else lastK f t k
theorem cntK_le (f:Nat→Int) (t:Int):∀k,cntK f t k≤k
 |0=>Nat.le_refl _
 |k+1=>by have:=cntK_le f t k;unfold cntK;split<;>omega
theorem cntK_full {f:Nat→Int} {t:Int}:∀{k:Nat},(∀i,i<k→f i≤t)→cntK f t k=k
 |0,_=>rfl
 |k+1,h=>by unfold cntK;rw[if_pos (h k (by omega)),cntK_full fun i hi=>h i (by omega)]
theorem cnt_last {f:Nat→Int} {t:Int} {N:Nat} (hup:∀i j,i≤j→j<N→f i≤f j):∀k,k≤N→lastK f t k=cntK f t k
 |0,_=>rfl
 |k+1,hk=>by
  unfold lastK cntK
  split
  ·rename_i h
   rw[cntK_full fun i hi=>Int.le_trans (hup i k (by omega) (by omega)) h]
  ·exact cnt_last hup k (by omega)
theorem cntK_iff {f:Nat→Int} {t:Int} {N:Nat} (hup:∀i j,i≤j→j<N→f i≤f j):∀k,k≤N→∀i,i<k→(f i≤t↔i<cntK f t k)
 |0,_,i,hi=>by omega
 |k+1,hk,i,hi=>by
  unfold cntK
  split
  ·rename_i h
   have hf:cntK f t k=k:=cntK_full fun i hi=>Int.le_trans (hup i k (by omega) (by omega)) h
   rw[hf]
   exact⟨fun _=>hi,fun _=>Int.le_trans (hup i k (by omega) (by omega)) h⟩
  ·rename_i h
   rcases Nat.lt_or_eq_of_le (Nat.le_of_lt_succ hi) with g|g
   ·exact cntK_iff hup k (by omega) i g
   ·subst g
    have:=cntK_le f t i
    exact⟨fun g=>absurd g h,fun g=>by omega⟩
/-! ### the best course,and the one that saves the most -/
def lastE (s:Sv) (o:List Nat):Int:=if s.W.length=0 then 0 else s.endW true o (s.W.length-1)
def stepE (s:Sv) (b:List Nat×Int) (o:List Nat):List Nat×Int:=if s.lastE o<b.2 then(o,s.lastE o) else b
def foldE (s:Sv) (b:List Nat×Int) (C:List (List Nat)):List Nat×Int:=C.foldl s.stepE b
noncomputable def c0 (s:Sv):List Nat:=(Ca.allCrs s.W).headD []
noncomputable def best (s:Sv):List Nat×Int:=s.foldE (s.c0,s.lastE s.c0) (Ca.allCrs s.W)
def sav (s:Sv) (t:Int) (o:List Nat):Nat:=cntK (s.endW true o) t s.W.length
def stepV (s:Sv) (t:Int) (b:List Nat×Int) (o:List Nat):List Nat×Int:=if b.2<s.sav t o then(o,s.sav t o) else b
def foldV (s:Sv) (t:Int) (b:List Nat×Int) (C:List (List Nat)):List Nat×Int:=C.foldl (s.stepV t) b
noncomputable def most (s:Sv) (t:Int):List Nat×Int:=s.foldV t (s.c0,s.sav t s.c0) (Ca.allCrs s.W)
theorem c0_crs (s:Sv):Ca.IsCrs s.W s.c0:=by
 have:=Ca.allCrs_ne s.n s.st
 refine Ca.mem_allCrs.1 ?_
 unfold c0
 cases h:Ca.allCrs s.W with
 |nil=>exact absurd h this
 |cons a l=>simp
theorem foldE_spec (s:Sv):∀(C:List (List Nat)) (b:List Nat×Int),(∀o∈C,(s.foldE b C).2≤s.lastE o)∧(s.foldE b C).2≤b.2∧(s.foldE b C=b∨∃o∈C,s.foldE b C=(o,s.lastE o))
 |[],b=>⟨by simp,Int.le_refl _,.inl rfl⟩
 |c :: C,b=>by
  obtain⟨h1,h2,h3⟩:=foldE_spec s C (s.stepE b c)
  have e:s.foldE b (c :: C)=s.foldE (s.stepE b c) C:=rfl
  rw[e]
  have hs:(s.stepE b c).2≤s.lastE c∧(s.stepE b c).2≤b.2∧(s.stepE b c=b∨s.stepE b c=(c,s.lastE c)):=by
   unfold stepE
   split
   ·exact⟨Int.le_refl _,by dsimp only;omega,.inr rfl⟩
   ·exact⟨by omega,Int.le_refl _,.inl rfl⟩
  refine⟨fun o ho=>?_,Int.le_trans h2 hs.2.1,?_⟩
  ·rcases List.mem_cons.1 ho with g|g
   ·subst g;exact Int.le_trans h2 hs.1
   ·exact h1 o g
  ·rcases h3 with g|⟨o,ho,g⟩
   ·rw[g]
    rcases hs.2.2 with g2|g2
    ·exact .inl g2
    ·exact .inr ⟨c,List.mem_cons_self,g2⟩
   ·exact .inr ⟨o,List.mem_cons_of_mem _ ho,g⟩
theorem foldV_spec (s:Sv) (t:Int):∀(C:List (List Nat)) (b:List Nat×Int),(∀o∈C,(s.sav t o:Int)≤(s.foldV t b C).2)∧b.2≤(s.foldV t b C).2∧(s.foldV t b C=b∨∃o∈C,s.foldV t b C=(o,(s.sav t o:Int)))
 |[],b=>⟨by simp,Int.le_refl _,.inl rfl⟩
 |c :: C,b=>by
  obtain⟨h1,h2,h3⟩:=foldV_spec s t C (s.stepV t b c)
  have e:s.foldV t b (c :: C)=s.foldV t (s.stepV t b c) C:=rfl
  rw[e]
  have hs:(s.sav t c:Int)≤(s.stepV t b c).2∧b.2≤(s.stepV t b c).2∧(s.stepV t b c=b∨s.stepV t b c=(c,(s.sav t c:Int))):=by
   unfold stepV
   split
   ·exact⟨Int.le_refl _,by dsimp only;omega,.inr rfl⟩
   ·exact⟨by omega,Int.le_refl _,.inl rfl⟩
  refine⟨fun o ho=>?_,Int.le_trans hs.2.1 h2,?_⟩
  ·rcases List.mem_cons.1 ho with g|g
   ·subst g;exact Int.le_trans hs.1 h2
   ·exact h1 o g
  ·rcases h3 with g|⟨o,ho,g⟩
   ·rw[g]
    rcases hs.2.2 with g2|g2
    ·exact .inl g2
    ·exact .inr ⟨c,List.mem_cons_self,g2⟩
   ·exact .inr ⟨o,List.mem_cons_of_mem _ ho,g⟩
theorem best_spec (s:Sv):Ca.IsCrs s.W s.best.1∧s.best.2=s.lastE s.best.1∧∀o,Ca.IsCrs s.W o→s.best.2≤s.lastE o:=by
 obtain⟨h1,_,h3⟩:=s.foldE_spec (Ca.allCrs s.W) (s.c0,s.lastE s.c0)
 refine⟨?_,?_,fun o ho=>h1 o (Ca.mem_allCrs.2 ho)⟩
 ·rcases h3 with g|⟨o,ho,g⟩
  ·unfold best;rw[g];exact s.c0_crs
  ·unfold best;rw[g];exact Ca.mem_allCrs.1 ho
 ·rcases h3 with g|⟨o,ho,g⟩<;>(unfold best;rw[g])
theorem most_spec (s:Sv) (t:Int):Ca.IsCrs s.W (s.most t).1∧(s.most t).2=s.sav t (s.most t).1∧∀o,Ca.IsCrs s.W o→(s.sav t o:Int)≤(s.most t).2:=by
 obtain⟨h1,_,h3⟩:=s.foldV_spec t (Ca.allCrs s.W) (s.c0,s.sav t s.c0)
 refine⟨?_,?_,fun o ho=>h1 o (Ca.mem_allCrs.2 ho)⟩
 ·rcases h3 with g|⟨o,ho,g⟩
  ·unfold most;rw[g];exact s.c0_crs
  ·unfold most;rw[g];exact Ca.mem_allCrs.1 ho
 ·rcases h3 with g|⟨o,ho,g⟩<;>(unfold most;rw[g])
end Sv
end Go.Proofs
