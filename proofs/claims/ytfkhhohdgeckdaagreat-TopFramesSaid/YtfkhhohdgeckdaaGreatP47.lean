/- Part of the proof, without conditions. -/
import Derived.Test.YtfkhhohdgeckdaaGreatP46
namespace Go.Proofs.YtfkhhohdgeckdaaGreat
open Go RowKit Proofs.Tryz
set_option linter.all false
set_option maxRecDepth 100000
set_option maxHeartbeats 16000000
def KR(X:Int)(t:Int)(S:Value)(W:List (Int))(T:Value)(M:List (Int))(w:World)(I: -9223372036854775808<=X/\X<=9223372036854775807)(z: -9223372036854775808<=t/\t<=9223372036854775807)(e:Sl ie 1 w S W)(l:∀n∈W,-9223372036854775808<=n/\n<=9223372036854775807)(a:W.length<=17592186043904)(q:Sl ie 1 w T M)(E:∀n∈M,-9223372036854775808<=n/\n<=9223372036854775807)(v:M.length<=17592186043904):
 Calls prog 8 #[.int .i64 X,.int .i64 t,S,T] w (Is w (.bool true)):=
 alz (E0 O O (RH X t W M I z l a E v)) (zy O afh (zy O afh (zy O (YQ e) (zy O (YQ q) Su))))
