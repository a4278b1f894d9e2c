import Derived.Test.YtjnhdamilbcmpaaDoorRows
import Derived.Test.YtjnhdamilbcmpaaDoorCuPTmx0
import Derived.Test.YtjnhdamilbcmpaaDoorCuPTmx1
import Derived.Test.YtjnhdamilbcmpaaDoorCuPTmx2
import Derived.Test.YtjnhdamilbcmpaaDoorCuPTmx3
import Derived.Test.YtjnhdamilbcmpaaDoorCuPTmx4
import Derived.Test.YtjnhdamilbcmpaaDoorCuPTmx5
import Derived.Test.YtjnhdamilbcmpaaDoorCuPTmx6
import Derived.Test.YtjnhdamilbcmpaaDoorCuPTmx7
import Derived.Test.YtjnhdamilbcmpaaDoorCuPTmx8
import Derived.Test.YtjnhdamilbcmpaaDoorCuPTmx9
import Derived.Test.YtjnhdamilbcmpaaDoorCuPTmx10
import Derived.Test.YtjnhdamilbcmpaaDoorCuPTmx11
import Derived.Test.YtjnhdamilbcmpaaDoorCuPTmx12
import Derived.Test.YtjnhdamilbcmpaaDoorCuPTmx13
import Derived.Test.YtjnhdamilbcmpaaDoorCuPTmx14
import Derived.Test.YtjnhdamilbcmpaaDoorCuPTmx15
import Derived.Test.YtjnhdamilbcmpaaDoorCuPTmx16
import Derived.Test.YtjnhdamilbcmpaaDoorCuPTmx17
import Derived.Test.YtjnhdamilbcmpaaDoorCuPTmx18
import Derived.Test.YtjnhdamilbcmpaaDoorCuPTmx19
import Derived.Test.YtjnhdamilbcmpaaDoorCuPTmx20
import Derived.ProofKit
import Derived.OpenShut
import Derived.ChangeOld
import Derived.ChangeArms
import Derived.Deep.Strs
import Derived.Deep.Slices
import Derived.Below
import Derived.Carry
namespace Go.Proofs.YtjnhdamilbcmpaaDoor
open Go.ChangeShapes Go.WideShapes Go.ChangeAt Go.RowKit
set_option linter.unusedVariables false
def PTm.enc9 (x : PTm.S38) : List Value := [.int .i64 x.f0.f0, .string x.f0.f1, .string x.f0.f2, .int .i64 x.f1.f0, .string x.f1.f1, .string x.f1.f2, .int .i64 x.f2.f0, .string x.f2.f1, .string x.f2.f2]
theorem PTm.enc9_len (x : PTm.S38) : (PTm.enc9 x).length = 9 := rfl
end Go.Proofs.YtjnhdamilbcmpaaDoor
