/- What stands for each function; what is fixed is so. -/
import Derived.Test.YtpmgingpmfmdfaaF2
set_option linter.unusedVariables false
namespace Go.Ev
noncomputable section
theorem ix_ok : PrimOk Go.Proofs.Try.prog p44 pIx := fun vs v h base μ w xs H hR hvs => pIx_ok (f := p44) Go.Proofs.Try.func44 (by kernel_rfl) (by kernel_rfl) (by kernel_rfl) (by kernel_rfl) h hR hvs
theorem follows : Go.Proofs.Try.prog.follows .mixedOrders = true := by kernel_rfl
def env0_0 : E1 := ⟨none, none, (some (.fn a2)), (some (.fn a3)), (some (.fn a4)), (some (.fn a5)), (some (.fn a6)), (some (.fn a7)), (some (.fn a8)), (some (.fn a9)), (some (.fn a10)), (some (.fn a11)), (some (.fn a12)), (some (.fn a13)), (some (.fn a14)), (some (.fn a15))⟩
def env0_1 : E1 := ⟨(some (.fn a16)), (some (.fn a17)), (some (.fn a18)), (some (.fn a19)), (some (.fn a20)), (some (.fn a21)), (some (.fn a22)), (some (.fn a23)), (some (.fn a24)), (some (.fn a25)), (some (.fn a26)), (some (.fn a27)), (some (.fn a28)), (some (.fn a29)), (some (.fn a30)), (some (.fn a31))⟩
def env0_2 : E1 := ⟨(some (.fn a32)), (some (.fn a33)), (some (.fn a34)), (some (.fn a35)), (some (.fn a36)), (some (.fn a37)), (some (.fn a38)), (some (.fn a39)), (some (.fn a40)), (some (.fn a41)), (some (.fn a42)), (some (.fn a43)), (some (.prim pIx)), (some (.fn a45)), (some (.fn a46)), (some (.fn a47))⟩
def env0_3 : E1 := ⟨(some (.fn a48)), (some (.fn a49)), (some (.fn a50)), (some (.fn a51)), (some (.fn a52)), (some (.fn a53)), (some (.fn a54)), (some (.fn a55)), (some (.fn a56)), (some (.fn a57)), (some (.fn a58)), (some (.fn a59)), (some (.fn a60)), (some (.fn a61)), (some (.fn a62)), (some (.fn a63))⟩
def env0_4 : E1 := ⟨(some (.fn a64)), (some (.fn a65)), (some (.fn a66)), (some (.fn a67)), (some (.fn a68)), (some (.fn a69)), (some (.fn a70)), (some (.fn a71)), (some (.fn a72)), (some (.fn a73)), (some (.fn a74)), (some (.fn a75)), (some (.fn a76)), (some (.fn a77)), (some (.fn a78)), (some (.fn a79))⟩
def env0_5 : E1 := ⟨(some (.fn a80)), (some (.fn a81)), (some (.fn a82)), (some (.fn a83)), (some (.fn a84)), (some (.fn a85)), (some (.fn a86)), (some (.fn a87)), (some (.fn a88)), (some (.fn a89)), (some (.fn a90)), (some (.fn a91)), (some (.fn a92)), (some (.fn a93)), (some (.fn a94)), (some (.fn a95))⟩
def env0_6 : E1 := ⟨(some (.fn a96)), (some (.fn a97)), (some (.fn a98)), (some (.fn a99)), (some (.fn a100)), (some (.fn a101)), (some (.fn a102)), (some (.fn a103)), (some (.fn a104)), (some (.fn a105)), (some (.fn a106)), (some (.fn a107)), (some (.fn a108)), (some (.fn a109)), (some (.fn a110)), none⟩
def env0_7 : E1 := ⟨none, none, none, none, none, none, none, none, none, none, none, none, none, none, none, none⟩
def env0_8 : E1 := ⟨none, none, none, none, none, none, none, none, none, none, none, none, none, none, none, none⟩
def env0 : Env := ⟨(⟨env0_0, env0_1, env0_2, env0_3, env0_4, env0_5, env0_6, env0_7, env0_8, N.all none, N.all none, N.all none, N.all none, N.all none, N.all none, N.all none⟩ : E2), N.all (N.all none), N.all (N.all none), N.all (N.all none), N.all (N.all none), N.all (N.all none), N.all (N.all none), N.all (N.all none), N.all (N.all none), N.all (N.all none), N.all (N.all none), N.all (N.all none), N.all (N.all none), N.all (N.all none), N.all (N.all none), N.all (N.all none)⟩
theorem env0_0_ok : All16 (fun a o => OkO Go.Proofs.Try.prog ⟨a, .d0, .d0, .d0⟩ o) env0_0 := ⟨trivial, trivial, k2, k3, k4, k5, k6, k7, k8, k9, k10, k11, k12, k13, k14, k15⟩
theorem env0_1_ok : All16 (fun a o => OkO Go.Proofs.Try.prog ⟨a, .d1, .d0, .d0⟩ o) env0_1 := ⟨k16, k17, k18, k19, k20, k21, k22, k23, k24, k25, k26, k27, k28, k29, k30, k31⟩
theorem env0_2_ok : All16 (fun a o => OkO Go.Proofs.Try.prog ⟨a, .d2, .d0, .d0⟩ o) env0_2 := ⟨k32, k33, k34, k35, k36, k37, k38, k39, k40, k41, k42, k43, ix_ok, k45, k46, k47⟩
theorem env0_3_ok : All16 (fun a o => OkO Go.Proofs.Try.prog ⟨a, .d3, .d0, .d0⟩ o) env0_3 := ⟨k48, k49, k50, k51, k52, k53, k54, k55, k56, k57, k58, k59, k60, k61, k62, k63⟩
theorem env0_4_ok : All16 (fun a o => OkO Go.Proofs.Try.prog ⟨a, .d4, .d0, .d0⟩ o) env0_4 := ⟨k64, k65, k66, k67, k68, k69, k70, k71, k72, k73, k74, k75, k76, k77, k78, k79⟩
theorem env0_5_ok : All16 (fun a o => OkO Go.Proofs.Try.prog ⟨a, .d5, .d0, .d0⟩ o) env0_5 := ⟨k80, k81, k82, k83, k84, k85, k86, k87, k88, k89, k90, k91, k92, k93, k94, k95⟩
theorem env0_6_ok : All16 (fun a o => OkO Go.Proofs.Try.prog ⟨a, .d6, .d0, .d0⟩ o) env0_6 := ⟨k96, k97, k98, k99, k100, k101, k102, k103, k104, k105, k106, k107, k108, k109, k110, trivial⟩
theorem env0_7_ok : All16 (fun a o => OkO Go.Proofs.Try.prog ⟨a, .d7, .d0, .d0⟩ o) env0_7 := ⟨trivial, trivial, trivial, trivial, trivial, trivial, trivial, trivial, trivial, trivial, trivial, trivial, trivial, trivial, trivial, trivial⟩
theorem env0_8_ok : All16 (fun a o => OkO Go.Proofs.Try.prog ⟨a, .d8, .d0, .d0⟩ o) env0_8 := ⟨trivial, trivial, trivial, trivial, trivial, trivial, trivial, trivial, trivial, trivial, trivial, trivial, trivial, trivial, trivial, trivial⟩
theorem env0_ok : ∀ f e, env0.at f = some e → FeOk Go.Proofs.Try.prog f e := envOk ⟨⟨env0_0_ok, env0_1_ok, env0_2_ok, env0_3_ok, env0_4_ok, env0_5_ok, env0_6_ok, env0_7_ok, env0_8_ok, all_none1 _ _, all_none1 _ _, all_none1 _ _, all_none1 _ _, all_none1 _ _, all_none1 _ _, all_none1 _ _⟩, all_none2 _, all_none2 _, all_none2 _, all_none2 _, all_none2 _, all_none2 _, all_none2 _, all_none2 _, all_none2 _, all_none2 _, all_none2 _, all_none2 _, all_none2 _, all_none2 _, all_none2 _⟩
theorem aw : isTrue (evF env0 100000 100 p11 [] emptyH) = true := by kernel_rfl
end
end Go.Ev
