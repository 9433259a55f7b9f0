/- The openings of this seat's types. -/
import Derived.Test.YtdkfpgdfjnaciaaS8
import Derived.Test.YtdkfpgdfjnaciaaD2
import Derived.Test.YtdkfpgdfjnaciaaTb
import Derived.Test.YtdkfpgdfjnaciaaD9
set_option linter.unusedVariables false
namespace Go.Proofs.Ytdkfpgdfjnaciaa.SL
theorem opU : Opens Try.prog 28 tU (fun n => 0 ≤ n ∧ n < 4294967296) := fun h => (opens_int Try.underlying28 h).imp fun v q => ⟨q.1, wf_u32 q.2⟩
theorem opB : Opens Try.prog 5 (tInt .u8) (fun n => 0 ≤ n ∧ n < 256) := fun h => (opens_int Try.underlying5 h).imp fun v q => ⟨q.1, wf_u8 q.2⟩
theorem opBs : Opens Try.prog 22 (tSl (tInt .u8)) (fun xs => ∀ x ∈ xs, (fun n : Int => 0 ≤ n ∧ n < 256) x) := opens_slice Try.underlying22 opB (by kernel_rfl) (by decide)
theorem opUs : Opens Try.prog 29 (tSl tU) (fun xs => ∀ x ∈ xs, (fun n : Int => 0 ≤ n ∧ n < 4294967296) x) := opens_slice Try.underlying29 opU (by kernel_rfl) (by decide)
theorem opFa : Opens Try.prog 31 tFa Fa.ok := opens_iso (fun x : Fa => (x.p, x.a)) (fun b => ⟨b.1, b.2⟩) (opens_pair Try.underlying31 opU opUs rfl rfl (by kernel_rfl) (by kernel_rfl) (by kernel_rfl)) (fun b => rfl) (fun b g => g)
theorem opFas : Opens Try.prog 49 (tSl tFa) (fun xs => ∀ x ∈ xs, Fa.ok x) := opens_slice Try.underlying49 opFa (by kernel_rfl) (by decide)
theorem opTm : Opens Try.prog 78 tTm Tm.ok := opens_iso (fun x : Tm => (x.v, x.n)) (fun b => ⟨b.1, b.2⟩) (opens_pair Try.underlying78 (opens_bool Try.underlying4) opU rfl rfl (by kernel_rfl) (by kernel_rfl) (by kernel_rfl)) (fun b => rfl) (fun b g => g.2)
theorem opTms : Opens Try.prog 54 (tSl tTm) (fun xs => ∀ x ∈ xs, Tm.ok x) := opens_slice Try.underlying54 opTm (by kernel_rfl) (by decide)
theorem opAm : Opens Try.prog 56 tAm Am.ok := opens_iso (fun x : Am => (x.p, x.a)) (fun b => ⟨b.1, b.2⟩) (opens_pair Try.underlying56 opU opTms rfl rfl (by kernel_rfl) (by kernel_rfl) (by kernel_rfl)) (fun b => rfl) (fun b g => g)
theorem opSc : Opens Try.prog 44 tSc Sc.ok := opens_iso (fun x : Sc => (x.c, x.k, x.q, x.v)) (fun b => ⟨b.1, b.2.1, b.2.2.1, b.2.2.2⟩) (opens_four Try.underlying44 (opens_bool Try.underlying4) (opens_bool Try.underlying4) opFa opB rfl rfl rfl rfl (by kernel_rfl) (by kernel_rfl) (by kernel_rfl) (by kernel_rfl) (by kernel_rfl)) (fun b => rfl) (fun b g => g.2.2)
theorem opScs : Opens Try.prog 37 (tSl tSc) (fun xs => ∀ x ∈ xs, Sc.ok x) := opens_slice Try.underlying37 opSc (by kernel_rfl) (by decide)
theorem opSt : Opens Try.prog 64 tSt St.ok := opens_iso (fun x : St => (x.c, x.f)) (fun b => ⟨b.1, b.2⟩) (opens_pair Try.underlying64 (opens_bool Try.underlying4) opFa rfl rfl (by kernel_rfl) (by kernel_rfl) (by kernel_rfl)) (fun b => rfl) (fun b g => g.2)
theorem opSts : Opens Try.prog 53 (tSl tSt) (fun xs => ∀ x ∈ xs, St.ok x) := opens_slice Try.underlying53 opSt (by kernel_rfl) (by decide)
end Go.Proofs.Ytdkfpgdfjnaciaa.SL
