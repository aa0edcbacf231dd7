/- FnExactDashed: the program is as the reading takes it. -/
import Derived.Test.YtigkodlbjimikaaVpFnExactDashed
import Derived.Test.YtigkodlbjimikaaVcZj
import Derived.KernelRfl
namespace Go.Proofs.Ytigkodlbjimikaa.VFnExactDashed
open Go Go.RowKit Go.Proofs.Ytigkodlbjimikaa.Vc
set_option maxRecDepth 1000000
theorem types_ok : (tys.all fun p => tyRow Try.prog ⟨tys, fns⟩ p.1 p.2) = true := by kernel_rfl
theorem funcs_ok : AllF (fun p : Nat × Func => Try.prog.funcs[p.1]? = some p.2 ∧ (p.2.name == "runtime.NumGoroutine") = false) fns := ⟨⟨Try.func97, by kernel_rfl⟩, ⟨⟨Try.func32, by kernel_rfl⟩, ⟨⟨Try.func175, by kernel_rfl⟩, ⟨⟨Try.func102, by kernel_rfl⟩, ⟨⟨Try.func34, by kernel_rfl⟩, ⟨⟨Try.func35, by kernel_rfl⟩, ⟨⟨Try.func98, by kernel_rfl⟩, ⟨⟨Try.func135, by kernel_rfl⟩, ⟨⟨Try.func99, by kernel_rfl⟩, ⟨⟨Try.func100, by kernel_rfl⟩, ⟨⟨Try.func171, by kernel_rfl⟩, ⟨⟨Try.func172, by kernel_rfl⟩, ⟨⟨Try.func219, by kernel_rfl⟩, ⟨⟨Try.func220, by kernel_rfl⟩, ⟨⟨Try.func221, by kernel_rfl⟩, ⟨⟨Try.func174, by kernel_rfl⟩, ⟨⟨Try.func222, by kernel_rfl⟩, ⟨⟨Try.func173, by kernel_rfl⟩, ⟨⟨Try.func101, by kernel_rfl⟩, ⟨⟨Try.func33, by kernel_rfl⟩, ⟨⟨Try.func103, by kernel_rfl⟩, ⟨⟨Try.func176, by kernel_rfl⟩, ⟨⟨Try.func104, by kernel_rfl⟩, ⟨⟨Try.func105, by kernel_rfl⟩, ⟨⟨Try.func177, by kernel_rfl⟩, ⟨⟨Try.func106, by kernel_rfl⟩, ⟨⟨Try.func223, by kernel_rfl⟩, ⟨⟨Try.func178, by kernel_rfl⟩, ⟨⟨Try.func156, by kernel_rfl⟩, ⟨⟨Try.func108, by kernel_rfl⟩, ⟨⟨Try.func179, by kernel_rfl⟩, ⟨⟨Try.func107, by kernel_rfl⟩, ⟨⟨Try.func109, by kernel_rfl⟩, ⟨⟨Try.func36, by kernel_rfl⟩, ⟨⟨Try.func180, by kernel_rfl⟩, ⟨⟨Try.func110, by kernel_rfl⟩, ⟨⟨Try.func37, by kernel_rfl⟩, ⟨⟨Try.func27, by kernel_rfl⟩, ⟨⟨Try.func38, by kernel_rfl⟩, ⟨⟨Try.func95, by kernel_rfl⟩, ⟨⟨Try.func39, by kernel_rfl⟩, ⟨⟨Try.func40, by kernel_rfl⟩, ⟨⟨Try.func30, by kernel_rfl⟩, ⟨⟨Try.func96, by kernel_rfl⟩, ⟨⟨Try.func31, by kernel_rfl⟩, ⟨⟨Try.func5, by kernel_rfl⟩, trivial⟩⟩⟩⟩⟩⟩⟩⟩⟩⟩⟩⟩⟩⟩⟩⟩⟩⟩⟩⟩⟩⟩⟩⟩⟩⟩⟩⟩⟩⟩⟩⟩⟩⟩⟩⟩⟩⟩⟩⟩⟩⟩⟩⟩⟩⟩
theorem sigs_ok : sigs.all sigOk = true := by kernel_rfl
theorem prog_ok : ProgOk Try.prog prog := ⟨envOk_of types_ok funcs_ok, by kernel_rfl, sigs_ok⟩

end Go.Proofs.Ytigkodlbjimikaa.VFnExactDashed
