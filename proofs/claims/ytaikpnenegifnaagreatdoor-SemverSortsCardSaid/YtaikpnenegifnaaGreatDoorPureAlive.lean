/- The laws' own example (alive) answers true, in plain Lean. -/
import Derived.Test.YtaikpnenegifnaaGreatDoorXMx8
import Derived.Test.YtaikpnenegifnaaGreatDoorHParse
namespace Go.Proofs.YtaikpnenegifnaaGreatDoor
set_option linter.unusedSimpArgs false
set_option linter.unusedVariables false
open Go.RowKit Go.Proofs.YtaikpnenegifnaaGreatDoorW.PrintWords Go.Proofs.YtaikpnenegifnaaGreatDoor.XM
set_option maxRecDepth 100000 in
theorem alive_true : touchstonelaw05_alive.f = some true := by
  have h1 : semver_Parse.f ⟨#[49, 46, 50, 48, 46, 51]⟩ = some (1, 20, 3, 0) := by kernel_rfl
  have h2 : semver_Next.f 1 2 3 2 = some (1, 3, 0, 0) := by kernel_rfl
  have w0 : wrap64 0 = 0 := by unfold wrap64; omega
  unfold touchstonelaw05_alive.f
  simp [h1, h2, touchstonelaw01_No.f, semver_Gap.f, w0]
end Go.Proofs.YtaikpnenegifnaaGreatDoor
