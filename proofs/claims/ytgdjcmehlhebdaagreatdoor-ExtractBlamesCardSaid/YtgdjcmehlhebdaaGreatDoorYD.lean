/- Walks: the law of items -/
import Derived.Test.YtgdjcmehlhebdaaGreatDoorYQ
set_option maxHeartbeats 25600000
namespace Go.Proofs.YtgdjcmehlhebdaaGreatDoor
open _root_.Go.Proofs.Tryz
open Go.E
set_option maxRecDepth 4000
theorem J8 : zae prog 8 := ⟨_, func8, by kernel_rfl, rfl⟩
theorem J9 : zae prog 9 := ⟨_, func9, by kernel_rfl, rfl⟩
theorem J13 : zae prog 13 := ⟨_, func13, by kernel_rfl, rfl⟩
theorem J15 : zae prog 15 := ⟨_, func15, by kernel_rfl, rfl⟩
theorem J16 : zae prog 16 := ⟨_, func16, by kernel_rfl, rfl⟩
end Go.Proofs.YtgdjcmehlhebdaaGreatDoor
