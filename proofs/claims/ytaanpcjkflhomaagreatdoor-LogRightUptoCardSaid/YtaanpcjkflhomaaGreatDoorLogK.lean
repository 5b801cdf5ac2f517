/-
  What logBegun says, in plain Lean.
-/
import Derived.Test.YtaanpcjkflhomaaGreatDoorLogI
set_option maxHeartbeats 20000000
set_option maxRecDepth 100000
set_option linter.unusedSimpArgs false
set_option linter.unusedVariables false
namespace Go.Proofs.YtaanpcjkflhomaaGreatDoor
open Go Go.RowKit
def lbX:Cn:=⟨1,0,0,⟨#[120,46,121]⟩,⟨#[104,105]⟩⟩
def lbY:Cn:=⟨2,1,2,⟨#[]⟩,⟨#[]⟩⟩
def lbS:ByteArray:=⟨#[1,0,0,3,120,46,121,2,104,105]⟩
def lbT:ByteArray:=⟨#[2,1,2,0,0]⟩
theorem Acf:F0 lbX=0∧Gc lbX=lbS:=by constructor<;>kernel_rfl
theorem Acg:F0 lbY=0∧Gc lbY=lbT:=by constructor<;>kernel_rfl
theorem Ach:F0 ⟨0,256,0,⟨#[]⟩,⟨#[]⟩⟩=3∧Gc ⟨0,256,0,⟨#[]⟩,⟨#[]⟩⟩=⟨#[]⟩:=by constructor<;>kernel_rfl
theorem V3:Dd (lbS++lbT++⟨#[1]⟩)=0∧Dq (lbS++lbT++⟨#[1]⟩)=[lbX,lbY]∧J4 (lbS++lbT++⟨#[1]⟩)=15:=by
 refine⟨?_,?_,?_⟩<;>kernel_rfl
theorem Z5:Dd (lbS++lbT)=0∧Dq (lbS++lbT)=[lbX,lbY]:=by constructor<;>kernel_rfl
theorem Ayo:E2 Ae Bn Vk=7:=by kernel_rfl
end Go.Proofs.YtaanpcjkflhomaaGreatDoor
