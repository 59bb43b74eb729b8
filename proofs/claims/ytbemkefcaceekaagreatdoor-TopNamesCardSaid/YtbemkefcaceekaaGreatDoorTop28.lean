/- Top28: the run's lines: closed checks. -/
import Derived.Test.YtbemkefcaceekaaGreatDoorTop27
set_option linter.unusedVariables false
set_option linter.unusedSimpArgs false
set_option maxRecDepth 100000
namespace Go.Proofs.YtbemkefcaceekaaGreatDoor
open Go.RowKit Go.Lib Go.Shelf Go.Proofs.YtbemkefcaceekaaGreatDoorW.PrintWords Go.Proofs.YtbemkefcaceekaaGreatDoorW.PrintLast

def scr : ByteArray := ⟨([114, 101, 103, 105, 115, 116, 101, 114, 32, 48, 32, 97, 110, 110, 10, 111, 112, 101, 110, 32, 48, 32, 118, 97, 115, 101, 10, 98, 105, 100, 32, 48].append [32, 48, 46, 49, 32, 97, 110, 110, 32, 53, 10, 99, 108, 111, 115, 101, 32, 48, 32, 48, 46, 49, 10, 119, 105, 110, 110, 101, 114, 32, 48, 46, 49]).toArray⟩
def ln0 : ByteArray := ⟨#[114, 101, 103, 105, 115, 116, 101, 114, 32, 48, 32, 97, 110, 110]⟩
def ln1 : ByteArray := ⟨#[111, 112, 101, 110, 32, 48, 32, 118, 97, 115, 101]⟩
def ln2 : ByteArray := ⟨#[98, 105, 100, 32, 48, 32, 48, 46, 49, 32, 97, 110, 110, 32, 53]⟩
def ln3 : ByteArray := ⟨#[99, 108, 111, 115, 101, 32, 48, 32, 48, 46, 49]⟩
def ln4 : ByteArray := ⟨#[119, 105, 110, 110, 101, 114, 32, 48, 46, 49]⟩
def lns : List ByteArray := [ln0, ln1, ln2, ln3, ln4]
def ps0 : List ByteArray := [⟨#[114, 101, 103, 105, 115, 116, 101, 114]⟩, ⟨#[48]⟩, ⟨#[97, 110, 110]⟩]
def ps1 : List ByteArray := [⟨#[111, 112, 101, 110]⟩, ⟨#[48]⟩, ⟨#[118, 97, 115, 101]⟩]
def ps2 : List ByteArray := [⟨#[98, 105, 100]⟩, ⟨#[48]⟩, ⟨#[48, 46, 49]⟩, ⟨#[97, 110, 110]⟩, ⟨#[53]⟩]
def ps3 : List ByteArray := [⟨#[99, 108, 111, 115, 101]⟩, ⟨#[48]⟩, ⟨#[48, 46, 49]⟩]
def ps4 : List ByteArray := [⟨#[119, 105, 110, 110, 101, 114]⟩, ⟨#[48, 46, 49]⟩]
def pss : Nat → List ByteArray
  | 0 => ps0
  | 1 => ps1
  | 2 => ps2
  | 3 => ps3
  | _ => ps4
theorem scr_parts : Parts scr ⟨#[10]⟩ lns := ⟨by decide +kernel, by kernel_rfl, by kernel_rfl, by decide⟩
theorem ln0_parts : Parts ln0 ⟨#[32]⟩ ps0 := ⟨by decide +kernel, by kernel_rfl, by kernel_rfl, by decide⟩
theorem ln1_parts : Parts ln1 ⟨#[32]⟩ ps1 := ⟨by decide +kernel, by kernel_rfl, by kernel_rfl, by decide⟩
theorem ln2_parts : Parts ln2 ⟨#[32]⟩ ps2 := ⟨by decide +kernel, by kernel_rfl, by kernel_rfl, by decide⟩
theorem ln3_parts : Parts ln3 ⟨#[32]⟩ ps3 := ⟨by decide +kernel, by kernel_rfl, by kernel_rfl, by decide⟩
theorem ln4_parts : Parts ln4 ⟨#[32]⟩ ps4 := ⟨by decide +kernel, by kernel_rfl, by kernel_rfl, by decide⟩
theorem sp0 : Spells ⟨#[48]⟩ 0 := ⟨by kernel_rfl, by decide, by decide, by kernel_rfl⟩
theorem sp1 : Spells ⟨#[49]⟩ 1 := ⟨by kernel_rfl, by decide, by decide, by kernel_rfl⟩
theorem sp5 : Spells ⟨#[53]⟩ 5 := ⟨by kernel_rfl, by decide, by decide, by kernel_rfl⟩
theorem cut01 : Lib.cut (ByteArray.mk #[48, 46, 49]).data.toList [46] = ((ByteArray.mk #[48]).data.toList, (ByteArray.mk #[49]).data.toList, true) := by kernel_rfl
def annT : ByteArray := ⟨#[97, 110, 110]⟩
def vaseT : ByteArray := ⟨#[118, 97, 115, 101]⟩
theorem ann_fold : ByteArray.mk (foldL (CH annT)).toArray = annT := by kernel_rfl
theorem ann_good : goodL (CH annT) = true := by kernel_rfl
theorem vase_good : goodL (CH vaseT) = true := by kernel_rfl
theorem fold_none : ByteArray.mk (foldL (CH ⟨#[]⟩)).toArray = ⟨#[]⟩ := by kernel_rfl
/-- What the lines tell. -/
def tells : Nat → ByteArray
  | 0 => showL 0 1 ++ doneT
  | 1 => showL 0 1
  | 2 => showL 0 2
  | 3 => showL 0 2 ++ doneT
  | _ => winL 2 annT 5
def told : ByteArray := ⟨#[48, 46, 49, 32, 100, 111, 110, 101, 10, 48, 46, 49, 10, 48, 46, 50, 10, 48, 46, 50, 32, 100, 111, 110, 101, 10, 48, 46, 50, 32, 97, 110, 110, 32, 53, 10]⟩
theorem tells_told : (⟨(outs tells lns.length).toArray⟩ : ByteArray) = told := by kernel_rfl
theorem tells_size : ∀ i, (tells i).size ≤ 100
  | 0 => by decide +kernel
  | 1 => by decide +kernel
  | 2 => by decide +kernel
  | 3 => by decide +kernel
  | (n + 4) => by
    show (winL 2 annT 5).size ≤ 100
    decide +kernel
end Go.Proofs.YtbemkefcaceekaaGreatDoor
