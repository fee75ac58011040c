/- The example calendar: what the chapter's functions answer. -/
import Derived.Test.YtfchchmmjabjnaaDoorWu
import Derived.Test.YtfchchmmjabjnaaDoorWz
namespace Go.Proofs.YtfchchmmjabjnaaDoor
open Go Go.RowKit

def sWall : ByteArray := ⟨#[119, 97, 108, 108]⟩
def sCanal : ByteArray := ⟨#[99, 97, 110, 97, 108]⟩
def sUr : ByteArray := ⟨#[117, 114]⟩
def sSi : ByteArray := ⟨#[115, 105]⟩
def exYr : Nat → Yr
  | 0 => ⟨0, sWall, 4095, 0⟩
  | 1 => ⟨0, sCanal, 0, 6⟩
  | _ => ⟨1, sWall, 4095, 0⟩
def exKg : Nat → ByteArray
  | 0 => sUr
  | _ => sSi
def exCal : Cal := ⟨2, exKg, 3, exYr⟩
theorem ex_chk : exCal.chk = 0 := by kernel_rfl
theorem ex_num : exCal.numV ⟨1, 6, true, 1⟩ = 535 := by kernel_rfl
theorem ex_numE : exCal.inE ⟨1, 6, true, 1⟩ = 0 := by kernel_rfl
theorem ex_at : exCal.atV 1097 = ⟨2, 12, false, 30⟩ := by kernel_rfl
theorem ex_atE : exCal.atE 1097 = 0 := by kernel_rfl
theorem ex_atE2 : exCal.atE 1098 = 8 := by kernel_rfl
theorem ex_sch : exCal.schV ⟨0, 12, false, 30⟩ ⟨1, 2, false, 1⟩ = 31 := by kernel_rfl
theorem ex_bet : exCal.betV ⟨0, 12, false, 30⟩ ⟨1, 2, false, 1⟩ = 30 := by kernel_rfl
theorem ex_in2 : exCal.in2E ⟨0, 12, false, 30⟩ ⟨1, 2, false, 1⟩ = 0 := by kernel_rfl
def t1 : ByteArray := ⟨#[49, 50, 43, 47, 45, 47, 43, 119, 97, 108, 108, 64, 117, 114]⟩
def t2 : ByteArray := ⟨#[48, 49, 47, 49, 47, 45]⟩
def t3 : ByteArray := ⟨#[50, 57, 43, 47, 49, 47, 45]⟩
def t4 : ByteArray := ⟨#[45, 47, 49, 50, 47, 119, 97, 108, 108]⟩
def t5 : ByteArray := ⟨#[45, 47, 45, 47, 99, 97, 110, 97, 108]⟩
def t6 : ByteArray := ⟨#[49, 47, 49, 47, 45]⟩
def t7 : ByteArray := ⟨#[45, 47, 45, 47, 119, 97, 108, 108, 64, 117, 114]⟩
def noS : ByteArray := ⟨#[]⟩
theorem ex_p1 : parseS t1 = some ⟨12, true, 0, false, sWall, 1, sUr⟩ := by kernel_rfl
theorem ex_p2 : parseS t2 = none := by kernel_rfl
theorem ex_p3 : parseS t3 = some ⟨29, true, 1, false, noS, 0, noS⟩ := by kernel_rfl
theorem ex_p4 : parseS t4 = some ⟨0, false, 12, false, sWall, 0, noS⟩ := by kernel_rfl
theorem ex_p5 : parseS t5 = some ⟨0, false, 0, false, sCanal, 0, noS⟩ := by kernel_rfl
theorem ex_p6 : parseS t6 = some ⟨1, false, 1, false, noS, 0, noS⟩ := by kernel_rfl
theorem ex_p7 : parseS t7 = some ⟨0, false, 0, false, sWall, 0, sUr⟩ := by kernel_rfl
theorem ex_sp : exCal.spV ⟨29, true, 1, false, noS, 0, noS⟩ = [⟨29, 30⟩, ⟨389, 389⟩, ⟨766, 767⟩] := by kernel_rfl
theorem ex_spE : exCal.spE ⟨29, true, 1, false, noS, 0, noS⟩ = 0 := by kernel_rfl
def serA : Nat → Tr
  | 0 => ⟨0, false, 12, false, sWall, 0, noS⟩
  | 1 => ⟨0, false, 0, false, sCanal, 0, noS⟩
  | _ => ⟨1, false, 1, false, noS, 0, noS⟩
def serB : Nat → Tr
  | 0 => ⟨0, false, 0, false, sCanal, 0, noS⟩
  | _ => ⟨0, false, 0, false, sWall, 0, sUr⟩
theorem ex_ser : exCal.serV serA 3 = [⟨331, 360⟩, ⟨361, 737⟩, ⟨361, 738⟩] := by kernel_rfl
theorem ex_serE : exCal.serE serA 3 = 0 := by kernel_rfl
theorem ex_serB : exCal.serE serB 2 = 73 := by kernel_rfl
end Go.Proofs.YtfchchmmjabjnaaDoor
