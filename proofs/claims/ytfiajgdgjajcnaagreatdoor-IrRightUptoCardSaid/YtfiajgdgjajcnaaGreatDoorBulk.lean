/-
  How much there is of an argument, by value and by the row's own count. Conditions: none.
-/
import Derived.Test.YtfiajgdgjajcnaaGreatDoorAmC
import Derived.Test.YtfiajgdgjajcnaaGreatDoorRows
namespace AmT
open Go Am Go.Proofs
variable {H : Type}

mutual
theorem bulk_le : ∀ d : DataW H, bulkL (cellsD d) ≤ Go.Proofs.YtfiajgdgjajcnaaGreatDoor.Rows.uptoBulk d
  | .lit l => by cases l <;> simp [cellsD, bulkL, bulkV, Go.Proofs.YtfiajgdgjajcnaaGreatDoor.Rows.uptoBulk]
  | .nil => by simp [cellsD, bulkL, bulkV, Go.Proofs.YtfiajgdgjajcnaaGreatDoor.Rows.uptoBulk]
  | .slice es sp => by
    have := bulk_leE es
    simp only [cellsD, bulkL, bulkV, Go.Proofs.YtfiajgdgjajcnaaGreatDoor.Rows.uptoBulk]; omega
  | .agg ps => by
    have := bulk_leA ps
    simp only [cellsD, Go.Proofs.YtfiajgdgjajcnaaGreatDoor.Rows.uptoBulk]; omega
  | .ptr d => by simp [cellsD, bulkL]
  | .iface _ d => by simp [cellsD, bulkL]
  | .map _ => by simp [cellsD, bulkL]
  | .held _ => by simp [cellsD, bulkL]
theorem bulk_leE : ∀ l : List (DataW H), bulkL (elemsD l) ≤ Go.Proofs.YtfiajgdgjajcnaaGreatDoor.Rows.uptoBulkAll l
  | [] => by simp [elemsD, bulkL]
  | d :: l => by
    have h1 := bulk_le d
    have h2 := bulk_leE l
    simp only [elemsD, bulkL, bulkV, Go.Proofs.YtfiajgdgjajcnaaGreatDoor.Rows.uptoBulkAll]; omega
theorem bulk_leA : ∀ l : List (DataW H), bulkL (cellsDL l) ≤ Go.Proofs.YtfiajgdgjajcnaaGreatDoor.Rows.uptoBulkAll l
  | [] => by simp [cellsDL, bulkL]
  | d :: l => by
    have h1 := bulk_le d
    have h2 := bulk_leA l
    simp only [cellsDL, bulkL_append, Go.Proofs.YtfiajgdgjajcnaaGreatDoor.Rows.uptoBulkAll]; omega
end
end AmT
