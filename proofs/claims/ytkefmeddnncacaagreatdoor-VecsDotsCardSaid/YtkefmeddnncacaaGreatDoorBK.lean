/- The laws' Book of lists of parts: kept, filled, grown, looked at, apart. -/
import Derived.Test.YtkefmeddnncacaaGreatDoorNA
import Derived.Test.YtkefmeddnncacaaGreatDoorCa
import Derived.Test.YtkefmeddnncacaaGreatDoorIA
import Derived.Deep.RegionLaw
import Derived.BigQuiet
/- the laws' Book: kinds of which nothing is held. -/
set_option linter.unusedVariables false
set_option linter.unusedSimpArgs false
set_option maxRecDepth 100000
namespace Go.Proofs.YtkefmeddnncacaaGreatDoor
open Go.RowKit

theorem fillByte_nil (w : World) (g : Nat) (hc : w.cell? ⟨g, 1, none⟩ = some (.slice none 0 0)) :
    Calls Tryz.prog 106 #[.pointer (some ⟨g, 0, none⟩)] w fun e w' => (∃ v, e = .returned v) ∧ w' = w := by
  refine opq fun R hR => ?_
  go_enter Tryz.func106, Tryz.ntmps106
  go_wp2
  go_loopw [2] (fun iv wr => iv = .int .i64 0 ∧ wr = w) (fun _ _ => 0)
  case atStart => exact ⟨rfl, rfl⟩
  case round =>
    obtain ⟨rfl, rfl⟩ := hrel
    go_wp2
    go_end0
    exact opq_end hR ⟨⟨_, rfl⟩, rfl⟩
theorem growByte_nil (w : World) (g : Nat) (hc : w.cell? ⟨g, 1, none⟩ = some (.slice none 0 0)) :
    Calls Tryz.prog 118 #[.pointer (some ⟨g, 0, none⟩)] w fun e w' => (∃ v, e = .returned v) ∧ w' = w := by
  refine opq fun R hR => ?_
  go_enter Tryz.func118, Tryz.ntmps118
  go_wp2
  go_loopw [2] (fun iv wr => iv = .int .i64 0 ∧ wr = w) (fun _ _ => 0)
  case atStart => exact ⟨rfl, rfl⟩
  case round =>
    obtain ⟨rfl, rfl⟩ := hrel
    go_wp2
    go_end0
    exact opq_end hR ⟨⟨_, rfl⟩, rfl⟩
theorem lookByte_nil (w : World) (g : Nat) (hc : w.cell? ⟨g, 1, none⟩ = some (.slice none 0 0)) :
    Calls Tryz.prog 130 #[.pointer (some ⟨g, 0, none⟩)] w fun e w' => e = .returned (.bool true) ∧ w' = w := by
  refine opq fun R hR => ?_
  go_enter Tryz.func130, Tryz.ntmps130
  go_wp2
  go_loopw [3] (fun iv wr => iv = .int .i64 0 ∧ wr = w) (fun _ _ => 0)
  case atStart => exact ⟨rfl, rfl⟩
  case round =>
    obtain ⟨rfl, rfl⟩ := hrel
    go_wp2
    exact opq_end hR ⟨rfl, rfl⟩
theorem fillNum_nil (w : World) (g : Nat) (hc : w.cell? ⟨g, 3, none⟩ = some (.slice none 0 0)) :
    Calls Tryz.prog 108 #[.pointer (some ⟨g, 0, none⟩)] w fun e w' => (∃ v, e = .returned v) ∧ w' = w := by
  refine opq fun R hR => ?_
  go_enter Tryz.func108, Tryz.ntmps108
  go_wp2
  go_loopw [2] (fun iv wr => iv = .int .i64 0 ∧ wr = w) (fun _ _ => 0)
  case atStart => exact ⟨rfl, rfl⟩
  case round =>
    obtain ⟨rfl, rfl⟩ := hrel
    go_wp2
    go_end0
    exact opq_end hR ⟨⟨_, rfl⟩, rfl⟩
theorem growNum_nil (w : World) (g : Nat) (hc : w.cell? ⟨g, 3, none⟩ = some (.slice none 0 0)) :
    Calls Tryz.prog 120 #[.pointer (some ⟨g, 0, none⟩)] w fun e w' => (∃ v, e = .returned v) ∧ w' = w := by
  refine opq fun R hR => ?_
  go_enter Tryz.func120, Tryz.ntmps120
  go_wp2
  go_loopw [2] (fun iv wr => iv = .int .i64 0 ∧ wr = w) (fun _ _ => 0)
  case atStart => exact ⟨rfl, rfl⟩
  case round =>
    obtain ⟨rfl, rfl⟩ := hrel
    go_wp2
    go_end0
    exact opq_end hR ⟨⟨_, rfl⟩, rfl⟩
theorem lookNum_nil (w : World) (g : Nat) (hc : w.cell? ⟨g, 3, none⟩ = some (.slice none 0 0)) :
    Calls Tryz.prog 132 #[.pointer (some ⟨g, 0, none⟩)] w fun e w' => e = .returned (.bool true) ∧ w' = w := by
  refine opq fun R hR => ?_
  go_enter Tryz.func132, Tryz.ntmps132
  go_wp2
  go_loopw [3] (fun iv wr => iv = .int .i64 0 ∧ wr = w) (fun _ _ => 0)
  case atStart => exact ⟨rfl, rfl⟩
  case round =>
    obtain ⟨rfl, rfl⟩ := hrel
    go_wp2
    exact opq_end hR ⟨rfl, rfl⟩
theorem fillBool_nil (w : World) (g : Nat) (hc : w.cell? ⟨g, 4, none⟩ = some (.slice none 0 0)) :
    Calls Tryz.prog 109 #[.pointer (some ⟨g, 0, none⟩)] w fun e w' => (∃ v, e = .returned v) ∧ w' = w := by
  refine opq fun R hR => ?_
  go_enter Tryz.func109, Tryz.ntmps109
  go_wp2
  go_loopw [2] (fun iv wr => iv = .int .i64 0 ∧ wr = w) (fun _ _ => 0)
  case atStart => exact ⟨rfl, rfl⟩
  case round =>
    obtain ⟨rfl, rfl⟩ := hrel
    go_wp2
    go_end0
    exact opq_end hR ⟨⟨_, rfl⟩, rfl⟩
theorem growBool_nil (w : World) (g : Nat) (hc : w.cell? ⟨g, 4, none⟩ = some (.slice none 0 0)) :
    Calls Tryz.prog 121 #[.pointer (some ⟨g, 0, none⟩)] w fun e w' => (∃ v, e = .returned v) ∧ w' = w := by
  refine opq fun R hR => ?_
  go_enter Tryz.func121, Tryz.ntmps121
  go_wp2
  go_loopw [2] (fun iv wr => iv = .int .i64 0 ∧ wr = w) (fun _ _ => 0)
  case atStart => exact ⟨rfl, rfl⟩
  case round =>
    obtain ⟨rfl, rfl⟩ := hrel
    go_wp2
    go_end0
    exact opq_end hR ⟨⟨_, rfl⟩, rfl⟩
theorem lookBool_nil (w : World) (g : Nat) (hc : w.cell? ⟨g, 4, none⟩ = some (.slice none 0 0)) :
    Calls Tryz.prog 133 #[.pointer (some ⟨g, 0, none⟩)] w fun e w' => e = .returned (.bool true) ∧ w' = w := by
  refine opq fun R hR => ?_
  go_enter Tryz.func133, Tryz.ntmps133
  go_wp2
  go_loopw [3] (fun iv wr => iv = .int .i64 0 ∧ wr = w) (fun _ _ => 0)
  case atStart => exact ⟨rfl, rfl⟩
  case round =>
    obtain ⟨rfl, rfl⟩ := hrel
    go_wp2
    exact opq_end hR ⟨rfl, rfl⟩
theorem fillText_nil (w : World) (g : Nat) (hc : w.cell? ⟨g, 5, none⟩ = some (.slice none 0 0)) :
    Calls Tryz.prog 110 #[.pointer (some ⟨g, 0, none⟩)] w fun e w' => (∃ v, e = .returned v) ∧ w' = w := by
  refine opq fun R hR => ?_
  go_enter Tryz.func110, Tryz.ntmps110
  go_wp2
  go_loopw [2] (fun iv wr => iv = .int .i64 0 ∧ wr = w) (fun _ _ => 0)
  case atStart => exact ⟨rfl, rfl⟩
  case round =>
    obtain ⟨rfl, rfl⟩ := hrel
    go_wp2
    go_end0
    exact opq_end hR ⟨⟨_, rfl⟩, rfl⟩
theorem growText_nil (w : World) (g : Nat) (hc : w.cell? ⟨g, 5, none⟩ = some (.slice none 0 0)) :
    Calls Tryz.prog 122 #[.pointer (some ⟨g, 0, none⟩)] w fun e w' => (∃ v, e = .returned v) ∧ w' = w := by
  refine opq fun R hR => ?_
  go_enter Tryz.func122, Tryz.ntmps122
  go_wp2
  go_loopw [2] (fun iv wr => iv = .int .i64 0 ∧ wr = w) (fun _ _ => 0)
  case atStart => exact ⟨rfl, rfl⟩
  case round =>
    obtain ⟨rfl, rfl⟩ := hrel
    go_wp2
    go_end0
    exact opq_end hR ⟨⟨_, rfl⟩, rfl⟩
theorem lookText_nil (w : World) (g : Nat) (hc : w.cell? ⟨g, 5, none⟩ = some (.slice none 0 0)) :
    Calls Tryz.prog 134 #[.pointer (some ⟨g, 0, none⟩)] w fun e w' => e = .returned (.bool true) ∧ w' = w := by
  refine opq fun R hR => ?_
  go_enter Tryz.func134, Tryz.ntmps134
  go_wp2
  go_loopw [3] (fun iv wr => iv = .int .i64 0 ∧ wr = w) (fun _ _ => 0)
  case atStart => exact ⟨rfl, rfl⟩
  case round =>
    obtain ⟨rfl, rfl⟩ := hrel
    go_wp2
    exact opq_end hR ⟨rfl, rfl⟩
theorem fillToken_nil (w : World) (g : Nat) (hc : w.cell? ⟨g, 6, none⟩ = some (.slice none 0 0)) :
    Calls Tryz.prog 111 #[.pointer (some ⟨g, 0, none⟩)] w fun e w' => (∃ v, e = .returned v) ∧ w' = w := by
  refine opq fun R hR => ?_
  go_enter Tryz.func111, Tryz.ntmps111
  go_wp2
  go_loopw [2] (fun iv wr => iv = .int .i64 0 ∧ wr = w) (fun _ _ => 0)
  case atStart => exact ⟨rfl, rfl⟩
  case round =>
    obtain ⟨rfl, rfl⟩ := hrel
    go_wp2
    go_end0
    exact opq_end hR ⟨⟨_, rfl⟩, rfl⟩
theorem growToken_nil (w : World) (g : Nat) (hc : w.cell? ⟨g, 6, none⟩ = some (.slice none 0 0)) :
    Calls Tryz.prog 123 #[.pointer (some ⟨g, 0, none⟩)] w fun e w' => (∃ v, e = .returned v) ∧ w' = w := by
  refine opq fun R hR => ?_
  go_enter Tryz.func123, Tryz.ntmps123
  go_wp2
  go_loopw [2] (fun iv wr => iv = .int .i64 0 ∧ wr = w) (fun _ _ => 0)
  case atStart => exact ⟨rfl, rfl⟩
  case round =>
    obtain ⟨rfl, rfl⟩ := hrel
    go_wp2
    go_end0
    exact opq_end hR ⟨⟨_, rfl⟩, rfl⟩
theorem lookToken_nil (w : World) (g : Nat) (hc : w.cell? ⟨g, 6, none⟩ = some (.slice none 0 0)) :
    Calls Tryz.prog 135 #[.pointer (some ⟨g, 0, none⟩)] w fun e w' => e = .returned (.bool true) ∧ w' = w := by
  refine opq fun R hR => ?_
  go_enter Tryz.func135, Tryz.ntmps135
  go_wp2
  go_loopw [3] (fun iv wr => iv = .int .i64 0 ∧ wr = w) (fun _ _ => 0)
  case atStart => exact ⟨rfl, rfl⟩
  case round =>
    obtain ⟨rfl, rfl⟩ := hrel
    go_wp2
    exact opq_end hR ⟨rfl, rfl⟩
theorem fillTenant_nil (w : World) (g : Nat) (hc : w.cell? ⟨g, 7, none⟩ = some (.slice none 0 0)) :
    Calls Tryz.prog 112 #[.pointer (some ⟨g, 0, none⟩)] w fun e w' => (∃ v, e = .returned v) ∧ w' = w := by
  refine opq fun R hR => ?_
  go_enter Tryz.func112, Tryz.ntmps112
  go_wp2
  go_loopw [2] (fun iv wr => iv = .int .i64 0 ∧ wr = w) (fun _ _ => 0)
  case atStart => exact ⟨rfl, rfl⟩
  case round =>
    obtain ⟨rfl, rfl⟩ := hrel
    go_wp2
    go_end0
    exact opq_end hR ⟨⟨_, rfl⟩, rfl⟩
theorem growTenant_nil (w : World) (g : Nat) (hc : w.cell? ⟨g, 7, none⟩ = some (.slice none 0 0)) :
    Calls Tryz.prog 124 #[.pointer (some ⟨g, 0, none⟩)] w fun e w' => (∃ v, e = .returned v) ∧ w' = w := by
  refine opq fun R hR => ?_
  go_enter Tryz.func124, Tryz.ntmps124
  go_wp2
  go_loopw [2] (fun iv wr => iv = .int .i64 0 ∧ wr = w) (fun _ _ => 0)
  case atStart => exact ⟨rfl, rfl⟩
  case round =>
    obtain ⟨rfl, rfl⟩ := hrel
    go_wp2
    go_end0
    exact opq_end hR ⟨⟨_, rfl⟩, rfl⟩
theorem lookTenant_nil (w : World) (g : Nat) (hc : w.cell? ⟨g, 7, none⟩ = some (.slice none 0 0)) :
    Calls Tryz.prog 136 #[.pointer (some ⟨g, 0, none⟩)] w fun e w' => e = .returned (.bool true) ∧ w' = w := by
  refine opq fun R hR => ?_
  go_enter Tryz.func136, Tryz.ntmps136
  go_wp2
  go_loopw [3] (fun iv wr => iv = .int .i64 0 ∧ wr = w) (fun _ _ => 0)
  case atStart => exact ⟨rfl, rfl⟩
  case round =>
    obtain ⟨rfl, rfl⟩ := hrel
    go_wp2
    exact opq_end hR ⟨rfl, rfl⟩
theorem fillVar_nil (w : World) (g : Nat) (hc : w.cell? ⟨g, 9, none⟩ = some (.slice none 0 0)) :
    Calls Tryz.prog 114 #[.pointer (some ⟨g, 0, none⟩)] w fun e w' => (∃ v, e = .returned v) ∧ w' = w := by
  refine opq fun R hR => ?_
  go_enter Tryz.func114, Tryz.ntmps114
  go_wp2
  go_loopw [2] (fun iv wr => iv = .int .i64 0 ∧ wr = w) (fun _ _ => 0)
  case atStart => exact ⟨rfl, rfl⟩
  case round =>
    obtain ⟨rfl, rfl⟩ := hrel
    go_wp2
    go_end0
    exact opq_end hR ⟨⟨_, rfl⟩, rfl⟩
theorem growVar_nil (w : World) (g : Nat) (hc : w.cell? ⟨g, 9, none⟩ = some (.slice none 0 0)) :
    Calls Tryz.prog 126 #[.pointer (some ⟨g, 0, none⟩)] w fun e w' => (∃ v, e = .returned v) ∧ w' = w := by
  refine opq fun R hR => ?_
  go_enter Tryz.func126, Tryz.ntmps126
  go_wp2
  go_loopw [2] (fun iv wr => iv = .int .i64 0 ∧ wr = w) (fun _ _ => 0)
  case atStart => exact ⟨rfl, rfl⟩
  case round =>
    obtain ⟨rfl, rfl⟩ := hrel
    go_wp2
    go_end0
    exact opq_end hR ⟨⟨_, rfl⟩, rfl⟩
theorem lookVar_nil (w : World) (g : Nat) (hc : w.cell? ⟨g, 9, none⟩ = some (.slice none 0 0)) :
    Calls Tryz.prog 138 #[.pointer (some ⟨g, 0, none⟩)] w fun e w' => e = .returned (.bool true) ∧ w' = w := by
  refine opq fun R hR => ?_
  go_enter Tryz.func138, Tryz.ntmps138
  go_wp2
  go_loopw [3] (fun iv wr => iv = .int .i64 0 ∧ wr = w) (fun _ _ => 0)
  case atStart => exact ⟨rfl, rfl⟩
  case round =>
    obtain ⟨rfl, rfl⟩ := hrel
    go_wp2
    exact opq_end hR ⟨rfl, rfl⟩
theorem fillRow_nil (w : World) (g : Nat) (hc : w.cell? ⟨g, 10, none⟩ = some (.slice none 0 0)) :
    Calls Tryz.prog 115 #[.pointer (some ⟨g, 0, none⟩)] w fun e w' => (∃ v, e = .returned v) ∧ w' = w := by
  refine opq fun R hR => ?_
  go_enter Tryz.func115, Tryz.ntmps115
  go_wp2
  go_loopw [2] (fun iv wr => iv = .int .i64 0 ∧ wr = w) (fun _ _ => 0)
  case atStart => exact ⟨rfl, rfl⟩
  case round =>
    obtain ⟨rfl, rfl⟩ := hrel
    go_wp2
    go_end0
    exact opq_end hR ⟨⟨_, rfl⟩, rfl⟩
theorem growRow_nil (w : World) (g : Nat) (hc : w.cell? ⟨g, 10, none⟩ = some (.slice none 0 0)) :
    Calls Tryz.prog 127 #[.pointer (some ⟨g, 0, none⟩)] w fun e w' => (∃ v, e = .returned v) ∧ w' = w := by
  refine opq fun R hR => ?_
  go_enter Tryz.func127, Tryz.ntmps127
  go_wp2
  go_loopw [2] (fun iv wr => iv = .int .i64 0 ∧ wr = w) (fun _ _ => 0)
  case atStart => exact ⟨rfl, rfl⟩
  case round =>
    obtain ⟨rfl, rfl⟩ := hrel
    go_wp2
    go_end0
    exact opq_end hR ⟨⟨_, rfl⟩, rfl⟩
theorem lookRow_nil (w : World) (g : Nat) (hc : w.cell? ⟨g, 10, none⟩ = some (.slice none 0 0)) :
    Calls Tryz.prog 139 #[.pointer (some ⟨g, 0, none⟩)] w fun e w' => e = .returned (.bool true) ∧ w' = w := by
  refine opq fun R hR => ?_
  go_enter Tryz.func139, Tryz.ntmps139
  go_wp2
  go_loopw [3] (fun iv wr => iv = .int .i64 0 ∧ wr = w) (fun _ _ => 0)
  case atStart => exact ⟨rfl, rfl⟩
  case round =>
    obtain ⟨rfl, rfl⟩ := hrel
    go_wp2
    exact opq_end hR ⟨rfl, rfl⟩
theorem fillNode_nil (w : World) (g : Nat) (hc : w.cell? ⟨g, 11, none⟩ = some (.slice none 0 0)) :
    Calls Tryz.prog 116 #[.pointer (some ⟨g, 0, none⟩)] w fun e w' => (∃ v, e = .returned v) ∧ w' = w := by
  refine opq fun R hR => ?_
  go_enter Tryz.func116, Tryz.ntmps116
  go_wp2
  go_loopw [2] (fun iv wr => iv = .int .i64 0 ∧ wr = w) (fun _ _ => 0)
  case atStart => exact ⟨rfl, rfl⟩
  case round =>
    obtain ⟨rfl, rfl⟩ := hrel
    go_wp2
    go_end0
    exact opq_end hR ⟨⟨_, rfl⟩, rfl⟩
theorem growNode_nil (w : World) (g : Nat) (hc : w.cell? ⟨g, 11, none⟩ = some (.slice none 0 0)) :
    Calls Tryz.prog 128 #[.pointer (some ⟨g, 0, none⟩)] w fun e w' => (∃ v, e = .returned v) ∧ w' = w := by
  refine opq fun R hR => ?_
  go_enter Tryz.func128, Tryz.ntmps128
  go_wp2
  go_loopw [2] (fun iv wr => iv = .int .i64 0 ∧ wr = w) (fun _ _ => 0)
  case atStart => exact ⟨rfl, rfl⟩
  case round =>
    obtain ⟨rfl, rfl⟩ := hrel
    go_wp2
    go_end0
    exact opq_end hR ⟨⟨_, rfl⟩, rfl⟩
theorem lookNode_nil (w : World) (g : Nat) (hc : w.cell? ⟨g, 11, none⟩ = some (.slice none 0 0)) :
    Calls Tryz.prog 140 #[.pointer (some ⟨g, 0, none⟩)] w fun e w' => e = .returned (.bool true) ∧ w' = w := by
  refine opq fun R hR => ?_
  go_enter Tryz.func140, Tryz.ntmps140
  go_wp2
  go_loopw [3] (fun iv wr => iv = .int .i64 0 ∧ wr = w) (fun _ _ => 0)
  case atStart => exact ⟨rfl, rfl⟩
  case round =>
    obtain ⟨rfl, rfl⟩ := hrel
    go_wp2
    exact opq_end hR ⟨rfl, rfl⟩
theorem fillJob_nil (w : World) (g : Nat) (hc : w.cell? ⟨g, 12, none⟩ = some (.slice none 0 0)) :
    Calls Tryz.prog 117 #[.pointer (some ⟨g, 0, none⟩)] w fun e w' => (∃ v, e = .returned v) ∧ w' = w := by
  refine opq fun R hR => ?_
  go_enter Tryz.func117, Tryz.ntmps117
  go_wp2
  go_loopw [2] (fun iv wr => iv = .int .i64 0 ∧ wr = w) (fun _ _ => 0)
  case atStart => exact ⟨rfl, rfl⟩
  case round =>
    obtain ⟨rfl, rfl⟩ := hrel
    go_wp2
    go_end0
    exact opq_end hR ⟨⟨_, rfl⟩, rfl⟩
theorem growJob_nil (w : World) (g : Nat) (hc : w.cell? ⟨g, 12, none⟩ = some (.slice none 0 0)) :
    Calls Tryz.prog 129 #[.pointer (some ⟨g, 0, none⟩)] w fun e w' => (∃ v, e = .returned v) ∧ w' = w := by
  refine opq fun R hR => ?_
  go_enter Tryz.func129, Tryz.ntmps129
  go_wp2
  go_loopw [2] (fun iv wr => iv = .int .i64 0 ∧ wr = w) (fun _ _ => 0)
  case atStart => exact ⟨rfl, rfl⟩
  case round =>
    obtain ⟨rfl, rfl⟩ := hrel
    go_wp2
    go_end0
    exact opq_end hR ⟨⟨_, rfl⟩, rfl⟩
theorem lookJob_nil (w : World) (g : Nat) (hc : w.cell? ⟨g, 12, none⟩ = some (.slice none 0 0)) :
    Calls Tryz.prog 141 #[.pointer (some ⟨g, 0, none⟩)] w fun e w' => e = .returned (.bool true) ∧ w' = w := by
  refine opq fun R hR => ?_
  go_enter Tryz.func141, Tryz.ntmps141
  go_wp2
  go_loopw [3] (fun iv wr => iv = .int .i64 0 ∧ wr = w) (fun _ _ => 0)
  case atStart => exact ⟨rfl, rfl⟩
  case round =>
    obtain ⟨rfl, rfl⟩ := hrel
    go_wp2
    exact opq_end hR ⟨rfl, rfl⟩
end Go.Proofs.YtkefmeddnncacaaGreatDoor

/- the laws' Book: lists of parts that are held; one more is kept. -/
set_option linter.unusedVariables false
set_option linter.unusedSimpArgs false
set_option maxRecDepth 100000
namespace Go.Proofs.YtkefmeddnncacaaGreatDoor
open Go.RowKit

abbrev TBK : TypeId := 51
abbrev TH : TypeId := 184
/-- A list that is held: as it came, as it has grown, its number. -/
structure Ent where
  A : Option Addr
  n : Nat
  c : Nat
  L : Option Addr
  m : Nat
  d : Nat
  k : Nat
def Ent.cells (e : Ent) : List Value := [.slice e.A e.n e.c, .slice e.L e.m e.d, .int .i64 (e.k : Nat)]
def flatE (es : List Ent) : List Value := es.flatMap Ent.cells
theorem flatE_len (es : List Ent) : (flatE es).length = 3 * es.length := by
  induction es with
  | nil => rfl
  | cons e es ih =>
    show (e.cells ++ flatE es).length = _
    rw [List.length_append, ih, List.length_cons]
    show 3 + _ = _
    omega
theorem flatE_get {es : List Ent} {j : Nat} {e : Ent} (h : es[j]? = some e) (i : Nat) (hi : i < 3) : (flatE es)[j * 3 + i]? = e.cells[i]? := by
  induction es generalizing j with
  | nil => simp at h
  | cons a es ih =>
    show (a.cells ++ flatE es)[j * 3 + i]? = _
    cases j with
    | zero =>
      simp at h
      subst h
      rw [List.getElem?_append_left (by show _ < 3; omega), Nat.zero_mul, Nat.zero_add]
    | succ j =>
      rw [List.getElem?_append_right (by show 3 ≤ _; omega), show (j + 1) * 3 + i - a.cells.length = j * 3 + i by show _ - 3 = _; omega]
      exact ih (by simpa using h)
theorem flatE_snoc (es : List Ent) (e : Ent) : flatE (es ++ [e]) = flatE es ++ e.cells := by simp [flatE]
/-- All blocks but the Book's own stay, and memory below B. -/
structure Kp (B : Nat) (w w' : World) : Prop where
  base : Below B w w'
  nums : ∀ b t cs, t ≠ TBK → t ≠ TH → Blk w b t cs → Blk w' b t cs
theorem Kp.tr {B : Nat} {a b c : World} (h : Kp B a b) (k : Kp B b c) : Kp B a c := ⟨h.base.trans k.base, fun b t cs n1 n2 x => k.nums b t cs n1 n2 (h.nums b t cs n1 n2 x)⟩
theorem NatR.kp {N B' B : Nat} {w w' : World} {v : Value} (h : NatR N B' w v) (k : Kp B w w') : NatR N B' w' v := by
  obtain ⟨A, c, e, r, f, l⟩ := h
  rcases f with f | ⟨g', cs', e1, hB, hk, hc⟩
  · have h0 : (limbs N).length = 0 := by omega
    have hN : limbs N = [] := List.eq_nil_of_length_eq_zero h0
    exact ⟨A, c, e, by rw [hN]; exact Rdk.nil _ _ _, .inl f, l⟩
  · subst e1
    have hk' := k.nums _ _ _ (by decide) (by decide) hk
    refine ⟨_, c, e, ⟨r.1, r.2.1, fun hn => ?_⟩, .inr ⟨g', cs', rfl, hB, hk', hc⟩, l⟩
    obtain ⟨ad, e2, hl, hcl⟩ := r.2.2 hn
    cases e2
    refine ⟨_, rfl, hk'.lt, fun j hj => ?_⟩
    have := hcl j hj
    rw [add0, hk.cell] at this
    rw [add0, hk'.cell]
    exact this
abbrev bk (num : Nat) (v : Value) : Array Value := #[.int .i64 (num : Nat), .slice none 0 0, v, .slice none 0 0, .slice none 0 0, .slice none 0 0, .slice none 0 0, .slice none 0 0, .slice none 0 0, .slice none 0 0, .slice none 0 0, .slice none 0 0, .slice none 0 0]
/-- The Book in block g, of memory of the call's own from B on. -/
structure BookAt (B : Nat) (w : World) (g num : Nat) (v : Value) (es : List Ent) : Prop where
  blk : Blk w g TBK (bk num v)
  own : B ≤ g
  row : w.ownsRow B TH 3 v es.length (flatE es)
theorem infoH : (Tryz.prog.info? TH).map (fun i => (i.zero, i.size, i.bytes)) = some (some (.agg #[.slice none 0 0, .slice none 0 0, .int .i64 0]), 3, 56) := by kernel_rfl
/-- append in a region that draws. -/
theorem step_appv {P : Program} {t e : TypeId} {z : Value} {size b : Nat} (ht : P.underlying t = some (.slice e)) (he : (P.info? e).map (fun i => (i.zero, i.size, i.bytes)) = some (some z, size, b)) (hz : z.cells.size = size) (hsz : 0 < size) (w : World)
    {ops : Array Oper} {o : Oper} {a : Act} {K : Act → World → Prop} {Q : Exit → Act → World → Prop} {E : Prop} (hgd : o.guard = none) (s x : Operand)
    (ho : o.op = .call { callee := .builtin .append, args := #[s, x], argTypes := #[t, t] })
    (base n : Nat) (v : Value) (xs : List Value) (hs : a.eval s = v) (hown : w.ownsRow base e size v n xs) (ad : Addr) (m c : Nat) (news : List Value) (hx : a.eval x = .slice (some ad) m c)
    (hl : news.length = m * size) (hnews : ∀ (j : Nat) u, news[j]? = some u → w.cell? (ad.add j) = some u) (h1 : ∀ u ∈ news, u.oneCell' = true)
    (h63 : n + m ≤ 9223372036854775807) (hb : (n + m) * b ≤ 140737488355328) (hbase : base ≤ w.heap.size)
    (h : ∀ v' w', Hid (w'.ownsRow base e size v' (n + m) (xs ++ news)) → Hid (w.grownBy w' v.ownBlock) → K (a.put o.dst v') w') : if Region.wanted o (yielded ops a.tmps) = true then Oper.wp P o a w K Q else E := by
  have hw : Region.wanted o (yielded ops a.tmps) = true := by simp [Region.wanted, hgd]
  rw [if_pos hw]
  obtain ⟨i0, hi, hz0, hz1, hz2⟩ := info_parts he
  obtain ⟨v', w', hrun, h2, h3, _, h5⟩ := run_append_own_at (P := P) w base t o.type e i0 z size b ht hi hz0 hz1 hz2 hz hsz v n xs hown ad m c news hl hnews h1 (by simpa [maxLen] using h63) hb hbase
  unfold Oper.wp execOp
  simp only [ho, resolve, invoke, builtin, Sem.run_bind, Sem.run_pure, Result.andThen_ok, List.map_toArray, List.map_cons, List.map_nil, hs, hx, hrun]
  exact h v' w' h2 h3
theorem own_rowT {t : TypeId} {size : Nat} {w : World} {base n : Nat} {v : Value} {xs : List Value} (h : w.ownsRow base t size v n xs) : ∀ k, v.ownBlock = some k → base ≤ k ∧ ∃ cs, Blk w k t cs := by
  intro k hk
  rcases h.2 with ⟨rfl, rfl⟩ | ⟨g, cap, cur, rfl, hB, hh, hnc, hcm, hcs, htk⟩
  · cases hk
  · have : g = k := by simpa [Value.ownBlock] using hk
    subst this
    exact ⟨hB, cur, ⟨hh⟩⟩
theorem blk_grown {t t' : TypeId} {size : Nat} {w w' : World} {base n g : Nat} {v : Value} {xs : List Value} {cs : Array Value} (hr : w.ownsRow base t size v n xs) (hg : w.grownBy w' v.ownBlock) (hk : Blk w g t' cs) (hne : t' ≠ t) : Blk w' g t' cs :=
  hk.keep (hg.block g hk.lt (fun e => by
    obtain ⟨_, cs', k2⟩ := own_rowT hr g e.symm
    exact hk.type_ne k2 hne rfl))
end Go.Proofs.YtkefmeddnncacaaGreatDoor

/- the laws' Book: lists of numbers in memory of their own, apart from each other. -/
set_option linter.unusedVariables false
set_option linter.unusedSimpArgs false
set_option maxRecDepth 100000
namespace Go.Proofs.YtkefmeddnncacaaGreatDoor
open Go.RowKit

/-- A list of n numbers with room for c, in memory of its own from B on. -/
structure LRow (B : Nat) (w : World) (A : Option Addr) (n c : Nat) (xs : List Value) : Prop where
  len : xs.length = n
  le : n ≤ c
  own : c = 0 ∨ ∃ g cs, A = some ⟨g, 0, none⟩ ∧ B ≤ g ∧ Blk w g T32 cs ∧ c ≤ cs.size ∧ cs.toList.take n = xs
variable {B : Nat} {w w' : World} {A : Option Addr} {n c : Nat} {xs : List Value}
theorem LRow.blk (h : LRow B w A n c xs) {g : Nat} (hg : blkOf A c = some g) : ∃ cs, A = some ⟨g, 0, none⟩ ∧ B ≤ g ∧ Blk w g T32 cs ∧ c ≤ cs.size ∧ cs.toList.take n = xs := by
  have h0 := blkOf_pos hg
  rcases h.own with e | ⟨g', cs, rfl, hB, hk, hc, ht⟩
  · omega
  · rw [blkOf_some h0] at hg
    cases hg
    exact ⟨cs, rfl, hB, hk, hc, ht⟩
theorem LRow.keep (h : LRow B w A n c xs) (k : ∀ g cs, blkOf A c = some g → Blk w g T32 cs → Blk w' g T32 cs) : LRow B w' A n c xs := by
  refine ⟨h.len, h.le, ?_⟩
  rcases Nat.eq_zero_or_pos c with h0 | h0
  · exact .inl h0
  · rcases h.own with e | ⟨g', cs, rfl, hB, hk, hc, ht⟩
    · omega
    · exact .inr ⟨g', cs, rfl, hB, k _ _ (blkOf_some h0) hk, hc, ht⟩
theorem LRow.at_ (h : LRow B w A n c xs) {i : Nat} (hi : i < n) : ∃ g, A = some ⟨g, 0, none⟩ ∧ blkOf A c = some g ∧ B ≤ g ∧ g < w.heap.size ∧ w.cell? ⟨g, i, none⟩ = xs[i]? ∧ w.frozen? ⟨g, i, none⟩ = false := by
  have := h.le
  rcases h.own with e | ⟨g', cs, rfl, hB, hk, hc, ht⟩
  · omega
  · refine ⟨g', rfl, blkOf_some (by omega), hB, hk.lt, ?_, hk.frozen i⟩
    rw [hk.cell, ← ht, List.getElem?_take, if_pos hi, Array.getElem?_toList]
theorem LRow.set_ (h : LRow B w A n c xs) {i g : Nat} (hi : i < n) (hg : blkOf A c = some g) (u : Value) : LRow B (w.setCell ⟨g, i, none⟩ u) A n c (xs.set i u) := by
  obtain ⟨cs, rfl, hB, hk, hc, ht⟩ := h.blk hg
  refine ⟨by rw [List.length_set]; exact h.len, h.le, .inr ⟨g, _, rfl, hB, hk.set_ i u, by simpa using hc, ?_⟩⟩
  rw [← ht, Array.toList_setIfInBounds, List.take_set]
/-- append of one number. -/
theorem app1 {P : Program} {t : TypeId} (ht : P.underlying t = some (.slice T32)) (he : (P.info? T32).map (fun i => (i.zero, i.size, i.bytes)) = some (some (.int .u32 0), 1, 4)) (ty : TypeId)
    (h : LRow B w A n c xs) (hB : B ≤ w.heap.size) (hn : n ≤ 1000000) (x : Value) (hx : x.oneCell' = true) (ad : Addr) (cc : Nat) (hcell : w.cell? ad = some x) :
    ∃ A' c' w', (Builtin.append_ #[t, t] ty #[.slice A n c, .slice (some ad) 1 cc]).run P w = .ok (.slice A' (n + 1) c') w' ∧ LRow B w' A' (n + 1) c' (xs ++ [x]) ∧ w.grownBy w' (blkOf A c) ∧ (∀ m c2 ys, m ≤ n → LRow B w A m c2 ys → LRow B w' A m c2 ys) ∧ ((A' = A ∧ c' = c) ∨ A' = some ⟨w.heap.size, 0, none⟩ ∧ Below w.heap.size w w') := by
  obtain ⟨i0, hi, hz0, hz1, hz2⟩ := info_parts he
  have hnews : ∀ (j : Nat) u, [x][j]? = some u → w.cell? (ad.add j) = some u := fun j u hj => by
    match j, hj with
    | 0, hj =>
      simp at hj
      subst hj
      rw [show ad.add 0 = ad by unfold Addr.add; simp]
      exact hcell
    | j + 1, hj => simp at hj
  have h1 : ∀ u ∈ [x], u.oneCell' = true := fun u hu => by
    simp at hu
    subst hu
    exact hx
  by_cases hlt : n < c
  · rcases h.own with e | ⟨g, cs, rfl, hg, hk, hc, htk⟩
    · omega
    · have hr := run_append_room (P := P) w t ty T32 i0 ht hi g n c cs hk.eq ad 1 cc [x] (by rw [hz1]; rfl) hnews h1 hlt (by rw [hz1]; simp; omega)
      rw [hz1] at hr
      have hk' := setRow_heap w g cs ((cs.toList.take (n * 1) ++ [x] ++ cs.toList.drop (n * 1 + [x].length)).toArray) T32 _ hk.eq
      have hL : ∀ (m c2 : Nat) (ys : List Value), m ≤ n → LRow B w (some ⟨g, 0, none⟩) m c2 ys → LRow B (w.setRow g (cs.toList.take (n * 1) ++ [x] ++ cs.toList.drop (n * 1 + [x].length)).toArray) (some ⟨g, 0, none⟩) m c2 ys := by
        intro m c2 ys hm l
        refine ⟨l.len, l.le, ?_⟩
        rcases l.own with e | ⟨g', cs', e, hg', hk2, hc', ht'⟩
        · exact .inl e
        · cases e
          have ecs : cs' = cs := by
            have := hk2.eq.symm.trans hk.eq
            simpa using this
          subst ecs
          refine .inr ⟨g, _, rfl, hg, ⟨hk'⟩, ?_, ?_⟩
          · simp only [List.size_toArray, List.length_append, List.length_take, List.length_drop, Array.length_toList, List.length_cons, List.length_nil]
            omega
          · rw [← ht']
            simp only [List.append_assoc]
            rw [List.take_append_of_le_length (by simp; omega), List.take_take, Nat.min_eq_left (by omega)]
      refine ⟨_, c, _, hr, ⟨by simp [h.len], hlt, .inr ⟨g, _, rfl, hg, ⟨hk'⟩, ?_, ?_⟩⟩, ⟨rfl, rfl, rfl, by simp, fun k _ hk => setRow_other w g k _ (fun e => hk (by rw [blkOf_some (by omega), e]))⟩, hL, .inl ⟨rfl, rfl⟩⟩
      · simp only [List.size_toArray, List.length_append, List.length_take, List.length_drop, Array.length_toList, List.length_cons, List.length_nil]
        omega
      · have hl : (cs.toList.take (n * 1) ++ [x]).length = n + 1 := by simp; omega
        rw [show (cs.toList.take (n * 1) ++ [x] ++ cs.toList.drop (n * 1 + [x].length)).toArray.toList = cs.toList.take (n * 1) ++ [x] ++ cs.toList.drop (n * 1 + [x].length) from rfl, List.take_append_of_le_length (by omega), List.take_of_length_le (by omega), Nat.mul_one, htk]
  · have hnc : n = c := by have := h.le; omega
    have grown : ∀ w'', w'' = w.drew.alloc (.cells (xs.toArray ++ [x].toArray ++ Builtin.zeroCells (Value.int .u32 0).cells (grownCap w (n + 1) c T32 - (n + 1))) T32) →
        LRow B w'' (some ⟨w.heap.size, 0, none⟩) (n + 1) (grownCap w (n + 1) c T32) (xs ++ [x]) ∧ w.grownBy w'' (blkOf A c) ∧ (∀ m c2 ys, m ≤ n → LRow B w A m c2 ys → LRow B w'' A m c2 ys) ∧ Below w.heap.size w w'' := by
      rintro _ rfl
      have hge := grownCap_ge w (n + 1) c T32
      have hb : Below w.heap.size w (w.drew.alloc (.cells (xs.toArray ++ [x].toArray ++ Builtin.zeroCells (Value.int .u32 0).cells (grownCap w (n + 1) c T32 - (n + 1))) T32)) := (Below.refl _ w).drew.alloc (Nat.le_refl _) _
      refine ⟨⟨by simp [h.len], hge, .inr ⟨w.heap.size, _, rfl, hB, ⟨heap_alloc_new w.drew _⟩, ?_, ?_⟩⟩, ⟨rfl, rfl, rfl, by simp, fun k hk _ => hb.block k hk⟩, fun m c2 ys _ l => l.keep fun g cs _ hk => hk.below' hb, hb⟩
      · simp only [Array.size_append, List.size_toArray, size_zeroCells, h.len, List.length_cons, List.length_nil, show (Value.int IntKind.u32 0).cells.size = 1 from rfl]
        omega
      · simp only [Array.toList_append, List.append_assoc]
        rw [← List.append_assoc, List.take_append_of_le_length (by simp [h.len]), List.take_of_length_le (by simp [h.len])]
    rcases A with _ | b
    · have h0 : c = 0 := by
        rcases h.own with e | ⟨g, cs, e, _⟩
        · exact e
        · cases e
      subst h0
      subst hnc
      have hx0 : xs = [] := List.eq_nil_of_length_eq_zero h.len
      subst hx0
      have hr := run_append_nil (P := P) w t ty T32 i0 (.int .u32 0) ht hi hz0 ad 1 cc [x] (by rw [hz1]; rfl) hnews (by omega) (by omega) (by rw [hz2]; omega)
      obtain ⟨g1, g2, g3, g4⟩ := grown _ rfl
      simp only [Nat.zero_add, List.nil_append, Array.empty_append] at g1 g2 g3 g4 ⊢
      exact ⟨_, _, _, hr, g1, g2, g3, .inr ⟨rfl, g4⟩⟩
    · have holds : ∀ (j : Nat) u, xs[j]? = some u → w.cell? (b.add j) = some u := fun j u hj => by
        have hj2 : j < n := by rw [← h.len]; exact (List.getElem?_eq_some_iff.1 hj).1
        obtain ⟨g, e, _, _, _, hc, _⟩ := h.at_ hj2
        cases e
        rw [add0, hc, hj]
      have hr := run_append_grow (P := P) w t ty T32 i0 (.int .u32 0) ht hi hz0 b n c xs (by rw [hz1, h.len]; omega) holds ad 1 cc [x] (by rw [hz1]; rfl) hnews (by omega) (by omega) (by rw [hz2]; exact growslice_fits (by omega) (by omega))
      obtain ⟨g1, g2, g3, g4⟩ := grown _ rfl
      exact ⟨_, _, _, hr, g1, g2, g3, .inr ⟨rfl, g4⟩⟩
end Go.Proofs.YtkefmeddnncacaaGreatDoor

/- the laws' Book: what is held, list by list. -/
set_option linter.unusedVariables false
set_option linter.unusedSimpArgs false
set_option maxRecDepth 100000
namespace Go.Proofs.YtkefmeddnncacaaGreatDoor
open Go.RowKit

def Ent.has (e : Ent) (g : Nat) : Prop := blkOf e.A e.c = some g ∨ blkOf e.L e.d = some g
def upd (X : Nat → List Value) (i : Nat) (xs : List Value) : Nat → List Value := fun j => if j = i then xs else X j
theorem upd_same (X : Nat → List Value) (i : Nat) (xs : List Value) : upd X i xs i = xs := by simp [upd]
theorem upd_ne (X : Nat → List Value) {i j : Nat} (xs : List Value) (h : j ≠ i) : upd X i xs j = X j := by simp [upd, h]
/-- What is held: each list's cells, in blocks apart from the others'. -/
structure Held (B : Nat) (w : World) (es : List Ent) (X Y : Nat → List Value) : Prop where
  a : ∀ (i : Nat) (e : Ent), es[i]? = some e → LRow B w e.A e.n e.c (X i)
  l : ∀ (i : Nat) (e : Ent), es[i]? = some e → LRow B w e.L e.m e.d (Y i)
  apart : ∀ (i j : Nat) (e e' : Ent), i ≠ j → es[i]? = some e → es[j]? = some e' → ∀ g, e.has g → ¬ e'.has g
  two : ∀ (i : Nat) (e : Ent), es[i]? = some e → (e.L = e.A ∧ e.n ≤ e.m) ∨ ∀ g, blkOf e.L e.d = some g → blkOf e.A e.c ≠ some g
variable {B : Nat} {w w' : World} {es : List Ent} {X Y : Nat → List Value}
theorem Held.keep (h : Held B w es X Y) (k : ∀ g cs, B ≤ g → Blk w g T32 cs → Blk w' g T32 cs) : Held B w' es X Y := by
  refine ⟨fun i e he => (h.a i e he).keep fun g cs hg hk => ?_, fun i e he => (h.l i e he).keep fun g cs hg hk => ?_, h.apart, h.two⟩
  · obtain ⟨_, _, hB, _⟩ := (h.a i e he).blk hg
    exact k g cs hB hk
  · obtain ⟨_, _, hB, _⟩ := (h.l i e he).blk hg
    exact k g cs hB hk
theorem Held.lt (h : Held B w es X Y) {i : Nat} {e : Ent} (he : es[i]? = some e) {g : Nat} (hg : e.has g) : g < w.heap.size := by
  rcases hg with hg | hg
  · obtain ⟨_, _, _, hk, _⟩ := (h.a i e he).blk hg
    exact hk.lt
  · obtain ⟨_, _, _, hk, _⟩ := (h.l i e he).blk hg
    exact hk.lt
theorem get_set_cases {α : Type} {es : List α} {i j : Nat} {e1 e' : α} (h : (es.set i e1)[j]? = some e') : (j = i ∧ e' = e1) ∨ (j ≠ i ∧ es[j]? = some e') := by
  by_cases hj : j = i
  · subst hj
    rw [List.getElem?_set_self'] at h
    cases h1 : es[j]? with
    | none => rw [h1] at h; cases h
    | some a => rw [h1] at h; simp at h; exact .inl ⟨rfl, h.symm⟩
  · rw [List.getElem?_set_ne (fun e => hj e.symm)] at h
    exact .inr ⟨hj, h⟩
theorem Held.set_ (h : Held B w es X Y) (hd : ∀ (i : Nat) (e : Ent), es[i]? = some e → e.d = 0) {i j g : Nat} {e : Ent} (he : es[i]? = some e) (hj : j < e.n) (hg : blkOf e.A e.c = some g) (u : Value) :
    Held B (w.setCell ⟨g, j, none⟩ u) es (upd X i ((X i).set j u)) Y := by
  refine ⟨fun i' e' he' => ?_, fun i' e' he' => (h.l i' e' he').keep fun g' cs hg' hk => ?_, h.apart, h.two⟩
  · by_cases hi : i' = i
    · subst hi
      rw [he] at he'
      cases he'
      rw [upd_same]
      exact (h.a _ _ he).set_ hj hg u
    · rw [upd_ne _ _ hi]
      exact (h.a _ _ he').keep fun g' cs hg' hk => hk.far (p := ⟨g, j, none⟩) (fun e0 => h.apart _ _ _ _ hi he' he g' (.inl hg') (.inl (by rw [e0]; exact hg))) u
  · rw [hd _ _ he'] at hg'
    simp [blkOf] at hg'
theorem Held.start (h : Held B w es X Y) {i : Nat} {e : Ent} (he : es[i]? = some e) : Held B w (es.set i ⟨e.A, e.n, e.c, e.A, e.n, e.c, e.k⟩) X (upd Y i (X i)) := by
  refine ⟨fun i' e' he' => ?_, fun i' e' he' => ?_, fun i' j' e1 e2 hne h1 h2 g hg1 hg2 => ?_, fun i' e' he' => ?_⟩
  · rcases get_set_cases he' with ⟨rfl, rfl⟩ | ⟨hi, h1⟩
    · exact h.a _ e he
    · exact h.a _ _ h1
  · rcases get_set_cases he' with ⟨rfl, rfl⟩ | ⟨hi, h1⟩
    · rw [upd_same]
      exact h.a _ _ he
    · rw [upd_ne _ _ hi]
      exact h.l _ _ h1
  · rcases get_set_cases h1 with ⟨rfl, rfl⟩ | ⟨hi, k1⟩ <;> rcases get_set_cases h2 with ⟨rfl, rfl⟩ | ⟨hi2, k2⟩
    · exact hne rfl
    · exact h.apart _ _ _ _ hne he k2 g (by rcases hg1 with x | x <;> exact .inl x) hg2
    · exact h.apart _ _ _ _ hne k1 he g hg1 (by rcases hg2 with x | x <;> exact .inl x)
    · exact h.apart _ _ _ _ hne k1 k2 g hg1 hg2
  · rcases get_set_cases he' with ⟨rfl, rfl⟩ | ⟨hi, h1⟩
    · exact .inl ⟨rfl, Nat.le_refl _⟩
    · exact h.two _ _ h1
theorem Held.push (h : Held B w es X Y) {i : Nat} {e : Ent} (he : es[i]? = some e) {A' : Option Addr} {c' : Nat} {x : Value}
    (hrow : LRow B w' A' (e.m + 1) c' (Y i ++ [x])) (hg : w.grownBy w' (blkOf e.L e.d)) (hk : ∀ m c2 ys, m ≤ e.m → LRow B w e.L m c2 ys → LRow B w' e.L m c2 ys) (hor : (A' = e.L ∧ c' = e.d) ∨ A' = some ⟨w.heap.size, 0, none⟩ ∧ Below w.heap.size w w') :
    Held B w' (es.set i ⟨e.A, e.n, e.c, A', e.m + 1, c', e.k⟩) X (upd Y i (Y i ++ [x])) := by
  have hkp : ∀ g cs, g < w.heap.size → blkOf e.L e.d ≠ some g → Blk w g T32 cs → Blk w' g T32 cs := fun g cs hlt hne hb => hb.keep (hg.block g hlt (fun e0 => hne e0.symm))
  have hnew : ∀ g, blkOf A' c' = some g → blkOf e.L e.d = some g ∨ g = w.heap.size := fun g hg0 => by
    rcases hor with ⟨rfl, rfl⟩ | ⟨rfl, _⟩
    · exact .inl hg0
    · rw [blkOf_some (blkOf_pos hg0)] at hg0
      cases hg0
      exact .inr rfl
  have hoth : ∀ (i' : Nat) (e' : Ent), i' ≠ i → es[i']? = some e' → ∀ g cs, e'.has g → Blk w g T32 cs → Blk w' g T32 cs := fun i' e' hi h1 g cs hg0 hb =>
    hkp g cs hb.lt (fun e0 => h.apart _ _ _ _ hi h1 he g hg0 (.inr e0)) hb
  refine ⟨fun i' e' he' => ?_, fun i' e' he' => ?_, fun i' j' e1 e2 hne h1 h2 g hg1 hg2 => ?_, fun i' e' he' => ?_⟩
  · rcases get_set_cases he' with ⟨rfl, rfl⟩ | ⟨hi, h1⟩
    · rcases h.two _ _ he with ⟨e0, hn⟩ | hne
      · have := hk e.n e.c (X i') hn (by rw [e0]; exact h.a _ _ he)
        rw [e0] at this
        exact this
      · exact (h.a _ _ he).keep fun g cs hg0 hb => hkp g cs hb.lt (fun e0 => hne g e0 hg0) hb
    · exact (h.a _ _ h1).keep fun g cs hg0 hb => hoth _ _ hi h1 g cs (.inl hg0) hb
  · rcases get_set_cases he' with ⟨rfl, rfl⟩ | ⟨hi, h1⟩
    · rw [upd_same]
      exact hrow
    · rw [upd_ne _ _ hi]
      exact (h.l _ _ h1).keep fun g cs hg0 hb => hoth _ _ hi h1 g cs (.inr hg0) hb
  · have key : ∀ g, Ent.has ⟨e.A, e.n, e.c, A', e.m + 1, c', e.k⟩ g → e.has g ∨ g = w.heap.size := fun g hg0 => by
      rcases hg0 with x | x
      · exact .inl (.inl x)
      · rcases hnew g x with y | y
        · exact .inl (.inr y)
        · exact .inr y
    rcases get_set_cases h1 with ⟨rfl, rfl⟩ | ⟨hi, k1⟩ <;> rcases get_set_cases h2 with ⟨rfl, rfl⟩ | ⟨hi2, k2⟩
    · exact hne rfl
    · rcases key g hg1 with y | y
      · exact h.apart _ _ _ _ hne he k2 g y hg2
      · have := h.lt k2 hg2; omega
    · rcases key g hg2 with y | y
      · exact h.apart _ _ _ _ hne k1 he g hg1 y
      · have := h.lt k1 hg1; omega
    · exact h.apart _ _ _ _ hne k1 k2 g hg1 hg2
  · rcases get_set_cases he' with ⟨rfl, rfl⟩ | ⟨hi, h1⟩
    · rcases hor with ⟨rfl, rfl⟩ | ⟨rfl, _⟩
      · rcases h.two _ _ he with ⟨e0, hn⟩ | hne
        · exact .inl ⟨e0, Nat.le_succ_of_le hn⟩
        · exact .inr hne
      · refine .inr fun g hg0 hg1 => ?_
        rcases hnew g hg0 with y | y
        · rw [blkOf_some (blkOf_pos hg0)] at hg0
          cases hg0
          have := h.lt he (.inl hg1); omega
        · have := h.lt he (.inl hg1); omega
    · exact h.two _ _ h1
end Go.Proofs.YtkefmeddnncacaaGreatDoor

/- the laws' Book: each list held is filled with its mark. -/
set_option linter.unusedVariables false
set_option linter.unusedSimpArgs false
set_option maxRecDepth 100000
namespace Go.Proofs.YtkefmeddnncacaaGreatDoor
open Go.RowKit

def mk32 (k : Nat) : Value := .int .u32 (1000 + (k : Int))
theorem wrap_u32_mark (k : Nat) (hk : k ≤ 100000) : IntKind.u32.wrap (1000 + (k : Int)) = 1000 + (k : Int) := by
  rw [show (1000 + (k : Int)) = ((1000 + k : Nat) : Int) by simp]
  exact wrap_u32_nat (by omega)
theorem mark_ok (w : World) (k : Nat) (hk : k ≤ 100000) :
    Calls Tryz.prog 223 #[.int .i64 (k : Nat)] w fun e w' => e = .returned (.int .u32 (1000 + (k : Int))) ∧ w' = w := by
  refine opq fun R hR => ?_
  go_enter Tryz.func223, Tryz.ntmps223
  have h := wrap_u32_mark k hk
  go_wp2
  exact opq_end hR ⟨by simp [mk32], rfl⟩
theorem isInt32_ok (w : World) (k : Nat) (hk : k ≤ 100000) :
    Calls Tryz.prog 235 #[.int .u32 (1000 + (k : Int)), .int .i64 (k : Nat)] w fun e w' => e = .returned (.bool true) ∧ w' = w := by
  refine opq fun R hR => ?_
  go_enter Tryz.func235, Tryz.ntmps235
  have h := wrap_u32_mark k hk
  go_wp2
  exact opq_end hR ⟨by simp, rfl⟩
theorem BookAt.len {B : Nat} {w : World} {g num : Nat} {v : Value} {es : List Ent} (h : BookAt B w g num v es) : ∃ R c, v = .slice R es.length c := own_slice h.row
/-- The cells of an entry. -/
theorem BookAt.ent {B : Nat} {w : World} {g num : Nat} {v : Value} {es : List Ent} (h : BookAt B w g num v es) {i : Nat} {e : Ent} (he : es[i]? = some e) :
    ∃ r c cur, v = .slice (some ⟨r, 0, none⟩) es.length c ∧ B ≤ r ∧ Blk w r TH cur ∧ i < es.length ∧ w.cell? ⟨r, i * 3, none⟩ = some (.slice e.A e.n e.c) ∧ w.cell? ⟨r, i * 3 + 1, none⟩ = some (.slice e.L e.m e.d) ∧ w.cell? ⟨r, i * 3 + 2, none⟩ = some (.int .i64 (e.k : Nat)) := by
  have hi : i < es.length := (List.getElem?_eq_some_iff.1 he).1
  obtain ⟨r, c, cur, rfl, hB, hn, hm, hk, hs, ht⟩ := own_some h.row (by omega)
  refine ⟨r, c, cur, rfl, hB, hk, hi, ?_, ?_, ?_⟩
  · rw [hk.cell]; exact take_get ht (by rw [← Nat.add_zero (i * 3), flatE_get he 0 (by omega)]; rfl)
  · rw [hk.cell]; exact take_get ht (by rw [flatE_get he 1 (by omega)]; rfl)
  · rw [hk.cell]; exact take_get ht (by rw [flatE_get he 2 (by omega)]; rfl)
theorem BookAt.keep {B : Nat} {w w' : World} {g num : Nat} {v : Value} {es : List Ent} (h : BookAt B w g num v es) (k : ∀ g t cs, t ≠ T32 → Blk w g t cs → Blk w' g t cs) : BookAt B w' g num v es := by
  refine ⟨k _ _ _ (by decide) h.blk, h.own, h.row.1, ?_⟩
  rcases h.row.2 with e | ⟨r, cap, cur, e, hB, hh, rest⟩
  · exact .inl e
  · exact .inr ⟨r, cap, cur, e, hB, (k r TH cur (by decide) ⟨hh⟩).eq, rest⟩
end Go.Proofs.YtkefmeddnncacaaGreatDoor

/- the laws' Book: each list held is grown. -/
set_option linter.unusedVariables false
set_option linter.unusedSimpArgs false
set_option maxRecDepth 100000
namespace Go.Proofs.YtkefmeddnncacaaGreatDoor
open Go.RowKit

theorem flatE_set {es : List Ent} {i : Nat} {e : Ent} (he : es[i]? = some e) (L : Option Addr) (m d : Nat) : flatE (es.set i ⟨e.A, e.n, e.c, L, m, d, e.k⟩) = (flatE es).set (i * 3 + 1) (.slice L m d) := by
  induction es generalizing i with
  | nil => simp at he
  | cons a es ih =>
    cases i with
    | zero =>
      simp at he
      subst he
      rfl
    | succ i =>
      show a.cells ++ flatE (es.set i _) = (a.cells ++ flatE es).set _ _
      rw [ih (by simpa using he), List.set_append_right _ _ (by show 3 ≤ _; omega), show (i + 1) * 3 + 1 - a.cells.length = i * 3 + 1 by show _ - 3 = _; omega]
theorem BookAt.setL {B : Nat} {w : World} {g num r c n : Nat} {es : List Ent} (h : BookAt B w g num (.slice (some ⟨r, 0, none⟩) n c) es) {i : Nat} {e : Ent} (he : es[i]? = some e) (L : Option Addr) (m d : Nat) :
    BookAt B (w.setCell ⟨r, i * 3 + 1, none⟩ (.slice L m d)) g num (.slice (some ⟨r, 0, none⟩) n c) (es.set i ⟨e.A, e.n, e.c, L, m, d, e.k⟩) := by
  have hi : i < es.length := (List.getElem?_eq_some_iff.1 he).1
  obtain ⟨r', c', cur, e1, hB, hn, hm, hk, hs, ht⟩ := own_some h.row (by omega)
  cases e1
  refine ⟨h.blk.far (p := ⟨r, i * 3 + 1, none⟩) (h.blk.type_ne hk (by decide)) _, h.own, by rw [flatE_len]; simp; omega, .inr ⟨r, c, _, by simp, hB, (hk.set_ (i * 3 + 1) (.slice L m d)).eq, by simpa using hn, by simpa [maxLen] using hm, by simpa using hs, ?_⟩⟩
  rw [flatE_set he, Array.toList_setIfInBounds, List.length_set, List.take_set, ht]
variable {B : Nat} {w w' : World} {A : Option Addr} {n c : Nat} {xs : List Value}
theorem LRow.other (h : LRow B w A n c xs) (hg : w.grownBy w' (blkOf A c)) {g : Nat} {t : TypeId} {cs : Array Value} (ht : t ≠ T32) (hk : Blk w g t cs) : Blk w' g t cs :=
  hk.keep (hg.block g hk.lt (fun e => by
    obtain ⟨cs', _, _, k2, _⟩ := h.blk e.symm
    exact hk.type_ne k2 ht rfl))
theorem LRow.base (h : LRow B w A n c xs) (hg : w.grownBy w' (blkOf A c)) (hB : B ≤ w.heap.size) : Below B w w' := (Below.refl B w).grown hg hB (fun q e => by
    obtain ⟨cs', _, h1, _⟩ := h.blk e
    exact h1)
theorem wpList_app1 {P : Program} {t : TypeId} (ht : P.underlying t = some (.slice T32)) (he : (P.info? T32).map (fun i => (i.zero, i.size, i.bytes)) = some (some (.int .u32 0), 1, 4))
    {ops : Array Oper} {rest : List Oper} {o : Oper} {a : Act} {Q : Exit → Act → World → Prop} (hgd : o.guard = none) (s x : Operand)
    (ho : o.op = .call { callee := .builtin .append, args := #[s, x], argTypes := #[t, t] })
    (h : LRow B w A n c xs) (hs : a.eval s = .slice A n c) (hB : B ≤ w.heap.size) (hn : n ≤ 1000000) (u : Value) (hu : u.oneCell' = true) (ad : Addr) (cc : Nat) (hx : a.eval x = .slice (some ad) 1 cc) (hcell : w.cell? ad = some u)
    (hh : ∀ A' c' w', Hid (LRow B w' A' (n + 1) c' (xs ++ [u])) → Hid (w.grownBy w' (blkOf A c)) → Hid (∀ m c2 ys, m ≤ n → LRow B w A m c2 ys → LRow B w' A m c2 ys) → Hid ((A' = A ∧ c' = c) ∨ A' = some ⟨w.heap.size, 0, none⟩ ∧ Below w.heap.size w w') → wpList P ops Q rest (a.put o.dst (.slice A' (n + 1) c')) w') : wpList P ops Q (o :: rest) a w := by
  refine wpList_plain hgd fun K hK => ?_
  obtain ⟨A', c', w', hrun, h2, h3, h4, h5⟩ := app1 (P := P) ht he o.type h hB hn u hu ad cc hcell
  unfold Oper.wp execOp
  simp only [ho, resolve, invoke, builtin, Sem.run_bind, Sem.run_pure, Result.andThen_ok, List.map_toArray, List.map_cons, List.map_nil, hs, hx, hrun]
  exact hK _ _ (hh A' c' w' h2 h3 h4 h5)
/-- The first i entries are grown. -/
structure Grown (es : List Ent) (i : Nat) (es' : List Ent) (Y : Nat → List Value) : Prop where
  len : es'.length = es.length
  same : ∀ (j : Nat) (e' : Ent), es'[j]? = some e' → ∃ e, es[j]? = some e ∧ e'.A = e.A ∧ e'.n = e.n ∧ e'.c = e.c ∧ e'.k = e.k
  done : ∀ (j : Nat) (e' : Ent), j < i → es'[j]? = some e' → e'.m = e'.n + 40 ∧ Y j = List.replicate (e'.n + 40) (mk32 e'.k)
end Go.Proofs.YtkefmeddnncacaaGreatDoor

/- the laws' Book: what is held is looked at. -/
set_option linter.unusedVariables false
set_option linter.unusedSimpArgs false
set_option maxRecDepth 100000
namespace Go.Proofs.YtkefmeddnncacaaGreatDoor
open Go.RowKit

theorem LRow.marks {B : Nat} {w : World} {A : Option Addr} {n c : Nat} {u : Value} (h : LRow B w A n c (List.replicate n u)) {j : Nat} (hj : j < n) : ∃ g, A = some ⟨g, 0, none⟩ ∧ w.cell? ⟨g, j, none⟩ = some u := by
  obtain ⟨g, e, _, _, _, hc, _⟩ := h.at_ hj
  exact ⟨g, e, by rw [hc, List.getElem?_replicate, if_pos hj]⟩
end Go.Proofs.YtkefmeddnncacaaGreatDoor

/- the laws' Book: Apart. -/
set_option linter.unusedVariables false
set_option linter.unusedSimpArgs false
set_option maxRecDepth 100000
namespace Go.Proofs.YtkefmeddnncacaaGreatDoor
open Go.RowKit

theorem Fr.lrow {B : Nat} {w : World} {A : Option Addr} {c n : Nat} (h : Fr T32 B w A c) (hn : n ≤ c) : ∃ xs, LRow B w A n c xs := by
  rcases h with h | ⟨g, cs, e, hB, hk, hc⟩
  · exact ⟨List.replicate n undef, by simp, hn, .inl h⟩
  · exact ⟨cs.toList.take n, by rw [List.length_take, Array.length_toList]; omega, hn, .inr ⟨g, cs, e, hB, hk, hc, rfl⟩⟩
theorem NatR.lrow {N B : Nat} {w : World} {A : Option Addr} {n c : Nat} (h : NatR N B w (.slice A n c)) : ∃ xs, LRow B w A n c xs := by
  obtain ⟨A', c', e, _, f, l⟩ := h
  cases e
  exact f.lrow l
/-- Lists that are held, each in a block of its own, of number at most hi. -/
def HB (B hi : Nat) (w : World) (es : List Ent) : Prop :=
  ∃ X Y, Held B w es X Y ∧ (∀ (i : Nat) (e : Ent) g, es[i]? = some e → e.has g → g < hi) ∧ ∀ e ∈ es, e.k ≤ 100000 ∧ e.n ≤ 500000 ∧ e.d = 0
theorem HB.nil (B hi : Nat) (w : World) : HB B hi w [] :=
  ⟨fun _ => [], fun _ => [], ⟨fun i e h => by simp at h, fun i e h => by simp at h, fun i j e e' _ h => by simp at h, fun i e h => by simp at h⟩, fun i e g h => by simp at h, fun e h => by simp at h⟩
theorem HB.kp {B hi : Nat} {w w' : World} {es : List Ent} (h : HB B hi w es) (k : Kp B w w') : HB B hi w' es := by
  obtain ⟨X, Y, h1, h2, h3⟩ := h
  exact ⟨X, Y, h1.keep fun g cs _ hk => k.nums g _ cs (by decide) (by decide) hk, h2, h3⟩
theorem HB.bel {B hi : Nat} {w w' : World} {es : List Ent} (h : HB B hi w es) (k : Below w.heap.size w w') : HB B hi w' es := by
  obtain ⟨X, Y, h1, h2, h3⟩ := h
  exact ⟨X, Y, h1.keep fun g cs _ hk => hk.below' k, h2, h3⟩
theorem HB.snoc {B hi hi' : Nat} {w : World} {es : List Ent} (h : HB B hi w es) {A : Option Addr} {n c : Nat} {xs : List Value} (l : LRow hi w A n c xs) (hh : hi' = w.heap.size) (hB : B ≤ hi) (hw : hi ≤ w.heap.size) (hn : n ≤ 500000) {k : Nat} (hk : k ≤ 100000) : HB B hi' w (es ++ [⟨A, n, c, none, 0, 0, k⟩]) := by
  subst hh
  obtain ⟨X, Y, h1, h2, h3⟩ := h
  have hl : ∀ g, blkOf A c = some g → hi ≤ g ∧ g < w.heap.size := fun g hg => by
    obtain ⟨cs, _, e1, e2, _⟩ := l.blk hg
    exact ⟨e1, e2.lt⟩
  have hcase : ∀ (i : Nat) (e : Ent), (es ++ [⟨A, n, c, none, 0, 0, k⟩])[i]? = some e → (es[i]? = some e ∧ i < es.length) ∨ (i = es.length ∧ e = ⟨A, n, c, none, 0, 0, k⟩) := fun i e he => by
    by_cases hi : i < es.length
    · rw [List.getElem?_append_left hi] at he
      exact .inl ⟨he, hi⟩
    · rw [List.getElem?_append_right (by omega)] at he
      have := (List.getElem?_eq_some_iff.1 he).1
      simp at this
      obtain rfl : i = es.length := by omega
      simp at he
      exact .inr ⟨rfl, he.symm⟩
  have hnew : ∀ g, Ent.has ⟨A, n, c, none, 0, 0, k⟩ g → blkOf A c = some g := fun g hg => by
    rcases hg with x | x
    · exact x
    · simp [blkOf] at x
  refine ⟨upd X es.length xs, upd Y es.length [], ⟨fun i e he => ?_, fun i e he => ?_, fun i j e e' hne he he' g hg hg' => ?_, fun i e he => ?_⟩, fun i e g he hg => ?_, fun e he => ?_⟩
  · rcases hcase i e he with ⟨x, y⟩ | ⟨rfl, rfl⟩
    · rw [upd_ne _ _ (by omega)]; exact h1.a _ _ x
    · rw [upd_same]
      refine ⟨l.len, l.le, ?_⟩
      rcases l.own with z | ⟨g, cs, z1, z2, z3⟩
      · exact .inl z
      · exact .inr ⟨g, cs, z1, Nat.le_trans hB z2, z3⟩
  · rcases hcase i e he with ⟨x, y⟩ | ⟨rfl, rfl⟩
    · rw [upd_ne _ _ (by omega)]; exact h1.l _ _ x
    · rw [upd_same]; exact ⟨rfl, Nat.le_refl _, .inl rfl⟩
  · rcases hcase i e he with ⟨x, y⟩ | ⟨rfl, rfl⟩ <;> rcases hcase j e' he' with ⟨x', y'⟩ | ⟨rfl, rfl⟩
    · exact h1.apart _ _ _ _ hne x x' g hg hg'
    · have := h2 _ _ _ x hg
      have := hl g (hnew g hg')
      omega
    · have := h2 _ _ _ x' hg'
      have := hl g (hnew g hg)
      omega
    · exact hne rfl
  · rcases hcase i e he with ⟨x, y⟩ | ⟨rfl, rfl⟩
    · exact h1.two _ _ x
    · exact .inr fun g hg => by simp [blkOf] at hg
  · rcases hcase i e he with ⟨x, y⟩ | ⟨rfl, rfl⟩
    · have := h2 _ _ _ x hg
      omega
    · exact (hl g (hnew g hg)).2
  · rcases List.mem_append.1 he with x | x
    · exact h3 e x
    · simp at x
      subst x
      exact ⟨hk, hn, rfl⟩
end Go.Proofs.YtkefmeddnncacaaGreatDoor
