/- The law's examples: num, small (printed by gen_ua.py). -/
import Derived.Test.YtapejaabhkfhjaaMSi
namespace Go.Proofs.Ytapejaabhkfhjaa
open Go.RowKit

set_option maxHeartbeats 2000000 in
theorem num_any (n u : Int) (w : World) : Calls Try.prog 66 #[.int .i64 n, .int .i64 u] w fun e w' => e = .returned (.agg #[.int .i64 1, .int .i64 n, .int .i64 u, .string ⟨#[]⟩, .int .i64 0, .slice none 0 0]) ∧ Below w.heap.size w w' := by
  go_enter Try.func66, Try.ntmps66
  go_wp2
  have hr : (w.alloc (.cells #[.int .i64 1, .int .i64 n, .int .i64 u, .string ⟨#[]⟩, .int .i64 0, .slice none 0 0] 26)).rangeAt w.heap.size 0 [.int .i64 1, .int .i64 n, .int .i64 u, .string ⟨#[]⟩, .int .i64 0, .slice none 0 0] := World.rangeAt_of_block (World.alloc_heap_new w _) 0 6
  exact ⟨rfl, _, results_cell rfl rfl (run_loadVar_mid _ w.heap.size 0 26 _ _ hr Try.underlying26 rfl (by kernel_rfl)), rfl, (Below.refl _ _).alloc (Nat.le_refl _) _⟩
/- a block that is kept -/
def Bk (B : Nat) (w : World) (g : Nat) (row : Array Value) (ty : TypeId) : Prop := B < g ∧ w.heap[g]? = some (.cells row ty (0, 0))
def LeS (B : Nat) (w w' : World) : Prop := ∀ (b : Nat) (o : Obj), B < b → w.heap[b]? = some o → w'.heap[b]? = some o
theorem Bk.le {B : Nat} {w w' : World} {g : Nat} {row : Array Value} {ty : TypeId} (h : Bk B w g row ty) (hl : LeS B w w') : Bk B w' g row ty := ⟨h.1, hl _ _ h.1 h.2⟩
theorem LeS.below {B : Nat} {w w' : World} (h : Below w.heap.size w w') : LeS B w w' := fun b _ _ hb => (h.block b (Array.getElem?_eq_some_iff.1 hb).1).trans hb
theorem LeS.refl (B : Nat) (w : World) : LeS B w w := fun _ _ _ h => h
def smallP (B : Nat) (j : Nat) (v : Value) (w : World) : Prop := match j with
  | 0 => v = .agg #[.int .i64 1, .int .i64 2, .int .i64 4, .string ⟨#[]⟩, .int .i64 0, .slice none 0 0]
  | 1 => v = .agg #[.int .i64 1, .int .i64 3, .int .i64 1, .string ⟨#[]⟩, .int .i64 0, .slice none 0 0]
  | 2 => v = .agg #[.string ⟨#[116]⟩, .int .i64 1, .int .i64 3, .int .i64 1, .string ⟨#[]⟩, .int .i64 0, .slice none 0 0]
  | 3 => v = .agg #[.string ⟨#[116]⟩, .int .i64 0]
  | 4 => v = .agg #[.int .i64 2, .int .i64 0, .int .i64 0, .string ⟨#[116]⟩, .int .i64 0, .slice none 0 0]
  | 5 => v = .agg #[.int .i64 1, .int .i64 1, .int .i64 1, .string ⟨#[]⟩, .int .i64 0, .slice none 0 0]
  | 6 => ∃ g14 : Nat, v = .slice (some ⟨g14, 0, none⟩) 2 2 ∧ Bk B w g14 #[.int .i64 2, .int .i64 0, .int .i64 0, .string ⟨#[116]⟩, .int .i64 0, .slice none 0 0, .int .i64 1, .int .i64 1, .int .i64 1, .string ⟨#[]⟩, .int .i64 0, .slice none 0 0] 26
  | 7 => ∃ g14 : Nat, v = .agg #[.int .i64 3, .int .i64 0, .int .i64 0, .string ⟨#[]⟩, .int .i64 0, .slice (some ⟨g14, 0, none⟩) 2 2] ∧ Bk B w g14 #[.int .i64 2, .int .i64 0, .int .i64 0, .string ⟨#[116]⟩, .int .i64 0, .slice none 0 0, .int .i64 1, .int .i64 1, .int .i64 1, .string ⟨#[]⟩, .int .i64 0, .slice none 0 0] 26
  | 8 => ∃ g14 : Nat, v = .agg #[.string ⟨#[117]⟩, .int .i64 3, .int .i64 0, .int .i64 0, .string ⟨#[]⟩, .int .i64 0, .slice (some ⟨g14, 0, none⟩) 2 2] ∧ Bk B w g14 #[.int .i64 2, .int .i64 0, .int .i64 0, .string ⟨#[116]⟩, .int .i64 0, .slice none 0 0, .int .i64 1, .int .i64 1, .int .i64 1, .string ⟨#[]⟩, .int .i64 0, .slice none 0 0] 26
  | 9 => ∃ g14 g17 : Nat, v = .slice (some ⟨g17, 0, none⟩) 2 2 ∧ Bk B w g14 #[.int .i64 2, .int .i64 0, .int .i64 0, .string ⟨#[116]⟩, .int .i64 0, .slice none 0 0, .int .i64 1, .int .i64 1, .int .i64 1, .string ⟨#[]⟩, .int .i64 0, .slice none 0 0] 26 ∧ Bk B w g17 #[.string ⟨#[116]⟩, .int .i64 1, .int .i64 3, .int .i64 1, .string ⟨#[]⟩, .int .i64 0, .slice none 0 0, .string ⟨#[117]⟩, .int .i64 3, .int .i64 0, .int .i64 0, .string ⟨#[]⟩, .int .i64 0, .slice (some ⟨g14, 0, none⟩) 2 2] 55
  | 10 => v = .agg #[.string ⟨#[99, 111, 114, 110]⟩, .int .i64 0, .int .i64 0, .int .i64 0, .string ⟨#[]⟩, .int .i64 0, .slice none 0 0]
  | 11 => v = .agg #[.string ⟨#[114, 105, 99, 101]⟩, .int .i64 0, .int .i64 0, .int .i64 0, .string ⟨#[]⟩, .int .i64 0, .slice none 0 0]
  | 12 => ∃ g20 : Nat, v = .slice (some ⟨g20, 0, none⟩) 2 2 ∧ Bk B w g20 #[.string ⟨#[99, 111, 114, 110]⟩, .int .i64 0, .int .i64 0, .int .i64 0, .string ⟨#[]⟩, .int .i64 0, .slice none 0 0, .string ⟨#[114, 105, 99, 101]⟩, .int .i64 0, .int .i64 0, .int .i64 0, .string ⟨#[]⟩, .int .i64 0, .slice none 0 0] 57
  | 13 => v = .agg #[.string ⟨#[104, 101, 97, 100]⟩, .string ⟨#[]⟩, .int .i64 0, .int .i64 1, .int .i64 1, .int .i64 3, .string ⟨#[]⟩, .int .i64 0, .slice none 0 0, .int .i64 2, .int .i64 0, .int .i64 0, .string ⟨#[117]⟩, .int .i64 0, .slice none 0 0, .int .i64 0, .int .i64 0, .int .i64 0, .string ⟨#[]⟩, .int .i64 0, .slice none 0 0, .int .i64 0, .int .i64 0, .int .i64 0, .string ⟨#[]⟩, .int .i64 0, .slice none 0 0, .int .i64 0, .int .i64 0, .int .i64 0, .string ⟨#[]⟩, .int .i64 0, .slice none 0 0, .int .i64 0, .int .i64 0, .int .i64 0, .string ⟨#[]⟩, .int .i64 0, .slice none 0 0, .int .i64 0, .int .i64 0, .int .i64 0, .string ⟨#[]⟩, .int .i64 0, .slice none 0 0, .int .i64 0, .int .i64 0, .int .i64 0, .string ⟨#[]⟩, .int .i64 0, .slice none 0 0]
  | 14 => v = .agg #[.string ⟨#[104, 101, 97, 100]⟩, .int .i64 0]
  | 15 => v = .agg #[.string ⟨#[116, 97, 105, 108]⟩, .string ⟨#[104, 101, 97, 100]⟩, .int .i64 0, .int .i64 0, .int .i64 0, .int .i64 0, .string ⟨#[]⟩, .int .i64 0, .slice none 0 0, .int .i64 0, .int .i64 0, .int .i64 0, .string ⟨#[]⟩, .int .i64 0, .slice none 0 0, .int .i64 0, .int .i64 0, .int .i64 0, .string ⟨#[]⟩, .int .i64 0, .slice none 0 0, .int .i64 0, .int .i64 0, .int .i64 0, .string ⟨#[]⟩, .int .i64 0, .slice none 0 0, .int .i64 0, .int .i64 0, .int .i64 0, .string ⟨#[]⟩, .int .i64 0, .slice none 0 0, .int .i64 0, .int .i64 0, .int .i64 0, .string ⟨#[]⟩, .int .i64 0, .slice none 0 0, .int .i64 0, .int .i64 0, .int .i64 0, .string ⟨#[]⟩, .int .i64 0, .slice none 0 0, .int .i64 0, .int .i64 0, .int .i64 0, .string ⟨#[]⟩, .int .i64 0, .slice none 0 0]
  | 16 => ∃ g24 : Nat, v = .slice (some ⟨g24, 0, none⟩) 2 2 ∧ Bk B w g24 #[.string ⟨#[104, 101, 97, 100]⟩, .string ⟨#[]⟩, .int .i64 0, .int .i64 1, .int .i64 1, .int .i64 3, .string ⟨#[]⟩, .int .i64 0, .slice none 0 0, .int .i64 2, .int .i64 0, .int .i64 0, .string ⟨#[117]⟩, .int .i64 0, .slice none 0 0, .int .i64 0, .int .i64 0, .int .i64 0, .string ⟨#[]⟩, .int .i64 0, .slice none 0 0, .int .i64 0, .int .i64 0, .int .i64 0, .string ⟨#[]⟩, .int .i64 0, .slice none 0 0, .int .i64 0, .int .i64 0, .int .i64 0, .string ⟨#[]⟩, .int .i64 0, .slice none 0 0, .int .i64 0, .int .i64 0, .int .i64 0, .string ⟨#[]⟩, .int .i64 0, .slice none 0 0, .int .i64 0, .int .i64 0, .int .i64 0, .string ⟨#[]⟩, .int .i64 0, .slice none 0 0, .int .i64 0, .int .i64 0, .int .i64 0, .string ⟨#[]⟩, .int .i64 0, .slice none 0 0, .string ⟨#[116, 97, 105, 108]⟩, .string ⟨#[104, 101, 97, 100]⟩, .int .i64 0, .int .i64 0, .int .i64 0, .int .i64 0, .string ⟨#[]⟩, .int .i64 0, .slice none 0 0, .int .i64 0, .int .i64 0, .int .i64 0, .string ⟨#[]⟩, .int .i64 0, .slice none 0 0, .int .i64 0, .int .i64 0, .int .i64 0, .string ⟨#[]⟩, .int .i64 0, .slice none 0 0, .int .i64 0, .int .i64 0, .int .i64 0, .string ⟨#[]⟩, .int .i64 0, .slice none 0 0, .int .i64 0, .int .i64 0, .int .i64 0, .string ⟨#[]⟩, .int .i64 0, .slice none 0 0, .int .i64 0, .int .i64 0, .int .i64 0, .string ⟨#[]⟩, .int .i64 0, .slice none 0 0, .int .i64 0, .int .i64 0, .int .i64 0, .string ⟨#[]⟩, .int .i64 0, .slice none 0 0, .int .i64 0, .int .i64 0, .int .i64 0, .string ⟨#[]⟩, .int .i64 0, .slice none 0 0] 51
  | 17 => v = .agg #[.string ⟨#[116, 97, 105, 108]⟩, .int .i64 0]
  | 18 => v = .agg #[.string ⟨#[114, 105, 99, 101]⟩, .int .i64 0]
  | 19 => v = .agg #[.string ⟨#[97, 110, 97]⟩, .string ⟨#[116, 97, 105, 108]⟩, .int .i64 0, .bool false, .int .i64 0, .int .i64 0, .int .i64 0, .string ⟨#[]⟩, .int .i64 0, .slice none 0 0, .string ⟨#[114, 105, 99, 101]⟩, .int .i64 0]
  | 20 => v = .agg #[.string ⟨#[104, 101, 97, 100]⟩, .int .i64 0]
  | 21 => v = .agg #[.string ⟨#[98, 101, 97]⟩, .string ⟨#[104, 101, 97, 100]⟩, .int .i64 0, .bool true, .int .i64 0, .int .i64 0, .int .i64 0, .string ⟨#[]⟩, .int .i64 0, .slice none 0 0, .string ⟨#[]⟩, .int .i64 0]
  | 22 => ∃ g30 : Nat, v = .slice (some ⟨g30, 0, none⟩) 2 2 ∧ Bk B w g30 #[.string ⟨#[97, 110, 97]⟩, .string ⟨#[116, 97, 105, 108]⟩, .int .i64 0, .bool false, .int .i64 0, .int .i64 0, .int .i64 0, .string ⟨#[]⟩, .int .i64 0, .slice none 0 0, .string ⟨#[114, 105, 99, 101]⟩, .int .i64 0, .string ⟨#[98, 101, 97]⟩, .string ⟨#[104, 101, 97, 100]⟩, .int .i64 0, .bool true, .int .i64 0, .int .i64 0, .int .i64 0, .string ⟨#[]⟩, .int .i64 0, .slice none 0 0, .string ⟨#[]⟩, .int .i64 0] 59
  | 23 => v = .agg #[.string ⟨#[116, 97, 105, 108]⟩, .int .i64 0]
  | 24 => v = .agg #[.string ⟨#[97, 110, 97]⟩, .int .i64 0]
  | 25 => v = .agg #[.string ⟨#[97, 110, 97]⟩, .int .i64 0, .int .i64 0, .int .i64 0, .int .i64 0, .string ⟨#[]⟩, .int .i64 0, .slice none 0 0]
  | 26 => ∃ g34 : Nat, v = .slice (some ⟨g34, 0, none⟩) 1 1 ∧ Bk B w g34 #[.string ⟨#[97, 110, 97]⟩, .int .i64 0, .int .i64 0, .int .i64 0, .int .i64 0, .string ⟨#[]⟩, .int .i64 0, .slice none 0 0] 66
  | 27 => ∃ g34 : Nat, v = .agg #[.string ⟨#[116, 117, 114, 110, 115]⟩, .string ⟨#[116, 97, 105, 108]⟩, .int .i64 0, .int .i64 0, .int .i64 0, .int .i64 0, .int .i64 0, .string ⟨#[]⟩, .int .i64 0, .slice none 0 0, .int .i64 0, .int .i64 0, .int .i64 0, .string ⟨#[]⟩, .int .i64 0, .slice none 0 0, .int .i64 0, .int .i64 0, .int .i64 0, .string ⟨#[]⟩, .int .i64 0, .slice none 0 0, .slice (some ⟨g34, 0, none⟩) 1 1] ∧ Bk B w g34 #[.string ⟨#[97, 110, 97]⟩, .int .i64 0, .int .i64 0, .int .i64 0, .int .i64 0, .string ⟨#[]⟩, .int .i64 0, .slice none 0 0] 66
  | 28 => ∃ g34 g36 : Nat, v = .slice (some ⟨g36, 0, none⟩) 1 1 ∧ Bk B w g34 #[.string ⟨#[97, 110, 97]⟩, .int .i64 0, .int .i64 0, .int .i64 0, .int .i64 0, .string ⟨#[]⟩, .int .i64 0, .slice none 0 0] 66 ∧ Bk B w g36 #[.string ⟨#[116, 117, 114, 110, 115]⟩, .string ⟨#[116, 97, 105, 108]⟩, .int .i64 0, .int .i64 0, .int .i64 0, .int .i64 0, .int .i64 0, .string ⟨#[]⟩, .int .i64 0, .slice none 0 0, .int .i64 0, .int .i64 0, .int .i64 0, .string ⟨#[]⟩, .int .i64 0, .slice none 0 0, .int .i64 0, .int .i64 0, .int .i64 0, .string ⟨#[]⟩, .int .i64 0, .slice none 0 0, .slice (some ⟨g34, 0, none⟩) 1 1] 64
  | 29 => v = .agg #[.string ⟨#[98, 101, 97]⟩, .int .i64 0]
  | 30 => v = .agg #[.string ⟨#[116, 97, 105, 108]⟩, .int .i64 0]
  | 31 => v = .agg #[.int .i64 2, .string ⟨#[109, 105, 110, 101]⟩, .string ⟨#[98, 101, 97]⟩, .int .i64 0, .string ⟨#[116, 97, 105, 108]⟩, .int .i64 0, .int .i64 0, .int .i64 0, .int .i64 0, .int .i64 0, .string ⟨#[]⟩, .int .i64 0, .slice none 0 0, .int .i64 0, .int .i64 0, .int .i64 0, .string ⟨#[]⟩, .int .i64 0, .slice none 0 0, .int .i64 0, .int .i64 0, .int .i64 0, .string ⟨#[]⟩, .int .i64 0, .slice none 0 0, .int .i64 0, .int .i64 0, .int .i64 0, .string ⟨#[]⟩, .int .i64 0, .slice none 0 0, .int .i64 0, .int .i64 0, .int .i64 0, .string ⟨#[]⟩, .int .i64 0, .slice none 0 0]
  | 32 => ∃ g40 : Nat, v = .slice (some ⟨g40, 0, none⟩) 1 1 ∧ Bk B w g40 #[.int .i64 2, .string ⟨#[109, 105, 110, 101]⟩, .string ⟨#[98, 101, 97]⟩, .int .i64 0, .string ⟨#[116, 97, 105, 108]⟩, .int .i64 0, .int .i64 0, .int .i64 0, .int .i64 0, .int .i64 0, .string ⟨#[]⟩, .int .i64 0, .slice none 0 0, .int .i64 0, .int .i64 0, .int .i64 0, .string ⟨#[]⟩, .int .i64 0, .slice none 0 0, .int .i64 0, .int .i64 0, .int .i64 0, .string ⟨#[]⟩, .int .i64 0, .slice none 0 0, .int .i64 0, .int .i64 0, .int .i64 0, .string ⟨#[]⟩, .int .i64 0, .slice none 0 0, .int .i64 0, .int .i64 0, .int .i64 0, .string ⟨#[]⟩, .int .i64 0, .slice none 0 0] 68
  | 33 => v = .agg #[.string ⟨#[98, 101, 97]⟩, .int .i64 0]
  | 34 => v = .agg #[.string ⟨#[116, 97, 105, 108]⟩, .int .i64 0]
  | 35 => v = .agg #[.string ⟨#[99, 108, 101, 97, 110]⟩, .string ⟨#[98, 101, 97]⟩, .int .i64 0, .string ⟨#[116, 97, 105, 108]⟩, .int .i64 0, .int .i64 0, .int .i64 0, .int .i64 0, .string ⟨#[]⟩, .int .i64 0, .slice none 0 0]
  | 36 => ∃ g44 : Nat, v = .slice (some ⟨g44, 0, none⟩) 1 1 ∧ Bk B w g44 #[.string ⟨#[99, 108, 101, 97, 110]⟩, .string ⟨#[98, 101, 97]⟩, .int .i64 0, .string ⟨#[116, 97, 105, 108]⟩, .int .i64 0, .int .i64 0, .int .i64 0, .int .i64 0, .string ⟨#[]⟩, .int .i64 0, .slice none 0 0] 70
  | 37 => ∃ g14 g17 g20 g24 g30 g34 g36 g40 g44 : Nat, v = .agg #[.string ⟨#[118, 101, 103, 97]⟩, .int .i64 1, .int .i64 2, .int .i64 4, .string ⟨#[]⟩, .int .i64 0, .slice none 0 0, .int .i64 0, .int .i64 0, .int .i64 0, .string ⟨#[]⟩, .int .i64 0, .slice none 0 0, .int .i64 0, .int .i64 0, .int .i64 0, .string ⟨#[]⟩, .int .i64 0, .slice none 0 0, .slice (some ⟨g17, 0, none⟩) 2 2, .slice (some ⟨g20, 0, none⟩) 2 2, .slice (some ⟨g24, 0, none⟩) 2 2, .slice (some ⟨g30, 0, none⟩) 2 2, .slice (some ⟨g36, 0, none⟩) 1 1, .slice (some ⟨g40, 0, none⟩) 1 1, .slice (some ⟨g44, 0, none⟩) 1 1] ∧ Bk B w g14 #[.int .i64 2, .int .i64 0, .int .i64 0, .string ⟨#[116]⟩, .int .i64 0, .slice none 0 0, .int .i64 1, .int .i64 1, .int .i64 1, .string ⟨#[]⟩, .int .i64 0, .slice none 0 0] 26 ∧ Bk B w g17 #[.string ⟨#[116]⟩, .int .i64 1, .int .i64 3, .int .i64 1, .string ⟨#[]⟩, .int .i64 0, .slice none 0 0, .string ⟨#[117]⟩, .int .i64 3, .int .i64 0, .int .i64 0, .string ⟨#[]⟩, .int .i64 0, .slice (some ⟨g14, 0, none⟩) 2 2] 55 ∧ Bk B w g20 #[.string ⟨#[99, 111, 114, 110]⟩, .int .i64 0, .int .i64 0, .int .i64 0, .string ⟨#[]⟩, .int .i64 0, .slice none 0 0, .string ⟨#[114, 105, 99, 101]⟩, .int .i64 0, .int .i64 0, .int .i64 0, .string ⟨#[]⟩, .int .i64 0, .slice none 0 0] 57 ∧ Bk B w g24 #[.string ⟨#[104, 101, 97, 100]⟩, .string ⟨#[]⟩, .int .i64 0, .int .i64 1, .int .i64 1, .int .i64 3, .string ⟨#[]⟩, .int .i64 0, .slice none 0 0, .int .i64 2, .int .i64 0, .int .i64 0, .string ⟨#[117]⟩, .int .i64 0, .slice none 0 0, .int .i64 0, .int .i64 0, .int .i64 0, .string ⟨#[]⟩, .int .i64 0, .slice none 0 0, .int .i64 0, .int .i64 0, .int .i64 0, .string ⟨#[]⟩, .int .i64 0, .slice none 0 0, .int .i64 0, .int .i64 0, .int .i64 0, .string ⟨#[]⟩, .int .i64 0, .slice none 0 0, .int .i64 0, .int .i64 0, .int .i64 0, .string ⟨#[]⟩, .int .i64 0, .slice none 0 0, .int .i64 0, .int .i64 0, .int .i64 0, .string ⟨#[]⟩, .int .i64 0, .slice none 0 0, .int .i64 0, .int .i64 0, .int .i64 0, .string ⟨#[]⟩, .int .i64 0, .slice none 0 0, .string ⟨#[116, 97, 105, 108]⟩, .string ⟨#[104, 101, 97, 100]⟩, .int .i64 0, .int .i64 0, .int .i64 0, .int .i64 0, .string ⟨#[]⟩, .int .i64 0, .slice none 0 0, .int .i64 0, .int .i64 0, .int .i64 0, .string ⟨#[]⟩, .int .i64 0, .slice none 0 0, .int .i64 0, .int .i64 0, .int .i64 0, .string ⟨#[]⟩, .int .i64 0, .slice none 0 0, .int .i64 0, .int .i64 0, .int .i64 0, .string ⟨#[]⟩, .int .i64 0, .slice none 0 0, .int .i64 0, .int .i64 0, .int .i64 0, .string ⟨#[]⟩, .int .i64 0, .slice none 0 0, .int .i64 0, .int .i64 0, .int .i64 0, .string ⟨#[]⟩, .int .i64 0, .slice none 0 0, .int .i64 0, .int .i64 0, .int .i64 0, .string ⟨#[]⟩, .int .i64 0, .slice none 0 0, .int .i64 0, .int .i64 0, .int .i64 0, .string ⟨#[]⟩, .int .i64 0, .slice none 0 0] 51 ∧ Bk B w g30 #[.string ⟨#[97, 110, 97]⟩, .string ⟨#[116, 97, 105, 108]⟩, .int .i64 0, .bool false, .int .i64 0, .int .i64 0, .int .i64 0, .string ⟨#[]⟩, .int .i64 0, .slice none 0 0, .string ⟨#[114, 105, 99, 101]⟩, .int .i64 0, .string ⟨#[98, 101, 97]⟩, .string ⟨#[104, 101, 97, 100]⟩, .int .i64 0, .bool true, .int .i64 0, .int .i64 0, .int .i64 0, .string ⟨#[]⟩, .int .i64 0, .slice none 0 0, .string ⟨#[]⟩, .int .i64 0] 59 ∧ Bk B w g34 #[.string ⟨#[97, 110, 97]⟩, .int .i64 0, .int .i64 0, .int .i64 0, .int .i64 0, .string ⟨#[]⟩, .int .i64 0, .slice none 0 0] 66 ∧ Bk B w g36 #[.string ⟨#[116, 117, 114, 110, 115]⟩, .string ⟨#[116, 97, 105, 108]⟩, .int .i64 0, .int .i64 0, .int .i64 0, .int .i64 0, .int .i64 0, .string ⟨#[]⟩, .int .i64 0, .slice none 0 0, .int .i64 0, .int .i64 0, .int .i64 0, .string ⟨#[]⟩, .int .i64 0, .slice none 0 0, .int .i64 0, .int .i64 0, .int .i64 0, .string ⟨#[]⟩, .int .i64 0, .slice none 0 0, .slice (some ⟨g34, 0, none⟩) 1 1] 64 ∧ Bk B w g40 #[.int .i64 2, .string ⟨#[109, 105, 110, 101]⟩, .string ⟨#[98, 101, 97]⟩, .int .i64 0, .string ⟨#[116, 97, 105, 108]⟩, .int .i64 0, .int .i64 0, .int .i64 0, .int .i64 0, .int .i64 0, .string ⟨#[]⟩, .int .i64 0, .slice none 0 0, .int .i64 0, .int .i64 0, .int .i64 0, .string ⟨#[]⟩, .int .i64 0, .slice none 0 0, .int .i64 0, .int .i64 0, .int .i64 0, .string ⟨#[]⟩, .int .i64 0, .slice none 0 0, .int .i64 0, .int .i64 0, .int .i64 0, .string ⟨#[]⟩, .int .i64 0, .slice none 0 0, .int .i64 0, .int .i64 0, .int .i64 0, .string ⟨#[]⟩, .int .i64 0, .slice none 0 0] 68 ∧ Bk B w g44 #[.string ⟨#[99, 108, 101, 97, 110]⟩, .string ⟨#[98, 101, 97]⟩, .int .i64 0, .string ⟨#[116, 97, 105, 108]⟩, .int .i64 0, .int .i64 0, .int .i64 0, .int .i64 0, .string ⟨#[]⟩, .int .i64 0, .slice none 0 0] 70
  | _ => True
set_option maxRecDepth 100000 in
theorem smallP_le {B : Nat} (j : Nat) (v : Value) (w w' : World) (hl : LeS B w w') (h : smallP B j v w) : smallP B j v w' := by
  match j, h with
  | 0, h => exact h
  | 1, h => exact h
  | 2, h => exact h
  | 3, h => exact h
  | 4, h => exact h
  | 5, h => exact h
  | 6, h =>
    obtain ⟨g14, h0, b14⟩ := h
    exact ⟨g14, h0, b14.le hl⟩
  | 7, h =>
    obtain ⟨g14, h0, b14⟩ := h
    exact ⟨g14, h0, b14.le hl⟩
  | 8, h =>
    obtain ⟨g14, h0, b14⟩ := h
    exact ⟨g14, h0, b14.le hl⟩
  | 9, h =>
    obtain ⟨g14, g17, h0, b14, b17⟩ := h
    exact ⟨g14, g17, h0, b14.le hl, b17.le hl⟩
  | 10, h => exact h
  | 11, h => exact h
  | 12, h =>
    obtain ⟨g20, h0, b20⟩ := h
    exact ⟨g20, h0, b20.le hl⟩
  | 13, h => exact h
  | 14, h => exact h
  | 15, h => exact h
  | 16, h =>
    obtain ⟨g24, h0, b24⟩ := h
    exact ⟨g24, h0, b24.le hl⟩
  | 17, h => exact h
  | 18, h => exact h
  | 19, h => exact h
  | 20, h => exact h
  | 21, h => exact h
  | 22, h =>
    obtain ⟨g30, h0, b30⟩ := h
    exact ⟨g30, h0, b30.le hl⟩
  | 23, h => exact h
  | 24, h => exact h
  | 25, h => exact h
  | 26, h =>
    obtain ⟨g34, h0, b34⟩ := h
    exact ⟨g34, h0, b34.le hl⟩
  | 27, h =>
    obtain ⟨g34, h0, b34⟩ := h
    exact ⟨g34, h0, b34.le hl⟩
  | 28, h =>
    obtain ⟨g34, g36, h0, b34, b36⟩ := h
    exact ⟨g34, g36, h0, b34.le hl, b36.le hl⟩
  | 29, h => exact h
  | 30, h => exact h
  | 31, h => exact h
  | 32, h =>
    obtain ⟨g40, h0, b40⟩ := h
    exact ⟨g40, h0, b40.le hl⟩
  | 33, h => exact h
  | 34, h => exact h
  | 35, h => exact h
  | 36, h =>
    obtain ⟨g44, h0, b44⟩ := h
    exact ⟨g44, h0, b44.le hl⟩
  | 37, h =>
    obtain ⟨g14, g17, g20, g24, g30, g34, g36, g40, g44, h0, b14, b17, b20, b24, b30, b34, b36, b40, b44⟩ := h
    exact ⟨g14, g17, g20, g24, g30, g34, g36, g40, g44, h0, b14.le hl, b17.le hl, b20.le hl, b24.le hl, b30.le hl, b34.le hl, b36.le hl, b40.le hl, b44.le hl⟩
  | _ + 38, _ => trivial
structure SmExt (W : World) (B : Nat) (l : Array Bool) (w : World) : Prop where
  one : l.getD 38 false = false → Below W.heap.size W w
  two : l.getD 38 false = true → ∃ w1 cells, smallP B 37 (.agg cells) w1 ∧ Below W.heap.size W w1 ∧ w = w1.setRow B cells
theorem SmExt.quiet {W : World} {B : Nat} {l : Array Bool} {w w2 : World} {i : Nat} (h : SmExt W B l w) (n : l.getD 38 false = false) (hi : i ≠ 38) (hb : Below w.heap.size w w2) : SmExt W B (l.setIfInBounds i true) w2 :=
  ⟨fun _ => (h.one n).trans (hb.mono (h.one n).size), fun h8 => by rw [set_other hi, n] at h8; cases h8⟩
def headCs : List Value := [.string ⟨#[104, 101, 97, 100]⟩, .string ⟨#[]⟩, .int .i64 0, .int .i64 1, .int .i64 1, .int .i64 3, .string ⟨#[]⟩, .int .i64 0, .slice none 0 0, .int .i64 2, .int .i64 0, .int .i64 0, .string ⟨#[117]⟩, .int .i64 0, .slice none 0 0, .int .i64 0, .int .i64 0, .int .i64 0, .string ⟨#[]⟩, .int .i64 0, .slice none 0 0, .int .i64 0, .int .i64 0, .int .i64 0, .string ⟨#[]⟩, .int .i64 0, .slice none 0 0, .int .i64 0, .int .i64 0, .int .i64 0, .string ⟨#[]⟩, .int .i64 0, .slice none 0 0, .int .i64 0, .int .i64 0, .int .i64 0, .string ⟨#[]⟩, .int .i64 0, .slice none 0 0, .int .i64 0, .int .i64 0, .int .i64 0, .string ⟨#[]⟩, .int .i64 0, .slice none 0 0, .int .i64 0, .int .i64 0, .int .i64 0, .string ⟨#[]⟩, .int .i64 0, .slice none 0 0]
set_option maxRecDepth 100000 in
set_option maxHeartbeats 16000000 in
theorem reg_small3 {a₀ : Act} {W0 : World} {Q : Exit → Act → World → Prop} {B B2 : Nat} {row0 : Array Value} (ops : Array Oper) (hops : regOf Try.f21 3 = some ops)
    (ht0 : a₀.tmps.getD 0 undef = .pointer (some ⟨B, 0, none⟩)) (ht2 : a₀.tmps.getD 2 undef = .pointer (some ⟨B2, 0, none⟩)) (hz : a₀.tmps.size = 46) (hBlt : B < W0.heap.size) (h2lt : B2 < W0.heap.size) (hrow0 : W0.heap[B]? = some (.cells row0 35 (0, 0))) (hrow26 : row0.size = 26)
    (hr2 : W0.rangeAt B2 0 headCs)
    (hQ : ∀ (a : Act) w1 cells, a.tmps.size = 46 → a.defers = a₀.defers → (∀ t, (t < 8 ∨ 45 < t) → a.tmps.getD t undef = a₀.tmps.getD t undef) → smallP B 37 (.agg cells) w1 → Below W0.heap.size W0 w1 → Q .normal a (w1.setRow B cells)) :
    (Code.region 3 ops true).wp Try.prog Q a₀ W0 := by
  obtain rfl := Option.some.inj ((rfl : regOf Try.f21 3 = some _).symm.trans hops)
  clear hops
  refine wp_region_mids (by kernel_rfl) (fun l _ w => SmExt W0 B l w) (smallP B) (fun _ => LeS B) (by kernel_rfl) (by rw [hz]; kernel_rfl) (by kernel_rfl) (fun _ j v w w' _ _ hl h => smallP_le j v w w' hl h) ⟨fun _ => (Below.refl _ _).drew, fun h => (by cases h)⟩ ?_ ?_
  · intro ix listed a w' hM hix o ho
    have HE := Lib.hid hM.ext
    have hlt := (Array.getElem?_eq_some_iff.1 ho).1
    have hsz := hM.size
    match ix, hlt with
    | 0, _ =>
      have n38 : listed.getD 38 false = false := by
        rw [Bool.eq_false_iff]; intro h6
        have := anc_listed hM.down 40 38 0 (by kernel_rfl) h6
        rw [hM.not_yet hix] at this; cases this
      have HN := Lib.hid n38
      clear n38
      obtain rfl := Option.some.inj ho
      go_simp
      refine (num_any 2 4 _).mono ?_
      rintro e w2 ⟨rfl, hb2⟩
      exact ⟨_, rfl, HE.out.quiet HN.out (by decide) hb2, LeS.below hb2, rfl⟩
    | 1, _ =>
      have n38 : listed.getD 38 false = false := by
        rw [Bool.eq_false_iff]; intro h6
        have := anc_listed hM.down 40 38 1 (by kernel_rfl) h6
        rw [hM.not_yet hix] at this; cases this
      have HN := Lib.hid n38
      clear n38
      obtain rfl := Option.some.inj ho
      go_simp
      refine (num_any 3 1 _).mono ?_
      rintro e w2 ⟨rfl, hb2⟩
      exact ⟨_, rfl, HE.out.quiet HN.out (by decide) hb2, LeS.below hb2, rfl⟩
    | 2, _ =>
      have n38 : listed.getD 38 false = false := by
        rw [Bool.eq_false_iff]; intro h6
        have := anc_listed hM.down 40 38 2 (by kernel_rfl) h6
        rw [hM.not_yet hix] at this; cases this
      have HN := Lib.hid n38
      clear n38
      have d9 := hM.dep hix 1 9 (by kernel_rfl) (by kernel_rfl)
      unfold smallP at d9
      simp only at d9
      obtain rfl := Option.some.inj ho
      go_simp
      exact ⟨_, rfl, HE.out.quiet HN.out (by decide) (Below.refl _ _), LeS.refl _ _, rfl⟩
    | 3, _ =>
      have n38 : listed.getD 38 false = false := by
        rw [Bool.eq_false_iff]; intro h6
        have := anc_listed hM.down 40 38 3 (by kernel_rfl) h6
        rw [hM.not_yet hix] at this; cases this
      have HN := Lib.hid n38
      clear n38
      obtain rfl := Option.some.inj ho
      go_simp
      exact ⟨_, rfl, HE.out.quiet HN.out (by decide) (Below.refl _ _), LeS.refl _ _, rfl⟩
    | 4, _ =>
      have n38 : listed.getD 38 false = false := by
        rw [Bool.eq_false_iff]; intro h6
        have := anc_listed hM.down 40 38 4 (by kernel_rfl) h6
        rw [hM.not_yet hix] at this; cases this
      have HN := Lib.hid n38
      clear n38
      have d11 := hM.dep hix 3 11 (by kernel_rfl) (by kernel_rfl)
      unfold smallP at d11
      simp only at d11
      obtain rfl := Option.some.inj ho
      go_simp
      exact ⟨_, rfl, HE.out.quiet HN.out (by decide) (Below.refl _ _), LeS.refl _ _, rfl⟩
    | 5, _ =>
      have n38 : listed.getD 38 false = false := by
        rw [Bool.eq_false_iff]; intro h6
        have := anc_listed hM.down 40 38 5 (by kernel_rfl) h6
        rw [hM.not_yet hix] at this; cases this
      have HN := Lib.hid n38
      clear n38
      obtain rfl := Option.some.inj ho
      go_simp
      refine (num_any 1 1 _).mono ?_
      rintro e w2 ⟨rfl, hb2⟩
      exact ⟨_, rfl, HE.out.quiet HN.out (by decide) hb2, LeS.below hb2, rfl⟩
    | 6, _ =>
      have n38 : listed.getD 38 false = false := by
        rw [Bool.eq_false_iff]; intro h6
        have := anc_listed hM.down 40 38 6 (by kernel_rfl) h6
        rw [hM.not_yet hix] at this; cases this
      have HN := Lib.hid n38
      clear n38
      have d12 := hM.dep hix 4 12 (by kernel_rfl) (by kernel_rfl)
      unfold smallP at d12
      simp only at d12
      have d13 := hM.dep hix 5 13 (by kernel_rfl) (by kernel_rfl)
      unfold smallP at d13
      simp only at d13
      obtain rfl := Option.some.inj ho
      go_simp
      have hup : Below w'.heap.size w' (w'.alloc (.cells #[.int .i64 2, .int .i64 0, .int .i64 0, .string ⟨#[116]⟩, .int .i64 0, .slice none 0 0, .int .i64 1, .int .i64 1, .int .i64 1, .string ⟨#[]⟩, .int .i64 0, .slice none 0 0] 26)) := (Below.refl _ _).alloc (Nat.le_refl _) _
      have hBw : B < w'.heap.size := Nat.lt_of_lt_of_le hBlt (HE.out.one HN.out).size
      exact ⟨_, rfl, HE.out.quiet HN.out (by decide) hup, LeS.below hup, w'.heap.size, rfl, hBw, World.alloc_heap_new _ _⟩
    | 7, _ =>
      have n38 : listed.getD 38 false = false := by
        rw [Bool.eq_false_iff]; intro h6
        have := anc_listed hM.down 40 38 7 (by kernel_rfl) h6
        rw [hM.not_yet hix] at this; cases this
      have HN := Lib.hid n38
      clear n38
      have d14 := hM.dep hix 6 14 (by kernel_rfl) (by kernel_rfl)
      unfold smallP at d14
      simp only at d14
      obtain ⟨g14, d14, b14⟩ := d14
      have H14 := Lib.hid b14
      clear b14
      obtain rfl := Option.some.inj ho
      go_simp
      exact ⟨_, rfl, HE.out.quiet HN.out (by decide) (Below.refl _ _), LeS.refl _ _, g14, rfl, H14.out⟩
    | 8, _ =>
      have n38 : listed.getD 38 false = false := by
        rw [Bool.eq_false_iff]; intro h6
        have := anc_listed hM.down 40 38 8 (by kernel_rfl) h6
        rw [hM.not_yet hix] at this; cases this
      have HN := Lib.hid n38
      clear n38
      have d15 := hM.dep hix 7 15 (by kernel_rfl) (by kernel_rfl)
      unfold smallP at d15
      simp only at d15
      obtain ⟨g14, d15, b14⟩ := d15
      have H14 := Lib.hid b14
      clear b14
      obtain rfl := Option.some.inj ho
      go_simp
      exact ⟨_, rfl, HE.out.quiet HN.out (by decide) (Below.refl _ _), LeS.refl _ _, g14, rfl, H14.out⟩
    | 9, _ =>
      have n38 : listed.getD 38 false = false := by
        rw [Bool.eq_false_iff]; intro h6
        have := anc_listed hM.down 40 38 9 (by kernel_rfl) h6
        rw [hM.not_yet hix] at this; cases this
      have HN := Lib.hid n38
      clear n38
      have d10 := hM.dep hix 2 10 (by kernel_rfl) (by kernel_rfl)
      unfold smallP at d10
      simp only at d10
      have d16 := hM.dep hix 8 16 (by kernel_rfl) (by kernel_rfl)
      unfold smallP at d16
      simp only at d16
      obtain ⟨g14, d16, b14⟩ := d16
      have H14 := Lib.hid b14
      clear b14
      obtain rfl := Option.some.inj ho
      go_simp
      have hup : Below w'.heap.size w' (w'.alloc (.cells #[.string ⟨#[116]⟩, .int .i64 1, .int .i64 3, .int .i64 1, .string ⟨#[]⟩, .int .i64 0, .slice none 0 0, .string ⟨#[117]⟩, .int .i64 3, .int .i64 0, .int .i64 0, .string ⟨#[]⟩, .int .i64 0, .slice (some ⟨g14, 0, none⟩) 2 2] 55)) := (Below.refl _ _).alloc (Nat.le_refl _) _
      have hBw : B < w'.heap.size := Nat.lt_of_lt_of_le hBlt (HE.out.one HN.out).size
      exact ⟨_, rfl, HE.out.quiet HN.out (by decide) hup, LeS.below hup, g14, w'.heap.size, rfl, H14.out.le (LeS.below hup), hBw, World.alloc_heap_new _ _⟩
    | 10, _ =>
      have n38 : listed.getD 38 false = false := by
        rw [Bool.eq_false_iff]; intro h6
        have := anc_listed hM.down 40 38 10 (by kernel_rfl) h6
        rw [hM.not_yet hix] at this; cases this
      have HN := Lib.hid n38
      clear n38
      obtain rfl := Option.some.inj ho
      go_simp
      exact ⟨_, rfl, HE.out.quiet HN.out (by decide) (Below.refl _ _), LeS.refl _ _, rfl⟩
    | 11, _ =>
      have n38 : listed.getD 38 false = false := by
        rw [Bool.eq_false_iff]; intro h6
        have := anc_listed hM.down 40 38 11 (by kernel_rfl) h6
        rw [hM.not_yet hix] at this; cases this
      have HN := Lib.hid n38
      clear n38
      obtain rfl := Option.some.inj ho
      go_simp
      exact ⟨_, rfl, HE.out.quiet HN.out (by decide) (Below.refl _ _), LeS.refl _ _, rfl⟩
    | 12, _ =>
      have n38 : listed.getD 38 false = false := by
        rw [Bool.eq_false_iff]; intro h6
        have := anc_listed hM.down 40 38 12 (by kernel_rfl) h6
        rw [hM.not_yet hix] at this; cases this
      have HN := Lib.hid n38
      clear n38
      have d18 := hM.dep hix 10 18 (by kernel_rfl) (by kernel_rfl)
      unfold smallP at d18
      simp only at d18
      have d19 := hM.dep hix 11 19 (by kernel_rfl) (by kernel_rfl)
      unfold smallP at d19
      simp only at d19
      obtain rfl := Option.some.inj ho
      go_simp
      have hup : Below w'.heap.size w' (w'.alloc (.cells #[.string ⟨#[99, 111, 114, 110]⟩, .int .i64 0, .int .i64 0, .int .i64 0, .string ⟨#[]⟩, .int .i64 0, .slice none 0 0, .string ⟨#[114, 105, 99, 101]⟩, .int .i64 0, .int .i64 0, .int .i64 0, .string ⟨#[]⟩, .int .i64 0, .slice none 0 0] 57)) := (Below.refl _ _).alloc (Nat.le_refl _) _
      have hBw : B < w'.heap.size := Nat.lt_of_lt_of_le hBlt (HE.out.one HN.out).size
      exact ⟨_, rfl, HE.out.quiet HN.out (by decide) hup, LeS.below hup, w'.heap.size, rfl, hBw, World.alloc_heap_new _ _⟩
    | 13, _ =>
      have n38 : listed.getD 38 false = false := by
        rw [Bool.eq_false_iff]; intro h6
        have := anc_listed hM.down 40 38 13 (by kernel_rfl) h6
        rw [hM.not_yet hix] at this; cases this
      have HN := Lib.hid n38
      clear n38
      have d := hM.old hix 2 (by kernel_rfl) _ ht2
      have HRd := Lib.hid (rangeAt_block hr2 ((HE.out.one HN.out).block _ h2lt))
      clear hr2
      obtain rfl := Option.some.inj ho
      refine wp_load_mid 51 _ rfl B2 0 (by simpa [Act.eval] using d) headCs _ HRd.out Try.underlying51 rfl (by kernel_rfl) ?_
      exact ⟨_, rfl, HE.out.quiet HN.out (by decide) (Below.refl _ _), LeS.refl _ _, rfl⟩
    | 14, _ =>
      have n38 : listed.getD 38 false = false := by
        rw [Bool.eq_false_iff]; intro h6
        have := anc_listed hM.down 40 38 14 (by kernel_rfl) h6
        rw [hM.not_yet hix] at this; cases this
      have HN := Lib.hid n38
      clear n38
      obtain rfl := Option.some.inj ho
      go_simp
      exact ⟨_, rfl, HE.out.quiet HN.out (by decide) (Below.refl _ _), LeS.refl _ _, rfl⟩
    | 15, _ =>
      have n38 : listed.getD 38 false = false := by
        rw [Bool.eq_false_iff]; intro h6
        have := anc_listed hM.down 40 38 15 (by kernel_rfl) h6
        rw [hM.not_yet hix] at this; cases this
      have HN := Lib.hid n38
      clear n38
      have d22 := hM.dep hix 14 22 (by kernel_rfl) (by kernel_rfl)
      unfold smallP at d22
      simp only at d22
      obtain rfl := Option.some.inj ho
      go_simp
      exact ⟨_, rfl, HE.out.quiet HN.out (by decide) (Below.refl _ _), LeS.refl _ _, rfl⟩
    | 16, _ =>
      have n38 : listed.getD 38 false = false := by
        rw [Bool.eq_false_iff]; intro h6
        have := anc_listed hM.down 40 38 16 (by kernel_rfl) h6
        rw [hM.not_yet hix] at this; cases this
      have HN := Lib.hid n38
      clear n38
      have d21 := hM.dep hix 13 21 (by kernel_rfl) (by kernel_rfl)
      unfold smallP at d21
      simp only at d21
      have d23 := hM.dep hix 15 23 (by kernel_rfl) (by kernel_rfl)
      unfold smallP at d23
      simp only at d23
      obtain rfl := Option.some.inj ho
      go_simp
      have hup : Below w'.heap.size w' (w'.alloc (.cells #[.string ⟨#[104, 101, 97, 100]⟩, .string ⟨#[]⟩, .int .i64 0, .int .i64 1, .int .i64 1, .int .i64 3, .string ⟨#[]⟩, .int .i64 0, .slice none 0 0, .int .i64 2, .int .i64 0, .int .i64 0, .string ⟨#[117]⟩, .int .i64 0, .slice none 0 0, .int .i64 0, .int .i64 0, .int .i64 0, .string ⟨#[]⟩, .int .i64 0, .slice none 0 0, .int .i64 0, .int .i64 0, .int .i64 0, .string ⟨#[]⟩, .int .i64 0, .slice none 0 0, .int .i64 0, .int .i64 0, .int .i64 0, .string ⟨#[]⟩, .int .i64 0, .slice none 0 0, .int .i64 0, .int .i64 0, .int .i64 0, .string ⟨#[]⟩, .int .i64 0, .slice none 0 0, .int .i64 0, .int .i64 0, .int .i64 0, .string ⟨#[]⟩, .int .i64 0, .slice none 0 0, .int .i64 0, .int .i64 0, .int .i64 0, .string ⟨#[]⟩, .int .i64 0, .slice none 0 0, .string ⟨#[116, 97, 105, 108]⟩, .string ⟨#[104, 101, 97, 100]⟩, .int .i64 0, .int .i64 0, .int .i64 0, .int .i64 0, .string ⟨#[]⟩, .int .i64 0, .slice none 0 0, .int .i64 0, .int .i64 0, .int .i64 0, .string ⟨#[]⟩, .int .i64 0, .slice none 0 0, .int .i64 0, .int .i64 0, .int .i64 0, .string ⟨#[]⟩, .int .i64 0, .slice none 0 0, .int .i64 0, .int .i64 0, .int .i64 0, .string ⟨#[]⟩, .int .i64 0, .slice none 0 0, .int .i64 0, .int .i64 0, .int .i64 0, .string ⟨#[]⟩, .int .i64 0, .slice none 0 0, .int .i64 0, .int .i64 0, .int .i64 0, .string ⟨#[]⟩, .int .i64 0, .slice none 0 0, .int .i64 0, .int .i64 0, .int .i64 0, .string ⟨#[]⟩, .int .i64 0, .slice none 0 0, .int .i64 0, .int .i64 0, .int .i64 0, .string ⟨#[]⟩, .int .i64 0, .slice none 0 0] 51)) := (Below.refl _ _).alloc (Nat.le_refl _) _
      have hBw : B < w'.heap.size := Nat.lt_of_lt_of_le hBlt (HE.out.one HN.out).size
      exact ⟨_, rfl, HE.out.quiet HN.out (by decide) hup, LeS.below hup, w'.heap.size, rfl, hBw, World.alloc_heap_new _ _⟩
    | 17, _ =>
      have n38 : listed.getD 38 false = false := by
        rw [Bool.eq_false_iff]; intro h6
        have := anc_listed hM.down 40 38 17 (by kernel_rfl) h6
        rw [hM.not_yet hix] at this; cases this
      have HN := Lib.hid n38
      clear n38
      obtain rfl := Option.some.inj ho
      go_simp
      exact ⟨_, rfl, HE.out.quiet HN.out (by decide) (Below.refl _ _), LeS.refl _ _, rfl⟩
    | 18, _ =>
      have n38 : listed.getD 38 false = false := by
        rw [Bool.eq_false_iff]; intro h6
        have := anc_listed hM.down 40 38 18 (by kernel_rfl) h6
        rw [hM.not_yet hix] at this; cases this
      have HN := Lib.hid n38
      clear n38
      obtain rfl := Option.some.inj ho
      go_simp
      exact ⟨_, rfl, HE.out.quiet HN.out (by decide) (Below.refl _ _), LeS.refl _ _, rfl⟩
    | 19, _ =>
      have n38 : listed.getD 38 false = false := by
        rw [Bool.eq_false_iff]; intro h6
        have := anc_listed hM.down 40 38 19 (by kernel_rfl) h6
        rw [hM.not_yet hix] at this; cases this
      have HN := Lib.hid n38
      clear n38
      have d25 := hM.dep hix 17 25 (by kernel_rfl) (by kernel_rfl)
      unfold smallP at d25
      simp only at d25
      have d26 := hM.dep hix 18 26 (by kernel_rfl) (by kernel_rfl)
      unfold smallP at d26
      simp only at d26
      obtain rfl := Option.some.inj ho
      go_simp
      exact ⟨_, rfl, HE.out.quiet HN.out (by decide) (Below.refl _ _), LeS.refl _ _, rfl⟩
    | 20, _ =>
      have n38 : listed.getD 38 false = false := by
        rw [Bool.eq_false_iff]; intro h6
        have := anc_listed hM.down 40 38 20 (by kernel_rfl) h6
        rw [hM.not_yet hix] at this; cases this
      have HN := Lib.hid n38
      clear n38
      obtain rfl := Option.some.inj ho
      go_simp
      exact ⟨_, rfl, HE.out.quiet HN.out (by decide) (Below.refl _ _), LeS.refl _ _, rfl⟩
    | 21, _ =>
      have n38 : listed.getD 38 false = false := by
        rw [Bool.eq_false_iff]; intro h6
        have := anc_listed hM.down 40 38 21 (by kernel_rfl) h6
        rw [hM.not_yet hix] at this; cases this
      have HN := Lib.hid n38
      clear n38
      have d28 := hM.dep hix 20 28 (by kernel_rfl) (by kernel_rfl)
      unfold smallP at d28
      simp only at d28
      obtain rfl := Option.some.inj ho
      go_simp
      exact ⟨_, rfl, HE.out.quiet HN.out (by decide) (Below.refl _ _), LeS.refl _ _, rfl⟩
    | 22, _ =>
      have n38 : listed.getD 38 false = false := by
        rw [Bool.eq_false_iff]; intro h6
        have := anc_listed hM.down 40 38 22 (by kernel_rfl) h6
        rw [hM.not_yet hix] at this; cases this
      have HN := Lib.hid n38
      clear n38
      have d27 := hM.dep hix 19 27 (by kernel_rfl) (by kernel_rfl)
      unfold smallP at d27
      simp only at d27
      have d29 := hM.dep hix 21 29 (by kernel_rfl) (by kernel_rfl)
      unfold smallP at d29
      simp only at d29
      obtain rfl := Option.some.inj ho
      go_simp
      have hup : Below w'.heap.size w' (w'.alloc (.cells #[.string ⟨#[97, 110, 97]⟩, .string ⟨#[116, 97, 105, 108]⟩, .int .i64 0, .bool false, .int .i64 0, .int .i64 0, .int .i64 0, .string ⟨#[]⟩, .int .i64 0, .slice none 0 0, .string ⟨#[114, 105, 99, 101]⟩, .int .i64 0, .string ⟨#[98, 101, 97]⟩, .string ⟨#[104, 101, 97, 100]⟩, .int .i64 0, .bool true, .int .i64 0, .int .i64 0, .int .i64 0, .string ⟨#[]⟩, .int .i64 0, .slice none 0 0, .string ⟨#[]⟩, .int .i64 0] 59)) := (Below.refl _ _).alloc (Nat.le_refl _) _
      have hBw : B < w'.heap.size := Nat.lt_of_lt_of_le hBlt (HE.out.one HN.out).size
      exact ⟨_, rfl, HE.out.quiet HN.out (by decide) hup, LeS.below hup, w'.heap.size, rfl, hBw, World.alloc_heap_new _ _⟩
    | 23, _ =>
      have n38 : listed.getD 38 false = false := by
        rw [Bool.eq_false_iff]; intro h6
        have := anc_listed hM.down 40 38 23 (by kernel_rfl) h6
        rw [hM.not_yet hix] at this; cases this
      have HN := Lib.hid n38
      clear n38
      obtain rfl := Option.some.inj ho
      go_simp
      exact ⟨_, rfl, HE.out.quiet HN.out (by decide) (Below.refl _ _), LeS.refl _ _, rfl⟩
    | 24, _ =>
      have n38 : listed.getD 38 false = false := by
        rw [Bool.eq_false_iff]; intro h6
        have := anc_listed hM.down 40 38 24 (by kernel_rfl) h6
        rw [hM.not_yet hix] at this; cases this
      have HN := Lib.hid n38
      clear n38
      obtain rfl := Option.some.inj ho
      go_simp
      exact ⟨_, rfl, HE.out.quiet HN.out (by decide) (Below.refl _ _), LeS.refl _ _, rfl⟩
    | 25, _ =>
      have n38 : listed.getD 38 false = false := by
        rw [Bool.eq_false_iff]; intro h6
        have := anc_listed hM.down 40 38 25 (by kernel_rfl) h6
        rw [hM.not_yet hix] at this; cases this
      have HN := Lib.hid n38
      clear n38
      have d32 := hM.dep hix 24 32 (by kernel_rfl) (by kernel_rfl)
      unfold smallP at d32
      simp only at d32
      obtain rfl := Option.some.inj ho
      go_simp
      exact ⟨_, rfl, HE.out.quiet HN.out (by decide) (Below.refl _ _), LeS.refl _ _, rfl⟩
    | 26, _ =>
      have n38 : listed.getD 38 false = false := by
        rw [Bool.eq_false_iff]; intro h6
        have := anc_listed hM.down 40 38 26 (by kernel_rfl) h6
        rw [hM.not_yet hix] at this; cases this
      have HN := Lib.hid n38
      clear n38
      have d33 := hM.dep hix 25 33 (by kernel_rfl) (by kernel_rfl)
      unfold smallP at d33
      simp only at d33
      obtain rfl := Option.some.inj ho
      go_simp
      have hup : Below w'.heap.size w' (w'.alloc (.cells #[.string ⟨#[97, 110, 97]⟩, .int .i64 0, .int .i64 0, .int .i64 0, .int .i64 0, .string ⟨#[]⟩, .int .i64 0, .slice none 0 0] 66)) := (Below.refl _ _).alloc (Nat.le_refl _) _
      have hBw : B < w'.heap.size := Nat.lt_of_lt_of_le hBlt (HE.out.one HN.out).size
      exact ⟨_, rfl, HE.out.quiet HN.out (by decide) hup, LeS.below hup, w'.heap.size, rfl, hBw, World.alloc_heap_new _ _⟩
    | 27, _ =>
      have n38 : listed.getD 38 false = false := by
        rw [Bool.eq_false_iff]; intro h6
        have := anc_listed hM.down 40 38 27 (by kernel_rfl) h6
        rw [hM.not_yet hix] at this; cases this
      have HN := Lib.hid n38
      clear n38
      have d31 := hM.dep hix 23 31 (by kernel_rfl) (by kernel_rfl)
      unfold smallP at d31
      simp only at d31
      have d34 := hM.dep hix 26 34 (by kernel_rfl) (by kernel_rfl)
      unfold smallP at d34
      simp only at d34
      obtain ⟨g34, d34, b34⟩ := d34
      have H34 := Lib.hid b34
      clear b34
      obtain rfl := Option.some.inj ho
      go_simp
      exact ⟨_, rfl, HE.out.quiet HN.out (by decide) (Below.refl _ _), LeS.refl _ _, g34, rfl, H34.out⟩
    | 28, _ =>
      have n38 : listed.getD 38 false = false := by
        rw [Bool.eq_false_iff]; intro h6
        have := anc_listed hM.down 40 38 28 (by kernel_rfl) h6
        rw [hM.not_yet hix] at this; cases this
      have HN := Lib.hid n38
      clear n38
      have d35 := hM.dep hix 27 35 (by kernel_rfl) (by kernel_rfl)
      unfold smallP at d35
      simp only at d35
      obtain ⟨g34, d35, b34⟩ := d35
      have H34 := Lib.hid b34
      clear b34
      obtain rfl := Option.some.inj ho
      go_simp
      have hup : Below w'.heap.size w' (w'.alloc (.cells #[.string ⟨#[116, 117, 114, 110, 115]⟩, .string ⟨#[116, 97, 105, 108]⟩, .int .i64 0, .int .i64 0, .int .i64 0, .int .i64 0, .int .i64 0, .string ⟨#[]⟩, .int .i64 0, .slice none 0 0, .int .i64 0, .int .i64 0, .int .i64 0, .string ⟨#[]⟩, .int .i64 0, .slice none 0 0, .int .i64 0, .int .i64 0, .int .i64 0, .string ⟨#[]⟩, .int .i64 0, .slice none 0 0, .slice (some ⟨g34, 0, none⟩) 1 1] 64)) := (Below.refl _ _).alloc (Nat.le_refl _) _
      have hBw : B < w'.heap.size := Nat.lt_of_lt_of_le hBlt (HE.out.one HN.out).size
      exact ⟨_, rfl, HE.out.quiet HN.out (by decide) hup, LeS.below hup, g34, w'.heap.size, rfl, H34.out.le (LeS.below hup), hBw, World.alloc_heap_new _ _⟩
    | 29, _ =>
      have n38 : listed.getD 38 false = false := by
        rw [Bool.eq_false_iff]; intro h6
        have := anc_listed hM.down 40 38 29 (by kernel_rfl) h6
        rw [hM.not_yet hix] at this; cases this
      have HN := Lib.hid n38
      clear n38
      obtain rfl := Option.some.inj ho
      go_simp
      exact ⟨_, rfl, HE.out.quiet HN.out (by decide) (Below.refl _ _), LeS.refl _ _, rfl⟩
    | 30, _ =>
      have n38 : listed.getD 38 false = false := by
        rw [Bool.eq_false_iff]; intro h6
        have := anc_listed hM.down 40 38 30 (by kernel_rfl) h6
        rw [hM.not_yet hix] at this; cases this
      have HN := Lib.hid n38
      clear n38
      obtain rfl := Option.some.inj ho
      go_simp
      exact ⟨_, rfl, HE.out.quiet HN.out (by decide) (Below.refl _ _), LeS.refl _ _, rfl⟩
    | 31, _ =>
      have n38 : listed.getD 38 false = false := by
        rw [Bool.eq_false_iff]; intro h6
        have := anc_listed hM.down 40 38 31 (by kernel_rfl) h6
        rw [hM.not_yet hix] at this; cases this
      have HN := Lib.hid n38
      clear n38
      have d37 := hM.dep hix 29 37 (by kernel_rfl) (by kernel_rfl)
      unfold smallP at d37
      simp only at d37
      have d38 := hM.dep hix 30 38 (by kernel_rfl) (by kernel_rfl)
      unfold smallP at d38
      simp only at d38
      obtain rfl := Option.some.inj ho
      go_simp
      exact ⟨_, rfl, HE.out.quiet HN.out (by decide) (Below.refl _ _), LeS.refl _ _, rfl⟩
    | 32, _ =>
      have n38 : listed.getD 38 false = false := by
        rw [Bool.eq_false_iff]; intro h6
        have := anc_listed hM.down 40 38 32 (by kernel_rfl) h6
        rw [hM.not_yet hix] at this; cases this
      have HN := Lib.hid n38
      clear n38
      have d39 := hM.dep hix 31 39 (by kernel_rfl) (by kernel_rfl)
      unfold smallP at d39
      simp only at d39
      obtain rfl := Option.some.inj ho
      go_simp
      have hup : Below w'.heap.size w' (w'.alloc (.cells #[.int .i64 2, .string ⟨#[109, 105, 110, 101]⟩, .string ⟨#[98, 101, 97]⟩, .int .i64 0, .string ⟨#[116, 97, 105, 108]⟩, .int .i64 0, .int .i64 0, .int .i64 0, .int .i64 0, .int .i64 0, .string ⟨#[]⟩, .int .i64 0, .slice none 0 0, .int .i64 0, .int .i64 0, .int .i64 0, .string ⟨#[]⟩, .int .i64 0, .slice none 0 0, .int .i64 0, .int .i64 0, .int .i64 0, .string ⟨#[]⟩, .int .i64 0, .slice none 0 0, .int .i64 0, .int .i64 0, .int .i64 0, .string ⟨#[]⟩, .int .i64 0, .slice none 0 0, .int .i64 0, .int .i64 0, .int .i64 0, .string ⟨#[]⟩, .int .i64 0, .slice none 0 0] 68)) := (Below.refl _ _).alloc (Nat.le_refl _) _
      have hBw : B < w'.heap.size := Nat.lt_of_lt_of_le hBlt (HE.out.one HN.out).size
      exact ⟨_, rfl, HE.out.quiet HN.out (by decide) hup, LeS.below hup, w'.heap.size, rfl, hBw, World.alloc_heap_new _ _⟩
    | 33, _ =>
      have n38 : listed.getD 38 false = false := by
        rw [Bool.eq_false_iff]; intro h6
        have := anc_listed hM.down 40 38 33 (by kernel_rfl) h6
        rw [hM.not_yet hix] at this; cases this
      have HN := Lib.hid n38
      clear n38
      obtain rfl := Option.some.inj ho
      go_simp
      exact ⟨_, rfl, HE.out.quiet HN.out (by decide) (Below.refl _ _), LeS.refl _ _, rfl⟩
    | 34, _ =>
      have n38 : listed.getD 38 false = false := by
        rw [Bool.eq_false_iff]; intro h6
        have := anc_listed hM.down 40 38 34 (by kernel_rfl) h6
        rw [hM.not_yet hix] at this; cases this
      have HN := Lib.hid n38
      clear n38
      obtain rfl := Option.some.inj ho
      go_simp
      exact ⟨_, rfl, HE.out.quiet HN.out (by decide) (Below.refl _ _), LeS.refl _ _, rfl⟩
    | 35, _ =>
      have n38 : listed.getD 38 false = false := by
        rw [Bool.eq_false_iff]; intro h6
        have := anc_listed hM.down 40 38 35 (by kernel_rfl) h6
        rw [hM.not_yet hix] at this; cases this
      have HN := Lib.hid n38
      clear n38
      have d41 := hM.dep hix 33 41 (by kernel_rfl) (by kernel_rfl)
      unfold smallP at d41
      simp only at d41
      have d42 := hM.dep hix 34 42 (by kernel_rfl) (by kernel_rfl)
      unfold smallP at d42
      simp only at d42
      obtain rfl := Option.some.inj ho
      go_simp
      exact ⟨_, rfl, HE.out.quiet HN.out (by decide) (Below.refl _ _), LeS.refl _ _, rfl⟩
    | 36, _ =>
      have n38 : listed.getD 38 false = false := by
        rw [Bool.eq_false_iff]; intro h6
        have := anc_listed hM.down 40 38 36 (by kernel_rfl) h6
        rw [hM.not_yet hix] at this; cases this
      have HN := Lib.hid n38
      clear n38
      have d43 := hM.dep hix 35 43 (by kernel_rfl) (by kernel_rfl)
      unfold smallP at d43
      simp only at d43
      obtain rfl := Option.some.inj ho
      go_simp
      have hup : Below w'.heap.size w' (w'.alloc (.cells #[.string ⟨#[99, 108, 101, 97, 110]⟩, .string ⟨#[98, 101, 97]⟩, .int .i64 0, .string ⟨#[116, 97, 105, 108]⟩, .int .i64 0, .int .i64 0, .int .i64 0, .int .i64 0, .string ⟨#[]⟩, .int .i64 0, .slice none 0 0] 70)) := (Below.refl _ _).alloc (Nat.le_refl _) _
      have hBw : B < w'.heap.size := Nat.lt_of_lt_of_le hBlt (HE.out.one HN.out).size
      exact ⟨_, rfl, HE.out.quiet HN.out (by decide) hup, LeS.below hup, w'.heap.size, rfl, hBw, World.alloc_heap_new _ _⟩
    | 37, _ =>
      have n38 : listed.getD 38 false = false := by
        rw [Bool.eq_false_iff]; intro h6
        have := anc_listed hM.down 40 38 37 (by kernel_rfl) h6
        rw [hM.not_yet hix] at this; cases this
      have HN := Lib.hid n38
      clear n38
      have d8 := hM.dep hix 0 8 (by kernel_rfl) (by kernel_rfl)
      unfold smallP at d8
      simp only at d8
      have d17 := hM.dep hix 9 17 (by kernel_rfl) (by kernel_rfl)
      unfold smallP at d17
      simp only at d17
      obtain ⟨g14, g17, d17, b14, b17⟩ := d17
      have d20 := hM.dep hix 12 20 (by kernel_rfl) (by kernel_rfl)
      unfold smallP at d20
      simp only at d20
      obtain ⟨g20, d20, b20⟩ := d20
      have d24 := hM.dep hix 16 24 (by kernel_rfl) (by kernel_rfl)
      unfold smallP at d24
      simp only at d24
      obtain ⟨g24, d24, b24⟩ := d24
      have d30 := hM.dep hix 22 30 (by kernel_rfl) (by kernel_rfl)
      unfold smallP at d30
      simp only at d30
      obtain ⟨g30, d30, b30⟩ := d30
      have d36 := hM.dep hix 28 36 (by kernel_rfl) (by kernel_rfl)
      unfold smallP at d36
      simp only at d36
      obtain ⟨g34, g36, d36, b34, b36⟩ := d36
      have d40 := hM.dep hix 32 40 (by kernel_rfl) (by kernel_rfl)
      unfold smallP at d40
      simp only at d40
      obtain ⟨g40, d40, b40⟩ := d40
      have d44 := hM.dep hix 36 44 (by kernel_rfl) (by kernel_rfl)
      unfold smallP at d44
      simp only at d44
      obtain ⟨g44, d44, b44⟩ := d44
      have H14 := Lib.hid b14; have H17 := Lib.hid b17; have H20 := Lib.hid b20; have H24 := Lib.hid b24; have H30 := Lib.hid b30; have H34 := Lib.hid b34; have H36 := Lib.hid b36; have H40 := Lib.hid b40; have H44 := Lib.hid b44
      clear b14 b17 b20 b24 b30 b34 b36 b40 b44
      obtain rfl := Option.some.inj ho
      go_simp
      exact ⟨_, rfl, HE.out.quiet HN.out (by decide) (Below.refl _ _), LeS.refl _ _, g14, g17, g20, g24, g30, g34, g36, g40, g44, rfl, H14.out, H17.out, H20.out, H24.out, H30.out, H34.out, H36.out, H40.out, H44.out⟩
    | 38, _ =>
      have d := hM.old hix 0 (by kernel_rfl) _ ht0
      have n38 := hM.not_yet hix
      have d45 := hM.dep hix 37 45 (by kernel_rfl) (by kernel_rfl)
      have HP := Lib.hid d45
      obtain ⟨cells, hcl, hone, dv⟩ : ∃ cells : Array Value, cells.size = 26 ∧ cells.all (·.oneCell') = true ∧ a.tmps[45]?.getD undef = .agg cells := by
        unfold smallP at d45
        simp only at d45
        obtain ⟨g14, g17, g20, g24, g30, g34, g36, g40, g44, d45, _⟩ := d45
        exact ⟨_, rfl, by simp [Value.oneCell'], d45⟩
      have hb := HE.out.one n38
      have hbx : w'.heap[B]? = some (.cells row0 35 (0, 0)) := (hb.block B hBlt).trans hrow0
      have HL : Hid (38 < listed.size) := Lib.hid (by rw [hsz]; show 38 < 39; omega)
      refine wp_store_row 35 (.tmp 0) (.tmp 45) (by obtain rfl := Option.some.inj ho; rfl) B cells (by simpa [Act.eval] using d) (by simpa [Act.eval] using dv) 35 row0 hbx (by rw [hcl]; kernel_rfl) (by rw [hcl]; exact hrow26) hone ?_
      obtain rfl := Option.some.inj ho
      refine ⟨undef, rfl, ⟨fun h6 => ?_, fun _ => ⟨w', cells, ?_, hb, rfl⟩⟩, fun b o hBb hbo => ?_, trivial⟩
      · simp [HL.out] at h6
      · rw [← dv]; exact HP.out
      · rw [setRow_other _ _ (by omega)]; exact hbo
  · intro listed a w' hall hM
    obtain ⟨w1, cells, hp, hb, rfl⟩ := hM.ext.two (hall 38 (show 38 < 39 by omega))
    exact hQ a w1 cells (hM.tmps.trans hz) hM.defers (mid_frame (lo := 8) (hi := 45) (by kernel_rfl) hM) hp hb

end Go.Proofs.Ytapejaabhkfhjaa
