/- BuiltC: DefBuilt: its closed calls, one by one. -/
import Derived.Test.YtokogblpdbgkgaaDoorBuiltB
import Derived.Test.YtokogblpdbgkgaaDoorNvZ
namespace Go.Lv
open Go Go.Proofs Go.IntWalk
set_option maxRecDepth 100000
set_option linter.unusedVariables false
variable {E : Env}
def bd0 : D := .agg [.str [102, 117, 108, 102, 105, 108], .list true [.agg [.int .i64 1, .int .i64 1, .int .i64 0, .int .i64 1, .int .i64 1, .int .i64 40], .agg [.int .i64 2, .int .i64 1, .int .i64 3, .int .i64 1, .int .i64 8, .int .i64 30], .agg [.int .i64 3, .int .i64 1, .int .i64 0, .int .i64 1, .int .i64 1, .int .i64 0], .agg [.int .i64 4, .int .i64 2, .int .i64 3, .int .i64 1, .int .i64 8, .int .i64 0], .agg [.int .i64 5, .int .i64 3, .int .i64 0, .int .i64 1, .int .i64 1, .int .i64 0], .agg [.int .i64 6, .int .i64 3, .int .i64 5, .int .i64 1, .int .i64 8, .int .i64 0]]]
def bt0 : D := .str [102, 117, 108, 102, 105, 108, 32, 104, 111, 108, 100, 47, 115, 111, 102, 116, 47, 48, 47, 49, 47, 49, 47, 52, 48, 44, 97, 117, 116, 104, 47, 115, 111, 102, 116, 47, 51, 47, 49, 47, 56, 47, 51, 48, 44, 107, 101, 101, 112, 47, 115, 111, 102, 116, 47, 48, 47, 49, 47, 49, 47, 48, 44, 98, 111, 111, 107, 47, 112, 105, 118, 111, 116, 47, 51, 47, 49, 47, 56, 47, 48, 44, 115, 101, 110, 100, 47, 102, 105, 114, 109, 47, 48, 47, 49, 47, 49, 47, 48, 44, 116, 97, 107, 101, 47, 102, 105, 114, 109, 47, 53, 47, 49, 47, 56, 47, 48]
def bd1 : D := .agg [.str [112, 105, 99, 107, 117, 112], .list true [.agg [.int .i64 1, .int .i64 1, .int .i64 0, .int .i64 1, .int .i64 1, .int .i64 20], .agg [.int .i64 2, .int .i64 1, .int .i64 2, .int .i64 1, .int .i64 4, .int .i64 20], .agg [.int .i64 3, .int .i64 1, .int .i64 0, .int .i64 1, .int .i64 1, .int .i64 0], .agg [.int .i64 6, .int .i64 2, .int .i64 2, .int .i64 1, .int .i64 4, .int .i64 0], .agg [.int .i64 5, .int .i64 3, .int .i64 0, .int .i64 1, .int .i64 1, .int .i64 0]]]
def bt1 : D := .str [112, 105, 99, 107, 117, 112, 32, 104, 111, 108, 100, 47, 115, 111, 102, 116, 47, 48, 47, 49, 47, 49, 47, 50, 48, 44, 97, 117, 116, 104, 47, 115, 111, 102, 116, 47, 50, 47, 49, 47, 52, 47, 50, 48, 44, 107, 101, 101, 112, 47, 115, 111, 102, 116, 47, 48, 47, 49, 47, 49, 47, 48, 44, 116, 97, 107, 101, 47, 112, 105, 118, 111, 116, 47, 50, 47, 49, 47, 52, 47, 48, 44, 115, 101, 110, 100, 47, 102, 105, 114, 109, 47, 48, 47, 49, 47, 49, 47, 48]
def bd2 : D := .agg [.str [112, 114, 101, 112, 97, 105, 100], .list true [.agg [.int .i64 2, .int .i64 1, .int .i64 3, .int .i64 2, .int .i64 8, .int .i64 0], .agg [.int .i64 6, .int .i64 1, .int .i64 3, .int .i64 2, .int .i64 8, .int .i64 0], .agg [.int .i64 4, .int .i64 1, .int .i64 3, .int .i64 1, .int .i64 4, .int .i64 50]]]
def bt2 : D := .str [112, 114, 101, 112, 97, 105, 100, 32, 97, 117, 116, 104, 47, 115, 111, 102, 116, 47, 51, 47, 50, 47, 56, 47, 48, 44, 116, 97, 107, 101, 47, 115, 111, 102, 116, 47, 51, 47, 50, 47, 56, 47, 48, 44, 98, 111, 111, 107, 47, 115, 111, 102, 116, 47, 51, 47, 49, 47, 52, 47, 53, 48]
def bAll : D := .list true [bd0, bd1, bd2]
def tab1 : List Entry := [⟨4, [], bAll⟩, ⟨5, [], bAll⟩, ⟨7, [bd0], .bool true⟩, ⟨7, [bd1], .bool true⟩, ⟨7, [bd2], .bool true⟩]
def tab2 : List Entry := tab1 ++ [⟨6, [bd0, bd0], .bool true⟩, ⟨6, [bd1, bd1], .bool true⟩, ⟨6, [bd2, bd2], .bool true⟩, ⟨8, [bd0], bt0⟩, ⟨8, [bd1], bt1⟩, ⟨8, [bd2], bt2⟩, ⟨9, [], .bool true⟩]
theorem r1_0 : (tab1[0]).runs Tryd.prog (fun _ => .und) knownL 60 30 = true := by decide +kernel
theorem r1_1 : (tab1[1]).runs Tryd.prog (fun _ => .und) knownL 60 30 = true := by decide +kernel
theorem r1_2 : (tab1[2]).runs Tryd.prog (fun _ => .und) knownL 60 30 = true := by decide +kernel
theorem r1_3 : (tab1[3]).runs Tryd.prog (fun _ => .und) knownL 60 30 = true := by decide +kernel
theorem r1_4 : (tab1[4]).runs Tryd.prog (fun _ => .und) knownL 60 30 = true := by decide +kernel
theorem r2_5 : (tab2[5]).runs Tryd.prog (fun _ => .und) (tabCall knownL tab1) 60 30 = true := by decide +kernel
theorem r2_6 : (tab2[6]).runs Tryd.prog (fun _ => .und) (tabCall knownL tab1) 60 30 = true := by decide +kernel
theorem r2_7 : (tab2[7]).runs Tryd.prog (fun _ => .und) (tabCall knownL tab1) 60 30 = true := by decide +kernel
theorem r2_8 : (tab2[8]).runs Tryd.prog (fun _ => .und) (tabCall knownL tab1) 60 30 = true := by decide +kernel
theorem r2_9 : (tab2[9]).runs Tryd.prog (fun _ => .und) (tabCall knownL tab1) 60 30 = true := by decide +kernel
theorem r2_10 : (tab2[10]).runs Tryd.prog (fun _ => .und) (tabCall knownL tab1) 60 30 = true := by decide +kernel
theorem r2_11 : (tab2[11]).runs Tryd.prog (fun _ => .und) (tabCall knownL tab1) 60 30 = true := by decide +kernel
theorem tab1_ok (hU : UT E) (ht : Tab E.h0 3 .u64 Lib.pow10Tab) (hg : E.g = fun _ => .und) : ∀ e ∈ tab1, EntryOk Tryd.prog E e := by
  intro e he
  have key : ∀ {e : Entry}, e.runs Tryd.prog (fun _ => .und) knownL 60 30 = true → EntryOk Tryd.prog E e := fun h => Entry.ok mixed (knownLOf E hU ht) (by rw [hg]; exact h)
  simp only [tab1, List.mem_cons, List.not_mem_nil, or_false] at he
  rcases he with rfl | rfl | rfl | rfl | rfl
  · exact key r1_0
  · exact key r1_1
  · exact key r1_2
  · exact key r1_3
  · exact key r1_4
theorem tab2_ok (hU : UT E) (ht : Tab E.h0 3 .u64 Lib.pow10Tab) (hg : E.g = fun _ => .und) : ∀ e ∈ tab2, EntryOk Tryd.prog E e := by
  intro e he
  have key : ∀ {e : Entry}, e.runs Tryd.prog (fun _ => .und) (tabCall knownL tab1) 60 30 = true → EntryOk Tryd.prog E e := fun h => Entry.ok mixed ((knownLOf E hU ht).tab tab1 (tab1_ok hU ht hg)) (by rw [hg]; exact h)
  rcases List.mem_append.1 he with he | he
  · exact tab1_ok hU ht hg e he
  · simp only [List.mem_cons, List.not_mem_nil, or_false] at he
    rcases he with rfl | rfl | rfl | rfl | rfl | rfl | rfl
    · exact key r2_5
    · exact key r2_6
    · exact key r2_7
    · exact key r2_8
    · exact key r2_9
    · exact key r2_10
    · exact key r2_11
theorem built3_run : (⟨3, [], .bool true⟩ : Entry).runs Tryd.prog (fun _ => .und) (tabCall knownL tab2) 60 30 = true := by decide +kernel
theorem built3 (hU : UT E) (ht : Tab E.h0 3 .u64 Lib.pow10Tab) (hg : E.g = fun _ => .und) : PDen Tryd.prog E 3 [] (.bool true) :=
  Entry.ok mixed ((knownLOf E hU ht).tab tab2 (tab2_ok hU ht hg)) (e := ⟨3, [], .bool true⟩) (by rw [hg]; exact built3_run)
end Go.Lv
