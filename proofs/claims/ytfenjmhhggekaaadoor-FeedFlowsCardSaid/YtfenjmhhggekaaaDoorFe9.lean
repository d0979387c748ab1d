/- The check of every law on feeds. -/
import Derived.Test.YtfenjmhhggekaaaDoorFe6
import Derived.Test.YtfenjmhhggekaaaDoorFe8
import Derived.Test.YtfenjmhhggekaaaDoorFeB
set_option linter.all false
set_option linter.unusedVariables false
set_option linter.unusedSimpArgs false
namespace Go.Sym
open Go Go.Proofs.Tryd
set_option maxRecDepth 100000
theorem inF_fd {f : Feed} (h : f.changes = [] ∨ f.changes = [ch1, ch2]) (h2 : f.subs.length ≤ 1) : inF f := by
  refine ⟨?_, by omega, fun c hc => ?_⟩
  · rcases h with h | h <;> rw [h] <;> simp
  · rcases h with h | h <;> rw [h] at hc
    · cases hc
    · simp at hc
      rcases hc with rfl | rfl <;> simp [inC, ch1, ch2]
theorem awakeF_fn (O : Opq) : Fn prog 32 [] [] [.bool true] [] := by
  have hld : ∀ c ∈ [ch1, ch2], inC c ∧ c.doc.length ≤ 1099511627 := by
    intro c hc; simp at hc; rcases hc with rfl | rfl <;> simp [inC, ch1, ch2]
  have ha := addB_fn O zeroF [ch1, ch2] (inF_fd (.inl rfl) (by simp [zeroF])) (by simp) hld
  have ho := open_fn O fd2 ta 1 (inF_fd (.inr rfl) (by simp [fd2]))
  have hi3 : inF fd3 := inF_fd (.inr rfl) (by simp [fd3])
  have hr := read_fn O fd3 ta 5 hi3.1 hi3.2.1 hi3.2.2
  rw [show O.o addR zeroF [ch1, ch2] = fd2 by rw [O.h]; exact add_fd.2, show O.o addE zeroF [ch1, ch2] = 0 by rw [O.h]; exact add_fd.1] at ha
  rw [show O.o openR fd2 ta 1 = fd3 by rw [O.h]; exact open_fd.2, show O.o openE fd2 ta 1 = 0 by rw [O.h]; exact open_fd.1] at ho
  rw [show O.o readR fd3 ta 5 = [ch2] by rw [O.h]; exact read_fd.2.1, show O.o readAt fd3 ta 5 = 1 by rw [O.h]; exact read_fd.2.2, show O.o readE fd3 ta 5 = 0 by rw [O.h]; exact read_fd.1] at hr
  have ha2 : Fn prog 46 [.agg [.int .i64 0, .int .i64 0, .nils, .nils], .sl true 2 false 4 [[.int .i64 1, .str tx, .bool false, .nils], [.int .i64 2, .str ty, .bool false, .nils]]] [] [.agg (fd2.enc O), .int .i64 0] [] := by
    have e0 : O.o Doc.enc [] = [] := by rw [O.h]; rfl
    have e1 : O.o (Chs.enc O) [ch1, ch2] = [[.int .i64 1, .str tx, .bool false, .sl false 0 false 6 []], [.int .i64 2, .str ty, .bool false, .sl false 0 false 6 []]] := by
      rw [O.h]; simp [Chs.enc, Change.enc, ch1, ch2, e0]
    have e2 : O.o (Chs.enc O) zeroF.changes = [] := by rw [O.h]; rfl
    have e3 : O.o Subs.enc zeroF.subs = [] := by rw [O.h]; rfl
    refine ha.wkA (.cons (.agg' (.cons (.refl _) (.cons (.refl _) (.cons (.wk ?_) (.cons (.wk ?_) .nil))))) (.cons ?_ .nil))
    · rw [e2]; exact .nil _ _
    · rw [e3]; exact .nil _ _
    · rw [e1]
      refine .bor rfl (.cons ?_ (.cons ?_ (.refl _)))
      · exact .cons (.refl _) (.cons (.refl _) (.cons (.refl _) (.cons (.nil _ _) (.refl _))))
      · exact .cons (.refl _) (.cons (.refl _) (.cons (.refl _) (.cons (.nil _ _) (.refl _))))
  clear ha
  have hy : [ch2][0]? = some ch2 := rfl
  have hl : (O.o (Chs.enc O) [ch2]).length = 1 := by rw [O.h]; rfl
  have hg : fd2.enc O = [.int .i64 0, .int .i64 2, .sl false 0 false 4 (O.o (Chs.enc O) fd2.changes), .sl false 0 false 2 (O.o Subs.enc fd2.subs)] := rfl
  refine go (fn := Go.Proofs.Tryd.f32) (n := 52) (rv := [ResultVar.tmp 0]) rfl (by decide) rfl (by decide +kernel) rfl rfl (by simp) fun F L C => ?_
  cbv
  (repeat' first | (refine Named.i64 ?_ fun _ _ => ?_; (focus lia); cbv) | (refine CallThen.mk _ _ (C.fn (ha2)) ?_; cbv) | (refine CallThen.mk _ _ (C.fn (ho)) ?_; cbv) | (refine CallThen.mk _ _ (C.fn (hr)) ?_; cbv) | (refine Ex.known O (Change.enc O) rfl hy ?_ ?_; (focus lia); cbv) | (refine Named.len fun _ _ hq => ?_; (try simp only [List.length_append, List.length_take, List.length_drop, List.length_replicate, List.length_set] at hq); cbv) | (refine Named.mk fun _ _ => ?_; cbv) | (refine Br.t ?_ ?_; (focus first | assumption | lia); cbv) | (refine Br.f ?_ ?_; (focus first | assumption | lia); cbv) | (refine Br.mk (fun _ => ?_) (fun _ => ?_) <;> cbv) | (refine Need.mk ?_ ?_; rotate_left; cbv) | (refine RetThen.mk [] [] ?_; cbv))
  all_goals
    rename_i n e h
    exact absurd (by rw [e, O.h]; rfl) h
end Go.Sym
