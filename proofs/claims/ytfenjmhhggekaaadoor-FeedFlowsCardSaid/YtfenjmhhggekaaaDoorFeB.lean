/- The check of every law on feeds. -/
import Derived.Test.YtfenjmhhggekaaaDoorFeA
set_option linter.all false
set_option linter.unusedVariables false
set_option linter.unusedSimpArgs false
namespace Go.Sym
open Go
def tx : ByteArray := ⟨#[120]⟩
def ty : ByteArray := ⟨#[121]⟩
def ta : ByteArray := ⟨#[97]⟩
def ch1 : Change := ⟨1, tx, false, []⟩
def ch2 : Change := ⟨2, ty, false, []⟩
def fd2 : Feed := ⟨0, 2, [ch1, ch2], []⟩
def fd3 : Feed := ⟨0, 2, [ch1, ch2], [⟨ta, 1⟩]⟩
theorem may_zeroF : mayF zeroF = true := mayF_of ⟨by simp [zeroF], by simp [zeroF], by simp [zeroF], by simp [zeroF], by simp [zeroF]⟩ (allC_zero _) (by simp [zeroF]) List.Pairwise.nil
theorem may_nil : may [] = true := may_true (by simp) (by simp)
theorem fd_allC {s : List Sub} : allC ⟨0, 2, [ch1, ch2], s⟩ 2 := by
  intro i c hi hc
  match i, hi with
  | 0, _ => simp at hc; subst hc; exact ⟨rfl, by decide, may_nil, .inr rfl⟩
  | 1, _ => simp at hc; subst hc; exact ⟨rfl, by decide, may_nil, .inr rfl⟩
theorem may_fd2 : mayF fd2 = true := mayF_of ⟨by simp [fd2], by simp [fd2], by simp [fd2], by simp [fd2], by simp [fd2]⟩ fd_allC (by simp [fd2]) List.Pairwise.nil
theorem may_fd3 : mayF fd3 = true := mayF_of ⟨by simp [fd3], by simp [fd3], by simp [fd3], by simp [fd3], by simp [fd3]⟩ fd_allC (by intro s hs; simp [fd3] at hs; subst hs; exact ⟨by decide, by decide, by decide⟩) (List.pairwise_singleton _ _)
theorem addF_fd : addF zeroF [ch1, ch2] = fd2 := by simp [addF, zeroF, fd2]
theorem add_fd : addE zeroF [ch1, ch2] = 0 ∧ addR zeroF [ch1, ch2] = fd2 := by
  have h := addE_ok may_zeroF (l := [ch1, ch2]) (by rw [addF_fd]; exact may_fd2)
  rw [addF_fd] at h; exact h
theorem openF_fd : openF fd2 ta 1 = fd3 := by simp [openF, fd2, fd3, insKZ, insK]
theorem open_fd : openE fd2 ta 1 = 0 ∧ openR fd2 ta 1 = fd3 := by
  have h := openE_ok may_fd2 (n := ta) (a := 1) ⟨by decide, by decide, by decide⟩ (by simp [fd2, getK]) (by simp [fd2]) (by decide)
  rw [openF_fd] at h; exact h
theorem getK_fd3 : getK Sub.name fd3.subs ta = true := by simp [fd3, getK, hasK]
theorem subPos_fd3 : subPos fd3 ta = 1 := by
  obtain ⟨x, hx, hn⟩ := posK_there (κ := Sub.name) (d := fd3.subs) (p := ta) (List.pairwise_singleton _ _) getK_fd3
  rw [subPos_at hx]
  have := List.mem_of_getElem? hx
  simp [fd3] at this
  rw [this]
theorem pull_fd3 : pullE fd3 1 5 = 0 := (pullE_ok ⟨may_fd3, by decide, by decide, by decide, by decide⟩ (by decide)).1
theorem read_fd : readE fd3 ta 5 = 0 ∧ readR fd3 ta 5 = [ch2] ∧ readAt fd3 ta 5 = 1 := by
  obtain ⟨h1, h2, h3⟩ := readE_at (m := 5) may_fd3 getK_fd3
  rw [subPos_fd3, pull_fd3] at h1 h3
  rw [subPos_fd3, pullR, pull_fd3] at h2
  exact ⟨h1, h2, h3⟩
end Go.Sym
