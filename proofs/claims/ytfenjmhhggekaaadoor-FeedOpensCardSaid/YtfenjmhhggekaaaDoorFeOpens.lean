/- The law FeedOpens. -/
import Derived.Test.YtfenjmhhggekaaaDoorFe11
namespace Go.Sym
open Go Go.Proofs.Tryd
set_option maxRecDepth 100000
set_option maxHeartbeats 4000000 in
theorem feedOpens_fn (O : Opq) (f : Feed) (n : ByteArray) (a : Int) (hl : f.changes.length ≤ 9223372036854775807) (hp : ∀ c ∈ f.changes, inC c) (hn : n.size ≤ 9223372036854775807) :
    Fn prog 8 [.agg (f.enc O), .str n, .int .i64 a] [] [.bool true] [] := by
  have hL : O.o lightF f = lightF f := by rw [O.h]
  cases hlf : lightF f with
  | false =>
    rw [hlf] at hL
    clear hp
    refine go (fn := Go.Proofs.Tryd.f8) (n := 98) (rv := [ResultVar.tmp 6]) rfl (by decide) rfl (by decide +kernel) rfl rfl (by simp) fun F L C => ?_
    cbv
    (repeat' first | (refine Named.i64 ?_ fun _ _ => ?_; (focus lia); cbv) | (refine CallThen.boolT (C.fn (lightF_fn O f hl)) ?_ ?_; (focus assumption); cbv) | (refine CallThen.boolF (C.fn (lightF_fn O f hl)) ?_ ?_; (focus assumption); cbv) | (refine CallThen.bool (C.fn (lightF_fn O f hl)) (fun _ => ?_) (fun _ => ?_) <;> cbv) | (refine CallThen.mk _ _ (C.fn (awakeF_fn O)) ?_; cbv) | (refine Named.len fun _ _ hq => ?_; (try simp only [List.length_append, List.length_take, List.length_drop, List.length_replicate, List.length_set] at hq); cbv) | (refine Named.mk fun _ _ => ?_; cbv) | (refine Br.t ?_ ?_; (focus first | assumption | lia); cbv) | (refine Br.f ?_ ?_; (focus first | assumption | lia); cbv) | (refine Br.mk (fun _ => ?_) (fun _ => ?_) <;> cbv) | (refine Need.mk ?_ ?_; rotate_left; cbv) | (refine RetThen.mk [] [] ?_; cbv))
    all_goals first | lia | (exfalso; lia)
  | true =>
    rw [hlf] at hL
    have hlf := of_decide_eq_true hlf
    have hlc := lightC_iff.1 hlf.1
    have hi : inF f := ⟨by omega, by omega, fun c hc => ⟨hp c hc, by have := hlc.2 c hc; omega⟩⟩
    have hcl := Chs.len O f.changes
    by_cases ho : openE f n a = 0
    · have ho2 : O.o openE f n a = 0 := by rw [O.h]; exact ho
      obtain ⟨x1, x2, x3, x4, x5, x6, x7, x8, x9, x10⟩ := opens_all ho
      have ht : f.total ≤ 2147483647 := (mayF_iff.1 (openE_may ho).1).1.2.2.1
      have hio : inF (openF f n a) := ⟨hi.1, by have := posK_le (κ := Sub.name) f.subs n; simp [openF, insKZ, insK, posKZ_nat]; omega, hi.2.2⟩
      have h1 := open_fn O f n a hi
      obtain ⟨w, hw⟩ : ∃ w, w = openF f n a := ⟨_, rfl⟩
      rw [← hw] at x1 x2 x3 x4 x5 x6 x7 x8 hio
      have h2 := open_fn O w n a hio
      have h3 := close_fn O w n hio
      have h4 := read_fn O w n 16 hio.1 hio.2.1 hio.2.2
      have hrl := Chs.len O (O.o readR w n 16)
      rw [show O.o openR f n a = w by rw [O.h]; exact x1, ho2] at h1
      rw [show O.o openE w n a = 11 by rw [O.h]; exact x2] at h2
      rw [show O.o closeE w n = 0 by rw [O.h]; exact x3, show O.o closeR w n = f by rw [O.h]; exact x4] at h3
      rw [show O.o readE w n 16 = 0 by rw [O.h]; exact x5, show O.o readAt w n 16 = a by rw [O.h]; exact x6] at h4
      have hsm : O.o sameF f f = true := by simp only [O.h]; exact sameF_iff.2 rfl
      have h5 := rsameF_fn O f f (by omega) (by omega) (fun c hc => by have := hlc.2 c hc; omega)
      rw [hsm] at h5
      have hrl2 : (O.o (Chs.enc O) (O.o readR w n 16)).length = (readR w n 16).length := by rw [hrl, O.h]
      clear hp hlc hlf hi hio x1 x2 x3 x4 x5 x6 hw ho hsm hrl hcl
      by_cases hn2 : n.size ≤ 200
      · refine go (fn := Go.Proofs.Tryd.f8) (n := 98) (rv := [ResultVar.tmp 6]) rfl (by decide) rfl (by decide +kernel) rfl rfl (by simp) fun F L C => ?_
        cbv
        (repeat' first | (refine Named.i64 ?_ fun _ _ => ?_; (focus lia); cbv) | (refine CallThen.boolT (C.fn (lightF_fn O f hl)) ?_ ?_; (focus assumption); cbv) | (refine CallThen.boolF (C.fn (lightF_fn O f hl)) ?_ ?_; (focus assumption); cbv) | (refine CallThen.bool (C.fn (lightF_fn O f hl)) (fun _ => ?_) (fun _ => ?_) <;> cbv) | (refine CallThen.mk _ _ (C.fn (awakeF_fn O)) ?_; cbv) | (refine CallThen.mk _ _ (C.fn (h1)) ?_; cbv) | (refine CallThen.mk _ _ (C.fn (h2)) ?_; cbv) | (refine CallThen.mk _ _ (C.fn (h3)) ?_; cbv) | (refine CallThen.mk _ _ (C.fn (h4)) ?_; cbv) | (refine CallThen.mk _ _ (C.fn (h5)) ?_; cbv) | (refine Named.len fun _ _ hq => ?_; (try simp only [List.length_append, List.length_take, List.length_drop, List.length_replicate, List.length_set] at hq); cbv) | (refine Named.mk fun _ _ => ?_; cbv) | (refine Br.t ?_ ?_; (focus first | assumption | lia); cbv) | (refine Br.f ?_ ?_; (focus first | assumption | lia); cbv) | (refine Br.mk (fun _ => ?_) (fun _ => ?_) <;> cbv) | (refine Need.mk ?_ ?_; rotate_left; cbv) | (refine RetThen.mk [] [] ?_; cbv))
        all_goals first | lia | (exfalso; lia)
      · refine go (fn := Go.Proofs.Tryd.f8) (n := 98) (rv := [ResultVar.tmp 6]) rfl (by decide) rfl (by decide +kernel) rfl rfl (by simp) fun F L C => ?_
        cbv
        (repeat' first | (refine Named.i64 ?_ fun _ _ => ?_; (focus lia); cbv) | (refine CallThen.boolT (C.fn (lightF_fn O f hl)) ?_ ?_; (focus assumption); cbv) | (refine CallThen.boolF (C.fn (lightF_fn O f hl)) ?_ ?_; (focus assumption); cbv) | (refine CallThen.bool (C.fn (lightF_fn O f hl)) (fun _ => ?_) (fun _ => ?_) <;> cbv) | (refine CallThen.mk _ _ (C.fn (awakeF_fn O)) ?_; cbv) | (refine CallThen.mk _ _ (C.fn (h1)) ?_; cbv) | (refine CallThen.mk _ _ (C.fn (h2)) ?_; cbv) | (refine CallThen.mk _ _ (C.fn (h3)) ?_; cbv) | (refine CallThen.mk _ _ (C.fn (h4)) ?_; cbv) | (refine CallThen.mk _ _ (C.fn (h5)) ?_; cbv) | (refine Named.len fun _ _ hq => ?_; (try simp only [List.length_append, List.length_take, List.length_drop, List.length_replicate, List.length_set] at hq); cbv) | (refine Named.mk fun _ _ => ?_; cbv) | (refine Br.t ?_ ?_; (focus first | assumption | lia); cbv) | (refine Br.f ?_ ?_; (focus first | assumption | lia); cbv) | (refine Br.mk (fun _ => ?_) (fun _ => ?_) <;> cbv) | (refine Need.mk ?_ ?_; rotate_left; cbv) | (refine RetThen.mk [] [] ?_; cbv))
        all_goals first | lia | (exfalso; lia)
    · have ho2 : ¬ O.o openE f n a = 0 := by rw [O.h]; exact ho
      have h1 := open_fn O f n a hi
      clear hp hlc hlf hi
      refine go (fn := Go.Proofs.Tryd.f8) (n := 98) (rv := [ResultVar.tmp 6]) rfl (by decide) rfl (by decide +kernel) rfl rfl (by simp) fun F L C => ?_
      cbv
      (repeat' first | (refine Named.i64 ?_ fun _ _ => ?_; (focus lia); cbv) | (refine CallThen.boolT (C.fn (lightF_fn O f hl)) ?_ ?_; (focus assumption); cbv) | (refine CallThen.boolF (C.fn (lightF_fn O f hl)) ?_ ?_; (focus assumption); cbv) | (refine CallThen.bool (C.fn (lightF_fn O f hl)) (fun _ => ?_) (fun _ => ?_) <;> cbv) | (refine CallThen.mk _ _ (C.fn (awakeF_fn O)) ?_; cbv) | (refine CallThen.mk _ _ (C.fn (h1)) ?_; cbv) | (refine Named.len fun _ _ hq => ?_; (try simp only [List.length_append, List.length_take, List.length_drop, List.length_replicate, List.length_set] at hq); cbv) | (refine Named.mk fun _ _ => ?_; cbv) | (refine Br.t ?_ ?_; (focus first | assumption | lia); cbv) | (refine Br.f ?_ ?_; (focus first | assumption | lia); cbv) | (refine Br.mk (fun _ => ?_) (fun _ => ?_) <;> cbv) | (refine Need.mk ?_ ?_; rotate_left; cbv) | (refine RetThen.mk [] [] ?_; cbv))
      all_goals first | lia | (exfalso; lia)
end Go.Sym
