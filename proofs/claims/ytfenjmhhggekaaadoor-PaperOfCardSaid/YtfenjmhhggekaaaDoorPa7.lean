/- Clones, insertions. -/
import Derived.Test.YtfenjmhhggekaaaDoorPa6
set_option linter.all false
set_option linter.unusedVariables false
set_option linter.unusedSimpArgs false
namespace Go.Sym
open Go Go.Proofs.Tryd
set_option maxRecDepth 100000
theorem clone_fn (O : Opq) (d : Doc) (hd : d.length ≤ 1099511627) : Fn prog 67 [.sl false 0 false 6 (O.o Doc.enc d)] [] [.ref 0] [.arr 0 none 6 (O.o Doc.enc d)] := by
  have hlen : (O.o Doc.enc d).length = d.length := by rw [O.h, Doc.enc_len]
  refine .inl (Fn.nilOr (pre := []) (post := []) (fun h0 => ?_) ?_)
  · refine goB (fn := Go.Proofs.Tryd.f67) (n := 7) (rv := [ResultVar.tmp 2]) rfl (by decide) rfl (by decide +kernel) rfl rfl (by simp) fun F L C => ?_
    cbv
    (repeat' first | (refine Named.i64 ?_ fun _ _ => ?_; (focus lia); cbv) | (refine RetThen.mk [(0, .nil 6)] [] ?_; cbv) | (refine Named.len fun _ _ hq => ?_; (try simp only [List.length_append, List.length_take, List.length_drop, List.length_replicate, List.length_set] at hq); cbv) | (refine Named.mk fun _ _ => ?_; cbv) | (refine Br.t ?_ ?_; (focus first | assumption | lia); cbv) | (refine Br.f ?_ ?_; (focus first | assumption | lia); cbv) | (refine Br.mk (fun _ => ?_) (fun _ => ?_) <;> cbv) | (refine Need.mk ?_ ?_; rotate_left; cbv) | (refine RetThen.mk [] [] ?_; cbv))
    all_goals exact ⟨h0, trivial⟩
  · refine goB (fn := Go.Proofs.Tryd.f67) (n := 7) (rv := [ResultVar.tmp 2]) rfl (by decide) rfl (by decide +kernel) rfl rfl (by simp) fun F L C => ?_
    cbv
    (repeat' first | (refine Named.i64 ?_ fun _ _ => ?_; (focus lia); cbv) | (refine RetThen.mk [(0, .loc 576)] [] ?_; cbv) | (refine Named.len fun _ _ hq => ?_; (try simp only [List.length_append, List.length_take, List.length_drop, List.length_replicate, List.length_set] at hq); cbv) | (refine Named.mk fun _ _ => ?_; cbv) | (refine Br.t ?_ ?_; (focus first | assumption | lia); cbv) | (refine Br.f ?_ ?_; (focus first | assumption | lia); cbv) | (refine Br.mk (fun _ => ?_) (fun _ => ?_) <;> cbv) | (refine Need.mk ?_ ?_; rotate_left; cbv) | (refine RetThen.mk [] [] ?_; cbv))
    · rename_i r hr
      subst hr
      exact ⟨WkR.of_eq rfl, trivial⟩
    · have : ([] : List (List PV)).length = 0 := rfl
      lia
theorem insert_fn (O : Opq) (d : Doc) (i : Int) (f : Field) (v : List (List PV)) (hv : v = [f.enc]) (hd : d.length ≤ 1099511627) (h0 : 0 ≤ i) (h1 : i ≤ d.length) : Fn prog 68 [.ref 0, .int .i64 i, .ref 1] [.arr 0 none 6 (O.o Doc.enc d), .arr 2 none 6 v]
    [.sl false 0 false 6 (O.o Doc.enc (O.o insZ d i f))] [.dead, .dead] := by
  have hlen : (O.o Doc.enc d).length = d.length := by rw [O.h, Doc.enc_len]
  have hvl : v.length = 1 := by rw [hv]; rfl
  have hvn : v ≠ [] := by rw [hv]; simp
  refine .inl (Fn.capAny fun c hc => ?_)
  refine goB (fn := Go.Proofs.Tryd.f68) (n := 92) (rv := [ResultVar.tmp 6]) rfl (by decide) rfl (by decide +kernel) rfl rfl (by simp) fun F L C => ?_
  cbv
  (repeat' first | (refine Named.i64 ?_ fun _ _ => ?_; (focus lia); cbv) | (refine RetThen.mk [] [1728, 2688, 3968] ?_; cbv) | (refine CallThen.mk _ _ (C.fn (overlaps_fn (fn := Go.Proofs.Tryd.f107) (tS := 22) (tR := 4) (e := 37) (sz := 6) rfl (by decide) rfl (by kernel_rfl) (by kernel_rfl) rfl (fun w => rfl) (by decide) (by decide) hvn (by lia))) ?_; cbv) | (refine Named.len fun _ _ hq => ?_; (try simp only [List.length_append, List.length_take, List.length_drop, List.length_replicate, List.length_set] at hq); cbv) | (refine Named.mk fun _ _ => ?_; cbv) | (refine Br.t ?_ ?_; (focus first | assumption | lia); cbv) | (refine Br.f ?_ ?_; (focus first | assumption | lia); cbv) | (refine Br.mk (fun _ => ?_) (fun _ => ?_) <;> cbv) | (refine Need.mk ?_ ?_; rotate_left; cbv) | (refine RetThen.mk [] [] ?_; cbv))
  all_goals try first
    | lia
    | (dsimp only; lia)
  · rename_i B eB hB F eF
    rw [eF, eB]
    refine ⟨WkR.of_eq ?_, trivial⟩
    simp only [O.h] at *
    rw [enc_ins, show i.toNat = d.length by lia, List.take_of_length_le (by lia), List.drop_of_length_le (by lia), List.append_nil, hv]
  · rename_i n1 e1 n2 e2 m em L eL hne s1 es1 cc ecc hlt t1 et1 s2 es2 s3 es3 Z eZ hZ A eA hA B eB hB i2 ei2 k2 ek2 CC eC hC w1 ew1 s4 es4 i3 ei3 k3 ek3 i4 ei4 k4 ek4 Y eY hY D eD hD w2 ew2 F eF
    rw [eF]
    refine ⟨WkR.of_eq ?_, trivial⟩
    have qm : m = 1 := by lia
    have qL : L = d.length := by lia
    have qi : i.toNat < d.length := by lia
    have q1 : t1 = i.toNat := by lia
    have q2 : i2 = i.toNat := by lia
    have qz : Z.length = d.length + 1 - i.toNat := by clear hA hB hC hY hD hq; lia
    have qA : A.length = i.toNat := by clear hB hC hY hD hq; lia
    have qB : B.length = d.length + 1 := by clear hC hY hD hq; lia
    clear hA hB hC hY hD hq
    have q3 : k2 = d.length + 1 - i.toNat := by lia
    have q4 : i2 + min v.length k2 = i.toNat + 1 := by lia
    have q5 : i3 = i.toNat + 1 := by lia
    have qC : CC.length = d.length + 1 := by rw [eC, List.length_append, List.length_append, List.length_take, List.length_take, List.length_drop]; lia
    have q6 : k3 = d.length - i.toNat := by lia
    have q7 : i4 = i.toNat := by lia
    have q8 : k4 = d.length - i.toNat := by lia
    have qY : Y.length = d.length - i.toNat := by rw [eY, List.length_take, List.length_drop]; lia
    have q9 : i3 + min Y.length k3 = d.length + 1 := by lia
    rw [q4, q2, q3] at eC
    rw [q9, q5, q6] at eD
    rw [q7, q8] at eY
    rw [q1] at eA
    simp only [O.h, List.drop_zero] at *
    rw [enc_ins, ← hv]
    symm
    refine ins2 (Doc.enc_len d) qi hvl qz (r1 := B) (r2 := CC) (by rw [eB, eA]) eC ?_
    rw [eD, eY, List.take_take, Nat.min_self]
  · rename_i n1 e1 n2 e2 m em L eL hne s1 es1 cc ecc hge s2 es2 B eB hB s3 es3 i2 ei2 k2 ek2 s4 es4 i3 ei3 k3 ek3 i4 ei4 k4 ek4 Y eY hY CC eC hC w1 ew1 i5 ei5 k5 ek5 D eD hD w2 ew2 F eF
    rw [eF]
    refine ⟨WkR.of_eq ?_, trivial⟩
    have qm : m = 1 := by lia
    have qL : L = d.length := by lia
    have qi : i.toNat < d.length := by lia
    have qB : B.length = d.length + 1 := by clear hC hY hD hq; lia
    clear hC hY hD hq
    have q5 : i3 = i.toNat + 1 := by lia
    have q6 : k3 = d.length - i.toNat := by lia
    have q7 : i4 = i.toNat := by lia
    have q8 : k4 = d.length + 1 - i.toNat := by lia
    have qY : Y.length = d.length + 1 - i.toNat := by rw [eY, List.length_take, List.length_drop]; lia
    have q9 : i3 + min Y.length k3 = d.length + 1 := by lia
    have q2 : i5 = i.toNat := by lia
    have qC : CC.length = d.length + 1 := by rw [eC, List.length_append, List.length_append, List.length_take, List.length_take, List.length_drop]; lia
    have q3 : k5 = d.length + 1 - i.toNat := by lia
    have q4 : i5 + min v.length k5 = i.toNat + 1 := by lia
    have qz : s2.toNat - d.length = 1 := by lia
    rw [q9, q5, q6] at eC
    rw [q4, q2, q3] at eD
    rw [q7, q8] at eY
    rw [hlen, qz] at eB
    simp only [O.h] at *
    rw [enc_ins, ← hv]
    symm
    exact ins3 (Doc.enc_len d) qi hvl (by simp) eB (by rw [eC, eY]) eD
end Go.Sym
