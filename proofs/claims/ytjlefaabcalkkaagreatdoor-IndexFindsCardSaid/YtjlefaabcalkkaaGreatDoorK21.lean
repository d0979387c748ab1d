/- The document's reading of expressions: its cases. -/
import Derived.Test.YtjlefaabcalkkaaGreatDoorK13
import Derived.Test.YtjlefaabcalkkaaGreatDoorK19
set_option linter.all false
set_option linter.unusedVariables false
set_option linter.unusedSimpArgs false
namespace Go.Sym
open Go Go.Proofs.Tryz
set_option maxRecDepth 100000
theorem readZ {S:ByteArray} {v:Int} (h:S=ByteArray.empty∨v=0):Fn prog 90 [.str S,.int .i64 v] [] [.agg [.int .i64 0,.str ByteArray.empty,.int .i64 0,.sl false 0 false 4 []],.bool false] []:=by
 rcases h with h|h
 all_goals
  refine go (fn:=Proofs.Tryz.f90) (n:=154) (rv:=[ResultVar.cell 4 103,ResultVar.tmp 5]) rfl (by decide) rfl (by decide +kernel) rfl rfl (by simp) fun F L C=>?_
  cbv
  (repeat' first|(refine Br.t ?_ ?_;(focus first|assumption|lia);cbv)|(refine Br.mk (fun _=>?_) (fun _=>?_)<;>cbv)|(refine R0 ?_;cbv))
  all_goals first
   | exact⟨rfl,rfl,trivial⟩
   | exact absurd h (by assumption)
   | trace_state
set_option maxHeartbeats 2000000 in
theorem readS {S A B:ByteArray} {v i m w k1 n1 k2 n2:Int} {t1 t2:ByteArray} {l1 l2:List (List PV)} {q1 q2:Bool} (h0:¬ S=ByteArray.empty) (hv:1≤v∧v≤300) (hi:0≤i∧i<S.size) (hs:S.size≤256) (hw:w=IntKind.i64.wrap (v-1))
  (hA:A=S.extract 0 i.toNat) (hB:B=S.extract (i+1).toNat S.size)
  (k43:Fn prog 116 [.str S,.int .u8 43] [] [.int .i64 i] []) (k42:Fn prog 116 [.str S,.int .u8 42] [] [.int .i64 m] [])
  (ka:Fn prog 90 [.str A,.int .i64 w] [] [.agg [.int .i64 k1,.str t1,.int .i64 n1,.sl false 0 false 4 l1],.bool q1] [])
  (kb:Fn prog 90 [.str B,.int .i64 w] [] [.agg [.int .i64 k2,.str t2,.int .i64 n2,.sl false 0 false 4 l2],.bool q2] []) :
  Fn prog 90 [.str S,.int .i64 v] [] [.agg [.int .i64 3,.str ByteArray.empty,.int .i64 0,.sl false 0 false 4 [[.int .i64 k1,.str t1,.int .i64 n1,.sl false 0 false 4 l1],[.int .i64 k2,.str t2,.int .i64 n2,.sl false 0 false 4 l2]]],.bool (q1 && q2)] []:=by
 obtain⟨j,hj⟩:∃ j,j=i+1:=⟨_,rfl⟩
 have hj2:j=IntKind.i64.wrap (i+1):=by rw[wrap64 (by omega)];exact hj
 rw[← hj] at hB
 cases q1
 all_goals
  refine go (fn:=Proofs.Tryz.f90) (n:=154) (rv:=[ResultVar.cell 4 103,ResultVar.tmp 5]) rfl (by decide) rfl (by decide +kernel) rfl rfl (by simp) fun F L C=>?_
  cbv
  (repeat' first|(refine Named.at' w hw ?_;cbv)|(refine Named.at' A hA ?_;cbv)|(refine Named.at' j hj2 ?_;cbv)|(refine Named.at' B hB ?_;cbv)|(refine CallThen.mk _ _ (C.fn (k43)) ?_;cbv)|(refine CallThen.mk _ _ (C.fn (ka)) ?_;cbv)|(refine CallThen.mk _ _ (C.fn (kb)) ?_;cbv)|(refine RetThen.mk [] [3584] ?_;cbv)|(refine Nl fun _ _ hq=>?_;(try simp only [lenS] at hq);cbv)|(refine Br.t ?_ ?_;(focus first|assumption|lia);cbv)|(refine Br.f ?_ ?_;(focus first|assumption|lia);cbv)|(refine Need.mk ?_ ?_;rotate_left;cbv))
  all_goals first
   | exact⟨rfl,rfl,trivial⟩
   | (rename_i R eR;exact⟨.of_eq eR.symm,trivial⟩)
   | exact⟨.refl _,trivial⟩
   | (clear ka kb hw hj2;lia)
   | (exfalso;clear ka kb hw hj2;lia)
   | trace_state
set_option maxHeartbeats 2000000 in
theorem readM {S A B:ByteArray} {v i m w k1 n1 k2 n2:Int} {t1 t2:ByteArray} {l1 l2:List (List PV)} {q1 q2:Bool} (h0:¬ S=ByteArray.empty) (hv:1≤v∧v≤300) (hi:0≤i∧i<S.size) (hs:S.size≤256) (hw:w=IntKind.i64.wrap (v-1))
  (hA:A=S.extract 0 i.toNat) (hB:B=S.extract (i+1).toNat S.size)
  (k43:Fn prog 116 [.str S,.int .u8 43] [] [.int .i64 (-1)] []) (k42:Fn prog 116 [.str S,.int .u8 42] [] [.int .i64 i] [])
  (ka:Fn prog 90 [.str A,.int .i64 w] [] [.agg [.int .i64 k1,.str t1,.int .i64 n1,.sl false 0 false 4 l1],.bool q1] [])
  (kb:Fn prog 90 [.str B,.int .i64 w] [] [.agg [.int .i64 k2,.str t2,.int .i64 n2,.sl false 0 false 4 l2],.bool q2] []) :
  Fn prog 90 [.str S,.int .i64 v] [] [.agg [.int .i64 4,.str ByteArray.empty,.int .i64 0,.sl false 0 false 4 [[.int .i64 k1,.str t1,.int .i64 n1,.sl false 0 false 4 l1],[.int .i64 k2,.str t2,.int .i64 n2,.sl false 0 false 4 l2]]],.bool (q1 && q2)] []:=by
 obtain⟨j,hj⟩:∃ j,j=i+1:=⟨_,rfl⟩
 have hj2:j=IntKind.i64.wrap (i+1):=by rw[wrap64 (by omega)];exact hj
 rw[← hj] at hB
 cases q1
 all_goals
  refine go (fn:=Proofs.Tryz.f90) (n:=154) (rv:=[ResultVar.cell 4 103,ResultVar.tmp 5]) rfl (by decide) rfl (by decide +kernel) rfl rfl (by simp) fun F L C=>?_
  cbv
  (repeat' first|(refine Named.at' w hw ?_;cbv)|(refine Named.at' A hA ?_;cbv)|(refine Named.at' j hj2 ?_;cbv)|(refine Named.at' B hB ?_;cbv)|(refine CallThen.mk _ _ (C.fn (k43)) ?_;cbv)|(refine CallThen.mk _ _ (C.fn (k42)) ?_;cbv)|(refine CallThen.mk _ _ (C.fn (ka)) ?_;cbv)|(refine CallThen.mk _ _ (C.fn (kb)) ?_;cbv)|(refine RetThen.mk [] [3584] ?_;cbv)|(refine Nl fun _ _ hq=>?_;(try simp only [lenS] at hq);cbv)|(refine Br.t ?_ ?_;(focus first|assumption|lia);cbv)|(refine Br.f ?_ ?_;(focus first|assumption|lia);cbv)|(refine Need.mk ?_ ?_;rotate_left;cbv))
  all_goals first
   | exact⟨rfl,rfl,trivial⟩
   | (rename_i R eR;exact⟨.of_eq eR.symm,trivial⟩)
   | exact⟨.refl _,trivial⟩
   | (clear ka kb hw hj2;lia)
   | (exfalso;clear ka kb hw hj2;lia)
   | trace_state
end Go.Sym
