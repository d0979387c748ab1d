/- The parts of an expression: what the reader does at each kind of word. -/
import Derived.Test.YtfdbdalnpdgfmaaGreatDoorK12
set_option linter.all false
set_option linter.unusedVariables false
set_option linter.unusedSimpArgs false
namespace Go.Sym
open Go Go.Proofs.Tryz
set_option maxRecDepth 100000
theorem partA {S W T U V:ByteArray} {v:Int} {b:Bool} {k n:Int} {t:ByteArray} {a:List (List PV)} (hW:W=ByteArray.empty)
  (kw:Fn prog 113 [.ptr 0 0] [.box [.str S,.bool false,.int .i64 v]] [.str W] [.box [.str T,.bool false,.int .i64 v]])
  (kn:Fn prog 61 [.ptr 0 0,.int .u8 40] [.box [.str T,.bool false,.int .i64 v]] [.bool true] [.box [.str U,.bool false,.int .i64 v]])
  (ki:Fn prog 114 [.ptr 0 0] [.box [.str U,.bool false,.int .i64 v]] [.agg [.int .i64 k,.str t,.int .i64 n,.sl false 0 false 4 a]] [.box [.str V,.bool b,.int .i64 v]]) :
  Fn prog 85 [.ptr 0 0] [.box [.str S,.bool false,.int .i64 v]] [.agg [.int .i64 k,.str t,.int .i64 n,.sl false 0 false 4 a]] [.box [.str V,.bool b,.int .i64 v]]:=by
 refine go (fn:=Proofs.Tryz.f85) (n:=72) (rv:=[ResultVar.cell 2 50]) rfl (by decide) rfl (by decide +kernel) rfl rfl (by simp) fun F L C=>?_
 cbv
 (repeat' first|(refine Na ?_ fun _ _=>?_;(focus lia);cbv)|(refine CallThen.mk _ _ (C.fn (kw)) ?_;cbv)|(refine CallThen.mk _ _ (C.fn (kn)) ?_;cbv)|(refine CallThen.mk _ _ (C.fn (ki)) ?_;cbv)|(refine Nl fun _ _ hq=>?_;(try simp only [lenS] at hq);cbv)|(refine Nm fun _ _=>?_;cbv)|(refine Br.t ?_ ?_;(focus first|assumption|lia);cbv)|(refine Br.f ?_ ?_;(focus first|assumption|lia);cbv)|(refine Br.mk (fun _=>?_) (fun _=>?_)<;>cbv)|(refine Need.mk ?_ ?_;rotate_left;cbv)|(refine R0 ?_;cbv))
 all_goals first
  | exact⟨.refl _,trivial⟩
  | (exfalso;contradiction)
  | trace_state
theorem partX {S W T U V:ByteArray} {v:Int} {b:Bool} {k n:Int} {t:ByteArray} {a:List (List PV)} (hW:¬ W=ByteArray.empty)
  (kw:Fn prog 113 [.ptr 0 0] [.box [.str S,.bool false,.int .i64 v]] [.str W] [.box [.str T,.bool false,.int .i64 v]])
  (km:Fn prog 115 [.str W] [] [.bool true] [])
  (kn:Fn prog 61 [.ptr 0 0,.int .u8 40] [.box [.str T,.bool false,.int .i64 v]] [.bool true] [.box [.str U,.bool false,.int .i64 v]])
  (ki:Fn prog 114 [.ptr 0 0] [.box [.str U,.bool false,.int .i64 v]] [.agg [.int .i64 k,.str t,.int .i64 n,.sl false 0 false 4 a]] [.box [.str V,.bool b,.int .i64 v]]) :
  Fn prog 85 [.ptr 0 0] [.box [.str S,.bool false,.int .i64 v]] [.agg [.int .i64 5,.str W,.int .i64 0,.sl false 0 false 4 [[.int .i64 k,.str t,.int .i64 n,.sl false 0 false 4 a]]]] [.box [.str V,.bool b,.int .i64 v]]:=by
 refine go (fn:=Proofs.Tryz.f85) (n:=72) (rv:=[ResultVar.cell 2 50]) rfl (by decide) rfl (by decide +kernel) rfl rfl (by simp) fun F L C=>?_
 cbv
 (repeat' first|(refine Na ?_ fun _ _=>?_;(focus lia);cbv)|(refine CallThen.mk _ _ (C.fn (kw)) ?_;cbv)|(refine CallThen.mk _ _ (C.fn (km)) ?_;cbv)|(refine CallThen.mk _ _ (C.fn (kn)) ?_;cbv)|(refine CallThen.mk _ _ (C.fn (ki)) ?_;cbv)|(refine RetThen.mk [] [2688] ?_;cbv)|(refine Nl fun _ _ hq=>?_;(try simp only [lenS] at hq);cbv)|(refine Nm fun _ _=>?_;cbv)|(refine Br.t ?_ ?_;(focus first|assumption|lia);cbv)|(refine Br.f ?_ ?_;(focus first|assumption|lia);cbv)|(refine Br.mk (fun _=>?_) (fun _=>?_)<;>cbv)|(refine Need.mk ?_ ?_;rotate_left;cbv)|(refine R0 ?_;cbv))
 all_goals first
  | (exfalso;contradiction)
  | exact⟨.of_eq (by symm;assumption),trivial⟩
  | trace_state
theorem partP1 {S W T:ByteArray} {v:Int} (hW:W=ByteArray.empty)
  (kw:Fn prog 113 [.ptr 0 0] [.box [.str S,.bool false,.int .i64 v]] [.str W] [.box [.str T,.bool false,.int .i64 v]])
  (kn:Fn prog 61 [.ptr 0 0,.int .u8 40] [.box [.str T,.bool false,.int .i64 v]] [.bool false] [.box [.str T,.bool false,.int .i64 v]])
  (km:Fn prog 115 [.str W] [] [.bool false] []) (kp:Fn prog 52 [.str W] [] [.bool false] []) :
  Fn prog 85 [.ptr 0 0] [.box [.str S,.bool false,.int .i64 v]] [.agg [.int .i64 1,.str W,.int .i64 0,.sl false 0 false 4 []]] [.box [.str T,.bool true,.int .i64 v]]:=by
 refine go (fn:=Proofs.Tryz.f85) (n:=72) (rv:=[ResultVar.cell 2 50]) rfl (by decide) rfl (by decide +kernel) rfl rfl (by simp) fun F L C=>?_
 cbv
 (repeat' first|(refine Na ?_ fun _ _=>?_;(focus lia);cbv)|(refine CallThen.mk _ _ (C.fn (kw)) ?_;cbv)|(refine CallThen.mk _ _ (C.fn (kn)) ?_;cbv)|(refine CallThen.mk _ _ (C.fn (km)) ?_;cbv)|(refine CallThen.mk _ _ (C.fn (kp)) ?_;cbv)|(refine Nl fun _ _ hq=>?_;(try simp only [lenS] at hq);cbv)|(refine Nm fun _ _=>?_;cbv)|(refine Br.t ?_ ?_;(focus first|assumption|lia);cbv)|(refine Br.f ?_ ?_;(focus first|assumption|lia);cbv)|(refine Br.mk (fun _=>?_) (fun _=>?_)<;>cbv)|(refine Need.mk ?_ ?_;rotate_left;cbv)|(refine R0 ?_;cbv))
 all_goals first
  | exact⟨rfl,trivial⟩
  | (exfalso;contradiction)
  | trace_state
theorem partP3 {S W T:ByteArray} {v:Int} {p:Bool} (hW:¬ W=ByteArray.empty)
  (kw:Fn prog 113 [.ptr 0 0] [.box [.str S,.bool false,.int .i64 v]] [.str W] [.box [.str T,.bool false,.int .i64 v]])
  (km:Fn prog 115 [.str W] [] [.bool false] []) (kd:Fn prog 116 [.str W] [] [.bool false] []) (kp:Fn prog 52 [.str W] [] [.bool p] []) :
  Fn prog 85 [.ptr 0 0] [.box [.str S,.bool false,.int .i64 v]] [.agg [.int .i64 1,.str W,.int .i64 0,.sl false 0 false 4 []]] [.box [.str T,.bool (!p),.int .i64 v]]:=by
 cases p
 all_goals
  refine go (fn:=Proofs.Tryz.f85) (n:=72) (rv:=[ResultVar.cell 2 50]) rfl (by decide) rfl (by decide +kernel) rfl rfl (by simp) fun F L C=>?_
  cbv
  (repeat' first|(refine Na ?_ fun _ _=>?_;(focus lia);cbv)|(refine CallThen.mk _ _ (C.fn (kw)) ?_;cbv)|(refine CallThen.mk _ _ (C.fn (km)) ?_;cbv)|(refine CallThen.mk _ _ (C.fn (kd)) ?_;cbv)|(refine CallThen.mk _ _ (C.fn (kp)) ?_;cbv)|(refine Nl fun _ _ hq=>?_;(try simp only [lenS] at hq);cbv)|(refine Nm fun _ _=>?_;cbv)|(refine Br.t ?_ ?_;(focus first|assumption|lia);cbv)|(refine Br.f ?_ ?_;(focus first|assumption|lia);cbv)|(refine Br.mk (fun _=>?_) (fun _=>?_)<;>cbv)|(refine Need.mk ?_ ?_;rotate_left;cbv)|(refine R0 ?_;cbv))
  all_goals first
   | exact⟨rfl,trivial⟩
   | (exfalso;contradiction)
   | trace_state
theorem partP4 {S W T:ByteArray} {v:Int} {p:Bool} (hW:¬ W=ByteArray.empty)
  (kw:Fn prog 113 [.ptr 0 0] [.box [.str S,.bool false,.int .i64 v]] [.str W] [.box [.str T,.bool false,.int .i64 v]])
  (km:Fn prog 115 [.str W] [] [.bool true] [])
  (kn:Fn prog 61 [.ptr 0 0,.int .u8 40] [.box [.str T,.bool false,.int .i64 v]] [.bool false] [.box [.str T,.bool false,.int .i64 v]])
  (kd:Fn prog 116 [.str W] [] [.bool false] []) (kp:Fn prog 52 [.str W] [] [.bool p] []) :
  Fn prog 85 [.ptr 0 0] [.box [.str S,.bool false,.int .i64 v]] [.agg [.int .i64 1,.str W,.int .i64 0,.sl false 0 false 4 []]] [.box [.str T,.bool (!p),.int .i64 v]]:=by
 cases p
 all_goals
  refine go (fn:=Proofs.Tryz.f85) (n:=72) (rv:=[ResultVar.cell 2 50]) rfl (by decide) rfl (by decide +kernel) rfl rfl (by simp) fun F L C=>?_
  cbv
  (repeat' first|(refine Na ?_ fun _ _=>?_;(focus lia);cbv)|(refine CallThen.mk _ _ (C.fn (kw)) ?_;cbv)|(refine CallThen.mk _ _ (C.fn (km)) ?_;cbv)|(refine CallThen.mk _ _ (C.fn (kn)) ?_;cbv)|(refine CallThen.mk _ _ (C.fn (kd)) ?_;cbv)|(refine CallThen.mk _ _ (C.fn (kp)) ?_;cbv)|(refine Nl fun _ _ hq=>?_;(try simp only [lenS] at hq);cbv)|(refine Nm fun _ _=>?_;cbv)|(refine Br.t ?_ ?_;(focus first|assumption|lia);cbv)|(refine Br.f ?_ ?_;(focus first|assumption|lia);cbv)|(refine Br.mk (fun _=>?_) (fun _=>?_)<;>cbv)|(refine Need.mk ?_ ?_;rotate_left;cbv)|(refine R0 ?_;cbv))
  all_goals first
   | exact⟨rfl,trivial⟩
   | (exfalso;contradiction)
   | trace_state
theorem partN1 {S W T:ByteArray} {v m:Int} (hW:¬ W=ByteArray.empty)
  (kw:Fn prog 113 [.ptr 0 0] [.box [.str S,.bool false,.int .i64 v]] [.str W] [.box [.str T,.bool false,.int .i64 v]])
  (km:Fn prog 115 [.str W] [] [.bool false] []) (kd:Fn prog 116 [.str W] [] [.bool true] []) (ka:Fn prog 117 [.str W] [] [.int .i64 m,.ifc] []) :
  Fn prog 85 [.ptr 0 0] [.box [.str S,.bool false,.int .i64 v]] [.agg [.int .i64 2,.str ByteArray.empty,.int .i64 m,.sl false 0 false 4 []]] [.box [.str T,.bool true,.int .i64 v]]:=by
 refine go (fn:=Proofs.Tryz.f85) (n:=72) (rv:=[ResultVar.cell 2 50]) rfl (by decide) rfl (by decide +kernel) rfl rfl (by simp) fun F L C=>?_
 cbv
 (repeat' first|(refine Na ?_ fun _ _=>?_;(focus lia);cbv)|(refine CallThen.mk _ _ (C.fn (kw)) ?_;cbv)|(refine CallThen.mk _ _ (C.fn (km)) ?_;cbv)|(refine CallThen.mk _ _ (C.fn (kd)) ?_;cbv)|(refine CallThen.mk _ _ (C.fn (ka)) ?_;cbv)|(refine Nl fun _ _ hq=>?_;(try simp only [lenS] at hq);cbv)|(refine Nm fun _ _=>?_;cbv)|(refine Br.t ?_ ?_;(focus first|assumption|lia);cbv)|(refine Br.f ?_ ?_;(focus first|assumption|lia);cbv)|(refine Br.mk (fun _=>?_) (fun _=>?_)<;>cbv)|(refine Need.mk ?_ ?_;rotate_left;cbv)|(refine R0 ?_;cbv))
 all_goals first
  | exact⟨rfl,trivial⟩
  | (exfalso;contradiction)
  | trace_state
theorem partN2 {S W T:ByteArray} {v m:Int} (hW:¬ W=ByteArray.empty) (hl:15<W.size)
  (kw:Fn prog 113 [.ptr 0 0] [.box [.str S,.bool false,.int .i64 v]] [.str W] [.box [.str T,.bool false,.int .i64 v]])
  (km:Fn prog 115 [.str W] [] [.bool false] []) (kd:Fn prog 116 [.str W] [] [.bool true] []) (ka:Fn prog 117 [.str W] [] [.int .i64 m,.lit .nilIface] []) :
  Fn prog 85 [.ptr 0 0] [.box [.str S,.bool false,.int .i64 v]] [.agg [.int .i64 2,.str ByteArray.empty,.int .i64 m,.sl false 0 false 4 []]] [.box [.str T,.bool true,.int .i64 v]]:=by
 refine go (fn:=Proofs.Tryz.f85) (n:=72) (rv:=[ResultVar.cell 2 50]) rfl (by decide) rfl (by decide +kernel) rfl rfl (by simp) fun F L C=>?_
 cbv
 (repeat' first|(refine Na ?_ fun _ _=>?_;(focus lia);cbv)|(refine CallThen.mk _ _ (C.fn (kw)) ?_;cbv)|(refine CallThen.mk _ _ (C.fn (km)) ?_;cbv)|(refine CallThen.mk _ _ (C.fn (kd)) ?_;cbv)|(refine CallThen.mk _ _ (C.fn (ka)) ?_;cbv)|(refine Nl fun _ _ hq=>?_;(try simp only [lenS] at hq);cbv)|(refine Nm fun _ _=>?_;cbv)|(refine Br.t ?_ ?_;(focus first|assumption|lia);cbv)|(refine Br.f ?_ ?_;(focus first|assumption|lia);cbv)|(refine Br.mk (fun _=>?_) (fun _=>?_)<;>cbv)|(refine Need.mk ?_ ?_;rotate_left;cbv)|(refine R0 ?_;cbv))
 all_goals first
  | exact⟨rfl,trivial⟩
  | (exfalso;contradiction)
  | (exfalso;clear kw km kd ka;lia)
  | trace_state
theorem partN3 {S W T D:ByteArray} {v m:Int} {q:Bool} (hW:¬ W=ByteArray.empty) (hl:W.size≤15) (hq:D=W ↔ q=true)
  (kw:Fn prog 113 [.ptr 0 0] [.box [.str S,.bool false,.int .i64 v]] [.str W] [.box [.str T,.bool false,.int .i64 v]])
  (km:Fn prog 115 [.str W] [] [.bool false] []) (kd:Fn prog 116 [.str W] [] [.bool true] []) (ka:Fn prog 117 [.str W] [] [.int .i64 m,.lit .nilIface] []) (ki:Fn prog 118 [.int .i64 m] [] [.str D] []) :
  Fn prog 85 [.ptr 0 0] [.box [.str S,.bool false,.int .i64 v]] [.agg [.int .i64 2,.str ByteArray.empty,.int .i64 m,.sl false 0 false 4 []]] [.box [.str T,.bool (!q),.int .i64 v]]:=by
 cases q
 all_goals
  simp only [iff_true,Bool.false_eq_true,iff_false] at hq
  refine go (fn:=Proofs.Tryz.f85) (n:=72) (rv:=[ResultVar.cell 2 50]) rfl (by decide) rfl (by decide +kernel) rfl rfl (by simp) fun F L C=>?_
  cbv
  (repeat' first|(refine Na ?_ fun _ _=>?_;(focus lia);cbv)|(refine CallThen.mk _ _ (C.fn (kw)) ?_;cbv)|(refine CallThen.mk _ _ (C.fn (km)) ?_;cbv)|(refine CallThen.mk _ _ (C.fn (kd)) ?_;cbv)|(refine CallThen.mk _ _ (C.fn (ka)) ?_;cbv)|(refine CallThen.mk _ _ (C.fn (ki)) ?_;cbv)|(refine Nl fun _ _ hq=>?_;(try simp only [lenS] at hq);cbv)|(refine Nm fun _ _=>?_;cbv)|(refine Br.t ?_ ?_;(focus first|assumption|lia);cbv)|(refine Br.f ?_ ?_;(focus first|assumption|lia);cbv)|(refine Br.mk (fun _=>?_) (fun _=>?_)<;>cbv)|(refine Need.mk ?_ ?_;rotate_left;cbv)|(refine R0 ?_;cbv))
  all_goals first
   | exact⟨rfl,trivial⟩
   | (exfalso;contradiction)
   | (exfalso;clear kw km kd ka ki;lia)
   | trace_state
end Go.Sym
