/- Expressions' texts: Print, and the document's Text (walks). -/
import Derived.Test.YtaedpfkpdeaibaaGreatDoorK28
import Derived.Test.YtaedpfkpdeaibaaGreatDoorK26
set_option linter.all false
set_option linter.unusedVariables false
set_option linter.unusedSimpArgs false
namespace Go.Sym
open Go Go.Proofs.Tryz
set_option maxRecDepth 100000
abbrev fRText:Nat:=24
abbrev fRDig:Nat:=39
theorem rtx_path (O:Opq)  {S:ByteArray} :Fn prog 24 [.agg [.int .i64 1,.str S,.int .i64 0,.sl false 0 false 4 []]] [] [.str S] []:=by
 skip
 refine go (fn:=Proofs.Tryz.f24) (n:=79) (rv:=[ResultVar.tmp 2]) rfl (by decide) rfl (by decide +kernel) rfl rfl (by simp) fun F L C=>?_
 cbv
 (repeat' first|(refine Na ?_ fun _ _=>?_;(focus lia);cbv)|(fail)|(refine Nl fun _ _ hq=>?_;(try simp only [lenS] at hq);cbv)|(refine Nm fun _ _=>?_;cbv)|(refine Br.t ?_ ?_;(focus first|assumption|lia);cbv)|(refine Br.f ?_ ?_;(focus first|assumption|lia);cbv)|(refine Br.mk (fun _=>?_) (fun _=>?_)<;>cbv)|(refine Need.mk ?_ ?_;rotate_left;cbv)|(refine R0 ?_;cbv))
 all_goals first
  | exact⟨rfl,trivial⟩
  | exact trivial
  | (exfalso;skip;lia)
  | (skip;show ByteArray.size _+1≤2 ^ 62;omega)
  | (skip;show 1+ByteArray.size _≤2 ^ 62;omega)
  | (skip;omega)
  | (skip;simp only [List.length_cons,List.length_nil];lia)
  | trace_state
theorem rtx_num (O:Opq) {n:Int} {S:ByteArray} (k1:Fn prog fRDig [.int .i64 n] [] [.str S] []):Fn prog 24 [.agg [.int .i64 2,.str ByteArray.empty,.int .i64 n,.sl false 0 false 4 []]] [] [.str S] []:=by
 skip
 refine go (fn:=Proofs.Tryz.f24) (n:=79) (rv:=[ResultVar.tmp 2]) rfl (by decide) rfl (by decide +kernel) rfl rfl (by simp) fun F L C=>?_
 cbv
 (repeat' first|(refine Na ?_ fun _ _=>?_;(focus lia);cbv)|(refine CallThen.mk _ _ (C.fn (k1)) ?_;cbv)|(refine Nl fun _ _ hq=>?_;(try simp only [lenS] at hq);cbv)|(refine Nm fun _ _=>?_;cbv)|(refine Br.t ?_ ?_;(focus first|assumption|lia);cbv)|(refine Br.f ?_ ?_;(focus first|assumption|lia);cbv)|(refine Br.mk (fun _=>?_) (fun _=>?_)<;>cbv)|(refine Need.mk ?_ ?_;rotate_left;cbv)|(refine R0 ?_;cbv))
 all_goals first
  | exact⟨rfl,trivial⟩
  | exact trivial
  | (exfalso;clear k1;lia)
  | (clear k1;show ByteArray.size _+1≤2 ^ 62;omega)
  | (clear k1;show 1+ByteArray.size _≤2 ^ 62;omega)
  | (clear k1;omega)
  | (clear k1;simp only [List.length_cons,List.length_nil];lia)
  | trace_state
theorem rtx_call (O:Opq) {a:Nd} {T X S1 S2:ByteArray} {S:ByteArray} (h1:S1=T++⟨#[40]⟩) (h2:S2=S1++X) (h3:S=S2++⟨#[41]⟩) (hz:T.size≤100000000∧X.size≤100000000∧S1.size≤100000000∧S2.size≤100000000) (k1:Fn prog fRText [.agg (a.en O)] [] [.str X] []):Fn prog 24 [.agg [.int .i64 5,.str T,.int .i64 0,.sl false 0 false 4 [a.en O]]] [] [.str S] []:=by
 obtain⟨a1,a2,a3,a4⟩:=a
 refine go (fn:=Proofs.Tryz.f24) (n:=79) (rv:=[ResultVar.tmp 2]) rfl (by decide) rfl (by decide +kernel) rfl rfl (by simp) fun F L C=>?_
 cbv
 (repeat' first|(refine Named.atG S1 h1 ?_;cbv)|(refine Named.atG S2 h2 ?_;cbv)|(refine Named.atG S h3 ?_;cbv)|(refine Na ?_ fun _ _=>?_;(focus lia);cbv)|(refine Ex.mk _ ⟨by decide,rfl⟩ ?_;cbv)|(refine CallThen.mk _ _ (C.fn (k1)) ?_;cbv)|(refine Nl fun _ _ hq=>?_;(try simp only [lenS] at hq);cbv)|(refine Nm fun _ _=>?_;cbv)|(refine Br.t ?_ ?_;(focus first|assumption|lia);cbv)|(refine Br.f ?_ ?_;(focus first|assumption|lia);cbv)|(refine Br.mk (fun _=>?_) (fun _=>?_)<;>cbv)|(refine Need.mk ?_ ?_;rotate_left;cbv)|(refine R0 ?_;cbv))
 all_goals first
  | exact⟨rfl,trivial⟩
  | exact trivial
  | (exfalso;clear h1 h2 h3 k1;lia)
  | (clear h1 h2 h3 k1;show ByteArray.size _+1≤2 ^ 62;omega)
  | (clear h1 h2 h3 k1;show 1+ByteArray.size _≤2 ^ 62;omega)
  | (clear h1 h2 h3 k1;omega)
  | (clear h1 h2 h3 k1;simp only [List.length_cons,List.length_nil];lia)
  | trace_state
theorem rtx_sumN (O:Opq) {a b:Nd} {X Y S1:ByteArray} {S:ByteArray} (q:b.kind≠3) (h1:S1=X++⟨#[43]⟩) (h2:S=S1++Y) (hz:X.size≤100000000∧Y.size≤100000000∧S1.size≤100000000) (k1:Fn prog fRText [.agg (a.en O)] [] [.str X] []) (k2:Fn prog fRText [.agg (b.en O)] [] [.str Y] []):Fn prog 24 [.agg [.int .i64 3,.str ByteArray.empty,.int .i64 0,.sl false 0 false 4 [a.en O,b.en O]]] [] [.str S] []:=by
 obtain⟨a1,a2,a3,a4⟩:=a;obtain⟨b1,b2,b3,b4⟩:=b;simp only [Nd.kind] at q
 refine go (fn:=Proofs.Tryz.f24) (n:=79) (rv:=[ResultVar.tmp 2]) rfl (by decide) rfl (by decide +kernel) rfl rfl (by simp) fun F L C=>?_
 cbv
 (repeat' first|(refine Named.atG S1 h1 ?_;cbv)|(refine Named.atG S h2 ?_;cbv)|(refine Na ?_ fun _ _=>?_;(focus lia);cbv)|(refine Ex.mk _ ⟨by decide,rfl⟩ ?_;cbv)|(refine CallThen.mk _ _ (C.fn (k1)) ?_;cbv)|(refine CallThen.mk _ _ (C.fn (k2)) ?_;cbv)|(refine Nl fun _ _ hq=>?_;(try simp only [lenS] at hq);cbv)|(refine Nm fun _ _=>?_;cbv)|(refine Br.t ?_ ?_;(focus first|assumption|lia);cbv)|(refine Br.f ?_ ?_;(focus first|assumption|lia);cbv)|(refine Br.mk (fun _=>?_) (fun _=>?_)<;>cbv)|(refine Need.mk ?_ ?_;rotate_left;cbv)|(refine R0 ?_;cbv))
 all_goals first
  | exact⟨rfl,trivial⟩
  | exact trivial
  | (exfalso;clear h1 h2 k1 k2;lia)
  | (clear h1 h2 k1 k2;show ByteArray.size _+1≤2 ^ 62;omega)
  | (clear h1 h2 k1 k2;show 1+ByteArray.size _≤2 ^ 62;omega)
  | (clear h1 h2 k1 k2;omega)
  | (clear h1 h2 k1 k2;simp only [List.length_cons,List.length_nil];lia)
  | trace_state
theorem rtx_sumY (O:Opq) {a b:Nd} {X Y Y1 Y2 S1:ByteArray} {S:ByteArray} (q:b.kind=3) (hy:Y1=⟨#[40]⟩++Y) (hy2:Y2=Y1++⟨#[41]⟩) (h1:S1=X++⟨#[43]⟩) (h2:S=S1++Y2) (hz:X.size≤100000000∧Y.size≤100000000∧S1.size≤100000000) (hw:Y1.size≤100000000∧Y2.size≤100000000) (k1:Fn prog fRText [.agg (a.en O)] [] [.str X] []) (k2:Fn prog fRText [.agg (b.en O)] [] [.str Y] []):Fn prog 24 [.agg [.int .i64 3,.str ByteArray.empty,.int .i64 0,.sl false 0 false 4 [a.en O,b.en O]]] [] [.str S] []:=by
 obtain⟨a1,a2,a3,a4⟩:=a;obtain⟨b1,b2,b3,b4⟩:=b;simp only [Nd.kind] at q
 refine go (fn:=Proofs.Tryz.f24) (n:=79) (rv:=[ResultVar.tmp 2]) rfl (by decide) rfl (by decide +kernel) rfl rfl (by simp) fun F L C=>?_
 cbv
 (repeat' first|(refine Named.atG Y1 hy ?_;cbv)|(refine Named.atG Y2 hy2 ?_;cbv)|(refine Named.atG S1 h1 ?_;cbv)|(refine Named.atG S h2 ?_;cbv)|(refine Na ?_ fun _ _=>?_;(focus lia);cbv)|(refine Ex.mk _ ⟨by decide,rfl⟩ ?_;cbv)|(refine CallThen.mk _ _ (C.fn (k1)) ?_;cbv)|(refine CallThen.mk _ _ (C.fn (k2)) ?_;cbv)|(refine Nl fun _ _ hq=>?_;(try simp only [lenS] at hq);cbv)|(refine Nm fun _ _=>?_;cbv)|(refine Br.t ?_ ?_;(focus first|assumption|lia);cbv)|(refine Br.f ?_ ?_;(focus first|assumption|lia);cbv)|(refine Br.mk (fun _=>?_) (fun _=>?_)<;>cbv)|(refine Need.mk ?_ ?_;rotate_left;cbv)|(refine R0 ?_;cbv))
 all_goals first
  | exact⟨rfl,trivial⟩
  | exact trivial
  | (exfalso;clear h1 h2 hy hy2 k1 k2;lia)
  | (clear h1 h2 hy hy2 k1 k2;show ByteArray.size _+1≤2 ^ 62;omega)
  | (clear h1 h2 hy hy2 k1 k2;show 1+ByteArray.size _≤2 ^ 62;omega)
  | (clear h1 h2 hy hy2 k1 k2;omega)
  | (clear h1 h2 hy hy2 k1 k2;simp only [List.length_cons,List.length_nil];lia)
  | trace_state
theorem rtx_mulNN (O:Opq) {a b:Nd} {X Y S1:ByteArray} {S:ByteArray} (q:b.kind≠3∧b.kind≠4∧a.kind≠3) (h1:S1=X++⟨#[42]⟩) (h2:S=S1++Y) (hz:X.size≤100000000∧Y.size≤100000000∧S1.size≤100000000) (k1:Fn prog fRText [.agg (a.en O)] [] [.str X] []) (k2:Fn prog fRText [.agg (b.en O)] [] [.str Y] []):Fn prog 24 [.agg [.int .i64 4,.str ByteArray.empty,.int .i64 0,.sl false 0 false 4 [a.en O,b.en O]]] [] [.str S] []:=by
 obtain⟨a1,a2,a3,a4⟩:=a;obtain⟨b1,b2,b3,b4⟩:=b;simp only [Nd.kind] at q;obtain⟨q1,q2,q3⟩:=q
 refine go (fn:=Proofs.Tryz.f24) (n:=79) (rv:=[ResultVar.tmp 2]) rfl (by decide) rfl (by decide +kernel) rfl rfl (by simp) fun F L C=>?_
 cbv
 (repeat' first|(refine Named.atG S1 h1 ?_;cbv)|(refine Named.atG S h2 ?_;cbv)|(refine Na ?_ fun _ _=>?_;(focus lia);cbv)|(refine Ex.mk _ ⟨by decide,rfl⟩ ?_;cbv)|(refine CallThen.mk _ _ (C.fn (k1)) ?_;cbv)|(refine CallThen.mk _ _ (C.fn (k2)) ?_;cbv)|(refine Nl fun _ _ hq=>?_;(try simp only [lenS] at hq);cbv)|(refine Nm fun _ _=>?_;cbv)|(refine Br.t ?_ ?_;(focus first|assumption|lia);cbv)|(refine Br.f ?_ ?_;(focus first|assumption|lia);cbv)|(refine Br.mk (fun _=>?_) (fun _=>?_)<;>cbv)|(refine Need.mk ?_ ?_;rotate_left;cbv)|(refine R0 ?_;cbv))
 all_goals first
  | exact⟨rfl,trivial⟩
  | exact trivial
  | (exfalso;clear h1 h2 k1 k2;lia)
  | (clear h1 h2 k1 k2;show ByteArray.size _+1≤2 ^ 62;omega)
  | (clear h1 h2 k1 k2;show 1+ByteArray.size _≤2 ^ 62;omega)
  | (clear h1 h2 k1 k2;omega)
  | (clear h1 h2 k1 k2;simp only [List.length_cons,List.length_nil];lia)
  | trace_state
theorem rtx_mulYN (O:Opq) {a b:Nd} {X X1 X2 Y S1:ByteArray} {S:ByteArray} (q:b.kind≠3∧b.kind≠4∧a.kind=3) (hx:X1=⟨#[40]⟩++X) (hx2:X2=X1++⟨#[41]⟩) (h1:S1=X2++⟨#[42]⟩) (h2:S=S1++Y) (hz:X.size≤100000000∧Y.size≤100000000∧S1.size≤100000000) (hv:X1.size≤100000000∧X2.size≤100000000) (k1:Fn prog fRText [.agg (a.en O)] [] [.str X] []) (k2:Fn prog fRText [.agg (b.en O)] [] [.str Y] []):Fn prog 24 [.agg [.int .i64 4,.str ByteArray.empty,.int .i64 0,.sl false 0 false 4 [a.en O,b.en O]]] [] [.str S] []:=by
 obtain⟨a1,a2,a3,a4⟩:=a;obtain⟨b1,b2,b3,b4⟩:=b;simp only [Nd.kind] at q;obtain⟨q1,q2,q3⟩:=q
 refine go (fn:=Proofs.Tryz.f24) (n:=79) (rv:=[ResultVar.tmp 2]) rfl (by decide) rfl (by decide +kernel) rfl rfl (by simp) fun F L C=>?_
 cbv
 (repeat' first|(refine Named.atG X1 hx ?_;cbv)|(refine Named.atG X2 hx2 ?_;cbv)|(refine Named.atG S1 h1 ?_;cbv)|(refine Named.atG S h2 ?_;cbv)|(refine Na ?_ fun _ _=>?_;(focus lia);cbv)|(refine Ex.mk _ ⟨by decide,rfl⟩ ?_;cbv)|(refine CallThen.mk _ _ (C.fn (k1)) ?_;cbv)|(refine CallThen.mk _ _ (C.fn (k2)) ?_;cbv)|(refine Nl fun _ _ hq=>?_;(try simp only [lenS] at hq);cbv)|(refine Nm fun _ _=>?_;cbv)|(refine Br.t ?_ ?_;(focus first|assumption|lia);cbv)|(refine Br.f ?_ ?_;(focus first|assumption|lia);cbv)|(refine Br.mk (fun _=>?_) (fun _=>?_)<;>cbv)|(refine Need.mk ?_ ?_;rotate_left;cbv)|(refine R0 ?_;cbv))
 all_goals first
  | exact⟨rfl,trivial⟩
  | exact trivial
  | (exfalso;clear h1 h2 hx hx2 k1 k2;lia)
  | (clear h1 h2 hx hx2 k1 k2;show ByteArray.size _+1≤2 ^ 62;omega)
  | (clear h1 h2 hx hx2 k1 k2;show 1+ByteArray.size _≤2 ^ 62;omega)
  | (clear h1 h2 hx hx2 k1 k2;omega)
  | (clear h1 h2 hx hx2 k1 k2;simp only [List.length_cons,List.length_nil];lia)
  | trace_state
theorem rtx_mulNY (O:Opq) {a b:Nd} {X Y Y1 Y2 S1:ByteArray} {S:ByteArray} (q:(b.kind=3∨b.kind=4)∧a.kind≠3) (hy:Y1=⟨#[40]⟩++Y) (hy2:Y2=Y1++⟨#[41]⟩) (h1:S1=X++⟨#[42]⟩) (h2:S=S1++Y2) (hz:X.size≤100000000∧Y.size≤100000000∧S1.size≤100000000) (hw:Y1.size≤100000000∧Y2.size≤100000000) (k1:Fn prog fRText [.agg (a.en O)] [] [.str X] []) (k2:Fn prog fRText [.agg (b.en O)] [] [.str Y] []):Fn prog 24 [.agg [.int .i64 4,.str ByteArray.empty,.int .i64 0,.sl false 0 false 4 [a.en O,b.en O]]] [] [.str S] []:=by
 obtain⟨a1,a2,a3,a4⟩:=a;obtain⟨b1,b2,b3,b4⟩:=b;simp only [Nd.kind] at q;obtain⟨q1,q2⟩:=q
 refine go (fn:=Proofs.Tryz.f24) (n:=79) (rv:=[ResultVar.tmp 2]) rfl (by decide) rfl (by decide +kernel) rfl rfl (by simp) fun F L C=>?_
 cbv
 (repeat' first|(refine Named.atG Y1 hy ?_;cbv)|(refine Named.atG Y2 hy2 ?_;cbv)|(refine Named.atG S1 h1 ?_;cbv)|(refine Named.atG S h2 ?_;cbv)|(refine Na ?_ fun _ _=>?_;(focus lia);cbv)|(refine Ex.mk _ ⟨by decide,rfl⟩ ?_;cbv)|(refine CallThen.mk _ _ (C.fn (k1)) ?_;cbv)|(refine CallThen.mk _ _ (C.fn (k2)) ?_;cbv)|(refine Nl fun _ _ hq=>?_;(try simp only [lenS] at hq);cbv)|(refine Nm fun _ _=>?_;cbv)|(refine Br.t ?_ ?_;(focus first|assumption|lia);cbv)|(refine Br.f ?_ ?_;(focus first|assumption|lia);cbv)|(refine Br.mk (fun _=>?_) (fun _=>?_)<;>cbv)|(refine Need.mk ?_ ?_;rotate_left;cbv)|(refine R0 ?_;cbv))
 all_goals first
  | exact⟨rfl,trivial⟩
  | exact trivial
  | (exfalso;clear h1 h2 hy hy2 k1 k2;lia)
  | (clear h1 h2 hy hy2 k1 k2;show ByteArray.size _+1≤2 ^ 62;omega)
  | (clear h1 h2 hy hy2 k1 k2;show 1+ByteArray.size _≤2 ^ 62;omega)
  | (clear h1 h2 hy hy2 k1 k2;omega)
  | (clear h1 h2 hy hy2 k1 k2;simp only [List.length_cons,List.length_nil];lia)
  | trace_state
theorem rtx_mulYY (O:Opq) {a b:Nd} {X X1 X2 Y Y1 Y2 S1:ByteArray} {S:ByteArray} (q:(b.kind=3∨b.kind=4)∧a.kind=3) (hx:X1=⟨#[40]⟩++X) (hx2:X2=X1++⟨#[41]⟩) (hy:Y1=⟨#[40]⟩++Y) (hy2:Y2=Y1++⟨#[41]⟩) (h1:S1=X2++⟨#[42]⟩) (h2:S=S1++Y2) (hz:X.size≤100000000∧Y.size≤100000000∧S1.size≤100000000) (hv:X1.size≤100000000∧X2.size≤100000000) (hw:Y1.size≤100000000∧Y2.size≤100000000) (k1:Fn prog fRText [.agg (a.en O)] [] [.str X] []) (k2:Fn prog fRText [.agg (b.en O)] [] [.str Y] []):Fn prog 24 [.agg [.int .i64 4,.str ByteArray.empty,.int .i64 0,.sl false 0 false 4 [a.en O,b.en O]]] [] [.str S] []:=by
 obtain⟨a1,a2,a3,a4⟩:=a;obtain⟨b1,b2,b3,b4⟩:=b;simp only [Nd.kind] at q;obtain⟨q1,q2⟩:=q
 refine go (fn:=Proofs.Tryz.f24) (n:=79) (rv:=[ResultVar.tmp 2]) rfl (by decide) rfl (by decide +kernel) rfl rfl (by simp) fun F L C=>?_
 cbv
 (repeat' first|(refine Named.atG X1 hx ?_;cbv)|(refine Named.atG X2 hx2 ?_;cbv)|(refine Named.atG Y1 hy ?_;cbv)|(refine Named.atG Y2 hy2 ?_;cbv)|(refine Named.atG S1 h1 ?_;cbv)|(refine Named.atG S h2 ?_;cbv)|(refine Na ?_ fun _ _=>?_;(focus lia);cbv)|(refine Ex.mk _ ⟨by decide,rfl⟩ ?_;cbv)|(refine CallThen.mk _ _ (C.fn (k1)) ?_;cbv)|(refine CallThen.mk _ _ (C.fn (k2)) ?_;cbv)|(refine Nl fun _ _ hq=>?_;(try simp only [lenS] at hq);cbv)|(refine Nm fun _ _=>?_;cbv)|(refine Br.t ?_ ?_;(focus first|assumption|lia);cbv)|(refine Br.f ?_ ?_;(focus first|assumption|lia);cbv)|(refine Br.mk (fun _=>?_) (fun _=>?_)<;>cbv)|(refine Need.mk ?_ ?_;rotate_left;cbv)|(refine R0 ?_;cbv))
 all_goals first
  | exact⟨rfl,trivial⟩
  | exact trivial
  | (exfalso;clear h1 h2 hx hx2 hy hy2 k1 k2;lia)
  | (clear h1 h2 hx hx2 hy hy2 k1 k2;show ByteArray.size _+1≤2 ^ 62;omega)
  | (clear h1 h2 hx hx2 hy hy2 k1 k2;show 1+ByteArray.size _≤2 ^ 62;omega)
  | (clear h1 h2 hx hx2 hy hy2 k1 k2;omega)
  | (clear h1 h2 hx hx2 hy hy2 k1 k2;simp only [List.length_cons,List.length_nil];lia)
  | trace_state
theorem par_sz2 {s:List UInt8} (h:s.length≤10000000):(ofL (40::s)).size≤100000000∧(ofL (40::(s++[41]))).size≤100000000:=by
 rw[size_ofL,size_ofL,List.length_cons,List.length_cons,List.length_append];simp only [List.length_cons,List.length_nil];omega
theorem kind_lvl (e:Xp):(e.nd.kind=3 ↔ e.lvl=2)∧(e.nd.kind=4 ↔ e.lvl=1):=by cases e<;>simp [Xp.nd,sumN,mulN,callN,Nd.kind,Xp.lvl]
theorem rtext_all (O : Opq) {e : Xp} (he : e.Ok lexE) : ∀ k, k ≤ 8 → deepB k e.nd = false → Fn prog fRText [.agg (e.nd.en O)] [] [.str (ofL e.str)] [] := by
  have big : ∀ {e : Xp} {k}, e.Ok lexE → k ≤ 8 → deepB k e.nd = false → e.str.length + 2 ≤ 6553600 := fun {e k} he hk hd => by
    have h1 := str_len he k hd
    have h2 : 4 ^ k ≤ 4 ^ 8 := Nat.pow_le_pow_right (by decide) hk
    omega
  have e0 : O.o ofL [] = ByteArray.empty := by rw [O.h]; rfl
  induction he with
  | @path w h =>
    intro k hk hd
    have ea : Nd.en O (Xp.path w).nd = [.int .i64 1, .str (ofL w), .int .i64 0, .sl false 0 false 4 []] := by
      show [PV.int .i64 1, .str (O.o ofL w), .int .i64 0, .sl false 0 false 4 (O.o Nds.enc [])] = _
      rw [O.h, Nds.nil O]
    rw [ea]; exact rtx_path O
  | @num n h =>
    intro k hk hd
    have hn := num_small h
    have k1 := rdigits_fn O n (by omega) n rfl
    rw [O.h] at k1
    have ea : Nd.en O (Xp.num n).nd = [.int .i64 2, .str ByteArray.empty, .int .i64 n, .sl false 0 false 4 []] := by
      show [PV.int .i64 2, .str (O.o ofL []), .int .i64 n, .sl false 0 false 4 (O.o Nds.enc [])] = _
      rw [e0, Nds.nil O]
    rw [ea]; exact rtx_num O k1
  | @sum a b ha hb' ih jh =>
    intro k hk hd
    cases k with
    | zero => simp [deepB] at hd
    | succ k =>
      have hda := deep_args hd a.nd (by simp)
      have hdb := deep_args hd b.nd (by simp)
      have k1 := ih k (by omega) hda
      have k2 := jh k (by omega) hdb
      have hA := big ha (by omega) hda
      have hB := big hb' (by omega) hdb
      have h1 : ofL (a.str ++ [43]) = ofL a.str ++ (⟨#[43]⟩ : ByteArray) := ofL_app a.str [43]
      have h2 : ofL (Xp.str (.sum a b)) = ofL (a.str ++ [43]) ++ ofL (inPar (b.lvl = 2) b.str) := by
        rw [← ofL_app]; congr 1
        show a.str ++ 43 :: inPar (b.lvl = 2) b.str = _
        simp
      have hz : (ofL a.str).size ≤ 100000000 ∧ (ofL b.str).size ≤ 100000000 ∧ (ofL (a.str ++ [43])).size ≤ 100000000 := by
        rw [size_ofL, size_ofL, size_ofL, List.length_append]; simp only [List.length_cons, List.length_nil]; omega
      have ea : Nd.en O (Xp.sum a b).nd = [.int .i64 3, .str ByteArray.empty, .int .i64 0, .sl false 0 false 4 [a.nd.en O, b.nd.en O]] := by
        show [PV.int .i64 3, .str (O.o ofL []), .int .i64 0, .sl false 0 false 4 (O.o Nds.enc [a.nd, b.nd])] = _
        rw [e0, Nds.two O]
      rw [ea]
      by_cases q : b.lvl = 2
      · rw [inPar_yes q] at h2
        exact rtx_sumY O ((kind_lvl b).1.2 q) (par1 _) (par2 _) h1 h2 hz (par_sz2 (by omega)) k1 k2
      · rw [inPar_no q] at h2
        exact rtx_sumN O (fun h => q ((kind_lvl b).1.1 h)) h1 h2 hz k1 k2
  | @mul a b ha hb' ih jh =>
    intro k hk hd
    cases k with
    | zero => simp [deepB] at hd
    | succ k =>
      have hda := deep_args hd a.nd (by simp)
      have hdb := deep_args hd b.nd (by simp)
      have k1 := ih k (by omega) hda
      have k2 := jh k (by omega) hdb
      have hA := big ha (by omega) hda
      have hB := big hb' (by omega) hdb
      have hA2 := inPar_len (a.lvl = 2) a.str
      have h1 : ofL (inPar (a.lvl = 2) a.str ++ [42]) = ofL (inPar (a.lvl = 2) a.str) ++ (⟨#[42]⟩ : ByteArray) := ofL_app _ [42]
      have h2 : ofL (Xp.str (.mul a b)) = ofL (inPar (a.lvl = 2) a.str ++ [42]) ++ ofL (inPar (1 ≤ b.lvl) b.str) := by
        rw [← ofL_app]; congr 1
        show inPar (a.lvl = 2) a.str ++ 42 :: inPar (1 ≤ b.lvl) b.str = _
        simp
      have hz : (ofL a.str).size ≤ 100000000 ∧ (ofL b.str).size ≤ 100000000 ∧ (ofL (inPar (a.lvl = 2) a.str ++ [42])).size ≤ 100000000 := by
        rw [size_ofL, size_ofL, size_ofL, List.length_append]; simp only [List.length_cons, List.length_nil]; omega
      have ea : Nd.en O (Xp.mul a b).nd = [.int .i64 4, .str ByteArray.empty, .int .i64 0, .sl false 0 false 4 [a.nd.en O, b.nd.en O]] := by
        show [PV.int .i64 4, .str (O.o ofL []), .int .i64 0, .sl false 0 false 4 (O.o Nds.enc [a.nd, b.nd])] = _
        rw [e0, Nds.two O]
      rw [ea]
      have kb := kind_lvl b
      have ka := kind_lvl a
      by_cases q : a.lvl = 2
      · by_cases p : 1 ≤ b.lvl
        · rw [inPar_yes q] at h1 h2 hz
          rw [inPar_yes p] at h2
          have := Xp.lvl_le b
          exact rtx_mulYY O ⟨by rw [kb.1, kb.2]; omega, ka.1.2 q⟩ (par1 _) (par2 _) (par1 _) (par2 _) h1 h2 hz (par_sz2 (by omega)) (par_sz2 (by omega)) k1 k2
        · rw [inPar_yes q] at h1 h2 hz
          rw [inPar_no p] at h2
          exact rtx_mulYN O ⟨by rw [Ne, kb.1]; omega, by rw [Ne, kb.2]; omega, ka.1.2 q⟩ (par1 _) (par2 _) h1 h2 hz (par_sz2 (by omega)) k1 k2
      · by_cases p : 1 ≤ b.lvl
        · rw [inPar_no q] at h1 h2 hz
          rw [inPar_yes p] at h2
          have := Xp.lvl_le b
          exact rtx_mulNY O ⟨by rw [kb.1, kb.2]; omega, fun h => q (ka.1.1 h)⟩ (par1 _) (par2 _) h1 h2 hz (par_sz2 (by omega)) k1 k2
        · rw [inPar_no q] at h1 h2 hz
          rw [inPar_no p] at h2
          exact rtx_mulNN O ⟨by rw [Ne, kb.1]; omega, by rw [Ne, kb.2]; omega, fun h => q (ka.1.1 h)⟩ h1 h2 hz k1 k2
  | @call w a hw ha ih =>
    intro k hk hd
    cases k with
    | zero => simp [deepB] at hd
    | succ k =>
      have hda := deep_args hd a.nd (by simp)
      have k1 := ih k (by omega) hda
      have hA := big ha (by omega) hda
      have hwl : w.length ≤ 4 := by
        have h : nameL w = true := hw
        rcases name_cases h with rfl | rfl | rfl | rfl | rfl <;> decide
      have h1 : ofL (w ++ [40]) = ofL w ++ (⟨#[40]⟩ : ByteArray) := ofL_app w [40]
      have h2 : ofL (w ++ [40] ++ a.str) = ofL (w ++ [40]) ++ ofL a.str := ofL_app _ _
      have h3 : ofL (Xp.str (.call w a)) = ofL (w ++ [40] ++ a.str) ++ (⟨#[41]⟩ : ByteArray) := by
        refine Eq.trans ?_ (ofL_app (w ++ [40] ++ a.str) [41])
        congr 1
        show w ++ 40 :: (a.str ++ [41]) = _
        simp
      have hz : (ofL w).size ≤ 100000000 ∧ (ofL a.str).size ≤ 100000000 ∧ (ofL (w ++ [40])).size ≤ 100000000 ∧ (ofL (w ++ [40] ++ a.str)).size ≤ 100000000 := by
        rw [size_ofL, size_ofL, size_ofL, size_ofL, List.length_append, List.length_append]; simp only [List.length_append, List.length_cons, List.length_nil]; omega
      have ea : Nd.en O (Xp.call w a).nd = [.int .i64 5, .str (ofL w), .int .i64 0, .sl false 0 false 4 [a.nd.en O]] := by
        show [PV.int .i64 5, .str (O.o ofL w), .int .i64 0, .sl false 0 false 4 (O.o Nds.enc [a.nd])] = _
        rw [O.h, Nds.one O]
      rw [ea]; exact rtx_call O h1 h2 h3 hz k1
/-! ### expr.Print -/
theorem eprint_bad (O:Opq) {x:Nd} (hx:NdS x) (h:chkE x≠0):Fn prog 21 [.agg (x.en O)] [] [.str ByteArray.empty,.int .i64 (chkE x)] []:=by
 have kc:=echeck_fn O hx
 obtain⟨Q,eQ⟩:∃ Q,Q=chkE x:=⟨_,rfl⟩
 rw[← eQ] at kc h ⊢
 clear eQ hx
 obtain⟨a1,a2,a3,a4⟩:=x
 refine go (fn:=Proofs.Tryz.f21) (n:=16) (rv:=[ResultVar.tmp 2,ResultVar.tmp 3]) rfl (by decide) rfl (by decide +kernel) rfl rfl (by simp) fun F L C=>?_
 cbv
 (repeat' first|(refine Na ?_ fun _ _=>?_;(focus lia);cbv)|(refine CallThen.mk _ _ (C.fn (kc)) ?_;cbv)|(refine Nl fun _ _ hq=>?_;(try simp only [lenS] at hq);cbv)|(refine Nm fun _ _=>?_;cbv)|(refine Br.t ?_ ?_;(focus first|assumption|lia);cbv)|(refine Br.f ?_ ?_;(focus first|assumption|lia);cbv)|(refine Br.mk (fun _=>?_) (fun _=>?_)<;>cbv)|(refine Need.mk ?_ ?_;rotate_left;cbv)|(refine R0 ?_;cbv))
 all_goals first
  | exact⟨rfl,rfl,trivial⟩
  | exact⟨rfl,trivial⟩
  | (exfalso;clear kc;lia)
  | trace_state
theorem eprint_good (O:Opq) {x:Nd} {S:ByteArray} (hx:NdS x) (h:chkE x=0) (k1:Fn prog fText [.agg (x.en O),.nils] [] [.str S] []) :
  (256<S.size→Fn prog 21 [.agg (x.en O)] [] [.str ByteArray.empty,.int .i64 3] [])∧(S.size≤256→Fn prog 21 [.agg (x.en O)] [] [.str S,.int .i64 0] []):=by
 have kc:=echeck_fn O hx
 rw[h] at kc
 clear h hx
 obtain⟨a1,a2,a3,a4⟩:=x
 refine⟨fun hs=>?_,fun hs=>?_⟩
 all_goals
  refine go (fn:=Proofs.Tryz.f21) (n:=16) (rv:=[ResultVar.tmp 2,ResultVar.tmp 3]) rfl (by decide) rfl (by decide +kernel) rfl rfl (by simp) fun F L C=>?_
  cbv
  (repeat' first|(refine Na ?_ fun _ _=>?_;(focus lia);cbv)|(refine CallThen.mk _ _ (C.fn (kc)) ?_;cbv)|(refine CallThen.mk _ _ (C.fn (k1)) ?_;cbv)|(refine Nl fun _ _ hq=>?_;(try simp only [lenS] at hq);cbv)|(refine Nm fun _ _=>?_;cbv)|(refine Br.t ?_ ?_;(focus first|assumption|lia);cbv)|(refine Br.f ?_ ?_;(focus first|assumption|lia);cbv)|(refine Br.mk (fun _=>?_) (fun _=>?_)<;>cbv)|(refine Need.mk ?_ ?_;rotate_left;cbv)|(refine R0 ?_;cbv))
  all_goals first
   | exact⟨rfl,rfl,trivial⟩
   | exact⟨rfl,trivial⟩
   | (exfalso;clear kc k1;lia)
   | trace_state
end Go.Sym
