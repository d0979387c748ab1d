/- Expressions' texts (walks). -/
import Derived.Test.YtaedpfkpdeaibaaGreatDoorK24
set_option linter.all false
set_option linter.unusedVariables false
set_option linter.unusedSimpArgs false
namespace Go.Sym
open Go Go.Proofs.Tryz
set_option maxRecDepth 100000
theorem containsT_fn (O:Opq) (l:List Int) (v:Int) (hl:l.length≤1000000):Fn prog 62 [.sl true 0 false 1 (O.o NumsJ l),.int .i64 v] [] [.bool (inJ v l)] []:=by
 have k:=indexJ_fn0 O l v hl
 have hi:(0≤O.o (idxJ v) l ↔ inJ v l=true):=by rw[O.h];exact idxJ_ge v l
 obtain⟨Q,eQ⟩:∃ Q,Q=O.o (idxJ v) l:=⟨_,rfl⟩
 rw[← eQ] at k hi
 obtain⟨B,eB⟩:∃ Q,Q=inJ v l:=⟨_,rfl⟩
 rw[← eB] at hi ⊢
 clear eQ eB
 cases B
 all_goals
  refine go (fn:=Proofs.Tryz.f62) (n:=7) (rv:=[ResultVar.tmp 4]) rfl (by decide) rfl (by decide +kernel) rfl rfl (by simp) fun F L C=>?_
  cbv
  (repeat' first|(refine Na ?_ fun _ _=>?_;(focus lia);cbv)|(refine CallThen.mk _ _ (C.fn (k)) ?_;cbv)|(refine Nl fun _ _ hq=>?_;(try simp only [lenS] at hq);cbv)|(refine Nm fun _ _=>?_;cbv)|(refine Br.t ?_ ?_;(focus first|assumption|lia);cbv)|(refine Br.f ?_ ?_;(focus first|assumption|lia);cbv)|(refine Br.mk (fun _=>?_) (fun _=>?_)<;>cbv)|(refine Need.mk ?_ ?_;rotate_left;cbv)|(refine R0 ?_;cbv))
  all_goals first
   | exact⟨rfl,trivial⟩
   | (exfalso;simp at hi;clear k;lia)
   | trace_state
theorem cont0 (v:Int):Fn prog 62 [.nils,.int .i64 v] [] [.bool false] []:=by
 have h:=containsJ_fn Opq.id [] v (by simp)
 rw[Opq.id.h (inJ v),show inJ v []=false by simp [inJ],show Opq.id.o NumsJ []=[] by rw[Opq.id.h];rfl] at h
 exact h.wkA (.cons (.wk (.nil _ _)) (.cons (.refl _) .nil))
theorem cont1 (v:Int):Fn prog 62 [.sl true 2 false 1 [[.int .i64 3]],.int .i64 v] [] [.bool (decide (v=3))] []:=by
 have h:=containsT_fn Opq.id [3] v (by simp)
 rw[show inJ v [3]=decide (v=3) by simp [inJ],show Opq.id.o NumsJ [3]=[[.int .i64 3]] by rw[Opq.id.h];rfl] at h
 exact h.wkA (.cons (.bor rfl (.refl _)) (.cons (.refl _) .nil))
theorem cont2 (v:Int):Fn prog 62 [.sl true 2 false 1 [[.int .i64 3],[.int .i64 4]],.int .i64 v] [] [.bool (decide (v=3∨v=4))] []:=by
 have h:=containsT_fn Opq.id [3,4] v (by simp)
 rw[show inJ v [3,4]=decide (v=3∨v=4) by simp [inJ],show Opq.id.o NumsJ [3,4]=[[.int .i64 3],[.int .i64 4]] by rw[Opq.id.h];rfl] at h
 exact h.wkA (.cons (.bor rfl (.refl _)) (.cons (.refl _) .nil))
abbrev fText:Nat:=36
abbrev fItoa:Nat:=61
theorem txt_path0 (O:Opq)  {S P1 P2:ByteArray} (hP1:P1=⟨#[40]⟩++S) (hP2:P2=P1++⟨#[41]⟩) (hs:S.size≤100000000∧P1.size≤100000000)  :
  Fn prog 36 [.agg [.int .i64 1,.str S,.int .i64 0,.sl false 0 false 4 []],.nils] [] [.str S] []:=by
 have kc:=cont0 1
 skip
 refine go (fn:=Proofs.Tryz.f36) (n:=64) (rv:=[ResultVar.tmp 4]) rfl (by decide) rfl (by decide +kernel) rfl rfl (by simp) fun F L C=>?_
 cbv
 (repeat' first|(refine Named.atG P1 hP1 ?_;cbv)|(refine Named.atG P2 hP2 ?_;cbv)|(refine Na ?_ fun _ _=>?_;(focus lia);cbv)|(fail)|(refine CallThen.mk _ _ (C.fn (kc)) ?_;cbv)|(refine Nl fun _ _ hq=>?_;(try simp only [lenS] at hq);cbv)|(refine Nm fun _ _=>?_;cbv)|(refine Br.t ?_ ?_;(focus first|assumption|lia);cbv)|(refine Br.f ?_ ?_;(focus first|assumption|lia);cbv)|(refine Br.mk (fun _=>?_) (fun _=>?_)<;>cbv)|(refine Need.mk ?_ ?_;rotate_left;cbv)|(refine R0 ?_;cbv))
 all_goals first
  | exact⟨rfl,trivial⟩
  | exact trivial
  | (exfalso;clear kc hP1 hP2;lia)
  | (clear kc hP1 hP2;show ByteArray.size _+1≤2 ^ 62;omega)
  | (clear kc hP1 hP2;show 1+ByteArray.size _≤2 ^ 62;omega)
  | (clear kc hP1 hP2;omega)
  | (clear kc hP1 hP2;simp only [List.length_cons,List.length_nil];lia)
  | trace_state
theorem txt_path1 (O:Opq)  {S P1 P2:ByteArray} (hP1:P1=⟨#[40]⟩++S) (hP2:P2=P1++⟨#[41]⟩) (hs:S.size≤100000000∧P1.size≤100000000)  :
  Fn prog 36 [.agg [.int .i64 1,.str S,.int .i64 0,.sl false 0 false 4 []],.sl true 2 false 1 [[.int .i64 3]]] [] [.str S] []:=by
 have kc:=cont1 1
 rw[show decide ((1:Int)=3)=false by decide] at kc
 refine go (fn:=Proofs.Tryz.f36) (n:=64) (rv:=[ResultVar.tmp 4]) rfl (by decide) rfl (by decide +kernel) rfl rfl (by simp) fun F L C=>?_
 cbv
 (repeat' first|(refine Named.atG P1 hP1 ?_;cbv)|(refine Named.atG P2 hP2 ?_;cbv)|(refine Na ?_ fun _ _=>?_;(focus lia);cbv)|(fail)|(refine CallThen.mk _ _ (C.fn (kc)) ?_;cbv)|(refine Nl fun _ _ hq=>?_;(try simp only [lenS] at hq);cbv)|(refine Nm fun _ _=>?_;cbv)|(refine Br.t ?_ ?_;(focus first|assumption|lia);cbv)|(refine Br.f ?_ ?_;(focus first|assumption|lia);cbv)|(refine Br.mk (fun _=>?_) (fun _=>?_)<;>cbv)|(refine Need.mk ?_ ?_;rotate_left;cbv)|(refine R0 ?_;cbv))
 all_goals first
  | exact⟨rfl,trivial⟩
  | exact trivial
  | (exfalso;clear kc hP1 hP2;lia)
  | (clear kc hP1 hP2;show ByteArray.size _+1≤2 ^ 62;omega)
  | (clear kc hP1 hP2;show 1+ByteArray.size _≤2 ^ 62;omega)
  | (clear kc hP1 hP2;omega)
  | (clear kc hP1 hP2;simp only [List.length_cons,List.length_nil];lia)
  | trace_state
theorem txt_path2 (O:Opq)  {S P1 P2:ByteArray} (hP1:P1=⟨#[40]⟩++S) (hP2:P2=P1++⟨#[41]⟩) (hs:S.size≤100000000∧P1.size≤100000000)  :
  Fn prog 36 [.agg [.int .i64 1,.str S,.int .i64 0,.sl false 0 false 4 []],.sl true 2 false 1 [[.int .i64 3],[.int .i64 4]]] [] [.str S] []:=by
 have kc:=cont2 1
 rw[show decide ((1:Int)=3∨(1:Int)=4)=false by decide] at kc
 refine go (fn:=Proofs.Tryz.f36) (n:=64) (rv:=[ResultVar.tmp 4]) rfl (by decide) rfl (by decide +kernel) rfl rfl (by simp) fun F L C=>?_
 cbv
 (repeat' first|(refine Named.atG P1 hP1 ?_;cbv)|(refine Named.atG P2 hP2 ?_;cbv)|(refine Na ?_ fun _ _=>?_;(focus lia);cbv)|(fail)|(refine CallThen.mk _ _ (C.fn (kc)) ?_;cbv)|(refine Nl fun _ _ hq=>?_;(try simp only [lenS] at hq);cbv)|(refine Nm fun _ _=>?_;cbv)|(refine Br.t ?_ ?_;(focus first|assumption|lia);cbv)|(refine Br.f ?_ ?_;(focus first|assumption|lia);cbv)|(refine Br.mk (fun _=>?_) (fun _=>?_)<;>cbv)|(refine Need.mk ?_ ?_;rotate_left;cbv)|(refine R0 ?_;cbv))
 all_goals first
  | exact⟨rfl,trivial⟩
  | exact trivial
  | (exfalso;clear kc hP1 hP2;lia)
  | (clear kc hP1 hP2;show ByteArray.size _+1≤2 ^ 62;omega)
  | (clear kc hP1 hP2;show 1+ByteArray.size _≤2 ^ 62;omega)
  | (clear kc hP1 hP2;omega)
  | (clear kc hP1 hP2;simp only [List.length_cons,List.length_nil];lia)
  | trace_state
theorem txt_num0 (O:Opq) {n:Int} {S P1 P2:ByteArray} (hP1:P1=⟨#[40]⟩++S) (hP2:P2=P1++⟨#[41]⟩) (hs:S.size≤100000000∧P1.size≤100000000) (k1:Fn prog fItoa [.int .i64 n] [] [.str S] []) :
  Fn prog 36 [.agg [.int .i64 2,.str ByteArray.empty,.int .i64 n,.sl false 0 false 4 []],.nils] [] [.str S] []:=by
 have kc:=cont0 2
 skip
 refine go (fn:=Proofs.Tryz.f36) (n:=64) (rv:=[ResultVar.tmp 4]) rfl (by decide) rfl (by decide +kernel) rfl rfl (by simp) fun F L C=>?_
 cbv
 (repeat' first|(refine Named.atG P1 hP1 ?_;cbv)|(refine Named.atG P2 hP2 ?_;cbv)|(refine Na ?_ fun _ _=>?_;(focus lia);cbv)|(refine CallThen.mk _ _ (C.fn (k1)) ?_;cbv)|(refine CallThen.mk _ _ (C.fn (kc)) ?_;cbv)|(refine Nl fun _ _ hq=>?_;(try simp only [lenS] at hq);cbv)|(refine Nm fun _ _=>?_;cbv)|(refine Br.t ?_ ?_;(focus first|assumption|lia);cbv)|(refine Br.f ?_ ?_;(focus first|assumption|lia);cbv)|(refine Br.mk (fun _=>?_) (fun _=>?_)<;>cbv)|(refine Need.mk ?_ ?_;rotate_left;cbv)|(refine R0 ?_;cbv))
 all_goals first
  | exact⟨rfl,trivial⟩
  | exact trivial
  | (exfalso;clear kc hP1 hP2 k1;lia)
  | (clear kc hP1 hP2 k1;show ByteArray.size _+1≤2 ^ 62;omega)
  | (clear kc hP1 hP2 k1;show 1+ByteArray.size _≤2 ^ 62;omega)
  | (clear kc hP1 hP2 k1;omega)
  | (clear kc hP1 hP2 k1;simp only [List.length_cons,List.length_nil];lia)
  | trace_state
theorem txt_num1 (O:Opq) {n:Int} {S P1 P2:ByteArray} (hP1:P1=⟨#[40]⟩++S) (hP2:P2=P1++⟨#[41]⟩) (hs:S.size≤100000000∧P1.size≤100000000) (k1:Fn prog fItoa [.int .i64 n] [] [.str S] []) :
  Fn prog 36 [.agg [.int .i64 2,.str ByteArray.empty,.int .i64 n,.sl false 0 false 4 []],.sl true 2 false 1 [[.int .i64 3]]] [] [.str S] []:=by
 have kc:=cont1 2
 rw[show decide ((2:Int)=3)=false by decide] at kc
 refine go (fn:=Proofs.Tryz.f36) (n:=64) (rv:=[ResultVar.tmp 4]) rfl (by decide) rfl (by decide +kernel) rfl rfl (by simp) fun F L C=>?_
 cbv
 (repeat' first|(refine Named.atG P1 hP1 ?_;cbv)|(refine Named.atG P2 hP2 ?_;cbv)|(refine Na ?_ fun _ _=>?_;(focus lia);cbv)|(refine CallThen.mk _ _ (C.fn (k1)) ?_;cbv)|(refine CallThen.mk _ _ (C.fn (kc)) ?_;cbv)|(refine Nl fun _ _ hq=>?_;(try simp only [lenS] at hq);cbv)|(refine Nm fun _ _=>?_;cbv)|(refine Br.t ?_ ?_;(focus first|assumption|lia);cbv)|(refine Br.f ?_ ?_;(focus first|assumption|lia);cbv)|(refine Br.mk (fun _=>?_) (fun _=>?_)<;>cbv)|(refine Need.mk ?_ ?_;rotate_left;cbv)|(refine R0 ?_;cbv))
 all_goals first
  | exact⟨rfl,trivial⟩
  | exact trivial
  | (exfalso;clear kc hP1 hP2 k1;lia)
  | (clear kc hP1 hP2 k1;show ByteArray.size _+1≤2 ^ 62;omega)
  | (clear kc hP1 hP2 k1;show 1+ByteArray.size _≤2 ^ 62;omega)
  | (clear kc hP1 hP2 k1;omega)
  | (clear kc hP1 hP2 k1;simp only [List.length_cons,List.length_nil];lia)
  | trace_state
theorem txt_num2 (O:Opq) {n:Int} {S P1 P2:ByteArray} (hP1:P1=⟨#[40]⟩++S) (hP2:P2=P1++⟨#[41]⟩) (hs:S.size≤100000000∧P1.size≤100000000) (k1:Fn prog fItoa [.int .i64 n] [] [.str S] []) :
  Fn prog 36 [.agg [.int .i64 2,.str ByteArray.empty,.int .i64 n,.sl false 0 false 4 []],.sl true 2 false 1 [[.int .i64 3],[.int .i64 4]]] [] [.str S] []:=by
 have kc:=cont2 2
 rw[show decide ((2:Int)=3∨(2:Int)=4)=false by decide] at kc
 refine go (fn:=Proofs.Tryz.f36) (n:=64) (rv:=[ResultVar.tmp 4]) rfl (by decide) rfl (by decide +kernel) rfl rfl (by simp) fun F L C=>?_
 cbv
 (repeat' first|(refine Named.atG P1 hP1 ?_;cbv)|(refine Named.atG P2 hP2 ?_;cbv)|(refine Na ?_ fun _ _=>?_;(focus lia);cbv)|(refine CallThen.mk _ _ (C.fn (k1)) ?_;cbv)|(refine CallThen.mk _ _ (C.fn (kc)) ?_;cbv)|(refine Nl fun _ _ hq=>?_;(try simp only [lenS] at hq);cbv)|(refine Nm fun _ _=>?_;cbv)|(refine Br.t ?_ ?_;(focus first|assumption|lia);cbv)|(refine Br.f ?_ ?_;(focus first|assumption|lia);cbv)|(refine Br.mk (fun _=>?_) (fun _=>?_)<;>cbv)|(refine Need.mk ?_ ?_;rotate_left;cbv)|(refine R0 ?_;cbv))
 all_goals first
  | exact⟨rfl,trivial⟩
  | exact trivial
  | (exfalso;clear kc hP1 hP2 k1;lia)
  | (clear kc hP1 hP2 k1;show ByteArray.size _+1≤2 ^ 62;omega)
  | (clear kc hP1 hP2 k1;show 1+ByteArray.size _≤2 ^ 62;omega)
  | (clear kc hP1 hP2 k1;omega)
  | (clear kc hP1 hP2 k1;simp only [List.length_cons,List.length_nil];lia)
  | trace_state
theorem txt_sum0 (O:Opq) {a b:Nd} {X Y S1:ByteArray} {S P1 P2:ByteArray} (hP1:P1=⟨#[40]⟩++S) (hP2:P2=P1++⟨#[41]⟩) (hs:S.size≤100000000∧P1.size≤100000000) (h1:S1=X++⟨#[43]⟩) (h2:S=S1++Y) (hz:X.size≤100000000∧Y.size≤100000000∧S1.size≤100000000) (k1:Fn prog fText [.agg (a.en O),.nils] [] [.str X] []) (k2:Fn prog fText [.agg (b.en O),.sl true 2 false 1 [[.int .i64 3]]] [] [.str Y] []) :
  Fn prog 36 [.agg [.int .i64 3,.str ByteArray.empty,.int .i64 0,.sl false 0 false 4 [a.en O,b.en O]],.nils] [] [.str S] []:=by
 have kc:=cont0 3
 skip;obtain⟨a1,a2,a3,a4⟩:=a;obtain⟨b1,b2,b3,b4⟩:=b
 refine go (fn:=Proofs.Tryz.f36) (n:=64) (rv:=[ResultVar.tmp 4]) rfl (by decide) rfl (by decide +kernel) rfl rfl (by simp) fun F L C=>?_
 cbv
 (repeat' first|(refine Named.atG S1 h1 ?_;cbv)|(refine Named.atG S h2 ?_;cbv)|(refine Named.atG P1 hP1 ?_;cbv)|(refine Named.atG P2 hP2 ?_;cbv)|(refine Na ?_ fun _ _=>?_;(focus lia);cbv)|(refine Ex.mk _ ⟨by decide,rfl⟩ ?_;cbv)|(refine CallThen.mk _ _ (C.fn (k1)) ?_;cbv)|(refine CallThen.mk _ _ (C.fn (k2)) ?_;cbv)|(refine CallThen.mk _ _ (C.fn (kc)) ?_;cbv)|(refine Nl fun _ _ hq=>?_;(try simp only [lenS] at hq);cbv)|(refine Nm fun _ _=>?_;cbv)|(refine Br.t ?_ ?_;(focus first|assumption|lia);cbv)|(refine Br.f ?_ ?_;(focus first|assumption|lia);cbv)|(refine Br.mk (fun _=>?_) (fun _=>?_)<;>cbv)|(refine Need.mk ?_ ?_;rotate_left;cbv)|(refine R0 ?_;cbv))
 all_goals first
  | exact⟨rfl,trivial⟩
  | exact trivial
  | (exfalso;clear kc hP1 hP2 h1 h2 k1 k2;lia)
  | (clear kc hP1 hP2 h1 h2 k1 k2;show ByteArray.size _+1≤2 ^ 62;omega)
  | (clear kc hP1 hP2 h1 h2 k1 k2;show 1+ByteArray.size _≤2 ^ 62;omega)
  | (clear kc hP1 hP2 h1 h2 k1 k2;omega)
  | (clear kc hP1 hP2 h1 h2 k1 k2;simp only [List.length_cons,List.length_nil];lia)
  | trace_state
theorem txt_sum1 (O:Opq) {a b:Nd} {X Y S1:ByteArray} {S P1 P2:ByteArray} (hP1:P1=⟨#[40]⟩++S) (hP2:P2=P1++⟨#[41]⟩) (hs:S.size≤100000000∧P1.size≤100000000) (h1:S1=X++⟨#[43]⟩) (h2:S=S1++Y) (hz:X.size≤100000000∧Y.size≤100000000∧S1.size≤100000000) (k1:Fn prog fText [.agg (a.en O),.nils] [] [.str X] []) (k2:Fn prog fText [.agg (b.en O),.sl true 2 false 1 [[.int .i64 3]]] [] [.str Y] []) :
  Fn prog 36 [.agg [.int .i64 3,.str ByteArray.empty,.int .i64 0,.sl false 0 false 4 [a.en O,b.en O]],.sl true 2 false 1 [[.int .i64 3]]] [] [.str P2] []:=by
 have kc:=cont1 3
 rw[show decide ((3:Int)=3)=true by decide] at kc;obtain⟨a1,a2,a3,a4⟩:=a;obtain⟨b1,b2,b3,b4⟩:=b
 refine go (fn:=Proofs.Tryz.f36) (n:=64) (rv:=[ResultVar.tmp 4]) rfl (by decide) rfl (by decide +kernel) rfl rfl (by simp) fun F L C=>?_
 cbv
 (repeat' first|(refine Named.atG S1 h1 ?_;cbv)|(refine Named.atG S h2 ?_;cbv)|(refine Named.atG P1 hP1 ?_;cbv)|(refine Named.atG P2 hP2 ?_;cbv)|(refine Na ?_ fun _ _=>?_;(focus lia);cbv)|(refine Ex.mk _ ⟨by decide,rfl⟩ ?_;cbv)|(refine CallThen.mk _ _ (C.fn (k1)) ?_;cbv)|(refine CallThen.mk _ _ (C.fn (k2)) ?_;cbv)|(refine CallThen.mk _ _ (C.fn (kc)) ?_;cbv)|(refine Nl fun _ _ hq=>?_;(try simp only [lenS] at hq);cbv)|(refine Nm fun _ _=>?_;cbv)|(refine Br.t ?_ ?_;(focus first|assumption|lia);cbv)|(refine Br.f ?_ ?_;(focus first|assumption|lia);cbv)|(refine Br.mk (fun _=>?_) (fun _=>?_)<;>cbv)|(refine Need.mk ?_ ?_;rotate_left;cbv)|(refine R0 ?_;cbv))
 all_goals first
  | exact⟨rfl,trivial⟩
  | exact trivial
  | (exfalso;clear kc hP1 hP2 h1 h2 k1 k2;lia)
  | (clear kc hP1 hP2 h1 h2 k1 k2;show ByteArray.size _+1≤2 ^ 62;omega)
  | (clear kc hP1 hP2 h1 h2 k1 k2;show 1+ByteArray.size _≤2 ^ 62;omega)
  | (clear kc hP1 hP2 h1 h2 k1 k2;omega)
  | (clear kc hP1 hP2 h1 h2 k1 k2;simp only [List.length_cons,List.length_nil];lia)
  | trace_state
theorem txt_sum2 (O:Opq) {a b:Nd} {X Y S1:ByteArray} {S P1 P2:ByteArray} (hP1:P1=⟨#[40]⟩++S) (hP2:P2=P1++⟨#[41]⟩) (hs:S.size≤100000000∧P1.size≤100000000) (h1:S1=X++⟨#[43]⟩) (h2:S=S1++Y) (hz:X.size≤100000000∧Y.size≤100000000∧S1.size≤100000000) (k1:Fn prog fText [.agg (a.en O),.nils] [] [.str X] []) (k2:Fn prog fText [.agg (b.en O),.sl true 2 false 1 [[.int .i64 3]]] [] [.str Y] []) :
  Fn prog 36 [.agg [.int .i64 3,.str ByteArray.empty,.int .i64 0,.sl false 0 false 4 [a.en O,b.en O]],.sl true 2 false 1 [[.int .i64 3],[.int .i64 4]]] [] [.str P2] []:=by
 have kc:=cont2 3
 rw[show decide ((3:Int)=3∨(3:Int)=4)=true by decide] at kc;obtain⟨a1,a2,a3,a4⟩:=a;obtain⟨b1,b2,b3,b4⟩:=b
 refine go (fn:=Proofs.Tryz.f36) (n:=64) (rv:=[ResultVar.tmp 4]) rfl (by decide) rfl (by decide +kernel) rfl rfl (by simp) fun F L C=>?_
 cbv
 (repeat' first|(refine Named.atG S1 h1 ?_;cbv)|(refine Named.atG S h2 ?_;cbv)|(refine Named.atG P1 hP1 ?_;cbv)|(refine Named.atG P2 hP2 ?_;cbv)|(refine Na ?_ fun _ _=>?_;(focus lia);cbv)|(refine Ex.mk _ ⟨by decide,rfl⟩ ?_;cbv)|(refine CallThen.mk _ _ (C.fn (k1)) ?_;cbv)|(refine CallThen.mk _ _ (C.fn (k2)) ?_;cbv)|(refine CallThen.mk _ _ (C.fn (kc)) ?_;cbv)|(refine Nl fun _ _ hq=>?_;(try simp only [lenS] at hq);cbv)|(refine Nm fun _ _=>?_;cbv)|(refine Br.t ?_ ?_;(focus first|assumption|lia);cbv)|(refine Br.f ?_ ?_;(focus first|assumption|lia);cbv)|(refine Br.mk (fun _=>?_) (fun _=>?_)<;>cbv)|(refine Need.mk ?_ ?_;rotate_left;cbv)|(refine R0 ?_;cbv))
 all_goals first
  | exact⟨rfl,trivial⟩
  | exact trivial
  | (exfalso;clear kc hP1 hP2 h1 h2 k1 k2;lia)
  | (clear kc hP1 hP2 h1 h2 k1 k2;show ByteArray.size _+1≤2 ^ 62;omega)
  | (clear kc hP1 hP2 h1 h2 k1 k2;show 1+ByteArray.size _≤2 ^ 62;omega)
  | (clear kc hP1 hP2 h1 h2 k1 k2;omega)
  | (clear kc hP1 hP2 h1 h2 k1 k2;simp only [List.length_cons,List.length_nil];lia)
  | trace_state
theorem txt_mul0 (O:Opq) {a b:Nd} {X Y S1:ByteArray} {S P1 P2:ByteArray} (hP1:P1=⟨#[40]⟩++S) (hP2:P2=P1++⟨#[41]⟩) (hs:S.size≤100000000∧P1.size≤100000000) (h1:S1=X++⟨#[42]⟩) (h2:S=S1++Y) (hz:X.size≤100000000∧Y.size≤100000000∧S1.size≤100000000) (k1:Fn prog fText [.agg (a.en O),.sl true 2 false 1 [[.int .i64 3]]] [] [.str X] []) (k2:Fn prog fText [.agg (b.en O),.sl true 2 false 1 [[.int .i64 3],[.int .i64 4]]] [] [.str Y] []) :
  Fn prog 36 [.agg [.int .i64 4,.str ByteArray.empty,.int .i64 0,.sl false 0 false 4 [a.en O,b.en O]],.nils] [] [.str S] []:=by
 have kc:=cont0 4
 skip;obtain⟨a1,a2,a3,a4⟩:=a;obtain⟨b1,b2,b3,b4⟩:=b
 refine go (fn:=Proofs.Tryz.f36) (n:=64) (rv:=[ResultVar.tmp 4]) rfl (by decide) rfl (by decide +kernel) rfl rfl (by simp) fun F L C=>?_
 cbv
 (repeat' first|(refine Named.atG S1 h1 ?_;cbv)|(refine Named.atG S h2 ?_;cbv)|(refine Named.atG P1 hP1 ?_;cbv)|(refine Named.atG P2 hP2 ?_;cbv)|(refine Na ?_ fun _ _=>?_;(focus lia);cbv)|(refine Ex.mk _ ⟨by decide,rfl⟩ ?_;cbv)|(refine CallThen.mk _ _ (C.fn (k1)) ?_;cbv)|(refine CallThen.mk _ _ (C.fn (k2)) ?_;cbv)|(refine CallThen.mk _ _ (C.fn (kc)) ?_;cbv)|(refine Nl fun _ _ hq=>?_;(try simp only [lenS] at hq);cbv)|(refine Nm fun _ _=>?_;cbv)|(refine Br.t ?_ ?_;(focus first|assumption|lia);cbv)|(refine Br.f ?_ ?_;(focus first|assumption|lia);cbv)|(refine Br.mk (fun _=>?_) (fun _=>?_)<;>cbv)|(refine Need.mk ?_ ?_;rotate_left;cbv)|(refine R0 ?_;cbv))
 all_goals first
  | exact⟨rfl,trivial⟩
  | exact trivial
  | (exfalso;clear kc hP1 hP2 h1 h2 k1 k2;lia)
  | (clear kc hP1 hP2 h1 h2 k1 k2;show ByteArray.size _+1≤2 ^ 62;omega)
  | (clear kc hP1 hP2 h1 h2 k1 k2;show 1+ByteArray.size _≤2 ^ 62;omega)
  | (clear kc hP1 hP2 h1 h2 k1 k2;omega)
  | (clear kc hP1 hP2 h1 h2 k1 k2;simp only [List.length_cons,List.length_nil];lia)
  | trace_state
theorem txt_mul1 (O:Opq) {a b:Nd} {X Y S1:ByteArray} {S P1 P2:ByteArray} (hP1:P1=⟨#[40]⟩++S) (hP2:P2=P1++⟨#[41]⟩) (hs:S.size≤100000000∧P1.size≤100000000) (h1:S1=X++⟨#[42]⟩) (h2:S=S1++Y) (hz:X.size≤100000000∧Y.size≤100000000∧S1.size≤100000000) (k1:Fn prog fText [.agg (a.en O),.sl true 2 false 1 [[.int .i64 3]]] [] [.str X] []) (k2:Fn prog fText [.agg (b.en O),.sl true 2 false 1 [[.int .i64 3],[.int .i64 4]]] [] [.str Y] []) :
  Fn prog 36 [.agg [.int .i64 4,.str ByteArray.empty,.int .i64 0,.sl false 0 false 4 [a.en O,b.en O]],.sl true 2 false 1 [[.int .i64 3]]] [] [.str S] []:=by
 have kc:=cont1 4
 rw[show decide ((4:Int)=3)=false by decide] at kc;obtain⟨a1,a2,a3,a4⟩:=a;obtain⟨b1,b2,b3,b4⟩:=b
 refine go (fn:=Proofs.Tryz.f36) (n:=64) (rv:=[ResultVar.tmp 4]) rfl (by decide) rfl (by decide +kernel) rfl rfl (by simp) fun F L C=>?_
 cbv
 (repeat' first|(refine Named.atG S1 h1 ?_;cbv)|(refine Named.atG S h2 ?_;cbv)|(refine Named.atG P1 hP1 ?_;cbv)|(refine Named.atG P2 hP2 ?_;cbv)|(refine Na ?_ fun _ _=>?_;(focus lia);cbv)|(refine Ex.mk _ ⟨by decide,rfl⟩ ?_;cbv)|(refine CallThen.mk _ _ (C.fn (k1)) ?_;cbv)|(refine CallThen.mk _ _ (C.fn (k2)) ?_;cbv)|(refine CallThen.mk _ _ (C.fn (kc)) ?_;cbv)|(refine Nl fun _ _ hq=>?_;(try simp only [lenS] at hq);cbv)|(refine Nm fun _ _=>?_;cbv)|(refine Br.t ?_ ?_;(focus first|assumption|lia);cbv)|(refine Br.f ?_ ?_;(focus first|assumption|lia);cbv)|(refine Br.mk (fun _=>?_) (fun _=>?_)<;>cbv)|(refine Need.mk ?_ ?_;rotate_left;cbv)|(refine R0 ?_;cbv))
 all_goals first
  | exact⟨rfl,trivial⟩
  | exact trivial
  | (exfalso;clear kc hP1 hP2 h1 h2 k1 k2;lia)
  | (clear kc hP1 hP2 h1 h2 k1 k2;show ByteArray.size _+1≤2 ^ 62;omega)
  | (clear kc hP1 hP2 h1 h2 k1 k2;show 1+ByteArray.size _≤2 ^ 62;omega)
  | (clear kc hP1 hP2 h1 h2 k1 k2;omega)
  | (clear kc hP1 hP2 h1 h2 k1 k2;simp only [List.length_cons,List.length_nil];lia)
  | trace_state
theorem txt_mul2 (O:Opq) {a b:Nd} {X Y S1:ByteArray} {S P1 P2:ByteArray} (hP1:P1=⟨#[40]⟩++S) (hP2:P2=P1++⟨#[41]⟩) (hs:S.size≤100000000∧P1.size≤100000000) (h1:S1=X++⟨#[42]⟩) (h2:S=S1++Y) (hz:X.size≤100000000∧Y.size≤100000000∧S1.size≤100000000) (k1:Fn prog fText [.agg (a.en O),.sl true 2 false 1 [[.int .i64 3]]] [] [.str X] []) (k2:Fn prog fText [.agg (b.en O),.sl true 2 false 1 [[.int .i64 3],[.int .i64 4]]] [] [.str Y] []) :
  Fn prog 36 [.agg [.int .i64 4,.str ByteArray.empty,.int .i64 0,.sl false 0 false 4 [a.en O,b.en O]],.sl true 2 false 1 [[.int .i64 3],[.int .i64 4]]] [] [.str P2] []:=by
 have kc:=cont2 4
 rw[show decide ((4:Int)=3∨(4:Int)=4)=true by decide] at kc;obtain⟨a1,a2,a3,a4⟩:=a;obtain⟨b1,b2,b3,b4⟩:=b
 refine go (fn:=Proofs.Tryz.f36) (n:=64) (rv:=[ResultVar.tmp 4]) rfl (by decide) rfl (by decide +kernel) rfl rfl (by simp) fun F L C=>?_
 cbv
 (repeat' first|(refine Named.atG S1 h1 ?_;cbv)|(refine Named.atG S h2 ?_;cbv)|(refine Named.atG P1 hP1 ?_;cbv)|(refine Named.atG P2 hP2 ?_;cbv)|(refine Na ?_ fun _ _=>?_;(focus lia);cbv)|(refine Ex.mk _ ⟨by decide,rfl⟩ ?_;cbv)|(refine CallThen.mk _ _ (C.fn (k1)) ?_;cbv)|(refine CallThen.mk _ _ (C.fn (k2)) ?_;cbv)|(refine CallThen.mk _ _ (C.fn (kc)) ?_;cbv)|(refine Nl fun _ _ hq=>?_;(try simp only [lenS] at hq);cbv)|(refine Nm fun _ _=>?_;cbv)|(refine Br.t ?_ ?_;(focus first|assumption|lia);cbv)|(refine Br.f ?_ ?_;(focus first|assumption|lia);cbv)|(refine Br.mk (fun _=>?_) (fun _=>?_)<;>cbv)|(refine Need.mk ?_ ?_;rotate_left;cbv)|(refine R0 ?_;cbv))
 all_goals first
  | exact⟨rfl,trivial⟩
  | exact trivial
  | (exfalso;clear kc hP1 hP2 h1 h2 k1 k2;lia)
  | (clear kc hP1 hP2 h1 h2 k1 k2;show ByteArray.size _+1≤2 ^ 62;omega)
  | (clear kc hP1 hP2 h1 h2 k1 k2;show 1+ByteArray.size _≤2 ^ 62;omega)
  | (clear kc hP1 hP2 h1 h2 k1 k2;omega)
  | (clear kc hP1 hP2 h1 h2 k1 k2;simp only [List.length_cons,List.length_nil];lia)
  | trace_state
theorem txt_call0 (O:Opq) {a:Nd} {T X S1 S2:ByteArray} {S P1 P2:ByteArray} (hP1:P1=⟨#[40]⟩++S) (hP2:P2=P1++⟨#[41]⟩) (hs:S.size≤100000000∧P1.size≤100000000) (h1:S1=T++⟨#[40]⟩) (h2:S2=S1++X) (h3:S=S2++⟨#[41]⟩) (hz:T.size≤100000000∧X.size≤100000000∧S1.size≤100000000∧S2.size≤100000000) (k1:Fn prog fText [.agg (a.en O),.nils] [] [.str X] []) :
  Fn prog 36 [.agg [.int .i64 5,.str T,.int .i64 0,.sl false 0 false 4 [a.en O]],.nils] [] [.str S] []:=by
 have kc:=cont0 5
 skip;obtain⟨a1,a2,a3,a4⟩:=a
 refine go (fn:=Proofs.Tryz.f36) (n:=64) (rv:=[ResultVar.tmp 4]) rfl (by decide) rfl (by decide +kernel) rfl rfl (by simp) fun F L C=>?_
 cbv
 (repeat' first|(refine Named.atG S1 h1 ?_;cbv)|(refine Named.atG S2 h2 ?_;cbv)|(refine Named.atG S h3 ?_;cbv)|(refine Named.atG P1 hP1 ?_;cbv)|(refine Named.atG P2 hP2 ?_;cbv)|(refine Na ?_ fun _ _=>?_;(focus lia);cbv)|(refine Ex.mk _ ⟨by decide,rfl⟩ ?_;cbv)|(refine CallThen.mk _ _ (C.fn (k1)) ?_;cbv)|(refine CallThen.mk _ _ (C.fn (kc)) ?_;cbv)|(refine Nl fun _ _ hq=>?_;(try simp only [lenS] at hq);cbv)|(refine Nm fun _ _=>?_;cbv)|(refine Br.t ?_ ?_;(focus first|assumption|lia);cbv)|(refine Br.f ?_ ?_;(focus first|assumption|lia);cbv)|(refine Br.mk (fun _=>?_) (fun _=>?_)<;>cbv)|(refine Need.mk ?_ ?_;rotate_left;cbv)|(refine R0 ?_;cbv))
 all_goals first
  | exact⟨rfl,trivial⟩
  | exact trivial
  | (exfalso;clear kc hP1 hP2 h1 h2 h3 k1;lia)
  | (clear kc hP1 hP2 h1 h2 h3 k1;show ByteArray.size _+1≤2 ^ 62;omega)
  | (clear kc hP1 hP2 h1 h2 h3 k1;show 1+ByteArray.size _≤2 ^ 62;omega)
  | (clear kc hP1 hP2 h1 h2 h3 k1;omega)
  | (clear kc hP1 hP2 h1 h2 h3 k1;simp only [List.length_cons,List.length_nil];lia)
  | trace_state
theorem txt_call1 (O:Opq) {a:Nd} {T X S1 S2:ByteArray} {S P1 P2:ByteArray} (hP1:P1=⟨#[40]⟩++S) (hP2:P2=P1++⟨#[41]⟩) (hs:S.size≤100000000∧P1.size≤100000000) (h1:S1=T++⟨#[40]⟩) (h2:S2=S1++X) (h3:S=S2++⟨#[41]⟩) (hz:T.size≤100000000∧X.size≤100000000∧S1.size≤100000000∧S2.size≤100000000) (k1:Fn prog fText [.agg (a.en O),.nils] [] [.str X] []) :
  Fn prog 36 [.agg [.int .i64 5,.str T,.int .i64 0,.sl false 0 false 4 [a.en O]],.sl true 2 false 1 [[.int .i64 3]]] [] [.str S] []:=by
 have kc:=cont1 5
 rw[show decide ((5:Int)=3)=false by decide] at kc;obtain⟨a1,a2,a3,a4⟩:=a
 refine go (fn:=Proofs.Tryz.f36) (n:=64) (rv:=[ResultVar.tmp 4]) rfl (by decide) rfl (by decide +kernel) rfl rfl (by simp) fun F L C=>?_
 cbv
 (repeat' first|(refine Named.atG S1 h1 ?_;cbv)|(refine Named.atG S2 h2 ?_;cbv)|(refine Named.atG S h3 ?_;cbv)|(refine Named.atG P1 hP1 ?_;cbv)|(refine Named.atG P2 hP2 ?_;cbv)|(refine Na ?_ fun _ _=>?_;(focus lia);cbv)|(refine Ex.mk _ ⟨by decide,rfl⟩ ?_;cbv)|(refine CallThen.mk _ _ (C.fn (k1)) ?_;cbv)|(refine CallThen.mk _ _ (C.fn (kc)) ?_;cbv)|(refine Nl fun _ _ hq=>?_;(try simp only [lenS] at hq);cbv)|(refine Nm fun _ _=>?_;cbv)|(refine Br.t ?_ ?_;(focus first|assumption|lia);cbv)|(refine Br.f ?_ ?_;(focus first|assumption|lia);cbv)|(refine Br.mk (fun _=>?_) (fun _=>?_)<;>cbv)|(refine Need.mk ?_ ?_;rotate_left;cbv)|(refine R0 ?_;cbv))
 all_goals first
  | exact⟨rfl,trivial⟩
  | exact trivial
  | (exfalso;clear kc hP1 hP2 h1 h2 h3 k1;lia)
  | (clear kc hP1 hP2 h1 h2 h3 k1;show ByteArray.size _+1≤2 ^ 62;omega)
  | (clear kc hP1 hP2 h1 h2 h3 k1;show 1+ByteArray.size _≤2 ^ 62;omega)
  | (clear kc hP1 hP2 h1 h2 h3 k1;omega)
  | (clear kc hP1 hP2 h1 h2 h3 k1;simp only [List.length_cons,List.length_nil];lia)
  | trace_state
theorem txt_call2 (O:Opq) {a:Nd} {T X S1 S2:ByteArray} {S P1 P2:ByteArray} (hP1:P1=⟨#[40]⟩++S) (hP2:P2=P1++⟨#[41]⟩) (hs:S.size≤100000000∧P1.size≤100000000) (h1:S1=T++⟨#[40]⟩) (h2:S2=S1++X) (h3:S=S2++⟨#[41]⟩) (hz:T.size≤100000000∧X.size≤100000000∧S1.size≤100000000∧S2.size≤100000000) (k1:Fn prog fText [.agg (a.en O),.nils] [] [.str X] []) :
  Fn prog 36 [.agg [.int .i64 5,.str T,.int .i64 0,.sl false 0 false 4 [a.en O]],.sl true 2 false 1 [[.int .i64 3],[.int .i64 4]]] [] [.str S] []:=by
 have kc:=cont2 5
 rw[show decide ((5:Int)=3∨(5:Int)=4)=false by decide] at kc;obtain⟨a1,a2,a3,a4⟩:=a
 refine go (fn:=Proofs.Tryz.f36) (n:=64) (rv:=[ResultVar.tmp 4]) rfl (by decide) rfl (by decide +kernel) rfl rfl (by simp) fun F L C=>?_
 cbv
 (repeat' first|(refine Named.atG S1 h1 ?_;cbv)|(refine Named.atG S2 h2 ?_;cbv)|(refine Named.atG S h3 ?_;cbv)|(refine Named.atG P1 hP1 ?_;cbv)|(refine Named.atG P2 hP2 ?_;cbv)|(refine Na ?_ fun _ _=>?_;(focus lia);cbv)|(refine Ex.mk _ ⟨by decide,rfl⟩ ?_;cbv)|(refine CallThen.mk _ _ (C.fn (k1)) ?_;cbv)|(refine CallThen.mk _ _ (C.fn (kc)) ?_;cbv)|(refine Nl fun _ _ hq=>?_;(try simp only [lenS] at hq);cbv)|(refine Nm fun _ _=>?_;cbv)|(refine Br.t ?_ ?_;(focus first|assumption|lia);cbv)|(refine Br.f ?_ ?_;(focus first|assumption|lia);cbv)|(refine Br.mk (fun _=>?_) (fun _=>?_)<;>cbv)|(refine Need.mk ?_ ?_;rotate_left;cbv)|(refine R0 ?_;cbv))
 all_goals first
  | exact⟨rfl,trivial⟩
  | exact trivial
  | (exfalso;clear kc hP1 hP2 h1 h2 h3 k1;lia)
  | (clear kc hP1 hP2 h1 h2 h3 k1;show ByteArray.size _+1≤2 ^ 62;omega)
  | (clear kc hP1 hP2 h1 h2 h3 k1;show 1+ByteArray.size _≤2 ^ 62;omega)
  | (clear kc hP1 hP2 h1 h2 h3 k1;omega)
  | (clear kc hP1 hP2 h1 h2 h3 k1;simp only [List.length_cons,List.length_nil];lia)
  | trace_state
theorem ofL_app (a b:List UInt8):ofL (a++b)=ofL a++ofL b:=by
 apply ByteArray.ext
 simp [ofL,ByteArray.data_append]
theorem inPar_len (b:Prop) [Decidable b] (s:List UInt8):(inPar b s).length≤s.length+2:=by
 unfold inPar;split<;>simp
theorem inPar_yes {b:Prop} [Decidable b] {s:List UInt8} (h:b):inPar b s=40::(s++[41]):=by rw[inPar,if_pos h]
theorem inPar_no {b:Prop} [Decidable b] {s:List UInt8} (h:¬ b):inPar b s=s:=by rw[inPar,if_neg h]
theorem deep_args {k:Nat} {kk:Int} {t:List UInt8} {n:Int} {l:List Nd} (h:deepB (k+1) (.mk kk t n l)=false):∀ a∈l,deepB k a=false:=by
 rw[deepB] at h
 intro a ha
 have:=List.any_eq_false.1 h a ha
 simpa using this
theorem num_small {n:Nat} (h:leafL (digN n)=some (.num n)):n<1000000000000000:=by
 unfold leafL at h
 split at h
 ·split at h
  ·rename_i k q
   have h1:=natOf_lt k
   rw[natOf_digN] at h1
   have:(10:Nat) ^ (digN n).length≤10 ^ 15:=Nat.pow_le_pow_right (by decide) q.2.1
   omega
  ·cases h
 ·split at h<;>cases h
theorem num_len {n:Nat} (h:leafL (digN n)=some (.num n)):(digN n).length≤15:=by
 unfold leafL at h
 split at h
 ·split at h
  ·rename_i k q;exact q.2.1
  ·cases h
 ·split at h<;>cases h
theorem str_len {e:Xp} (he:e.Ok lexE):∀ k,deepB k e.nd=false→e.str.length+2≤100 * 4 ^ k:=by
 induction he with
 | @path w h =>
  intro k hk
  cases k with
  | zero=>simp [deepB] at hk
  | succ k =>
   have hw:w.length≤64:=by
    have h:leafL w=some (.path w):=h
    unfold leafL at h
    split at h
    ·split at h<;>cases h
    ·split at h
     ·rename_i q
      simp only [pathL,Bool.and_eq_true,decide_eq_true_eq] at q
      exact q.2
     ·cases h
   have:0<4 ^ k:=Nat.pow_pos (by decide)
   show w.length+2≤_
   rw[Nat.pow_succ];omega
 | @num n h =>
  intro k hk
  cases k with
  | zero=>simp [deepB] at hk
  | succ k =>
   have hn:=num_len h
   have:0<4 ^ k:=Nat.pow_pos (by decide)
   show(digN n).length+2≤_
   rw[Nat.pow_succ];omega
 | @sum a b _ _ ih jh =>
  intro k hk
  cases k with
  | zero=>simp [deepB] at hk
  | succ k =>
   have h:=deep_args hk
   have h1:=ih k (h _ (by simp))
   have h2:=jh k (h _ (by simp))
   have h3:=inPar_len (b.lvl=2) b.str
   have:0<4 ^ k:=Nat.pow_pos (by decide)
   show(a.str++43::inPar (b.lvl=2) b.str).length+2≤_
   rw[List.length_append,List.length_cons,Nat.pow_succ]
   omega
 | @mul a b _ _ ih jh =>
  intro k hk
  cases k with
  | zero=>simp [deepB] at hk
  | succ k =>
   have h:=deep_args hk
   have h1:=ih k (h _ (by simp))
   have h2:=jh k (h _ (by simp))
   have h3:=inPar_len (1≤b.lvl) b.str
   have h4:=inPar_len (a.lvl=2) a.str
   have:0<4 ^ k:=Nat.pow_pos (by decide)
   show(inPar (a.lvl=2) a.str++42::inPar (1≤b.lvl) b.str).length+2≤_
   rw[List.length_append,List.length_cons,Nat.pow_succ]
   omega
 | @call w a h _ ih =>
  intro k hk
  cases k with
  | zero=>simp [deepB] at hk
  | succ k =>
   have h1:=ih k (deep_args hk _ (by simp))
   have hw:w.length≤4:=by
    have h:nameL w=true:=h
    rcases name_cases h with rfl|rfl|rfl|rfl|rfl<;>decide
   have:0<4 ^ k:=Nat.pow_pos (by decide)
   show(w++40::(a.str++[41])).length+2≤_
   rw[List.length_append,List.length_cons,List.length_append,Nat.pow_succ]
   simp only [List.length_cons,List.length_nil]
   omega
def w1:PV:=.sl true 2 false 1 [[.int .i64 3]]
def w2:PV:=.sl true 2 false 1 [[.int .i64 3],[.int .i64 4]]
def TextAs (O:Opq) (e:Xp):Prop :=
 Fn prog 36 [.agg (e.nd.en O),.nils] [] [.str (ofL e.str)] []∧Fn prog 36 [.agg (e.nd.en O),w1] [] [.str (ofL (inPar (e.lvl=2) e.str))] []∧Fn prog 36 [.agg (e.nd.en O),w2] [] [.str (ofL (inPar (1≤e.lvl) e.str))] []
theorem par1 (s:List UInt8):ofL (40::s)=(⟨#[40]⟩:ByteArray)++ofL s:=ofL_app [40] s
theorem par2 (s:List UInt8):ofL (40::(s++[41]))=ofL (40::s)++(⟨#[41]⟩:ByteArray):=ofL_app (40::s) [41]
theorem par_sz {s:List UInt8} (h:s.length≤10000000):(ofL s).size≤100000000∧(ofL (40::s)).size≤100000000:=by rw[size_ofL,size_ofL,List.length_cons];omega
theorem etext_all (O:Opq) {e:Xp} (he:e.Ok lexE):∀ k,k≤8→deepB k e.nd=false→TextAs O e:=by
 have big:∀ {e:Xp} {k},e.Ok lexE→k≤8→deepB k e.nd=false→e.str.length+2≤6553600:=fun {e k} he hk hd=>by
  have h1:=str_len he k hd
  have h2:4 ^ k≤4 ^ 8:=Nat.pow_le_pow_right (by decide) hk
  omega
 have e0:O.o ofL []=ByteArray.empty:=by rw[O.h];rfl
 induction he with
 | @path w h =>
  intro k hk hd
  have hb:=big (.path h) hk hd
  have hs:=par_sz (s:=w) (by have hb:w.length+2≤6553600:=hb;omega)
  have ea:Nd.en O (Xp.path w).nd=[.int .i64 1,.str (ofL w),.int .i64 0,.sl false 0 false 4 []]:=by
   show[PV.int .i64 1,.str (O.o ofL w),.int .i64 0,.sl false 0 false 4 (O.o Nds.enc [])]=_
   rw[O.h,Nds.nil O]
  refine⟨?_,?_,?_⟩
  ·rw[ea];exact txt_path0 O (par1 w) rfl hs
  ·rw[ea];exact txt_path1 O (par1 w) rfl hs
  ·rw[ea];exact txt_path2 O (par1 w) rfl hs
 | @num n h =>
  intro k hk hd
  have hb:=big (.num h) hk hd
  have hs:=par_sz (s:=digN n) (by have hb:(digN n).length+2≤6553600:=hb;omega)
  have hn:=num_small h
  have k1:=itoa_fn n (by omega)
  have ea:Nd.en O (Xp.num n).nd=[.int .i64 2,.str ByteArray.empty,.int .i64 n,.sl false 0 false 4 []]:=by
   show[PV.int .i64 2,.str (O.o ofL []),.int .i64 n,.sl false 0 false 4 (O.o Nds.enc [])]=_
   rw[e0,Nds.nil O]
  refine⟨?_,?_,?_⟩
  ·rw[ea];exact txt_num0 O (par1 _) rfl hs k1
  ·rw[ea];exact txt_num1 O (par1 _) rfl hs k1
  ·rw[ea];exact txt_num2 O (par1 _) rfl hs k1
 | @sum a b ha hb' ih jh =>
  intro k hk hd
  have hb:=big (.sum ha hb') hk hd
  cases k with
  | zero=>simp [deepB] at hd
  | succ k =>
   have hda:=deep_args hd a.nd (by simp)
   have hdb:=deep_args hd b.nd (by simp)
   obtain⟨a0,a1,a2⟩:=ih k (by omega) hda
   obtain⟨b0,b1,b2⟩:=jh k (by omega) hdb
   have hA:=big ha (by omega) hda
   have hB:=big hb' (by omega) hdb
   have hB2:=inPar_len (b.lvl=2) b.str
   have hs:=par_sz (s:=Xp.str (.sum a b)) (by omega)
   have h1:ofL (a.str++[43])=ofL a.str++(⟨#[43]⟩:ByteArray):=ofL_app a.str [43]
   have h2:ofL (Xp.str (.sum a b))=ofL (a.str++[43])++ofL (inPar (b.lvl=2) b.str):=by
    rw[← ofL_app];congr 1
    show a.str++43::inPar (b.lvl=2) b.str=_
    simp
   have hz:(ofL a.str).size≤100000000∧(ofL (inPar (b.lvl=2) b.str)).size≤100000000∧(ofL (a.str++[43])).size≤100000000:=by
    rw[size_ofL,size_ofL,size_ofL,List.length_append];simp only [List.length_cons,List.length_nil];omega
   have ea:Nd.en O (Xp.sum a b).nd=[.int .i64 3,.str ByteArray.empty,.int .i64 0,.sl false 0 false 4 [a.nd.en O,b.nd.en O]]:=by
    show[PV.int .i64 3,.str (O.o ofL []),.int .i64 0,.sl false 0 false 4 (O.o Nds.enc [a.nd,b.nd])]=_
    rw[e0,Nds.two O]
   have p2:=par2 (Xp.str (.sum a b))
   refine⟨?_,?_,?_⟩
   ·rw[ea];exact txt_sum0 O (par1 _) p2 hs h1 h2 hz a0 b1
   ·rw[ea,show inPar ((Xp.sum a b).lvl=2) (Xp.str (.sum a b))=40::(Xp.str (.sum a b)++[41]) from inPar_yes rfl];exact txt_sum1 O (par1 _) p2 hs h1 h2 hz a0 b1
   ·rw[ea,show inPar (1≤(Xp.sum a b).lvl) (Xp.str (.sum a b))=40::(Xp.str (.sum a b)++[41]) from inPar_yes (by show 1≤2;decide)];exact txt_sum2 O (par1 _) p2 hs h1 h2 hz a0 b1
 | @mul a b ha hb' ih jh =>
  intro k hk hd
  have hb:=big (.mul ha hb') hk hd
  cases k with
  | zero=>simp [deepB] at hd
  | succ k =>
   have hda:=deep_args hd a.nd (by simp)
   have hdb:=deep_args hd b.nd (by simp)
   obtain⟨a0,a1,a2⟩:=ih k (by omega) hda
   obtain⟨b0,b1,b2⟩:=jh k (by omega) hdb
   have hA:=big ha (by omega) hda
   have hB:=big hb' (by omega) hdb
   have hA2:=inPar_len (a.lvl=2) a.str
   have hB2:=inPar_len (1≤b.lvl) b.str
   have hs:=par_sz (s:=Xp.str (.mul a b)) (by omega)
   have h1:ofL (inPar (a.lvl=2) a.str++[42])=ofL (inPar (a.lvl=2) a.str)++(⟨#[42]⟩:ByteArray):=ofL_app _ [42]
   have h2:ofL (Xp.str (.mul a b))=ofL (inPar (a.lvl=2) a.str++[42])++ofL (inPar (1≤b.lvl) b.str):=by
    rw[← ofL_app];congr 1
    show inPar (a.lvl=2) a.str++42::inPar (1≤b.lvl) b.str=_
    simp
   have hz:(ofL (inPar (a.lvl=2) a.str)).size≤100000000∧(ofL (inPar (1≤b.lvl) b.str)).size≤100000000∧(ofL (inPar (a.lvl=2) a.str++[42])).size≤100000000:=by
    rw[size_ofL,size_ofL,size_ofL,List.length_append];simp only [List.length_cons,List.length_nil];omega
   have ea:Nd.en O (Xp.mul a b).nd=[.int .i64 4,.str ByteArray.empty,.int .i64 0,.sl false 0 false 4 [a.nd.en O,b.nd.en O]]:=by
    show[PV.int .i64 4,.str (O.o ofL []),.int .i64 0,.sl false 0 false 4 (O.o Nds.enc [a.nd,b.nd])]=_
    rw[e0,Nds.two O]
   have p2:=par2 (Xp.str (.mul a b))
   refine⟨?_,?_,?_⟩
   ·rw[ea];exact txt_mul0 O (par1 _) p2 hs h1 h2 hz a1 b2
   ·rw[ea,show inPar ((Xp.mul a b).lvl=2) (Xp.str (.mul a b))=Xp.str (.mul a b) from inPar_no (by show ¬ 1=2;decide)];exact txt_mul1 O (par1 _) p2 hs h1 h2 hz a1 b2
   ·rw[ea,show inPar (1≤(Xp.mul a b).lvl) (Xp.str (.mul a b))=40::(Xp.str (.mul a b)++[41]) from inPar_yes (by show 1≤1;decide)];exact txt_mul2 O (par1 _) p2 hs h1 h2 hz a1 b2
 | @call w a hw ha ih =>
  intro k hk hd
  have hb:=big (.call hw ha) hk hd
  cases k with
  | zero=>simp [deepB] at hd
  | succ k =>
   have hda:=deep_args hd a.nd (by simp)
   obtain⟨a0,a1,a2⟩:=ih k (by omega) hda
   have hA:=big ha (by omega) hda
   have hwl:w.length≤4:=by
    have h:nameL w=true:=hw
    rcases name_cases h with rfl|rfl|rfl|rfl|rfl<;>decide
   have hs:=par_sz (s:=Xp.str (.call w a)) (by omega)
   have h1:ofL (w++[40])=ofL w++(⟨#[40]⟩:ByteArray):=ofL_app w [40]
   have h2:ofL (w++[40]++a.str)=ofL (w++[40])++ofL a.str:=ofL_app _ _
   have h3:ofL (Xp.str (.call w a))=ofL (w++[40]++a.str)++(⟨#[41]⟩:ByteArray):=by
    refine Eq.trans ?_ (ofL_app (w++[40]++a.str) [41])
    congr 1
    show w++40::(a.str++[41])=_
    simp
   have hz:(ofL w).size≤100000000∧(ofL a.str).size≤100000000∧(ofL (w++[40])).size≤100000000∧(ofL (w++[40]++a.str)).size≤100000000:=by
    rw[size_ofL,size_ofL,size_ofL,size_ofL,List.length_append,List.length_append];simp only [List.length_append,List.length_cons,List.length_nil];omega
   have ea:Nd.en O (Xp.call w a).nd=[.int .i64 5,.str (ofL w),.int .i64 0,.sl false 0 false 4 [a.nd.en O]]:=by
    show[PV.int .i64 5,.str (O.o ofL w),.int .i64 0,.sl false 0 false 4 (O.o Nds.enc [a.nd])]=_
    rw[O.h,Nds.one O]
   refine⟨?_,?_,?_⟩
   ·rw[ea];exact txt_call0 O (par1 _) rfl hs h1 h2 h3 hz a0
   ·rw[ea,show inPar ((Xp.call w a).lvl=2) (Xp.str (.call w a))=Xp.str (.call w a) from inPar_no (by show ¬ 0=2;decide)];exact txt_call1 O (par1 _) rfl hs h1 h2 h3 hz a0
   ·rw[ea,show inPar (1≤(Xp.call w a).lvl) (Xp.str (.call w a))=Xp.str (.call w a) from inPar_no (by show ¬ 1≤0;decide)];exact txt_call2 O (par1 _) rfl hs h1 h2 h3 hz a0
end Go.Sym
