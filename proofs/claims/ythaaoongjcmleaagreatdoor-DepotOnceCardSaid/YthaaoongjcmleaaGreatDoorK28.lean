/- A request is done, by the document: a new one. -/
import Derived.Test.YthaaoongjcmleaaGreatDoorK25
import Derived.Test.YthaaoongjcmleaaGreatDoorK26
import Derived.Test.YthaaoongjcmleaaGreatDoorK27
set_option linter.all false
set_option linter.unusedVariables false
set_option linter.unusedSimpArgs false
namespace Go.Sym
open Go Go.Proofs.Tryz
set_option maxRecDepth 100000
theorem Lasts.snoc (O:Opq) (l:List LastR) (x:LastR):O.o (Lasts.enc O) (l++[x])=O.o (Lasts.enc O) l++[LastR.enc O x]:=by
 simp only [O.h];simp [Lasts.enc]
theorem DepFew.inn {d:Depot} {m:Nat} (h:DepFew d m) (hm:m≤1000):DepIn d:=⟨h.may,Nat.le_trans h.chs hm,fun x hx=>(h.last x hx).inn.mono (by decide)⟩
theorem DepFew.sz {d:Depot} {m:Nat} (h:DepFew d m) (hm:m≤1000):DepSz d 1099511627776:=by
 obtain⟨m1,m2,m3⟩:=mayDp_iff.1 h.may
 have i:=mayF_in m2 (Nat.le_trans h.chs hm)
 have k:=mayD_iff.1 m1
 have hl:=(lastsOk_iff.1 m3).1
 have:=h.chs
 refine⟨⟨by omega,fun n hn=>?_⟩,⟨by omega,fun c hc=>?_⟩,by omega,⟨by omega,fun x hx=>(h.last x hx).inn.mono (by decide)⟩⟩
 ·have:=may_len (k.2.1 n hn).2;omega
 ·have:=i.2.2.1 c hc;omega
theorem turnR_parts (d:Depot) (o:Opn) (hd:mayD d.docs=true) (hf:mayF d.feed=true):∃ D2 F2 A2,turnR d o=(⟨D2,F2,d.last⟩,A2):=by
 obtain⟨_,_,h3⟩:=turnR_may o hd hf
 exact⟨(turnR d o).1.docs,(turnR d o).1.feed,(turnR d o).2,by rw[← h3]⟩
theorem dapply_ok (O:Opq) (d:Depot) (q:Reqn) {m:Nat} (h:DepFew d m) (hm:m≤1000) (hs:SmallO q.op 1099511627) (D':Depot) (A':Answer) (hR:depotR d q=(D',A')) :
  Fn prog 20 [.agg (d.enc O),.agg (q.en O)] [] [.agg (D'.enc O),.agg (A'.enc O),.int .i64 0] []:=by
 obtain⟨h1,h2,h3⟩:=mayDp_iff.1 h.may
 have hi:=h.inn hm
 obtain⟨D2,F2,A2,hT⟩:=turnR_parts d q.op h1 h2
 have hA:AnsIn A2 1099511627:=by have:=few_turn (d:=d) q.op h1;rw[hT] at this;exact this.inn.mono (by decide)
 unfold depotR at hR
 cases ht:turnsB q.op.kind with
 | false =>
  rw[if_pos ht] at hR
  cases hR
  have k:=dapply_read O d q hi hs ht
  rwa [show O.o (readsA d) q.op=readsA d q.op by rw[O.h]] at k
 | true =>
  rw[if_neg (by simp [ht])] at hR
  by_cases hc:q.client=0
  ·rw[if_pos hc,hT] at hR
   cases hR
   exact dapply_zero O d q hi hs ht hc D2 F2 _ hT
  ·rw[if_neg hc] at hR
   cases hN:toldL d.last q.client q.id with
   | some a =>
    rw[hN] at hR
    cases hR
    exact dapply_told O d q hi ht hc _ hN
   | none =>
    rw[hN,hT] at hR
    cases hR
    cases hg:getL d.last q.client with
    | true=>exact dapply_there O d q hi hs ht hc hN hg D2 F2 _ hT hA
    | false=>exact dapply_new O d q hi hs ht hc hN hg D2 F2 _ hT hA
theorem small_put (m:Nat):SmallO req0.op m:=⟨by simp [req0,putO,Opn.doc],by simp [req0,putO,Opn.want],by simp [req0,putO,Opn.list],by simp [req0,putO,Opn.list]⟩
theorem awake14_fn (O:Opq):Fn prog 23 [] [] [.bool true] []:=by
 have k1:=dapply_ok O zeroD req0 zeroD_few (by decide) (small_put _) dep1 (answerN 1) dep_first
 have k2:=dapply_ok O dep1 req0 dep1_few (by decide) (small_put _) dep1 (answerN 1) dep_again
 have e1:O.o (Nms.enc O) []=[]:=by rw[O.h];rfl
 have e2:O.o (Chs.enc O) []=[]:=by rw[O.h];rfl
 have e3:O.o (Ops.enc O) []=[]:=by rw[O.h];rfl
 have e4:O.o Doc.enc []=[]:=by rw[O.h];rfl
 have e5:O.o Subs.enc []=[]:=by rw[O.h];rfl
 have e6:O.o (Lasts.enc O) []=[]:=by rw[O.h];rfl
 have ez:zeroD.enc O=[.sl false 0 false 2 [],.int .i64 0,.int .i64 0,.sl false 0 false 4 [],.sl false 0 false 2 [],.sl false 0 false 10 []]:=by
  rw[show zeroD.enc O=[.sl false 0 false 2 (O.o (Nms.enc O) []),.int .i64 0,.int .i64 0,.sl false 0 false 4 (O.o (Chs.enc O) []),.sl false 0 false 2 (O.o Subs.enc []),.sl false 0 false 10 (O.o (Lasts.enc O) [])] from rfl,e1,e2,e5,e6]
 have eq:req0.en O=[.int .i64 5,.int .i64 1,.int .i64 1,.str tx,.str ByteArray.empty,.sl false 0 false 6 [],.sl false 0 false 6 [],.bool false,.int .i64 0,.int .i64 0,.sl false 0 false 11 [],.sl false 0 false 2 [],.sl false 0 false 4 []]:=by
  rw[show req0.en O=[.int .i64 5,.int .i64 1,.int .i64 1,.str tx,.str ByteArray.empty,.sl false 0 false 6 (O.o Doc.enc []),.sl false 0 false 6 (O.o Doc.enc []),.bool false,.int .i64 0,.int .i64 0,.sl false 0 false 11 (O.o (Ops.enc O) []),.sl false 0 false 2 (O.o (Nms.enc O) []),.sl false 0 false 4 (O.o (Chs.enc O) [])] from rfl,e1,e2,e3,e4]
 rw[ez,eq] at k1
 rw[eq] at k2
 have hl:=Nms.len O [⟨tx,[]⟩]
 refine go (fn:=Proofs.Tryz.f23) (n:=52) (rv:=[ResultVar.tmp 0]) rfl (by decide) rfl (by decide +kernel) rfl rfl (by simp) fun F L C=>?_
 cbv
 (repeat' first|(refine Na ?_ fun _ _=>?_;(focus lia);cbv)|(refine CallThen.mk _ _ (C.fn (Fn.wkA (k1) ?_)) ?_;(focus((repeat' apply WkAL.cons)<;>first|exact WkAL.nil|exact WkA.refl _|exact WkA.lend rfl|exact WkA.bor rfl (WkR.refl _)|exact WkA.wk (Wk.nil _ _)|exact WkA.wk (Wk.sl' rfl rfl (WkR.refl _))|(refine WkA.agg' ?_;((repeat' apply WkAL.cons)<;>first|exact WkAL.nil|exact WkA.refl _|exact WkA.lend rfl|exact WkA.bor rfl (WkR.refl _)|exact WkA.wk (Wk.nil _ _)|exact WkA.wk (Wk.sl' rfl rfl (WkR.refl _))|(refine WkA.agg' ?_;((repeat' apply WkAL.cons)<;>first|exact WkAL.nil|exact WkA.refl _|exact WkA.lend rfl|exact WkA.bor rfl (WkR.refl _)|exact WkA.wk (Wk.nil _ _)|exact WkA.wk (Wk.sl' rfl rfl (WkR.refl _))))))));cbv)|(refine CallThen.mk _ _ (C.fn (Fn.wkA (k2) ?_)) ?_;(focus((repeat' apply WkAL.cons)<;>first|exact WkAL.nil|exact WkA.refl _|exact WkA.lend rfl|exact WkA.bor rfl (WkR.refl _)|exact WkA.wk (Wk.nil _ _)|exact WkA.wk (Wk.sl' rfl rfl (WkR.refl _))|(refine WkA.agg' ?_;((repeat' apply WkAL.cons)<;>first|exact WkAL.nil|exact WkA.refl _|exact WkA.lend rfl|exact WkA.bor rfl (WkR.refl _)|exact WkA.wk (Wk.nil _ _)|exact WkA.wk (Wk.sl' rfl rfl (WkR.refl _))|(refine WkA.agg' ?_;((repeat' apply WkAL.cons)<;>first|exact WkAL.nil|exact WkA.refl _|exact WkA.lend rfl|exact WkA.bor rfl (WkR.refl _)|exact WkA.wk (Wk.nil _ _)|exact WkA.wk (Wk.sl' rfl rfl (WkR.refl _))))))));cbv)|(refine Nl fun _ _ hq=>?_;(try simp only [lenS] at hq);cbv)|(refine Nm fun _ _=>?_;cbv)|(refine Br.t ?_ ?_;(focus first|assumption|lia);cbv)|(refine Br.f ?_ ?_;(focus first|assumption|lia);cbv)|(refine Br.mk (fun _=>?_) (fun _=>?_)<;>cbv)|(refine Need.mk ?_ ?_;rotate_left;cbv)|(refine R0 ?_;cbv))
 all_goals first
  | exact⟨rfl,trivial⟩
  | (exfalso;rename_i n e h;exact h (by rw[e];exact congrArg Int.ofNat hl))
  | trace_state
theorem FewA.same (O:Opq) {a:Answer} (h:FewA a):Fn prog 21 [.agg (a.enc O),.agg (a.enc O)] [] [.bool true] []:=by
 have k:=ransw_fn O a a (by have:=h.doc;omega) ⟨by have:=h.docs.1;omega,fun c hc=>by have:=h.docs.2 c hc;omega⟩ ⟨by have:=h.news.1;omega,fun c hc=>by have:=h.news.2 c hc;omega⟩ (by have:=h.keys;omega)
 rw[show O.o sameAns a a=true by rw[O.h,sameAns];simp] at k
 exact k
theorem DepSz.same (O:Opq) {d:Depot} (h:DepSz d 1099511627776):Fn prog 22 [.agg (d.enc O),.agg (d.enc O)] [] [.bool true] []:=by
 have k:=rsame14_fn O d d h
 rw[show O.o sameDp d d=true by rw[O.h];exact sameDp_iff.2 rfl] at k
 exact k
end Go.Sym
