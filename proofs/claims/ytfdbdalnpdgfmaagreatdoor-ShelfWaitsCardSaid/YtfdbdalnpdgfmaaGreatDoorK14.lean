/- The reader of expressions: what it reads of a text. -/
import Derived.Test.YtfdbdalnpdgfmaaGreatDoorK13
set_option linter.all false
set_option linter.unusedVariables false
set_option linter.unusedSimpArgs false
namespace Go.Sym
open Go Go.Proofs.Tryz
set_option maxRecDepth 100000
def PartSays (O:Opq) (n:Nat):Prop:=∀ (s:List UInt8) (nest:Nat) (x:Nd) (r:List UInt8) (b:Bool),partD lexT n s=(x,r,b)→s.length<n→nest+s.length≤256→∀ v:Int,v=nest →
 Fn prog 85 [.ptr 0 0] [.box [.str (O.o ofL s),.bool false,.int .i64 v]] [.agg (x.en O)] [.box [.str (O.o ofL r),.bool b,.int .i64 v]]
def ProdSays (O:Opq) (n:Nat):Prop:=∀ (s:List UInt8) (nest:Nat) (x:Nd) (r:List UInt8) (b:Bool),prodD lexT n s=(x,r,b)→s.length<n→nest+s.length≤256→∀ v:Int,v=nest →
 Fn prog 60 [.ptr 0 0] [.box [.str (O.o ofL s),.bool false,.int .i64 v]] [.agg (x.en O)] [.box [.str (O.o ofL r),.bool b,.int .i64 v]]
def SumSays (O:Opq) (n:Nat):Prop:=∀ (s:List UInt8) (nest:Nat) (x:Nd) (r:List UInt8) (b:Bool),sumD lexT n s=(x,r,b)→s.length<n→nest+s.length≤256→∀ v:Int,v=nest →
 Fn prog 40 [.ptr 0 0] [.box [.str (O.o ofL s),.bool false,.int .i64 v]] [.agg (x.en O)] [.box [.str (O.o ofL r),.bool b,.int .i64 v]]
def InnerSays (O:Opq) (n:Nat):Prop:=∀ (s:List UInt8) (nest:Nat) (x:Nd) (r:List UInt8) (b:Bool),innerD lexT n s=(x,r,b)→s.length<n→nest+1+s.length≤256→∀ v:Int,v=nest →
 Fn prog 114 [.ptr 0 0] [.box [.str (O.o ofL s),.bool false,.int .i64 v]] [.agg (x.en O)] [.box [.str (O.o ofL r),.bool b,.int .i64 v]]
theorem sum_len (n:Nat) (s:List UInt8):(sumD lexT n s).2.1.length≤s.length:=by
 have j1:(prodD lexT n s).2.1.length≤s.length:=by rw[prodD];exact Nat.le_trans ((rest_len n).2.1 _ _ _) ((rest_len n).1 s)
 rw[sumD];exact Nat.le_trans ((rest_len n).2.2 _ _ _) j1
theorem innerA {S T:ByteArray} {v v1:Int} {k n:Int} {t:ByteArray} {a:List (List PV)} (h1:v1=IntKind.i64.wrap (v+1)) (h2:v=IntKind.i64.wrap (v1-1)) (h3:v1≤256)
  (ks:Fn prog 40 [.ptr 0 0] [.box [.str S,.bool false,.int .i64 v1]] [.agg [.int .i64 k,.str t,.int .i64 n,.sl false 0 false 4 a]] [.box [.str T,.bool true,.int .i64 v1]]) :
  Fn prog 114 [.ptr 0 0] [.box [.str S,.bool false,.int .i64 v]] [.agg [.int .i64 k,.str t,.int .i64 n,.sl false 0 false 4 a]] [.box [.str T,.bool true,.int .i64 v]]:=by
 refine go (fn:=Proofs.Tryz.f114) (n:=40) (rv:=[ResultVar.cell 2 50]) rfl (by decide) rfl (by decide +kernel) rfl rfl (by simp) fun F L C=>?_
 cbv
 (repeat' first|(refine Named.at' v1 h1 ?_;cbv)|(refine Named.at' v h2 ?_;cbv)|(refine Na ?_ fun _ _=>?_;(focus lia);cbv)|(refine CallThen.mk _ _ (C.fn (ks)) ?_;cbv)|(refine Nl fun _ _ hq=>?_;(try simp only [lenS] at hq);cbv)|(refine Nm fun _ _=>?_;cbv)|(refine Br.t ?_ ?_;(focus first|assumption|lia);cbv)|(refine Br.f ?_ ?_;(focus first|assumption|lia);cbv)|(refine Br.mk (fun _=>?_) (fun _=>?_)<;>cbv)|(refine Need.mk ?_ ?_;rotate_left;cbv)|(refine R0 ?_;cbv))
 all_goals first
  | exact⟨.refl _,trivial⟩
  | (exfalso;clear ks h1 h2;lia)
  | trace_state
theorem innerB {S T U:ByteArray} {v v1:Int} {k n:Int} {t:ByteArray} {a:List (List PV)} {q:Bool} (h1:v1=IntKind.i64.wrap (v+1)) (h2:v=IntKind.i64.wrap (v1-1)) (h3:v1≤256)
  (ks:Fn prog 40 [.ptr 0 0] [.box [.str S,.bool false,.int .i64 v1]] [.agg [.int .i64 k,.str t,.int .i64 n,.sl false 0 false 4 a]] [.box [.str T,.bool false,.int .i64 v1]])
  (kn:Fn prog 61 [.ptr 0 0,.int .u8 41] [.box [.str T,.bool false,.int .i64 v]] [.bool q] [.box [.str U,.bool false,.int .i64 v]]) :
  Fn prog 114 [.ptr 0 0] [.box [.str S,.bool false,.int .i64 v]] [.agg [.int .i64 k,.str t,.int .i64 n,.sl false 0 false 4 a]] [.box [.str U,.bool (!q),.int .i64 v]]:=by
 cases q
 all_goals
  refine go (fn:=Proofs.Tryz.f114) (n:=40) (rv:=[ResultVar.cell 2 50]) rfl (by decide) rfl (by decide +kernel) rfl rfl (by simp) fun F L C=>?_
  cbv
  (repeat' first|(refine Named.at' v1 h1 ?_;cbv)|(refine Named.at' v h2 ?_;cbv)|(refine Na ?_ fun _ _=>?_;(focus lia);cbv)|(refine CallThen.mk _ _ (C.fn (ks)) ?_;cbv)|(refine CallThen.mk _ _ (C.fn (kn)) ?_;cbv)|(refine Nl fun _ _ hq=>?_;(try simp only [lenS] at hq);cbv)|(refine Nm fun _ _=>?_;cbv)|(refine Br.t ?_ ?_;(focus first|assumption|lia);cbv)|(refine Br.f ?_ ?_;(focus first|assumption|lia);cbv)|(refine Br.mk (fun _=>?_) (fun _=>?_)<;>cbv)|(refine Need.mk ?_ ?_;rotate_left;cbv)|(refine R0 ?_;cbv))
  all_goals first
   | exact⟨.refl _,trivial⟩
   | (exfalso;clear ks kn h1 h2;lia)
   | trace_state
theorem inner_says {O : Opq} {n : Nat} (ih : SumSays O n) : InnerSays O n := fun s nest x r b hD hs hnest v hv => by
  obtain ⟨⟨X, R, B⟩, hS⟩ : ∃ p, sumD lexT n s = p := ⟨_, rfl⟩
  have hR : R.length ≤ s.length := by have := sum_len n s; rwa [hS] at this
  have ks := ih s (nest + 1) X R B hS hs (by omega) (v + 1) (by omega)
  have h1 : v + 1 = IntKind.i64.wrap (v + 1) := (wrap64 (by omega)).symm
  have h2 : v = IntKind.i64.wrap (v + 1 - 1) := by rw [wrap64 (by omega)]; omega
  rw [innerD, hS] at hD
  simp only at hD
  cases B with
  | true =>
    have e : x = X ∧ r = R ∧ b = true := by
      split at hD
      · rename_i h; simp at h
      · rename_i h; simp only [Prod.mk.injEq] at h hD; exact ⟨hD.1.symm, by rw [← hD.2.1, h.1], hD.2.2.symm⟩
    obtain ⟨rfl, rfl, rfl⟩ := e
    exact innerA h1 h2 (by omega) ks
  | false =>
    have kn := next_fn O R false v 41 41 rfl (by omega)
    have := innerB h1 h2 (by omega) ks kn
    have e : x = X ∧ r = O.o (nextR 41) R ∧ b = !(O.o (nextB 41) R) := by
      rw [O.h, O.h]
      split at hD
      · rename_i t h
        simp only [Prod.mk.injEq, and_true] at h hD
        subst h
        exact ⟨hD.1.symm, by rw [← hD.2.1]; simp [nextR], by rw [← hD.2.2]; simp [nextB]⟩
      · rename_i t b' hn h
        simp only [Prod.mk.injEq] at h hD
        obtain ⟨rfl, rfl⟩ := h
        have h41 : nextB 41 R = false ∧ nextR 41 R = R := by
          cases R with
          | nil => exact ⟨rfl, rfl⟩
          | cons c t =>
            have hc : ¬ c = 41 := fun e => hn t (by rw [e]) rfl
            simp [nextB, nextR, hc]
        exact ⟨hD.1.symm, by rw [h41.2, hD.2.1], by rw [h41.1, ← hD.2.2]; rfl⟩
    obtain ⟨rfl, rfl, rfl⟩ := e
    exact this
/-! ### A part -/
theorem notCall {w:List UInt8} (h:nameL w=true):plainL w=false∧w≠[]:=by
 simp only [nameL,Bool.or_eq_true,beq_iff_eq] at h
 rcases h with (((rfl|rfl)|rfl)|rfl)|rfl<;>exact⟨by decide,by simp⟩
theorem leafN_path {w:List UInt8} (h:¬ (w≠[]∧plainL w=true)):leafN w=(.mk 1 w 0 [],!pathL w):=by rw[leafN,if_neg h]
theorem leafN_num {w:List UInt8} (h:w≠[]∧plainL w=true):leafN w=(.mk 2 [] (atoiV w) [],!decide (w.length≤15∧digN (natOf w)=w)):=by rw[leafN,if_pos h];rfl
theorem leaf_says {O:Opq} {s:List UInt8} {nest:Nat} {v:Int} (hv:v=nest) (hl:s.length≤256) (hnc:∀ t,restW s=40::t→headW s≠[]∧nameL (headW s)=false) :
  Fn prog 85 [.ptr 0 0] [.box [.str (O.o ofL s),.bool false,.int .i64 v]] [.agg ((leafN (headW s)).1.en O)] [.box [.str (O.o ofL (restW s)),.bool (leafN (headW s)).2,.int .i64 v]]:=by
 have hwl:=word_len s
 have kw:=word_fn O s false v (by omega)
 rw[show O.o headW s=headW s by rw[O.h],show O.o restW s=restW s by rw[O.h]] at kw
 obtain⟨w,hw⟩:∃ w,w=headW s:=⟨_,rfl⟩
 obtain⟨R,hR⟩:∃ w,w=restW s:=⟨_,rfl⟩
 rw[← hw,← hR] at kw hnc hwl ⊢
 have km:=name_fn O w
 have kd:=number_fn O w (by omega)
 have kp:=path_fn O (O.o ofL w)
 rw[show O.o isPath (O.o ofL w)=pathL w by simp only [O.h];exact isPath_L w] at kp
 have kn:=next_fn O R false v 40 40 rfl (by omega)
 have hnx:(∀ t,R≠40::t)→O.o (nextB 40) R=false∧O.o (nextR 40) R=R:=fun h=>by
  rw[O.h,O.h]
  cases R with
  | nil=>exact⟨rfl,rfl⟩
  | cons c t =>
   have hc:¬ c=40:=fun e=>h t (by rw[e])
   simp [nextB,nextR,hc]
 have hemp:O.o ofL w=ByteArray.empty ↔ w=[]:=by rw[O.h];exact ofL_emp
 have hnil:O.o Nds.enc []=[]:=Nds.nil O
 by_cases hw0:w=[]
 ·have hR40:∀ t,R≠40::t:=fun t e=>(hnc t e).1 hw0
  obtain⟨q1,q2⟩:=hnx hR40
  rw[q1,q2] at kn
  rw[leafN_path (by simp [hw0])]
  have kp0:pathL w=false:=by rw[hw0];rfl
  have km0:O.o nameL w=false:=by rw[O.h,hw0];rfl
  rw[kp0] at kp ⊢
  rw[km0] at km
  have:=partP1 (hemp.2 hw0) kw kn km kp
  rw[← hnil] at this
  exact this
 ·have hW:¬ O.o ofL w=ByteArray.empty:=fun e=>hw0 (hemp.1 e)
  cases hnm:nameL w with
  | true =>
   have hR40:∀ t,R≠40::t:=fun t e=>by rw[(hnc t e).2] at hnm;cases hnm
   obtain⟨q1,q2⟩:=hnx hR40
   rw[q1,q2] at kn
   have hpl:=(notCall hnm).1
   rw[show O.o nameL w=true by rw[O.h];exact hnm] at km
   rw[show O.o plainL w=false by rw[O.h];exact hpl] at kd
   rw[leafN_path (by simp [hpl])]
   have:=partP4 hW kw km kn kd kp
   rw[← hnil] at this
   exact this
  | false =>
   rw[show O.o nameL w=false by rw[O.h];exact hnm] at km
   cases hpl:plainL w with
   | false =>
    rw[show O.o plainL w=false by rw[O.h];exact hpl] at kd
    rw[leafN_path (by simp [hpl])]
    have:=partP3 hW kw km kd kp
    rw[← hnil] at this
    exact this
   | true =>
    rw[show O.o plainL w=true by rw[O.h];exact hpl] at kd
    rw[leafN_num ⟨hw0,hpl⟩]
    have e0:O.o ofL []=ByteArray.empty:=by rw[O.h];rfl
    by_cases hbig:natOf w<9223372036854775808
    ·have ka:=atoi_ok w hw0 hpl (by omega) hbig
     rw[← atoiV_lt hbig,show ofL w=O.o ofL w by rw[O.h]] at ka
     by_cases hl15:w.length≤15
     ·have ki:=itoa_fn (natOf w) (by omega)
      rw[← atoiV_lt hbig,show ofL (digN (natOf w))=O.o ofL (digN (natOf w)) by rw[O.h]] at ki
      have:=partN3 (q:=decide (w.length≤15∧digN (natOf w)=w)) hW (by rw[O.h,size_ofL];exact hl15) (by rw[O.h,ofL_inj,decide_eq_true_eq];exact⟨fun e=>⟨hl15,e⟩,fun e=>e.2⟩) kw km kd ka ki
      rw[← hnil,← e0] at this
      exact this
     ·rw[show decide (w.length≤15∧digN (natOf w)=w)=false by simp [hl15]]
      have:=partN2 hW (by rw[O.h,size_ofL];omega) kw km kd ka
      rw[← hnil,← e0] at this
      exact this
    ·have ka:=atoi_range w hw0 hpl (by omega) hbig
     rw[← atoiV_ge hbig,show ofL w=O.o ofL w by rw[O.h]] at ka
     have h15:¬ w.length≤15:=fun h=>by
      have h1:=natOf_lt hpl
      have h2:10 ^ w.length≤10 ^ 15:=Nat.pow_le_pow_right (by decide) h
      omega
     rw[show decide (w.length≤15∧digN (natOf w)=w)=false by simp [h15]]
     have:=partN1 hW kw km kd ka
     rw[← hnil,← e0] at this
     exact this
theorem part_says {O:Opq} {n:Nat} (ih:InnerSays O n):PartSays O (n+1):=fun s nest x r b hD hs hnest v hv=>by
 have hwl:=word_len s
 have kw:=word_fn O s false v (by omega)
 rw[show O.o headW s=headW s by rw[O.h],show O.o restW s=restW s by rw[O.h]] at kw
 have hD:(match restW s with
  | 40::r=>if headW s=[] then innerD lexT n r else if nameL (headW s)=true then(callN (headW s) (innerD lexT n r).1,(innerD lexT n r).2.1,(innerD lexT n r).2.2) else((leafN (headW s)).1,40::r,(leafN (headW s)).2)
  | r=>((leafN (headW s)).1,r,(leafN (headW s)).2))=(x,r,b):=by rw[partD] at hD;exact hD
 by_cases h40:∃ t,restW s=40::t∧(headW s=[]∨nameL (headW s)=true)
 ·obtain⟨t,ht,hor⟩:=h40
  have kn:=next_fn O (restW s) false v 40 40 rfl (by omega)
  rw[show O.o (nextB 40) (restW s)=true by rw[O.h,ht];simp [nextB],show O.o (nextR 40) (restW s)=t by rw[O.h,ht];simp [nextR]] at kn
  rw[ht] at hD
  simp only at hD
  have htl:t.length+1≤s.length:=by
   have h3:(restW s).length=t.length+1:=by rw[ht];rfl
   omega
  obtain⟨⟨X,R,B⟩,hI⟩:∃ p,innerD lexT n t=p:=⟨_,rfl⟩
  have ki:=ih t nest X R B hI (by omega) (by omega) v hv
  by_cases hw0:headW s=[]
  ·rw[if_pos hw0,hI] at hD
   cases hD
   exact partA (by rw[hw0,O.h];rfl) kw kn ki
  ·have hnm:=hor.resolve_left hw0
   rw[if_neg hw0,if_pos hnm,hI] at hD
   cases hD
   have km:=name_fn O (headW s)
   rw[show O.o nameL (headW s)=true by rw[O.h];exact hnm] at km
   have:=partX (by rw[O.h,ofL_emp];exact hw0) kw km kn ki
   have e:[[PV.int .i64 X.kind,.str (O.o ofL X.text),.int .i64 X.num,.sl false 0 false 4 (O.o Nds.enc X.args)]]=O.o Nds.enc [X]:=(Nds.one O X).symm
   rw[e] at this
   exact this
 ·have hnc:∀ t,restW s=40::t→headW s≠[]∧nameL (headW s)=false:=fun t ht=>by
   refine⟨fun e=>h40 ⟨t,ht,.inl e⟩,?_⟩
   cases hnm:nameL (headW s) with
   | true=>exact absurd ⟨t,ht,.inr hnm⟩ h40
   | false=>rfl
  have k:=leaf_says (O:=O) (nest:=nest) hv (by omega) hnc
  have e:x=(leafN (headW s)).1∧r=restW s∧b=(leafN (headW s)).2:=by
   split at hD
   ·rename_i t ht
    obtain⟨q1,q2⟩:=hnc t ht
    rw[if_neg q1,if_neg (by simp [q2])] at hD
    cases hD
    exact⟨rfl,ht.symm,rfl⟩
   ·cases hD;exact⟨rfl,rfl,rfl⟩
  obtain⟨rfl,rfl,rfl⟩:=e
  exact k
end Go.Sym
