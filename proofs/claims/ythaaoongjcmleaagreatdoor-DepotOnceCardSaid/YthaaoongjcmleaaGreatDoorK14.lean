/- A subscription ends; changes are forgotten, or follow. -/
import Derived.Test.YthaaoongjcmleaaGreatDoorK13
set_option linter.all false
set_option linter.unusedVariables false
set_option linter.unusedSimpArgs false
namespace Go.Sym
open Go Go.Proofs.Tryz
set_option maxRecDepth 100000
set_option maxHeartbeats 4000000 in
theorem close_fn (O:Opq) (f:Feed) (n:ByteArray) (hi:inF f):Fn prog 97 [.agg (f.enc O),.str n] [] [.agg (Feed.enc O (O.o closeR f n)),.int .i64 (O.o closeE f n)] []:=by
 have hl:=hi.1
 have hs:=hi.2.1
 have hl1:=Chs.len O f.changes
 have hl2:=Subs.len O f.subs
 have hE:O.o feedErr f=0 ↔ mayF f=true:=by rw[O.h,feedErr_zero]
 by_cases hm:mayF f=true
 ·have hE0:O.o feedErr f=0:=hE.2 hm
  have hso:=mayF_subs hm
  have hg1:O.o (getK Sub.name) f.subs n=getK Sub.name f.subs n:=by rw[O.h]
  have hrt:∀ {e:Int},closeE f n=e∧closeR f n=f→O.o closeE f n=e∧O.o closeR f n=f:=fun h=>by simp only [O.h];exact h
  cases hg:getK Sub.name f.subs n with
  | false =>
   rw[hg] at hg1
   obtain⟨x1,x2⟩:=hrt (closeE_none hm hg)
   clear hrt
   refine go (fn:=Proofs.Tryz.f97) (n:=32) (rv:=[ResultVar.cell 4 44,ResultVar.tmp 5]) rfl (by decide) rfl (by decide +kernel) rfl rfl (by simp) fun F L C=>?_
   cbv
   (repeat' first|(refine Na ?_ fun _ _=>?_;(focus lia);cbv)|(refine CallThen.mk _ _ (C.fn (fcheck_fn O f (by lia) (by lia) (inF_c hi))) ?_;cbv)|(refine CallThen.mk _ _ (C.fn (own_fn O f hl hs (inF_d hi))) ?_;cbv)|(refine CallThen.bool2F (C.fn (atS_fn O true f n (by lia) hso)) (by assumption) ?_;cbv)|(refine RetThen.mk [] [1152] ?_;cbv)|(refine Nl fun _ _ hq=>?_;(try simp only [lenS] at hq);cbv)|(refine Nm fun _ _=>?_;cbv)|(refine Br.t ?_ ?_;(focus first|assumption|lia);cbv)|(refine Br.f ?_ ?_;(focus first|assumption|lia);cbv)|(refine Br.mk (fun _=>?_) (fun _=>?_)<;>cbv)|(refine Need.mk ?_ ?_;rotate_left;cbv)|(refine R0 ?_;cbv))
   all_goals try lia
   refine retF x2 fun rs=>?_;cbv;exact⟨x1,trivial⟩
  | true =>
   rw[hg] at hg1
   obtain⟨s,hs1,hs2⟩:=posK_there hso hg
   have hpz:O.o (posKZ Sub.name) f.subs n=posK Sub.name f.subs n:=by rw[O.h];rfl
   have hpl:posK Sub.name f.subs n<f.subs.length:=(List.getElem?_eq_some_iff.1 hs1).1
   obtain⟨w,hw⟩:∃ w,w=(O.o (posKZ Sub.name) f.subs n):=⟨_,rfl⟩
   have hat:=fun h1=>atS_fn O true f n h1 hso
   rw[← hw] at hpz hat
   obtain⟨x1,x2⟩:=closeE_ok hm hg
   refine go (fn:=Proofs.Tryz.f97) (n:=32) (rv:=[ResultVar.cell 4 44,ResultVar.tmp 5]) rfl (by decide) rfl (by decide +kernel) rfl rfl (by simp) fun F L C=>?_
   cbv
   (repeat' first|(refine Na ?_ fun _ _=>?_;(focus lia);cbv)|(refine CallThen.mk _ _ (C.fn (fcheck_fn O f (by lia) (by lia) (inF_c hi))) ?_;cbv)|(refine CallThen.mk _ _ (C.fn (own_fn O f hl hs (inF_d hi))) ?_;cbv)|(refine CallThen.bool2T (C.fn (hat (by lia))) (by assumption) ?_;cbv)|(refine CallThen.mk _ _ (C.fn (deleteS_fn O f.subs w _ (by assumption) hs (by lia) (by lia))) ?_;cbv)|(refine Nl fun _ _ hq=>?_;(try simp only [lenS] at hq);cbv)|(refine Nm fun _ _=>?_;cbv)|(refine Br.t ?_ ?_;(focus first|assumption|lia);cbv)|(refine Br.f ?_ ?_;(focus first|assumption|lia);cbv)|(refine Br.mk (fun _=>?_) (fun _=>?_)<;>cbv)|(refine Need.mk ?_ ?_;rotate_left;cbv)|(refine R0 ?_;cbv))
   all_goals try lia
   have hw2:w.toNat=(posKZ Sub.name f.subs n).toNat:=by rw[hpz];rfl
   simp only [O.h]
   rw[x1,x2]
   exact⟨rfl,rfl,.refl _,.of_eq (by rw[closeF,← hw2];rfl),rfl,trivial⟩
 ·have hE0:O.o feedErr f=1:=by rw[O.h];exact feedErr_one (by simpa using hm)
  obtain⟨x1,x2⟩:=closeE_bad (n:=n) (by simpa using hm)
  refine go (fn:=Proofs.Tryz.f97) (n:=32) (rv:=[ResultVar.cell 4 44,ResultVar.tmp 5]) rfl (by decide) rfl (by decide +kernel) rfl rfl (by simp) fun F L C=>?_
  cbv
  (repeat' first|(refine Na ?_ fun _ _=>?_;(focus lia);cbv)|(refine CallThen.mk _ _ (C.fn (fcheck_fn O f (by lia) (by lia) (inF_c hi))) ?_;cbv)|(refine Nl fun _ _ hq=>?_;(try simp only [lenS] at hq);cbv)|(refine Nm fun _ _=>?_;cbv)|(refine Br.t ?_ ?_;(focus first|assumption|lia);cbv)|(refine Br.f ?_ ?_;(focus first|assumption|lia);cbv)|(refine Br.mk (fun _=>?_) (fun _=>?_)<;>cbv)|(refine Need.mk ?_ ?_;rotate_left;cbv)|(refine R0 ?_;cbv))
  all_goals try lia
  simp only [O.h] at hE0 ⊢
  rw[x1,x2,hE0]
  exact⟨rfl,rfl,rfl,rfl,rfl,trivial⟩
def lowK (p:Int) (l:List Sub) (k:Nat):Int:=lowS p (l.take k)
theorem lowK_succ {p:Int} {l:List Sub} {k:Nat} {s:Sub} (h:l[k]?=some s):lowK p l (k+1)=min (lowK p l k) s.pos:=by
 rw[lowK,List.take_add_one,h,lowS,Option.toList_some,List.foldl_append];rfl
theorem lowS_le (l:List Sub):∀ p,lowS p l≤p:=by
 induction l with
 | nil=>intro p;exact Int.le_refl _
 | cons s l ih=>intro p;exact Int.le_trans (ih (min p s.pos)) (Int.min_le_left _ _)
set_option maxHeartbeats 4000000 in
theorem ftrim_fn (O : Opq) (f : Feed) (pos : Int) (hi : inF f) : Fn prog 98 [.agg (f.enc O), .int .i64 pos] [] [.agg (Feed.enc O (O.o trimR f pos)), .int .i64 (O.o feedErr f)] [] := by
  have hl := hi.1
  have hs := hi.2.1
  have hl1 := Chs.len O f.changes
  have hl2 := Subs.len O f.subs
  have hE : O.o feedErr f = 0 ↔ mayF f = true := by rw [O.h, feedErr_zero]
  obtain ⟨M, hM⟩ : ∃ N : Nat, N = f.subs.length := ⟨_, rfl⟩
  obtain ⟨z, hz⟩ : ∃ z : Nat, z = 0 := ⟨_, rfl⟩
  by_cases hm : mayF f = true
  · have hE0 : O.o feedErr f = 0 := hE.2 hm
    obtain ⟨q1, q2, q3, q4, _⟩ := (mayF_iff.1 hm).1
    refine go (fn := Proofs.Tryz.f98) (n := 46) (rv := [ResultVar.cell 4 44, ResultVar.tmp 5]) rfl (by decide) rfl (by decide +kernel) rfl rfl (by simp) fun F L C => ?_
    cbv
    (repeat' first | (refine Named.i64 ?_ fun _ _ => ?_; (focus lia); cbv) | (refine CallThen.mk _ _ (C.fn (fcheck_fn O f (by lia) (by lia) (inF_c hi))) ?_; cbv) | (refine CallThen.mk _ _ (C.fn (ownW_fn O f hl hs (inF_d hi))) ?_; cbv) | (refine Named.len fun _ _ hq => ?_; (try simp only [List.length_append, List.length_take, List.length_drop, List.length_replicate, List.length_set] at hq); cbv) | (refine Named.mk fun _ _ => ?_; cbv) | (refine Br.t ?_ ?_; (focus first | assumption | lia); cbv) | (refine Br.f ?_ ?_; (focus first | assumption | lia); cbv) | (refine Br.mk (fun _ => ?_) (fun _ => ?_) <;> cbv) | (refine Need.mk ?_ ?_; rotate_left; cbv) | (refine RetThen.mk [] [] ?_; cbv))
    all_goals try lia
    rename_i p ep n en
    have ep2 : p = min pos f.total := by rw [ep]; split <;> omega
    refine LoopThen.mk (C.loopAt (ι := Nat) [(1, 1), (8, 8), (24, 32)] (fun k => [(1, .int .i64 (O.o (lowK p f.subs) k)), (5, .int .i64 0), (24, .int .i64 k)]) (fun _ => [(256, .box (f.enc O)), (384, .box [.int .i64 0, .int .i64 0, .nils, .nils])])
      (fun k => k ≤ f.subs.length) (fun k => M - k) (by decide +kernel) (Start.mk z [] [] (by lia) ?_) ?_)
    · cbv
      (repeat' apply And.intro) <;> first | exact True.intro | exact WkR.refl _ | rfl | (simp only [O.h]; rw [hz]; rfl) | lia | trace_state
    intro k g
    cbv
    by_cases hk : k < f.subs.length
    · obtain ⟨x, hx⟩ : ∃ x, f.subs[k]? = some x := ⟨f.subs[k], by simp [hk]⟩
      have e1 : O.o (lowK p f.subs) (k + 1) = min (O.o (lowK p f.subs) k) x.pos := by simp only [O.h]; exact lowK_succ hx
      obtain ⟨nm, sp⟩ := x
      (repeat' first | (refine Named.i64 ?_ fun _ _ => ?_; (focus lia); cbv) | (refine Ex.known O Sub.enc rfl hx ?_ ?_; (focus lia); cbv) | (refine Back.up [] [] ?_ ?_ fun _ _ => ?_; rotate_left 2; cbv; refine And.intro ?_ ?_) | (refine Named.len fun _ _ hq => ?_; (try simp only [List.length_append, List.length_take, List.length_drop, List.length_replicate, List.length_set] at hq); cbv) | (refine Named.mk fun _ _ => ?_; cbv) | (refine Br.t ?_ ?_; (focus first | assumption | lia); cbv) | (refine Br.f ?_ ?_; (focus first | assumption | lia); cbv) | (refine Br.mk (fun _ => ?_) (fun _ => ?_) <;> cbv) | (refine Need.mk ?_ ?_; rotate_left; cbv) | (refine RetThen.mk [] [] ?_; cbv))
      all_goals (repeat' apply And.intro)
      all_goals try first
        | exact True.intro
        | exact WkR.refl _
        | (clear hx e1; lia)
      · rename_i m em n1 en1 n2 en2
        subst en2
        show O.o (lowK p f.subs) (k + 1) = m
        rw [e1, em]
        show min _ sp = _
        clear hx e1
        split <;> omega
    · have hkl : k = f.subs.length := by lia
      have hlo : O.o (lowK p f.subs) k ≤ f.total := by
        simp only [O.h]
        have : lowK p f.subs k ≤ p := lowS_le _ _
        omega
      have hx2 : O.o trimR f pos = cutF f (O.o (lowK p f.subs) k) := by
        simp only [O.h]
        rw [trimR, if_pos hm, lowK, hkl, List.take_length, ep2]
      obtain ⟨w, hw⟩ : ∃ w, w = O.o (lowK p f.subs) k := ⟨_, rfl⟩
      (repeat' first | (refine Named.i64 ?_ fun _ _ => ?_; (focus lia); cbv) | (refine Named.len fun _ _ hq => ?_; (try simp only [List.length_append, List.length_take, List.length_drop, List.length_replicate, List.length_set] at hq); cbv) | (refine Named.mk fun _ _ => ?_; cbv) | (refine Br.t ?_ ?_; (focus first | assumption | lia); cbv) | (refine Br.f ?_ ?_; (focus first | assumption | lia); cbv) | (refine Br.mk (fun _ => ?_) (fun _ => ?_) <;> cbv) | (refine Need.mk ?_ ?_; rotate_left; cbv) | (refine RetThen.mk [] [] ?_; cbv))
      all_goals try (clear hx2; lia)
      · rename_i h1 n1 e1 R eR
        have h1 : f.base < O.o (lowK p f.subs) k := h1
        rw [← hw] at hx2 h1 e1
        rw [cutF, if_pos h1] at hx2
        refine ⟨?_, ?_, .of_eq ?_, .of_eq ?_, hE0, trivial⟩
        · show (O.o trimR f pos).base = O.o (lowK p f.subs) k; rw [hx2, hw]
        · show (O.o trimR f pos).total = _; rw [hx2]
        · show O.o (Chs.enc O) (O.o trimR f pos).changes = _
          rw [hx2, eR, e1]; simp only [O.h]; rw [Chs.enc, List.map_drop]; rfl
        · show O.o Subs.enc (O.o trimR f pos).subs = _; rw [hx2]
      · rename_i h1
        have h1 : ¬ f.base < O.o (lowK p f.subs) k := h1
        rw [cutF, if_neg h1] at hx2
        refine ⟨?_, ?_, .of_eq ?_, .of_eq ?_, hE0, trivial⟩
        · show (O.o trimR f pos).base = _; rw [hx2]
        · show (O.o trimR f pos).total = _; rw [hx2]
        · show O.o (Chs.enc O) (O.o trimR f pos).changes = _; rw [hx2]
        · show O.o Subs.enc (O.o trimR f pos).subs = _; rw [hx2]
  · have hE0 : O.o feedErr f = 1 := by rw [O.h]; exact feedErr_one (by simpa using hm)
    have x2 : trimR f pos = zeroF := by rw [trimR, if_neg hm]
    refine go (fn := Proofs.Tryz.f98) (n := 46) (rv := [ResultVar.cell 4 44, ResultVar.tmp 5]) rfl (by decide) rfl (by decide +kernel) rfl rfl (by simp) fun F L C => ?_
    cbv
    (repeat' first | (refine Named.i64 ?_ fun _ _ => ?_; (focus lia); cbv) | (refine CallThen.mk _ _ (C.fn (fcheck_fn O f (by lia) (by lia) (inF_c hi))) ?_; cbv) | (refine Named.len fun _ _ hq => ?_; (try simp only [List.length_append, List.length_take, List.length_drop, List.length_replicate, List.length_set] at hq); cbv) | (refine Named.mk fun _ _ => ?_; cbv) | (refine Br.t ?_ ?_; (focus first | assumption | lia); cbv) | (refine Br.f ?_ ?_; (focus first | assumption | lia); cbv) | (refine Br.mk (fun _ => ?_) (fun _ => ?_) <;> cbv) | (refine Need.mk ?_ ?_; rotate_left; cbv) | (refine RetThen.mk [] [] ?_; cbv))
    all_goals try lia
    simp only [O.h] at hE0 ⊢
    rw [x2]
    (repeat' apply And.intro) <;> first | exact True.intro | rfl
/-! changes follow -/
theorem addF_len (f:Feed) (l:List Change):(addF f l).changes.length=f.changes.length+l.length:=by simp [addF]
theorem retW {O:Opq} {g f:Feed} {e e':Int} (h:g=f) (he:e=e'):g.base=f.base∧g.total=f.total∧WkR (O.o (Chs.enc O) g.changes) (O.o (Chs.enc O) f.changes)∧WkR (O.o Subs.enc g.subs) (O.o Subs.enc f.subs)∧e=e'∧True:=by
 subst h he;exact⟨rfl,rfl,.refl _,.refl _,rfl,trivial⟩
set_option maxHeartbeats 4000000 in
theorem addB_fn (O:Opq) (f:Feed) (l:List Change) (hi:inF f) (hll:l.length≤1099511627) (hld:∀ c∈l,inC c∧c.doc.length≤1099511627):Fn prog 99 [.agg (f.enc O),.sl true 0 false 4 (O.o (Chs.enc O) l)] [] [.agg (Feed.enc O (O.o addR f l)),.int .i64 (O.o addE f l)] []:=by
 have hl:=hi.1
 have hs:=hi.2.1
 have hl1:=Chs.len O f.changes
 have hl2:=Subs.len O f.subs
 have hl3:=Chs.len O l
 have hE:O.o feedErr f=0 ↔ mayF f=true:=by rw[O.h,feedErr_zero]
 by_cases hm:mayF f=true
 ·have hE0:O.o feedErr f=0:=hE.2 hm
  obtain⟨q1,q2,q3,q4,_⟩:=(mayF_iff.1 hm).1
  have hE2:O.o feedErr (addF f l)=0 ↔ mayF (addF f l)=true:=by rw[O.h,feedErr_zero]
  have hgd:∀ c∈(addF f l).changes,inC c∧c.doc.length≤1099511627776:=fun c hc=>by
   rcases List.mem_append.1 hc with h|h
   ·exact inF_c hi c h
   ·exact⟨(hld c h).1,by have:=(hld c h).2;omega⟩
  have hgl:(addF f l).changes.length≤1099511627776:=by rw[addF_len];omega
  have hgs:(addF f l).subs.length≤1099511627776:=by show f.subs.length≤_;omega
  have hgc:O.o (Chs.enc O) (addF f l).changes=O.o (Chs.enc O) f.changes++O.o (Chs.enc O) l:=by simp only [O.h];simp [addF,Chs.enc]
  refine go (fn:=Proofs.Tryz.f99) (n:=40) (rv:=[ResultVar.cell 4 44,ResultVar.tmp 5]) rfl (by decide) rfl (by decide +kernel) rfl rfl (by simp) fun F L C=>?_
  cbv
  (repeat' first|(refine Na ?_ fun _ _=>?_;(focus lia);cbv)|(refine CallThen.mk _ _ (C.fn (fcheck_fn O f (by lia) (by lia) (inF_c hi))) ?_;cbv)|(refine CallThen.mk _ _ (C.fn (ownW_fn O f hl hs (inF_d hi))) ?_;cbv)|(refine CallThen.mk _ _ (C.fn (clipC_fn O f.changes hl)) ?_;cbv)|(refine CallThen.mk _ _ (C.fn (changesB_fn O l hll (fun c hc=>(hld c hc).2))) ?_;cbv)|(refine Nl fun _ _ hq=>?_;(try simp only [lenS] at hq);cbv)|(refine Nm fun _ _=>?_;cbv)|(refine Br.t ?_ ?_;(focus first|assumption|lia);cbv)|(refine Br.f ?_ ?_;(focus first|assumption|lia);cbv)|(refine Br.mk (fun _=>?_) (fun _=>?_)<;>cbv)|(refine Need.mk ?_ ?_;rotate_left;cbv)|(refine R0 ?_;cbv))
  all_goals try(clear hgd hE2 hgc;lia)
  ·obtain⟨x1,x2⟩:=addE_no hm (show mayF (addF f l)=false from mayF_head fun h=>by have h3:f.total+l.length≤2147483647:=h.2.2.1;lia)
   exact retW (by simp only [O.h];exact x2) (by simp only [O.h];exact x1)
  ·rename_i n1 e1 n2 e2 h1 n3 e3 n4 e4 h2
   have hl0:l=[]:=List.eq_nil_of_length_eq_zero (by rw[← hl3,h2];rfl)
   have eg:addF f l=⟨f.base,n4,f.changes,f.subs⟩:=by rw[addF,hl0,e4,e3,hl3,hl0,List.append_nil]
   rw[eg] at hgd hgl hgs hE2
   have hgf:mayF (addF f l)=mayF ⟨f.base,n4,f.changes,f.subs⟩:=by rw[eg]
   clear hgc
   (repeat' first|(refine Na ?_ fun _ _=>?_;(focus lia);cbv)|(refine CallThen.mk _ _ (C.fn (fcheckA_fn O ⟨f.base,n4,f.changes,f.subs⟩ (.inr rfl) (.inr rfl) hgl hgs hgd)) ?_;cbv)|(refine Nl fun _ _ hq=>?_;(try simp only [lenS] at hq);cbv)|(refine Nm fun _ _=>?_;cbv)|(refine Br.t ?_ ?_;(focus first|assumption|lia);cbv)|(refine Br.f ?_ ?_;(focus first|assumption|lia);cbv)|(refine Br.mk (fun _=>?_) (fun _=>?_)<;>cbv)|(refine Need.mk ?_ ?_;rotate_left;cbv)|(refine R0 ?_;cbv))
   ·rename_i h3
    obtain⟨x1,x2⟩:=addE_ok (l:=l) hm (by rw[hgf];exact hE2.1 h3)
    exact retW (f:=⟨f.base,n4,f.changes,f.subs⟩) (by simp only [O.h];rw[x2];exact eg) (by simp only [O.h];exact x1)
   ·rename_i h3
    obtain⟨x1,x2⟩:=addE_no (l:=l) hm (by rw[hgf];simpa using fun h=>h3 (hE2.2 h))
    exact retW (by simp only [O.h];exact x2) (by simp only [O.h];exact x1)
  ·rename_i n1 e1 n2 e2 h1 n3 e3 n4 e4 h2 R eR
   have eg:addF f l=⟨f.base,n4,f.changes++l,f.subs⟩:=by rw[addF,e4,e3,hl3]
   have eR2:R=O.o (Chs.enc O) (f.changes++l):=by rw[eR,← hgc];rfl
   subst eR2
   rw[eg] at hgd hgl hgs hE2
   have hgf:mayF (addF f l)=mayF ⟨f.base,n4,f.changes++l,f.subs⟩:=by rw[eg]
   clear hgc
   obtain⟨w,hw⟩:∃ w,w=f.changes++l:=⟨_,rfl⟩
   rw[← hw] at hgd hgl hgs hE2 hgf eg ⊢
   (repeat' first|(refine Na ?_ fun _ _=>?_;(focus lia);cbv)|(refine CallThen.mk _ _ (C.fn (fcheckA_fn O ⟨f.base,n4,w,f.subs⟩ (.inl rfl) (.inr rfl) hgl hgs hgd)) ?_;cbv)|(refine RetThen.mk [] [2368] ?_;cbv)|(refine Nl fun _ _ hq=>?_;(try simp only [lenS] at hq);cbv)|(refine Nm fun _ _=>?_;cbv)|(refine Br.t ?_ ?_;(focus first|assumption|lia);cbv)|(refine Br.f ?_ ?_;(focus first|assumption|lia);cbv)|(refine Br.mk (fun _=>?_) (fun _=>?_)<;>cbv)|(refine Need.mk ?_ ?_;rotate_left;cbv)|(refine R0 ?_;cbv))
   ·rename_i h3
    obtain⟨x1,x2⟩:=addE_ok (l:=l) hm (by rw[hgf];exact hE2.1 h3)
    have x1':O.o addE f l=0:=by simp only [O.h];exact x1
    have x2':O.o addR f l=⟨f.base,n4,w,f.subs⟩:=by simp only [O.h];rw[x2];exact eg
    refine⟨?_,?_,Named.mk fun rs e=>⟨.of_eq ?_,?_⟩⟩
    ·show(O.o addR f l).base=_;rw[x2']
    ·show(O.o addR f l).total=_;rw[x2']
    ·show O.o (Chs.enc O) (O.o addR f l).changes=_;rw[x2',e]
    ·cbv
     refine⟨.of_eq ?_,x1',trivial⟩
     show O.o Subs.enc (O.o addR f l).subs=_;rw[x2']
   ·rename_i h3
    obtain⟨x1,x2⟩:=addE_no (l:=l) hm (by rw[hgf];simpa using fun h=>h3 (hE2.2 h))
    exact retW (by simp only [O.h];exact x2) (by simp only [O.h];exact x1)
 ·have hE0:O.o feedErr f=1:=by rw[O.h];exact feedErr_one (by simpa using hm)
  obtain⟨x1,x2⟩:=addE_bad (l:=l) (by simpa using hm)
  refine go (fn:=Proofs.Tryz.f99) (n:=40) (rv:=[ResultVar.cell 4 44,ResultVar.tmp 5]) rfl (by decide) rfl (by decide +kernel) rfl rfl (by simp) fun F L C=>?_
  cbv
  (repeat' first|(refine Na ?_ fun _ _=>?_;(focus lia);cbv)|(refine CallThen.mk _ _ (C.fn (fcheck_fn O f (by lia) (by lia) (inF_c hi))) ?_;cbv)|(refine Nl fun _ _ hq=>?_;(try simp only [lenS] at hq);cbv)|(refine Nm fun _ _=>?_;cbv)|(refine Br.t ?_ ?_;(focus first|assumption|lia);cbv)|(refine Br.f ?_ ?_;(focus first|assumption|lia);cbv)|(refine Br.mk (fun _=>?_) (fun _=>?_)<;>cbv)|(refine Need.mk ?_ ?_;rotate_left;cbv)|(refine R0 ?_;cbv))
  all_goals try lia
  simp only [O.h] at hE0 ⊢
  rw[x1,x2,hE0]
  (repeat' apply And.intro)<;>first|exact True.intro|rfl
theorem add_fn (O:Opq) (f:Feed) (l:List Change) (hi:inF f) (hll:l.length≤1099511627) (hld:∀ c∈l,inC c∧c.doc.length≤1099511627):Fn prog 99 [.agg (f.enc O),.sl false 0 false 4 (O.o (Chs.enc O) l)] [] [.agg (Feed.enc O (O.o addR f l)),.int .i64 (O.o addE f l)] [] :=
 (addB_fn O f l hi hll hld).wkA (.cons (.refl _) (.cons (.lend rfl) .nil))
end Go.Sym
