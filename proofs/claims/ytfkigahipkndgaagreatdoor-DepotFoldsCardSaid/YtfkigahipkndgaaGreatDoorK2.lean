/- Documents and answers alike; folds by the document. -/
import Derived.Test.YtfkigahipkndgaaGreatDoorJ12
import Derived.Lib.Strings
set_option linter.all false
set_option linter.unusedVariables false
set_option linter.unusedSimpArgs false
namespace Go.Sym
open Go
open Classical in
noncomputable def rfoldL (c : Change) : Bool → List Ndoc → List Ndoc
  | p, [] => if p = false then [⟨c.key, c.doc⟩] else []
  | p, d :: l => (if p = false ∧ ¬ slt d.key c.key then [⟨c.key, c.doc⟩] else []) ++ (if d.key ≠ c.key then [d] else []) ++ rfoldL c (p || decide (¬ slt d.key c.key)) l
theorem rfoldL_put {c:Change}:∀ l:List Ndoc,rfoldL c true l=l.filter fun d=>decide (d.key≠c.key)
 | []=>by simp [rfoldL]
 | d::l=>by
  rw[rfoldL,if_neg (by simp),Bool.true_or,rfoldL_put l,List.filter_cons]
  by_cases h:d.key=c.key<;>simp [h]
theorem filter_ne {c:ByteArray}:∀ {l:List Ndoc},(∀ d∈l,d.key≠c)→(l.filter fun d=>decide (d.key≠c))=l:=fun {l} h=>List.filter_eq_self.2 fun d hd=>by simpa using h d hd
theorem rfoldL_lo {c:Change}:∀ (l m:List Ndoc),(∀ d∈l,slt d.key c.key)→rfoldL c false (l++m)=l++rfoldL c false m
 | [],m,_=>rfl
 | d::l,m,h=>by
  have hd:=h d (by simp)
  rw[List.cons_append,rfoldL,if_neg (by simp [hd]),if_pos (slt_ne hd)]
  simp only [hd,not_true_eq_false,decide_false,Bool.or_false,List.nil_append]
  rw[rfoldL_lo l m fun x hx=>h x (List.mem_cons_of_mem _ hx)];rfl
theorem rfold_eq {c:Change} {l:List Ndoc} (hs:sortedK Ndoc.key l):rfoldL c (!c.has) l=foldD l c:=by
 have hlo:∀ d∈l.take (posK Ndoc.key l c.key),slt d.key c.key:=fun d hd=>by
  obtain⟨j,hj,rfl⟩:=List.getElem_of_mem hd
  rw[List.length_take] at hj
  rw[List.getElem_take]
  exact posK_lo (κ:=Ndoc.key) l c.key j _ (by omega) (by simp)
 have hhi:∀ d∈l.drop (posK Ndoc.key l c.key),¬ slt d.key c.key:=fun d hd=>by
  obtain⟨j,hj,rfl⟩:=List.getElem_of_mem hd
  rw[List.length_drop] at hj
  rw[List.getElem_drop]
  exact posK_hi hs c.key (posK Ndoc.key l c.key+j) _ (by omega) (by simp)
 have hno:getK Ndoc.key l c.key=false→∀ d∈l,d.key≠c.key:=fun h d hd e=>by
  have:=List.any_eq_false.1 h d hd
  simp [hasK,e] at this
 have hsplit:l=l.take (posK Ndoc.key l c.key)++l.drop (posK Ndoc.key l c.key):=(List.take_append_drop _ _).symm
 cases hh:c.has
 ·rw[Bool.not_false,rfoldL_put]
  cases g:getK Ndoc.key l c.key
  ·rw[foldD_no hh g,filter_ne (hno g)]
  ·obtain⟨x,hx,hp⟩:=posK_there hs g
   obtain⟨hlt,ex⟩:=List.getElem?_eq_some_iff.1 hx
   rw[foldD_del hh g,List.eraseIdx_eq_take_drop_succ]
   have hd:l.drop (posK Ndoc.key l c.key)=x::l.drop (posK Ndoc.key l c.key+1):=by rw[List.drop_eq_getElem_cons hlt,ex]
   conv=>lhs;rw[hsplit,hd]
   rw[List.filter_append,List.filter_cons,if_neg (by simp [hp]),filter_ne fun d hd=>slt_ne (hlo d hd),filter_ne fun d hd=>?_]
   obtain⟨j,hj,rfl⟩:=List.getElem_of_mem hd
   rw[List.length_drop] at hj
   rw[List.getElem_drop]
   have:=sortedK_lt hs (i:=posK Ndoc.key l c.key) (j:=posK Ndoc.key l c.key+1+j) (by omega) hx (List.getElem?_eq_getElem (by omega))
   rw[hp] at this
   exact fun e=>slt_ne this e.symm
 ·rw[Bool.not_true]
  cases g:getK Ndoc.key l c.key
  ·rw[foldD_ins hh g,insK]
   conv=>lhs;rw[hsplit]
   rw[rfoldL_lo _ _ hlo]
   congr 1
   have hn2:∀ d∈l.drop (posK Ndoc.key l c.key),d.key≠c.key:=fun d hd=>hno g d (List.mem_of_mem_drop hd)
   revert hhi hn2
   generalize l.drop (posK Ndoc.key l c.key)=m
   intro hhi hn2
   cases m with
   | nil=>simp [rfoldL]
   | cons d m =>
    have hd:=hhi d (by simp)
    rw[rfoldL,if_pos ⟨rfl,hd⟩,if_pos (hn2 d (by simp))]
    simp only [hd,not_false_eq_true,decide_true,Bool.or_true]
    rw[rfoldL_put,filter_ne fun x hx=>hn2 x (List.mem_cons_of_mem _ hx)];rfl
  ·obtain⟨x,hx,hp⟩:=posK_there hs g
   obtain⟨hlt,ex⟩:=List.getElem?_eq_some_iff.1 hx
   have hd:l.drop (posK Ndoc.key l c.key)=x::l.drop (posK Ndoc.key l c.key+1):=by rw[List.drop_eq_getElem_cons hlt,ex]
   rw[foldD_set hh g,List.set_eq_take_append_cons_drop,if_pos hlt]
   conv=>lhs;rw[hsplit,hd]
   rw[rfoldL_lo _ _ hlo]
   congr 1
   have hxn:¬ slt x.key c.key:=by rw[hp];exact slt_irrefl _
   rw[rfoldL,if_pos ⟨rfl,hxn⟩,if_neg (by simp [hp])]
   simp only [hxn,not_false_eq_true,decide_true,Bool.or_true]
   rw[rfoldL_put,filter_ne fun d hd=>?_]
   ·rfl
   ·obtain⟨j,hj,rfl⟩:=List.getElem_of_mem hd
    rw[List.length_drop] at hj
    rw[List.getElem_drop]
    have:=sortedK_lt hs (i:=posK Ndoc.key l c.key) (j:=posK Ndoc.key l c.key+1+j) (by omega) hx (List.getElem?_eq_getElem (by omega))
    rw[hp] at this
    exact fun e=>slt_ne this e.symm
open Go Go.Proofs.Tryz
set_option maxRecDepth 100000
set_option maxHeartbeats 4000000 in
theorem fcheckB_fn (O:Opq) (f:Feed) (hl:f.changes.length≤1099511627776) (hs:f.subs.length≤1099511627776) (hd:∀ c∈f.changes,inC c∧c.doc.length≤1099511627776):Fn prog 91 [.agg (f.encB O true true)] [] [.int .i64 (O.o feedErr f)] []:=by
  have hl1:=Chs.len O f.changes
  have hl2:=Subs.len O f.subs
  have hbad:¬ headF f→O.o feedErr f=1:=fun h=>by rw[O.h];exact feedErr_one (mayF_head h)
  obtain⟨N,hN⟩:∃ N:Nat,N=f.changes.length:=⟨_,rfl⟩
  obtain⟨M,hM⟩:∃ N:Nat,N=f.subs.length:=⟨_,rfl⟩
  obtain⟨z,hz⟩:∃ z:Nat,z=0:=⟨_,rfl⟩
  refine go (fn:=Proofs.Tryz.f91) (n:=121) (rv:=[ResultVar.tmp 2]) rfl (by decide) rfl (by decide +kernel) rfl rfl (by simp) fun F L C=>?_
  cbv
  (repeat' first|(refine Na ?_ fun _ _=>?_;(focus lia);cbv)|(refine Nl fun _ _ hq=>?_;(try simp only [lenS] at hq);cbv)|(refine Nm fun _ _=>?_;cbv)|(refine Br.t ?_ ?_;(focus first|assumption|lia);cbv)|(refine Br.f ?_ ?_;(focus first|assumption|lia);cbv)|(refine Br.mk (fun _=>?_) (fun _=>?_)<;>cbv)|(refine Need.mk ?_ ?_;rotate_left;cbv)|(refine R0 ?_;cbv))
  all_goals try first
    | lia
    | (refine⟨hbad fun h=>?_,trivial⟩;obtain⟨q1,q2,q3,q4,q5⟩:=h;lia)
  have hh:headF f:=⟨by lia,by lia,by lia,by lia,by lia⟩
  have hb0:=hh.1
  have hb1:f.base≤2147483647:=by have:=hh.2.1;have:=hh.2.2.1;omega
  refine LoopThen.mk (C.loopAt (ι:=Nat) [(2,4),(42,78)] (fun k=>[(2,.int .i64 0),(42,.int .i64 k)]) (fun _=>[(192,.box (f.encB O true true))])
    (fun k=>k≤f.changes.length∧allC f k) (fun k=>N-k) (by decide +kernel) (Start.mk z [] [] ⟨by lia,by rw[hz];exact allC_zero f⟩ (by cbv;(repeat' apply And.intro)<;>first|exact True.intro|exact WkR.refl _|rfl|lia)) ?_)
  intro k g
  cbv
  have g1:k≤f.changes.length:=g.1
  have g2:allC f k:=g.2
  clear g
  by_cases hk:k<f.changes.length
  · obtain⟨x,hx⟩:∃ x,f.changes[k]?=some x:=⟨f.changes[k],by simp [hk]⟩
    have hi:=hd x (List.mem_of_getElem? hx)
    have hc:¬ okC f.base x k→O.o feedErr f=1:=fun h=>by rw[O.h];exact feedErr_one (mayF_badC hx h)
    have hst:okC f.base x k→allC f (k+1):=allC_step g2 hx
    have hi1:=hi.1
    have hi2:=hi.2
    clear hbad hd g2 hi
    obtain⟨p,key,has,doc⟩:=x
    have hp:∀ n:Int,n=k+1→(IntKind.i64.wrap (p-f.base)=n ↔ p=f.base+n):=fun n hn=>wrap_pos hi1 hb0 hb1 (by omega) (by omega)
    have hn0:O.o docErr doc=0 ↔ may doc=true:=by rw[O.h,docErr_zero]
    have hn1:O.o isKey key=isKey key:=by rw[O.h]
    have hn2:(O.o Doc.enc doc).length=doc.length:=by rw[O.h,Doc.enc_len]
    have hn3:doc=[] ↔ doc.length=0:=by simp
    cases has<;>(repeat' first|(refine Na ?_ fun _ _=>?_;(focus lia);cbv)|(refine Ex.known O (Change.enc O) rfl hx ?_ ?_;(focus lia);cbv)|(refine CallThen.bool (C.fn (key_fn O key)) (fun _=>?_) (fun _=>?_)<;>cbv)|(refine CallThen.mk _ _ (C.fn (check_fn O doc hi2)) ?_;cbv)|(refine Back.up [] [] ?_ ?_ fun _ _=>?_;rotate_left 2;cbv;refine And.intro ?_ ?_)|(refine Nl fun _ _ hq=>?_;(try simp only [lenS] at hq);cbv)|(refine Nm fun _ _=>?_;cbv)|(refine Br.t ?_ ?_;(focus first|assumption|lia);cbv)|(refine Br.f ?_ ?_;(focus first|assumption|lia);cbv)|(refine Br.mk (fun _=>?_) (fun _=>?_)<;>cbv)|(refine Need.mk ?_ ?_;rotate_left;cbv)|(refine R0 ?_;cbv))
    all_goals(repeat' apply And.intro)
    all_goals try first
      | exact True.intro
      | exact WkR.refl _
      | lia
    all_goals try first
      | (refine hc fun h=>?_;obtain⟨a1,a2,a3,a4⟩:=h;simp only at a1 a2 a3 a4;clear hc hst hx;grind)
      | (refine hst ⟨?_,?_,?_,?_⟩<;>simp only<;>clear hc hst hx<;>grind)
    all_goals trace_state
  · clear hbad
    (repeat' first|(refine Na ?_ fun _ _=>?_;(focus lia);cbv)|(refine Nl fun _ _ hq=>?_;(try simp only [lenS] at hq);cbv)|(refine Nm fun _ _=>?_;cbv)|(refine Br.t ?_ ?_;(focus first|assumption|lia);cbv)|(refine Br.f ?_ ?_;(focus first|assumption|lia);cbv)|(refine Br.mk (fun _=>?_) (fun _=>?_)<;>cbv)|(refine Need.mk ?_ ?_;rotate_left;cbv)|(refine R0 ?_;cbv))
    all_goals try lia
    have hal:allC f f.changes.length:=by
      have:k=f.changes.length:=by lia
      rwa [← this]
    refine LoopThen.mk (C.loopAt (ι:=Nat) [(2,2),(5,6),(82,121)] (fun k=>[(2,.int .i64 0),(82,.int .i64 k)]) (fun _=>[(192,.box (f.encB O true true))])
      (fun k=>k≤f.subs.length∧allS f k) (fun k=>M-k) (by decide +kernel) (Start.mk z [] [] ⟨by lia,by rw[hz];exact allS_zero f⟩ (by cbv;(repeat' apply And.intro)<;>first|exact True.intro|exact WkR.refl _|rfl|lia)) ?_)
    intro i g
    cbv
    have g3:i≤f.subs.length:=g.1
    have g4:allS f i:=g.2
    clear g g2
    by_cases hi:i<f.subs.length
    · obtain⟨x,hx⟩:∃ x,f.subs[i]?=some x:=⟨f.subs[i],by simp [hi]⟩
      obtain⟨y,hy⟩:∃ y,f.subs[i-1]?=some y:=⟨f.subs[i-1],by simp⟩
      have hc:¬ okS f.base f.total f.subs x i→O.o feedErr f=1:=fun h=>by rw[O.h];exact feedErr_one (mayF_badS hx h)
      have hst:okS f.base f.total f.subs x i→allS f (i+1):=allS_step g4 hx
      clear g4 hal hd hh
      obtain⟨nm,p⟩:=x
      obtain⟨nm2,p2⟩:=y
      have hn1:O.o isKey nm=isKey nm:=by rw[O.h]
      (repeat' first|(refine Na ?_ fun _ _=>?_;(focus lia);cbv)|(refine Ex.known O Sub.enc rfl hx ?_ ?_;(focus lia);cbv)|(refine Ex.known O Sub.enc rfl hy ?_ ?_;(focus lia);cbv)|(refine CallThen.bool (C.fn (key_fn O nm)) (fun _=>?_) (fun _=>?_)<;>cbv)|(refine Back.up [] [] ?_ ?_ fun _ _=>?_;rotate_left 2;cbv;refine And.intro ?_ ?_)|(refine Nl fun _ _ hq=>?_;(try simp only [lenS] at hq);cbv)|(refine Nm fun _ _=>?_;cbv)|(refine Br.t ?_ ?_;(focus first|assumption|lia);cbv)|(refine Br.f ?_ ?_;(focus first|assumption|lia);cbv)|(refine Br.mk (fun _=>?_) (fun _=>?_)<;>cbv)|(refine Need.mk ?_ ?_;rotate_left;cbv)|(refine R0 ?_;cbv))
      all_goals(repeat' apply And.intro)
      all_goals try first
        | exact True.intro
        | exact WkR.refl _
        | lia
      all_goals try first
        | (refine hc fun h=>?_;obtain⟨a1,a2,a3,a4⟩:=h;simp only at a1 a2 a3 a4;first|(clear hc hst hx hy a4;grind)|(obtain⟨g,hg,hgs⟩:=a4 (by lia);rw[hy] at hg;cases hg;clear hc hst hx hy a4;grind [slt_asymm,slt_irrefl]))
        | (refine hst ⟨?_,?_,?_,fun h0=>⟨_,hy,?_⟩⟩<;>simp only<;>clear hc hst hx hy<;>first|lia|grind|exact slt_not (by assumption)|skip)
      all_goals trace_state
    · (repeat' first|(refine Na ?_ fun _ _=>?_;(focus lia);cbv)|(refine Nl fun _ _ hq=>?_;(try simp only [lenS] at hq);cbv)|(refine Nm fun _ _=>?_;cbv)|(refine Br.t ?_ ?_;(focus first|assumption|lia);cbv)|(refine Br.f ?_ ?_;(focus first|assumption|lia);cbv)|(refine Br.mk (fun _=>?_) (fun _=>?_)<;>cbv)|(refine Need.mk ?_ ?_;rotate_left;cbv)|(refine R0 ?_;cbv))
      all_goals try lia
      all_goals
        refine⟨?_,trivial⟩
        simp only [O.h]
        rw [feedErr, if_pos (mayF_iff.2 ⟨hh, hal, by have : i = f.subs.length := by lia
                                                     rwa [← this]⟩)]
theorem feed_wk {O:Opq} {f:Feed} {b1 b2 f1 f2:Bool} {n1 n2:Nat} (h1:b1=true∨n1=0) (h2:b2=true∨n2=0):WkA (.agg (f.encB O true true)) (.agg [.int .i64 f.base,.int .i64 f.total,.sl b1 n1 f1 4 (O.o (Chs.enc O) f.changes),.sl b2 n2 f2 2 (O.o Subs.enc f.subs)]):=by
  refine .agg' (.cons (.refl _) (.cons (.refl _) (.cons ?_ (.cons ?_ .nil))))
  · cases b1 with
    | true=>exact .bor (by cases f1<;>rfl) (.refl _)
    | false => obtain rfl : n1 = 0 := by simpa using h1
               exact .lend (by cases f1<;>rfl)
  · cases b2 with
    | true=>exact .bor (by cases f2<;>rfl) (.refl _)
    | false => obtain rfl : n2 = 0 := by simpa using h2
               exact .lend (by cases f2<;>rfl)
theorem fcheckA_fn (O:Opq) (f:Feed) {b1 b2 f1 f2:Bool} {n1 n2:Nat} (h1:b1=true∨n1=0) (h2:b2=true∨n2=0) (hl:f.changes.length≤1099511627776) (hs:f.subs.length≤1099511627776) (hd:∀ c∈f.changes,inC c∧c.doc.length≤1099511627776) :
  Fn prog 91 [.agg [.int .i64 f.base,.int .i64 f.total,.sl b1 n1 f1 4 (O.o (Chs.enc O) f.changes),.sl b2 n2 f2 2 (O.o Subs.enc f.subs)]] [] [.int .i64 (O.o feedErr f)] [] :=
 (fcheckB_fn O f hl hs hd).wkA (.cons (feed_wk h1 h2) .nil)
theorem fcheck_fn (O:Opq) (f:Feed) (hl:f.changes.length≤1099511627776) (hs:f.subs.length≤1099511627776) (hd:∀ c∈f.changes,inC c∧c.doc.length≤1099511627776):Fn prog 91 [.agg (f.enc O)] [] [.int .i64 (O.o feedErr f)] [] :=
 fcheckA_fn O f (.inr rfl) (.inr rfl) hl hs hd
theorem rkey_fn (O:Opq) (s:ByteArray):Fn prog 84 [.str s] [] [.bool (O.o isKey s)] []:=by
 refine go (fn:=Proofs.Tryz.f84) (n:=10) (rv:=[ResultVar.tmp 2]) rfl (by decide) rfl (by decide +kernel) rfl rfl (by simp) fun F L C=>?_
 cbv
 (repeat' first|(refine Na ?_ fun _ _=>?_;(focus lia);cbv)|(refine Nl fun _ _ hq=>?_;(try simp only [lenS] at hq);cbv)|(refine Nm fun _ _=>?_;cbv)|(refine Br.t ?_ ?_;(focus first|assumption|lia);cbv)|(refine Br.f ?_ ?_;(focus first|assumption|lia);cbv)|(refine Br.mk (fun _=>?_) (fun _=>?_)<;>cbv)|(refine Need.mk ?_ ?_;rotate_left;cbv)|(refine R0 ?_;cbv))
 all_goals(try subst_vars)
 all_goals(try simp only [O.h,natTo,natPred,emp] at *)
 all_goals(try subst_vars)
 all_goals(repeat' apply And.intro)
 all_goals first
  | exact True.intro
  | exact WkR.refl _
  | lia
  | (simp_all [isKey];done)
  | (simp_all [isKey]<;>lia)
  | (grind [isKey])
  | skip
set_option maxHeartbeats 4000000 in
theorem rmayB_fn (O:Opq) (f:Feed) (hl:f.changes.length≤1099511627776) (hs:f.subs.length≤1099511627776) (hd:∀ c∈f.changes,c.doc.length≤1099511627776∧∀ x∈c.doc,x.path.size≤9223372036854775807):Fn prog 35 [.agg (f.encB O true true)] [] [.bool (O.o mayF f)] []:=by
  have hl1:=Chs.len O f.changes
  have hl2:=Subs.len O f.subs
  have hbad:¬ headF f→O.o mayF f=false:=fun h=>by rw[O.h];exact mayF_head h
  obtain⟨N,hN⟩:∃ N:Nat,N=f.changes.length:=⟨_,rfl⟩
  obtain⟨M,hM⟩:∃ N:Nat,N=f.subs.length:=⟨_,rfl⟩
  obtain⟨z,hz⟩:∃ z:Nat,z=0:=⟨_,rfl⟩
  refine go (fn:=Proofs.Tryz.f35) (n:=127) (rv:=[ResultVar.tmp 2]) rfl (by decide) rfl (by decide +kernel) rfl rfl (by simp) fun F L C=>?_
  cbv
  (repeat' first|(refine Na ?_ fun _ _=>?_;(focus lia);cbv)|(refine Nl fun _ _ hq=>?_;(try simp only [lenS] at hq);cbv)|(refine Nm fun _ _=>?_;cbv)|(refine Br.t ?_ ?_;(focus first|assumption|lia);cbv)|(refine Br.f ?_ ?_;(focus first|assumption|lia);cbv)|(refine Br.mk (fun _=>?_) (fun _=>?_)<;>cbv)|(refine Need.mk ?_ ?_;rotate_left;cbv)|(refine R0 ?_;cbv))
  all_goals try first
    | lia
    | (refine⟨hbad fun h=>?_,trivial⟩;obtain⟨q1,q2,q3,q4,q5⟩:=h;lia)
  have hh:headF f:=⟨by lia,by lia,by lia,by lia,by lia⟩
  have hb0:=hh.1
  have hb1:f.base≤2147483647:=by have:=hh.2.1;have:=hh.2.2.1;omega
  refine LoopThen.mk (C.loopAt (ι:=Nat) [(2,4),(39,81)] (fun k=>[(2,.bool false),(3,.int .i64 k)]) (fun _=>[(192,.box (f.encB O true true))])
    (fun k=>k≤f.changes.length∧allC f k) (fun k=>N-k) (by decide +kernel) (Start.mk z [] [] ⟨by lia,by rw[hz];exact allC_zero f⟩ (by cbv;(repeat' apply And.intro)<;>first|exact True.intro|exact WkR.refl _|rfl|lia)) ?_)
  intro k g
  cbv
  have g1:k≤f.changes.length:=g.1
  have g2:allC f k:=g.2
  clear g
  by_cases hk:k<f.changes.length
  · obtain⟨x,hx⟩:∃ x,f.changes[k]?=some x:=⟨f.changes[k],by simp [hk]⟩
    have hi:=hd x (List.mem_of_getElem? hx)
    have hc:¬ okC f.base x k→O.o mayF f=false:=fun h=>by rw[O.h];exact mayF_badC hx h
    have hst:okC f.base x k→allC f (k+1):=allC_step g2 hx
    have hi2:=hi.1
    have hi3:=hi.2
    clear hbad hd g2 hi
    obtain⟨p,key,has,doc⟩:=x
    have hn0:O.o may doc=may doc:=by rw[O.h]
    have hn1:O.o isKey key=isKey key:=by rw[O.h]
    have hn2:(O.o Doc.enc doc).length=doc.length:=by rw[O.h,Doc.enc_len]
    have hn3:doc=[] ↔ doc.length=0:=by simp
    cases has<;>(repeat' first|(refine Na ?_ fun _ _=>?_;(focus lia);cbv)|(refine Ex.known O (Change.enc O) rfl hx ?_ ?_;(focus lia);cbv)|(refine CallThen.bool (C.fn (rkey_fn O key)) (fun _=>?_) (fun _=>?_)<;>cbv)|(refine CallThen.bool (C.fn (may_fn O doc hi2 hi3)) (fun _=>?_) (fun _=>?_)<;>cbv)|(refine Back.up [] [] ?_ ?_ fun _ _=>?_;rotate_left 2;cbv;refine And.intro ?_ ?_)|(refine Nl fun _ _ hq=>?_;(try simp only [lenS] at hq);cbv)|(refine Nm fun _ _=>?_;cbv)|(refine Br.t ?_ ?_;(focus first|assumption|lia);cbv)|(refine Br.f ?_ ?_;(focus first|assumption|lia);cbv)|(refine Br.mk (fun _=>?_) (fun _=>?_)<;>cbv)|(refine Need.mk ?_ ?_;rotate_left;cbv)|(refine R0 ?_;cbv))
    all_goals(repeat' apply And.intro)
    all_goals try first
      | exact True.intro
      | exact WkR.refl _
      | lia
    all_goals try first
      | (refine hc fun h=>?_;obtain⟨a1,a2,a3,a4⟩:=h;simp only at a1 a2 a3 a4;clear hc hst hx hi3;grind)
      | (refine hst ⟨?_,?_,?_,?_⟩<;>simp only<;>clear hc hst hx hi3<;>grind)
    all_goals trace_state
  · clear hbad
    (repeat' first|(refine Na ?_ fun _ _=>?_;(focus lia);cbv)|(refine Nl fun _ _ hq=>?_;(try simp only [lenS] at hq);cbv)|(refine Nm fun _ _=>?_;cbv)|(refine Br.t ?_ ?_;(focus first|assumption|lia);cbv)|(refine Br.f ?_ ?_;(focus first|assumption|lia);cbv)|(refine Br.mk (fun _=>?_) (fun _=>?_)<;>cbv)|(refine Need.mk ?_ ?_;rotate_left;cbv)|(refine R0 ?_;cbv))
    all_goals try lia
    have hal:allC f f.changes.length:=by
      have:k=f.changes.length:=by lia
      rwa [← this]
    refine LoopThen.mk (C.loopAt (ι:=Nat) [(2,2),(5,6),(82,127)] (fun k=>[(2,.bool false),(5,.int .i64 k)]) (fun _=>[(192,.box (f.encB O true true))])
      (fun k=>k≤f.subs.length∧allS f k) (fun k=>M-k) (by decide +kernel) (Start.mk z [] [] ⟨by lia,by rw[hz];exact allS_zero f⟩ (by cbv;(repeat' apply And.intro)<;>first|exact True.intro|exact WkR.refl _|rfl|lia)) ?_)
    intro i g
    cbv
    have g3:i≤f.subs.length:=g.1
    have g4:allS f i:=g.2
    clear g g2
    by_cases hi:i<f.subs.length
    · obtain⟨x,hx⟩:∃ x,f.subs[i]?=some x:=⟨f.subs[i],by simp [hi]⟩
      obtain⟨y,hy⟩:∃ y,f.subs[i-1]?=some y:=⟨f.subs[i-1],by simp⟩
      have hc:¬ okS f.base f.total f.subs x i→O.o mayF f=false:=fun h=>by rw[O.h];exact mayF_badS hx h
      have hst:okS f.base f.total f.subs x i→allS f (i+1):=allS_step g4 hx
      clear g4 hal hd hh
      obtain⟨nm,p⟩:=x
      obtain⟨nm2,p2⟩:=y
      have hn1:O.o isKey nm=isKey nm:=by rw[O.h]
      (repeat' first|(refine Na ?_ fun _ _=>?_;(focus lia);cbv)|(refine Ex.known O Sub.enc rfl hx ?_ ?_;(focus lia);cbv)|(refine Ex.known O Sub.enc rfl hy ?_ ?_;(focus lia);cbv)|(refine CallThen.bool (C.fn (rkey_fn O nm)) (fun _=>?_) (fun _=>?_)<;>cbv)|(refine Back.up [] [] ?_ ?_ fun _ _=>?_;rotate_left 2;cbv;refine And.intro ?_ ?_)|(refine Nl fun _ _ hq=>?_;(try simp only [lenS] at hq);cbv)|(refine Nm fun _ _=>?_;cbv)|(refine Br.t ?_ ?_;(focus first|assumption|lia);cbv)|(refine Br.f ?_ ?_;(focus first|assumption|lia);cbv)|(refine Br.mk (fun _=>?_) (fun _=>?_)<;>cbv)|(refine Need.mk ?_ ?_;rotate_left;cbv)|(refine R0 ?_;cbv))
      all_goals(repeat' apply And.intro)
      all_goals try first
        | exact True.intro
        | exact WkR.refl _
        | lia
      all_goals try first
        | (refine hc fun h=>?_;obtain⟨a1,a2,a3,a4⟩:=h;simp only at a1 a2 a3 a4;first|(clear hc hst hx hy a4;grind)|(obtain⟨g,hg,hgs⟩:=a4 (by lia);rw[hy] at hg;cases hg;clear hc hst hx hy a4;grind [slt_asymm,slt_irrefl]))
        | (refine hst ⟨?_,?_,?_,fun h0=>⟨_,hy,?_⟩⟩<;>simp only<;>clear hc hst hx hy<;>first|lia|grind [slt_not']|skip)
      all_goals trace_state
    · (repeat' first|(refine Na ?_ fun _ _=>?_;(focus lia);cbv)|(refine Nl fun _ _ hq=>?_;(try simp only [lenS] at hq);cbv)|(refine Nm fun _ _=>?_;cbv)|(refine Br.t ?_ ?_;(focus first|assumption|lia);cbv)|(refine Br.f ?_ ?_;(focus first|assumption|lia);cbv)|(refine Br.mk (fun _=>?_) (fun _=>?_)<;>cbv)|(refine Need.mk ?_ ?_;rotate_left;cbv)|(refine R0 ?_;cbv))
      all_goals try lia
      all_goals
        refine⟨?_,trivial⟩
        simp only [O.h]
        exact mayF_iff.2 ⟨hh, hal, by have : i = f.subs.length := by lia
                                      rwa [← this]⟩
theorem rmayA_fn (O:Opq) (f:Feed) {b1 b2 f1 f2:Bool} {n1 n2:Nat} (h1:b1=true∨n1=0) (h2:b2=true∨n2=0) (hl:f.changes.length≤1099511627776) (hs:f.subs.length≤1099511627776) (hd:∀ c∈f.changes,c.doc.length≤1099511627776∧∀ x∈c.doc,x.path.size≤9223372036854775807) :
  Fn prog 35 [.agg [.int .i64 f.base,.int .i64 f.total,.sl b1 n1 f1 4 (O.o (Chs.enc O) f.changes),.sl b2 n2 f2 2 (O.o Subs.enc f.subs)]] [] [.bool (O.o mayF f)] [] :=
 (rmayB_fn O f hl hs hd).wkA (.cons (feed_wk h1 h2) .nil)
theorem rmayF_fn (O:Opq) (f:Feed) (hl:f.changes.length≤1099511627776) (hs:f.subs.length≤1099511627776) (hd:∀ c∈f.changes,c.doc.length≤1099511627776∧∀ x∈c.doc,x.path.size≤9223372036854775807):Fn prog 35 [.agg (f.enc O)] [] [.bool (O.o mayF f)] [] :=
 rmayA_fn O f (.inr rfl) (.inr rfl) hl hs hd
theorem lightC_fn (O:Opq) (l:List Change) (hl:l.length≤9223372036854775807):Fn prog 18 [.sl false 0 false 4 (O.o (Chs.enc O) l)] [] [.bool (O.o lightC l)] []:=by
  have hlen:=Chs.len O l
  obtain⟨N,hN⟩:∃ N:Nat,N=l.length:=⟨_,rfl⟩
  obtain⟨z,hz⟩:∃ z:Nat,z=0:=⟨_,rfl⟩
  refine go (fn:=Proofs.Tryz.f18) (n:=23) (rv:=[ResultVar.tmp 2]) rfl (by decide) rfl (by decide +kernel) rfl rfl (by simp) fun F L C=>?_
  cbv
  (repeat' first|(refine Na ?_ fun _ _=>?_;(focus lia);cbv)|(refine Nl fun _ _ hq=>?_;(try simp only [lenS] at hq);cbv)|(refine Nm fun _ _=>?_;cbv)|(refine Br.t ?_ ?_;(focus first|assumption|lia);cbv)|(refine Br.f ?_ ?_;(focus first|assumption|lia);cbv)|(refine Br.mk (fun _=>?_) (fun _=>?_)<;>cbv)|(refine Need.mk ?_ ?_;rotate_left;cbv)|(refine R0 ?_;cbv))
  refine LoopThen.mk (C.loopAt (ι:=Nat) [(2,20)] (fun k=>[(2,.bool false),(3,.int .i64 k)]) (fun _=>[])
    (fun k=>k≤l.length∧k≤60∧∀ (j:Nat) c,j<k→l[j]?=some c→c.doc.length≤20) (fun k=>N-k) (by decide +kernel) (Start.mk z [] [] ⟨by lia,by lia,fun j c hj=>by omega⟩ (by cbv;(repeat' apply And.intro)<;>first|exact True.intro|exact WkR.refl _|rfl|lia)) ?_)
  intro k g
  cbv
  have g1:k≤l.length:=g.1
  have g2:k≤60:=g.2.1
  have g3:=g.2.2
  clear g
  by_cases hk:k<l.length
  · obtain⟨x,hx⟩:∃ x,l[k]?=some x:=⟨l[k],by simp [hk]⟩
    have hn2:(O.o Doc.enc x.doc).length=x.doc.length:=by rw[O.h,Doc.enc_len]
    (repeat' first|(refine Na ?_ fun _ _=>?_;(focus lia);cbv)|(refine Ex.known O (Change.enc O) rfl hx ?_ ?_;(focus lia);cbv)|(refine Back.up [] [] ?_ ?_ fun _ _=>?_;rotate_left 2;cbv;refine And.intro ?_ ?_)|(refine Nl fun _ _ hq=>?_;(try simp only [lenS] at hq);cbv)|(refine Nm fun _ _=>?_;cbv)|(refine Br.t ?_ ?_;(focus first|assumption|lia);cbv)|(refine Br.f ?_ ?_;(focus first|assumption|lia);cbv)|(refine Br.mk (fun _=>?_) (fun _=>?_)<;>cbv)|(refine Need.mk ?_ ?_;rotate_left;cbv)|(refine R0 ?_;cbv))
    all_goals(repeat' apply And.intro)
    all_goals try first
      | exact True.intro
      | exact WkR.refl _
      | (clear hx g3;lia)
    all_goals simp only [O.h] at *
    all_goals first
      | exact lightC_step g3 hx (by clear hx g3;lia)
      | exact lightC_bad (List.mem_of_getElem? hx) (by clear hx g3;lia)
      | (rw[lightC_long (by clear hx g3;lia)];done)
      | (have h60 : ¬ l.length ≤ 60 := by (clear hx g3; lia)
         rw[lightC_long (by omega)]
         first|rfl|(clear hx g3;lia)|(symm;rw[decide_eq_false_iff_not];clear hx g3;lia))
      | trace_state
  · (repeat' first|(refine Na ?_ fun _ _=>?_;(focus lia);cbv)|(refine Nl fun _ _ hq=>?_;(try simp only [lenS] at hq);cbv)|(refine Nm fun _ _=>?_;cbv)|(refine Br.t ?_ ?_;(focus first|assumption|lia);cbv)|(refine Br.f ?_ ?_;(focus first|assumption|lia);cbv)|(refine Br.mk (fun _=>?_) (fun _=>?_)<;>cbv)|(refine Need.mk ?_ ?_;rotate_left;cbv)|(refine R0 ?_;cbv))
    all_goals(repeat' apply And.intro)
    all_goals try first
      | exact True.intro
      | lia
    all_goals
      simp only [O.h]
      exact lightC_ok (by clear g3;lia) fun j c hj=>g3 j c (by clear g3;lia)
theorem lightF_fn (O:Opq) (f:Feed) (hl:f.changes.length≤9223372036854775807):Fn prog 87 [.agg (f.enc O)] [] [.bool (O.o lightF f)] []:=by
 have hlen:=Subs.len O f.subs
 have h1:O.o lightC f.changes=lightC f.changes:=by rw[O.h]
 refine go (fn:=Proofs.Tryz.f87) (n:=11) (rv:=[ResultVar.tmp 2]) rfl (by decide) rfl (by decide +kernel) rfl rfl (by simp) fun F L C=>?_
 cbv
 (repeat' first|(refine Na ?_ fun _ _=>?_;(focus lia);cbv)|(refine CallThen.bool (C.fn (lightC_fn O f.changes hl)) (fun _=>?_) (fun _=>?_)<;>cbv)|(refine Nl fun _ _ hq=>?_;(try simp only [lenS] at hq);cbv)|(refine Nm fun _ _=>?_;cbv)|(refine Br.t ?_ ?_;(focus first|assumption|lia);cbv)|(refine Br.f ?_ ?_;(focus first|assumption|lia);cbv)|(refine Br.mk (fun _=>?_) (fun _=>?_)<;>cbv)|(refine Need.mk ?_ ?_;rotate_left;cbv)|(refine R0 ?_;cbv))
 all_goals
  refine⟨?_,trivial⟩
  simp only [O.h] at *
 ·rw[lightF,decide_eq_true_eq];exact⟨by assumption,by lia⟩
 ·rw[lightF,decide_eq_false_iff_not];rintro ⟨a,b⟩;lia
 ·rename_i h;rw[lightF,decide_eq_false_iff_not,h];rintro ⟨a,b⟩;cases a
theorem news_fn (O:Opq) (d e:List Change) (hd:d.length≤1099511627776) (hdd:∀ c∈d,c.doc.length≤1099511627776):Fn prog 65 [.sl false 0 false 4 (O.o (Chs.enc O) d),.sl false 0 false 4 (O.o (Chs.enc O) e)] [] [.bool (O.o sameC d e)] []:=by
 have hlen:=Chs.len O d
 have hlen2:=Chs.len O e
 obtain⟨N,hN⟩:∃ N:Nat,N=d.length:=⟨_,rfl⟩
 obtain⟨z,hz⟩:∃ z:Nat,z=0:=⟨_,rfl⟩
 refine go (fn:=Proofs.Tryz.f65) (n:=66) (rv:=[ResultVar.tmp 4]) rfl (by decide) rfl (by decide +kernel) rfl rfl (by simp) fun F L C=>?_
 cbv
 (repeat' first|(refine Na ?_ fun _ _=>?_;(focus lia);cbv)|(refine Nl fun _ _ hq=>?_;(try simp only [lenS] at hq);cbv)|(refine Nm fun _ _=>?_;cbv)|(refine Br.t ?_ ?_;(focus first|assumption|lia);cbv)|(refine Br.f ?_ ?_;(focus first|assumption|lia);cbv)|(refine Br.mk (fun _=>?_) (fun _=>?_)<;>cbv)|(refine Need.mk ?_ ?_;rotate_left;cbv)|(refine R0 ?_;cbv))
 all_goals try first
  | (refine⟨?_,trivial⟩;simp only [O.h];exact sameC_len (by lia))
 refine LoopThen.mk (C.loopAt (ι:=Nat) [(4,5),(11,67)] (fun k=>[(4,.bool false),(5,.int .i64 k)]) (fun _=>[])
  (fun k=>k≤d.length∧∀ (j:Nat),j<k→d[j]?=e[j]?) (fun k=>N-k) (by decide +kernel) (Start.mk z [] [] ⟨by lia,fun j hj=>by omega⟩ (by cbv;(repeat' apply And.intro)<;>first|exact True.intro|exact WkR.refl _|rfl|lia)) ?_)
 intro k g
 cbv
 have g1:k≤d.length:=g.1
 have g2:=g.2
 clear g
 by_cases hk:k<d.length
 ·obtain⟨x,hx⟩:∃ x,d[k]?=some x:=⟨d[k],by simp [hk]⟩
  obtain⟨y,hy⟩:∃ y,e[k]?=some y:=⟨e[k]'(by lia),by simp⟩
  have hxd:=hdd x (List.mem_of_getElem? hx)
  have hne:x≠y→O.o sameC d e=false:=fun h=>by simp only [O.h];exact sameC_at (k:=k) (by rw[hx,hy];simpa using h)
  have hst:x=y→∀ (j:Nat),j<k+1→d[j]?=e[j]?:=fun h j hj=>by
   by_cases ej:j=k
   ·subst ej;rw[hx,hy,h]
   ·exact g2 j (by omega)
  clear g2 hdd
  obtain⟨p,key,has,doc⟩:=x
  obtain⟨p',key',has',doc'⟩:=y
  have hsd:O.o sameDoc doc doc'=true ↔ doc=doc':=by rw[O.h];exact sameDoc_iff
  cases has<;>cases has'<;>(repeat' first|(refine Na ?_ fun _ _=>?_;(focus lia);cbv)|(refine Ex.known O (Change.enc O) rfl hx ?_ ?_;(focus lia);cbv)|(refine Ex.known O (Change.enc O) rfl hy ?_ ?_;(focus lia);cbv)|(refine CallThen.bool (C.fn (rsame_fn O doc doc' hxd)) (fun _=>?_) (fun _=>?_)<;>cbv)|(refine Back.up [] [] ?_ ?_ fun _ _=>?_;rotate_left 2;cbv;refine And.intro ?_ ?_)|(refine Nl fun _ _ hq=>?_;(try simp only [lenS] at hq);cbv)|(refine Nm fun _ _=>?_;cbv)|(refine Br.t ?_ ?_;(focus first|assumption|lia);cbv)|(refine Br.f ?_ ?_;(focus first|assumption|lia);cbv)|(refine Br.mk (fun _=>?_) (fun _=>?_)<;>cbv)|(refine Need.mk ?_ ?_;rotate_left;cbv)|(refine R0 ?_;cbv))
  all_goals(repeat' apply And.intro)
  all_goals try first
   | exact True.intro
   | exact WkR.refl _
   | (clear hx hy hne hst hsd;lia)
  all_goals first
   | (refine hne fun h=>?_;cases h;clear hx hy hst;simp_all;done)
   | (refine hne fun h=>?_;simp only [Change.mk.injEq] at h;clear hx hy hst;grind)
   | (refine hst ?_;simp only [Change.mk.injEq];clear hx hy hne hst;grind)
   | trace_state
 ·(repeat' first|(refine Na ?_ fun _ _=>?_;(focus lia);cbv)|(refine Nl fun _ _ hq=>?_;(try simp only [lenS] at hq);cbv)|(refine Nm fun _ _=>?_;cbv)|(refine Br.t ?_ ?_;(focus first|assumption|lia);cbv)|(refine Br.f ?_ ?_;(focus first|assumption|lia);cbv)|(refine Br.mk (fun _=>?_) (fun _=>?_)<;>cbv)|(refine Need.mk ?_ ?_;rotate_left;cbv)|(refine R0 ?_;cbv))
  all_goals(repeat' apply And.intro)
  all_goals try first
   | exact True.intro
   | lia
  all_goals
   simp only [O.h]
   exact sameC_all (by clear g2;lia) fun j hj=>g2 j (by clear g2;lia)
end Go.Sym
