/- The frame of walks in which some functions take their arguments otherwise. -/
import Derived.Test.YtfkigahipkndgaaGreatDoorK20
import Derived.Test.YtfkigahipkndgaaGreatDoorK22
set_option linter.all false
set_option linter.unusedVariables false
set_option linter.unusedSimpArgs false
namespace Go.Sym
open Go Go.Proofs.Tryz
def envM (m:Nat→List Mode):Env:={ ty:=fun t=>tyOf t,mode:=m }
theorem hEM (m:Nat→List Mode):EnvOk prog (envM m):=env_ok (by rfl) ty_ok
def modeOf (f:Nat) (l:List Mode):Nat→List Mode:=fun g=>match Nat.beq g f with
 | true=>l
 | false=>env.mode g
structure CtxM (m:Nat→List Mode) (n0:Nat) (F:FnT) (L:LpT):Prop where
 fn:∀ {f args H res H'},Fn prog f args H res H'→F f args H res H'
 loop:∀ {ι:Type} (S:ι→ASt) (I:ι→Prop) (μ:ι→Nat) {b:Code} {st:ASt} {K:AEx→ASt→Prop},regOk b=true→Start S I n0 st→(∀ i,I i→cw (envM m) F L b (S i) (bodyK S I μ n0 i K))→L b st K
theorem CtxM.loopAt {m:Nat→List Mode} {n0:Nat} {F:FnT} {L:LpT} (C:CtxM m n0 F L) {ι:Type} {b:Code} {st:ASt} {K:AEx→ASt→Prop} (rs:List (Nat×Nat)) (us:ι→List (Nat×PV)) (h:ι→Heap) (I:ι→Prop) (μ:ι→Nat) (hr:regOk b=true)
  (start:Start (fun i=>⟨sets (resets st.tmps rs) (us i),h i⟩) I n0 st) (body:∀ i,I i→cw (envM m) F L b ⟨sets (resets st.tmps rs) (us i),h i⟩ (bodyK (fun i=>⟨sets (resets st.tmps rs) (us i),h i⟩) I μ n0 i K)):L b st K :=
 C.loop _ I μ hr start body
theorem goM (m : Nat → List Mode) {f : Nat} {fn : Func} {code : Code} {args res : List PV} {H H' : List Sym.Obj} {n : Nat} {rv : List ResultVar} (hf : prog.funcs[f]? = some fn) (hname : fn.name ≠ "runtime.NumGoroutine") (hb : fn.body = some code) (hr : regOk code = true)
    (hn : fn.ntmps - args.length = n) (hrv : fn.results.toList = rv) (h64 : H.length ≤ 64) (h : ∀ F L, CtxM m H.length F L → cw (envM m) F L code ⟨args ++ tops n, heapOf 0 H⟩ (retK (envM m) rv H.length res H')) : Fn prog f args H res H' :=
  .inl (fnB_of_cw (hEM m) hm hf hname hb hr hn hrv fun fc hfc => h _ _ ⟨fun h => h, fun S I μ _ _ _ hr start body => loop_rule S I μ (hEM m) (by omega) hm hfc hr start body⟩)
set_option maxRecDepth 100000
def pathsOk (d:Doc):Prop:=∀ f∈d,f.path.size≤9223372036854775807
structure PathsO (o:Opn):Prop where
 doc:pathsOk o.doc
 want:pathsOk o.want
 list:∀ x∈o.list,pathsOk x.doc∧pathsOk x.want
theorem light_small {o:Opn} (h:lightO o=true) (m:Nat) (hm:20≤m):SmallO o m:=by
 obtain⟨h1,h2,h3,h4,h5,h6⟩:=lightO_iff.1 h
 refine⟨by omega,by omega,fun x hx=>?_,by omega⟩
 obtain⟨i,hi,rfl⟩:=List.getElem_of_mem hx
 have:=h1 i _ (List.getElem?_eq_getElem hi)
 omega
theorem ransw0_fn (O:Opq):Fn prog 30 [.agg (ans0.enc O),.agg [.int .i64 0,.bool false,.nils,.nils,.nils,.int .i64 0,.int .i64 0,.nils]] [] [.bool true] []:=by
 have h:=ransw_fn O ans0 ans0 (by simp [ans0]) (by simp [ans0]) (by simp [ans0]) (by simp [ans0])
 rw[show O.o sameAns ans0 ans0=true by rw[O.h,sameAns];simp] at h
 have e1:O.o (Nms.enc O) []=[]:=by rw[O.h];rfl
 have e2:O.o (Chs.enc O) []=[]:=by rw[O.h];rfl
 have e3:O.o Prs.enc []=[]:=by rw[O.h];rfl
 have e4:O.o Doc.enc []=[]:=by rw[O.h];rfl
 refine h.wkA (.cons (.refl _) (.cons ?_ .nil))
 show WkA (.agg [.int .i64 0,.bool false,.sl false 0 false 6 (O.o Doc.enc []),.sl false 0 false 2 (O.o (Nms.enc O) []),.sl false 0 false 4 (O.o (Chs.enc O) []),.int .i64 0,.int .i64 0,.sl false 0 false 2 (O.o Prs.enc [])]) _
 rw[e1,e2,e3,e4]
 refine .agg' ?_
 exact .cons (.refl _) (.cons (.refl _) (.cons (.wk (.nil _ _)) (.cons (.wk (.nil _ _)) (.cons (.wk (.nil _ _)) (.cons (.refl _) (.cons (.refl _) (.cons (.wk (.nil _ _)) .nil)))))))
theorem docs_same (O:Opq) (l:List Ndoc) (hl:l.length≤9223372036854775807) (hd:∀ n∈l,n.doc.length≤9223372036854775807):Fn prog 34 [.sl false 0 false 2 (O.o (Nms.enc O) l),.sl false 0 false 2 (O.o (Nms.enc O) l)] [] [.bool true] []:=by
 have k:=r12docs_fn O l l hl hd
 rw[show O.o sameNs l l=true by rw[O.h,sameNs];simp] at k
 exact k
def baseJ (b:Int) (j:Nat):Int:=b+j
def dropC (O:Opq) (l:List Change) (j:Nat):List (List PV):=Chs.enc O (l.drop j)
theorem dropC_len (O:Opq) (l:List Change) (j:Nat):(dropC O l j).length=l.length-j:=by rw[dropC,Chs.enc_len,List.length_drop]
set_option maxHeartbeats 4000000 in
theorem rtrim_fn (O:Opq) (f:Feed) (pos:Int) (hm:mayF f=true) (hl:f.changes.length≤1099511627):Fn prog 159 [.agg (f.enc O),.int .i64 pos] [] [.agg (Feed.enc O (O.o trimR f pos))] []:=by
 have hl2:=Subs.len O f.subs
 obtain⟨q1,q2,q3,q4,q5⟩:=(mayF_iff.1 hm).1
 obtain⟨N,hN⟩:∃ N:Nat,N=f.subs.length:=⟨_,rfl⟩
 obtain⟨z,hz⟩:∃ z:Nat,z=0:=⟨_,rfl⟩
 obtain⟨p,hp⟩:∃ p:Int,p=min pos f.total:=⟨_,rfl⟩
 have hx:O.o trimR f pos=cutF f (lowK p f.subs f.subs.length):=by
  rw[O.h,trimR,if_pos hm,← hp,lowK,List.take_length]
 have hlow:lowK p f.subs f.subs.length≤p:=lowS_le _ _
 obtain⟨w,hw⟩:∃ w,w=lowK p f.subs f.subs.length:=⟨_,rfl⟩
 rw[← hw] at hx hlow
 obtain⟨M,hM⟩:∃ M:Nat,M=(w-f.base).toNat:=⟨_,rfl⟩
 have hMl:M≤f.changes.length:=by omega
 refine go (fn:=Proofs.Tryz.f159) (n:=44) (rv:=[ResultVar.cell 4 62]) rfl (by decide) rfl (by decide +kernel) rfl rfl (by simp) fun F L C=>?_
 cbv
 (repeat' first|(refine Na ?_ fun _ _=>?_;(focus lia);cbv)|(refine Nl fun _ _ hq=>?_;(try simp only [lenS] at hq);cbv)|(refine Nm fun _ _=>?_;cbv)|(refine Br.t ?_ ?_;(focus first|assumption|lia);cbv)|(refine Br.f ?_ ?_;(focus first|assumption|lia);cbv)|(refine Br.mk (fun _=>?_) (fun _=>?_)<;>cbv)|(refine Need.mk ?_ ?_;rotate_left;cbv)|(refine R0 ?_;cbv))
 all_goals
  refine LoopThen.mk (C.loopAt (ι:=Nat) [(1,1),(5,5),(12,32)] (fun k=>[(1,.int .i64 (O.o (lowK p f.subs) k)),(5,.int .i64 k)]) (fun _=>[(256,.box (f.enc O)),(384,.box [.int .i64 0,.int .i64 0,.nils,.nils])])
   (fun k=>k≤f.subs.length) (fun k=>N-k) (by decide +kernel) (Start.mk z [] [] (by lia) ?_) ?_)
  ·cbv
   (repeat' apply And.intro)<;>first|exact True.intro|exact WkR.refl _|(simp only [O.h];rw[hz];show p=_;lia)|lia|trace_state
  intro k g
  cbv
  by_cases hk:k<f.subs.length
  ·obtain⟨x,hx⟩:∃ x,f.subs[k]?=some x:=⟨f.subs[k],by simp [hk]⟩
   have e1:O.o (lowK p f.subs) (k+1)=min (O.o (lowK p f.subs) k) x.pos:=by simp only [O.h];exact lowK_succ hx
   (repeat' first|(refine Na ?_ fun _ _=>?_;(focus lia);cbv)|(refine Ex.known O Sub.enc rfl hx ?_ ?_;(focus lia);cbv)|(refine Back.up [] [] ?_ ?_ fun _ _=>?_;rotate_left 2;cbv;refine And.intro ?_ ?_)|(refine Nl fun _ _ hq=>?_;(try simp only [lenS] at hq);cbv)|(refine Nm fun _ _=>?_;cbv)|(refine Br.t ?_ ?_;(focus first|assumption|lia);cbv)|(refine Br.f ?_ ?_;(focus first|assumption|lia);cbv)|(refine Br.mk (fun _=>?_) (fun _=>?_)<;>cbv)|(refine Need.mk ?_ ?_;rotate_left;cbv)|(refine R0 ?_;cbv))
   all_goals(repeat' apply And.intro)
   all_goals try first
    | exact True.intro
    | exact WkR.refl _
    | (clear hx e1;lia)
   all_goals first
    | (rename_i n1 en1 n2 en2;subst en2;show O.o (lowK p f.subs) (k+1)=_;rw[e1];clear hx e1;lia)
    | trace_state
  ·have hke:k=f.subs.length:=by omega
   have hlk:O.o (lowK p f.subs) k=w:=by rw[O.h,hke,hw]
   (repeat' first|(refine Na ?_ fun _ _=>?_;(focus lia);cbv)|(refine Nl fun _ _ hq=>?_;(try simp only [lenS] at hq);cbv)|(refine Nm fun _ _=>?_;cbv)|(refine Br.t ?_ ?_;(focus first|assumption|lia);cbv)|(refine Br.f ?_ ?_;(focus first|assumption|lia);cbv)|(refine Br.mk (fun _=>?_) (fun _=>?_)<;>cbv)|(refine Need.mk ?_ ?_;rotate_left;cbv)|(refine R0 ?_;cbv))
   refine LoopThen.mk (C.loopAt (ι:=Nat) [(33,44)] (fun _=>[]) (fun j=>[(256,.box [(.int .i64 (O.o (baseJ f.base) j)),.int .i64 f.total,.sl false 0 false 4 (O.o (dropC O f.changes) j),.sl false 0 false 2 (O.o Subs.enc f.subs)]),(384,.box [.int .i64 0,.int .i64 0,.nils,.nils])])
    (fun j=>j≤M) (fun j=>M-j) (by decide +kernel) (Start.mk z [] [] (by lia) ?_) ?_)
   ·cbv
    (repeat' apply And.intro)<;>first|exact True.intro|exact WkR.refl _|lia|(refine .of_eq ?_;simp only [O.h];rw[hz];rfl)|(simp only [O.h];rw[hz];exact Int.add_zero _)|trace_state
   intro j gj
   cbv
   have hbj:O.o (baseJ f.base) j=f.base+j:=by rw[O.h];rfl
   have hdl:(O.o (dropC O f.changes) j).length=f.changes.length-j:=by rw[O.h,dropC_len]
   by_cases hj:j<M
   ·have hsd:O.o (dropC O f.changes) (j+1)=(O.o (dropC O f.changes) j).drop 1:=by
     simp only [O.h,dropC,Chs.enc,List.map_drop,List.drop_drop]
    have hbs:O.o (baseJ f.base) (j+1)=f.base+j+1:=by rw[O.h];show f.base+((j+1:Nat):Int)=_;omega
    (repeat' first|(refine Na ?_ fun _ _=>?_;(focus lia);cbv)|(refine Back.up [] [] ?_ ?_ fun _ _=>?_;rotate_left 2;cbv;refine And.intro ?_ ?_)|(refine Nl fun _ _ hq=>?_;(try simp only [lenS] at hq);cbv)|(refine Nm fun _ _=>?_;cbv)|(refine Br.t ?_ ?_;(focus first|assumption|lia);cbv)|(refine Br.f ?_ ?_;(focus first|assumption|lia);cbv)|(refine Br.mk (fun _=>?_) (fun _=>?_)<;>cbv)|(refine Need.mk ?_ ?_;rotate_left;cbv)|(refine R0 ?_;cbv))
    all_goals(repeat' apply And.intro)
    all_goals try first
     | exact True.intro
     | exact WkR.refl _
     | (clear hsd;lia)
    ·rename_i n1 en1 R eR j2 ej2
     subst ej2
     exact .of_eq (by rw[eR];exact hsd)
   ·have hjM:j=M:=by omega
    have hx2:O.o trimR f pos=⟨f.base+j,f.total,f.changes.drop j,f.subs⟩:=by
     rw[hx,cutF]
     split
     ·rw[hjM,hM,show f.base+((w-f.base).toNat:Int)=w by omega]
     ·rw[hjM,hM,show(w-f.base).toNat=0 by omega];cases f;simp
    (repeat' first|(refine Na ?_ fun _ _=>?_;(focus lia);cbv)|(refine Nl fun _ _ hq=>?_;(try simp only [lenS] at hq);cbv)|(refine Nm fun _ _=>?_;cbv)|(refine Br.t ?_ ?_;(focus first|assumption|lia);cbv)|(refine Br.f ?_ ?_;(focus first|assumption|lia);cbv)|(refine Br.mk (fun _=>?_) (fun _=>?_)<;>cbv)|(refine Need.mk ?_ ?_;rotate_left;cbv)|(refine R0 ?_;cbv))
    all_goals try(clear hx2 hx;lia)
    refine⟨?_,?_,.of_eq ?_,.of_eq ?_,trivial⟩
    ·show(O.o trimR f pos).base=O.o (baseJ f.base) j;rw[hx2,hbj]
    ·show(O.o trimR f pos).total=_;rw[hx2]
    ·show O.o (Chs.enc O) (O.o trimR f pos).changes=O.o (dropC O f.changes) j;rw[hx2];simp only [O.h];rfl
    ·show O.o Subs.enc (O.o trimR f pos).subs=_;rw[hx2]
open Go
def zeroL:LastR:=⟨0,0,ans0⟩
def cmpL (l:List LastR) (c:Int) (j:Nat):Int:=IntKind.i64.wrap ((l.getD j zeroL).client-c)
def seekI (l:List LastR) (c:Int):Nat:=bsI (cmpL l c) 0 l.length
def seekZ (l:List LastR) (c:Int):Int:=seekI l c
def seekB (l:List LastR) (c:Int):Bool:=decide (seekI l c<l.length∧cmpL l c (seekI l c)=0)
theorem cmpL_at {l:List LastR} {c:Int} {j:Nat} {x:LastR} (h:l[j]?=some x):cmpL l c j=IntKind.i64.wrap (x.client-c):=by
 rw[cmpL,List.getD_eq_getElem?_getD,h];rfl
theorem cmpL_ok {l:List LastR} {c:Int} {j:Nat} {x:LastR} (hl:lastsOk l=true) (hc:countB c=true) (h:l[j]?=some x):cmpL l c j=x.client-c:=by
 have h1:=(lastsOk_iff.1 hl).2.1 x (List.mem_of_getElem? h)
 simp only [countB,decide_eq_true_eq] at h1 hc
 rw[cmpL_at h,wrap64 (by omega)]
theorem seek_ok {l:List LastR} {c:Int} (hl:lastsOk l=true) (hc:countB c=true):seekI l c=posL l c∧seekB l c=getL l c:=by
 have hs:=(lastsOk_iff.1 hl).2.2
 have hle:=bsI_le (cmpL l c) 0 l.length (Nat.zero_le _)
 have hb:=bsI_sorted (f:=cmpL l c) (n:=l.length) (fun a b hab hbn h=>by
  have ha:l[a]?=some l[a]:=by simp
  have hb:l[b]?=some l[b]:=by simp
  rw[cmpL_ok hl hc hb] at h
  rw[cmpL_ok hl hc ha]
  by_cases e:a=b
  ·subst e;exact h
  ·have:=sortedL_lt hs (i:=a) (j:=b) (by omega) ha hb
   omega) 0 l.length (Nat.zero_le _) (Nat.le_refl _) (fun a ha=>by omega) (fun a h1 h2=>by omega)
 have hp:posL l c=seekI l c:=posL_at hle.2 (fun j y hj hy=>by
  have:=hb.1 j hj
  rw[cmpL_ok hl hc hy] at this;omega) (fun j y hj hy=>by
  have:=hb.2 j hj (List.getElem?_eq_some_iff.1 hy).1
  rw[cmpL_ok hl hc hy] at this;omega)
 refine⟨hp.symm,?_⟩
 cases g:getL l c
 ·rw[seekB,decide_eq_false_iff_not]
  rintro ⟨h1,h2⟩
  have hx:l[seekI l c]?=some l[seekI l c]:=by simp [h1]
  rw[cmpL_ok hl hc hx] at h2
  exact getL_no g _ (List.getElem_mem h1) (by omega)
 ·obtain⟨x,hx,he⟩:=posL_there hs g
  rw[hp] at hx
  rw[seekB,decide_eq_true_eq]
  refine⟨(List.getElem?_eq_some_iff.1 hx).1,?_⟩
  rw[cmpL_ok hl hc hx];omega
def rputL (x:LastR):Bool→List LastR→List LastR
 | p,[]=>if p=false then[x] else[]
 | p,d::l=>(if p=false∧x.client≤d.client then[x] else[])++(if d.client≠x.client then[d] else[])++rputL x (p || decide (x.client≤d.client)) l
theorem rputL_put {x:LastR}:∀ {l:List LastR},(∀ d∈l,d.client≠x.client)→rputL x true l=l
 | [],_=>rfl
 | d::l,h=>by
  rw[rputL,if_neg (by simp),if_pos (h d (by simp)),Bool.true_or,rputL_put (l:=l) fun y hy=>h y (List.mem_cons_of_mem _ hy)];rfl
theorem rputL_eq {x:LastR}:∀ {l:List LastR},sortedL l→rputL x false l=putL l x
 | [],_=>by simp [rputL,putL,getL,posL,insK]
 | d::l,hs=>by
  obtain⟨h1,h2⟩:=List.pairwise_cons.1 hs
  rw[rputL]
  by_cases hlt:d.client<x.client
  ·have hg:getL (d::l) x.client=getL l x.client:=by
    simp only [getL,List.any_cons,hasL,show ¬ d.client=x.client by omega,decide_false,Bool.false_or]
   have hp:posL (d::l) x.client=posL l x.client+1:=by
    simp only [posL,List.findIdx_cons,show ¬ x.client≤d.client by omega,decide_false,cond_false]
   rw[if_neg (by omega),if_pos (by omega),show decide (x.client≤d.client)=false by simp;omega,Bool.false_or,rputL_eq h2]
   simp only [List.nil_append,List.singleton_append]
   rw[putL,putL,hg,hp]
   split
   ·rw[List.set_cons_succ]
   ·rw[insK,insK,List.take_succ_cons,List.drop_succ_cons];rfl
  ·have hp:posL (d::l) x.client=0:=by
    simp only [posL,List.findIdx_cons,show x.client≤d.client by omega,decide_true,cond_true]
   have hn:∀ y∈l,y.client≠x.client:=fun y hy=>by have:=h1 y hy;omega
   rw[if_pos ⟨rfl,by omega⟩,show decide (x.client≤d.client)=true by simp;omega,Bool.false_or,rputL_put hn]
   by_cases he:d.client=x.client
   ·have hg:getL (d::l) x.client=true:=by simp [getL,hasL,he]
    rw[if_neg (by omega),putL_set hg,hp];rfl
   ·have hg:getL (d::l) x.client=false:=List.any_eq_false.2 fun y hy=>by
     simp only [hasL,decide_eq_true_eq]
     rcases List.mem_cons.1 hy with rfl|hy
     ·exact he
     ·exact hn y hy
    rw[if_pos he,putL_ins hg,hp];rfl
theorem posL_find {l:List LastR} {c:Int} (hs:sortedL l):findI (hasL c) l=if getL l c=true then(posL l c:Int) else -1:=by
 cases h:getL l c with
 | false =>
  simp only [Bool.false_eq_true,if_false]
  exact findI_none fun j y hj hy=>by
   have:=List.any_eq_false.1 h y (List.mem_of_getElem? hy)
   simpa using this
 | true =>
  obtain⟨x,hx,hp⟩:=posL_there hs h
  simp only [if_true]
  refine findI_at hx (by simp [hasL,hp]) fun j y hj hy=>?_
  have:=posL_lo j y hj hy
  simp only [hasL,decide_eq_false_iff_not]
  omega
open Classical in
noncomputable def sameLast1 (x y:LastR):Bool:=decide (x=y)
theorem sameLast1_iff {x y:LastR}:sameLast1 x y=true ↔ x=y:=by simp [sameLast1]
theorem sameLast1_no {x y:LastR} (h:x≠y):sameLast1 x y=false:=by simp [sameLast1,h]
open Classical in
noncomputable def sameLs (a b:List LastR):Bool:=decide (a=b)
theorem sameLs_iff {a b:List LastR}:sameLs a b=true ↔ a=b:=by simp [sameLs]
theorem sameLs_len {a b:List LastR} (h:a.length≠b.length):sameLs a b=false:=by
 simp only [sameLs,decide_eq_false_iff_not];exact fun e=>h (by rw[e])
theorem sameLs_at {a b:List LastR} {k:Nat} (h:a[k]?≠b[k]?):sameLs a b=false:=by
 simp only [sameLs,decide_eq_false_iff_not];exact fun e=>h (by rw[e])
theorem sameLs_all {a b:List LastR} (h:a.length=b.length) (k:∀ j,j<a.length→a[j]?=b[j]?):sameLs a b=true:=by
 simp only [sameLs,decide_eq_true_eq]
 refine List.ext_getElem? fun j=>?_
 by_cases hj:j<a.length
 ·exact k j hj
 ·rw[List.getElem?_eq_none (by omega),List.getElem?_eq_none (by omega)]
open Classical in
noncomputable def sameDp (a b:Depot):Bool:=decide (a=b)
theorem sameDp_iff {a b:Depot}:sameDp a b=true ↔ a=b:=by simp [sameDp]
theorem Depot.ext' {a b:Depot}:a=b ↔ a.docs=b.docs∧a.feed=b.feed∧a.last=b.last:=by
 obtain⟨x,y,z⟩:=a;obtain⟨x',y',z'⟩:=b;simp only [Depot.mk.injEq]
open Go Go.Proofs Go.Proofs.Tryz
set_option maxRecDepth 10000
theorem shape_str {n:Nat} {xs:List PV} (h:shape prog n 9 xs):∃ s:ByteArray,xs=[.str s]∧s.size≤9223372036854775807:=by
 cases n with
 | zero=>exact h.elim
 | succ n=>simp only [shape,Tryz.underlying9] at h;exact h
theorem shape_int {n:Nat} {xs:List PV} (h:shape prog n 3 xs):∃ m:Int,xs=[.int .i64 m]∧-9223372036854775808≤m∧m≤9223372036854775807:=by
 cases n with
 | zero=>exact h.elim
 | succ n =>
  simp only [shape,Tryz.underlying3] at h
  obtain⟨m,rfl,hm⟩:=h
  refine⟨m,rfl,?_⟩
  simp only [Lit.wf,Bool.and_eq_true,decide_eq_true_eq] at hm
  exact hm
def inI (m:Int):Prop:=-9223372036854775808≤m∧m≤9223372036854775807
def inS (s:ByteArray):Prop:=s.size≤9223372036854775807
theorem c3:prog.cellsOf 3=1:=by decide +kernel
theorem c9:prog.cellsOf 9=1:=by decide +kernel
theorem rows_of {α:Type} {e:α→List PV} {In:α→Prop} {Q:List PV→Prop} (hq:∀ r,Q r→∃ a,r=e a∧In a):∀ {rows:List (List PV)},(∀ r∈rows,Q r)→∃ l:List α,rows=l.map e∧∀ a∈l,In a
 | [],_=>⟨[],rfl,by simp⟩
 | r::rows,h=>by
  obtain⟨a,ha,ia⟩:=hq r (h r (by simp))
  obtain⟨l,hl,il⟩:=rows_of (rows:=rows) hq fun r hr=>h r (List.mem_cons_of_mem _ hr)
  exact⟨a::l,by simp [ha,hl],by simpa using⟨ia,il⟩⟩
def Val.In (v:Val):Prop:=inI v.kind∧inI v.num∧inS v.text∧inI v.re∧inI v.im
def Field.In (f:Field):Prop:=inS f.path∧f.val.In
theorem c33:prog.cellsOf 141=2:=by decide +kernel
theorem c35:prog.cellsOf 143=5:=by decide +kernel
theorem c37:prog.cellsOf 145=6:=by decide +kernel
theorem shape_point {n:Nat} {xs:List PV} (h:shape prog n 141 xs):∃ a b:Int,xs=[.int .i64 a,.int .i64 b]∧inI a∧inI b:=by
 cases n with
 | zero=>exact h.elim
 | succ n =>
  simp only [shape,Tryz.underlying141,List.forall_mem_cons,List.not_mem_nil,false_imp_iff,implies_true,and_true,c33,c3] at h
  obtain⟨hl,h1,h2⟩:=h
  match xs,hl with
  | [x,y],_ =>
  obtain⟨a,ea,ia⟩:=shape_int (xs:=[x]) h1
  obtain⟨b,eb,ib⟩:=shape_int (xs:=[y]) h2
  cases ea;cases eb
  exact⟨a,b,rfl,ia,ib⟩
theorem shape_val {n:Nat} {xs:List PV} (h:shape prog n 143 xs):∃ v:Val,xs=v.enc∧v.In:=by
 cases n with
 | zero=>exact h.elim
 | succ n =>
  simp only [shape,Tryz.underlying143,List.forall_mem_cons,List.not_mem_nil,false_imp_iff,implies_true,and_true,c35,c33,c9,c3] at h
  obtain⟨hl,h1,h2,h3,h4⟩:=h
  match xs,hl with
  | [x,y,z,u,w],_ =>
  obtain⟨a,ea,ia⟩:=shape_int (xs:=[x]) h1
  obtain⟨b,eb,ib⟩:=shape_int (xs:=[y]) h2
  obtain⟨t,et,it⟩:=shape_str (xs:=[z]) h3
  obtain⟨p,q,ep,ip,iq⟩:=shape_point (xs:=[u,w]) h4
  cases ea;cases eb;cases et;cases ep
  exact⟨⟨a,b,t,p,q⟩,rfl,ia,ib,it,ip,iq⟩
theorem shape_field {n:Nat} {xs:List PV} (h:shape prog n 145 xs):∃ f:Field,xs=f.enc∧f.In:=by
 cases n with
 | zero=>exact h.elim
 | succ n =>
  simp only [shape,Tryz.underlying145,List.forall_mem_cons,List.not_mem_nil,false_imp_iff,implies_true,and_true,c37,c35,c9] at h
  obtain⟨hl,h1,h2⟩:=h
  match xs,hl with
  | x::ys,hl =>
  obtain⟨t,et,it⟩:=shape_str (xs:=[x]) h1
  have hy:(List.drop 1 (x::ys)).take 5=ys:=List.take_of_length_le (Nat.le_of_eq (by simpa using hl))
  rw[hy] at h2
  obtain⟨v,rfl,iv⟩:=shape_val h2
  cases et
  exact⟨⟨t,v⟩,rfl,it,iv⟩
theorem shape_doc {n:Nat} {x:PV} (h:shape prog n 28 [x]):∃ d:Doc,Wk (.sl false 0 false 6 (Doc.enc d)) x∧d.length≤9223372036854775807∧∀ f∈d,f.In:=by
 cases n with
 | zero=>exact h.elim
 | succ n =>
  simp only [shape,Tryz.underlying28,c37] at h
  rcases h with h | ⟨rows,h,hl,hr⟩
  ·cases h
   exact⟨[],.nil _ _,by simp,by simp⟩
  ·cases h
   obtain⟨d,rfl,hd⟩:=rows_of (fun r hr=>shape_field hr) hr
   exact⟨d,.sl' rfl rfl (.refl _),by simpa [maxLen] using hl,hd⟩
theorem cFe0:prog.cellsOf 4=1:=by decide +kernel
theorem cFe1:prog.cellsOf 78=4:=by decide +kernel
theorem cFe2:prog.cellsOf 174=2:=by decide +kernel
theorem cFe3:prog.cellsOf 62=4:=by decide +kernel
theorem cFe4:prog.cellsOf 28=1:=by decide +kernel
theorem cFe5:prog.cellsOf 31=1:=by decide +kernel
theorem cFe6:prog.cellsOf 60=1:=by decide +kernel
theorem shape_bool {n:Nat} {xs:List PV} (h:shape prog n 4 xs):∃ b:Bool,xs=[.bool b]:=by
 cases n with
 | zero=>exact h.elim
 | succ n=>simp only [shape,Tryz.underlying4] at h;exact h
theorem rows_wk {α:Type} {e:α→List PV} {In:α→Prop} {Q:List PV→Prop} (hq:∀ r,Q r→∃ a,WkL (e a) r∧In a):∀ {rows:List (List PV)},(∀ r∈rows,Q r)→∃ l:List α,WkR (l.map e) rows∧l.length=rows.length∧∀ a∈l,In a
 | [],_=>⟨[],.refl _,rfl,by simp⟩
 | r::rows,h=>by
  obtain⟨a,ha,ia⟩:=hq r (h r (by simp))
  obtain⟨l,hl,ll,il⟩:=rows_wk (rows:=rows) hq fun r hr=>h r (List.mem_cons_of_mem _ hr)
  exact⟨a::l,.cons ha hl,by simp [ll],by simpa using⟨ia,il⟩⟩
def Change.In (c:Change):Prop:=inI c.pos∧inS c.key∧c.doc.length≤9223372036854775807∧∀ f∈c.doc,f.In
def Sub.In (s:Sub):Prop:=inS s.name∧inI s.pos
def Feed.In (f:Feed):Prop:=inI f.base∧inI f.total∧f.changes.length≤9223372036854775807∧f.subs.length≤9223372036854775807∧(∀ c∈f.changes,c.In)∧∀ s∈f.subs,s.In
theorem shape_change {n:Nat} {xs:List PV} (h:shape prog n 78 xs):∃ c:Change,WkL (Change.enc Opq.id c) xs∧c.In:=by
 cases n with
 | zero=>exact h.elim
 | succ n =>
  simp only [shape,Tryz.underlying78,List.forall_mem_cons,List.not_mem_nil,false_imp_iff,implies_true,and_true,cFe1,cFe0,cFe4,c9,c3] at h
  obtain⟨hl,h1,h2,h3,h4⟩:=h
  match xs,hl with
  | [x,y,z,u],_ =>
  obtain⟨a,ea,ia⟩:=shape_int (xs:=[x]) h1
  obtain⟨t,et,it⟩:=shape_str (xs:=[y]) h2
  obtain⟨b,eb⟩:=shape_bool (xs:=[z]) h3
  obtain⟨d,wd,ld,id⟩:=shape_doc (x:=u) h4
  cases ea;cases et;cases eb
  exact⟨⟨a,t,b,d⟩,.cons (.refl _) (.cons (.refl _) (.cons (.refl _) (.cons wd (.refl _)))),ia,it,ld,id⟩
theorem shape_changes {n:Nat} {x:PV} (h:shape prog n 31 [x]):∃ l:List Change,Wk (.sl false 0 false 4 (Chs.enc Opq.id l)) x∧l.length≤9223372036854775807∧∀ c∈l,c.In:=by
 cases n with
 | zero=>exact h.elim
 | succ n =>
  simp only [shape,Tryz.underlying31,cFe1] at h
  rcases h with h | ⟨rows,h,hl,hr⟩
  ·cases h
   exact⟨[],.nil _ _,by simp,by simp⟩
  ·cases h
   obtain⟨l,hw,hll,hi⟩:=rows_wk (fun r hr=>shape_change hr) hr
   exact⟨l,.sl' rfl rfl hw,by rw[hll];simpa [maxLen] using hl,hi⟩
theorem shape_sub {n:Nat} {xs:List PV} (h:shape prog n 174 xs):∃ s:Sub,xs=s.enc∧s.In:=by
 cases n with
 | zero=>exact h.elim
 | succ n =>
  simp only [shape,Tryz.underlying174,List.forall_mem_cons,List.not_mem_nil,false_imp_iff,implies_true,and_true,cFe2,c9,c3] at h
  obtain⟨hl,h1,h2⟩:=h
  match xs,hl with
  | [x,y],_ =>
  obtain⟨t,et,it⟩:=shape_str (xs:=[x]) h1
  obtain⟨a,ea,ia⟩:=shape_int (xs:=[y]) h2
  cases ea;cases et
  exact⟨⟨t,a⟩,rfl,it,ia⟩
theorem shape_subs {n:Nat} {x:PV} (h:shape prog n 60 [x]):∃ l:List Sub,Wk (.sl false 0 false 2 (Subs.enc l)) x∧l.length≤9223372036854775807∧∀ c∈l,c.In:=by
 cases n with
 | zero=>exact h.elim
 | succ n =>
  simp only [shape,Tryz.underlying60,cFe2] at h
  rcases h with h | ⟨rows,h,hl,hr⟩
  ·cases h
   exact⟨[],.nil _ _,by simp,by simp⟩
  ·cases h
   obtain⟨l,rfl,hi⟩:=rows_of (fun r hr=>shape_sub hr) hr
   exact⟨l,.sl' rfl rfl (.refl _),by simpa [maxLen] using hl,hi⟩
inductive Cel.In:Cel→Prop
 | mk {k n:Int} {t:ByteArray} {l:List Cel} (hk:inI k) (hn:inI n) (ht:inS t) (hl:l.length≤9223372036854775807) (h:∀ c∈l,c.In):Cel.In (.mk k n t l)
theorem rows_wkx {α:Type} {e:α→List PV} {In:α→Prop} {Q:List PV→Prop} (hq:∀ r,Q r→∃ a,WkL (e a) r∧In a):∀ {rows:List (List PV)},(∀ r∈rows,Q r)→∃ l:List α,WkR (l.map e) rows∧l.length=rows.length∧∀ a∈l,In a
 | [],_=>⟨[],.refl _,rfl,by simp⟩
 | r::rows,h=>by
  obtain⟨a,ha,ia⟩:=hq r (h r (by simp))
  obtain⟨l,hl,ll,il⟩:=rows_wkx (rows:=rows) hq fun r hr=>h r (List.mem_cons_of_mem _ hr)
  exact⟨a::l,.cons ha hl,by simp [ll],by simpa using⟨ia,il⟩⟩
end Go.Sym
