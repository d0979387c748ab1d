/- Documents alike, however long. -/
import Derived.Test.YthaaoongjcmleaaGreatDoorJ10
set_option linter.all false
set_option linter.unusedVariables false
set_option linter.unusedSimpArgs false
namespace Go.Sym
open Go Go.Proofs.Tryz
set_option maxRecDepth 100000
theorem rsameLW_fn (O:Opq) (d e:Doc) (hd:d.length≤9223372036854775807):Fn prog 56 [.sl true 0 false 6 (O.o Doc.enc d),.sl true 0 false 6 (O.o Doc.enc e)] [] [.bool (O.o sameDoc d e)] []:=by
 have hlen:(O.o Doc.enc d).length=d.length:=by rw[O.h,Doc.enc_len]
 have hlen2:(O.o Doc.enc e).length=e.length:=by rw[O.h,Doc.enc_len]
 obtain⟨N,hN⟩:∃ N:Nat,N=d.length:=⟨_,rfl⟩
 refine go (fn:=Proofs.Tryz.f56) (n:=24) (rv:=[ResultVar.tmp 4]) rfl (by decide) rfl (by decide +kernel) rfl rfl (by simp) fun F L C=>?_
 cbv
 (repeat' first|(refine Na ?_ fun _ _=>?_;(focus lia);cbv)|(refine Nl fun _ _ hq=>?_;(try simp only [lenS] at hq);cbv)|(refine Nm fun _ _=>?_;cbv)|(refine Br.t ?_ ?_;(focus first|assumption|lia);cbv)|(refine Br.f ?_ ?_;(focus first|assumption|lia);cbv)|(refine Br.mk (fun _=>?_) (fun _=>?_)<;>cbv)|(refine Need.mk ?_ ?_;rotate_left;cbv)|(refine R0 ?_;cbv))
 rotate_left
 ·exact⟨by simp only [O.h];exact sameDoc_len (by lia),trivial⟩
 have hl:d.length=e.length:=by lia
 refine LoopThen.mk (C.loopAt (ι:=Nat) [(4,5),(11,25)] (fun k=>[(4,.bool false),(5,.int .i64 k)]) (fun _=>[])
  (fun k=>k≤d.length∧∀ (j:Nat),j<k→d[j]?=e[j]?) (fun k=>N-k) (by decide +kernel) (Start.mk 0 [] [] (by simp) (by cbv;(repeat' apply And.intro)<;>first|exact True.intro|exact WkR.refl _|rfl|lia)) ?_)
 rintro k ⟨h1,h2⟩
 cbv
 (repeat' first|(refine Na ?_ fun _ _=>?_;(focus lia);cbv)|(refine Ex.map O Field.enc rfl ?_ fun _ _=>?_;rotate_left;cbv)|(refine Back.up [] [] ?_ ?_ fun _ _=>?_;rotate_left 2;cbv)|(refine Nl fun _ _ hq=>?_;(try simp only [lenS] at hq);cbv)|(refine Nm fun _ _=>?_;cbv)|(refine Br.t ?_ ?_;(focus first|assumption|lia);cbv)|(refine Br.f ?_ ?_;(focus first|assumption|lia);cbv)|(refine Br.mk (fun _=>?_) (fun _=>?_)<;>cbv)|(refine Need.mk ?_ ?_;rotate_left;cbv)|(refine R0 ?_;cbv))
 all_goals(try subst_vars)
 all_goals(try simp only [O.h,natTo,natPred,emp,fieldCells] at *)
 all_goals(try subst_vars)
 all_goals(repeat' apply And.intro)
 all_goals first
  | exact True.intro
  | exact WkR.refl _
  | lia
  | exact below_step h2 (by grind)
  | exact sameDoc_at (k:=k) (by grind)
  | exact sameDoc_all hl fun j hj=>h2 j (by lia)
theorem rsameW_fn (O:Opq) (d e:Doc) (hd:d.length≤9223372036854775807):Fn prog 56 [.sl false 0 false 6 (O.o Doc.enc d),.sl false 0 false 6 (O.o Doc.enc e)] [] [.bool (O.o sameDoc d e)] [] :=
 (rsameLW_fn O d e hd).wkA (.cons (.lend rfl) (.cons (.lend rfl) .nil))
open Go Go.Proofs Go.Proofs.Tryz
set_option maxRecDepth 10000
theorem shape_str {n:Nat} {xs:List PV} (h:shape prog n 9 xs):∃ s:ByteArray,xs=[.str s]∧s.size≤9223372036854775807:=by
 cases n with
 | zero=>exact h.elim
 | succ n=>simp only [shape,Tryz.underlying9] at h;exact h
theorem shape_int {n:Nat} {xs:List PV} (h:shape prog n 3 xs):∃ m:Int,xs=[.int .i64 m]∧-9223372036854775808≤m∧m≤9223372036854775807:=by
 cases n with
 | zero=>exact h.elim
 | succ n =>
  simp only [shape,Tryz.underlying3] at h
  obtain⟨m,rfl,hm⟩:=h
  refine⟨m,rfl,?_⟩
  simp only [Lit.wf,Bool.and_eq_true,decide_eq_true_eq] at hm
  exact hm
def inI (m:Int):Prop:=-9223372036854775808≤m∧m≤9223372036854775807
def inS (s:ByteArray):Prop:=s.size≤9223372036854775807
theorem c3:prog.cellsOf 3=1:=by decide +kernel
theorem c9:prog.cellsOf 9=1:=by decide +kernel
theorem rows_of {α:Type} {e:α→List PV} {In:α→Prop} {Q:List PV→Prop} (hq:∀ r,Q r→∃ a,r=e a∧In a):∀ {rows:List (List PV)},(∀ r∈rows,Q r)→∃ l:List α,rows=l.map e∧∀ a∈l,In a
 | [],_=>⟨[],rfl,by simp⟩
 | r::rows,h=>by
  obtain⟨a,ha,ia⟩:=hq r (h r (by simp))
  obtain⟨l,hl,il⟩:=rows_of (rows:=rows) hq fun r hr=>h r (List.mem_cons_of_mem _ hr)
  exact⟨a::l,by simp [ha,hl],by simpa using⟨ia,il⟩⟩
def Val.In (v:Val):Prop:=inI v.kind∧inI v.num∧inS v.text∧inI v.re∧inI v.im
def Field.In (f:Field):Prop:=inS f.path∧f.val.In
theorem c33:prog.cellsOf 100=2:=by decide +kernel
theorem c35:prog.cellsOf 102=5:=by decide +kernel
theorem c37:prog.cellsOf 104=6:=by decide +kernel
theorem shape_point {n:Nat} {xs:List PV} (h:shape prog n 100 xs):∃ a b:Int,xs=[.int .i64 a,.int .i64 b]∧inI a∧inI b:=by
 cases n with
 | zero=>exact h.elim
 | succ n =>
  simp only [shape,Tryz.underlying100,List.forall_mem_cons,List.not_mem_nil,false_imp_iff,implies_true,and_true,c33,c3] at h
  obtain⟨hl,h1,h2⟩:=h
  match xs,hl with
  | [x,y],_ =>
  obtain⟨a,ea,ia⟩:=shape_int (xs:=[x]) h1
  obtain⟨b,eb,ib⟩:=shape_int (xs:=[y]) h2
  cases ea;cases eb
  exact⟨a,b,rfl,ia,ib⟩
theorem shape_val {n:Nat} {xs:List PV} (h:shape prog n 102 xs):∃ v:Val,xs=v.enc∧v.In:=by
 cases n with
 | zero=>exact h.elim
 | succ n =>
  simp only [shape,Tryz.underlying102,List.forall_mem_cons,List.not_mem_nil,false_imp_iff,implies_true,and_true,c35,c33,c9,c3] at h
  obtain⟨hl,h1,h2,h3,h4⟩:=h
  match xs,hl with
  | [x,y,z,u,w],_ =>
  obtain⟨a,ea,ia⟩:=shape_int (xs:=[x]) h1
  obtain⟨b,eb,ib⟩:=shape_int (xs:=[y]) h2
  obtain⟨t,et,it⟩:=shape_str (xs:=[z]) h3
  obtain⟨p,q,ep,ip,iq⟩:=shape_point (xs:=[u,w]) h4
  cases ea;cases eb;cases et;cases ep
  exact⟨⟨a,b,t,p,q⟩,rfl,ia,ib,it,ip,iq⟩
theorem shape_field {n:Nat} {xs:List PV} (h:shape prog n 104 xs):∃ f:Field,xs=f.enc∧f.In:=by
 cases n with
 | zero=>exact h.elim
 | succ n =>
  simp only [shape,Tryz.underlying104,List.forall_mem_cons,List.not_mem_nil,false_imp_iff,implies_true,and_true,c37,c35,c9] at h
  obtain⟨hl,h1,h2⟩:=h
  match xs,hl with
  | x::ys,hl =>
  obtain⟨t,et,it⟩:=shape_str (xs:=[x]) h1
  have hy:(List.drop 1 (x::ys)).take 5=ys:=List.take_of_length_le (Nat.le_of_eq (by simpa using hl))
  rw[hy] at h2
  obtain⟨v,rfl,iv⟩:=shape_val h2
  cases et
  exact⟨⟨t,v⟩,rfl,it,iv⟩
theorem shape_doc {n:Nat} {x:PV} (h:shape prog n 52 [x]):∃ d:Doc,Wk (.sl false 0 false 6 (Doc.enc d)) x∧d.length≤9223372036854775807∧∀ f∈d,f.In:=by
 cases n with
 | zero=>exact h.elim
 | succ n =>
  simp only [shape,Tryz.underlying52,c37] at h
  rcases h with h | ⟨rows,h,hl,hr⟩
  ·cases h
   exact⟨[],.nil _ _,by simp,by simp⟩
  ·cases h
   obtain⟨d,rfl,hd⟩:=rows_of (fun r hr=>shape_field hr) hr
   exact⟨d,.sl' rfl rfl (.refl _),by simpa [maxLen] using hl,hd⟩
theorem cFe0:prog.cellsOf 4=1:=by decide +kernel
theorem cFe1:prog.cellsOf 90=4:=by decide +kernel
theorem cFe4:prog.cellsOf 52=1:=by decide +kernel
theorem shape_bool {n:Nat} {xs:List PV} (h:shape prog n 4 xs):∃ b:Bool,xs=[.bool b]:=by
 cases n with
 | zero=>exact h.elim
 | succ n=>simp only [shape,Tryz.underlying4] at h;exact h
theorem rows_wk {α:Type} {e:α→List PV} {In:α→Prop} {Q:List PV→Prop} (hq:∀ r,Q r→∃ a,WkL (e a) r∧In a):∀ {rows:List (List PV)},(∀ r∈rows,Q r)→∃ l:List α,WkR (l.map e) rows∧l.length=rows.length∧∀ a∈l,In a
 | [],_=>⟨[],.refl _,rfl,by simp⟩
 | r::rows,h=>by
  obtain⟨a,ha,ia⟩:=hq r (h r (by simp))
  obtain⟨l,hl,ll,il⟩:=rows_wk (rows:=rows) hq fun r hr=>h r (List.mem_cons_of_mem _ hr)
  exact⟨a::l,.cons ha hl,by simp [ll],by simpa using⟨ia,il⟩⟩
def Change.In (c:Change):Prop:=inI c.pos∧inS c.key∧c.doc.length≤9223372036854775807∧∀ f∈c.doc,f.In
def Sub.In (s:Sub):Prop:=inS s.name∧inI s.pos
def Feed.In (f:Feed):Prop:=inI f.base∧inI f.total∧f.changes.length≤9223372036854775807∧f.subs.length≤9223372036854775807∧(∀ c∈f.changes,c.In)∧∀ s∈f.subs,s.In
theorem shape_change {n:Nat} {xs:List PV} (h:shape prog n 90 xs):∃ c:Change,WkL (Change.enc Opq.id c) xs∧c.In:=by
 cases n with
 | zero=>exact h.elim
 | succ n =>
  simp only [shape,Tryz.underlying90,List.forall_mem_cons,List.not_mem_nil,false_imp_iff,implies_true,and_true,cFe1,cFe0,cFe4,c9,c3] at h
  obtain⟨hl,h1,h2,h3,h4⟩:=h
  match xs,hl with
  | [x,y,z,u],_ =>
  obtain⟨a,ea,ia⟩:=shape_int (xs:=[x]) h1
  obtain⟨t,et,it⟩:=shape_str (xs:=[y]) h2
  obtain⟨b,eb⟩:=shape_bool (xs:=[z]) h3
  obtain⟨d,wd,ld,id⟩:=shape_doc (x:=u) h4
  cases ea;cases et;cases eb
  exact⟨⟨a,t,b,d⟩,.cons (.refl _) (.cons (.refl _) (.cons (.refl _) (.cons wd (.refl _)))),ia,it,ld,id⟩
theorem shape_changes {n:Nat} {x:PV} (h:shape prog n 24 [x]):∃ l:List Change,Wk (.sl false 0 false 4 (Chs.enc Opq.id l)) x∧l.length≤9223372036854775807∧∀ c∈l,c.In:=by
 cases n with
 | zero=>exact h.elim
 | succ n =>
  simp only [shape,Tryz.underlying24,cFe1] at h
  rcases h with h | ⟨rows,h,hl,hr⟩
  ·cases h
   exact⟨[],.nil _ _,by simp,by simp⟩
  ·cases h
   obtain⟨l,hw,hll,hi⟩:=rows_wk (fun r hr=>shape_change hr) hr
   exact⟨l,.sl' rfl rfl hw,by rw[hll];simpa [maxLen] using hl,hi⟩
inductive Cel.In:Cel→Prop
 | mk {k n:Int} {t:ByteArray} {l:List Cel} (hk:inI k) (hn:inI n) (ht:inS t) (hl:l.length≤9223372036854775807) (h:∀ c∈l,c.In):Cel.In (.mk k n t l)
theorem rows_wkx {α:Type} {e:α→List PV} {In:α→Prop} {Q:List PV→Prop} (hq:∀ r,Q r→∃ a,WkL (e a) r∧In a):∀ {rows:List (List PV)},(∀ r∈rows,Q r)→∃ l:List α,WkR (l.map e) rows∧l.length=rows.length∧∀ a∈l,In a
 | [],_=>⟨[],.refl _,rfl,by simp⟩
 | r::rows,h=>by
  obtain⟨a,ha,ia⟩:=hq r (h r (by simp))
  obtain⟨l,hl,ll,il⟩:=rows_wkx (rows:=rows) hq fun r hr=>h r (List.mem_cons_of_mem _ hr)
  exact⟨a::l,.cons ha hl,by simp [ll],by simpa using⟨ia,il⟩⟩
end Go.Sym
