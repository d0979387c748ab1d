/- Regions whose order is open. -/
import Derived.Test.YthaaoongjcmleaaGreatDoorJ2
import Derived.ScopeJumps
import Derived.Laws.StructEq
set_option linter.all false
set_option linter.unusedVariables false
set_option linter.unusedSimpArgs false
namespace Go.Sym
open Go
/-! ### States that are alike -/
structure ASt.eqv (s t:ASt):Prop where
 tmps:s.tmps=t.tmps
 heap:∀ l,hget s.heap l=hget t.heap l
theorem ASt.eqv.refl (s:ASt):s.eqv s:=⟨rfl,fun _=>rfl⟩
theorem ASt.eqv.symm {s t:ASt} (h:s.eqv t):t.eqv s:=⟨h.tmps.symm,fun l=>(h.heap l).symm⟩
theorem ASt.eqv.trans {s t r:ASt} (h:s.eqv t) (k:t.eqv r):s.eqv r:=⟨h.tmps.trans k.tmps,fun l=>(h.heap l).trans (k.heap l)⟩
theorem Inv.eqv {fc:FC} {c:RC} {s t:ASt} {a:Act} (e:s.eqv t) (h:Inv fc c s a):Inv fc c t a:=by
 obtain⟨s1,s2⟩:=s
 obtain⟨t1,t2⟩:=t
 obtain⟨rfl,e⟩:=e
 have e:∀ l,hget s2 l=hget t2 l:=e
 refine { h with dom:=fun l=>?_,obj:=fun l o ho=>?_,dis:=fun l l' o o' b ho ho'=>?_,own:=fun l o b ho=>?_ }
 ·show _ ↔ (hget t2 l).isSome
  rw[← e];exact h.dom l
 ·have ho:hget t2 l=some o:=ho
  rw[← e] at ho;exact h.obj l o ho
 ·have ho:hget t2 l=some o:=ho
  have ho':hget t2 l'=some o':=ho'
  rw[← e] at ho ho';exact h.dis l l' o o' b ho ho'
 ·have ho:hget t2 l=some o:=ho
  rw[← e] at ho;exact h.own l o b ho
theorem hget_hsets_not:∀ {u:List (Nat×Sym.Obj)} {h:Heap} {l:Nat},(∀ p∈u,p.1≠l)→hget (hsets h u) l=hget h l
 | [],_,_,_=>rfl
 | (k,x)::u,h,l,hl=>by
  show hget (hsets (hset h k x) u) l=_
  rw[hget_hsets_not (fun p hp=>hl p (by simp [hp]))]
  exact hget_hset_ne _ _ (hl (k,x) (by simp)).symm
theorem hget_hsets_congr:∀ {u:List (Nat×Sym.Obj)} {h h':Heap} {l:Nat},hget h l=hget h' l→hget (hsets h u) l=hget (hsets h' u) l
 | [],_,_,_,e=>e
 | (k,x)::u,h,h',l,e=>by
  show hget (hsets (hset h k x) u) l=hget (hsets (hset h' k x) u) l
  refine hget_hsets_congr ?_
  rw[hget_hset,hget_hset,e]
theorem keysIn_iff {W : List Nat} : ∀ {u : List (Nat × Sym.Obj)}, keysIn W u = true → ∀ p ∈ u, p.1 ∈ W
  | [], _, p, hp => by simp at hp
  | (k, x) :: u, h, p, hp => by
    simp only [keysIn] at h
    split at h
    · rename_i hm
      rcases List.mem_cons.1 hp with rfl | hp
      · exact memN_iff.1 hm
      · exact keysIn_iff h p hp
    · cases h
/-! ### What an operation does hangs on its operands and its footprint alone -/
theorem argsOf_congr {ρ ρ':Operand→PV} {l:List Operand} (h:∀ x∈l,ρ x=ρ' x):argsOf ρ l=argsOf ρ' l:=by
 rw[argsOf_eq,argsOf_eq];exact List.map_congr_left h
theorem partsOf_congr {ρ ρ':Operand→PV}:∀ {l:List (Nat×Operand)},(∀ x∈l.map (·.2),ρ x=ρ' x)→partsOf ρ l=partsOf ρ' l
 | [],_=>rfl
 | (i,x)::r,h=>by simp only [partsOf];rw[h x (by simp),partsOf_congr fun y hy=>h y (by simp at hy ⊢;exact .inr hy)]
theorem opr_congr {E:Env} {o:Oper} {ρ ρ':Operand→PV} {look:Nat→Option Sym.Obj} (h:∀ x∈o.op.operands,ρ x=ρ' x):opr E o ρ look=opr E o ρ' look:=by
 obtain⟨dst,op,type,pos,after,guard⟩:=o
 cases op<;>simp only [Op.operands] at h<;>simp only [opr]
 case build t ps=>rw[partsOf_congr (ρ':=ρ') fun x hx=>h x (by simpa using hx)]
 case buildSlice t n ps=>rw[partsOf_congr (ρ':=ρ') fun x hx=>h x (by simpa using hx)]
 case makeFunc fn first captured =>
  rw[argsOf_congr (l:=first.toList) (ρ':=ρ') fun x hx=>h x (by simp at hx;simp [hx]),argsOf_congr (l:=captured.toList) (ρ':=ρ') fun x hx=>h x (by simp at hx;simp [hx])]
 case call c =>
  have ha:argsOf ρ c.args.toList=argsOf ρ' c.args.toList:=argsOf_congr fun x hx=>h x (by simp at hx;simp [Call.operands,hx])
  rw[ha]
  cases hc:c.callee with
  | value f=>have hf:ρ f=ρ' f:=h f (by simp [Call.operands,hc]);simp only [hf]
  | invoke r m=>rfl
  | builtin b=>rfl
 case slice t x lo hi mx=>cases lo<;>cases hi<;>cases mx<;>simp_all
 all_goals(first|rfl|(simp_all;done))
theorem gather_congr {look look':Nat→Option Sym.Obj}:∀ (k:Nat) (ws acc:List Nat),(∀ l∈gather k ws look acc,look' l=look l)→gather k ws look' acc=gather k ws look acc
 | 0,_,acc,_=>by simp [gather]
 | k+1,[],acc,_=>by simp [gather]
 | k+1,l::ws,acc,h=>by
  simp only [gather] at h ⊢
  cases hm:memN acc l with
  | true=>simp only [hm] at h;exact gather_congr k ws acc h
  | false =>
   simp only [hm] at h
   have sub:∀ (k:Nat) (ws acc:List Nat),∀ x∈acc,x∈gather k ws look acc:=by
    intro k
    induction k with
    | zero=>intro ws acc x hx;simpa [gather] using hx
    | succ k ih =>
     intro ws acc x hx
     cases ws with
     | nil=>simpa [gather] using hx
     | cons y ws =>
      simp only [gather]
      cases memN acc y with
      | true=>exact ih _ _ x hx
      | false=>exact ih _ _ x (by simp [hx])
   have e:=h l (sub _ _ _ l (by simp))
   simp only [e]
   exact gather_congr k _ _ h
theorem fpr_congr {o:Oper} {ρ ρ':Operand→PV} {look look':Nat→Option Sym.Obj} (h:∀ x∈o.op.operands,ρ x=ρ' x) (hl:∀ l∈(fpr o ρ look).1++(fpr o ρ look).2,look' l=look l):fpr o ρ' look'=fpr o ρ look:=by
 obtain⟨dst,op,type,pos,after,guard⟩:=o
 cases op<;>simp only [Op.operands] at h<;>simp only [fpr] at hl ⊢
 case buildSlice t n ps=>rw[partsOf_congr (ρ':=ρ') fun x hx=>h x (by simpa using hx)]
 case call c =>
  have ha:argsOf ρ c.args.toList=argsOf ρ' c.args.toList:=argsOf_congr fun x hx=>h x (by simp at hx;simp [Call.operands,hx])
  rw[ha] at hl ⊢
  cases hc:c.callee with
  | value f =>
   have hf:ρ f=ρ' f:=h f (by simp [Call.operands,hc])
   simp only [hc,hf] at hl ⊢
   split
   ·rename_i hfe
    simp only [hfe,fpCall] at hl ⊢
    rw[gather_congr]
    intro l hl'
    exact hl l (List.mem_append.2 (.inr (List.mem_append.2 (.inl hl'))))
   ·rfl
  | invoke r m=>rfl
  | builtin b=>rfl
 case slice t x lo hi mx =>
  have hx:ρ x=ρ' x:=h x (by simp)
  rw[hx] at hl ⊢
  cases hi with
  | none=>rfl
  | some y =>
   have e:∀ ed,slPlain ed look' (ρ' x)=slPlain ed look (ρ' x):=by
    intro ed
    generalize ρ' x=px at hl ⊢
    cases px<;>try rfl
    rename_i t
    have e1:look' t=look t:=hl t (by simp only;split<;>simp [PV.locs])
    simp only [slPlain,e1]
   simp only [e]
 all_goals(first|rfl|(simp_all;done))
theorem names_operand {all:List Oper} {o:Oper} {t:Nat} (h:Operand.tmp t∈o.op.operands):t∈namesOf all o:=by
 unfold namesOf
 refine List.mem_append.2 (.inr (List.mem_filterMap.2 ⟨.tmp t,by simpa using h,rfl⟩))
theorem stepr_congr {E : Env} {all : List Oper} {o : Oper} {s t : ASt} (ht : ∀ d ∈ namesOf all o, lget t.tmps d = lget s.tmps d) (hl : ∀ l ∈ (fpr o (evp s.tmps) (hget s.heap)).1 ++ (fpr o (evp s.tmps) (hget s.heap)).2, hget t.heap l = hget s.heap l) :
    fpr o (evp t.tmps) (hget t.heap) = fpr o (evp s.tmps) (hget s.heap) ∧ stepr E all o t = stepr E all o s := by
  have hop : ∀ x ∈ o.op.operands, evp s.tmps x = evp t.tmps x := by
    intro x hx
    cases x with
    | tmp d => exact (ht d (names_operand hx)).symm
    | _ => rfl
  have hfp := fpr_congr (ρ' := evp t.tmps) (look' := hget t.heap) hop hl
  have honly : only ((fpr o (evp t.tmps) (hget t.heap)).1 ++ (fpr o (evp t.tmps) (hget t.heap)).2) (hget t.heap) = only ((fpr o (evp s.tmps) (hget s.heap)).1 ++ (fpr o (evp s.tmps) (hget s.heap)).2) (hget s.heap) := by
    funext l
    rw [hfp]
    unfold only
    split
    · rename_i hm; exact hl l (memN_iff.1 hm)
    · rfl
  refine ⟨hfp, ?_⟩
  unfold stepr
  simp only [honly, opr_congr hop]
  split
  · rfl
  · rename_i g want hgd
    split
    · rename_i og hog
      split
      · rename_i d hd
        rw [ht d (by simp [namesOf, hgd, hog, hd])]
      · rfl
    · rfl
/-! ### Runs in the text's order, as data -/
def after (o:Oper) (st:ASt) (v:PV) (u:List (Nat×Sym.Obj)):ASt:={ tmps:=putT st.tmps o.dst v,heap:=hsets st.heap u }
inductive Tr (E:Env) (F:FnT) (all:List Oper):List (Nat×Oper)→ASt→List Fp→ASt→Prop
 | nil (st:ASt):Tr E F all [] st [] st
 | cons {i:Nat} {o:Oper} {r:List (Nat×Oper)} {st st':ASt} {fps:List Fp} (v:PV) (u:List (Nat×Sym.Obj)) (hg:(stepr E all o st).gives F v u) (hk:keysIn (fpr o (evp st.tmps) (hget st.heap)).2 u=true)
   (h:Tr E F all r (after o st v u) fps st'):Tr E F all ((i,o)::r) st (fpAt o st i::fps) st'
theorem lget_lset_ne {l:List PV} {d e:Nat} (v:PV) (h:e≠d):lget (lset l d v) e=lget l e:=by
 induction l generalizing d e with
 | nil=>rfl
 | cons x r ih =>
  cases d with
  | zero=>cases e with
   | zero=>exact absurd rfl h
   | succ e=>rfl
  | succ d=>cases e with
   | zero=>rfl
   | succ e=>exact ih (by omega)
theorem lget_putT_ne {l:List PV} {d:Option Nat} {e:Nat} (v:PV) (h:∀ k,d=some k→e≠k):lget (putT l d v) e=lget l e:=by
 cases d with
 | none=>rfl
 | some d=>exact lget_lset_ne v (h d rfl)
theorem lset_comm {l:List PV} {d e:Nat} (v w:PV) (h:d≠e):lset (lset l d v) e w=lset (lset l e w) d v:=by
 induction l generalizing d e with
 | nil=>rfl
 | cons x r ih =>
  cases d with
  | zero=>cases e with
   | zero=>exact absurd rfl h
   | succ e=>rfl
  | succ d=>cases e with
   | zero=>rfl
   | succ e=>simp only [lset];rw[ih (by omega)]
theorem putT_comm {l:List PV} {d e:Option Nat} (v w:PV) (h:∀ k,d=some k→e≠some k):putT (putT l d v) e w=putT (putT l e w) d v:=by
 cases d with
 | none=>rfl
 | some d=>cases e with
  | none=>rfl
  | some e=>exact lset_comm v w fun he=>h d rfl (he ▸ rfl)
theorem after_eqv {o:Oper} {s t:ASt} {v:PV} {u:List (Nat×Sym.Obj)} (h:s.eqv t):(after o s v u).eqv (after o t v u) :=
 ⟨by simp only [after,h.tmps],fun l=>hget_hsets_congr (h.heap l)⟩
theorem step_eqv {E:Env} {all:List Oper} {o:Oper} {s t:ASt} (h:s.eqv t):fpr o (evp t.tmps) (hget t.heap)=fpr o (evp s.tmps) (hget s.heap)∧stepr E all o t=stepr E all o s :=
 stepr_congr (fun d _=>by rw[h.tmps]) (fun l _=>(h.heap l).symm)
theorem fpAt_eq {o:Oper} {s t:ASt} (i:Nat) (h:fpr o (evp t.tmps) (hget t.heap)=fpr o (evp s.tmps) (hget s.heap)):fpAt o t i=fpAt o s i:=by
 simp only [fpAt,h]
theorem Tr.eqv {E:Env} {F:FnT} {all:List Oper} {r:List (Nat×Oper)} {s s':ASt} {fps:List Fp} (h:Tr E F all r s fps s'):∀ {t:ASt},s.eqv t→∃ t',Tr E F all r t fps t'∧s'.eqv t':=by
 induction h with
 | nil st=>intro t e;exact⟨t,.nil t,e⟩
 | @cons i o r st st' fps v u hg hk _ ih =>
  intro t e
  obtain⟨e1,e2⟩:=step_eqv (E:=E) (all:=all) (o:=o) e
  obtain⟨t',h',e'⟩:=ih (after_eqv (o:=o) (v:=v) (u:=u) e)
  refine⟨t',?_,e'⟩
  rw[← fpAt_eq i e1]
  exact .cons v u (by rw[e2];exact hg) (by rw[e1];exact hk) h'
structure Apart (all:List Oper) (x y:Oper):Prop where
 xy:∀ d,x.dst=some d→d ∉ namesOf all y
 yx:∀ d,y.dst=some d→d ∉ namesOf all x
 ne:∀ d,x.dst=some d→y.dst≠some d
theorem apartN_iff {all:List Oper} {x y:Oper} (h:apartN all x y=true):Apart all x y:=by
 unfold apartN at h
 simp only [Bool.and_eq_true] at h
 obtain⟨h1,h2⟩:=h
 have nm:∀ {L:List Nat} {d:Nat},(!(memN L d))=true→d ∉ L:=fun hn hm=>by rw[memN_iff.2 hm] at hn;cases hn
 refine⟨fun d hd=>?_,fun d hd=>?_,fun d hd he=>?_⟩
 ·simp only [hd,Bool.and_eq_true] at h1;exact nm h1.1
 ·simp only [hd] at h2;exact nm h2
 ·simp only [hd,he,Bool.and_eq_true] at h1
  have:=h1.2
  simp at this
theorem meets_iff {l s:List Nat}:meets l s=false→∀ x∈l,x ∉ s:=by
 induction l with
 | nil=>intro _ x hx;simp at hx
 | cons y r ih =>
  intro h x hx
  simp only [meets] at h
  split at h
  ·cases h
  ·rename_i hm
   rcases List.mem_cons.1 hx with rfl|hx
   ·intro hs;rw[memN_iff.2 hs] at hm;cases hm
   ·exact ih h x hx
theorem clash_iff {x y:Fp} (h:clash x y=false):(∀ l∈x.2.2,l ∉ y.2.2)∧(∀ l∈x.2.2,l ∉ y.2.1)∧∀ l∈x.2.1,l ∉ y.2.2:=by
 unfold clash at h
 split at h
 ·cases h
 ·rename_i h1
  split at h
  ·cases h
  ·rename_i h2
   exact⟨meets_iff h1,meets_iff h2,meets_iff h⟩
theorem swap {E:Env} {F:FnT} {all:List Oper} {p o:Oper} {i j:Nat} {st:ASt} {vp vo:PV} {up uo:List (Nat×Sym.Obj)} (hgp:(stepr E all p st).gives F vp up) (hkp:keysIn (fpr p (evp st.tmps) (hget st.heap)).2 up=true)
  (hgo:(stepr E all o (after p st vp up)).gives F vo uo) (hko:keysIn (fpr o (evp (after p st vp up).tmps) (hget (after p st vp up).heap)).2 uo=true) (hap:Apart all o p) (hcl:clash (fpAt o (after p st vp up) j) (fpAt p st i)=false) :
  fpAt o (after p st vp up) j=fpAt o st j∧(stepr E all o st).gives F vo uo∧keysIn (fpr o (evp st.tmps) (hget st.heap)).2 uo=true∧fpAt p (after o st vo uo) i=fpAt p st i∧(stepr E all p (after o st vo uo)).gives F vp up ∧
   keysIn (fpr p (evp (after o st vo uo).tmps) (hget (after o st vo uo).heap)).2 up=true∧(after o (after p st vp up) vo uo).eqv (after p (after o st vo uo) vp up):=by
 obtain⟨c1,c2,c3⟩:=clash_iff hcl
 simp only [fpAt] at c1 c2 c3
 have kp:=keysIn_iff hkp
 have ko:=keysIn_iff hko
 obtain⟨e1,e2⟩:=stepr_congr (E:=E) (all:=all) (o:=o) (s:=after p st vp up) (t:=st) (fun d hd=>(lget_putT_ne vp fun k hk=>by rintro rfl;exact hap.yx _ hk hd).symm) (fun l hl=>by
  refine(hget_hsets_not fun q hq=>?_).symm
  rintro rfl
  rcases List.mem_append.1 hl with hl|hl
  ·exact c3 _ hl (kp q hq)
  ·exact c1 _ hl (kp q hq))
 have hko':keysIn (fpr o (evp st.tmps) (hget st.heap)).2 uo=true:=by rw[e1];exact hko
 obtain⟨e3,e4⟩:=stepr_congr (E:=E) (all:=all) (o:=p) (s:=st) (t:=after o st vo uo) (fun d hd=>lget_putT_ne vo fun k hk=>by rintro rfl;exact hap.xy _ hk hd) (fun l hl=>by
  refine hget_hsets_not fun q hq=>?_
  rintro rfl
  rcases List.mem_append.1 hl with hl|hl
  ·exact c2 _ (ko q hq) hl
  ·exact c1 _ (ko q hq) hl)
 refine⟨(fpAt_eq j e1).symm,by rw[e2];exact hgo,hko',fpAt_eq i e3,by rw[e4];exact hgp,by rw[e3];exact hkp,?_,fun l=>?_⟩
 ·simp only [after]
  exact putT_comm vp vo fun d hd he=>hap.ne d he hd
 ·show hget (hsets (hsets st.heap up) uo) l=hget (hsets (hsets st.heap uo) up) l
  by_cases hu:∃ q∈uo,q.1=l
  ·obtain⟨q,hq,rfl⟩:=hu
   have hn:∀ r∈up,r.1≠q.1:=fun r hr e=>c1 _ (ko q hq) (e ▸ kp r hr)
   rw[hget_hsets_not (h:=hsets st.heap uo) hn]
   exact hget_hsets_congr (hget_hsets_not hn)
  ·have hn:∀ r∈uo,r.1≠l:=fun r hr e=>hu ⟨r,hr,e⟩
   rw[hget_hsets_not hn]
   exact(hget_hsets_congr (hget_hsets_not hn)).symm
def Free (bef:List (List Nat)) (x y:Fp):Prop:=(∃ b,nth bef y.1=some b∧x.1∈b)∨clash y x=false
theorem Tr.front {E:Env} {F:FnT} {all:List Oper} {bef:List (List Nat)} {j:Nat} {o:Oper} {l2:List (Nat×Oper)}:∀ {l1:List (Nat×Oper)} {st st':ASt} {fps:List Fp},Tr E F all (l1++(j,o)::l2) st fps st'→fps.Pairwise (Free bef) →
  (∀ q∈l1,Apart all o q.2∧∀ b,nth bef j=some b→q.1 ∉ b) →
  ∃ v u fps1 fps2 st'',(stepr E all o st).gives F v u∧keysIn (fpr o (evp st.tmps) (hget st.heap)).2 u=true∧fps=fps1++fpAt o st j::fps2∧fps1.length=l1.length∧Tr E F all (l1++l2) (after o st v u) (fps1++fps2) st''∧st'.eqv st''
 | [],st,st',fps,h,_,_=>by
  cases h with
  | cons v u hg hk h=>exact⟨v,u,[],_,st',hg,hk,rfl,rfl,h,.refl _⟩
 | (i,p)::l1,st,st',fps,h,hpw,hl=>by
  cases h with
  | @cons _ _ _ _ _ fps v u hg hk h =>
   rw[List.pairwise_cons] at hpw
   obtain⟨vo,uo,fps1,fps2,st'',g1,g2,g3,g4,g5,g6⟩:=Tr.front h hpw.2 fun q hq=>hl q (by simp [hq])
   obtain⟨hap,hnb⟩:=hl (i,p) (by simp)
   have hfree:=hpw.1 (fpAt o (after p st v u) j) (by rw[g3];simp)
   have hcl:clash (fpAt o (after p st v u) j) (fpAt p st i)=false:=by
    rcases hfree with ⟨b,hb,hm⟩|hc
    ·exact absurd hm (hnb b hb)
    ·exact hc
   obtain⟨s1,s2,s3,s4,s5,s6,s7⟩:=swap hg hk g1 g2 hap hcl
   obtain⟨t,ht,et⟩:=g5.eqv s7
   refine⟨vo,uo,fpAt p st i::fps1,fps2,t,s2,s3,by rw[g3,← s1];rfl,by simp [g4],?_,g6.trans et⟩
   have:=Tr.cons (i:=i) (E:=E) (F:=F) (all:=all) v u s5 s6 ht
   rw[s4] at this
   exact this
end Go.Sym
namespace Go.Sym
open Go
def numb:Nat→List Oper→List (Nat×Oper)
 | _,[]=>[]
 | i,o::r=>(i,o)::numb (i+1) r
theorem mem_numb:∀ {l:List Oper} {k:Nat} {q:Nat×Oper},q∈numb k l ↔ k≤q.1∧l[q.1-k]?=some q.2
 | [],k,q=>by simp [numb]
 | o::r,k,(i,p)=>by
  simp only [numb,List.mem_cons,mem_numb (l:=r)]
  constructor
  ·rintro (h | ⟨h1,h2⟩)
   ·obtain⟨rfl,rfl⟩:=Prod.mk.inj h
    simp
   ·refine⟨by omega,?_⟩
    rw[show i-k=(i-(k+1))+1 by omega,List.getElem?_cons_succ]
    exact h2
  ·rintro ⟨h1,h2⟩
   rcases Nat.eq_or_lt_of_le h1 with rfl|h1
   ·simp at h2;subst h2;exact .inl rfl
   ·refine .inr ⟨h1,?_⟩
    have h1:k<i:=h1
    have h2:(o::r)[i-k]?=some p:=h2
    rw[show i-k=(i-(k+1))+1 by omega,List.getElem?_cons_succ] at h2
    exact h2
theorem length_numb:∀ (l:List Oper) (k:Nat),(numb k l).length=l.length
 | [],_=>rfl
 | o::r,k=>by simp [numb,length_numb r]
theorem numb_sorted:∀ (l:List Oper) (k:Nat),(numb k l).Pairwise (fun x y=>x.1<y.1)
 | [],_=>.nil
 | o::r,k=>by
  simp only [numb,List.pairwise_cons]
  exact⟨fun q hq=>by have:=(mem_numb.1 hq).1;show k<q.1;omega,numb_sorted r (k+1)⟩
theorem meets_nil (l:List Nat):meets l []=false:=by
 induction l with
 | nil=>rfl
 | cons x r ih=>simp [meets,memN,ih]
theorem idle_free {bef:List (List Nat)} {x y:Fp} (h:idle x=true):Free bef x y:=by
 refine .inr ?_
 obtain⟨i,r,w⟩:=x
 have:r=[]∧w=[]:=by
  unfold idle at h
  split at h
  ·rename_i e;injection e with _ e;injection e with e1 e2;exact⟨e1,e2⟩
  ·cases h
 obtain⟨rfl,rfl⟩:=this
 simp [clash,meets_nil]
theorem clashIn_free {bef:List (List Nat)} {x:Fp}:∀ {fps:List Fp},clashIn bef x fps=false→∀ y∈fps,Free bef y x
 | [],_,y,hy=>by simp at hy
 | z::r,h,y,hy=>by
  simp only [clashIn] at h
  split at h
  ·rename_i hm
   rcases List.mem_cons.1 hy with rfl|hy
   ·split at hm
    ·rename_i b hb;exact .inl ⟨b,hb,memN_iff.1 hm⟩
    ·cases hm
   ·exact clashIn_free h y hy
  ·split at h
   ·cases h
   ·rename_i hc
    rcases List.mem_cons.1 hy with rfl|hy
    ·exact .inr hc
    ·exact clashIn_free h y hy
theorem opsd_tr {E : Env} {F : FnT} {all : List Oper} {bef : List (List Nat)} {K : ASt → Prop} : ∀ (r : List Oper) (i : Nat) (st : ASt) (fps : List Fp), opsd E F all bef i r st fps K →
    ∃ fps' st', Tr E F all (numb i r) st fps' st' ∧ K st' ∧ fps'.Pairwise (Free bef) ∧ ∀ x ∈ fps, ∀ y ∈ fps', Free bef x y
  | [], i, st, fps, h => ⟨[], st, .nil st, h, .nil, by simp⟩
  | o :: r, i, st, fps, h => by
    simp only [opsd] at h
    obtain ⟨v, u, hg, h⟩ := ORes.holds_gives h
    split at h
    · rename_i hk
      split at h
      · rename_i hc
        obtain ⟨fps', st', h1, h2, h3, h4⟩ := opsd_tr r (i + 1) _ _ h
        have hfirst : ∀ y ∈ fps', Free bef (fpAt o st i) y := by
          intro y hy
          cases hid : idle (fpAt o st i) with
          | true => exact idle_free hid
          | false => rw [hid] at h4; exact h4 _ (by simp) y hy
        have hrest : ∀ x ∈ fps, ∀ y ∈ fps', Free bef x y := by
          intro x hx y hy
          cases hid : idle (fpAt o st i) with
          | true => rw [hid] at h4; exact h4 x hx y hy
          | false => rw [hid] at h4; exact h4 x (by simp [hx]) y hy
        refine ⟨fpAt o st i :: fps', st', .cons v u hg hk h1, h2, List.pairwise_cons.2 ⟨hfirst, h3⟩, fun x hx y hy => ?_⟩
        rcases List.mem_cons.1 hy with rfl | hy
        · exact clashIn_free hc x hx
        · exact hrest x hx y hy
      · cases h
    · cases h
/-! ### Who goes before whom -/
theorem mem_insertAll:∀ {x s:List Nat} {k:Nat},k∈insertAll x s ↔ k∈x∨k∈s
 | [],s,k=>by simp [insertAll]
 | y::r,s,k=>by
  simp only [insertAll,mem_insertAll (x:=r)]
  split
  ·rename_i hm
   have:=memN_iff.1 hm
   constructor
   ·rintro (h|h)
    ·exact .inl (by simp [h])
    ·exact .inr h
   ·rintro (h|h)
    ·rcases List.mem_cons.1 h with rfl|h
     ·exact .inr this
     ·exact .inl h
    ·exact .inr h
  ·simp only [List.mem_cons]
   constructor
   ·rintro (h|h|h)
    ·exact .inl (.inr h)
    ·exact .inl (.inl h)
    ·exact .inr h
   ·rintro ((h|h)|h)
    ·exact .inr (.inl h)
    ·exact .inl h
    ·exact .inr (.inr h)
theorem mem_befOne:∀ {es:List Edge} {acc:List (List Nat)} {k:Nat},k∈befOne es acc ↔ ∃ e∈es,Region.binds .any e=true∧(k=e.on∨∃ b,nth acc e.on=some b∧k∈b)
 | [],acc,k=>by simp [befOne]
 | e::r,acc,k=>by
  simp only [befOne]
  cases hb:Region.binds .any e with
  | false =>
   simp only [mem_befOne (es:=r),List.mem_cons]
   constructor
   ·rintro ⟨e',h1,h2⟩;exact⟨e',.inr h1,h2⟩
   ·rintro ⟨e',rfl|h1,h2,h3⟩
    ·rw[hb] at h2;cases h2
    ·exact⟨e',h1,h2,h3⟩
  | true =>
   simp only [mem_insertAll,mem_befOne (es:=r),List.mem_cons]
   constructor
   ·rintro ((rfl|h) | ⟨e',h1,h2⟩)
    ·exact⟨e,.inl rfl,hb,.inl rfl⟩
    ·cases hn:nth acc e.on with
     | none=>simp [hn] at h
     | some b=>simp only [hn] at h;exact⟨e,.inl rfl,hb,.inr ⟨b,hn,h⟩⟩
    ·exact⟨e',.inr h1,h2⟩
   ·rintro ⟨e',rfl|h1,h2,h3⟩
    ·rcases h3 with rfl | ⟨b,h3,h4⟩
     ·exact .inl (.inl rfl)
     ·rw[h3];exact .inl (.inr h4)
    ·exact .inr ⟨e',h1,h2,h3⟩
theorem befs_get:∀ (ops:List Oper) (acc:List (List Nat)),(∀ j,j<acc.length→nth (befs ops acc) j=nth acc j)∧(befs ops acc).length=acc.length+ops.length ∧
  ∀ k o,ops[k]?=some o→∃ pre,nth (befs ops acc) (acc.length+k)=some (befOne o.after.toList pre)∧∀ j b,nth pre j=some b→nth (befs ops acc) j=some b∧j<acc.length+k
 | [],acc=>by simp [befs]
 | o::r,acc=>by
  obtain⟨h1,h2,h3⟩:=befs_get r (acc++[befOne o.after.toList acc])
  simp only [befs]
  refine⟨fun j hj=>?_,by rw[h2];simp;omega,fun k o' ho=>?_⟩
  ·rw[h1 j (by simp;omega),nth_eq,nth_eq,List.getElem?_append_left hj]
  ·cases k with
   | zero =>
    simp at ho
    subst ho
    refine⟨acc,?_,fun j b hb=>?_⟩
    ·rw[h1 _ (by simp),nth_eq];simp
    ·rw[nth_eq] at hb
     have hj:=(List.getElem?_eq_some_iff.1 hb).1
     exact⟨by rw[h1 j (by simp;omega),nth_eq,List.getElem?_append_left hj];exact hb,by omega⟩
   | succ k =>
    obtain⟨pre,p1,p2⟩:=h3 k o' (by simpa using ho)
    simp only [List.length_append,List.length_singleton] at p1 p2
    refine⟨pre,by rw[show acc.length+(k+1)=acc.length+1+k by omega];exact p1,fun j b hb=>?_⟩
    obtain⟨q1,q2⟩:=p2 j b hb
    exact⟨q1,by omega⟩
structure Ordered (ops:List Oper):Prop where
 ex:∀ (i:Nat) o,ops[i]?=some o→∃ b,nth (befs ops []) i=some b∧(∀ k∈b,k<i)∧(∀ k,k∈b→∃ e∈o.after,Region.binds .any e=true∧(k=e.on∨∃ b',nth (befs ops []) e.on=some b'∧k∈b'))∧∀ e∈o.after,Region.binds .any e=true→e.on∈b
 apart:∀ (i j:Nat) o p,ops[i]?=some o→ops[j]?=some p→j<i→(∀ b,nth (befs ops []) i=some b→j ∉ b)→Apart ops o p
theorem orderOk_iff {ops:List Oper} (h:orderOk ops=true):Ordered ops:=by
 unfold orderOk at h
 simp only [List.all_eq_true] at h
 obtain⟨_,_,g3⟩:=befs_get ops []
 have hz:∀ (i:Nat) o,ops[i]?=some o→(o,i)∈ops.zipIdx:=by
  intro i o ho
  rw[List.mem_zipIdx_iff_getElem?]
  exact ho
 refine⟨fun i o ho=>?_,fun i j o p ho hp hji hnb=>?_⟩
 ·have:=h (o,i) (hz i o ho)
  simp only [Bool.and_eq_true] at this
  obtain⟨hb,_⟩:=this
  obtain⟨pre,p1,p2⟩:=g3 i o ho
  simp only [List.length_nil,Nat.zero_add] at p1 p2
  rw[p1] at hb
  simp only [List.all_eq_true] at hb
  refine⟨_,p1,fun k hk=>?_,fun k hk=>?_,fun e he hbd=>?_⟩
  ·have:=hb k hk
   unfold Nat.blt at this
   have:=ble_le this
   omega
  ·obtain⟨e,he,h1,h2⟩:=mem_befOne.1 hk
   refine⟨e,by simpa using he,h1,h2.imp id ?_⟩
   rintro ⟨b',q1,q2⟩
   exact⟨b',(p2 _ _ q1).1,q2⟩
  ·exact mem_befOne.2 ⟨e,by simpa using he,hbd,.inl rfl⟩
 ·have:=h (o,i) (hz i o ho)
  simp only [Bool.and_eq_true,List.all_eq_true] at this
  have:=this.2 (p,j) (hz j p hp)
  simp only [Bool.or_eq_true] at this
  rcases this with (h1|h1)|h1
  ·have:=ble_le h1;omega
  ·split at h1
   ·rename_i b hb;exact absurd (memN_iff.1 h1) (hnb b hb)
   ·cases h1
  ·exact apartN_iff h1
section
variable {P:Program} {fc:FC} {E:Env}
theorem any_ok (hE:EnvOk P E) (h64:fc.n0≤64) {ops:Array Oper} (hord:Ordered ops.toList) {Q:Exit→Act→World→Prop} {sx:ASt} (hQ:∀ a' c',Inv fc c' sx a'→Q .normal a' c'.w) :
  ∀ (fuel:Nat) (rem:List (Nat×Oper)) (listed:Array Bool) (c:RC) (st st':ASt) (fps:List Fp) (a:Act),rem.length=fuel→listed.size=ops.size→rem.Pairwise (fun x y=>x.1<y.1) →
   (∀ q∈rem,ops[q.1]?=some q.2)→(∀ i o,ops[i]?=some o→(listed.getD i true=false ↔ (i,o)∈rem)) →
   (∀ j b k,listed.getD j false=true→nth (befs ops.toList []) j=some b→k∈b→listed.getD k false=true) →
   Tr E (Fn P) ops.toList rem st fps st'→fps.Pairwise (Free (befs ops.toList []))→st'.eqv sx→Inv fc c st a→wpAny P .any ops Q fuel listed a c.w:=by
 intro fuel
 induction fuel with
 | zero =>
  intro rem listed c st st' fps a hl hsz hs hrem hli hdown htr hpw hsx hi
  have:rem=[]:=List.length_eq_zero_iff.1 hl
  subst this
  cases htr
  refine⟨?_,hQ a c (hi.eqv hsx)⟩
  rcases hr:Region.ready .any ops listed with _ | ⟨j,r⟩
  ·rfl
  ·have hj:j∈Region.ready .any ops listed:=by rw[hr];simp
   obtain⟨h1,o,ho,_⟩:=mem_ready.1 hj
   exact absurd ((hli j o ho).1 h1) (by simp)
 | succ fuel ih =>
  intro rem listed c st st' fps a hl hsz hs hrem hli hdown htr hpw hsx hi
  have isL:∀ j,j<ops.size→listed.getD j false=false→listed.getD j true=false:=by
   intro j hj hf
   have:j<listed.size:=by omega
   simpa [Array.getD,this] using hf
  have notL:∀ j,listed.getD j true=false→listed.getD j false=false:=by
   intro j hj
   rcases Nat.lt_or_ge j listed.size with h|h
   ·simpa [Array.getD,h] using hj
   ·simp [Array.getD,Nat.not_lt.2 h] at hj
  refine⟨fun hr=>?_,fun i hir=>?_⟩
  ·exfalso
   match rem,hl with
   | (i,o)::rem,hl =>
   rw[List.pairwise_cons] at hs
   have ho:ops[i]?=some o:=hrem (i,o) (by simp)
   obtain⟨b,hb,hlt,_,hin⟩:=hord.ex i o (by simpa using ho)
   have:i∈Region.ready .any ops listed:=by
    refine mem_ready.2 ⟨(hli i o ho).2 (by simp),o,ho,fun e he hbd=>?_⟩
    have hm:=hin e he hbd
    have hei:=hlt _ hm
    have his:i<ops.size:=(Array.getElem?_eq_some_iff.1 ho).1
    cases hcase:listed.getD e.on false with
    | true=>rfl
    | false =>
     have hes:e.on<ops.size:=by omega
     have:=(hli e.on ops[e.on] (by simp [hes])).1 (isL _ hes hcase)
     rcases List.mem_cons.1 this with h|h
     ·have:=(Prod.mk.inj h).1;omega
     ·have:=hs.1 _ h
      have:i<e.on:=this
      omega
   rw[hr] at this
   cases this
  ·obtain⟨h1,o,ho,hall⟩:=mem_ready.1 hir
   have hm:=(hli i o ho).1 h1
   obtain⟨l1,l2,rfl⟩:=List.append_of_mem hm
   have his:i<ops.size:=(Array.getElem?_eq_some_iff.1 ho).1
   have hbefL:∀ b k,nth (befs ops.toList []) i=some b→k∈b→listed.getD k false=true:=by
    intro b k hb hk
    obtain⟨b2,hb2,_,hex,_⟩:=hord.ex i o (by simpa using ho)
    rw[hb] at hb2
    obtain rfl:=Option.some.inj hb2
    obtain⟨e,he,hbd,rfl | ⟨b',hb',hk'⟩⟩:=hex k hk
    ·exact hall e he hbd
    ·exact hdown e.on b' k (hall e he hbd) hb' hk'
   have hlt1:∀ q∈l1,q.1<i:=fun q hq=>by
    have:=List.pairwise_append.1 hs
    exact this.2.2 q hq (i,o) (by simp)
   have hunl:∀ q∈l1,listed.getD q.1 false=false:=fun q hq=>notL _ ((hli q.1 q.2 (hrem q (by simp [hq]))).2 (by simp [hq]))
   have hfront:∀ q∈l1,Apart ops.toList o q.2∧∀ b,nth (befs ops.toList []) i=some b→q.1 ∉ b:=by
    intro q hq
    have hnb:∀ b,nth (befs ops.toList []) i=some b→q.1 ∉ b:=fun b hb hk=>by
     have:=hbefL b _ hb hk
     rw[hunl q hq] at this
     cases this
    exact⟨hord.apart i q.1 o q.2 (by simpa using ho) (by simpa using hrem q (by simp [hq])) (hlt1 q hq) hnb,hnb⟩
   obtain⟨v,u,fps1,fps2,st'',g1,g2,g3,g4,g5,g6⟩:=htr.front hpw hfront
   refine(step_ok hE hi h64 g1).wpOp ho fun a' c' i'=>?_
   refine ih (l1++l2) _ c' _ st'' (fps1++fps2) a' (by simp at hl ⊢;omega) (by simp [hsz]) ?_ (fun q hq=>hrem q (by simp at hq ⊢;rcases hq with h|h<;>simp [h])) ?_ ?_ g5 ?_ (g6.symm.trans hsx) i'
   ·refine hs.sublist ?_
    exact List.Sublist.append (List.Sublist.refl _) (List.sublist_cons_self _ _)
   ·intro j p hp
    by_cases hji:j=i
    ·subst hji
     rw[ho] at hp
     obtain rfl:=Option.some.inj hp
     have e1:(listed.setIfInBounds j true).getD j true=true:=by
      have:j<listed.size:=by omega
      simp [Array.getD,this]
     rw[e1]
     simp only [Bool.true_eq_false,false_iff,List.mem_append,not_or]
     have hs2:=List.pairwise_append.1 hs
     refine⟨fun h=>?_,fun h=>?_⟩
     ·have:=hlt1 _ h;exact Nat.lt_irrefl _ this
     ·have:=(List.pairwise_cons.1 hs2.2.1).1 _ h;exact Nat.lt_irrefl _ this
    ·rw[getD_set_ne true (Ne.symm hji),hli j p hp]
     simp only [List.mem_append,List.mem_cons]
     constructor
     ·rintro (h|h|h)
      ·exact .inl h
      ·exact absurd (Prod.mk.inj h).1 hji
      ·exact .inr h
     ·rintro (h|h)
      ·exact .inl h
      ·exact .inr (.inr h)
   ·intro j b k hj hb hk
    by_cases hji:j=i
    ·subst hji;exact getD_set_true (hbefL b k hb hk)
    ·rw[getD_set_ne false (Ne.symm hji)] at hj
     exact getD_set_true (hdown j b k hj hb hk)
   ·rw[g3] at hpw
    refine hpw.sublist ?_
    exact List.Sublist.append (List.Sublist.refl _) (List.sublist_cons_self _ _)
theorem Grow.drawn (w:World):Grow w { w with drawn:=w.drawn+1 }:=⟨Nat.le_refl _,fun _ _=>rfl,rfl,rfl,rfl⟩
theorem region_any (hE:EnvOk P E) {c:RC} {st:ASt} {a:Act} (h:Inv fc c st a) (h64:fc.n0≤64) (hm:P.follows .mixedOrders=true) {id:Nat} {ops:Array Oper} (hord:orderOk ops.toList=true) {Q:Exit→Act→World→Prop} {K:ASt→Prop}
  (hw:opsd E (Fn P) ops.toList (befs ops.toList []) 0 ops.toList st [] K) (hQ:∀ st' a' c',Inv fc c' st' a'→K st'→Q .normal a' c'.w):(Code.region id ops true).wp P Q a c.w:=by
 refine wp_region_any hm ?_
 obtain⟨fps,st',h1,h2,h3,_⟩:=opsd_tr _ _ _ _ hw
 refine any_ok hE h64 (orderOk_iff hord) (sx:=st') (fun a' c' i'=>hQ st' a' c' i' h2) ops.size (numb 0 ops.toList) _ { c with w:={ c.w with drawn:=c.w.drawn+1 } } st st' fps a (by rw[length_numb];simp) (by simp) (numb_sorted _ _) (fun q hq=>?_) (fun i o ho=>?_) (fun j b k hj=>?_) h1 h3 (.refl _) (h.grow (Grow.drawn c.w))
 ·have:=(mem_numb.1 hq).2;simpa using this
 ·have his:i<ops.size:=(Array.getElem?_eq_some_iff.1 ho).1
  constructor
  ·intro _;exact mem_numb.2 ⟨Nat.zero_le _,by simpa using ho⟩
  ·intro _;simp [Array.getD,his]
 ·have:(Array.replicate ops.size false).getD j false=false:=by
   simp only [Array.getD];split<;>simp
  rw[this] at hj;cases hj
end
end Go.Sym
namespace Go.Sym
open Go
def exOf:AEx→Exit
 | .normal=>.normal
 | .exit i=>.exit i
 | .ret=>.ret
 | .goto l=>.goto l
def lpCode:Code→Code
 | .scope s=>.scope s
 | b=>.loop b
def Lp (P:Program) (fc:FC):LpT:=fun b st K =>
 ∀ (c:RC) (a:Act) (Q:Exit→Act→World→Prop),Inv fc c st a→(∀ e st' a' c',Inv fc c' st' a'→K e st'→Q (exOf e) a' c'.w)→(lpCode b).wp P Q a c.w
def regOk:Code→Bool
 | .region _ ops draw=>match draw with
  | true=>orderOk ops.toList
  | false=>true
 | .seq a b=>regOk a && regOk b
 | .cond _ a b=>regOk a && regOk b
 | .block _ c=>regOk c
 | .loop c=>regOk c
 | .scope c=>regOk c
 | _=>true
section
variable {P:Program} {fc:FC} {E:Env}
theorem cw_ok (hE:EnvOk P E) (h64:fc.n0≤64) (hm:P.follows .mixedOrders=true):∀ (code:Code) (st:ASt) (K:AEx→ASt→Prop),regOk code=true→cw E (Fn P) (Lp P fc) code st K →
  ∀ (c:RC) (a:Act) (Q:Exit→Act→World→Prop),Inv fc c st a→(∀ e st' a' c',Inv fc c' st' a'→K e st'→Q (exOf e) a' c'.w)→code.wp P Q a c.w
 | .skip,st,K,_,hw,c,a,Q,hi,hQ=>wp_skip (hQ .normal st a c hi hw)
 | .region id ops draw,st,K,hr,hw,c,a,Q,hi,hQ=>by
  cases draw with
  | false=>exact region_text hE hi h64 hw fun st' a' c' i' k'=>hQ .normal st' a' c' i' k'
  | true=>exact region_any hE hi h64 hm hr hw fun st' a' c' i' k'=>hQ .normal st' a' c' i' k'
 | .seq x y,st,K,hr,hw,c,a,Q,hi,hQ=>by
  simp only [regOk,Bool.and_eq_true] at hr
  refine wp_seq (cw_ok hE h64 hm x st _ hr.1 hw c a _ hi fun e st' a' c' i' k'=>?_)
  cases e with
  | normal=>exact cw_ok hE h64 hm y st' K hr.2 k' c' a' Q i' hQ
  | exit i=>exact hQ (.exit i) st' a' c' i' k'
  | ret=>exact hQ .ret st' a' c' i' k'
  | goto l=>exact hQ (.goto l) st' a' c' i' k'
 | .cond q x y,st,K,hr,hw,c,a,Q,hi,hQ=>by
  simp only [regOk,Bool.and_eq_true] at hr
  simp only [cw] at hw
  have hq:=hi.eval q
  split at hw
  ·rename_i t ht
   rw[ht] at hq
   have hv:=hq.bool_inv
   cases t with
   | true=>exact wp_cond_true hv (cw_ok hE h64 hm x st K hr.1 hw c a Q hi hQ)
   | false=>exact wp_cond_false hv (cw_ok hE h64 hm y st K hr.2 hw c a Q hi hQ)
  ·cases hw
 | .block id x,st,K,hr,hw,c,a,Q,hi,hQ=>by
  refine wp_block (cw_ok hE h64 hm x st _ hr hw c a _ hi fun e st' a' c' i' k'=>?_)
  cases e with
  | normal=>exact hQ .normal st' a' c' i' k'
  | exit i =>
   simp only at k'
   show if i=id then Q .normal a' c'.w else Q (.exit i) a' c'.w
   split at k'
   ·rename_i hb
    rw[if_pos (Nat.eq_of_beq_eq_true hb)]
    exact hQ .normal st' a' c' i' k'
   ·rename_i hb
    rw[if_neg (fun e=>by subst e;simp at hb)]
    exact hQ (.exit i) st' a' c' i' k'
  | ret=>exact hQ .ret st' a' c' i' k'
  | goto l=>exact hQ (.goto l) st' a' c' i' k'
 | .exit i,st,K,_,hw,c,a,Q,hi,hQ=>wp_exit (hQ (.exit i) st a c hi hw)
 | .ret,st,K,_,hw,c,a,Q,hi,hQ=>wp_ret (hQ .ret st a c hi hw)
 | .loop b,st,K,_,hw,c,a,Q,hi,hQ=>by
  simp only [cw] at hw
  split at hw
  ·cases hw
  ·rename_i hb
   cases hw with
   | mk h =>
    have:=h c a Q hi hQ
    unfold lpCode at this
    split at this
    ·exact absurd rfl (hb _)
    ·exact this
 | .rangeFunc _ _ _ _,_,_,_,hw,_,_,_,_,_=>nomatch hw
 | .scope b,st,K,_,hw,c,a,Q,hi,hQ=>by
  cases hw with
  | mk h=>exact h c a Q hi hQ
 | .label _,st,K,_,hw,c,a,Q,hi,hQ=>wp_label (hQ .normal st a c hi hw)
 | .goto l,st,K,_,hw,c,a,Q,hi,hQ=>wp_goto (hQ (.goto l) st a c hi hw)
 | .refuse _,_,_,_,hw,_,_,_,_,_=>nomatch hw
end
/-! ### One state read as another -/
inductive Src where
 | loc (l:Nat)
 | nil (sz:Nat)
structure Wit where
 ρ:List (Nat×Src)
 ks:List Nat
def rnL:List (Nat×Src)→Nat→Src
 | [],l=>.loc l
 | (k,s)::r,l=>match Nat.beq k l with
  | true=>s
  | false=>rnL r l
def sameLoc (W:Wit) (l l':Nat):Bool:=match memN W.ks l with
 | true=>(match rnL W.ρ l with
  | .loc k=>Nat.beq k l'
  | .nil _=>false)
 | false=>false
def isNew (W:Wit) (l:Nat):Bool:=match memN W.ks l with
 | true=>(match rnL W.ρ l with
  | .loc _=>false
  | .nil _=>true)
 | false=>false
def frzRows (look:Nat→Option Obj):PV→Option (Nat×Bool×Nat×(Unit→List (List PV)))
 | .ref t=>(match look t with
  | some (.frz nn sz rows)=>some (nn,false,sz,fun _=>rows)
  | _=>none)
 | .sub t full lo n=>(match look t with
  | some (.frz _ sz rows)=>some (0,full,sz,fun _=>(rows.drop lo).take n)
  | _=>none)
 | _=>none
def impB (a b:Bool):Bool:=match a with
 | true=>b
 | false=>true
def eqB (a b:Bool):Bool:=match a with
 | true=>b
 | false=>!b
def nnLe (a b:Nat):Bool:=match a with
 | 0=>true
 | 1=>(match b with
  | 0=>false
  | _+1=>true)
 | 2=>is2 b
 | _=>false
def andT (b:Bool) (why:String) (k:Unit→Prop):Prop:=match b with
 | true=>k ()
 | false=>Stop why
inductive Wk:PV→PV→Prop
 | refl (x:PV):Wk x x
 | nil (full:Bool) (sz:Nat):Wk (.sl false 0 full sz []) .nils
 | sl {nn nn' sz:Nat} {full full':Bool} {rows rows':List (List PV)} (hn:nnLe nn nn'=true) (hf:impB full full'=true) (hl:rows.length=rows'.length)
   (hr:∀ (i:Nat) r r',rows[i]?=some r→rows'[i]?=some r'→r.length=r'.length)
   (hx:∀ (i j:Nat) r r' x y,rows[i]?=some r→rows'[i]?=some r'→r[j]?=some x→r'[j]?=some y→Wk x y):Wk (.sl false nn full sz rows) (.sl false nn' full' sz rows')
structure WkL (xs ys:List PV):Prop where
 len:xs.length=ys.length
 at':∀ (j:Nat) x y,xs[j]?=some x→ys[j]?=some y→Wk x y
structure WkR (xs ys:List (List PV)):Prop where
 len:xs.length=ys.length
 at':∀ (i:Nat) r r',xs[i]?=some r→ys[i]?=some r'→WkL r r'
mutual
def mt (W : Wit) (look : Nat → Option Obj) : PV → PV → (Unit → Prop) → Prop
  | .top, _, k => k ()
  | .int i n, y, k => (match y with
    | .int j m => andT (Nat.beq (ikNum i) (ikNum j)) "match: kinds" fun _ => n = m ∧ k ()
    | _ => Stop "match: int")
  | .bool b, y, k => (match y with
    | .bool b' => b = b' ∧ k ()
    | _ => Stop "match: bool")
  | .str s, y, k => (match y with
    | .str s' => s = s' ∧ k ()
    | _ => Stop "match: str")
  | .lit v, y, k => (match y with
    | .lit v' => v = v' ∧ k ()
    | _ => Stop "match: lit")
  | .nils, y, k => (match y with
    | .nils => k ()
    | _ => Stop "match: nils")
  | .sl bo nn full sz rows, y, k => (match y with
    | .nils => andT (Nat.beq nn 0) "match: nil" fun _ => rows = [] ∧ k ()
    | .sl bo' nn' full' sz' rows' => andT (impB bo' bo && nnLe nn nn' && impB full full' && Nat.beq sz sz') "match: slice" fun _ => WkR rows rows' ∧ k ()
    | y => (match frzRows look y with
      | some (nn', full', sz', rows') => andT (nnLe nn nn' && impB full full' && Nat.beq sz sz') "match: frozen" fun _ => Named _ rows' fun rs => WkR rows rs ∧ k ()
      | none => Stop "match: slice"))
  | .ref t, y, k => (match y with
    | .ref t' => andT (sameLoc W t t') "match: ref" k
    | .nils => andT (isNew W t) "match: new ref" k
    | _ => Stop "match: ref")
  | .sub t f lo n, y, k => (match y with
    | .sub t' f' lo' n' => andT (sameLoc W t t' && eqB f f') "match: sub" fun _ => lo = lo' ∧ n = n' ∧ k ()
    | _ => Stop "match: sub")
  | .spare t, y, k => (match y with
    | .spare t' => andT (sameLoc W t t') "match: spare" k
    | _ => Stop "match: spare")
  | .ptr l off, y, k => (match y with
    | .ptr l' off' => andT (sameLoc W l l' && Nat.beq off off') "match: ptr" k
    | _ => Stop "match: ptr")
  | .ep row off, y, k => (match y with
    | .ep row' off' => andT (Nat.beq off off') "match: ep" fun _ => row = row' ∧ k ()
    | _ => Stop "match: ep")
  | .er t i off, y, k => (match y with
    | .er t' i' off' => andT (sameLoc W t t' && Nat.beq off off') "match: er" fun _ => i = i' ∧ k ()
    | _ => Stop "match: er")
  | .ifc, y, k => (match y with
    | .ifc => k ()
    | _ => Stop "match: interface")
  | .mp t, y, k => (match y with
    | .mp t' => andT (sameLoc W t t') "match: map" k
    | _ => Stop "match: map")
  | .fn f a b, y, k => (match y with
    | .fn f' a' b' => f = f' ∧ mtL W look a a' fun _ => mtL W look b b' k
    | _ => Stop "match: fn")
  | .agg cs, y, k => (match y with
    | .agg ds => mtL W look cs ds k
    | _ => Stop "match: agg")
  | .tup cs, y, k => (match y with
    | .tup ds => mtL W look cs ds k
    | _ => Stop "match: tup")
def mtL (W : Wit) (look : Nat → Option Obj) : List PV → List PV → (Unit → Prop) → Prop
  | [], ys, k => (match ys with
    | [] => k ()
    | _ => Stop "match: length")
  | x :: xs, ys, k => (match ys with
    | y :: ys => mt W look x y fun _ => mtL W look xs ys k
    | _ => Stop "match: length")
end
def mtO (W : Wit) (look : Nat → Option Obj) (l : Nat) (o : Obj) (k : Unit → Prop) : Prop :=
  match rnL W.ρ l with
  | .nil z => (match o with
    | .arr nn cap sz rows => andT (Nat.beq nn 0 && Nat.beq z sz && (match cap with
        | none => true
        | some _ => false)) "match: new array" fun _ => rows = [] ∧ k ()
    | _ => Stop "match: new array")
  | .loc l' => (match o with
    | .dead => k ()
    | .box cs => (match look l' with
      | some (.box ds) => mtL W look cs ds k
      | _ => Stop "match: box")
    | .arr nn cap sz rows => (match look l' with
      | some (.arr nn' cap' sz' rows') => andT (nnLe nn nn' && Nat.beq sz sz') "match: array" fun _ => (match cap with
        | none => WkR rows rows' ∧ k ()
        | some c => (match cap' with
          | some c' => c = c' ∧ WkR rows rows' ∧ k ()
          | none => Stop "match: cap"))
      | _ => Stop "match: array")
    | .frz nn sz rows => (match look l' with
      | some (.frz nn' sz' rows') => andT (nnLe nn nn' && Nat.beq sz sz') "match: frozen array" fun _ => WkR rows rows' ∧ k ()
      | _ => Stop "match: frozen array")
    | .map kk es => (match look l' with
      | some (.map kk' es') => kk = kk' ∧ es = es' ∧ k ()
      | _ => Stop "match: map"))
def mtH (W:Wit) (look:Nat→Option Obj):Heap→(Unit→Prop)→Prop
 | [],k=>k ()
 | (l,o)::r,k=>mtO W look l o fun _=>mtH W look r k
def keysOf:Heap→List Nat
 | []=>[]
 | (l,_)::r=>l::keysOf r
def isLive:Obj→Bool
 | .box _=>true
 | .arr _ _ _ _=>true
 | .map _ _=>true
 | _=>false
def srcsOf (ρ:List (Nat×Src)):Heap→List Nat
 | []=>[]
 | (l,o)::r=>match isLive o with
  | true=>(match rnL ρ l with
   | .loc l'=>l'::srcsOf ρ r
   | .nil _=>srcsOf ρ r)
  | false=>srcsOf ρ r
def nodupN:List Nat→Bool
 | []=>true
 | x::r=>match memN r x with
  | true=>false
  | false=>nodupN r
def parOk (W:Wit):List Nat→Bool
 | []=>true
 | l::r=>match sameLoc W l l with
  | true=>parOk W r
  | false=>false
def subH (ρ : List (Nat × Src)) (n0 : Nat) (h : Heap) (look : Nat → Option Obj) (k : Wit → Prop) : Prop :=
  andT (nodupN (keysOf h) && nodupN (srcsOf ρ h) && parOk ⟨ρ, keysOf h⟩ (upTo n0 0)) "match: locations" fun _ => mtH ⟨ρ, keysOf h⟩ look h fun _ => k ⟨ρ, keysOf h⟩
def sub (ρ:List (Nat×Src)) (n0:Nat) (S st:ASt):Prop :=
 subH ρ n0 S.heap (hget st.heap) fun W=>mtL W (hget st.heap) S.tmps st.tmps fun _=>True
def frzs:List Nat→Heap→Heap
 | [],h=>h
 | t::r,h=>frzs r (match hget h t with
  | some (.arr nn _ sz rows)=>hset h t (.frz nn sz rows)
  | _=>h)
def frzSt (fz:List Nat) (st:ASt):ASt:={ st with heap:=frzs fz st.heap }
end Go.Sym
namespace Go.Sym
open Go
def RC.read (c:RC) (ρ:List (Nat×Src)) (h:Heap):RC :=
 { w:=c.w,Xk:=c.Xk,Xr:=c.Xr,D:=fun l=>(hget h l).isSome,θ:=fun l=>match rnL ρ l with
  | .loc l'=>c.θ l'
  | .nil z=>⟨.slice none 0 0,z⟩ }
theorem mem_keysOf {h:Heap} {l:Nat}:l∈keysOf h ↔ (hget h l).isSome:=by
 induction h with
 | nil=>simp [keysOf,hget]
 | cons p r ih =>
  obtain⟨k,o⟩:=p
  simp only [keysOf,List.mem_cons,hget]
  cases hb:Nat.beq k l with
  | true=>obtain rfl:=Nat.eq_of_beq_eq_true hb;simp
  | false =>
   have:l≠k:=fun e=>by subst e;simp at hb
   simp [this,ih]
theorem hget_mem {h:Heap} {l:Nat} {o:Sym.Obj} (e:hget h l=some o):(l,o)∈h:=by
 induction h with
 | nil=>simp [hget] at e
 | cons p r ih =>
  obtain⟨k,x⟩:=p
  simp only [hget] at e
  split at e
  ·rename_i hb
   obtain rfl:=Nat.eq_of_beq_eq_true hb
   obtain rfl:=Option.some.inj e
   simp
  ·exact List.mem_cons_of_mem _ (ih e)
theorem andT_iff {b:Bool} {why:String} {k:Unit→Prop} (h:andT b why k):b=true∧k ():=by
 cases b with
 | true=>exact⟨rfl,h⟩
 | false=>cases h
section
variable {fc:FC} {c:RC} {st:ASt} {a:Act} {ρ:List (Nat×Src)} {h:Heap}
theorem sameLoc_ok {l l':Nat} (e:sameLoc ⟨ρ,keysOf h⟩ l l'=true):(c.read ρ h).D l∧(c.read ρ h).θ l=c.θ l':=by
 unfold sameLoc at e
 split at e
 ·rename_i hm
  split at e
  ·rename_i k hk
   obtain rfl:=Nat.eq_of_beq_eq_true e
   exact⟨mem_keysOf.1 (memN_iff.1 hm),by simp only [RC.read];simp only at hk;rw[hk]⟩
  ·cases e
 ·cases e
theorem isNew_ok {l:Nat} (e:isNew ⟨ρ,keysOf h⟩ l=true):(c.read ρ h).D l∧((c.read ρ h).θ l).val=.slice none 0 0:=by
 unfold isNew at e
 split at e
 ·rename_i hm
  split at e
  ·cases e
  ·rename_i k hk
   exact⟨mem_keysOf.1 (memN_iff.1 hm),by simp only [RC.read];simp only at hk;rw[hk]⟩
 ·cases e
theorem nnLe_ok {a b:Nat} (h:nnLe a b=true):(b=0→a=0)∧(a=2→b=2):=by
 unfold nnLe at h
 split at h
 ·simp
 ·split at h
  ·cases h
  ·simp
 ·have:=is2_eq h;subst this;simp
 ·cases h
theorem impB_ok {a b:Bool} (h:impB a b=true):a=true→b=true:=by cases a<;>simp [impB] at h ⊢;exact h
theorem PRep.weak {w:World} {X:Nat→Prop} {nn nn' sz:Nat} {full full':Bool} {rows:List (List PV)} {v:Value} (hn:nnLe nn nn'=true) (hf:impB full full'=true) (r:PRep w X (.sl false nn' full' sz rows) v):PRep w X (.sl false nn full sz rows) v:=by
 have hf':=impB_ok hf
 obtain⟨n1,n2⟩:=nnLe_ok hn
 cases r with
 | slnil=>rw[n1 rfl];exact .slnil _ _
 | sl _ _ _ a n cap _ vals hn' hc hf2 h2 hX hs' hcell h1 hrep=>exact .sl nn full rows a n cap sz vals hn' hc (fun e=>hf2 (hf' e)) (fun e=>h2 (n2 e)) hX hs' hcell h1 hrep
theorem Rep.weak {nn nn' sz : Nat} {bo bo' full full' : Bool} {rows : List (List PV)} {v : Value} (kr : ∀ b, c.Xk b → c.Xr b) (hb : impB bo' bo = true) (hn : nnLe nn nn' = true) (hf : impB full full' = true) (r : Rep c (.sl bo' nn' full' sz rows) v) : Rep c (.sl bo nn full sz rows) v := by
  have hf' := impB_ok hf
  obtain ⟨n1, n2⟩ := nnLe_ok hn
  cases r with
  | plain p =>
    have q : ∀ {x : PV}, x = .sl bo' nn' full' sz rows → PRep c.w c.Xk x v → bo' = false := by
      intro x e p; cases p <;> first | (cases e; rfl) | cases e
    have := q rfl p
    subst this
    have p := p.weak hn hf
    cases bo with
    | false => exact .plain p
    | true =>
      cases p with
      | slnil => exact .slbnil _ _
      | sl _ _ _ a n cap _ vals hn' hc hf2 h2 hX hs' hcell h1 hrep => exact .slb nn full rows a n cap sz vals hn' hc hf2 h2 (fun e => ⟨kr _ (hX e).1, (hX e).2⟩) hs' hcell h1 hrep
  | slbnil =>
    cases bo with
    | false => simp [impB] at hb
    | true => rw [n1 rfl]; exact .slbnil _ _
  | slb _ _ _ a n cap _ vals hn' hc hf2 h2 hX hs' hcell h1 hrep =>
    cases bo with
    | false => simp [impB] at hb
    | true => exact .slb nn full rows a n cap sz vals hn' hc (fun e => hf2 (hf' e)) (fun e => h2 (n2 e)) hX hs' hcell h1 hrep
/-! ### Less is known -/
theorem WkL.refl (xs:List PV):WkL xs xs:=⟨rfl,fun j x y h1 h2=>by rw[h1] at h2;cases h2;exact .refl x⟩
theorem WkR.refl (xs:List (List PV)):WkR xs xs:=⟨rfl,fun i r r' h1 h2=>by rw[h1] at h2;cases h2;exact .refl r⟩
theorem WkL.of_eq {xs ys:List PV} (h:xs=ys):WkL xs ys:=h ▸ .refl xs
theorem WkR.of_eq {xs ys:List (List PV)} (h:xs=ys):WkR xs ys:=h ▸ .refl xs
theorem WkL.cons {x y:PV} {xs ys:List PV} (h:Wk x y) (t:WkL xs ys):WkL (x::xs) (y::ys) :=
 ⟨by simp [t.len],fun j a b h1 h2=>by cases j with
  | zero=>simp at h1 h2;subst h1;subst h2;exact h
  | succ j=>exact t.at' j a b (by simpa using h1) (by simpa using h2)⟩
theorem WkL.append {xs ys xs' ys':List PV} (h:WkL xs xs') (t:WkL ys ys'):WkL (xs++ys) (xs'++ys'):=by
 refine⟨by simp [h.len,t.len],fun j a b h1 h2=>?_⟩
 rw[List.getElem?_append] at h1 h2
 rw[← h.len] at h2
 split at h1
 ·rename_i hj;rw[if_pos hj] at h2;exact h.at' j a b h1 h2
 ·rename_i hj;rw[if_neg hj] at h2;exact t.at' _ a b h1 h2
theorem WkR.cons {x y:List PV} {xs ys:List (List PV)} (h:WkL x y) (t:WkR xs ys):WkR (x::xs) (y::ys) :=
 ⟨by simp [t.len],fun j a b h1 h2=>by cases j with
  | zero=>simp at h1 h2;subst h1;subst h2;exact h
  | succ j=>exact t.at' j a b (by simpa using h1) (by simpa using h2)⟩
theorem WkR.append {xs ys xs' ys':List (List PV)} (h:WkR xs xs') (t:WkR ys ys'):WkR (xs++ys) (xs'++ys'):=by
 refine⟨by simp [h.len,t.len],fun j a b h1 h2=>?_⟩
 rw[List.getElem?_append] at h1 h2
 rw[← h.len] at h2
 split at h1
 ·rename_i hj;rw[if_pos hj] at h2;exact h.at' j a b h1 h2
 ·rename_i hj;rw[if_neg hj] at h2;exact t.at' _ a b h1 h2
theorem WkR.set {xs xs':List (List PV)} {y y':List PV} (h:WkR xs xs') (t:WkL y y') (i:Nat):WkR (xs.set i y) (xs'.set i y'):=by
 refine⟨by simp [h.len],fun j a b h1 h2=>?_⟩
 rw[List.getElem?_set] at h1 h2
 rw[← h.len] at h2
 split at h1
 ·rename_i e;rw[if_pos e] at h2
  split at h1
  ·rename_i e2;rw[if_pos e2] at h2;cases h1;cases h2;exact t
  ·cases h1
 ·rename_i e;rw[if_neg e] at h2;exact h.at' j a b h1 h2
theorem WkR.take {xs xs':List (List PV)} (h:WkR xs xs') (i:Nat):WkR (xs.take i) (xs'.take i):=by
 refine⟨by simp [h.len],fun j a b h1 h2=>?_⟩
 rw[List.getElem?_take] at h1 h2
 split at h1
 ·rename_i e;rw[if_pos e] at h2;exact h.at' j a b h1 h2
 ·cases h1
theorem WkR.drop {xs xs':List (List PV)} (h:WkR xs xs') (i:Nat):WkR (xs.drop i) (xs'.drop i):=by
 refine⟨by simp [h.len],fun j a b h1 h2=>?_⟩
 rw[List.getElem?_drop] at h1 h2
 exact h.at' _ a b h1 h2
theorem WkR.map {α:Type} {f g:α→List PV} (l:List α) (h:∀ x∈l,WkL (f x) (g x)):WkR (l.map f) (l.map g):=by
 refine⟨by simp,fun j a b h1 h2=>?_⟩
 simp only [List.getElem?_map,Option.map_eq_some_iff] at h1 h2
 obtain⟨x,hx,rfl⟩:=h1
 obtain⟨y,hy,rfl⟩:=h2
 rw[hx] at hy
 cases hy
 exact h x (List.mem_of_getElem? hx)
theorem Wk.sl' {nn nn' sz:Nat} {full full':Bool} {rows rows':List (List PV)} (hn:nnLe nn nn'=true) (hf:impB full full'=true) (h:WkR rows rows'):Wk (.sl false nn full sz rows) (.sl false nn' full' sz rows') :=
 .sl hn hf h.len (fun i r r' h1 h2=>(h.at' i r r' h1 h2).len) fun i j r r' x y h1 h2 h3 h4=>(h.at' i r r' h1 h2).at' j x y h3 h4
theorem PRep.wk {w:World} {X:Nat→Prop} {x y:PV} (h:Wk x y):∀ {v:Value},PRep w X y v→PRep w X x v:=by
 induction h with
 | refl x=>exact fun p=>p
 | nil full sz=>intro v p;cases p;exact .slnil _ _
 | sl hn hf hl hr hx ih =>
  intro v p
  rename_i nn nn' sz full full' rows rows'
  obtain⟨n1,n2⟩:=nnLe_ok hn
  have hf:=impB_ok hf
  cases p with
  | slnil =>
   have:rows=[]:=by simpa using hl
   subst this
   rw[n1 rfl];exact .slnil _ _
  | sl _ _ _ a n cap _ vals hn' hc hf2 h2 hX hs' hcell h1 hrep =>
   refine .sl nn full rows a n cap sz vals (by rw[hl];exact hn') hc (fun e=>hf2 (hf e)) (fun e=>?_) hX (fun r h=>?_) hcell h1 (fun i j r x p q=>?_)
   ·have:=h2 (n2 e)
    intro e;subst e;exact this (by simpa using hl.symm)
   ·obtain⟨i,hi,rfl⟩:=List.getElem_of_mem h
    rw[hr i _ rows'[i] (by simp) (by simp)]
    exact hs' _ (List.getElem_mem _)
   ·have hi:=(List.getElem?_eq_some_iff.1 p).1
    have hj:=(List.getElem?_eq_some_iff.1 q).1
    have hi':i<rows'.length:=by omega
    have hlen:=hr i r rows'[i] p (by simp [hi'])
    exact ih i j r rows'[i] x (rows'[i][j]'(by omega)) p (by simp [hi']) q (by simp) (hrep i j rows'[i] _ (by simp [hi']) (by simp))
theorem WkR.sz {rows rows':List (List PV)} (h:WkR rows rows') {sz:Nat} (k:∀ r∈rows',r.length=sz):∀ r∈rows,r.length=sz:=by
 intro r hr
 obtain⟨i,hi,rfl⟩:=List.getElem_of_mem hr
 have hi':i<rows'.length:=by rw[← h.len];exact hi
 rw[(h.at' i _ rows'[i] (by simp) (by simp)).len]
 exact k _ (List.getElem_mem _)
theorem WkR.rep {w:World} {X:Nat→Prop} {rows rows':List (List PV)} (h:WkR rows rows') {vals:Nat→Nat→Value} (k:∀ (i j:Nat) r x,rows'[i]?=some r→r[j]?=some x→PRep w X x (vals i j)) :
  ∀ (i j:Nat) r x,rows[i]?=some r→r[j]?=some x→PRep w X x (vals i j):=by
 intro i j r x p q
 have hi:=(List.getElem?_eq_some_iff.1 p).1
 have hj:=(List.getElem?_eq_some_iff.1 q).1
 have hi':i<rows'.length:=by rw[← h.len];exact hi
 have hw:=h.at' i r rows'[i] p (by simp [hi'])
 have hj':j<rows'[i].length:=by rw[← hw.len];exact hj
 exact(k i j rows'[i] rows'[i][j] (by simp [hi']) (by simp [hj'])).wk (hw.at' j _ _ q (by simp [hj']))
theorem WkR.nil_iff {rows rows':List (List PV)} (h:WkR rows rows'):rows=[] ↔ rows'=[]:=by
 have:=h.len
 constructor<;>rintro rfl
 ·exact List.eq_nil_of_length_eq_zero (by simpa using this.symm)
 ·exact List.eq_nil_of_length_eq_zero (by simpa using this)
theorem PRep.wkR {w:World} {X:Nat→Prop} {nn sz:Nat} {full:Bool} {rows rows':List (List PV)} (h:WkR rows rows') {v:Value} (p:PRep w X (.sl false nn full sz rows') v):PRep w X (.sl false nn full sz rows) v:=by
 cases p with
 | slnil=>obtain rfl:=h.nil_iff.2 rfl;exact .slnil _ _
 | sl _ _ _ a n cap _ vals hn hc hf2 h2 hX hs' hcell h1 hrep =>
  exact .sl nn full rows a n cap sz vals (by rw[h.len];exact hn) hc hf2 (fun e k=>h2 e (h.nil_iff.1 k)) hX (h.sz hs') hcell h1 (h.rep hrep)
theorem Rep.wkR {c:RC} {bo:Bool} {nn sz:Nat} {full:Bool} {rows rows':List (List PV)} (h:WkR rows rows') {v:Value} (p:Rep c (.sl bo nn full sz rows') v):Rep c (.sl bo nn full sz rows) v:=by
 cases p with
 | plain p =>
  have q:∀ {x:PV},x=.sl bo nn full sz rows'→PRep c.w c.Xk x v→bo=false:=by
   intro x e p;cases p<;>first|(cases e;rfl)|cases e
  have:=q rfl p
  subst this
  exact .plain (p.wkR h)
 | slbnil=>obtain rfl:=h.nil_iff.2 rfl;exact .slbnil _ _
 | slb _ _ _ a n cap _ vals hn hc hf2 h2 hX hs' hcell h1 hrep =>
  exact .slb nn full rows a n cap sz vals (by rw[h.len];exact hn) hc hf2 (fun e k=>h2 e (h.nil_iff.1 k)) hX (h.sz hs') hcell h1 (h.rep hrep)
theorem Rep.wk {c:RC} {x y:PV} (h:Wk x y) {v:Value} (p:Rep c y v):Rep c x v:=by
 cases h with
 | refl=>exact p
 | nil full sz=>cases p with|plain p=>exact .plain (p.wk (.nil full sz))
 | sl hn hf hl hr hx =>
  have q:∀ {x:PV} {nn sz:Nat} {full:Bool} {rows:List (List PV)},x=.sl false nn full sz rows→Rep c x v→PRep c.w c.Xk x v:=by
   intro x _ _ _ _ e p;cases p<;>first|assumption|cases e
  exact .plain ((q rfl p).wk (.sl hn hf hl hr hx))
theorem RepL.wk {c:RC} {xs ys:List PV} (h:WkL xs ys) {vs:Array Value} (p:RepL c ys vs):RepL c xs vs:=by
 refine⟨by rw[h.len];exact p.1,fun i x v q r=>?_⟩
 have hi:=(List.getElem?_eq_some_iff.1 q).1
 have hi':i<ys.length:=by rw[← h.len];exact hi
 exact(p.2 i ys[i] v (by simp [hi']) r).wk (h.at' i x ys[i] q (by simp [hi']))
theorem ArrAt.wk {w:World} {X:Nat→Prop} {b o n cap sz:Nat} {rows rows':List (List PV)} (h:WkR rows rows') (p:ArrAt w X b o n cap sz rows'):ArrAt w X b o n cap sz rows:=by
 refine⟨by rw[h.len];exact p.hn,p.hc,h.sz p.hs,p.room,fun i j r x v q1 q2 q3=>?_,p.endok⟩
 have hi:=(List.getElem?_eq_some_iff.1 q1).1
 have hj:=(List.getElem?_eq_some_iff.1 q2).1
 have hi':i<rows'.length:=by rw[← h.len];exact hi
 have hw:=h.at' i r rows'[i] q1 (by simp [hi'])
 have hj':j<rows'[i].length:=by rw[← hw.len];exact hj
 exact(p.rep i j rows'[i] rows'[i][j] v (by simp [hi']) (by simp [hj']) q3).wk (hw.at' j _ _ q2 (by simp [hj']))
theorem frzRows_ok (hi:Inv fc c st a) {y:PV} {nn sz:Nat} {full:Bool} {rows:Unit→List (List PV)} (e:frzRows (hget st.heap) y=some (nn,full,sz,rows)) {v:Value} (hy:Rep c y v):PRep c.w c.Xk (.sl false nn full sz (rows ())) v:=by
 unfold frzRows at e
 split at e
 ·obtain⟨ev,_,_⟩:=hy.ref_inv
  split at e
  ·rename_i hl
   obtain⟨rfl,rfl,rfl,rfl⟩:=by simpa only [Option.some.injEq,Prod.mk.injEq] using e
   rw[ev]
   exact(hi.obj _ _ hl).2.1
  ·cases e
 ·split at e
  ·rename_i hl
   obtain⟨rfl,rfl,rfl,rfl⟩:=by simpa only [Option.some.injEq,Prod.mk.injEq] using e
   exact(part_rep (cap:=none) hi hy (.inr hl) (fun _=>True) (fun _ _=>trivial)).2 (frz_xk hi hl)
  ·cases e
 ·cases e
mutual
theorem mt_ok (hi:Inv fc c st a):∀ (x y:PV) (k:Unit→Prop),mt ⟨ρ,keysOf h⟩ (hget st.heap) x y k→k ()∧∀ v,Rep c y v→Rep (c.read ρ h) x v
 | .top,y,k,e=>⟨e,fun v _=>.top v⟩
 | .int i n,y,k,e=>by
  simp only [mt] at e
  split at e
  ·obtain⟨e1,rfl,e9⟩:=andT_iff e
   refine⟨e9,fun v hv=>?_⟩
   obtain rfl:=hv.int_inv
   rename_i j
   have:i=j:=by cases i<;>cases j<;>first|rfl|simp [ikNum] at e1
   subst this
   exact .plain (.int _ _)
  ·cases e
 | .bool b,y,k,e=>by
  simp only [mt] at e
  split at e
  ·obtain⟨rfl,e⟩:=e
   exact⟨e,fun v hv=>by obtain rfl:=hv.bool_inv;exact .plain (.bool _)⟩
  ·cases e
 | .str s,y,k,e=>by
  simp only [mt] at e
  split at e
  ·obtain⟨rfl,e⟩:=e
   exact⟨e,fun v hv=>by obtain rfl:=hv.str_inv;exact .plain (.str _)⟩
  ·cases e
 | .lit l,y,k,e=>by
  simp only [mt] at e
  split at e
  ·obtain⟨rfl,e⟩:=e
   exact⟨e,fun v hv=>by obtain rfl:=hv.lit_inv;exact .lit _⟩
  ·cases e
 | .nils,y,k,e=>by
  simp only [mt] at e
  split at e
  ·exact⟨e,fun v hv=>by obtain rfl:=hv.nils_inv;exact .plain .nils⟩
  ·cases e
 | .sl bo nn full sz rows,y,k,e=>by
  simp only [mt] at e
  split at e
  ·obtain⟨e1,rfl,e9⟩:=andT_iff e
   obtain rfl:=Nat.eq_of_beq_eq_true e1
   refine⟨e9,fun v hv=>?_⟩
   obtain rfl:=hv.nils_inv
   cases bo with
   | false=>exact .plain (.slnil _ _)
   | true=>exact .slbnil _ _
  ·rename_i bo' nn' full' sz' rows'
   have q:=andT_iff e
   clear e
   obtain⟨e1,ew,e9⟩:=q
   simp only [Bool.and_eq_true] at e1
   obtain⟨⟨⟨e1,e2⟩,e3⟩,e4⟩:=e1
   obtain rfl:=Nat.eq_of_beq_eq_true e4
   refine⟨e9,fun v hv=>?_⟩
   replace hv:=hv.wkR ew
   have hv:Rep (c.read ρ h) (.sl bo' nn' full' sz rows) v:=by
    cases hv with
    | plain p=>exact .plain p
    | slbnil=>exact .slbnil _ _
    | slb _ _ _ a n cap _ vals hn' hc hf2 h2 hX hs' hcell h1 hrep=>exact .slb _ _ _ a n cap sz vals hn' hc hf2 h2 hX hs' hcell h1 hrep
   exact hv.weak hi.kr e1 e2 e3
  ·split at e
   ·rename_i hfr
    have q:=andT_iff e
    clear e
    obtain⟨e1,e9⟩:=q
    cases e9 with
    | mk e9 =>
    obtain⟨ew,e9⟩:=e9 _ rfl
    simp only [Bool.and_eq_true] at e1
    obtain⟨⟨e1,e2⟩,e3⟩:=e1
    obtain rfl:=Nat.eq_of_beq_eq_true e3
    refine⟨e9,fun v hv=>?_⟩
    have:=(frzRows_ok hi hfr hv).wkR ew
    exact Rep.weak (c:=c.read ρ h) (bo':=false) hi.kr (by rfl) e1 e2 (.plain this)
   ·cases e
 | .ref t,y,k,e=>by
  simp only [mt] at e
  split at e
  ·obtain⟨e1,e9⟩:=andT_iff e
   obtain⟨d1,d2⟩:=sameLoc_ok e1
   refine⟨e9,fun v hv=>?_⟩
   obtain⟨ev,_,h1⟩:=hv.ref_inv
   exact .ref _ v d1 (by rw[d2];exact ev) h1
  ·obtain⟨e1,e9⟩:=andT_iff e
   obtain⟨d1,d2⟩:=isNew_ok e1
   refine⟨e9,fun v hv=>?_⟩
   obtain rfl:=hv.nils_inv
   exact .ref _ _ d1 d2.symm rfl
  ·cases e
 | .sub t f lo n,y,k,e=>by
  simp only [mt] at e
  split at e
  ·rename_i t' f' lo' n'
   have q:=andT_iff e
   clear e
   obtain⟨e1,rfl,rfl,e9⟩:=q
   simp only [Bool.and_eq_true] at e1
   obtain⟨d1,d2⟩:=sameLoc_ok e1.1
   obtain rfl:f=f':=by have:=e1.2;cases f<;>cases f'<;>first|rfl|simp [eqB] at this
   refine⟨e9,fun v hv=>?_⟩
   cases hv with
   | plain p=>cases p
   | subnil _ _ _ len cap hd hv=>exact .subnil _ _ _ len cap d1 (by rw[d2];exact hv)
   | sub _ _ _ _ b o len cap cap' a hd hv hn hf hg ha hl=>exact .sub _ _ _ _ b o len cap cap' a d1 (by rw[d2];exact hv) hn hf hg (by rw[d2];exact ha) hl
  ·cases e
 | .spare t,y,k,e=>by
  simp only [mt] at e
  split at e
  ·obtain⟨e1,e9⟩:=andT_iff e
   obtain⟨d1,d2⟩:=sameLoc_ok e1
   refine⟨e9,fun v hv=>?_⟩
   cases hv with
   | plain p=>cases p
   | spare _ b o len cap lo n cap' a hd hv ha hl hn=>exact .spare _ b o len cap lo n cap' a d1 (by rw[d2];exact hv) (by rw[d2];exact ha) hl hn
  ·cases e
 | .ptr l off,y,k,e=>by
  simp only [mt] at e
  split at e
  ·obtain⟨e1,e9⟩:=andT_iff e
   simp only [Bool.and_eq_true] at e1
   obtain⟨d1,d2⟩:=sameLoc_ok e1.1
   obtain rfl:=Nat.eq_of_beq_eq_true e1.2
   refine⟨e9,fun v hv=>?_⟩
   obtain⟨b,rfl,_,hv⟩:=hv.ptr_inv
   exact .ptr _ _ b d1 (by rw[d2];exact hv)
  ·cases e
 | .ep row off,y,k,e=>by
  simp only [mt] at e
  split at e
  ·obtain⟨e1,rfl,e9⟩:=andT_iff e
   obtain rfl:=Nat.eq_of_beq_eq_true e1
   refine⟨e9,fun v hv=>?_⟩
   obtain⟨b,o,vals,rfl,q1,q2,q3,q4⟩:=hv.ep_inv
   exact .ep _ _ b o vals q1 q2 q3 q4
  ·cases e
 | .er t i off,y,k,e=>by
  simp only [mt] at e
  split at e
  ·obtain⟨e1,rfl,e9⟩:=andT_iff e
   simp only [Bool.and_eq_true] at e1
   obtain⟨d1,d2⟩:=sameLoc_ok e1.1
   obtain rfl:=Nat.eq_of_beq_eq_true e1.2
   refine⟨e9,fun v hv=>?_⟩
   obtain⟨b,o,len,cap,rfl,_,q1,q2⟩:=hv.er_inv
   have:=Rep.er (c:=c.read ρ h) t i off b o len cap d1 (by rw[d2];exact q1) q2
   rwa [d2] at this
  ·cases e
 | .ifc,y,k,e=>by
  simp only [mt] at e
  split at e
  ·refine⟨e,fun v hv=>?_⟩
   obtain⟨t,u,rfl⟩:=hv.ifc_inv
   exact .ifc t u
  ·cases e
 | .mp t,y,k,e=>by
  simp only [mt] at e
  split at e
  ·obtain⟨e1,e9⟩:=andT_iff e
   obtain⟨d1,d2⟩:=sameLoc_ok e1
   refine⟨e9,fun v hv=>?_⟩
   obtain⟨b,rfl,_,q1⟩:=hv.mp_inv
   exact .mp _ b d1 (by rw[d2];exact q1)
  ·cases e
 | .fn f x1 x2,y,k,e=>by
  simp only [mt] at e
  split at e
  ·obtain⟨rfl,e9⟩:=e
   obtain⟨e9,r1⟩:=mtL_ok hi x1 _ _ e9
   obtain⟨e9,r2⟩:=mtL_ok hi x2 _ _ e9
   refine⟨e9,fun v hv=>?_⟩
   obtain⟨fv,cv,rfl,q1,q2⟩:=hv.fn_inv
   have:=r1 _ q1
   have h2:=r2 _ q2
   exact .fn _ _ _ _ _ this.1 h2.1 this.2 h2.2
  ·cases e
 | .agg cs,y,k,e=>by
  simp only [mt] at e
  split at e
  ·obtain⟨e,r1⟩:=mtL_ok hi cs _ _ e
   refine⟨e,fun v hv=>?_⟩
   obtain⟨vs,rfl,q⟩:=hv.agg_inv
   have:=r1 _ q
   exact .agg _ _ this.1 this.2
  ·cases e
 | .tup cs,y,k,e=>by
  simp only [mt] at e
  split at e
  ·obtain⟨e,r1⟩:=mtL_ok hi cs _ _ e
   refine⟨e,fun v hv=>?_⟩
   obtain⟨vs,rfl,q⟩:=hv.tup_inv
   have:=r1 _ q
   exact .tup _ _ this.1 this.2
  ·cases e
theorem mtL_ok (hi:Inv fc c st a):∀ (xs ys:List PV) (k:Unit→Prop),mtL ⟨ρ,keysOf h⟩ (hget st.heap) xs ys k→k ()∧∀ vs,RepL c ys vs→RepL (c.read ρ h) xs vs
 | [],ys,k,e=>by
  simp only [mtL] at e
  split at e
  ·exact⟨e,fun vs hv=>⟨hv.1,by simp⟩⟩
  ·cases e
 | x::xs,ys,k,e=>by
  simp only [mtL] at e
  split at e
  ·rename_i y ys
   obtain⟨e,r1⟩:=mt_ok hi x y _ e
   obtain⟨e,r2⟩:=mtL_ok hi xs ys _ e
   refine⟨e,fun vs hv=>?_⟩
   obtain⟨n,hv⟩:=hv
   match vs,n with
   | ⟨v0::vs⟩,n =>
   have:=r2 ⟨vs⟩ ⟨by simpa using n,fun i x v p q=>hv (i+1) x v (by simpa using p) (by simpa using q)⟩
   refine⟨by simp [this.1],fun i x' v p q=>?_⟩
   cases i with
   | zero =>
    simp at p q
    subst p;subst q
    exact r1 _ (hv 0 y v0 rfl (by simp))
   | succ i=>exact this.2 i x' v (by simpa using p) (by simpa using q)
  ·cases e
end
end
end Go.Sym
namespace Go.Sym
open Go
section
variable {fc:FC} {c:RC} {st:ASt} {a:Act} {ρ:List (Nat×Src)} {h:Heap}
theorem PRep.weak' {w:World} {X:Nat→Prop} {nn nn' sz:Nat} {rows:List (List PV)} {v:Value} (hn:nnLe nn nn'=true) (r:PRep w X (.sl false nn' false sz rows) v):PRep w X (.sl false nn false sz rows) v:=r.weak hn rfl
theorem mtO_ok (hi:Inv fc c st a) {l:Nat} {o:Sym.Obj} {k:Unit→Prop} (e:mtO ⟨ρ,keysOf h⟩ (hget st.heap) l o k):k ()∧ORel (c.read ρ h) l o ∧
  ∀ l',rnL ρ l=.loc l'→o.live→∃ o',hget st.heap l'=some o'∧o'.live:=by
 unfold mtO at e
 split at e
 ·rename_i z hz
  simp only at hz
  have hθ:(c.read ρ h).θ l=⟨.slice none 0 0,z⟩:=by simp only [RC.read,hz]
  split at e
  ·rename_i nn cap sz rows
   have q:=andT_iff e
   clear e
   obtain⟨e1,rfl,e9⟩:=q
   simp only [Bool.and_eq_true] at e1
   obtain⟨⟨e1,e2⟩,e3⟩:=e1
   obtain rfl:=Nat.eq_of_beq_eq_true e1
   obtain rfl:=Nat.eq_of_beq_eq_true e2
   refine⟨e9,⟨by rw[hθ],.inl ⟨by rw[hθ],rfl,rfl,fun k hk=>?_⟩⟩,fun l' hl'=>by rw[hl'] at hz;cases hz⟩
   rw[hk] at e3;cases e3
  ·cases e
 ·rename_i l' hl'
  simp only at hl'
  have hθ:(c.read ρ h).θ l=c.θ l':=by simp only [RC.read,hl']
  have hlv:∀ {P:Prop} {o':Sym.Obj},hget st.heap l'=some o'→o'.live→∀ l2,rnL ρ l=.loc l2→P→∃ o',hget st.heap l2=some o'∧o'.live:=by
   intro P o' h1 h2 l2 h3 _
   rw[hl'] at h3
   injection h3 with h3
   subst h3
   exact⟨o',h1,h2⟩
  split at e
  ·exact⟨e,trivial,fun l2 h3 h4=>h4.elim⟩
  ·rename_i cs
   split at e
   ·rename_i ds hd
    obtain⟨e9,r⟩:=mtL_ok hi cs ds _ e
    obtain⟨b,arr,t,fr,h1,h2,h3,h4,h7,h5,h6⟩:=hi.obj _ _ hd
    have:=r arr ⟨h4,h5⟩
    exact⟨e9,⟨b,arr,t,fr,by rw[hθ];exact h1,h2,h3,this.1,h7,this.2,h6⟩,hlv hd trivial⟩
   ·cases e
  ·rename_i nn cap sz rows
   split at e
   ·rename_i nn' cap' sz' rows' hd
    have q:=andT_iff e
    clear e
    obtain⟨e1,e9⟩:=q
    simp only [Bool.and_eq_true] at e1
    obtain⟨e1,e2⟩:=e1
    obtain rfl:=Nat.eq_of_beq_eq_true e2
    obtain⟨n1,n2⟩:=nnLe_ok e1
    have key:(∀ k,cap=some k→cap'=some k)→WkR rows rows'→ORel (c.read ρ h) l (.arr nn cap sz rows):=by
     intro hcap ew
     obtain⟨hz,ho⟩:=hi.obj _ _ hd
     refine⟨by rw[hθ];exact hz,?_⟩
     rcases ho with ⟨h1,h2,h3,h4⟩ | ⟨b,o,k',h1,h2,h3,h4,h5,h6⟩
     ·exact .inl ⟨by rw[hθ];exact h1,ew.nil_iff.2 h2,n1 h3,fun k hk=>h4 k (hcap k hk)⟩
     ·exact .inr ⟨b,o,k',by rw[hθ,ew.len];exact h1,fun k hk=>h2 k (hcap k hk),fun e k=>h3 (n2 e) (ew.nil_iff.1 k),h4,by rw[ew.len];exact h5.wk ew,h6⟩
    split at e9
    ·exact⟨e9.2,key (by simp) e9.1,hlv hd trivial⟩
    ·split at e9
     ·obtain⟨rfl,e9,e10⟩:=e9
      exact⟨e10,key (by simp) e9,hlv hd trivial⟩
     ·cases e9
   ·cases e
  ·rename_i nn sz rows
   split at e
   ·rename_i nn' sz' rows' hd
    have q:=andT_iff e
    clear e
    obtain⟨e1,ew,e9⟩:=q
    simp only [Bool.and_eq_true] at e1
    obtain⟨e1,e2⟩:=e1
    obtain rfl:=Nat.eq_of_beq_eq_true e2
    obtain⟨hz,hp,hh⟩:=hi.obj _ _ hd
    exact⟨e9,⟨by rw[hθ];exact hz,by rw[hθ];exact(hp.wkR ew).weak' e1,by rw[hθ,ew.len];exact hh⟩,fun l2 h3 h4=>h4.elim⟩
   ·cases e
  ·rename_i kk es
   split at e
   ·rename_i kk' es' hd
    obtain⟨rfl,rfl,e9⟩:=e
    obtain⟨b,ents,clock,h1,h2,h3⟩:=hi.obj _ _ hd
    exact⟨e9,⟨b,ents,clock,by rw[hθ];exact h1,h2,h3⟩,hlv hd trivial⟩
   ·cases e
theorem mtH_ok (hi:Inv fc c st a) {k:Unit→Prop}:∀ {g:Heap},mtH ⟨ρ,keysOf h⟩ (hget st.heap) g k→k ()∧∀ l o,(l,o)∈g→ORel (c.read ρ h) l o∧∀ l',rnL ρ l=.loc l'→o.live→∃ o',hget st.heap l'=some o'∧o'.live
 | [],e=>⟨e,by simp⟩
 | (l,o)::r,e=>by
  obtain⟨e,h1⟩:=mtO_ok hi e
  obtain⟨e,h2⟩:=mtH_ok hi e
  refine⟨e,fun l' o' hm=>?_⟩
  rcases List.mem_cons.1 hm with h|h
  ·obtain⟨rfl,rfl⟩:=Prod.mk.inj h
   exact h1
  ·exact h2 l' o' h
theorem nodupN_iff {l:List Nat} (e:nodupN l=true):l.Nodup:=by
 induction l with
 | nil=>exact .nil
 | cons x r ih =>
  simp only [nodupN] at e
  split at e
  ·cases e
  ·rename_i hm
   exact List.nodup_cons.2 ⟨fun hx=>(by rw[memN_iff.2 hx] at hm;cases hm),ih e⟩
theorem isLive_iff {o:Sym.Obj}:isLive o=true ↔ o.live:=by cases o<;>simp [isLive,Obj.live]
theorem mem_srcsOf {ρ:List (Nat×Src)} {g:Heap} {l l':Nat} {o:Sym.Obj} (hm:(l,o)∈g) (hl:o.live) (hr:rnL ρ l=.loc l'):l'∈srcsOf ρ g:=by
 induction g with
 | nil=>simp at hm
 | cons p r ih =>
  obtain⟨k,x⟩:=p
  simp only [srcsOf]
  rcases List.mem_cons.1 hm with h|h
  ·obtain⟨rfl,rfl⟩:=Prod.mk.inj h
   rw[isLive_iff.2 hl,hr]
   simp
  ·have:=ih h
   split
   ·split
    ·exact List.mem_cons_of_mem _ this
    ·exact this
   ·exact this
theorem srcs_inj {ρ:List (Nat×Src)} {g:Heap} (hk:(keysOf g).Nodup) (hn:(srcsOf ρ g).Nodup) {l1 l2 l':Nat} {o1 o2:Sym.Obj} (h1:(l1,o1)∈g) (h2:(l2,o2)∈g) (v1:o1.live) (v2:o2.live) (r1:rnL ρ l1=.loc l') (r2:rnL ρ l2=.loc l'):l1=l2:=by
 induction g with
 | nil=>simp at h1
 | cons p r ih =>
  obtain⟨k,x⟩:=p
  simp only [keysOf,List.nodup_cons] at hk
  simp only [srcsOf] at hn
  rcases List.mem_cons.1 h1 with e1|e1<;>rcases List.mem_cons.1 h2 with e2|e2
  ·rw[(Prod.mk.inj e1).1,(Prod.mk.inj e2).1]
  ·obtain⟨rfl,rfl⟩:=Prod.mk.inj e1
   rw[isLive_iff.2 v1,r1] at hn
   exact absurd (mem_srcsOf e2 v2 r2) (List.nodup_cons.1 hn).1
  ·obtain⟨rfl,rfl⟩:=Prod.mk.inj e2
   rw[isLive_iff.2 v2,r2] at hn
   exact absurd (mem_srcsOf e1 v1 r1) (List.nodup_cons.1 hn).1
  ·refine ih hk.2 ?_ e1 e2
   split at hn
   ·split at hn
    ·exact(List.nodup_cons.1 hn).2
    ·exact hn
   ·exact hn
theorem parOk_iff {W:Wit} {l:List Nat} (e:parOk W l=true):∀ x∈l,sameLoc W x x=true:=by
 induction l with
 | nil=>simp
 | cons y r ih =>
  simp only [parOk] at e
  split at e
  ·rename_i hs
   intro x hx
   rcases List.mem_cons.1 hx with rfl|hx
   ·exact hs
   ·exact ih e x hx
  ·cases e
theorem subH_ok (hi:Inv fc c st a) {n0:Nat} (hn:fc.n0=n0) {k:Wit→Prop} (e:subH ρ n0 h (hget st.heap) k):k ⟨ρ,keysOf h⟩∧Inv fc (c.read ρ h) ⟨[],h⟩ act0:=by
 obtain⟨e1,e⟩:=andT_iff e
 simp only [Bool.and_eq_true] at e1
 obtain⟨⟨e1,e2⟩,e3⟩:=e1
 have e1:=nodupN_iff e1
 have e2:=nodupN_iff e2
 have e3:=parOk_iff e3
 obtain⟨e,ho⟩:=mtH_ok hi e
 refine⟨e,?_⟩
 have hpar:∀ l,l<fc.n0→(c.read ρ h).D l∧(c.read ρ h).θ l=c.θ l:=fun l hl=>sameLoc_ok (e3 l (by have:=mem_upTo (n:=n0) (b:=0) (j:=l) (by omega);rwa [Nat.zero_add] at this))
 have src:∀ l o,(l,o)∈h→o.live→∀ b,blk ((c.read ρ h).θ l).val=some b→∃ l' o',rnL ρ l=.loc l'∧hget st.heap l'=some o'∧o'.live∧blk (c.θ l').val=some b:=by
  intro l o hm hlv b hb
  simp only [RC.read] at hb
  split at hb
  ·rename_i l' hl'
   obtain⟨o',h1,h2⟩:=(ho l o hm).2 l' hl' hlv
   exact⟨l',o',hl',h1,h2,hb⟩
  ·simp [blk] at hb
 refine { lb:=hi.lb,lok:=hi.lok,kr:=hi.kr,xlt:=hi.xlt,dom:=fun _=>Iff.rfl,obj:=fun l o hl=>(ho l o (hget_mem hl)).1,dis:=?_,tsz:=rfl,tmp:=by simp,nod:=rfl,size:=hi.size,same:=hi.same,os:=hi.os,tape:=hi.tape,out:=hi.out,xk0:=hi.xk0,xr0:=hi.xr0,xkn:=hi.xkn,xrn:=hi.xrn,par:=fun l hl=>by rw[(hpar l hl).2];exact hi.par l hl,pdom:=fun l hl=>(hpar l hl).1,own:=?_ }
 ·intro l l' o o' b hl hl' hv hv' hne hb hb'
  obtain⟨s,x,q1,q2,q3,q4⟩:=src l o (hget_mem hl) hv b hb
  obtain⟨s',x',p1,p2,p3,p4⟩:=src l' o' (hget_mem hl') hv' b hb'
  refine hi.dis s s' x x' b q2 p2 q3 p3 (fun es=>?_) q4 p4
  subst es
  exact hne (srcs_inj e1 e2 (hget_mem hl) (hget_mem hl') hv hv' q1 p1)
 ·intro l o b hl hv hb
  obtain⟨s,x,q1,q2,q3,q4⟩:=src l o (hget_mem hl) hv b hb
  exact hi.own s x b q2 q3 q4
theorem Inv.with {c':RC} {h:Heap} {xs:List PV} (hi:Inv fc c' ⟨[],h⟩ act0) (hd:a.defers=[]) (r:RepL c' xs a.tmps):Inv fc c' ⟨xs,h⟩ a :=
 { hi with tsz:=r.1.symm,tmp:=r.2,nod:=hd }
theorem Inv.tmps (hi:Inv fc c st a):RepL c st.tmps a.tmps:=⟨hi.tsz.symm,hi.tmp⟩
theorem sub_ok (hi:Inv fc c st a) {n0:Nat} (hn:fc.n0=n0) {S:ASt} (e:sub ρ n0 S st):∃ c',c'.w=c.w∧Inv fc c' S a:=by
 obtain⟨e,i⟩:=subH_ok hi hn e
 obtain⟨_,r⟩:=mtL_ok hi _ _ _ e
 exact⟨c.read ρ S.heap,rfl,i.with hi.nod (r _ hi.tmps)⟩
theorem frzs_ok:∀ (fz:List Nat) {c:RC} {st:ASt},Inv fc c st a→∃ c',c'.w=c.w∧Inv fc c' (frzSt fz st) a
 | [],c,st,hi=>⟨c,rfl,hi⟩
 | t::r,c,st,hi=>by
  have key:∃ c',c'.w=c.w∧Inv fc c' { st with heap:=match hget st.heap t with
    | some (.arr nn _ sz rows)=>hset st.heap t (.frz nn sz rows)
    | _=>st.heap } a:=by
   split
   ·rename_i nn cap sz rows ht
    obtain⟨c',h1,_,_,h4⟩:=hi.freeze ht
    exact⟨c',h1,h4⟩
   ·exact⟨c,rfl,hi⟩
  obtain⟨c1,h1,i1⟩:=key
  obtain⟨c2,h2,i2⟩:=frzs_ok r i1
  exact⟨c2,by rw[h2,h1],i2⟩
end
end Go.Sym
namespace Go.Sym
open Go
inductive Start {ι:Type} (S:ι→ASt) (I:ι→Prop) (n0:Nat) (st:ASt):Prop
 | mk (i:ι) (ρ:List (Nat×Src)) (fz:List Nat):I i→sub ρ n0 (S i) (frzSt fz st)→Start S I n0 st
inductive Back {ι:Type} (S:ι→ASt) (I:ι→Prop) (μ:ι→Nat) (n0:Nat) (j:ι) (st:ASt):Prop
 | mk (i:ι) (ρ:List (Nat×Src)) (fz:List Nat):I i→μ i<μ j→sub ρ n0 (S i) (frzSt fz st)→Back S I μ n0 j st
theorem Back.of {ι:Type} {S:ι→ASt} {I:ι→Prop} {μ:ι→Nat} {n0:Nat} {j:ι} {st:ASt} {i:ι} (ρ:List (Nat×Src)) (fz:List Nat) (h:sub ρ n0 (S i) (frzSt fz st)) (hI:I i∧μ i<μ j):Back S I μ n0 j st:=.mk i ρ fz hI.1 hI.2 h
def noScope:Code→Bool
 | .scope _=>false
 | _=>true
def bodyK {ι:Type} (S:ι→ASt) (I:ι→Prop) (μ:ι→Nat) (n0:Nat) (j:ι) (K:AEx→ASt→Prop) (e:AEx) (st:ASt):Prop:=match e with
 | .normal=>Back S I μ n0 j st
 | .exit k=>K (.exit k) st
 | .ret=>K .ret st
 | .goto l=>K (.goto l) st
def jumpK0 {ι : Type} (S : ι → ASt) (I : ι → Prop) (n0 l : Nat) (K : AEx → ASt → Prop) (e : AEx) (st : ASt) : Prop := match e with
  | .normal => K .normal st
  | .exit k => K (.exit k) st
  | .ret => K .ret st
  | .goto k => (match Nat.beq k l with
    | true => Start S I n0 st
    | false => Stop "a jump")
def jumpK {ι : Type} (S : ι → ASt) (I : ι → Prop) (μ : ι → Nat) (n0 l : Nat) (j : ι) (K : AEx → ASt → Prop) (e : AEx) (st : ASt) : Prop := match e with
  | .normal => K .normal st
  | .exit k => K (.exit k) st
  | .ret => K .ret st
  | .goto k => (match Nat.beq k l with
    | true => Back S I μ n0 j st
    | false => Stop "a jump")
def resP (E:Env) (st:ASt):List ResultVar→Option (List PV)
 | []=>some []
 | r::rs=>match (match r with
   | .tmp t=>some (lget st.tmps t)
   | .cell t ty=>(match lget st.tmps t with
    | .ptr l off=>(match hget st.heap l with
     | some (.box cs)=>(match E.ty ty with
      | some i=>(match Nat.ble (off+i.size) cs.length with
       | true=>some (packV i.agg (slice1 cs off i.size))
       | false=>none)
      | none=>none)
     | _=>none)
    | _=>none)) with
  | some v=>(match resP E st rs with
   | some vs=>some (v::vs)
   | none=>none)
  | none=>none
def retT (E : Env) (rv : List ResultVar) (n0 : Nat) (res : List PV) (H' : List Obj) (ρ : List (Nat × Src)) (st : ASt) : Prop :=
  match resP E st rv with
  | some vs => subH ρ n0 (heapOf 0 H') (hget st.heap) fun W => mt W (hget st.heap) (packRes res) (packRes vs) fun _ => True
  | none => Stop "results"
inductive RetThen (E:Env) (rv:List ResultVar) (n0:Nat) (res:List PV) (H':List Obj) (st:ASt):Prop
 | mk (ρ:List (Nat×Src)) (fz:List Nat):retT E rv n0 res H' ρ (frzSt fz st)→RetThen E rv n0 res H' st
def retK (E : Env) (rv : List ResultVar) (n0 : Nat) (res : List PV) (H' : List Obj) (e : AEx) (st : ASt) : Prop := match e with
  | .exit _ => Stop "exit"
  | .goto _ => Stop "goto"
  | .normal => RetThen E rv n0 res H' st
  | .ret => RetThen E rv n0 res H' st
theorem least (p:Nat→Prop) (h:∃ n,p n):∃ n,p n∧∀ m,p m→n≤m:=by
 obtain⟨n,hn⟩:=h
 induction n using Nat.strongRecOn with
 | _ n ih =>
  by_cases hl:∃ m,m<n∧p m
  ·obtain⟨m,hm,hp⟩:=hl;exact ih m hm hp
  ·exact⟨n,hn,fun m hm=>Nat.le_of_not_lt fun hlt=>hl ⟨m,hlt,hm⟩⟩
section
variable {P:Program} {fc:FC} {E:Env}
theorem loop_rule {ι:Type} (S:ι→ASt) (I:ι→Prop) (μ:ι→Nat) {n0:Nat} (hE:EnvOk P E) (h64:fc.n0≤64) (hm:P.follows .mixedOrders=true) (hn:fc.n0=n0) {b:Code} (hr:regOk b=true) {st:ASt} {K:AEx→ASt→Prop} (start:Start S I n0 st)
  (body:∀ i,I i→cw E (Fn P) (Lp P fc) b (S i) (bodyK S I μ n0 i K)) (hb:noScope b=true):Lp P fc b st K:=by
 classical
 intro c a Q hi hQ
 have e0:lpCode b=Code.loop b:=by
  cases b<;>first|rfl|cases hb
 rw[e0]
 obtain⟨i0,ρ,fz,hI0,hsub⟩:=start
 obtain⟨c1,w1,i1⟩:=frzs_ok fz hi
 obtain⟨c2,w2,i2⟩:=sub_ok i1 hn hsub
 let At:Nat→Act→World→Prop:=fun n a w=>∃ i c,μ i=n∧I i∧Inv fc c (S i) a∧c.w=w
 let Iv:Act→World→Prop:=fun a w=>∃ n,At n a w
 let ms:Act→World→Nat:=fun a w=>if h:Iv a w then Classical.choose (least _ h) else 0
 refine wp_loop Iv ms ⟨μ i0,i0,c2,rfl,hI0,i2,by rw[w2,w1]⟩ fun a w hI=>?_
 obtain⟨⟨i,c,hμ,hIi,hinv,rfl⟩,_⟩:=Classical.choose_spec (least _ hI)
 have hms:ms a c.w=μ i:=by show(if h:Iv a c.w then Classical.choose (least _ h) else 0)=_;rw[dif_pos hI,hμ]
 refine cw_ok hE h64 hm b (S i) _ hr (body i hIi) c a _ hinv fun e st' a' c' i' k'=>?_
 cases e with
 | normal =>
  obtain⟨j,ρ,fz,hIj,hlt,hsub⟩:=k'
  obtain⟨c1,w1,i1⟩:=frzs_ok fz i'
  obtain⟨c2,w2,i2⟩:=sub_ok i1 hn hsub
  have hIv:Iv a' c'.w:=⟨μ j,j,c2,rfl,hIj,i2,by rw[w2,w1]⟩
  refine⟨hIv,?_⟩
  rw[hms]
  refine Nat.lt_of_le_of_lt ?_ hlt
  show(if h:Iv a' c'.w then Classical.choose (least _ h) else 0)≤_
  rw[dif_pos hIv]
  exact(Classical.choose_spec (least _ hIv)).2 _ ⟨j,c2,rfl,hIj,i2,by rw[w2,w1]⟩
 | exit k=>exact hQ (.exit k) st' a' c' i' k'
 | ret=>exact hQ .ret st' a' c' i' k'
 | goto k=>exact hQ (.goto k) st' a' c' i' k'
theorem scope_rule {ι:Type} (S:ι→ASt) (I:ι→Prop) (μ:ι→Nat) {n0:Nat} (hE:EnvOk P E) (h64:fc.n0≤64) (hm:P.follows .mixedOrders=true) (hn:fc.n0=n0) {b rest:Code} {l:Nat} (hf:findLabel b l=some rest) (hr:regOk b=true) (hr2:regOk rest=true) {st:ASt} {K:AEx→ASt→Prop}
  (first:cw E (Fn P) (Lp P fc) b st (jumpK0 S I n0 l K)) (body:∀ i,I i→cw E (Fn P) (Lp P fc) rest (S i) (jumpK S I μ n0 l i K)):Lp P fc (.scope b) st K:=by
 classical
 intro c a Q hi hQ
 show(Code.scope b).wp P Q a c.w
 let At:Nat→Act→World→Prop:=fun n a w=>∃ i c,μ i=n∧I i∧Inv fc c (S i) a∧c.w=w
 let Iv:Act→World→Prop:=fun a w=>∃ n,At n a w
 let ms:Act→World→Nat:=fun a w=>if h:Iv a w then Classical.choose (least _ h) else 0
 refine wp_scope_jumps l Iv ms hf ?_ fun a w hI=>?_
 ·refine cw_ok hE h64 hm b st _ hr first c a _ hi fun e st' a' c' i' k'=>?_
  cases e with
  | normal=>exact hQ .normal st' a' c' i' k'
  | exit k=>exact hQ (.exit k) st' a' c' i' k'
  | ret=>exact hQ .ret st' a' c' i' k'
  | goto k =>
   simp only [jumpK0] at k'
   split at k'
   ·rename_i hk
    obtain rfl:=Nat.eq_of_beq_eq_true hk
    obtain⟨i0,ρ,fz,hI0,hsub⟩:=k'
    obtain⟨c1,w1,i1⟩:=frzs_ok fz i'
    obtain⟨c2,w2,i2⟩:=sub_ok i1 hn hsub
    exact⟨rfl,μ i0,i0,c2,rfl,hI0,i2,by rw[w2,w1]⟩
   ·cases k'
 ·obtain⟨⟨i,c,hμ,hIi,hinv,rfl⟩,_⟩:=Classical.choose_spec (least _ hI)
  have hms:ms a c.w=μ i:=by show(if h:Iv a c.w then Classical.choose (least _ h) else 0)=_;rw[dif_pos hI,hμ]
  refine cw_ok hE h64 hm rest (S i) _ hr2 (body i hIi) c a _ hinv fun e st' a' c' i' k'=>?_
  cases e with
  | normal=>exact hQ .normal st' a' c' i' k'
  | exit k=>exact hQ (.exit k) st' a' c' i' k'
  | ret=>exact hQ .ret st' a' c' i' k'
  | goto k =>
   simp only [jumpK] at k'
   split at k'
   ·rename_i hk
    obtain rfl:=Nat.eq_of_beq_eq_true hk
    obtain⟨j,ρ,fz,hIj,hlt,hsub⟩:=k'
    obtain⟨c1,w1,i1⟩:=frzs_ok fz i'
    obtain⟨c2,w2,i2⟩:=sub_ok i1 hn hsub
    have hIv:Iv a' c'.w:=⟨μ j,j,c2,rfl,hIj,i2,by rw[w2,w1]⟩
    refine⟨rfl,hIv,?_⟩
    rw[hms]
    refine Nat.lt_of_le_of_lt ?_ hlt
    show(if h:Iv a' c'.w then Classical.choose (least _ h) else 0)≤_
    rw[dif_pos hIv]
    exact(Classical.choose_spec (least _ hIv)).2 _ ⟨j,c2,rfl,hIj,i2,by rw[w2,w1]⟩
   ·cases k'
theorem resP_ok (hE : EnvOk P E) {c : RC} {st : ASt} {a : Act} (hi : Inv fc c st a) : ∀ {rv : List ResultVar} {vs : List PV}, resP E st rv = some vs → ∃ rs : List Value, (rv.mapM fun
      | .tmp t=>pure (a.tmps.getD t undef)
      | .cell q t=>do loadVar t (← asAddr (a.tmps.getD q undef)):Sem (List Value)).run P c.w=.ok rs c.w∧RepL c vs rs.toArray
  | [],vs,e=>by
    simp only [resP,Option.some.injEq] at e
    subst e
    exact⟨[],by simp,rfl,by simp⟩
  | r::rv,vs,e=>by
    simp only [resP] at e
    split at e
    · rename_i x hx
      split at e
      · rename_i xs hxs
        obtain rfl:=Option.some.inj e
        obtain⟨rs,h1,h2⟩:=resP_ok hE hi hxs
        have key : ∃ v, (match r with
            | .tmp t=>pure (a.tmps.getD t undef)
            | .cell q t=>do loadVar t (← asAddr (a.tmps.getD q undef)):Sem Value).run P c.w=.ok v c.w∧Rep c x v:=by
          cases r with
          | tmp t =>
            simp only [Option.some.injEq] at hx
            subst hx
            exact⟨a.tmps.getD t undef,by simp only [Sem.run_pure],hi.eval (.tmp t)⟩
          | cell q t =>
            simp only at hx
            have hq:Rep c (lget st.tmps q) (a.tmps.getD q undef):=hi.eval (.tmp q)
            split at hx
            · rename_i l off hl
              rw[hl] at hq
              obtain⟨b,hv,hD,hθ⟩:=hq.ptr_inv
              split at hx
              · rename_i cs hcs
                split at hx
                · rename_i ty hty
                  split at hx
                  · rename_i hb
                    obtain rfl:=Option.some.inj hx
                    obtain⟨b',arr,e,fr,h1,h2,h3,h4,h7,h5,h6⟩:=hi.obj l _ hcs
                    rw[hθ] at h1
                    injection h1 with h1
                    injection h1 with h1
                    injection h1 with h1
                    subst h1
                    obtain⟨rv,q1,q2⟩:=load_rep (P:=P) hE hty c b 0 cs off (ble_le hb) (fun j x hx=>by
                      have hj:j<arr.size:=by rw[← h4];exact(List.getElem?_eq_some_iff.1 hx).1
                      refine⟨arr[j],by simp [World.cell?,h2,hj],h5 j x _ hx (by simp [hj])⟩)
                    rw[Nat.zero_add] at q1
                    refine⟨rv,?_,q2⟩
                    simp only [hv,asAddr,Sem.run_bind,Sem.run_pure,Result.andThen_ok]
                    exact q1
                  · cases hx
                · cases hx
              · cases hx
            · cases hx
        obtain⟨v,k1,k2⟩:=key
        refine⟨v::rs,?_,by simp [h2.1],fun i x' v' p q=>?_⟩
        · rw[List.mapM_cons]
          simp only [Sem.run_bind]
          cases r<;>simp only [Sem.run_bind] at k1 ⊢<;>rw[k1]<;>simp only [Result.andThen_ok,Sem.run_bind,h1,Sem.run_pure]
        · cases i with
          | zero=>simp at p q;subst p;subst q;exact k2
          | succ i=>exact h2.2 i x' v' (by simpa using p) (by simpa using q)
      · cases e
    · cases e
theorem run_results {fn : Func} {tmps : Array Value} {w w' : World} {rs : List Value} (h : (fn.results.toList.mapM fun
      | .tmp t=>pure (tmps.getD t undef)
      | .cell q t=>do loadVar t (← asAddr (tmps.getD q undef)):Sem (List Value)).run P w=.ok rs w'):(results fn tmps).run P w=.ok (if h:rs.toArray.size=1 then rs.toArray[0] else .tuple rs.toArray) w':=by
  unfold results
  simp only [Sem.run_bind]
  rw[Array.mapM_eq_mapM_toList]
  rw[Sem.run_map]
  refine(congrArg (fun r=>(Result.andThen (Result.andThen r fun a w'=>Result.ok (List.toArray a) w') fun a w'=>Sem.run P (pure (if h:a.size=1 then a[0] else Value.tuple a)) w')) h).trans ?_
  simp only [Result.andThen_ok,Sem.run_pure]
theorem fnB_of_cw (hE : EnvOk P E) (hm : P.follows .mixedOrders = true) {f : Nat} {fn : Func} {code : Code} (hf : P.funcs[f]? = some fn) (hname : fn.name ≠ "runtime.NumGoroutine") (hb : fn.body = some code) (hr : regOk code = true) {args res : List PV} {H H' : List Sym.Obj} {n : Nat} {rv : List ResultVar}
    (hn : fn.ntmps - args.length = n) (hrv : fn.results.toList = rv) (h : ∀ fc : FC, fc.n0 = H.length → cw E (Fn P) (Lp P fc) code ⟨args ++ tops n, heapOf 0 H⟩ (retK E rv H.length res H')) : FnB P f args H res H' := by
  refine ⟨⟨fn, hf, hname, by rw [hb]; rfl⟩, fun c vs h64 hi hargs => ?_⟩
  refine calls_of_wp hf hb ?_
  have hi2 : Inv (FC.enter c H) c ⟨args ++ tops n, heapOf 0 H⟩ { tmps := vs ++ Array.replicate (fn.ntmps - vs.size) undef, defers := [] } := by
    refine hi.with rfl ⟨?_, fun i x v p q => ?_⟩
    · simp [hargs.1, length_tops, ← hn]
    · rw [List.getElem?_append] at p
      rw [Array.getElem?_append, ← hargs.1] at q
      split at p
      · rename_i hlt; rw [if_pos hlt] at q; exact hargs.2 i x v p q
      · rw [mem_tops (List.mem_of_getElem? p)]; exact .top _
  refine cw_ok hE h64 hm code _ _ hr (h (FC.enter c H) rfl) c _ _ hi2 fun e st' a' c' i' k' => ?_
  have key : RetThen E rv H.length res H' st' → a'.defers = [] ∧ ∃ v, (results fn a'.tmps).run P c'.w = .ok v c'.w ∧ ∃ c2, c2.w = c'.w ∧ Inv (FC.enter c H) c2 ⟨[], heapOf 0 H'⟩ act0 ∧ Rep c2 (packRes res) v := by
    rintro ⟨ρ, fz, hret⟩
    obtain ⟨c1, w1, i1⟩ := frzs_ok fz i'
    unfold retT at hret
    split at hret
    · rename_i xs hxs
      obtain ⟨rs, q1, q2⟩ := resP_ok hE i1 hxs
      obtain ⟨hk, i2⟩ := subH_ok i1 rfl hret
      obtain ⟨_, hmt⟩ := mt_ok i1 _ _ _ hk
      refine ⟨i'.nod, _, by rw [← w1]; exact run_results (by rw [hrv]; exact q1), c1.read ρ (heapOf 0 H'), w1, i2, hmt _ ?_⟩
      obtain ⟨n1, r1⟩ := q2
      match xs, rs, n1 with
      | [], [], _ => exact .lit _
      | [x], [v], _ => exact r1 0 x v rfl rfl
      | x :: y :: xs, v1 :: v2 :: rs, n1 => exact .tup _ _ n1 r1
    · cases hret
  cases e with
  | normal => exact key k'
  | exit k => cases k'
  | ret => exact key k'
  | goto k => cases k'
end
end Go.Sym
namespace Go.Sym
open Go
def lookTy (all:List (List (Option TyI))) (t:Nat):Option TyI:=match nth all (t / 16) with
 | some l=>(match nth l (t % 16) with
  | some x=>x
  | none=>none)
 | none=>none
def zeroB:List PV→List Value→Bool
 | [],[]=>true
 | x::xs,v::vs=>(match x with
  | .int k n=>(match v with
   | .int j m=>Nat.beq (ikNum k) (ikNum j) && decide (n=m)
   | _=>false)
  | .bool b=>(match v with
   | .bool c=>eqB b c
   | _=>false)
  | .str s=>(match v with
   | .string t=>Nat.beq s.data.size 0 && Nat.beq t.data.size 0
   | _=>false)
  | .nils=>(match v with
   | .slice none n m=>Nat.beq n 0 && Nat.beq m 0
   | _=>false)
  | .lit u=>(match u with
   | .pointer none=>(match v with
    | .pointer none=>true
    | _=>false)
   | .nilIface=>(match v with
    | .nilIface=>true
    | _=>false)
   | .nilFunc=>(match v with
    | .nilFunc=>true
    | _=>false)
   | .map none=>(match v with
    | .map none=>true
    | _=>false)
   | .chan none=>(match v with
    | .chan none=>true
    | _=>false)
   | _=>false)
  | _=>false) && zeroB xs vs
 | _,_=>false
def aggB (P:Program) (t:Nat):Option Bool:=match P.underlying t with
 | some (.struct _)=>some true
 | some (.array _ _)=>some true
 | some _=>some false
 | none=>none
def isOpt (o:Option Bool) (b:Bool):Bool:=match o with
 | some c=>eqB c b
 | none=>false
def fieldsB (P:Program):List (Nat×Nat×Bool)→List Field→Bool
 | [],[]=>true
 | (off,size,ag)::r,f::fs=>Nat.beq f.offset off && (match P.info? f.type with
  | some fi=>Nat.beq fi.size size
  | none=>false) && (ag || Nat.beq size 1) && isOpt (aggB P f.type) ag && fieldsB P r fs
 | _,_=>false
def tkB (P:Program) (i:TyI) (d:TypeDesc):Bool:=match i.tk with
 | .bool=>!i.agg && (match d with
  | .bool=>true
  | _=>false)
 | .int k=>!i.agg && (match d with
  | .int j=>Nat.beq (ikNum k) (ikNum j)
  | _=>false)
 | .str=>!i.agg && (match d with
  | .string=>true
  | _=>false)
 | .slice e=>!i.agg && (match d with
  | .slice e'=>Nat.beq e' e
  | _=>false)
 | .struct fs=>i.agg && (match d with
  | .struct fields=>fieldsB P fs fields.toList
  | _=>false)
 | .array n e=>i.agg && (match d with
  | .array n' e'=>Nat.beq n' n && Nat.beq e' e
  | _=>false)
 | .iface=>!i.agg && (match d with
  | .interface _=>true
  | _=>false)
 | .map k e=>!i.agg && (match d with
  | .map k' e'=>Nat.beq k' k && Nat.beq e' e
  | _=>false)
 | .float k=>!i.agg && (match d with
  | .float j=>decide (j=k)
  | _=>false)
 | .complex k=>!i.agg && (match d with
  | .complex j=>decide (j=k)
  | _=>false)
 | .other=>!i.agg && (match d with
  | .struct _=>false
  | .array _ _=>false
  | _=>true)
def cmpFs (P : Program) (rec : Nat → List PV → Bool) : List Field → Nat → List PV → Bool
  | [], _, z => (match z with
    | [] => true
    | _ => false)
  | f :: fs, o, z => decide (f.name ≠ "_") && Nat.beq f.offset o && (match P.info? f.type with
    | some fi => Nat.ble fi.size z.length && (match aggB P f.type with
      | some ag => ag || Nat.beq fi.size 1
      | none => false) && rec f.type (z.take fi.size) && cmpFs P rec fs (o + fi.size) (z.drop fi.size)
    | none => false)
def cmpB (P:Program):Nat→Nat→List PV→Bool
 | 0,_,_=>false
 | d+1,t,z=>match P.underlying t with
  | some .bool=>(match z with
   | [.bool _]=>true
   | _=>false)
  | some (.int k)=>(match z with
   | [.int j _]=>Nat.beq (ikNum k) (ikNum j)
   | _=>false)
  | some .string=>(match z with
   | [.str _]=>true
   | _=>false)
  | some (.struct fields)=>!P.stoodInHeld t && cmpFs P (cmpB P d) fields.toList 0 z
  | _=>false
def tyB (P:Program) (t:Nat) (i:TyI):Bool:=match P.info? t with
 | some inf=>Nat.beq inf.size i.size && Nat.beq inf.bytes i.bytes && (match inf.zero with
  | some z=>Nat.beq z.cells.size i.size && Nat.beq i.zero.length i.size && zeroB i.zero z.cells.toList && (match z with
   | .agg _=>i.agg
   | _=>!i.agg)
  | none=>false) && (match P.underlying t with
  | some d=>tkB P i d
  | none=>false) && (i.agg || Nat.beq i.size 1) && (match i.cmp with
  | true=>!P.eqGuardType P.depth t && (match P.underlying t with
   | some (.struct _)=>cmpB P 20 t i.zero
   | _=>false)
  | false=>true)
 | none=>false
def rowB (P:Program):Nat→List (Option TyI)→Bool
 | _,[]=>true
 | t,x::r=>(match x with
  | some i=>tyB P t i
  | none=>true) && rowB P (t+1) r
def allB (P:Program):Nat→List (List (Option TyI))→Bool
 | _,[]=>true
 | t,l::r=>rowB P t l && Nat.ble l.length 16 && allB P (t+16) r
theorem eqB_ok {a b:Bool} (h:eqB a b=true):a=b:=by cases a<;>cases b<;>first|rfl|simp [eqB] at h
theorem emptyB {s t:ByteArray} (h:(Nat.beq s.data.size 0 && Nat.beq t.data.size 0)=true):s=ByteArray.empty∧t=ByteArray.empty:=by
 simp only [Bool.and_eq_true] at h
 have e:∀ s:ByteArray,Nat.beq s.data.size 0=true→s=ByteArray.empty:=by
  intro s hs
  cases s with
  | mk d =>
   obtain rfl:d=#[]:=Array.eq_empty_of_size_eq_zero (Nat.eq_of_beq_eq_true hs)
   rfl
 exact⟨e s h.1,e t h.2⟩
theorem zeroB_ok:∀ {xs:List PV} {vs:List Value},zeroB xs vs=true→∀ (j:Nat) x v,xs[j]?=some x→vs[j]?=some v→ConstRep x v
 | [],[],_,j,x,v,h,_=>by simp at h
 | x::xs,v::vs,h,j,x',v',hx,hv=>by
  simp only [zeroB,Bool.and_eq_true] at h
  cases j with
  | succ j=>exact zeroB_ok h.2 j x' v' (by simpa using hx) (by simpa using hv)
  | zero =>
   simp at hx hv
   subst hx;subst hv
   have h:=h.1
   split at h
   ·split at h
    ·simp only [Bool.and_eq_true,decide_eq_true_eq] at h
     obtain⟨h1,rfl⟩:=h
     obtain rfl:=ikNum_inj h1
     exact .int _ _
    ·cases h
   ·split at h
    ·have:=eqB_ok h
     subst this
     exact .bool _
    ·cases h
   ·split at h
    ·obtain⟨rfl,rfl⟩:=emptyB h
     exact .str _
    ·cases h
   ·split at h
    ·simp only [Bool.and_eq_true] at h
     obtain rfl:=Nat.eq_of_beq_eq_true h.1
     obtain rfl:=Nat.eq_of_beq_eq_true h.2
     exact .nils
    ·cases h
   ·split at h<;>first|(split at h<;>first|exact .lit _ rfl|cases h)|cases h
   ·cases h
 | [],_::_,h,_,_,_,_,_=>by simp [zeroB] at h
 | _::_,[],h,_,_,_,_,_=>by simp [zeroB] at h
theorem aggB_ok {P:Program} {t:Nat} {b:Bool} (h:aggB P t=some b) (w:World):(isAgg t).run P w=.ok b w:=by
 unfold aggB at h
 unfold Go.isAgg
 split at h<;>(try cases h)<;>rename_i hd<;>simp only [Sem.run_bind,run_underlying hd,Result.andThen_ok]
 ·simp
 ·simp
 ·simp
theorem isOpt_ok {o:Option Bool} {b:Bool} (h:isOpt o b=true):o=some b:=by
 unfold isOpt at h
 split at h
 ·rename_i c;cases b<;>cases c<;>first|rfl|simp [eqB] at h
 ·cases h
theorem fieldsB_ok {P:Program}:∀ {fs:List (Nat×Nat×Bool)} {fields:List Field},fieldsB P fs fields=true→fields.length=fs.length∧∀ (j:Nat) off size ag,fs[j]?=some (off,size,ag)→∃ f fi,fields[j]?=some f∧f.offset=off∧P.info? f.type=some fi∧fi.size=size∧(ag=false→size=1)∧∀ w:World,(isAgg f.type).run P w=.ok ag w
 | [],[],_=>by simp
 | (off,size,ag)::r,f::fs,h=>by
  simp only [fieldsB,Bool.and_eq_true] at h
  obtain⟨⟨⟨⟨h1,h2⟩,h3⟩,h4⟩,h5⟩:=h
  obtain⟨g1,g2⟩:=fieldsB_ok h5
  refine⟨by simp [g1],fun j off' size' ag' hj=>?_⟩
  cases j with
  | succ j=>exact g2 j off' size' ag' (by simpa using hj)
  | zero =>
   simp at hj
   obtain⟨rfl,rfl,rfl⟩:=hj
   split at h2
   ·rename_i fi hfi
    exact⟨f,fi,by simp,Nat.eq_of_beq_eq_true h1,hfi,Nat.eq_of_beq_eq_true h2,fun e=>by subst e;simpa using h3,aggB_ok (isOpt_ok h4)⟩
   ·cases h2
 | [],_::_,h=>by simp [fieldsB] at h
 | _::_,[],h=>by simp [fieldsB] at h
theorem tkB_ok {P:Program} {i:TyI} {d:TypeDesc} (h:tkB P i d=true):tkOk P i d:=by
 unfold tkB at h
 unfold tkOk
 cases htk:i.tk<;>simp only [htk,Bool.and_eq_true,Bool.not_eq_true'] at h ⊢<;>obtain⟨ha,h⟩:=h
 ·split at h
  ·exact⟨rfl,ha⟩
  ·cases h
 ·split at h
  ·obtain rfl:=ikNum_inj h;exact⟨rfl,ha⟩
  ·cases h
 ·split at h
  ·exact⟨rfl,ha⟩
  ·cases h
 ·split at h
  ·obtain rfl:=Nat.eq_of_beq_eq_true h;exact⟨rfl,ha⟩
  ·cases h
 ·split at h
  ·rename_i fields
   obtain⟨g1,g2⟩:=fieldsB_ok h
   exact⟨ha,fields,rfl,by simpa using g1,fun j off size ag hj=>by
    obtain⟨f,fi,k1,k2⟩:=g2 j off size ag hj
    exact⟨f,fi,by simpa using k1,k2⟩⟩
  ·cases h
 ·split at h
  ·simp only [Bool.and_eq_true] at h
   obtain rfl:=Nat.eq_of_beq_eq_true h.1
   obtain rfl:=Nat.eq_of_beq_eq_true h.2
   exact⟨ha,rfl⟩
  ·cases h
 ·split at h
  ·rename_i ms;exact⟨⟨ms,rfl⟩,ha⟩
  ·cases h
 ·split at h
  ·simp only [Bool.and_eq_true] at h
   obtain rfl:=Nat.eq_of_beq_eq_true h.1
   obtain rfl:=Nat.eq_of_beq_eq_true h.2
   exact⟨rfl,ha⟩
  ·cases h
 ·split at h
  ·obtain rfl:=of_decide_eq_true h;exact⟨rfl,ha⟩
  ·cases h
 ·split at h
  ·obtain rfl:=of_decide_eq_true h;exact⟨rfl,ha⟩
  ·cases h
 ·refine⟨ha,?_,?_⟩
  ·rintro fs rfl;cases h
  ·rintro n e rfl;cases h
theorem Fits.split {zs:List PV} {vs:List Value} {n:Nat} (h:Fits zs vs) (hn:n≤zs.length):Fits (zs.take n) (vs.take n)∧Fits (zs.drop n) (vs.drop n):=by
 obtain⟨h1,h2⟩:=h
 refine⟨⟨by simp;omega,fun j z v p q=>?_⟩,⟨by simp;omega,fun j z v p q=>?_⟩⟩
 ·rw[List.getElem?_take] at p q
  split at p
  ·rename_i hj;rw[if_pos hj] at q;exact h2 j z v p q
  ·cases p
 ·rw[List.getElem?_drop] at p q
  exact h2 _ z v p q
theorem ikB_eq {k j:IntKind} (h:(k == j)=true):k=j:=by cases k<;>cases j<;>first|rfl|(exact absurd h (by decide))
theorem fits_one {z:PV} {x:Value} (h:Fits [z] [x]):fitOne z x=true:=h.2 0 z x rfl rfl
theorem cmpB_ok {P:Program}:∀ (d e t:Nat) (z:List PV),cmpB P d t z=true →
  (∀ fields,P.underlying t=some (.struct fields)→∀ (xs ys:Array Value) (w:World),Fits z xs.toList→Fits z ys.toList→∃ b:Bool,(Op.equalIn (e+d) t (.agg xs) (.agg ys)).run P w=.ok b w∧(b=true ↔ xs.toList=ys.toList)) ∧
  ((∀ fields,P.underlying t≠some (.struct fields))→∀ (x y:Value) (w:World),Fits z [x]→Fits z [y]→∃ b:Bool,(Op.equalIn (e+d) t x y).run P w=.ok b w∧(b=true ↔ x=y))
 | 0,_,_,_,h=>by simp [cmpB] at h
 | d+1,e,t,z,h=>by
  simp only [cmpB] at h
  split at h
  ·rename_i hu
   refine⟨fun fs hf=>(by rw[hu] at hf;cases hf),fun _ x y w hx hy=>?_⟩
   split at h
   ·have h1:=fits_one hx
    have h2:=fits_one hy
    cases x<;>simp only [fitOne] at h1<;>try(cases h1;done)
    cases y<;>simp only [fitOne] at h2<;>try(cases h2;done)
    exact⟨_,run_equalIn_bool' w (e+d) t _ _ hu,by simp⟩
   ·cases h
  ·rename_i k hu
   refine⟨fun fs hf=>(by rw[hu] at hf;cases hf),fun _ x y w hx hy=>?_⟩
   split at h
   ·have h1:=fits_one hx
    have h2:=fits_one hy
    cases x<;>simp only [fitOne] at h1<;>try(cases h1;done)
    cases y<;>simp only [fitOne] at h2<;>try(cases h2;done)
    obtain rfl:=ikB_eq h1
    obtain rfl:=ikB_eq h2
    exact⟨_,run_equalIn_int w (e+d) t _ _ _ _ hu,by simp⟩
   ·cases h
  ·rename_i hu
   refine⟨fun fs hf=>(by rw[hu] at hf;cases hf),fun _ x y w hx hy=>?_⟩
   split at h
   ·have h1:=fits_one hx
    have h2:=fits_one hy
    cases x<;>simp only [fitOne] at h1<;>try(cases h1;done)
    cases y<;>simp only [fitOne] at h2<;>try(cases h2;done)
    refine⟨_,run_equalIn_string w (e+d) t _ _ hu,?_⟩
    rw[bytes_eq_iff]
    simp
   ·cases h
  ·rename_i fields hu
   refine⟨fun fs hf xs ys w hx hy=>?_,fun hn=>absurd hu (hn _)⟩
   simp only [Bool.and_eq_true,Bool.not_eq_true'] at h
   obtain⟨hs,hc⟩:=h
   have hfo:P.fieldsOf t=fields:=by simp [Program.fieldsOf,hu]
   have hrun:=run_equalIn_agg w (e+d) t xs ys (by rw[hfo];exact hu) hs
   rw[hfo] at hrun
   rw[show e+(d+1)=e+d+1 by omega,hrun]
   have key:∀ (l:List Field) (o:Nat) (z:List PV),cmpFs P (cmpB P d) l o z=true→Fits z (xs.toList.drop o)→Fits z (ys.toList.drop o) →
     ∃ b:Bool,(Op.eqFields (e+d) xs ys l).run P w=.ok b w∧(b=true ↔ xs.toList.drop o=ys.toList.drop o):=by
    intro l
    induction l with
    | nil =>
     intro o z hz hx hy
     simp only [cmpFs] at hz
     split at hz
     ·have e1:xs.toList.drop o=[]:=List.length_eq_zero_iff.1 hx.1.symm
      have e2:ys.toList.drop o=[]:=List.length_eq_zero_iff.1 hy.1.symm
      exact⟨true,by simp [Op.eqFields],by simp [e1,e2]⟩
     ·cases hz
    | cons f l ih =>
     intro o z hz hx hy
     simp only [cmpFs,Bool.and_eq_true,decide_eq_true_eq] at hz
     obtain⟨⟨hname,hoff⟩,hz⟩:=hz
     have hoff:=Nat.eq_of_beq_eq_true hoff
     split at hz
     ·rename_i fi hfi
      simp only [Bool.and_eq_true] at hz
      obtain⟨⟨⟨hle,hag⟩,hrec⟩,hrest⟩:=hz
      have hle:=ble_le hle
      split at hag
      ·rename_i ag hagg
       have hia:=aggB_ok hagg
       obtain⟨fx1,fx2⟩:=hx.split hle
       obtain⟨fy1,fy2⟩:=hy.split hle
       rw[List.drop_drop] at fx2 fy2
       obtain⟨b2,r2,i2⟩:=ih (o+fi.size) _ hrest fx2 fy2
       have hsz:(sizeOf f.type).run P w=.ok fi.size w:=by simp [Go.sizeOf,typeInfo,hfi]
       have lx:=hx.1
       have ly:=hy.1
       simp only [List.length_drop,Array.length_toList] at lx ly
       -- the parts
       have hparts:∃ px py,(part f.type xs f.offset).run P w=.ok px w∧(part f.type ys f.offset).run P w=.ok py w∧∃ b1:Bool,(Op.equalIn (e+d) f.type px py).run P w=.ok b1 w∧(b1=true ↔ (xs.toList.drop o).take fi.size=(ys.toList.drop o).take fi.size):=by
        cases ag with
        | true =>
         refine⟨.agg (xs.extract o (o+fi.size)),.agg (ys.extract o (o+fi.size)),by simp [part,hia,hsz,hoff],by simp [part,hia,hsz,hoff],?_⟩
         have ex:∀ zs:Array Value,(zs.extract o (o+fi.size)).toList=(zs.toList.drop o).take fi.size:=fun zs=>by simp [List.extract_eq_take_drop]
         cases hut:P.underlying f.type with
         | none=>simp [aggB,hut] at hagg
         | some dd =>
          cases dd with
          | struct fs2 =>
           obtain⟨b,hb1,hb2⟩:=(cmpB_ok d e f.type _ hrec).1 fs2 hut (xs.extract o (o+fi.size)) (ys.extract o (o+fi.size)) w (by rw[ex];exact fx1) (by rw[ex];exact fy1)
           exact⟨b,hb1,by rw[hb2,ex,ex]⟩
          | array n e =>
           cases d with
           | zero=>simp [cmpB] at hrec
           | succ d=>simp [cmpB,hut] at hrec
          | _=>simp [aggB,hut] at hagg
        | false =>
         have h1:fi.size=1:=by simpa using hag
         have hox:o<xs.size:=by omega
         have hoy:o<ys.size:=by omega
         have tk:∀ (zs:Array Value) (hz:o<zs.size),(zs.toList.drop o).take fi.size=[zs[o]]:=by
          intro zs hz
          rw[List.drop_eq_getElem_cons (by simpa using hz),h1]
          simp
         refine⟨xs[o],ys[o],by simp [part,hia,hoff,hox],by simp [part,hia,hoff,hoy],?_⟩
         have hns:∀ fields,P.underlying f.type≠some (.struct fields):=by
          intro fs2 hut
          simp [aggB,hut] at hagg
         obtain⟨b,hb1,hb2⟩:=(cmpB_ok d e f.type _ hrec).2 hns xs[o] ys[o] w (by rw[← tk xs hox];exact fx1) (by rw[← tk ys hoy];exact fy1)
         exact⟨b,hb1,by rw[hb2,tk xs hox,tk ys hoy];simp⟩
       obtain⟨px,py,hp1,hp2,b1,hb1,hb2⟩:=hparts
       have spl:∀ zs:List Value,zs.drop o=(zs.drop o).take fi.size++zs.drop (o+fi.size):=fun zs=>by
        rw[← List.drop_drop,List.take_append_drop]
       have hlen:((xs.toList.drop o).take fi.size).length=((ys.toList.drop o).take fi.size).length:=by simp;omega
       have hiff:xs.toList.drop o=ys.toList.drop o ↔ ((xs.toList.drop o).take fi.size=(ys.toList.drop o).take fi.size∧xs.toList.drop (o+fi.size)=ys.toList.drop (o+fi.size)):=by
        constructor
        ·intro h
         refine⟨by rw[h],?_⟩
         rw[← List.drop_drop,← List.drop_drop,h]
        ·rintro ⟨h1,h2⟩
         rw[spl xs.toList,spl ys.toList,h1,h2]
       simp only [Op.eqFields]
       rw[if_pos hname]
       simp only [Sem.run_bind,hp1,hp2,Result.andThen_ok,hb1]
       cases b1 with
       | true =>
        simp only [Bool.not_true,Bool.false_eq_true,if_false,r2]
        exact⟨b2,rfl,by rw[i2,hiff];simp [hb2.1 rfl]⟩
       | false =>
        simp only [Bool.not_false,if_true,Sem.run_pure]
        refine⟨false,rfl,?_⟩
        rw[hiff]
        simp only [Bool.false_eq_true,false_iff,not_and]
        intro h1
        exact absurd (hb2.2 h1) (by simp)
      ·cases hag
     ·cases hz
   obtain⟨b,k1,k2⟩:=key fields.toList 0 z hc (by simpa using hx) (by simpa using hy)
   exact⟨b,k1,by simpa using k2⟩
  ·cases h
theorem tyB_ok {P:Program} {t:Nat} {i:TyI} (h:tyB P t i=true):TyOk P t i:=by
 unfold tyB at h
 split at h
 ·rename_i inf hinf
  simp only [Bool.and_eq_true] at h
  obtain⟨⟨⟨⟨⟨h1,h2⟩,h3⟩,h4⟩,h5⟩,h6⟩:=h
  refine⟨?_,?_,fun ha=>?_,fun inf' z' hi hz=>?_,fun hc=>?_⟩
  ·split at h3
   ·rename_i z hz
    simp only [Bool.and_eq_true] at h3
    obtain⟨⟨⟨k1,k2⟩,k3⟩,_⟩:=h3
    exact⟨inf,z,hinf,Nat.eq_of_beq_eq_true h1,Nat.eq_of_beq_eq_true h2,hz,Nat.eq_of_beq_eq_true k1,Nat.eq_of_beq_eq_true k2,fun j x v p q=>zeroB_ok k3 j x v p (by simpa using q)⟩
   ·cases h3
  ·split at h4
   ·rename_i d hd;exact⟨d,hd,tkB_ok h4⟩
   ·cases h4
  ·simpa [ha] using h5
  ·rw[hinf] at hi
   obtain rfl:=Option.some.inj hi
   rw[hz] at h3
   simp only [Bool.and_eq_true] at h3
   have h3:=h3.2
   cases z' with
   | agg vs=>exact .inl ⟨h3,vs,rfl⟩
   | _=>exact .inr ⟨by simpa using h3,fun vs e=>by cases e⟩
  ·rw[hc] at h6
   simp only [Bool.and_eq_true,Bool.not_eq_true'] at h6
   refine⟨h6.1,fun xs ys w hx hy=>?_⟩
   have h6:=h6.2
   split at h6
   ·rename_i fs hfs
    exact(cmpB_ok 20 9980 t _ h6).1 fs hfs xs ys w hx hy
   ·cases h6
 ·cases h
theorem rowB_ok {P:Program}:∀ {l:List (Option TyI)} {t:Nat},rowB P t l=true→∀ (j:Nat) i,nth l j=some (some i)→TyOk P (t+j) i
 | [],t,_,j,i,h=>by simp [nth] at h
 | x::r,t,h,j,i,hj=>by
  simp only [rowB,Bool.and_eq_true] at h
  cases j with
  | zero =>
   simp [nth] at hj
   subst hj
   exact tyB_ok h.1
  | succ j =>
   have:=rowB_ok h.2 j i (by simpa [nth] using hj)
   rwa [show t+1+j=t+(j+1) by omega] at this
theorem allB_ok {P:Program}:∀ {l:List (List (Option TyI))} {t:Nat},allB P t l=true→∀ (k j:Nat) row i,nth l k=some row→nth row j=some (some i)→TyOk P (t+16 * k+j) i
 | [],t,_,k,j,row,i,h,_=>by simp [nth] at h
 | x::r,t,h,k,j,row,i,hk,hj=>by
  simp only [allB,Bool.and_eq_true] at h
  cases k with
  | zero =>
   simp [nth] at hk
   subst hk
   have:=rowB_ok h.1.1 j i hj
   simpa using this
  | succ k =>
   have:=allB_ok h.2 k j row i (by simpa [nth] using hk) hj
   rwa [show t+16+16 * k+j=t+16 * (k+1)+j by omega] at this
theorem env_ok {P:Program} {E:Env} {all:List (List (Option TyI))} (hE:E.ty=lookTy all) (h:allB P 0 all=true):EnvOk P E:=by
 intro t i ht
 rw[hE] at ht
 unfold lookTy at ht
 split at ht
 ·rename_i row hrow
  split at ht
  ·rename_i x hx
   subst ht
   have:=allB_ok h (t / 16) (t % 16) row i hrow hx
   rwa [Nat.zero_add,Nat.div_add_mod] at this
  ·cases ht
 ·cases ht
end Go.Sym
