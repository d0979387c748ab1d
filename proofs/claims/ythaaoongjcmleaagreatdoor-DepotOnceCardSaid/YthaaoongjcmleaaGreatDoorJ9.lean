/- Which texts are paths, which documents may be: the walks. -/
import Derived.Test.YthaaoongjcmleaaGreatDoorJ6
import Derived.Test.YthaaoongjcmleaaGreatDoorJ7
import Derived.Test.YthaaoongjcmleaaGreatDoorJ8
import Derived.Lib.Strings
set_option linter.all false
set_option linter.unusedVariables false
set_option linter.unusedSimpArgs false
namespace Go.Sym
open Go Go.Proofs.Tryz
set_option maxRecDepth 100000
theorem badW_fn (O:Opq) (s:ByteArray) (hs:s.size≤1099511627776):Fn prog 170 [.str s] [] [.bool (O.o badW s)] []:=by
 have t:=trimW_empty s
 refine go (fn:=Proofs.Tryz.f170) (n:=9) (rv:=[ResultVar.tmp 2]) rfl (by decide) rfl (by decide +kernel) rfl rfl (by simp) fun F L C=>?_
 cbv
 (repeat' first|(refine Na ?_ fun _ _=>?_;(focus lia);cbv)|(refine CallThen.mk _ _ (C.fn (trim_fn O _ hs)) ?_;cbv)|(refine Nl fun _ _ hq=>?_;(try simp only [lenS] at hq);cbv)|(refine Nm fun _ _=>?_;cbv)|(refine Br.t ?_ ?_;(focus first|assumption|lia);cbv)|(refine Br.f ?_ ?_;(focus first|assumption|lia);cbv)|(refine Br.mk (fun _=>?_) (fun _=>?_)<;>cbv)|(refine Need.mk ?_ ?_;rotate_left;cbv)|(refine R0 ?_;cbv))
 all_goals simp only [O.h,badW] at *
 ·rename_i h;subst h;exact⟨rfl,trivial⟩
 ·rename_i h1 h2
  rw[t.1 h2]
  refine⟨?_,trivial⟩
  have:s.data.toList≠[]:=fun e=>h1 (eq_of_toL e)
  simpa using this
 ·rename_i h1 h2
  refine⟨?_,trivial⟩
  have:(s.data.toList.any fun c=>!isLet c.toNat)=true:=by
   cases hx:s.data.toList.any fun c=>!isLet c.toNat with
   | true=>rfl
   | false=>exact absurd (t.2 hx) h2
  rw[this,Bool.or_true]
theorem indexBad_fn (O:Opq) (l:List ByteArray) (hl:l.length≤1099511627777) (hs:∀ s∈l,s.size≤1099511627776):Fn prog 228 [.sl false 0 false 1 (O.o Strs l),.fn 170 [] []] [] [.int .i64 (O.o (findI badW) l)] []:=by
 have hlen:(O.o Strs l).length=l.length:=by rw[O.h,Strs_len]
 obtain⟨N,hN⟩:∃ N:Nat,N=l.length:=⟨_,rfl⟩
 refine go (fn:=Proofs.Tryz.f228) (n:=17) (rv:=[ResultVar.tmp 4]) rfl (by decide) rfl (by decide +kernel) rfl rfl (by simp) fun F L C=>?_
 cbv
 (repeat' first|(refine Na ?_ fun _ _=>?_;(focus lia);cbv)|(refine Nl fun _ _ hq=>?_;(try simp only [lenS] at hq);cbv)|(refine Nm fun _ _=>?_;cbv)|(refine Br.t ?_ ?_;(focus first|assumption|lia);cbv)|(refine Br.f ?_ ?_;(focus first|assumption|lia);cbv)|(refine Br.mk (fun _=>?_) (fun _=>?_)<;>cbv)|(refine Need.mk ?_ ?_;rotate_left;cbv)|(refine R0 ?_;cbv))
 refine LoopThen.mk (C.loopAt (ι:=Nat) [(4,5),(8,18)] (fun k=>[(4,.int .i64 0),(8,.int .i64 k)]) (fun _=>[])
  (fun k=>k≤l.length∧∀ (j:Nat) y,j<k→l[j]?=some y→badW y=false) (fun k=>N-k) (by decide +kernel) (Start.mk 0 [] [] (by simp) (by cbv;exact⟨.refl _,.refl _,rfl,trivial⟩)) ?_)
 rintro k ⟨h1,h2⟩
 cbv
 (repeat' first|(refine Na ?_ fun _ _=>?_;(focus lia);cbv)|(refine Ex.map O (fun s=>[.str s]) rfl ?_ fun _ _=>?_;rotate_left;cbv)|(refine CallThen.bool (C.fn (badW_fn O _ (hs _ (List.mem_of_getElem? (by assumption))))) (fun _=>?_) (fun _=>?_)<;>cbv)|(refine Back.up [] [] ?_ ?_ fun _ _=>?_;rotate_left 2;cbv)|(refine Nl fun _ _ hq=>?_;(try simp only [lenS] at hq);cbv)|(refine Nm fun _ _=>?_;cbv)|(refine Br.t ?_ ?_;(focus first|assumption|lia);cbv)|(refine Br.f ?_ ?_;(focus first|assumption|lia);cbv)|(refine Br.mk (fun _=>?_) (fun _=>?_)<;>cbv)|(refine Need.mk ?_ ?_;rotate_left;cbv)|(refine R0 ?_;cbv))
 all_goals(try subst_vars)
 all_goals(try simp only [O.h,natTo,natPred,emp] at *)
 all_goals(try subst_vars)
 all_goals(repeat' apply And.intro)
 all_goals first
  | exact True.intro
  | exact WkR.refl _
  | lia
  | (simp_all [];done)
  | (simp_all []<;>lia)
  | (grind)
  | skip
 ·exact findI_at (by assumption) (by assumption) h2
 ·exact findI_none fun j y hj=>h2 j y (by lia)
theorem containsBad_fn (O:Opq) (l:List ByteArray) (hl:l.length≤1099511627777) (hs:∀ s∈l,s.size≤1099511627776):Fn prog 169 [.sl false 0 false 1 (O.o Strs l),.fn 170 [] []] [] [.bool (O.o (List.any l) badW)] []:=by
 have h:=findI_ge (p:=badW) (l:=l)
 refine go (fn:=Proofs.Tryz.f169) (n:=7) (rv:=[ResultVar.tmp 4]) rfl (by decide) rfl (by decide +kernel) rfl rfl (by simp) fun F L C=>?_
 cbv
 (repeat' first|(refine Na ?_ fun _ _=>?_;(focus lia);cbv)|(refine CallThen.mk _ _ (C.fn (indexBad_fn O _ hl hs)) ?_;cbv)|(refine Nl fun _ _ hq=>?_;(try simp only [lenS] at hq);cbv)|(refine Nm fun _ _=>?_;cbv)|(refine Br.t ?_ ?_;(focus first|assumption|lia);cbv)|(refine Br.f ?_ ?_;(focus first|assumption|lia);cbv)|(refine Br.mk (fun _=>?_) (fun _=>?_)<;>cbv)|(refine Need.mk ?_ ?_;rotate_left;cbv)|(refine R0 ?_;cbv))
 all_goals(try subst_vars)
 all_goals(try simp only [O.h,natTo,natPred,emp] at *)
 all_goals(try subst_vars)
 all_goals(repeat' apply And.intro)
 all_goals first
  | exact True.intro
  | exact WkR.refl _
  | lia
  | (simp_all [];done)
  | (simp_all []<;>lia)
  | (grind)
  | skip
theorem path_fn (O:Opq) (s:ByteArray):Fn prog 142 [.str s] [] [.bool (O.o isPath s)] []:=by
 have h:=isPath_pieces s
 have hk:O.o isKey s=true→s.size≤1099511627776:=by rw[O.h,isKey,decide_eq_true_eq];omega
 refine go (fn:=Proofs.Tryz.f142) (n:=10) (rv:=[ResultVar.tmp 2]) rfl (by decide) rfl (by decide +kernel) rfl rfl (by simp) fun F L C=>?_
 cbv
 (repeat' first|(refine Na ?_ fun _ _=>?_;(focus lia);cbv)|(refine CallThen.bool (C.fn (key_fn O _)) (fun _=>?_) (fun _=>?_)<;>cbv)|(refine CallThen.mk _ _ (C.fn (split_fn O _ _ rfl (hk (by assumption)))) ?_;cbv)|(refine CallThen.bool (C.fn (containsBad_fn O _ (by simp only [O.h];exact pieces_len (hk (by assumption))) (by simp only [O.h];exact pieces_size (hk (by assumption))))) (fun _=>?_) (fun _=>?_)<;>cbv)|(refine Nl fun _ _ hq=>?_;(try simp only [lenS] at hq);cbv)|(refine Nm fun _ _=>?_;cbv)|(refine Br.t ?_ ?_;(focus first|assumption|lia);cbv)|(refine Br.f ?_ ?_;(focus first|assumption|lia);cbv)|(refine Br.mk (fun _=>?_) (fun _=>?_)<;>cbv)|(refine Need.mk ?_ ?_;rotate_left;cbv)|(refine R0 ?_;cbv))
 all_goals(try subst_vars)
 all_goals(try simp only [O.h,natTo,natPred,emp] at *)
 all_goals(try subst_vars)
 all_goals(repeat' apply And.intro)
 all_goals first
  | exact True.intro
  | exact WkR.refl _
  | lia
  | (simp_all [];done)
  | (simp_all []<;>lia)
  | (grind)
  | skip
theorem checkL_fn (O:Opq) (d:Doc) (hd:d.length≤1099511627776):Fn prog 123 [.sl true 0 false 6 (O.o Doc.enc d)] [] [.int .i64 (O.o docErr d)] []:=by
 have hlen:(O.o Doc.enc d).length=d.length:=by rw[O.h,Doc.enc_len]
 obtain⟨N,hN⟩:∃ N:Nat,N=d.length:=⟨_,rfl⟩
 refine go (fn:=Proofs.Tryz.f123) (n:=41) (rv:=[ResultVar.tmp 2]) rfl (by decide) rfl (by decide +kernel) rfl rfl (by simp) fun F L C=>?_
 cbv
 (repeat' first|(refine Na ?_ fun _ _=>?_;(focus lia);cbv)|(refine Nl fun _ _ hq=>?_;(try simp only [lenS] at hq);cbv)|(refine Nm fun _ _=>?_;cbv)|(refine Br.t ?_ ?_;(focus first|assumption|lia);cbv)|(refine Br.f ?_ ?_;(focus first|assumption|lia);cbv)|(refine Br.mk (fun _=>?_) (fun _=>?_)<;>cbv)|(refine Need.mk ?_ ?_;rotate_left;cbv)|(refine R0 ?_;cbv))
 refine LoopThen.mk (C.loopAt (ι:=Nat) [(2,4),(7,41)] (fun k=>[(2,.int .i64 0),(7,.int .i64 k)]) (fun _=>[])
  (fun k=>k≤d.length∧k≤16∧∀ (j:Nat),j<k→okAt d j) (fun k=>N-k) (by decide +kernel) (Start.mk 0 [] [] (by simp) (by cbv;exact⟨.refl _,.refl _,rfl,trivial⟩)) ?_)
 rintro k ⟨h1,h2,h3⟩
 cbv
 (repeat' first|(refine Na ?_ fun _ _=>?_;(focus lia);cbv)|(refine Ex.map O Field.enc rfl ?_ fun x hx=>?_;rotate_left;obtain⟨p,k',n',t',a',b'⟩:=x;cbv)|(refine CallThen.bool (C.fn (path_fn O _)) (fun _=>?_) (fun _=>?_)<;>cbv)|(refine CallThen.mk _ _ (C.fn (rcheck_fn O ⟨_,_,_,_,_⟩)) ?_;cbv)|(refine Back.up [] [] ?_ ?_ fun _ _=>?_;rotate_left 2;cbv)|(refine Nl fun _ _ hq=>?_;(try simp only [lenS] at hq);cbv)|(refine Nm fun _ _=>?_;cbv)|(refine Br.t ?_ ?_;(focus first|assumption|lia);cbv)|(refine Br.f ?_ ?_;(focus first|assumption|lia);cbv)|(refine Br.mk (fun _=>?_) (fun _=>?_)<;>cbv)|(refine Need.mk ?_ ?_;rotate_left;cbv)|(refine R0 ?_;cbv))
 all_goals(try subst_vars)
 all_goals(try simp only [O.h,natTo,natPred,emp,Val.err_ok] at *)
 all_goals(try subst_vars)
 all_goals(repeat' apply And.intro)
 all_goals first
  | exact True.intro
  | exact WkR.refl _
  | lia
  | exact docErr_long (by lia)
  | exact docErr_ok (by lia) fun i hi=>h3 i (by lia)
  | (refine docErr_bad (i:=k) (by assumption) ?_;clear C;clear hd;clear h3;clear hlen;dsimp only;grind [slt_asymm,slt_irrefl,slt_not])
  | (refine okAt_step h3 ((okAt_iff (k:=k) (by assumption)).2 ?_);dsimp only;clear C;clear h3;clear hlen;grind [slt_asymm,slt_irrefl,slt_not])
theorem check_fn (O:Opq) (d:Doc) (hd:d.length≤1099511627776):Fn prog 123 [.sl false 0 false 6 (O.o Doc.enc d)] [] [.int .i64 (O.o docErr d)] [] :=
 (checkL_fn O d hd).wkA (.cons (.lend rfl) .nil)
open Go
open Classical in
noncomputable def sameDoc (d e : Doc) : Bool := decide (d = e)
theorem sameDoc_len {d e:Doc} (h:d.length≠e.length):sameDoc d e=false:=by
 simp only [sameDoc,decide_eq_false_iff_not];rintro rfl;exact h rfl
theorem sameDoc_at {d e:Doc} {k:Nat} (h:d[k]?≠e[k]?):sameDoc d e=false:=by
 simp only [sameDoc,decide_eq_false_iff_not];rintro rfl;exact h rfl
theorem sameDoc_all {d e:Doc} (hl:d.length=e.length) (h:∀ j,j<d.length→d[j]?=e[j]?):sameDoc d e=true:=by
 simp only [sameDoc,decide_eq_true_eq]
 apply List.ext_getElem? 
 intro j
 by_cases hj:j<d.length
 ·exact h j hj
 ·rw[List.getElem?_eq_none (by omega),List.getElem?_eq_none (by omega)]
theorem sameDoc_iff {d e:Doc}:sameDoc d e=true ↔ d=e:=by simp [sameDoc]
theorem fieldCells {x y:Field}:([PV.str x.path,PV.int IntKind.i64 x.val.kind,PV.int IntKind.i64 x.val.num,PV.str x.val.text,PV.int IntKind.i64 x.val.re,PV.int IntKind.i64 x.val.im]=[PV.str y.path,PV.int IntKind.i64 y.val.kind,PV.int IntKind.i64 y.val.num,PV.str y.val.text,PV.int IntKind.i64 y.val.re,PV.int IntKind.i64 y.val.im]) ↔ x=y:=Field.enc_inj
theorem below_step {P:Nat→Prop} {k:Nat} (h:∀ j,j<k→P j) (hk:P k):∀ j,j<k+1→P j:=fun j hj=>by
 by_cases e:j=k
 ·subst e;exact hk
 ·exact h j (by omega)
theorem srch_step {α:Type} {p:α→Bool} {l:List α} {k:Nat} {x:α} (h:∀ (j:Nat) y,j<k→l[j]?=some y→p y=false) (hx:l[k]?=some x) (hp:p x=false):∀ (j:Nat) y,j<k+1→l[j]?=some y→p y=false:=fun j y hj hy=>by
 by_cases e:j=k
 ·subst e;rw[hx] at hy;cases hy;exact hp
 ·exact h j y (by omega) hy
def cmpS (a b:ByteArray):Int:=Lib.compareBytes a.data.toList b.data.toList
theorem compareBytes_lt:∀ (x y:List UInt8),(Lib.compareBytes x y<0 ↔ x<y)∧(Lib.compareBytes x y=0 ↔ x=y)
 | [],[]=>by simp [Lib.compareBytes]
 | [],_::_=>by simp [Lib.compareBytes]
 | _::_,[]=>by simp [Lib.compareBytes]
 | a::x,b::y=>by
  have ih:=compareBytes_lt x y
  simp only [Lib.compareBytes,List.cons_lt_cons_iff,List.cons.injEq]
  split
  ·rename_i h;simp [h];intro e;subst e;exact absurd h (UInt8.lt_irrefl _)
  ·rename_i h
   split
   ·rename_i h';have hne:a≠b:=fun e=>by subst e;exact h h'
    simp [h,hne]
   ·rename_i h'
    have e:a=b:=UInt8.le_antisymm (UInt8.not_lt.1 h') (UInt8.not_lt.1 h)
    subst e
    simp [h,ih.1,ih.2]
theorem cmpS_lt {a b:ByteArray}:cmpS a b<0 ↔ slt a b:=by rw[cmpS,(compareBytes_lt _ _).1,slt_iff,Lib.toList_data,Lib.toList_data]
theorem cmpS_eq {a b:ByteArray}:cmpS a b=0 ↔ a=b:=by
 rw[cmpS,(compareBytes_lt _ _).2]
 constructor
 ·intro h;cases a;cases b;simp only [Array.toList_inj] at h;rw[h]
 ·rintro rfl;rfl
def insAt (d:Doc) (i:Nat) (f:Field):Doc:=d.take i++f::d.drop i
theorem ins2 {α:Type} {R v Z:List α} {i n:Nat} (hR:R.length=n) (hi:i<n) (hv:v.length=1) (hZ:Z.length=n+1-i) {r1 r2 r3:List α} (e1:r1=R.take i++Z)
  (e2:r2=r1.take i++v.take (n+1-i)++r1.drop (i+1)) (e3:r3=r2.take (i+1)++(R.drop i).take (n-i)++r2.drop (n+1)):r3=R.take i++v++R.drop i:=by
 have l1:(R.take i).length=i:=by simp;omega
 have a1:r1.take i=R.take i:=by rw[e1,List.take_left' l1]
 have a2:v.take (n+1-i)=v:=List.take_of_length_le (by omega)
 have l2:(R.take i++v).length=i+1:=by rw[List.length_append,l1,hv]
 have hr1:r1.length=n+1:=by rw[e1,List.length_append,l1,hZ];omega
 rw[a1,a2] at e2
 have a3:r2.take (i+1)=R.take i++v:=by rw[e2,List.take_left' l2]
 have hr2:r2.length=n+1:=by rw[e2,List.length_append,l2,List.length_drop,hr1];omega
 have c1:(R.drop i).take (n-i)=R.drop i:=List.take_of_length_le (by simp;omega)
 have c2:r2.drop (n+1)=[]:=List.drop_of_length_le (by omega)
 rw[e3,a3,c1,c2,List.append_nil]
theorem ins3 {α:Type} {R v Z:List α} {i n:Nat} (hR:R.length=n) (hi:i<n) (hv:v.length=1) (hZ:Z.length=1) {r1 r2 r3:List α} (e1:r1=R++Z)
  (e2:r2=r1.take (i+1)++((r1.drop i).take (n+1-i)).take (n-i)++r1.drop (n+1)) (e3:r3=r2.take i++v.take (n+1-i)++r2.drop (i+1)):r3=R.take i++v++R.drop i:=by
 have hr1:r1.length=n+1:=by rw[e1,List.length_append,hR,hZ]
 have a1:((r1.drop i).take (n+1-i)).take (n-i)=R.drop i:=by
  rw[List.take_take,e1,List.drop_append_of_le_length (by omega),show min (n-i) (n+1-i)=n-i by omega,List.take_left' (by simp;omega)]
 have a2:r1.take (i+1)=R.take (i+1):=by rw[e1,List.take_append_of_le_length (by omega)]
 have a3:r1.drop (n+1)=[]:=List.drop_of_length_le (by omega)
 rw[a1,a2,a3,List.append_nil] at e2
 have l3:(R.take (i+1)).length=i+1:=by simp;omega
 have b1:r2.take i=R.take i:=by
  rw[e2,List.take_append_of_le_length (by omega),List.take_take,show min i (i+1)=i by omega]
 have b2:r2.drop (i+1)=R.drop i:=by rw[e2,List.drop_left' l3]
 have c1:v.take (n+1-i)=v:=List.take_of_length_le (by omega)
 rw[e3,b1,b2,c1]
def insZ (d:Doc) (i:Int) (f:Field):Doc:=insAt d i.toNat f
theorem enc_ins (d:Doc) (i:Int) (f:Field):Doc.enc (insZ d i f)=(Doc.enc d).take i.toNat++[f.enc]++(Doc.enc d).drop i.toNat:=by
 simp [insZ,insAt,Doc.enc,List.map_take,List.map_drop]
theorem sliceEqL_fn (O:Opq) (d e:Doc) (hd:d.length≤1099511627776):Fn prog 120 [.sl true 0 false 6 (O.o Doc.enc d),.sl true 0 false 6 (O.o Doc.enc e)] [] [.bool (O.o sameDoc d e)] []:=by
 have hlen:(O.o Doc.enc d).length=d.length:=by rw[O.h,Doc.enc_len]
 have hlen2:(O.o Doc.enc e).length=e.length:=by rw[O.h,Doc.enc_len]
 obtain⟨N,hN⟩:∃ N:Nat,N=d.length:=⟨_,rfl⟩
 refine go (fn:=Proofs.Tryz.f120) (n:=24) (rv:=[ResultVar.tmp 4]) rfl (by decide) rfl (by decide +kernel) rfl rfl (by simp) fun F L C=>?_
 cbv
 (repeat' first|(refine Na ?_ fun _ _=>?_;(focus lia);cbv)|(refine Nl fun _ _ hq=>?_;(try simp only [lenS] at hq);cbv)|(refine Nm fun _ _=>?_;cbv)|(refine Br.t ?_ ?_;(focus first|assumption|lia);cbv)|(refine Br.f ?_ ?_;(focus first|assumption|lia);cbv)|(refine Br.mk (fun _=>?_) (fun _=>?_)<;>cbv)|(refine Need.mk ?_ ?_;rotate_left;cbv)|(refine R0 ?_;cbv))
 rotate_left
 ·exact⟨by simp only [O.h];exact sameDoc_len (by lia),trivial⟩
 have hl:d.length=e.length:=by lia
 refine LoopThen.mk (C.loopAt (ι:=Nat) [(4,5),(13,25)] (fun k=>[(4,.bool false),(13,.int .i64 k)]) (fun _=>[])
  (fun k=>k≤d.length∧∀ (j:Nat),j<k→d[j]?=e[j]?) (fun k=>N-k) (by decide +kernel) (Start.mk 0 [] [] (by simp) (by cbv;(repeat' apply And.intro)<;>first|exact True.intro|exact WkR.refl _|rfl|lia)) ?_)
 rintro k ⟨h1,h2⟩
 cbv
 (repeat' first|(refine Na ?_ fun _ _=>?_;(focus lia);cbv)|(refine Ex.map O Field.enc rfl ?_ fun _ _=>?_;rotate_left;cbv)|(refine Back.up [] [] ?_ ?_ fun _ _=>?_;rotate_left 2;cbv)|(refine Nl fun _ _ hq=>?_;(try simp only [lenS] at hq);cbv)|(refine Nm fun _ _=>?_;cbv)|(refine Br.t ?_ ?_;(focus first|assumption|lia);cbv)|(refine Br.f ?_ ?_;(focus first|assumption|lia);cbv)|(refine Br.mk (fun _=>?_) (fun _=>?_)<;>cbv)|(refine Need.mk ?_ ?_;rotate_left;cbv)|(refine R0 ?_;cbv))
 all_goals(try subst_vars)
 all_goals(try simp only [O.h,natTo,natPred,emp,fieldCells] at *)
 all_goals(try subst_vars)
 all_goals(repeat' apply And.intro)
 all_goals first
  | exact True.intro
  | exact WkR.refl _
  | lia
  | exact below_step h2 (by grind)
  | exact sameDoc_at (k:=k) (by grind)
  | exact sameDoc_all hl fun j hj=>h2 j (by lia)
theorem sameL_fn (O:Opq) (d e:Doc) (hd:d.length≤1099511627776):Fn prog 78 [.sl true 0 false 6 (O.o Doc.enc d),.sl true 0 false 6 (O.o Doc.enc e)] [] [.bool (O.o sameDoc d e)] []:=by
 refine go (fn:=Proofs.Tryz.f78) (n:=6) (rv:=[ResultVar.tmp 4]) rfl (by decide) rfl (by decide +kernel) rfl rfl (by simp) fun F L C=>?_
 cbv
 (repeat' first|(refine Na ?_ fun _ _=>?_;(focus lia);cbv)|(refine CallThen.mk _ _ (C.fn (sliceEqL_fn O _ _ hd)) ?_;cbv)|(refine Nl fun _ _ hq=>?_;(try simp only [lenS] at hq);cbv)|(refine Nm fun _ _=>?_;cbv)|(refine Br.t ?_ ?_;(focus first|assumption|lia);cbv)|(refine Br.f ?_ ?_;(focus first|assumption|lia);cbv)|(refine Br.mk (fun _=>?_) (fun _=>?_)<;>cbv)|(refine Need.mk ?_ ?_;rotate_left;cbv)|(refine R0 ?_;cbv))
 all_goals exact⟨rfl,trivial⟩
theorem rsameL_fn (O:Opq) (d e:Doc) (hd:d.length≤1099511627776):Fn prog 56 [.sl true 0 false 6 (O.o Doc.enc d),.sl true 0 false 6 (O.o Doc.enc e)] [] [.bool (O.o sameDoc d e)] []:=by
 have hlen:(O.o Doc.enc d).length=d.length:=by rw[O.h,Doc.enc_len]
 have hlen2:(O.o Doc.enc e).length=e.length:=by rw[O.h,Doc.enc_len]
 obtain⟨N,hN⟩:∃ N:Nat,N=d.length:=⟨_,rfl⟩
 refine go (fn:=Proofs.Tryz.f56) (n:=24) (rv:=[ResultVar.tmp 4]) rfl (by decide) rfl (by decide +kernel) rfl rfl (by simp) fun F L C=>?_
 cbv
 (repeat' first|(refine Na ?_ fun _ _=>?_;(focus lia);cbv)|(refine Nl fun _ _ hq=>?_;(try simp only [lenS] at hq);cbv)|(refine Nm fun _ _=>?_;cbv)|(refine Br.t ?_ ?_;(focus first|assumption|lia);cbv)|(refine Br.f ?_ ?_;(focus first|assumption|lia);cbv)|(refine Br.mk (fun _=>?_) (fun _=>?_)<;>cbv)|(refine Need.mk ?_ ?_;rotate_left;cbv)|(refine R0 ?_;cbv))
 rotate_left
 ·exact⟨by simp only [O.h];exact sameDoc_len (by lia),trivial⟩
 have hl:d.length=e.length:=by lia
 refine LoopThen.mk (C.loopAt (ι:=Nat) [(4,5),(11,25)] (fun k=>[(4,.bool false),(5,.int .i64 k)]) (fun _=>[])
  (fun k=>k≤d.length∧∀ (j:Nat),j<k→d[j]?=e[j]?) (fun k=>N-k) (by decide +kernel) (Start.mk 0 [] [] (by simp) (by cbv;(repeat' apply And.intro)<;>first|exact True.intro|exact WkR.refl _|rfl|lia)) ?_)
 rintro k ⟨h1,h2⟩
 cbv
 (repeat' first|(refine Na ?_ fun _ _=>?_;(focus lia);cbv)|(refine Ex.map O Field.enc rfl ?_ fun _ _=>?_;rotate_left;cbv)|(refine Back.up [] [] ?_ ?_ fun _ _=>?_;rotate_left 2;cbv)|(refine Nl fun _ _ hq=>?_;(try simp only [lenS] at hq);cbv)|(refine Nm fun _ _=>?_;cbv)|(refine Br.t ?_ ?_;(focus first|assumption|lia);cbv)|(refine Br.f ?_ ?_;(focus first|assumption|lia);cbv)|(refine Br.mk (fun _=>?_) (fun _=>?_)<;>cbv)|(refine Need.mk ?_ ?_;rotate_left;cbv)|(refine R0 ?_;cbv))
 all_goals(try subst_vars)
 all_goals(try simp only [O.h,natTo,natPred,emp,fieldCells] at *)
 all_goals(try subst_vars)
 all_goals(repeat' apply And.intro)
 all_goals first
  | exact True.intro
  | exact WkR.refl _
  | lia
  | exact below_step h2 (by grind)
  | exact sameDoc_at (k:=k) (by grind)
  | exact sameDoc_all hl fun j hj=>h2 j (by lia)
theorem same_fn (O:Opq) (d e:Doc) (hd:d.length≤1099511627776):Fn prog 78 [.sl false 0 false 6 (O.o Doc.enc d),.sl false 0 false 6 (O.o Doc.enc e)] [] [.bool (O.o sameDoc d e)] [] :=
 (sameL_fn O d e hd).wkA (.cons (.lend rfl) (.cons (.lend rfl) .nil))
theorem rsame_fn (O:Opq) (d e:Doc) (hd:d.length≤1099511627776):Fn prog 56 [.sl false 0 false 6 (O.o Doc.enc d),.sl false 0 false 6 (O.o Doc.enc e)] [] [.bool (O.o sameDoc d e)] [] :=
 (rsameL_fn O d e hd).wkA (.cons (.lend rfl) (.cons (.lend rfl) .nil))
theorem cmpX_fn (O:Opq) (a b:ByteArray):Fn prog 238 [.str a,.str b] [] [.int .i64 (O.o cmpS a b)] []:=by
 refine .inr ⟨rfl,fun k us _ _ h=>⟨.int .i64 (cmpS a b),?_,by rw[O.h];exact .plain (.int _ _)⟩⟩
 obtain rfl:=repL_str2 h
 rw[run_callFunc_extern (fn:=Proofs.Tryz.f238) rfl (by decide) (by rfl) (by kernel_rfl) (e:=Extern.BytealgCompare.compare) (by kernel_rfl),Lib.run_compareString]
 rfl
theorem cmpB_fn (O:Opq) (a b:ByteArray):Fn prog 182 [.str a,.str b] [] [.int .i64 (O.o cmpS a b)] []:=by
 refine go (fn:=Proofs.Tryz.f182) (n:=6) (rv:=[ResultVar.tmp 4]) rfl (by decide) rfl (by decide +kernel) rfl rfl (by simp) fun F L C=>?_
 cbv
 (repeat' first|(refine Na ?_ fun _ _=>?_;(focus lia);cbv)|(refine CallThen.mk _ _ (C.fn (cmpX_fn O _ _)) ?_;cbv)|(refine Nl fun _ _ hq=>?_;(try simp only [lenS] at hq);cbv)|(refine Nm fun _ _=>?_;cbv)|(refine Br.t ?_ ?_;(focus first|assumption|lia);cbv)|(refine Br.f ?_ ?_;(focus first|assumption|lia);cbv)|(refine Br.mk (fun _=>?_) (fun _=>?_)<;>cbv)|(refine Need.mk ?_ ?_;rotate_left;cbv)|(refine R0 ?_;cbv))
theorem cmp_fn (O:Opq) (a b:ByteArray):Fn prog 151 [.str a,.str b] [] [.int .i64 (O.o cmpS a b)] []:=by
 refine go (fn:=Proofs.Tryz.f151) (n:=6) (rv:=[ResultVar.tmp 4]) rfl (by decide) rfl (by decide +kernel) rfl rfl (by simp) fun F L C=>?_
 cbv
 (repeat' first|(refine Na ?_ fun _ _=>?_;(focus lia);cbv)|(refine CallThen.mk _ _ (C.fn (cmpB_fn O _ _)) ?_;cbv)|(refine Nl fun _ _ hq=>?_;(try simp only [lenS] at hq);cbv)|(refine Nm fun _ _=>?_;cbv)|(refine Br.t ?_ ?_;(focus first|assumption|lia);cbv)|(refine Br.f ?_ ?_;(focus first|assumption|lia);cbv)|(refine Br.mk (fun _=>?_) (fun _=>?_)<;>cbv)|(refine Need.mk ?_ ?_;rotate_left;cbv)|(refine R0 ?_;cbv))
end Go.Sym
namespace Go.Sym
open Go
section
variable {α:Type} (κ:α→ByteArray)
def sortedK (l:List α):Prop:=l.Pairwise fun x y=>slt (κ x) (κ y)
def hasK (p:ByteArray) (x:α):Bool:=decide (κ x=p)
def getK (l:List α) (p:ByteArray):Bool:=l.any (hasK κ p)
open Classical in
noncomputable def posK (l:List α) (p:ByteArray):Nat:=l.findIdx fun x=>decide (¬ slt (κ x) p)
noncomputable def posKZ (l:List α) (p:ByteArray):Int:=posK κ l p
def cmpK (x:α) (p:ByteArray):Int:=cmpS (κ x) p
variable {κ}
theorem cmpK_lt {x:α} {p:ByteArray}:cmpK κ x p<0 ↔ slt (κ x) p:=cmpS_lt
theorem cmpK_eq {x:α} {p:ByteArray}:cmpK κ x p=0 ↔ κ x=p:=cmpS_eq
theorem sortedK_lt {l:List α} (hs:sortedK κ l) {i j:Nat} {x y:α} (hij:i<j) (hx:l[i]?=some x) (hy:l[j]?=some y):slt (κ x) (κ y):=by
 obtain⟨h1,rfl⟩:=List.getElem?_eq_some_iff.1 hx
 obtain⟨h2,rfl⟩:=List.getElem?_eq_some_iff.1 hy
 exact List.pairwise_iff_getElem.1 hs i j h1 h2 hij
theorem posKZ_at {d:List α} {p:ByteArray} {k:Int} (h0:0≤k) (h1:k≤d.length) (h4:∀ (j:Nat) y,j<k→d[j]?=some y→slt (κ y) p) (h5:∀ (j:Nat) y,k≤j→d[j]?=some y→¬ slt (κ y) p):posKZ κ d p=k:=by
 obtain⟨n,rfl⟩:=Int.eq_ofNat_of_zero_le h0
 have:posK κ d p=n:=by
  by_cases hn:n<d.length
  ·refine(List.findIdx_eq hn).2 ⟨by simpa using h5 n _ (by omega) (by simp [hn]),fun j hj=>?_⟩
   have:=h4 j d[j] (by omega) (by simp)
   simpa using this
  ·have hn:n=d.length:=by omega
   subst hn
   refine List.findIdx_eq_length.2 fun x hx=>?_
   obtain⟨j,hj,rfl⟩:=List.getElem_of_mem hx
   have:=h4 j d[j] (by omega) (by simp [hj])
   simpa using this
 rw[posKZ,this]
theorem getK_at {d:List α} {p:ByteArray} {k:Int} {x:α} (h0:0≤k) (hx:d[k.toNat]?=some x) (hs:sortedK κ d) (h4:∀ (j:Nat) y,j<k→d[j]?=some y→slt (κ y) p) (h5:∀ (j:Nat) y,k≤j→d[j]?=some y→¬ slt (κ y) p):getK κ d p=true ↔ κ x=p:=by
 constructor
 ·intro h
  obtain⟨y,hy,hp⟩:=List.any_eq_true.1 h
  simp only [hasK,decide_eq_true_eq] at hp
  obtain⟨j,hj,rfl⟩:=List.getElem_of_mem hy
  have hy':d[j]?=some d[j]:=by simp [hj]
  by_cases h1:(j:Int)<k
  ·exact absurd (h4 j _ h1 hy') (by rw[hp];exact slt_irrefl p)
  ·by_cases h2:j=k.toNat
   ·subst h2;rw[hy'] at hx;cases hx;exact hp
   ·have:=sortedK_lt hs (i:=k.toNat) (j:=j) (by omega) hx hy'
    rw[hp] at this
    exact absurd this (h5 k.toNat x (by omega) hx)
 ·intro h
  exact List.any_eq_true.2 ⟨x,List.mem_of_getElem? hx,by simp [hasK,h]⟩
theorem getK_end {d:List α} {p:ByteArray} {k:Int} (hk:(d.length:Int)≤k) (h4:∀ (j:Nat) y,j<k→d[j]?=some y→slt (κ y) p):getK κ d p=false:=by
 cases h:getK κ d p with
 | false=>rfl
 | true =>
  obtain⟨y,hy,hp⟩:=List.any_eq_true.1 h
  simp only [hasK,decide_eq_true_eq] at hp
  obtain⟨j,hj,rfl⟩:=List.getElem_of_mem hy
  have:=h4 j d[j] (by omega) (by simp [hj])
  rw[hp] at this
  exact absurd this (slt_irrefl p)
theorem bsK_lo {d:List α} {p:ByteArray} {m:Int} {x:α} (hs:sortedK κ d) (h0:0≤m) (hx:d[m.toNat]?=some x) (hc:slt (κ x) p):∀ (j:Nat) y,(j:Int)<m+1→d[j]?=some y→slt (κ y) p:=fun j y hj hy=>by
 by_cases e:j=m.toNat
 ·subst e;rw[hx] at hy;cases hy;exact hc
 ·exact slt_trans (sortedK_lt hs (i:=j) (j:=m.toNat) (by omega) hy hx) hc
theorem bsK_hi {d:List α} {p:ByteArray} {m:Int} {x:α} (hs:sortedK κ d) (h0:0≤m) (hx:d[m.toNat]?=some x) (hc:¬ slt (κ x) p):∀ (j:Nat) y,m≤(j:Int)→d[j]?=some y→¬ slt (κ y) p:=fun j y hj hy k=>by
 by_cases e:j=m.toNat
 ·subst e;rw[hx] at hy;cases hy;exact hc k
 ·exact hc (slt_trans (sortedK_lt hs (i:=m.toNat) (j:=j) (by omega) hx hy) k)
def insK (d:List α) (i:Nat) (x:α):List α:=d.take i++x::d.drop i
def insKZ (d:List α) (i:Int) (x:α):List α:=insK d i.toNat x
theorem map_insKZ {β:Type} (e:α→β) (d:List α) (i:Int) (x:α):(insKZ d i x).map e=(d.map e).take i.toNat++[e x]++(d.map e).drop i.toNat:=by
 simp [insKZ,insK,List.map_take,List.map_drop]
theorem posK_le (d:List α) (p:ByteArray):posK κ d p≤d.length:=List.findIdx_le_length
open Classical in
theorem posK_lo (d:List α) (p:ByteArray):∀ (j:Nat) y,j<posK κ d p→d[j]?=some y→slt (κ y) p:=fun j y hj hy=>by
 have:=List.not_of_lt_findIdx (by unfold posK at hj;exact hj)
 obtain⟨h1,h2⟩:=List.getElem?_eq_some_iff.1 hy
 rw[h2] at this
 simpa using this
open Classical in
theorem posK_hi {d:List α} (hs:sortedK κ d) (p:ByteArray):∀ (j:Nat) y,posK κ d p≤j→d[j]?=some y→¬ slt (κ y) p:=fun j y hj hy k=>by
 have hjl:=(List.getElem?_eq_some_iff.1 hy).1
 have hlt:posK κ d p<d.length:=by omega
 have h1:¬ slt (κ (d[posK κ d p])) p:=by
  have h2:posK κ d p=d.findIdx fun x=>decide (¬ slt (κ x) p):=rfl
  have h3:=List.findIdx_getElem (xs:=d) (p:=fun x=>decide (¬ slt (κ x) p)) (w:=by rw[← h2];exact hlt)
  simp only [decide_eq_true_eq] at h3
  exact h3
 by_cases e:j=posK κ d p
 ·subst e
  rw[(List.getElem?_eq_some_iff.1 hy).2] at h1
  exact h1 k
 ·exact h1 (slt_trans (sortedK_lt hs (i:=posK κ d p) (j:=j) (by omega) (by simp [hlt]) hy) k)
theorem posK_there {d:List α} {p:ByteArray} (hs:sortedK κ d) (h:getK κ d p=true):∃ x,d[posK κ d p]?=some x∧κ x=p:=by
 obtain⟨y,hy,hp⟩:=List.any_eq_true.1 h
 simp only [hasK,decide_eq_true_eq] at hp
 have hlt:posK κ d p<d.length:=List.findIdx_lt_length_of_exists ⟨y,hy,by rw[hp];simpa using slt_irrefl p⟩
 refine⟨d[posK κ d p],by simp [hlt],?_⟩
 have hx:d[((posK κ d p:Nat):Int).toNat]?=some d[posK κ d p]:=by simp [hlt]
 exact(getK_at (k:=(posK κ d p:Int)) (by omega) hx hs (fun j y hj hy=>posK_lo d p j y (by omega) hy) (fun j y hj hy=>posK_hi hs p j y (by omega) hy)).1 h
theorem insK_sorted {d:List α} {x:α} (hs:sortedK κ d) (h:getK κ d (κ x)=false):sortedK κ (insK d (posK κ d (κ x)) x):=by
 have hno:∀ y∈d,κ y≠κ x:=fun y hy e=>by
  have:=List.any_eq_false.1 h y hy
  simp [hasK,e] at this
 rw[insK,sortedK,List.pairwise_append]
 refine⟨hs.sublist (List.take_sublist _ _),List.pairwise_cons.2 ⟨fun y hy=>?_,hs.sublist (List.drop_sublist _ _)⟩,fun a ha b hb=>?_⟩
 ·obtain⟨j,hj,rfl⟩:=List.getElem_of_mem hy
  rw[List.length_drop] at hj
  rw[List.getElem_drop]
  have:=posK_hi hs (κ x) (posK κ d (κ x)+j) d[posK κ d (κ x)+j] (by omega) (by simp)
  exact slt_not' this (hno _ (List.getElem_mem _))
 ·obtain⟨j,hj,rfl⟩:=List.getElem_of_mem ha
  rw[List.length_take] at hj
  rw[List.getElem_take]
  have h1:=posK_lo (κ:=κ) d (κ x) j d[j] (by omega) (by simp)
  rcases List.mem_cons.1 hb with e|hb
  ·subst e;exact h1
  ·obtain⟨i,hi,rfl⟩:=List.getElem_of_mem hb
   rw[List.length_drop] at hi
   rw[List.getElem_drop]
   exact sortedK_lt hs (i:=j) (j:=posK κ d (κ x)+i) (by omega) (by simp) (by simp)
theorem eraseIdx_sorted {d:List α} (hs:sortedK κ d) (i:Nat):sortedK κ (d.eraseIdx i):=hs.sublist (List.eraseIdx_sublist ..)
end
end Go.Sym
