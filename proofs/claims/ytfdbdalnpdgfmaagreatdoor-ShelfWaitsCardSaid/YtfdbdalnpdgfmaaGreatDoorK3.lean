/- The layings of the library's contracts. -/
import Derived.Test.YtfdbdalnpdgfmaaGreatDoorProg
import Derived.Shelf.Strings.SlTrimAscii
import Derived.Test.YtfdbdalnpdgfmaaGreatDoorK1
set_option linter.all false
set_option linter.unusedVariables false
set_option linter.unusedSimpArgs false
namespace Go.Proofs
open Go.Shelf
def Tryz.trimLays_ren:Go.Shelf.Ren:=⟨fun | 160=>72 | 232=>103 | 231=>102 | 227=>104 | 234=>106 | 233=>105 | 236=>108 | 235=>107 | 228=>127 | 271=>129 | 151=>128 | 197=>84 | 120=>142 | 152=>141 | 260=>112 | 137=>159 | 119=>160 | 224=>82 | 225=>81 | 217=>80 | 266=>110|n=>n,fun | 9=>9 | 4=>4 | 3=>3 | 5=>5 | 117=>152 | 116=>151 | 0=>0 | 124=>155 | 21=>21 | 105=>128 | 46=>118 | 119=>172 | 139=>175 | 138=>174|n=>n,fun | 3=>1 | 4=>2|n=>n⟩
theorem Tryz.trimLays:Lays.n160 Tryz.prog Tryz.trimLays_ren:={
  mixed:=(by kernel_rfl)
  f119:=Tryz.func160.trans (congrArg some (by kernel_rfl))
  f120:=Tryz.func142.trans (congrArg some (by kernel_rfl))
  f137:=Tryz.func159.trans (congrArg some (by kernel_rfl))
  f151:=Tryz.func128.trans (congrArg some (by kernel_rfl))
  f152:=Tryz.func141.trans (congrArg some (by kernel_rfl))
  f160:=Tryz.func72.trans (congrArg some (by kernel_rfl))
  f197:=Tryz.func84.trans (congrArg some (by kernel_rfl))
  f217:=Tryz.func80.trans (congrArg some (by kernel_rfl))
  f224:=Tryz.func82.trans (congrArg some (by kernel_rfl))
  f225:=Tryz.func81.trans (congrArg some (by kernel_rfl))
  f227:=Tryz.func104.trans (congrArg some (by kernel_rfl))
  f228:=Tryz.func127.trans (congrArg some (by kernel_rfl))
  f231:=Tryz.func102.trans (congrArg some (by kernel_rfl))
  f232:=Tryz.func103.trans (congrArg some (by kernel_rfl))
  f233:=Tryz.func105.trans (congrArg some (by kernel_rfl))
  f234:=Tryz.func106.trans (congrArg some (by kernel_rfl))
  f235:=Tryz.func107.trans (congrArg some (by kernel_rfl))
  f236:=Tryz.func108.trans (congrArg some (by kernel_rfl))
  f260:=Tryz.func112.trans (congrArg some (by kernel_rfl))
  f266:=Tryz.func110.trans (congrArg some (by kernel_rfl))
  f271:=Tryz.func129.trans (congrArg some (by kernel_rfl))
  t0:=Tryz.underlying0
  a0:=Tryz.isAgg0
  z0:=Tryz.sizeOf0
  v0:=Tryz.zeroValue0
  t3:=Tryz.underlying3
  a3:=Tryz.isAgg3
  z3:=Tryz.sizeOf3
  v3:=Tryz.zeroValue3
  t4:=Tryz.underlying4
  a4:=Tryz.isAgg4
  z4:=Tryz.sizeOf4
  v4:=Tryz.zeroValue4
  t5:=Tryz.underlying5
  a5:=Tryz.isAgg5
  z5:=Tryz.sizeOf5
  v5:=Tryz.zeroValue5
  t9:=Tryz.underlying9
  a9:=Tryz.isAgg9
  z9:=Tryz.sizeOf9
  v9:=Tryz.zeroValue9
  t21:=Tryz.underlying21
  a21:=Tryz.isAgg21
  z21:=Tryz.sizeOf21
  v21:=Tryz.zeroValue21
  t46:=Tryz.underlying118
  a46:=Tryz.isAgg118
  z46:=Tryz.sizeOf118
  v46:=Tryz.zeroValue118
  t105:=Tryz.underlying128
  a105:=Tryz.isAgg128
  z105:=Tryz.sizeOf128
  v105:=Tryz.zeroValue128
  t116:=Tryz.underlying151
  a116:=Tryz.isAgg151
  z116:=Tryz.sizeOf151
  t117:=Tryz.underlying152
  a117:=Tryz.isAgg152
  z117:=Tryz.sizeOf152
  v117:=Tryz.zeroValue152
  t119:=Tryz.underlying172
  a119:=Tryz.isAgg172
  z119:=Tryz.sizeOf172
  t124:=Tryz.underlying155
  a124:=Tryz.isAgg155
  z124:=Tryz.sizeOf155
  v124:=Tryz.zeroValue155
  t138:=Tryz.underlying174
  a138:=Tryz.isAgg174
  z138:=Tryz.sizeOf174
  v138:=Tryz.zeroValue174
  t139:=Tryz.underlying175
  a139:=Tryz.isAgg175
  z139:=Tryz.sizeOf175
  v139:=Tryz.zeroValue175
  g3:=(by kernel_rfl)
  g4:=(by kernel_rfl) }
end Go.Proofs
namespace Go.Sym
open Go
theorem PairK.ext' {a b:PairK}:a=b ↔ a.key=b.key∧a.val=b.val:=by
 obtain⟨k,v⟩:=a;obtain⟨k',v'⟩:=b;simp only [PairK.mk.injEq]
theorem Ndoc.ext' {a b:Ndoc}:a=b ↔ a.key=b.key∧a.doc=b.doc:=by
 obtain⟨k,v⟩:=a;obtain⟨k',v'⟩:=b;simp only [Ndoc.mk.injEq]
open Classical in
noncomputable def sameP (a b:List PairK):Bool:=decide (a=b)
open Classical in
noncomputable def sameNs (a b:List Ndoc):Bool:=decide (a=b)
theorem sameP_len {a b:List PairK} (h:a.length≠b.length):sameP a b=false:=by
 simp only [sameP,decide_eq_false_iff_not];exact fun e=>h (by rw[e])
theorem sameP_at {a b:List PairK} {k:Nat} (h:a[k]?≠b[k]?):sameP a b=false:=by
 simp only [sameP,decide_eq_false_iff_not];exact fun e=>h (by rw[e])
theorem sameP_all {a b:List PairK} (h:a.length=b.length) (k:∀ j,j<a.length→a[j]?=b[j]?):sameP a b=true:=by
 simp only [sameP,decide_eq_true_eq]
 refine List.ext_getElem? fun j=>?_
 by_cases hj:j<a.length
 ·exact k j hj
 ·rw[List.getElem?_eq_none (by omega),List.getElem?_eq_none (by omega)]
theorem sameNs_len {a b:List Ndoc} (h:a.length≠b.length):sameNs a b=false:=by
 simp only [sameNs,decide_eq_false_iff_not];exact fun e=>h (by rw[e])
theorem sameNs_at {a b:List Ndoc} {k:Nat} (h:a[k]?≠b[k]?):sameNs a b=false:=by
 simp only [sameNs,decide_eq_false_iff_not];exact fun e=>h (by rw[e])
theorem sameNs_all {a b:List Ndoc} (h:a.length=b.length) (k:∀ j,j<a.length→a[j]?=b[j]?):sameNs a b=true:=by
 simp only [sameNs,decide_eq_true_eq]
 refine List.ext_getElem? fun j=>?_
 by_cases hj:j<a.length
 ·exact k j hj
 ·rw[List.getElem?_eq_none (by omega),List.getElem?_eq_none (by omega)]
open Go Go.Proofs Go.Proofs.Tryz
set_option maxRecDepth 10000
def Val.In (v:Val):Prop:=inInt v.kind∧inInt v.num∧inStr v.text∧inInt v.re∧inInt v.im
def Field.In (f:Field):Prop:=inStr f.path∧f.val.In
theorem c33:prog.cellsOf 79=2:=by decide +kernel
theorem c35:prog.cellsOf 81=5:=by decide +kernel
theorem c37:prog.cellsOf 83=6:=by decide +kernel
theorem shape_point {n:Nat} {xs:List PV} (h:shape prog n 79 xs):∃ a b:Int,xs=[.int .i64 a,.int .i64 b]∧inInt a∧inInt b:=by
 cases n with
 | zero=>exact h.elim
 | succ n =>
  simp only [shape,Tryz.underlying79,List.forall_mem_cons,List.not_mem_nil,false_imp_iff,implies_true,and_true,c33,c3] at h
  obtain⟨hl,h1,h2⟩:=h
  match xs,hl with
  | [x,y],_ =>
  obtain⟨a,ea,ia⟩:=shape_int (xs:=[x]) h1
  obtain⟨b,eb,ib⟩:=shape_int (xs:=[y]) h2
  cases ea;cases eb
  exact⟨a,b,rfl,ia,ib⟩
theorem shape_val {n:Nat} {xs:List PV} (h:shape prog n 81 xs):∃ v:Val,xs=v.enc∧v.In:=by
 cases n with
 | zero=>exact h.elim
 | succ n =>
  simp only [shape,Tryz.underlying81,List.forall_mem_cons,List.not_mem_nil,false_imp_iff,implies_true,and_true,c35,c33,c9,c3] at h
  obtain⟨hl,h1,h2,h3,h4⟩:=h
  match xs,hl with
  | [x,y,z,u,w],_ =>
  obtain⟨a,ea,ia⟩:=shape_int (xs:=[x]) h1
  obtain⟨b,eb,ib⟩:=shape_int (xs:=[y]) h2
  obtain⟨t,et,it⟩:=shape_str (xs:=[z]) h3
  obtain⟨p,q,ep,ip,iq⟩:=shape_point (xs:=[u,w]) h4
  cases ea;cases eb;cases et;cases ep
  exact⟨⟨a,b,t,p,q⟩,rfl,ia,ib,it,ip,iq⟩
theorem shape_field {n:Nat} {xs:List PV} (h:shape prog n 83 xs):∃ f:Field,xs=f.enc∧f.In:=by
 cases n with
 | zero=>exact h.elim
 | succ n =>
  simp only [shape,Tryz.underlying83,List.forall_mem_cons,List.not_mem_nil,false_imp_iff,implies_true,and_true,c37,c35,c9] at h
  obtain⟨hl,h1,h2⟩:=h
  match xs,hl with
  | x::ys,hl =>
  obtain⟨t,et,it⟩:=shape_str (xs:=[x]) h1
  have hy:(List.drop 1 (x::ys)).take 5=ys:=List.take_of_length_le (Nat.le_of_eq (by simpa using hl))
  rw[hy] at h2
  obtain⟨v,rfl,iv⟩:=shape_val h2
  cases et
  exact⟨⟨t,v⟩,rfl,it,iv⟩
theorem shape_doc {n:Nat} {x:PV} (h:shape prog n 35 [x]):∃ d:Doc,Wk (.sl false 0 false 6 (Doc.enc d)) x∧d.length≤9223372036854775807∧∀ f∈d,f.In:=by
 cases n with
 | zero=>exact h.elim
 | succ n =>
  simp only [shape,Tryz.underlying35,c37] at h
  rcases h with h | ⟨rows,h,hl,hr⟩
  ·cases h
   exact⟨[],.nil _ _,by simp,by simp⟩
  ·cases h
   obtain⟨d,rfl,hd⟩:=rows_of (fun r hr=>shape_field hr) hr
   exact⟨d,.sl' rfl rfl (.refl _),by simpa [maxLen] using hl,hd⟩
theorem cFe0:prog.cellsOf 4=1:=by decide +kernel
theorem cFe1:prog.cellsOf 74=4:=by decide +kernel
theorem cFe4:prog.cellsOf 35=1:=by decide +kernel
theorem shape_bool {n:Nat} {xs:List PV} (h:shape prog n 4 xs):∃ b:Bool,xs=[.bool b]:=by
 cases n with
 | zero=>exact h.elim
 | succ n=>simp only [shape,Tryz.underlying4] at h;exact h
theorem rows_wk {α:Type} {e:α→List PV} {In:α→Prop} {Q:List PV→Prop} (hq:∀ r,Q r→∃ a,WkL (e a) r∧In a):∀ {rows:List (List PV)},(∀ r∈rows,Q r)→∃ l:List α,WkR (l.map e) rows∧l.length=rows.length∧∀ a∈l,In a
 | [],_=>⟨[],.refl _,rfl,by simp⟩
 | r::rows,h=>by
  obtain⟨a,ha,ia⟩:=hq r (h r (by simp))
  obtain⟨l,hl,ll,il⟩:=rows_wk (rows:=rows) hq fun r hr=>h r (List.mem_cons_of_mem _ hr)
  exact⟨a::l,.cons ha hl,by simp [ll],by simpa using⟨ia,il⟩⟩
def Change.In (c:Change):Prop:=inInt c.pos∧inStr c.key∧c.doc.length≤9223372036854775807∧∀ f∈c.doc,f.In
def Sub.In (s:Sub):Prop:=inStr s.name∧inInt s.pos
def Feed.In (f:Feed):Prop:=inInt f.base∧inInt f.total∧f.changes.length≤9223372036854775807∧f.subs.length≤9223372036854775807∧(∀ c∈f.changes,c.In)∧∀ s∈f.subs,s.In
theorem shape_change {n:Nat} {xs:List PV} (h:shape prog n 74 xs):∃ c:Change,WkL (Change.enc Opq.id c) xs∧c.In:=by
 cases n with
 | zero=>exact h.elim
 | succ n =>
  simp only [shape,Tryz.underlying74,List.forall_mem_cons,List.not_mem_nil,false_imp_iff,implies_true,and_true,cFe1,cFe0,cFe4,c9,c3] at h
  obtain⟨hl,h1,h2,h3,h4⟩:=h
  match xs,hl with
  | [x,y,z,u],_ =>
  obtain⟨a,ea,ia⟩:=shape_int (xs:=[x]) h1
  obtain⟨t,et,it⟩:=shape_str (xs:=[y]) h2
  obtain⟨b,eb⟩:=shape_bool (xs:=[z]) h3
  obtain⟨d,wd,ld,id⟩:=shape_doc (x:=u) h4
  cases ea;cases et;cases eb
  exact⟨⟨a,t,b,d⟩,.cons (.refl _) (.cons (.refl _) (.cons (.refl _) (.cons wd (.refl _)))),ia,it,ld,id⟩
theorem shape_changes {n:Nat} {x:PV} (h:shape prog n 38 [x]):∃ l:List Change,Wk (.sl false 0 false 4 (Chs.enc Opq.id l)) x∧l.length≤9223372036854775807∧∀ c∈l,c.In:=by
 cases n with
 | zero=>exact h.elim
 | succ n =>
  simp only [shape,Tryz.underlying38,cFe1] at h
  rcases h with h | ⟨rows,h,hl,hr⟩
  ·cases h
   exact⟨[],.nil _ _,by simp,by simp⟩
  ·cases h
   obtain⟨l,hw,hll,hi⟩:=rows_wk (fun r hr=>shape_change hr) hr
   exact⟨l,.sl' rfl rfl hw,by rw[hll];simpa [maxLen] using hl,hi⟩
end Go.Sym
