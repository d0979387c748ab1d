/- From a row's listed variables to what the walks ask of them. -/
import Derived.LaidLaws
import Derived.Lib.LaidTab
import Derived.MakeChecks
import Derived.KernelRfl
import Derived.Test.YtfdbdalnpdgfmaaGreatDoorK26
set_option linter.all false
set_option linter.unusedVariables false
set_option linter.unusedSimpArgs false
namespace Go.Sym
open Go Go.Proofs.Tryz
theorem laid_at {P:Program} {w:World} {n:String} {d:DataW Unit}:∀ {laid:List (String×DataW Unit)} {ps:List MemPlace},DataW.LaidVars P w laid ps→(n,d)∈laid →
  ∃ g t cs fuel p,P.globalNamed n=some g∧(P.globals[g]?).map (·.type)=some t∧w.var? P n=some cs∧DataW.trod (fun _=>()) P w 0 (fun _=>true) false fuel t cs.toList=some (d,p)
 | [],_,_,h=>by simp at h
 | (n',d')::r,ps,hl,h=>by
  obtain⟨g,t,cs,fuel,p,q,h1,h2,h3,h4,h5,_⟩:=hl
  rcases List.mem_cons.1 h with e|h
  ·cases e;exact⟨g,t,cs,fuel,p,h1,h2,h3,h4⟩
  ·exact laid_at h5 h
theorem hok_tab {laid:List (String×DataW Unit)} {W:World} {zs:List Int} {ps:List MemPlace} (hv:DataW.LaidVars prog W laid ps) (h1:(thePow,Lib.tabData .u64 zs)∈laid):Lib.TabIs prog W thePow .u64 zs:=by
 obtain⟨g,t,cs,fuel,p,hg,ht,hc,hd⟩:=laid_at hv h1
 have eg:prog.globalNamed thePow=some 5:=by kernel_rfl
 obtain rfl:=Option.some.inj (eg.symm.trans hg)
 have et:(prog.globals[5]?).map (·.type)=some 224:=by kernel_rfl
 obtain rfl:=Option.some.inj (et.symm.trans ht)
 have hcs:=Lib.cells_of_tab underlying224 underlying147 (by kernel_rfl) (by kernel_rfl) hd
 unfold Lib.TabIs
 rw[hc,← hcs]
theorem hok {laid:List (String×DataW Unit)} {W:World} {en:String} {ed:DataW Unit} (h:laidMet prog laid W) (h1:(thePow,Lib.tabData .u64 Lib.pow10Tab)∈laid) (h2:(theErr,.iface en ed)∈laid):theLaid.ok W:=by
 obtain⟨ps,hv,_⟩:=h
 obtain⟨g,t,cs',fuel,p,hg,ht,hc',hd'⟩:=laid_at hv h2
 have eg:prog.globalNamed theErr=some 4:=by kernel_rfl
 obtain rfl:=Option.some.inj (eg.symm.trans hg)
 have et:(prog.globals[4]?).map (·.type)=some 160:=by kernel_rfl
 obtain rfl:=Option.some.inj (et.symm.trans ht)
 obtain⟨f,u,v,hv',_,_⟩:=iface_of_trod underlying160 hd'
 refine⟨hok_tab hv h1,u,v,?_⟩
 rw[hc']
 exact congrArg some (Array.ext' hv')
open Go Go.Proofs Go.Proofs.Tryz
set_option maxRecDepth 10000
theorem cSl0:prog.cellsOf 25=4:=by decide +kernel
theorem cSl1:prog.cellsOf 9=1:=by decide +kernel
theorem cSl2:prog.cellsOf 4=1:=by decide +kernel
theorem cSl3:prog.cellsOf 3=1:=by decide +kernel
theorem cSl4:prog.cellsOf 23=1:=by decide +kernel
def Shlf.In (c:Shlf):Prop:=inStr (c.dfn)∧inInt (c.mark)∧((c.ents).length≤9223372036854775807∧∀ y∈c.ents,y.In)
theorem shape_shlf {n:Nat} {xs:List PV} (h:shape prog n 25 xs):∃ c:Shlf,WkL (Shlf.enc Opq.id c) xs∧c.In:=by
 cases n with
 | zero=>exact h.elim
 | succ n =>
  simp only [shape,Tryz.underlying25,List.forall_mem_cons,List.not_mem_nil,false_imp_iff,implies_true,and_true,cSl0,cSl1,cSl2,cSl3,cSl4] at h
  obtain⟨hl,h0,h1,h2,h3⟩:=h
  match xs,hl with
  | [x0,x1,x2,x3],_ =>
  obtain⟨a0,e0,i0⟩:=shape_str (xs:=[x0]) h0
  obtain⟨a1,e1⟩:=shape_bool (xs:=[x1]) h1
  obtain⟨a2,e2,i2⟩:=shape_int (xs:=[x2]) h2
  obtain⟨a3,w3,i3⟩:=shape_pairks (x:=x3) h3
  cases e0;cases e1;cases e2
  exact⟨⟨a0,a1,a2,a3⟩,(WkL.append (WkL.refl [_]) (WkL.append (WkL.refl [_]) (WkL.append (WkL.refl [_]) (WkL.cons w3 (WkL.refl []))))),⟨i0,i2,i3⟩⟩
end Go.Sym
