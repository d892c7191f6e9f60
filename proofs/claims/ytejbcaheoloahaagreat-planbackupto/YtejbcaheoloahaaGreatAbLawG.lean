import Derived.Test.YtejbcaheoloahaaGreatAbLaw
set_option linter.unusedVariables false
set_option linter.unusedSimpArgs false
namespace Go.Ab
open Go Go.ChangeShapes Go.WideShapes Go.ChangeAt Go.RowKit
section
variable {H:Type} {enc:TypeId × Value→H} {P:Program} {w:World} {base:Nat} {spare:Nat→Bool} {held:Bool} {U:DataW H→Nat} {UA:List (DataW H)→Nat}
theorem amL {G:Cfg} (hG:GOk G) (hGP:G.P=P) (hm:P.follows .mixedOrders=true) {f N:Nat} {as:List AV} {H':List Blk} {W:World} {vs:List Value}
    (hc:call G N f as []=some (.ret (.pv (.bool true)),H')) (hr:RelL W (allF W) (fun _ _ _=>none) vs as):
    Calls P f vs.toArray W fun e W'=>e=.returned (.bool true)∧Below W.heap.size W W':=by
  subst hGP
  have hI:Inv W (allF W) (fun g=>g < W.heap.size) (fun _ _ _=>none) (zp []):=⟨fun id b hl=>by simp [zp] at hl,fun id id' b b' hl=>by simp [zp] at hl,
    fun g o h=>h,fun g h=>h,fun id b γ h g c hl=>by simp [zp] at hl⟩
  refine (sound hG hm N f as [] _ H' hc W (allF W) (fun g=>g < W.heap.size) _ vs hI (fun _ _ _ _=>rfl) hr).mono fun e W' he=>?_
  obtain ⟨F',m',hext,_,_,_,_,u,rfl,hu⟩:=he
  cases hu with | pv hp=>
  cases hp
  exact ⟨rfl,hext.os,hext.tape,hext.output,hext.size,fun k hk=>hext.pr k hk⟩
theorem ajJ {G:Cfg} (hG:GOk G) (hGP:G.P=P) {s:ChangeSpec} {f:Nat} {fn:Func} {t0:Nat} {bound:Nat} (S:List Nat) (hS:akJ P S=true) (hU:Bulk U UA)
    (hm:P.follows .mixedOrders=true) (hl:laidOutB P=true) (hres:fn.resultTypes=#[t0]) (ht0:P.underlying t0=some .bool) (hpS:fn.params.toList.all (S.contains ·)=true)
    (hpr:fn.params.toList.all (fun t=>P.readableRec t && decide (t < P.types.size))=true) (hvars:s.vars=[]) (hs:∀ ds:List (DataW H),ds.length=fn.params.toList.length→s.fn H ds={ results:=[.lit (.bool true)],args:=ds })
    (spec:∀ as,aj3 P fn.params.toList as bound→∃ N H',call G N f as []=some (.ret (.pv (.bool true)),H'))
    (W:World) (base:Nat) (args:Array Value) (ds gs:List (DataW H)) (before:List MemPlace)
    (hval:∀ (j:Nat) t v,fn.params[j]?=some t→args[j]?=some v→Value.okWide P W .any base t v)
    (hW:DataW.Whole enc P fn.params.toList s.vars false W args.toList ds gs before) (hb:UA ds≤bound):
    Calls P f args W fun e W'=>∃ v,e=.returned v∧s.post enc P fn false true false false W args v W':=by
  have hW':=hW
  obtain ⟨p,q,hA,hV,rfl,hfz,hnd⟩:=hW
  rw [hvars] at hV
  obtain ⟨rfl,rfl⟩:=trodVars_none hV
  obtain ⟨as,h1,h2,h3⟩:=akn S hS hU (r:=.any) (b0:=base) fn.params.toList args.toList ds p (fun t ht=>by simpa using List.all_eq_true.1 hpS t ht) (fun j t v a b=>hval j t v (by simpa using a) (by simpa using b)) hA
  have mono:∀ (ts:List Nat) (as:List AV) (b b':Nat),b≤b'→aj3 P ts as b→aj3 P ts as b':=by
    intro ts as b b' hbb h
    match ts,as,h with
    | [],[],h=>trivial
    | t :: ts,a :: as,h=>
      obtain ⟨n,qs,b1,x1,x2,x3,x4⟩:=h
      exact ⟨n,qs,b1,x1,x2,by omega,x4⟩
  obtain ⟨N,H',hc⟩:=spec as (mono _ _ _ _ hb h2)
  have hcall:=amL hG hGP hm hc h1
  rw [Array.toArray_toList] at hcall
  refine hcall.mono fun e W' ⟨he,hg⟩=>?_
  subst he
  have hsf:=hs ds h3
  simp only [List.append_nil] at hW'
  have hlt:∀ x∈p,x.block < W.heap.size:=fun x hx=>by simpa using hW'.lt x hx
  refine ⟨_,rfl,ajU (pa:=p) (pv:=[]) hW' (fun b sp hd=>?_) (fun sp hsp=>?_) (fun _ _=>?_) (by simp) hg (ok_one hres rfl (okWide_bool_mk ht0 _))⟩
  · rw [List.append_nil,hsf,hres]
    exact trodAll_cons_mk (shut_bool ht0 _) trodAll_mk0
  · rw [List.append_nil,hsf]
    exact ajQ hl hpr hg sp _ _ _ hA hlt hsp
  · rw [List.append_nil,hsf,hvars]; rfl
end
end Go.Ab
