import Derived.Test.YtejbcaheoloahaaGreatAbArr
import Derived.Test.YtejbcaheoloahaaGreatAbRec
set_option linter.unusedVariables false
set_option linter.unusedSimpArgs false
namespace Go.Ab
open Go
variable {G:Cfg} {C:ZH} {m:Nat} {ops:Array Oper} {i:Nat} {ov ov':List (Nat × AV)} {H H':List Blk}
def PO {α:Type} (te:Nat) (f:α→AV):Int ⊕ α→Out
  | .inl e=>.pan (.pv (.ifc te (.int .i64 e)))
  | .inr r=>.ret (f r)
def outX (G:Cfg) (f:Nat) (fn:Func) (n0:Nat) (t:List AV) (HH:List Blk):Ex→Option (Out × List Blk)
  | .normal | .ret=>(ab2 G ⟨t,HH⟩ fn.results.toList).bind fun vs=>(leave (G.M f) n0 (agr vs) HH).map fun p=>(Out.ret p.1,p.2)
  | .panic v=>(leave (G.M f) n0 v HH).map fun p=>(Out.pan p.1,p.2)
  | _=>none
def RetP (G:Cfg) (f:Nat) (fn:Func) (n0:Nat) (o:Out) (H':List Blk):Ex→List AV→List Blk→Prop:=fun ex t HH=>True∧outX G f fn n0 t HH ex=some (o,H')
theorem akh {f n:Nat} {fn:Func} {c:Code} {args:List AV} {t t':List AV} {ex:Ex} {HH:List Blk} {r:Out × List Blk} (hf:G.P.funcs[f]?=some fn) (hb:fn.body=some c) (ht:args++List.replicate (fn.ntmps - args.length) .any=t)
    (e:exec G (call G n) f n c none ⟨t,H⟩=some (ex,⟨t',HH⟩)) (hr:outX G f fn H.length t' HH ex=some r):call G (n+1) f args H=some r:=by
  simp only [call,hf,hb,ht,e]
  cases ex <;> first | exact hr | cases hr
theorem callP {f n:Nat} {fn:Func} {c:Code} {args:List AV} {o:Out} (m:Nat) (ov:List (Nat × AV)) (hf:G.P.funcs[f]?=some fn) (hb:fn.body=some c) (ht:args++List.replicate (fn.ntmps - args.length) .any=mk m ov)
    (h:WP (exec G (call G n) f n c none ⟨mk m ov,H⟩) (RetP G f fn H.length o H')):
    call G (n+1) f args H=some (o,H'):=by
  obtain ⟨ex,tt,HH,e,_,hr⟩:=h
  exact akh hf hb ht e hr
def RetEP (G:Cfg) (f:Nat) (fn:Func) (n0:Nat) (P:Out→List Blk→Prop):Ex→List AV→List Blk→Prop:=fun ex t HH=>True∧∃ o H',outX G f fn n0 t HH ex=some (o,H')∧P o H'
theorem ao4 {f n:Nat} {fn:Func} {c:Code} {args:List AV} {P:Out→List Blk→Prop} (m:Nat) (ov:List (Nat × AV)) (hf:G.P.funcs[f]?=some fn) (hb:fn.body=some c) (ht:args++List.replicate (fn.ntmps - args.length) .any=mk m ov)
    (h:WP (exec G (call G n) f n c none ⟨mk m ov,H⟩) (RetEP G f fn H.length P)):
    ∃ o H',call G (n+1) f args H=some (o,H')∧P o H':=by
  obtain ⟨ex,tt,HH,e,_,o,H',hr,hP⟩:=h
  exact ⟨o,H',akh hf hb ht e hr,hP⟩
def panP (m:Nat) (ops:Array Oper) (i:Nat) (ov:List (Nat × AV)) (H:List Blk) (e:Eff):Option (List Blk):=
  match ops[i]? with
  | none=>none
  | some o=>match abe ops m ov o with
    | some true=>match abt H e && ab3 H (foot (aal m ov) o (zp H)) with
      | true=>some (qy H e)
      | false=>none
    | _=>none
theorem rpG {e:Eff} {sn:Option (List Seen)} {Q:Ex→List AV→List Blk→List Seen→Prop} (ha:opL G C m ops i ov H=some (.pan e)) (hp:panP m ops i ov H e=some H') (h:∀ seen,(∀ l,sn=some l→seen=l)→Q (.panic e.val) (mk m ov) H' (⟨i,[],[]⟩ :: seen)):RV G C m ops i ov H sn Q:=by
  intro seen hs
  unfold opL at ha
  unfold panP at hp
  cases ho:ops[i]? with
  | none=>rw [ho] at ha; cases ha
  | some o=>
    rw [ho] at ha hp
    simp only at ha hp
    cases hw:abe ops m ov o with
    | none=>rw [hw] at hp; cases hp
    | some b=>
      rw [hw] at hp
      cases b with
      | false=>cases hp
      | true=>
        simp only at hp
        cases hu:abt H e && ab3 H (foot (aal m ov) o (zp H)) with
        | false=>rw [hu] at hp; cases hp
        | true=>
          rw [hu] at hp
          simp only [Option.some.injEq] at hp
          subst hp
          refine ⟨.panic e.val,mk m ov,qy H e,⟨i,[],[]⟩ :: seen,?_,h seen hs⟩
          rw [aiE ho]
          simp only [aav,af2 hw,agd,ha,hu,if_true]
theorem rp {ks:List Nat} {e:Eff} {Q:Ex→List AV→List Blk→Prop} (ha:opL G C m ops i ov H=some (.pan e)) (hp:panP m ops i ov H e=some H') (h:∀ t,Q (.panic e.val) t H'):RV G C m ops i ov H none (KQ Q ks):=rpG ha hp fun _ _=>h _
theorem rpd {ks:List Nat} {e:Eff} {l:List Seen} {Q:Ex→List AV→List Blk→Prop} (ha:opL G C m ops i ov H=some (.pan e)) (hp:panP m ops i ov H e=some H') (hd:(aby ops && QB (Zy ops ops.size []) l && alZ G ops l (mk m ov) i)=true) (h:∀ t,Q (.panic e.val) t H'):RV G C m ops i ov H (some l) (KD G Q ks ops):=rpG ha hp fun seen hs=>⟨⟨i,[],[]⟩,seen,rfl,by rw [hs l rfl]; exact hd,h _⟩
theorem rp0 {ks:List Nat} {v:AV} {Q:Ex→List AV→List Blk→Prop} (ha:opL G C m ops i ov H=some (.pan ⟨v,[],[]⟩)) (hp:panP m ops i ov H ⟨v,[],[]⟩=some H) (h:∀ t,Q (.panic v) t H):RV G C m ops i ov H none (KQ Q ks):=rp ha hp h
theorem cpan {f:Nat} {args:List AV} {v:AV} (ho:opL G C m ops i ov H=qz C f args (zp H) H.length) (hC:C f args []=some (.pan v,[])) (hi:AV.idsL args=[]) (hp:aa6 (fun _=>none) args=some args) (hv:v.flat=true):opL G C m ops i ov H=some (.pan ⟨v,[],[]⟩):=by
  rw [ho]
  have e:(fun i=>if (([]:List Nat)).contains i then zp H i else none)=fun _=>none:=by funext i; simp
  have hR:reach (zp H) Zl (AV.idsL args) []=[]:=by rw [hi]; rfl
  unfold qz
  simp only [hR,e,hp,Option.bind_some,hC,hv,List.isEmpty_nil,Bool.and_self,if_true]
theorem apQ {f:Nat} (R:List Nat) (args:List AV) {as:List AV} {bs1 bs2:List Blk} {v:AV} {e:Eff} (ho:opL G C m ops i ov H=QC C f args (zp H) H.length) (hR:reach (zp H) Zl (AV.idsL args) []=R) (hA:aeI (zp H) args R=some (as,bs1)) (hC:C f as bs1=some (.pan v,bs2)) (hE:af7 R H.length v bs2=some e):
    opL G C m ops i ov H=some (.pan e):=by
  rw [ho]
  unfold aeI at hA
  unfold af7 at hE
  split at hA
  · rename_i a b h1 h2
    cases hA
    obtain ⟨b0,h2,h3⟩:=Option.bind_eq_some_iff.1 h2
    split at hE
    · rename_i b3 v' h4 h5
      cases hE
      unfold QC
      subst hR
      simp only [h1,Option.bind_some,h2,h3,hC]
      refine Eq.trans (show _=((qQ (aeJ (reach (zp H) Zl (AV.idsL args) []) H.length) bs2).bind fun bs'=>(AV.ren (aeJ (reach (zp H) Zl (AV.idsL args) []) H.length) v).map fun v=>Res.pan ⟨v,aap (reach (zp H) Zl (AV.idsL args) []) bs',bs'.drop (reach (zp H) Zl (AV.idsL args) []).length⟩) from rfl) ?_
      rw [h4,Option.bind_some,h5]
      rfl
    · cases hE
  · cases hA
theorem rR {ks:List Nat} {Q:Ex→List AV→List Blk→Prop} {f:Nat} (H':List Blk) (R:List Nat) (args:List AV) {as:List AV} {bs1 bs2:List Blk} {v v':AV} (ho:opL G C m ops i ov H=QC C f args (zp H) H.length) (hR:reach (zp H) Zl (AV.idsL args) []=R) (hA:aeI (zp H) args R=some (as,bs1)) (hC:C f as bs1=some (.pan v,bs2))
    (hp:((af7 R H.length v bs2).bind fun e=>(panP m ops i ov H e).map fun h=>(e.val,h))=some (v',H')) (h:∀ t,Q (.panic v') t H'):RV G C m ops i ov H none (KQ Q ks):=by
  obtain ⟨e,hE,hp1⟩:=Option.bind_eq_some_iff.1 hp
  obtain ⟨h2,hp2,hq⟩:=Option.map_eq_some_iff.1 hp1
  simp only [Prod.mk.injEq] at hq
  obtain ⟨rfl,rfl⟩:=hq
  exact rp (apQ R args ho hR hA hC hE) hp2 h
theorem rRd {ks:List Nat} {l:List Seen} {Q:Ex→List AV→List Blk→Prop} {f:Nat} (H':List Blk) (R:List Nat) (args:List AV) {as:List AV} {bs1 bs2:List Blk} {v v':AV} (ho:opL G C m ops i ov H=QC C f args (zp H) H.length) (hR:reach (zp H) Zl (AV.idsL args) []=R) (hA:aeI (zp H) args R=some (as,bs1)) (hC:C f as bs1=some (.pan v,bs2))
    (hp:((af7 R H.length v bs2).bind fun e=>(panP m ops i ov H e).map fun h=>(e.val,h))=some (v',H')) (hd:(aby ops && QB (Zy ops ops.size []) l && alZ G ops l (mk m ov) i)=true) (h:∀ t,Q (.panic v') t H'):RV G C m ops i ov H (some l) (KD G Q ks ops):=by
  obtain ⟨e,hE,hp1⟩:=Option.bind_eq_some_iff.1 hp
  obtain ⟨h2,hp2,hq⟩:=Option.map_eq_some_iff.1 hp1
  simp only [Prod.mk.injEq] at hq
  obtain ⟨rfl,rfl⟩:=hq
  exact rpd (apQ R args ho hR hA hC hE) hp2 hd h
theorem ae9 {look:Look} {cs vs:List AV} {ps:List PV} (h:adB (AV.pureOf look 4) cs=some ps) (e:ps.map AV.pv=vs):AV.puri look (.agg cs)=some (.agg vs):=by
  subst e
  simp only [AV.puri,h,Option.map_some]
theorem aph {α:Type} (R:α→List PV) (l:List α) (x':α) {x:α} {c:List PV} {j:Int} {t e id esz n off fl:Nat} {ti:TI} {v:AV} {vs:List AV} {ps:List PV} (ht:G.T t=some ti) (hl:zp H id=some (bR e esz R l fl 0)) (h:idx l j=some x) (hn:n=l.length) (hf:fl≤l.length)
    (hc:v.cells=some vs) (hp:aaO vs=some ps) (hs:vs.length=ti.size) (hcx:R x=c) (hx:adf c off ps=some (R x')):
    abw G.T t (.eptr id 0 n esz (0+j.toNat) off) v (zp H)=some ⟨.undef,[(id,bR e esz R (l.set j.toNat x') n 0)],[]⟩:=by
  subst hcx
  obtain ⟨h0,h⟩:=aeS h
  have hlt:j.toNat < l.length:=(List.getElem?_eq_some_iff.1 h).1
  unfold abw
  simp only [ht,hc,hl,Nat.zero_add]
  rw [if_pos hs,if_pos ⟨trivial,by subst hn; simp,by omega,trivial,by omega,trivial⟩]
  rw [List.getElem?_map,h,hp]
  simp only [Option.map_some,hx]
  simp only [bR,List.map_set]
theorem abW {α:Type} (R:α→List PV) (l:List α) (x':α) {x:α} {c:List PV} {j:Int} {t e id esz n off fl:Nat} {ti:TI} {v:AV} {vs:List AV} {ps:List PV} (ht:G.T t=some ti) (hl:zp H id=some (bR e esz R l fl 0)) (h:idx l j=some x) (hn:n=l.length) (hf:fl≤l.length)
    (hc:v.cells=some vs) (hp:aaO vs=some ps) (hs:vs.length=ti.size) (hcx:R x=c) (hx:adf c off ps=some (R x')) (ho:opL G C m ops i ov H=okE (abw G.T t (.eptr id 0 n esz (0+j.toNat) off) v (zp H))):
    opL G C m ops i ov H=some (.ok ⟨.undef,[(id,bR e esz R (l.set j.toNat x') n 0)],[]⟩):=by
  rw [ho,aph R l x' ht hl h hn hf hc hp hs hcx hx]; rfl
theorem al9 {f n te g:Nat} {k:IntKind} {fn fg:Func} {c:Code} {fv v:AV} {as:List AV} {o:Out} (hf:G.P.funcs[f]?=some fn) (hb:fn.body=some c) (he:exec G (call G n) f n c none ⟨[fv]++List.replicate (fn.ntmps - [fv].length) .any,H⟩=none) (hD:G.D f=some (te,k))
    (hg:callee fv []=some (g,as)) (hfg:G.P.funcs[g]?=some fg) (hng:(fg.name == "runtime.NumGoroutine")=false) (hnb:fg.body.isNone=false) (hc:call G n g as H=some (o,H')) (hr:ajd te k o=some v):call G (n+1) f [fv] H=some (.ret v,H'):=by
  simp only [call,hf,hb,he,hD]
  unfold akE
  simp only [hg,hfg,hng,hnb,hc,hr,Bool.false_eq_true,if_false,Option.map_some]
end Go.Ab
