import Derived.Test.YtejbcaheoloahaaGreatAbArr
import Derived.Test.YtejbcaheoloahaaGreatAbRec
set_option linter.all false
namespace Go.Ab
open Go
variable {G:Cfg}{C:qi}{m:Nat}{ops:Array Oper}{i:Nat}{ov ov':List (Nat×AV)}{H H':List Blk}
def PO {α:Type}(te:Nat) (f:α→AV):Int ⊕ α→Out
 |.inl e=>.pan (.pv (.ifc te (.int .i64 e)))
 |.inr r=>.ret (f r)
def outX (G:Cfg) (f:Nat) (fn:Func) (n0:Nat) (t:List AV) (HH:List Blk):Ex→Option (Out×List Blk)
 |.normal|.ret=>(afR G ⟨t,HH⟩ fn.results.toList).bind fun vs=>(leave (G.M f) n0 (al5 vs) HH).map fun p=>(Out.ret p.1,p.2)
 |.panic v=>(leave (G.M f) n0 v HH).map fun p=>(Out.pan p.1,p.2)
 |_=>none
def RetP (G:Cfg) (f:Nat) (fn:Func) (n0:Nat) (o:Out) (H':List Blk):Ex→List AV→List Blk→Prop:=fun ex t HH=>True∧outX G f fn n0 t HH ex=some (o,H')
theorem apa {f n:Nat}{fn:Func}{c:Code}{args:List AV}{t t':List AV}{ex:Ex}{HH:List Blk}{r:Out×List Blk}(hf:G.P.funcs[f]?=some fn) (hb:fn.body=some c) (ht:args++List.replicate (fn.ntmps-args.length) .any=t)
  (e:exec G (call G n) f n c none ⟨t,H⟩=some (ex,⟨t',HH⟩)) (hr:outX G f fn H.length t' HH ex=some r):call G (n+1) f args H=some r:=by
 simp only [call,hf,hb,ht,e]
 cases ex<;>first|exact hr|cases hr
theorem apK {f n:Nat}{fn:Func}{c:Code}{args:List AV}{o:Out}(m:Nat) (ov:List (Nat×AV)) (hf:G.P.funcs[f]?=some fn) (hb:fn.body=some c) (ht:args++List.replicate (fn.ntmps-args.length) .any=mk m ov)
  (h:WP (exec G (call G n) f n c none ⟨mk m ov,H⟩) (RetP G f fn H.length o H')):
  call G (n+1) f args H=some (o,H'):=by
 obtain ⟨ex,tt,HH,e,_,hr⟩:=h
 exact apa hf hb ht e hr
def RetEP (G:Cfg) (f:Nat) (fn:Func) (n0:Nat) (P:Out→List Blk→Prop):Ex→List AV→List Blk→Prop:=fun ex t HH=>True∧∃ o H',outX G f fn n0 t HH ex=some (o,H')∧P o H'
theorem awX {f n:Nat}{fn:Func}{c:Code}{args:List AV}{P:Out→List Blk→Prop}(m:Nat) (ov:List (Nat×AV)) (hf:G.P.funcs[f]?=some fn) (hb:fn.body=some c) (ht:args++List.replicate (fn.ntmps-args.length) .any=mk m ov)
  (h:WP (exec G (call G n) f n c none ⟨mk m ov,H⟩) (RetEP G f fn H.length P)):
  ∃ o H',call G (n+1) f args H=some (o,H')∧P o H':=by
 obtain ⟨ex,tt,HH,e,_,o,H',hr,hP⟩:=h
 exact ⟨o,H',apa hf hb ht e hr,hP⟩
def panP (m:Nat) (ops:Array Oper) (i:Nat) (ov:List (Nat×AV)) (H:List Blk) (e:Eff):Option (List Blk):=
 match ops[i]? with
 |none=>none
 |some o=>match aek ops m ov o with
  |some true=>match aep H e&&afe H (foot (acu m ov) o (zw H)) with
   |true=>some (QI H e)
   |false=>none
  |_=>none
theorem rpG {e:Eff}{sn:Option (List Seen)}{Q:Ex→List AV→List Blk→List Seen→Prop}(ha:opL G C m ops i ov H=some (.pan e)) (hp:panP m ops i ov H e=some H') (h:∀ seen,(∀ l,sn=some l→seen=l)→Q (.panic e.val) (mk m ov) H' (⟨i,[],[]⟩::seen)):RV G C m ops i ov H sn Q:=by
 intro seen hs
 unfold opL at ha
 unfold panP at hp
 cases ho:ops[i]? with
 |none=>rw [ho] at ha;cases ha
 |some o=>
  rw [ho] at ha hp
  simp only at ha hp
  cases hw:aek ops m ov o with
  |none=>rw [hw] at hp;cases hp
  |some b=>
   rw [hw] at hp
   cases b with
   |false=>cases hp
   |true=>
    simp only at hp
    cases hu:aep H e&&afe H (foot (acu m ov) o (zw H)) with
    |false=>rw [hu] at hp;cases hp
    |true=>
     rw [hu] at hp
     simp only [Option.some.injEq] at hp
     subst hp
     refine ⟨.panic e.val,mk m ov,QI H e,⟨i,[],[]⟩::seen,?_,h seen hs⟩
     rw [am6 ho]
     simp only [acy,aj6 hw,akp,ha,hu,if_true]
theorem rp {ks:List Nat}{e:Eff}{Q:Ex→List AV→List Blk→Prop}(ha:opL G C m ops i ov H=some (.pan e)) (hp:panP m ops i ov H e=some H') (h:∀ t,Q (.panic e.val) t H'):RV G C m ops i ov H none (KQ Q ks):=rpG ha hp fun _ _=>h _
theorem rpd {ks:List Nat}{e:Eff}{l:List Seen}{Q:Ex→List AV→List Blk→Prop}(ha:opL G C m ops i ov H=some (.pan e)) (hp:panP m ops i ov H e=some H') (hd:(aeD ops&&abA (Z2 ops ops.size []) l&&aqR (Z2 ops ops.size []) ops.size i)=true) (h:∀ t,Q (.panic e.val) t H'):RV G C m ops i ov H (some l) (KD Q ks ops):=rpG ha hp fun seen hs=>⟨⟨i,[],[]⟩,seen,rfl,by rw [hs l rfl];exact hd,h _⟩
theorem rp0 {ks:List Nat}{v:AV}{Q:Ex→List AV→List Blk→Prop}(ha:opL G C m ops i ov H=some (.pan ⟨v,[],[]⟩)) (hp:panP m ops i ov H ⟨v,[],[]⟩=some H) (h:∀ t,Q (.panic v) t H):RV G C m ops i ov H none (KQ Q ks):=rp ha hp h
theorem rp0d {ks:List Nat}{v:AV}{l:List Seen}{Q:Ex→List AV→List Blk→Prop}(ha:opL G C m ops i ov H=some (.pan ⟨v,[],[]⟩)) (hp:panP m ops i ov H ⟨v,[],[]⟩=some H) (hd:(aeD ops&&abA (Z2 ops ops.size []) l&&aqR (Z2 ops ops.size []) ops.size i)=true) (h:∀ t,Q (.panic v) t H):RV G C m ops i ov H (some l) (KD Q ks ops):=rpd ha hp hd h
theorem cpan {f:Nat}{args:List AV}{v:AV}(ho:opL G C m ops i ov H=QH C f args (zw H) H.length) (hC:C f args []=some (.pan v,[])) (hi:AV.idsL args=[]) (hp:acO (fun _=>none) args=some args) (hv:v.flat=true):opL G C m ops i ov H=some (.pan ⟨v,[],[]⟩):=by
 rw [ho]
 have e:(fun i=>if (([]:List Nat)).contains i then zw H i else none)=fun _=>none:=by funext i;simp
 have hR:reach (zw H) qd (AV.idsL args) []=[]:=by rw [hi];rfl
 unfold QH
 simp only [hR,e,hp,hZ,hC,hv,List.isEmpty_nil,Bool.and_self,if_true]
theorem ata {α:Type}(R:α→List PV) (l:List α) (x':α) {x:α}{c:List PV}{j:Int}{t e id esz n off fl:Nat}{ti:TI}{v:AV}{vs:List AV}{ps:List PV}(ht:G.T t=some ti) (hl:zw H id=some (bR e esz R l fl 0)) (h:idx l j=some x) (hn:n=l.length) (hf:fl≤l.length)
  (hc:v.cells=some vs) (hp:aco vs=some ps) (hs:vs.length=ti.size) (hcx:R x=c) (hx:adY c off ps=some (R x')):
  acd G.T t (.eptr id 0 n esz (0+j.toNat) off) v (zw H)=some ⟨.undef,[(id,bR e esz R (l.set j.toNat x') n 0)],[]⟩:=by
 subst hcx
 obtain ⟨h0,h⟩:=agI h
 have hlt:j.toNat<l.length:=(List.getElem?_eq_some_iff.1 h).1
 unfold acd
 simp only [ht,hc,hl,Nat.zero_add]
 rw [if_pos hs,if_pos ⟨trivial,by subst hn;simp,hO,trivial,hO,trivial⟩]
 rw [List.getElem?_map,h,hp]
 simp only [Option.map_some,hx]
 simp only [bR,List.map_set]
theorem ang {α:Type}(R:α→List PV) (l:List α) (x':α) {x:α}{c:List PV}{j:Int}{t e id esz n off fl:Nat}{ti:TI}{v:AV}{vs:List AV}{ps:List PV}(ht:G.T t=some ti) (hl:zw H id=some (bR e esz R l fl 0)) (h:idx l j=some x) (hn:n=l.length) (hf:fl≤l.length)
  (hc:v.cells=some vs) (hp:aco vs=some ps) (hs:vs.length=ti.size) (hcx:R x=c) (hx:adY c off ps=some (R x')) (ho:opL G C m ops i ov H=okE (acd G.T t (.eptr id 0 n esz (0+j.toNat) off) v (zw H))):
  opL G C m ops i ov H=some (.ok ⟨.undef,[(id,bR e esz R (l.set j.toNat x') n 0)],[]⟩):=by
 rw [ho,ata R l x' ht hl h hn hf hc hp hs hcx hx];rfl
theorem amG {α:Type}(R:α→List PV) (l:List α) (x':α) {x:α}{c:List PV}{j:Int}{t e id esz n off fl:Nat}{ti:TI}{v:AV}{vs:List AV}{ps:List PV}(Rs:List Nat) (v':AV) (ht:G.T t=some ti) (hl:zw H id=some (bR e esz R l fl 0)) (h:idx l j=some x) (hn:n=l.length) (hf:fl≤l.length)
  (hR:reach (zw H) qd (AV.idsL [v]) []=Rs) (hd:Rs.contains id=false) (hq:acO (fun i=>if Rs.contains i then zw H i else none) [v]=some [v'])
  (hc:v'.cells=some vs) (hp:aco vs=some ps) (hs:vs.length=ti.size) (hcx:R x=c) (hx:adY c off ps=some (R x')) (ho:opL G C m ops i ov H=okE (aga G.T t (.eptr id 0 n esz (0+j.toNat) off) v (zw H))):
  opL G C m ops i ov H=some (.ok ⟨.undef,ZI (zw H) Rs++[(id,bR e esz R (l.set j.toNat x') n 0)],[]⟩):=by
 rw [ho]
 subst hR
 have hq':v.puri (fun i=>if (reach (zw H) qd (AV.idsL [v]) []).contains i then zw H i else none)=some v':=by
  simp only [acO] at hq
  obtain ⟨a,h1,h2⟩:=ji.1 hq
  simp only [Option.map_some,Option.some.injEq,List.cons.injEq,and_true] at h2
  rw [h1,h2]
 unfold aga
 simp only [QG,List.any_cons,List.any_nil,Bool.or_false,hd,Bool.false_eq_true,if_false,hq',hZ,ata R l x' ht hl h hn hf hc hp hs hcx hx,Option.map_some,okE]
theorem auv {f n te g:Nat}{k:IntKind}{fn fg:Func}{c:Code}{fv v:AV}{as:List AV}{o:Out}(hf:G.P.funcs[f]?=some fn) (hb:fn.body=some c) (he:exec G (call G n) f n c none ⟨[fv]++List.replicate (fn.ntmps - [fv].length) .any,H⟩=none) (hD:G.D f=some (te,k))
  (hg:callee fv []=some (g,as)) (hfg:G.P.funcs[g]?=some fg) (hng:(fg.name == "runtime.NumGoroutine")=false) (hnb:fg.body.isNone=false) (hc:call G n g as H=some (o,H')) (hr:anz te k o=some v):call G (n+1) f [fv] H=some (.ret v,H'):=by
 simp only [call,hf,hb,he,hD]
 unfold apW
 simp only [hg,hfg,hng,hnb,hc,hr,Bool.false_eq_true,if_false,Option.map_some]
end Go.Ab
