import Derived.Test.YtejbcaheoloahaaGreatAbLaw
set_option linter.unusedVariables false
namespace Go.Ab
open Go
def Code.sub:List Nat→Code→Code
  | [],c=>c
  | 0 :: p,.seq a _=>Code.sub p a
  | 1 :: p,.seq _ b=>Code.sub p b
  | 0 :: p,.cond _ a _=>Code.sub p a
  | 1 :: p,.cond _ _ b=>Code.sub p b
  | _ :: p,.block _ c=>Code.sub p c
  | _ :: p,.loop c=>Code.sub p c
  | _ :: p,.scope c=>Code.sub p c
  | _ :: _,c=>c
section
variable {G:Cfg} {C:ZH} {f n:Nat} {σ:St}
theorem aep (id:Nat) (ops:Array Oper) (d:Bool):exec G C f n (.region id ops d) none σ=(abB G C ops d σ).map fun p=>(p.1,⟨qS p.2.tmps (G.K f (2 * id)),p.2.heap⟩):=rfl
theorem aoN (a b:Code):exec G C f n (.seq a b) none σ=match exec G C f n a none σ with
    | some (.normal,σ')=>exec G C f n b none σ'
    | r=>r:=rfl
theorem akm (c:Operand) (a b:Code):exec G C f n (.cond c a b) none σ=match qc σ.tmps c with
    | .pv (.bool t)=>if t then exec G C f n a none σ else exec G C f n b none σ
    | _=>none:=rfl
theorem amg (id:Nat) (c:Code):exec G C f n (.block id c) none σ=match exec G C f n c none σ with
    | some (.exit id',σ')=>if id'=id then some (.normal,σ') else some (.exit id',σ')
    | r=>r:=rfl
theorem anG (c:Code):exec G C f n (.loop c) none σ=iter (exec G C f n c none) (tidy σ.heap.length (G.K f (2 * Qr c+1))) n σ:=rfl
theorem anK (step:St→Option (Ex × St)) (fin:St→Option St) (n:Nat):iter step fin (n+1) σ=match step σ with
    | some (.normal,σ')=>(fin σ').bind (iter step fin n)
    | r=>r:=rfl
end
def grow (r:Row) (g h:Nat) (news:List (List PV)):Row × Nat:=
  if g=r.gen∧h=r.rows.length then ({ r with rows:=r.rows++news },g)
  else (⟨r.rows.take h++news,r.gen+1,0,if r.gen=0 then h else min r.stable h,r.frz⟩,r.gen+1)
structure adJ (r:Row) (g h:Nat):Prop where
  valid:r.valid g h=true
  free:(g=r.gen∧h=r.rows.length)∨(r.floor=0∧r.frz≤h)
theorem aor {r:Row} {g h:Nat} (hv:r.valid g h=true):h≤r.rows.length:=by
  simp only [Row.valid,Bool.or_eq_true,Bool.and_eq_true,decide_eq_true_eq] at hv
  omega
theorem alT {r:Row} {g h:Nat} {news:List (List PV)} (hh:h≤r.rows.length):(grow r g h news).1.rows.length=h+news.length:=by
  unfold grow
  split
  · rename_i hc; simp [hc.2]
  · simp; omega
theorem aoH {r:Row} {g h:Nat} {news:List (List PV)}:(grow r g h news).1.gen=(grow r g h news).2:=by
  unfold grow
  split
  · rename_i hc; exact hc.1.symm
  · rfl
theorem adJ.grow {r:Row} {g h:Nat} {a:List (List PV)} (hc:adJ r g h):adJ (grow r g h a).1 (grow r g h a).2 (h+a.length):=by
  have hl:=alT (g:=g) (news:=a) (aor hc.valid)
  have hg:=aoH (r:=r) (g:=g) (h:=h) (news:=a)
  refine ⟨?_,.inl ⟨hg.symm,hl.symm⟩⟩
  have hf:(Ab.grow r g h a).1.floor≤h+a.length:=by
    have hv:=hc.valid
    simp only [Row.valid,Bool.or_eq_true,Bool.and_eq_true,decide_eq_true_eq,beq_iff_eq] at hv
    unfold Ab.grow
    split
    · rename_i hh; simp only; omega
    · simp
  simp only [Row.valid,hg,hl]
  simp [hf]
theorem ahx {T:Nat→Option TI} {nid t e id g h esz:Nat} {ti ei:TI} {r:Row} {news:List (List PV)} {look:Look} (ht:T t=some ti) (hd:ti.desc=.slice e) (he:T e=some ei) (hs:ei.size=esz) (h0:esz≠0)
    (hn:news.all (fun c=>c.length == esz)=true) (hl:look id=some (.row e esz r)) (hc:adJ r g h) (hb:(h+news.length) * ei.bytes≤140737488355328) (hm:h+news.length≤9223372036854775807) (hne:news≠[]):
    qT T nid t (.ref id g h esz 0 h) news look=some ⟨.ref id (grow r g h news).2 (h+news.length) esz 0 (h+news.length),[(id,.row e esz (grow r g h news).1)],[]⟩:=by
  obtain ⟨d,s1,s2,s3,s4⟩:=ti
  simp only at hd
  subst hd
  subst hs
  unfold qT
  simp only [ht,he]
  rw [if_pos ⟨h0,hn⟩]
  simp only [hl]
  rw [if_pos (by simp only [hc.valid,true_and]; exact ⟨hb,hm⟩)]
  have:news.isEmpty=false:=by cases news <;> simp_all
  rw [this]
  simp only [Bool.false_eq_true,if_false]
  unfold grow
  split
  · rfl
  · rename_i hh
    rw [if_pos (hc.free.resolve_left hh)]
theorem alS {T:Nat→Option TI} {nid t e esz:Nat} {ti ei:TI} {news:List (List PV)} {look:Look} (ht:T t=some ti) (hd:ti.desc=.slice e) (he:T e=some ei) (hs:ei.size=esz) (h0:esz≠0)
    (hn:news.all (fun c=>c.length == esz)=true) (hb:news.length * ei.bytes≤140737488355328) (hm:news.length≤9223372036854775807) (hne:news≠[]):
    qT T nid t (.pv .nils) news look=some ⟨.ref nid 0 news.length esz 0 news.length,[],[.row e esz ⟨news,0,0,0,0⟩]⟩:=by
  obtain ⟨d,s1,s2,s3,s4⟩:=ti
  simp only at hd
  subst hd
  subst hs
  unfold qT
  simp only [ht,he]
  rw [if_pos ⟨h0,hn⟩]
  have:news.isEmpty=false:=by cases news <;> simp_all
  rw [this]
  simp only [Bool.false_eq_true,if_false]
  rw [if_pos ⟨hb,hm⟩]
theorem ajR {T:Nat→Option TI} {nid t e id g h esz:Nat} {ti ei:TI} {r:Row} {look:Look} (ht:T t=some ti) (hd:ti.desc=.slice e) (he:T e=some ei) (hs:ei.size=esz) (h0:esz≠0)
    (hl:look id=some (.row e esz r)) (hc:r.valid g h=true) (hb:h * ei.bytes≤140737488355328) (hm:h≤9223372036854775807):
    qT T nid t (.ref id g h esz 0 h) [] look=some ⟨.ref id g h esz 0 h,[],[]⟩:=by
  obtain ⟨d,s1,s2,s3,s4⟩:=ti
  simp only at hd
  subst hd
  subst hs
  unfold qT
  simp only [ht,he]
  rw [if_pos ⟨h0,rfl⟩]
  simp only [hl]
  rw [if_pos (by simp only [hc,true_and]; exact ⟨by simpa using hb,by simpa using hm⟩)]
  rfl
theorem alO {rows:List (List PV)}:adJ ⟨rows,0,0,0,0⟩ 0 rows.length:=⟨by simp [Row.valid],.inl ⟨rfl,rfl⟩⟩
mutual
theorem alR {f:Nat→Option Nat}:∀ (v:AV),(∀ i∈AV.ids v,f i=some i)→AV.ren f v=some v
  | .pv _,_=>rfl
  | .ptr i o,h=>by simp [AV.ren,h i (by simp [AV.ids])]
  | .eptr i _ _ _ _ _,h=>by simp [AV.ren,h i (by simp [AV.ids])]
  | .ref i _ _ _ _ _,h=>by simp [AV.ren,h i (by simp [AV.ids])]
  | .map i,h=>by simp [AV.ren,h i (by simp [AV.ids])]
  | .fn x a b,h=>by
    simp only [AV.ren]
    rw [adz a fun i hi=>h i (by simp [AV.ids,hi]),adz b fun i hi=>h i (by simp [AV.ids,hi])]
    rfl
  | .agg cs,h=>by
    simp only [AV.ren]
    rw [adz cs fun i hi=>h i (by simpa [AV.ids] using hi)]
    rfl
  | .tup vs,h=>by
    simp only [AV.ren]
    rw [adz vs fun i hi=>h i (by simpa [AV.ids] using hi)]
    rfl
  | .undef,_=>rfl
  | .any,_=>rfl
theorem adz {f:Nat→Option Nat}:∀ (vs:List AV),(∀ i∈AV.idsL vs,f i=some i)→AV.renL f vs=some vs
  | [],_=>rfl
  | v :: r,h=>by
    simp only [AV.renL]
    rw [alR v fun i hi=>h i (by simp [AV.idsL,hi]),adz r fun i hi=>h i (by simp [AV.idsL,hi])]
    rfl
end
def rowB (b:Int):List PV:=[.int .u8 b]
def am9 (n:Nat):List Int:=if n < 128 then [] else ((n % 128+128:Nat):Int) :: am9 (n / 128)
termination_by n
decreasing_by omega
def am3 (n:Nat):Nat:=if n < 128 then n else am3 (n / 128)
termination_by n
decreasing_by omega
def qC (n:Nat):List Int:=am9 n++[(am3 n:Int)]
def Code.ops:Code→Array Oper
  | .region _ o _=>o
  | _=>#[]
end Go.Ab
