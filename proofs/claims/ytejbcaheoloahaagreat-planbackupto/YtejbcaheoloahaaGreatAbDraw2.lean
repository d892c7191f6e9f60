import Derived.Test.YtejbcaheoloahaaGreatAbDraw
set_option linter.unusedVariables false
set_option linter.unusedSimpArgs false
namespace Go.Ab
open Go
variable {w w':World} {F:Froz} {Pr:Nat→Prop} {m m':Mu} {look:Look} {nid:Nat}
structure Stp where
  dst:Option Nat
  base:Nat
  eff:Eff
  want:Bool
  reads:List Nat
abbrev TL:=List AV × Look
def Stp.app (s:Stp) (x:TL):TL:=(putA x.1 s.dst s.eff.val,ZF x.2 s.base s.eff)
def Stp.wr (s:Stp) (i:Nat):Prop:=(∃ p∈s.eff.upd,p.1=i)∨(s.base≤i∧i < s.base+s.eff.new.length)
def Zq (S:Nat→Bool) (x:TL):Nat→List Stp→TL
  | _,[]=>x
  | i,s :: r=>Zq S (if S i then s.app x else x) (i+1) r
theorem ahT (t:List AV) (d:Option Nat) (v:AV):(putA t d v).length=t.length:=by cases d <;> simp [putA]
theorem ahu {t:List AV} {d:Option Nat} {v:AV} {k:Nat} (h:d≠some k):(putA t d v)[k]?=t[k]?:=by
  cases d with
  | none=>rfl
  | some e=>exact List.getElem?_set_ne (fun he=>h (by rw [he]))
theorem ajc {t t':List AV} (d:Option Nat) (v:AV) {k:Nat} (h:t[k]?=t'[k]?) (hl:t.length=t'.length):(putA t d v)[k]?=(putA t' d v)[k]?:=by
  cases d with
  | none=>exact h
  | some e=>simp only [putA,List.getElem?_set,h,hl]
theorem anw {t:List AV} {d e:Option Nat} {u v:AV} (h:∀ k,d=some k→e≠some k):putA (putA t d u) e v=putA (putA t e v) d u:=by
  cases d with
  | none=>rfl
  | some a=>
    cases e with
    | none=>rfl
    | some b=>
      have hne:a≠b:=fun he=>h a rfl (by rw [he])
      simp only [putA]
      rw [List.set_comm _ _ hne]
theorem Qq {look:Look} {s:Stp} {i:Nat} (h:¬ s.wr i):ZF look s.base s.eff i=look i:=by
  unfold ZF
  rw [if_neg (fun hh=>h (.inr hh))]
  have:s.eff.upd.reverse.find? (·.1 == i)=none:=by
    rw [List.find?_eq_none]
    intro p hp hpi
    exact h (.inl ⟨p,by simpa using hp,by simpa using hpi⟩)
  rw [this]
theorem afX {look look':Look} {s:Stp} {i:Nat} (h:s.wr i):ZF look s.base s.eff i=ZF look' s.base s.eff i:=by
  unfold ZF
  split
  · rfl
  · rename_i hn
    obtain ⟨p,hp,hpi⟩:=h.resolve_right hn
    have:(s.eff.upd.reverse.find? (·.1 == i)).isSome:=by
      rw [List.find?_isSome]
      exact ⟨p,by simpa using hp,by simpa using hpi⟩
    obtain ⟨q,hq⟩:=Option.isSome_iff_exists.1 this
    rw [hq]
theorem ajE {look look':Look} (s:Stp) {i:Nat} (h:look i=look' i):ZF look s.base s.eff i=ZF look' s.base s.eff i:=by
  by_cases hw:s.wr i
  · exact afX hw
  · rw [Qq hw,Qq hw,h]
def Stp.free (s t:Stp):Prop:=(∀ k,s.dst=some k→t.dst≠some k)∧∀ i,s.wr i→¬ t.wr i
theorem Stp.app_comm {s t:Stp} (h:s.free t) (x:TL):s.app (t.app x)=t.app (s.app x):=by
  unfold Stp.app
  refine Prod.ext ?_ ?_
  · simp only
    exact anw fun k hk hs=>h.1 k hs hk
  · simp only
    funext i
    by_cases hs:s.wr i
    · rw [Qq (h.2 i hs),afX (look':=x.2) hs]
    · rw [Qq hs]
      by_cases ht:t.wr i
      · exact afX ht
      · rw [Qq ht,Qq ht,Qq hs]
theorem agW {S:Nat→Bool} {s:Stp}:∀ (l:List Stp) (i:Nat) (x:TL),(∀ k t,l[k]?=some t→S (i+k)=true→s.free t)→
    Zq S (s.app x) i l=s.app (Zq S x i l)
  | [],i,x,_=>rfl
  | t :: r,i,x,h=>by
    simp only [Zq]
    have hr:∀ k u,r[k]?=some u→S (i+1+k)=true→s.free u:=fun k u hk hs=>h (k+1) u (by simpa using hk) (by rw [show i+(k+1)=i+1+k by omega]; exact hs)
    split
    · rename_i hs
      rw [← Stp.app_comm (h 0 t (by simp) (by simpa using hs)) x]
      exact agW r _ _ hr
    · exact agW r _ _ hr
def upd1 (S:Nat→Bool) (j:Nat):Nat→Bool:=fun i=>i == j || S i
theorem aeG {S S':Nat→Bool}:∀ (l:List Stp) (i:Nat) (x:TL),(∀ k,k < l.length→S (i+k)=S' (i+k))→Zq S x i l=Zq S' x i l
  | [],i,x,_=>rfl
  | t :: r,i,x,h=>by
    have h0:=h 0 (by simp)
    rw [Nat.add_zero] at h0
    simp only [Zq,h0]
    exact aeG r _ _ fun k hk=>by
      have:=h (k+1) (by simpa using hk)
      rw [show i+(k+1)=i+1+k by omega] at this
      exact this
theorem ahe {S:Nat→Bool} {s:Stp}:∀ (l:List Stp) (i:Nat) (j:Nat) (x:TL),l[j]?=some s→S (i+j)=false→
    (∀ k t,l[k]?=some t→j < k→S (i+k)=true→s.free t)→Zq (upd1 S (i+j)) x i l=s.app (Zq S x i l)
  | t :: r,i,0,x,hj,hS,h=>by
    simp only [List.getElem?_cons_zero,Option.some.injEq] at hj
    subst hj
    rw [Nat.add_zero] at hS
    simp only [Zq,upd1,Nat.add_zero,beq_self_eq_true,Bool.true_or,if_true,hS,Bool.false_eq_true,if_false]
    rw [aeG (S':=S) r _ _ fun k hk=>by
      have:(i+1+k == i)=false:=by rw [beq_eq_false_iff_ne]; omega
      show (i+1+k == i || S (i+1+k))=S (i+1+k)
      rw [this]; rfl]
    exact agW r _ _ fun k u hk hs=>h (k+1) u (by simpa using hk) (by omega) (by rw [show i+(k+1)=i+1+k by omega]; exact hs)
  | t :: r,i,j+1,x,hj,hS,h=>by
    simp only [List.getElem?_cons_succ] at hj
    simp only [Zq]
    have h1:upd1 S (i+(j+1)) i=S i:=by simp [upd1]
    rw [h1,show i+(j+1)=i+1+j by omega]
    exact ahe r (i+1) j _ hj (by rw [← hS]; congr 1; omega) fun k u hk hjk hs=>h (k+1) u (by simpa using hk) (by omega) (by rw [show i+(k+1)=i+1+k by omega]; exact hs)
theorem aho {S:Nat→Bool}:∀ (l:List Stp) (i:Nat) (x:TL),(Zq S x i l).1.length=x.1.length
  | [],i,x=>rfl
  | t :: r,i,x=>by
    simp only [Zq]
    rw [aho r]
    split
    · simp [Stp.app,ahT]
    · rfl
theorem ae5 {S S':Nat→Bool} {d:Nat}:∀ (l:List Stp) (i:Nat) (x x':TL),x.1[d]?=x'.1[d]?→x.1.length=x'.1.length→
    (∀ k t,l[k]?=some t→S (i+k)≠S' (i+k)→t.dst≠some d)→(Zq S x i l).1[d]?=(Zq S' x' i l).1[d]?
  | [],i,x,x',h,hl,_=>h
  | t :: r,i,x,x',h,hl,hh=>by
    simp only [Zq]
    have h0:=hh 0 t (by simp)
    rw [Nat.add_zero] at h0
    refine ae5 r _ _ _ ?_ ?_ fun k u hk hs=>hh (k+1) u (by simpa using hk) (by rw [show i+(k+1)=i+1+k by omega]; exact hs)
    · cases hS:S i <;> cases hS':S' i <;> simp only [Bool.false_eq_true,if_false,if_true]
      · exact h
      · simp only [Stp.app]; rw [ahu (h0 (by rw [hS,hS']; decide))]; exact h
      · simp only [Stp.app]; rw [ahu (h0 (by rw [hS,hS']; decide))]; exact h
      · simp only [Stp.app]; exact ajc _ _ h hl
    · cases S i <;> cases S' i <;> simp [Stp.app,ahT,hl]
theorem adR {S S':Nat→Bool} {d:Nat}:∀ (l:List Stp) (i:Nat) (x x':TL),x.2 d=x'.2 d→
    (∀ k t,l[k]?=some t→S (i+k)≠S' (i+k)→¬ t.wr d)→(Zq S x i l).2 d=(Zq S' x' i l).2 d
  | [],i,x,x',h,_=>h
  | t :: r,i,x,x',h,hh=>by
    simp only [Zq]
    have h0:=hh 0 t (by simp)
    rw [Nat.add_zero] at h0
    refine adR r _ _ _ ?_ fun k u hk hs=>hh (k+1) u (by simpa using hk) (by rw [show i+(k+1)=i+1+k by omega]; exact hs)
    cases hS:S i <;> cases hS':S' i <;> simp only [Bool.false_eq_true,if_false,if_true]
    · exact h
    · simp only [Stp.app]; rw [Qq (h0 (by rw [hS,hS']; decide))]; exact h
    · simp only [Stp.app]; rw [Qq (h0 (by rw [hS,hS']; decide))]; exact h
    · simp only [Stp.app]; exact ajE _ h
theorem aed:∀ (l:List Stp) (i j:Nat) (x:TL),i≤j→Zq (fun k=>decide (k < j)) x i l=Zq (fun _=>true) x i (l.take (j - i))
  | [],i,j,x,_=>by simp [Zq]
  | t :: l,i,j,x,h=>by
    by_cases hij:i=j
    · subst hij
      rw [Nat.sub_self,List.take_zero]
      have:∀ (l:List Stp) (n:Nat) (x:TL),i≤n→Zq (fun k=>decide (k < i)) x n l=x:=by
        intro l
        induction l with
        | nil=>intro n x _; rfl
        | cons t l ih=>
          intro n x hn
          simp only [Zq]
          rw [if_neg (by simpa using hn)]
          exact ih _ _ (by omega)
      exact this _ _ _ (Nat.le_refl _)
    · have hlt:i < j:=by omega
      obtain ⟨d,hd⟩:∃ d,j - i=d+1:=⟨j - i - 1,by omega⟩
      rw [hd,List.take_succ_cons]
      simp only [Zq,decide_eq_true hlt,if_true]
      rw [aed l (i+1) j _ (by omega),show j - (i+1)=d by omega]
end Go.Ab
