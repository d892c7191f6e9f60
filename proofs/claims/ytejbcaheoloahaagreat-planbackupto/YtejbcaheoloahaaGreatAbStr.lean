import Derived.Test.YtejbcaheoloahaaGreatAbWP
set_option maxRecDepth 100000
set_option linter.unusedVariables false
set_option linter.unusedSimpArgs false
namespace Go.Ab
open Go
def strOf (l:List Int):ByteArray:=⟨(l.map fun n=>UInt8.ofNat n.toNat).toArray⟩
theorem af8:∀ (l:List Int),qX (l.map rowB)=some (l.map fun n=>UInt8.ofNat n.toNat)
  | []=>rfl
  | n :: l=>by simp only [List.map_cons,rowB,qX]; rw [show (List.map rowB l)=l.map rowB from rfl,af8 l]; rfl
theorem anH {T:Nat→Option TI} {s d e:Nat} {si di:TI} {b:Nat} {c:Nat} {ag:Bool} {z:List PV} {x:AV} {look:Look} {l:List Int} (hs:T s=some si) (hsd:si.desc=.slice e) (hd:T d=some di) (hdd:di.desc=.str) (he:T e=some ⟨.int .u8,b,c,ag,z⟩)
    (hx:alJ x=true) (hr:rowsOf x look=some (l.map rowB)):agC T s d x look=some (.pv (.str (strOf l))):=by
  have h2:(rowsOf x look).bind qX=some (l.map fun n=>UInt8.ofNat n.toNat):=by rw [hr]; exact af8 l
  unfold agC
  simp only [hs,hd,hdd,hsd,he,strOf]
  cases x <;> (try (show Option.map _ ((rowsOf _ look).bind qX)=_; rw [h2]; rfl))
  rename_i p
  cases p <;> first | (cases hx; done) | (show Option.map _ ((rowsOf _ look).bind qX)=_; rw [h2]; rfl) | (simp [rowsOf] at hr; done)
theorem SL.rows {p:PV} {l:List Int} (h:SL p l) (look:Look):rowsOf (.pv p) look=some (l.map rowB):=by
  rcases h with rfl | ⟨rfl,rfl⟩ <;> rfl
def qU (s:ByteArray):List Int:=s.data.toList.map fun b=>(b.toNat:Int)
theorem aiM (s:ByteArray):ZA s=(qU s).map rowB:=by
  simp only [ZA,qU,List.map_map]; rfl
theorem ada (s:ByteArray):(qU s).length=s.size:=by
  simp only [qU,List.length_map,Array.length_toList]; rfl
theorem akU (s:ByteArray):strOf (qU s)=s:=by
  apply ByteArray.ext
  simp only [strOf,qU,List.map_map]
  have:((fun (n:Int)=>UInt8.ofNat n.toNat) ∘ fun (b:UInt8)=>(b.toNat:Int))=id:=by
    funext b; simp
  rw [this]; simp
theorem akO (s:ByteArray):∀ x∈qU s,0≤x∧x < 256:=by
  intro x hx
  simp only [qU,List.mem_map] at hx
  obtain ⟨b,_,rfl⟩:=hx
  have:=b.toNat_lt
  omega
end Go.Ab
