/- Bytes laid into words one by one, plain. -/
import Derived.Test.YtbffpkmfhkphdaaGreatDoorGX02
set_option linter.unusedVariables false
set_option linter.unusedSimpArgs false
namespace Go.Proofs.YtbffpkmfhkphdaaGreatDoor.Limb
theorem packB_snoc: ∀(l:List Nat) (x j:Nat),wd (packB (l++[x])) j=wd (packB l) j+if j=l.length/4 then x*256^(l.length%4)else 0
 |[],x,j=>by
  cases j with
  |zero=>simp[packB,wd]
  |succ j=>simp[packB,wd]
 |[a],x,j=>by
  cases j with
  |zero=>simp[packB,wd];omega
  |succ j=>simp[packB,wd]
 |[a,b],x,j=>by
  cases j with
  |zero=>simp[packB,wd];omega
  |succ j=>simp[packB,wd]
 |[a,b,c],x,j=>by
  cases j with
  |zero=>simp[packB,wd];omega
  |succ j=>simp[packB,wd]
 |a :: b :: c :: d :: t,x,j=>by
  have e1:(a :: b :: c :: d :: t).length/4=t.length/4+1:=(by simp only[List.length_cons];omega);have e2:(a :: b :: c :: d :: t).length%4=t.length%4:=by simp only[List.length_cons];omega
  rw[e1,e2];cases j with
  |zero=>
   rw[if_neg (by omega)];rfl
  |succ j=>
   have:=packB_snoc t x j;show wd (packB (t++[x])) j=wd (packB t) j+_
   rw[this];by_cases h:j=t.length/4
   ·rw[if_pos h,if_pos (by omega)]
   ·rw[if_neg h,if_neg (by omega)]
theorem packB_part: ∀l:List Nat,B8 l→wd (packB l) (l.length/4)<256^(l.length%4)
 |[],_=>by simp[packB,wd]
 |[a],h=>by simp[packB,wd];exact h.head
 |[a,b],h=>by simp[packB,wd];have:=h.head;have:=h.tail.head;omega
 |[a,b,c],h=>by simp[packB,wd];have:=h.head;have:=h.tail.head;have:=h.tail.tail.head;omega
 |a :: b :: c :: d :: t,h=>by
  have e1:(a :: b :: c :: d :: t).length/4=t.length/4+1:=(by simp only[List.length_cons];omega);have e2:(a :: b :: c :: d :: t).length%4=t.length%4:=by simp only[List.length_cons];omega
  rw[e1,e2];exact packB_part t h.tail.tail.tail.tail
def packTo(t:List Nat)(k:Nat):List Nat:=(List.range ((t.length+3)/4)).map fun j=>wd (packB (t.take k)) j
theorem packTo_length(t:List Nat)(k:Nat):(packTo t k).length=(t.length+3)/4:=by unfold packTo;simp
theorem packTo_wd{t:List Nat}{k j:Nat}(hj:j<(t.length+3)/4):wd (packTo t k) j=wd (packB (t.take k)) j:=by
 unfold packTo;rw[wd_lt (by simpa using hj)];simp
theorem packTo_zero(t:List Nat):packTo t 0=List.replicate ((t.length+3)/4) 0:=by
 refine ext_wd (by rw[packTo_length];simp) fun i hi=>?_
 rw[packTo_length]at hi;rw[packTo_wd hi,wd_replicate];simp[packB,wd]
theorem packTo_all(t:List Nat){k:Nat}(hk:t.length≤k):packTo t k=packB t:=by
 refine ext_wd (by rw[packTo_length,packB_length]) fun i hi=>?_
 rw[packTo_length]at hi;rw[packTo_wd hi,List.take_of_length_le hk]
theorem packTo_step{t:List Nat}(ht:B8 t){k:Nat}(hk:k<t.length):k/4<(t.length+3)/4∧wd (packTo t k) (k/4)<256^(k%4)∧packTo t (k+1)=(packTo t k).set (k/4) (wd (packTo t k) (k/4)+wd t k*256^(k%4)):=by
 have h4:k/4<(t.length+3)/4:=by omega
 have hl:(t.take k).length=k:=by rw[List.length_take];omega
 have hb:B8 (t.take k):=fun x hx=>ht x (List.mem_of_mem_take hx)
 have hp:=packB_part _ hb;rw[hl]at hp;refine⟨h4,by rw[packTo_wd h4];exact hp,?_⟩;refine ext_wd (by rw[List.length_set,packTo_length,packTo_length]) fun i hi=>?_
 rw[packTo_length]at hi;rw[wd_set (by rw[packTo_length];exact h4),packTo_wd hi,packTo_wd hi,packTo_wd h4,take_wd hk,packB_snoc,hl];by_cases e:i=k/4
 ·rw[if_pos e,if_pos e,e]
 ·rw[if_neg e,if_neg e,Nat.add_zero]
end Go.Proofs.YtbffpkmfhkphdaaGreatDoor.Limb
