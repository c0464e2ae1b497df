/- Walks and laws that LargeData asks for. -/
import Derived.Test.YtfefijlnbhbplaaGreatDoorGX32
set_option linter.unusedVariables false
set_option linter.unusedSimpArgs false
set_option maxRecDepth 1000000
set_option maxHeartbeats 6400000
namespace Go.Proofs.YtfefijlnbhbplaaGreatDoor
open Go Lib Go.RowKit Limb Tryz
def cE(t:List Nat):ByteArray:=⟨(t.map UInt8.ofNat).toArray⟩
def sv(t:List Nat):Value:= .string (cE t)
theorem ft{t:List Nat}(ht:B8 t):tx (cE t)=t:=by
 unfold tx cE;rw[List.map_map]
 have: ∀x∈t,(UInt8.toNat∘UInt8.ofNat) x=x:=fun x b=>by
  show(UInt8.ofNat x).toNat=x
  rw[UInt8.toNat_ofNat'];exact Nat.mod_eq_of_lt (ht x b)
 exact(List.map_congr_left this).trans (List.map_id _)
theorem bF(t:List Nat):(cE t).size=t.length:=by
 unfold cE;show(List.toArray _).size=_;simp
def FieldsAt(w:World)(v:Value)(fs:List (List Nat)):Prop:=(fs=[]/\v= .slice none 0 0)∨(fs≠[]/\∃g,v= .slice (some ⟨g,0,none⟩) fs.length fs.length/\Row w g 9 (fs.map sv))
theorem FieldsAt.only{w w':World}{v:Value}{fs:List (List Nat)}{B:Nat}(h:FieldsAt w v fs)(a:Below w w w'):FieldsAt w' v fs:=by
 rcases h with h|⟨h1,g,h2,h3⟩
 ·exact .inl h
 ·exact .inr ⟨h1,g,h2,h3.below a h3.lt⟩
def mW(n:Nat):Int:=if n=0 then -1 else n
def eU(p:fA)(v:Value):List Value:=[sv p.name,.int .i64 (mW p.sup),.int .i64 p.fmt,.bool p.idx,v]
def pP:List fA->List Value->List Value
 |p :: t,v :: s=>eU p v++pP t s
 |_,_=>[]
def PlansAt(w:World)(g:Nat)(vs:List Value):Prop:=vs.length=22/\Row w g 114 (pP plans vs)/\∀i,i<22->FieldsAt w (vs.getD i undef) (plans.getD i ⟨[],0,0,false,[]⟩).fields
theorem PlansAt.below{w w':World}{g:Nat}{vs:List Value}(h:PlansAt w g vs)(a:Below w w w'):PlansAt w' g vs:=
 ⟨h.1,h.2.1.below a h.2.1.lt,fun i c=>(h.2.2 i c).only (B:=0) a⟩
theorem lE(w:World):Calls prog 55 #[] w fun e w'=>(∃g vs,e= .returned (.slice (some ⟨g,0,none⟩) 22 22)/\PlansAt w' g vs/\w.heap.size<=g)/\Below w.heap.size w w':=by
 obtain⟨W0,U,d,Q,p⟩:=aA w 9 [.string ⟨#[110,97,109,101]⟩,.string ⟨#[115,117,112,101,114,99,108,97,115,115]⟩,.string ⟨#[109,101,116,104,111,100,115]⟩,.string ⟨#[102,105,101,108,100,115]⟩,.string ⟨#[102,111,114,109,97,116]⟩,.string ⟨#[116,104,105,115]⟩];obtain⟨W1,V,f,N,u⟩:=aA W0 9 [.string ⟨#[107,101,121]⟩,.string ⟨#[118,97,108,117,101]⟩];obtain⟨W2,X,j,L,y⟩:=aA W1 9 [.string ⟨#[104,101,97,100,101,114]⟩,.string ⟨#[115,101,108,101,99,116,111,114]⟩,.string ⟨#[99,108,97,115,115]⟩,.string ⟨#[108,105,116,101,114,97,108,115]⟩,.string ⟨#[99,111,100,101]⟩,.string ⟨#[115,111,117,114,99,101]⟩,.string ⟨#[112,114,105,109,105,116,105,118,101]⟩];obtain⟨W3,Y,m,G,B⟩:=aA W2 9 [.string ⟨#[111,117,116,101,114]⟩,.string ⟨#[112,99]⟩,.string ⟨#[97,114,103,117,109,101,110,116,115]⟩,.string ⟨#[116,101,109,112,111,114,97,114,105,101,115]⟩,.string ⟨#[104,111,109,101]⟩,.string ⟨#[115,116,97,99,107]⟩];obtain⟨W4,Z,x,D,E⟩:=aA W3 9 [.string ⟨#[115,101,110,100,101,114]⟩,.string ⟨#[112,99]⟩,.string ⟨#[116,111,112]⟩,.string ⟨#[109,101,116,104,111,100]⟩,.string ⟨#[114,101,99,101,105,118,101,114]⟩,.string ⟨#[99,108,111,115,117,114,101]⟩,.string ⟨#[109,97,114,107]⟩];obtain⟨W5,a0,A,C,H⟩:=aA W4 9 [.string ⟨#[115,101,108,101,99,116,111,114]⟩,.string ⟨#[97,114,103,117,109,101,110,116,115]⟩];obtain⟨W6,a1,F,z,M⟩:=aA W5 9 [.string ⟨#[99,111,110,116,101,120,116]⟩,.string ⟨#[112,114,105,111,114,105,116,121]⟩,.string ⟨#[110,101,120,116]⟩,.string ⟨#[110,97,109,101]⟩,.string ⟨#[119,97,107,101]⟩,.string ⟨#[119,97,105,116,105,110,103]⟩,.string ⟨#[114,101,115,117,108,116]⟩];obtain⟨W7,a2,I,v,O⟩:=aA W6 9 [.string ⟨#[115,105,103,110,97,108,115]⟩,.string ⟨#[102,105,114,115,116]⟩,.string ⟨#[108,97,115,116]⟩];obtain⟨W8,a3,P,q,R⟩:=aA W7 9 [.string ⟨#[109,101,115,115,97,103,101,84,101,120,116]⟩,.string ⟨#[115,105,103,110,97,108,67,111,110,116,101,120,116]⟩,.string ⟨#[104,97,110,100,108,101,114,67,111,110,116,101,120,116]⟩,.string ⟨#[116,97,103]⟩];obtain⟨W9,a4,r9,k,hz9⟩:=aA W8 114 [.string ⟨#[79,98,106,101,99,116]⟩,.int .i64 (-1),.int .i64 1,.bool false,.slice none 0 0,.string ⟨#[67,108,97,115,115]⟩,.int .i64 (10),.int .i64 1,.bool false,.slice (some ⟨w.heap.size,0,none⟩) 6 6,.string ⟨#[77,101,116,97,99,108,97,115,115]⟩,.int .i64 (11),.int .i64 1,.bool false,.slice none 0 0,.string ⟨#[85,110,100,101,102,105,110,101,100,79,98,106,101,99,116]⟩,.int .i64 (10),.int .i64 1,.bool false,.slice none 0 0,.string ⟨#[84,114,117,101]⟩,.int .i64 (10),.int .i64 1,.bool false,.slice none 0 0,.string ⟨#[70,97,108,115,101]⟩,.int .i64 (10),.int .i64 1,.bool false,.slice none 0 0,.string ⟨#[83,109,97,108,108,73,110,116,101,103,101,114]⟩,.int .i64 (31),.int .i64 1,.bool false,.slice none 0 0,.string ⟨#[76,97,114,103,101,73,110,116,101,103,101,114]⟩,.int .i64 (31),.int .i64 3,.bool true,.slice none 0 0,.string ⟨#[83,121,109,98,111,108]⟩,.int .i64 (19),.int .i64 2,.bool true,.slice none 0 0,.string ⟨#[83,116,114,105,110,103]⟩,.int .i64 (10),.int .i64 2,.bool true,.slice none 0 0,.string ⟨#[65,114,114,97,121]⟩,.int .i64 (10),.int .i64 1,.bool true,.slice none 0 0,.string ⟨#[87,101,97,107,65,114,114,97,121]⟩,.int .i64 (10),.int .i64 4,.bool true,.slice none 0 0,.string ⟨#[66,121,116,101,65,114,114,97,121]⟩,.int .i64 (10),.int .i64 2,.bool true,.slice none 0 0,.string ⟨#[65,115,115,111,99,105,97,116,105,111,110]⟩,.int .i64 (10),.int .i64 1,.bool false,.slice (some ⟨w.heap.size+1,0,none⟩) 2 2,.string ⟨#[77,101,116,104,111,100]⟩,.int .i64 (10),.int .i64 1,.bool false,.slice (some ⟨w.heap.size+1+1,0,none⟩) 7 7,.string ⟨#[66,108,111,99,107]⟩,.int .i64 (10),.int .i64 1,.bool false,.slice (some ⟨w.heap.size+1+1+1,0,none⟩) 6 6,.string ⟨#[67,111,110,116,101,120,116]⟩,.int .i64 (10),.int .i64 1,.bool true,.slice (some ⟨w.heap.size+1+1+1+1,0,none⟩) 7 7,.string ⟨#[77,101,115,115,97,103,101]⟩,.int .i64 (10),.int .i64 1,.bool false,.slice (some ⟨w.heap.size+1+1+1+1+1,0,none⟩) 2 2,.string ⟨#[80,114,111,99,101,115,115]⟩,.int .i64 (10),.int .i64 1,.bool false,.slice (some ⟨w.heap.size+1+1+1+1+1+1,0,none⟩) 7 7,.string ⟨#[83,101,109,97,112,104,111,114,101]⟩,.int .i64 (10),.int .i64 1,.bool false,.slice (some ⟨w.heap.size+1+1+1+1+1+1+1,0,none⟩) 3 3,.string ⟨#[69,120,99,101,112,116,105,111,110]⟩,.int .i64 (10),.int .i64 1,.bool false,.slice (some ⟨w.heap.size+1+1+1+1+1+1+1+1,0,none⟩) 4 4,.string ⟨#[73,110,116,101,103,101,114]⟩,.int .i64 (10),.int .i64 1,.bool false,.slice none 0 0];have hB:Below w.heap.size w W9:=(((((((((Q.trans (N.mono ω)).trans (L.mono ω)).trans (G.mono ω)).trans (D.mono ω)).trans (C.mono ω)).trans (z.mono ω)).trans (v.mono ω)).trans (q.mono ω)).trans (k.mono ω));rw[p]at f;rw[u,p]at j;rw[y,u,p]at m;rw[B,y,u,p]at x;rw[E,B,y,u,p]at A;rw[H,E,B,y,u,p]at F;rw[M,H,E,B,y,u,p]at I;rw[O,M,H,E,B,y,u,p]at P;rw[R,O,M,H,E,B,y,u,p]at r9;replace d:=d.below N d.lt;replace d:=d.below L d.lt;replace d:=d.below G d.lt;replace d:=d.below D d.lt;replace d:=d.below C d.lt;replace d:=d.below z d.lt;replace d:=d.below v d.lt;replace d:=d.below q d.lt;replace d:=d.below k d.lt;replace f:=f.below L f.lt;replace f:=f.below G f.lt;replace f:=f.below D f.lt;replace f:=f.below C f.lt;replace f:=f.below z f.lt;replace f:=f.below v f.lt;replace f:=f.below q f.lt;replace f:=f.below k f.lt;replace j:=j.below G j.lt;replace j:=j.below D j.lt;replace j:=j.below C j.lt;replace j:=j.below z j.lt;replace j:=j.below v j.lt;replace j:=j.below q j.lt;replace j:=j.below k j.lt;replace m:=m.below D m.lt;replace m:=m.below C m.lt;replace m:=m.below z m.lt;replace m:=m.below v m.lt;replace m:=m.below q m.lt;replace m:=m.below k m.lt;replace x:=x.below C x.lt;replace x:=x.below z x.lt;replace x:=x.below v x.lt;replace x:=x.below q x.lt;replace x:=x.below k x.lt;replace A:=A.below z A.lt;replace A:=A.below v A.lt;replace A:=A.below q A.lt;replace A:=A.below k A.lt;replace F:=F.below v F.lt;replace F:=F.below q F.lt;replace F:=F.below k F.lt;replace I:=I.below q I.lt;replace I:=I.below k I.lt;replace P:=P.below k P.lt
 have hP:PlansAt W9 (w.heap.size+1+1+1+1+1+1+1+1+1) [.slice none 0 0,.slice (some ⟨w.heap.size,0,none⟩) 6 6,.slice none 0 0,.slice none 0 0,.slice none 0 0,.slice none 0 0,.slice none 0 0,.slice none 0 0,.slice none 0 0,.slice none 0 0,.slice none 0 0,.slice none 0 0,.slice none 0 0,.slice (some ⟨w.heap.size+1,0,none⟩) 2 2,.slice (some ⟨w.heap.size+1+1,0,none⟩) 7 7,.slice (some ⟨w.heap.size+1+1+1,0,none⟩) 6 6,.slice (some ⟨w.heap.size+1+1+1+1,0,none⟩) 7 7,.slice (some ⟨w.heap.size+1+1+1+1+1,0,none⟩) 2 2,.slice (some ⟨w.heap.size+1+1+1+1+1+1,0,none⟩) 7 7,.slice (some ⟨w.heap.size+1+1+1+1+1+1+1,0,none⟩) 3 3,.slice (some ⟨w.heap.size+1+1+1+1+1+1+1+1,0,none⟩) 4 4,.slice none 0 0]:=by
  refine⟨rfl,r9,fun i hi=>?_⟩;have S:i=0∨i=1∨i=2∨i=3∨i=4∨i=5∨i=6∨i=7∨i=8∨i=9∨i=10∨i=11∨i=12∨i=13∨i=14∨i=15∨i=16∨i=17∨i=18∨i=19∨i=20∨i=21:=ω
  rcases S with rfl|rfl|rfl|rfl|rfl|rfl|rfl|rfl|rfl|rfl|rfl|rfl|rfl|rfl|rfl|rfl|rfl|rfl|rfl|rfl|rfl|rfl
  ·exact .inl ⟨rfl,rfl⟩
  ·exact .inr ⟨δ,_,rfl,d⟩
  ·exact .inl ⟨rfl,rfl⟩
  ·exact .inl ⟨rfl,rfl⟩
  ·exact .inl ⟨rfl,rfl⟩
  ·exact .inl ⟨rfl,rfl⟩
  ·exact .inl ⟨rfl,rfl⟩
  ·exact .inl ⟨rfl,rfl⟩
  ·exact .inl ⟨rfl,rfl⟩
  ·exact .inl ⟨rfl,rfl⟩
  ·exact .inl ⟨rfl,rfl⟩
  ·exact .inl ⟨rfl,rfl⟩
  ·exact .inl ⟨rfl,rfl⟩
  ·exact .inr ⟨δ,_,rfl,f⟩
  ·exact .inr ⟨δ,_,rfl,j⟩
  ·exact .inr ⟨δ,_,rfl,m⟩
  ·exact .inr ⟨δ,_,rfl,x⟩
  ·exact .inr ⟨δ,_,rfl,A⟩
  ·exact .inr ⟨δ,_,rfl,F⟩
  ·exact .inr ⟨δ,_,rfl,I⟩
  ·exact .inr ⟨δ,_,rfl,P⟩
  ·exact .inl ⟨rfl,rfl⟩
 have HP:=hid hP;have T:=hid hB;clear hP hB d Q p f N u j L y m G B x D E A C H F z M I v O P q R r9 k hz9;subst a4 a3 a2 a1 a0 Z Y X V U;go_enter func55,ntmps55;go_wp2_with fail;go_ret;exact⟨⟨_,rfl,⟨_,HP.out⟩,ω⟩,T.out⟩
theorem jn(W:World):(sizeOf 114).run prog W= .ok 5 W:=κ
theorem kU(W:World):(sizeOf 9).run prog W= .ok 1 W:=κ
theorem eG{P:Program}(m:Nat)(b:0<m)(t e:TypeId)(ht:P.underlying t=some (.slice e))(hs: ∀W,(sizeOf e).run P W= .ok m W)(g n c:Nat)(W:World)(k:IntKind)(i:Nat)(d:i<n):(Instr.indexAt t (M g n c) (.int k i)).run P W= .ok (Θ g (m*i)) W:=by
 have h1:(0:Int)<=(i:Int):=ω
 have a:(i:Int)<(n:Int):=ω
 simp[Instr.indexAt,run_underlying ht,asIntOf,h1,a,hs,Result.andThen,Addr.add];rw[if_pos d];by_cases h0:i=0
 ·subst h0;simp
 ·simp[h0,Nat.ne_of_gt b,Nat.mul_comm];exact fun e=>e.symm
theorem qy: ∀(ps:List fA) (vs:List Value) (i k:Nat),i<ps.length->ps.length=vs.length->k<5->(pP ps vs)[5*i+k]? =(eU (ps.getD i ⟨[],0,0,false,[]⟩) (vs.getD i undef))[k]?
 |[],_,_,_,h,_,_=>by simp at h
 |p :: t,[],_,_,_,h,_=>by simp at h
 |p :: t,v :: s,0,k,_,_,hk=>by
  show(eU p v++pP t s)[5*0+k]? =(eU p v)[k]?
  rw[Nat.mul_zero,Nat.zero_add,List.getElem?_append_left (by exact hk)]
 |p :: t,v :: s,i+1,k,h1,h2,hk=>by
  show(eU p v++pP t s)[5*(i+1)+k]? =_
  rw[List.getElem?_append_right (by show 5<=_;omega)];show(pP t s)[5*(i+1)+k-5]? =(eU (t.getD i _) (s.getD i undef))[k]?
  rw[(ω:5*(i+1)+k-5=5*i+k)];exact qy t s i k (by simpa using h1) (by simpa using h2) hk
section
variable {w:World} {g:Nat} {vs:List Value}
theorem PlansAt.cells(h:PlansAt w g vs){i:Nat}(r:i<22):w.cell? ⟨g,5*i,none⟩=some (sv (plans.getD i ⟨[],0,0,false,[]⟩).name)/\w.cell? ⟨g,5*i+1,none⟩=O (I (mW (plans.getD i ⟨[],0,0,false,[]⟩).sup))/\w.cell? ⟨g,5*i+2,none⟩=O (I (plans.getD i ⟨[],0,0,false,[]⟩).fmt)/\w.cell? ⟨g,5*i+3,none⟩=some (.bool (plans.getD i ⟨[],0,0,false,[]⟩).idx)/\w.cell? ⟨g,5*i+4,none⟩=some (vs.getD i undef):=by
 have j: ∀k,k<5->w.cell? ⟨g,5*i+k,none⟩=(eU (plans.getD i ⟨[],0,0,false,[]⟩) (vs.getD i undef))[k]? :=fun k q=>by
  rw[h.2.1.ae,qy plans vs i k (by exact r) h.1.symm q]
 exact⟨j 0 δ,j 1 δ,j 2 δ,j 3 δ,j 4 δ⟩
theorem FieldsAt.slice{v:Value}{fs:List (List Nat)}(h:FieldsAt w v fs): ∃a,v= .slice a fs.length fs.length:=by
 rcases h with⟨rfl,rfl⟩|⟨_,g,rfl,_⟩
 ·exact⟨none,rfl⟩
 ·exact⟨_,rfl⟩
def yp:Nat->Nat->Bool
 |0,_=>false
 |k+1,r=>decide (10<=r)&&decide (r<32)&&(decide ((plans.getD (r-10) ⟨[],0,0,false,[]⟩).sup=0)||yp k (plans.getD (r-10) ⟨[],0,0,false,[]⟩).sup)
theorem uN: ∀i,i<22->yp 6 (10+i)=true:=δ
theorem mC(k:Nat):bu k 0=0:=by cases k<;>rfl
theorem zy{i:Nat}(a:i<22):plans[i]? =some (plans.getD i ⟨[],0,0,false,[]⟩):=by
 have:i<plans.length:=a;simp[List.getD_eq_getElem?_getD,this]
theorem gV: ∀k r,bu k r<=7*k
 |0,_=>Nat.le_refl _
 |k+1,r=>by
  unfold bu;split
  ·omega
  ·split
   ·omega
   ·rename_i p c;have h1:=gV k p.sup
    have d:p.fields.length<=7:=by
     have a:p∈plans:=List.mem_of_getElem? c;have b: ∀q∈plans,q.fields.length<=7:=δ
     exact b p a
    omega
theorem iJ(h:PlansAt w g vs): ∀(k i:Nat),k<=10->i<22->yp k (10+i)=true->Calls prog 58 #[M g 22 22,I i] w fun e w'=>e= .returned (I (bu k (10+i)))/\w=w'
 |0,i,_,_,hd=>by cases hd
 |k+1,i,hk10,hi,hd=>by
  obtain⟨L,c1,N,O,D⟩:=h.cells hi;obtain⟨a,y⟩:=(h.2.2 i hi).slice;rw[y]at D;have r:=gV (k+1) (10+i)
  have q:bu (k+1) (10+i)=(plans.getD i ⟨[],0,0,false,[]⟩).fields.length+bu k (plans.getD i ⟨[],0,0,false,[]⟩).sup:=by
   show(if 10+i=0 then 0 else match plans[10+i-10]? with |none=>0|some p=>p.fields.length+bu k p.sup)=_
   rw[if_neg ω,(ω:10+i-10=i),zy hi]
  unfold yp at hd;simp only[Bool.and_eq_true,Bool.or_eq_true,decide_eq_true_eq]at hd;rw[(ω:10+i-10=i)]at hd;have F:=fun W=>eG (P:=prog) 5 δ 111 114 underlying111 jn g 22 22 W .i64 i hi
  generalize plans.getD i ⟨[],0,0,false,[]⟩=p at*
  have t:=hd.2;rw[q];by_cases h0:p.sup=0
  ·have v:mW p.sup= -1:=(by unfold mW;rw[if_pos h0]);rw[h0,mC,Nat.add_zero];rw[v]at c1;clear y q hd t h0 v h r;generalize p.fields.length=m at*
   go_enter func58,ntmps58;go_wp2;go_ret;exact⟨rfl,rfl⟩
  ·have v:mW p.sup=p.sup:=(by unfold mW;rw[if_neg h0]);rw[v]at c1;have b:yp k p.sup=true:=by rcases t with e|e;exact absurd e h0;exact e
   have A:10<=p.sup/\p.sup<32:=by
    cases k with
    |zero=>cases b
    |succ k=>
     unfold yp at b;simp only[Bool.and_eq_true,decide_eq_true_eq]at b;exact b.1
   obtain⟨j,z⟩: ∃j,p.sup=10+j:=⟨p.sup-10,ω⟩;rw[z]at c1 b ⊢;have B:=hid (iJ h k j ω ω b);have G:decide ((0:Int)<=((10+j:Nat):Int))=true:=dT;have H:(((10+j:Nat):Int)-10)=(j:Int):=ω
   have x:p.fields.length+bu k (10+j)<=7*(k+1):=(by rw[<-z,<-q];exact r);generalize bu k (10+j)=E at*
   generalize p.fields.length=m at*
   have C:j<22:=ω;replace x:m+E<=77:=ω
   clear y q hd t h0 v h r b z A;go_enter func58,ntmps58;go_wp2_with fail;rw[show((10:Int)+(j:Int)-10)=(j:Int)from by omega];refine(B.out).mono ?_;rintro e Q ⟨rfl,rfl⟩;go_wp2;go_ret;exact⟨rfl,rfl⟩
theorem iV(w:World)(f d:Nat)(b:Bool)(h1:f<=1000)(m:d<=1000):Calls prog 57 #[.agg #[I f,I d,.bool b]] w fun e w'=>e= .returned (I (bA f d b))/\Below w w w':=by
 have j:=(Below.refl w w).alloc ι (.cells #[I f,I d,.bool b] 118);have k:=hid j;clear j;cases b with
 |false=>
  have i:(bA f d false)=f+8*d:=rfl;rw[i];go_enter func57,ntmps57;go_wp2;go_ret;exact⟨rfl,k.out⟩
 |true=>
  have i:(bA f d true)=f+8*d+65536:=rfl;rw[i];go_enter func57,ntmps57;go_wp2;go_ret;exact⟨rfl,k.out⟩
end
end Go.Proofs.YtfefijlnbhbplaaGreatDoor
