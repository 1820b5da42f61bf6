/-
  Literals, lengths and cuts over abstract states. No program in sight.
-/
import Derived.WalkKit
import Derived.WalkSpells
import Derived.WalkLawsBesides
import Derived.Below
import Derived.Laws.OwnMore
import Derived.Laws.CopyOwn
import Derived.Laws.Rows
import Derived.Maps.AppendAt
import Derived.Deep.AppendLies
import Derived.Deep.Draws
import Derived.Deep.QuietTactic
import Derived.RegionTactic
import Derived.OwnWalk
import Derived.BigQuiet
import Derived.Lib.Hide
import Derived.Deep.MidRow
import Derived.RangeFuncRecord
import Derived.Great.FillDense
import Derived.Great.BuildSlice
import Derived.ChangeKeysEq
import Derived.ArgAppend
import Derived.Deep.Upon
import Derived.Deep.AppendSrc
namespace Go.Proofs.YtbmcdemnnbndeaaGreat
set_option linter.unusedSimpArgs false
set_option linter.unusedVariables false
section
open Go.RowKit
theorem hide{p:Prop}(h:p):Hid p:=h
theorem add_zero'(a:Addr):a.add 0=a:=by simp[Addr.add]
theorem Q2j(b o k:Nat):(⟨b,o,none⟩:Addr).add k=⟨b,o+k,none⟩:=by
 unfold Addr.add
 by_cases h:k=0<;>simp[h]
theorem Q9e(w:World)(o:Obj):Below w.heap.size w (w.alloc o):=(Below.refl _ _).alloc (Nat.le_refl _) o
theorem Q5k {P:Program} {f:FuncId} {fn:Func} (hf:P.funcs[f]? = some fn) (hn:(fn.name == "runtime.NumGoroutine")=false) (hb:fn.body.isNone=false) (args:Array Value) (w:World) :
 (callFunc f args).run P w = .ok (.enter f args) w:=by
 have h1:fn.name≠ "runtime.NumGoroutine":=by simpa using hn
 have h2:fn.body≠none:=by intro h;rw[h] at hb;cases hb
 simp[callFunc,hf,h1,h2]
def RetT(w:World)(b:Bool):Ending→World→Prop:=fun e w'=>e = .returned (.bool b)∧Below w.heap.size w w'
def Sl(w:World)(B sz:Nat)(A:Option Addr)(n c:Nat)(xs:List Value):Prop:=
 n≤c∧c≤maxLen∧(A=none→c=0)∧xs.length=n*sz ∧
 (0<n→∃b o,A=some ⟨b,o,none⟩∧b<B∧∀j u,xs[j]? = some u→w.cell? ⟨b,o+j,none⟩=some u)
def Ow(w:World)(base e sz:Nat)(A:Option Addr)(n c:Nat)(xs:List Value):Prop:=w.ownsRow base e sz (.slice A n c) n xs
section
variable {w w':World} {B B' sz n c base e:Nat} {A:Option Addr} {xs:List Value}
theorem Sl.nil:Sl w B sz none 0 0 []:=⟨Nat.le_refl _,Nat.zero_le _,fun _=>rfl,by simp,fun h=>absurd h (by omega)⟩
theorem Sl.n_le(h:Sl w B sz A n c xs):n≤c:=h.1
theorem Sl.c_le(h:Sl w B sz A n c xs):c≤maxLen:=h.2.1
theorem Sl.len_(h:Sl w B sz A n c xs):xs.length=n*sz:=h.2.2.2.1
theorem Sl.none_c(h:Sl w B sz none n c xs):c=0:=h.2.2.1 rfl
theorem Sl.of_none(h:Sl w B sz none n c xs):n=0∧c=0∧xs=[]:=by
 have hc:=h.none_c
 have hn:=h.1
 have hl:=h.len_
 obtain rfl:n=0:=by omega
 exact⟨rfl,hc,List.eq_nil_of_length_eq_zero (by simpa using hl)⟩
theorem Sl.cells(h:Sl w B sz A n c xs)(hn:0<n):∃b o,A=some ⟨b,o,none⟩∧b<B∧∀j u,xs[j]? = some u→w.cell? ⟨b,o+j,none⟩=some u:=h.2.2.2.2 hn
theorem Sl.mono(h:Sl w B sz A n c xs)(hB:B≤B'):Sl w B' sz A n c xs:=
 ⟨h.1,h.2.1,h.2.2.1,h.2.2.2.1,fun hn=>by
   obtain⟨b,o,e,hb,hc⟩:=h.cells hn
   exact⟨b,o,e,by omega,hc⟩⟩
theorem Sl.keep(h:Sl w B sz A n c xs)(hk:∀p:Addr,p.block<B→p.block<w.heap.size→w'.cell? p=w.cell? p):Sl w' B sz A n c xs:=
 ⟨h.1,h.2.1,h.2.2.1,h.2.2.2.1,fun hn=>by
   obtain⟨b,o,e,hb,hc⟩:=h.cells hn
   refine⟨b,o,e,hb,fun j u hu=>?_⟩
   have h1:=hc j u hu
   have h2:=block_lt_of_cell h1
   exact(hk _ hb h2).trans h1⟩
theorem Sl.below(h:Sl w B sz A n c xs)(hb:Below w.heap.size w w'):Sl w' B sz A n c xs:=h.keep fun _ _ hp=>hb.cell hp
theorem Sl.alloc(h:Sl w B sz A n c xs)(o:Obj):Sl (w.alloc o) B sz A n c xs:=h.below (Q9e w o)
theorem Sl.lit(w:World)(cs:List Value)(t n sz:Nat)(hm:n≤maxLen)(hl:cs.length=n*sz):Sl (w.alloc (.cells cs.toArray t)) (w.heap.size+1) sz (some ⟨w.heap.size,0,none⟩) n n cs:=
 ⟨Nat.le_refl _,hm,(fun h=>by cases h),hl,fun _=>⟨_,_,rfl,by omega,fun j u hu=>by
   rw[World.cell?_alloc_new]
   simpa using hu⟩⟩
theorem Sl.cut(h:Sl w B sz A n c xs){k m:Nat}(hk:k≤m)(hm:m≤n) :
 Sl w B sz (if c=k then A else A.map (·.add (k*sz))) (m-k) (c-k) ((xs.drop (k*sz)).take ((m-k)*sz)):=by
 have hnc:=h.n_le
 have hcm:=h.c_le
 have hl:=h.len_
 refine⟨by omega,by omega,fun hA=>?_,?_,fun hn=>?_⟩
 · by_cases e:c=k
   · omega
   · rw[if_neg e] at hA
     cases A with
     |none=>have:=h.none_c;omega
     |some a=>cases hA
 · rw[List.length_take,List.length_drop,hl]
   have:(m-k)*sz≤n*sz-k*sz:=by rw[←Nat.sub_mul];exact Nat.mul_le_mul_right _ (by omega)
   omega
 · obtain⟨b,o,rfl,hb,hc⟩:=h.cells (by omega)
   rw[if_neg (by omega)]
   refine⟨b,o+k*sz,by simp[Q2j],hb,fun j u hu=>?_⟩
   rw[Nat.add_assoc]
   refine hc _ u ?_
   rw[List.getElem?_take] at hu
   split at hu
   · rwa [List.getElem?_drop] at hu
   · cases hu
theorem Ow.len_(h:Ow w base e sz A n c xs):xs.length=n*sz:=h.1
theorem Ow.form(h:Ow w base e sz A n c xs):(A=none∧n=0∧c=0∧xs=[])∨∃g cur,A=some ⟨g,0,none⟩∧base≤g∧g<w.heap.size∧w.heap[g]? = some (.cells cur e (0,0))∧n≤c∧c≤maxLen∧cur.size=c*sz∧cur.toList.take (n*sz)=xs:=by
 rcases h.2 with⟨hv,rfl⟩|⟨g,cap,cur,hv,hb,hh,hnc,hcm,hs,ht⟩
 · injection hv with h1 h2 h3
   exact .inl ⟨h1,rfl,h3,List.eq_nil_of_length_eq_zero (by simpa using h.1)⟩
 · injection hv with h1 h2 h3
   subst h3
   refine .inr ⟨g,cur,h1,hb,?_,hh,hnc,hcm,hs,ht⟩
   rcases Nat.lt_or_ge g w.heap.size with hlt|hge
   · exact hlt
   · rw[Array.getElem?_eq_none hge] at hh;cases hh
theorem Ow.nil:Ow w base e sz none 0 0 []:=World.ownsRow_nil w base e sz
theorem Ow.sl(h:Ow w base e sz A n c xs):Sl w w.heap.size sz A n c xs:=by
 rcases h.form with⟨rfl,rfl,rfl,rfl⟩|⟨g,cur,rfl,_,hlt,hh,hnc,hcm,_,ht⟩
 · exact Sl.nil
 · refine⟨hnc,hcm,(fun hA=>by cases hA),h.1,fun hn=>⟨g,0,rfl,hlt,fun j u hu=>?_⟩⟩
   rw[cell_of_row w g (0+j) cur e (0,0) hh,Nat.zero_add]
   rw[←ht,List.getElem?_take] at hu
   split at hu
   · simpa using hu
   · cases hu
theorem Ow.block(h:Ow w base e sz A n c xs):∀a,A=some a→base≤a.block∧a.block<w.heap.size:=by
 rcases h.form with⟨rfl,rfl,rfl,rfl⟩|⟨g,cur,rfl,hb,hlt,_⟩
 · intro a ha;cases ha
 · intro a ha;injection ha with ha;subst ha;exact⟨hb,hlt⟩
theorem Ow.below(h:Ow w base e sz A n c xs)(hb:Below w.heap.size w w'):Ow w' base e sz A n c xs:=by
 rcases h.form with⟨rfl,rfl,rfl,rfl⟩|⟨g,cur,rfl,hbg,hlt,hh,hnc,hcm,hs,ht⟩
 · exact Ow.nil
 · exact⟨h.1,.inr ⟨g,c,cur,rfl,hbg,(hb.block g hlt).trans hh,hnc,hcm,hs,ht⟩⟩
theorem Ow.alloc(h:Ow w base e sz A n c xs)(o:Obj):Ow (w.alloc o) base e sz A n c xs:=h.below (Q9e w o)
theorem Ow.mono(h:Ow w base e sz A n c xs){base':Nat}(hb:base'≤base):Ow w base' e sz A n c xs:=by
 rcases h.form with⟨rfl,rfl,rfl,rfl⟩|⟨g,cur,rfl,hbg,hlt,hh,hnc,hcm,hs,ht⟩
 · exact Ow.nil
 · exact⟨h.1,.inr ⟨g,c,cur,rfl,by omega,hh,hnc,hcm,hs,ht⟩⟩
end
def sts{α : Type}(f:α→List Value)(l:List α):List Value:=l.flatMap f
theorem X5r{α : Type}(f:α→List Value)(sz:Nat)(hf:∀a,(f a).length=sz)(l:List α):(sts f l).length=l.length*sz:=by
 induction l with
 |nil=>simp[sts]
 |cons a l ih=>unfold sts at ih ⊢;rw[List.flatMap_cons,List.length_append,hf,ih,List.length_cons,Nat.add_mul];omega
theorem sts_drop{α : Type}(f:α→List Value)(sz:Nat)(hf:∀a,(f a).length=sz)(l:List α)(k:Nat):(sts f l).drop (k*sz)=sts f (l.drop k):=by
 induction k generalizing l with
 |zero=>simp
 |succ k ih=>
  cases l with
  |nil=>simp[sts]
  |cons a l=>
   have e:sts f (a::l)=f a++sts f l:=by simp[sts]
   rw[e,List.drop_succ_cons,←ih l,List.drop_append,List.drop_of_length_le (by rw[hf,Nat.add_mul];omega),List.nil_append,hf]
   congr 1
   rw[Nat.add_mul];omega
theorem sts_get{α : Type}{f:α→List Value}{sz:Nat}(hf:∀a,(f a).length=sz){l:List α}{k:Nat}{a:α}(h:l[k]? = some a){j:Nat}(hj:j<sz):(sts f l)[k*sz+j]? = (f a)[j]?:=by
 rw[←List.getElem?_drop,sts_drop f sz hf]
 have e:l.drop k=a::l.drop (k+1):=by
  obtain⟨hk,rfl⟩:=List.getElem?_eq_some_iff.1 h
  rw[List.drop_eq_getElem_cons hk]
 rw[e]
 show(f a++sts f (l.drop (k+1)))[j]? = _
 rw[List.getElem?_append_left (by rw[hf];exact hj)]
section
variable {P:Program} (w:World)
theorem run_app(base:Nat)(t ty e:TypeId)(i:TypeInfo)(z:Value)(size bytes:Nat)(ht:P.underlying t=some (.slice e))(hi:P.info? e=some i)(hz:i.zero=some z)
 (hsize:i.size=size) (hby:i.bytes=bytes) (hzs:z.cells.size=size) (hsz:0<size)
 (A0:Option Addr) (n c0:Nat) (xs:List Value) (hown:Ow w base e size A0 n c0 xs)
 (B:Nat) (A:Option Addr) (m c:Nat) (news:List Value) (hr:Sl w B size A m c news) (h1:∀u∈news,u.oneCell'=true)
 (hbytes:(n+m)*bytes≤140737488355328) (hby0:0<bytes) (hbase:base≤w.heap.size) :
 ∃A' c' w',(Builtin.append_ #[t,t] ty #[.slice A0 n c0,.slice A m c]).run P w = .ok (.slice A' (n+m) c') w'∧Ow w' base e size A' (n+m) c' (xs++news)∧w.grownBy w' (Value.slice A0 n c0).ownBlock ∧
  ((Value.slice A' (n+m) c').ownBlock=(Value.slice A0 n c0).ownBlock∨(Value.slice A' (n+m) c').ownBlock=some w.heap.size):=by
 have h63:n+m≤maxLen:=by
  have:(n+m)*1≤(n+m)*bytes:=Nat.mul_le_mul_left _ hby0
  unfold maxLen;omega
 have hform:∀{v':Value} {w':World},w'.ownsRow base e size v' (n+m) (xs++news)→∃A' c',v' = .slice A' (n+m) c':=by
  rintro v' w' ⟨_,⟨rfl,h0⟩|⟨g,cap,cur,rfl,_⟩⟩
  · rw[h0];exact⟨none,0,rfl⟩
  · exact⟨_,_,rfl⟩
 rcases A with _|ad
 · obtain⟨rfl,rfl,rfl⟩:=hr.of_none
   have hrun:(Builtin.append_ #[t,t] ty #[.slice A0 n c0,.slice none 0 0]).run P w = .ok (.slice A0 n c0) w:=by
    rcases hown.2 with⟨hv,rfl⟩|⟨g,cap,cur,hv,_,_,hnc,_⟩
    · rw[hv]
      simp[Builtin.append_,run_underlying ht,sizeOf,typeInfo,hi,Builtin.lenOf,Builtin.firstCells]
    · rw[hv]
      simp[Builtin.append_,run_underlying ht,sizeOf,typeInfo,hi,Builtin.lenOf,Builtin.firstCells,hnc,storeCells]
   exact⟨A0,c0,w,hrun,by simpa using hown,World.grownBy.refl w _,.inl rfl⟩
 · have hcells:∀j u,news[j]? = some u→w.cell? (ad.add j)=some u:=by
    intro j u hu
    rcases Nat.eq_zero_or_pos m with h0|h0
    · subst h0
      have hn:news=[]:=List.eq_nil_of_length_eq_zero (by simpa using hr.len_)
      subst hn
      simp at hu
    · obtain⟨b,o,hA,hb,hc⟩:=hr.cells h0
      injection hA with hA
      subst hA
      rw[Q2j];exact hc j u hu
   obtain⟨v',w',hrun,h2,h3,_,h5⟩:=run_append_own_at (P:=P) w base t ty e i z size bytes ht hi hz hsize hby hzs hsz (.slice A0 n c0) n xs hown ad m c news hr.len_
    hcells h1 h63 hbytes hbase
   obtain⟨A',c',rfl⟩:=hform h2
   exact⟨A',c',w',hrun,h2,h3,h5⟩
end
section
variable {P:Program} {w:World} {ops:Array Oper} {rest:List Oper} {o:Oper} {a:Act} {K:Act→World→Prop} {Q:Exit→Act→World→Prop}
end
abbrev globsV:List (Nat×List Value):=[]
def globs:List (Nat×List Value):=globsV
end
section
open Go.RowKit
inductive PV where
 |v (x:Value)
 |sl (ex:Bool) (sz n:Nat) (cs:List PV)
 |mp (b:Nat) (es:List (Value×Value))
inductive AV where
 |any
 |c (x:PV)
 |agg (cs:List AV)
 |tup (cs:List AV)
 |ptr (r off:Nat)
 |row (r e sz n:Nat)
 |cut (r e sz lo n c:Nat) (ex:Bool)
 |ep (cs:List PV)
 |fn (f:FuncId) (caps:List AV)
 |fnb (f:FuncId) (firsts:List AV)
 |amp (b:Nat) (ks:List Value) (cs:List AV)
instance:Inhabited AV:=⟨.any⟩
def Q9g(X:Array MapEntry)(clk:Nat):Prop:=(∀n∈X.toList.map (·.born),n<clk)∧(X.toList.map (·.born)).Nodup
inductive RVp (S:Nat→Prop) (w:World):Value→PV→Prop where
 |v (x:Value) (h:x.oneCell'=true):RVp S w x (.v x)
 |sl (ex:Bool) (sz:Nat) (A:Option Addr) (n c:Nat) (us:List Value) (cs:List PV) (h1:n≤c) (h2:c≤maxLen) (h3:A=none→c=0) (hx:ex=true→c=n) (hl:us.length=cs.length) (hn:cs.length=n*sz)
   (h4:us≠[]→∃b o,A=some ⟨b,o,none⟩∧S b∧∀j u,us[j]? = some u→w.cell? ⟨b,o+j,none⟩=some u) (h5:∀(j:Nat) (u:Value) (x:PV),us[j]? = some u→cs[j]? = some x→RVp S w u x):RVp S w (.slice A n c) (.sl ex sz n cs)
 |mp (b:Nat) (es:List (Value×Value)) (X:Array MapEntry) (clk:Nat) (hS:S b) (hh:w.heap[b]? = some (.map X clk)) (he:X.toList.map (fun e=>(e.key,e.val))=es) (hw:Q9g X clk):RVp S w (.map (some b)) (.mp b es)
inductive RV (S:Nat→Prop) (ι : Nat→Nat×Nat×Nat) (w:World):Value→AV→Prop where
 |any (x:Value):RV S ι w x .any
 |c (x:Value) (p:PV) (h:RVp S w x p):RV S ι w x (.c p)
 |agg (us:List Value) (cs:List AV) (hl:us.length=cs.length) (h1:∀u∈us,u.oneCell'=true) (h:∀(j:Nat) (u:Value) (x:AV),us[j]? = some u→cs[j]? = some x→RV S ι w u x):RV S ι w (.agg us.toArray) (.agg cs)
 |tup (us:List Value) (cs:List AV) (hl:us.length=cs.length) (h:∀(j:Nat) (u:Value) (x:AV),us[j]? = some u→cs[j]? = some x→RV S ι w u x):RV S ι w (.tuple us.toArray) (.tup cs)
 |ptr (r off:Nat):RV S ι w (.pointer (some ⟨(ι r).1,off,none⟩)) (.ptr r off)
 |row (r e sz n c:Nat) (h1:n≤c) (h2:c≤maxLen) (h3:c*sz=(ι r).2.1) (h4:(ι r).2.2=e) (h0:(ι r).2.1≠0):RV S ι w (.slice (some ⟨(ι r).1,0,none⟩) n c) (.row r e sz n)
 |rnil (A:Option Addr) (r e sz:Nat) (h:(ι r).2.1=0):RV S ι w (.slice A 0 0) (.row r e sz 0)
 |cut (r e sz lo n c:Nat) (ex:Bool) (h1:n≤c) (h2:c≤maxLen) (h3:(lo+c)*sz≤(ι r).2.1) (hx:ex=true→(lo+c)*sz=(ι r).2.1) (h4:(ι r).2.2=e) (h0:(ι r).2.1≠0):RV S ι w (.slice (some ⟨(ι r).1,lo*sz,none⟩) n c) (.cut r e sz lo n c ex)
 |cnil (A:Option Addr) (r e sz lo:Nat) (ex:Bool) (h:ex=true→lo=0→(ι r).2.1=0):RV S ι w (.slice A 0 0) (.cut r e sz lo 0 0 ex)
 |ep (b o:Nat) (us:List Value) (cs:List PV) (hl:us.length=cs.length) (hne:us≠[]) (hS:S b) (h4:∀j u,us[j]? = some u→w.cell? ⟨b,o+j,none⟩=some u) (h5:∀(j:Nat) (u:Value) (x:PV),us[j]? = some u→cs[j]? = some x→RVp S w u x):RV S ι w (.pointer (some ⟨b,o,none⟩)) (.ep cs)
 |fn (f:FuncId) (us:List Value) (cs:List AV) (hl:us.length=cs.length) (h:∀(j:Nat) (u:Value) (x:AV),us[j]? = some u→cs[j]? = some x→RV S ι w u x):RV S ι w (.func (.func f) #[] us.toArray) (.fn f cs)
 |fnb (f:FuncId) (us:List Value) (cs:List AV) (hl:us.length=cs.length) (h:∀(j:Nat) (u:Value) (x:AV),us[j]? = some u→cs[j]? = some x→RV S ι w u x):RV S ι w (.func (.func f) us.toArray #[]) (.fnb f cs)
 |amp (b:Nat) (X:Array MapEntry) (clk:Nat) (ks us:List Value) (cs:List AV) (hS:S b) (hh:w.heap[b]? = some (.map X clk)) (hk:X.toList.map (·.key)=ks) (hu:X.toList.map (·.val)=us) (hl:us.length=cs.length) (h:∀(j:Nat) (u:Value) (x:AV),us[j]? = some u→cs[j]? = some x→RV S ι w u x):RV S ι w (.map (some b)) (.amp b ks cs)
theorem RVp.one{S:Nat→Prop}{w:World}{v:Value}{p:PV}(h:RVp S w v p):v.oneCell'=true:=by
 cases h with
 |v _ h=>exact h
 |sl=>rfl
 |mp=>rfl
theorem RVp.mono{S S':Nat→Prop}{w w':World}(hS:∀b,S b→b<w.heap.size→S' b∧w'.heap[b]? = w.heap[b]?){v:Value}{p:PV}(h:RVp S w v p):RVp S' w' v p:=by
 induction h with
 |v x h=>exact .v x h
 |sl ex sz A n c us cs h1 h2 h3 hx hl hn h4 _ ih=>
  refine .sl ex sz A n c us cs h1 h2 h3 hx hl hn (fun hne=>?_) ih
  obtain⟨b,o,hA,hb,hc⟩:=h4 hne
  obtain⟨u,rest,hu⟩:=List.exists_cons_of_ne_nil hne
  have hlt:=block_lt_of_cell (hc 0 u (by rw[hu];rfl))
  obtain⟨hS',hh⟩:=hS b hb hlt
  exact⟨b,o,hA,hS',fun j u hu=>(World.cell?_of_block (w:=w) (a:=⟨b,o+j,none⟩) hh).trans (hc j u hu)⟩
 |mp b es X clk hb hh he hw=>
  obtain⟨h1,h2⟩:=hS b hb (Array.getElem?_eq_some_iff.1 hh).1
  exact .mp b es X clk h1 (h2.trans hh) he hw
mutual
def AV.refs(d:Nat):AV→Bool
 |.any=>false
 |.c _=>false
 |.agg cs=>AV.refsL d cs
 |.tup cs=>AV.refsL d cs
 |.ptr r _=>r==d
 |.row r _ _ _=>r==d
 |.cut r _ _ _ _ _ _=>r==d
 |.ep _=>false
 |.fn _ cs=>AV.refsL d cs
 |.fnb _ cs=>AV.refsL d cs
 |.amp _ _ cs=>AV.refsL d cs
def AV.refsL(d:Nat):List AV→Bool
 |[]=>false
 |x::l=>AV.refs d x||AV.refsL d l
end
theorem Q2w{d:Nat}:∀{l:List AV},AV.refsL d l=false→∀(j:Nat) (x:AV),l[j]? = some x→AV.refs d x=false
 |[],_,j,x,hx=>by simp at hx
 |y::l,h,j,x,hx=>by
  unfold AV.refsL at h
  rw[Bool.or_eq_false_iff] at h
  cases j with
  |zero=>simp at hx;subst hx;exact h.1
  |succ j=>exact Q2w h.2 j x (by simpa using hx)
@[simp] theorem Q0m (d:Nat) (l:List PV):AV.refsL d (l.map .c)=false:=by
  induction l with
  |nil=>rfl
  |cons x l ih=>simp[AV.refsL,AV.refs,ih]
@[simp] theorem Q2i (d:Nat) (l r:List AV):AV.refsL d (l++r)=(AV.refsL d l||AV.refsL d r):=by
  induction l with
  |nil=>simp[AV.refsL]
  |cons x l ih=>simp[AV.refsL,ih,Bool.or_assoc]
theorem RV.mono{S S':Nat→Prop}{ι ι':Nat→Nat×Nat×Nat}{w w':World}(hS:∀b,S b→b<w.heap.size→S' b∧w'.heap[b]? = w.heap[b]?){v:Value}{x:AV}(h:RV S ι w v x):(∀r,AV.refs r x=true→ι' r = ι r)→RV S' ι' w' v x:=by
 have sub:∀{cs:List AV} {j:Nat} {x:AV} {r:Nat},cs[j]? = some x→AV.refs r x=true→AV.refsL r cs=true:=fun {cs j x r} hx hr=>
  Classical.byContradiction fun hn=>by
   have:=Q2w (by simpa using hn) j x hx
   rw[hr] at this;cases this
 induction h with
 |any x=>exact fun _=>.any x
 |c x p h=>exact fun _=>.c x p (h.mono hS)
 |agg us cs hl h1 _ ih=>exact fun hι=>.agg us cs hl h1 fun j u x hu hx=>ih j u x hu hx fun r hr=>hι r (by unfold AV.refs;exact sub hx hr)
 |tup us cs hl _ ih=>exact fun hι=>.tup us cs hl fun j u x hu hx=>ih j u x hu hx fun r hr=>hι r (by unfold AV.refs;exact sub hx hr)
 |ptr r off=>intro hι;rw[←hι r (by simp[AV.refs])];exact .ptr r off
 |row r e sz n c h1 h2 h3 h4 h0=>intro hι;rw[←hι r (by simp[AV.refs])] at h3 h4 h0 ⊢;exact .row r e sz n c h1 h2 h3 h4 h0
 |rnil A r e sz h=>intro hι;rw[←hι r (by simp[AV.refs])] at h;exact .rnil A r e sz h
 |cut r e sz lo n c ex h1 h2 h3 hx h4 h0=>intro hι;rw[←hι r (by simp[AV.refs])] at h3 hx h4 h0 ⊢;exact .cut r e sz lo n c ex h1 h2 h3 hx h4 h0
 |cnil A r e sz lo ex h=>intro hι;rw[←hι r (by simp[AV.refs])] at h;exact .cnil A r e sz lo ex h
 |ep b o us cs hl hne hb h4 h5=>
  intro _
  obtain⟨u0,rest,hu0⟩:=List.exists_cons_of_ne_nil hne
  have hlt:=block_lt_of_cell (h4 0 u0 (by rw[hu0];rfl))
  obtain⟨hS',hh⟩:=hS b hb hlt
  exact .ep b o _ cs hl hne hS' (fun j u hu=>(World.cell?_of_block (w:=w) (a:=⟨b,o+j,none⟩) hh).trans (h4 j u hu)) (fun j u x hu hx=>(h5 j u x hu hx).mono hS)
 |fn f us cs hl _ ih=>exact fun hι=>.fn f us cs hl fun j u x hu hx=>ih j u x hu hx fun r hr=>hι r (by unfold AV.refs;exact sub hx hr)
 |fnb f us cs hl _ ih=>exact fun hι=>.fnb f us cs hl fun j u x hu hx=>ih j u x hu hx fun r hr=>hι r (by unfold AV.refs;exact sub hx hr)
 |amp b X clk ks us cs hb hh hk hu hl _ ih=>
  intro hι
  obtain⟨h1,h2⟩:=hS b hb (Array.getElem?_eq_some_iff.1 hh).1
  exact .amp b X clk ks us cs h1 (h2.trans hh) hk hu hl fun j u x hu hx=>ih j u x hu hx fun r hr=>hι r (by unfold AV.refs;exact sub hx hr)
structure St where
 T:List AV
 H:List (Nat×List AV)
def hget(H:List (Nat×List AV))(r:Nat):Option (List AV):=
 match H with
 |[]=>none
 |(k,cs)::H=>if k=r then some cs else hget H r
def hdel(H:List (Nat×List AV))(r:Nat):List (Nat×List AV):=
 match H with
 |[]=>[]
 |(k,cs)::H=>if k=r then hdel H r else(k,cs)::hdel H r
def hput(H:List (Nat×List AV))(r:Nat)(cs:List AV):List (Nat×List AV):=
 match H with
 |[]=>[(r,cs)]
 |(k,ds)::H=>if k=r then(r,cs)::H else(k,ds)::hput H r cs
theorem X5a(H:List (Nat×List AV))(r q:Nat):hget (hdel H r) q=if q=r then none else hget H q:=by
 induction H with
 |nil=>simp[hdel,hget]
 |cons x H ih=>
  obtain⟨k,cs⟩:=x
  unfold hdel
  by_cases hk:k=r
  · rw[if_pos hk,ih]
    by_cases hq:q=r
    · rw[if_pos hq,if_pos hq]
    · rw[if_neg hq,if_neg hq,hget,if_neg (by omega)]
  · rw[if_neg hk,hget,hget,ih]
    by_cases hkq:k=q
    · rw[if_pos hkq,if_pos hkq,if_neg (by omega)]
    · rw[if_neg hkq,if_neg hkq]
theorem Q2q(H:List (Nat×List AV))(r q:Nat)(cs:List AV):hget (hput H r cs) q=if q=r then some cs else hget H q:=by
 induction H with
 |nil=>simp only[hput,hget];by_cases h:r=q<;>simp[h,eq_comm]
 |cons x H ih=>
  obtain⟨k,ds⟩:=x
  unfold hput
  by_cases hk:k=r
  · subst hk
    rw[if_pos rfl,hget,hget]
    by_cases hq:q=k
    · subst hq;simp
    · rw[if_neg (by omega),if_neg hq,if_neg (by omega)]
  · rw[if_neg hk,hget,hget,ih]
    by_cases hkq:k=q
    · rw[if_pos hkq,if_pos hkq,if_neg (by omega)]
    · rw[if_neg hkq,if_neg hkq]
def globV(g:Nat):Option (List Value):=(globs.find? fun p=>p.1==g).map (·.2)
def GlobOK(w:World)(S:Nat→Prop)(ι : Nat→Nat×Nat×Nat)(D:List Nat):Prop:=
 ∀g cs,globV g=some cs→S g∧(∀r∈D,(ι r).2.1≠0→(ι r).1≠g)∧cs≠[]∧(∀u∈cs,u.oneCell'=true)∧∀j u,cs[j]? = some u→w.cell? ⟨g,j,none⟩=some u
structure Env where
 w:World
 S:Nat→Prop
 ι : Nat→Nat×Nat×Nat
 D:List Nat
 hD:∀r∈D,1000≤r
 hG:GlobOK w S ι D
def Mine(E:Env)(b:Nat):Prop:=E.w.heap.size≤b∨∃q∈E.D,(E.ι q).2.1≠0∧(E.ι q).1=b
def Sx(E:Env)(ι : Nat→Nat×Nat×Nat)(H:List (Nat×List AV))(b:Nat):Prop:=
 (E.S b∨Mine E b)∧∀r cs,hget H r=some cs→(ι r).2.1≠0→(ι r).1≠b
def Blk(S:Nat→Prop)(ι : Nat→Nat×Nat×Nat)(w:World)(r:Nat)(cs:List AV):Prop:=
 ((ι r).2.1=0∧cs=[]) ∨
 ∃cur,w.heap[(ι r).1]? = some (.cells cur (ι r).2.2 (0,0))∧cur.size=(ι r).2.1∧cs.length≤cur.size∧(∀(j:Nat) (u:Value) (x:AV),cur[j]? = some u→cs[j]? = some x→RV S ι w u x∧u.oneCell'=true)∧∀u∈cur.toList,u.oneCell'=true
structure ConcH (S:Nat→Prop) (ι : Nat→Nat×Nat×Nat) (H:List (Nat×List AV)) (w:World):Prop where
 blk:∀r cs,hget H r=some cs→Blk S ι w r cs
 inj:∀r q cs ds,hget H r=some cs→hget H q=some ds→r≠q→(ι r).2.1≠0→(ι q).2.1≠0→(ι r).1≠(ι q).1
structure Keep (E:Env) (ι : Nat→Nat×Nat×Nat) (H:List (Nat×List AV)) (w:World):Prop where
 os:w.os=E.w.os
 tape:w.tape=E.w.tape
 output:w.output=E.w.output
 size:E.w.heap.size≤w.heap.size
 block:∀b,b<E.w.heap.size→(∀r∈E.D,(E.ι r).2.1≠0→(E.ι r).1≠b)→w.heap[b]? = E.w.heap[b]?
 mine:∀r cs,hget H r=some cs→(r∈E.D→ι r=E.ι r)∧(r∉E.D→(ι r).2.1≠0→Mine E (ι r).1)
def Marks(E:Env)(S:Nat→Prop)(w:World)(ds:List Deferred):Prop:=
 ∃Ds:List Nat,Ds.Nodup∧ds=Ds.map (fun D=>({target:=.collected D,args:=#[]}:Deferred))∧∀D∈Ds,E.w.heap.size≤D∧S D∧w.heap[D]? = some (.deferred (some []))
theorem Marks.nil{E:Env}{S:Nat→Prop}{w:World}:Marks E S w []:=⟨[],.nil,rfl,fun D h=>by cases h⟩
theorem Marks.mono{E:Env}{S S':Nat→Prop}{w w':World}(hS:∀b,S b→b<w.heap.size→S' b∧w'.heap[b]? = w.heap[b]?){ds:List Deferred}(h:Marks E S w ds):Marks E S' w' ds:=by
 obtain⟨Ds,h1,h2,h3⟩:=h
 refine⟨Ds,h1,h2,fun D hD=>?_⟩
 obtain⟨g1,g2,g3⟩:=h3 D hD
 obtain⟨k1,k2⟩:=hS D g2 (Array.getElem?_eq_some_iff.1 g3).1
 exact⟨g1,k1,k2.trans g3⟩
structure Conc (E:Env) (ι : Nat→Nat×Nat×Nat) (σ : St) (a:Act) (w:World):Prop where
 defers:Marks E (Sx E ι σ.H) w a.defers
 size:a.tmps.size = σ.T.length
 tmp:∀i,RV (Sx E ι σ.H) ι w (a.tmps.getD i undef) (σ.T.getD i .any)
 heap:ConcH (Sx E ι σ.H) ι σ.H w
 keep:Keep E ι σ.H w
def ofV:Value→AV
 |.agg cs=>.agg (cs.toList.map fun x=>.c (.v x))
 |.tuple _=>.any
 |x=>.c (.v x)
def gev(g:Nat):AV:=match globV g with
 |some cs=>.ep (cs.map .v)
 |none=>.any
def St.ev(σ : St):Operand→AV
 |.tmp t=>σ.T.getD t .any
 |.const v=>ofV v
 |.global g=>gev g
 |.func f=>.fn f []
def szT(P:Program)(t:TypeId):Option Nat:=(P.info? t).map (·.size)
def X5p(d:TypeDesc):Bool:=match d with | .struct _ | .array _ _=>true|_=>false
def aggT(P:Program)(t:TypeId):Option Bool:=(P.underlying t).map X5p
def Q2f(P:Program)(t:TypeId):Option (List Value):=((P.info? t).bind (·.zero)).map (·.cells.toList)
def intT(P:Program)(t:TypeId):Option IntKind:=match P.underlying t with|some (.int k)=>some k|_=>none
def Q2r(P:Program)(t:TypeId):Bool:=match P.underlying t with|some .bool=>true|_=>false
def fldT(P:Program)(t k:Nat):Option (Nat×Nat×Bool):=
 match P.underlying t with
 |some (.struct fs)=>match fs[k]? with
  |some f=>match szT P f.type,aggT P f.type with
   |some s,some g=>some (f.offset,s,g)
   |_,_=>none
  |none=>none
 |_=>none
def arrT(P:Program)(t:Nat):Option (Nat×Nat×Bool):=
 match P.underlying t with
 |some (.array n e)=>match szT P e,aggT P e with
  |some s,some g=>some (n,s,g)
  |_,_=>none
 |_=>none
def slcT(P:Program)(t:Nat):Option (Nat×Nat×Nat):=
 match P.underlying t with
 |some (.slice e)=>match P.info? e with
  |some i=>some (e,i.size,i.bytes)
  |none=>none
 |_=>none
section
variable {P:Program} {t:TypeId}
theorem Q3r{s:Nat}(h:szT P t=some s)(w:World):(sizeOf t).run P w = .ok s w:=by
 unfold szT at h
 cases hi:P.info? t with
 |none=>simp[hi] at h
 |some i=>simp[sizeOf,typeInfo,hi] at h ⊢;exact h
theorem Q3e{g:Bool}(h:aggT P t=some g)(w:World):(isAgg t).run P w = .ok g w:=by
 unfold aggT at h
 cases hu:P.underlying t with
 |none=>simp[hu] at h
 |some d=>
  simp[hu] at h
  subst h
  unfold isAgg
  rw[Sem.run_bind,run_underlying hu w]
  cases d<;>simp[X5p]
theorem run_zeroT{z:List Value}(h:Q2f P t=some z)(w:World):∃v,(zeroValue t).run P w = .ok v w∧v.cells.toList=z:=by
 unfold Q2f at h
 cases hi:P.info? t with
 |none=>simp[hi] at h
 |some i=>
  cases hz:i.zero with
  |none=>simp[hi,hz] at h
  |some v=>simp[hi,hz] at h;exact⟨v,by simp[zeroValue,typeInfo,hi,hz],h⟩
end
def St.put(σ : St)(dst:Option Tmp)(x:AV):St:=
 match dst with
 |some d=>⟨σ.T.set d x,σ.H⟩
 |none=>σ
section
variable {E:Env} {ι : Nat→Nat×Nat×Nat} {σ : St} {a:Act} {w:World}
theorem RV.v_inv{S:Nat→Prop}{v x:Value}(h:RV S ι w v (.c (.v x))):v=x∧x.oneCell'=true:=by
 cases h with
 |c _ _ h=>cases h with|v _ h=>exact⟨rfl,h⟩
theorem Q2g{S:Nat→Prop}(v:Value)(h:v.oneCell'=true):RV S ι w v (.c (.v v)):=.c _ _ (.v _ h)
theorem rv_ofV{S:Nat→Prop}(v:Value)(h:(match v with | .agg cs=>cs.toList.all (·.oneCell')|_=>true)=true):RV S ι w v (ofV v):=by
 cases v with
 |agg cs=>
  simp only[List.all_eq_true] at h
  have:(Value.agg cs) = .agg cs.toList.toArray:=by simp
  rw[this]
  refine .agg _ _ (by simp) (fun u hu=>h u hu) fun j u x hu hx=>?_
  simp only[List.getElem?_map,hu,Option.map_some,Option.some.injEq] at hx
  subst hx
  exact Q2g u (h u (List.mem_of_getElem? hu))
 |tuple vs=>exact .any _
 |_=>exact Q2g _ rfl
def Q0j:Operand→Bool
 |.const (.agg cs)=>cs.toList.all (·.oneCell')
 |_=>true
theorem Conc.globS(h:Conc E ι σ a w){g:Nat}{cs:List Value}(hg:globV g=some cs):Sx E ι σ.H g∧(∀r ds,hget σ.H r=some ds→(ι r).2.1≠0→(ι r).1≠g)∧∀j u,cs[j]? = some u→w.cell? ⟨g,j,none⟩=some u:=by
 obtain⟨h1,h2,h3,h4,h5⟩:=E.hG g cs hg
 have hlt:g<E.w.heap.size:=by
  obtain⟨u,rest,hu⟩:=List.exists_cons_of_ne_nil h3
  exact block_lt_of_cell (h5 0 u (by rw[hu];rfl))
 have hne:∀r ds,hget σ.H r=some ds→(ι r).2.1≠0→(ι r).1≠g:=fun r ds hr hz=>by
  obtain⟨m1,m2⟩:=h.keep.mine r ds hr
  by_cases hm:r∈E.D
  · rw[m1 hm] at hz ⊢;exact h2 r hm hz
  · rcases m2 hm hz with h'|⟨q,hq,hqz,h'⟩
    · intro e;rw[e] at h';omega
    · rw[←h'];exact h2 q hq hqz
 have hb:w.heap[g]? = E.w.heap[g]?:=h.keep.block g hlt h2
 exact⟨⟨.inl h1,hne⟩,hne,fun j u hu=>(World.cell?_of_block (w:=E.w) (a:=⟨g,j,none⟩) hb).trans (h5 j u hu)⟩
theorem Conc.gev(h:Conc E ι σ a w)(g:Nat):RV (Sx E ι σ.H) ι w (.pointer (some ⟨g,0,none⟩)) (gev g):=by
 unfold Go.Proofs.YtbmcdemnnbndeaaGreat.gev
 cases hg:globV g with
 |none=>exact .any _
 |some cs=>
  obtain⟨_,_,h3,h4,_⟩:=E.hG g cs hg
  obtain⟨hS,_,hc⟩:=h.globS hg
  refine .ep g 0 cs (cs.map .v) (by simp) h3 hS (fun j u hu=>?_) fun j u x hu hx=>?_
  · rw[Nat.zero_add];exact hc j u hu
  · rw[List.getElem?_map,hu] at hx;cases hx;exact .v _ (h4 u (List.mem_of_getElem? hu))
theorem Conc.glob(h:Conc E ι σ a w){H0:List (Nat×List AV)}{ρ : Nat→Nat}{F:List AV→List AV}(hH:∀r cs,hget H0 r=some cs→hget σ.H (ρ r)=some (F cs)):GlobOK w (Sx E ι σ.H) (fun r=>ι (ρ r)) (H0.map (·.1)):=fun g cs hg=>by
 obtain⟨_,_,h3,h4,_⟩:=E.hG g cs hg
 obtain⟨hS,hne,hc⟩:=h.globS hg
 refine⟨hS,fun r hr hz=>?_,h3,h4,hc⟩
 have key:∀(H:List (Nat×List AV)),r∈H.map (·.1)→∃ds,hget H r=some ds:=fun H=>by
  induction H with
  |nil=>intro h;cases h
  |cons x H ih=>
   intro h
   obtain⟨k,ds⟩:=x
   unfold hget
   by_cases e:k=r
   · exact⟨ds,by rw[if_pos e]⟩
   · rw[if_neg e]
     simp only[List.map_cons,List.mem_cons] at h
     exact ih (h.resolve_left fun h=>e h.symm)
 obtain⟨ds,hds⟩:=key H0 hr
 exact hne (ρ r) _ (hH r ds hds) hz
theorem Conc.glob0(h:Conc E ι σ a w){ι':Nat→Nat×Nat×Nat}:GlobOK w (fun _=>True) ι' []:=fun g cs hg=>by
 obtain⟨_,_,h3,h4,_⟩:=E.hG g cs hg
 exact⟨trivial,(fun r hr=>by cases hr),h3,h4,(h.globS hg).2.2⟩
theorem Conc.ev(h:Conc E ι σ a w)(x:Operand)(hx:Q0j x=true):RV (Sx E ι σ.H) ι w (a.eval x) (σ.ev x):=by
 cases x with
 |tmp t=>exact h.tmp t
 |const v=>exact rv_ofV v (by cases v<;>first|rfl|exact hx)
 |global g=>exact h.gev g
 |func f=>exact .fn f [] [] rfl (fun j u x hu=>by simp at hu)
theorem Conc.put(h:Conc E ι σ a w)(dst:Option Tmp){v:Value}{x:AV}(hv:RV (Sx E ι σ.H) ι w v x):Conc E ι (σ.put dst x) (a.put dst v) w:=by
 cases dst with
 |none=>exact h
 |some d=>
  refine⟨h.defers,by simp[Act.put,St.put,h.size],fun i=>?_,h.heap,h.keep⟩
  show RV (Sx E ι σ.H) ι w ((a.tmps.setIfInBounds d v).getD i undef) ((σ.T.set d x).getD i .any)
  have hs:=h.size
  by_cases hi:i=d
  · subst hi
    by_cases hlt:i<a.tmps.size
    · have:(a.tmps.setIfInBounds i v).getD i undef=v:=by simp[Array.getD,hlt]
      rw[this]
      have:(σ.T.set i x).getD i .any=x:=by simp[List.getD,List.getElem?_set,show i < σ.T.length by omega]
      rw[this];exact hv
    · have:(σ.T.set i x).getD i .any = .any:=by rw[List.getD_eq_getElem?_getD,List.getElem?_eq_none (by simp;omega)];rfl
      rw[this];exact .any _
  · have e1:(a.tmps.setIfInBounds d v).getD i undef=a.tmps.getD i undef:=by
     simp[Array.getD_eq_getD_getElem?,Array.getElem?_setIfInBounds_ne (Ne.symm hi)]
    have e2:(σ.T.set d x).getD i .any = σ.T.getD i .any:=by simp[List.getD,List.getElem?_set,Ne.symm hi]
    rw[e1,e2];exact h.tmp i
end
def OpA(P:Program)(o:Oper)(σ : St)(K:St→Prop):Prop:=
 ∀(E:Env) (ι : Nat→Nat×Nat×Nat) (a:Act) (w:World),Conc E ι σ a w→∀(K':Act→World→Prop) (Q:Exit→Act→World→Prop),(∀ι' σ' a' w',K σ'→Conc E ι' σ' a' w'→K' a' w')→o.wp P a w K' Q
theorem OpA.mono{P:Program}{o:Oper}{σ : St}{K K1:St→Prop}(h:OpA P o σ K)(hk:∀σ,K σ→K1 σ):OpA P o σ K1:=
 fun E ι a w hc K' Q hK'=>h E ι a w hc K' Q fun ι' σ' a' w' hk'=>hK' ι' σ' a' w' (hk _ hk')
theorem Q1o{P:Program}{o:Oper}{σ : St}{K:St→Prop}(x:AV)(hK:K (σ.put o.dst x))
 (h:∀E ι a w,Conc E ι σ a w→∃v,(execOp a.eval o).run P w = .ok (.value v) w∧RV (Sx E ι σ.H) ι w v x):OpA P o σ K:=by
 intro E ι a w hc K' Q hK'
 obtain⟨v,hr,hv⟩:=h E ι a w hc
 unfold Oper.wp
 rw[hr]
 exact hK' _ _ _ _ hK (hc.put o.dst hv)
def bop(op:BinOp)(x y:Value):Option Value:=
 match x,y with
 |.int k a,.int k' b=>
  match op with
  |.shl=>if 0≤b then some (.int k (k.wrap (a*2 ^ (min b.toNat k.bits)))) else none
  |.shr=>if 0≤b then some (.int k (a.fdiv (2 ^ (min b.toNat k.bits)))) else none
  |op=>
   if k=k' then
    match op with
    |.add=>some (.int k (k.wrap (a+b)))
    |.sub=>some (.int k (k.wrap (a-b)))
    |.mul=>some (.int k (k.wrap (a*b)))
    |.eql=>some (.bool (a==b))
    |.neq=>some (.bool (a != b))
    |.lss=>some (.bool (decide (a<b)))
    |.leq=>some (.bool (decide (a≤b)))
    |.gtr=>some (.bool (decide (a>b)))
    |.geq=>some (.bool (decide (a≥b)))
    |.quo=>if b=0 then none else some (.int k (k.wrap (a.tdiv b)))
    |.rem=>if b=0 then none else some (.int k (a.tmod b))
    |.and=>some (.int k (k.wrap (BitVec.ofInt k.bits a &&& BitVec.ofInt k.bits b).toNat))
    |.or=>some (.int k (k.wrap (BitVec.ofInt k.bits a ||| BitVec.ofInt k.bits b).toNat))
    |.xor=>some (.int k (k.wrap (BitVec.ofInt k.bits a ^^^ BitVec.ofInt k.bits b).toNat))
    |.andNot=>some (.int k (k.wrap (BitVec.ofInt k.bits a &&& ~~~ BitVec.ofInt k.bits b).toNat))
    |_=>none
   else none
 |_,_=>none
theorem bop_one{op:BinOp}{x y v:Value}(h:bop op x y=some v):v.oneCell'=true:=by
 unfold bop at h
 split at h
 · split at h
   · split at h<;>simp at h;subst h;rfl
   · split at h<;>simp at h;subst h;rfl
   · split at h
     · split at h<;>(try split at h)<;>simp at h<;>(subst h;rfl)
     · cases h
 · cases h
theorem run_bop{P:Program}{op:BinOp}{x y v:Value}(h:bop op x y=some v)(t:TypeId)(w:World):(binOp op t x y).run P w = .ok v w:=by
 unfold bop at h
 split at h
 · rename_i k a k' b
   split at h
   · split at h
     · rename_i hb
       simp at h;subst h
       simp[binOp,Op.shift,show ¬b<0 by omega]
     · cases h
   · split at h
     · rename_i hb
       simp at h;subst h
       simp[binOp,Op.shift,show ¬b<0 by omega]
     · cases h
   · rename_i h1 h2
     split at h
     · rename_i hk
       subst hk
       cases op<;>simp at h h1 h2<;>(try(obtain⟨hz,h⟩:=h))<;>(try subst h)<;>simp[binOp,Op.intArith,Op.intCmp,Op.intDiv,Op.intBits, *]
     · cases h
 · cases h
theorem Q3s{P:Program}{op:BinOp}{x y:Value}(hx:x.oneCell'=true)(hn:x≠.nilIface)(t:TypeId)(o1 o2:Operand)(w:World):(eqGuard op t o1 o2 x y).run P w = .ok () w:=by
 unfold eqGuard
 cases op<;>simp<;>(cases x<;>simp_all [Value.oneCell'])
def RVs(S:Nat→Prop)(ι : Nat→Nat×Nat×Nat)(w:World)(us:List Value)(cs:List AV):Prop:=
 us.length=cs.length∧∀(j:Nat) (u:Value) (x:AV),us[j]? = some u→cs[j]? = some x→RV S ι w u x∧u.oneCell'=true
def AV.cells:AV→Option (List AV)
 |.any=>none
 |.tup _=>none
 |.agg cs=>some cs
 |x=>some [x]
theorem RV.cells{S:Nat→Prop}{ι : Nat→Nat×Nat×Nat}{w:World}{v:Value}{x:AV}{ys:List AV}(h:RV S ι w v x)(hx:x.cells=some ys):RVs S ι w v.cells.toList ys:=by
 have one:∀{v:Value} {x:AV},RV S ι w v x→v.oneCell'=true→RVs S ι w v.cells.toList [x]:=fun {v x} h ho=>by
  have:v.cells = #[v]:=by cases v<;>first|rfl|cases ho
  rw[this]
  refine⟨rfl,fun j u y hu hy=>?_⟩
  cases j with
  |zero=>simp at hu hy;subst hu hy;exact⟨h,ho⟩
  |succ j=>simp at hu
 cases h with
 |any=>cases hx
 |tup=>cases hx
 |agg us cs hl h1 h=>cases hx;exact⟨by simpa [Value.cells] using hl,fun j u x hu hx=>by simp[Value.cells] at hu;exact⟨h j u x hu hx,h1 u (List.mem_of_getElem? hu)⟩⟩
 |c v p h=>cases hx;exact one (.c _ _ h) h.one
 |ptr=>cases hx;exact one (.ptr _ _) rfl
 |row r e sz n c h1 h2 h3 h4 h0=>cases hx;exact one (.row r e sz n c h1 h2 h3 h4 h0) rfl
 |rnil A r e sz h=>cases hx;exact one (.rnil A r e sz h) rfl
 |cut r e sz lo n c ex h1 h2 h3 hx' h4 h0=>cases hx;exact one (.cut r e sz lo n c ex h1 h2 h3 hx' h4 h0) rfl
 |cnil A r e sz lo ex h=>cases hx;exact one (.cnil A r e sz lo ex h) rfl
 |ep b o us cs hl hne hS h4 h5=>cases hx;exact one (.ep b o us cs hl hne hS h4 h5) rfl
 |fn f us cs hl h=>cases hx;exact one (.fn f us cs hl h) rfl
 |fnb f us cs hl h=>cases hx;exact one (.fnb f us cs hl h) rfl
 |amp b X clk ks us cs hb hh hk hu hl h=>cases hx;exact one (.amp b X clk ks us cs hb hh hk hu hl h) rfl
theorem RVs.ones{S:Nat→Prop}{ι : Nat→Nat×Nat×Nat}{w:World}{us:List Value}{cs:List AV}(h:RVs S ι w us cs):∀u∈us,u.oneCell'=true:=fun u hu=>by
 obtain⟨j,hj⟩:=List.mem_iff_getElem?.1 hu
 have hlt:=(List.getElem?_eq_some_iff.1 hj).1
 exact(h.2 j u _ hj (List.getElem?_eq_getElem (by rw[←h.1];exact hlt))).2
theorem RVs.agg{S:Nat→Prop}{ι : Nat→Nat×Nat×Nat}{w:World}{us:List Value}{cs:List AV}(h:RVs S ι w us cs):RV S ι w (.agg us.toArray) (.agg cs):=
 .agg us cs h.1 (fun u hu=>by
  obtain⟨j,hj⟩:=List.mem_iff_getElem?.1 hu
  have hlt:=(List.getElem?_eq_some_iff.1 hj).1
  exact(h.2 j u _ hj (List.getElem?_eq_getElem (by rw[←h.1];exact hlt))).2) fun j u x hu hx=>(h.2 j u x hu hx).1
def Q1j(d:Nat):List (Nat×List AV)→Bool
 |[]=>true
 |(k,cs)::H=>k != d && !AV.refsL d cs&&Q1j d H
def St.free(σ : St)(d:Nat):Bool:=!AV.refsL d σ.T&&Q1j d σ.H
theorem Q6x{d:Nat}:∀{H:List (Nat×List AV)},Q1j d H=true→∀r cs,hget H r=some cs→r≠d∧AV.refsL d cs=false
 |[],_,r,cs,h=>by cases h
 |(k,ds)::H,hf,r,cs,h=>by
  unfold Q1j at hf
  simp only[Bool.and_eq_true,bne_iff_ne,Bool.not_eq_true'] at hf
  unfold hget at h
  split at h
  · rename_i hk;cases h;subst hk;exact⟨hf.1.1,hf.1.2⟩
  · exact Q6x hf.2 r cs h
def upd(ι : Nat→Nat×Nat×Nat)(d:Nat)(p:Nat×Nat×Nat):Nat→Nat×Nat×Nat:=fun r=>if r=d then p else ι r
theorem Q2l{ι : Nat→Nat×Nat×Nat}{d r:Nat}{p:Nat×Nat×Nat}(h:r≠d):upd ι d p r = ι r:=if_neg h
theorem Q1q{ι : Nat→Nat×Nat×Nat}{d:Nat}{p:Nat×Nat×Nat}:upd ι d p d=p:=if_pos rfl
section
variable {E:Env} {ι : Nat→Nat×Nat×Nat} {σ : St} {a:Act} {w:World}
theorem Blk.lt{S:Nat→Prop}{r:Nat}{cs:List AV}(h:Blk S ι w r cs)(hz:(ι r).2.1≠0):(ι r).1<w.heap.size:=by
 rcases h with⟨h0,_⟩|⟨cur,hh,_⟩
 · exact absurd h0 hz
 · exact(Array.getElem?_eq_some_iff.1 hh).1
theorem Conc.new(h:Conc E ι σ a w){d:Nat}(hf:σ.free d=true)(hd:d<1000)(ty:TypeId){cur:Array Value}{cs:List AV}(hcs:AV.refsL d cs=false)(hl:cs.length≤cur.size)
 (hv:∀(j:Nat) (u:Value) (x:AV),cur[j]? = some u→cs[j]? = some x→RV (Sx E ι σ.H) ι w u x∧u.oneCell'=true) (hall:∀u∈cur.toList,u.oneCell'=true) :
 Conc E (upd ι d (w.heap.size,cur.size,ty)) ⟨σ.T,hput σ.H d cs⟩ a (w.alloc (.cells cur ty)):=by
 unfold St.free at hf
 simp only[Bool.and_eq_true,Bool.not_eq_true'] at hf
 obtain⟨hT,hH⟩:=hf
 have hS:∀b,Sx E ι σ.H b→b<w.heap.size→Sx E (upd ι d (w.heap.size,cur.size,ty)) (hput σ.H d cs) b∧(w.alloc (.cells cur ty)).heap[b]? = w.heap[b]?:=by
  intro b ⟨h1,h2⟩ hb
  refine⟨⟨h1,fun r ds hr hz=>?_⟩,Below.heap_alloc _ _ _ hb⟩
  rw[Q2q] at hr
  split at hr
  · rename_i e;subst e;rw[Q1q];simp only;omega
  · rename_i e;rw[Q2l e] at hz ⊢;exact h2 r ds hr hz
 have hR:∀{v:Value} {x:AV},RV (Sx E ι σ.H) ι w v x→AV.refs d x=false→RV (Sx E (upd ι d (w.heap.size,cur.size,ty)) (hput σ.H d cs)) (upd ι d (w.heap.size,cur.size,ty)) (w.alloc (.cells cur ty)) v x:=fun hv hx=>
  hv.mono hS fun r hr=>Q2l fun e=>by rw[e,hx] at hr;cases hr
 refine⟨h.defers.mono hS,h.size,fun i=>?_,⟨fun r ds hr=>?_,fun r q ds es hr hq hne hz1 hz2=>?_⟩,⟨h.keep.os,h.keep.tape,h.keep.output,?_,fun b hb hbD=>?_,fun r ds hr=>?_⟩⟩
 · refine hR (h.tmp i) ?_
   show AV.refs d (σ.T.getD i .any)=false
   rw[List.getD_eq_getElem?_getD]
   cases hi:σ.T[i]? with
   |none=>rfl
   |some x=>exact Q2w hT i x hi
 · have hr':=hr
   rw[show(St.mk σ.T (hput σ.H d cs)).H=hput σ.H d cs from rfl,Q2q] at hr
   split at hr
   · rename_i e;subst e;cases hr
     refine .inr ⟨cur,by rw[Q1q];exact heap_alloc_new w _,by rw[Q1q],hl,fun j u x hu hx=>?_,hall⟩
     obtain⟨h1,h2⟩:=hv j u x hu hx
     exact⟨hR h1 (Q2w hcs j x hx),h2⟩
   · rename_i e
     rcases h.heap.blk r ds hr with⟨h0,he⟩|⟨cur',hh,hs,hl',hc,hone1'⟩
     · exact .inl ⟨by rw[Q2l e];exact h0,he⟩
     · have hlt:=(Array.getElem?_eq_some_iff.1 hh).1
       exact .inr ⟨cur',by rw[Q2l e,Below.heap_alloc _ _ _ hlt];exact hh,by rw[Q2l e];exact hs,hl',fun j u x hu hx=>⟨hR (hc j u x hu hx).1 (Q2w (Q6x hH r ds hr).2 j x hx),(hc j u x hu hx).2⟩,hone1'⟩
 · have hr':hget (hput σ.H d cs) r=some ds:=hr
   have hq':hget (hput σ.H d cs) q=some es:=hq
   rw[Q2q] at hr' hq'
   split at hr'<;>split at hq'
   · omega
   · rename_i e1 e2
     subst e1
     rw[Q1q,Q2l e2]
     rw[Q2l e2] at hz2
     have:=(h.heap.blk q es hq').lt hz2
     simp only;omega
   · rename_i e1 e2
     subst e2
     rw[Q1q,Q2l e1]
     rw[Q2l e1] at hz1
     have:=(h.heap.blk r ds hr').lt hz1
     simp only;omega
   · rename_i e1 e2
     rw[Q2l e1,Q2l e2]
     rw[Q2l e1] at hz1
     rw[Q2l e2] at hz2
     exact h.heap.inj r q ds es hr' hq' hne hz1 hz2
 · have:=h.keep.size;simp only[World.size_alloc];omega
 · have:=h.keep.size
   rw[Below.heap_alloc _ _ _ (by omega)];exact h.keep.block b hb hbD
 · have hr':hget (hput σ.H d cs) r=some ds:=hr
   rw[Q2q] at hr'
   split at hr'
   · rename_i e;subst e
     refine⟨fun hm=>by have:=E.hD r hm;omega,fun _ _=>?_⟩
     rw[Q1q];exact .inl h.keep.size
   · rename_i e
     rw[Q2l e];exact h.keep.mine r ds hr'
theorem Conc.set(h:Conc E ι σ a w){r:Nat}{cs ds:List AV}(hr:hget σ.H r=some cs){cur new:Array Value}(hh:w.heap[(ι r).1]? = some (.cells cur (ι r).2.2 (0,0)))(hz:(ι r).2.1≠0)(hsz:new.size=(ι r).2.1)(hl:ds.length≤new.size)
 (hv:∀(j:Nat) (u:Value) (x:AV),new[j]? = some u→ds[j]? = some x→RV (Sx E ι σ.H) ι w u x∧u.oneCell'=true) (hall:∀u∈new.toList,u.oneCell'=true) :
 Conc E ι ⟨σ.T,hput σ.H r ds⟩ a (w.setRow (ι r).1 new):=by
 have hsome:∀q es,hget (hput σ.H r ds) q=some es→∃fs,hget σ.H q=some fs:=fun q es hq=>by
  rw[Q2q] at hq
  split at hq
  · rename_i e;subst e;exact⟨cs,hr⟩
  · exact⟨es,hq⟩
 have hsome':∀q es,hget σ.H q=some es→∃fs,hget (hput σ.H r ds) q=some fs:=fun q es hq=>by
  rw[Q2q]
  split
  · exact⟨ds,rfl⟩
  · exact⟨es,hq⟩
 have hS:∀b,Sx E ι σ.H b→b<w.heap.size→Sx E ι (hput σ.H r ds) b∧(w.setRow (ι r).1 new).heap[b]? = w.heap[b]?:=by
  intro b ⟨h1,h2⟩ hb
  refine⟨⟨h1,fun q es hq hzq=>?_⟩,setRow_other _ _ _ _ (Ne.symm (h2 r cs hr hz))⟩
  obtain⟨fs,hq'⟩:=hsome q es hq
  exact h2 q fs hq' hzq
 have hR:∀{v:Value} {x:AV},RV (Sx E ι σ.H) ι w v x→RV (Sx E ι (hput σ.H r ds)) ι (w.setRow (ι r).1 new) v x:=fun hv=>hv.mono hS fun _ _=>rfl
 refine⟨h.defers.mono hS,h.size,fun i=>hR (h.tmp i),⟨fun q es hq=>?_,fun q q' es fs hq hq' hne hz1 hz2=>?_⟩,⟨h.keep.os,h.keep.tape,h.keep.output,by simpa using h.keep.size,fun b hb hbD=>?_,fun q es hq=>?_⟩⟩
 · have hq':hget (hput σ.H r ds) q=some es:=hq
   rw[Q2q] at hq'
   split at hq'
   · rename_i e;subst e;cases hq'
     exact .inr ⟨new,setRow_heap w _ cur new _ (0,0) hh,hsz,hl,fun j u x hu hx=>⟨hR (hv j u x hu hx).1,(hv j u x hu hx).2⟩,hall⟩
   · rename_i e
     rcases h.heap.blk q es hq' with⟨h0,he⟩|⟨cur',hh',hs',hl',hc',hone1'⟩
     · exact .inl ⟨h0,he⟩
     · by_cases hz0:(ι q).2.1=0
       · -- no cell
         refine .inl ⟨hz0,?_⟩
         exact List.eq_nil_of_length_eq_zero (by omega)
       · have hne:=h.heap.inj q r es cs hq' hr e hz0 hz
         exact .inr ⟨cur',by rw[setRow_other _ _ _ _ hne];exact hh',hs',hl',fun j u x hu hx=>⟨hR (hc' j u x hu hx).1,(hc' j u x hu hx).2⟩,hone1'⟩
 · obtain⟨es',h1⟩:=hsome q es hq
   obtain⟨fs',h2⟩:=hsome q' fs hq'
   exact h.heap.inj q q' es' fs' h1 h2 hne hz1 hz2
 · have hne:b≠(ι r).1:=by
    intro e
    obtain⟨m1,m2⟩:=h.keep.mine r cs hr
    by_cases hm:r∈E.D
    · have:=hbD r hm (by rw[←m1 hm];exact hz)
      rw[←m1 hm] at this;exact this e.symm
    · rcases m2 hm hz with h1|⟨q,hq,h2,h3⟩
      · omega
      · exact hbD q hq h2 (by rw[h3,e])
   rw[setRow_other _ _ _ _ hne];exact h.keep.block b hb hbD
 · obtain⟨fs,h1⟩:=hsome q es hq
   exact h.keep.mine q fs h1
def AV.le(x y:AV):Prop:=∀(S:Nat→Prop) (ι : Nat→Nat×Nat×Nat) (w:World) (v:Value),RV S ι w v x→RV S ι w v y
theorem AV.le_any(x:AV):x.le .any:=fun _ _ _ v _=>.any v
theorem AV.le_refl(x:AV):x.le x:=fun _ _ _ _ h=>h
theorem AV.le_of{x y:AV}(h:x=y):x.le y:=h▸AV.le_refl x
theorem AV.le_nil(ex:Bool)(sz:Nat):(AV.c (.v (.slice none 0 0))).le (.c (.sl ex sz 0 [])):=fun S ι w v h=>by
 cases h with
 |c _ _ h=>
  cases h
  exact .c _ _ (.sl ex sz none 0 0 [] [] (Nat.le_refl _) (Nat.zero_le _) (fun _=>rfl) (fun _=>rfl) rfl (by simp) (fun h=>absurd rfl h) fun j u x hu=>by cases hu)
structure St.le (σ τ : St):Prop where
 size:σ.T.length = τ.T.length
 tmp:∀i,(σ.T.getD i .any).le (τ.T.getD i .any)
 heap:∀r cs,hget τ.H r=some cs→hget σ.H r=some cs
theorem Conc.le{τ : St}(h:Conc E ι σ a w)(hle:σ.le τ):Conc E ι τ a w:=by
 have hS:∀b,Sx E ι σ.H b→b<w.heap.size→Sx E ι τ.H b∧w.heap[b]? = w.heap[b]?:=fun b ⟨h1,h2⟩ _=>⟨⟨h1,fun r cs hr=>h2 r cs (hle.heap r cs hr)⟩,rfl⟩
 have hR:∀{v:Value} {x:AV},RV (Sx E ι σ.H) ι w v x→RV (Sx E ι τ.H) ι w v x:=fun hv=>hv.mono hS fun _ _=>rfl
 refine⟨h.defers.mono hS,h.size.trans hle.size,fun i=>?_,⟨fun r cs hr=>?_,fun r q cs ds hr hq=>h.heap.inj r q cs ds (hle.heap r cs hr) (hle.heap q ds hq)⟩,⟨h.keep.os,h.keep.tape,h.keep.output,h.keep.size,h.keep.block,fun r cs hr=>h.keep.mine r cs (hle.heap r cs hr)⟩⟩
 · exact hle.tmp i _ _ _ _ (hR (h.tmp i))
 · rcases h.heap.blk r cs (hle.heap r cs hr) with h0|⟨cur,hh,hs,hl,hc,hone1⟩
   · exact .inl h0
   · exact .inr ⟨cur,hh,hs,hl,fun j u x hu hx=>⟨hR (hc j u x hu hx).1,(hc j u x hu hx).2⟩,hone1⟩
end
section
variable {P:Program} {o:Oper} {σ : St} {K:St→Prop}
theorem X4s{x:Operand}(ho:o.op = .move x∨o.op = .assign x)(hx:Q0j x=true)(hK:K (σ.put o.dst (σ.ev x))):OpA P o σ K:=
 Q1o _ hK fun E ι a w hc=>⟨a.eval x,by rcases ho with h|h<;>simp[execOp,h],hc.ev x hx⟩
def Q3o(t:Bool)(A B:AV):AV:=
 match A,B with
 |.c (.v (.bool x)),.c (.v (.bool y))=>.c (.v (.bool (bif t then x else y)))
 |A,B=>bif t then A else B
theorem pickAV_eq(t:Bool)(A B:AV):Q3o t A B=bif t then A else B:=by
 unfold Q3o
 split<;>cases t<;>rfl
theorem opA_pick{c x y:Operand}{t:Bool}(ho:o.op = .pick c x y)(hx:Q0j x=true)(hy:Q0j y=true)(hc0:Q0j c=true)(hc:σ.ev c = .c (.v (.bool t)))(hK:K (σ.put o.dst (Q3o t (σ.ev x) (σ.ev y)))):OpA P o σ K:=
 Q1o _ hK fun E ι a w h=>by
  have hcv:=h.ev c hc0
  rw[hc] at hcv
  obtain⟨e,_⟩:=hcv.v_inv
  refine⟨if t then a.eval x else a.eval y,by simp[execOp,ho,e,asBool],?_⟩
  rw[pickAV_eq]
  cases t
  · exact h.ev y hy
  · exact h.ev x hx
theorem opA_bin{op:BinOp}{t t':TypeId}{x y:Operand}{u v r:Value}(ho:o.op = .binOp op t x y t')(hx:Q0j x=true)(hy:Q0j y=true)(h1:σ.ev x = .c (.v u))(h2:σ.ev y = .c (.v v))(hr:bop op u v=some r)
 (hK:K (σ.put o.dst (.c (.v r)))):OpA P o σ K:=
 Q1o _ hK fun E ι a w h=>by
  have hxv:=h.ev x hx
  have hyv:=h.ev y hy
  rw[h1] at hxv
  rw[h2] at hyv
  obtain⟨e1,o1⟩:=hxv.v_inv
  obtain⟨e2,o2⟩:=hyv.v_inv
  refine⟨r,?_,Q2g r (bop_one hr)⟩
  have hn:u≠.nilIface:=by rintro rfl;simp[bop] at hr
  simp only[execOp,ho,e1,e2,Sem.run_bind,Q3s o1 hn,Result.andThen_ok,run_bop hr,Sem.run_pure]
theorem opA_eqb{t t':TypeId}{x y:Operand}{u v:Bool}{op:BinOp}(hop:op = .eql∨op = .neq)(ho:o.op = .binOp op t x y t')(ht:Q2r P t=true)(hx:Q0j x=true)(hy:Q0j y=true)(h1:σ.ev x = .c (.v (.bool u)))(h2:σ.ev y = .c (.v (.bool v)))
 (hK:K (σ.put o.dst (.c (.v (.bool (if op = .eql then u==v else u != v)))))):OpA P o σ K:=
 Q1o _ hK fun E ι a w h=>by
  have hxv:=h.ev x hx
  have hyv:=h.ev y hy
  rw[h1] at hxv
  rw[h2] at hyv
  obtain⟨e1,o1⟩:=hxv.v_inv
  obtain⟨e2,o2⟩:=hyv.v_inv
  refine⟨_,?_,Q2g _ rfl⟩
  have hu:P.underlying t=some .bool:=by
   unfold Q2r at ht
   cases hu:P.underlying t with
   |none=>simp[hu] at ht
   |some d=>cases d<;>simp[hu] at ht;rfl
  have heq:(Op.equal t (.bool u) (.bool v)).run P w = .ok (u==v) w:=by
   unfold Op.equal
   rw[show Op.maxDepth=9999+1 from rfl]
   unfold Op.equalIn
   rw[Sem.run_bind,run_underlying hu,Result.andThen_ok]
   rfl
  have g1:binOp .eql t (.bool u) (.bool v)=(do pure (.bool (←Op.equal t (.bool u) (.bool v)))):=rfl
  have g2:binOp .neq t (.bool u) (.bool v)=(do pure (.bool (!(←Op.equal t (.bool u) (.bool v))))):=rfl
  have hn:Value.bool u≠.nilIface:=by simp
  rcases hop with rfl|rfl
  · simp only[execOp,ho,e1,e2,Sem.run_bind,Q3s o1 hn,Result.andThen_ok,g1,heq,Sem.run_pure,if_true]
  · simp only[execOp,ho,e1,e2,Sem.run_bind,Q3s o1 hn,Result.andThen_ok,g2,heq,Sem.run_pure,reduceCtorEq,if_false]
    rfl
theorem opA_not{t:TypeId}{x:Operand}{b:Bool}(ho:o.op = .unOp .not t x)(hx:Q0j x=true)(h1:σ.ev x = .c (.v (.bool b)))(hK:K (σ.put o.dst (.c (.v (.bool (!b)))))):OpA P o σ K:=
 Q1o _ hK fun E ι a w h=>by
  have hxv:=h.ev x hx
  rw[h1] at hxv
  obtain⟨e1,_⟩:=hxv.v_inv
  exact⟨.bool (!b),by simp[execOp,ho,e1,Op.unary],Q2g _ rfl⟩
theorem opA_neg{t:TypeId}{x:Operand}{k:IntKind}{n:Int}(ho:o.op = .unOp .neg t x)(hx:Q0j x=true)(h1:σ.ev x = .c (.v (.int k n)))(hK:K (σ.put o.dst (.c (.v (.int k (k.wrap (0-n))))))):OpA P o σ K:=
 Q1o _ hK fun E ι a w h=>by
  have hxv:=h.ev x hx
  rw[h1] at hxv
  obtain⟨e1,_⟩:=hxv.v_inv
  exact⟨.int k (k.wrap (0-n)),by simp[execOp,ho,e1,Op.unary,Op.intArith],Q2g _ rfl⟩
theorem opA_xor{t:TypeId}{x:Operand}{k:IntKind}{n:Int}(ho:o.op = .unOp .xor t x)(hx:Q0j x=true)(h1:σ.ev x = .c (.v (.int k n)))
 (hK:K (σ.put o.dst (.c (.v (.int k (k.wrap (BitVec.ofInt k.bits (if k.signed then -1 else k.max) ^^^ BitVec.ofInt k.bits n).toNat)))))):OpA P o σ K:=
 Q1o _ hK fun E ι a w h=>by
  have hxv:=h.ev x hx
  rw[h1] at hxv
  obtain⟨e1,_⟩:=hxv.v_inv
  exact⟨_,by simp[execOp,ho,e1,Op.unary,Op.intBits],Q2g _ rfl⟩
theorem opA_conv{s d:TypeId}{x:Operand}{k k':IntKind}{n:Int}(ho:o.op = .convert s d x)(hd:intT P d=some k')(hs:(P.underlying s).isSome=true)(hx:Q0j x=true)(h1:σ.ev x = .c (.v (.int k n)))(hK:K (σ.put o.dst (.c (.v (.int k' (k'.wrap n)))))):OpA P o σ K:=
 Q1o _ hK fun E ι a w h=>by
  have hxv:=h.ev x hx
  rw[h1] at hxv
  obtain⟨e1,_⟩:=hxv.v_inv
  have hu:P.underlying d=some (.int k'):=by
   unfold intT at hd
   cases hu:P.underlying d with
   |none=>simp[hu] at hd
   |some d=>cases d<;>simp[hu] at hd;subst hd;rfl
  obtain⟨ds,hds⟩:=Option.isSome_iff_exists.1 hs
  refine⟨.int k' (k'.wrap n),?_,Q2g _ rfl⟩
  simp only[execOp,ho,e1,Sem.run_bind,convert,run_underlying hds,run_underlying hu,Result.andThen_ok]
  cases ds<;>simp[Conv.intToInt]
theorem X3r{x:Operand}{k:Nat}{xs:List AV}{y:AV}(ho:o.op = .extract x k)(hx:Q0j x=true)(h1:σ.ev x = .tup xs)(hy:xs[k]? = some y)(hK:K (σ.put o.dst y)):OpA P o σ K:=
 Q1o _ hK fun E ι a w h=>by
  have hxv:=h.ev x hx
  rw[h1] at hxv
  generalize he:a.eval x=v at hxv
  cases hxv with
  |tup us cs hl hr=>
   have hlt:k<us.length:=by have:=(List.getElem?_eq_some_iff.1 hy).1;omega
   have hu:us[k]? = some us[k]:=List.getElem?_eq_getElem hlt
   exact⟨us[k],by simp[execOp,ho,he,Instr.extract,hu],hr k _ _ hu hy⟩
theorem X1z{x:Operand}{r off:Nat}(ho:o.op = .nilCheck x)(hx:Q0j x=true)(h1:σ.ev x = .ptr r off)(hK:K (σ.put o.dst (.ptr r off))):OpA P o σ K:=
 Q1o _ hK fun E ι a w h=>by
  have hxv:=h.ev x hx
  rw[h1] at hxv
  generalize he:a.eval x=v at hxv
  cases hxv with
  |ptr=>exact⟨_,by simp[execOp,ho,he],.ptr _ _⟩
theorem Q8n{x:Operand}{cs:List PV}(ho:o.op = .nilCheck x)(hx:Q0j x=true)(h1:σ.ev x = .ep cs)(hK:K (σ.put o.dst (.ep cs))):OpA P o σ K:=
 Q1o _ hK fun E ι a w h=>by
  have hxv:=h.ev x hx
  rw[h1] at hxv
  generalize he:a.eval x=v at hxv
  cases hxv with
  |ep b o us cs hl hne hS h4 h5=>exact⟨_,by simp[execOp,ho,he],.ep b o us cs hl hne hS h4 h5⟩
theorem Q8m{x:Operand}{f:FuncId}{cs:List AV}(ho:o.op = .nilCheck x)(hx:Q0j x=true)(h1:σ.ev x = .fn f cs)(hK:K (σ.put o.dst (.fn f cs))):OpA P o σ K:=
 Q1o _ hK fun E ι a w h=>by
  have hxv:=h.ev x hx
  rw[h1] at hxv
  generalize he:a.eval x=v at hxv
  cases hxv with
  |fn f us cs hl hr=>exact⟨_,by simp[execOp,ho,he],.fn f us cs hl hr⟩
theorem X2a{f:FuncId}{caps:Array Operand}(ho:o.op = .makeFunc (.func f) #[] caps)(hx:caps.toList.all Q0j=true)(hK:K (σ.put o.dst (.fn f (caps.toList.map σ.ev)))):OpA P o σ K:=
 Q1o _ hK fun E ι a w h=>by
  have e:caps.map a.eval=(caps.toList.map a.eval).toArray:=by rw[←Array.toList_map]
  refine⟨.func (.func f) #[] (caps.toList.map a.eval).toArray,by simp[execOp,ho,Instr.makeFunc,e],.fn f _ _ (by simp) fun j u x hu hx'=>?_⟩
  simp only[List.getElem?_map,Option.map_eq_some_iff] at hu hx'
  obtain⟨y,hy,rfl⟩:=hu
  obtain⟨y',hy',rfl⟩:=hx'
  rw[hy] at hy';cases hy'
  exact h.ev y (List.all_eq_true.1 hx y (List.mem_of_getElem? hy))
theorem Q5n{t:TypeId}{x:Operand}{r off s:Nat}{cs:List AV}{g:Bool}{y:AV}(ho:o.op = .load t x)(hx:Q0j x=true)(h1:σ.ev x = .ptr r off)(hr:hget σ.H r=some cs)(hs:szT P t=some s)(hg:aggT P t=some g)
 (hy:if g then off+s≤cs.length∧0<s∧y = .agg ((cs.drop off).take s) else cs[off]? = some y) (hK:K (σ.put o.dst y)):OpA P o σ K:=
 Q1o _ hK fun E ι a w h=>by
  have hxv:=h.ev x hx
  rw[h1] at hxv
  generalize he:a.eval x=v at hxv
  cases hxv with
  |ptr=>
   have hb:=h.heap.blk r cs hr
   cases g with
   |true=>
    simp only[if_true] at hy
    obtain⟨hle,h0,rfl⟩:=hy
    rcases hb with⟨_,rfl⟩|⟨cur,hh,hsz,hl,hc,hone1⟩
    · simp at hle;omega
    · have hlen:((cur.toList.drop off).take s).length=s:=by simp;omega
      have hrun:=run_loadCells_list (P:=P) w ⟨(ι r).1,off,none⟩ ((cur.toList.drop off).take s) fun j v hv=>by
       rw[Q2j,World.cell?,hh]
       rw[List.getElem?_take] at hv
       split at hv
       · rw[List.getElem?_drop] at hv;simpa using hv
       · cases hv
      rw[hlen] at hrun
      refine⟨.agg ((cur.toList.drop off).take s).toArray,by simp[execOp,ho,he,Instr.loadAt,Instr.sureAddr,loadVar,Q3e hg,Q3r hs,hrun],RVs.agg ⟨by simp;omega,fun j u x hu hx=>?_⟩⟩
      rw[List.getElem?_take] at hu hx
      split at hu
      · rename_i hj
        rw[if_pos hj] at hx
        rw[List.getElem?_drop] at hu hx
        exact hc (off+j) u x (by simpa using hu) hx
      · cases hu
   |false=>
    simp only[Bool.false_eq_true,if_false] at hy
    rcases hb with⟨_,rfl⟩|⟨cur,hh,hsz,hl,hc,hone1⟩
    · simp at hy
    · have hlt:off<cur.size:=by have:=(List.getElem?_eq_some_iff.1 hy).1;omega
      have hcell:w.cell? ⟨(ι r).1,off,none⟩=some cur[off]:=by simp[World.cell?,hh,hlt]
      exact⟨cur[off],by simp[execOp,ho,he,Instr.loadAt,Instr.sureAddr,loadVar,Q3e hg,hcell],(hc off _ _ (Array.getElem?_eq_getElem hlt) hy).1⟩
theorem Q8o{t:TypeId}{x:Operand}{s:Nat}{cs:List PV}{g:Bool}{y:AV}(ho:o.op = .load t x)(hx:Q0j x=true)(h1:σ.ev x = .ep cs)(hs:szT P t=some s)(hg:aggT P t=some g)
 (hy:if g then s≤cs.length∧y = .agg ((cs.take s).map .c) else cs[0]?.map AV.c=some y) (hK:K (σ.put o.dst y)):OpA P o σ K:=
 Q1o _ hK fun E ι a w h=>by
  have hxv:=h.ev x hx
  rw[h1] at hxv
  generalize he:a.eval x=v at hxv
  cases hxv with
  |ep b off us cs hl hne hS h4 h5=>
   cases g with
   |true=>
    simp only[if_true] at hy
    obtain⟨hle,rfl⟩:=hy
    have hlen:(us.take s).length=s:=by simp;omega
    have hrun:=run_loadCells_list (P:=P) w ⟨b,off,none⟩ (us.take s) fun j v hv=>by
     rw[Q2j]
     rw[List.getElem?_take] at hv
     split at hv
     · exact h4 j v hv
     · cases hv
    rw[hlen] at hrun
    refine⟨.agg (us.take s).toArray,by simp[execOp,ho,he,Instr.loadAt,Instr.sureAddr,loadVar,Q3e hg,Q3r hs,hrun],RVs.agg ⟨by simp;omega,fun j u x hu hx=>?_⟩⟩
    rw[List.getElem?_map,Option.map_eq_some_iff] at hx
    obtain⟨z,hz,rfl⟩:=hx
    rw[List.getElem?_take] at hu hz
    split at hu
    · rename_i hj
      rw[if_pos hj] at hz
      exact⟨.c _ _ (h5 j u z hu hz),(h5 j u z hu hz).one⟩
    · cases hu
   |false=>
    simp only[Bool.false_eq_true,if_false,Option.map_eq_some_iff] at hy
    obtain⟨z,hz,rfl⟩:=hy
    obtain⟨u0,rest,rfl⟩:=List.exists_cons_of_ne_nil hne
    have hcell:w.cell? ⟨b,off,none⟩=some u0:=by simpa using h4 0 u0 rfl
    exact⟨u0,by simp[execOp,ho,he,Instr.loadAt,Instr.sureAddr,loadVar,Q3e hg,hcell],.c _ _ (h5 0 u0 z rfl hz)⟩
theorem Q8e{t k ofs s:Nat}{g:Bool}(hf:fldT P t k=some (ofs,s,g))(h0:s≠0)(b off:Nat)(w:World):(Instr.fieldAt t (.pointer (some ⟨b,off,none⟩)) k).run P w = .ok (.pointer (some ⟨b,off+ofs,none⟩)) w:=by
 unfold fldT at hf
 split at hf
 · rename_i fs hu
   split at hf
   · rename_i f hk
     split at hf
     · rename_i s' g' h1 h2
       simp only[Option.some.injEq,Prod.mk.injEq] at hf
       obtain⟨rfl,rfl,rfl⟩:=hf
       simp[Instr.fieldAt,run_underlying hu,hk,Instr.sureAddr,fieldPlace,Q3r h1,h0,Q2j]
     · cases hf
   · cases hf
 · cases hf
theorem X0n{t k r off ofs s:Nat}{g:Bool}{x:Operand}(ho:o.op = .fieldAddr t x k)(hx:Q0j x=true)(h1:σ.ev x = .ptr r off)(hf:fldT P t k=some (ofs,s,g))(h0:s≠0)(hK:K (σ.put o.dst (.ptr r (off+ofs)))):OpA P o σ K:=
 Q1o _ hK fun E ι a w h=>by
  have hxv:=h.ev x hx
  rw[h1] at hxv
  generalize he:a.eval x=v at hxv
  cases hxv with
  |ptr=>exact⟨_,by simp[execOp,ho,he,Q8e hf h0],.ptr _ _⟩
theorem X2c{t k ofs s:Nat}{g:Bool}{x:Operand}{cs:List PV}(ho:o.op = .fieldAddr t x k)(hx:Q0j x=true)(h1:σ.ev x = .ep cs)(hf:fldT P t k=some (ofs,s,g))(h0:s≠0)(hl:ofs<cs.length)(hK:K (σ.put o.dst (.ep (cs.drop ofs)))):OpA P o σ K:=
 Q1o _ hK fun E ι a w h=>by
  have hxv:=h.ev x hx
  rw[h1] at hxv
  generalize he:a.eval x=v at hxv
  cases hxv with
  |ep b off us cs hl' hne hS h4 h5=>
   refine⟨_,by simp[execOp,ho,he,Q8e hf h0],.ep b (off+ofs) (us.drop ofs) _ (by simp;omega) (fun e=>?_) hS (fun j u hu=>?_) fun j u x hu hx=>?_⟩
   · have:=congrArg List.length e;simp at this;omega
   · rw[List.getElem?_drop] at hu;rw[Nat.add_assoc];exact h4 _ u hu
   · rw[List.getElem?_drop] at hu hx;exact h5 _ u x hu hx
theorem Q6s{t k ofs s:Nat}{g:Bool}{x:Operand}{cs:List AV}{y:AV}(ho:o.op = .field t x k)(hx:Q0j x=true)(h1:σ.ev x = .agg cs)(hf:fldT P t k=some (ofs,s,g))
 (hy:if g then y = .agg ((cs.drop ofs).take s) else cs[ofs]? = some y) (hK:K (σ.put o.dst y)):OpA P o σ K:=
 Q1o _ hK fun E ι a w h=>by
  have hxv:=h.ev x hx
  rw[h1] at hxv
  generalize he:a.eval x=v at hxv
  cases hxv with
  |agg us cs hl hone hr=>
   unfold fldT at hf
   split at hf
   · rename_i fs hu
     split at hf
     · rename_i f hk
       split at hf
       · rename_i s' g' h1 h2
         simp only[Option.some.injEq,Prod.mk.injEq] at hf
         obtain⟨rfl,rfl,rfl⟩:=hf
         cases g' with
         |true=>
          simp only[if_true] at hy
          subst hy
          refine⟨.agg (us.drop f.offset |>.take s').toArray,?_,RVs.agg ⟨by simp[hl],fun j u x hu' hx'=>?_⟩⟩
          · simp[execOp,ho,he,Instr.field,run_underlying hu,hk,asAgg,part,Q3e h2,Q3r h1,List.extract_eq_take_drop]
          · rw[List.getElem?_take] at hu' hx'
            split at hu'
            · rename_i hj
              rw[if_pos hj] at hx'
              rw[List.getElem?_drop] at hu' hx'
              exact⟨hr _ u x hu' hx',hone u (List.mem_of_getElem? hu')⟩
            · cases hu'
         |false=>
          simp only[Bool.false_eq_true,if_false] at hy
          have hlt:f.offset<us.length:=by have:=(List.getElem?_eq_some_iff.1 hy).1;omega
          have hu':us[f.offset]? = some us[f.offset]:=List.getElem?_eq_getElem hlt
          exact⟨us[f.offset],by simp[execOp,ho,he,Instr.field,run_underlying hu,hk,asAgg,part,Q3e h2,hu'],hr _ _ _ hu' hy⟩
       · cases hf
     · cases hf
   · cases hf
end
end
section
open Go.RowKit
section
variable {P:Program} {o:Oper} {σ : St} {K:St→Prop}
theorem X3p{d:Nat}(x:AV){cs:List AV}(hd:o.dst=some d)(hf:σ.free d=true)(hd2:d<1000)(hcs:AV.refsL d cs=false)
 (hK:K ((St.mk σ.T (hput σ.H d cs)).put o.dst x))
 (h:∀E ι a w,Conc E ι σ a w→∃v cur ty,(execOp a.eval o).run P w = .ok (.value v) (w.alloc (.cells cur ty))∧cs.length≤cur.size ∧
   (∀(j:Nat) (u:Value) (x:AV),cur[j]? = some u→cs[j]? = some x→RV (Sx E ι σ.H) ι w u x∧u.oneCell'=true)∧(∀u∈cur.toList,u.oneCell'=true) ∧
   ∀S ι' w',ι' d=(w.heap.size,cur.size,ty)→RV S ι' w' v x):OpA P o σ K:=by
 intro E ι a w hc K' Q hK'
 obtain⟨v,cur,ty,hr,hl,hv,hall,hx⟩:=h E ι a w hc
 unfold Oper.wp
 rw[hr]
 exact hK' _ _ _ _ hK ((hc.new hf hd2 ty hcs hl hv hall).put o.dst (hx _ _ _ Q1q))
theorem X1h{t:TypeId}{z:List Value}(h:z.all (·.oneCell')=true){S:Nat→Prop}{ι : Nat→Nat×Nat×Nat}{w:World}:RVs S ι w z (z.map fun x=>.c (.v x)):=
 ⟨by simp,fun j u x hu hx=>by
   simp only[List.getElem?_map,hu,Option.map_some,Option.some.injEq] at hx
   subst hx
   have:=List.all_eq_true.1 h u (List.mem_of_getElem? hu)
   exact⟨Q2g u this,this⟩⟩
theorem X5v(d:Nat)(z:List Value):AV.refsL d (z.map fun x=>.c (.v x))=false:=by
 induction z with
 |nil=>rfl
 |cons x z ih=>simp[AV.refsL,AV.refs,ih]
theorem opA_alloc{d:Nat}{t:TypeId}{z:List Value}(ho:o.op = .alloc t)(hd:o.dst=some d)(hf:σ.free d=true)(hd2:d<1000)(hz:Q2f P t=some z)(h1:z.all (·.oneCell')=true)
 (hK:K ((St.mk σ.T (hput σ.H d (z.map fun x=>.c (.v x)))).put o.dst (.ptr d 0))):OpA P o σ K:=
 X3p (.ptr d 0) hd hf hd2 (X5v d z) hK fun E ι a w h=>by
  obtain⟨v,hv,hcells⟩:=run_zeroT hz w
  have hcs:=X1h (t:=t) h1 (S:=Sx E ι σ.H) (ι:=ι) (w:=w)
  refine⟨.pointer (some ⟨w.heap.size,0,none⟩),v.cells,t,?_,by rw[←Array.length_toList,hcells];simp,fun j u x hu hx=>hcs.2 j u x (by rw[←hcells];simpa using hu) hx,by rw[hcells];exact fun u hu=>List.all_eq_true.1 h1 u hu,fun S ι' w' hι=>?_⟩
  · simp[execOp,ho,Instr.alloc,hv,newVar,newRow]
  · have:=RV.ptr (S:=S) (ι:=ι') (w:=w') d 0
    rwa [hι] at this
theorem opA_box{d:Nat}{t:TypeId}{x:Operand}{ys:List AV}(ho:o.op = .box t x)(hx:Q0j x=true)(hd:o.dst=some d)(hf:σ.free d=true)(hd2:d<1000)(hy:(σ.ev x).cells=some ys)(hcs:AV.refsL d ys=false)
 (hK:K ((St.mk σ.T (hput σ.H d ys)).put o.dst (.ptr d 0))):OpA P o σ K:=
 X3p (.ptr d 0) hd hf hd2 hcs hK fun E ι a w h=>by
  have hv:=(h.ev x hx).cells hy
  refine⟨.pointer (some ⟨w.heap.size,0,none⟩),(a.eval x).cells,t,?_,by rw[←Array.length_toList,hv.1];exact Nat.le_refl _,fun j u x hu hx=>hv.2 j u x (by simpa using hu) hx,hv.ones,fun S ι' w' hι=>?_⟩
  · simp[execOp,ho,Instr.box,newVar,newRow]
  · have:=RV.ptr (S:=S) (ι:=ι') (w:=w') d 0
    rwa [hι] at this
def spl(cs:List AV)(off:Nat)(ys:List AV):List AV:=cs.take off++ys++cs.drop (off+ys.length)
theorem opA_store{t:TypeId}{p x:Operand}{r off:Nat}{cs ys:List AV}(ho:o.op = .store t p x)(hp0:Q0j p=true)(hx:Q0j x=true)(hp:σ.ev p = .ptr r off)(hr:hget σ.H r=some cs)(hy:(σ.ev x).cells=some ys)
 (hs:szT P t=some ys.length) (hle:off+ys.length≤cs.length) (h0:0<ys.length) (hd:o.dst=none) (hK:K ⟨σ.T,hput σ.H r (spl cs off ys)⟩):OpA P o σ K:=by
 intro E ι a w hc K' Q hK'
 have hpv:=hc.ev p hp0
 rw[hp] at hpv
 have hv:=(hc.ev x hx).cells hy
 generalize he:a.eval p=v at hpv
 cases hpv with
 |ptr=>
  rcases hc.heap.blk r cs hr with⟨_,rfl⟩|⟨cur,hh,hsz,hl,hcur,hone1⟩
  · simp only[List.length_nil] at hle;omega
  · have hz:(ι r).2.1≠0:=by omega
    have hlv:(a.eval x).cells.toList.length=ys.length:=hv.1
    have h1:∀v∈(a.eval x).cells.toList,v.oneCell'=true:=fun v hvm=>by
     obtain⟨j,hj⟩:=List.mem_iff_getElem?.1 hvm
     have hlt:=(List.getElem?_eq_some_iff.1 hj).1
     exact(hv.2 j v _ hj (List.getElem?_eq_getElem (by omega))).2
    have hrun:=run_storeCells_at P (ι r).1 off _ (a.eval x).cells.toList 0 cur w hh (by rw[hlv];omega) h1
    have hop:(execOp a.eval o).run P w = .ok .skip (w.setRow (ι r).1 (cur.toList.take (off+0)++(a.eval x).cells.toList++cur.toList.drop (off+0+(a.eval x).cells.toList.length)).toArray):=by
     have hsz':(a.eval x).cells.size=ys.length:=by rw[←hlv];simp
     simp only[execOp,ho,he,Instr.storeAt,Instr.sureAddr,storeVar,Sem.run_bind,Sem.run_pure,Result.andThen_ok,Q3r hs,Sem.run_ite,hsz',ne_eq,not_true,if_false,hrun]
    generalize (a.eval x).cells.toList=vl at *
    unfold Oper.wp
    rw[hop]
    have hset:=hc.set (ds:=spl cs off ys) hr hh hz (new:=(cur.toList.take (off+0)++vl++cur.toList.drop (off+0+vl.length)).toArray)
     (by simp only[Nat.add_zero,List.size_toArray,List.length_append,List.length_take,List.length_drop,Array.length_toList,hlv] at *;omega)
     (by simp only[spl,Nat.add_zero,List.size_toArray,List.length_append,List.length_take,List.length_drop,Array.length_toList,hlv] at *;omega)
     (fun j u x' hu hx'=>by
       simp only[Nat.add_zero,List.getElem?_toArray] at hu
       unfold spl at hx'
       simp only[List.getElem?_append,List.length_take,List.getElem?_take,List.getElem?_drop,List.length_append,Array.length_toList] at hu hx'
       have e1:min off cur.size=off:=by omega
       have e2:min off cs.length=off:=by omega
       rw[e1] at hu
       rw[e2] at hx'
       by_cases hj1:j<off+ys.length
       · rw[if_pos (by omega)] at hu
         rw[if_pos (by omega)] at hx'
         by_cases hj2:j<off
         · rw[if_pos hj2,if_pos hj2] at hu hx'
           exact hcur j u x' (by simpa using hu) hx'
         · rw[if_neg hj2] at hu hx'
           exact hv.2 _ u x' hu hx'
       · rw[if_neg (by omega)] at hu
         rw[if_neg (by omega)] at hx'
         have e3:off+vl.length+(j-(off+vl.length))=j:=by omega
         have e4:off+ys.length+(j-(off+ys.length))=j:=by omega
         rw[e3] at hu
         rw[e4] at hx'
         exact hcur j u x' (by simpa using hu) hx') (fun u hu=>by
       simp only[Nat.add_zero,List.append_assoc,List.mem_append] at hu
       rcases hu with hu|hu|hu
       · exact hone1 u (List.mem_of_mem_take hu)
       · exact h1 u hu
       · exact hone1 u (List.mem_of_mem_drop hu))
    have:=hK' ι _ (a.put o.dst undef) _ hK (by rw[hd];exact hset)
    exact this
theorem Q3j(k:IntKind)(n:Int)(w:World):(asIntOf (.int k n)).run P w = .ok (k,n) w:=rfl
theorem X0l{t r sz n e e' by_:Nat}{x i:Operand}{k:IntKind}{m:Int}(ho:o.op = .indexAddr t x i)(hx:Q0j x=true)(hi0:Q0j i=true)(h1:σ.ev x = .row r e' sz n)(hi:σ.ev i = .c (.v (.int k m)))(hs:slcT P t=some (e,sz,by_))
 (hb:0≤m∧m<n) (hK:K (σ.put o.dst (.ptr r (m.toNat*sz)))):OpA P o σ K:=
 Q1o _ hK fun E ι a w h=>by
  have hxv:=h.ev x hx
  rw[h1] at hxv
  have hiv:=h.ev i hi0
  rw[hi] at hiv
  obtain⟨ei,_⟩:=hiv.v_inv
  generalize he:a.eval x=v at hxv
  unfold slcT at hs
  split at hs
  · rename_i e'' hu
    split at hs
    · rename_i inf hinf
      simp only[Option.some.injEq,Prod.mk.injEq] at hs
      obtain⟨rfl,rfl,rfl⟩:=hs
      have hsz:(sizeOf e'').run P w = .ok inf.size w:=Q3r (by simp[szT,hinf]) w
      cases hxv with
      |row _ _ _ _ c g1 g2 g3 g4 g0=>
       refine⟨_,?_,.ptr r (m.toNat*inf.size)⟩
       simp only[execOp,ho,he,ei,Instr.indexAt,Sem.run_bind,Q3j,run_underlying hu,Result.andThen_ok,Sem.run_pure,hsz,Sem.run_ite,if_pos hb,Q2j,Nat.zero_add]
      |rnil=>omega
    · cases hs
  · cases hs
theorem X2b{t sz n e by_:Nat}{ex:Bool}{cs:List PV}{x i:Operand}{k:IntKind}{m:Int}(ho:o.op = .indexAddr t x i)(hx:Q0j x=true)(hi0:Q0j i=true)(h1:σ.ev x = .c (.sl ex sz n cs))(hi:σ.ev i = .c (.v (.int k m)))(hs:slcT P t=some (e,sz,by_))(h0:0<sz)
 (hb:0≤m∧m<n) (hK:K (σ.put o.dst (.ep ((cs.drop (m.toNat*sz)).take sz)))):OpA P o σ K:=
 Q1o _ hK fun E ι a w h=>by
  have hxv:=h.ev x hx
  rw[h1] at hxv
  have hiv:=h.ev i hi0
  rw[hi] at hiv
  obtain⟨ei,_⟩:=hiv.v_inv
  generalize he:a.eval x=v at hxv
  unfold slcT at hs
  split at hs
  · rename_i e' hu
    split at hs
    · rename_i inf hinf
      simp only[Option.some.injEq,Prod.mk.injEq] at hs
      obtain⟨rfl,rfl,rfl⟩:=hs
      have hsz:(sizeOf e').run P w = .ok inf.size w:=Q3r (by simp[szT,hinf]) w
      cases hxv with
      |c _ _ hp=>
       cases hp with
       |sl _ _ A _ c us _ g1 g2 g3 g4 hl hn g5 g6=>
        have hmn:m.toNat<n:=by omega
        have hlen:m.toNat*inf.size+inf.size≤us.length:=by
         have:(m.toNat+1)*inf.size≤n*inf.size:=Nat.mul_le_mul_right _ hmn
         rw[Nat.add_mul,Nat.one_mul] at this;omega
        have hne:us≠[]:=by intro e;subst e;simp at hlen;omega
        obtain⟨b,off,rfl,hS,hcell⟩:=g5 hne
        refine⟨.pointer (some ⟨b,off+m.toNat*inf.size,none⟩),?_,.ep b _ ((us.drop (m.toNat*inf.size)).take inf.size) _ (by simp[hl]) (fun e=>?_) hS (fun j u hu=>?_) fun j u x hu hx=>?_⟩
        · simp only[execOp,ho,he,ei,Instr.indexAt,Sem.run_bind,Q3j,run_underlying hu,Result.andThen_ok,Sem.run_pure,hsz,Sem.run_ite,if_pos hb,Q2j]
        · have:=congrArg List.length e;simp at this;omega
        · rw[List.getElem?_take] at hu
          split at hu
          · rw[List.getElem?_drop] at hu;rw[Nat.add_assoc];exact hcell _ u hu
          · cases hu
        · rw[List.getElem?_take] at hu hx
          split at hu
          · rename_i hj
            rw[if_pos hj] at hx
            rw[List.getElem?_drop] at hu hx;exact g6 _ u x hu hx
          · cases hu
    · cases hs
  · cases hs
theorem X0m{t r off sz n:Nat}{g:Bool}{x i:Operand}{k:IntKind}{m:Int}(ho:o.op = .indexAddr t x i)(hx:Q0j x=true)(hi0:Q0j i=true)(h1:σ.ev x = .ptr r off)(hi:σ.ev i = .c (.v (.int k m)))(hs:arrT P t=some (n,sz,g))
 (hb:0≤m∧m<n) (hK:K (σ.put o.dst (.ptr r (off+m.toNat*sz)))):OpA P o σ K:=
 Q1o _ hK fun E ι a w h=>by
  have hxv:=h.ev x hx
  rw[h1] at hxv
  have hiv:=h.ev i hi0
  rw[hi] at hiv
  obtain⟨ei,_⟩:=hiv.v_inv
  generalize he:a.eval x=v at hxv
  unfold arrT at hs
  split at hs
  · rename_i n' e' hu
    split at hs
    · rename_i s' g' hs1 hs2
      simp only[Option.some.injEq,Prod.mk.injEq] at hs
      obtain⟨rfl,rfl,rfl⟩:=hs
      cases hxv with
      |ptr=>
       refine⟨_,?_,.ptr r (off+m.toNat*s')⟩
       simp only[execOp,ho,he,ei,Instr.indexAt,Sem.run_bind,Q3j,run_underlying hu,Result.andThen_ok,Sem.run_pure,Instr.sureAddr,Q3r hs1,Sem.run_ite,if_pos hb,Q2j]
    · cases hs
  · cases hs
theorem Q6r{t sz n:Nat}{g:Bool}{cs:List AV}{y:AV}{x i:Operand}{k:IntKind}{m:Int}(ho:o.op = .index t x i)(hx:Q0j x=true)(hi0:Q0j i=true)(h1:σ.ev x = .agg cs)(hi:σ.ev i = .c (.v (.int k m)))(hs:arrT P t=some (n,sz,g))
 (hb:0≤m∧m<n) (hy:if g then y = .agg ((cs.drop (m.toNat*sz)).take sz) else cs[m.toNat*sz]? = some y) (hK:K (σ.put o.dst y)):OpA P o σ K:=
 Q1o _ hK fun E ι a w h=>by
  have hxv:=h.ev x hx
  rw[h1] at hxv
  have hiv:=h.ev i hi0
  rw[hi] at hiv
  obtain⟨ei,_⟩:=hiv.v_inv
  generalize he:a.eval x=v at hxv
  unfold arrT at hs
  split at hs
  · rename_i n' e' hu
    split at hs
    · rename_i s' g' hs1 hs2
      simp only[Option.some.injEq,Prod.mk.injEq] at hs
      obtain⟨rfl,rfl,rfl⟩:=hs
      cases hxv with
      |agg us _ hl hone hr=>
       cases g' with
       |true=>
        simp only[if_true] at hy
        subst hy
        refine⟨.agg (us.drop (m.toNat*s') |>.take s').toArray,?_,RVs.agg ⟨by simp[hl],fun j u x hu' hx'=>?_⟩⟩
        · simp[execOp,ho,he,ei,Instr.index,run_underlying hu,Q3j,hb,part,Q3e hs2,Q3r hs1,List.extract_eq_take_drop]
        · rw[List.getElem?_take] at hu' hx'
          split at hu'
          · rename_i hj
            rw[if_pos hj] at hx'
            rw[List.getElem?_drop] at hu' hx'
            exact⟨hr _ u x hu' hx',hone u (List.mem_of_getElem? hu')⟩
          · cases hu'
       |false=>
        simp only[Bool.false_eq_true,if_false] at hy
        have hlt:m.toNat*s'<us.length:=by have:=(List.getElem?_eq_some_iff.1 hy).1;omega
        have hu':us[m.toNat*s']? = some us[m.toNat*s']:=List.getElem?_eq_getElem hlt
        exact⟨us[m.toNat*s'],by simp[execOp,ho,he,ei,Instr.index,run_underlying hu,Q3j,hb,part,Q3e hs2,Q3r hs1,hu'],hr _ _ _ hu' hy⟩
    · cases hs
  · cases hs
end
def eqVs:List Value→List Value→Option Bool
 |[],[]=>some true
 |.int k a::r,.int k' b::s=>if k=k' then(eqVs r s).map ((a==b) && ·) else none
 |_,_=>none
theorem X0x:∀(a c b d:List Value) (r:Bool),a.length=c.length→eqVs (a++b) (c++d)=some r→∃r1 r2,eqVs a c=some r1∧eqVs b d=some r2∧r=(r1&&r2)
 |[],[],b,d,r,_,h=>⟨true,r,rfl,h,by simp⟩
 |x::a,y::c,b,d,r,hl,h=>by
  have hl':a.length=c.length:=by simpa using hl
  cases x<;>cases y<;>simp only[List.cons_append,eqVs] at h<;>(try cases h)
  · split at h
    · rename_i k p k' q hk
      simp only[Option.map_eq_some_iff] at h
      obtain⟨t,ht,rfl⟩:=h
      obtain⟨r1,r2,h1,h2,rfl⟩:=X0x a c b d t hl' ht
      exact⟨(p==q)&&r1,r2,by simp[eqVs,h1,hk],h2,by simp[Bool.and_assoc]⟩
    · cases h
def vOf(g:Bool)(l:List Value):Value:=if g then .agg l.toArray else l.headD undef
def eqFs(P:Program)(eq:TypeId→Bool):Nat→List Field→Option Nat
 |off,[]=>some off
 |off,f::fs=>if f.offset=off∧f.name≠ "_"∧eq f.type=true then match szT P f.type with|some s=>eqFs P eq (off+s) fs|none=>none else none
def eqTy(P:Program):Nat→TypeId→Bool
 |0,_=>false
 |d+1,t=>match P.underlying t with
  |some (.int _)=>szT P t==some 1
  |some (.array n e)=>eqTy P d e&&szT P t==(szT P e).map (n * ·)
  |some (.struct fs)=>!P.stoodInHeld t&&eqFs P (eqTy P d) 0 fs.toList==szT P t&&(szT P t).isSome
  |_=>false
section
variable {P:Program}
theorem Q7v{t off s:Nat}{g:Bool}{cs:Array Value}{l:List Value}(hs:szT P t=some s)(hg:aggT P t=some g)(h1:g=false→s=1)(hl:(cs.toList.drop off).take s=l)(hn:l.length=s)(w:World) :
 (part t cs off).run P w = .ok (vOf g l) w:=by
 cases g with
 |true=>
  have:cs.extract off (off+s)=l.toArray:=by rw[←hl];apply Array.ext';simp[List.extract_eq_take_drop]
  simp[part,Q3e hg,Q3r hs,vOf,this]
 |false=>
  obtain rfl:=h1 rfl
  match l,hn with
  |[u],_=>
   have h0:cs[off]? = some u:=by
    have:=congrArg (·[0]?) hl
    simpa using this
   simp[part,Q3e hg,vOf,h0]
theorem X4i{t:TypeId}{d:TypeDesc}(h:P.underlying t=some d):aggT P t=some (X5p d):=by
 unfold aggT;rw[h];rfl
def EqAt'(P:Program)(d:Nat)(t:TypeId):Prop:=∀(c s:Nat) (g:Bool) (w:World) (xs ys:List Value) (r:Bool),szT P t=some s→aggT P t=some g→xs.length=s→ys.length=s→eqVs xs ys=some r →
 (Op.equalIn (d+c) t (vOf g xs) (vOf g ys)).run P w = .ok r w∧(g=false→s=1)
theorem Q4d(l:List Value)(off s:Nat):l.drop off=(l.drop off).take s++l.drop (off+s):=by
 rw[←List.drop_drop];exact(List.take_append_drop _ _).symm
theorem Q7q{d c:Nat}(xs ys:Array Value):∀(fs:List Field) (off tot:Nat) (r:Bool) (w:World),(∀f∈fs,eqTy P d f.type=true→EqAt' P d f.type)→eqFs P (eqTy P d) off fs=some tot→xs.size=tot→ys.size=tot →
 eqVs (xs.toList.drop off) (ys.toList.drop off)=some r→(Op.eqFields (d+c) xs ys fs).run P w = .ok r w∧off≤tot
 |[],off,tot,r,w,_,he,h1,h2,hr=>by
  simp only[eqFs,Option.some.injEq] at he
  subst he
  rw[List.drop_eq_nil_of_le (by simp;omega),List.drop_eq_nil_of_le (by simp;omega)] at hr
  cases hr
  exact⟨rfl,Nat.le_refl _⟩
 |f::fs,off,tot,r,w,ih,he,h1,h2,hr=>by
  unfold eqFs at he
  split at he
  · rename_i hcond
    obtain⟨rfl,hname,hty⟩:=hcond
    split at he
    · rename_i s hs
      have hF:=ih f (by simp) hty
      have hle:f.offset+s≤tot:=by
       have:∀(fs:List Field) (o tot:Nat),eqFs P (eqTy P d) o fs=some tot→o≤tot:=by
        intro fs
        induction fs with
        |nil=>intro o tot h;simp[eqFs] at h;omega
        |cons f fs ih=>
         intro o tot h
         unfold eqFs at h
         split at h
         · split at h
           · have:=ih _ _ h;omega
           · cases h
         · cases h
       exact this _ _ _ he
      have hg:∃g,aggT P f.type=some g:=by
       cases d with
       |zero=>simp[eqTy] at hty
       |succ d=>
        unfold eqTy at hty
        cases hu:P.underlying f.type with
        |none=>simp[hu] at hty
        |some dd=>exact⟨_,X4i hu⟩
      obtain⟨g,hg⟩:=hg
      have hlx:((xs.toList.drop f.offset).take s).length=s:=by simp;omega
      have hly:((ys.toList.drop f.offset).take s).length=s:=by simp;omega
      rw[Q4d xs.toList f.offset s,Q4d ys.toList f.offset s] at hr
      obtain⟨r1,r2,e1,e2,rfl⟩:=X0x _ _ _ _ _ (by rw[hlx,hly]) hr
      obtain⟨run1,hone⟩:=hF c s g w _ _ r1 hs hg hlx hly e1
      have p1:=Q7v (P:=P) hs hg hone rfl hlx w
      have p2:=Q7v (P:=P) hs hg hone rfl hly w
      obtain⟨run2,_⟩:=Q7q xs ys fs (f.offset+s) tot r2 w (fun f hf=>ih f (by simp[hf])) he h1 h2 e2
      refine⟨?_,by omega⟩
      simp only[Op.eqFields,if_pos hname,Sem.run_bind,p1,p2,run1,Result.andThen_ok]
      cases r1
      · simp
      · simpa using run2
    · cases he
  · cases he
theorem Q8z{d c e s n:Nat}(hE:EqAt' P d e){g:Bool}(hs:szT P e=some s)(hg:aggT P e=some g)(hc:P.cellsOf e=s)(xs ys:Array Value)(hx:xs.size=n*s)(hy:ys.size=n*s):∀(m k:Nat) (r:Bool) (w:World),k+m=n →
 eqVs (xs.toList.drop (k*s)) (ys.toList.drop (k*s))=some r→(Op.eqItems (d+c) e (P.cellsOf e) xs ys (List.range' k m)).run P w = .ok r w
 |0,k,r,w,hk,hr=>by
  have e1:xs.toList.drop (k*s)=[]:=List.drop_eq_nil_of_le (by simp[hx];rw[show k=n by omega];exact Nat.le_refl _)
  have e2:ys.toList.drop (k*s)=[]:=List.drop_eq_nil_of_le (by simp[hy];rw[show k=n by omega];exact Nat.le_refl _)
  rw[e1,e2] at hr
  cases hr
  rfl
 |m+1,k,r,w,hk,hr=>by
  have hle:k*s+s≤n*s:=by
   have:(k+1)*s≤n*s:=Nat.mul_le_mul_right _ (by omega)
   rwa [Nat.add_mul,Nat.one_mul] at this
  have hlx:((xs.toList.drop (k*s)).take s).length=s:=by simp;omega
  have hly:((ys.toList.drop (k*s)).take s).length=s:=by simp;omega
  rw[Q4d xs.toList (k*s) s,Q4d ys.toList (k*s) s] at hr
  obtain⟨r1,r2,e1,e2,rfl⟩:=X0x _ _ _ _ _ (by rw[hlx,hly]) hr
  obtain⟨run1,hone⟩:=hE c s g w _ _ r1 hs hg hlx hly e1
  have p1:=Q7v (P:=P) hs hg hone rfl hlx w
  have p2:=Q7v (P:=P) hs hg hone rfl hly w
  have e3:k*s+s=(k+1)*s:=by rw[Nat.add_mul,Nat.one_mul]
  rw[e3] at e2
  have run2:=Q8z (c:=c) hE hs hg hc xs ys hx hy m (k+1) r2 w (by omega) e2
  rw[List.range'_succ]
  simp only[Op.eqItems,Sem.run_bind,hc,p1,p2,run1,Result.andThen_ok]
  rw[hc] at run2
  cases r1
  · simp
  · simpa using run2
theorem X0y:∀(d:Nat) (t:TypeId),eqTy P d t=true→EqAt' P d t
 |0,t,h=>by simp[eqTy] at h
 |d+1,t,h=>by
  intro c s g w xs ys r hs hg hx hy hr
  have h':=h
  unfold eqTy at h'
  cases hu:P.underlying t with
  |none=>simp[hu] at h'
  |some dd=>
   have hg':=X4i hu
   rw[hg] at hg'
   simp only[hu] at h'
   have ed:d+1+c=(d+c)+1:=by omega
   rw[ed]
   cases dd with
   |int k=>
    simp[X5p] at hg' h'
    rw[hs] at h'
    cases h'
    subst hg'
    match xs,ys,hx,hy,hr with
    |[x],[y],_,_,hr=>
     cases x<;>cases y<;>simp[eqVs] at hr
     · obtain⟨rfl,hr⟩:=hr
       subst hr
       exact⟨run_equalIn_int w _ _ _ _ _ _ hu,fun _=>rfl⟩
   |array n e=>
    simp[X5p] at hg' h'
    subst hg'
    obtain⟨he,hsz⟩:=h'
    cases hse:szT P e with
    |none=>rw[hse,hs] at hsz;simp at hsz
    |some se=>
     rw[hse,hs] at hsz
     simp at hsz
     subst hsz
     have hge:∃g,aggT P e=some g:=by
      cases d with
      |zero=>simp[eqTy] at he
      |succ d=>
       unfold eqTy at he
       cases hue:P.underlying e with
       |none=>simp[hue] at he
       |some dd=>exact⟨_,X4i hue⟩
     obtain⟨ge,hge⟩:=hge
     have hinfo:∃i,P.info? e=some i∧i.size=se:=by
      unfold szT at hse
      cases hi:P.info? e with
      |none=>simp[hi] at hse
      |some i=>simp[hi] at hse;exact⟨i,rfl,hse⟩
     obtain⟨i,hi,his⟩:=hinfo
     refine⟨?_,fun h=>by cases h⟩
     simp only[vOf,if_true]
     rw[run_equalIn_array w (d+c) _ _ hu hi,List.range_eq_range']
     exact Q8z (n:=n) (X0y d e he) hse hge (by simp[Program.cellsOf,hi,his]) _ _ (by simpa using hx) (by simpa using hy) n 0 r w (by omega) (by simpa using hr)
   |struct fs=>
    simp[X5p] at hg' h'
    subst hg'
    obtain⟨⟨hst,hfs⟩,_⟩:=h'
    rw[hs] at hfs
    refine⟨?_,fun h=>by cases h⟩
    simp only[vOf,if_true]
    have hfo:P.fieldsOf t=fs:=by simp[Program.fieldsOf,hu]
    rw[run_equalIn_struct w (d+c) t _ _ (by rw[hfo];exact hu) hst,hfo]
    exact(Q7q (c:=c) xs.toArray ys.toArray fs.toList 0 s r w (fun f _ hf=>X0y d f.type hf) hfs (by simpa using hx) (by simpa using hy) (by simpa using hr)).1
   |_=>simp at h'
def eqAV:List AV→List AV→Option Bool
 |[],[]=>some true
 |.c (.v (.int k a))::r,.c (.v (.int k' b))::s=>if k=k' then(eqAV r s).map ((a==b) && ·) else none
 |_,_=>none
theorem X2w{S:Nat→Prop}{ι : Nat→Nat×Nat×Nat}{w:World}:∀(cs ds:List AV) (us vs:List Value) (r:Bool),us.length=cs.length→vs.length=ds.length→(∀(j:Nat) (u:Value) (x:AV),us[j]? = some u→cs[j]? = some x→RV S ι w u x) →
 (∀(j:Nat) (u:Value) (x:AV),vs[j]? = some u→ds[j]? = some x→RV S ι w u x)→eqAV cs ds=some r→eqVs us vs=some r
 |[],[],us,vs,r,h1,h2,_,_,h=>by
  obtain rfl:=List.eq_nil_of_length_eq_zero h1
  obtain rfl:=List.eq_nil_of_length_eq_zero h2
  exact h
 |_::_,[],_,_,r,_,_,_,_,h=>by simp[eqAV] at h
 |[],_::_,_,_,r,_,_,_,_,h=>by simp[eqAV] at h
 |x::cs,y::ds,u::us,v::vs,r,h1,h2,g1,g2,h=>by
  unfold eqAV at h
  split at h
  · cases ‹_::_=[]›
  · rename_i k a cs' k' b ds' e1 e2
    cases e1;cases e2
    split at h
    · rename_i hk
      simp only[Option.map_eq_some_iff] at h
      obtain⟨t,ht,rfl⟩:=h
      have ih:=X2w cs ds us vs t (by simpa using h1) (by simpa using h2) (fun j u x hu hx=>g1 (j+1) u x (by simpa using hu) (by simpa using hx)) (fun j u x hu hx=>g2 (j+1) u x (by simpa using hu) (by simpa using hx)) ht
      obtain⟨rfl,_⟩:=(g1 0 _ _ rfl rfl).v_inv
      obtain⟨rfl,_⟩:=(g2 0 _ _ rfl rfl).v_inv
      simp[eqVs,hk,ih]
    · cases h
  · cases h
theorem opA_eqs{σ : St}{K:St→Prop}{o:Oper}{op:BinOp}{t t':TypeId}{x y:Operand}{cs ds:List AV}{r:Bool}(d:Nat)(hop:op = .eql∨op = .neq)(ho:o.op = .binOp op t x y t')(ht:eqTy P d t=true)(hg:aggT P t=some true)(hs:szT P t=some cs.length)(hs':cs.length=ds.length)(hd:d≤10000)(hgu:P.eqGuardType P.depth t=false)
 (hx:Q0j x=true) (hy:Q0j y=true) (h1:σ.ev x = .agg cs) (h2:σ.ev y = .agg ds) (hr:eqAV cs ds=some r) (hK:K (σ.put o.dst (.c (.v (.bool (if op = .eql then r else !r)))))):OpA P o σ K:=
 Q1o _ hK fun E ι a w h=>by
  have hxv:=h.ev x hx
  have hyv:=h.ev y hy
  rw[h1] at hxv
  rw[h2] at hyv
  generalize e1:a.eval x=u at hxv
  generalize e2:a.eval y=v at hyv
  cases hxv with
  |agg us _ hl ho1 hu=>
   cases hyv with
   |agg vs _ hl' ho2 hv=>
    have hre:=X2w cs ds us vs r hl hl' hu hv hr
    obtain⟨c,hc⟩:∃c,Op.maxDepth=d+c:=⟨10000-d,by show(10000:Nat)=_;omega⟩
    have heq:(Op.equal t (.agg us.toArray) (.agg vs.toArray)).run P w = .ok r w:=by
     unfold Op.equal
     rw[hc]
     exact(X0y d t ht c cs.length true w us vs r hs hg hl (by omega) hre).1
    have hguard:∀op,(eqGuard op t x y (.agg us.toArray) (.agg vs.toArray)).run P w = .ok () w:=by
     intro op
     unfold eqGuard
     cases op<;>simp[hgu]
    have g1:binOp .eql t (.agg us.toArray) (.agg vs.toArray)=(do pure (.bool (←Op.equal t (.agg us.toArray) (.agg vs.toArray)))):=rfl
    have g2:binOp .neq t (.agg us.toArray) (.agg vs.toArray)=(do pure (.bool (!(←Op.equal t (.agg us.toArray) (.agg vs.toArray))))):=rfl
    refine⟨_,?_,Q2g _ rfl⟩
    rcases hop with rfl|rfl
    · simp only[execOp,ho,e1,e2,Sem.run_bind,hguard,Result.andThen_ok,g1,heq,Sem.run_pure,if_true]
    · simp only[execOp,ho,e1,e2,Sem.run_bind,hguard,Result.andThen_ok,g2,heq,Sem.run_pure,reduceCtorEq,if_false]
end
def slcZ(P:Program)(t:Nat):Option (Nat×Nat×Nat):=
 match P.underlying t with
 |some (.slice e)=>match P.info? e with
  |some i=>match i.zero with
   |some z=>if z.cells.size=i.size∧z.cells.toList.all (·.oneCell')=true then some (e,i.size,i.bytes) else none
   |none=>none
  |none=>none
 |_=>none
theorem Q5h{P:Program}{t e sz by_:Nat}(h:slcZ P t=some (e,sz,by_)):P.underlying t=some (.slice e)∧∃i z,P.info? e=some i∧i.zero=some z∧i.size=sz∧i.bytes=by_∧z.cells.size=sz∧z.cells.toList.all (·.oneCell')=true:=by
 unfold slcZ at h
 split at h
 · rename_i e' hu
   split at h
   · rename_i i hi
     split at h
     · rename_i z hz
       split at h
       · rename_i hs
         simp only[Option.some.injEq,Prod.mk.injEq] at h
         obtain⟨rfl,rfl,rfl⟩:=h
         exact⟨hu,i,z,hi,hz,rfl,rfl,hs⟩
       · cases h
     · cases h
   · cases h
 · cases h
def St.src(σ : St):AV→Option (Nat×List AV)
 |.row r _ _ n=>(hget σ.H r).map fun cs=>(n,cs)
 |.c (.sl _ _ n cs)=>some (n,cs.map .c)
 |.c (.v (.slice none 0 0))=>some (0,[])
 |_=>none
section
variable {E:Env} {ι : Nat→Nat×Nat×Nat} {σ : St} {a:Act} {w:World}
theorem Conc.src(h:Conc E ι σ a w){v:Value}{x:AV}{n sz:Nat}{ds:List AV}(hv:RV (Sx E ι σ.H) ι w v x)(hs:σ.src x=some (n,ds))(hl:ds.length=n*sz)(h0:0<sz) :
 ∃A c us,v = .slice A n c∧Sl w w.heap.size sz A n c us∧RVs (Sx E ι σ.H) ι w us ds:=by
 have nil:ds=[]→n=0→Sl w w.heap.size sz none 0 0 []∧RVs (Sx E ι σ.H) ι w [] ds:=fun e _=>⟨Sl.nil,by subst e;exact⟨rfl,fun j u x hu=>by cases hu⟩⟩
 cases hv with
 |row r e sz' n' c h1 h2 h3 h4 h0'=>
  simp only[St.src,Option.map_eq_some_iff,Prod.mk.injEq] at hs
  obtain⟨cs,hr,rfl,rfl⟩:=hs
  rcases h.heap.blk r cs hr with⟨hz,rfl⟩|⟨cur,hh,hsz,hlc,hc,hone1⟩
  · have:n'=0:=by
     rcases Nat.eq_zero_or_pos n' with h|h
     · exact h
     · have:=Nat.mul_pos h h0;simp at hl;omega
    subst this
    exact⟨_,c,[],rfl,⟨h1,h2,(fun e=>by cases e),by simp,fun h=>absurd h (by omega)⟩,⟨rfl,fun j u x hu=>by cases hu⟩⟩
  · refine⟨_,c,cur.toList.take cs.length,rfl,⟨h1,h2,(fun e=>by cases e),by simp;omega,fun hn=>⟨(ι r).1,0,rfl,(Array.getElem?_eq_some_iff.1 hh).1,fun j u hu=>?_⟩⟩,⟨by simp;omega,fun j u x hu hx=>?_⟩⟩
    · rw[List.getElem?_take] at hu
      split at hu
      · simp only[World.cell?,hh,Nat.zero_add]
        simpa using hu
      · cases hu
    · rw[List.getElem?_take] at hu
      split at hu
      · exact hc j u x (by simpa using hu) hx
      · cases hu
 |rnil A r e sz' hz=>
  simp only[St.src,Option.map_eq_some_iff,Prod.mk.injEq] at hs
  obtain⟨cs,hr,rfl,rfl⟩:=hs
  have:cs=[]:=List.eq_nil_of_length_eq_zero (by simpa using hl)
  exact⟨A,0,[],rfl,⟨Nat.le_refl _,Nat.zero_le _,fun _=>rfl,by simp,fun h=>absurd h (by omega)⟩,(nil this rfl).2⟩
 |c v p hp=>
  cases hp with
  |v x hone=>
   unfold St.src at hs
   split at hs
   · rename_i heq;cases heq
   · rename_i heq;cases heq
   · rename_i heq
     cases heq
     cases hs
     exact⟨none,0,[],rfl,(nil rfl rfl).1,(nil rfl rfl).2⟩
   · cases hs
  |sl ex sz' A n' c us cs h1 h2 h3 hx hl' hn h4 h5=>
   simp only[St.src,Option.some.injEq,Prod.mk.injEq] at hs
   obtain⟨rfl,rfl⟩:=hs
   refine⟨A,c,us,rfl,⟨h1,h2,h3,by simpa [hl'] using hl,fun hn0=>?_⟩,⟨by simpa using hl',fun j u x hu hx=>?_⟩⟩
   · have hne:us≠[]:=by
      intro e;subst e
      have:=Nat.mul_pos hn0 h0
      simp at hl' hl;omega
     obtain⟨b,off,hA,hS,hc⟩:=h4 hne
     obtain⟨u0,rest,hu0⟩:=List.exists_cons_of_ne_nil hne
     exact⟨b,off,hA,block_lt_of_cell (hc 0 u0 (by rw[hu0];rfl)),hc⟩
   · rw[List.getElem?_map,Option.map_eq_some_iff] at hx
     obtain⟨z,hz,rfl⟩:=hx
     exact⟨.c _ _ (h5 j u z hu hz),(h5 j u z hu hz).one⟩
  |mp=>simp[St.src] at hs
 |_=>simp[St.src] at hs
def Q9h(w:World)(g:Nat):Prop:=∀cur t f,w.heap[g]? = some (.cells cur t f)→∀u∈cur.toList,u.oneCell'=true
theorem Q9y(z:Array Value)(k:Nat)(h:z.toList.all (·.oneCell')=true):∀u∈(Builtin.zeroCells z k).toList,u.oneCell'=true:=fun u hu=>by
 simp only[Builtin.zeroCells,Array.toList_map,List.mem_map,Array.mem_toList_iff] at hu
 obtain⟨i,hi,rfl⟩:=hu
 have hlt:i<k*z.size:=by simpa using hi
 have hz:0<z.size:=by
  rcases Nat.eq_zero_or_pos z.size with h0|h0
  · rw[h0,Nat.mul_zero] at hlt;omega
  · exact h0
 have hm:i%z.size<z.size:=Nat.mod_lt _ hz
 rw[getElem!_pos z _ hm]
 exact List.all_eq_true.1 h _ (by simp)
theorem Q4q{P:Program}{w:World}{B sz n c:Nat}{A:Option Addr}{xs:List Value}(hr:Sl w B sz A n c xs):(Builtin.firstCells sz n (.slice A n c)).run P w.drew = .ok xs.toArray w.drew:=by
 rcases A with _|a
 · obtain⟨rfl,rfl,rfl⟩:=hr.of_none
   exact run_firstCells_none _ _ _ _ _
 · refine run_firstCells_some w.drew sz n a n c xs hr.len_ fun j v hj=>?_
   have hn:0<n:=by
    rcases Nat.eq_zero_or_pos n with h|h
    · subst h
      have:xs=[]:=List.eq_nil_of_length_eq_zero (by simpa using hr.len_)
      subst this;simp at hj
    · exact h
   obtain⟨b,o,hA,_,hc⟩:=hr.cells hn
   injection hA with hA
   subst hA
   rw[Q2j]
   exact hc j v hj
theorem Q5j{P:Program}(w:World)(t ty e:TypeId)(i:TypeInfo)(z:Value)(size bytes:Nat)(ht:P.underlying t=some (.slice e))(hi:P.info? e=some i)(hz:i.zero=some z)
 (hsize:i.size=size) (hby:i.bytes=bytes) (hzs:z.cells.size=size) (hsz:0<size)
 (A0:Option Addr) (n c0:Nat) (xs:List Value) (hold:(Builtin.firstCells size n (.slice A0 n c0)).run P w.drew = .ok xs.toArray w.drew)
 (B:Nat) (A:Option Addr) (m c:Nat) (news:List Value) (hr:Sl w B size A m c news) (h1:∀u∈news,u.oneCell'=true) (hroom:¬n+m≤c0)
 (hbytes:(n+m)*bytes≤140737488355328) (hby0:0<bytes) (hz1:z.cells.toList.all (·.oneCell')=true) (hx1:∀u∈xs,u.oneCell'=true)
 {v':Value} {w':World} (hrun:(Builtin.append_ #[t,t] ty #[.slice A0 n c0,.slice A m c]).run P w = .ok v' w'):∀g,v'.ownBlock=some g→Q9h w' g:=by
 have hb2:(n+m)*1≤(n+m)*bytes:=Nat.mul_le_mul_left _ hby0
 have hsrc:Src P i.size t (.slice A m c) m news w:=by
  cases A with
  |none=>
   obtain⟨rfl,rfl,rfl⟩:=hr.of_none
   exact Src.ofNil w ht 0
  |some a0=>
   refine Src.ofSlice w ht a0 m c news (by rw[hsize];exact hr.len_) (fun j u hu=>?_) h1
   rcases Nat.eq_zero_or_pos m with h0|h0
   · subst h0
     have hn:news=[]:=List.eq_nil_of_length_eq_zero (by simpa using hr.len_)
     subst hn
     simp at hu
   · obtain⟨b,o,hA,hb,hc⟩:=hr.cells h0
     injection hA with hA
     subst hA
     rw[Q2j];exact hc j u hu
 have hfit:=growslice_fits (need:=n+m) (old:=c0) (bytes:=bytes) (by omega) hbytes
 rw[run_append_grow_src (P:=P) (w:=w) t t ty e i z ht hi hz A0 n c0 xs (by rw[hsize];exact hold) _ m news hsrc (by omega) (by omega) (by rw[hby];exact hfit)] at hrun
 cases hrun
 intro g' hg' cur' t' f' hcur' u hu
 simp only[Value.ownBlock,Option.some.injEq] at hg'
 subst hg'
 have:=heap_alloc_new w.drew (.cells ((xs++news).toArray++Builtin.zeroCells z.cells (grownCap w (n+m) c0 e-(n+m))) e)
 rw[show w.drew.heap.size=w.heap.size from rfl] at this
 rw[this] at hcur'
 cases hcur'
 simp only[Array.toList_append,List.append_assoc,List.mem_append] at hu
 rcases hu with hu|hu|hu
 · exact hx1 u hu
 · exact h1 u hu
 · exact Q9y z.cells _ hz1 u hu
theorem Q6k{P:Program}{A:Option Addr}(sz c:Nat)(w:World):(Builtin.firstCells sz 0 (.slice A 0 c)).run P w = .ok ([]:List Value).toArray w:=by
 cases A with
 |none=>exact run_firstCells_none _ _ _ _ _
 |some a=>exact run_firstCells_some w sz 0 a 0 c [] (by simp) (fun j v hj=>by cases hj)
theorem Q8f{P:Program}(w:World)(base:Nat)(t ty e:TypeId)(i:TypeInfo)(z:Value)(size bytes:Nat)(ht:P.underlying t=some (.slice e))(hi:P.info? e=some i)(hz:i.zero=some z)
 (hsize:i.size=size) (hby:i.bytes=bytes) (hzs:z.cells.size=size) (hsz:0<size)
 (A0:Option Addr) (n c0:Nat) (xs:List Value) (hown:Ow w base e size A0 n c0 xs)
 (B:Nat) (A:Option Addr) (m c:Nat) (news:List Value) (hr:Sl w B size A m c news) (h1:∀u∈news,u.oneCell'=true)
 (hbytes:(n+m)*bytes≤140737488355328) (hby0:0<bytes) (hz1:z.cells.toList.all (·.oneCell')=true) (hA0:∀g,(Value.slice A0 n c0).ownBlock=some g→Q9h w g)
 {v':Value} {w':World} (hrun:(Builtin.append_ #[t,t] ty #[.slice A0 n c0,.slice A m c]).run P w = .ok v' w'):∀g,v'.ownBlock=some g→Q9h w' g:=by
 have h63:n+m≤maxLen:=by
  have:(n+m)*1≤(n+m)*bytes:=Nat.mul_le_mul_left _ hby0
  unfold maxLen;omega
 have hb2:(n+m)*1≤(n+m)*bytes:=Nat.mul_le_mul_left _ hby0
 have hsrc:Src P i.size t (.slice A m c) m news w:=by
  cases A with
  |none=>
   obtain⟨rfl,rfl,rfl⟩:=hr.of_none
   exact Src.ofNil w ht 0
  |some a0=>
   refine Src.ofSlice w ht a0 m c news (by rw[hsize];exact hr.len_) (fun j u hu=>?_) h1
   rcases Nat.eq_zero_or_pos m with h0|h0
   · subst h0
     have hn:news=[]:=List.eq_nil_of_length_eq_zero (by simpa using hr.len_)
     subst hn
     simp at hu
   · obtain⟨b,o,hA,hb,hc⟩:=hr.cells h0
     injection hA with hA
     subst hA
     rw[Q2j];exact hc j u hu
 have hnl:=hr.len_
 by_cases hroom:n+m≤c0
 · rcases hown.form with⟨rfl,rfl,rfl,rfl⟩|⟨g,cur,rfl,hbg,hlt,hh,hnc,hcm,hcs,htk⟩
   · obtain rfl:m=0:=by omega
     have hn:news=[]:=List.eq_nil_of_length_eq_zero (by simpa using hnl)
     subst hn
     rw[run_append_nothing w t t ty e i ht hi none 0 0 (Nat.le_refl _) _ hsrc] at hrun
     cases hrun
     exact fun g hg=>by cases hg
   · rcases Nat.eq_zero_or_pos m with rfl|hm
     · have hn:news=[]:=List.eq_nil_of_length_eq_zero (by simpa using hnl)
       subst hn
       rw[run_append_nothing w t t ty e i ht hi _ n c0 (by omega) _ hsrc] at hrun
       cases hrun
       exact hA0
     · obtain⟨b,o,rfl,hb,hc⟩:=hr.cells hm
       have e1:(n+m)*size=n*size+m*size:=Nat.add_mul _ _ _
       have e2:(n+m)*size≤c0*size:=Nat.mul_le_mul_right _ hroom
       rw[run_append_room (P:=P) (w:=w) t ty e i ht hi g n c0 cur hh ⟨b,o,none⟩ m c news (by rw[hsize];exact hnl) (fun j u hu=>by rw[Q2j];exact hc j u hu) h1 hroom (by rw[hsize];omega)] at hrun
       cases hrun
       intro g' hg' cur' t' f' hcur' u hu
       simp only[Value.ownBlock,Option.some.injEq] at hg'
       subst hg'
       rw[setRow_heap w g cur _ e (0,0) hh] at hcur'
       cases hcur'
       have hcu:=hA0 g rfl cur e (0,0) hh
       simp only[List.append_assoc,List.mem_append] at hu
       rcases hu with hu|hu|hu
       · exact hcu u (List.mem_of_mem_take hu)
       · exact h1 u hu
       · exact hcu u (List.mem_of_mem_drop hu)
 · refine Q5j w t ty e i z size bytes ht hi hz hsize hby hzs hsz A0 n c0 xs (Q4q hown.sl) B A m c news hr h1 hroom hbytes hby0 hz1 (fun u hu=>?_) hrun
   rcases hown.form with⟨rfl,rfl,rfl,rfl⟩|⟨g,cur,rfl,hbg,hlt,hh,hnc,hcm,hcs,htk⟩
   · cases hu
   · rw[←htk] at hu
     exact hA0 g rfl cur e (0,0) hh u (List.mem_of_mem_take hu)
def Q9l(H:List (Nat×List AV)):Option Nat→List (Nat×List AV)
 |some r=>hdel H r
 |none=>H
theorem Conc.grow(h:Conc E ι σ a w){d:Nat}(hf:σ.free d=true)(hd:d<1000){w':World}{own:Option Nat}(hg:w.grownBy w' own)(rr:Option Nat)
 (hown:∀b,own=some b→∃r cs,rr=some r∧hget σ.H r=some cs∧(ι r).2.1≠0∧(ι r).1=b) (p:Nat×Nat×Nat) {cs:List AV} (hgb:p.2.1≠0→own=some p.1∨w.heap.size≤p.1)
 (hcs:AV.refsL d cs=false) (hB:(p.2.1=0∧cs=[])∨∃cur,w'.heap[p.1]? = some (.cells cur p.2.2 (0,0))∧cur.size=p.2.1∧cs.length≤cur.size∧(∀(j:Nat) (u:Value) (x:AV),cur[j]? = some u→cs[j]? = some x→RV (Sx E ι σ.H) ι w u x∧u.oneCell'=true)∧∀u∈cur.toList,u.oneCell'=true) :
 Conc E (upd ι d p) ⟨σ.T,hput (Q9l σ.H rr) d cs⟩ a w':=by
 obtain⟨H1,hH1⟩:∃H1,H1=(Q9l σ.H rr):=⟨_,rfl⟩
 rw[←hH1]
 have hsub:∀q es,hget H1 q=some es→hget σ.H q=some es∧rr≠some q:=fun q es hq=>by
  rw[hH1] at hq
  cases rr with
  |none=>exact⟨hq,by simp⟩
  |some r=>
   simp only[Q9l] at hq
   rw[X5a] at hq
   split at hq
   · cases hq
   · rename_i hne;exact⟨hq,fun e=>hne (by injection e with e;exact e.symm)⟩
 unfold St.free at hf
 simp only[Bool.and_eq_true,Bool.not_eq_true'] at hf
 obtain⟨hT,hH⟩:=hf
 have hS:∀b,Sx E ι σ.H b→b<w.heap.size→Sx E (upd ι d p) (hput H1 d cs) b∧w'.heap[b]? = w.heap[b]?:=by
  intro b ⟨h1,h2⟩ hb
  have hbo:some b≠own:=by
   intro e
   obtain⟨r,ds,_,hr,hz,he⟩:=hown b e.symm
   exact h2 r ds hr hz he
  refine⟨⟨h1,fun q es hq hz=>?_⟩,hg.block b hb hbo⟩
  rw[Q2q] at hq
  split at hq
  · rename_i e;subst e
    rw[Q1q] at hz ⊢
    rcases hgb hz with hgb|hgb
    · intro e;exact hbo (by rw[hgb,←e])
    · omega
  · rename_i e;rw[Q2l e] at hz ⊢;exact h2 q es (hsub q es hq).1 hz
 have hR:∀{v:Value} {x:AV},RV (Sx E ι σ.H) ι w v x→AV.refs d x=false→RV (Sx E (upd ι d p) (hput H1 d cs)) (upd ι d p) w' v x:=fun hv hx=>
  hv.mono hS fun r hr=>Q2l fun e=>by rw[e,hx] at hr;cases hr
 have hkeepblk:∀q es,hget σ.H q=some es→rr≠some q→(ι q).2.1≠0→w'.heap[(ι q).1]? = w.heap[(ι q).1]?:=fun q es hq hne hz=>by
  refine hg.block _ ((h.heap.blk q es hq).lt hz) fun e=>?_
  obtain⟨r,ds,hrr,hr,hz',he⟩:=hown _ e.symm
  exact h.heap.inj q r es ds hq hr (fun e=>hne (by rw[hrr,e])) hz hz' he.symm
 refine⟨h.defers.mono hS,h.size,fun i=>?_,⟨fun r ds hr=>?_,fun r q ds es hr hq hne hz1 hz2=>?_⟩,⟨hg.os.trans h.keep.os,hg.tape.trans h.keep.tape,hg.output.trans h.keep.output,?_,fun b hb hbD=>?_,fun r ds hr=>?_⟩⟩
 · refine hR (h.tmp i) ?_
   show AV.refs d (σ.T.getD i .any)=false
   rw[List.getD_eq_getElem?_getD]
   cases hi:σ.T[i]? with
   |none=>rfl
   |some x=>exact Q2w hT i x hi
 · have hr':hget (hput H1 d cs) r=some ds:=hr
   rw[Q2q] at hr'
   split at hr'
   · rename_i e';subst e';cases hr'
     rcases hB with⟨h0,he⟩|⟨cur,hh,hsz,hl,hv,hone1⟩
     · exact .inl ⟨by rw[Q1q];exact h0,he⟩
     · refine .inr ⟨cur,by rw[Q1q];exact hh,by rw[Q1q];exact hsz,hl,fun j u x hu hx=>?_,hone1⟩
       obtain⟨h1,h2⟩:=hv j u x hu hx
       exact⟨hR h1 (Q2w hcs j x hx),h2⟩
   · rename_i e'
     obtain⟨hr2,hne⟩:=hsub r ds hr'
     rcases h.heap.blk r ds hr2 with⟨h0,he⟩|⟨cur',hh',hs',hl',hc',hone1'⟩
     · exact .inl ⟨by rw[Q2l e'];exact h0,he⟩
     · by_cases hz:(ι r).2.1=0
       · exact .inl ⟨by rw[Q2l e'];exact hz,List.eq_nil_of_length_eq_zero (by omega)⟩
       · exact .inr ⟨cur',by rw[Q2l e',hkeepblk r ds hr2 hne hz];exact hh',by rw[Q2l e'];exact hs',hl',fun j u x hu hx=>⟨hR (hc' j u x hu hx).1 (Q2w (Q6x hH r ds hr2).2 j x hx),(hc' j u x hu hx).2⟩,hone1'⟩
 · have hr':hget (hput H1 d cs) r=some ds:=hr
   have hq':hget (hput H1 d cs) q=some es:=hq
   rw[Q2q] at hr' hq'
   have key:∀q es,hget H1 q=some es→p.2.1≠0→(ι q).2.1≠0→p.1≠(ι q).1:=fun q es hq hp hz=>by
    obtain⟨hq2,hneq⟩:=hsub q es hq
    rcases hgb hp with hgb|hgb
    · obtain⟨r,ds,hrr,hr,hz',he⟩:=hown _ hgb
      intro e
      exact h.heap.inj r q ds es hr hq2 (fun e=>hneq (by rw[hrr,e])) hz' hz (he.trans e)
    · have:=(h.heap.blk q es hq2).lt hz;omega
   split at hr'<;>split at hq'
   · omega
   · rename_i e1 e2
     subst e1
     rw[Q1q,Q2l e2]
     rw[Q2l e2] at hz2
     rw[Q1q] at hz1
     exact key q es hq' hz1 hz2
   · rename_i e1 e2
     subst e2
     rw[Q1q,Q2l e1]
     rw[Q2l e1] at hz1
     rw[Q1q] at hz2
     exact(key r ds hr' hz2 hz1).symm
   · rename_i e1 e2
     rw[Q2l e1,Q2l e2]
     rw[Q2l e1] at hz1
     rw[Q2l e2] at hz2
     exact h.heap.inj r q ds es (hsub r ds hr').1 (hsub q es hq').1 hne hz1 hz2
 · have:=h.keep.size;have:=hg.size;omega
 · have:=h.keep.size
   rw[hg.block b (by omega) fun e=>?_]
   · exact h.keep.block b hb hbD
   · obtain⟨r,ds,_,hr,hz,he⟩:=hown b e.symm
     by_cases hm:r∈E.D
     · have m1:=(h.keep.mine r ds hr).1 hm
       rw[m1] at hz he;exact hbD r hm hz he
     · rcases(h.keep.mine r ds hr).2 hm hz with h1|⟨q,hq,h2,h3⟩
       · omega
       · exact hbD q hq h2 (by rw[h3,he])
 · have hr':hget (hput H1 d cs) r=some ds:=hr
   rw[Q2q] at hr'
   split at hr'
   · rename_i e';subst e'
     refine⟨fun hm=>by have:=E.hD r hm;omega,fun _ hz=>?_⟩
     rw[Q1q] at hz ⊢
     rcases hgb hz with hgb|hgb
     · obtain⟨r',ds',_,hr2,hz,he⟩:=hown _ hgb
       rw[←he]
       by_cases hm:r'∈E.D
       · have m1:=(h.keep.mine r' ds' hr2).1 hm
         rw[m1] at hz ⊢;exact .inr ⟨r',hm,hz,rfl⟩
       · exact(h.keep.mine r' ds' hr2).2 hm hz
     · have:=h.keep.size;exact .inl (by omega)
   · rename_i e'
     rw[Q2l e'];exact h.keep.mine r ds (hsub r ds hr').1
theorem Conc.appended(h:Conc E ι σ a w){d:Nat}(hf:σ.free d=true)(hd:d<1000){w':World}(rr:Option Nat){e sz k:Nat}{A:Option Addr}{c:Nat}{us:List Value}{cs:List AV}{own:Option Nat}(hsz:0<sz)
 (how:Ow w' 0 e sz A k c us) (hg:w.grownBy w' own) (hblk:∀g,(Value.slice A k c).ownBlock=some g→own=some g∨w.heap.size≤g)
 (hown:∀b,own=some b→∃r cs,rr=some r∧hget σ.H r=some cs∧(ι r).2.1≠0∧(ι r).1=b) (hcs:AV.refsL d cs=false) (hv:RVs (Sx E ι σ.H) ι w us cs) (hall:∀g,(Value.slice A k c).ownBlock=some g→Q9h w' g) :
 ∃p,Conc E (upd ι d p) ⟨σ.T,hput (Q9l σ.H rr) d cs⟩ a w'∧∀S w2,RV S (upd ι d p) w2 (.slice A k c) (.row d e sz k):=by
 have hlen:=how.len_
 rcases how.form with⟨rfl,rfl,rfl,rfl⟩|⟨g,cur,rfl,_,hlt,hh,hnc,hcm,hcz,ht⟩
 · have:cs=[]:=List.eq_nil_of_length_eq_zero (by rw[←hv.1];rfl)
   exact⟨(0,0,e),h.grow hf hd hg rr hown (0,0,e) (fun h=>absurd rfl h) hcs (.inl ⟨rfl,this⟩),fun S w2=>.rnil none d e sz (by rw[Q1q])⟩
 · by_cases hc0:c=0
   · subst hc0
     obtain rfl:k=0:=by omega
     have:cs=[]:=List.eq_nil_of_length_eq_zero (by rw[←hv.1,hlen,Nat.zero_mul])
     exact⟨(0,0,e),h.grow hf hd hg rr hown (0,0,e) (fun h=>absurd rfl h) hcs (.inl ⟨rfl,this⟩),fun S w2=>.rnil _ d e sz (by rw[Q1q])⟩
   · have hpos:0<c*sz:=Nat.mul_pos (by omega) hsz
     have hkc:k*sz≤c*sz:=Nat.mul_le_mul_right _ hnc
     have hcl:cs.length=k*sz:=by rw[←hv.1,hlen]
     refine⟨(g,c*sz,e),h.grow hf hd hg rr hown (g,c*sz,e) (fun _=>?_) hcs (.inr ⟨cur,hh,hcz,by omega,fun j u x hu hx=>?_,hall g rfl cur e (0,0) hh⟩),fun S w2=>?_⟩
     · exact hblk g rfl
     · have hj:=(List.getElem?_eq_some_iff.1 hx).1
       refine hv.2 j u x ?_ hx
       rw[←ht,List.getElem?_take,if_pos (by omega)]
       simpa using hu
     · have:=RV.row (S:=S) (ι:=upd ι d (g,c*sz,e)) (w:=w2) d e sz k c hnc hcm (by rw[Q1q]) (by rw[Q1q]) (by rw[Q1q];simp only;omega)
       rwa [Q1q] at this
end
section
variable {P:Program} {o:Oper} {σ : St} {K:St→Prop}
theorem RVs.app{S:Nat→Prop}{ι : Nat→Nat×Nat×Nat}{w:World}{us vs:List Value}{cs ds:List AV}(h:RVs S ι w us cs)(k:RVs S ι w vs ds):RVs S ι w (us++vs) (cs++ds):=
 ⟨by simp[h.1,k.1],fun j u x hu hx=>by
   rw[List.getElem?_append] at hu hx
   rw[h.1] at hu
   split at hu
   · rename_i hj;rw[if_pos hj] at hx;exact h.2 j u x hu hx
   · rename_i hj;rw[if_neg hj] at hx;exact k.2 _ u x hu hx⟩
theorem RVs.one{S:Nat→Prop}{ι : Nat→Nat×Nat×Nat}{w:World}{us:List Value}{cs:List AV}(h:RVs S ι w us cs):∀u∈us,u.oneCell'=true:=fun u hu=>by
 obtain⟨j,hj⟩:=List.mem_iff_getElem?.1 hu
 have hlt:=(List.getElem?_eq_some_iff.1 hj).1
 exact(h.2 j u _ hj (List.getElem?_eq_getElem (by rw[←h.1];exact hlt))).2
def St.dst(σ : St):AV→Option (Option Nat×Nat×List AV)
 |.row r _ _ n=>(hget σ.H r).map fun cs=>(some r,n,cs)
 |.c (.v (.slice none 0 0))=>some (none,0,[])
 |_=>none
theorem X5y{d:Nat}{s x:Operand}{t e sz by_ n m:Nat}{rr:Option Nat}{cs ds:List AV}(ho:o.op = .call {callee:=.builtin .append,args:=#[s,x],argTypes:=#[t,t]})(hs0:Q0j s=true)(hx0:Q0j x=true)(hz:slcZ P t=some (e,sz,by_))(h0:0<sz)(hb0:0<by_)
 (hsz:∀r e' sz' n,σ.ev s = .row r e' sz' n→e'=e∧sz'=sz) (hs:σ.dst (σ.ev s)=some (rr,n,cs)) (hx:σ.src (σ.ev x)=some (m,ds)) (hcl:cs.length=n*sz) (hdl:ds.length=m*sz) (hby:(n+m)*by_≤140737488355328)
 (hd:o.dst=some d) (hf:σ.free d=true) (hd2:d<1000) (hcs:AV.refsL d cs=false) (hds:AV.refsL d ds=false)
 (hK:K ((St.mk σ.T (hput (Q9l σ.H rr) d (cs++ds))).put o.dst (.row d e sz (n+m)))):OpA P o σ K:=by
 intro E ι a w hc K' Q hK'
 obtain⟨hu,i,z,hi,hiz,hsize,hbytes,hzs,hz1⟩:=Q5h hz
 obtain⟨A,c,vs,hxv,hsl,hvs⟩:=hc.src (hc.ev x hx0) hx hdl h0
 have hrefs:AV.refsL d (cs++ds)=false:=by simp[hcs,hds]
 have finish:∀{A0:Option Addr} {c0:Nat} {us:List Value},a.eval s = .slice A0 n c0→Ow w 0 e sz A0 n c0 us→RVs (Sx E ι σ.H) ι w us cs→(∀b,(Value.slice A0 n c0).ownBlock=some b→∃r cs,rr=some r∧hget σ.H r=some cs∧(ι r).2.1≠0∧(ι r).1=b)→(∀g,(Value.slice A0 n c0).ownBlock=some g→Q9h w g)→o.wp P a w K' Q:=by
  intro A0 c0 us hsv how hus hown hao
  obtain⟨A',c',w',hrun,how',hg,hblk⟩:=run_app (P:=P) w 0 t o.type e i z sz by_ hu hi hiz hsize hbytes hzs h0 A0 n c0 us how w.heap.size A m c vs hsl hvs.one hby hb0 (Nat.zero_le _)
  obtain⟨p,hconc,hrv⟩:=hc.appended hf hd2 rr (cs:=cs++ds) h0 how' hg (fun g hg'=>by
   rcases hblk with hb|hb
   · exact .inl (hb.symm.trans hg')
   · rw[hb] at hg';exact .inr (by injection hg' with hg';omega)) hown hrefs (hus.app hvs) (Q8f w 0 t o.type e i z sz by_ hu hi hiz hsize hbytes hzs h0 A0 n c0 us how w.heap.size A m c vs hsl hvs.ones hby hb0 hz1 hao hrun)
  unfold Oper.wp execOp
  simp only[ho,resolve,invoke,builtin,Sem.run_bind,Sem.run_pure,Result.andThen_ok,List.map_toArray,List.map_cons,List.map_nil,hsv,hxv,hrun]
  exact hK' _ _ _ _ hK (hconc.put o.dst (hrv _ _))
 have hsv:=hc.ev s hs0
 generalize he:a.eval s=v at hsv
 generalize hes:σ.ev s=y at hsv hs hsz
 cases hsv with
 |row r e' sz' n' c0 g1 g2 g3 g4 g0=>
  obtain⟨rfl,rfl⟩:=hsz r e' sz' n' rfl
  simp only[St.dst,Option.map_eq_some_iff,Prod.mk.injEq] at hs
  obtain⟨cs',hr,rfl,rfl,rfl⟩:=hs
  rcases hc.heap.blk r cs' hr with⟨hz',_⟩|⟨cur,hh,hcz,hlc,hcur,hone1⟩
  · exact absurd hz' g0
  · refine finish (us:=cur.toList.take (n'*sz')) he ⟨by simp;omega,.inr ⟨_,c0,cur,rfl,Nat.zero_le _,by rw[hh,g4],g1,g2,by rw[hcz,g3],rfl⟩⟩ ⟨by simp;omega,fun j u x hu hx=>?_⟩ (fun b hb=>?_) (fun g hg' cur' t' f' hh'=>?_)
    · rw[List.getElem?_take] at hu
      split at hu
      · exact hcur j u x (by simpa using hu) hx
      · cases hu
    · simp only[Value.ownBlock,Option.some.injEq] at hb
      exact⟨r,cs',rfl,hr,g0,hb⟩
    · simp only[Value.ownBlock,Option.some.injEq] at hg'
      subst hg'
      rw[hh] at hh'
      cases hh'
      exact hone1
 |rnil A0 r e' sz' hz'=>
  obtain⟨rfl,rfl⟩:=hsz r e' sz' 0 rfl
  simp only[St.dst,Option.map_eq_some_iff,Prod.mk.injEq] at hs
  obtain⟨cs',hr,rfl,rfl,rfl⟩:=hs
  have hnil:cs'=[]:=List.eq_nil_of_length_eq_zero (by simpa using hcl)
  subst hnil
  cases A0 with
  |none=>exact finish (us:=[]) he Ow.nil ⟨rfl,fun j u x hu=>by cases hu⟩ (fun b hb=>by cases hb) fun b hb=>by cases hb
  |some b0=>
   rcases Nat.eq_zero_or_pos m with rfl|hm
   · have hvs0:vs=[]:=List.eq_nil_of_length_eq_zero (by have:=hsl.len_;simpa using this)
     subst hvs0
     have hds0:ds=[]:=List.eq_nil_of_length_eq_zero (by simpa using hdl)
     subst hds0
     have hsrc:Src P i.size t (.slice A 0 c) 0 [] w:=by
      cases A with
      |none=>
       have:=hsl.none_c
       subst this
       exact Src.ofNil w hu 0
      |some a0=>exact Src.ofSlice w hu a0 0 c [] (by simp) (fun j u hu=>by cases hu) (fun u hu=>by cases hu)
     have hrun:=run_append_nothing w t t o.type e' i hu hi (some b0) 0 0 (Nat.le_refl _) (.slice A 0 c) hsrc
     have hconc:=hc.grow (w':=w) hf hd2 (World.grownBy.refl w none) (some r) (fun b hb=>by cases hb) (0,0,e') (cs:=[]) (fun h=>absurd rfl h) rfl (.inl ⟨rfl,rfl⟩)
     unfold Oper.wp execOp
     simp only[ho,resolve,invoke,builtin,Sem.run_bind,Sem.run_pure,Result.andThen_ok,List.map_toArray,List.map_cons,List.map_nil,he,hxv,hrun]
     exact hK' _ _ _ _ hK (hconc.put o.dst (.rnil (some b0) d e' sz' (by rw[Q1q])))
   · obtain⟨b,off,rfl,_,hcell⟩:=hsl.cells hm
     have hallg:∀{v':Value} {w':World},(Builtin.append_ #[t,t] o.type #[.slice (some b0) 0 0,.slice (some ⟨b,off,none⟩) m c]).run P w = .ok v' w'→∀g,v'.ownBlock=some g→Q9h w' g:=fun hrun=>Q5j w t o.type e' i z sz' by_ hu hi hiz hsize hbytes hzs h0 (some b0) 0 0 [] (Q6k _ _ _) w.heap.size (some ⟨b,off,none⟩) m c vs hsl hvs.ones (by omega) hby hb0 hz1 (fun u hu=>by cases hu) hrun
     obtain⟨v',w',hrun,how',hg⟩:=run_append_arg_grows (P:=P) w t o.type e' i z sz' by_ hu hi hiz hsize hbytes hzs h0 b0 0 0 [] (by simp) (fun j u hu=>by cases hu) ⟨b,off,none⟩ m c vs hsl.len_ (fun j u hu=>by rw[Q2j];exact hcell j u hu) (by omega)
      (by have:(0+m)*1≤(0+m)*by_:=Nat.mul_le_mul_left _ hb0;unfold maxLen;omega) hby
     obtain⟨A',c',rfl⟩:∃A' c',v' = .slice A' (0+m) c':=by
      rcases how' with⟨_,⟨rfl,h0⟩|⟨g,cap,cur,rfl,_⟩⟩
      · omega
      · exact⟨_,_,rfl⟩
     have hown':Ow w' w.heap.size e' sz' A' (0+m) c' ([]++vs):=how'
     obtain⟨p,hconc,hrv⟩:=hc.appended hf hd2 (some r) (cs:=[]++ds) h0 (hown'.mono (Nat.zero_le _)) hg (fun g hg'=>by
      rcases hown'.form with⟨rfl,_⟩|⟨g2,_,rfl,hb2,_⟩
      · cases hg'
      · simp only[Value.ownBlock,Option.some.injEq] at hg'
        exact .inr (by omega)) (fun b hb=>by cases hb) hrefs (by simpa using hvs) (hallg hrun)
     unfold Oper.wp execOp
     simp only[ho,resolve,invoke,builtin,Sem.run_bind,Sem.run_pure,Result.andThen_ok,List.map_toArray,List.map_cons,List.map_nil,he,hxv,hrun]
     exact hK' _ _ _ _ hK (hconc.put o.dst (hrv _ _))
 |c v p hp=>
  unfold St.dst at hs
  split at hs
  · rename_i heq;cases heq
  · rename_i heq
    cases heq
    cases hs
    cases hp with
    |v _ _=>exact finish (us:=[]) he Ow.nil ⟨rfl,fun j u x hu=>by cases hu⟩ (fun b hb=>by cases hb) fun b hb=>by cases hb
  · cases hs
 |_=>simp[St.dst] at hs
end
end
section
open Go.RowKit
def Q6z(pl:List (Nat×Nat))(cs:List AV):List (Nat×AV)→Option (List AV)
 |[]=>some cs
 |(i,x)::rest=>match pl[i]?,x.cells with
  |some (off,size),some ys=>if ys.length=size∧off+size≤cs.length then Q6z pl (spl cs off ys) rest else none
  |_,_=>none
def plT(P:Program)(t:TypeId):Option (List (Nat×Nat)):=
 match P.underlying t with
 |some (.struct fs)=>fs.toList.mapM (fun f=>(P.info? f.type).map fun i=>(f.offset,i.size))
 |some (.array n e)=>(P.info? e).map fun i=>(List.range n).map fun k=>(k*i.size,i.size)
 |_=>none
theorem Q6y{S:Nat→Prop}{ι : Nat→Nat×Nat×Nat}{w:World}{pl:List (Nat×Nat)}{place:Nat→Option (Nat×Nat)}(hp:∀i p,pl[i]? = some p→place i=some p):∀(parts:List (Nat×AV)) (vs:List (Nat×Value)) (us:List Value) (cs ds:List AV),
 RVs S ι w us cs→vs.length=parts.length→(∀(j:Nat) (p:Nat×Value) (q:Nat×AV),vs[j]? = some p→parts[j]? = some q→p.1=q.1∧RV S ι w p.2 q.2)→Q6z pl cs parts=some ds→∃us':List Value,Instr.fill place us.toArray vs=some us'.toArray∧RVs S ι w us' ds
 |[],vs,us,cs,ds,hu,hl,_,h=>by
  obtain rfl:=List.eq_nil_of_length_eq_zero hl
  cases h
  exact⟨us,rfl,hu⟩
 |(i,x)::parts,[],us,cs,ds,hu,hl,_,h=>by simp at hl
 |(i,x)::parts,(i',v)::vs,us,cs,ds,hu,hl,hv,h=>by
  obtain⟨rfl,hvx⟩:=hv 0 _ _ rfl rfl
  simp only at hvx
  unfold Q6z at h
  split at h
  · rename_i off size ys hpl hys
    split at h
    · rename_i hcond
      obtain⟨hsz,hle⟩:=hcond
      have hc:=hvx.cells hys
      have hvs:v.cells.size=size:=by rw[←hsz,←hc.1];simp
      obtain⟨g1,g2⟩:=Great.foldl_set off v.cells.toList 0 us.toArray
      have hul:=hu.1
      obtain⟨us',h1,h2⟩:=Q6y hp parts vs ((v.cells.toList.zipIdx 0).foldl (fun cs (x:Value×Nat)=>cs.setIfInBounds (off+x.2) x.1) us.toArray).toList (spl cs off ys) ds
       ⟨by simp only[Array.length_toList,g1,spl,List.size_toArray,List.length_append,List.length_take,List.length_drop];omega,fun j u x' hj hx'=>by
         simp only[Array.getElem?_toList] at hj
         rw[g2 j] at hj
         have hyl:v.cells.toList.length=ys.length:=hc.1
         simp only[Nat.add_zero,List.size_toArray] at hj
         unfold spl at hx'
         simp only[List.getElem?_append,List.length_take,List.getElem?_take,List.getElem?_drop,List.length_append] at hx'
         have e2:min off cs.length=off:=by omega
         rw[e2] at hx'
         by_cases hj1:j<off
         · rw[if_neg (by omega)] at hj
           rw[if_pos (by omega),if_pos hj1,if_pos hj1] at hx'
           exact hu.2 j u x' (by simpa using hj) hx'
         · by_cases hj2:j<off+ys.length
           · rw[if_pos (by omega)] at hj
             rw[if_pos (by omega),if_neg hj1] at hx'
             exact hc.2 _ u x' hj hx'
           · rw[if_neg (by omega)] at hj
             rw[if_neg (by omega)] at hx'
             have e4:off+ys.length+(j-(off+ys.length))=j:=by omega
             rw[e4] at hx'
             exact hu.2 j u x' (by simpa using hj) hx'⟩
       (by simpa using hl) (fun j p q hj hq=>hv (j+1) p q (by simpa using hj) (by simpa using hq)) h
      refine⟨us',?_,h2⟩
      unfold Instr.fill
      rw[hp i' _ hpl]
      simp only
      rw[if_neg (by simp[hvs];omega)]
      rw[←h1]
      congr 1
      rw[←Array.foldl_toList,Array.toList_zipIdx]
    · cases h
  · cases h
theorem built_of{P:Program}{t:TypeId}{pl:List (Nat×Nat)}{z:List Value}(hp:plT P t=some pl)(hz:Q2f P t=some z):∃place:Nat→Option (Nat×Nat),(∀i p,pl[i]? = some p→place i=some p)∧∀parts,P.built t parts=Instr.fill place z.toArray parts:=by
 unfold Q2f at hz
 unfold plT at hp
 cases hi:P.info? t with
 |none=>simp[hi] at hz
 |some it=>
  cases hzz:it.zero with
  |none=>simp[hi,hzz] at hz
  |some zv=>
   have hzc:zv.cells=z.toArray:=by simp[hi,hzz] at hz;rw[←hz]
   split at hp
   · rename_i fs hu
     refine⟨fun i=>pl.toArray[i]?,fun i p h=>by simpa using h,fun parts=>?_⟩
     unfold Program.built
     rw[hi,hu]
     simp only[hzz,hp,hzc]
   · rename_i n e hu
     cases he:P.info? e with
     |none=>simp[he] at hp
     |some ie=>
      simp[he] at hp
      refine⟨fun i=>some (i*ie.size,ie.size),fun i p h=>?_,fun parts=>?_⟩
      · rw[←hp] at h
        simp only[List.getElem?_map,Option.map_eq_some_iff] at h
        obtain⟨k,hk,rfl⟩:=h
        have:=List.getElem?_eq_some_iff.1 hk
        obtain⟨_,e⟩:=this
        simp at e
        rw[e]
      · unfold Program.built
        rw[hi,hu]
        simp only[hzz,he,hzc]
   · cases hp
section
variable {P:Program} {o:Oper} {σ : St} {K:St→Prop}
theorem X0k{E:Env}{ι : Nat→Nat×Nat×Nat}{a:Act}{w:World}(h:Conc E ι σ a w){parts:Array (Nat×Operand)}(hk:parts.toList.all (fun p=>Q0j p.2)=true) :
 ∀(j:Nat) (p:Nat×Value) (q:Nat×AV),(parts.toList.map fun x=>(x.1,a.eval x.2))[j]? = some p→(parts.toList.map fun x=>(x.1,σ.ev x.2))[j]? = some q→p.1=q.1∧RV (Sx E ι σ.H) ι w p.2 q.2:=fun j p q hp hq=>by
 simp only[List.getElem?_map,Option.map_eq_some_iff] at hp hq
 obtain⟨x,hx,rfl⟩:=hp
 obtain⟨y,hy,rfl⟩:=hq
 rw[hx] at hy;cases hy
 exact⟨rfl,h.ev x.2 (List.all_eq_true.1 hk x (List.mem_of_getElem? hx))⟩
theorem opA_build{t:TypeId}{parts:Array (Nat×Operand)}{pl:List (Nat×Nat)}{z:List Value}{ds:List AV}(ho:o.op = .build t parts)(hk:parts.toList.all (fun p=>Q0j p.2)=true)(hp:plT P t=some pl)(hz:Q2f P t=some z)(h1:z.all (·.oneCell')=true)
 (hf:Q6z pl (z.map fun x=>.c (.v x)) (parts.toList.map fun x=>(x.1,σ.ev x.2))=some ds) (hK:K (σ.put o.dst (.agg ds))):OpA P o σ K:=
 Q1o _ hK fun E ι a w h=>by
  obtain⟨place,hpl,hb⟩:=built_of hp hz
  obtain⟨us',hrun,hrv⟩:=Q6y (S:=Sx E ι σ.H) (ι:=ι) (w:=w) hpl _ (parts.toList.map fun x=>(x.1,a.eval x.2)) z _ ds (X1h (t:=t) h1) (by simp) (X0k h hk) hf
  refine⟨.agg us'.toArray,?_,hrv.agg⟩
  have hpt:(parts.map fun x=>(x.1,a.eval x.2)).toList=parts.toList.map fun x=>(x.1,a.eval x.2):=by simp
  have:=run_build (P:=P) w t (parts.map fun x=>(x.1,a.eval x.2)) us'.toArray (by rw[hpt,hb];exact hrun)
  simp only[execOp,ho,Sem.run_bind,this,Result.andThen_ok,Sem.run_pure]
theorem Q9k{d:Nat}{t:TypeId}{len e sz by_:Nat}{parts:Array (Nat×Operand)}{z:List Value}{ds:List AV}(ho:o.op = .buildSlice t len parts)(hk:parts.toList.all (fun p=>Q0j p.2)=true)(hs:slcZ P t=some (e,sz,by_))(hz:Q2f P e=some z)(h1:z.all (·.oneCell')=true)
 (hsmall:len*sz≤16777216) (hsz:0<sz) (hd:o.dst=some d) (hfr:σ.free d=true) (hd2:d<1000) (hf:Q6z ((List.range len).map fun k=>(k*sz,sz)) (List.replicate (len*sz) .any) (parts.toList.map fun x=>(x.1,σ.ev x.2))=some ds) (hlen:ds.length=len*sz) (hcs:AV.refsL d ds=false)
 (hK:K ((St.mk σ.T (hput σ.H d ds)).put o.dst (.row d e sz len))):OpA P o σ K:=
 X3p (.row d e sz len) hd hfr hd2 hcs hK fun E ι a w h=>by
  obtain⟨hu,i,zv,hi,hiz,hsize,hbytes,hzs⟩:=Q5h hs
  have hzl:zv.cells.toList=z:=by simp[Q2f,hi,hiz] at hz;exact hz
  have hz1:∀k,k<zv.cells.size→(zv.cells[k]!).oneCell'=true:=fun k hk=>by
   have hmem:zv.cells[k]!∈z:=by rw[←hzl];simp[hk]
   exact List.all_eq_true.1 h1 _ hmem
  by_cases h0:len*sz=0
  · have hlen0:len=0:=by
     rcases Nat.mul_eq_zero.1 h0 with h|h
     · exact h
     · omega
    subst hlen0
    have hds:ds=[]:=List.eq_nil_of_length_eq_zero (by simpa using hlen)
    subst hds
    have hparts:parts = #[]:=by
     cases hpl:parts.toList with
     |nil=>exact Array.toList_eq_nil_iff.1 hpl
     |cons x r=>rw[hpl] at hf;simp[Q6z] at hf
    subst hparts
    refine⟨.slice (some ⟨w.heap.size,0,none⟩) 0 0,#[],e,?_,Nat.le_refl _,fun j u x hu=>by simp at hu,fun u hu=>by simp at hu,fun S ι' w' hι=>.rnil _ d e sz (by rw[hι];rfl)⟩
    simp[execOp,ho,Instr.buildSlice,run_underlying hu,sizeOf,typeInfo,hi,hsize,newRow,Instr.fill]
    have:∀f:Nat→Value,Array.map f (Array.range 0) = #[]:=fun f=>by apply Array.ext';simp
    rw[this]
  · have hrow:∃us:List Value,((Array.range (len*i.size)).map (zv.cells[· % zv.cells.size]!))=us.toArray∧RVs (Sx E ι σ.H) ι w us (List.replicate (len*sz) .any):=by
     refine⟨((Array.range (len*i.size)).map (zv.cells[· % zv.cells.size]!)).toList,by apply Array.ext';simp,by simp[hsize],fun j u x hu hx=>?_⟩
     rw[List.getElem?_replicate] at hx
     split at hx
     · cases hx
       refine⟨.any _,?_⟩
       simp only[Array.getElem?_toList,Array.getElem?_map,Option.map_eq_some_iff] at hu
       obtain⟨k,_,rfl⟩:=hu
       exact hz1 _ (Nat.mod_lt _ (by omega))
     · cases hx
    obtain⟨us,hus,hrv⟩:=hrow
    obtain⟨us',hrun,hrv'⟩:=Q6y (S:=Sx E ι σ.H) (ι:=ι) (w:=w) (pl:=(List.range len).map fun k=>(k*sz,sz)) (place:=fun k=>some (k*i.size,i.size)) (fun k p hp=>by
     simp only[List.getElem?_map,Option.map_eq_some_iff] at hp
     obtain⟨m,hm,rfl⟩:=hp
     obtain⟨_,e⟩:=List.getElem?_eq_some_iff.1 hm
     simp at e
     rw[e,hsize]) _ (parts.toList.map fun x=>(x.1,a.eval x.2)) us _ ds hrv (by simp) (X0k h hk) hf
    have hlu:us'.length=len*sz:=by rw[hrv'.1,hlen]
    refine⟨.slice (some ⟨w.heap.size,0,none⟩) len len,us'.toArray,e,?_,by simp[hrv'.1],fun j u x hu hx=>hrv'.2 j u x (by simpa using hu) hx,fun u hu=>hrv'.ones u (by simpa using hu),fun S ι' w' hι=>?_⟩
    · have hpt:(parts.map fun x=>(x.1,a.eval x.2)).toList=parts.toList.map fun x=>(x.1,a.eval x.2):=by simp
      have:=run_buildSlice (P:=P) w t e len (parts.map fun x=>(x.1,a.eval x.2)) us'.toArray i zv hu hi hiz (by rw[hsize];omega) (by rw[hsize];exact h0) (by rw[hus,hpt];exact hrun)
      simp only[execOp,ho,Sem.run_bind,this,Result.andThen_ok,Sem.run_pure]
    · have hml:len≤maxLen:=by
       have:len*1≤len*sz:=Nat.mul_le_mul_left _ hsz
       unfold maxLen;omega
      have:=RV.row (S:=S) (ι:=ι') (w:=w') d e sz len len (Nat.le_refl _) hml (by rw[hι];simp[hlu]) (by rw[hι]) (by rw[hι];simp[hlu];omega)
      rwa [hι] at this
def Q4k(sz:Nat):Nat→Nat→List (Nat×Nat)
 |_,0=>[]
 |off,n+1=>(off,sz)::Q4k sz (off+sz) n
theorem Q7e(sz:Nat):∀(n off:Nat),Q4k sz off n=(List.range n).map fun k=>(off+k*sz,sz)
 |0,off=>rfl
 |n+1,off=>by
  rw[Q4k,Q7e sz n (off+sz),List.range_succ_eq_map,List.map_cons,List.map_map]
  congr 1
  · simp
  · apply List.map_congr_left
    intro k _
    simp only[Function.comp,Nat.succ_eq_add_one,Nat.add_mul,Nat.one_mul,Prod.mk.injEq,and_true]
    omega
def lenA:AV→Option Nat
 |.row _ _ _ n=>some n
 |.cut _ _ _ _ n _ _=>some n
 |.c (.sl _ _ n _)=>some n
 |.c (.v (.slice none 0 0))=>some 0
 |_=>none
theorem opA_len{t:TypeId}{x:Operand}{n:Nat}(ho:o.op = .call {callee:=.builtin .len,args:=#[x],argTypes:=#[t]})(hx:Q0j x=true)(hs:(slcT P t).isSome=true)(hn:lenA (σ.ev x)=some n)(hK:K (σ.put o.dst (.c (.v (.int .i64 n))))):OpA P o σ K:=
 Q1o _ hK fun E ι a w h=>by
  have hxv:=h.ev x hx
  generalize he:a.eval x=v at hxv
  generalize hes:σ.ev x=y at hxv hn
  have hv:∃A c,v = .slice A n c:=by
   cases hxv with
   |row r e sz n' c=>simp[lenA] at hn;subst hn;exact⟨_,_,rfl⟩
   |rnil A r e sz=>simp[lenA] at hn;subst hn;exact⟨_,_,rfl⟩
   |cut r e sz lo n' c=>simp[lenA] at hn;subst hn;exact⟨_,_,rfl⟩
   |cnil A r e sz=>simp[lenA] at hn;subst hn;exact⟨_,_,rfl⟩
   |c v p hp=>
    cases hp with
    |v _ _=>
     unfold lenA at hn
     split at hn
     · rename_i heq;cases heq
     · rename_i heq;cases heq
     · rename_i heq;cases heq
     · rename_i heq;cases heq;cases hn;exact⟨_,_,rfl⟩
     · cases hn
    |sl ex sz A n' c us cs=>simp[lenA] at hn;subst hn;exact⟨_,_,rfl⟩
    |mp=>simp[lenA] at hn
   |_=>simp[lenA] at hn
  obtain⟨A,c,rfl⟩:=hv
  obtain⟨p,hp⟩:=Option.isSome_iff_exists.1 hs
  have hu:∃e,P.underlying t=some (.slice e):=by
   unfold slcT at hp
   split at hp
   · rename_i e hu;exact⟨e,hu⟩
   · cases hp
  obtain⟨e,hu⟩:=hu
  refine⟨.int .i64 n,?_,Q2g _ rfl⟩
  simp[execOp,ho,resolve,invoke,builtin,he,Builtin.len_,run_underlying hu,goInt]
def bnd(ev:Operand→AV)(dflt:Nat):Option Operand→Option Int
 |none=>some dflt
 |some x=>match ev x with
  |.c (.v (.int _ m))=>some m
  |_=>none
theorem Q2u{k:IntKind}{m:Int}{y:Nat}{code:BoundsCode}(h:0≤m∧m≤y)(w:World):(Instr.sliceBound (.int k m) y code).run P w = .ok m.toNat w:=by
 simp[Instr.sliceBound,Q3j,h]
def Q9m(mx:Option Operand)(m h:Int):Bool:=mx.isSome&&decide (m=h)
theorem opA_slice{t e sz by_ n:Nat}{ex:Bool}{cs:List PV}{x:Operand}{lo hi mx:Option Operand}{l h m:Int}(ho:o.op = .slice t x lo hi mx)(hx:Q0j x=true)(hlo:lo.toList.all Q0j=true)(hhi:hi.toList.all Q0j=true)(hmx:mx.toList.all Q0j=true)(hs:slcT P t=some (e,sz,by_))
 (h1:(σ.ev x).le (.c (.sl ex sz n cs))) (hl:bnd σ.ev 0 lo=some l) (hh:bnd σ.ev n hi=some h) (hm:bnd σ.ev n mx=some m) (hmi:mx.isSome=true→hi.isSome=true) (hb:0≤l∧l≤h∧h≤n∧(mx.isSome=true→h≤m∧m≤n))
 (hK:K (σ.put o.dst (.c (.sl (Q9m mx m h) sz (h.toNat-l.toNat) ((cs.drop (l.toNat*sz)).take ((h.toNat-l.toNat)*sz)))))):OpA P o σ K:=
 Q1o _ hK fun E ι a w hc=>by
  have hxv:=h1 _ _ _ _ (hc.ev x hx)
  generalize he:a.eval x=v at hxv
  cases hxv with
  |c _ _ hp=>
   cases hp with
   |sl _ _ A _ c us _ g1 g2 g3 g4 hul hcl g5 g6=>
    have hinfo:∃i,P.underlying t=some (.slice e)∧P.info? e=some i∧i.size=sz:=by
     unfold slcT at hs
     split at hs
     · rename_i e' hu
       split at hs
       · rename_i i hi
         simp only[Option.some.injEq,Prod.mk.injEq] at hs
         obtain⟨rfl,rfl,rfl⟩:=hs
         exact⟨i,hu,hi,rfl⟩
       · cases hs
     · cases hs
    obtain⟨i,hu,hi',hsz⟩:=hinfo
    have hsize:(sizeOf e).run P w = .ok sz w:=Q3r (by simp[szT,hi',hsz]) w
    have bv:∀{op:Option Operand} {dflt:Nat} {q:Int} (hok:op.toList.all Q0j=true) (hq:bnd σ.ev dflt op=some q),(op=none∧q=dflt)∨∃x k,op=some x∧a.eval x = .int k q:=fun {op dflt q} hok hq=>by
     cases op with
     |none=>simp[bnd] at hq;exact .inl ⟨rfl,hq.symm⟩
     |some x=>
      unfold bnd at hq
      simp only at hq
      split at hq
      · rename_i k m' hev
        cases hq
        have:=hc.ev x (by simpa using hok)
        rw[hev] at this
        exact .inr ⟨x,k,rfl,this.v_inv.1⟩
      · cases hq
    obtain⟨b1,b2,b3,b4⟩:=hb
    have hbounds:∃M,(Instr.sliceBounds true n c (lo.map a.eval) (hi.map a.eval) (mx.map a.eval)).run P w = .ok (l.toNat,h.toNat,M) w∧h.toNat≤M∧M≤c∧(mx.isSome=true→M=m.toNat)∧(mx.isSome=false→M=c):=by
     rcases bv hmx hm with⟨rfl,rfl⟩|⟨xm,km,rfl,em⟩
     · refine⟨c,?_,by omega,Nat.le_refl _,(fun h=>by cases h),fun _=>rfl⟩
       rcases bv hhi hh with⟨rfl,rfl⟩|⟨xh,kh,rfl,eh⟩
       · rcases bv hlo hl with⟨rfl,rfl⟩|⟨xl,kl,rfl,el⟩
         · simp[Instr.sliceBounds]
         · simp[Instr.sliceBounds,el,Q2u (P:=P) (m:=l) (y:=n) ⟨b1,by omega⟩]
       · have hbh:=fun code=>Q2u (P:=P) (k:=kh) (m:=h) (y:=c) (code:=code) ⟨by omega,by omega⟩ w
         rcases bv hlo hl with⟨rfl,rfl⟩|⟨xl,kl,rfl,el⟩
         · simp[Instr.sliceBounds,eh,hbh]
         · simp[Instr.sliceBounds,eh,el,hbh,Q2u (P:=P) (m:=l) (y:=h.toNat) ⟨b1,by omega⟩]
     · obtain⟨c1,c2⟩:=b4 rfl
       refine⟨m.toNat,?_,by omega,by omega,fun _=>rfl,fun h=>by cases h⟩
       have hbm:=fun code=>Q2u (P:=P) (k:=km) (m:=m) (y:=c) (code:=code) ⟨by omega,by omega⟩ w
       rcases bv hhi hh with⟨rfl,rfl⟩|⟨xh,kh,rfl,eh⟩
       · have:=hmi rfl;cases this
       · have hbh:=fun code=>Q2u (P:=P) (k:=kh) (m:=h) (y:=m.toNat) (code:=code) ⟨by omega,by omega⟩ w
         rcases bv hlo hl with⟨rfl,rfl⟩|⟨xl,kl,rfl,el⟩
         · simp[Instr.sliceBounds,em,eh,hbm,hbh]
         · simp[Instr.sliceBounds,em,eh,el,hbm,hbh,Q2u (P:=P) (m:=l) (y:=h.toNat) ⟨b1,by omega⟩]
    obtain⟨M,hrunb,hM1,hM2,hM3,hM4⟩:=hbounds
    have hrun:(execOp a.eval o).run P w = .ok (.value (.slice (if M=l.toNat then A else A.map (·.add (l.toNat*sz))) (h.toNat-l.toNat) (M-l.toNat))) w:=by
     simp only[execOp,ho,he,Instr.sliceAt,Sem.run_bind,run_underlying hu,Result.andThen_ok,Instr.slice,hrunb,hsize,Sem.run_pure]
    refine⟨_,hrun,.c _ _ (.sl _ sz _ _ _ ((us.drop (l.toNat*sz)).take ((h.toNat-l.toNat)*sz)) _ (by omega) (by omega) (fun hA=>?_) (fun hex=>?_) (by simp[hul]) ?_ (fun hne=>?_) fun j u y hu' hy=>?_)⟩
    · by_cases hMl:M=l.toNat
      · omega
      · rw[if_neg hMl] at hA
        cases A with
        |none=>have:=g3 rfl;omega
        |some ad=>cases hA
    · cases mx with
      |none=>simp[Q9m] at hex
      |some xm=>
       simp[Q9m] at hex
       have:=hM3 rfl
       omega
    · have:(h.toNat-l.toNat)*sz≤cs.length-l.toNat*sz:=by
       rw[hcl,←Nat.sub_mul];exact Nat.mul_le_mul_right _ (by omega)
      rw[List.length_take,List.length_drop];omega
    · have hne':us≠[]:=by intro e;subst e;simp at hne
      obtain⟨b,off,rfl,hS,hcell⟩:=g5 hne'
      have hhl:¬h.toNat-l.toNat=0:=by intro e;rw[e] at hne;simp at hne
      rw[if_neg (by omega)]
      refine⟨b,off+l.toNat*sz,by simp[Q2j],hS,fun j u hu'=>?_⟩
      rw[List.getElem?_take] at hu'
      split at hu'
      · rw[List.getElem?_drop] at hu';rw[Nat.add_assoc];exact hcell _ u hu'
      · cases hu'
    · rw[List.getElem?_take] at hu' hy
      split at hu'
      · rename_i hj
        rw[if_pos hj] at hy
        rw[List.getElem?_drop] at hu' hy;exact g6 _ u y hu' hy
      · cases hu'
theorem opA_min2{ts:Array TypeId}{x y:Operand}{k k':IntKind}{m n:Int}(ho:o.op = .call {callee:=.builtin .min,args:=#[x,y],argTypes:=ts})(hx:Q0j x=true)(hy:Q0j y=true)(h1:σ.ev x = .c (.v (.int k m)))(h2:σ.ev y = .c (.v (.int k' n)))(hK:K (σ.put o.dst (.c (.v (.int k (if n<m then n else m)))))):OpA P o σ K:=
 Q1o _ hK fun E ι a w h=>by
  have hxv:=h.ev x hx
  rw[h1] at hxv
  have hyv:=h.ev y hy
  rw[h2] at hyv
  obtain⟨e1,_⟩:=hxv.v_inv
  obtain⟨e2,_⟩:=hyv.v_inv
  refine⟨.int k (if n<m then n else m),?_,Q2g _ rfl⟩
  simp[execOp,ho,resolve,invoke,builtin,e1,e2,Builtin.min_,Builtin.min2]
end
def X5u(e sz:Nat):AV→Bool
 |.row r e' sz' _=>e'==e&&sz'==sz
 |_=>true
def undT(P:Program)(t:TypeId):Bool:=(P.underlying t).isSome
def evO(P:Program)(o:Oper)(σ : St)(K:St→Prop):Prop:=
 match o.op with
 |.move x=>Q0j x=true∧K (σ.put o.dst (σ.ev x))
 |.assign x=>Q0j x=true∧K (σ.put o.dst (σ.ev x))
 |.pick c x y=>Q0j c=true∧Q0j x=true∧Q0j y=true∧match σ.ev c with
  |.c (.v (.bool t))=>K (σ.put o.dst (Q3o t (σ.ev x) (σ.ev y)))
  |_=>False
 |.binOp op t x y _=>Q0j x=true∧Q0j y=true∧match σ.ev x,σ.ev y with
  |.c (.v (.bool u)),.c (.v (.bool v))=>(op = .eql∨op = .neq)∧Q2r P t=true∧K (σ.put o.dst (.c (.v (.bool (if op = .eql then u==v else u != v)))))
  |.c (.v u),.c (.v v)=>match bop op u v with
   |some r=>K (σ.put o.dst (.c (.v r)))
   |none=>OpA P o σ K
  |.agg cs,.agg ds=>match eqAV cs ds with
   |some r=>(op = .eql∨op = .neq)∧eqTy P 6 t=true∧aggT P t=some true∧szT P t=some cs.length∧cs.length=ds.length∧P.eqGuardType P.depth t=false∧K (σ.put o.dst (.c (.v (.bool (if op = .eql then r else !r)))))
   |none=>False
  |_,_=>OpA P o σ K
 |.unOp op t x=>Q0j x=true∧match op,σ.ev x with
  |.not,.c (.v (.bool b))=>K (σ.put o.dst (.c (.v (.bool (!b)))))
  |.neg,.c (.v (.int k n))=>K (σ.put o.dst (.c (.v (.int k (k.wrap (0-n))))))
  |.xor,.c (.v (.int k n))=>K (σ.put o.dst (.c (.v (.int k (k.wrap (BitVec.ofInt k.bits (if k.signed then -1 else k.max) ^^^ BitVec.ofInt k.bits n).toNat)))))
  |_,_=>False
 |.convert s d x=>Q0j x=true∧undT P s=true∧match intT P d,σ.ev x with
  |some k',.c (.v (.int k n))=>K (σ.put o.dst (.c (.v (.int k' (k'.wrap n)))))
  |_,_=>False
 |.extract x k=>Q0j x=true∧match σ.ev x with
  |.tup xs=>match xs[k]? with
   |some y=>K (σ.put o.dst y)
   |none=>False
  |_=>False
 |.nilCheck x=>Q0j x=true∧match σ.ev x with
  |.ptr r off=>K (σ.put o.dst (.ptr r off))
  |.fn f cs=>K (σ.put o.dst (.fn f cs))
  |.ep cs=>K (σ.put o.dst (.ep cs))
  |_=>False
 |.makeFunc (.func f) first caps=>first = #[]∧caps.toList.all Q0j=true∧K (σ.put o.dst (.fn f (caps.toList.map σ.ev)))
 |.load t x=>Q0j x=true∧match σ.ev x,szT P t,aggT P t with
  |.ptr r off,some s,some true=>match hget σ.H r with
   |some cs=>off+s≤cs.length∧0<s∧K (σ.put o.dst (.agg ((cs.drop off).take s)))
   |none=>False
  |.ptr r off,some s,some false=>match hget σ.H r with
   |some cs=>match cs[off]? with
    |some y=>K (σ.put o.dst y)
    |none=>False
   |none=>False
  |.ep cs,some s,some true=>s≤cs.length∧K (σ.put o.dst (.agg ((cs.take s).map .c)))
  |.ep cs,some s,some false=>match cs[0]? with
   |some y=>K (σ.put o.dst (.c y))
   |none=>False
  |_,_,_=>False
 |.fieldAddr t x k=>Q0j x=true∧match σ.ev x,fldT P t k with
  |.ptr r off,some (ofs,s,_)=>s≠0∧K (σ.put o.dst (.ptr r (off+ofs)))
  |.ep cs,some (ofs,s,_)=>s≠0∧ofs<cs.length∧K (σ.put o.dst (.ep (cs.drop ofs)))
  |_,_=>False
 |.field t x k=>Q0j x=true∧match σ.ev x,fldT P t k with
  |.agg cs,some (ofs,s,true)=>K (σ.put o.dst (.agg ((cs.drop ofs).take s)))
  |.agg cs,some (ofs,s,false)=>match cs[ofs]? with
   |some y=>K (σ.put o.dst y)
   |none=>False
  |_,_=>False
 |.alloc t=>match o.dst,Q2f P t with
  |some d,some z=>σ.free d=true∧d<1000∧z.all (·.oneCell')=true∧K ((St.mk σ.T (hput σ.H d (z.map fun x=>.c (.v x)))).put (some d) (.ptr d 0))
  |_,_=>False
 |.box t x=>Q0j x=true∧match o.dst,(σ.ev x).cells with
  |some d,some ys=>σ.free d=true∧d<1000∧AV.refsL d ys=false∧K ((St.mk σ.T (hput σ.H d ys)).put (some d) (.ptr d 0))
  |_,_=>False
 |.store t p x=>Q0j p=true∧Q0j x=true∧o.dst=none∧match σ.ev p,(σ.ev x).cells with
  |.ptr r off,some ys=>match hget σ.H r with
   |some cs=>szT P t=some ys.length∧off+ys.length≤cs.length∧0<ys.length∧K ⟨σ.T,hput σ.H r (spl cs off ys)⟩
   |none=>False
  |_,_=>False
 |.indexAddr t x i=>Q0j x=true∧Q0j i=true∧match σ.ev x,σ.ev i with
  |.row r _ sz n,.c (.v (.int _ m))=>(slcT P t).map (fun p=>p.2.1)=some sz∧0≤m∧m<n∧K (σ.put o.dst (.ptr r (m.toNat*sz)))
  |.c (.sl _ sz n cs),.c (.v (.int _ m))=>(slcT P t).map (fun p=>p.2.1)=some sz∧0<sz∧0≤m∧m<n∧K (σ.put o.dst (.ep ((cs.drop (m.toNat*sz)).take sz)))
  |.ptr r off,.c (.v (.int _ m))=>match arrT P t with
   |some (n,sz,_)=>0≤m∧m<n∧K (σ.put o.dst (.ptr r (off+m.toNat*sz)))
   |none=>False
  |_,_=>OpA P o σ K
 |.index t x i=>Q0j x=true∧Q0j i=true∧match σ.ev x,σ.ev i,arrT P t with
  |.agg cs,.c (.v (.int _ m)),some (n,sz,true)=>0≤m∧m<n∧K (σ.put o.dst (.agg ((cs.drop (m.toNat*sz)).take sz)))
  |.agg cs,.c (.v (.int _ m)),some (n,sz,false)=>0≤m∧m<n∧match cs[m.toNat*sz]? with
   |some y=>K (σ.put o.dst y)
   |none=>False
  |_,_,_=>False
 |.build t parts=>parts.toList.all (fun p=>Q0j p.2)=true∧match plT P t,Q2f P t with
  |some pl,some z=>z.all (·.oneCell')=true∧match Q6z pl (z.map fun x=>.c (.v x)) (parts.toList.map fun x=>(x.1,σ.ev x.2)) with
   |some ds=>K (σ.put o.dst (.agg ds))
   |none=>False
  |_,_=>False
 |.buildSlice t len parts=>parts.toList.all (fun p=>Q0j p.2)=true∧match o.dst,slcZ P t with
  |some d,some (e,sz,_)=>match Q2f P e,Q6z (Q4k sz 0 len) (List.replicate (len*sz) .any) (parts.toList.map fun x=>(x.1,σ.ev x.2)) with
   |some z,some ds=>z.all (·.oneCell')=true∧len*sz≤16777216∧0<sz∧σ.free d=true∧d<1000∧ds.length=len*sz∧AV.refsL d ds=false∧K ((St.mk σ.T (hput σ.H d ds)).put (some d) (.row d e sz len))
   |_,_=>False
  |_,_=>False
 |.slice t x lo hi mx=>Q0j x=true∧lo.toList.all Q0j=true∧hi.toList.all Q0j=true∧mx.toList.all Q0j=true∧(!mx.isSome||hi.isSome)=true∧match σ.ev x with
  |.c (.sl _ sz n cs)=>match bnd σ.ev 0 lo,bnd σ.ev n hi,bnd σ.ev n mx with
   |some l,some h,some m=>(slcT P t).map (fun p=>p.2.1)=some sz∧0≤l∧l≤h∧h≤n∧(mx.isSome=true→h≤m∧m≤n) ∧
    K (σ.put o.dst (.c (.sl (Q9m mx m h) sz (h.toNat-l.toNat) ((cs.drop (l.toNat*sz)).take ((h.toNat-l.toNat)*sz)))))
   |_,_,_=>False
  |_=>OpA P o σ K
 |.call c=>match c.callee,c.args.toList,c.argTypes.toList with
  |.builtin .len,[x],[t]=>Q0j x=true∧(slcT P t).isSome=true∧match lenA (σ.ev x) with
   |some n=>K (σ.put o.dst (.c (.v (.int .i64 n))))
   |none=>False
  |.builtin .min,[x,y],_=>Q0j x=true∧Q0j y=true∧match σ.ev x,σ.ev y with
   |.c (.v (.int k m)),.c (.v (.int _ n))=>K (σ.put o.dst (.c (.v (.int k (if n<m then n else m)))))
   |_,_=>False
  |.builtin .append,[x,y],[t,t']=>match slcZ P t,σ.dst (σ.ev x),σ.src (σ.ev y),o.dst with
   |some (e,sz,by_),some (rr,n,cs),some (m,ds),some d=>t=t'∧Q0j x=true∧Q0j y=true∧0<sz∧0<by_∧X5u e sz (σ.ev x)=true∧cs.length=n*sz∧ds.length=m*sz∧(n+m)*by_≤140737488355328∧σ.free d=true∧d<1000∧AV.refsL d cs=false∧AV.refsL d ds=false ∧
    K ((St.mk σ.T (hput (Q9l σ.H rr) d (cs++ds))).put (some d) (.row d e sz (n+m)))
   |_,_,_,_=>OpA P o σ K
  |_,_,_=>OpA P o σ K
 |_=>OpA P o σ K
theorem X3i{P:Program}{t sz:Nat}(h:(slcT P t).map (fun p=>p.2.1)=some sz):∃e by_,slcT P t=some (e,sz,by_):=by
 cases hs:slcT P t with
 |none=>rw[hs] at h;cases h
 |some p=>obtain⟨e,s,b⟩:=p;rw[hs] at h;simp at h;subst h;exact⟨e,b,rfl⟩
theorem Q3z{P:Program}{o:Oper}{σ : St}{K:St→Prop}(h:evO P o σ K):OpA P o σ K:=by
 unfold evO at h
 split at h
 · rename_i x ho;exact X4s (.inl ho) h.1 h.2
 · rename_i x ho;exact X4s (.inr ho) h.1 h.2
 · rename_i c x y ho
   obtain⟨h1,h2,h3,h⟩:=h
   split at h
   · rename_i t ht;exact opA_pick ho h2 h3 h1 ht h
   · exact h.elim
 · rename_i op t x y t' ho
   obtain⟨h1,h2,h⟩:=h
   split at h
   · rename_i u v e1 e2;exact opA_eqb h.1 ho h.2.1 h1 h2 e1 e2 h.2.2
   · rename_i u v _ e1 e2
     split at h
     · rename_i r hr;exact opA_bin ho h1 h2 e1 e2 hr h
     · exact h
   · rename_i cs ds e1 e2
     split at h
     · rename_i r hr
       obtain⟨g1,g2,g3,g4,g5,g6,g7⟩:=h
       exact opA_eqs 6 g1 ho g2 g3 g4 g5 (by omega) g6 h1 h2 e1 e2 hr g7
     · exact h.elim
   · exact h
 · rename_i op t x ho
   obtain⟨h1,h⟩:=h
   split at h
   · rename_i b e;exact opA_not ho h1 e h
   · rename_i k n e;exact opA_neg ho h1 e h
   · rename_i k n e;exact opA_xor ho h1 e h
   · exact h.elim
 · rename_i s d x ho
   obtain⟨h1,h2,h⟩:=h
   split at h
   · rename_i k' k n e1 e2;exact opA_conv ho e1 h2 h1 e2 h
   · exact h.elim
 · rename_i x k ho
   obtain⟨h1,h⟩:=h
   split at h
   · rename_i xs e
     split at h
     · rename_i y hy;exact X3r ho h1 e hy h
     · exact h.elim
   · exact h.elim
 · rename_i x ho
   obtain⟨h1,h⟩:=h
   split at h
   · rename_i r off e;exact X1z ho h1 e h
   · rename_i f cs e;exact Q8m ho h1 e h
   · rename_i cs e;exact Q8n ho h1 e h
   · exact h.elim
 · rename_i f first caps ho
   obtain⟨rfl,h1,h⟩:=h
   exact X2a ho h1 h
 · rename_i t x ho
   obtain⟨h1,h⟩:=h
   split at h
   · rename_i r off s e1 e2 e3
     split at h
     · rename_i cs hr;exact Q5n ho h1 e1 hr e2 e3 (y:=.agg ((cs.drop off).take s)) (by rw[if_pos rfl];exact⟨h.1,h.2.1,rfl⟩) h.2.2
     · exact h.elim
   · rename_i r off s e1 e2 e3
     split at h
     · rename_i cs hr
       split at h
       · rename_i y hy;exact Q5n ho h1 e1 hr e2 e3 (y:=y) (by simpa using hy) h
       · exact h.elim
     · exact h.elim
   · rename_i cs s e1 e2 e3
     exact Q8o ho h1 e1 e2 e3 (y:=.agg ((cs.take s).map .c)) (by rw[if_pos rfl];exact⟨h.1,rfl⟩) h.2
   · rename_i cs s e1 e2 e3
     split at h
     · rename_i y hy;exact Q8o ho h1 e1 e2 e3 (y:=.c y) (by simp[hy]) h
     · exact h.elim
   · exact h.elim
 · rename_i t x k ho
   obtain⟨h1,h⟩:=h
   split at h
   · rename_i r off ofs s g e1 e2;exact X0n ho h1 e1 e2 h.1 h.2
   · rename_i cs ofs s g e1 e2;exact X2c ho h1 e1 e2 h.1 h.2.1 h.2.2
   · exact h.elim
 · rename_i t x k ho
   obtain⟨h1,h⟩:=h
   split at h
   · rename_i cs ofs s e1 e2;exact Q6s ho h1 e1 e2 (y:=.agg ((cs.drop ofs).take s)) (by simp) h
   · rename_i cs ofs s e1 e2
     split at h
     · rename_i y hy;exact Q6s ho h1 e1 e2 (y:=y) (by simpa using hy) h
     · exact h.elim
   · exact h.elim
 · rename_i t ho
   split at h
   · rename_i d z e1 e2;exact opA_alloc ho e1 h.1 h.2.1 e2 h.2.2.1 (by rw[e1];exact h.2.2.2)
   · exact h.elim
 · rename_i t x ho
   obtain⟨h1,h⟩:=h
   split at h
   · rename_i d ys e1 e2;exact opA_box ho h1 e1 h.1 h.2.1 e2 h.2.2.1 (by rw[e1];exact h.2.2.2)
   · exact h.elim
 · rename_i t p x ho
   obtain⟨h1,h2,h3,h⟩:=h
   split at h
   · rename_i r off ys e1 e2
     split at h
     · rename_i cs hr;exact opA_store ho h1 h2 e1 hr e2 h.1 h.2.1 h.2.2.1 h3 h.2.2.2
     · exact h.elim
   · exact h.elim
 · rename_i t x i ho
   obtain⟨h1,h2,h⟩:=h
   split at h
   · rename_i r e sz n k m e1 e2
     obtain⟨hs,g1,g2,g3⟩:=h
     obtain⟨_,_,hs⟩:=X3i hs
     exact X0l ho h1 h2 e1 e2 hs ⟨g1,g2⟩ g3
   · rename_i ex sz n cs k m e1 e2
     obtain⟨hs,g0,g1,g2,g3⟩:=h
     obtain⟨_,_,hs⟩:=X3i hs
     exact X2b ho h1 h2 e1 e2 hs g0 ⟨g1,g2⟩ g3
   · rename_i r off k m e1 e2
     split at h
     · rename_i n sz g hs;exact X0m ho h1 h2 e1 e2 hs ⟨h.1,h.2.1⟩ h.2.2
     · exact h.elim
   · exact h
 · rename_i t x i ho
   obtain⟨h1,h2,h⟩:=h
   split at h
   · rename_i cs k m n sz e1 e2 e3;exact Q6r ho h1 h2 e1 e2 e3 ⟨h.1,h.2.1⟩ (y:=.agg ((cs.drop (m.toNat*sz)).take sz)) (by simp) h.2.2
   · rename_i cs k m n sz e1 e2 e3
     obtain⟨g1,g2,h⟩:=h
     split at h
     · rename_i y hy;exact Q6r ho h1 h2 e1 e2 e3 ⟨g1,g2⟩ (y:=y) (by simpa using hy) h
     · exact h.elim
   · exact h.elim
 · rename_i t parts ho
   obtain⟨h0,h⟩:=h
   split at h
   · rename_i pl z e1 e2
     obtain⟨h1,h⟩:=h
     split at h
     · rename_i ds hf;exact opA_build ho h0 e1 e2 h1 hf h
     · exact h.elim
   · exact h.elim
 · rename_i t len parts ho
   obtain⟨h0,h⟩:=h
   split at h
   · rename_i d e sz by_ e1 e2
     split at h
     · rename_i z ds e3 e4
       obtain⟨g1,g2,g3,g4,g5,g6,g7,g8⟩:=h
       have hp:Q4k sz 0 len=(List.range len).map fun k=>(k*sz,sz):=by rw[Q7e];simp
       rw[hp] at e4
       exact Q9k ho h0 e2 e3 g1 g2 g3 e1 g4 g5 e4 g6 g7 (by rw[e1];exact g8)
     · exact h.elim
   · exact h.elim
 · rename_i t x lo hi mx ho
   obtain⟨h0,h1,h2,h3,h4,h⟩:=h
   split at h
   · rename_i ex sz n cs e1
     split at h
     · rename_i l hh m e2 e3 e4
       obtain⟨g0,g1,g2,g3,g4,g5⟩:=h
       obtain⟨_,_,hs⟩:=X3i g0
       exact opA_slice ho h0 h1 h2 h3 hs (AV.le_of e1) e2 e3 e4 (fun hm=>by rw[hm] at h4;simpa using h4) ⟨g1,g2,g3,g4⟩ g5
     · exact h.elim
   · exact h
 · rename_i c ho
   have one:∀{α : Type} {xs:Array α} {l:List α},xs.toList=l→xs=l.toArray:=fun h=>by rw[←h]
   split at h
   · rename_i x t e1 e2 e3
     obtain⟨h1,h2,h⟩:=h
     split at h
     · rename_i n e4
       exact opA_len (by rw[ho];obtain⟨ca,ar,at'⟩:=c;simp only at e1 e2 e3;rw[e1,one e2,one e3]) h1 h2 e4 h
     · exact h.elim
   · rename_i x y e1 e2
     obtain⟨h1,h2,h⟩:=h
     split at h
     · rename_i k m k' n e4 e5
       exact opA_min2 (ts:=c.argTypes) (by rw[ho];obtain⟨ca,ar,at'⟩:=c;simp only at e1 e2;rw[e1,one e2]) h1 h2 e4 e5 h
     · exact h.elim
   · rename_i x y t t' e1 e2 e3
     split at h
     · rename_i e sz by_ rr n cs m ds d e4 e5 e6 e7
       obtain⟨rfl,h1,h2,h⟩:=h
       obtain⟨g1,g2,g3,g4,g5,g6,g7,g8,g9,g10,g11⟩:=h
       refine X5y (by rw[ho];obtain⟨ca,ar,at'⟩:=c;simp only at e1 e2 e3;rw[e1,one e2,one e3]) h1 h2 e4 g1 g2 (fun r e' sz' n' hr=>?_) e5 e6 g4 g5 g6 e7 g7 g8 g9 g10 (by rw[e7];exact g11)
       rw[hr] at g3
       simp only[X5u,Bool.and_eq_true,beq_iff_eq] at g3
       exact⟨g3.1,g3.2⟩
     · exact h
   · exact h
 · exact h
def evL(P:Program)(ops:Array Oper):List Oper→St→(St→Prop)→Prop
 |[],σ,K=>K σ
 |o::rest,σ,K=>match o.guard with
  |none=>OpA P o σ fun σ'=>evL P ops rest σ' K
  |some (j,want)=>match (ops[j]?).bind (·.dst) with
   |some d=>match σ.T.getD d .any with
    |.c (.v (.bool b))=>(b=want→OpA P o (σ.put (some d) (.c (.v (.bool want)))) fun σ'=>evL P ops rest σ' K)∧(b = !want→evL P ops rest ((σ.put (some d) (.c (.v (.bool !want)))).put o.dst (.tup [])) K)
    |.tup []=>evL P ops rest (σ.put o.dst (.tup [])) K
    |_=>False
   |none=>False
def AW(P:Program)(c:Code)(σ : St)(Φ : Exit→St→Prop):Prop:=
 ∀(E:Env) (ι : Nat→Nat×Nat×Nat) (a:Act) (w:World),Conc E ι σ a w→c.wp P (fun ex a' w'=>∃ι' σ',Conc E ι' σ' a' w'∧Φ ex σ') a w
theorem Q6c{σ : St}{d:Nat}{x:AV}(h:σ.T.getD d .any=x)(hx:x≠.any):σ.put (some d) x = σ:=by
 show St.mk (σ.T.set d x) σ.H = σ
 have:σ.T.set d x = σ.T:=by
  apply List.ext_getElem?
  intro i
  rw[List.getElem?_set]
  split
  · rename_i e;subst e
    rw[List.getD_eq_getElem?_getD] at h
    split
    · rename_i hlt
      rw[List.getElem?_eq_getElem hlt] at h ⊢
      simp at h;rw[h]
    · rename_i hge
      rw[List.getElem?_eq_none (by omega)] at h
      exact absurd h.symm hx
  · rfl
 rw[this]
theorem RV.undef{S:Nat→Prop}{ι : Nat→Nat×Nat×Nat}{w:World}:RV S ι w undef (.tup []):=
 .tup [] [] rfl fun j u x hu=>by cases hu
theorem RV.undef_inv{S:Nat→Prop}{ι : Nat→Nat×Nat×Nat}{w:World}{v:Value}(h:RV S ι w v (.tup [])):v=Go.undef:=by
 cases h with
 |tup us cs hl h=>cases us<;>first|rfl|cases hl
theorem Q5t{P:Program}{ops:Array Oper}{Φ : Exit→St→Prop}:∀(l:List Oper) (σ : St),evL P ops l σ (Φ .normal)→∀(E:Env) (ι : Nat→Nat×Nat×Nat) (a:Act) (w:World),Conc E ι σ a w →
 wpList P ops (fun ex a' w'=>∃ι' σ',Conc E ι' σ' a' w'∧Φ ex σ') l a w
 |[],σ,h,E,ι,a,w,hc=>⟨ι,σ,hc,h⟩
 |o::rest,σ,h,E,ι,a,w,hc=>by
  unfold evL at h
  split at h
  · rename_i hg
    refine wpList_plain hg fun K hK=>?_
    exact h E ι a w hc K _ fun ι' σ' a' w' hk hc'=>hK _ _ (Q5t rest σ' hk E ι' a' w' hc')
  · rename_i j want hg
    split at h
    · rename_i d hd
      split at h
      · rename_i b hb
        have hv:=hc.tmp d
        rw[hb] at hv
        obtain⟨e,_⟩:=hv.v_inv
        have hlt:d<a.tmps.size:=by
         rw[hc.size]
         rcases Nat.lt_or_ge d σ.T.length with h|h
         · exact h
         · rw[List.getD_eq_getElem?_getD,List.getElem?_eq_none h] at hb;cases hb
        have hy:yielded ops a.tmps j=some b:=by
         unfold yielded
         rw[hd]
         simp only[Option.bind_some]
         have:a.tmps[d]? = some (.bool b):=by
          rw[Array.getElem?_eq_getElem hlt]
          simp only[Array.getD,hlt,dif_pos] at e
          simpa using e
         rw[this]
        refine wpList_step fun K hK=>?_
        have hw:Region.wanted o (yielded ops a.tmps)=(some b==some want):=by
         unfold Region.wanted
         rw[hg]
         simp only[hy]
        rw[hw]
        by_cases hbw:b=want
        · subst hbw
          simp only[beq_self_eq_true,if_true]
          have h1:=h.1 rfl
          rw[Q6c hb (by simp)] at h1
          exact h1 E ι a w hc K _ fun ι' σ' a' w' hk hc'=>hK _ _ (Q5t rest σ' hk E ι' a' w' hc')
        · have hbw':b = !want:=by cases b<;>cases want<;>simp_all
          have:(some b==some want)=false:=by simp[hbw]
          simp only[this,Bool.false_eq_true,if_false]
          have h2:=h.2 hbw'
          rw[Q6c (by rw[hb,hbw']) (by simp)] at h2
          exact hK _ _ (Q5t rest _ h2 E ι _ w (hc.put o.dst .undef))
      · rename_i hb
        have hv:=hc.tmp d
        rw[hb] at hv
        have e:=hv.undef_inv
        have hy:yielded ops a.tmps j=none:=by
         unfold yielded
         rw[hd]
         simp only[Option.bind_some]
         simp only[Array.getD_eq_getD_getElem?] at e
         cases hh:a.tmps[d]? with
         |none=>rfl
         |some u=>rw[hh] at e;simp only[Option.getD_some] at e;rw[e];rfl
        refine wpList_step fun K hK=>?_
        have hw:Region.wanted o (yielded ops a.tmps)=false:=by
         unfold Region.wanted
         rw[hg]
         simp only[hy]
         rfl
        rw[hw]
        simp only[Bool.false_eq_true,if_false]
        exact hK _ _ (Q5t rest _ h E ι _ w (hc.put o.dst .undef))
      · exact h.elim
    · exact h.elim
def evC(P:Program):Code→St→(Exit→St→Prop)→Prop
 |.skip,σ,Φ=>Φ .normal σ
 |.region _ ops false,σ,Φ=>evL P ops ops.toList σ (Φ .normal)
 |.seq a b,σ,Φ=>evC P a σ fun ex σ'=>match ex with
  |.normal=>evC P b σ' Φ
  |ex=>Φ ex σ'
 |.cond c x y,σ,Φ=>Q0j c=true∧match σ.ev c with
  |.c (.v (.bool t))=>(t=true→evC P x σ Φ)∧(t=false→evC P y σ Φ)
  |_=>False
 |.block id c,σ,Φ=>evC P c σ fun ex σ'=>match ex with
  |.exit j=>if j=id then Φ .normal σ' else Φ (.exit j) σ'
  |ex=>Φ ex σ'
 |.exit id,σ,Φ=>Φ (.exit id) σ
 |.ret,σ,Φ=>Φ .ret σ
 |c,σ,Φ=>AW P c σ Φ
theorem Q1x{P:Program}:∀(c:Code) (σ : St) (Φ : Exit→St→Prop),evC P c σ Φ→AW P c σ Φ
 |.skip,σ,Φ,h=>fun E ι a w hc=>wp_skip ⟨ι,σ,hc,h⟩
 |.region id ops false,σ,Φ,h=>fun E ι a w hc=>wp_region_list (Q5t _ σ h E ι a w hc)
 |.region id ops true,σ,Φ,h=>h
 |.seq x y,σ,Φ,h=>fun E ι a w hc=>by
  refine wp_seq (wp_mono (Q1x x σ _ h E ι a w hc) fun ex a' w'=>?_)
  rintro ⟨ι',σ',hc',hΦ⟩
  cases ex with
  |normal=>exact Q1x y σ' Φ hΦ E ι' a' w' hc'
  |_=>exact⟨ι',σ',hc',hΦ⟩
 |.cond c x y,σ,Φ,h=>fun E ι a w hc=>by
  unfold evC at h
  obtain⟨h0,h⟩:=h
  split at h
  · rename_i t ht
    have hv:=hc.ev c h0
    rw[ht] at hv
    obtain⟨e,_⟩:=hv.v_inv
    exact wp_cond_split e (fun h'=>Q1x x σ Φ (h.1 h') E ι a w hc) (fun h'=>Q1x y σ Φ (h.2 h') E ι a w hc)
  · exact h.elim
 |.block id c,σ,Φ,h=>fun E ι a w hc=>by
  refine wp_block (wp_mono (Q1x c σ _ h E ι a w hc) fun ex a' w'=>?_)
  rintro ⟨ι',σ',hc',hΦ⟩
  cases ex with
  |exit j=>
   unfold Exit.inBlock
   simp only at hΦ ⊢
   split at hΦ
   · rename_i e;rw[if_pos e];exact⟨ι',σ',hc',hΦ⟩
   · rename_i e;rw[if_neg e];exact⟨ι',σ',hc',hΦ⟩
  |_=>exact⟨ι',σ',hc',hΦ⟩
 |.exit id,σ,Φ,h=>fun E ι a w hc=>wp_exit ⟨ι,σ,hc,h⟩
 |.ret,σ,Φ,h=>fun E ι a w hc=>wp_ret ⟨ι,σ,hc,h⟩
 |.loop c,σ,Φ,h=>h
 |.rangeFunc _ _ _ _,σ,Φ,h=>h
 |.scope _,σ,Φ,h=>h
 |.label _,σ,Φ,h=>h
 |.goto _,σ,Φ,h=>h
 |.refuse _,σ,Φ,h=>h
theorem AW.mono{P:Program}{c:Code}{σ : St}{Φ Ψ : Exit→St→Prop}(h:AW P c σ Φ)(hΦ : ∀ex σ,Φ ex σ→Ψ ex σ):AW P c σ Ψ:=
 fun E ι a w hc=>wp_mono (h E ι a w hc) fun ex a' w' ⟨ι',σ',hc',hq⟩=>⟨ι',σ',hc',hΦ _ _ hq⟩
theorem AW.loop{P:Program}{c:Code}{σ : St}{Φ : Exit→St→Prop}{α : Type}(I:α→St)(μ : α→Nat)(x0:α)(h0:σ.le (I x0))
 (round:∀x,evC P c (I x) fun ex σ'=>match ex with | .normal=>∃y,μ y < μ x∧σ'.le (I y)|ex=>Φ ex σ'):AW P (.loop c) σ Φ:=by
 intro E ι a w hc b k cs
 have key:∀n x ι a w,μ x=n→Conc E ι (I x) a w→∃e a' w',(∃ι' σ',Conc E ι' σ' a' w'∧Φ e σ')∧Arrives P (lone (b.at a (.code c :: .inLoop c::k)) cs w) b k cs e a' w':=by
  intro n
  induction n using Nat.strongRecOn with
  |_ n ih=>
   intro x ι a w hn hI
   obtain⟨e,a₁,w₁,⟨ι₁,σ₁,hc₁,hq⟩,harr⟩:=Q1x c (I x) _ (round x) E ι a w hI b (.inLoop c::k) cs
   cases e with
   |normal=>
    obtain⟨y,hlt,hle⟩:=hq
    obtain⟨e₂,a₂,w₂,hq₂,harr₂⟩:=ih (μ y) (hn▸hlt) y ι₁ a₁ w₁ rfl (hc₁.le hle)
    exact⟨e₂,a₂,w₂,hq₂,.of_steps (Steps.trans harr (.one step_inLoop)) harr₂⟩
   |exit id=>exact⟨_,a₁,w₁,⟨ι₁,σ₁,hc₁,hq⟩,.pass (x:=.inLoop c) rfl (fun _ _=>.inl (by simp)) harr⟩
   |goto l=>exact⟨_,a₁,w₁,⟨ι₁,σ₁,hc₁,hq⟩,.pass (x:=.inLoop c) rfl (fun _ _=>.inl (by simp)) harr⟩
   |ret=>exact⟨_,a₁,w₁,⟨ι₁,σ₁,hc₁,hq⟩,.pass (x:=.inLoop c) rfl (fun _ _=>.inl (by simp)) harr⟩
   |panic ch=>exact⟨_,a₁,w₁,⟨ι₁,σ₁,hc₁,hq⟩,.pass (x:=.inLoop c) rfl (fun _ _=>.inl (by simp)) harr⟩
   |outgrown=>exact⟨_,a₁,w₁,⟨ι₁,σ₁,hc₁,hq⟩,.pass (x:=.inLoop c) rfl (fun _ _=>.inl (by simp)) harr⟩
 obtain⟨e,a',w',hq,harr⟩:=key _ x0 ι a w rfl (hc.le h0)
 exact⟨e,a',w',hq,.of_steps (.one step_loop) harr⟩
mutual
def AV.ren(ρ : Nat→Nat):AV→AV
 |.any=>.any
 |.c x=>.c x
 |.agg cs=>.agg (AV.renL ρ cs)
 |.tup cs=>.tup (AV.renL ρ cs)
 |.ptr r off=>.ptr (ρ r) off
 |.row r e sz n=>.row (ρ r) e sz n
 |.cut r e sz lo n m ex=>.cut (ρ r) e sz lo n m ex
 |.ep cs=>.ep cs
 |.fn f cs=>.fn f (AV.renL ρ cs)
 |.fnb f cs=>.fnb f (AV.renL ρ cs)
 |.amp b ks cs=>.amp b ks (AV.renL ρ cs)
def AV.renL(ρ : Nat→Nat):List AV→List AV
 |[]=>[]
 |x::l=>AV.ren ρ x::AV.renL ρ l
end
@[simp] theorem Q0q (ρ : Nat→Nat) (l:List PV):AV.renL ρ (l.map .c)=l.map .c:=by
  induction l with
  |nil=>rfl
  |cons x l ih=>simp[AV.renL,AV.ren,ih]
theorem Q2p(ρ : Nat→Nat):∀(l:List AV) (j:Nat),(AV.renL ρ l)[j]? = (l[j]?).map (AV.ren ρ)
 |[],j=>by simp[AV.renL]
 |x::l,0=>by simp[AV.renL]
 |x::l,j+1=>by simpa [AV.renL] using Q2p ρ l j
theorem Q1r(ρ : Nat→Nat)(l:List AV):(AV.renL ρ l).length=l.length:=by
 induction l with
 |nil=>rfl
 |cons x l ih=>simp[AV.renL,ih]
mutual
def AV.inN(N:List Nat):AV→Bool
 |.any=>true
 |.c _=>true
 |.agg cs=>AV.inNL N cs
 |.tup cs=>AV.inNL N cs
 |.ptr r _=>N.contains r
 |.row r _ _ _=>N.contains r
 |.cut r _ _ _ _ _ _=>N.contains r
 |.ep _=>true
 |.fn _ cs=>AV.inNL N cs
 |.fnb _ cs=>AV.inNL N cs
 |.amp _ _ cs=>AV.inNL N cs
def AV.inNL(N:List Nat):List AV→Bool
 |[]=>true
 |x::l=>AV.inN N x&&AV.inNL N l
end
@[simp] theorem Q1a (N:List Nat) (l:List PV):AV.inNL N (l.map .c)=true:=by
  induction l with
  |nil=>rfl
  |cons x l ih=>simp[AV.inNL,AV.inN,ih]
theorem Q4c{N:List Nat}:∀{l:List AV},AV.inNL N l=true→∀(j:Nat) (x:AV),l[j]? = some x→AV.inN N x=true
 |[],_,j,x,hx=>by simp at hx
 |y::l,h,j,x,hx=>by
  unfold AV.inNL at h
  rw[Bool.and_eq_true] at h
  cases j with
  |zero=>simp at hx;subst hx;exact h.1
  |succ j=>exact Q4c h.2 j x (by simpa using hx)
theorem RV.unren{S:Nat→Prop}{ι : Nat→Nat×Nat×Nat}{ρ : Nat→Nat}{w:World}{v:Value}{y:AV}(h:RV S ι w v y):∀x:AV,y=AV.ren ρ x→RV S (fun r=>ι (ρ r)) w v x:=by
 induction h with
 |any v=>intro x hx;cases x<;>simp only[AV.ren] at hx<;>first|exact .any _|cases hx
 |c v p hp=>intro x hx;cases x<;>simp only[AV.ren] at hx<;>first|(cases hx;exact .c _ _ hp)|cases hx
 |agg us cs hl h1 _ ih=>
  intro x hx
  cases x with
  |agg ds=>
   simp only[AV.ren,AV.agg.injEq] at hx
   subst hx
   rw[Q1r] at hl
   exact .agg us ds hl h1 fun j u x hu hx=>ih j u (AV.ren ρ x) hu (by rw[Q2p,hx];rfl) x rfl
  |_=>simp only[AV.ren] at hx;cases hx
 |tup us cs hl _ ih=>
  intro x hx
  cases x with
  |tup ds=>
   simp only[AV.ren,AV.tup.injEq] at hx
   subst hx
   rw[Q1r] at hl
   exact .tup us ds hl fun j u x hu hx=>ih j u (AV.ren ρ x) hu (by rw[Q2p,hx];rfl) x rfl
  |_=>simp only[AV.ren] at hx;cases hx
 |ptr r off=>
  intro x hx
  cases x with
  |ptr q off'=>simp only[AV.ren,AV.ptr.injEq] at hx;obtain⟨rfl,rfl⟩:=hx;exact .ptr (ι:=fun r=>ι (ρ r)) q off
  |_=>simp only[AV.ren] at hx;cases hx
 |row r e sz n c h1 h2 h3 h4 h0=>
  intro x hx
  cases x with
  |row q e' sz' n'=>simp only[AV.ren,AV.row.injEq] at hx;obtain⟨rfl,rfl,rfl,rfl⟩:=hx;exact .row (ι:=fun r=>ι (ρ r)) q e sz n c h1 h2 h3 h4 h0
  |_=>simp only[AV.ren] at hx;cases hx
 |rnil A r e sz h=>
  intro x hx
  cases x with
  |row q e' sz' n'=>simp only[AV.ren,AV.row.injEq] at hx;obtain⟨rfl,rfl,rfl,rfl⟩:=hx;exact .rnil (ι:=fun r=>ι (ρ r)) A q e sz h
  |_=>simp only[AV.ren] at hx;cases hx
 |cut r e sz lo n c ex h1 h2 h3 hx' h4 h0=>
  intro x hx
  cases x with
  |cut q e' sz' lo' n' c' ex'=>simp only[AV.ren,AV.cut.injEq] at hx;obtain⟨rfl,rfl,rfl,rfl,rfl,rfl,rfl⟩:=hx;exact .cut (ι:=fun r=>ι (ρ r)) q e sz lo n c ex h1 h2 h3 hx' h4 h0
  |_=>simp only[AV.ren] at hx;cases hx
 |cnil A r e sz lo ex h=>
  intro x hx
  cases x with
  |cut q e' sz' lo' n' c' ex'=>simp only[AV.ren,AV.cut.injEq] at hx;obtain⟨rfl,rfl,rfl,rfl,rfl,rfl,rfl⟩:=hx;exact .cnil (ι:=fun r=>ι (ρ r)) A q e sz lo ex h
  |_=>simp only[AV.ren] at hx;cases hx
 |ep b o us cs hl hne hS h4 h5=>intro x hx;cases x<;>simp only[AV.ren] at hx<;>first|(cases hx;exact .ep b o us _ hl hne hS h4 h5)|cases hx
 |fn f us cs hl _ ih=>
  intro x hx
  cases x with
  |fn f' ds=>
   simp only[AV.ren,AV.fn.injEq] at hx
   obtain⟨rfl,rfl⟩:=hx
   rw[Q1r] at hl
   exact .fn f us ds hl fun j u x hu hx=>ih j u (AV.ren ρ x) hu (by rw[Q2p,hx];rfl) x rfl
  |_=>simp only[AV.ren] at hx;cases hx
 |fnb f us cs hl _ ih=>
  intro x hx
  cases x with
  |fnb f' ds=>
   simp only[AV.ren,AV.fnb.injEq] at hx
   obtain⟨rfl,rfl⟩:=hx
   rw[Q1r] at hl
   exact .fnb f us ds hl fun j u x hu hx=>ih j u (AV.ren ρ x) hu (by rw[Q2p,hx];rfl) x rfl
  |_=>simp only[AV.ren] at hx;cases hx
 |amp b X clk ks us cs hb hh hk hu hl _ ih=>
  intro x hx
  cases x with
  |amp b' ks' ds=>
   simp only[AV.ren,AV.amp.injEq] at hx
   obtain⟨rfl,rfl,rfl⟩:=hx
   rw[Q1r] at hl
   exact .amp b X clk ks us ds hb hh hk hu hl fun j u x hu hx=>ih j u (AV.ren ρ x) hu (by rw[Q2p,hx];rfl) x rfl
  |_=>simp only[AV.ren] at hx;cases hx
theorem RV.reren{S:Nat→Prop}{κ ι : Nat→Nat×Nat×Nat}{ρ : Nat→Nat}{w:World}{N:List Nat}(hN:∀r∈N,ι (ρ r) = κ r){v:Value}{x:AV}(h:RV S κ w v x):AV.inN N x=true→RV S ι w v (AV.ren ρ x):=by
 induction h with
 |any v=>exact fun _=>.any _
 |c v p hp=>exact fun _=>.c _ _ hp
 |agg us cs hl h1 _ ih=>
  intro hx
  refine .agg us _ (by rw[Q1r];exact hl) h1 fun j u y hu hy=>?_
  rw[Q2p,Option.map_eq_some_iff] at hy
  obtain⟨x,hx',rfl⟩:=hy
  exact ih j u x hu hx' (Q4c hx j x hx')
 |tup us cs hl _ ih=>
  intro hx
  refine .tup us _ (by rw[Q1r];exact hl) fun j u y hu hy=>?_
  rw[Q2p,Option.map_eq_some_iff] at hy
  obtain⟨x,hx',rfl⟩:=hy
  exact ih j u x hu hx' (Q4c hx j x hx')
 |ptr r off=>intro hx;rw[←hN r (by simpa [AV.inN] using hx)];exact .ptr (ρ r) off
 |row r e sz n c h1 h2 h3 h4 h0=>intro hx;have e':=hN r (by simpa [AV.inN] using hx);rw[←e'] at h3 h4 h0 ⊢;exact .row (ρ r) e sz n c h1 h2 h3 h4 h0
 |rnil A r e sz h=>intro hx;have e':=hN r (by simpa [AV.inN] using hx);rw[←e'] at h;exact .rnil A (ρ r) e sz h
 |cut r e sz lo n c ex h1 h2 h3 hx' h4 h0=>intro hx;have e':=hN r (by simpa [AV.inN] using hx);rw[←e'] at h3 hx' h4 h0 ⊢;exact .cut (ρ r) e sz lo n c ex h1 h2 h3 hx' h4 h0
 |cnil A r e sz lo ex h=>intro hx;have e':=hN r (by simpa [AV.inN] using hx);rw[←e'] at h;exact .cnil A (ρ r) e sz lo ex h
 |ep b o us cs hl hne hS h4 h5=>exact fun _=>.ep b o us cs hl hne hS h4 h5
 |fn f us cs hl _ ih=>
  intro hx
  refine .fn f us _ (by rw[Q1r];exact hl) fun j u y hu hy=>?_
  rw[Q2p,Option.map_eq_some_iff] at hy
  obtain⟨x,hx',rfl⟩:=hy
  exact ih j u x hu hx' (Q4c hx j x hx')
 |fnb f us cs hl _ ih=>
  intro hx
  refine .fnb f us _ (by rw[Q1r];exact hl) fun j u y hu hy=>?_
  rw[Q2p,Option.map_eq_some_iff] at hy
  obtain⟨x,hx',rfl⟩:=hy
  exact ih j u x hu hx' (Q4c hx j x hx')
 |amp b X clk ks us cs hb hh hk hu hl _ ih=>
  intro hx
  refine .amp b X clk ks us _ hb hh hk hu (by rw[Q1r];exact hl) fun j u y hu hy=>?_
  rw[Q2p,Option.map_eq_some_iff] at hy
  obtain⟨x,hx',rfl⟩:=hy
  exact ih j u x hu hx' (Q4c hx j x hx')
def Fn(P:Program)(f:FuncId)(args:List AV)(H0:List (Nat×List AV))(res:AV)(H1:List (Nat×List AV)):Prop:=
 ∀(E:Env) (vs:List Value),E.D=H0.map (·.1)→(∀r cs b,hget H0 r=some cs→(E.ι r).2.1≠0→E.S b→(E.ι r).1≠b)→ConcH E.S E.ι H0 E.w→vs.length=args.length→(∀(j:Nat) (v:Value) (x:AV),vs[j]? = some v→args[j]? = some x→RV E.S E.ι E.w v x) →
  Calls P f vs.toArray E.w fun e w'=>∃v ι',e = .returned v∧RV (Sx E ι' H1) ι' w' v res∧ConcH (Sx E ι' H1) ι' H1 w'∧Keep E ι' H1 w'
def ldA(P:Program)(σ : St)(t:TypeId)(x:AV):Option AV:=
 match x,szT P t,aggT P t with
 |.ptr r off,some s,some true=>match hget σ.H r with
  |some cs=>if off+s≤cs.length∧0<s then some (.agg ((cs.drop off).take s)) else none
  |none=>none
 |.ptr r off,some s,some false=>match hget σ.H r with
  |some cs=>cs[off]?
  |none=>none
 |_,_,_=>none
theorem ldA_run{P:Program}{E:Env}{ι : Nat→Nat×Nat×Nat}{σ : St}{a:Act}{w:World}(h:Conc E ι σ a w){t:TypeId}{x y:AV}{v:Value}(hv:RV (Sx E ι σ.H) ι w v x)(hy:ldA P σ t x=some y) :
 ∃ad u,(asAddr v).run P w = .ok ad w∧(loadVar t ad).run P w = .ok u w∧RV (Sx E ι σ.H) ι w u y:=by
 unfold ldA at hy
 split at hy
 · rename_i r off s e1 e2
   split at hy
   · rename_i cs hr
     split at hy
     · rename_i hcond
       obtain⟨hle,h0⟩:=hcond
       cases hy
       cases hv with
       |ptr=>
        rcases h.heap.blk r cs hr with⟨_,rfl⟩|⟨cur,hh,hsz,hl,hc,hone1⟩
        · simp only[List.length_nil] at hle;omega
        · have hlen:((cur.toList.drop off).take s).length=s:=by simp;omega
          have hrun:=run_loadCells_list (P:=P) w ⟨(ι r).1,off,none⟩ ((cur.toList.drop off).take s) fun j v hv=>by
           rw[Q2j,World.cell?,hh]
           rw[List.getElem?_take] at hv
           split at hv
           · rw[List.getElem?_drop] at hv;simpa using hv
           · cases hv
          rw[hlen] at hrun
          refine⟨_,.agg ((cur.toList.drop off).take s).toArray,rfl,by simp[loadVar,Q3e e2,Q3r e1,hrun],RVs.agg ⟨by simp;omega,fun j u x hu hx=>?_⟩⟩
          rw[List.getElem?_take] at hu hx
          split at hu
          · rename_i hj
            rw[if_pos hj] at hx
            rw[List.getElem?_drop] at hu hx
            exact hc (off+j) u x (by simpa using hu) hx
          · cases hu
     · cases hy
   · cases hy
 · rename_i r off s e1 e2
   split at hy
   · rename_i cs hr
     cases hv with
     |ptr=>
      rcases h.heap.blk r cs hr with⟨_,rfl⟩|⟨cur,hh,hsz,hl,hc,hone1⟩
      · simp at hy
      · have hlt:off<cur.size:=by have:=(List.getElem?_eq_some_iff.1 hy).1;omega
        have hcell:w.cell? ⟨(ι r).1,off,none⟩=some cur[off]:=by simp[World.cell?,hh,hlt]
        exact⟨_,cur[off],rfl,by simp[loadVar,Q3e e2,hcell],(hc off _ _ (Array.getElem?_eq_getElem hlt) hy).1⟩
   · cases hy
 · cases hy
def resL(P:Program)(σ : St):List ResultVar→Option (List AV)
 |[]=>some []
 |.tmp t::l=>(resL P σ l).map (σ.T.getD t .any :: ·)
 |.cell p t::l=>match ldA P σ t (σ.T.getD p .any) with
  |some y=>(resL P σ l).map (y :: ·)
  |none=>none
def Q0z:List AV→AV
 |[y]=>y
 |ys=>.tup ys
def X1s(a:Act):ResultVar→Sem Value
 |.tmp t=>pure (a.tmps.getD t undef)
 |.cell p t=>do loadVar t (←asAddr (a.tmps.getD p undef))
theorem Q7x{P:Program}{E:Env}{ι : Nat→Nat×Nat×Nat}{σ : St}{a:Act}{w:World}(h:Conc E ι σ a w):∀(rs:List ResultVar) (ys:List AV),resL P σ rs=some ys →
 ∃us:List Value,(rs.mapM (X1s a)).run P w = .ok us w∧us.length=ys.length∧∀(j:Nat) (u:Value) (x:AV),us[j]? = some u→ys[j]? = some x→RV (Sx E ι σ.H) ι w u x
 |[],ys,hy=>by cases hy;exact⟨[],by simp,rfl,fun j u x hu=>by cases hu⟩
 |.tmp t::rs,ys,hy=>by
  simp only[resL,Option.map_eq_some_iff] at hy
  obtain⟨ys',h1,rfl⟩:=hy
  obtain⟨us,h2,h3,h4⟩:=Q7x h rs ys' h1
  refine⟨a.tmps.getD t undef::us,by simp only[List.mapM_cons,X1s,Sem.run_bind,Sem.run_pure,Result.andThen_ok,h2],by simp[h3],fun j u x hu hx=>?_⟩
  cases j with
  |zero=>simp only[List.getElem?_cons_zero,Option.some.injEq] at hu hx;subst hu hx;exact h.tmp t
  |succ j=>simp only[List.getElem?_cons_succ] at hu hx;exact h4 j u x hu hx
 |.cell p t::rs,ys,hy=>by
  unfold resL at hy
  split at hy
  · rename_i y hld
    simp only[Option.map_eq_some_iff] at hy
    obtain⟨ys',h1,rfl⟩:=hy
    obtain⟨us,h2,h3,h4⟩:=Q7x h rs ys' h1
    obtain⟨ad,u0,g1,g2,g3⟩:=ldA_run h (h.tmp p) hld
    refine⟨u0::us,by simp only[List.mapM_cons,X1s,Sem.run_bind,Sem.run_pure,Result.andThen_ok,g1,g2,h2],by simp[h3],fun j u x hu hx=>?_⟩
    cases j with
    |zero=>simp only[List.getElem?_cons_zero,Option.some.injEq] at hu hx;subst hu hx;exact g3
    |succ j=>simp only[List.getElem?_cons_succ] at hu hx;exact h4 j u x hu hx
  · cases hy
def FnEnd(P:Program)(rs:List ResultVar)(res:AV)(H1:List (Nat×List AV))(ex:Exit)(σ : St):Prop:=
 (ex = .normal∨ex = .ret)∧(∃r:AV,(resL P σ rs).map Q0z=some r∧r.le res)∧∀r cs,hget H1 r=some cs→hget σ.H r=some cs
theorem Conc.leH{E:Env}{ι : Nat→Nat×Nat×Nat}{σ : St}{a:Act}{w:World}{H1:List (Nat×List AV)}(h:Conc E ι σ a w)(hH:∀r cs,hget H1 r=some cs→hget σ.H r=some cs):Conc E ι ⟨σ.T,H1⟩ a w:=
 h.le ⟨rfl,fun i=>AV.le_refl _,hH⟩
theorem Q4e{w:World}{b o:Nat}{u:Value}(h:w.cell? ⟨b,o,none⟩=some u):∃cur e z,w.heap[b]? = some (Obj.cells cur e z):=by
 unfold World.cell? at h
 split at h
 · rename_i c e z hh;exact⟨c,e,z,hh⟩
 · cases h
def Q8q:Obj→Bool
 |.cells .. =>true
 |.map .. =>true
 |_=>false
theorem RVp.cmono{S S':Nat→Prop}{w w':World}(hS:∀b o,S b→w.heap[b]? = some o→Q8q o=true→S' b∧w'.heap[b]? = w.heap[b]?){v:Value}{p:PV}(h:RVp S w v p):RVp S' w' v p:=by
 induction h with
 |v x h=>exact .v x h
 |sl ex sz A n c us cs h1 h2 h3 hx hl hn h4 _ ih=>
  refine .sl ex sz A n c us cs h1 h2 h3 hx hl hn (fun hne=>?_) ih
  obtain⟨b,o,hA,hb,hc⟩:=h4 hne
  obtain⟨u,rest,hu⟩:=List.exists_cons_of_ne_nil hne
  obtain⟨cur,e,z,hh0⟩:=Q4e (hc 0 u (by rw[hu];rfl))
  obtain⟨hS',hh⟩:=hS b _ hb hh0 rfl
  exact⟨b,o,hA,hS',fun j u hu=>(World.cell?_of_block (w:=w) (a:=⟨b,o+j,none⟩) hh).trans (hc j u hu)⟩
 |mp b es X clk hb hh he hw=>
  obtain⟨h1,h2⟩:=hS b _ hb hh rfl
  exact .mp b es X clk h1 (h2.trans hh) he hw
theorem RV.cmono{S S':Nat→Prop}{ι : Nat→Nat×Nat×Nat}{w w':World}(hS:∀b o,S b→w.heap[b]? = some o→Q8q o=true→S' b∧w'.heap[b]? = w.heap[b]?){v:Value}{x:AV}(h:RV S ι w v x):RV S' ι w' v x:=by
 induction h with
 |any x=>exact .any x
 |c x p h=>exact .c x p (h.cmono hS)
 |agg us cs hl h1 _ ih=>exact .agg us cs hl h1 ih
 |tup us cs hl _ ih=>exact .tup us cs hl ih
 |ptr r off=>exact .ptr r off
 |row r e sz n c h1 h2 h3 h4 h0=>exact .row r e sz n c h1 h2 h3 h4 h0
 |rnil A r e sz h=>exact .rnil A r e sz h
 |cut r e sz lo n c ex h1 h2 h3 hx h4 h0=>exact .cut r e sz lo n c ex h1 h2 h3 hx h4 h0
 |cnil A r e sz lo ex h=>exact .cnil A r e sz lo ex h
 |ep b o us cs hl hne hb h4 h5=>
  obtain⟨u0,rest,hu0⟩:=List.exists_cons_of_ne_nil hne
  obtain⟨cur,e,z,hh0⟩:=Q4e (h4 0 u0 (by rw[hu0];rfl))
  obtain⟨hS',hh⟩:=hS b _ hb hh0 rfl
  exact .ep b o _ cs hl hne hS' (fun j u hu=>(World.cell?_of_block (w:=w) (a:=⟨b,o+j,none⟩) hh).trans (h4 j u hu)) (fun j u x hu hx=>(h5 j u x hu hx).cmono hS)
 |fn f us cs hl _ ih=>exact .fn f us cs hl ih
 |fnb f us cs hl _ ih=>exact .fnb f us cs hl ih
 |amp b X clk ks us cs hb hh hk hu hl _ ih=>
  obtain⟨h1,h2⟩:=hS b _ hb hh rfl
  exact .amp b X clk ks us cs h1 (h2.trans hh) hk hu hl ih
theorem Conc.turn{E:Env}{ι : Nat→Nat×Nat×Nat}{σ : St}{a:Act}{w:World}(h:Conc E ι σ a w){l:Nat}{o:Obj}(o':Obj)(hl:w.heap[l]? = some o)(hn:Q8q o=false)(hE:E.w.heap.size≤l){ds:List Deferred}(hd:Marks E (Sx E ι σ.H) (w.putObj l o') ds):Conc E ι σ {a with defers:=ds} (w.putObj l o'):=by
 have hne:∀b o1,w.heap[b]? = some o1→Q8q o1=true→(w.putObj l o').heap[b]? = w.heap[b]?:=fun b o1 hb h1=>World.putObj_heap_other fun e=>by
  subst e;rw[hb] at hl;cases hl;rw[hn] at h1;cases h1
 have hR:∀{v:Value} {x:AV},RV (Sx E ι σ.H) ι w v x→RV (Sx E ι σ.H) ι (w.putObj l o') v x:=fun hv=>hv.cmono fun b o1 hS hb h1=>⟨hS,hne b o1 hb h1⟩
 refine⟨hd,h.size,fun i=>hR (h.tmp i),⟨fun r cs hr=>?_,h.heap.inj⟩,⟨h.keep.os,h.keep.tape,h.keep.output,by simpa using h.keep.size,fun b hb hbD=>?_,h.keep.mine⟩⟩
 · rcases h.heap.blk r cs hr with h0|⟨cur,hh,hs,hlen,hc,hone1⟩
   · exact .inl h0
   · exact .inr ⟨cur,(hne _ _ hh rfl).trans hh,hs,hlen,fun j u x hu hx=>⟨hR (hc j u x hu hx).1,(hc j u x hu hx).2⟩,hone1⟩
 · rw[World.putObj_heap_other (by omega)];exact h.keep.block b hb hbD
theorem Conc.bare{E:Env}{ι : Nat→Nat×Nat×Nat}{σ : St}{a:Act}{w:World}(h:Conc E ι σ a w):Conc E ι σ {a with defers:=[]} w:=
 ⟨.nil,h.size,h.tmp,h.heap,h.keep⟩
theorem Q5r{P:Program}{fn:Func}{R:Ending→World→Prop}{E:Env}{ι : Nat→Nat×Nat×Nat}{σ : St}{t:Array Value}(hend:∀w',Conc E ι σ {tmps:=t,defers:=[]} w'→∃v,(results fn t).run P w' = .ok v w'∧R (.returned v) w') :
 ∀(Ds:List Nat) (w:World),Ds.Nodup→(∀D∈Ds,E.w.heap.size≤D∧w.heap[D]? = some (.deferred (some [])))→Conc E ι σ {tmps:=t,defers:=[]} w→LeavesInM Fence.wide 0 P fn t R (Ds.map fun D=>({target:=.collected D,args:=#[]}:Deferred)) .returning w
 |[],w,_,_,hc=>hend w hc
 |D::Ds,w,hnd,hD,hc=>by
  obtain⟨h1,h2⟩:=hD D (by simp)
  rw[List.nodup_cons] at hnd
  refine⟨by simp,.inl ⟨D,_,rfl,run_takeDeferred h2,Q5r hend Ds _ hnd.2 (fun D' hD'=>?_) (hc.turn _ h2 rfl h1 .nil)⟩⟩
  obtain⟨g1,g2⟩:=hD D' (by simp[hD'])
  exact⟨g1,(World.putObj_heap_other fun (e:D'=D)=>hnd.1 (by rw[←e];exact hD')).trans g2⟩
def AWE(p:Env→Prop)(P:Program)(c:Code)(σ : St)(Φ : Exit→St→Prop):Prop:=
 ∀(E:Env) (ι : Nat→Nat×Nat×Nat) (a:Act) (w:World),p E→Conc E ι σ a w→c.wp P (fun ex a' w'=>∃ι' σ',Conc E ι' σ' a' w'∧Φ ex σ') a w
def FnW(p:Env→Prop)(P:Program)(f:FuncId)(args:List AV)(H0:List (Nat×List AV))(res:AV)(H1:List (Nat×List AV)):Prop:=
 ∀(E:Env) (vs:List Value),p E→E.D=H0.map (·.1)→(∀r cs b,hget H0 r=some cs→(E.ι r).2.1≠0→E.S b→(E.ι r).1≠b)→ConcH E.S E.ι H0 E.w→vs.length=args.length→(∀(j:Nat) (v:Value) (x:AV),vs[j]? = some v→args[j]? = some x→RV E.S E.ι E.w v x) →
  Calls P f vs.toArray E.w fun e w'=>∃v ι',e = .returned v∧RV (Sx E ι' H1) ι' w' v res∧ConcH (Sx E ι' H1) ι' H1 w'∧Keep E ι' H1 w'
theorem X5e{p:Env→Prop}{P:Program}{f:FuncId}{fn:Func}{c:Code}{args:List AV}{H0 H1:List (Nat×List AV)}{res:AV}(hf:P.funcs[f]? = some fn)(hb:fn.body=some c)(hD:H0.all (fun x=>decide (1000≤x.1))=true)
 (h:AWE p P c ⟨args++List.replicate (fn.ntmps-args.length) AV.any,H0⟩ (FnEnd P fn.results.toList res H1)):FnW p P f args H0 res H1:=by
 intro E vs hpE hED hS hH hlen hargs
 refine(callsIn_wide (n:=0)).1 (callsIn_of_wp_marks hf hb trivial (wpIn_wide.2 ?_))
 have hc0:Conc E E.ι ⟨args++List.replicate (fn.ntmps-args.length) AV.any,H0⟩ {tmps:=vs.toArray++Array.replicate (fn.ntmps-vs.toArray.size) undef,defers:=[]} E.w:=by
  have hSx:∀b,E.S b→b<E.w.heap.size→Sx E E.ι H0 b∧E.w.heap[b]? = E.w.heap[b]?:=fun b hb _=>⟨⟨.inl hb,fun r cs hr hz=>hS r cs b hr hz hb⟩,rfl⟩
  have hR:∀{v:Value} {x:AV},RV E.S E.ι E.w v x→RV (Sx E E.ι H0) E.ι E.w v x:=fun hv=>hv.mono hSx fun _ _=>rfl
  refine⟨.nil,by simp[hlen],fun i=>?_,⟨fun r cs hr=>?_,hH.inj⟩,⟨rfl,rfl,rfl,Nat.le_refl _,fun _ _ _=>rfl,fun r cs hr=>⟨fun _=>rfl,fun hn=>?_⟩⟩⟩
  · show RV (Sx E E.ι H0) E.ι E.w ((vs.toArray++Array.replicate (fn.ntmps-vs.toArray.size) undef).getD i undef) ((args++List.replicate (fn.ntmps-args.length) AV.any).getD i .any)
    by_cases hi:i<args.length
    · have e1:(vs.toArray++Array.replicate (fn.ntmps-vs.toArray.size) undef).getD i undef=vs[i]'(by omega):=by
       rw[Array.getD_eq_getD_getElem?,Array.getElem?_append_left (by simp;omega)]
       simp[show i<vs.length by omega]
      have e2:(args++List.replicate (fn.ntmps-args.length) AV.any).getD i .any=args[i]:=by
       rw[List.getD_eq_getElem?_getD,List.getElem?_append_left hi];simp[hi]
      rw[e1,e2]
      exact hR (hargs i _ _ (List.getElem?_eq_getElem (by omega)) (List.getElem?_eq_getElem hi))
    · have e2:(args++List.replicate (fn.ntmps-args.length) AV.any).getD i .any = .any:=by
       rw[List.getD_eq_getElem?_getD,List.getElem?_append_right (by omega),List.getElem?_replicate]
       split<;>rfl
      rw[e2];exact .any _
  · rcases hH.blk r cs hr with h0|⟨cur,hh,hs,hl,hc,hone1⟩
    · exact .inl h0
    · exact .inr ⟨cur,hh,hs,hl,fun j u x hu hx=>⟨hR (hc j u x hu hx).1,(hc j u x hu hx).2⟩,hone1⟩
  · exfalso
    apply hn
    rw[hED]
    have:∀(H:List (Nat×List AV)) (r:Nat) (cs:List AV),hget H r=some cs→r∈H.map (·.1):=by
     intro H
     induction H with
     |nil=>intro r cs h;cases h
     |cons x H ih=>
      obtain⟨k,ds⟩:=x
      intro r cs h
      unfold hget at h
      split at h
      · rename_i e;simp[e]
      · simp[ih r cs h]
    exact this H0 r cs hr
 refine wp_mono (h E E.ι _ E.w hpE hc0) fun ex a' w'=>?_
 rintro ⟨ι',σ',hc',hex,⟨r,hres,hler⟩,hH1⟩
 have key:LeavesInM Fence.wide 0 P fn a'.tmps (fun e w'=>∃v ι',e=Ending.returned v∧RV (Sx E ι' H1) ι' w' v res∧ConcH (Sx E ι' H1) ι' H1 w'∧Keep E ι' H1 w') a'.defers .returning w':=by
  obtain⟨Ds,hnd,hds,hDs⟩:=hc'.defers
  rw[hds]
  refine Q5r (E:=E) (ι:=ι') (σ:=σ') (fun w' hc'=>?_) Ds w' hnd (fun D hD=>⟨(hDs D hD).1,(hDs D hD).2.2⟩) hc'.bare
  rw[Option.map_eq_some_iff] at hres
  obtain⟨ys,hys,rfl⟩:=hres
  obtain⟨us,hrun,hul,hrv⟩:=Q7x hc' fn.results.toList ys hys
  have hle:=hc'.leH hH1
  have hSx:∀b,Sx E ι' σ'.H b→b<w'.heap.size→Sx E ι' H1 b∧w'.heap[b]? = w'.heap[b]?:=fun b ⟨h1,h2⟩ _=>⟨⟨h1,fun r cs hr=>h2 r cs (hH1 r cs hr)⟩,rfl⟩
  have hR:∀{v:Value} {x:AV},RV (Sx E ι' σ'.H) ι' w' v x→RV (Sx E ι' H1) ι' w' v x:=fun hv=>hv.mono hSx fun _ _=>rfl
  have hres':(results fn a'.tmps).run P w' = .ok (if h:us.toArray.size=1 then us.toArray[0] else .tuple us.toArray) w':=by
   have e0:results fn a'.tmps=(fn.results.mapM (X1s {tmps:=a'.tmps,defers:=[]}) >>= fun vs=>pure (if h:vs.size=1 then vs[0] else .tuple vs)):=by
    unfold results
    congr 2
   have e:fn.results=fn.results.toList.toArray:=by simp
   rw[e0,Sem.run_bind,e,List.mapM_toArray,Sem.run_map,hrun]
   simp only[Result.andThen_ok,Sem.run_pure]
  refine⟨_,hres',_,ι',rfl,hler _ _ _ _ ?_,hle.heap,hle.keep⟩
  rcases ys with _|⟨y1,_|⟨y2,ys⟩⟩
  · obtain rfl:=List.eq_nil_of_length_eq_zero hul
    exact .tup [] [] rfl fun j u x hu=>by cases hu
  · rcases us with _|⟨u1,_|⟨u2,us⟩⟩
    · simp at hul
    · simpa [Q0z] using hR (hrv 0 u1 y1 rfl rfl)
    · simp at hul
  · rcases us with _|⟨u1,_|⟨u2,us⟩⟩
    · simp at hul
    · simp at hul
    · have:¬(u1::u2::us).toArray.size=1:=by simp
      rw[dif_neg this]
      exact .tup _ _ hul fun j u x hu hx=>hR (hrv j u x hu hx)
 rcases hex with rfl|rfl
 · exact key
 · exact key
theorem Q1c{P:Program}{f:FuncId}{fn:Func}{c:Code}{args:List AV}{H0 H1:List (Nat×List AV)}{res:AV}(hf:P.funcs[f]? = some fn)(hb:fn.body=some c)(hD:H0.all (fun x=>decide (1000≤x.1))=true)
 (h:evC P c ⟨args++List.replicate (fn.ntmps-args.length) AV.any,H0⟩ (FnEnd P fn.results.toList res H1)):Fn P f args H0 res H1:=
 fun E vs=>X5e (p:=fun _=>True) hf hb hD (fun E ι a w _ hc=>Q1x c _ _ h E ι a w hc) E vs trivial
end
end Go.Proofs.YtbmcdemnnbndeaaGreat
