-- WRITTEN by wip/tools/hprint.py: the kit's print.py run over this translation, with functions proved by hand laid in. Lean checks it.
import Derived.Test.YtjpnebhhpogebaaPG26x0
namespace Go.Proofs.Ytjpnebhhpogebaa.PG26
open Go.RowKit Go.Proofs.YtjpnebhhpogebaaW.PrintWords Go.Proofs.YtjpnebhhpogebaaW.PrintLast Go.Proofs.YtjpnebhhpogebaaW.PrintMore Go.Proofs.YtjpnebhhpogebaaHW
attribute [local go_sem] max2_int min2_int max_two min_two max_three min_three max_four min_four   -- for this text's walks alone
set_option linter.unusedVariables false
set_option linter.unusedSimpArgs false

-- NOT PRINTED: function 6 (pool_New)

-- NOT PRINTED: function 24 (pool_Pool_each)

-- NOT PRINTED: function 25 (pool_Pool_Least_1)

-- NOT PRINTED: function 8 (pool_Pool_Least)

-- NOT PRINTED: function 9 (pool_Pool_Free)

-- NOT PRINTED: function 15 (pool_Pool_Has)

-- NOT PRINTED: function 10 (pool_Pool_Claim)

-- NOT PRINTED: function 12 (pool_Pool_Give)

-- NOT PRINTED: function 7 (halyardlaw26_alive)

-- NOT PRINTED: function 26 (pool_Pool_List_1)

-- NOT PRINTED: function 11 (pool_Pool_List)

-- NOT PRINTED: function 3 (halyardlaw26_PoolAll)

end Go.Proofs.Ytjpnebhhpogebaa.PG26
